import Derived.Test.YtcngjjlhdlbogaaDoorGp3B
import Derived.Test.YtcngjjlhdlbogaaDoorGp3LModelPlaysP0
namespace Go.Proofs.YtcngjjlhdlbogaaDoor
open Go
set_option linter.unusedVariables false
set_option linter.unusedSimpArgs false
set_option maxHeartbeats 80000000
set_option maxRecDepth 100000
def Z8 (k:Nat) (a0:QJ) (a1:Str) (a2:QS):Option (Qc×QJ) :=
 (Option.bind (α:=Bool) (if ((!(((mget a0.rows a1).getD cz18).intent.Writer==a2.Writer))&&(!(((mget a0.rows a1).getD cz18).intent.Writer==(0:Int))))=true then some (true) else (if 0≤(IntKind.i64.wrap (a2.Writer - (1:Int)))∧(IntKind.i64.wrap (a2.Writer - (1:Int))) < (a0.txs.length:Int) then (Option.bind (XR k (((mget a0.rows a1).getD cz18).l) ((rd a0.txs (IntKind.i64.wrap (a2.Writer - (1:Int)))).snapshot)) (fun t60=>some (t60))) else none)) (fun x53=>(if x53=true then some (cz6,a0) else (Option.bind (Zx k a0 a2.Writer ((mget a0.rows a1).getD cz18)) (fun t67=>(if (a2.Tomb&&(!t67.2))=true then some (cz8,a0) else (if ((((mget a0.rows a1).getD cz18).intent.Writer==(0:Int))&&(((((((mget a0.rows a1).getD cz18).l).length:Int)==(0:Int))&&(decide ((a0.rows.length:Int)≥a0.c.Keys)))||(decide (((((mget a0.rows a1).getD cz18).l).length:Int)≥a0.c.Depth))))=true then some (cz5,a0) else (Option.bind (α:=List (Str×Ql)) (some (mput a0.rows a1 (⟨((mget a0.rows a1).getD cz18).l,⟨a2.Writer,a2.TS,a2.Tomb,a2.Value⟩⟩:Ql))) (fun x101=>some ((⟨(0:Int),(a2.Tomb),([]:Str),([]:List Qf)⟩:Qc),(⟨⟨a0.c.Tasks,a0.c.Active,a0.c.Keys,a0.c.Depth,a0.c.TS,a0.c.KeyLen,a0.c.ValLen,a0.c.Fan⟩,a0.names,a0.many,a0.txs,x101,a0.clock,a0.floor⟩:QJ)))))))))))
theorem Z8.mono {k:Nat} {a0:QJ} {a1:Str} {a2:QS}:OLe (Z8 k a0 a1 a2) (Z8 (k+1) a0 a1 a2):=by
 unfold Z8
 have m1:=@XR.mono
 have m2:=@Zx.mono
 exact mo
theorem Z8.con (k:Nat) (M:Hp) (A0_8:Option Addr) (c0_8:Nat) (A0_9:Option Addr) (c0_9:Nat) (A0_10:Option Addr) (c0_10:Nat) (A0_11:Option Addr) (c0_11:Nat) (vs0_11:List (Str×Value)) (a0:QJ) (a1:Str) (a2:QS) (bo0:Nat) (r:Qc×QJ) (hm0_11:YV Qk M a0.rows vs0_11) (h:Z8 k a0 a1 a2=some r):Con Tryd.prog 134 #[pt bo0 0,vS a1,.agg #[vI a2.Writer,vI a2.TS,.bool a2.Tomb,vS a2.Value]] M [B94 bo0 a0 A0_8 A0_9 A0_10 c0_10 A0_11,QT QF (Value.int .i64) A0_8 a0.names,QT (Value.int .i64) (Value.int .i64) A0_9 a0.many,Row QL 99 (.slice A0_10 a0.txs.length c0_10) a0.txs,QT encS (fun v:Value=>v) A0_11 vs0_11] (fun v M' Γ'=>∃ (Aq1:Option Addr) (cq2:Nat) (Aq4:Option Addr) (cq5:Nat) (Aq7:Option Addr) (cq8:Nat) (Aq10:Option Addr) (cq11:Nat) (Aq13:Option Addr) (cq14:Nat) (vsq16:List (Str×Value)),v=.agg #[vI r.1.Err,.bool r.1.Found,vS r.1.Value,.slice Aq1 r.1.Pairs.length cq2]∧YV Qk M' r.2.rows vsq16∧Γ'=[Row Qm 87 (.slice Aq1 r.1.Pairs.length cq2) r.1.Pairs,B94 bo0 r.2 Aq4 Aq7 Aq10 cq11 Aq13,QT QF (Value.int .i64) Aq4 r.2.names,QT (Value.int .i64) (Value.int .i64) Aq7 r.2.many,Row QL 99 (.slice Aq10 r.2.txs.length cq11) r.2.txs,QT encS (fun v:Value=>v) Aq13 vsq16]):=by
 refine Qt Tryd.func134 rfl Tryd.ntmps134 Tryd.results134 rfl ?_
 intro w F rn S hrn
 have E:=Ext.refl w
 have HM:=Hp.le_refl M
 have H:=h
 unfold Z8 at H
 refine QE (QA ?_)
 refine Y8 S #[vI a2.Writer,vI a2.TS,.bool a2.Tomb,vS a2.Value] rfl rfl rfl ?_
 intro b1 w2 E' S
 replace E:=E.trans E'
 refine Zo S cz14 ty43 rfl rfl ?_
 intro b4 w5 E' S
 replace E:=E.trans E'
 refine QB (tn (QE (QA (W_v (pt bo0 0) (QD rfl) rfl (W_v (pt bo0 0) (Qo rfl) rfl (W_v (pt bo0 11) (QC (o:=0) (off:=11) Tryd.underlying94 rfl ty91 rfl rfl) rfl (W_v (.map (mb A0_11)) (QO (S.blk 2 rfl) ty91 rfl rfl) rfl (W_v (vS a1) (QD rfl) rfl ?_))))))))
 obtain ⟨cs7,hR8,he9⟩:=hm0_11.get a1 (z:=cz18) (zc:=[.slice none 0 0,vI 0,vI 0,.bool false,vS ([]:Str)]) ⟨_,SlW.nil _ _,rfl⟩
 obtain ⟨v13,hs12,rfl⟩:=hR8
 obtain ⟨A10,c11,rfl,_⟩:=hs12.form
 refine W_v (.agg #[.slice A10 (((mget a0.rows a1).getD cz18).l).length c11,vI (((mget a0.rows a1).getD cz18).intent.Writer),vI (((mget a0.rows a1).getD cz18).intent.TS),.bool (((mget a0.rows a1).getD cz18).intent.Tomb),vS (((mget a0.rows a1).getD cz18).intent.Value)]) ((Eq.trans (Xj S 6 rfl Tryd.underlying91 key9 (Value.agg cz9) (fun _=>ty101.zero) a1 rfl rfl) (by rw [show (mget vs0_11 a1).getD (Value.agg cz9)=_ from he9]))) rfl ?_
 refine Zo S cz9 ty101 rfl rfl ?_
 intro b14 w15 E' S
 replace E:=E.trans E'
 refine Qx S 0 rfl ty101 rfl rfl [.slice A10 (((mget a0.rows a1).getD cz18).l).length c11,vI (((mget a0.rows a1).getD cz18).intent.Writer),vI (((mget a0.rows a1).getD cz18).intent.TS),.bool (((mget a0.rows a1).getD cz18).intent.Tomb),vS (((mget a0.rows a1).getD cz18).intent.Value)] rfl rfl rfl #[.slice A10 (((mget a0.rows a1).getD cz18).l).length c11,vI (((mget a0.rows a1).getD cz18).intent.Writer),vI (((mget a0.rows a1).getD cz18).intent.TS),.bool (((mget a0.rows a1).getD cz18).intent.Tomb),vS (((mget a0.rows a1).getD cz18).intent.Value)] rfl rfl ?_
 intro w17 E' S
 replace E:=E.trans E'
 refine QB (tn (QE ?_))
 refine Q0 (S:=fun w'=>∃ Mx,M.le Mx∧St w' Mx F [B101 b14 ((mget a0.rows a1).getD cz18) A10 c11,Blk b4 (.cells cz14 43 (0,0)),B61 b1 a2,B94 bo0 a0 A0_8 A0_9 A0_10 c0_10 A0_11,QT QF (Value.int .i64) A0_8 a0.names,QT (Value.int .i64) (Value.int .i64) A0_9 a0.many,Row QL 99 (.slice A0_10 a0.txs.length c0_10) a0.txs,QT encS (fun v:Value=>v) A0_11 vs0_11]) (L:=12) mixed ?_
 intro w18 hw19 E'
 replace S:=S.heap hw19
 replace E:=E.trans E'
 have D1:∃ Mx,Hp.le M Mx∧St _ Mx F [_,_,_,_,_,_,_,_]:=⟨_,Hp.le_refl _,S.pick [0,1,2,3,4,5,6,7] (by decide)⟩
 refine Wt 0 rfl rfl rfl (pt b14 1) rfl (fun w' h'=>QC (o:=0) (off:=1) Tryd.underlying101 rfl ty61 rfl rfl) D1 (Wt 1 rfl rfl rfl (pt b14 1) rfl (fun w' h'=>QC (o:=1) (off:=0) Tryd.underlying61 rfl ty3 rfl rfl) D1 (Wt 2 rfl rfl rfl (vI (((mget a0.rows a1).getD cz18).intent.Writer)) rfl (fun w' h'=>QO (Qp h' 0 rfl) ty3 rfl rfl) D1 (Wt 3 rfl rfl rfl (pt b1 0) rfl (fun w' h'=>QC (o:=0) (off:=0) Tryd.underlying61 rfl ty3 rfl rfl) D1 (Wt 4 rfl rfl rfl (vI a2.Writer) rfl (fun w' h'=>QO (Qp h' 2 rfl) ty3 rfl rfl) D1 (Wt 5 rfl rfl rfl (.bool (((mget a0.rows a1).getD cz18).intent.Writer==a2.Writer)) rfl (fun w' h'=>Qa rfl rfl rfl rfl) D1 (Wt 6 rfl rfl rfl (pt b14 1) rfl (fun w' h'=>QC (o:=0) (off:=1) Tryd.underlying101 rfl ty61 rfl rfl) D1 (Wt 7 rfl rfl rfl (pt b14 1) rfl (fun w' h'=>QC (o:=1) (off:=0) Tryd.underlying61 rfl ty3 rfl rfl) D1 (Wt 8 rfl rfl rfl (vI (((mget a0.rows a1).getD cz18).intent.Writer)) rfl (fun w' h'=>QO (Qp h' 0 rfl) ty3 rfl rfl) D1 (Wt 9 rfl rfl rfl (.bool (((mget a0.rows a1).getD cz18).intent.Writer==(0:Int))) rfl (fun w' h'=>Qa rfl rfl rfl rfl) D1 (Wt 10 rfl rfl rfl (.bool (((mget a0.rows a1).getD cz18).intent.Writer==a2.Writer)) rfl (fun w' h'=>QG rfl) D1 (Wt 11 rfl rfl rfl (.bool (((mget a0.rows a1).getD cz18).intent.Writer==(0:Int))) rfl (fun w' h'=>QG rfl) D1 ?_)))))))))))
 refine Wz ?_
 refine tn ?_
 as_aux_lemma =>
 refine QE (QE ?_)
 refine Q0 (S:=fun w'=>∃ Mx,M.le Mx∧St w' Mx F [B101 b14 ((mget a0.rows a1).getD cz18) A10 c11,Blk b4 (.cells cz14 43 (0,0)),B61 b1 a2,B94 bo0 a0 A0_8 A0_9 A0_10 c0_10 A0_11,QT QF (Value.int .i64) A0_8 a0.names,QT (Value.int .i64) (Value.int .i64) A0_9 a0.many,Row QL 99 (.slice A0_10 a0.txs.length c0_10) a0.txs,QT encS (fun v:Value=>v) A0_11 vs0_11]) (L:=21) mixed ?_
 intro w41 hw42 E'
 replace S:=S.heap hw42
 replace E:=E.trans E'
 have D2:∃ Mx,Hp.le M Mx∧St _ Mx F [_,_,_,_,_,_,_,_]:=⟨_,Hp.le_refl _,S.pick [0,1,2,3,4,5,6,7] (by decide)⟩
 refine Wt 0 rfl rfl rfl (.bool (((mget a0.rows a1).getD cz18).intent.Writer==a2.Writer)) rfl (fun w' h'=>QD rfl) D2 (Wt 1 rfl rfl rfl (.bool (!(((mget a0.rows a1).getD cz18).intent.Writer==a2.Writer))) rfl (fun w' h'=>Y5 (b:=(((mget a0.rows a1).getD cz18).intent.Writer==a2.Writer)) rfl) D2 (Wt 2 rfl rfl rfl (.bool (!(((mget a0.rows a1).getD cz18).intent.Writer==a2.Writer))) rfl (fun w' h'=>QD rfl) D2 ?_))
 refine YD (fun ρ w'=>Qi ρ [(0,pt bo0 0),(1,vS a1),(5,pt b1 0),(6,pt b4 0),(7,pt b14 0),(9,.bool (((mget a0.rows a1).getD cz18).intent.Writer==(0:Int))),(33,.bool ((!(((mget a0.rows a1).getD cz18).intent.Writer==a2.Writer))&&(!(((mget a0.rows a1).getD cz18).intent.Writer==(0:Int)))))]∧w41=w') 15 (Ls 21 [0,1,2,3,4,5]) ?_ ?_
 rotate_left
 ·intro hrest
  rcases ZX (!(((mget a0.rows a1).getD cz18).intent.Writer==a2.Writer)) with hb43 | hb43
  ·skip
   have D3:∃ Mx,Hp.le M Mx∧St _ Mx F [_,_,_,_,_,_,_,_]:=⟨_,Hp.le_refl _,S.pick [0,1,2,3,4,5,6,7] (by decide)⟩
   refine WtN 3 rfl rfl rfl rfl (skT hb43) D3 (WtN 4 rfl rfl rfl rfl (skT hb43) D3 (Wt 5 rfl rfl rfl (.bool false) rfl (fun w' h'=>QV (k:=false) (congrArg Value.bool hb43) rfl) D3 ?_))
   exact hrest _ _ ⟨⟨rfl,rfl,rfl,rfl,rfl,rfl,(by first | rfl | (rw [hb43];rfl) | (simp only [hb43];rfl)),trivial⟩,rfl⟩
  ·skip
   have D4:∃ Mx,Hp.le M Mx∧St _ Mx F [_,_,_,_,_,_,_,_]:=⟨_,Hp.le_refl _,S.pick [0,1,2,3,4,5,6,7] (by decide)⟩
   refine WtY 3 rfl rfl rfl (.bool (((mget a0.rows a1).getD cz18).intent.Writer==(0:Int))) rfl (congrArg some hb43) (fun w' h'=>QD rfl) D4 (WtY 4 rfl rfl rfl (.bool (!(((mget a0.rows a1).getD cz18).intent.Writer==(0:Int)))) rfl (congrArg some hb43) (fun w' h'=>Y5 (b:=(((mget a0.rows a1).getD cz18).intent.Writer==(0:Int))) rfl) D4 (Wt 5 rfl rfl rfl (.bool (!(((mget a0.rows a1).getD cz18).intent.Writer==(0:Int)))) rfl (fun w' h'=>QV (k:=true) (congrArg Value.bool hb43) rfl) D4 ?_))
   exact hrest _ _ ⟨⟨rfl,rfl,rfl,rfl,rfl,rfl,(by first | rfl | (rw [hb43];rfl) | (simp only [hb43];rfl)),trivial⟩,rfl⟩
 rintro ρ _ ⟨hρ,rfl⟩
 rw [QI hρ]
 refine Wt 6 rfl rfl rfl (.bool ((!(((mget a0.rows a1).getD cz18).intent.Writer==a2.Writer))&&(!(((mget a0.rows a1).getD cz18).intent.Writer==(0:Int))))) rfl (fun w' h'=>QD rfl) (⟨M,Hp.le_refl M,(S.pick [0,1,2,3,4,5,6,7] (by decide))⟩) ?_
 obtain ⟨o54,o54h,o54H⟩:=QW H
 refine YD (fun ρ w'=>∃ (x53:Bool),(x53)=o54∧Qi ρ [(0,pt bo0 0),(1,vS a1),(5,pt b1 0),(6,pt b4 0),(7,pt b14 0),(9,.bool (((mget a0.rows a1).getD cz18).intent.Writer==(0:Int))),(48,.bool x53)]∧Ext w w'∧St w' M F [B101 b14 ((mget a0.rows a1).getD cz18) A10 c11,Blk b4 (.cells cz14 43 (0,0)),B61 b1 a2,B94 bo0 a0 A0_8 A0_9 A0_10 c0_10 A0_11,QT QF (Value.int .i64) A0_8 a0.names,QT (Value.int .i64) (Value.int .i64) A0_9 a0.many,Row QL 99 (.slice A0_10 a0.txs.length c0_10) a0.txs,QT encS (fun v:Value=>v) A0_11 vs0_11]) 0 (Ls 21 [0,1,2,3,4,5,6,7,8,9,10,11,12,13,14,15,16,17,18,19,20]) ?_ ?_
 rotate_left
 ·intro hrest
  have H:=o54h
  rcases Zf H with ⟨hb52,H⟩ | ⟨hb52,H⟩
  ·skip
   have D6:∃ Mx,Hp.le M Mx∧St _ Mx F [_,_,_,_,_,_,_,_]:=⟨_,Hp.le_refl _,S.pick [0,1,2,3,4,5,6,7] (by decide)⟩
   refine WtN 7 rfl rfl rfl rfl (skF hb52) D6 (WtN 8 rfl rfl rfl rfl (skF hb52) D6 (WtN 9 rfl rfl rfl rfl (skF hb52) D6 (WtN 10 rfl rfl rfl rfl (skF hb52) D6 (WtN 11 rfl rfl rfl rfl (skF hb52) D6 (WtN 12 rfl rfl rfl rfl (skF hb52) D6 (WtN 13 rfl rfl rfl rfl (skF hb52) D6 (WtN 14 rfl rfl rfl rfl (skF hb52) D6 (WtN 15 rfl rfl rfl rfl (skF hb52) D6 (WtN 16 rfl rfl rfl rfl (skF hb52) D6 (WtN 17 rfl rfl rfl rfl (skF hb52) D6 (WtN 18 rfl rfl rfl rfl (skF hb52) D6 (WtN 19 rfl rfl rfl rfl (skF hb52) D6 (Wt 20 rfl rfl rfl (.bool true) rfl (fun w' h'=>QV (k:=true) (congrArg Value.bool hb52) rfl) D6 ?_)))))))))))))
   exact hrest _ _ ⟨true,Option.some.inj H,⟨rfl,rfl,rfl,rfl,rfl,rfl,rfl,trivial⟩,E,S.pick [0,1,2,3,4,5,6,7] (by decide)⟩
  ·skip
   have D7:∃ Mx,Hp.le M Mx∧St _ Mx F [_,_,_,_,_,_,_,_]:=⟨_,Hp.le_refl _,S.pick [0,1,2,3,4,5,6,7] (by decide)⟩
   refine WtY 7 rfl rfl rfl (pt b14 0) rfl (congrArg some hb52) (fun w' h'=>QC (o:=0) (off:=0) Tryd.underlying101 rfl ty65 rfl rfl) D7 (WtY 8 rfl rfl rfl (.slice A10 (((mget a0.rows a1).getD cz18).l).length c11) rfl (congrArg some hb52) (fun w' h'=>QO (Qp h' 0 rfl) ty65 rfl rfl) D7 (WtY 9 rfl rfl rfl (pt bo0 0) rfl (congrArg some hb52) (fun w' h'=>QD rfl) D7 (WtY 10 rfl rfl rfl (pt bo0 0) rfl (congrArg some hb52) (fun w' h'=>Qo rfl) D7 (WtY 11 rfl rfl rfl (pt bo0 10) rfl (congrArg some hb52) (fun w' h'=>QC (o:=0) (off:=10) Tryd.underlying94 rfl ty92 rfl rfl) D7 (WtY 12 rfl rfl rfl (.slice A0_10 a0.txs.length c0_10) rfl (congrArg some hb52) (fun w' h'=>QO (Qp h' 3 rfl) ty92 rfl rfl) D7 (WtY 13 rfl rfl rfl (pt b1 0) rfl (congrArg some hb52) (fun w' h'=>QC (o:=0) (off:=0) Tryd.underlying61 rfl ty3 rfl rfl) D7 (WtY 14 rfl rfl rfl (vI a2.Writer) rfl (congrArg some hb52) (fun w' h'=>QO (Qp h' 2 rfl) ty3 rfl rfl) D7 (WtY 15 rfl rfl rfl (vI (IntKind.i64.wrap (a2.Writer - (1:Int)))) rfl (congrArg some hb52) (fun w' h'=>Qa rfl rfl rfl rfl) D7 ?_))))))))
   obtain ⟨⟨p55,p56⟩,H⟩:=Yy H
   obtain ⟨b57,o58,_,_,_,ee59,_⟩:=SlW.at' (S.row_read 6 rfl) p55 p56
   refine WtY 16 rfl rfl rfl (.pointer (some ⟨b57,o58+(IntKind.i64.wrap (a2.Writer - (1:Int))).toNat*2,none⟩)) rfl (congrArg some hb52) (fun w' h'=>Qy Tryd.underlying92 ty99 (slA ee59) rfl p55 p56) D7 (WtY 17 rfl rfl rfl (.pointer (some ⟨b57,o58+(IntKind.i64.wrap (a2.Writer - (1:Int))).toNat*2+1,none⟩)) rfl (congrArg some hb52) (fun w' h'=>QC (o:=o58+(IntKind.i64.wrap (a2.Writer - (1:Int))).toNat*2) (off:=1) Tryd.underlying99 rfl ty3 rfl rfl) D7 (WtY 18 rfl rfl rfl (vI ((rd a0.txs (IntKind.i64.wrap (a2.Writer - (1:Int)))).snapshot)) rfl (congrArg some hb52) (fun w' h'=>Va h' 6 rfl ee59 p55 p56 1 (by rintro _ _ rfl;rfl) ty3 rfl) D7 ?_))
   refine Wo 19 rfl ?_
   refine QP (congrArg some hb52) ?_
   obtain ⟨t60,ht61,H⟩:=QW H
   refine Zz fn141 (XR.con k M A10 c11 (((mget a0.rows a1).getD cz18).l) ((rd a0.txs (IntKind.i64.wrap (a2.Writer - (1:Int)))).snapshot) t60 hs12 ht61) S rfl rfl (by rintro _ _ _ ⟨_,rfl⟩;exact Qd) ?_
   rintro _ w62 _ Γ' E' S ⟨rfl,rfl⟩
   replace E:=E.trans E'
   refine QB (YU ⟨.inr ⟨M,Hp.le_refl M,(S.pick [0,1,2,3,4,5,6,7] (by decide))⟩,?_⟩)
   refine Wt 20 rfl rfl rfl (.bool t60) rfl (fun w' h'=>QV (k:=false) (congrArg Value.bool hb52) rfl) (⟨M,Hp.le_refl M,(S.pick [0,1,2,3,4,5,6,7] (by decide))⟩) ?_
   exact hrest _ _ ⟨t60,Option.some.inj H,⟨rfl,rfl,rfl,rfl,rfl,rfl,rfl,trivial⟩,E,S.pick [0,1,2,3,4,5,6,7] (by decide)⟩
 rintro ρ w63 ⟨x53,rfl,hρ,E,S⟩
 rw [QI hρ]
 have H:=o54H
 refine Wz ?_
 refine tn ?_
 rcases Zf H with ⟨hb64,H⟩ | ⟨hb64,H⟩
 ·refine QQ (congrArg Value.bool hb64) ?_
  refine QE (QA (W_v (.agg cz12) (Z3 (pl:=[(0,1),(1,1),(2,1),(3,1)]) cz12 Tryd.underlying43 ty43 (by as_aux_lemma=>kernel_rfl) rfl (by as_aux_lemma=>kernel_rfl)) rfl ?_))
  refine Qx S 1 rfl ty43 rfl rfl [vI 33,.bool false,vS ([]:Str),.slice none 0 0] rfl rfl rfl cz12 rfl rfl ?_
  intro w65 E' S
  replace E:=E.trans E'
  refine QB (tn ?_)
  refine Qs ?_
  refine tr (?_)
  obtain rfl:=Option.some.inj H
  replace S:=S.row_nil Qm 87
  exact ⟨_,_,_,fun w1 e1=>QX (vs:=[.agg #[vI 33,.bool false,vS ([]:Str),.slice none ([]:List Qf).length 0]]) (FA.cons (⟨_,rfl,Qn ty43 ((S.of_eq e1).blk 2 rfl) (QM rfl) rfl (by decide)⟩) (FA.nil)),HM,E,S.pick [0,4,5,6,7,8] (by decide),⟨none,0,A0_8,c0_8,A0_9,c0_9,A0_10,c0_10,A0_11,c0_11,vs0_11,rfl,hm0_11,rfl⟩⟩
 refine QK (congrArg Value.bool hb64) (Qr (tn ?_))
 as_aux_lemma =>
 refine QE (QE (QA (W_v (pt bo0 0) (QD rfl) rfl (W_v (pt b1 0) (QC (o:=0) (off:=0) Tryd.underlying61 rfl ty3 rfl rfl) rfl (W_v (vI a2.Writer) (QO (S.blk 2 rfl) ty3 rfl rfl) rfl (W_v (.agg #[.slice A10 (((mget a0.rows a1).getD cz18).l).length c11,vI (((mget a0.rows a1).getD cz18).intent.Writer),vI (((mget a0.rows a1).getD cz18).intent.TS),.bool (((mget a0.rows a1).getD cz18).intent.Tomb),vS (((mget a0.rows a1).getD cz18).intent.Value)]) (ZA (S.blk 0 rfl) ty101 rfl (QM rfl) rfl rfl) rfl ?_))))))
 obtain ⟨t67,ht68,H⟩:=QW H
 replace S:St w63 M F [_,_,_,_,_,_,_,_]:=S.pick [3,4,5,6,7,0,1,2] (by decide)
 refine Z5 fn133 (Zx.con k M A0_8 c0_8 A0_9 c0_9 A0_10 c0_10 A0_11 c0_11 vs0_11 a0 a2.Writer A10 c11 ((mget a0.rows a1).getD cz18) bo0 t67 hm0_11 hs12 ht68) (Γ1:=[_,_,_,_,_]) (Γ2:=[_,_,_]) S rfl rfl (by rintro _ _ _ ⟨rfl,rfl⟩;exact (QN ZW (QN Qu (QN Qu (QN (YI (fun _ _ _ _ h=>h)) (QN Qu Qd)))))) ?_
 rintro _ w69 _ Γ' E' S ⟨rfl,rfl⟩
 replace E:=E.trans E'
 replace S:St w69 M F [_,_,_,_,_,_,_,_]:=S
 refine W_v (.tuple #[vS t67.1,.bool t67.2]) (QD rfl) rfl (W_v (vS t67.1) (ZB rfl rfl) rfl (W_v (.bool t67.2) (ZB rfl rfl) rfl (W_v (vS t67.1) (QG rfl) rfl (W_v (.bool t67.2) (QG rfl) rfl (QB (tn (QE (QA (W_v (pt b1 2) (QC (o:=0) (off:=2) Tryd.underlying61 rfl ty4 rfl rfl) rfl (W_v (.bool a2.Tomb) (QO (S.blk 7 rfl) ty4 rfl rfl) rfl (W_v (.bool a2.Tomb) (QD rfl) rfl ?_)))))))))))
 refine ZH 3 (fun ρ w'=>Qi ρ [(0,pt bo0 0),(1,vS a1),(5,pt b1 0),(6,pt b4 0),(7,pt b14 0),(9,.bool (((mget a0.rows a1).getD cz18).intent.Writer==(0:Int))),(63,.bool (a2.Tomb&&(!t67.2)))]∧w69=w') ?_ ?_
 ·rcases ZX a2.Tomb with hb72 | hb72
  ·skip
   refine QZ (skT hb72) rfl (QZ (skT hb72) rfl (W_v (.bool false) (QV (k:=false) (congrArg Value.bool hb72) rfl) rfl (QB ?_)))
   exact ⟨⟨rfl,rfl,rfl,rfl,rfl,rfl,(by first | rfl | (rw [hb72];rfl) | (simp only [hb72];rfl)),trivial⟩,rfl⟩
  ·skip
   refine QP (congrArg some hb72) (W_v (.bool t67.2) (QD rfl) rfl (QP (congrArg some hb72) (W_v (.bool (!t67.2)) (Y5 (b:=t67.2) rfl) rfl (W_v (.bool (!t67.2)) (QV (k:=true) (congrArg Value.bool hb72) rfl) rfl (QB ?_)))))
   exact ⟨⟨rfl,rfl,rfl,rfl,rfl,rfl,(by first | rfl | (rw [hb72];rfl) | (simp only [hb72];rfl)),trivial⟩,rfl⟩
 as_aux_lemma =>
 rintro ρ _ ⟨hρ,rfl⟩
 rw [QI hρ]
 refine QB (tn ?_)
 rcases Zf H with ⟨hb73,H⟩ | ⟨hb73,H⟩
 ·refine QQ (congrArg Value.bool hb73) ?_
  refine QE (QA (W_v (.agg cz14) (Z3 (pl:=[(0,1),(1,1),(2,1),(3,1)]) cz14 Tryd.underlying43 ty43 (by as_aux_lemma=>kernel_rfl) rfl (by as_aux_lemma=>kernel_rfl)) rfl ?_))
  refine Qx S 6 rfl ty43 rfl rfl [vI 0,.bool false,vS ([]:Str),.slice none 0 0] rfl rfl rfl cz14 rfl rfl ?_
  intro w74 E' S
  replace E:=E.trans E'
  refine QB (tn ?_)
  refine Qs ?_
  refine tr (?_)
  obtain rfl:=Option.some.inj H
  replace S:=S.row_nil Qm 87
  exact ⟨_,_,_,fun w1 e1=>QX (vs:=[.agg #[vI 0,.bool false,vS ([]:Str),.slice none ([]:List Qf).length 0]]) (FA.cons (⟨_,rfl,Qn ty43 ((S.of_eq e1).blk 7 rfl) (QM rfl) rfl (by decide)⟩) (FA.nil)),HM,E,S.pick [0,1,2,3,4,5] (by decide),⟨none,0,A0_8,c0_8,A0_9,c0_9,A0_10,c0_10,A0_11,c0_11,vs0_11,rfl,hm0_11,rfl⟩⟩
 refine QK (congrArg Value.bool hb73) (Qr (tn (QE (QE ?_))))
 refine Q0 (S:=fun w'=>∃ Mx,M.le Mx∧St w' Mx F [B94 bo0 a0 A0_8 A0_9 A0_10 c0_10 A0_11,QT QF (Value.int .i64) A0_8 a0.names,QT (Value.int .i64) (Value.int .i64) A0_9 a0.many,Row QL 99 (.slice A0_10 a0.txs.length c0_10) a0.txs,QT encS (fun v:Value=>v) A0_11 vs0_11,B101 b14 ((mget a0.rows a1).getD cz18) A10 c11,Blk b4 (.cells cz14 43 (0,0)),B61 b1 a2]) (L:=31) mixed ?_
 intro w81 hw82 E'
 replace S:=S.heap hw82
 replace E:=E.trans E'
 have D9:∃ Mx,Hp.le M Mx∧St _ Mx F [_,_,_,_,_,_,_,_]:=⟨_,Hp.le_refl _,S.pick [0,1,2,3,4,5,6,7] (by decide)⟩
 refine Wt 0 rfl rfl rfl (.bool (((mget a0.rows a1).getD cz18).intent.Writer==(0:Int))) rfl (fun w' h'=>QD rfl) D9 (Wt 1 rfl rfl rfl (.bool (((mget a0.rows a1).getD cz18).intent.Writer==(0:Int))) rfl (fun w' h'=>QD rfl) D9 ?_)
 refine YD (fun ρ w'=>Qi ρ [(0,pt bo0 0),(1,vS a1),(5,pt b1 0),(6,pt b4 0),(7,pt b14 0),(95,.bool ((((mget a0.rows a1).getD cz18).intent.Writer==(0:Int))&&(((((((mget a0.rows a1).getD cz18).l).length:Int)==(0:Int))&&(decide ((a0.rows.length:Int)≥a0.c.Keys)))||(decide (((((mget a0.rows a1).getD cz18).l).length:Int)≥a0.c.Depth)))))]∧w81=w') 0 (Ls 31 [0,1,2,3,4,5,6,7,8,9,10,11,12,13,14,15,16,17,18,19,20,21,22,23,24,25,26,27,28,29,30]) ?_ ?_
 rotate_left
 ·intro hrest
  rcases ZX (((mget a0.rows a1).getD cz18).intent.Writer==(0:Int)) with hb85 | hb85
  ·skip
   have D10:∃ Mx,Hp.le M Mx∧St _ Mx F [_,_,_,_,_,_,_,_]:=⟨_,Hp.le_refl _,S.pick [0,1,2,3,4,5,6,7] (by decide)⟩
   refine WtN 2 rfl rfl rfl rfl (skT hb85) D10 (WtN 3 rfl rfl rfl rfl (skT hb85) D10 (WtN 4 rfl rfl rfl rfl (skT hb85) D10 (WtN 5 rfl rfl rfl rfl (skT hb85) D10 (WtN 6 rfl rfl rfl rfl (skT hb85) D10 (WtN 7 rfl rfl rfl rfl (rfl) D10 (WtN 8 rfl rfl rfl rfl (rfl) D10 (WtN 9 rfl rfl rfl rfl (rfl) D10 (WtN 10 rfl rfl rfl rfl (rfl) D10 (WtN 11 rfl rfl rfl rfl (rfl) D10 (WtN 12 rfl rfl rfl rfl (rfl) D10 (WtN 13 rfl rfl rfl rfl (rfl) D10 (WtN 14 rfl rfl rfl rfl (rfl) D10 (WtN 15 rfl rfl rfl rfl (rfl) D10 (WtN 16 rfl rfl rfl rfl (rfl) D10 (WtN 17 rfl rfl rfl rfl (rfl) D10 ?_)))))))))))))))
   refine WtN 18 rfl rfl rfl rfl (skT hb85) D10 (WtN 19 rfl rfl rfl rfl (skT hb85) D10 (WtN 20 rfl rfl rfl rfl (rfl) D10 (WtN 21 rfl rfl rfl rfl (rfl) D10 (WtN 22 rfl rfl rfl rfl (rfl) D10 (WtN 23 rfl rfl rfl rfl (rfl) D10 (WtN 24 rfl rfl rfl rfl (rfl) D10 (WtN 25 rfl rfl rfl rfl (rfl) D10 (WtN 26 rfl rfl rfl rfl (rfl) D10 (WtN 27 rfl rfl rfl rfl (rfl) D10 (WtN 28 rfl rfl rfl rfl (rfl) D10 (WtN 29 rfl rfl rfl rfl (skT hb85) D10 (Wt 30 rfl rfl rfl (.bool false) rfl (fun w' h'=>QV (k:=false) (congrArg Value.bool hb85) rfl) D10 ?_))))))))))))
   exact hrest _ _ ⟨⟨rfl,rfl,rfl,rfl,rfl,(by first | rfl | (rw [hb85];rfl) | (simp only [hb85];rfl)),trivial⟩,rfl⟩
  ·skip
   have D11:∃ Mx,Hp.le M Mx∧St _ Mx F [_,_,_,_,_,_,_,_]:=⟨_,Hp.le_refl _,S.pick [0,1,2,3,4,5,6,7] (by decide)⟩
   refine WtY 2 rfl rfl rfl (pt b14 0) rfl (congrArg some hb85) (fun w' h'=>QC (o:=0) (off:=0) Tryd.underlying101 rfl ty65 rfl rfl) D11 (WtY 3 rfl rfl rfl (.slice A10 (((mget a0.rows a1).getD cz18).l).length c11) rfl (congrArg some hb85) (fun w' h'=>QO (Qp h' 5 rfl) ty65 rfl rfl) D11 (WtY 4 rfl rfl rfl (vI ((((mget a0.rows a1).getD cz18).l).length:Int)) rfl (congrArg some hb85) (fun w' h'=>Q8 (n:=(((mget a0.rows a1).getD cz18).l).length) Tryd.underlying65 rfl) D11 (WtY 5 rfl rfl rfl (.bool (((((mget a0.rows a1).getD cz18).l).length:Int)==(0:Int))) rfl (congrArg some hb85) (fun w' h'=>Qa rfl rfl rfl rfl) D11 (WtY 6 rfl rfl rfl (.bool (((((mget a0.rows a1).getD cz18).l).length:Int)==(0:Int))) rfl (congrArg some hb85) (fun w' h'=>QD rfl) D11 ?_))))
   refine YD (fun ρ w'=>Qi ρ [(0,pt bo0 0),(1,vS a1),(5,pt b1 0),(6,pt b4 0),(7,pt b14 0),(66,.bool (((mget a0.rows a1).getD cz18).intent.Writer==(0:Int))),(83,.bool ((((((mget a0.rows a1).getD cz18).l).length:Int)==(0:Int))&&(decide ((a0.rows.length:Int)≥a0.c.Keys))))]∧w81=w') 12 (Ls 31 [0,1,2,3,4,5,6,7,8,9,10,11,12,13,14,15,16,17,18]) ?_ ?_
   rotate_left
   ·intro hrest
    rcases ZX (((((mget a0.rows a1).getD cz18).l).length:Int)==(0:Int)) with hb86 | hb86
    ·skip
     have D12:∃ Mx,Hp.le M Mx∧St _ Mx F [_,_,_,_,_,_,_,_]:=⟨_,Hp.le_refl _,S.pick [0,1,2,3,4,5,6,7] (by decide)⟩
     refine WtN 7 rfl rfl rfl rfl (skT hb86) D12 (WtN 8 rfl rfl rfl rfl (skT hb86) D12 (WtN 9 rfl rfl rfl rfl (skT hb86) D12 (WtN 10 rfl rfl rfl rfl (skT hb86) D12 (WtN 11 rfl rfl rfl rfl (skT hb86) D12 (WtN 12 rfl rfl rfl rfl (skT hb86) D12 (WtN 13 rfl rfl rfl rfl (skT hb86) D12 (WtN 14 rfl rfl rfl rfl (skT hb86) D12 (WtN 15 rfl rfl rfl rfl (skT hb86) D12 (WtN 16 rfl rfl rfl rfl (skT hb86) D12 (WtN 17 rfl rfl rfl rfl (skT hb86) D12 (WtY 18 rfl rfl rfl (.bool false) rfl (congrArg some hb85) (fun w' h'=>QV (k:=false) (congrArg Value.bool hb86) rfl) D12 ?_)))))))))))
     exact hrest _ _ ⟨⟨rfl,rfl,rfl,rfl,rfl,rfl,(by first | rfl | (rw [hb86];rfl) | (simp only [hb86];rfl)),trivial⟩,rfl⟩
    ·skip
     have D13:∃ Mx,Hp.le M Mx∧St _ Mx F [_,_,_,_,_,_,_,_]:=⟨_,Hp.le_refl _,S.pick [0,1,2,3,4,5,6,7] (by decide)⟩
     refine WtY 7 rfl rfl rfl (pt bo0 0) rfl (congrArg some hb86) (fun w' h'=>QD rfl) D13 (WtY 8 rfl rfl rfl (pt bo0 0) rfl (congrArg some hb86) (fun w' h'=>Qo rfl) D13 (WtY 9 rfl rfl rfl (pt bo0 11) rfl (congrArg some hb86) (fun w' h'=>QC (o:=0) (off:=11) Tryd.underlying94 rfl ty91 rfl rfl) D13 (WtY 10 rfl rfl rfl (.map (mb A0_11)) rfl (congrArg some hb86) (fun w' h'=>QO (Qp h' 0 rfl) ty91 rfl rfl) D13 (WtY 11 rfl rfl rfl (vI (a0.rows.length:Int)) rfl (congrArg some hb86) (fun w' h'=>Exists.elim h' fun Mx h9=>(Eq.trans (KH h9.2 4 rfl Tryd.underlying91 rfl) (by rw [hm0_11.length]))) D13 (WtY 12 rfl rfl rfl (pt bo0 0) rfl (congrArg some hb86) (fun w' h'=>QD rfl) D13 (WtY 13 rfl rfl rfl (pt bo0 0) rfl (congrArg some hb86) (fun w' h'=>Qo rfl) D13 (WtY 14 rfl rfl rfl (pt bo0 0) rfl (congrArg some hb86) (fun w' h'=>QC (o:=0) (off:=0) Tryd.underlying94 rfl ty23 rfl rfl) D13 (WtY 15 rfl rfl rfl (pt bo0 2) rfl (congrArg some hb86) (fun w' h'=>QC (o:=0) (off:=2) Tryd.underlying23 rfl ty3 rfl rfl) D13 (WtY 16 rfl rfl rfl (vI a0.c.Keys) rfl (congrArg some hb86) (fun w' h'=>QO (Qp h' 0 rfl) ty3 rfl rfl) D13 (WtY 17 rfl rfl rfl (.bool (decide ((a0.rows.length:Int)≥a0.c.Keys))) rfl (congrArg some hb86) (fun w' h'=>Qa rfl rfl rfl rfl) D13 (WtY 18 rfl rfl rfl (.bool (decide ((a0.rows.length:Int)≥a0.c.Keys))) rfl (congrArg some hb85) (fun w' h'=>QV (k:=true) (congrArg Value.bool hb86) rfl) D13 ?_)))))))))))
     exact hrest _ _ ⟨⟨rfl,rfl,rfl,rfl,rfl,rfl,(by first | rfl | (rw [hb86];rfl) | (simp only [hb86];rfl)),trivial⟩,rfl⟩
   rintro ρ _ ⟨hρ,rfl⟩
   rw [QI hρ]
   refine WtY 19 rfl rfl rfl (.bool ((((((mget a0.rows a1).getD cz18).l).length:Int)==(0:Int))&&(decide ((a0.rows.length:Int)≥a0.c.Keys)))) rfl (congrArg some hb85) (fun w' h'=>QD rfl) (⟨M,Hp.le_refl M,(S.pick [0,1,2,3,4,5,6,7] (by decide))⟩) ?_
   refine YD (fun ρ w'=>Qi ρ [(0,pt bo0 0),(1,vS a1),(5,pt b1 0),(6,pt b4 0),(7,pt b14 0),(66,.bool (((mget a0.rows a1).getD cz18).intent.Writer==(0:Int))),(94,.bool (((((((mget a0.rows a1).getD cz18).l).length:Int)==(0:Int))&&(decide ((a0.rows.length:Int)≥a0.c.Keys)))||(decide (((((mget a0.rows a1).getD cz18).l).length:Int)≥a0.c.Depth))))]∧w81=w') 1 (Ls 31 [0,1,2,3,4,5,6,7,8,9,10,11,12,13,14,15,16,17,18,19,20,21,22,23,24,25,26,27,28,29]) ?_ ?_
   rotate_left
   ·intro hrest
    rcases ZX ((((((mget a0.rows a1).getD cz18).l).length:Int)==(0:Int))&&(decide ((a0.rows.length:Int)≥a0.c.Keys))) with hb87 | hb87
    ·skip
     have D15:∃ Mx,Hp.le M Mx∧St _ Mx F [_,_,_,_,_,_,_,_]:=⟨_,Hp.le_refl _,S.pick [0,1,2,3,4,5,6,7] (by decide)⟩
     refine WtY 20 rfl rfl rfl (pt b14 0) rfl (congrArg some hb87) (fun w' h'=>QC (o:=0) (off:=0) Tryd.underlying101 rfl ty65 rfl rfl) D15 (WtY 21 rfl rfl rfl (.slice A10 (((mget a0.rows a1).getD cz18).l).length c11) rfl (congrArg some hb87) (fun w' h'=>QO (Qp h' 5 rfl) ty65 rfl rfl) D15 (WtY 22 rfl rfl rfl (vI ((((mget a0.rows a1).getD cz18).l).length:Int)) rfl (congrArg some hb87) (fun w' h'=>Q8 (n:=(((mget a0.rows a1).getD cz18).l).length) Tryd.underlying65 rfl) D15 (WtY 23 rfl rfl rfl (pt bo0 0) rfl (congrArg some hb87) (fun w' h'=>QD rfl) D15 (WtY 24 rfl rfl rfl (pt bo0 0) rfl (congrArg some hb87) (fun w' h'=>Qo rfl) D15 (WtY 25 rfl rfl rfl (pt bo0 0) rfl (congrArg some hb87) (fun w' h'=>QC (o:=0) (off:=0) Tryd.underlying94 rfl ty23 rfl rfl) D15 (WtY 26 rfl rfl rfl (pt bo0 3) rfl (congrArg some hb87) (fun w' h'=>QC (o:=0) (off:=3) Tryd.underlying23 rfl ty3 rfl rfl) D15 (WtY 27 rfl rfl rfl (vI a0.c.Depth) rfl (congrArg some hb87) (fun w' h'=>QO (Qp h' 0 rfl) ty3 rfl rfl) D15 (WtY 28 rfl rfl rfl (.bool (decide (((((mget a0.rows a1).getD cz18).l).length:Int)≥a0.c.Depth))) rfl (congrArg some hb87) (fun w' h'=>Qa rfl rfl rfl rfl) D15 (WtY 29 rfl rfl rfl (.bool (decide (((((mget a0.rows a1).getD cz18).l).length:Int)≥a0.c.Depth))) rfl (congrArg some hb85) (fun w' h'=>QV (k:=false) (congrArg Value.bool hb87) rfl) D15 ?_)))))))))
     exact hrest _ _ ⟨⟨rfl,rfl,rfl,rfl,rfl,rfl,(by first | rfl | (rw [hb87];rfl) | (simp only [hb87];rfl)),trivial⟩,rfl⟩
    ·skip
     have D16:∃ Mx,Hp.le M Mx∧St _ Mx F [_,_,_,_,_,_,_,_]:=⟨_,Hp.le_refl _,S.pick [0,1,2,3,4,5,6,7] (by decide)⟩
     refine WtN 20 rfl rfl rfl rfl (skF hb87) D16 (WtN 21 rfl rfl rfl rfl (skF hb87) D16 (WtN 22 rfl rfl rfl rfl (skF hb87) D16 (WtN 23 rfl rfl rfl rfl (skF hb87) D16 (WtN 24 rfl rfl rfl rfl (skF hb87) D16 (WtN 25 rfl rfl rfl rfl (skF hb87) D16 (WtN 26 rfl rfl rfl rfl (skF hb87) D16 (WtN 27 rfl rfl rfl rfl (skF hb87) D16 (WtN 28 rfl rfl rfl rfl (skF hb87) D16 (WtY 29 rfl rfl rfl (.bool true) rfl (congrArg some hb85) (fun w' h'=>QV (k:=true) (congrArg Value.bool hb87) rfl) D16 ?_)))))))))
     exact hrest _ _ ⟨⟨rfl,rfl,rfl,rfl,rfl,rfl,(by first | rfl | (rw [hb87];rfl) | (simp only [hb87];rfl)),trivial⟩,rfl⟩
   rintro ρ _ ⟨hρ,rfl⟩
   rw [QI hρ]
   refine Wt 30 rfl rfl rfl (.bool (((((((mget a0.rows a1).getD cz18).l).length:Int)==(0:Int))&&(decide ((a0.rows.length:Int)≥a0.c.Keys)))||(decide (((((mget a0.rows a1).getD cz18).l).length:Int)≥a0.c.Depth)))) rfl (fun w' h'=>QV (k:=true) (congrArg Value.bool hb85) rfl) (⟨M,Hp.le_refl M,(S.pick [0,1,2,3,4,5,6,7] (by decide))⟩) ?_
   exact hrest _ _ ⟨⟨rfl,rfl,rfl,rfl,rfl,(by first | rfl | (rw [hb85];rfl) | (simp only [hb85];rfl)),trivial⟩,rfl⟩
 rintro ρ _ ⟨hρ,rfl⟩
 rw [QI hρ]
 refine Wz ?_
 refine tn ?_
 rcases Zf H with ⟨hb88,H⟩ | ⟨hb88,H⟩
 ·refine QQ (congrArg Value.bool hb88) ?_
  refine QE (QA (W_v (.agg cz11) (Z3 (pl:=[(0,1),(1,1),(2,1),(3,1)]) cz11 Tryd.underlying43 ty43 (by as_aux_lemma=>kernel_rfl) rfl (by as_aux_lemma=>kernel_rfl)) rfl ?_))
  refine Qx S 6 rfl ty43 rfl rfl [vI 34,.bool false,vS ([]:Str),.slice none 0 0] rfl rfl rfl cz11 rfl rfl ?_
  intro w89 E' S
  replace E:=E.trans E'
  refine QB (tn ?_)
  refine Qs ?_
  refine tr (?_)
  obtain rfl:=Option.some.inj H
  replace S:=S.row_nil Qm 87
  exact ⟨_,_,_,fun w1 e1=>QX (vs:=[.agg #[vI 34,.bool false,vS ([]:Str),.slice none ([]:List Qf).length 0]]) (FA.cons (⟨_,rfl,Qn ty43 ((S.of_eq e1).blk 7 rfl) (QM rfl) rfl (by decide)⟩) (FA.nil)),HM,E,S.pick [0,1,2,3,4,5] (by decide),⟨none,0,A0_8,c0_8,A0_9,c0_9,A0_10,c0_10,A0_11,c0_11,vs0_11,rfl,hm0_11,rfl⟩⟩
 refine QK (congrArg Value.bool hb88) (Qr (tn ?_))
 as_aux_lemma =>
 refine QE (QA (W_v (.agg #[vI a2.Writer,vI a2.TS,.bool a2.Tomb,vS a2.Value]) (ZA (S.blk 7 rfl) ty61 rfl (QM rfl) rfl rfl) rfl (W_v (pt b14 1) (QC (o:=0) (off:=1) Tryd.underlying101 rfl ty61 rfl rfl) rfl ?_)))
 refine Qx S 5 rfl ty61 rfl rfl [vI a2.Writer,vI a2.TS,.bool a2.Tomb,vS a2.Value] rfl rfl rfl #[.slice A10 (((mget a0.rows a1).getD cz18).l).length c11,vI a2.Writer,vI a2.TS,.bool a2.Tomb,vS a2.Value] rfl rfl ?_
 intro w91 E' S
 replace E:=E.trans E'
 refine QB (tn (QE ?_))
 refine Q0 (S:=fun w'=>∃ Mx,M.le Mx∧St w' Mx F [B94 bo0 a0 A0_8 A0_9 A0_10 c0_10 A0_11,QT QF (Value.int .i64) A0_8 a0.names,QT (Value.int .i64) (Value.int .i64) A0_9 a0.many,Row QL 99 (.slice A0_10 a0.txs.length c0_10) a0.txs,QT encS (fun v:Value=>v) A0_11 vs0_11,Blk b14 (.cells #[.slice A10 (((mget a0.rows a1).getD cz18).l).length c11,vI a2.Writer,vI a2.TS,.bool a2.Tomb,vS a2.Value] 101 (0,0)),Blk b4 (.cells cz14 43 (0,0)),B61 b1 a2]) (L:=6) mixed ?_
 intro w98 hw99 E'
 replace S:=S.heap hw99
 replace E:=E.trans E'
 have D18:∃ Mx,Hp.le M Mx∧St _ Mx F [_,_,_,_,_,_,_,_]:=⟨_,Hp.le_refl _,S.pick [0,1,2,3,4,5,6,7] (by decide)⟩
 refine Wt 0 rfl rfl rfl (pt bo0 0) rfl (fun w' h'=>QD rfl) D18 (Wt 1 rfl rfl rfl (pt bo0 0) rfl (fun w' h'=>Qo rfl) D18 (Wt 2 rfl rfl rfl (pt bo0 11) rfl (fun w' h'=>QC (o:=0) (off:=11) Tryd.underlying94 rfl ty91 rfl rfl) D18 (Wt 3 rfl rfl rfl (.map (mb A0_11)) rfl (fun w' h'=>QO (Qp h' 0 rfl) ty91 rfl rfl) D18 (Wt 4 rfl rfl rfl (vS a1) rfl (fun w' h'=>QD rfl) D18 (Wt 5 rfl rfl rfl (.agg #[.slice A10 (((mget a0.rows a1).getD cz18).l).length c11,vI a2.Writer,vI a2.TS,.bool a2.Tomb,vS a2.Value]) rfl (fun w' h'=>ZA (Qp h' 5 rfl) ty101 rfl (QM rfl) rfl rfl) D18 ?_)))))
 refine Wo 6 rfl ?_
 obtain ⟨x101,he102,H⟩:=QW H
 replace he102:=Option.some.inj he102
 obtain ⟨vs103,hv104⟩:∃ z:List (Str×Value),mput vs0_11 a1 (.agg #[.slice A10 (((mget a0.rows a1).getD cz18).l).length c11,vI a2.Writer,vI a2.TS,.bool a2.Tomb,vS a2.Value])=z:=⟨_,rfl⟩
 have hm105:YV Qk M x101 vs103:=by rw [← he102,← hv104];exact hm0_11.put a1 (cs:=[.slice A10 (((mget a0.rows a1).getD cz18).l).length c11,vI a2.Writer,vI a2.TS,.bool a2.Tomb,vS a2.Value]) ⟨_,hs12,rfl⟩
 refine VR S 4 rfl Tryd.underlying91 key9 a1 (.agg #[.slice A10 (((mget a0.rows a1).getD cz18).l).length c11,vI a2.Writer,vI a2.TS,.bool a2.Tomb,vS a2.Value]) hv104 rfl rfl rfl ?_
 intro w100 E' S
 replace E:=E.trans E'
 replace S:St w100 M F [_,_,_,_,_,_,_,_]:=S
 refine QB (YU ⟨.inl (by decide),?_⟩)
 refine Wz ?_
 refine tn (QE (QA (W_v (pt b1 2) (QC (o:=0) (off:=2) Tryd.underlying61 rfl ty4 rfl rfl) rfl (W_v (.bool a2.Tomb) (QO (S.blk 7 rfl) ty4 rfl rfl) rfl (W_v (.agg #[vI 0,.bool (a2.Tomb),vS ([]:Str),.slice none 0 0]) (Z3 (pl:=[(0,1),(1,1),(2,1),(3,1)]) #[vI 0,.bool (a2.Tomb),vS ([]:Str),.slice none 0 0] Tryd.underlying43 ty43 (by as_aux_lemma=>kernel_rfl) rfl (by as_aux_lemma=>kernel_rfl)) rfl ?_)))))
 refine Qx S 6 rfl ty43 rfl rfl [vI 0,.bool (a2.Tomb),vS ([]:Str),.slice none 0 0] rfl rfl rfl #[vI 0,.bool (a2.Tomb),vS ([]:Str),.slice none 0 0] rfl rfl ?_
 intro w106 E' S
 replace E:=E.trans E'
 refine QB (tn ?_)
 refine Qs ?_
 obtain rfl:=Option.some.inj H
 replace S:=S.row_nil Qm 87
 exact ⟨_,_,_,fun w1 e1=>QX (vs:=[.agg #[vI 0,.bool (a2.Tomb),vS ([]:Str),.slice none ([]:List Qf).length 0]]) (FA.cons (⟨_,rfl,Qn ty43 ((S.of_eq e1).blk 7 rfl) (QM rfl) rfl (by decide)⟩) (FA.nil)),HM,E,S.pick [0,1,2,3,4,5] (by decide),⟨none,0,A0_8,c0_8,A0_9,c0_9,A0_10,c0_10,A0_11,c0_11,vs103,rfl,hm105,rfl⟩⟩
def Yn (k:Nat) (a0:QJ) (a1:Int) (a2:Int) (a3:ZE):Option (Qc×QJ) :=
 (Option.bind (Z8 k a0 a3.Key (⟨a1,(0:Int),false,(a3.Value)⟩:QS)) (fun t7=>some (t7.1,t7.2)))
theorem Yn.mono {k:Nat} {a0:QJ} {a1:Int} {a2:Int} {a3:ZE}:OLe (Yn k a0 a1 a2 a3) (Yn (k+1) a0 a1 a2 a3):=by
 unfold Yn
 have m1:=@Z8.mono
 exact mo
theorem Yn.con (k:Nat) (M:Hp) (A0_8:Option Addr) (c0_8:Nat) (A0_9:Option Addr) (c0_9:Nat) (A0_10:Option Addr) (c0_10:Nat) (A0_11:Option Addr) (c0_11:Nat) (vs0_11:List (Str×Value)) (a0:QJ) (a1:Int) (a2:Int) (a3:ZE) (bo0:Nat) (r:Qc×QJ) (hm0_11:YV Qk M a0.rows vs0_11) (h:Yn k a0 a1 a2 a3=some r):Con Tryd.prog 126 #[pt bo0 0,vI a1,vI a2,.agg #[vU a3.Kind,vI a3.Tx,vS a3.Key,vS a3.End,vS a3.Value,vI a3.Limit,vU a3.Engine]] M [B94 bo0 a0 A0_8 A0_9 A0_10 c0_10 A0_11,QT QF (Value.int .i64) A0_8 a0.names,QT (Value.int .i64) (Value.int .i64) A0_9 a0.many,Row QL 99 (.slice A0_10 a0.txs.length c0_10) a0.txs,QT encS (fun v:Value=>v) A0_11 vs0_11] (fun v M' Γ'=>∃ (Aq1:Option Addr) (cq2:Nat) (Aq4:Option Addr) (cq5:Nat) (Aq7:Option Addr) (cq8:Nat) (Aq10:Option Addr) (cq11:Nat) (Aq13:Option Addr) (cq14:Nat) (vsq16:List (Str×Value)),v=.agg #[vI r.1.Err,.bool r.1.Found,vS r.1.Value,.slice Aq1 r.1.Pairs.length cq2]∧YV Qk M' r.2.rows vsq16∧Γ'=[Row Qm 87 (.slice Aq1 r.1.Pairs.length cq2) r.1.Pairs,B94 bo0 r.2 Aq4 Aq7 Aq10 cq11 Aq13,QT QF (Value.int .i64) Aq4 r.2.names,QT (Value.int .i64) (Value.int .i64) Aq7 r.2.many,Row QL 99 (.slice Aq10 r.2.txs.length cq11) r.2.txs,QT encS (fun v:Value=>v) Aq13 vsq16]):=by
 refine Qt Tryd.func126 rfl Tryd.ntmps126 Tryd.results126 rfl ?_
 intro w F rn S hrn
 have E:=Ext.refl w
 have HM:=Hp.le_refl M
 have H:=h
 unfold Yn at H
 refine QE (QA ?_)
 refine Y8 S #[vU a3.Kind,vI a3.Tx,vS a3.Key,vS a3.End,vS a3.Value,vI a3.Limit,vU a3.Engine] rfl rfl rfl ?_
 intro b1 w2 E' S
 replace E:=E.trans E'
 refine Zo S cz14 ty43 rfl rfl ?_
 intro b4 w5 E' S
 replace E:=E.trans E'
 refine QB (tn (QE (QA (W_v (pt bo0 0) (QD rfl) rfl (W_v (pt b1 2) (QC (o:=0) (off:=2) Tryd.underlying37 rfl ty9 rfl rfl) rfl (W_v (vS a3.Key) (QO (S.blk 1 rfl) ty9 rfl rfl) rfl (W_v (vI a1) (QD rfl) rfl (W_v (pt b1 4) (QC (o:=0) (off:=4) Tryd.underlying37 rfl ty9 rfl rfl) rfl (W_v (vS a3.Value) (QO (S.blk 1 rfl) ty9 rfl rfl) rfl (W_v (.agg #[vI a1,vI 0,.bool false,vS (a3.Value)]) (Z3 (pl:=[(0,1),(1,1),(2,1),(3,1)]) #[vI a1,vI 0,.bool false,vS (a3.Value)] Tryd.underlying61 ty61 (by as_aux_lemma=>kernel_rfl) rfl (by as_aux_lemma=>kernel_rfl)) rfl ?_))))))))))
 obtain ⟨t7,ht8,H⟩:=QW H
 replace S:St w5 M F [_,_,_,_,_,_,_]:=S.pick [2,3,4,5,6,0,1] (by decide)
 refine Yc fn134 (Z8.con k M A0_8 c0_8 A0_9 c0_9 A0_10 c0_10 A0_11 c0_11 vs0_11 a0 a3.Key (⟨a1,(0:Int),false,(a3.Value)⟩:QS) bo0 t7 hm0_11 ht8) (Γ1:=[_,_,_,_,_]) (Γ2:=[_,_]) S rfl rfl ?_
 rintro _ w26 M27 Γ' hM28 E' S ⟨A9,c10,A12,c13,A15,c16,A18,c19,A21,c22,vs24,rfl,hm25,rfl⟩
 replace HM:=Hp.le_trans HM hM28
 replace E:=E.trans E'
 replace S:St w26 M27 F [_,_,_,_,_,_,_,_]:=S
 refine Qx S 6 rfl ty43 rfl rfl [vI t7.1.Err,.bool t7.1.Found,vS t7.1.Value,.slice A9 t7.1.Pairs.length c10] rfl rfl rfl #[vI t7.1.Err,.bool t7.1.Found,vS t7.1.Value,.slice A9 t7.1.Pairs.length c10] rfl rfl ?_
 intro w29 E' S
 replace E:=E.trans E'
 refine QB (tn ?_)
 refine Qs ?_
 obtain rfl:=Option.some.inj H
 exact ⟨_,_,_,fun w1 e1=>QX (vs:=[.agg #[vI t7.1.Err,.bool t7.1.Found,vS t7.1.Value,.slice A9 t7.1.Pairs.length c10]]) (FA.cons (⟨_,rfl,Qn ty43 ((S.of_eq e1).blk 6 rfl) (QM rfl) rfl (by decide)⟩) (FA.nil)),HM,E,S.pick [0,1,2,3,4,5] (by decide),⟨A9,c10,A12,c13,A15,c16,A18,c19,A21,c22,vs24,rfl,hm25,rfl⟩⟩
def Yo (k:Nat) (a0:QJ) (a1:Int) (a2:Int) (a3:ZE):Option (Qc×QJ) :=
 (Option.bind (Z8 k a0 a3.Key (⟨a1,(0:Int),true,([]:Str)⟩:QS)) (fun t7=>some (t7.1,t7.2)))
theorem Yo.mono {k:Nat} {a0:QJ} {a1:Int} {a2:Int} {a3:ZE}:OLe (Yo k a0 a1 a2 a3) (Yo (k+1) a0 a1 a2 a3):=by
 unfold Yo
 have m1:=@Z8.mono
 exact mo
theorem Yo.con (k:Nat) (M:Hp) (A0_8:Option Addr) (c0_8:Nat) (A0_9:Option Addr) (c0_9:Nat) (A0_10:Option Addr) (c0_10:Nat) (A0_11:Option Addr) (c0_11:Nat) (vs0_11:List (Str×Value)) (a0:QJ) (a1:Int) (a2:Int) (a3:ZE) (bo0:Nat) (r:Qc×QJ) (hm0_11:YV Qk M a0.rows vs0_11) (h:Yo k a0 a1 a2 a3=some r):Con Tryd.prog 127 #[pt bo0 0,vI a1,vI a2,.agg #[vU a3.Kind,vI a3.Tx,vS a3.Key,vS a3.End,vS a3.Value,vI a3.Limit,vU a3.Engine]] M [B94 bo0 a0 A0_8 A0_9 A0_10 c0_10 A0_11,QT QF (Value.int .i64) A0_8 a0.names,QT (Value.int .i64) (Value.int .i64) A0_9 a0.many,Row QL 99 (.slice A0_10 a0.txs.length c0_10) a0.txs,QT encS (fun v:Value=>v) A0_11 vs0_11] (fun v M' Γ'=>∃ (Aq1:Option Addr) (cq2:Nat) (Aq4:Option Addr) (cq5:Nat) (Aq7:Option Addr) (cq8:Nat) (Aq10:Option Addr) (cq11:Nat) (Aq13:Option Addr) (cq14:Nat) (vsq16:List (Str×Value)),v=.agg #[vI r.1.Err,.bool r.1.Found,vS r.1.Value,.slice Aq1 r.1.Pairs.length cq2]∧YV Qk M' r.2.rows vsq16∧Γ'=[Row Qm 87 (.slice Aq1 r.1.Pairs.length cq2) r.1.Pairs,B94 bo0 r.2 Aq4 Aq7 Aq10 cq11 Aq13,QT QF (Value.int .i64) Aq4 r.2.names,QT (Value.int .i64) (Value.int .i64) Aq7 r.2.many,Row QL 99 (.slice Aq10 r.2.txs.length cq11) r.2.txs,QT encS (fun v:Value=>v) Aq13 vsq16]):=by
 refine Qt Tryd.func127 rfl Tryd.ntmps127 Tryd.results127 rfl ?_
 intro w F rn S hrn
 have E:=Ext.refl w
 have HM:=Hp.le_refl M
 have H:=h
 unfold Yo at H
 refine QE (QA ?_)
 refine Y8 S #[vU a3.Kind,vI a3.Tx,vS a3.Key,vS a3.End,vS a3.Value,vI a3.Limit,vU a3.Engine] rfl rfl rfl ?_
 intro b1 w2 E' S
 replace E:=E.trans E'
 refine Zo S cz14 ty43 rfl rfl ?_
 intro b4 w5 E' S
 replace E:=E.trans E'
 refine QB (tn (QE (QA (W_v (pt bo0 0) (QD rfl) rfl (W_v (pt b1 2) (QC (o:=0) (off:=2) Tryd.underlying37 rfl ty9 rfl rfl) rfl (W_v (vS a3.Key) (QO (S.blk 1 rfl) ty9 rfl rfl) rfl (W_v (vI a1) (QD rfl) rfl (W_v (.agg #[vI a1,vI 0,.bool true,vS ([]:Str)]) (Z3 (pl:=[(0,1),(1,1),(2,1),(3,1)]) #[vI a1,vI 0,.bool true,vS ([]:Str)] Tryd.underlying61 ty61 (by as_aux_lemma=>kernel_rfl) rfl (by as_aux_lemma=>kernel_rfl)) rfl ?_))))))))
 obtain ⟨t7,ht8,H⟩:=QW H
 replace S:St w5 M F [_,_,_,_,_,_,_]:=S.pick [2,3,4,5,6,0,1] (by decide)
 refine Yc fn134 (Z8.con k M A0_8 c0_8 A0_9 c0_9 A0_10 c0_10 A0_11 c0_11 vs0_11 a0 a3.Key (⟨a1,(0:Int),true,([]:Str)⟩:QS) bo0 t7 hm0_11 ht8) (Γ1:=[_,_,_,_,_]) (Γ2:=[_,_]) S rfl rfl ?_
 rintro _ w26 M27 Γ' hM28 E' S ⟨A9,c10,A12,c13,A15,c16,A18,c19,A21,c22,vs24,rfl,hm25,rfl⟩
 replace HM:=Hp.le_trans HM hM28
 replace E:=E.trans E'
 replace S:St w26 M27 F [_,_,_,_,_,_,_,_]:=S
 refine Qx S 6 rfl ty43 rfl rfl [vI t7.1.Err,.bool t7.1.Found,vS t7.1.Value,.slice A9 t7.1.Pairs.length c10] rfl rfl rfl #[vI t7.1.Err,.bool t7.1.Found,vS t7.1.Value,.slice A9 t7.1.Pairs.length c10] rfl rfl ?_
 intro w29 E' S
 replace E:=E.trans E'
 refine QB (tn ?_)
 refine Qs ?_
 obtain rfl:=Option.some.inj H
 exact ⟨_,_,_,fun w1 e1=>QX (vs:=[.agg #[vI t7.1.Err,.bool t7.1.Found,vS t7.1.Value,.slice A9 t7.1.Pairs.length c10]]) (FA.cons (⟨_,rfl,Qn ty43 ((S.of_eq e1).blk 6 rfl) (QM rfl) rfl (by decide)⟩) (FA.nil)),HM,E,S.pick [0,1,2,3,4,5] (by decide),⟨A9,c10,A12,c13,A15,c16,A18,c19,A21,c22,vs24,rfl,hm25,rfl⟩⟩
def Q3 (k:Nat) (a0:(List (Str×Ql))):Option (Unit) :=
 some ()
theorem Q3.mono {k:Nat} {a0:(List (Str×Ql))}:OLe (Q3 k a0) (Q3 (k+1) a0):=by
 unfold Q3
 exact mo
theorem Q3.con (k:Nat) (M:Hp) (A0:Option Addr) (vs0:List (Str×Value)) (a0:(List (Str×Ql))) (r:Unit) (hm0:YV Qk M a0 vs0) (h:Q3 k a0=some r):Con Tryd.prog 47 #[.map (mb A0)] M [QT encS (fun v:Value=>v) A0 vs0] (fun v M' Γ'=>∃ (bq1:Nat),v=.func (.func 75) #[] #[pt bq1 0]∧Γ'=[Blk bq1 (.cells #[.map (mb A0)] 91 (0,0)),QT encS (fun v:Value=>v) A0 vs0]):=by
 refine Qt Tryd.func47 rfl Tryd.ntmps47 Tryd.results47 rfl ?_
 intro w F rn S hrn
 have E:=Ext.refl w
 have HM:=Hp.le_refl M
 have H:=h
 unfold Q3 at H
 refine QE (QA ?_)
 refine Y8 S #[.map (mb A0)] rfl rfl rfl ?_
 intro b1 w2 E' S
 replace E:=E.trans E'
 refine W_v (.nilFunc) (QG rfl) rfl (QB (tn (QE (QA (W_v (.func (.func 75) #[] #[pt b1 0]) (X0 rfl) rfl (W_v (.func (.func 75) #[] #[pt b1 0]) (QG rfl) rfl (QB (tn ?_))))))))
 refine Qs ?_
 obtain rfl:=Option.some.inj H
 exact ⟨_,_,_,fun w1 e1=>QX (vs:=[.func (.func 75) #[] #[pt b1 0]]) (FA.cons (rfl) (FA.nil)),HM,E,S.pick [0,1] (by decide),⟨b1,rfl,rfl⟩⟩
theorem K2 (M:Hp) (b0:Nat) (A0:Option Addr) (vs:List (Str×Value)) (hn:(vs.map fun x:Str×Value=>x.1).Nodup) (hl:vs.length≤1000000000):Iter Tryd.prog 75 [pt b0 0] M (fun _ (x:Str) (ws:List Value)=>ws=[vS x]) (fun x s=>if s.length≤1000000000 then some (.inl (insl ltS x s):List Str⊕Unit) else none) [] (.inl (isort ltS (vs.map fun x:Str×Value=>x.1))) [Blk b0 (.cells #[.map (mb A0)] 91 (0,0)),QT encS (fun v:Value=>v) A0 vs] (fun M' Γ'=>Γ'=[Blk b0 (.cells #[.map (mb A0)] 91 (0,0)),QT encS (fun v:Value=>v) A0 vs]):=by
 intro lp B hY
 refine Qt Tryd.func75 rfl Tryd.ntmps75 Tryd.results75 rfl ?_
 intro w F rn S hrn
 have E:=Ext.refl w
 have HM:=Hp.le_refl M
 refine QE (QA (W_v (.map (mb A0)) (QO (S.blk 1 rfl) ty91 rfl rfl) rfl ?_))
 refine Vo S 2 rfl Tryd.underlying91 hn rfl rfl ?_
 intro bi w1 E' S
 replace E:=E.trans E'
 refine QB (tn ?_)
 replace S:St w1 M F [_,_,_]:=S
 refine Yj (fun ρ w'=>∃ (Mj:Hp),M.le Mj∧Ext w w'∧St w' Mj F [B (.inl (isort ltS (vs.map fun x:Str×Value=>x.1))),Blk b0 (.cells #[.map (mb A0)] 91 (0,0)),QT encS (fun v:Value=>v) A0 vs]) ?_ ?_
 ·refine Y3 (fun n ρ w'=>∃ (todo dn:List Str) (Mj:Hp),todo.length=n∧(dn++todo).Perm (vs.map fun x:Str×Value=>x.1)∧Qi ρ [(0,.func (.yield lp) #[] #[]),(5,pt bi 0)]∧M.le Mj∧Ext w w'∧St w' Mj F [B (.inl (isort ltS dn)),Blk b0 (.cells #[.map (mb A0)] 91 (0,0)),RangeM encS (fun v:Value=>v) A0 bi vs todo none]) (vs.map fun x:Str×Value=>x.1).length ?_ ?_
  ·exact ⟨(vs.map fun x:Str×Value=>x.1),[],M,rfl,List.Perm.refl _,⟨rfl,rfl,trivial⟩,HM,E,S⟩
  ·intro n
   rintro ρ w2 ⟨todo,dn,Mj,hlen,hp,hρ,HM,E,S⟩
   rw [QI hρ]
   refine QE (QA ?_)
   refine V6 S 2 rfl rfl rfl ?_ ?_
   ·intro y v w3 hy hv E' S
    replace E:=E.trans E'
    refine W_v (.bool true) (ZB rfl rfl) rfl (QB (tn (QE (QQ rfl (Qr (tn ?_))))))
    refine YP ?_
    refine QE (QA (W_v (.tuple #[encS y,v]) (Vd S 2 rfl hv rfl) rfl (W_v (vS y) (ZB rfl rfl) rfl ?_)))
    replace S:=S.rangeM_seen 2 rfl
    refine W_v (vS y) (QG rfl) rfl (QB (tn (QE (QA (W_v (.func (.yield lp) #[] #[]) (QD rfl) rfl (W_v (vS y) (QD rfl) rfl ?_))))))
    have hlim:(isort ltS dn).length≤1000000000:=by
     have h1:=hp.length_eq
     rw [(Xd _).length_eq]
     simp only [List.length_append,List.length_map] at h1
     omega
    refine KE rfl (hY _ y _ (isort ltS dn) (.inl (insl ltS y (isort ltS dn))) HM rfl (if_pos hlim)) S rfl rfl ?_
    rintro _ w4 M4 _ hM4 E' S ⟨rfl,rfl⟩
    replace E:=E.trans E'
    refine W_v (.bool (!(isNorm (.inl (insl ltS y (isort ltS dn)):List Str⊕Unit)))) (Y5 rfl) rfl (QB (tn (QK rfl (Qr (bn (tn ?_))))))
    have hlt:(er todo y).length < n:=by
     rw [← hlen,er_len hy]
     have:=List.length_pos_of_mem hy
     omega
    have hp2:((y::dn)++er todo y).Perm (vs.map fun x:Str×Value=>x.1):=by
     refine List.Perm.trans ?_ hp
     refine List.Perm.trans ?_ ((permE hy).symm.append_left dn)
     exact (List.perm_middle (a:=y) (l₁:=dn) (l₂:=er todo y)).symm
    have e8:isort ltS (y::dn)=insl ltS y (isort ltS dn):=rfl
    rw [← e8] at S
    replace S:St w4 M4 F [_,_,_]:=S
    exact ⟨(er todo y).length,hlt,er todo y,y::dn,M4,rfl,hp2,⟨rfl,rfl,trivial⟩,Hp.le_trans HM hM4,E,S⟩
   ·intro w3 ht E' S
    replace E:=E.trans E'
    subst ht
    refine W_v (.bool false) (ZB rfl rfl) rfl (QB (tn (QE (QK rfl ?_))))
    refine Y0 ?_
    refine tx (tx (bsm ?_))
    refine tn ?_
    rw [List.append_nil] at hp
    have e9:isort ltS dn=isort ltS (vs.map fun x:Str×Value=>x.1):=Vq Xo ((Xd _).trans (hp.trans (Xd _).symm)) (Xk X9 _) (Xk X9 _)
    rw [e9] at S
    exact ⟨Mj,HM,E,S.rangeM_end 2 rfl⟩
 rintro ρ w2 ⟨Mj,HM,E,S⟩
 exact ⟨_,_,_,fun w1 e1=>QX (vs:=[]) FA.nil,HM,E,S.pick [0,1,2] (by decide),⟨_,rfl,rfl⟩⟩
theorem qE (M:Hp) (b0:Nat) (A0:Option Addr) (vs:List (Str×Value)) (hn:(vs.map fun x:Str×Value=>x.1).Nodup) (hl:vs.length≤1000000000):Con Tryd.prog 84 #[.slice none 0 0,.func (.func 75) #[] #[pt b0 0]] M [Blk b0 (.cells #[.map (mb A0)] 91 (0,0)),QT encS (fun v:Value=>v) A0 vs] (fun v M' Γ'=>∃ (A:Option Addr) (c:Nat) (l:List Str),l.Perm (vs.map fun x:Str×Value=>x.1)∧v=.slice A l.length c∧Γ'=[Row rStr 9 (.slice A l.length c) l,Blk b0 (.cells #[.map (mb A0)] 91 (0,0)),QT encS (fun v:Value=>v) A0 vs]):=by
 refine Qt Tryd.func84 rfl Tryd.ntmps84 Tryd.results84 rfl ?_
 intro w F rn S hrn
 have E:=Ext.refl w
 refine QE (QA ?_)
 refine Y8 S #[.slice none 0 0] rfl rfl rfl ?_
 intro b2 w1 E' S
 replace E:=E.trans E'
 refine W_v (.slice none 0 0) (QG rfl) rfl (QB (tn (QE (QE (QA (W_v (.func (.func 75) #[] #[pt b0 0]) (QD rfl) rfl (QB (tn ?_))))))))
 refine YP ?_
 replace S:=S.row_nil rStr 9
 refine VI (σ:=List Str) (ε:=Unit) (Γi:=[Blk b0 (.cells #[.map (mb A0)] 91 (0,0)),QT encS (fun v:Value=>v) A0 vs]) (Γr:=[]) (Sum.elim (fun s=>AE (ι:=List Str×Option Addr×Nat) (fun ⟨l,A,c⟩=>[Row rStr 9 (.slice A l.length c) l,Blk b2 (.cells #[.slice A l.length c] 67 (0,0))]) (fun _ ⟨l,A,c⟩=>l.Perm s) (by rintro _ _ ⟨l,A,c⟩ _ h;exact h)) (fun _=>Star [])) (fun _=>Code.ret) fn75 rfl
  (St.close_ex (φ:=fun (_:Hp) (⟨l,A,c⟩:List Str×Option Addr×Nat)=>l.Perm ([]:List Str)) (hφ:=by rintro _ _ ⟨l,A,c⟩ _ h;exact h) (([]:List Str),(none:Option Addr),0) (List.Perm.refl _) (S.pick [0,1,2,3] (by decide))) (by rintro _ _ _ rfl;rfl) (by decide) (K2 M b0 A0 vs hn hl) ?_ ?_
 ·intro nn lp M1 F y ws ss tt w hM1 henc hbd S
  obtain rfl:=henc
  replace S:St w M1 F (AE (ι:=List Str×Option Addr×Nat) (fun ⟨l,A,c⟩=>[Row rStr 9 (.slice A l.length c) l,Blk b2 (.cells #[.slice A l.length c] 67 (0,0))]) (fun _ ⟨l,A,c⟩=>l.Perm ss) (by rintro _ _ ⟨l,A,c⟩ _ h;exact h)::[]):=S
  obtain ⟨⟨l,A,c⟩,hls,S⟩:=S.open_ex
  replace S:St w M1 F [_,_]:=S
  replace hls:l.Perm ss:=hls
  have hb9:ss.length≤1000000000∧tt=.inl (insl ltS y ss):=by
   by_cases h:ss.length≤1000000000
   ·rw [if_pos h] at hbd;exact ⟨h,(Option.some.inj hbd).symm⟩
   ·rw [if_neg h] at hbd;cases hbd
  obtain ⟨hb8,rfl⟩:=hb9
  have E:=Ext.refl w
  refine QA (W_v (vS y) (QG rfl) rfl (QB ?_))
  refine YU ⟨_,_,Hp.le_refl _,E,S,?_⟩
  intro w F E3 S
  have E:=Ext.refl w
  refine YP ?_
  refine QA (W_v (.slice A l.length c) (QO (S.blk 1 rfl) ty67 rfl rfl) rfl (W_v (vS y) (QD rfl) rfl ?_))
  refine XE S #[vS y] Tryd.underlying67 ty9 rfl rfl #[.string ⟨#[]⟩] (by kernel_rfl) (by kernel_rfl) rfl ?_
  intro b3 w3 E' S
  replace E:=E.trans E'
  replace S:=S.blk_row (r:=rStr) (l:=[y]) 0 rfl 1 (Nat.le_refl 1) rfl (Cells.cons (vs:=[vS y]) (rfl) Cells.nil)
  obtain ⟨src,hs,hC⟩:=Y1 (P:=Tryd.prog) (ρ:=rStr) (l:=[y]) (S.row_read 0 rfl) (by decide)
  refine XL S 1 rfl rfl rfl Tryd.underlying67 (.inl Tryd.underlying67) ty9 rfl (by decide) (by decide) hs hC rfl (by rw [hls.length_eq];simp only [List.length_cons,List.length_nil];omega) rfl ?_
  intro v7 w7 E' S
  replace E:=E.trans E'
  obtain ⟨A7,c7,rfl,_⟩:=(S.row_read 1 rfl).form
  refine Qx S 2 rfl ty67 rfl rfl [.slice A7 (l++[y]).length c7] rfl rfl rfl #[.slice A7 (l++[y]).length c7] rfl rfl ?_
  intro w8 E' S
  replace E:=E.trans E'
  refine QB (bn ?_)
  have hp7:(l++[y]).Perm (insl ltS y ss):=((List.perm_append_comm (l₁:=l) (l₂:=[y])).trans (hls.cons y)).trans (VV y ss).symm
  exact V3 trivial (Hp.le_refl _) E (St.close_ex (φ:=fun (_:Hp) (⟨l,A,c⟩:List Str×Option Addr×Nat)=>l.Perm (insl ltS y ss)) (hφ:=by rintro _ _ ⟨l,A,c⟩ _ h;exact h) (l++[y],A7,c7) hp7 (S.pick [1,2] (by decide)))
 intro w9 M9 Γ' h9 E' hΨ S
 obtain rfl:Γ'=_:=hΨ
 replace E:=E.trans E'
 refine UW ?_
 replace S:St w9 M9 F (AE (ι:=List Str×Option Addr×Nat) (fun ⟨l,A,c⟩=>[Row rStr 9 (.slice A l.length c) l,Blk b2 (.cells #[.slice A l.length c] 67 (0,0))]) (fun _ ⟨l,A,c⟩=>l.Perm (isort ltS (vs.map fun x:Str×Value=>x.1))) (by rintro _ _ ⟨l,A,c⟩ _ h;exact h)::[Blk b0 (.cells #[.map (mb A0)] 91 (0,0)),QT encS (fun v:Value=>v) A0 vs]):=S
 obtain ⟨⟨l,A,c⟩,hls,S⟩:=S.open_ex
 replace S:St w9 M9 F [_,_,_,_]:=S
 replace hls:l.Perm (isort ltS (vs.map fun x:Str×Value=>x.1)):=hls
 refine bn (tn ?_)
 as_aux_lemma =>
 refine QE (QA (W_v (.slice A l.length c) (QO (S.blk 1 rfl) ty67 rfl rfl) rfl (W_v (.slice A l.length c) (QG rfl) rfl (QB (tn ?_)))))
 refine Qs ?_
 exact ⟨_,_,_,fun w1 e1=>QX (vs:=[.slice A l.length c]) (FA.cons (rfl) (FA.nil)),h9,E,S.pick [0,2,3] (by decide),⟨A,c,l,hls.trans (Xd _),rfl,rfl⟩⟩
theorem K7 (M:Hp) (b0:Nat) (A0:Option Addr) (vs:List (Str×Value)) (hn:(vs.map fun x:Str×Value=>x.1).Nodup) (hl:vs.length≤1000000000):Con Tryd.prog 73 #[.func (.func 75) #[] #[pt b0 0]] M [Blk b0 (.cells #[.map (mb A0)] 91 (0,0)),QT encS (fun v:Value=>v) A0 vs] (fun v M' Γ'=>∃ (A:Option Addr) (c:Nat) (l:List Str),l.Perm (vs.map fun x:Str×Value=>x.1)∧v=.slice A l.length c∧Γ'=[Row rStr 9 (.slice A l.length c) l,Blk b0 (.cells #[.map (mb A0)] 91 (0,0)),QT encS (fun v:Value=>v) A0 vs]):=by
 refine Qt Tryd.func73 rfl Tryd.ntmps73 Tryd.results73 rfl ?_
 intro w F rn S hrn
 have E:=Ext.refl w
 refine QE (QA (W_v (.slice none 0 0) (QG rfl) rfl (QB (tn (QE (QA (W_v (.func (.func 75) #[] #[pt b0 0]) (QD rfl) rfl ?_)))))))
 refine Yc fn84 (qE M b0 A0 vs hn hl) (Γ2:=[]) S rfl rfl ?_
 rintro _ w2 M2 Γ' hM2 E' S ⟨A,c,l,hp,rfl,rfl⟩
 replace E:=E.trans E'
 refine W_v (.slice A l.length c) (QG rfl) rfl (QB (tn ?_))
 refine Qs ?_
 exact ⟨_,_,_,fun w1 e1=>QX (vs:=[.slice A l.length c]) (FA.cons (rfl) (FA.nil)),hM2,E,S.pick [0,1,2] (by decide),⟨A,c,l,hp,rfl,rfl⟩⟩
theorem Kd (M:Hp) (x y:Str):Con Tryd.prog 48 #[encS x,encS y] M [] (fun v _ _=>v=vI (cfS x y)):=(Xc.con 9 M x y (cfS x y) rfl).mono fun v M' Γ' _ h=>h.1
def Qg (k:Nat) (a0_0:List (Str×Ql)):Option (List Str):=if (a0_0.map fun p:Str×Ql=>p.1).Nodup∧a0_0.length≤1000000000 then some (isort ltS (a0_0.map fun p:Str×Ql=>p.1)) else none
theorem Qg.mono {k:Nat} {a0_0:List (Str×Ql)}:OLe (Qg k a0_0) (Qg (k+1) a0_0):=fun r h=>h
theorem Qg.con (k:Nat) (M:Hp) (A0_0:Option Addr) (vs0_0:List (Str×Value)) (a0_0:(List (Str×Ql))) (b0_0:Nat) (r:(List Str)) (hm0_0:YV Qk M a0_0 vs0_0) (h:Qg k a0_0=some r):Con Tryd.prog 46 #[.func (.func 75) #[] #[pt b0_0 0],.func (.func 48) #[] #[]] M [Blk b0_0 (.cells #[.map (mb A0_0)] 91 (0,0)),QT encS (fun v:Value=>v) A0_0 vs0_0] (fun v M' Γ'=>∃ (Aq1:Option Addr) (cq2:Nat),v=.slice Aq1 r.length cq2∧Γ'=[Row rStr 9 (.slice Aq1 r.length cq2) r,Blk b0_0 (.cells #[.map (mb A0_0)] 91 (0,0)),QT encS (fun v:Value=>v) A0_0 vs0_0]):=by
 refine Qt Tryd.func46 rfl Tryd.ntmps46 Tryd.results46 rfl ?_
 intro w F rn S hrn
 have E:=Ext.refl w
 have H:=h
 unfold Qg at H
 obtain ⟨⟨hnd,hlim⟩,H⟩:=Yy H
 have hk:=hm0_0.keys
 refine QE (QA (W_v (.slice none 0 0) (QG rfl) rfl (QB (tn (QE (QA (W_v (.func (.func 75) #[] #[pt b0_0 0]) (QD rfl) rfl ?_)))))))
 refine Yc fn73 (K7 M b0_0 A0_0 vs0_0 (by rw [hk];exact hnd) (by rw [hm0_0.length];exact hlim)) (Γ2:=[]) S rfl rfl ?_
 rintro _ w2 M2 Γ' hM2 E' S ⟨A,c,l,hp,rfl,rfl⟩
 replace E:=E.trans E'
 rw [hk] at hp
 refine W_v (.slice A l.length c) (QG rfl) rfl (QB (tn (QE (QA (W_v (.slice A l.length c) (QD rfl) rfl (W_v (.func (.func 48) #[] #[]) (QD rfl) rfl ?_))))))
 have hl8:l.length < 4611686018427387904:=by
  have h1:=hp.length_eq
  simp only [List.length_map] at h1
  omega
 obtain ⟨fn9,hf9,hb9,hn9⟩:=fn74.ex
 have hcs:=KM S 0 rfl Go.Proofs.Tryd.sortStr encS rfl (fun x=>rfl) (fun _ _ _=>Iff.rfl) cfS X9 Xo 48 fn48 Kd hl8
 refine VJ (f:=74) (args:=#[.slice A l.length c,.func (.func 48) #[] #[]]) (R:=fun v w'=>v=.tuple #[]∧Ext w2 w'∧St w' M2 F _) rfl (UB hf9 hb9 hn9) (fun _ _ ⟨_,h,_⟩=>h) (Calls.mono hcs fun e w' ⟨he,h⟩=>⟨_,he,rfl,h⟩) rfl ?_
 rintro v9 w9 ⟨rfl,E',S⟩
 replace E:=E.trans E'
 rw [JJ X9 Xo hp] at S
 obtain rfl:=Option.some.inj H
 have hle:l.length=(isort ltS (a0_0.map fun p:Str×Ql=>p.1)).length:=by rw [(Xd _).length_eq,hp.length_eq]
 rw [hle] at S
 rw [hle]
 refine QB (tn (QE (QA (W_v (.slice A (isort ltS (a0_0.map fun p:Str×Ql=>p.1)).length c) (QD rfl) rfl (W_v (.slice A (isort ltS (a0_0.map fun p:Str×Ql=>p.1)).length c) (QG rfl) rfl (QB (tn ?_)))))))
 refine Qs ?_
 exact ⟨_,_,_,fun w1 e1=>QX (vs:=[.slice A (isort ltS (a0_0.map fun p:Str×Ql=>p.1)).length c]) (FA.cons (rfl) (FA.nil)),hM2,E,S.pick [0,1,2] (by decide),⟨A,c,rfl,rfl⟩⟩
def ZR (k:Nat) (a0:QJ):Option ((List Str)) :=
 (Option.bind (Q3 k a0.rows) (fun t1=>(Option.bind (Qg k a0.rows) (fun t8=>some t8))))
theorem ZR.mono {k:Nat} {a0:QJ}:OLe (ZR k a0) (ZR (k+1) a0):=by
 unfold ZR
 have m1:=@Q3.mono
 have m2:=@Qg.mono
 exact mo
theorem ZR.con (k:Nat) (M:Hp) (A0_8:Option Addr) (c0_8:Nat) (A0_9:Option Addr) (c0_9:Nat) (A0_10:Option Addr) (c0_10:Nat) (A0_11:Option Addr) (c0_11:Nat) (vs0_11:List (Str×Value)) (a0:QJ) (bo0:Nat) (r:(List Str)) (hm0_11:YV Qk M a0.rows vs0_11) (h:ZR k a0=some r):Con Tryd.prog 27 #[pt bo0 0] M [B94 bo0 a0 A0_8 A0_9 A0_10 c0_10 A0_11,QT QF (Value.int .i64) A0_8 a0.names,QT (Value.int .i64) (Value.int .i64) A0_9 a0.many,Row QL 99 (.slice A0_10 a0.txs.length c0_10) a0.txs,QT encS (fun v:Value=>v) A0_11 vs0_11] (fun v M' Γ'=>∃ (Aq1:Option Addr) (cq2:Nat),v=.slice Aq1 r.length cq2∧Γ'=[Row rStr 9 (.slice Aq1 r.length cq2) r,B94 bo0 a0 A0_8 A0_9 A0_10 c0_10 A0_11,QT QF (Value.int .i64) A0_8 a0.names,QT (Value.int .i64) (Value.int .i64) A0_9 a0.many,Row QL 99 (.slice A0_10 a0.txs.length c0_10) a0.txs,QT encS (fun v:Value=>v) A0_11 vs0_11]):=by
 refine Qt Tryd.func27 rfl Tryd.ntmps27 Tryd.results27 rfl ?_
 intro w F rn S hrn
 have E:=Ext.refl w
 have HM:=Hp.le_refl M
 have H:=h
 unfold ZR at H
 refine QE (QA (W_v (.slice none 0 0) (QG rfl) rfl (QB (tn (QE (QE (QA (W_v (pt bo0 0) (QD rfl) rfl (W_v (.bool false) (Xe (r:=false) rfl rfl (XW Tryd.underlying27)) rfl (QB (tn (QK rfl (Qr (tn (QE ?_)))))))))))))))
 refine QA (W_v (pt bo0 0) (QD rfl) rfl (W_v (pt bo0 0) (Qo rfl) rfl (W_v (pt bo0 11) (QC (o:=0) (off:=11) Tryd.underlying94 rfl ty91 rfl rfl) rfl (W_v (.map (mb A0_11)) (QO (S.blk 0 rfl) ty91 rfl rfl) rfl ?_))))
 obtain ⟨t1,ht2,H⟩:=QW H
 replace S:St w M F [_,_,_,_,_]:=S.pick [4,0,1,2,3] (by decide)
 refine Z5 fn47 (Q3.con k M A0_11 vs0_11 a0.rows t1 hm0_11 ht2) (Γ1:=[_]) (Γ2:=[_,_,_,_]) S rfl rfl (by rintro _ _ _ ⟨_,rfl,rfl⟩;exact (QN ZW (QN Qu Qd))) ?_
 rintro _ w5 _ Γ' E' S ⟨b3,rfl,rfl⟩
 replace E:=E.trans E'
 replace S:St w5 M F [_,_,_,_,_,_]:=S
 obtain ⟨t8,ht9,H⟩:=QW H
 refine Z5 fn46 (Qg.con k M A0_11 vs0_11 a0.rows b3 t8 hm0_11 ht9) (Γ1:=[_,_]) (Γ2:=[_,_,_,_]) S rfl rfl (by rintro _ _ _ ⟨_,_,rfl,rfl⟩;exact (QN (YI (fun _ _ _ _ h=>h)) (QN ZW (QN Qu Qd)))) ?_
 rintro _ w13 _ Γ' E' S ⟨A10,c11,rfl,rfl⟩
 replace E:=E.trans E'
 replace S:St w13 M F [_,_,_,_,_,_,_]:=S
 refine W_v (.slice A10 t8.length c11) (QG rfl) rfl (QB (tn ?_))
 refine Qs ?_
 obtain rfl:=Option.some.inj H
 exact ⟨_,_,_,fun w1 e1=>QX (vs:=[.slice A10 t8.length c11]) (FA.cons (rfl) (FA.nil)),HM,E,S.pick [0,3,4,5,6,2] (by decide),⟨A10,c11,rfl,rfl⟩⟩
def Z4 (a0:QJ) (a1:Int) (a3:ZE) (t7:(List Str)):Nat→List Qf→Int→Option ((List Qf))
 | 0,_,_=>none
 | k+1,x187,x191=>(if (decide (x191 < (t7.length:Int)))=true then (if 0≤x191∧x191 < (t7.length:Int) then (if ((x187.length:Int)==a3.Limit)=true then some (x187) else (Option.bind (Zx k a0 a1 ((mget a0.rows (rd t7 x191)).getD cz18)) (fun t297=>(Option.bind (α:=Bool) (if t297.2=true then (Option.bind (XS k (rd t7 x191) a3.Key a3.End) (fun t311=>some (t311))) else some (false)) (fun x309=>(Option.bind (α:=List Qf) (if x309=true then (if x187.length+([(⟨(rd t7 x191),t297.1⟩:Qf)]:List Qf).length≤4398046511104 then some ((x187++([(⟨(rd t7 x191),t297.1⟩:Qf)]:List Qf))) else none) else some (x187)) (fun x339=>Z4 a0 a1 a3 t7 k x339 (IntKind.i64.wrap (x191+(1:Int)))))))))) else none) else some (x187))
theorem Z4.mono {a0:QJ} {a1:Int} {a3:ZE} {t7:(List Str)}:∀ {kl:Nat} {x0 x1},OLe (Z4 a0 a1 a3 t7 kl x0 x1) (Z4 a0 a1 a3 t7 (kl+1) x0 x1):=by
 intro kl
 induction kl with
 | zero=>intros;exact OLe.none
 | succ kl ih =>
  intros
  rw [Z4.eq_2,Z4.eq_2]
  have m1:=@Zx.mono
  have m2:=@XS.mono
  exact mo
def Ya (k:Nat) (a0:QJ) (a1:Int) (a2:Int) (a3:ZE):Option (Qc) :=
 (Option.bind (ZR k a0) (fun t7=>(Option.bind (Z4 a0 a1 a3 t7 k ([]:List Qf) (0:Int)) (fun x271=>some (⟨(0:Int),false,([]:Str),x271⟩:Qc)))))
theorem Ya.mono {k:Nat} {a0:QJ} {a1:Int} {a2:Int} {a3:ZE}:OLe (Ya k a0 a1 a2 a3) (Ya (k+1) a0 a1 a2 a3):=by
 unfold Ya
 have m1:=@ZR.mono
 have m2:=@Z4.mono
 exact mo
theorem Ya.con (k:Nat) (M:Hp) (A0_8:Option Addr) (c0_8:Nat) (A0_9:Option Addr) (c0_9:Nat) (A0_10:Option Addr) (c0_10:Nat) (A0_11:Option Addr) (c0_11:Nat) (vs0_11:List (Str×Value)) (a0:QJ) (a1:Int) (a2:Int) (a3:ZE) (bo0:Nat) (r:Qc) (hm0_11:YV Qk M a0.rows vs0_11) (h:Ya k a0 a1 a2 a3=some r):Con Tryd.prog 128 #[pt bo0 0,vI a1,vI a2,.agg #[vU a3.Kind,vI a3.Tx,vS a3.Key,vS a3.End,vS a3.Value,vI a3.Limit,vU a3.Engine]] M [B94 bo0 a0 A0_8 A0_9 A0_10 c0_10 A0_11,QT QF (Value.int .i64) A0_8 a0.names,QT (Value.int .i64) (Value.int .i64) A0_9 a0.many,Row QL 99 (.slice A0_10 a0.txs.length c0_10) a0.txs,QT encS (fun v:Value=>v) A0_11 vs0_11] (fun v M' Γ'=>∃ (Aq1:Option Addr) (cq2:Nat),v=.agg #[vI r.Err,.bool r.Found,vS r.Value,.slice Aq1 r.Pairs.length cq2]∧Γ'=[Row Qm 87 (.slice Aq1 r.Pairs.length cq2) r.Pairs,B94 bo0 a0 A0_8 A0_9 A0_10 c0_10 A0_11,QT QF (Value.int .i64) A0_8 a0.names,QT (Value.int .i64) (Value.int .i64) A0_9 a0.many,Row QL 99 (.slice A0_10 a0.txs.length c0_10) a0.txs,QT encS (fun v:Value=>v) A0_11 vs0_11]):=by
 refine Qt Tryd.func128 rfl Tryd.ntmps128 Tryd.results128 rfl ?_
 intro w F rn S hrn
 have E:=Ext.refl w
 have HM:=Hp.le_refl M
 have H:=h
 unfold Ya at H
 refine QE (QA ?_)
 refine Y8 S #[vU a3.Kind,vI a3.Tx,vS a3.Key,vS a3.End,vS a3.Value,vI a3.Limit,vU a3.Engine] rfl rfl rfl ?_
 intro b1 w2 E' S
 replace E:=E.trans E'
 refine Zo S cz14 ty43 rfl rfl ?_
 intro b4 w5 E' S
 replace E:=E.trans E'
 refine QB (tn (QE (QA (W_v (.slice none 0 0) (QG rfl) rfl (QB (tn (QE (QE (QA (W_v (pt bo0 0) (QD rfl) rfl ?_))))))))))
 obtain ⟨t7,ht8,H⟩:=QW H
 replace S:St w5 M F [_,_,_,_,_,_,_]:=S.pick [2,3,4,5,6,0,1] (by decide)
 refine Z5 fn27 (ZR.con k M A0_8 c0_8 A0_9 c0_9 A0_10 c0_10 A0_11 c0_11 vs0_11 a0 bo0 t7 hm0_11 ht8) (Γ1:=[_,_,_,_,_]) (Γ2:=[_,_]) S rfl rfl (by rintro _ _ _ ⟨_,_,rfl,rfl⟩;exact (QN (YI (fun _ _ _ _ h=>h)) (QN ZW (QN Qu (QN Qu (QN (YI (fun _ _ _ _ h=>h)) (QN Qu Qd))))))) ?_
 rintro _ w12 _ Γ' E' S ⟨A9,c10,rfl,rfl⟩
 replace E:=E.trans E'
 replace S:St w12 M F [_,_,_,_,_,_,_,_]:=S
 refine W_v (vI (t7.length:Int)) (Q8 (n:=t7.length) Tryd.underlying67 rfl) rfl (W_v (vI 0) (QD rfl) rfl (QB (tn ?_)))
 obtain ⟨o275,o275h,o275H⟩:=QW H
 refine Yj (fun ρ w'=>∃ (x271:List Qf) (A272:Option Addr) (c273:Nat),(x271)=o275∧Qi ρ [(8,pt b4 0),(9,.slice A272 x271.length c273)]∧Ext w w'∧St w' M F [Row Qm 87 (.slice A272 x271.length c273) x271,B94 bo0 a0 A0_8 A0_9 A0_10 c0_10 A0_11,QT QF (Value.int .i64) A0_8 a0.names,QT (Value.int .i64) (Value.int .i64) A0_9 a0.many,Row QL 99 (.slice A0_10 a0.txs.length c0_10) a0.txs,QT encS (fun v:Value=>v) A0_11 vs0_11,Blk b4 (.cells cz14 43 (0,0))]) ?_ ?_
 ·skip
  refine Y3 (fun n ρ w'=>∃ (x187:List Qf) (x191:Int) (A188:Option Addr) (c189:Nat),Z4 a0 a1 a3 t7 n x187 x191=some o275∧Qi ρ [(0,pt bo0 0),(1,vI a1),(7,pt b1 0),(8,pt b4 0),(9,.slice A188 x187.length c189),(15,.slice A9 t7.length c10),(16,vI (t7.length:Int)),(17,vI x191)]∧Ext w w'∧St w' M F [Row Qm 87 (.slice A188 x187.length c189) x187,Row rStr 9 (.slice A9 t7.length c10) t7,B94 bo0 a0 A0_8 A0_9 A0_10 c0_10 A0_11,QT QF (Value.int .i64) A0_8 a0.names,QT (Value.int .i64) (Value.int .i64) A0_9 a0.many,Row QL 99 (.slice A0_10 a0.txs.length c0_10) a0.txs,QT encS (fun v:Value=>v) A0_11 vs0_11,Blk b4 (.cells cz14 43 (0,0)),B37 b1 a3]) k ?_ ?_
  ·skip
   replace S:=S.row_nil Qm 87
   exact ⟨([]:List Qf),(0:Int),none,0,o275h,⟨rfl,rfl,rfl,rfl,rfl,rfl,rfl,rfl,trivial⟩,E,S.pick [0,1,2,3,4,5,6,7,8] (by decide)⟩
  ·intro n
   rintro ρ w277 ⟨x187,x191,A188,c189,H,hρ,E,S⟩
   rw [QI hρ]
   cases n with
   | zero=>cases H
   | succ k =>
    rw [Z4.eq_2] at H
    refine QE (QA (W_v (.bool (decide (x191 < (t7.length:Int)))) (Qa rfl rfl rfl rfl) rfl (QB (tn (QE ?_)))))
    rcases Zf H with ⟨hb278,H⟩ | ⟨hb278,H⟩
    ·refine QQ (congrArg Value.bool hb278) ?_
     refine Qr (tn (QE ?_))
     refine YP ?_
     refine QE (QA ?_)
     obtain ⟨⟨p279,p280⟩,H⟩:=Yy H
     obtain ⟨b281,o282,cs283,_,_,ee288,hb284,vs285,hR286,hc287⟩:=SlW.at' (S.row_read 1 rfl) p279 p280
     obtain rfl:vs285=_:=hR286
     refine W_v (.pointer (some ⟨b281,o282+x191.toNat*1,none⟩)) (Qy Tryd.underlying67 ty9 (slA ee288) rfl p279 p280) rfl (W_v (vS (rd t7 x191)) (QO (Hp.of_get hb284) ty9 rfl (hc287 0 _ rfl)) rfl (W_v (vS (rd t7 x191)) (QG rfl) rfl (QB (tn (QE (QE (QA (W_v (.slice A188 x187.length c189) (QD rfl) rfl (W_v (vI (x187.length:Int)) (Q8 (n:=x187.length) Tryd.underlying41 rfl) rfl (W_v (pt b1 5) (QC (o:=0) (off:=5) Tryd.underlying37 rfl ty3 rfl rfl) rfl (W_v (vI a3.Limit) (QO (S.blk 8 rfl) ty3 rfl rfl) rfl (W_v (.bool ((x187.length:Int)==a3.Limit)) (Qa rfl rfl rfl rfl) rfl (QB (tn ?_))))))))))))))
     rcases Zf H with ⟨hb289,H⟩ | ⟨hb289,H⟩
     ·refine QQ (congrArg Value.bool hb289) ?_
      refine Y0 ?_
      refine tx (bx rfl (tx (tx (bsm (?_)))))
      refine tn ?_
      exact ⟨x187,A188,c189,Option.some.inj H,⟨rfl,rfl,trivial⟩,E,S.pick [0,2,3,4,5,6,7] (by decide)⟩
     refine QK (congrArg Value.bool hb289) (Qr (tn (QE (QA (W_v (pt bo0 0) (QD rfl) rfl (W_v (vI a1) (QD rfl) rfl (W_v (pt bo0 0) (QD rfl) rfl (W_v (pt bo0 0) (Qo rfl) rfl (W_v (pt bo0 11) (QC (o:=0) (off:=11) Tryd.underlying94 rfl ty91 rfl rfl) rfl (W_v (.map (mb A0_11)) (QO (S.blk 2 rfl) ty91 rfl rfl) rfl (W_v (vS (rd t7 x191)) (QD rfl) rfl ?_)))))))))))
     obtain ⟨cs290,hR291,he292⟩:=hm0_11.get (rd t7 x191) (z:=cz18) (zc:=[.slice none 0 0,vI 0,vI 0,.bool false,vS ([]:Str)]) ⟨_,SlW.nil _ _,rfl⟩
     obtain ⟨v296,hs295,rfl⟩:=hR291
     obtain ⟨A293,c294,rfl,_⟩:=hs295.form
     refine W_v (.agg #[.slice A293 (((mget a0.rows (rd t7 x191)).getD cz18).l).length c294,vI (((mget a0.rows (rd t7 x191)).getD cz18).intent.Writer),vI (((mget a0.rows (rd t7 x191)).getD cz18).intent.TS),.bool (((mget a0.rows (rd t7 x191)).getD cz18).intent.Tomb),vS (((mget a0.rows (rd t7 x191)).getD cz18).intent.Value)]) ((Eq.trans (Xj S 6 rfl Tryd.underlying91 key9 (Value.agg cz9) (fun _=>ty101.zero) (rd t7 x191) rfl rfl) (by rw [show (mget vs0_11 (rd t7 x191)).getD (Value.agg cz9)=_ from he292]))) rfl ?_
     obtain ⟨t297,ht298,H⟩:=QW H
     replace S:St w277 M F [_,_,_,_,_,_,_,_,_]:=S.pick [2,3,4,5,6,0,1,7,8] (by decide)
     refine Z5 fn133 (Zx.con k M A0_8 c0_8 A0_9 c0_9 A0_10 c0_10 A0_11 c0_11 vs0_11 a0 a1 A293 c294 ((mget a0.rows (rd t7 x191)).getD cz18) bo0 t297 hm0_11 hs295 ht298) (Γ1:=[_,_,_,_,_]) (Γ2:=[_,_,_,_]) S rfl rfl (by rintro _ _ _ ⟨rfl,rfl⟩;exact (QN ZW (QN Qu (QN Qu (QN (YI (fun _ _ _ _ h=>h)) (QN Qu Qd)))))) ?_
     rintro _ w299 _ Γ' E' S ⟨rfl,rfl⟩
     replace E:=E.trans E'
     replace S:St w299 M F [_,_,_,_,_,_,_,_,_]:=S
     refine W_v (.tuple #[vS t297.1,.bool t297.2]) (QD rfl) rfl (W_v (vS t297.1) (ZB rfl rfl) rfl (W_v (.bool t297.2) (ZB rfl rfl) rfl (W_v (vS t297.1) (QG rfl) rfl (W_v (.bool t297.2) (QG rfl) rfl (QB (tn ?_))))))
     as_aux_lemma =>
     refine QE (QA (W_v (.bool t297.2) (QD rfl) rfl (W_v (.bool t297.2) (QD rfl) rfl ?_)))
     obtain ⟨o310,o310h,o310H⟩:=QW H
     refine ZH 7 (fun ρ w'=>∃ (x309:Bool),(x309)=o310∧Qi ρ [(0,pt bo0 0),(1,vI a1),(7,pt b1 0),(8,pt b4 0),(9,.slice A188 x187.length c189),(11,vS (rd t7 x191)),(12,vS t297.1),(15,.slice A9 t7.length c10),(16,vI (t7.length:Int)),(17,vI x191),(46,.bool x309)]∧Ext w w'∧St w' M F [B94 bo0 a0 A0_8 A0_9 A0_10 c0_10 A0_11,QT QF (Value.int .i64) A0_8 a0.names,QT (Value.int .i64) (Value.int .i64) A0_9 a0.many,Row QL 99 (.slice A0_10 a0.txs.length c0_10) a0.txs,QT encS (fun v:Value=>v) A0_11 vs0_11,Row Qm 87 (.slice A188 x187.length c189) x187,Row rStr 9 (.slice A9 t7.length c10) t7,Blk b4 (.cells cz14 43 (0,0)),B37 b1 a3]) ?_ ?_
     ·have H:=o310h
      rcases Zf H with ⟨hb308,H⟩ | ⟨hb308,H⟩
      ·skip
       refine QP (congrArg some hb308) (W_v (vS (rd t7 x191)) (QD rfl) rfl (QP (congrArg some hb308) (W_v (pt b1 2) (QC (o:=0) (off:=2) Tryd.underlying37 rfl ty9 rfl rfl) rfl (QP (congrArg some hb308) (W_v (vS a3.Key) (QO (S.blk 8 rfl) ty9 rfl rfl) rfl (QP (congrArg some hb308) (W_v (pt b1 3) (QC (o:=0) (off:=3) Tryd.underlying37 rfl ty9 rfl rfl) rfl (QP (congrArg some hb308) (W_v (vS a3.End) (QO (S.blk 8 rfl) ty9 rfl rfl) rfl (QP (congrArg some hb308) ?_))))))))))
       obtain ⟨t311,ht312,H⟩:=QW H
       refine Zz fn135 (XS.con k M (rd t7 x191) a3.Key a3.End t311  ht312) S rfl rfl (by rintro _ _ _ ⟨_,rfl⟩;exact Qd) ?_
       rintro _ w313 _ Γ' E' S ⟨rfl,rfl⟩
       replace E:=E.trans E'
       refine W_v (.bool t311) (QV (k:=true) (congrArg Value.bool hb308) rfl) rfl (QB ?_)
       exact ⟨t311,Option.some.inj H,⟨rfl,rfl,rfl,rfl,rfl,rfl,rfl,rfl,rfl,rfl,rfl,trivial⟩,E,S.pick [0,1,2,3,4,5,6,7,8] (by decide)⟩
      ·skip
       refine QZ (skT hb308) rfl (QZ (skT hb308) rfl (QZ (skT hb308) rfl (QZ (skT hb308) rfl (QZ (skT hb308) rfl (QZ (skT hb308) rfl (W_v (.bool false) (QV (k:=false) (congrArg Value.bool hb308) rfl) rfl (QB ?_)))))))
       exact ⟨false,Option.some.inj H,⟨rfl,rfl,rfl,rfl,rfl,rfl,rfl,rfl,rfl,rfl,rfl,trivial⟩,E,S.pick [0,1,2,3,4,5,6,7,8] (by decide)⟩
     as_aux_lemma =>
     rintro ρ w314 ⟨x309,rfl,hρ,E,S⟩
     rw [QI hρ]
     have H:=o310H
     refine QB (tn ?_)
     obtain ⟨o343,o343h,o343H⟩:=QW H
     refine Y7 (fun ρ w'=>∃ (x339:List Qf) (A340:Option Addr) (c341:Nat),(x339)=o343∧Qi ρ [(0,pt bo0 0),(1,vI a1),(7,pt b1 0),(8,pt b4 0),(9,.slice A340 x339.length c341),(15,.slice A9 t7.length c10),(16,vI (t7.length:Int)),(17,vI x191)]∧Ext w w'∧St w' M F [Row Qm 87 (.slice A340 x339.length c341) x339,B94 bo0 a0 A0_8 A0_9 A0_10 c0_10 A0_11,QT QF (Value.int .i64) A0_8 a0.names,QT (Value.int .i64) (Value.int .i64) A0_9 a0.many,Row QL 99 (.slice A0_10 a0.txs.length c0_10) a0.txs,QT encS (fun v:Value=>v) A0_11 vs0_11,Row rStr 9 (.slice A9 t7.length c10) t7,Blk b4 (.cells cz14 43 (0,0)),B37 b1 a3]) ?_ ?_
     ·clear o343H
      have H:=o343h
      rcases Zf H with ⟨hb344,H⟩ | ⟨hb344,H⟩
      ·refine QQ (congrArg Value.bool hb344) ?_
       refine QA (W_v (.slice A188 x187.length c189) (QD rfl) rfl (W_v (vS (rd t7 x191)) (QD rfl) rfl (W_v (vS t297.1) (QD rfl) rfl (W_v (.agg #[vS (rd t7 x191),vS t297.1]) (Z3 (pl:=[(0,1),(1,1)]) #[vS (rd t7 x191),vS t297.1] Tryd.underlying87 ty87 (by as_aux_lemma=>kernel_rfl) rfl (by as_aux_lemma=>kernel_rfl)) rfl ?_))))
       refine XE S #[vS (rd t7 x191),vS t297.1] Tryd.underlying41 ty87 rfl rfl #[vS ([]:Str),vS ([]:Str)] (by as_aux_lemma=>kernel_rfl) (by as_aux_lemma=>kernel_rfl) rfl ?_
       intro b345 w346 E' S
       replace E:=E.trans E'
       replace S:=S.blk_row (r:=Qm) (l:=([(⟨(rd t7 x191),t297.1⟩:Qf)]:List Qf)) 0 rfl 1 (Nat.le_refl 1) rfl (Cells.cons (vs:=[vS (rd t7 x191),vS t297.1]) (rfl) Cells.nil)
       obtain ⟨p348,H⟩:=Yy H
       obtain ⟨src349,hs350,hC351⟩:=Y1 (P:=Tryd.prog) (ρ:=Qm) (l:=([(⟨(rd t7 x191),t297.1⟩:Qf)]:List Qf)) (S.row_read 0 rfl) (by decide)
       refine XL S 6 rfl rfl rfl Tryd.underlying41 (.inl Tryd.underlying41) ty87 rfl (by decide) (by decide) hs350 hC351 rfl (by omega) rfl ?_
       intro v352 w353 E' S
       replace E:=E.trans E'
       obtain ⟨A354,c355,rfl,_⟩:=(S.row_read 6 rfl).form
       refine W_v (.slice A354 (x187++([(⟨(rd t7 x191),t297.1⟩:Qf)]:List Qf)).length c355) (QG rfl) rfl (QB (tn ?_))
       exact ⟨(x187++([(⟨(rd t7 x191),t297.1⟩:Qf)]:List Qf)),A354,c355,Option.some.inj H,⟨rfl,rfl,rfl,rfl,rfl,rfl,rfl,rfl,trivial⟩,E,S.pick [6,1,2,3,4,5,7,8,9] (by decide)⟩
      refine QK (congrArg Value.bool hb344) (Qr (tn ?_))
      exact ⟨x187,A188,c189,Option.some.inj H,⟨rfl,rfl,rfl,rfl,rfl,rfl,rfl,rfl,trivial⟩,E,S.pick [5,0,1,2,3,4,6,7,8] (by decide)⟩
     rintro ρ w356 ⟨x339,A340,c341,rfl,hρ,E,S⟩
     rw [QI hρ]
     have H:=o343H
     refine bn (tn (QA (W_v (vI (IntKind.i64.wrap (x191+(1:Int)))) (Qa rfl rfl rfl rfl) rfl (W_v (vI (IntKind.i64.wrap (x191+(1:Int)))) (QD rfl) rfl (QB (tn ?_))))))
     exact ⟨k,Nat.lt_succ_self k,⟨x339,(IntKind.i64.wrap (x191+(1:Int))),A340,c341,H,⟨rfl,rfl,rfl,rfl,rfl,rfl,rfl,rfl,trivial⟩,E,S.pick [0,6,1,2,3,4,5,7,8] (by decide)⟩⟩
    refine QK (congrArg Value.bool hb278) ?_
    refine Y0 ?_
    refine tx (tx (bsm (?_)))
    refine tn ?_
    exact ⟨x187,A188,c189,Option.some.inj H,⟨rfl,rfl,trivial⟩,E,S.pick [0,2,3,4,5,6,7] (by decide)⟩
 rintro ρ w357 ⟨x271,A272,c273,rfl,hρ,E,S⟩
 rw [QI hρ]
 have H:=o275H
 refine tn ?_
 as_aux_lemma =>
 refine QE (QA (W_v (.slice A272 x271.length c273) (QD rfl) rfl (W_v (.agg #[vI 0,.bool false,vS ([]:Str),.slice A272 x271.length c273]) (Z3 (pl:=[(0,1),(1,1),(2,1),(3,1)]) #[vI 0,.bool false,vS ([]:Str),.slice A272 x271.length c273] Tryd.underlying43 ty43 (by as_aux_lemma=>kernel_rfl) rfl (by as_aux_lemma=>kernel_rfl)) rfl ?_)))
 refine Qx S 6 rfl ty43 rfl rfl [vI 0,.bool false,vS ([]:Str),.slice A272 x271.length c273] rfl rfl rfl #[vI 0,.bool false,vS ([]:Str),.slice A272 x271.length c273] rfl rfl ?_
 intro w358 E' S
 replace E:=E.trans E'
 refine QB (tn ?_)
 refine Qs ?_
 obtain rfl:=Option.some.inj H
 exact ⟨_,_,_,fun w1 e1=>QX (vs:=[.agg #[vI 0,.bool false,vS ([]:Str),.slice A272 x271.length c273]]) (FA.cons (⟨_,rfl,Qn ty43 ((S.of_eq e1).blk 6 rfl) (QM rfl) rfl (by decide)⟩) (FA.nil)),HM,E,S.pick [0,1,2,3,4,5] (by decide),⟨A272,c273,rfl,rfl⟩⟩
def Yu (k:Nat) (a0:Ql) (ac_0:Int) (ac_1:Int):Option (Ql) :=
 (if (a0.intent.Writer != ac_0)=true then some a0 else (Option.bind (α:=List QS) (if (decide (ac_1 > (0:Int)))=true then (if ([(⟨a0.intent.Writer,ac_1,a0.intent.Tomb,a0.intent.Value⟩:QS)]:List QS).length+a0.l.length≤3518437208883 then some ((([(⟨a0.intent.Writer,ac_1,a0.intent.Tomb,a0.intent.Value⟩:QS)]:List QS)++a0.l)) else none) else some (a0.l)) (fun x42=>some (⟨x42,⟨(0:Int),(0:Int),false,([]:Str)⟩⟩:Ql))))
theorem Yu.mono {k:Nat} {a0:Ql} {ac_0:Int} {ac_1:Int}:OLe (Yu k a0 ac_0 ac_1) (Yu (k+1) a0 ac_0 ac_1):=by
 unfold Yu
 exact mo
theorem Yu.con (k:Nat) (M:Hp) (A0_0:Option Addr) (c0_0:Nat) (a0:Ql) (ac_0:Int) (ac_1:Int) (bc_0:Nat) (bc_1:Nat) (r:Ql) (hr0_0:SlR Q4 M (.slice A0_0 a0.l.length c0_0) a0.l) (h:Yu k a0 ac_0 ac_1=some r):Con Tryd.prog 142 #[.agg #[.slice A0_0 a0.l.length c0_0,vI a0.intent.Writer,vI a0.intent.TS,.bool a0.intent.Tomb,vS a0.intent.Value],pt bc_0 0,pt bc_1 0] M [Blk bc_0 (.cells #[vI ac_0] 3 (0,0)),Blk bc_1 (.cells #[vI ac_1] 3 (0,0))] (fun v M' Γ'=>∃ (Aq1:Option Addr) (cq2:Nat),v=.agg #[.slice Aq1 r.l.length cq2,vI r.intent.Writer,vI r.intent.TS,.bool r.intent.Tomb,vS r.intent.Value]∧SlR Q4 M' (.slice Aq1 r.l.length cq2) r.l∧Γ'=[Blk bc_0 (.cells #[vI ac_0] 3 (0,0)),Blk bc_1 (.cells #[vI ac_1] 3 (0,0))]):=by
 refine Qt Tryd.func142 rfl Tryd.ntmps142 Tryd.results142 rfl ?_
 intro w F rn S hrn
 have E:=Ext.refl w
 have HM:=Hp.le_refl M
 have H:=h
 unfold Yu at H
 refine QE (QA ?_)
 refine Y8 S #[.slice A0_0 a0.l.length c0_0,vI a0.intent.Writer,vI a0.intent.TS,.bool a0.intent.Tomb,vS a0.intent.Value] rfl rfl rfl ?_
 intro b1 w2 E' S
 replace E:=E.trans E'
 refine Zo S cz9 ty101 rfl rfl ?_
 intro b4 w5 E' S
 replace E:=E.trans E'
 refine QB (tn (QE (QE (QA (W_v (pt b1 1) (QC (o:=0) (off:=1) Tryd.underlying101 rfl ty61 rfl rfl) rfl (W_v (pt b1 1) (QC (o:=1) (off:=0) Tryd.underlying61 rfl ty3 rfl rfl) rfl (W_v (vI a0.intent.Writer) (QO (S.blk 1 rfl) ty3 rfl rfl) rfl (W_v (vI ac_0) (QO (S.blk 2 rfl) ty3 rfl rfl) rfl (W_v (.bool (a0.intent.Writer != ac_0)) (Qa rfl rfl rfl rfl) rfl (QB (tn ?_)))))))))))
 rcases Zf H with ⟨hb7,H⟩ | ⟨hb7,H⟩
 ·refine QQ (congrArg Value.bool hb7) ?_
  refine QE (QA (W_v (.agg #[.slice A0_0 a0.l.length c0_0,vI a0.intent.Writer,vI a0.intent.TS,.bool a0.intent.Tomb,vS a0.intent.Value]) (ZA (S.blk 1 rfl) ty101 rfl (QM rfl) rfl rfl) rfl ?_))
  refine Qx S 0 rfl ty101 rfl rfl [.slice A0_0 a0.l.length c0_0,vI a0.intent.Writer,vI a0.intent.TS,.bool a0.intent.Tomb,vS a0.intent.Value] rfl rfl rfl #[.slice A0_0 a0.l.length c0_0,vI a0.intent.Writer,vI a0.intent.TS,.bool a0.intent.Tomb,vS a0.intent.Value] rfl rfl ?_
  intro w8 E' S
  replace E:=E.trans E'
  refine QB (tn ?_)
  refine Qs ?_
  refine tr (?_)
  obtain rfl:=Option.some.inj H
  exact ⟨_,_,_,fun w1 e1=>QX (vs:=[.agg #[.slice A0_0 a0.l.length c0_0,vI a0.intent.Writer,vI a0.intent.TS,.bool a0.intent.Tomb,vS a0.intent.Value]]) (FA.cons (⟨_,rfl,Qn ty101 ((S.of_eq e1).blk 0 rfl) (QM rfl) rfl (by decide)⟩) (FA.nil)),HM,E,S.pick [2,3] (by decide),⟨A0_0,c0_0,rfl,hr0_0,rfl⟩⟩
 refine QK (congrArg Value.bool hb7) (Qr (tn (QE (QE (QA (W_v (pt b1 1) (QC (o:=0) (off:=1) Tryd.underlying101 rfl ty61 rfl rfl) rfl (W_v (.agg #[vI a0.intent.Writer,vI a0.intent.TS,.bool a0.intent.Tomb,vS a0.intent.Value]) (ZA (S.blk 1 rfl) ty61 rfl (QM rfl) rfl rfl) rfl ?_)))))))
 refine Zo S cz16 ty61 rfl rfl ?_
 intro b9 w10 E' S
 replace E:=E.trans E'
 refine Qx S 0 rfl ty61 rfl rfl [vI a0.intent.Writer,vI a0.intent.TS,.bool a0.intent.Tomb,vS a0.intent.Value] rfl rfl rfl #[vI a0.intent.Writer,vI a0.intent.TS,.bool a0.intent.Tomb,vS a0.intent.Value] rfl rfl ?_
 intro w12 E' S
 replace E:=E.trans E'
 refine QB (tn ?_)
 as_aux_lemma =>
 refine QE (QA (W_v (vI ac_1) (QO (S.blk 4 rfl) ty3 rfl rfl) rfl (W_v (.bool (decide (ac_1 > (0:Int)))) (Qa rfl rfl rfl rfl) rfl (QB (tn ?_)))))
 obtain ⟨o46,o46h,o46H⟩:=QW H
 refine Y7 (fun ρ w'=>∃ (x42:List QS) (A43:Option Addr) (c44:Nat) (Mj:Hp),(x42)=o46∧Qi ρ [(3,pt b1 0),(4,pt b4 0)]∧M.le Mj∧Ext w w'∧St w' Mj F [Blk b4 (.cells cz9 101 (0,0)),Blk b1 (.cells #[.slice A43 x42.length c44,vI a0.intent.Writer,vI a0.intent.TS,.bool a0.intent.Tomb,vS a0.intent.Value] 101 (0,0)),Blk bc_0 (.cells #[vI ac_0] 3 (0,0)),Blk bc_1 (.cells #[vI ac_1] 3 (0,0))]∧SlR Q4 Mj (.slice A43 x42.length c44) x42) ?_ ?_
 ·as_aux_lemma =>
   clear o46H
   have H:=o46h
   have LE47:=Hp.le_refl M
   rcases Zf H with ⟨hb48,H⟩ | ⟨hb48,H⟩
   ·refine QQ (congrArg Value.bool hb48) ?_
    refine QE (QA (W_v (vI ac_1) (QO (S.blk 4 rfl) ty3 rfl rfl) rfl (W_v (pt b9 1) (QC (o:=0) (off:=1) Tryd.underlying61 rfl ty3 rfl rfl) rfl ?_)))
    refine Qx S 0 rfl ty3 rfl rfl [vI ac_1] rfl rfl rfl #[vI a0.intent.Writer,vI ac_1,.bool a0.intent.Tomb,vS a0.intent.Value] rfl rfl ?_
    intro w49 E' S
    replace E:=E.trans E'
    refine QB (tn (QA (W_v (.agg #[vI a0.intent.Writer,vI ac_1,.bool a0.intent.Tomb,vS a0.intent.Value]) (ZA (S.blk 0 rfl) ty61 rfl (QM rfl) rfl rfl) rfl ?_)))
    refine XE S #[vI a0.intent.Writer,vI ac_1,.bool a0.intent.Tomb,vS a0.intent.Value] Tryd.underlying65 ty61 rfl rfl cz16 (by as_aux_lemma=>kernel_rfl) (by as_aux_lemma=>kernel_rfl) rfl ?_
    intro b50 w51 E' S
    replace E:=E.trans E'
    replace S:=S.blk_row (r:=Q4) (l:=([(⟨a0.intent.Writer,ac_1,a0.intent.Tomb,a0.intent.Value⟩:QS)]:List QS)) 0 rfl 1 (Nat.le_refl 1) rfl (Cells.cons (vs:=[vI a0.intent.Writer,vI ac_1,.bool a0.intent.Tomb,vS a0.intent.Value]) (rfl) Cells.nil)
    refine W_v (pt b1 0) (QC (o:=0) (off:=0) Tryd.underlying101 rfl ty65 rfl rfl) rfl (W_v (.slice A0_0 a0.l.length c0_0) (QO (S.blk 3 rfl) ty65 rfl rfl) rfl ?_)
    obtain ⟨p53,H⟩:=Yy H
    obtain ⟨src54,hs55,hC56⟩:=Y1 (P:=Tryd.prog) (ρ:=Q4) (l:=a0.l) (SlR.world hr0_0 S) (by decide)
    refine XL S 0 rfl rfl rfl Tryd.underlying65 (.inl Tryd.underlying65) ty61 rfl (by decide) (by decide) hs55 hC56 rfl (by omega) rfl ?_
    intro v57 w58 E' S
    replace E:=E.trans E'
    obtain ⟨A59,c60,rfl,_⟩:=(S.row_read 0 rfl).form
    refine W_v (pt b1 0) (QC (o:=0) (off:=0) Tryd.underlying101 rfl ty65 rfl rfl) rfl ?_
    refine Qx S 3 rfl ty65 rfl rfl [.slice A59 (([(⟨a0.intent.Writer,ac_1,a0.intent.Tomb,a0.intent.Value⟩:QS)]:List QS)++a0.l).length c60] rfl rfl rfl #[.slice A59 (([(⟨a0.intent.Writer,ac_1,a0.intent.Tomb,a0.intent.Value⟩:QS)]:List QS)++a0.l).length c60,vI a0.intent.Writer,vI a0.intent.TS,.bool a0.intent.Tomb,vS a0.intent.Value] rfl rfl ?_
    intro w61 E' S
    replace E:=E.trans E'
    refine QB (tn ?_)
    obtain ⟨M62,hM63,hf64,S⟩:=S.row_freeze 0 rfl
    replace HM:=Hp.le_trans HM hM63
    replace LE47:=Hp.le_trans LE47 hM63
    exact ⟨(([(⟨a0.intent.Writer,ac_1,a0.intent.Tomb,a0.intent.Value⟩:QS)]:List QS)++a0.l),A59,c60,M62,Option.some.inj H,⟨rfl,rfl,trivial⟩,LE47,E,S.pick [1,2,3,4] (by decide),hf64⟩
   refine QK (congrArg Value.bool hb48) (Qr (tn ?_))
   exact ⟨a0.l,A0_0,c0_0,M,Option.some.inj H,⟨rfl,rfl,trivial⟩,(Hp.le_refl M),E,S.pick [1,2,3,4] (by decide),hr0_0⟩
 rintro ρ w65 ⟨x42,A43,c44,M66,rfl,hρ,hM67,E,S,hs45⟩
 rw [QI hρ]
 replace HM:=Hp.le_trans HM hM67
 have H:=o46H
 refine tn ?_
 as_aux_lemma =>
 refine QE (QA (W_v (.agg cz16) (Z3 (pl:=[(0,1),(1,1),(2,1),(3,1)]) cz16 Tryd.underlying61 ty61 (by as_aux_lemma=>kernel_rfl) rfl (by as_aux_lemma=>kernel_rfl)) rfl (W_v (pt b1 1) (QC (o:=0) (off:=1) Tryd.underlying101 rfl ty61 rfl rfl) rfl ?_)))
 refine Qx S 1 rfl ty61 rfl rfl [vI 0,vI 0,.bool false,vS ([]:Str)] rfl rfl rfl #[.slice A43 x42.length c44,vI 0,vI 0,.bool false,vS ([]:Str)] rfl rfl ?_
 intro w68 E' S
 replace E:=E.trans E'
 refine QB (tn (QE (QA (W_v (.agg #[.slice A43 x42.length c44,vI 0,vI 0,.bool false,vS ([]:Str)]) (ZA (S.blk 1 rfl) ty101 rfl (QM rfl) rfl rfl) rfl ?_))))
 refine Qx S 0 rfl ty101 rfl rfl [.slice A43 x42.length c44,vI 0,vI 0,.bool false,vS ([]:Str)] rfl rfl rfl #[.slice A43 x42.length c44,vI 0,vI 0,.bool false,vS ([]:Str)] rfl rfl ?_
 intro w69 E' S
 replace E:=E.trans E'
 refine QB (tn ?_)
 refine Qs ?_
 obtain rfl:=Option.some.inj H
 exact ⟨_,_,_,fun w1 e1=>QX (vs:=[.agg #[.slice A43 x42.length c44,vI 0,vI 0,.bool false,vS ([]:Str)]]) (FA.cons (⟨_,rfl,Qn ty101 ((S.of_eq e1).blk 0 rfl) (QM rfl) rfl (by decide)⟩) (FA.nil)),HM,E,S.pick [2,3] (by decide),⟨A43,c44,rfl,hs45,rfl⟩⟩
def Qq (k:Nat) (a1_0:Int) (a1_1:Int):Nat→List (Str×Ql)→List Str→Option (((List (Str×Ql))))
 | 0,_,_=>none
 | kl+1,x320,x326=>(onList x326 (some (x320)) (fun y489 todo496=>(Option.bind (α:=(List (Str×Ql))) (Option.bind (Yu k ((mget x320 y489).getD cz18) a1_0 a1_1) (fun t578=>(if y489∈x320.map (fun p=>p.1) then (Option.bind (α:=List (Str×Ql)) (some (mput x320 y489 t578)) (fun x598=>(Option.bind (α:=(List (Str×Ql))) (if (((t578.l.length:Int)==(0:Int))&&(t578.intent.Writer==(0:Int)))=true then (if y489 ∉ todo496 then (Option.bind (α:=List (Str×Ql)) (some (mdel x598 y489)) (fun x630=>some (x630))) else none) else some (x598)) (fun x620=>some (x620))))) else none))) (fun x566=>Qq k a1_0 a1_1 kl x566 todo496))))
theorem Qq.mono {k:Nat} {a1_0:Int} {a1_1:Int}:∀ {kl:Nat} {x0 x1},OLe (Qq k a1_0 a1_1 kl x0 x1) (Qq (k+1) a1_0 a1_1 (kl+1) x0 x1):=by
 intro kl
 induction kl with
 | zero=>intros;exact OLe.none
 | succ kl ih =>
  intros
  rw [Qq.eq_2,Qq.eq_2]
  have m1:=@Yu.mono
  exact mo
theorem Qq.perm {k:Nat} {a1_0:Int} {a1_1:Int} {kl:Nat} {x320:List (Str×Ql)} {x326:List Str} {x326':List Str}  (hp:x326.Perm x326') (hn:x326.Nodup) (hl:(x320.map (·.1)).Nodup) (hs:∀ y∈x326,y∈x320.map (·.1)):Qq k a1_0 a1_1 kl x320 x326=Qq k a1_0 a1_1 kl x320 x326':=by
 exact Ue (z0:=cz18) (one:=fun s r=>Yu k r a1_0 a1_1) (dead:=fun r=>((r.l.length:Int)==(0:Int))&&(r.intent.Writer==(0:Int))) (fun kl s t=>Qq k a1_0 a1_1 kl s t) _ (fun _ _ _=>rfl) (fun _ _=>rfl) (fun _ _ _=>rfl) hp hn kl _ hl hs
def Zp (k:Nat) (a0:QJ) (a1_0:Int) (a1_1:Int):Option (QJ) :=
 (if (a0.rows.map fun p:Str×Ql=>p.1).Nodup then (Option.bind (Qq k a1_0 a1_1 k a0.rows (a0.rows.map fun p:Str×Ql=>p.1)) (fun x478=>some (⟨⟨a0.c.Tasks,a0.c.Active,a0.c.Keys,a0.c.Depth,a0.c.TS,a0.c.KeyLen,a0.c.ValLen,a0.c.Fan⟩,a0.names,a0.many,a0.txs,x478,a0.clock,a0.floor⟩:QJ))) else none)
theorem Zp.mono {k:Nat} {a0:QJ} {a1_0:Int} {a1_1:Int}:OLe (Zp k a0 a1_0 a1_1) (Zp (k+1) a0 a1_0 a1_1):=by
 unfold Zp
 have m1:=@Qq.mono
 exact mo
theorem Zp.con (k:Nat) (M:Hp) (A0_8:Option Addr) (c0_8:Nat) (A0_9:Option Addr) (c0_9:Nat) (A0_10:Option Addr) (c0_10:Nat) (A0_11:Option Addr) (c0_11:Nat) (vs0_11:List (Str×Value)) (a0:QJ) (a1_0:Int) (a1_1:Int) (bo0:Nat) (b1_0:Nat) (b1_1:Nat) (r:QJ) (hm0_11:YV Qk M a0.rows vs0_11) (h:Zp k a0 a1_0 a1_1=some r):Con Tryd.prog 137 #[pt bo0 0,.func (.func 142) #[] #[pt b1_0 0,pt b1_1 0]] M [B94 bo0 a0 A0_8 A0_9 A0_10 c0_10 A0_11,QT QF (Value.int .i64) A0_8 a0.names,QT (Value.int .i64) (Value.int .i64) A0_9 a0.many,Row QL 99 (.slice A0_10 a0.txs.length c0_10) a0.txs,QT encS (fun v:Value=>v) A0_11 vs0_11,Blk b1_0 (.cells #[vI a1_0] 3 (0,0)),Blk b1_1 (.cells #[vI a1_1] 3 (0,0))] (fun v M' Γ'=>∃ (Aq1:Option Addr) (cq2:Nat) (Aq4:Option Addr) (cq5:Nat) (Aq7:Option Addr) (cq8:Nat) (Aq10:Option Addr) (cq11:Nat) (vsq13:List (Str×Value)),v=.tuple #[]∧YV Qk M' r.rows vsq13∧Γ'=[B94 bo0 r Aq1 Aq4 Aq7 cq8 Aq10,QT QF (Value.int .i64) Aq1 r.names,QT (Value.int .i64) (Value.int .i64) Aq4 r.many,Row QL 99 (.slice Aq7 r.txs.length cq8) r.txs,QT encS (fun v:Value=>v) Aq10 vsq13,Blk b1_0 (.cells #[vI a1_0] 3 (0,0)),Blk b1_1 (.cells #[vI a1_1] 3 (0,0))]):=by
 refine Qt Tryd.func137 rfl Tryd.ntmps137 Tryd.results137 rfl ?_
 intro w F rn S hrn
 have E:=Ext.refl w
 have HM:=Hp.le_refl M
 have H:=h
 unfold Zp at H
 refine QE (QA (W_v (pt bo0 0) (QD rfl) rfl (W_v (pt bo0 0) (Qo rfl) rfl (W_v (pt bo0 11) (QC (o:=0) (off:=11) Tryd.underlying94 rfl ty91 rfl rfl) rfl (W_v (.map (mb A0_11)) (QO (S.blk 0 rfl) ty91 rfl rfl) rfl ?_)))))
 obtain ⟨hn1,H⟩:=Yy H
 refine Vo S 4 rfl Tryd.underlying91 (by rw [hm0_11.keys];exact hn1) rfl rfl ?_
 intro b2 w3 E' S
 replace E:=E.trans E'
 rw [hm0_11.keys] at S
 replace S:St w3 M F [_,_,_,_,_,_,_]:=S
 refine QB (tn ?_)
 obtain ⟨o484,o484h,o484H⟩:=QW H
 refine Yj (fun ρ w'=>∃ (x478:List (Str×Ql)) (A479:Option Addr) (c480:Nat) (vs482:List (Str×Value)) (Mj:Hp),(x478)=o484∧Qi ρ []∧M.le Mj∧Ext w w'∧St w' Mj F [QT encS (fun v:Value=>v) A479 vs482,Blk bo0 (.cells #[vI a0.c.Tasks,vI a0.c.Active,vI a0.c.Keys,vI a0.c.Depth,vI a0.c.TS,vI a0.c.KeyLen,vI a0.c.ValLen,vI a0.c.Fan,.map (mb A0_8),.map (mb A0_9),.slice A0_10 a0.txs.length c0_10,.map (mb A479),vI a0.clock,vI a0.floor] 94 (0,0)),QT QF (Value.int .i64) A0_8 a0.names,QT (Value.int .i64) (Value.int .i64) A0_9 a0.many,Row QL 99 (.slice A0_10 a0.txs.length c0_10) a0.txs,Blk b1_0 (.cells #[vI a1_0] 3 (0,0)),Blk b1_1 (.cells #[vI a1_1] 3 (0,0))]∧YV Qk Mj x478 vs482) ?_ ?_
 ·skip
  refine Y3 (fun n ρ w'=>∃ (x320:List (Str×Ql)) (x326:List Str) (A321:Option Addr) (c322:Nat) (vs324:List (Str×Value)) (Mj:Hp),Qq k a1_0 a1_1 n x320 x326=some o484∧Qi ρ [(0,pt bo0 0),(1,.func (.func 142) #[] #[pt b1_0 0,pt b1_1 0]),(10,pt b2 0)]∧M.le Mj∧Ext w w'∧St w' Mj F [RangeM encS (fun v:Value=>v) A321 b2 vs324 x326 none,Blk bo0 (.cells #[vI a0.c.Tasks,vI a0.c.Active,vI a0.c.Keys,vI a0.c.Depth,vI a0.c.TS,vI a0.c.KeyLen,vI a0.c.ValLen,vI a0.c.Fan,.map (mb A0_8),.map (mb A0_9),.slice A0_10 a0.txs.length c0_10,.map (mb A321),vI a0.clock,vI a0.floor] 94 (0,0)),QT QF (Value.int .i64) A0_8 a0.names,QT (Value.int .i64) (Value.int .i64) A0_9 a0.many,Row QL 99 (.slice A0_10 a0.txs.length c0_10) a0.txs,Blk b1_0 (.cells #[vI a1_0] 3 (0,0)),Blk b1_1 (.cells #[vI a1_1] 3 (0,0))]∧YV Qk Mj x320 vs324) k ?_ ?_
  ·skip
   exact ⟨a0.rows,(a0.rows.map fun p:Str×Ql=>p.1),A0_11,c0_11,vs0_11,M,o484h,⟨rfl,rfl,rfl,trivial⟩,(Hp.le_refl M),E,S.pick [4,0,1,2,3,5,6] (by decide),hm0_11⟩
  ·intro n
   rintro ρ w485 ⟨x320,x326,A321,c322,vs324,M486,H,hρ,hM487,E,S,hm325⟩
   rw [QI hρ]
   replace HM:=Hp.le_trans HM hM487
   cases n with
   | zero=>cases H
   | succ kl =>
    refine QE (QA ?_)
    obtain ⟨hn488a,hn488b,hn488c⟩:=S.rangeM_facts 0 rfl
    rw [hm325.keys] at hn488b hn488c
    refine V6 S 0 rfl rfl rfl ?_ ?_
    ·intro y489 v490 w491 hy493 hv494 E' S
     replace E:=E.trans E'
     rw [Qq.perm (permE hy493) hn488a hn488b hn488c,Qq.eq_2,XM] at H
     obtain ⟨cs497,hR498,he499⟩:=hm325.get y489 (z:=cz18) (zc:=[.slice none 0 0,vI 0,vI 0,.bool false,vS ([]:Str)]) ⟨_,SlW.nil _ _,rfl⟩
     rw [hv494] at he499
     obtain rfl:v490=_:=he499
     obtain ⟨v503,hs502,rfl⟩:=hR498
     obtain ⟨A500,c501,rfl,_⟩:=hs502.form
     replace S:St w491 M486 F [_,_,_,_,_,_,_]:=S
     refine W_v (.bool true) (ZB rfl rfl) rfl (QB (tn (QE (QQ rfl (Qr (tn ?_))))))
     obtain ⟨o572,o572h,o572H⟩:=QW H
     refine Y7 (fun ρ w'=>∃ (x566:List (Str×Ql)) (A567:Option Addr) (c568:Nat) (vs570:List (Str×Value)) (Mj:Hp),(x566)=o572∧Qi ρ [(0,pt bo0 0),(1,.func (.func 142) #[] #[pt b1_0 0,pt b1_1 0]),(10,pt b2 0)]∧M486.le Mj∧Ext w w'∧St w' Mj F [RangeM encS (fun v:Value=>v) A567 b2 vs570 (er x326 y489) none,Blk b1_0 (.cells #[vI a1_0] 3 (0,0)),Blk b1_1 (.cells #[vI a1_1] 3 (0,0)),Blk bo0 (.cells #[vI a0.c.Tasks,vI a0.c.Active,vI a0.c.Keys,vI a0.c.Depth,vI a0.c.TS,vI a0.c.KeyLen,vI a0.c.ValLen,vI a0.c.Fan,.map (mb A0_8),.map (mb A0_9),.slice A0_10 a0.txs.length c0_10,.map (mb A567),vI a0.clock,vI a0.floor] 94 (0,0)),QT QF (Value.int .i64) A0_8 a0.names,QT (Value.int .i64) (Value.int .i64) A0_9 a0.many,Row QL 99 (.slice A0_10 a0.txs.length c0_10) a0.txs]∧YV Qk Mj x566 vs570) ?_ ?_
     ·as_aux_lemma =>
       clear o572H
       have H:=o572h
       have LE573:=Hp.le_refl M486
       refine YP ?_
       refine QE (QA (W_v (.tuple #[encS y489,.agg #[.slice A500 (((mget x320 y489).getD cz18).l).length c501,vI (((mget x320 y489).getD cz18).intent.Writer),vI (((mget x320 y489).getD cz18).intent.TS),.bool (((mget x320 y489).getD cz18).intent.Tomb),vS (((mget x320 y489).getD cz18).intent.Value)]]) (Vd (encv:=(fun v:Value=>v)) S 0 rfl hv494 rfl) rfl ?_))
       replace S:=S.rangeM_seen 0 rfl
       replace S:St w491 M486 F [_,_,_,_,_,_,_]:=S
       refine W_v (vS y489) (ZB rfl rfl) rfl (W_v (.agg #[.slice A500 (((mget x320 y489).getD cz18).l).length c501,vI (((mget x320 y489).getD cz18).intent.Writer),vI (((mget x320 y489).getD cz18).intent.TS),.bool (((mget x320 y489).getD cz18).intent.Tomb),vS (((mget x320 y489).getD cz18).intent.Value)]) (ZB rfl rfl) rfl ?_)
       refine Zo S cz9 ty101 rfl rfl ?_
       intro b574 w575 E' S
       replace E:=E.trans E'
       refine W_v (vS y489) (QG rfl) rfl ?_
       refine Qx S 0 rfl ty101 rfl rfl [.slice A500 (((mget x320 y489).getD cz18).l).length c501,vI (((mget x320 y489).getD cz18).intent.Writer),vI (((mget x320 y489).getD cz18).intent.TS),.bool (((mget x320 y489).getD cz18).intent.Tomb),vS (((mget x320 y489).getD cz18).intent.Value)] rfl rfl rfl #[.slice A500 (((mget x320 y489).getD cz18).l).length c501,vI (((mget x320 y489).getD cz18).intent.Writer),vI (((mget x320 y489).getD cz18).intent.TS),.bool (((mget x320 y489).getD cz18).intent.Tomb),vS (((mget x320 y489).getD cz18).intent.Value)] rfl rfl ?_
       intro w577 E' S
       replace E:=E.trans E'
       refine QB (tn (QE (QA (W_v (.func (.func 142) #[] #[pt b1_0 0,pt b1_1 0]) (QD rfl) rfl (W_v (.agg #[.slice A500 (((mget x320 y489).getD cz18).l).length c501,vI (((mget x320 y489).getD cz18).intent.Writer),vI (((mget x320 y489).getD cz18).intent.TS),.bool (((mget x320 y489).getD cz18).intent.Tomb),vS (((mget x320 y489).getD cz18).intent.Value)]) (ZA (S.blk 0 rfl) ty101 rfl (QM rfl) rfl rfl) rfl ?_)))))
       obtain ⟨t578,ht579,H⟩:=QW H
       replace S:St w577 M486 F [_,_,_,_,_,_,_,_]:=S.pick [6,7,0,1,2,3,4,5] (by decide)
       refine VK (fs:=[]) (cap:=[pt b1_0 0,pt b1_1 0]) fn142 rfl (Yu.con k M486 A500 c501 ((mget x320 y489).getD cz18) a1_0 a1_1 b1_0 b1_1 t578 hs502 ht579) (Γ1:=[_,_]) (Γ2:=[_,_,_,_,_,_]) S rfl rfl ?_
       rintro _ w583 M584 Γ' hM585 E' S ⟨A580,c581,rfl,hs582,rfl⟩
       replace HM:=Hp.le_trans HM hM585
       replace LE573:=Hp.le_trans LE573 hM585
       replace hm325:=YV.mono hm325 hM585
       replace E:=E.trans E'
       replace S:St w583 M584 F [_,_,_,_,_,_,_,_]:=S
       refine Qx S 2 rfl ty101 rfl rfl [.slice A580 t578.l.length c581,vI t578.intent.Writer,vI t578.intent.TS,.bool t578.intent.Tomb,vS t578.intent.Value] rfl rfl rfl #[.slice A580 t578.l.length c581,vI t578.intent.Writer,vI t578.intent.TS,.bool t578.intent.Tomb,vS t578.intent.Value] rfl rfl ?_
       intro w586 E' S
       replace E:=E.trans E'
       refine QB (tn (QE ?_))
       refine Q0 (S:=fun w'=>∃ Mx,M584.le Mx∧St w' Mx F [Blk b1_0 (.cells #[vI a1_0] 3 (0,0)),Blk b1_1 (.cells #[vI a1_1] 3 (0,0)),B101 b574 t578 A580 c581,RangeM encS (fun v:Value=>v) A321 b2 vs324 (er x326 y489) none,Blk bo0 (.cells #[vI a0.c.Tasks,vI a0.c.Active,vI a0.c.Keys,vI a0.c.Depth,vI a0.c.TS,vI a0.c.KeyLen,vI a0.c.ValLen,vI a0.c.Fan,.map (mb A0_8),.map (mb A0_9),.slice A0_10 a0.txs.length c0_10,.map (mb A321),vI a0.clock,vI a0.floor] 94 (0,0)),QT QF (Value.int .i64) A0_8 a0.names,QT (Value.int .i64) (Value.int .i64) A0_9 a0.many,Row QL 99 (.slice A0_10 a0.txs.length c0_10) a0.txs]) (L:=6) mixed ?_
       intro w594 hw595 E'
       replace S:=S.heap hw595
       replace E:=E.trans E'
       have D1:∃ Mx,Hp.le M584 Mx∧St _ Mx F [_,_,_,_,_,_,_,_]:=⟨_,Hp.le_refl _,S.pick [0,1,2,3,4,5,6,7] (by decide)⟩
       refine Wt 0 rfl rfl rfl (pt bo0 0) rfl (fun w' h'=>QD rfl) D1 (Wt 1 rfl rfl rfl (pt bo0 0) rfl (fun w' h'=>Qo rfl) D1 (Wt 2 rfl rfl rfl (pt bo0 11) rfl (fun w' h'=>QC (o:=0) (off:=11) Tryd.underlying94 rfl ty91 rfl rfl) D1 (Wt 3 rfl rfl rfl (.map (mb A321)) rfl (fun w' h'=>QO (Qp h' 4 rfl) ty91 rfl rfl) D1 (Wt 4 rfl rfl rfl (vS y489) rfl (fun w' h'=>QD rfl) D1 (Wt 5 rfl rfl rfl (.agg #[.slice A580 t578.l.length c581,vI t578.intent.Writer,vI t578.intent.TS,.bool t578.intent.Tomb,vS t578.intent.Value]) rfl (fun w' h'=>ZA (Qp h' 2 rfl) ty101 rfl (QM rfl) rfl rfl) D1 ?_)))))
       refine Wo 6 rfl ?_
       obtain ⟨p596,H⟩:=Yy H
       obtain ⟨x598,he599,H⟩:=QW H
       replace he599:=Option.some.inj he599
       obtain ⟨vs600,hv601⟩:∃ z:List (Str×Value),mput vs324 y489 (.agg #[.slice A580 t578.l.length c581,vI t578.intent.Writer,vI t578.intent.TS,.bool t578.intent.Tomb,vS t578.intent.Value])=z:=⟨_,rfl⟩
       have hm602:YV Qk M584 x598 vs600:=by rw [← he599,← hv601];exact hm325.put y489 (cs:=[.slice A580 t578.l.length c581,vI t578.intent.Writer,vI t578.intent.TS,.bool t578.intent.Tomb,vS t578.intent.Value]) ⟨_,hs582,rfl⟩
       refine Vp S 3 rfl Tryd.underlying91 key9 y489 (.agg #[.slice A580 t578.l.length c581,vI t578.intent.Writer,vI t578.intent.TS,.bool t578.intent.Tomb,vS t578.intent.Value]) (by rw [hm325.keys];exact p596) hv601 rfl rfl rfl ?_
       intro w597 E' S
       replace E:=E.trans E'
       replace S:St w597 M584 F [_,_,_,_,_,_,_,_]:=S
       refine QB (YU ⟨.inl (by decide),?_⟩)
       refine Wz ?_
       refine tn ?_
       as_aux_lemma =>
       refine QE (QA (W_v (pt b574 0) (QC (o:=0) (off:=0) Tryd.underlying101 rfl ty65 rfl rfl) rfl (W_v (.slice A580 t578.l.length c581) (QO (S.blk 2 rfl) ty65 rfl rfl) rfl (W_v (vI (t578.l.length:Int)) (Q8 (n:=t578.l.length) Tryd.underlying65 rfl) rfl (W_v (.bool ((t578.l.length:Int)==(0:Int))) (Qa rfl rfl rfl rfl) rfl (W_v (.bool ((t578.l.length:Int)==(0:Int))) (QD rfl) rfl ?_))))))
       refine ZH 5 (fun ρ w'=>Qi ρ [(0,pt bo0 0),(1,.func (.func 142) #[] #[pt b1_0 0,pt b1_1 0]),(4,vS y489),(10,pt b2 0),(34,.bool (((t578.l.length:Int)==(0:Int))&&(t578.intent.Writer==(0:Int))))]∧w597=w') ?_ ?_
       ·rcases ZX ((t578.l.length:Int)==(0:Int)) with hb603 | hb603
        ·skip
         refine QZ (skT hb603) rfl (QZ (skT hb603) rfl (QZ (skT hb603) rfl (QZ (skT hb603) rfl (W_v (.bool false) (QV (k:=false) (congrArg Value.bool hb603) rfl) rfl (QB ?_)))))
         exact ⟨⟨rfl,rfl,rfl,rfl,(by first | rfl | (rw [hb603];rfl) | (simp only [hb603];rfl)),trivial⟩,rfl⟩
        ·skip
         refine QP (congrArg some hb603) (W_v (pt b574 1) (QC (o:=0) (off:=1) Tryd.underlying101 rfl ty61 rfl rfl) rfl (QP (congrArg some hb603) (W_v (pt b574 1) (QC (o:=1) (off:=0) Tryd.underlying61 rfl ty3 rfl rfl) rfl (QP (congrArg some hb603) (W_v (vI t578.intent.Writer) (QO (S.blk 2 rfl) ty3 rfl rfl) rfl (QP (congrArg some hb603) (W_v (.bool (t578.intent.Writer==(0:Int))) (Qa rfl rfl rfl rfl) rfl (W_v (.bool (t578.intent.Writer==(0:Int))) (QV (k:=true) (congrArg Value.bool hb603) rfl) rfl (QB ?_)))))))))
         exact ⟨⟨rfl,rfl,rfl,rfl,(by first | rfl | (rw [hb603];rfl) | (simp only [hb603];rfl)),trivial⟩,rfl⟩
       rintro ρ _ ⟨hρ,rfl⟩
       rw [QI hρ]
       refine QB (tn ?_)
       obtain ⟨o626,o626h,o626H⟩:=QW H
       refine Y7 (fun ρ w'=>∃ (x620:List (Str×Ql)) (A621:Option Addr) (c622:Nat) (vs624:List (Str×Value)),(x620)=o626∧Qi ρ [(0,pt bo0 0),(1,.func (.func 142) #[] #[pt b1_0 0,pt b1_1 0]),(10,pt b2 0)]∧Ext w w'∧St w' M584 F [RangeM encS (fun v:Value=>v) A621 b2 vs624 (er x326 y489) none,Blk b1_0 (.cells #[vI a1_0] 3 (0,0)),Blk b1_1 (.cells #[vI a1_1] 3 (0,0)),Blk bo0 (.cells #[vI a0.c.Tasks,vI a0.c.Active,vI a0.c.Keys,vI a0.c.Depth,vI a0.c.TS,vI a0.c.KeyLen,vI a0.c.ValLen,vI a0.c.Fan,.map (mb A0_8),.map (mb A0_9),.slice A0_10 a0.txs.length c0_10,.map (mb A621),vI a0.clock,vI a0.floor] 94 (0,0)),QT QF (Value.int .i64) A0_8 a0.names,QT (Value.int .i64) (Value.int .i64) A0_9 a0.many,Row QL 99 (.slice A0_10 a0.txs.length c0_10) a0.txs]∧YV Qk M584 x620 vs624) ?_ ?_
       ·clear o626H
        have H:=o626h
        rcases Zf H with ⟨hb627,H⟩ | ⟨hb627,H⟩
        ·refine QQ (congrArg Value.bool hb627) ?_
         refine QA (W_v (pt bo0 0) (QD rfl) rfl (W_v (pt bo0 0) (Qo rfl) rfl (W_v (pt bo0 11) (QC (o:=0) (off:=11) Tryd.underlying94 rfl ty91 rfl rfl) rfl (W_v (.map (mb A321)) (QO (S.blk 4 rfl) ty91 rfl rfl) rfl (W_v (vS y489) (QD rfl) rfl ?_)))))
         obtain ⟨p628,H⟩:=Yy H
         obtain ⟨x630,he631,H⟩:=QW H
         replace he631:=Option.some.inj he631
         obtain ⟨vs632,hv633⟩:∃ z:List (Str×Value),mdel vs600 y489=z:=⟨_,rfl⟩
         have hm634:YV Qk M584 x630 vs632:=by rw [← he631,← hv633];exact hm602.del y489
         refine UX S 3 rfl Tryd.underlying91 key9 y489 p628 hv633 rfl rfl ?_
         intro w629 E' S
         replace E:=E.trans E'
         replace S:St w629 M584 F [_,_,_,_,_,_,_,_]:=S
         refine QB (tn ?_)
         exact ⟨x630,A321,c322,vs632,Option.some.inj H,⟨rfl,rfl,rfl,trivial⟩,E,S.pick [3,0,1,4,5,6,7] (by decide),hm634⟩
        refine QK (congrArg Value.bool hb627) (Qr (tn ?_))
        exact ⟨x598,A321,c322,vs600,Option.some.inj H,⟨rfl,rfl,rfl,trivial⟩,E,S.pick [3,0,1,4,5,6,7] (by decide),hm602⟩
       rintro ρ w635 ⟨x620,A621,c622,vs624,rfl,hρ,E,S,hm625⟩
       rw [QI hρ]
       have H:=o626H
       refine bn (tn ?_)
       exact ⟨x620,A621,c622,vs624,M584,Option.some.inj H,⟨rfl,rfl,rfl,trivial⟩,LE573,E,S.pick [0,1,2,3,4,5,6] (by decide),hm625⟩
     rintro ρ w636 ⟨x566,A567,c568,vs570,M637,rfl,hρ,hM638,E,S,hm571⟩
     rw [QI hρ]
     replace HM:=Hp.le_trans HM hM638
     replace hM487:=Hp.le_trans hM487 hM638
     have H:=o572H
     refine tn ?_
     exact ⟨kl,Nat.lt_succ_self kl,⟨x566,(er x326 y489),A567,c568,vs570,M637,H,⟨rfl,rfl,rfl,trivial⟩,hM487,E,S.pick [0,3,4,5,6,1,2] (by decide),hm571⟩⟩
    ·intro w492 ht495 E' S
     replace E:=E.trans E'
     rw [ht495,Qq.eq_2,Xm] at H
     replace S:=S.rangeM_end 0 rfl
     replace S:St w492 M486 F [_,_,_,_,_,_,_]:=S
     refine W_v (.bool false) (ZB rfl rfl) rfl (QB (tn (QE (QK rfl ?_))))
     refine Y0 ?_
     refine tx (tx (bsm (?_)))
     refine tn ?_
     exact ⟨x320,A321,c322,vs324,M486,Option.some.inj H,trivial,hM487,E,S.pick [0,1,2,3,4,5,6] (by decide),hm325⟩
 rintro ρ w639 ⟨x478,A479,c480,vs482,M640,rfl,hρ,hM641,E,S,hm483⟩
 rw [QI hρ]
 replace HM:=Hp.le_trans HM hM641
 have H:=o484H
 obtain rfl:=Option.some.inj H
 exact ⟨_,_,_,fun w1 e1=>QX (vs:=[]) (FA.nil),HM,E,S.pick [1,2,3,4,0,5,6] (by decide),⟨A0_8,c0_8,A0_9,c0_9,A0_10,c0_10,A479,c480,vs482,rfl,hm483,rfl⟩⟩
def Zq (k:Nat) (a0:QJ) (a1:Int) (a2:Int) (a3:Int):Option (Qc×QJ) :=
 (if 0≤(IntKind.i64.wrap (a1 - (1:Int)))∧(IntKind.i64.wrap (a1 - (1:Int))) < (a0.txs.length:Int) then (Option.bind (α:=List Z9) (some (List.set a0.txs (IntKind.i64.wrap (a1 - (1:Int))).toNat (⟨a2,(rd a0.txs (IntKind.i64.wrap (a1 - (1:Int)))).snapshot⟩:Z9))) (fun x28=>(Option.bind (Zp k (⟨⟨a0.c.Tasks,a0.c.Active,a0.c.Keys,a0.c.Depth,a0.c.TS,a0.c.KeyLen,a0.c.ValLen,a0.c.Fan⟩,a0.names,a0.many,x28,a0.rows,a0.clock,a0.floor⟩:QJ) a1 a3) (fun t32=>some (cz8,t32))))) else none)
theorem Zq.mono {k:Nat} {a0:QJ} {a1:Int} {a2:Int} {a3:Int}:OLe (Zq k a0 a1 a2 a3) (Zq (k+1) a0 a1 a2 a3):=by
 unfold Zq
 have m1:=@Zp.mono
 exact mo
theorem Zq.con (k:Nat) (M:Hp) (A0_8:Option Addr) (c0_8:Nat) (A0_9:Option Addr) (c0_9:Nat) (A0_10:Option Addr) (c0_10:Nat) (A0_11:Option Addr) (c0_11:Nat) (vs0_11:List (Str×Value)) (a0:QJ) (a1:Int) (a2:Int) (a3:Int) (bo0:Nat) (r:Qc×QJ) (hm0_11:YV Qk M a0.rows vs0_11) (h:Zq k a0 a1 a2 a3=some r):Con Tryd.prog 136 #[pt bo0 0,vI a1,vU a2,vI a3] M [B94 bo0 a0 A0_8 A0_9 A0_10 c0_10 A0_11,QT QF (Value.int .i64) A0_8 a0.names,QT (Value.int .i64) (Value.int .i64) A0_9 a0.many,Row QL 99 (.slice A0_10 a0.txs.length c0_10) a0.txs,QT encS (fun v:Value=>v) A0_11 vs0_11] (fun v M' Γ'=>∃ (Aq1:Option Addr) (cq2:Nat) (Aq4:Option Addr) (cq5:Nat) (Aq7:Option Addr) (cq8:Nat) (Aq10:Option Addr) (cq11:Nat) (Aq13:Option Addr) (cq14:Nat) (vsq16:List (Str×Value)),v=.agg #[vI r.1.Err,.bool r.1.Found,vS r.1.Value,.slice Aq1 r.1.Pairs.length cq2]∧YV Qk M' r.2.rows vsq16∧Γ'=[Row Qm 87 (.slice Aq1 r.1.Pairs.length cq2) r.1.Pairs,B94 bo0 r.2 Aq4 Aq7 Aq10 cq11 Aq13,QT QF (Value.int .i64) Aq4 r.2.names,QT (Value.int .i64) (Value.int .i64) Aq7 r.2.many,Row QL 99 (.slice Aq10 r.2.txs.length cq11) r.2.txs,QT encS (fun v:Value=>v) Aq13 vsq16]):=by
 refine Qt Tryd.func136 rfl Tryd.ntmps136 Tryd.results136 rfl ?_
 intro w F rn S hrn
 have E:=Ext.refl w
 have HM:=Hp.le_refl M
 have H:=h
 unfold Zq at H
 refine QE (QA ?_)
 refine Y8 S #[vI a1] rfl rfl rfl ?_
 intro b1 w2 E' S
 replace E:=E.trans E'
 refine Y8 S #[vI a3] rfl rfl rfl ?_
 intro b4 w5 E' S
 replace E:=E.trans E'
 refine Zo S cz14 ty43 rfl rfl ?_
 intro b7 w8 E' S
 replace E:=E.trans E'
 refine QB (tn (QE ?_))
 refine Q0 (S:=fun w'=>∃ Mx,M.le Mx∧St w' Mx F [Blk b7 (.cells cz14 43 (0,0)),Blk b4 (.cells #[vI a3] 3 (0,0)),Blk b1 (.cells #[vI a1] 3 (0,0)),B94 bo0 a0 A0_8 A0_9 A0_10 c0_10 A0_11,QT QF (Value.int .i64) A0_8 a0.names,QT (Value.int .i64) (Value.int .i64) A0_9 a0.many,Row QL 99 (.slice A0_10 a0.txs.length c0_10) a0.txs,QT encS (fun v:Value=>v) A0_11 vs0_11]) (L:=9) mixed ?_
 intro w20 hw21 E'
 replace S:=S.heap hw21
 replace E:=E.trans E'
 have D1:∃ Mx,Hp.le M Mx∧St _ Mx F [_,_,_,_,_,_,_,_]:=⟨_,Hp.le_refl _,S.pick [0,1,2,3,4,5,6,7] (by decide)⟩
 refine Wt 0 rfl rfl rfl (pt bo0 0) rfl (fun w' h'=>QD rfl) D1 (Wt 1 rfl rfl rfl (pt bo0 0) rfl (fun w' h'=>Qo rfl) D1 (Wt 2 rfl rfl rfl (pt bo0 10) rfl (fun w' h'=>QC (o:=0) (off:=10) Tryd.underlying94 rfl ty92 rfl rfl) D1 (Wt 3 rfl rfl rfl (.slice A0_10 a0.txs.length c0_10) rfl (fun w' h'=>QO (Qp h' 3 rfl) ty92 rfl rfl) D1 (Wt 4 rfl rfl rfl (vI a1) rfl (fun w' h'=>QO (Qp h' 2 rfl) ty3 rfl rfl) D1 (Wt 5 rfl rfl rfl (vI (IntKind.i64.wrap (a1 - (1:Int)))) rfl (fun w' h'=>Qa rfl rfl rfl rfl) D1 (Wt 6 rfl rfl rfl (vU a2) rfl (fun w' h'=>QD rfl) D1 ?_))))))
 obtain ⟨⟨p22,p23⟩,H⟩:=Yy H
 obtain ⟨b24,o25,_,_,_,ee26,_⟩:=SlW.at' (S.row_read 6 rfl) p22 p23
 refine Wt 7 rfl rfl rfl (.pointer (some ⟨b24,o25+(IntKind.i64.wrap (a1 - (1:Int))).toNat*2,none⟩)) rfl (fun w' h'=>Qy Tryd.underlying92 ty99 (slA ee26) rfl p22 p23) D1 (Wt 8 rfl rfl rfl (.pointer (some ⟨b24,o25+(IntKind.i64.wrap (a1 - (1:Int))).toNat*2,none⟩)) rfl (fun w' h'=>QC (o:=o25+(IntKind.i64.wrap (a1 - (1:Int))).toNat*2) (off:=0) Tryd.underlying99 rfl ty5 rfl rfl) D1 ?_)
 refine Wo 9 rfl ?_
 obtain ⟨x28,he29,H⟩:=QW H
 replace he29:=Option.some.inj he29
 refine X6 S 6 rfl rfl ee26 (by first | exact p22 | simpa using p22) (by first | exact p23 | simpa using p23) 0 ty5 rfl rfl [vU a2] rfl rfl rfl rfl (⟨a2,(rd a0.txs (IntKind.i64.wrap (a1 - (1:Int)))).snapshot⟩:Z9) (by rintro _ rfl;rfl) he29 ?_
 intro w27 E' S
 replace E:=E.trans E'
 have hs30:Value.slice A0_10 a0.txs.length c0_10=Value.slice A0_10 x28.length c0_10:=by rw [← he29,List.length_set]
 try unfold B94 at S
 try rw [hs30] at S
 try rw [hs30]
 have p31:(IntKind.i64.wrap (a1 - (1:Int))) < (x28.length:Int):=by rw [← he29,List.length_set];exact p23
 refine QB (YU ⟨.inl (by decide),?_⟩)
 refine Wz ?_
 refine tn (QE (QA (W_v (pt bo0 0) (QD rfl) rfl (W_v (.func (.func 142) #[] #[pt b1 0,pt b4 0]) (X0 rfl) rfl ?_))))
 obtain ⟨t32,ht33,H⟩:=QW H
 replace S:St w27 M F [_,_,_,_,_,_,_,_]:=S.pick [3,4,5,6,7,2,1,0] (by decide)
 refine Yc fn137 (Zp.con k M A0_8 c0_8 A0_9 c0_9 A0_10 c0_10 A0_11 c0_11 vs0_11 (⟨⟨a0.c.Tasks,a0.c.Active,a0.c.Keys,a0.c.Depth,a0.c.TS,a0.c.KeyLen,a0.c.ValLen,a0.c.Fan⟩,a0.names,a0.many,x28,a0.rows,a0.clock,a0.floor⟩:QJ) a1 a3 bo0 b1 b4 t32 hm0_11 ht33) (Γ1:=[_,_,_,_,_,_,_]) (Γ2:=[_]) S rfl rfl ?_
 rintro _ w48 M49 Γ' hM50 E' S ⟨A34,c35,A37,c38,A40,c41,A43,c44,vs46,rfl,hm47,rfl⟩
 replace HM:=Hp.le_trans HM hM50
 replace E:=E.trans E'
 replace S:St w48 M49 F [_,_,_,_,_,_,_,_]:=S
 refine QB (tn ?_)
 as_aux_lemma =>
 refine QE (QA (W_v (.agg cz14) (Z3 (pl:=[(0,1),(1,1),(2,1),(3,1)]) cz14 Tryd.underlying43 ty43 (by as_aux_lemma=>kernel_rfl) rfl (by as_aux_lemma=>kernel_rfl)) rfl ?_))
 refine Qx S 7 rfl ty43 rfl rfl [vI 0,.bool false,vS ([]:Str),.slice none 0 0] rfl rfl rfl cz14 rfl rfl ?_
 intro w51 E' S
 replace E:=E.trans E'
 refine QB (tn ?_)
 refine Qs ?_
 obtain rfl:=Option.some.inj H
 replace S:=S.row_nil Qm 87
 exact ⟨_,_,_,fun w1 e1=>QX (vs:=[.agg #[vI 0,.bool false,vS ([]:Str),.slice none ([]:List Qf).length 0]]) (FA.cons (⟨_,rfl,Qn ty43 ((S.of_eq e1).blk 8 rfl) (QM rfl) rfl (by decide)⟩) (FA.nil)),HM,E,S.pick [0,1,2,3,4,5] (by decide),⟨none,0,A34,c35,A37,c38,A40,c41,A43,c44,vs46,rfl,hm47,rfl⟩⟩
def ZG (k:Nat) (a0:QJ) (a1:Int):Nat→Bool→List Str→Option ((Bool))
 | 0,_,_=>none
 | kl+1,x55,x56=>(onList x56 (some (x55)) (fun y82 todo89=>ZG k a0 a1 kl (x55||(((mget a0.rows y82).getD cz18).intent.Writer==a1)) todo89))
theorem ZG.mono {k:Nat} {a0:QJ} {a1:Int}:∀ {kl:Nat} {x0 x1},OLe (ZG k a0 a1 kl x0 x1) (ZG (k+1) a0 a1 (kl+1) x0 x1):=by
 intro kl
 induction kl with
 | zero=>intros;exact OLe.none
 | succ kl ih =>
  intros
  rw [ZG.eq_2,ZG.eq_2]
  exact mo
theorem ZG.perm {k:Nat} {a0:QJ} {a1:Int} {kl:Nat} {x55:Bool} {x56:List Str} {x56':List Str} {lq:List (Str×Ql)} (hp:x56.Perm x56') (hn:x56.Nodup) (hl:(lq.map (·.1)).Nodup) (hs:∀ y∈x56,y∈lq.map (·.1)):ZG k a0 a1 kl x55 x56=ZG k a0 a1 kl x55 x56':=by
 refine KS (fun kl s t=>ZG k a0 a1 kl s t) _ (fun y s=>some (s||(((mget a0.rows y).getD cz18).intent.Writer==a1))) (fun _ _=>rfl) (fun _ _ _=>rfl) (fun y z s=>?_) hp kl _
 simp only [Option.bind_some,Bool.or_assoc]
 rw [Bool.or_comm (_==a1)]
def YR (k:Nat) (a0:QJ) (a1:Int) (a2:Int) (a3:ZE):Option (Qc×QJ) :=
 (if (a0.rows.map fun p:Str×Ql=>p.1).Nodup then (Option.bind (ZG k a0 a1 k false (a0.rows.map fun p:Str×Ql=>p.1)) (fun x78=>(if (!x78)=true then (Option.bind (Zq k a0 a1 (3:Int) (0:Int)) (fun t104=>some (t104.1,t104.2))) else (if (a0.clock==a0.c.TS)=true then (Option.bind (Zq k a0 a1 (4:Int) (0:Int)) (fun t130=>some (cz7,t130.2))) else (Option.bind (Zq k (⟨⟨a0.c.Tasks,a0.c.Active,a0.c.Keys,a0.c.Depth,a0.c.TS,a0.c.KeyLen,a0.c.ValLen,a0.c.Fan⟩,a0.names,a0.many,a0.txs,a0.rows,(IntKind.i64.wrap (a0.clock+(1:Int))),a0.floor⟩:QJ) a1 (3:Int) (IntKind.i64.wrap (a0.clock+(1:Int)))) (fun t155=>some (t155.1,t155.2))))))) else none)
theorem YR.mono {k:Nat} {a0:QJ} {a1:Int} {a2:Int} {a3:ZE}:OLe (YR k a0 a1 a2 a3) (YR (k+1) a0 a1 a2 a3):=by
 unfold YR
 have m1:=@ZG.mono
 have m2:=@Zq.mono
 exact mo
theorem YR.con (k:Nat) (M:Hp) (A0_8:Option Addr) (c0_8:Nat) (A0_9:Option Addr) (c0_9:Nat) (A0_10:Option Addr) (c0_10:Nat) (A0_11:Option Addr) (c0_11:Nat) (vs0_11:List (Str×Value)) (a0:QJ) (a1:Int) (a2:Int) (a3:ZE) (bo0:Nat) (r:Qc×QJ) (hm0_11:YV Qk M a0.rows vs0_11) (h:YR k a0 a1 a2 a3=some r):Con Tryd.prog 129 #[pt bo0 0,vI a1,vI a2,.agg #[vU a3.Kind,vI a3.Tx,vS a3.Key,vS a3.End,vS a3.Value,vI a3.Limit,vU a3.Engine]] M [B94 bo0 a0 A0_8 A0_9 A0_10 c0_10 A0_11,QT QF (Value.int .i64) A0_8 a0.names,QT (Value.int .i64) (Value.int .i64) A0_9 a0.many,Row QL 99 (.slice A0_10 a0.txs.length c0_10) a0.txs,QT encS (fun v:Value=>v) A0_11 vs0_11] (fun v M' Γ'=>∃ (Aq1:Option Addr) (cq2:Nat) (Aq4:Option Addr) (cq5:Nat) (Aq7:Option Addr) (cq8:Nat) (Aq10:Option Addr) (cq11:Nat) (Aq13:Option Addr) (cq14:Nat) (vsq16:List (Str×Value)),v=.agg #[vI r.1.Err,.bool r.1.Found,vS r.1.Value,.slice Aq1 r.1.Pairs.length cq2]∧YV Qk M' r.2.rows vsq16∧Γ'=[Row Qm 87 (.slice Aq1 r.1.Pairs.length cq2) r.1.Pairs,B94 bo0 r.2 Aq4 Aq7 Aq10 cq11 Aq13,QT QF (Value.int .i64) Aq4 r.2.names,QT (Value.int .i64) (Value.int .i64) Aq7 r.2.many,Row QL 99 (.slice Aq10 r.2.txs.length cq11) r.2.txs,QT encS (fun v:Value=>v) Aq13 vsq16]):=by
 refine Qt Tryd.func129 rfl Tryd.ntmps129 Tryd.results129 rfl ?_
 intro w F rn S hrn
 have E:=Ext.refl w
 have HM:=Hp.le_refl M
 have H:=h
 unfold YR at H
 refine QE (QA ?_)
 refine Y8 S #[vU a3.Kind,vI a3.Tx,vS a3.Key,vS a3.End,vS a3.Value,vI a3.Limit,vU a3.Engine] rfl rfl rfl ?_
 intro b1 w2 E' S
 replace E:=E.trans E'
 refine Zo S cz14 ty43 rfl rfl ?_
 intro b4 w5 E' S
 replace E:=E.trans E'
 refine QB (tn (QE (QA (W_v (.bool false) (QG rfl) rfl (QB (tn (QE (QE (QA (W_v (pt bo0 0) (QD rfl) rfl (W_v (pt bo0 0) (Qo rfl) rfl (W_v (pt bo0 11) (QC (o:=0) (off:=11) Tryd.underlying94 rfl ty91 rfl rfl) rfl (W_v (.map (mb A0_11)) (QO (S.blk 2 rfl) ty91 rfl rfl) rfl ?_)))))))))))))
 obtain ⟨hn7,H⟩:=Yy H
 refine Vo S 6 rfl Tryd.underlying91 (by rw [hm0_11.keys];exact hn7) rfl rfl ?_
 intro b8 w9 E' S
 replace E:=E.trans E'
 rw [hm0_11.keys] at S
 replace S:St w9 M F [_,_,_,_,_,_,_]:=S
 refine QB (tn ?_)
 obtain ⟨o79,o79h,o79H⟩:=QW H
 refine Yj (fun ρ w'=>∃ (x78:Bool),(x78)=o79∧Qi ρ [(0,pt bo0 0),(1,vI a1),(8,pt b4 0),(9,.bool x78)]∧Ext w w'∧St w' M F [Blk b4 (.cells cz14 43 (0,0)),B94 bo0 a0 A0_8 A0_9 A0_10 c0_10 A0_11,QT QF (Value.int .i64) A0_8 a0.names,QT (Value.int .i64) (Value.int .i64) A0_9 a0.many,Row QL 99 (.slice A0_10 a0.txs.length c0_10) a0.txs,QT encS (fun v:Value=>v) A0_11 vs0_11]) ?_ ?_
 ·skip
  refine Y3 (fun n ρ w'=>∃ (x55:Bool) (x56:List Str),ZG k a0 a1 n x55 x56=some o79∧Qi ρ [(0,pt bo0 0),(1,vI a1),(8,pt b4 0),(9,.bool x55),(16,pt b8 0)]∧Ext w w'∧St w' M F [Blk b4 (.cells cz14 43 (0,0)),B94 bo0 a0 A0_8 A0_9 A0_10 c0_10 A0_11,QT QF (Value.int .i64) A0_8 a0.names,QT (Value.int .i64) (Value.int .i64) A0_9 a0.many,Row QL 99 (.slice A0_10 a0.txs.length c0_10) a0.txs,RangeM encS (fun v:Value=>v) A0_11 b8 vs0_11 x56 none]) k ?_ ?_
  ·skip
   exact ⟨false,(a0.rows.map fun p:Str×Ql=>p.1),o79h,⟨rfl,rfl,rfl,rfl,rfl,trivial⟩,E,S.pick [0,2,3,4,5,6] (by decide)⟩
  ·intro n
   rintro ρ w80 ⟨x55,x56,H,hρ,E,S⟩
   rw [QI hρ]
   cases n with
   | zero=>cases H
   | succ kl =>
    refine QE (QA ?_)
    obtain ⟨hn81a,hn81b,hn81c⟩:=S.rangeM_facts 5 rfl
    rw [hm0_11.keys] at hn81b hn81c
    refine V6 S 5 rfl rfl rfl ?_ ?_
    ·intro y82 v83 w84 hy86 hv87 E' S
     replace E:=E.trans E'
     rw [ZG.perm (permE hy86) hn81a hn81b hn81c,ZG.eq_2,XM] at H
     obtain ⟨cs90,hR91,he92⟩:=hm0_11.get y82 (z:=cz18) (zc:=[.slice none 0 0,vI 0,vI 0,.bool false,vS ([]:Str)]) ⟨_,SlW.nil _ _,rfl⟩
     rw [hv87] at he92
     obtain rfl:v83=_:=he92
     obtain ⟨v96,hs95,rfl⟩:=hR91
     obtain ⟨A93,c94,rfl,_⟩:=hs95.form
     replace S:St w84 M F [_,_,_,_,_,_]:=S
     refine W_v (.bool true) (ZB rfl rfl) rfl (QB (tn (QE (QQ rfl (Qr (tn ?_))))))
     refine YP ?_
     refine QE (QA (W_v (.tuple #[encS y82,.agg #[.slice A93 (((mget a0.rows y82).getD cz18).l).length c94,vI (((mget a0.rows y82).getD cz18).intent.Writer),vI (((mget a0.rows y82).getD cz18).intent.TS),.bool (((mget a0.rows y82).getD cz18).intent.Tomb),vS (((mget a0.rows y82).getD cz18).intent.Value)]]) (Vd (encv:=(fun v:Value=>v)) S 5 rfl hv87 rfl) rfl ?_))
     replace S:=S.rangeM_seen 5 rfl
     replace S:St w84 M F [_,_,_,_,_,_]:=S
     refine W_v (.agg #[.slice A93 (((mget a0.rows y82).getD cz18).l).length c94,vI (((mget a0.rows y82).getD cz18).intent.Writer),vI (((mget a0.rows y82).getD cz18).intent.TS),.bool (((mget a0.rows y82).getD cz18).intent.Tomb),vS (((mget a0.rows y82).getD cz18).intent.Value)]) (ZB rfl rfl) rfl ?_
     refine Zo S cz9 ty101 rfl rfl ?_
     intro b97 w98 E' S
     replace E:=E.trans E'
     refine Qx S 0 rfl ty101 rfl rfl [.slice A93 (((mget a0.rows y82).getD cz18).l).length c94,vI (((mget a0.rows y82).getD cz18).intent.Writer),vI (((mget a0.rows y82).getD cz18).intent.TS),.bool (((mget a0.rows y82).getD cz18).intent.Tomb),vS (((mget a0.rows y82).getD cz18).intent.Value)] rfl rfl rfl #[.slice A93 (((mget a0.rows y82).getD cz18).l).length c94,vI (((mget a0.rows y82).getD cz18).intent.Writer),vI (((mget a0.rows y82).getD cz18).intent.TS),.bool (((mget a0.rows y82).getD cz18).intent.Tomb),vS (((mget a0.rows y82).getD cz18).intent.Value)] rfl rfl ?_
     intro w100 E' S
     replace E:=E.trans E'
     refine QB (tn (QA (W_v (.bool x55) (QD rfl) rfl (W_v (.bool x55) (QD rfl) rfl ?_))))
     refine ZH 6 (fun ρ w'=>Qi ρ [(0,pt bo0 0),(1,vI a1),(8,pt b4 0),(16,pt b8 0),(28,.bool (x55||(((mget a0.rows y82).getD cz18).intent.Writer==a1)))]∧w100=w') ?_ ?_
     ·rcases ZX x55 with hb101 | hb101
      ·skip
       refine QP (congrArg some hb101) (W_v (pt b97 1) (QC (o:=0) (off:=1) Tryd.underlying101 rfl ty61 rfl rfl) rfl (QP (congrArg some hb101) (W_v (pt b97 1) (QC (o:=1) (off:=0) Tryd.underlying61 rfl ty3 rfl rfl) rfl (QP (congrArg some hb101) (W_v (vI (((mget a0.rows y82).getD cz18).intent.Writer)) (QO (S.blk 0 rfl) ty3 rfl rfl) rfl (QP (congrArg some hb101) (W_v (vI a1) (QD rfl) rfl (QP (congrArg some hb101) (W_v (.bool (((mget a0.rows y82).getD cz18).intent.Writer==a1)) (Qa rfl rfl rfl rfl) rfl (W_v (.bool (((mget a0.rows y82).getD cz18).intent.Writer==a1)) (QV (k:=false) (congrArg Value.bool hb101) rfl) rfl (QB ?_)))))))))))
       exact ⟨⟨rfl,rfl,rfl,rfl,(by first | rfl | (rw [hb101];rfl) | (simp only [hb101];rfl)),trivial⟩,rfl⟩
      ·skip
       refine QZ (skF hb101) rfl (QZ (skF hb101) rfl (QZ (skF hb101) rfl (QZ (skF hb101) rfl (QZ (skF hb101) rfl (W_v (.bool true) (QV (k:=true) (congrArg Value.bool hb101) rfl) rfl (QB ?_))))))
       exact ⟨⟨rfl,rfl,rfl,rfl,(by first | rfl | (rw [hb101];rfl) | (simp only [hb101];rfl)),trivial⟩,rfl⟩
     rintro ρ _ ⟨hρ,rfl⟩
     rw [QI hρ]
     refine W_v (.bool (x55||(((mget a0.rows y82).getD cz18).intent.Writer==a1))) (QG rfl) rfl (QB (bn (tn ?_)))
     exact ⟨kl,Nat.lt_succ_self kl,⟨(x55||(((mget a0.rows y82).getD cz18).intent.Writer==a1)),(er x56 y82),H,⟨rfl,rfl,rfl,rfl,rfl,trivial⟩,E,S.pick [1,2,3,4,5,6] (by decide)⟩⟩
    ·intro w85 ht88 E' S
     replace E:=E.trans E'
     rw [ht88,ZG.eq_2,Xm] at H
     replace S:=S.rangeM_end 5 rfl
     replace S:St w85 M F [_,_,_,_,_,_]:=S
     refine W_v (.bool false) (ZB rfl rfl) rfl (QB (tn (QE (QK rfl ?_))))
     refine Y0 ?_
     refine tx (tx (bsm (?_)))
     refine tn ?_
     exact ⟨x55,Option.some.inj H,⟨rfl,rfl,rfl,rfl,trivial⟩,E,S.pick [0,1,2,3,4,5] (by decide)⟩
 rintro ρ w102 ⟨x78,rfl,hρ,E,S⟩
 rw [QI hρ]
 have H:=o79H
 refine tn ?_
 as_aux_lemma =>
 refine QE ?_
 refine YP ?_
 refine QE (QA (W_v (.bool x78) (QD rfl) rfl (W_v (.bool (!x78)) (Y5 (b:=x78) rfl) rfl (W_v (.bool (!x78)) (QG rfl) rfl (QB (tn ?_))))))
 rcases Zf H with ⟨hb103,H⟩ | ⟨hb103,H⟩
 ·refine QQ (congrArg Value.bool hb103) ?_
  refine QE (QA (W_v (pt bo0 0) (QD rfl) rfl (W_v (vI a1) (QD rfl) rfl ?_)))
  obtain ⟨t104,ht105,H⟩:=QW H
  replace S:St w102 M F [_,_,_,_,_,_]:=S.pick [1,2,3,4,5,0] (by decide)
  refine Yc fn136 (Zq.con k M A0_8 c0_8 A0_9 c0_9 A0_10 c0_10 A0_11 c0_11 vs0_11 a0 a1 (3:Int) (0:Int) bo0 t104 hm0_11 ht105) (Γ1:=[_,_,_,_,_]) (Γ2:=[_]) S rfl rfl ?_
  rintro _ w123 M124 Γ' hM125 E' S ⟨A106,c107,A109,c110,A112,c113,A115,c116,A118,c119,vs121,rfl,hm122,rfl⟩
  replace HM:=Hp.le_trans HM hM125
  replace E:=E.trans E'
  replace S:St w123 M124 F [_,_,_,_,_,_,_]:=S
  refine Qx S 6 rfl ty43 rfl rfl [vI t104.1.Err,.bool t104.1.Found,vS t104.1.Value,.slice A106 t104.1.Pairs.length c107] rfl rfl rfl #[vI t104.1.Err,.bool t104.1.Found,vS t104.1.Value,.slice A106 t104.1.Pairs.length c107] rfl rfl ?_
  intro w126 E' S
  replace E:=E.trans E'
  refine QB (tn ?_)
  refine Qs ?_
  refine br (tr (?_))
  obtain rfl:=Option.some.inj H
  exact ⟨_,_,_,fun w1 e1=>QX (vs:=[.agg #[vI t104.1.Err,.bool t104.1.Found,vS t104.1.Value,.slice A106 t104.1.Pairs.length c107]]) (FA.cons (⟨_,rfl,Qn ty43 ((S.of_eq e1).blk 6 rfl) (QM rfl) rfl (by decide)⟩) (FA.nil)),HM,E,S.pick [0,1,2,3,4,5] (by decide),⟨A106,c107,A109,c110,A112,c113,A115,c116,A118,c119,vs121,rfl,hm122,rfl⟩⟩
 refine QK (congrArg Value.bool hb103) (QE ?_)
 refine Q0 (S:=fun w'=>∃ Mx,M.le Mx∧St w' Mx F [Blk b4 (.cells cz14 43 (0,0)),B94 bo0 a0 A0_8 A0_9 A0_10 c0_10 A0_11,QT QF (Value.int .i64) A0_8 a0.names,QT (Value.int .i64) (Value.int .i64) A0_9 a0.many,Row QL 99 (.slice A0_10 a0.txs.length c0_10) a0.txs,QT encS (fun v:Value=>v) A0_11 vs0_11]) (L:=11) mixed ?_
 intro w127 hw128 E'
 replace S:=S.heap hw128
 replace E:=E.trans E'
 have D1:∃ Mx,Hp.le M Mx∧St _ Mx F [_,_,_,_,_,_]:=⟨_,Hp.le_refl _,S.pick [0,1,2,3,4,5] (by decide)⟩
 refine Wt 0 rfl rfl rfl (pt bo0 0) rfl (fun w' h'=>QD rfl) D1 (Wt 1 rfl rfl rfl (pt bo0 0) rfl (fun w' h'=>Qo rfl) D1 (Wt 2 rfl rfl rfl (pt bo0 12) rfl (fun w' h'=>QC (o:=0) (off:=12) Tryd.underlying94 rfl ty3 rfl rfl) D1 (Wt 3 rfl rfl rfl (vI a0.clock) rfl (fun w' h'=>QO (Qp h' 1 rfl) ty3 rfl rfl) D1 (Wt 4 rfl rfl rfl (pt bo0 0) rfl (fun w' h'=>QD rfl) D1 (Wt 5 rfl rfl rfl (pt bo0 0) rfl (fun w' h'=>Qo rfl) D1 (Wt 6 rfl rfl rfl (pt bo0 0) rfl (fun w' h'=>QC (o:=0) (off:=0) Tryd.underlying94 rfl ty23 rfl rfl) D1 (Wt 7 rfl rfl rfl (pt bo0 4) rfl (fun w' h'=>QC (o:=0) (off:=4) Tryd.underlying23 rfl ty3 rfl rfl) D1 (Wt 8 rfl rfl rfl (vI a0.c.TS) rfl (fun w' h'=>QO (Qp h' 1 rfl) ty3 rfl rfl) D1 (Wt 9 rfl rfl rfl (.bool (a0.clock==a0.c.TS)) rfl (fun w' h'=>Qa rfl rfl rfl rfl) D1 (Wt 10 rfl rfl rfl (.bool (a0.clock==a0.c.TS)) rfl (fun w' h'=>QG rfl) D1 ?_))))))))))
 refine Wz ?_
 refine tn ?_
 rcases Zf H with ⟨hb129,H⟩ | ⟨hb129,H⟩
 ·refine QQ (congrArg Value.bool hb129) ?_
  refine QE (QA (W_v (pt bo0 0) (QD rfl) rfl (W_v (vI a1) (QD rfl) rfl ?_)))
  obtain ⟨t130,ht131,H⟩:=QW H
  replace S:St w127 M F [_,_,_,_,_,_]:=S.pick [1,2,3,4,5,0] (by decide)
  refine Yc fn136 (Zq.con k M A0_8 c0_8 A0_9 c0_9 A0_10 c0_10 A0_11 c0_11 vs0_11 a0 a1 (4:Int) (0:Int) bo0 t130 hm0_11 ht131) (Γ1:=[_,_,_,_,_]) (Γ2:=[_]) S rfl rfl ?_
  rintro _ w149 M150 Γ' hM151 E' S ⟨A132,c133,A135,c136,A138,c139,A141,c142,A144,c145,vs147,rfl,hm148,rfl⟩
  replace HM:=Hp.le_trans HM hM151
  replace E:=E.trans E'
  replace S:St w149 M150 F [_,_,_,_,_,_,_]:=S
  refine QB (tn (QE (QA (W_v (.agg cz13) (Z3 (pl:=[(0,1),(1,1),(2,1),(3,1)]) cz13 Tryd.underlying43 ty43 (by as_aux_lemma=>kernel_rfl) rfl (by as_aux_lemma=>kernel_rfl)) rfl ?_))))
  refine Qx S 6 rfl ty43 rfl rfl [vI 35,.bool false,vS ([]:Str),.slice none 0 0] rfl rfl rfl cz13 rfl rfl ?_
  intro w152 E' S
  replace E:=E.trans E'
  refine QB (tn ?_)
  refine Qs ?_
  refine br (tr (?_))
  obtain rfl:=Option.some.inj H
  replace S:=S.row_nil Qm 87
  exact ⟨_,_,_,fun w1 e1=>QX (vs:=[.agg #[vI 35,.bool false,vS ([]:Str),.slice none ([]:List Qf).length 0]]) (FA.cons (⟨_,rfl,Qn ty43 ((S.of_eq e1).blk 7 rfl) (QM rfl) rfl (by decide)⟩) (FA.nil)),HM,E,S.pick [0,2,3,4,5,6] (by decide),⟨none,0,A135,c136,A138,c139,A141,c142,A144,c145,vs147,rfl,hm148,rfl⟩⟩
 refine QK (congrArg Value.bool hb129) (Qr (bn (tn ?_)))
 as_aux_lemma =>
 refine QE (QA (W_v (pt bo0 0) (QD rfl) rfl (W_v (pt bo0 0) (Qo rfl) rfl (W_v (pt bo0 12) (QC (o:=0) (off:=12) Tryd.underlying94 rfl ty3 rfl rfl) rfl (W_v (vI a0.clock) (QO (S.blk 1 rfl) ty3 rfl rfl) rfl (W_v (vI (IntKind.i64.wrap (a0.clock+(1:Int)))) (Qa rfl rfl rfl rfl) rfl (W_v (pt bo0 0) (Qo rfl) rfl (W_v (pt bo0 12) (QC (o:=0) (off:=12) Tryd.underlying94 rfl ty3 rfl rfl) rfl ?_))))))))
 refine Qx S 1 rfl ty3 rfl rfl [vI (IntKind.i64.wrap (a0.clock+(1:Int)))] rfl rfl rfl #[vI a0.c.Tasks,vI a0.c.Active,vI a0.c.Keys,vI a0.c.Depth,vI a0.c.TS,vI a0.c.KeyLen,vI a0.c.ValLen,vI a0.c.Fan,.map (mb A0_8),.map (mb A0_9),.slice A0_10 a0.txs.length c0_10,.map (mb A0_11),vI (IntKind.i64.wrap (a0.clock+(1:Int))),vI a0.floor] rfl rfl ?_
 intro w154 E' S
 replace E:=E.trans E'
 refine QB (tn (QE (QA (W_v (pt bo0 0) (QD rfl) rfl (W_v (vI a1) (QD rfl) rfl (W_v (pt bo0 0) (QD rfl) rfl (W_v (pt bo0 0) (Qo rfl) rfl (W_v (pt bo0 12) (QC (o:=0) (off:=12) Tryd.underlying94 rfl ty3 rfl rfl) rfl (W_v (vI (IntKind.i64.wrap (a0.clock+(1:Int)))) (QO (S.blk 1 rfl) ty3 rfl rfl) rfl ?_)))))))))
 obtain ⟨t155,ht156,H⟩:=QW H
 replace S:St w154 M F [_,_,_,_,_,_]:=S.pick [1,2,3,4,5,0] (by decide)
 refine Yc fn136 (Zq.con k M A0_8 c0_8 A0_9 c0_9 A0_10 c0_10 A0_11 c0_11 vs0_11 (⟨⟨a0.c.Tasks,a0.c.Active,a0.c.Keys,a0.c.Depth,a0.c.TS,a0.c.KeyLen,a0.c.ValLen,a0.c.Fan⟩,a0.names,a0.many,a0.txs,a0.rows,(IntKind.i64.wrap (a0.clock+(1:Int))),a0.floor⟩:QJ) a1 (3:Int) (IntKind.i64.wrap (a0.clock+(1:Int))) bo0 t155 hm0_11 ht156) (Γ1:=[_,_,_,_,_]) (Γ2:=[_]) S rfl rfl ?_
 rintro _ w174 M175 Γ' hM176 E' S ⟨A157,c158,A160,c161,A163,c164,A166,c167,A169,c170,vs172,rfl,hm173,rfl⟩
 replace HM:=Hp.le_trans HM hM176
 replace E:=E.trans E'
 replace S:St w174 M175 F [_,_,_,_,_,_,_]:=S
 refine Qx S 6 rfl ty43 rfl rfl [vI t155.1.Err,.bool t155.1.Found,vS t155.1.Value,.slice A157 t155.1.Pairs.length c158] rfl rfl rfl #[vI t155.1.Err,.bool t155.1.Found,vS t155.1.Value,.slice A157 t155.1.Pairs.length c158] rfl rfl ?_
 intro w177 E' S
 replace E:=E.trans E'
 refine QB (tn ?_)
 refine Qs ?_
 obtain rfl:=Option.some.inj H
 exact ⟨_,_,_,fun w1 e1=>QX (vs:=[.agg #[vI t155.1.Err,.bool t155.1.Found,vS t155.1.Value,.slice A157 t155.1.Pairs.length c158]]) (FA.cons (⟨_,rfl,Qn ty43 ((S.of_eq e1).blk 6 rfl) (QM rfl) rfl (by decide)⟩) (FA.nil)),HM,E,S.pick [0,1,2,3,4,5] (by decide),⟨A157,c158,A160,c161,A163,c164,A166,c167,A169,c170,vs172,rfl,hm173,rfl⟩⟩
def Yh (k:Nat) (a0:QJ) (a1:Int) (a2:Int) (a3:ZE):Option (Qc×QJ) :=
 (Option.bind (Zq k a0 a1 (4:Int) (0:Int)) (fun t7=>some (t7.1,t7.2)))
theorem Yh.mono {k:Nat} {a0:QJ} {a1:Int} {a2:Int} {a3:ZE}:OLe (Yh k a0 a1 a2 a3) (Yh (k+1) a0 a1 a2 a3):=by
 unfold Yh
 have m1:=@Zq.mono
 exact mo
theorem Yh.con (k:Nat) (M:Hp) (A0_8:Option Addr) (c0_8:Nat) (A0_9:Option Addr) (c0_9:Nat) (A0_10:Option Addr) (c0_10:Nat) (A0_11:Option Addr) (c0_11:Nat) (vs0_11:List (Str×Value)) (a0:QJ) (a1:Int) (a2:Int) (a3:ZE) (bo0:Nat) (r:Qc×QJ) (hm0_11:YV Qk M a0.rows vs0_11) (h:Yh k a0 a1 a2 a3=some r):Con Tryd.prog 130 #[pt bo0 0,vI a1,vI a2,.agg #[vU a3.Kind,vI a3.Tx,vS a3.Key,vS a3.End,vS a3.Value,vI a3.Limit,vU a3.Engine]] M [B94 bo0 a0 A0_8 A0_9 A0_10 c0_10 A0_11,QT QF (Value.int .i64) A0_8 a0.names,QT (Value.int .i64) (Value.int .i64) A0_9 a0.many,Row QL 99 (.slice A0_10 a0.txs.length c0_10) a0.txs,QT encS (fun v:Value=>v) A0_11 vs0_11] (fun v M' Γ'=>∃ (Aq1:Option Addr) (cq2:Nat) (Aq4:Option Addr) (cq5:Nat) (Aq7:Option Addr) (cq8:Nat) (Aq10:Option Addr) (cq11:Nat) (Aq13:Option Addr) (cq14:Nat) (vsq16:List (Str×Value)),v=.agg #[vI r.1.Err,.bool r.1.Found,vS r.1.Value,.slice Aq1 r.1.Pairs.length cq2]∧YV Qk M' r.2.rows vsq16∧Γ'=[Row Qm 87 (.slice Aq1 r.1.Pairs.length cq2) r.1.Pairs,B94 bo0 r.2 Aq4 Aq7 Aq10 cq11 Aq13,QT QF (Value.int .i64) Aq4 r.2.names,QT (Value.int .i64) (Value.int .i64) Aq7 r.2.many,Row QL 99 (.slice Aq10 r.2.txs.length cq11) r.2.txs,QT encS (fun v:Value=>v) Aq13 vsq16]):=by
 refine Qt Tryd.func130 rfl Tryd.ntmps130 Tryd.results130 rfl ?_
 intro w F rn S hrn
 have E:=Ext.refl w
 have HM:=Hp.le_refl M
 have H:=h
 unfold Yh at H
 refine QE (QA ?_)
 refine Y8 S #[vU a3.Kind,vI a3.Tx,vS a3.Key,vS a3.End,vS a3.Value,vI a3.Limit,vU a3.Engine] rfl rfl rfl ?_
 intro b1 w2 E' S
 replace E:=E.trans E'
 refine Zo S cz14 ty43 rfl rfl ?_
 intro b4 w5 E' S
 replace E:=E.trans E'
 refine QB (tn (QE (QA (W_v (pt bo0 0) (QD rfl) rfl (W_v (vI a1) (QD rfl) rfl ?_)))))
 obtain ⟨t7,ht8,H⟩:=QW H
 replace S:St w5 M F [_,_,_,_,_,_,_]:=S.pick [2,3,4,5,6,0,1] (by decide)
 refine Yc fn136 (Zq.con k M A0_8 c0_8 A0_9 c0_9 A0_10 c0_10 A0_11 c0_11 vs0_11 a0 a1 (4:Int) (0:Int) bo0 t7 hm0_11 ht8) (Γ1:=[_,_,_,_,_]) (Γ2:=[_,_]) S rfl rfl ?_
 rintro _ w26 M27 Γ' hM28 E' S ⟨A9,c10,A12,c13,A15,c16,A18,c19,A21,c22,vs24,rfl,hm25,rfl⟩
 replace HM:=Hp.le_trans HM hM28
 replace E:=E.trans E'
 replace S:St w26 M27 F [_,_,_,_,_,_,_,_]:=S
 refine Qx S 6 rfl ty43 rfl rfl [vI t7.1.Err,.bool t7.1.Found,vS t7.1.Value,.slice A9 t7.1.Pairs.length c10] rfl rfl rfl #[vI t7.1.Err,.bool t7.1.Found,vS t7.1.Value,.slice A9 t7.1.Pairs.length c10] rfl rfl ?_
 intro w29 E' S
 replace E:=E.trans E'
 refine QB (tn ?_)
 refine Qs ?_
 obtain rfl:=Option.some.inj H
 exact ⟨_,_,_,fun w1 e1=>QX (vs:=[.agg #[vI t7.1.Err,.bool t7.1.Found,vS t7.1.Value,.slice A9 t7.1.Pairs.length c10]]) (FA.cons (⟨_,rfl,Qn ty43 ((S.of_eq e1).blk 6 rfl) (QM rfl) rfl (by decide)⟩) (FA.nil)),HM,E,S.pick [0,1,2,3,4,5] (by decide),⟨A9,c10,A12,c13,A15,c16,A18,c19,A21,c22,vs24,rfl,hm25,rfl⟩⟩
def YH (k:Nat) (a0:Ql) (ac_0:QJ):Option (Ql) :=
 (Option.bind (XY k a0.l ac_0.floor) (fun t16=>some (⟨t16,⟨a0.intent.Writer,a0.intent.TS,a0.intent.Tomb,a0.intent.Value⟩⟩:Ql)))
theorem YH.mono {k:Nat} {a0:Ql} {ac_0:QJ}:OLe (YH k a0 ac_0) (YH (k+1) a0 ac_0):=by
 unfold YH
 have m1:=@XY.mono
 exact mo
theorem YH.con (k:Nat) (M:Hp) (A0_0:Option Addr) (c0_0:Nat) (a0:Ql) (Ac_0_8:Option Addr) (cc_0_8:Nat) (Ac_0_9:Option Addr) (cc_0_9:Nat) (Ac_0_10:Option Addr) (cc_0_10:Nat) (Ac_0_11:Option Addr) (cc_0_11:Nat) (ac_0:QJ) (bc_0:Nat) (boc_0:Nat) (r:Ql) (hr0_0:SlR Q4 M (.slice A0_0 a0.l.length c0_0) a0.l) (h:YH k a0 ac_0=some r):Con Tryd.prog 138 #[.agg #[.slice A0_0 a0.l.length c0_0,vI a0.intent.Writer,vI a0.intent.TS,.bool a0.intent.Tomb,vS a0.intent.Value],pt bc_0 0] M [Blk bc_0 (.cells #[pt boc_0 0] 27 (0,0)),B94 boc_0 ac_0 Ac_0_8 Ac_0_9 Ac_0_10 cc_0_10 Ac_0_11,QT QF (Value.int .i64) Ac_0_8 ac_0.names,QT (Value.int .i64) (Value.int .i64) Ac_0_9 ac_0.many,Row QL 99 (.slice Ac_0_10 ac_0.txs.length cc_0_10) ac_0.txs] (fun v M' Γ'=>∃ (Aq1:Option Addr) (cq2:Nat),v=.agg #[.slice Aq1 r.l.length cq2,vI r.intent.Writer,vI r.intent.TS,.bool r.intent.Tomb,vS r.intent.Value]∧Γ'=[Row Q4 61 (.slice Aq1 r.l.length cq2) r.l,Blk bc_0 (.cells #[pt boc_0 0] 27 (0,0)),B94 boc_0 ac_0 Ac_0_8 Ac_0_9 Ac_0_10 cc_0_10 Ac_0_11,QT QF (Value.int .i64) Ac_0_8 ac_0.names,QT (Value.int .i64) (Value.int .i64) Ac_0_9 ac_0.many,Row QL 99 (.slice Ac_0_10 ac_0.txs.length cc_0_10) ac_0.txs]):=by
 refine Qt Tryd.func138 rfl Tryd.ntmps138 Tryd.results138 rfl ?_
 intro w F rn S hrn
 have E:=Ext.refl w
 have HM:=Hp.le_refl M
 have H:=h
 unfold YH at H
 refine QE (QA ?_)
 refine Y8 S #[.slice A0_0 a0.l.length c0_0,vI a0.intent.Writer,vI a0.intent.TS,.bool a0.intent.Tomb,vS a0.intent.Value] rfl rfl rfl ?_
 intro b1 w2 E' S
 replace E:=E.trans E'
 refine Zo S cz9 ty101 rfl rfl ?_
 intro b4 w5 E' S
 replace E:=E.trans E'
 refine QB (tn (QE ?_))
 refine Q0 (S:=fun w'=>∃ Mx,M.le Mx∧St w' Mx F [Blk b4 (.cells cz9 101 (0,0)),B101 b1 a0 A0_0 c0_0,Blk bc_0 (.cells #[pt boc_0 0] 27 (0,0)),B94 boc_0 ac_0 Ac_0_8 Ac_0_9 Ac_0_10 cc_0_10 Ac_0_11,QT QF (Value.int .i64) Ac_0_8 ac_0.names,QT (Value.int .i64) (Value.int .i64) Ac_0_9 ac_0.many,Row QL 99 (.slice Ac_0_10 ac_0.txs.length cc_0_10) ac_0.txs]) (L:=10) mixed ?_
 intro w14 hw15 E'
 replace S:=S.heap hw15
 replace E:=E.trans E'
 have D1:∃ Mx,Hp.le M Mx∧St _ Mx F [_,_,_,_,_,_,_]:=⟨_,Hp.le_refl _,S.pick [0,1,2,3,4,5,6] (by decide)⟩
 refine Wt 0 rfl rfl rfl (pt b1 0) rfl (fun w' h'=>QC (o:=0) (off:=0) Tryd.underlying101 rfl ty65 rfl rfl) D1 (Wt 1 rfl rfl rfl (.slice A0_0 a0.l.length c0_0) rfl (fun w' h'=>QO (Qp h' 1 rfl) ty65 rfl rfl) D1 (Wt 2 rfl rfl rfl (pt boc_0 0) rfl (fun w' h'=>QO (Qp h' 2 rfl) ty27 rfl rfl) D1 (Wt 3 rfl rfl rfl (pt boc_0 0) rfl (fun w' h'=>Qo rfl) D1 (Wt 4 rfl rfl rfl (pt boc_0 13) rfl (fun w' h'=>QC (o:=0) (off:=13) Tryd.underlying94 rfl ty3 rfl rfl) D1 (Wt 5 rfl rfl rfl (vI ac_0.floor) rfl (fun w' h'=>QO (Qp h' 3 rfl) ty3 rfl rfl) D1 (Wt 7 rfl rfl rfl (pt b1 1) rfl (fun w' h'=>QC (o:=0) (off:=1) Tryd.underlying101 rfl ty61 rfl rfl) D1 (Wt 8 rfl rfl rfl (.agg #[vI a0.intent.Writer,vI a0.intent.TS,.bool a0.intent.Tomb,vS a0.intent.Value]) rfl (fun w' h'=>ZA (Qp h' 1 rfl) ty61 rfl (QM rfl) rfl rfl) D1 ?_)))))))
 refine Wo 6 rfl ?_
 obtain ⟨t16,ht17,H⟩:=QW H
 refine Zz fn139 (XY.con k M A0_0 c0_0 a0.l ac_0.floor t16 hr0_0 ht17) S rfl rfl (by rintro _ _ _ ⟨_,_,_,rfl⟩;exact (QN (YI (fun _ _ _ _ h=>h)) Qd)) ?_
 rintro _ w21 _ Γ' E' S ⟨A18,c19,rfl,rfl⟩
 replace E:=E.trans E'
 refine QB (YU ⟨.inr ⟨M,Hp.le_refl M,(S.pick [1,2,3,4,5,6,7] (by decide))⟩,?_⟩)
 refine Wt 9 rfl rfl rfl (.agg #[.slice A18 t16.length c19,vI a0.intent.Writer,vI a0.intent.TS,.bool a0.intent.Tomb,vS a0.intent.Value]) rfl (fun w' h'=>Z3 (pl:=[(0,1),(1,4)]) #[.slice A18 t16.length c19,vI a0.intent.Writer,vI a0.intent.TS,.bool a0.intent.Tomb,vS a0.intent.Value] Tryd.underlying101 ty101 (by as_aux_lemma=>kernel_rfl) rfl (by as_aux_lemma=>kernel_rfl)) (⟨M,Hp.le_refl M,(S.pick [1,2,3,4,5,6,7] (by decide))⟩) ?_
 refine Wo 10 rfl ?_
 refine Qx S 1 rfl ty101 rfl rfl [.slice A18 t16.length c19,vI a0.intent.Writer,vI a0.intent.TS,.bool a0.intent.Tomb,vS a0.intent.Value] rfl rfl rfl #[.slice A18 t16.length c19,vI a0.intent.Writer,vI a0.intent.TS,.bool a0.intent.Tomb,vS a0.intent.Value] rfl rfl ?_
 intro w22 E' S
 replace E:=E.trans E'
 refine QB (YU ⟨.inl (by decide),?_⟩)
 refine Wz ?_
 refine tn ?_
 refine Qs ?_
 obtain rfl:=Option.some.inj H
 exact ⟨_,_,_,fun w1 e1=>QX (vs:=[.agg #[.slice A18 t16.length c19,vI a0.intent.Writer,vI a0.intent.TS,.bool a0.intent.Tomb,vS a0.intent.Value]]) (FA.cons (⟨_,rfl,Qn ty101 ((S.of_eq e1).blk 1 rfl) (QM rfl) rfl (by decide)⟩) (FA.nil)),HM,E,S.pick [0,3,4,5,6,7] (by decide),⟨A18,c19,rfl,rfl⟩⟩
def Qh (k:Nat) (a0:QJ):Nat→List (Str×Ql)→List Str→Option (((List (Str×Ql))))
 | 0,_,_=>none
 | kl+1,x372,x378=>(onList x378 (some (x372)) (fun y567 todo574=>(Option.bind (α:=(List (Str×Ql))) (Option.bind (YH k ((mget x372 y567).getD cz18) (⟨⟨a0.c.Tasks,a0.c.Active,a0.c.Keys,a0.c.Depth,a0.c.TS,a0.c.KeyLen,a0.c.ValLen,a0.c.Fan⟩,a0.names,a0.many,a0.txs,x372,a0.clock,a0.floor⟩:QJ)) (fun t669=>(if y567∈x372.map (fun p=>p.1) then (Option.bind (α:=List (Str×Ql)) (some (mput x372 y567 t669)) (fun x702=>(Option.bind (α:=(List (Str×Ql))) (if (((t669.l.length:Int)==(0:Int))&&(t669.intent.Writer==(0:Int)))=true then (if y567 ∉ todo574 then (Option.bind (α:=List (Str×Ql)) (some (mdel x702 y567)) (fun x734=>some (x734))) else none) else some (x702)) (fun x724=>some (x724))))) else none))) (fun x657=>Qh k a0 kl x657 todo574))))
theorem Qh.mono {k:Nat} {a0:QJ}:∀ {kl:Nat} {x0 x1},OLe (Qh k a0 kl x0 x1) (Qh (k+1) a0 (kl+1) x0 x1):=by
 intro kl
 induction kl with
 | zero=>intros;exact OLe.none
 | succ kl ih =>
  intros
  rw [Qh.eq_2,Qh.eq_2]
  have m1:=@YH.mono
  exact mo
theorem Qh.perm {k:Nat} {a0:QJ} {kl:Nat} {x372:List (Str×Ql)} {x378:List Str} {x378':List Str}  (hp:x378.Perm x378') (hn:x378.Nodup) (hl:(x372.map (·.1)).Nodup) (hs:∀ y∈x378,y∈x372.map (·.1)):Qh k a0 kl x372 x378=Qh k a0 kl x372 x378':=by
 exact Ue (z0:=cz18) (one:=fun s r=>YH k r (⟨⟨a0.c.Tasks,a0.c.Active,a0.c.Keys,a0.c.Depth,a0.c.TS,a0.c.KeyLen,a0.c.ValLen,a0.c.Fan⟩,a0.names,a0.many,a0.txs,s,a0.clock,a0.floor⟩:QJ)) (dead:=fun r=>((r.l.length:Int)==(0:Int))&&(r.intent.Writer==(0:Int))) (fun kl s t=>Qh k a0 kl s t) _ (fun _ _ _=>rfl) (fun _ _=>rfl) (fun _ _ _=>rfl) hp hn kl _ hl hs
def ZY (k:Nat) (a0:QJ):Option (QJ) :=
 (if (a0.rows.map fun p:Str×Ql=>p.1).Nodup then (Option.bind (Qh k a0 k a0.rows (a0.rows.map fun p:Str×Ql=>p.1)) (fun x556=>some (⟨⟨a0.c.Tasks,a0.c.Active,a0.c.Keys,a0.c.Depth,a0.c.TS,a0.c.KeyLen,a0.c.ValLen,a0.c.Fan⟩,a0.names,a0.many,a0.txs,x556,a0.clock,a0.floor⟩:QJ))) else none)
theorem ZY.mono {k:Nat} {a0:QJ}:OLe (ZY k a0) (ZY (k+1) a0):=by
 unfold ZY
 have m1:=@Qh.mono
 exact mo
theorem ZY.con (k:Nat) (M:Hp) (A0_8:Option Addr) (c0_8:Nat) (A0_9:Option Addr) (c0_9:Nat) (A0_10:Option Addr) (c0_10:Nat) (A0_11:Option Addr) (c0_11:Nat) (vs0_11:List (Str×Value)) (a0:QJ) (bo0:Nat) (b1_0:Nat) (r:QJ) (hm0_11:YV Qk M a0.rows vs0_11) (h:ZY k a0=some r):Con Tryd.prog 137 #[pt bo0 0,.func (.func 138) #[] #[pt b1_0 0]] M [B94 bo0 a0 A0_8 A0_9 A0_10 c0_10 A0_11,QT QF (Value.int .i64) A0_8 a0.names,QT (Value.int .i64) (Value.int .i64) A0_9 a0.many,Row QL 99 (.slice A0_10 a0.txs.length c0_10) a0.txs,QT encS (fun v:Value=>v) A0_11 vs0_11,Blk b1_0 (.cells #[pt bo0 0] 27 (0,0))] (fun v M' Γ'=>∃ (Aq1:Option Addr) (cq2:Nat) (Aq4:Option Addr) (cq5:Nat) (Aq7:Option Addr) (cq8:Nat) (Aq10:Option Addr) (cq11:Nat) (vsq13:List (Str×Value)),v=.tuple #[]∧YV Qk M' r.rows vsq13∧Γ'=[B94 bo0 r Aq1 Aq4 Aq7 cq8 Aq10,QT QF (Value.int .i64) Aq1 r.names,QT (Value.int .i64) (Value.int .i64) Aq4 r.many,Row QL 99 (.slice Aq7 r.txs.length cq8) r.txs,QT encS (fun v:Value=>v) Aq10 vsq13,Blk b1_0 (.cells #[pt bo0 0] 27 (0,0))]):=by
 refine Qt Tryd.func137 rfl Tryd.ntmps137 Tryd.results137 rfl ?_
 intro w F rn S hrn
 have E:=Ext.refl w
 have HM:=Hp.le_refl M
 have H:=h
 unfold ZY at H
 refine QE (QA (W_v (pt bo0 0) (QD rfl) rfl (W_v (pt bo0 0) (Qo rfl) rfl (W_v (pt bo0 11) (QC (o:=0) (off:=11) Tryd.underlying94 rfl ty91 rfl rfl) rfl (W_v (.map (mb A0_11)) (QO (S.blk 0 rfl) ty91 rfl rfl) rfl ?_)))))
 obtain ⟨hn1,H⟩:=Yy H
 refine Vo S 4 rfl Tryd.underlying91 (by rw [hm0_11.keys];exact hn1) rfl rfl ?_
 intro b2 w3 E' S
 replace E:=E.trans E'
 rw [hm0_11.keys] at S
 replace S:St w3 M F [_,_,_,_,_,_]:=S
 refine QB (tn ?_)
 obtain ⟨o562,o562h,o562H⟩:=QW H
 refine Yj (fun ρ w'=>∃ (x556:List (Str×Ql)) (A557:Option Addr) (c558:Nat) (vs560:List (Str×Value)) (Mj:Hp),(x556)=o562∧Qi ρ []∧M.le Mj∧Ext w w'∧St w' Mj F [QT encS (fun v:Value=>v) A557 vs560,Blk bo0 (.cells #[vI a0.c.Tasks,vI a0.c.Active,vI a0.c.Keys,vI a0.c.Depth,vI a0.c.TS,vI a0.c.KeyLen,vI a0.c.ValLen,vI a0.c.Fan,.map (mb A0_8),.map (mb A0_9),.slice A0_10 a0.txs.length c0_10,.map (mb A557),vI a0.clock,vI a0.floor] 94 (0,0)),QT QF (Value.int .i64) A0_8 a0.names,QT (Value.int .i64) (Value.int .i64) A0_9 a0.many,Row QL 99 (.slice A0_10 a0.txs.length c0_10) a0.txs,Blk b1_0 (.cells #[pt bo0 0] 27 (0,0))]∧YV Qk Mj x556 vs560) ?_ ?_
 ·skip
  refine Y3 (fun n ρ w'=>∃ (x372:List (Str×Ql)) (x378:List Str) (A373:Option Addr) (c374:Nat) (vs376:List (Str×Value)) (Mj:Hp),Qh k a0 n x372 x378=some o562∧Qi ρ [(0,pt bo0 0),(1,.func (.func 138) #[] #[pt b1_0 0]),(10,pt b2 0)]∧M.le Mj∧Ext w w'∧St w' Mj F [RangeM encS (fun v:Value=>v) A373 b2 vs376 x378 none,Blk bo0 (.cells #[vI a0.c.Tasks,vI a0.c.Active,vI a0.c.Keys,vI a0.c.Depth,vI a0.c.TS,vI a0.c.KeyLen,vI a0.c.ValLen,vI a0.c.Fan,.map (mb A0_8),.map (mb A0_9),.slice A0_10 a0.txs.length c0_10,.map (mb A373),vI a0.clock,vI a0.floor] 94 (0,0)),QT QF (Value.int .i64) A0_8 a0.names,QT (Value.int .i64) (Value.int .i64) A0_9 a0.many,Row QL 99 (.slice A0_10 a0.txs.length c0_10) a0.txs,Blk b1_0 (.cells #[pt bo0 0] 27 (0,0))]∧YV Qk Mj x372 vs376) k ?_ ?_
  ·skip
   exact ⟨a0.rows,(a0.rows.map fun p:Str×Ql=>p.1),A0_11,c0_11,vs0_11,M,o562h,⟨rfl,rfl,rfl,trivial⟩,(Hp.le_refl M),E,S.pick [4,0,1,2,3,5] (by decide),hm0_11⟩
  ·intro n
   rintro ρ w563 ⟨x372,x378,A373,c374,vs376,M564,H,hρ,hM565,E,S,hm377⟩
   rw [QI hρ]
   replace HM:=Hp.le_trans HM hM565
   cases n with
   | zero=>cases H
   | succ kl =>
    refine QE (QA ?_)
    obtain ⟨hn566a,hn566b,hn566c⟩:=S.rangeM_facts 0 rfl
    rw [hm377.keys] at hn566b hn566c
    refine V6 S 0 rfl rfl rfl ?_ ?_
    ·intro y567 v568 w569 hy571 hv572 E' S
     replace E:=E.trans E'
     rw [Qh.perm (permE hy571) hn566a hn566b hn566c,Qh.eq_2,XM] at H
     obtain ⟨cs575,hR576,he577⟩:=hm377.get y567 (z:=cz18) (zc:=[.slice none 0 0,vI 0,vI 0,.bool false,vS ([]:Str)]) ⟨_,SlW.nil _ _,rfl⟩
     rw [hv572] at he577
     obtain rfl:v568=_:=he577
     obtain ⟨v581,hs580,rfl⟩:=hR576
     obtain ⟨A578,c579,rfl,_⟩:=hs580.form
     replace S:St w569 M564 F [_,_,_,_,_,_]:=S
     refine W_v (.bool true) (ZB rfl rfl) rfl (QB (tn (QE (QQ rfl (Qr (tn ?_))))))
     obtain ⟨o663,o663h,o663H⟩:=QW H
     refine Y7 (fun ρ w'=>∃ (x657:List (Str×Ql)) (A658:Option Addr) (c659:Nat) (vs661:List (Str×Value)) (Mj:Hp),(x657)=o663∧Qi ρ [(0,pt bo0 0),(1,.func (.func 138) #[] #[pt b1_0 0]),(10,pt b2 0)]∧M564.le Mj∧Ext w w'∧St w' Mj F [RangeM encS (fun v:Value=>v) A658 b2 vs661 (er x378 y567) none,Blk b1_0 (.cells #[pt bo0 0] 27 (0,0)),Blk bo0 (.cells #[vI a0.c.Tasks,vI a0.c.Active,vI a0.c.Keys,vI a0.c.Depth,vI a0.c.TS,vI a0.c.KeyLen,vI a0.c.ValLen,vI a0.c.Fan,.map (mb A0_8),.map (mb A0_9),.slice A0_10 a0.txs.length c0_10,.map (mb A658),vI a0.clock,vI a0.floor] 94 (0,0)),QT QF (Value.int .i64) A0_8 a0.names,QT (Value.int .i64) (Value.int .i64) A0_9 a0.many,Row QL 99 (.slice A0_10 a0.txs.length c0_10) a0.txs]∧YV Qk Mj x657 vs661) ?_ ?_
     ·as_aux_lemma =>
       clear o663H
       have H:=o663h
       have LE664:=Hp.le_refl M564
       refine YP ?_
       refine QE (QA (W_v (.tuple #[encS y567,.agg #[.slice A578 (((mget x372 y567).getD cz18).l).length c579,vI (((mget x372 y567).getD cz18).intent.Writer),vI (((mget x372 y567).getD cz18).intent.TS),.bool (((mget x372 y567).getD cz18).intent.Tomb),vS (((mget x372 y567).getD cz18).intent.Value)]]) (Vd (encv:=(fun v:Value=>v)) S 0 rfl hv572 rfl) rfl ?_))
       replace S:=S.rangeM_seen 0 rfl
       replace S:St w569 M564 F [_,_,_,_,_,_]:=S
       refine W_v (vS y567) (ZB rfl rfl) rfl (W_v (.agg #[.slice A578 (((mget x372 y567).getD cz18).l).length c579,vI (((mget x372 y567).getD cz18).intent.Writer),vI (((mget x372 y567).getD cz18).intent.TS),.bool (((mget x372 y567).getD cz18).intent.Tomb),vS (((mget x372 y567).getD cz18).intent.Value)]) (ZB rfl rfl) rfl ?_)
       refine Zo S cz9 ty101 rfl rfl ?_
       intro b665 w666 E' S
       replace E:=E.trans E'
       refine W_v (vS y567) (QG rfl) rfl ?_
       refine Qx S 0 rfl ty101 rfl rfl [.slice A578 (((mget x372 y567).getD cz18).l).length c579,vI (((mget x372 y567).getD cz18).intent.Writer),vI (((mget x372 y567).getD cz18).intent.TS),.bool (((mget x372 y567).getD cz18).intent.Tomb),vS (((mget x372 y567).getD cz18).intent.Value)] rfl rfl rfl #[.slice A578 (((mget x372 y567).getD cz18).l).length c579,vI (((mget x372 y567).getD cz18).intent.Writer),vI (((mget x372 y567).getD cz18).intent.TS),.bool (((mget x372 y567).getD cz18).intent.Tomb),vS (((mget x372 y567).getD cz18).intent.Value)] rfl rfl ?_
       intro w668 E' S
       replace E:=E.trans E'
       refine QB (tn (QE (QA (W_v (.func (.func 138) #[] #[pt b1_0 0]) (QD rfl) rfl (W_v (.agg #[.slice A578 (((mget x372 y567).getD cz18).l).length c579,vI (((mget x372 y567).getD cz18).intent.Writer),vI (((mget x372 y567).getD cz18).intent.TS),.bool (((mget x372 y567).getD cz18).intent.Tomb),vS (((mget x372 y567).getD cz18).intent.Value)]) (ZA (S.blk 0 rfl) ty101 rfl (QM rfl) rfl rfl) rfl ?_)))))
       obtain ⟨t669,ht670,H⟩:=QW H
       replace S:St w668 M564 F [_,_,_,_,_,_,_]:=S.pick [6,2,3,4,5,0,1] (by decide)
       refine Xp (fs:=[]) (cap:=[pt b1_0 0]) fn138 rfl (YH.con k M564 A578 c579 ((mget x372 y567).getD cz18) A0_8 c0_8 A0_9 c0_9 A0_10 c0_10 A373 c374 (⟨⟨a0.c.Tasks,a0.c.Active,a0.c.Keys,a0.c.Depth,a0.c.TS,a0.c.KeyLen,a0.c.ValLen,a0.c.Fan⟩,a0.names,a0.many,a0.txs,x372,a0.clock,a0.floor⟩:QJ) b1_0 bo0 t669 hs580 ht670) (Γ1:=[_,_,_,_,_]) (Γ2:=[_,_]) S rfl rfl (by rintro _ _ _ ⟨_,_,rfl,rfl⟩;exact (QN (YI (fun _ _ _ _ h=>h)) (QN ZW (QN ZW (QN Qu (QN Qu (QN (YI (fun _ _ _ _ h=>h)) Qd))))))) ?_
       rintro _ w674 _ Γ' E' S ⟨A671,c672,rfl,rfl⟩
       replace E:=E.trans E'
       replace S:St w674 M564 F [_,_,_,_,_,_,_,_]:=S
       refine Qx S 6 rfl ty101 rfl rfl [.slice A671 t669.l.length c672,vI t669.intent.Writer,vI t669.intent.TS,.bool t669.intent.Tomb,vS t669.intent.Value] rfl rfl rfl #[.slice A671 t669.l.length c672,vI t669.intent.Writer,vI t669.intent.TS,.bool t669.intent.Tomb,vS t669.intent.Value] rfl rfl ?_
       intro w677 E' S
       replace E:=E.trans E'
       refine QB (tn (QE ?_))
       obtain ⟨M688,hM689,hf690,S⟩:=S.row_freeze 0 rfl
       replace HM:=Hp.le_trans HM hM689
       replace LE664:=Hp.le_trans LE664 hM689
       replace hm377:=YV.mono hm377 hM689
       refine Q0 (S:=fun w'=>∃ Mx,M688.le Mx∧St w' Mx F [Blk b1_0 (.cells #[pt bo0 0] 27 (0,0)),Blk bo0 (.cells #[vI a0.c.Tasks,vI a0.c.Active,vI a0.c.Keys,vI a0.c.Depth,vI a0.c.TS,vI a0.c.KeyLen,vI a0.c.ValLen,vI a0.c.Fan,.map (mb A0_8),.map (mb A0_9),.slice A0_10 a0.txs.length c0_10,.map (mb A373),vI a0.clock,vI a0.floor] 94 (0,0)),QT QF (Value.int .i64) A0_8 a0.names,QT (Value.int .i64) (Value.int .i64) A0_9 a0.many,Row QL 99 (.slice A0_10 a0.txs.length c0_10) a0.txs,B101 b665 t669 A671 c672,RangeM encS (fun v:Value=>v) A373 b2 vs376 (er x378 y567) none]) (L:=6) mixed ?_
       intro w698 hw699 E'
       replace S:=S.heap hw699
       replace E:=E.trans E'
       have D1:∃ Mx,Hp.le M688 Mx∧St _ Mx F [_,_,_,_,_,_,_]:=⟨_,Hp.le_refl _,S.pick [0,1,2,3,4,5,6] (by decide)⟩
       refine Wt 0 rfl rfl rfl (pt bo0 0) rfl (fun w' h'=>QD rfl) D1 (Wt 1 rfl rfl rfl (pt bo0 0) rfl (fun w' h'=>Qo rfl) D1 (Wt 2 rfl rfl rfl (pt bo0 11) rfl (fun w' h'=>QC (o:=0) (off:=11) Tryd.underlying94 rfl ty91 rfl rfl) D1 (Wt 3 rfl rfl rfl (.map (mb A373)) rfl (fun w' h'=>QO (Qp h' 1 rfl) ty91 rfl rfl) D1 (Wt 4 rfl rfl rfl (vS y567) rfl (fun w' h'=>QD rfl) D1 (Wt 5 rfl rfl rfl (.agg #[.slice A671 t669.l.length c672,vI t669.intent.Writer,vI t669.intent.TS,.bool t669.intent.Tomb,vS t669.intent.Value]) rfl (fun w' h'=>ZA (Qp h' 5 rfl) ty101 rfl (QM rfl) rfl rfl) D1 ?_)))))
       refine Wo 6 rfl ?_
       obtain ⟨p700,H⟩:=Yy H
       obtain ⟨x702,he703,H⟩:=QW H
       replace he703:=Option.some.inj he703
       obtain ⟨vs704,hv705⟩:∃ z:List (Str×Value),mput vs376 y567 (.agg #[.slice A671 t669.l.length c672,vI t669.intent.Writer,vI t669.intent.TS,.bool t669.intent.Tomb,vS t669.intent.Value])=z:=⟨_,rfl⟩
       have hm706:YV Qk M688 x702 vs704:=by rw [← he703,← hv705];exact hm377.put y567 (cs:=[.slice A671 t669.l.length c672,vI t669.intent.Writer,vI t669.intent.TS,.bool t669.intent.Tomb,vS t669.intent.Value]) ⟨_,hf690,rfl⟩
       refine Vp S 6 rfl Tryd.underlying91 key9 y567 (.agg #[.slice A671 t669.l.length c672,vI t669.intent.Writer,vI t669.intent.TS,.bool t669.intent.Tomb,vS t669.intent.Value]) (by rw [hm377.keys];exact p700) hv705 rfl rfl rfl ?_
       intro w701 E' S
       replace E:=E.trans E'
       replace S:St w701 M688 F [_,_,_,_,_,_,_]:=S
       refine QB (YU ⟨.inl (by decide),?_⟩)
       refine Wz ?_
       refine tn ?_
       as_aux_lemma =>
       refine QE (QA (W_v (pt b665 0) (QC (o:=0) (off:=0) Tryd.underlying101 rfl ty65 rfl rfl) rfl (W_v (.slice A671 t669.l.length c672) (QO (S.blk 5 rfl) ty65 rfl rfl) rfl (W_v (vI (t669.l.length:Int)) (Q8 (n:=t669.l.length) Tryd.underlying65 rfl) rfl (W_v (.bool ((t669.l.length:Int)==(0:Int))) (Qa rfl rfl rfl rfl) rfl (W_v (.bool ((t669.l.length:Int)==(0:Int))) (QD rfl) rfl ?_))))))
       refine ZH 5 (fun ρ w'=>Qi ρ [(0,pt bo0 0),(1,.func (.func 138) #[] #[pt b1_0 0]),(4,vS y567),(10,pt b2 0),(34,.bool (((t669.l.length:Int)==(0:Int))&&(t669.intent.Writer==(0:Int))))]∧w701=w') ?_ ?_
       ·rcases ZX ((t669.l.length:Int)==(0:Int)) with hb707 | hb707
        ·skip
         refine QZ (skT hb707) rfl (QZ (skT hb707) rfl (QZ (skT hb707) rfl (QZ (skT hb707) rfl (W_v (.bool false) (QV (k:=false) (congrArg Value.bool hb707) rfl) rfl (QB ?_)))))
         exact ⟨⟨rfl,rfl,rfl,rfl,(by first | rfl | (rw [hb707];rfl) | (simp only [hb707];rfl)),trivial⟩,rfl⟩
        ·skip
         refine QP (congrArg some hb707) (W_v (pt b665 1) (QC (o:=0) (off:=1) Tryd.underlying101 rfl ty61 rfl rfl) rfl (QP (congrArg some hb707) (W_v (pt b665 1) (QC (o:=1) (off:=0) Tryd.underlying61 rfl ty3 rfl rfl) rfl (QP (congrArg some hb707) (W_v (vI t669.intent.Writer) (QO (S.blk 5 rfl) ty3 rfl rfl) rfl (QP (congrArg some hb707) (W_v (.bool (t669.intent.Writer==(0:Int))) (Qa rfl rfl rfl rfl) rfl (W_v (.bool (t669.intent.Writer==(0:Int))) (QV (k:=true) (congrArg Value.bool hb707) rfl) rfl (QB ?_)))))))))
         exact ⟨⟨rfl,rfl,rfl,rfl,(by first | rfl | (rw [hb707];rfl) | (simp only [hb707];rfl)),trivial⟩,rfl⟩
       rintro ρ _ ⟨hρ,rfl⟩
       rw [QI hρ]
       refine QB (tn ?_)
       obtain ⟨o730,o730h,o730H⟩:=QW H
       refine Y7 (fun ρ w'=>∃ (x724:List (Str×Ql)) (A725:Option Addr) (c726:Nat) (vs728:List (Str×Value)),(x724)=o730∧Qi ρ [(0,pt bo0 0),(1,.func (.func 138) #[] #[pt b1_0 0]),(10,pt b2 0)]∧Ext w w'∧St w' M688 F [RangeM encS (fun v:Value=>v) A725 b2 vs728 (er x378 y567) none,Blk b1_0 (.cells #[pt bo0 0] 27 (0,0)),Blk bo0 (.cells #[vI a0.c.Tasks,vI a0.c.Active,vI a0.c.Keys,vI a0.c.Depth,vI a0.c.TS,vI a0.c.KeyLen,vI a0.c.ValLen,vI a0.c.Fan,.map (mb A0_8),.map (mb A0_9),.slice A0_10 a0.txs.length c0_10,.map (mb A725),vI a0.clock,vI a0.floor] 94 (0,0)),QT QF (Value.int .i64) A0_8 a0.names,QT (Value.int .i64) (Value.int .i64) A0_9 a0.many,Row QL 99 (.slice A0_10 a0.txs.length c0_10) a0.txs]∧YV Qk M688 x724 vs728) ?_ ?_
       ·clear o730H
        have H:=o730h
        rcases Zf H with ⟨hb731,H⟩ | ⟨hb731,H⟩
        ·refine QQ (congrArg Value.bool hb731) ?_
         refine QA (W_v (pt bo0 0) (QD rfl) rfl (W_v (pt bo0 0) (Qo rfl) rfl (W_v (pt bo0 11) (QC (o:=0) (off:=11) Tryd.underlying94 rfl ty91 rfl rfl) rfl (W_v (.map (mb A373)) (QO (S.blk 1 rfl) ty91 rfl rfl) rfl (W_v (vS y567) (QD rfl) rfl ?_)))))
         obtain ⟨p732,H⟩:=Yy H
         obtain ⟨x734,he735,H⟩:=QW H
         replace he735:=Option.some.inj he735
         obtain ⟨vs736,hv737⟩:∃ z:List (Str×Value),mdel vs704 y567=z:=⟨_,rfl⟩
         have hm738:YV Qk M688 x734 vs736:=by rw [← he735,← hv737];exact hm706.del y567
         refine UX S 6 rfl Tryd.underlying91 key9 y567 p732 hv737 rfl rfl ?_
         intro w733 E' S
         replace E:=E.trans E'
         replace S:St w733 M688 F [_,_,_,_,_,_,_]:=S
         refine QB (tn ?_)
         exact ⟨x734,A373,c374,vs736,Option.some.inj H,⟨rfl,rfl,rfl,trivial⟩,E,S.pick [6,0,1,2,3,4] (by decide),hm738⟩
        refine QK (congrArg Value.bool hb731) (Qr (tn ?_))
        exact ⟨x702,A373,c374,vs704,Option.some.inj H,⟨rfl,rfl,rfl,trivial⟩,E,S.pick [6,0,1,2,3,4] (by decide),hm706⟩
       rintro ρ w739 ⟨x724,A725,c726,vs728,rfl,hρ,E,S,hm729⟩
       rw [QI hρ]
       have H:=o730H
       refine bn (tn ?_)
       exact ⟨x724,A725,c726,vs728,M688,Option.some.inj H,⟨rfl,rfl,rfl,trivial⟩,LE664,E,S.pick [0,1,2,3,4,5] (by decide),hm729⟩
     rintro ρ w740 ⟨x657,A658,c659,vs661,M741,rfl,hρ,hM742,E,S,hm662⟩
     rw [QI hρ]
     replace HM:=Hp.le_trans HM hM742
     replace hM565:=Hp.le_trans hM565 hM742
     have H:=o663H
     refine tn ?_
     exact ⟨kl,Nat.lt_succ_self kl,⟨x657,(er x378 y567),A658,c659,vs661,M741,H,⟨rfl,rfl,rfl,trivial⟩,hM565,E,S.pick [0,2,3,4,5,1] (by decide),hm662⟩⟩
    ·intro w570 ht573 E' S
     replace E:=E.trans E'
     rw [ht573,Qh.eq_2,Xm] at H
     replace S:=S.rangeM_end 0 rfl
     replace S:St w570 M564 F [_,_,_,_,_,_]:=S
     refine W_v (.bool false) (ZB rfl rfl) rfl (QB (tn (QE (QK rfl ?_))))
     refine Y0 ?_
     refine tx (tx (bsm (?_)))
     refine tn ?_
     exact ⟨x372,A373,c374,vs376,M564,Option.some.inj H,trivial,hM565,E,S.pick [0,1,2,3,4,5] (by decide),hm377⟩
 rintro ρ w743 ⟨x556,A557,c558,vs560,M744,rfl,hρ,hM745,E,S,hm561⟩
 rw [QI hρ]
 replace HM:=Hp.le_trans HM hM745
 have H:=o562H
 obtain rfl:=Option.some.inj H
 exact ⟨_,_,_,fun w1 e1=>QX (vs:=[]) (FA.nil),HM,E,S.pick [1,2,3,4,0,5] (by decide),⟨A0_8,c0_8,A0_9,c0_9,A0_10,c0_10,A557,c558,vs560,rfl,hm561,rfl⟩⟩
def Zr (a0:QJ):Nat→Int→Int→Option ((Int))
 | 0,_,_=>none
 | k+1,x154,x155=>(if (decide (x154 < (a0.txs.length:Int)))=true then (Option.bind (α:=Int) (if 0≤x154∧x154 < (a0.txs.length:Int) then (Option.bind (α:=Int) (if ((rd a0.txs x154).state==(1:Int))=true then some ((imin x155 ((rd a0.txs x154).snapshot))) else some (x155)) (fun x286=>some (x286))) else none) (fun x260=>Zr a0 k (IntKind.i64.wrap (x154+(1:Int))) x260)) else some (x155))
theorem Zr.mono {a0:QJ}:∀ {kl:Nat} {x0 x1},OLe (Zr a0 kl x0 x1) (Zr a0 (kl+1) x0 x1):=by
 intro kl
 induction kl with
 | zero=>intros;exact OLe.none
 | succ kl ih =>
  intros
  rw [Zr.eq_2,Zr.eq_2]
  exact mo
def YQ (k:Nat) (a0:QJ) (a1:Int) (a2:Int) (a3:ZE):Option (Qc×QJ) :=
 (Option.bind (Zr a0 k (0:Int) a0.clock) (fun x224=>(Option.bind (ZY k (⟨⟨a0.c.Tasks,a0.c.Active,a0.c.Keys,a0.c.Depth,a0.c.TS,a0.c.KeyLen,a0.c.ValLen,a0.c.Fan⟩,a0.names,a0.many,a0.txs,a0.rows,a0.clock,x224⟩:QJ)) (fun t296=>some (cz8,t296)))))
theorem YQ.mono {k:Nat} {a0:QJ} {a1:Int} {a2:Int} {a3:ZE}:OLe (YQ k a0 a1 a2 a3) (YQ (k+1) a0 a1 a2 a3):=by
 unfold YQ
 have m1:=@ZY.mono
 have m2:=@Zr.mono
 exact mo
theorem YQ.con (k:Nat) (M:Hp) (A0_8:Option Addr) (c0_8:Nat) (A0_9:Option Addr) (c0_9:Nat) (A0_10:Option Addr) (c0_10:Nat) (A0_11:Option Addr) (c0_11:Nat) (vs0_11:List (Str×Value)) (a0:QJ) (a1:Int) (a2:Int) (a3:ZE) (bo0:Nat) (r:Qc×QJ) (hm0_11:YV Qk M a0.rows vs0_11) (h:YQ k a0 a1 a2 a3=some r):Con Tryd.prog 131 #[pt bo0 0,vI a1,vI a2,.agg #[vU a3.Kind,vI a3.Tx,vS a3.Key,vS a3.End,vS a3.Value,vI a3.Limit,vU a3.Engine]] M [B94 bo0 a0 A0_8 A0_9 A0_10 c0_10 A0_11,QT QF (Value.int .i64) A0_8 a0.names,QT (Value.int .i64) (Value.int .i64) A0_9 a0.many,Row QL 99 (.slice A0_10 a0.txs.length c0_10) a0.txs,QT encS (fun v:Value=>v) A0_11 vs0_11] (fun v M' Γ'=>∃ (Aq1:Option Addr) (cq2:Nat) (Aq4:Option Addr) (cq5:Nat) (Aq7:Option Addr) (cq8:Nat) (Aq10:Option Addr) (cq11:Nat) (Aq13:Option Addr) (cq14:Nat) (vsq16:List (Str×Value)),v=.agg #[vI r.1.Err,.bool r.1.Found,vS r.1.Value,.slice Aq1 r.1.Pairs.length cq2]∧YV Qk M' r.2.rows vsq16∧Γ'=[Row Qm 87 (.slice Aq1 r.1.Pairs.length cq2) r.1.Pairs,B94 bo0 r.2 Aq4 Aq7 Aq10 cq11 Aq13,QT QF (Value.int .i64) Aq4 r.2.names,QT (Value.int .i64) (Value.int .i64) Aq7 r.2.many,Row QL 99 (.slice Aq10 r.2.txs.length cq11) r.2.txs,QT encS (fun v:Value=>v) Aq13 vsq16]):=by
 refine Qt Tryd.func131 rfl Tryd.ntmps131 Tryd.results131 rfl ?_
 intro w F rn S hrn
 have E:=Ext.refl w
 have HM:=Hp.le_refl M
 have H:=h
 unfold YQ at H
 refine QE (QA ?_)
 refine Y8 S #[pt bo0 0] rfl rfl rfl ?_
 intro b1 w2 E' S
 replace E:=E.trans E'
 refine Y8 S #[vU a3.Kind,vI a3.Tx,vS a3.Key,vS a3.End,vS a3.Value,vI a3.Limit,vU a3.Engine] rfl rfl rfl ?_
 intro b4 w5 E' S
 replace E:=E.trans E'
 refine Zo S cz14 ty43 rfl rfl ?_
 intro b7 w8 E' S
 replace E:=E.trans E'
 refine QB (tn (QE ?_))
 refine Q0 (S:=fun w'=>∃ Mx,M.le Mx∧St w' Mx F [Blk b7 (.cells cz14 43 (0,0)),B37 b4 a3,Blk b1 (.cells #[pt bo0 0] 27 (0,0)),B94 bo0 a0 A0_8 A0_9 A0_10 c0_10 A0_11,QT QF (Value.int .i64) A0_8 a0.names,QT (Value.int .i64) (Value.int .i64) A0_9 a0.many,Row QL 99 (.slice A0_10 a0.txs.length c0_10) a0.txs,QT encS (fun v:Value=>v) A0_11 vs0_11]) (L:=7) mixed ?_
 intro w11 hw12 E'
 replace S:=S.heap hw12
 replace E:=E.trans E'
 have D1:∃ Mx,Hp.le M Mx∧St _ Mx F [_,_,_,_,_,_,_,_]:=⟨_,Hp.le_refl _,S.pick [0,1,2,3,4,5,6,7] (by decide)⟩
 refine Wt 0 rfl rfl rfl (pt bo0 0) rfl (fun w' h'=>QO (Qp h' 2 rfl) ty27 rfl rfl) D1 (Wt 1 rfl rfl rfl (pt bo0 0) rfl (fun w' h'=>QO (Qp h' 2 rfl) ty27 rfl rfl) D1 (Wt 2 rfl rfl rfl (pt bo0 0) rfl (fun w' h'=>Qo rfl) D1 (Wt 3 rfl rfl rfl (pt bo0 12) rfl (fun w' h'=>QC (o:=0) (off:=12) Tryd.underlying94 rfl ty3 rfl rfl) D1 (Wt 4 rfl rfl rfl (vI a0.clock) rfl (fun w' h'=>QO (Qp h' 3 rfl) ty3 rfl rfl) D1 (Wt 5 rfl rfl rfl (pt bo0 0) rfl (fun w' h'=>Qo rfl) D1 (Wt 6 rfl rfl rfl (pt bo0 13) rfl (fun w' h'=>QC (o:=0) (off:=13) Tryd.underlying94 rfl ty3 rfl rfl) D1 ?_))))))
 refine Wo 7 rfl ?_
 refine Qx S 3 rfl ty3 rfl rfl [vI a0.clock] rfl rfl rfl #[vI a0.c.Tasks,vI a0.c.Active,vI a0.c.Keys,vI a0.c.Depth,vI a0.c.TS,vI a0.c.KeyLen,vI a0.c.ValLen,vI a0.c.Fan,.map (mb A0_8),.map (mb A0_9),.slice A0_10 a0.txs.length c0_10,.map (mb A0_11),vI a0.clock,vI a0.clock] rfl rfl ?_
 intro w13 E' S
 replace E:=E.trans E'
 refine QB (YU ⟨.inl (by decide),?_⟩)
 refine Wz ?_
 refine tn (QE (QE (QA (W_v (pt bo0 0) (QO (S.blk 2 rfl) ty27 rfl rfl) rfl (W_v (pt bo0 0) (Qo rfl) rfl (W_v (pt bo0 10) (QC (o:=0) (off:=10) Tryd.underlying94 rfl ty92 rfl rfl) rfl (W_v (.slice A0_10 a0.txs.length c0_10) (QO (S.blk 3 rfl) ty92 rfl rfl) rfl (W_v (vI (a0.txs.length:Int)) (Q8 (n:=a0.txs.length) Tryd.underlying92 rfl) rfl (W_v (vI 0) (QD rfl) rfl (QB (tn ?_)))))))))))
 obtain ⟨o225,o225h,o225H⟩:=QW H
 refine Yj (fun ρ w'=>∃ (x224:Int),(x224)=o225∧Qi ρ [(4,pt b1 0),(8,pt b7 0)]∧Ext w w'∧St w' M F [Blk b7 (.cells cz14 43 (0,0)),Blk b1 (.cells #[pt bo0 0] 27 (0,0)),Blk bo0 (.cells #[vI a0.c.Tasks,vI a0.c.Active,vI a0.c.Keys,vI a0.c.Depth,vI a0.c.TS,vI a0.c.KeyLen,vI a0.c.ValLen,vI a0.c.Fan,.map (mb A0_8),.map (mb A0_9),.slice A0_10 a0.txs.length c0_10,.map (mb A0_11),vI a0.clock,vI x224] 94 (0,0)),QT QF (Value.int .i64) A0_8 a0.names,QT (Value.int .i64) (Value.int .i64) A0_9 a0.many,Row QL 99 (.slice A0_10 a0.txs.length c0_10) a0.txs,QT encS (fun v:Value=>v) A0_11 vs0_11]) ?_ ?_
 ·skip
  refine Y3 (fun n ρ w'=>∃ (x154:Int) (x155:Int),Zr a0 n x154 x155=some o225∧Qi ρ [(4,pt b1 0),(8,pt b7 0),(21,.slice A0_10 a0.txs.length c0_10),(22,vI (a0.txs.length:Int)),(23,vI x154)]∧Ext w w'∧St w' M F [Blk b7 (.cells cz14 43 (0,0)),Blk b1 (.cells #[pt bo0 0] 27 (0,0)),Blk bo0 (.cells #[vI a0.c.Tasks,vI a0.c.Active,vI a0.c.Keys,vI a0.c.Depth,vI a0.c.TS,vI a0.c.KeyLen,vI a0.c.ValLen,vI a0.c.Fan,.map (mb A0_8),.map (mb A0_9),.slice A0_10 a0.txs.length c0_10,.map (mb A0_11),vI a0.clock,vI x155] 94 (0,0)),QT QF (Value.int .i64) A0_8 a0.names,QT (Value.int .i64) (Value.int .i64) A0_9 a0.many,Row QL 99 (.slice A0_10 a0.txs.length c0_10) a0.txs,QT encS (fun v:Value=>v) A0_11 vs0_11]) k ?_ ?_
  ·skip
   exact ⟨(0:Int),a0.clock,o225h,⟨rfl,rfl,rfl,rfl,rfl,trivial⟩,E,S.pick [0,2,3,4,5,6,7] (by decide)⟩
  ·intro n
   rintro ρ w226 ⟨x154,x155,H,hρ,E,S⟩
   rw [QI hρ]
   cases n with
   | zero=>cases H
   | succ k =>
    rw [Zr.eq_2] at H
    refine QE (QA (W_v (.bool (decide (x154 < (a0.txs.length:Int)))) (Qa rfl rfl rfl rfl) rfl (QB (tn (QE ?_)))))
    rcases Zf H with ⟨hb227,H⟩ | ⟨hb227,H⟩
    ·refine QQ (congrArg Value.bool hb227) ?_
     refine Qr (tn (QE ?_))
     obtain ⟨o261,o261h,o261H⟩:=QW H
     refine Y7 (fun ρ w'=>∃ (x260:Int),(x260)=o261∧Qi ρ [(4,pt b1 0),(8,pt b7 0),(21,.slice A0_10 a0.txs.length c0_10),(22,vI (a0.txs.length:Int)),(23,vI x154)]∧Ext w w'∧St w' M F [Blk b7 (.cells cz14 43 (0,0)),Blk b1 (.cells #[pt bo0 0] 27 (0,0)),Blk bo0 (.cells #[vI a0.c.Tasks,vI a0.c.Active,vI a0.c.Keys,vI a0.c.Depth,vI a0.c.TS,vI a0.c.KeyLen,vI a0.c.ValLen,vI a0.c.Fan,.map (mb A0_8),.map (mb A0_9),.slice A0_10 a0.txs.length c0_10,.map (mb A0_11),vI a0.clock,vI x260] 94 (0,0)),QT QF (Value.int .i64) A0_8 a0.names,QT (Value.int .i64) (Value.int .i64) A0_9 a0.many,Row QL 99 (.slice A0_10 a0.txs.length c0_10) a0.txs,QT encS (fun v:Value=>v) A0_11 vs0_11]) ?_ ?_
     ·as_aux_lemma =>
       clear o261H
       have H:=o261h
       refine YP ?_
       refine QE (QA ?_)
       obtain ⟨⟨p262,p263⟩,H⟩:=Yy H
       obtain ⟨b264,o265,cs266,_,_,ee271,hb267,vs268,hR269,hc270⟩:=SlW.at' (S.row_read 5 rfl) p262 p263
       obtain rfl:vs268=_:=hR269
       refine W_v (.pointer (some ⟨b264,o265+x154.toNat*2,none⟩)) (Qy Tryd.underlying92 ty99 (slA ee271) rfl p262 p263) rfl (W_v (.agg #[vU ((rd a0.txs x154).state),vI ((rd a0.txs x154).snapshot)]) (ZA (Hp.of_get hb267) ty99 rfl (Xa hc270 0 rfl) rfl rfl) rfl ?_)
       refine Zo S #[vU 0,vI 0] ty99 rfl rfl ?_
       intro b272 w273 E' S
       replace E:=E.trans E'
       refine Qx S 0 rfl ty99 rfl rfl [vU ((rd a0.txs x154).state),vI ((rd a0.txs x154).snapshot)] rfl rfl rfl #[vU ((rd a0.txs x154).state),vI ((rd a0.txs x154).snapshot)] rfl rfl ?_
       intro w275 E' S
       replace E:=E.trans E'
       refine QB (tn (QE (QA (W_v (pt b272 0) (QC (o:=0) (off:=0) Tryd.underlying99 rfl ty5 rfl rfl) rfl (W_v (vU ((rd a0.txs x154).state)) (QO (S.blk 0 rfl) ty5 rfl rfl) rfl (W_v (.bool ((rd a0.txs x154).state==(1:Int))) (Qa rfl rfl rfl rfl) rfl (QB (tn ?_))))))))
       obtain ⟨o287,o287h,o287H⟩:=QW H
       refine Y7 (fun ρ w'=>∃ (x286:Int),(x286)=o287∧Qi ρ [(4,pt b1 0),(8,pt b7 0),(21,.slice A0_10 a0.txs.length c0_10),(22,vI (a0.txs.length:Int)),(23,vI x154)]∧Ext w w'∧St w' M F [Blk b7 (.cells cz14 43 (0,0)),Blk b1 (.cells #[pt bo0 0] 27 (0,0)),Blk bo0 (.cells #[vI a0.c.Tasks,vI a0.c.Active,vI a0.c.Keys,vI a0.c.Depth,vI a0.c.TS,vI a0.c.KeyLen,vI a0.c.ValLen,vI a0.c.Fan,.map (mb A0_8),.map (mb A0_9),.slice A0_10 a0.txs.length c0_10,.map (mb A0_11),vI a0.clock,vI x286] 94 (0,0)),QT QF (Value.int .i64) A0_8 a0.names,QT (Value.int .i64) (Value.int .i64) A0_9 a0.many,Row QL 99 (.slice A0_10 a0.txs.length c0_10) a0.txs,QT encS (fun v:Value=>v) A0_11 vs0_11]) ?_ ?_
       ·clear o287H
        have H:=o287h
        rcases Zf H with ⟨hb288,H⟩ | ⟨hb288,H⟩
        ·refine QQ (congrArg Value.bool hb288) ?_
         refine Q0 (S:=fun w'=>∃ Mx,M.le Mx∧St w' Mx F [Blk b272 (.cells #[vU ((rd a0.txs x154).state),vI ((rd a0.txs x154).snapshot)] 99 (0,0)),Blk b7 (.cells cz14 43 (0,0)),Blk b1 (.cells #[pt bo0 0] 27 (0,0)),Blk bo0 (.cells #[vI a0.c.Tasks,vI a0.c.Active,vI a0.c.Keys,vI a0.c.Depth,vI a0.c.TS,vI a0.c.KeyLen,vI a0.c.ValLen,vI a0.c.Fan,.map (mb A0_8),.map (mb A0_9),.slice A0_10 a0.txs.length c0_10,.map (mb A0_11),vI a0.clock,vI x155] 94 (0,0)),QT QF (Value.int .i64) A0_8 a0.names,QT (Value.int .i64) (Value.int .i64) A0_9 a0.many,Row QL 99 (.slice A0_10 a0.txs.length c0_10) a0.txs,QT encS (fun v:Value=>v) A0_11 vs0_11]) (L:=10) mixed ?_
         intro w290 hw291 E'
         replace S:=S.heap hw291
         replace E:=E.trans E'
         have D2:∃ Mx,Hp.le M Mx∧St _ Mx F [_,_,_,_,_,_,_,_]:=⟨_,Hp.le_refl _,S.pick [0,1,2,3,4,5,6,7] (by decide)⟩
         refine Wt 0 rfl rfl rfl (pt bo0 0) rfl (fun w' h'=>QO (Qp h' 2 rfl) ty27 rfl rfl) D2 (Wt 1 rfl rfl rfl (pt bo0 0) rfl (fun w' h'=>QO (Qp h' 2 rfl) ty27 rfl rfl) D2 (Wt 2 rfl rfl rfl (pt bo0 0) rfl (fun w' h'=>Qo rfl) D2 (Wt 3 rfl rfl rfl (pt bo0 13) rfl (fun w' h'=>QC (o:=0) (off:=13) Tryd.underlying94 rfl ty3 rfl rfl) D2 (Wt 4 rfl rfl rfl (vI x155) rfl (fun w' h'=>QO (Qp h' 3 rfl) ty3 rfl rfl) D2 (Wt 5 rfl rfl rfl (pt b272 1) rfl (fun w' h'=>QC (o:=0) (off:=1) Tryd.underlying99 rfl ty3 rfl rfl) D2 (Wt 6 rfl rfl rfl (vI ((rd a0.txs x154).snapshot)) rfl (fun w' h'=>QO (Qp h' 0 rfl) ty3 rfl rfl) D2 (Wt 7 rfl rfl rfl (vI (imin x155 ((rd a0.txs x154).snapshot))) rfl (fun w' h'=>V9 rfl rfl) D2 (Wt 8 rfl rfl rfl (pt bo0 0) rfl (fun w' h'=>Qo rfl) D2 (Wt 9 rfl rfl rfl (pt bo0 13) rfl (fun w' h'=>QC (o:=0) (off:=13) Tryd.underlying94 rfl ty3 rfl rfl) D2 ?_)))))))))
         refine Wo 10 rfl ?_
         refine Qx S 3 rfl ty3 rfl rfl [vI (imin x155 ((rd a0.txs x154).snapshot))] rfl rfl rfl #[vI a0.c.Tasks,vI a0.c.Active,vI a0.c.Keys,vI a0.c.Depth,vI a0.c.TS,vI a0.c.KeyLen,vI a0.c.ValLen,vI a0.c.Fan,.map (mb A0_8),.map (mb A0_9),.slice A0_10 a0.txs.length c0_10,.map (mb A0_11),vI a0.clock,vI (imin x155 ((rd a0.txs x154).snapshot))] rfl rfl ?_
         intro w292 E' S
         replace E:=E.trans E'
         refine QB (YU ⟨.inl (by decide),?_⟩)
         refine Wz ?_
         refine tn ?_
         exact ⟨(imin x155 ((rd a0.txs x154).snapshot)),Option.some.inj H,⟨rfl,rfl,rfl,rfl,rfl,trivial⟩,E,S.pick [1,2,3,4,5,6,7] (by decide)⟩
        refine QK (congrArg Value.bool hb288) (Qr (tn ?_))
        exact ⟨x155,Option.some.inj H,⟨rfl,rfl,rfl,rfl,rfl,trivial⟩,E,S.pick [1,2,3,4,5,6,7] (by decide)⟩
       rintro ρ w293 ⟨x286,rfl,hρ,E,S⟩
       rw [QI hρ]
       have H:=o287H
       refine bn (tn ?_)
       exact ⟨x286,Option.some.inj H,⟨rfl,rfl,rfl,rfl,rfl,trivial⟩,E,S.pick [0,1,2,3,4,5,6] (by decide)⟩
     rintro ρ w294 ⟨x260,rfl,hρ,E,S⟩
     rw [QI hρ]
     have H:=o261H
     refine tn (QA (W_v (vI (IntKind.i64.wrap (x154+(1:Int)))) (Qa rfl rfl rfl rfl) rfl (W_v (vI (IntKind.i64.wrap (x154+(1:Int)))) (QD rfl) rfl (QB (tn ?_)))))
     exact ⟨k,Nat.lt_succ_self k,⟨(IntKind.i64.wrap (x154+(1:Int))),x260,H,⟨rfl,rfl,rfl,rfl,rfl,trivial⟩,E,S.pick [0,1,2,3,4,5,6] (by decide)⟩⟩
    refine QK (congrArg Value.bool hb227) ?_
    refine Y0 ?_
    refine tx (tx (bsm (?_)))
    refine tn ?_
    exact ⟨x155,Option.some.inj H,⟨rfl,rfl,trivial⟩,E,S.pick [0,1,2,3,4,5,6] (by decide)⟩
 rintro ρ w295 ⟨x224,rfl,hρ,E,S⟩
 rw [QI hρ]
 have H:=o225H
 refine tn ?_
 as_aux_lemma =>
 refine QE (QA (W_v (pt bo0 0) (QO (S.blk 1 rfl) ty27 rfl rfl) rfl (W_v (.func (.func 138) #[] #[pt b1 0]) (X0 rfl) rfl ?_)))
 obtain ⟨t296,ht297,H⟩:=QW H
 replace S:St w295 M F [_,_,_,_,_,_,_]:=S.pick [2,3,4,5,6,1,0] (by decide)
 refine Yc fn137 (ZY.con k M A0_8 c0_8 A0_9 c0_9 A0_10 c0_10 A0_11 c0_11 vs0_11 (⟨⟨a0.c.Tasks,a0.c.Active,a0.c.Keys,a0.c.Depth,a0.c.TS,a0.c.KeyLen,a0.c.ValLen,a0.c.Fan⟩,a0.names,a0.many,a0.txs,a0.rows,a0.clock,x224⟩:QJ) bo0 b1 t296 hm0_11 ht297) (Γ1:=[_,_,_,_,_,_]) (Γ2:=[_]) S rfl rfl ?_
 rintro _ w312 M313 Γ' hM314 E' S ⟨A298,c299,A301,c302,A304,c305,A307,c308,vs310,rfl,hm311,rfl⟩
 replace HM:=Hp.le_trans HM hM314
 replace E:=E.trans E'
 replace S:St w312 M313 F [_,_,_,_,_,_,_]:=S
 refine QB (tn (QE (QA (W_v (.agg cz14) (Z3 (pl:=[(0,1),(1,1),(2,1),(3,1)]) cz14 Tryd.underlying43 ty43 (by as_aux_lemma=>kernel_rfl) rfl (by as_aux_lemma=>kernel_rfl)) rfl ?_))))
 refine Qx S 6 rfl ty43 rfl rfl [vI 0,.bool false,vS ([]:Str),.slice none 0 0] rfl rfl rfl cz14 rfl rfl ?_
 intro w315 E' S
 replace E:=E.trans E'
 refine QB (tn ?_)
 refine Qs ?_
 obtain rfl:=Option.some.inj H
 replace S:=S.row_nil Qm 87
 exact ⟨_,_,_,fun w1 e1=>QX (vs:=[.agg #[vI 0,.bool false,vS ([]:Str),.slice none ([]:List Qf).length 0]]) (FA.cons (⟨_,rfl,Qn ty43 ((S.of_eq e1).blk 7 rfl) (QM rfl) rfl (by decide)⟩) (FA.nil)),HM,E,S.pick [0,1,2,3,4,5] (by decide),⟨none,0,A298,c299,A301,c302,A304,c305,A307,c308,vs310,rfl,hm311,rfl⟩⟩
def Yg (k:Nat) (a0:QJ) (a1:Int) (a2:Int) (a3:ZE):Option (Qc) :=
 some cz8
theorem Yg.mono {k:Nat} {a0:QJ} {a1:Int} {a2:Int} {a3:ZE}:OLe (Yg k a0 a1 a2 a3) (Yg (k+1) a0 a1 a2 a3):=by
 unfold Yg
 exact mo
theorem Yg.con (k:Nat) (M:Hp) (A0_8:Option Addr) (c0_8:Nat) (A0_9:Option Addr) (c0_9:Nat) (A0_10:Option Addr) (c0_10:Nat) (A0_11:Option Addr) (c0_11:Nat) (vs0_11:List (Str×Value)) (a0:QJ) (a1:Int) (a2:Int) (a3:ZE) (bo0:Nat) (r:Qc) (hm0_11:YV Qk M a0.rows vs0_11) (h:Yg k a0 a1 a2 a3=some r):Con Tryd.prog 132 #[pt bo0 0,vI a1,vI a2,.agg #[vU a3.Kind,vI a3.Tx,vS a3.Key,vS a3.End,vS a3.Value,vI a3.Limit,vU a3.Engine]] M [B94 bo0 a0 A0_8 A0_9 A0_10 c0_10 A0_11,QT QF (Value.int .i64) A0_8 a0.names,QT (Value.int .i64) (Value.int .i64) A0_9 a0.many,Row QL 99 (.slice A0_10 a0.txs.length c0_10) a0.txs,QT encS (fun v:Value=>v) A0_11 vs0_11] (fun v M' Γ'=>∃ (Aq1:Option Addr) (cq2:Nat),v=.agg #[vI r.Err,.bool r.Found,vS r.Value,.slice Aq1 r.Pairs.length cq2]∧Γ'=[Row Qm 87 (.slice Aq1 r.Pairs.length cq2) r.Pairs,B94 bo0 a0 A0_8 A0_9 A0_10 c0_10 A0_11,QT QF (Value.int .i64) A0_8 a0.names,QT (Value.int .i64) (Value.int .i64) A0_9 a0.many,Row QL 99 (.slice A0_10 a0.txs.length c0_10) a0.txs,QT encS (fun v:Value=>v) A0_11 vs0_11]):=by
 refine Qt Tryd.func132 rfl Tryd.ntmps132 Tryd.results132 rfl ?_
 intro w F rn S hrn
 have E:=Ext.refl w
 have HM:=Hp.le_refl M
 have H:=h
 unfold Yg at H
 refine QE (QA ?_)
 refine Y8 S #[vU a3.Kind,vI a3.Tx,vS a3.Key,vS a3.End,vS a3.Value,vI a3.Limit,vU a3.Engine] rfl rfl rfl ?_
 intro b1 w2 E' S
 replace E:=E.trans E'
 refine Zo S cz14 ty43 rfl rfl ?_
 intro b4 w5 E' S
 replace E:=E.trans E'
 refine QB (tn (QE (QA (W_v (.agg cz14) (Z3 (pl:=[(0,1),(1,1),(2,1),(3,1)]) cz14 Tryd.underlying43 ty43 (by as_aux_lemma=>kernel_rfl) rfl (by as_aux_lemma=>kernel_rfl)) rfl ?_))))
 refine Qx S 0 rfl ty43 rfl rfl [vI 0,.bool false,vS ([]:Str),.slice none 0 0] rfl rfl rfl cz14 rfl rfl ?_
 intro w7 E' S
 replace E:=E.trans E'
 refine QB (tn ?_)
 refine Qs ?_
 obtain rfl:=Option.some.inj H
 replace S:=S.row_nil Qm 87
 exact ⟨_,_,_,fun w1 e1=>QX (vs:=[.agg #[vI 0,.bool false,vS ([]:Str),.slice none ([]:List Qf).length 0]]) (FA.cons (⟨_,rfl,Qn ty43 ((S.of_eq e1).blk 1 rfl) (QM rfl) rfl (by decide)⟩) (FA.nil)),HM,E,S.pick [0,3,4,5,6,7] (by decide),⟨none,0,rfl,rfl⟩⟩
end Go.Proofs.YtcngjjlhdlbogaaDoor
