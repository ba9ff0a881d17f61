import Derived.Test.YtkknoimjgifhlaaGreatDoorGr3B
import Derived.Test.YtkknoimjgifhlaaGreatDoorGr3LRoomTellsP0
import Derived.Test.YtkknoimjgifhlaaGreatDoorGr3LRoomTellsP1
namespace Go.Proofs.YtkknoimjgifhlaaGreatDoor
open Go
set_option linter.unusedVariables false
set_option linter.unusedSimpArgs false
set_option maxHeartbeats 80000000
set_option maxRecDepth 100000
def Z3 (k:Nat) (a0:QW) (a1:Str) (a2:QU):Option (Ql×QW) :=
 (Option.bind (α:=Bool) (if ((!(((mget a0.rows a1).getD cz19).intent.Writer==a2.Writer))&&(!(((mget a0.rows a1).getD cz19).intent.Writer==(0:Int))))=true then some (true) else (if 0≤(IntKind.i64.wrap (a2.Writer-(1:Int)))∧(IntKind.i64.wrap (a2.Writer-(1:Int)))<(a0.txs.length:Int) then (Option.bind (VD k (((mget a0.rows a1).getD cz19).l) ((rd a0.txs (IntKind.i64.wrap (a2.Writer-(1:Int)))).snapshot)) (fun t60=>some (t60))) else none)) (fun x53=>(if x53=true then some (cz9,a0) else (Option.bind (Zp k a0 a2.Writer ((mget a0.rows a1).getD cz19)) (fun t67=>(if (a2.Tomb&&(!t67.2))=true then some (cz11,a0) else (if ((((mget a0.rows a1).getD cz19).intent.Writer==(0:Int))&&(((((((mget a0.rows a1).getD cz19).l).length:Int)==(0:Int))&&(decide ((a0.rows.length:Int)≥a0.c.Keys)))||(decide (((((mget a0.rows a1).getD cz19).l).length:Int)≥a0.c.Depth))))=true then some (cz8,a0) else (Option.bind (α:=List (Str×Qh)) (some (mput a0.rows a1 (⟨((mget a0.rows a1).getD cz19).l,⟨a2.Writer,a2.TS,a2.Tomb,a2.Value⟩⟩:Qh))) (fun x101=>some ((⟨(0:Int),(a2.Tomb),([]:Str),([]:List Qp)⟩:Ql),(⟨⟨a0.c.Tasks,a0.c.Active,a0.c.Keys,a0.c.Depth,a0.c.TS,a0.c.KeyLen,a0.c.ValLen,a0.c.Fan⟩,a0.names,a0.many,a0.txs,x101,a0.clock,a0.floor⟩:QW)))))))))))
theorem Z3.mono {k a0 a1 a2}: OLe (Z3 k a0 a1 a2) (Z3 (k+1) a0 a1 a2):=by
 unfold Z3
 have m1:=@VD.mono
 have m2:=@Zp.mono
 exact mo
theorem Z3.con {k M A0_8 A0_9 A0_10 c0_10 A0_11} {vs0_11:List (Str×Value)} {a0:QW} {a1:Str} {a2:QU} {bo0} {r:Ql×QW} (h:Z3 k a0 a1 a2=some r) (hm0_11:Xa Qx M a0.rows vs0_11): Con Tryz.prog 133 #[pt bo0 0,vS a1,.agg (Y4 a2)] M [B96 bo0 a0 A0_8 A0_9 A0_10 c0_10 A0_11,XC QM (Value.int .i64) A0_8 a0.names,MpI A0_9 a0.many,Rw Qe 134 A0_10 c0_10 a0.txs,MpV A0_11 vs0_11] (fun v M' Γ'=>∃ (Aq1:Option Addr) (cq2:Nat) (Aq4:Option Addr) (cq5:Nat) (Aq7:Option Addr) (cq8:Nat) (Aq10:Option Addr) (cq11:Nat) (Aq13:Option Addr) (cq14:Nat) (vsq16:List (Str×Value)),v=.agg #[vI r.1.Err,.bool r.1.Found,vS r.1.Value,.slice Aq1 r.1.Pairs.length cq2]∧Xa Qx M' r.2.rows vsq16∧Γ'=[Rw Qq 119 Aq1 cq2 r.1.Pairs,B96 bo0 r.2 Aq4 Aq7 Aq10 cq11 Aq13,XC QM (Value.int .i64) Aq4 r.2.names,MpI Aq7 r.2.many,Rw Qe 134 Aq10 cq11 r.2.txs,MpV Aq13 vsq16]):=by
 refine cwA Tryz.func133 J Tryz.ntmps133 Tryz.results133 J h ?_
 intro w F rn S hrn E HM H
 unfold Z3 at H
 refine wsQ ?_
 refine Yz S (Y4 a2) J J J (eE2 E ?_)
 intro b1 w2 E S
 refine YN S cz16 ty38 J J (eE2 E ?_)
 intro b4 w5 E S
 refine wnQ (wsQ (wmP J (W_v _ (Qb J) J (wfA Tryz.underlying96 ty94 J (wlA S 2 ty94 J (wmS J ?_))))))
 obtain ⟨cs7,hR8,he9⟩:=hm0_11.get a1 (z:=cz19) (zc:=[.slice none 0 0,vI 0,vI 0,.bool false,vS ([]:Str)]) ⟨_,SlW.nil _ _,J⟩
 obtain ⟨v13,hs12,rfl⟩:=hR8
 obtain ⟨A10,c11,rfl,_⟩:=hs12.form
 refine W_v (.agg #[.slice A10 (((mget a0.rows a1).getD cz19).l).length c11,vI (((mget a0.rows a1).getD cz19).intent.Writer),vI (((mget a0.rows a1).getD cz19).intent.TS),.bool (((mget a0.rows a1).getD cz19).intent.Tomb),vS (((mget a0.rows a1).getD cz19).intent.Value)]) ((Eq.trans (Vn S 6 J Tryz.underlying94 key9 (Value.agg cz12) (fun _=>ty90.zero) a1 J J) (by rw [show (mget vs0_11 a1).getD (Value.agg cz12)=_ from he9]))) rfl ?_
 refine YN S cz12 ty90 J J (eE2 E ?_)
 intro b14 w15 E S
 refine Qu S 0 J ty90 J J [.slice A10 (((mget a0.rows a1).getD cz19).l).length c11,vI (((mget a0.rows a1).getD cz19).intent.Writer),vI (((mget a0.rows a1).getD cz19).intent.TS),.bool (((mget a0.rows a1).getD cz19).intent.Tomb),vS (((mget a0.rows a1).getD cz19).intent.Value)] J J J #[.slice A10 (((mget a0.rows a1).getD cz19).l).length c11,vI (((mget a0.rows a1).getD cz19).intent.Writer),vI (((mget a0.rows a1).getD cz19).intent.TS),.bool (((mget a0.rows a1).getD cz19).intent.Tomb),vS (((mget a0.rows a1).getD cz19).intent.Value)] J J (eE1 E ?_)
 intro w17 E S
 refine wnQ (QH ?_)
 refine rgA S [0,1,2,3,4,5,6,7] [_,_,_,_,_,_,_,_] 12 mixed J (eE1 E ?_)
 intro w18 E S D1
 refine tz0 0 J D1 (xfA Tryz.underlying90 ty88 J) (tz0 1 J D1 (xfA Tryz.underlying88 ty3 J) (tz1 2 J D1 (fun w' h'=>xlA h' 0 ty3 J) (tz0 3 J D1 (xfA Tryz.underlying88 ty3 J) (tz1 4 J D1 (fun w' h'=>xlA h' 2 ty3 J) (tz0 5 J D1 (xiB J J) (tz0 6 J D1 (xfA Tryz.underlying90 ty88 J) (tz0 7 J D1 (xfA Tryz.underlying88 ty3 J) (tz1 8 J D1 (fun w' h'=>xlA h' 0 ty3 J) (tz0 9 J D1 (xiB J J) (tz0 10 J D1 (xaB J) (tz0 11 J D1 (xaB J) ?_)))))))))))
 refine Wz ?_
 refine tn ?_
 as_aux_lemma =>
 refine QH (QH ?_)
 refine rgA S [0,1,2,3,4,5,6,7] [_,_,_,_,_,_,_,_] 21 mixed J (eE1 E ?_)
 intro w41 E S D2
 refine tz0 0 J D2 (xmB J) (tz0 1 J D2 (Xr (b:=(((mget a0.rows a1).getD cz19).intent.Writer==a2.Writer)) J) (tz0 2 J D2 (xmB J) ?_))
 refine YB (fun ρ w'=>QV ρ [(0,pt bo0 0),(1,vS a1),(5,pt b1 0),(6,pt b4 0),(7,pt b14 0),(9,.bool (((mget a0.rows a1).getD cz19).intent.Writer==(0:Int))),(33,.bool ((!(((mget a0.rows a1).getD cz19).intent.Writer==a2.Writer))&&(!(((mget a0.rows a1).getD cz19).intent.Writer==(0:Int)))))]∧w41=w') 15 (Ls 21 [0,1,2,3,4,5]) ?_ ?_
 rotate_left
 ·intro hrest
  rcases Qy (!(((mget a0.rows a1).getD cz19).intent.Writer==a2.Writer)) with hb43 | hb43
  ·refine tz4 3 J (skT hb43) D2 (tz4 4 J (skT hb43) D2 (tz0 5 J D2 (xqB hb43 J) ?_))
   exact hrest _ _ ⟨⟨J,J,J,J,J,J,(flB hb43),trivial⟩,rfl⟩
  ·refine tz2 3 J (cS hb43) D2 (xmB J) (tz2 4 J (cS hb43) D2 (Xr (b:=(((mget a0.rows a1).getD cz19).intent.Writer==(0:Int))) J) (tz0 5 J D2 (xpB hb43 J) ?_))
   exact hrest _ _ ⟨⟨J,J,J,J,J,J,(flB hb43),trivial⟩,rfl⟩
 rintro ρ _ ⟨hρ,rfl⟩
 rw [QB hρ]
 refine tz0 6 J (⟨M,Hp.le_refl M,(S.pk [0,1,2,3,4,5,6,7])⟩) (xmB J) ?_
 obtain ⟨o54,o54h,o54H⟩:=QO H
 refine YB (fun ρ w'=>∃ (x53:Bool),(x53)=o54∧QV ρ [(0,pt bo0 0),(1,vS a1),(5,pt b1 0),(6,pt b4 0),(7,pt b14 0),(9,.bool (((mget a0.rows a1).getD cz19).intent.Writer==(0:Int))),(48,.bool x53)]∧Ext w w'∧St w' M F [B90 b14 ((mget a0.rows a1).getD cz19) A10 c11,Blk b4 (.cells cz16 38 (0,0)),B88 b1 a2,B96 bo0 a0 A0_8 A0_9 A0_10 c0_10 A0_11,XC QM (Value.int .i64) A0_8 a0.names,MpI A0_9 a0.many,Rw Qe 134 A0_10 c0_10 a0.txs,MpV A0_11 vs0_11]) 0 (Ls 21 [0,1,2,3,4,5,6,7,8,9,10,11,12,13,14,15,16,17,18,19,20]) ?_ ?_
 rotate_left
 ·intro hrest
  have H:=o54h
  rcases Q3 H with ⟨hb52,H⟩ | ⟨hb52,H⟩
  ·refine tz4 7 J (skF hb52) D2 (tz4 8 J (skF hb52) D2 (tz4 9 J (skF hb52) D2 (tz4 10 J (skF hb52) D2 (tz4 11 J (skF hb52) D2 (tz4 12 J (skF hb52) D2 (tz4 13 J (skF hb52) D2 (tz4 14 J (skF hb52) D2 (tz4 15 J (skF hb52) D2 (tz4 16 J (skF hb52) D2 (tz4 17 J (skF hb52) D2 (tz4 18 J (skF hb52) D2 (tz4 19 J (skF hb52) D2 (tz0 20 J D2 (xpB hb52 J) ?_)))))))))))))
   exact hrest _ _ ⟨true,oi H,agP J,E,S.pk [0,1,2,3,4,5,6,7]⟩
  ·refine tz2 7 J (cS hb52) D2 (xfA Tryz.underlying90 ty86 J) (tz3 8 J (cS hb52) D2 (fun w' h'=>xlA h' 0 ty86 J) (tz2 9 J (cS hb52) D2 (xmP J) (tz2 10 J (cS hb52) D2 (Qb J) (tz2 11 J (cS hb52) D2 (xfA Tryz.underlying96 ty93 J) (tz3 12 J (cS hb52) D2 (fun w' h'=>xlA h' 3 ty93 J) (tz2 13 J (cS hb52) D2 (xfA Tryz.underlying88 ty3 J) (tz3 14 J (cS hb52) D2 (fun w' h'=>xlA h' 2 ty3 J) (tz2 15 J (cS hb52) D2 (xiI J J) ?_))))))))
   obtain ⟨⟨p55,p56⟩,H⟩:=Z8 H
   obtain ⟨b57,o58,_,_,_,ee59,_⟩:=SlW.at' (S.row_read 6 J) p55 p56
   refine tz2 16 J (cS hb52) D2 (QS Tryz.underlying93 ty134 (slA ee59) J p55 p56) (tz2 17 J (cS hb52) D2 (X2 (o:=o58+(IntKind.i64.wrap (a2.Writer-(1:Int))).toNat*2) (off:=1) Tryz.underlying134 J ty3 J J) (WtY 18 J J J (vI ((rd a0.txs (IntKind.i64.wrap (a2.Writer-(1:Int)))).snapshot)) J (cS hb52) (fun w' h'=>X9 h' 6 J ee59 p55 p56 1 (by rintro _ _ rfl;rfl) ty3 J) D2 ?_))
   refine Wo 19 J ?_
   refine QN (cS hb52) ?_
   obtain ⟨t60,ht61,H⟩:=QO H
   refine ZR fn140 (VD.con ht61 hs12) S J J flN (eE4 E ?_)
   rintro _ w62 _ Γ' E S ⟨rfl,rfl⟩
   refine QK (Yl ⟨.inr ⟨M,Hp.le_refl M,(S.pk [0,1,2,3,4,5,6,7])⟩,?_⟩)
   refine tz0 20 J (⟨M,Hp.le_refl M,(S.pk [0,1,2,3,4,5,6,7])⟩) (xqB hb52 J) ?_
   exact hrest _ _ ⟨t60,oi H,agP J,E,S.pk [0,1,2,3,4,5,6,7]⟩
 rintro ρ w63 ⟨x53,rfl,hρ,E,S⟩
 rw [QB hρ]
 have H:=o54H
 refine Wz ?_
 refine tn ?_
 rcases Q3 H with ⟨hb64,H⟩ | ⟨hb64,H⟩
 ·refine QC (cB hb64) ?_
  refine wsQ (W_v _ (xb2 [(0,1),(1,1),(2,1),(3,1)] cz14 Tryz.underlying38 ty38 J) J ?_)
  refine Qu S 1 J ty38 J J [vI 33,.bool false,vS ([]:Str),.slice none 0 0] J J J cz14 J J (eE1 E ?_)
  intro w65 E S
  refine wnQ ?_
  refine QT ?_
  refine tr (?_)
  obtain rfl:=oi H
  replace S:=S.row_nil Qq 119
  exact ⟨_,_,_,fun w1 e1=>Zg (vs:=[.agg #[vI 33,.bool false,vS ([]:Str),.slice none ([]:List Qp).length 0]]) (FA.cons (rcA S e1 2 ty38 J J J) (FA.nil)),HM,E,S.pk [0,4,5,6,7,8],⟨none,0,A0_8,0,A0_9,0,A0_10,c0_10,A0_11,0,vs0_11,J,hm0_11,J⟩⟩
 refine QA (cB hb64) (QX (tn ?_))
 as_aux_lemma =>
 refine QH (wsQ (wmP J (wfA Tryz.underlying88 ty3 J (wlA S 2 ty3 J (W_v (.agg #[.slice A10 (((mget a0.rows a1).getD cz19).l).length c11,vI (((mget a0.rows a1).getD cz19).intent.Writer),vI (((mget a0.rows a1).getD cz19).intent.TS),.bool (((mget a0.rows a1).getD cz19).intent.Tomb),vS (((mget a0.rows a1).getD cz19).intent.Value)]) (Qi (S.blk 0 J) ty90 J (QG J) J J) J ?_)))))
 obtain ⟨t67,ht68,H⟩:=QO H
 replace S:St w63 M F [_,_,_,_,_,_,_,_]:=S.pk [3,4,5,6,7,0,1,2]
 refine Zy fn132 (Zp.con ht68 hm0_11 hs12) (Γ1:=[_,_,_,_,_]) (Γ2:=[_,_,_]) S J J (by rintro _ _ _ ⟨rfl,rfl⟩;exact (QP Zs (QP Zl (QP Zl (QP (YX (fun _ _ _ _ h=>h)) (QP Zl YE)))))) (eE4 E ?_)
 rintro _ w69 _ Γ' E S ⟨rfl,rfl⟩
 replace S:St w69 M F [_,_,_,_,_,_,_,_]:=S
 refine wmT J (W_v _ (QR J J) J (W_v _ (QR J J) J (waS J (waB J (wnQ (wsQ (wfA Tryz.underlying88 ty4 J (wlA S 7 ty4 J (wmB J ?_)))))))))
 refine ZO 3 (fun ρ w'=>QV ρ [(0,pt bo0 0),(1,vS a1),(5,pt b1 0),(6,pt b4 0),(7,pt b14 0),(9,.bool (((mget a0.rows a1).getD cz19).intent.Writer==(0:Int))),(63,.bool (a2.Tomb&&(!t67.2)))]∧w69=w') ?_ ?_
 ·rcases Qy a2.Tomb with hb72 | hb72
  ·refine QZ (skT hb72) J (QZ (skT hb72) J (wqB hb72 J (QK ?_)))
   exact ⟨⟨J,J,J,J,J,J,(flB hb72),trivial⟩,rfl⟩
  ·refine QN (cS hb72) (wmB J (QN (cS hb72) (W_v _ (Xr (b:=t67.2) J) J (wpB hb72 J (QK ?_)))))
   exact ⟨⟨J,J,J,J,J,J,(flB hb72),trivial⟩,rfl⟩
 as_aux_lemma =>
 rintro ρ _ ⟨hρ,rfl⟩
 rw [QB hρ]
 refine wnQ ?_
 rcases Q3 H with ⟨hb73,H⟩ | ⟨hb73,H⟩
 ·refine QC (cB hb73) ?_
  refine wsQ (W_v _ (xb2 [(0,1),(1,1),(2,1),(3,1)] cz16 Tryz.underlying38 ty38 J) J ?_)
  refine Qu S 6 J ty38 J J [vI 0,.bool false,vS ([]:Str),.slice none 0 0] J J J cz16 J J (eE1 E ?_)
  intro w74 E S
  refine wnQ ?_
  refine QT ?_
  refine tr (?_)
  obtain rfl:=oi H
  replace S:=S.row_nil Qq 119
  exact ⟨_,_,_,fun w1 e1=>Zg (vs:=[.agg #[vI 0,.bool false,vS ([]:Str),.slice none ([]:List Qp).length 0]]) (FA.cons (rcA S e1 7 ty38 J J J) (FA.nil)),HM,E,S.pk [0,1,2,3,4,5],⟨none,0,A0_8,0,A0_9,0,A0_10,c0_10,A0_11,0,vs0_11,J,hm0_11,J⟩⟩
 refine QA (cB hb73) (QX (tn (QH (QH ?_))))
 refine rgA S [0,1,2,3,4,5,6,7] [_,_,_,_,_,_,_,_] 31 mixed J (eE1 E ?_)
 intro w81 E S D9
 refine tz0 0 J D9 (xmB J) (tz0 1 J D9 (xmB J) ?_)
 refine YB (fun ρ w'=>QV ρ [(0,pt bo0 0),(1,vS a1),(5,pt b1 0),(6,pt b4 0),(7,pt b14 0),(95,.bool ((((mget a0.rows a1).getD cz19).intent.Writer==(0:Int))&&(((((((mget a0.rows a1).getD cz19).l).length:Int)==(0:Int))&&(decide ((a0.rows.length:Int)≥a0.c.Keys)))||(decide (((((mget a0.rows a1).getD cz19).l).length:Int)≥a0.c.Depth)))))]∧w81=w') 0 (Ls 31 [0,1,2,3,4,5,6,7,8,9,10,11,12,13,14,15,16,17,18,19,20,21,22,23,24,25,26,27,28,29,30]) ?_ ?_
 rotate_left
 ·intro hrest
  rcases Qy (((mget a0.rows a1).getD cz19).intent.Writer==(0:Int)) with hb85 | hb85
  ·refine tz4 2 J (skT hb85) D9 (tz4 3 J (skT hb85) D9 (tz4 4 J (skT hb85) D9 (tz4 5 J (skT hb85) D9 (tz4 6 J (skT hb85) D9 (tz4 7 J (J) D9 (tz4 8 J (J) D9 (tz4 9 J (J) D9 (tz4 10 J (J) D9 (tz4 11 J (J) D9 (tz4 12 J (J) D9 (tz4 13 J (J) D9 (tz4 14 J (J) D9 (tz4 15 J (J) D9 (tz4 16 J (J) D9 (tz4 17 J (J) D9 ?_)))))))))))))))
   refine tz4 18 J (skT hb85) D9 (tz4 19 J (skT hb85) D9 (tz4 20 J (J) D9 (tz4 21 J (J) D9 (tz4 22 J (J) D9 (tz4 23 J (J) D9 (tz4 24 J (J) D9 (tz4 25 J (J) D9 (tz4 26 J (J) D9 (tz4 27 J (J) D9 (tz4 28 J (J) D9 (tz4 29 J (skT hb85) D9 (tz0 30 J D9 (xqB hb85 J) ?_))))))))))))
   exact hrest _ _ ⟨⟨J,J,J,J,J,(flB hb85),trivial⟩,rfl⟩
  ·refine tz2 2 J (cS hb85) D9 (xfA Tryz.underlying90 ty86 J) (tz3 3 J (cS hb85) D9 (fun w' h'=>xlA h' 5 ty86 J) (tz2 4 J (cS hb85) D9 (Qm (n:=(((mget a0.rows a1).getD cz19).l).length) Tryz.underlying86 J) (tz2 5 J (cS hb85) D9 (xiB J J) (tz2 6 J (cS hb85) D9 (xmB J) ?_))))
   refine YB (fun ρ w'=>QV ρ [(0,pt bo0 0),(1,vS a1),(5,pt b1 0),(6,pt b4 0),(7,pt b14 0),(66,.bool (((mget a0.rows a1).getD cz19).intent.Writer==(0:Int))),(83,.bool ((((((mget a0.rows a1).getD cz19).l).length:Int)==(0:Int))&&(decide ((a0.rows.length:Int)≥a0.c.Keys))))]∧w81=w') 12 (Ls 31 [0,1,2,3,4,5,6,7,8,9,10,11,12,13,14,15,16,17,18]) ?_ ?_
   rotate_left
   ·intro hrest
    rcases Qy (((((mget a0.rows a1).getD cz19).l).length:Int)==(0:Int)) with hb86 | hb86
    ·refine tz4 7 J (skT hb86) D9 (tz4 8 J (skT hb86) D9 (tz4 9 J (skT hb86) D9 (tz4 10 J (skT hb86) D9 (tz4 11 J (skT hb86) D9 (tz4 12 J (skT hb86) D9 (tz4 13 J (skT hb86) D9 (tz4 14 J (skT hb86) D9 (tz4 15 J (skT hb86) D9 (tz4 16 J (skT hb86) D9 (tz4 17 J (skT hb86) D9 (tz2 18 J (cS hb85) D9 (xqB hb86 J) ?_)))))))))))
     exact hrest _ _ ⟨⟨J,J,J,J,J,J,(flB hb86),trivial⟩,rfl⟩
    ·refine tz2 7 J (cS hb86) D9 (xmP J) (tz2 8 J (cS hb86) D9 (Qb J) (tz2 9 J (cS hb86) D9 (xfA Tryz.underlying96 ty94 J) (tz3 10 J (cS hb86) D9 (fun w' h'=>xlA h' 0 ty94 J) (WtY 11 J J J (vI (a0.rows.length:Int)) J (cS hb86) (fun w' h'=>Exists.elim h' fun Mx h9=>(Eq.trans (qg h9.2 4 J Tryz.underlying94 J) (by rw [hm0_11.length]))) D9 (WtY 12 rfl rfl rfl (pt bo0 0) rfl (cS hb86) (fun w' h'=>YW rfl) D9 (WtY 13 rfl rfl rfl (pt bo0 0) rfl (cS hb86) (fun w' h'=>Qb rfl) D9 (WtY 14 rfl rfl rfl (pt bo0 0) rfl (cS hb86) (fun w' h'=>X2 (o:=0) (off:=0) Tryz.underlying96 rfl ty23 rfl rfl) D9 (WtY 15 rfl rfl rfl (pt bo0 2) rfl (cS hb86) (fun w' h'=>X2 (o:=0) (off:=2) Tryz.underlying23 rfl ty3 rfl rfl) D9 (WtY 16 rfl rfl rfl (vI a0.c.Keys) rfl (cS hb86) (fun w' h'=>Z0 (Y1 h' 0 rfl) ty3 rfl rfl) D9 (WtY 17 rfl rfl rfl (.bool (decide ((a0.rows.length:Int)≥a0.c.Keys))) rfl (cS hb86) (fun w' h'=>UW rfl rfl rfl rfl) D9 (WtY 18 rfl rfl rfl (.bool (decide ((a0.rows.length:Int)≥a0.c.Keys))) rfl (cS hb85) (fun w' h'=>Kq (k:=true) (cB hb86) rfl) D9 ?_)))))))))))
     exact hrest _ _ ⟨⟨J,J,J,J,J,J,(flB hb86),trivial⟩,rfl⟩
   rintro ρ _ ⟨hρ,rfl⟩
   rw [QB hρ]
   refine tz2 19 J (cS hb85) (⟨M,Hp.le_refl M,(S.pk [0,1,2,3,4,5,6,7])⟩) (xmB J) ?_
   refine YB (fun ρ w'=>QV ρ [(0,pt bo0 0),(1,vS a1),(5,pt b1 0),(6,pt b4 0),(7,pt b14 0),(66,.bool (((mget a0.rows a1).getD cz19).intent.Writer==(0:Int))),(94,.bool (((((((mget a0.rows a1).getD cz19).l).length:Int)==(0:Int))&&(decide ((a0.rows.length:Int)≥a0.c.Keys)))||(decide (((((mget a0.rows a1).getD cz19).l).length:Int)≥a0.c.Depth))))]∧w81=w') 1 (Ls 31 [0,1,2,3,4,5,6,7,8,9,10,11,12,13,14,15,16,17,18,19,20,21,22,23,24,25,26,27,28,29]) ?_ ?_
   rotate_left
   ·intro hrest
    rcases Qy ((((((mget a0.rows a1).getD cz19).l).length:Int)==(0:Int))&&(decide ((a0.rows.length:Int)≥a0.c.Keys))) with hb87 | hb87
    ·refine tz2 20 J (cS hb87) D9 (xfA Tryz.underlying90 ty86 J) (tz3 21 J (cS hb87) D9 (fun w' h'=>xlA h' 5 ty86 J) (tz2 22 J (cS hb87) D9 (Qm (n:=(((mget a0.rows a1).getD cz19).l).length) Tryz.underlying86 J) (tz2 23 J (cS hb87) D9 (xmP J) (tz2 24 J (cS hb87) D9 (Qb J) (tz2 25 J (cS hb87) D9 (xfA Tryz.underlying96 ty23 J) (tz2 26 J (cS hb87) D9 (xfA Tryz.underlying23 ty3 J) (tz3 27 J (cS hb87) D9 (fun w' h'=>xlA h' 0 ty3 J) (tz2 28 J (cS hb87) D9 (xiB J J) (tz2 29 J (cS hb85) D9 (xqB hb87 J) ?_)))))))))
     exact hrest _ _ ⟨⟨J,J,J,J,J,J,(flB hb87),trivial⟩,rfl⟩
    ·refine tz4 20 J (skF hb87) D9 (tz4 21 J (skF hb87) D9 (tz4 22 J (skF hb87) D9 (tz4 23 J (skF hb87) D9 (tz4 24 J (skF hb87) D9 (tz4 25 J (skF hb87) D9 (tz4 26 J (skF hb87) D9 (tz4 27 J (skF hb87) D9 (tz4 28 J (skF hb87) D9 (tz2 29 J (cS hb85) D9 (xpB hb87 J) ?_)))))))))
     exact hrest _ _ ⟨⟨J,J,J,J,J,J,(flB hb87),trivial⟩,rfl⟩
   rintro ρ _ ⟨hρ,rfl⟩
   rw [QB hρ]
   refine tz0 30 J (⟨M,Hp.le_refl M,(S.pk [0,1,2,3,4,5,6,7])⟩) (xpB hb85 J) ?_
   exact hrest _ _ ⟨⟨J,J,J,J,J,(flB hb85),trivial⟩,rfl⟩
 rintro ρ _ ⟨hρ,rfl⟩
 rw [QB hρ]
 refine Wz ?_
 refine tn ?_
 rcases Q3 H with ⟨hb88,H⟩ | ⟨hb88,H⟩
 ·refine QC (cB hb88) ?_
  refine wsQ (W_v _ (xb2 [(0,1),(1,1),(2,1),(3,1)] cz13 Tryz.underlying38 ty38 J) J ?_)
  refine Qu S 6 J ty38 J J [vI 34,.bool false,vS ([]:Str),.slice none 0 0] J J J cz13 J J (eE1 E ?_)
  intro w89 E S
  refine wnQ ?_
  refine QT ?_
  refine tr (?_)
  obtain rfl:=oi H
  replace S:=S.row_nil Qq 119
  exact ⟨_,_,_,fun w1 e1=>Zg (vs:=[.agg #[vI 34,.bool false,vS ([]:Str),.slice none ([]:List Qp).length 0]]) (FA.cons (rcA S e1 7 ty38 J J J) (FA.nil)),HM,E,S.pk [0,1,2,3,4,5],⟨none,0,A0_8,0,A0_9,0,A0_10,c0_10,A0_11,0,vs0_11,J,hm0_11,J⟩⟩
 refine QA (cB hb88) (QX (tn ?_))
 as_aux_lemma =>
 refine wsQ (W_v (.agg (Y4 a2)) (Qi (S.blk 7 J) ty88 J (QG J) J J) J (wfA Tryz.underlying90 ty88 J ?_))
 refine Qu S 5 J ty88 J J [vI a2.Writer,vI a2.TS,.bool a2.Tomb,vS a2.Value] J J J #[.slice A10 (((mget a0.rows a1).getD cz19).l).length c11,vI a2.Writer,vI a2.TS,.bool a2.Tomb,vS a2.Value] J J (eE1 E ?_)
 intro w91 E S
 refine wnQ (QH ?_)
 refine rgA S [0,1,2,3,4,5,6,7] [_,_,_,_,_,_,_,_] 6 mixed J (eE1 E ?_)
 intro w98 E S D18
 refine tz0 0 J D18 (xmP J) (tz0 1 J D18 (Qb J) (tz0 2 J D18 (xfA Tryz.underlying96 ty94 J) (tz1 3 J D18 (fun w' h'=>xlA h' 0 ty94 J) (tz0 4 J D18 (xmS J) (Wt 5 J J J (.agg #[.slice A10 (((mget a0.rows a1).getD cz19).l).length c11,vI a2.Writer,vI a2.TS,.bool a2.Tomb,vS a2.Value]) J (fun w' h'=>Qi (Y1 h' 5 J) ty90 J (QG J) J J) D18 ?_)))))
 refine Wo 6 J ?_
 obtain ⟨x101,he102,H⟩:=QO H
 replace he102:=oi he102
 obtain ⟨vs103,hv104⟩:∃ z:List (Str×Value),mput vs0_11 a1 (.agg #[.slice A10 (((mget a0.rows a1).getD cz19).l).length c11,vI a2.Writer,vI a2.TS,.bool a2.Tomb,vS a2.Value])=z:=⟨_,J⟩
 have hm105:Xa Qx M x101 vs103:=by rw [← he102,← hv104];exact hm0_11.put a1 (cs:=[.slice A10 (((mget a0.rows a1).getD cz19).l).length c11,vI a2.Writer,vI a2.TS,.bool a2.Tomb,vS a2.Value]) ⟨_,hs12,rfl⟩
 refine UJ S 4 J Tryz.underlying94 key9 a1 (.agg #[.slice A10 (((mget a0.rows a1).getD cz19).l).length c11,vI a2.Writer,vI a2.TS,.bool a2.Tomb,vS a2.Value]) hv104 J J J (eE1 E ?_)
 intro w100 E S
 replace S:St w100 M F [_,_,_,_,_,_,_,_]:=S
 refine QK (Yl ⟨.inl (by decide),?_⟩)
 refine Wz ?_
 refine tn (wsQ (wfA Tryz.underlying88 ty4 J (wlA S 7 ty4 J (W_v _ (xb2 [(0,1),(1,1),(2,1),(3,1)] #[vI 0,.bool (a2.Tomb),vS ([]:Str),.slice none 0 0] Tryz.underlying38 ty38 J) J ?_))))
 refine Qu S 6 J ty38 J J [vI 0,.bool (a2.Tomb),vS ([]:Str),.slice none 0 0] J J J #[vI 0,.bool (a2.Tomb),vS ([]:Str),.slice none 0 0] J J (eE1 E ?_)
 intro w106 E S
 refine wnQ ?_
 refine QT ?_
 obtain rfl:=oi H
 replace S:=S.row_nil Qq 119
 exact ⟨_,_,_,fun w1 e1=>Zg (vs:=[.agg #[vI 0,.bool (a2.Tomb),vS ([]:Str),.slice none ([]:List Qp).length 0]]) (FA.cons (rcA S e1 7 ty38 J J J) (FA.nil)),HM,E,S.pk [0,1,2,3,4,5],⟨none,0,A0_8,0,A0_9,0,A0_10,c0_10,A0_11,0,vs103,J,hm105,J⟩⟩
def Y9 (k:Nat) (a0:QW) (a1:Int) (a2:Int) (a3:QY):Option (Ql×QW) :=
 (Option.bind (Z3 k a0 a3.Key (⟨a1,(0:Int),false,(a3.Value)⟩:QU)) (fun t7=>some (t7.1,t7.2)))
theorem Y9.mono {k a0 a1 a2 a3}: OLe (Y9 k a0 a1 a2 a3) (Y9 (k+1) a0 a1 a2 a3):=by
 unfold Y9
 have m1:=@Z3.mono
 exact mo
theorem Y9.con {k M A0_8 A0_9 A0_10 c0_10 A0_11} {vs0_11:List (Str×Value)} {a0:QW} {a1:Int} {a2:Int} {a3:QY} {bo0} {r:Ql×QW} (h:Y9 k a0 a1 a2 a3=some r) (hm0_11:Xa Qx M a0.rows vs0_11): Con Tryz.prog 125 #[pt bo0 0,vI a1,vI a2,.agg (Qo a3)] M [B96 bo0 a0 A0_8 A0_9 A0_10 c0_10 A0_11,XC QM (Value.int .i64) A0_8 a0.names,MpI A0_9 a0.many,Rw Qe 134 A0_10 c0_10 a0.txs,MpV A0_11 vs0_11] (fun v M' Γ'=>∃ (Aq1:Option Addr) (cq2:Nat) (Aq4:Option Addr) (cq5:Nat) (Aq7:Option Addr) (cq8:Nat) (Aq10:Option Addr) (cq11:Nat) (Aq13:Option Addr) (cq14:Nat) (vsq16:List (Str×Value)),v=.agg #[vI r.1.Err,.bool r.1.Found,vS r.1.Value,.slice Aq1 r.1.Pairs.length cq2]∧Xa Qx M' r.2.rows vsq16∧Γ'=[Rw Qq 119 Aq1 cq2 r.1.Pairs,B96 bo0 r.2 Aq4 Aq7 Aq10 cq11 Aq13,XC QM (Value.int .i64) Aq4 r.2.names,MpI Aq7 r.2.many,Rw Qe 134 Aq10 cq11 r.2.txs,MpV Aq13 vsq16]):=by
 refine cwA Tryz.func125 J Tryz.ntmps125 Tryz.results125 J h ?_
 intro w F rn S hrn E HM H
 unfold Y9 at H
 refine wsQ ?_
 refine Yz S (Qo a3) J J J (eE2 E ?_)
 intro b1 w2 E S
 refine YN S cz16 ty38 J J (eE2 E ?_)
 intro b4 w5 E S
 refine wnQ (wsQ (wmP J (wfA Tryz.underlying43 ty9 J (wlA S 1 ty9 J (wmI J (wfA Tryz.underlying43 ty9 J (wlA S 1 ty9 J (W_v _ (xb2 [(0,1),(1,1),(2,1),(3,1)] #[vI a1,vI 0,.bool false,vS (a3.Value)] Tryz.underlying88 ty88 J) J ?_))))))))
 obtain ⟨t7,ht8,H⟩:=QO H
 replace S:St w5 M F [_,_,_,_,_,_,_]:=S.pk [2,3,4,5,6,0,1]
 refine Y2 fn133 (Z3.con ht8 hm0_11) (Γ1:=[_,_,_,_,_]) (Γ2:=[_,_]) S J J ?_
 rintro _ w26 M27 Γ' hM28 E' S ⟨A9,c10,A12,c13,A15,c16,A18,c19,A21,c22,vs24,rfl,hm25,rfl⟩
 replace HM:=Hp.le_trans HM hM28
 replace E:=E.trans E'
 replace S:St w26 M27 F [_,_,_,_,_,_,_,_]:=S
 refine Qu S 6 J ty38 J J [vI t7.1.Err,.bool t7.1.Found,vS t7.1.Value,.slice A9 t7.1.Pairs.length c10] J J J #[vI t7.1.Err,.bool t7.1.Found,vS t7.1.Value,.slice A9 t7.1.Pairs.length c10] J J (eE1 E ?_)
 intro w29 E S
 refine wnQ ?_
 refine QT ?_
 obtain rfl:=oi H
 exact ⟨_,_,_,fun w1 e1=>Zg (vs:=[.agg #[vI t7.1.Err,.bool t7.1.Found,vS t7.1.Value,.slice A9 t7.1.Pairs.length c10]]) (FA.cons (rcA S e1 6 ty38 J J J) (FA.nil)),HM,E,S.pk [0,1,2,3,4,5],⟨A9,c10,A12,c13,A15,c16,A18,c19,A21,c22,vs24,J,hm25,J⟩⟩
def XA (k:Nat) (a0:QW) (a1:Int) (a2:Int) (a3:QY):Option (Ql×QW) :=
 (Option.bind (Z3 k a0 a3.Key (⟨a1,(0:Int),true,([]:Str)⟩:QU)) (fun t7=>some (t7.1,t7.2)))
theorem XA.mono {k a0 a1 a2 a3}: OLe (XA k a0 a1 a2 a3) (XA (k+1) a0 a1 a2 a3):=by
 unfold XA
 have m1:=@Z3.mono
 exact mo
theorem XA.con {k M A0_8 A0_9 A0_10 c0_10 A0_11} {vs0_11:List (Str×Value)} {a0:QW} {a1:Int} {a2:Int} {a3:QY} {bo0} {r:Ql×QW} (h:XA k a0 a1 a2 a3=some r) (hm0_11:Xa Qx M a0.rows vs0_11): Con Tryz.prog 126 #[pt bo0 0,vI a1,vI a2,.agg (Qo a3)] M [B96 bo0 a0 A0_8 A0_9 A0_10 c0_10 A0_11,XC QM (Value.int .i64) A0_8 a0.names,MpI A0_9 a0.many,Rw Qe 134 A0_10 c0_10 a0.txs,MpV A0_11 vs0_11] (fun v M' Γ'=>∃ (Aq1:Option Addr) (cq2:Nat) (Aq4:Option Addr) (cq5:Nat) (Aq7:Option Addr) (cq8:Nat) (Aq10:Option Addr) (cq11:Nat) (Aq13:Option Addr) (cq14:Nat) (vsq16:List (Str×Value)),v=.agg #[vI r.1.Err,.bool r.1.Found,vS r.1.Value,.slice Aq1 r.1.Pairs.length cq2]∧Xa Qx M' r.2.rows vsq16∧Γ'=[Rw Qq 119 Aq1 cq2 r.1.Pairs,B96 bo0 r.2 Aq4 Aq7 Aq10 cq11 Aq13,XC QM (Value.int .i64) Aq4 r.2.names,MpI Aq7 r.2.many,Rw Qe 134 Aq10 cq11 r.2.txs,MpV Aq13 vsq16]):=by
 refine cwA Tryz.func126 J Tryz.ntmps126 Tryz.results126 J h ?_
 intro w F rn S hrn E HM H
 unfold XA at H
 refine wsQ ?_
 refine Yz S (Qo a3) J J J (eE2 E ?_)
 intro b1 w2 E S
 refine YN S cz16 ty38 J J (eE2 E ?_)
 intro b4 w5 E S
 refine wnQ (wsQ (wmP J (wfA Tryz.underlying43 ty9 J (wlA S 1 ty9 J (wmI J (W_v _ (xb2 [(0,1),(1,1),(2,1),(3,1)] #[vI a1,vI 0,.bool true,vS ([]:Str)] Tryz.underlying88 ty88 J) J ?_))))))
 obtain ⟨t7,ht8,H⟩:=QO H
 replace S:St w5 M F [_,_,_,_,_,_,_]:=S.pk [2,3,4,5,6,0,1]
 refine Y2 fn133 (Z3.con ht8 hm0_11) (Γ1:=[_,_,_,_,_]) (Γ2:=[_,_]) S J J ?_
 rintro _ w26 M27 Γ' hM28 E' S ⟨A9,c10,A12,c13,A15,c16,A18,c19,A21,c22,vs24,rfl,hm25,rfl⟩
 replace HM:=Hp.le_trans HM hM28
 replace E:=E.trans E'
 replace S:St w26 M27 F [_,_,_,_,_,_,_,_]:=S
 refine Qu S 6 J ty38 J J [vI t7.1.Err,.bool t7.1.Found,vS t7.1.Value,.slice A9 t7.1.Pairs.length c10] J J J #[vI t7.1.Err,.bool t7.1.Found,vS t7.1.Value,.slice A9 t7.1.Pairs.length c10] J J (eE1 E ?_)
 intro w29 E S
 refine wnQ ?_
 refine QT ?_
 obtain rfl:=oi H
 exact ⟨_,_,_,fun w1 e1=>Zg (vs:=[.agg #[vI t7.1.Err,.bool t7.1.Found,vS t7.1.Value,.slice A9 t7.1.Pairs.length c10]]) (FA.cons (rcA S e1 6 ty38 J J J) (FA.nil)),HM,E,S.pk [0,1,2,3,4,5],⟨A9,c10,A12,c13,A15,c16,A18,c19,A21,c22,vs24,J,hm25,J⟩⟩
def Qv (k:Nat) (a0:(List (Str×Qh))):Option (Unit) :=
 some ()
theorem Qv.mono {k a0}: OLe (Qv k a0) (Qv (k+1) a0):=by
 unfold Qv
 exact mo
theorem Qv.con {k M A0} {vs0:List (Str×Value)} {a0:(List (Str×Qh))} {r:Unit} (h:Qv k a0=some r) (hm0:Xa Qx M a0 vs0): Con Tryz.prog 34 #[.map (mb A0)] M [MpV A0 vs0] (fun v M' Γ'=>∃ (bq1:Nat),v=.func (.func 54) #[] #[pt bq1 0]∧Γ'=[Blk bq1 (.cells #[.map (mb A0)] 94 (0,0)),MpV A0 vs0]):=by
 refine cwA Tryz.func34 J Tryz.ntmps34 Tryz.results34 J h ?_
 intro w F rn S hrn E HM H
 unfold Qv at H
 refine wsQ ?_
 refine Yz S #[.map (mb A0)] J J J (eE2 E ?_)
 intro b1 w2 E S
 refine W_v (.nilFunc) (Zm J) J (wnQ (wsQ (W_v (.func (.func 54) #[] #[pt b1 0]) (Vc J) J (W_v (.func (.func 54) #[] #[pt b1 0]) (Zm J) J (wnQ ?_)))))
 refine QT ?_
 obtain rfl:=oi H
 exact ⟨_,_,_,rsA (vs:=[_]) J,HM,E,S.pk [0,1],⟨b1,J,J⟩⟩
theorem QAi (M:Hp) (b0:Nat) (A0:Option Addr) (vs:List (Str×Value)) (hn:(vs.map fun x:Str×Value=>x.1).Nodup) (hl:vs.length≤1000000000):Iter Tryz.prog 54 [pt b0 0] M (fun _ (x:Str) (ws:List Value)=>ws=[vS x]) (fun x s=>if s.length≤1000000000 then some (.inl (insl ltS x s):List Str⊕Unit) else none) [] (.inl (isort ltS (vs.map fun x:Str×Value=>x.1))) [Blk b0 (.cells #[.map (mb A0)] 94 (0,0)),MpV A0 vs] (fun M' Γ'=>Γ'=[Blk b0 (.cells #[.map (mb A0)] 94 (0,0)),MpV A0 vs]):=by
 intro lp B hY
 refine VU Tryz.func54 J Tryz.ntmps54 Tryz.results54 J ?_
 intro w F rn S hrn
 have E:=Ext.refl w
 have HM:=Hp.le_refl M
 refine wsQ (wlA S 1 ty94 J ?_)
 refine Ul S 2 J Tryz.underlying94 hn J J (eE2 E ?_)
 intro bi w1 E S
 refine wnQ ?_
 replace S:St w1 M F [_,_,_]:=S
 refine Zr (fun ρ w'=>∃ (Mj:Hp),M.le Mj∧Ext w w'∧St w' Mj F [B (.inl (isort ltS (vs.map fun x:Str×Value=>x.1))),Blk b0 (.cells #[.map (mb A0)] 94 (0,0)),MpV A0 vs]) ?_ ?_
 ·refine Yr (fun n ρ w'=>∃ (todo dn:List Str) (Mj:Hp),todo.length=n∧(dn++todo).Perm (vs.map fun x:Str×Value=>x.1)∧QV ρ [(0,.func (.yield lp) #[] #[]),(5,pt bi 0)]∧M.le Mj∧Ext w w'∧St w' Mj F [B (.inl (isort ltS dn)),Blk b0 (.cells #[.map (mb A0)] 94 (0,0)),RangeM encS (fun v:Value=>v) A0 bi vs todo none]) (vs.map fun x:Str×Value=>x.1).length ?_ ?_
  ·exact ⟨(vs.map fun x:Str×Value=>x.1),[],M,J,List.Perm.refl _,agP J,HM,E,S⟩
  ·intro n
   rintro ρ w2 ⟨todo,dn,Mj,hlen,hp,hρ,HM,E,S⟩
   rw [QB hρ]
   refine wsQ ?_
   refine U6 S 2 J J J ?_ ?_
   ·intro y v w3 hy hv E' S
    replace E:=E.trans E'
    refine W_v _ (QR J J) J (wnQ (QH (QC J (QX (tn ?_)))))
    refine ZW ?_
    refine wsQ (W_v (.tuple #[encS y,v]) (UZ S 2 J hv J) J (W_v _ (QR J J) J ?_))
    replace S:=S.rangeM_seen 2 J
    refine waS J (wnQ (wsQ (W_v (.func (.yield lp) #[] #[]) (YW J) J (wmS J ?_))))
    have hlim:(isort ltS dn).length≤1000000000:=by
     have h1:=hp.length_eq
     rw [(VP _).length_eq]
     simp only [List.length_append,List.length_map] at h1
     omega
    refine qe J (hY _ y _ (isort ltS dn) (.inl (insl ltS y (isort ltS dn))) HM J (if_pos hlim)) S J J ?_
    rintro _ w4 M4 _ hM4 E' S ⟨rfl,rfl⟩
    replace E:=E.trans E'
    refine W_v _ (Xr J) J (wnQ (QA J (QX (bn (tn ?_)))))
    have hlt:(er todo y).length<n:=by
     rw [← hlen,er_len hy]
     have:=List.length_pos_of_mem hy
     omega
    have hp2:((y::dn)++er todo y).Perm (vs.map fun x:Str×Value=>x.1):=by
     refine List.Perm.trans ?_ hp
     refine List.Perm.trans ?_ ((permE hy).symm.append_left dn)
     exact (List.perm_middle (a:=y) (l₁:=dn) (l₂:=er todo y)).symm
    have e8:isort ltS (y::dn)=insl ltS y (isort ltS dn):=J
    rw [← e8] at S
    replace S:St w4 M4 F [_,_,_]:=S
    exact ⟨(er todo y).length,hlt,er todo y,y::dn,M4,J,hp2,agP J,Hp.le_trans HM hM4,E,S⟩
   ·intro w3 ht E' S
    replace E:=E.trans E'
    subst ht
    refine W_v _ (QR J J) J (wnQ (QH (QA J ?_)))
    refine YZ ?_
    refine tx (tx (bsm ?_))
    refine tn ?_
    rw [List.append_nil] at hp
    have e9:isort ltS dn=isort ltS (vs.map fun x:Str×Value=>x.1):=Uo Vf ((VP _).trans (hp.trans (VP _).symm)) (Va Vw _) (Va Vw _)
    rw [e9] at S
    exact ⟨Mj,HM,E,S.rangeM_end 2 J⟩
 rintro ρ w2 ⟨Mj,HM,E,S⟩
 exact ⟨_,_,_,fun w1 e1=>Zg (vs:=[]) FA.nil,HM,E,S.pk [0,1,2],⟨_,J,J⟩⟩
theorem QAz (M:Hp) (b0:Nat) (A0:Option Addr) (vs:List (Str×Value)) (hn:(vs.map fun x:Str×Value=>x.1).Nodup) (hl:vs.length≤1000000000):Con Tryz.prog 72 #[.slice none 0 0,.func (.func 54) #[] #[pt b0 0]] M [Blk b0 (.cells #[.map (mb A0)] 94 (0,0)),MpV A0 vs] (fun v M' Γ'=>∃ (A:Option Addr) (c:Nat) (l:List Str),l.Perm (vs.map fun x:Str×Value=>x.1)∧v=.slice A l.length c∧Γ'=[Rw rStr 9 A c l,Blk b0 (.cells #[.map (mb A0)] 94 (0,0)),MpV A0 vs]):=by
 refine VU Tryz.func72 J Tryz.ntmps72 Tryz.results72 J ?_
 intro w F rn S hrn
 have E:=Ext.refl w
 refine wsQ ?_
 refine Yz S #[.slice none 0 0] J J J (eE2 E ?_)
 intro b2 w1 E S
 refine waL J (wnQ (QH (wsQ (W_v (.func (.func 54) #[] #[pt b0 0]) (YW J) J (wnQ ?_)))))
 refine ZW ?_
 replace S:=S.row_nil rStr 9
 refine V8 (σ:=List Str) (ε:=Unit) (Γi:=[Blk b0 (.cells #[.map (mb A0)] 94 (0,0)),MpV A0 vs]) (Γr:=[]) (Sum.elim (fun s=>AE (ι:=List Str×Option Addr×Nat) (fun ⟨l,A,c⟩=>[Rw rStr 9 A c l,Blk b2 (.cells #[.slice A l.length c] 54 (0,0))]) (fun _ ⟨l,A,c⟩=>l.Perm s) (by rintro _ _ ⟨l,A,c⟩ _ h;exact h)) (fun _=>Star [])) (fun _=>Code.ret) fn54 J
  (St.close_ex (φ:=fun (_:Hp) (⟨l,A,c⟩:List Str×Option Addr×Nat)=>l.Perm ([]:List Str)) (hφ:=by rintro _ _ ⟨l,A,c⟩ _ h;exact h) (([]:List Str),(none:Option Addr),0) (List.Perm.refl _) (S.pk [0,1,2,3])) (by rintro _ _ _ rfl;rfl) (by decide) (QAi M b0 A0 vs hn hl) ?_ ?_
 ·intro nn lp M1 F y ws ss tt w hM1 henc hbd S
  obtain rfl:=henc
  replace S:St w M1 F (AE (ι:=List Str×Option Addr×Nat) (fun ⟨l,A,c⟩=>[Rw rStr 9 A c l,Blk b2 (.cells #[.slice A l.length c] 54 (0,0))]) (fun _ ⟨l,A,c⟩=>l.Perm ss) (by rintro _ _ ⟨l,A,c⟩ _ h;exact h)::[]):=S
  obtain ⟨⟨l,A,c⟩,hls,S⟩:=S.open_ex
  replace S:St w M1 F [_,_]:=S
  replace hls:l.Perm ss:=hls
  have hb9:ss.length≤1000000000∧tt=.inl (insl ltS y ss):=by
   by_cases h:ss.length≤1000000000
   ·rw [if_pos h] at hbd;exact ⟨h,(oi hbd).symm⟩
   ·rw [if_neg h] at hbd;cases hbd
  obtain ⟨hb8,rfl⟩:=hb9
  have E:=Ext.refl w
  refine QJ (waS J (QK ?_))
  refine Yl ⟨_,_,Hp.le_refl _,E,S,?_⟩
  intro w F E3 S
  have E:=Ext.refl w
  refine ZW ?_
  refine QJ (wlA S 1 ty54 J (wmS J ?_))
  refine Xl S #[vS y] Tryz.underlying54 ty9 J J #[.string ⟨#[]⟩] (by kernel_rfl) (by kernel_rfl) J (eE2 E ?_)
  intro b3 w3 E S
  replace S:=S.blk_row (r:=rStr) (l:=[y]) 0 J 1 (Nat.le_refl 1) J (Cells.cons (vs:=[vS y]) (J) Cells.nil)
  obtain ⟨src,hs,hC⟩:=XJ (P:=Tryz.prog) (ρ:=rStr) (l:=[y]) (S.row_read 0 J) (by decide)
  refine X0 S 1 J J J Tryz.underlying54 (.inl Tryz.underlying54) ty9 J (by decide) (by decide) hs hC J (by rw [hls.length_eq];simp only [List.length_cons,List.length_nil];omega) rfl (eE2 E ?_)
  intro v7 w7 E S
  obtain ⟨A7,c7,rfl,_⟩:=(S.row_read 1 J).form
  refine Qu S 2 J ty54 J J [.slice A7 (l++[y]).length c7] J J J #[.slice A7 (l++[y]).length c7] J J (eE1 E ?_)
  intro w8 E S
  refine QK (bn ?_)
  have hp7:(l++[y]).Perm (insl ltS y ss):=((List.perm_append_comm (l₁:=l) (l₂:=[y])).trans (hls.cons y)).trans (UN y ss).symm
  exact U3 trivial (Hp.le_refl _) E (St.close_ex (φ:=fun (_:Hp) (⟨l,A,c⟩:List Str×Option Addr×Nat)=>l.Perm (insl ltS y ss)) (hφ:=by rintro _ _ ⟨l,A,c⟩ _ h;exact h) (l++[y],A7,c7) hp7 (S.pk [1,2]))
 intro w9 M9 Γ' h9 E' hΨ S
 obtain rfl:Γ'=_:=hΨ
 replace E:=E.trans E'
 refine JY ?_
 replace S:St w9 M9 F (AE (ι:=List Str×Option Addr×Nat) (fun ⟨l,A,c⟩=>[Rw rStr 9 A c l,Blk b2 (.cells #[.slice A l.length c] 54 (0,0))]) (fun _ ⟨l,A,c⟩=>l.Perm (isort ltS (vs.map fun x:Str×Value=>x.1))) (by rintro _ _ ⟨l,A,c⟩ _ h;exact h)::[Blk b0 (.cells #[.map (mb A0)] 94 (0,0)),MpV A0 vs]):=S
 obtain ⟨⟨l,A,c⟩,hls,S⟩:=S.open_ex
 replace S:St w9 M9 F [_,_,_,_]:=S
 replace hls:l.Perm (isort ltS (vs.map fun x:Str×Value=>x.1)):=hls
 refine bn (tn ?_)
 as_aux_lemma =>
 refine wsQ (wlA S 1 ty54 J (waL J (wnQ ?_)))
 refine QT ?_
 exact ⟨_,_,_,rsA (vs:=[_]) J,h9,E,S.pk [0,2,3],⟨A,c,l,hls.trans (VP _),J,J⟩⟩
theorem QAr (M:Hp) (b0:Nat) (A0:Option Addr) (vs:List (Str×Value)) (hn:(vs.map fun x:Str×Value=>x.1).Nodup) (hl:vs.length≤1000000000):Con Tryz.prog 52 #[.func (.func 54) #[] #[pt b0 0]] M [Blk b0 (.cells #[.map (mb A0)] 94 (0,0)),MpV A0 vs] (fun v M' Γ'=>∃ (A:Option Addr) (c:Nat) (l:List Str),l.Perm (vs.map fun x:Str×Value=>x.1)∧v=.slice A l.length c∧Γ'=[Rw rStr 9 A c l,Blk b0 (.cells #[.map (mb A0)] 94 (0,0)),MpV A0 vs]):=by
 refine VU Tryz.func52 J Tryz.ntmps52 Tryz.results52 J ?_
 intro w F rn S hrn
 have E:=Ext.refl w
 refine wsQ (waL J (wnQ (wsQ (W_v (.func (.func 54) #[] #[pt b0 0]) (YW J) J ?_))))
 refine Y2 fn72 (QAz M b0 A0 vs hn hl) (Γ2:=[]) S J J ?_
 rintro _ w2 M2 Γ' hM2 E' S ⟨A,c,l,hp,rfl,rfl⟩
 replace E:=E.trans E'
 refine waL J (wnQ ?_)
 refine QT ?_
 exact ⟨_,_,_,rsA (vs:=[_]) J,hM2,E,S.pk [0,1,2],⟨A,c,l,hp,J,J⟩⟩
theorem q9 (M:Hp) (x y:Str):Con Tryz.prog 35 #[encS x,encS y] M [] (fun v _ _=>v=vI (cfS x y)):=(VN.con 9 M x y (cfS x y) J).mono fun v M' Γ' _ h=>h.1
def Qc (k:Nat) (a0_0:List (Str×Qh)):Option (List Str):=if (a0_0.map fun p:Str×Qh=>p.1).Nodup∧a0_0.length≤1000000000 then some (isort ltS (a0_0.map fun p:Str×Qh=>p.1)) else none
theorem Qc.mono {k a0_0}: OLe (Qc k a0_0) (Qc (k+1) a0_0):=fun r h=>h
theorem Qc.con {k M A0_0} {vs0_0:List (Str×Value)} {a0_0:(List (Str×Qh))} {b0_0} {r:(List Str)} (h:Qc k a0_0=some r) (hm0_0:Xa Qx M a0_0 vs0_0): Con Tryz.prog 33 #[.func (.func 54) #[] #[pt b0_0 0],.func (.func 35) #[] #[]] M [Blk b0_0 (.cells #[.map (mb A0_0)] 94 (0,0)),MpV A0_0 vs0_0] (fun v M' Γ'=>∃ (Aq1:Option Addr) (cq2:Nat),v=.slice Aq1 r.length cq2∧Γ'=[Rw rStr 9 Aq1 cq2 r,Blk b0_0 (.cells #[.map (mb A0_0)] 94 (0,0)),MpV A0_0 vs0_0]):=by
 refine VU Tryz.func33 J Tryz.ntmps33 Tryz.results33 J ?_
 intro w F rn S hrn
 have E:=Ext.refl w
 have H:=h
 unfold Qc at H
 obtain ⟨⟨hnd,hlim⟩,H⟩:=Z8 H
 have hk:=hm0_0.keys
 refine wsQ (waL J (wnQ (wsQ (W_v (.func (.func 54) #[] #[pt b0_0 0]) (YW J) J ?_))))
 refine Y2 fn52 (QAr M b0_0 A0_0 vs0_0 (by rw [hk];exact hnd) (by rw [hm0_0.length];exact hlim)) (Γ2:=[]) S rfl rfl ?_
 rintro _ w2 M2 Γ' hM2 E' S ⟨A,c,l,hp,rfl,rfl⟩
 replace E:=E.trans E'
 rw [hk] at hp
 refine waL J (wnQ (wsQ (wmL J (W_v (.func (.func 35) #[] #[]) (YW J) J ?_))))
 have hl8:l.length<4611686018427387904:=by
  have h1:=hp.length_eq
  simp only [List.length_map] at h1
  omega
 obtain ⟨fn9,hf9,hb9,hn9⟩:=fn53.ex
 have hcs:=qj S 0 J Go.Proofs.Tryz.sortStr encS J (fun x=>J) (fun _ _ _=>Iff.rfl) cfS Vw Vf 35 fn35 q9 hl8
 refine UP (f:=53) (args:=#[.slice A l.length c,.func (.func 35) #[] #[]]) (R:=fun v w'=>v=.tuple #[]∧Ext w2 w'∧St w' M2 F _) J (Jz hf9 hb9 hn9) (fun _ _ ⟨_,h,_⟩=>h) (Calls.mono hcs fun e w' ⟨he,h⟩=>⟨_,he,J,h⟩) J ?_
 rintro v9 w9 ⟨rfl,E',S⟩
 replace E:=E.trans E'
 rw [KZ Vw Vf hp] at S
 obtain rfl:=oi H
 have hle:l.length=(isort ltS (a0_0.map fun p:Str×Qh=>p.1)).length:=by rw [(VP _).length_eq,hp.length_eq]
 rw [hle] at S
 rw [hle]
 refine wnQ (wsQ (wmL J (waL J (wnQ ?_))))
 refine QT ?_
 exact ⟨_,_,_,rsA (vs:=[_]) J,hM2,E,S.pk [0,1,2],⟨A,c,J,J⟩⟩
def ZS (k:Nat) (a0:QW):Option ((List Str)) :=
 (Option.bind (Qv k a0.rows) (fun t1=>(Option.bind (Qc k a0.rows) (fun t8=>some t8))))
theorem ZS.mono {k a0}: OLe (ZS k a0) (ZS (k+1) a0):=by
 unfold ZS
 have m1:=@Qv.mono
 have m2:=@Qc.mono
 exact mo
theorem ZS.con {k M A0_8 A0_9 A0_10 c0_10 A0_11} {vs0_11:List (Str×Value)} {a0:QW} {bo0} {r:(List Str)} (h:ZS k a0=some r) (hm0_11:Xa Qx M a0.rows vs0_11): Con Tryz.prog 21 #[pt bo0 0] M [B96 bo0 a0 A0_8 A0_9 A0_10 c0_10 A0_11,XC QM (Value.int .i64) A0_8 a0.names,MpI A0_9 a0.many,Rw Qe 134 A0_10 c0_10 a0.txs,MpV A0_11 vs0_11] (fun v M' Γ'=>∃ (Aq1:Option Addr) (cq2:Nat),v=.slice Aq1 r.length cq2∧Γ'=[Rw rStr 9 Aq1 cq2 r,B96 bo0 a0 A0_8 A0_9 A0_10 c0_10 A0_11,XC QM (Value.int .i64) A0_8 a0.names,MpI A0_9 a0.many,Rw Qe 134 A0_10 c0_10 a0.txs,MpV A0_11 vs0_11]):=by
 refine cwA Tryz.func21 J Tryz.ntmps21 Tryz.results21 J h ?_
 intro w F rn S hrn E HM H
 unfold ZS at H
 refine wsQ (waL J (wnQ (QH (wsQ (wmP J (W_v (.bool false) (VY (r:=false) J J (VT Tryz.underlying50)) J (wnQ (QA J (QX (tn (QH ?_)))))))))))
 refine QJ (wmP J (W_v _ (Qb J) J (wfA Tryz.underlying96 ty94 J (wlA S 0 ty94 J ?_))))
 obtain ⟨t1,ht2,H⟩:=QO H
 replace S:St w M F [_,_,_,_,_]:=S.pk [4,0,1,2,3]
 refine Zy fn34 (Qv.con ht2 hm0_11) (Γ1:=[_]) (Γ2:=[_,_,_,_]) S J J (by rintro _ _ _ ⟨_,rfl,rfl⟩;exact (QP Zs (QP Zl YE))) (eE4 E ?_)
 rintro _ w5 _ Γ' E S ⟨b3,rfl,rfl⟩
 replace S:St w5 M F [_,_,_,_,_,_]:=S
 obtain ⟨t8,ht9,H⟩:=QO H
 refine Zy fn33 (Qc.con ht9 hm0_11) (Γ1:=[_,_]) (Γ2:=[_,_,_,_]) S J J (by rintro _ _ _ ⟨_,_,rfl,rfl⟩;exact (QP (YX (fun _ _ _ _ h=>h)) (QP Zs (QP Zl YE)))) (eE4 E ?_)
 rintro _ w13 _ Γ' E S ⟨A10,c11,rfl,rfl⟩
 replace S:St w13 M F [_,_,_,_,_,_,_]:=S
 refine waL J (wnQ ?_)
 refine QT ?_
 obtain rfl:=oi H
 exact ⟨_,_,_,rsA (vs:=[_]) J,HM,E,S.pk [0,3,4,5,6,2],⟨A10,c11,J,J⟩⟩
def Zw (a0:QW) (a1:Int) (a3:QY) (t7:(List Str)):Nat→List Qp→Int→Option ((List Qp))
 | 0,_,_=>none
 | k+1,x187,x191=>(if (decide (x191<(t7.length:Int)))=true then (if 0≤x191∧x191<(t7.length:Int) then (if ((x187.length:Int)==a3.Limit)=true then some (x187) else (Option.bind (Zp k a0 a1 ((mget a0.rows (rd t7 x191)).getD cz19)) (fun t297=>(Option.bind (α:=Bool) (if t297.2=true then (Option.bind (VG k (rd t7 x191) a3.Key a3.End) (fun t311=>some (t311))) else some (false)) (fun x309=>(Option.bind (α:=List Qp) (if x309=true then (if x187.length+([(⟨(rd t7 x191),t297.1⟩:Qp)]:List Qp).length≤4398046511104 then some ((x187++([(⟨(rd t7 x191),t297.1⟩:Qp)]:List Qp))) else none) else some (x187)) (fun x339=>Zw a0 a1 a3 t7 k x339 (IntKind.i64.wrap (x191+(1:Int)))))))))) else none) else some (x187))
theorem Zw.mono {a0 a1 a3 t7}: ∀ {kl:Nat} {x0 x1},OLe (Zw a0 a1 a3 t7 kl x0 x1) (Zw a0 a1 a3 t7 (kl+1) x0 x1):=by
 intro kl
 induction kl with
 | zero=>intros;exact OLe.none
 | succ kl ih =>
  intros
  rw [Zw.eq_2,Zw.eq_2]
  have m1:=@Zp.mono
  have m2:=@VG.mono
  exact mo
def Yi (k:Nat) (a0:QW) (a1:Int) (a2:Int) (a3:QY):Option (Ql) :=
 (Option.bind (ZS k a0) (fun t7=>(Option.bind (Zw a0 a1 a3 t7 k ([]:List Qp) (0:Int)) (fun x271=>some (⟨(0:Int),false,([]:Str),x271⟩:Ql)))))
theorem Yi.mono {k a0 a1 a2 a3}: OLe (Yi k a0 a1 a2 a3) (Yi (k+1) a0 a1 a2 a3):=by
 unfold Yi
 have m1:=@ZS.mono
 have m2:=@Zw.mono
 exact mo
theorem Yi.con {k M A0_8 A0_9 A0_10 c0_10 A0_11} {vs0_11:List (Str×Value)} {a0:QW} {a1:Int} {a2:Int} {a3:QY} {bo0} {r:Ql} (h:Yi k a0 a1 a2 a3=some r) (hm0_11:Xa Qx M a0.rows vs0_11): Con Tryz.prog 127 #[pt bo0 0,vI a1,vI a2,.agg (Qo a3)] M [B96 bo0 a0 A0_8 A0_9 A0_10 c0_10 A0_11,XC QM (Value.int .i64) A0_8 a0.names,MpI A0_9 a0.many,Rw Qe 134 A0_10 c0_10 a0.txs,MpV A0_11 vs0_11] (fun v M' Γ'=>∃ (Aq1:Option Addr) (cq2:Nat),v=.agg #[vI r.Err,.bool r.Found,vS r.Value,.slice Aq1 r.Pairs.length cq2]∧Γ'=[Rw Qq 119 Aq1 cq2 r.Pairs,B96 bo0 a0 A0_8 A0_9 A0_10 c0_10 A0_11,XC QM (Value.int .i64) A0_8 a0.names,MpI A0_9 a0.many,Rw Qe 134 A0_10 c0_10 a0.txs,MpV A0_11 vs0_11]):=by
 refine cwA Tryz.func127 J Tryz.ntmps127 Tryz.results127 J h ?_
 intro w F rn S hrn E HM H
 unfold Yi at H
 refine wsQ ?_
 refine Yz S (Qo a3) J J J (eE2 E ?_)
 intro b1 w2 E S
 refine YN S cz16 ty38 J J (eE2 E ?_)
 intro b4 w5 E S
 refine wnQ (wsQ (waL J (wnQ (QH (wsQ (wmP J ?_))))))
 obtain ⟨t7,ht8,H⟩:=QO H
 replace S:St w5 M F [_,_,_,_,_,_,_]:=S.pk [2,3,4,5,6,0,1]
 refine Zy fn21 (ZS.con ht8 hm0_11) (Γ1:=[_,_,_,_,_]) (Γ2:=[_,_]) S J J (by rintro _ _ _ ⟨_,_,rfl,rfl⟩;exact (QP (YX (fun _ _ _ _ h=>h)) (QP Zs (QP Zl (QP Zl (QP (YX (fun _ _ _ _ h=>h)) (QP Zl YE))))))) (eE4 E ?_)
 rintro _ w12 _ Γ' E S ⟨A9,c10,rfl,rfl⟩
 replace S:St w12 M F [_,_,_,_,_,_,_,_]:=S
 refine W_v _ (Qm (n:=t7.length) Tryz.underlying54 J) J (wmI J (wnQ ?_))
 obtain ⟨o275,o275h,o275H⟩:=QO H
 refine Zr (fun ρ w'=>∃ (x271:List Qp) (A272:Option Addr) (c273:Nat),(x271)=o275∧QV ρ [(8,pt b4 0),(9,.slice A272 x271.length c273)]∧Ext w w'∧St w' M F [Rw Qq 119 A272 c273 x271,B96 bo0 a0 A0_8 A0_9 A0_10 c0_10 A0_11,XC QM (Value.int .i64) A0_8 a0.names,MpI A0_9 a0.many,Rw Qe 134 A0_10 c0_10 a0.txs,MpV A0_11 vs0_11,Blk b4 (.cells cz16 38 (0,0))]) ?_ ?_
 ·refine Yr (fun n ρ w'=>∃ (x187:List Qp) (x191:Int) (A188:Option Addr) (c189:Nat),Zw a0 a1 a3 t7 n x187 x191=some o275∧QV ρ [(0,pt bo0 0),(1,vI a1),(7,pt b1 0),(8,pt b4 0),(9,.slice A188 x187.length c189),(15,.slice A9 t7.length c10),(16,vI (t7.length:Int)),(17,vI x191)]∧Ext w w'∧St w' M F [Rw Qq 119 A188 c189 x187,Rw rStr 9 A9 c10 t7,B96 bo0 a0 A0_8 A0_9 A0_10 c0_10 A0_11,XC QM (Value.int .i64) A0_8 a0.names,MpI A0_9 a0.many,Rw Qe 134 A0_10 c0_10 a0.txs,MpV A0_11 vs0_11,Blk b4 (.cells cz16 38 (0,0)),B43 b1 a3]) k ?_ ?_
  ·replace S:=S.row_nil Qq 119
   exact ⟨([]:List Qp),(0:Int),none,0,o275h,agP J,E,S.pk [0,1,2,3,4,5,6,7,8]⟩
  ·intro n
   rintro ρ w277 ⟨x187,x191,A188,c189,H,hρ,E,S⟩
   rw [QB hρ]
   cases n with
   | zero=>cases H
   | succ k =>
    rw [Zw.eq_2] at H
    refine wsQ (wiB J J (wnQ (QH ?_)))
    rcases Q3 H with ⟨hb278,H⟩ | ⟨hb278,H⟩
    ·refine QC (cB hb278) ?_
     refine QX (tn (QH ?_))
     refine ZW ?_
     refine wsQ ?_
     obtain ⟨⟨p279,p280⟩,H⟩:=Z8 H
     obtain ⟨b281,o282,cs283,_,_,ee288,hb284,vs285,hR286,hc287⟩:=SlW.at' (S.row_read 1 J) p279 p280
     obtain rfl:vs285=_:=hR286
     refine W_v _ (QS Tryz.underlying54 ty9 (slA ee288) J p279 p280) J (W_v _ (Z0 (Hp.of_get hb284) ty9 J (hc287 0 _ J)) J (waS J (wnQ (QH (wsQ (wmL J (W_v _ (Qm (n:=x187.length) Tryz.underlying36 J) J (wfA Tryz.underlying43 ty3 J (wlA S 8 ty3 J (wiB J J (wnQ ?_)))))))))))
     rcases Q3 H with ⟨hb289,H⟩ | ⟨hb289,H⟩
     ·refine QC (cB hb289) ?_
      refine YZ ?_
      refine tx (bx J (tx (tx (bsm (?_)))))
      refine tn ?_
      exact ⟨x187,A188,c189,oi H,agP J,E,S.pk [0,2,3,4,5,6,7]⟩
     refine QA (cB hb289) (QX (tn (wsQ (wmP J (wmI J (wmP J (W_v _ (Qb J) J (wfA Tryz.underlying96 ty94 J (wlA S 2 ty94 J (wmS J ?_))))))))))
     obtain ⟨cs290,hR291,he292⟩:=hm0_11.get (rd t7 x191) (z:=cz19) (zc:=[.slice none 0 0,vI 0,vI 0,.bool false,vS ([]:Str)]) ⟨_,SlW.nil _ _,J⟩
     obtain ⟨v296,hs295,rfl⟩:=hR291
     obtain ⟨A293,c294,rfl,_⟩:=hs295.form
     refine W_v (.agg #[.slice A293 (((mget a0.rows (rd t7 x191)).getD cz19).l).length c294,vI (((mget a0.rows (rd t7 x191)).getD cz19).intent.Writer),vI (((mget a0.rows (rd t7 x191)).getD cz19).intent.TS),.bool (((mget a0.rows (rd t7 x191)).getD cz19).intent.Tomb),vS (((mget a0.rows (rd t7 x191)).getD cz19).intent.Value)]) ((Eq.trans (Vn S 6 J Tryz.underlying94 key9 (Value.agg cz12) (fun _=>ty90.zero) (rd t7 x191) J J) (by rw [show (mget vs0_11 (rd t7 x191)).getD (Value.agg cz12)=_ from he292]))) rfl ?_
     obtain ⟨t297,ht298,H⟩:=QO H
     replace S:St w277 M F [_,_,_,_,_,_,_,_,_]:=S.pk [2,3,4,5,6,0,1,7,8]
     refine Zy fn132 (Zp.con ht298 hm0_11 hs295) (Γ1:=[_,_,_,_,_]) (Γ2:=[_,_,_,_]) S J J (by rintro _ _ _ ⟨rfl,rfl⟩;exact (QP Zs (QP Zl (QP Zl (QP (YX (fun _ _ _ _ h=>h)) (QP Zl YE)))))) (eE4 E ?_)
     rintro _ w299 _ Γ' E S ⟨rfl,rfl⟩
     replace S:St w299 M F [_,_,_,_,_,_,_,_,_]:=S
     refine wmT J (W_v _ (QR J J) J (W_v _ (QR J J) J (waS J (waB J (wnQ ?_)))))
     as_aux_lemma =>
     refine wsQ (wmB J (wmB J ?_))
     obtain ⟨o310,o310h,o310H⟩:=QO H
     refine ZO 7 (fun ρ w'=>∃ (x309:Bool),(x309)=o310∧QV ρ [(0,pt bo0 0),(1,vI a1),(7,pt b1 0),(8,pt b4 0),(9,.slice A188 x187.length c189),(11,vS (rd t7 x191)),(12,vS t297.1),(15,.slice A9 t7.length c10),(16,vI (t7.length:Int)),(17,vI x191),(46,.bool x309)]∧Ext w w'∧St w' M F [B96 bo0 a0 A0_8 A0_9 A0_10 c0_10 A0_11,XC QM (Value.int .i64) A0_8 a0.names,MpI A0_9 a0.many,Rw Qe 134 A0_10 c0_10 a0.txs,MpV A0_11 vs0_11,Rw Qq 119 A188 c189 x187,Rw rStr 9 A9 c10 t7,Blk b4 (.cells cz16 38 (0,0)),B43 b1 a3]) ?_ ?_
     ·have H:=o310h
      rcases Q3 H with ⟨hb308,H⟩ | ⟨hb308,H⟩
      ·refine QN (cS hb308) (wmS J (QN (cS hb308) (wfA Tryz.underlying43 ty9 J (QN (cS hb308) (wlA S 8 ty9 J (QN (cS hb308) (wfA Tryz.underlying43 ty9 J (QN (cS hb308) (wlA S 8 ty9 J (QN (cS hb308) ?_))))))))))
       obtain ⟨t311,ht312,H⟩:=QO H
       refine ZR fn134 (VG.con ht312) S J J flN (eE4 E ?_)
       rintro _ w313 _ Γ' E S ⟨rfl,rfl⟩
       refine wpB hb308 J (QK ?_)
       exact ⟨t311,oi H,agP J,E,S.pk [0,1,2,3,4,5,6,7,8]⟩
      ·refine QZ (skT hb308) J (QZ (skT hb308) J (QZ (skT hb308) J (QZ (skT hb308) J (QZ (skT hb308) J (QZ (skT hb308) J (wqB hb308 J (QK ?_)))))))
       exact ⟨false,oi H,agP J,E,S.pk [0,1,2,3,4,5,6,7,8]⟩
     as_aux_lemma =>
     rintro ρ w314 ⟨x309,rfl,hρ,E,S⟩
     rw [QB hρ]
     have H:=o310H
     refine wnQ ?_
     obtain ⟨o343,o343h,o343H⟩:=QO H
     refine Yc (fun ρ w'=>∃ (x339:List Qp) (A340:Option Addr) (c341:Nat),(x339)=o343∧QV ρ [(0,pt bo0 0),(1,vI a1),(7,pt b1 0),(8,pt b4 0),(9,.slice A340 x339.length c341),(15,.slice A9 t7.length c10),(16,vI (t7.length:Int)),(17,vI x191)]∧Ext w w'∧St w' M F [Rw Qq 119 A340 c341 x339,B96 bo0 a0 A0_8 A0_9 A0_10 c0_10 A0_11,XC QM (Value.int .i64) A0_8 a0.names,MpI A0_9 a0.many,Rw Qe 134 A0_10 c0_10 a0.txs,MpV A0_11 vs0_11,Rw rStr 9 A9 c10 t7,Blk b4 (.cells cz16 38 (0,0)),B43 b1 a3]) ?_ ?_
     ·clear o343H
      have H:=o343h
      rcases Q3 H with ⟨hb344,H⟩ | ⟨hb344,H⟩
      ·refine QC (cB hb344) ?_
       refine QJ (wmL J (wmS J (wmS J (W_v _ (xb2 [(0,1),(1,1)] #[vS (rd t7 x191),vS t297.1] Tryz.underlying119 ty119 J) J ?_))))
       refine Xl S #[vS (rd t7 x191),vS t297.1] Tryz.underlying36 ty119 J J #[vS ([]:Str),vS ([]:Str)] (by as_aux_lemma=>kernel_rfl) (by as_aux_lemma=>kernel_rfl) J (eE2 E ?_)
       intro b345 w346 E S
       replace S:=S.blk_row (r:=Qq) (l:=([(⟨(rd t7 x191),t297.1⟩:Qp)]:List Qp)) 0 J 1 (Nat.le_refl 1) J (Cells.cons (vs:=[vS (rd t7 x191),vS t297.1]) (J) Cells.nil)
       obtain ⟨p348,H⟩:=Z8 H
       obtain ⟨src349,hs350,hC351⟩:=XJ (P:=Tryz.prog) (ρ:=Qq) (l:=([(⟨(rd t7 x191),t297.1⟩:Qp)]:List Qp)) (S.row_read 0 J) (by decide)
       refine X0 S 6 J J J Tryz.underlying36 (.inl Tryz.underlying36) ty119 J (by decide) (by decide) hs350 hC351 J (by omega) J (eE2 E ?_)
       intro v352 w353 E S
       obtain ⟨A354,c355,rfl,_⟩:=(S.row_read 6 J).form
       refine waL J (wnQ ?_)
       exact ⟨(x187++([(⟨(rd t7 x191),t297.1⟩:Qp)]:List Qp)),A354,c355,oi H,agP J,E,S.pk [6,1,2,3,4,5,7,8,9]⟩
      refine QA (cB hb344) (QX (tn ?_))
      exact ⟨x187,A188,c189,oi H,agP J,E,S.pk [5,0,1,2,3,4,6,7,8]⟩
     rintro ρ w356 ⟨x339,A340,c341,rfl,hρ,E,S⟩
     rw [QB hρ]
     have H:=o343H
     refine bn (tn (QJ (wiI J J (wmI J (wnQ ?_)))))
     exact ⟨k,Nat.lt_succ_self k,⟨x339,(IntKind.i64.wrap (x191+(1:Int))),A340,c341,H,agP J,E,S.pk [0,6,1,2,3,4,5,7,8]⟩⟩
    refine QA (cB hb278) ?_
    refine YZ ?_
    refine tx (tx (bsm (?_)))
    refine tn ?_
    exact ⟨x187,A188,c189,oi H,agP J,E,S.pk [0,2,3,4,5,6,7]⟩
 rintro ρ w357 ⟨x271,A272,c273,rfl,hρ,E,S⟩
 rw [QB hρ]
 have H:=o275H
 refine tn ?_
 as_aux_lemma =>
 refine wsQ (wmL J (W_v _ (xb2 [(0,1),(1,1),(2,1),(3,1)] #[vI 0,.bool false,vS ([]:Str),.slice A272 x271.length c273] Tryz.underlying38 ty38 J) J ?_))
 refine Qu S 6 J ty38 J J [vI 0,.bool false,vS ([]:Str),.slice A272 x271.length c273] J J J #[vI 0,.bool false,vS ([]:Str),.slice A272 x271.length c273] J J (eE1 E ?_)
 intro w358 E S
 refine wnQ ?_
 refine QT ?_
 obtain rfl:=oi H
 exact ⟨_,_,_,fun w1 e1=>Zg (vs:=[.agg #[vI 0,.bool false,vS ([]:Str),.slice A272 x271.length c273]]) (FA.cons (rcA S e1 6 ty38 J J J) (FA.nil)),HM,E,S.pk [0,1,2,3,4,5],⟨A272,c273,J,J⟩⟩
def XK (k:Nat) (a0:Qh) (ac_0:Int) (ac_1:Int):Option (Qh) :=
 (if (a0.intent.Writer != ac_0)=true then some a0 else (Option.bind (α:=List QU) (if (decide (ac_1>(0:Int)))=true then (if ([(⟨a0.intent.Writer,ac_1,a0.intent.Tomb,a0.intent.Value⟩:QU)]:List QU).length+a0.l.length≤3518437208883 then some ((([(⟨a0.intent.Writer,ac_1,a0.intent.Tomb,a0.intent.Value⟩:QU)]:List QU)++a0.l)) else none) else some (a0.l)) (fun x42=>some (⟨x42,⟨(0:Int),(0:Int),false,([]:Str)⟩⟩:Qh))))
theorem XK.mono {k a0 ac_0 ac_1}: OLe (XK k a0 ac_0 ac_1) (XK (k+1) a0 ac_0 ac_1):=by
 unfold XK
 exact mo
theorem XK.con {k M A0_0 c0_0} {a0:Qh} {ac_0:Int} {ac_1:Int} {bc_0 bc_1} {r:Qh} (h:XK k a0 ac_0 ac_1=some r) (hr0_0:SlR ZL M (.slice A0_0 a0.l.length c0_0) a0.l): Con Tryz.prog 141 #[.agg #[.slice A0_0 a0.l.length c0_0,vI a0.intent.Writer,vI a0.intent.TS,.bool a0.intent.Tomb,vS a0.intent.Value],pt bc_0 0,pt bc_1 0] M [Blk bc_0 (.cells #[vI ac_0] 3 (0,0)),Blk bc_1 (.cells #[vI ac_1] 3 (0,0))] (fun v M' Γ'=>∃ (Aq1:Option Addr) (cq2:Nat),v=.agg #[.slice Aq1 r.l.length cq2,vI r.intent.Writer,vI r.intent.TS,.bool r.intent.Tomb,vS r.intent.Value]∧SlR ZL M' (.slice Aq1 r.l.length cq2) r.l∧Γ'=[Blk bc_0 (.cells #[vI ac_0] 3 (0,0)),Blk bc_1 (.cells #[vI ac_1] 3 (0,0))]):=by
 refine cwA Tryz.func141 J Tryz.ntmps141 Tryz.results141 J h ?_
 intro w F rn S hrn E HM H
 unfold XK at H
 refine wsQ ?_
 refine Yz S #[.slice A0_0 a0.l.length c0_0,vI a0.intent.Writer,vI a0.intent.TS,.bool a0.intent.Tomb,vS a0.intent.Value] J J J (eE2 E ?_)
 intro b1 w2 E S
 refine YN S cz12 ty90 J J (eE2 E ?_)
 intro b4 w5 E S
 refine wnQ (QH (wsQ (wfA Tryz.underlying90 ty88 J (wfA Tryz.underlying88 ty3 J (wlA S 1 ty3 J (wlA S 2 ty3 J (wiB J J (wnQ ?_))))))))
 rcases Q3 H with ⟨hb7,H⟩ | ⟨hb7,H⟩
 ·refine QC (cB hb7) ?_
  refine wsQ (W_v (.agg #[.slice A0_0 a0.l.length c0_0,vI a0.intent.Writer,vI a0.intent.TS,.bool a0.intent.Tomb,vS a0.intent.Value]) (Qi (S.blk 1 J) ty90 J (QG J) J J) J ?_)
  refine Qu S 0 J ty90 J J [.slice A0_0 a0.l.length c0_0,vI a0.intent.Writer,vI a0.intent.TS,.bool a0.intent.Tomb,vS a0.intent.Value] J J J #[.slice A0_0 a0.l.length c0_0,vI a0.intent.Writer,vI a0.intent.TS,.bool a0.intent.Tomb,vS a0.intent.Value] J J (eE1 E ?_)
  intro w8 E S
  refine wnQ ?_
  refine QT ?_
  refine tr (?_)
  obtain rfl:=oi H
  exact ⟨_,_,_,fun w1 e1=>Zg (vs:=[.agg #[.slice A0_0 a0.l.length c0_0,vI a0.intent.Writer,vI a0.intent.TS,.bool a0.intent.Tomb,vS a0.intent.Value]]) (FA.cons (rcA S e1 0 ty90 J J J) (FA.nil)),HM,E,S.pk [2,3],⟨A0_0,c0_0,J,hr0_0,J⟩⟩
 refine QA (cB hb7) (QX (tn (QH (wsQ (wfA Tryz.underlying90 ty88 J (W_v (.agg (Y4 a0.intent)) (Qi (S.blk 1 J) ty88 J (QG J) J J) J ?_))))))
 refine YN S cz18 ty88 J J (eE2 E ?_)
 intro b9 w10 E S
 refine Qu S 0 J ty88 J J [vI a0.intent.Writer,vI a0.intent.TS,.bool a0.intent.Tomb,vS a0.intent.Value] J J J (Y4 a0.intent) J J (eE1 E ?_)
 intro w12 E S
 refine wnQ ?_
 as_aux_lemma =>
 refine wsQ (wlA S 4 ty3 J (wiB J J (wnQ ?_)))
 obtain ⟨o46,o46h,o46H⟩:=QO H
 refine Yc (fun ρ w'=>∃ (x42:List QU) (A43:Option Addr) (c44:Nat) (Mj:Hp),(x42)=o46∧QV ρ [(3,pt b1 0),(4,pt b4 0)]∧M.le Mj∧Ext w w'∧St w' Mj F [Blk b4 (.cells cz12 90 (0,0)),Blk b1 (.cells #[.slice A43 x42.length c44,vI a0.intent.Writer,vI a0.intent.TS,.bool a0.intent.Tomb,vS a0.intent.Value] 90 (0,0)),Blk bc_0 (.cells #[vI ac_0] 3 (0,0)),Blk bc_1 (.cells #[vI ac_1] 3 (0,0))]∧SlR ZL Mj (.slice A43 x42.length c44) x42) ?_ ?_
 ·as_aux_lemma =>
   clear o46H
   have H:=o46h
   have LE47:=Hp.le_refl M
   rcases Q3 H with ⟨hb48,H⟩ | ⟨hb48,H⟩
   ·refine QC (cB hb48) ?_
    refine wsQ (wlA S 4 ty3 J (wfA Tryz.underlying88 ty3 J ?_))
    refine Qu S 0 J ty3 J J [vI ac_1] J J J #[vI a0.intent.Writer,vI ac_1,.bool a0.intent.Tomb,vS a0.intent.Value] J J (eE1 E ?_)
    intro w49 E S
    refine wnQ (QJ (W_v (.agg #[vI a0.intent.Writer,vI ac_1,.bool a0.intent.Tomb,vS a0.intent.Value]) (Qi (S.blk 0 J) ty88 J (QG J) J J) J ?_))
    refine Xl S #[vI a0.intent.Writer,vI ac_1,.bool a0.intent.Tomb,vS a0.intent.Value] Tryz.underlying86 ty88 J J cz18 (by as_aux_lemma=>kernel_rfl) (by as_aux_lemma=>kernel_rfl) J (eE2 E ?_)
    intro b50 w51 E S
    replace S:=S.blk_row (r:=ZL) (l:=([(⟨a0.intent.Writer,ac_1,a0.intent.Tomb,a0.intent.Value⟩:QU)]:List QU)) 0 J 1 (Nat.le_refl 1) J (Cells.cons (vs:=[vI a0.intent.Writer,vI ac_1,.bool a0.intent.Tomb,vS a0.intent.Value]) (J) Cells.nil)
    refine wfA Tryz.underlying90 ty86 J (wlA S 3 ty86 J ?_)
    obtain ⟨p53,H⟩:=Z8 H
    obtain ⟨src54,hs55,hC56⟩:=XJ (P:=Tryz.prog) (ρ:=ZL) (l:=a0.l) (SlR.world hr0_0 S) (by decide)
    refine X0 S 0 J J J Tryz.underlying86 (.inl Tryz.underlying86) ty88 J (by decide) (by decide) hs55 hC56 J (by omega) J (eE2 E ?_)
    intro v57 w58 E S
    obtain ⟨A59,c60,rfl,_⟩:=(S.row_read 0 J).form
    refine wfA Tryz.underlying90 ty86 J ?_
    refine Qu S 3 J ty86 J J [.slice A59 (([(⟨a0.intent.Writer,ac_1,a0.intent.Tomb,a0.intent.Value⟩:QU)]:List QU)++a0.l).length c60] J J J #[.slice A59 (([(⟨a0.intent.Writer,ac_1,a0.intent.Tomb,a0.intent.Value⟩:QU)]:List QU)++a0.l).length c60,vI a0.intent.Writer,vI a0.intent.TS,.bool a0.intent.Tomb,vS a0.intent.Value] J J (eE1 E ?_)
    intro w61 E S
    refine wnQ ?_
    obtain ⟨M62,hM63,hf64,S⟩:=S.row_freeze 0 J
    replace HM:=Hp.le_trans HM hM63
    replace LE47:=Hp.le_trans LE47 hM63
    exact ⟨(([(⟨a0.intent.Writer,ac_1,a0.intent.Tomb,a0.intent.Value⟩:QU)]:List QU)++a0.l),A59,c60,M62,oi H,agP J,LE47,E,S.pk [1,2,3,4],hf64⟩
   refine QA (cB hb48) (QX (tn ?_))
   exact ⟨a0.l,A0_0,c0_0,M,oi H,agP J,(Hp.le_refl M),E,S.pk [1,2,3,4],hr0_0⟩
 rintro ρ w65 ⟨x42,A43,c44,M66,rfl,hρ,hM67,E,S,hs45⟩
 rw [QB hρ]
 replace HM:=Hp.le_trans HM hM67
 have H:=o46H
 refine tn ?_
 as_aux_lemma =>
 refine wsQ (W_v _ (xb2 [(0,1),(1,1),(2,1),(3,1)] cz18 Tryz.underlying88 ty88 J) J (wfA Tryz.underlying90 ty88 J ?_))
 refine Qu S 1 J ty88 J J [vI 0,vI 0,.bool false,vS ([]:Str)] J J J #[.slice A43 x42.length c44,vI 0,vI 0,.bool false,vS ([]:Str)] J J (eE1 E ?_)
 intro w68 E S
 refine wnQ (wsQ (W_v (.agg #[.slice A43 x42.length c44,vI 0,vI 0,.bool false,vS ([]:Str)]) (Qi (S.blk 1 J) ty90 J (QG J) J J) J ?_))
 refine Qu S 0 J ty90 J J [.slice A43 x42.length c44,vI 0,vI 0,.bool false,vS ([]:Str)] J J J #[.slice A43 x42.length c44,vI 0,vI 0,.bool false,vS ([]:Str)] J J (eE1 E ?_)
 intro w69 E S
 refine wnQ ?_
 refine QT ?_
 obtain rfl:=oi H
 exact ⟨_,_,_,fun w1 e1=>Zg (vs:=[.agg #[.slice A43 x42.length c44,vI 0,vI 0,.bool false,vS ([]:Str)]]) (FA.cons (rcA S e1 0 ty90 J J J) (FA.nil)),HM,E,S.pk [2,3],⟨A43,c44,J,hs45,J⟩⟩
def Qn (k:Nat) (a1_0:Int) (a1_1:Int):Nat→List (Str×Qh)→List Str→Option (((List (Str×Qh))))
 | 0,_,_=>none
 | kl+1,x320,x326=>(onList x326 (some (x320)) (fun y489 todo496=>(Option.bind (α:=(List (Str×Qh))) (Option.bind (XK k ((mget x320 y489).getD cz19) a1_0 a1_1) (fun t578=>(if y489∈x320.map (fun p=>p.1) then (Option.bind (α:=List (Str×Qh)) (some (mput x320 y489 t578)) (fun x598=>(Option.bind (α:=(List (Str×Qh))) (if (((t578.l.length:Int)==(0:Int))&&(t578.intent.Writer==(0:Int)))=true then (if y489 ∉ todo496 then (Option.bind (α:=List (Str×Qh)) (some (mdel x598 y489)) (fun x630=>some (x630))) else none) else some (x598)) (fun x620=>some (x620))))) else none))) (fun x566=>Qn k a1_0 a1_1 kl x566 todo496))))
theorem Qn.mono {k a1_0 a1_1}: ∀ {kl:Nat} {x0 x1},OLe (Qn k a1_0 a1_1 kl x0 x1) (Qn (k+1) a1_0 a1_1 (kl+1) x0 x1):=by
 intro kl
 induction kl with
 | zero=>intros;exact OLe.none
 | succ kl ih =>
  intros
  rw [Qn.eq_2,Qn.eq_2]
  have m1:=@XK.mono
  exact mo
theorem Qn.perm {k:Nat} {a1_0:Int} {a1_1:Int} {kl:Nat} {x320:List (Str×Qh)} {x326:List Str} {x326':List Str}  (hp:x326.Perm x326') (hn:x326.Nodup) (hl:(x320.map (·.1)).Nodup) (hs:∀ y∈x326,y∈x320.map (·.1)):Qn k a1_0 a1_1 kl x320 x326=Qn k a1_0 a1_1 kl x320 x326':=by
 exact Jn (z0:=cz19) (one:=fun s r=>XK k r a1_0 a1_1) (dead:=fun r=>((r.l.length:Int)==(0:Int))&&(r.intent.Writer==(0:Int))) (fun kl s t=>Qn k a1_0 a1_1 kl s t) _ (fun _ _ _=>J) (fun _ _=>J) (fun _ _ _=>J) hp hn kl _ hl hs
def Zh (k:Nat) (a0:QW) (a1_0:Int) (a1_1:Int):Option (QW) :=
 (if (a0.rows.map fun p:Str×Qh=>p.1).Nodup then (Option.bind (Qn k a1_0 a1_1 k a0.rows (a0.rows.map fun p:Str×Qh=>p.1)) (fun x478=>some (⟨⟨a0.c.Tasks,a0.c.Active,a0.c.Keys,a0.c.Depth,a0.c.TS,a0.c.KeyLen,a0.c.ValLen,a0.c.Fan⟩,a0.names,a0.many,a0.txs,x478,a0.clock,a0.floor⟩:QW))) else none)
theorem Zh.mono {k a0 a1_0 a1_1}: OLe (Zh k a0 a1_0 a1_1) (Zh (k+1) a0 a1_0 a1_1):=by
 unfold Zh
 have m1:=@Qn.mono
 exact mo
theorem Zh.con {k M A0_8 A0_9 A0_10 c0_10 A0_11} {vs0_11:List (Str×Value)} {a0:QW} {a1_0:Int} {a1_1:Int} {bo0 b1_0 b1_1} {r:QW} (h:Zh k a0 a1_0 a1_1=some r) (hm0_11:Xa Qx M a0.rows vs0_11): Con Tryz.prog 136 #[pt bo0 0,.func (.func 141) #[] #[pt b1_0 0,pt b1_1 0]] M [B96 bo0 a0 A0_8 A0_9 A0_10 c0_10 A0_11,XC QM (Value.int .i64) A0_8 a0.names,MpI A0_9 a0.many,Rw Qe 134 A0_10 c0_10 a0.txs,MpV A0_11 vs0_11,Blk b1_0 (.cells #[vI a1_0] 3 (0,0)),Blk b1_1 (.cells #[vI a1_1] 3 (0,0))] (fun v M' Γ'=>∃ (Aq1:Option Addr) (cq2:Nat) (Aq4:Option Addr) (cq5:Nat) (Aq7:Option Addr) (cq8:Nat) (Aq10:Option Addr) (cq11:Nat) (vsq13:List (Str×Value)),v=.tuple #[]∧Xa Qx M' r.rows vsq13∧Γ'=[B96 bo0 r Aq1 Aq4 Aq7 cq8 Aq10,XC QM (Value.int .i64) Aq1 r.names,MpI Aq4 r.many,Rw Qe 134 Aq7 cq8 r.txs,MpV Aq10 vsq13,Blk b1_0 (.cells #[vI a1_0] 3 (0,0)),Blk b1_1 (.cells #[vI a1_1] 3 (0,0))]):=by
 refine cwA Tryz.func136 J Tryz.ntmps136 Tryz.results136 J h ?_
 intro w F rn S hrn E HM H
 unfold Zh at H
 refine wsQ (wmP J (W_v _ (Qb J) J (wfA Tryz.underlying96 ty94 J (wlA S 0 ty94 J ?_))))
 obtain ⟨hn1,H⟩:=Z8 H
 refine Ul S 4 J Tryz.underlying94 (by rw [hm0_11.keys];exact hn1) rfl rfl (eE2 E ?_)
 intro b2 w3 E S
 rw [hm0_11.keys] at S
 replace S:St w3 M F [_,_,_,_,_,_,_]:=S
 refine wnQ ?_
 obtain ⟨o484,o484h,o484H⟩:=QO H
 refine Zr (fun ρ w'=>∃ (x478:List (Str×Qh)) (A479:Option Addr) (c480:Nat) (vs482:List (Str×Value)) (Mj:Hp),(x478)=o484∧QV ρ []∧M.le Mj∧Ext w w'∧St w' Mj F [MpV A479 vs482,Blk bo0 (.cells #[vI a0.c.Tasks,vI a0.c.Active,vI a0.c.Keys,vI a0.c.Depth,vI a0.c.TS,vI a0.c.KeyLen,vI a0.c.ValLen,vI a0.c.Fan,.map (mb A0_8),.map (mb A0_9),.slice A0_10 a0.txs.length c0_10,.map (mb A479),vI a0.clock,vI a0.floor] 96 (0,0)),XC QM (Value.int .i64) A0_8 a0.names,MpI A0_9 a0.many,Rw Qe 134 A0_10 c0_10 a0.txs,Blk b1_0 (.cells #[vI a1_0] 3 (0,0)),Blk b1_1 (.cells #[vI a1_1] 3 (0,0))]∧Xa Qx Mj x478 vs482) ?_ ?_
 ·refine Yr (fun n ρ w'=>∃ (x320:List (Str×Qh)) (x326:List Str) (A321:Option Addr) (c322:Nat) (vs324:List (Str×Value)) (Mj:Hp),Qn k a1_0 a1_1 n x320 x326=some o484∧QV ρ [(0,pt bo0 0),(1,.func (.func 141) #[] #[pt b1_0 0,pt b1_1 0]),(10,pt b2 0)]∧M.le Mj∧Ext w w'∧St w' Mj F [RangeM encS (fun v:Value=>v) A321 b2 vs324 x326 none,Blk bo0 (.cells #[vI a0.c.Tasks,vI a0.c.Active,vI a0.c.Keys,vI a0.c.Depth,vI a0.c.TS,vI a0.c.KeyLen,vI a0.c.ValLen,vI a0.c.Fan,.map (mb A0_8),.map (mb A0_9),.slice A0_10 a0.txs.length c0_10,.map (mb A321),vI a0.clock,vI a0.floor] 96 (0,0)),XC QM (Value.int .i64) A0_8 a0.names,MpI A0_9 a0.many,Rw Qe 134 A0_10 c0_10 a0.txs,Blk b1_0 (.cells #[vI a1_0] 3 (0,0)),Blk b1_1 (.cells #[vI a1_1] 3 (0,0))]∧Xa Qx Mj x320 vs324) k ?_ ?_
  ·exact ⟨a0.rows,(a0.rows.map fun p:Str×Qh=>p.1),A0_11,0,vs0_11,M,o484h,agP J,(Hp.le_refl M),E,S.pk [4,0,1,2,3,5,6],hm0_11⟩
  ·intro n
   rintro ρ w485 ⟨x320,x326,A321,c322,vs324,M486,H,hρ,hM487,E,S,hm325⟩
   rw [QB hρ]
   replace HM:=Hp.le_trans HM hM487
   cases n with
   | zero=>cases H
   | succ kl =>
    refine wsQ ?_
    obtain ⟨hn488a,hn488b,hn488c⟩:=S.rangeM_facts 0 J
    rw [hm325.keys] at hn488b hn488c
    refine U6 S 0 J J J ?_ ?_
    ·intro y489 v490 w491 hy493 hv494 E' S
     replace E:=E.trans E'
     rw [Qn.perm (permE hy493) hn488a hn488b hn488c,Qn.eq_2,X7] at H
     obtain ⟨cs497,hR498,he499⟩:=hm325.get y489 (z:=cz19) (zc:=[.slice none 0 0,vI 0,vI 0,.bool false,vS ([]:Str)]) ⟨_,SlW.nil _ _,J⟩
     rw [hv494] at he499
     obtain rfl:v490=_:=he499
     obtain ⟨v503,hs502,rfl⟩:=hR498
     obtain ⟨A500,c501,rfl,_⟩:=hs502.form
     replace S:St w491 M486 F [_,_,_,_,_,_,_]:=S
     refine W_v _ (QR J J) J (wnQ (QH (QC J (QX (tn ?_)))))
     obtain ⟨o572,o572h,o572H⟩:=QO H
     refine Yc (fun ρ w'=>∃ (x566:List (Str×Qh)) (A567:Option Addr) (c568:Nat) (vs570:List (Str×Value)) (Mj:Hp),(x566)=o572∧QV ρ [(0,pt bo0 0),(1,.func (.func 141) #[] #[pt b1_0 0,pt b1_1 0]),(10,pt b2 0)]∧M486.le Mj∧Ext w w'∧St w' Mj F [RangeM encS (fun v:Value=>v) A567 b2 vs570 (er x326 y489) none,Blk b1_0 (.cells #[vI a1_0] 3 (0,0)),Blk b1_1 (.cells #[vI a1_1] 3 (0,0)),Blk bo0 (.cells #[vI a0.c.Tasks,vI a0.c.Active,vI a0.c.Keys,vI a0.c.Depth,vI a0.c.TS,vI a0.c.KeyLen,vI a0.c.ValLen,vI a0.c.Fan,.map (mb A0_8),.map (mb A0_9),.slice A0_10 a0.txs.length c0_10,.map (mb A567),vI a0.clock,vI a0.floor] 96 (0,0)),XC QM (Value.int .i64) A0_8 a0.names,MpI A0_9 a0.many,Rw Qe 134 A0_10 c0_10 a0.txs]∧Xa Qx Mj x566 vs570) ?_ ?_
     ·as_aux_lemma =>
       clear o572H
       have H:=o572h
       have LE573:=Hp.le_refl M486
       refine ZW ?_
       refine wsQ (W_v (.tuple #[encS y489,.agg #[.slice A500 (((mget x320 y489).getD cz19).l).length c501,vI (((mget x320 y489).getD cz19).intent.Writer),vI (((mget x320 y489).getD cz19).intent.TS),.bool (((mget x320 y489).getD cz19).intent.Tomb),vS (((mget x320 y489).getD cz19).intent.Value)]]) (UZ (encv:=(fun v:Value=>v)) S 0 J hv494 J) J ?_)
       replace S:=S.rangeM_seen 0 J
       replace S:St w491 M486 F [_,_,_,_,_,_,_]:=S
       refine W_v _ (QR J J) J (W_v _ (QR J J) J ?_)
       refine YN S cz12 ty90 J J (eE2 E ?_)
       intro b574 w575 E S
       refine waS J ?_
       refine Qu S 0 J ty90 J J [.slice A500 (((mget x320 y489).getD cz19).l).length c501,vI (((mget x320 y489).getD cz19).intent.Writer),vI (((mget x320 y489).getD cz19).intent.TS),.bool (((mget x320 y489).getD cz19).intent.Tomb),vS (((mget x320 y489).getD cz19).intent.Value)] J J J #[.slice A500 (((mget x320 y489).getD cz19).l).length c501,vI (((mget x320 y489).getD cz19).intent.Writer),vI (((mget x320 y489).getD cz19).intent.TS),.bool (((mget x320 y489).getD cz19).intent.Tomb),vS (((mget x320 y489).getD cz19).intent.Value)] J J (eE1 E ?_)
       intro w577 E S
       refine wnQ (wsQ (W_v (.func (.func 141) #[] #[pt b1_0 0,pt b1_1 0]) (YW J) J (W_v (.agg #[.slice A500 (((mget x320 y489).getD cz19).l).length c501,vI (((mget x320 y489).getD cz19).intent.Writer),vI (((mget x320 y489).getD cz19).intent.TS),.bool (((mget x320 y489).getD cz19).intent.Tomb),vS (((mget x320 y489).getD cz19).intent.Value)]) (Qi (S.blk 0 J) ty90 J (QG J) J J) J ?_)))
       obtain ⟨t578,ht579,H⟩:=QO H
       replace S:St w577 M486 F [_,_,_,_,_,_,_,_]:=S.pk [6,7,0,1,2,3,4,5]
       refine Vg (fs:=[]) (cap:=[pt b1_0 0,pt b1_1 0]) fn141 J (XK.con ht579 hs502) (Γ1:=[_,_]) (Γ2:=[_,_,_,_,_,_]) S J J ?_
       rintro _ w583 M584 Γ' hM585 E' S ⟨A580,c581,rfl,hs582,rfl⟩
       replace HM:=Hp.le_trans HM hM585
       replace LE573:=Hp.le_trans LE573 hM585
       replace hm325:=Xa.mono hm325 hM585
       replace E:=E.trans E'
       replace S:St w583 M584 F [_,_,_,_,_,_,_,_]:=S
       refine Qu S 2 J ty90 J J [.slice A580 t578.l.length c581,vI t578.intent.Writer,vI t578.intent.TS,.bool t578.intent.Tomb,vS t578.intent.Value] J J J #[.slice A580 t578.l.length c581,vI t578.intent.Writer,vI t578.intent.TS,.bool t578.intent.Tomb,vS t578.intent.Value] J J (eE1 E ?_)
       intro w586 E S
       refine wnQ (QH ?_)
       refine rgA S [0,1,2,3,4,5,6,7] [_,_,_,_,_,_,_,_] 6 mixed J (eE1 E ?_)
       intro w594 E S D1
       refine tz0 0 J D1 (xmP J) (tz0 1 J D1 (Qb J) (tz0 2 J D1 (xfA Tryz.underlying96 ty94 J) (tz1 3 J D1 (fun w' h'=>xlA h' 4 ty94 J) (tz0 4 J D1 (xmS J) (Wt 5 J J J (.agg #[.slice A580 t578.l.length c581,vI t578.intent.Writer,vI t578.intent.TS,.bool t578.intent.Tomb,vS t578.intent.Value]) J (fun w' h'=>Qi (Y1 h' 2 J) ty90 J (QG J) J J) D1 ?_)))))
       refine Wo 6 J ?_
       obtain ⟨p596,H⟩:=Z8 H
       obtain ⟨x598,he599,H⟩:=QO H
       replace he599:=oi he599
       obtain ⟨vs600,hv601⟩:∃ z:List (Str×Value),mput vs324 y489 (.agg #[.slice A580 t578.l.length c581,vI t578.intent.Writer,vI t578.intent.TS,.bool t578.intent.Tomb,vS t578.intent.Value])=z:=⟨_,J⟩
       have hm602:Xa Qx M584 x598 vs600:=by rw [← he599,← hv601];exact hm325.put y489 (cs:=[.slice A580 t578.l.length c581,vI t578.intent.Writer,vI t578.intent.TS,.bool t578.intent.Tomb,vS t578.intent.Value]) ⟨_,hs582,rfl⟩
       refine Um S 3 J Tryz.underlying94 key9 y489 (.agg #[.slice A580 t578.l.length c581,vI t578.intent.Writer,vI t578.intent.TS,.bool t578.intent.Tomb,vS t578.intent.Value]) (by rw [hm325.keys];exact p596) hv601 rfl rfl rfl (eE1 E ?_)
       intro w597 E S
       replace S:St w597 M584 F [_,_,_,_,_,_,_,_]:=S
       refine QK (Yl ⟨.inl (by decide),?_⟩)
       refine Wz ?_
       refine tn ?_
       as_aux_lemma =>
       refine wsQ (wfA Tryz.underlying90 ty86 J (wlA S 2 ty86 J (W_v _ (Qm (n:=t578.l.length) Tryz.underlying86 J) J (wiB J J (wmB J ?_)))))
       refine ZO 5 (fun ρ w'=>QV ρ [(0,pt bo0 0),(1,.func (.func 141) #[] #[pt b1_0 0,pt b1_1 0]),(4,vS y489),(10,pt b2 0),(34,.bool (((t578.l.length:Int)==(0:Int))&&(t578.intent.Writer==(0:Int))))]∧w597=w') ?_ ?_
       ·rcases Qy ((t578.l.length:Int)==(0:Int)) with hb603 | hb603
        ·refine QZ (skT hb603) J (QZ (skT hb603) J (QZ (skT hb603) J (QZ (skT hb603) J (wqB hb603 J (QK ?_)))))
         exact ⟨⟨J,J,J,J,(flB hb603),trivial⟩,rfl⟩
        ·refine QN (cS hb603) (wfA Tryz.underlying90 ty88 J (QN (cS hb603) (wfA Tryz.underlying88 ty3 J (QN (cS hb603) (wlA S 2 ty3 J (QN (cS hb603) (wiB J J (wpB hb603 J (QK ?_)))))))))
         exact ⟨⟨J,J,J,J,(flB hb603),trivial⟩,rfl⟩
       rintro ρ _ ⟨hρ,rfl⟩
       rw [QB hρ]
       refine wnQ ?_
       obtain ⟨o626,o626h,o626H⟩:=QO H
       refine Yc (fun ρ w'=>∃ (x620:List (Str×Qh)) (A621:Option Addr) (c622:Nat) (vs624:List (Str×Value)),(x620)=o626∧QV ρ [(0,pt bo0 0),(1,.func (.func 141) #[] #[pt b1_0 0,pt b1_1 0]),(10,pt b2 0)]∧Ext w w'∧St w' M584 F [RangeM encS (fun v:Value=>v) A621 b2 vs624 (er x326 y489) none,Blk b1_0 (.cells #[vI a1_0] 3 (0,0)),Blk b1_1 (.cells #[vI a1_1] 3 (0,0)),Blk bo0 (.cells #[vI a0.c.Tasks,vI a0.c.Active,vI a0.c.Keys,vI a0.c.Depth,vI a0.c.TS,vI a0.c.KeyLen,vI a0.c.ValLen,vI a0.c.Fan,.map (mb A0_8),.map (mb A0_9),.slice A0_10 a0.txs.length c0_10,.map (mb A621),vI a0.clock,vI a0.floor] 96 (0,0)),XC QM (Value.int .i64) A0_8 a0.names,MpI A0_9 a0.many,Rw Qe 134 A0_10 c0_10 a0.txs]∧Xa Qx M584 x620 vs624) ?_ ?_
       ·clear o626H
        have H:=o626h
        rcases Q3 H with ⟨hb627,H⟩ | ⟨hb627,H⟩
        ·refine QC (cB hb627) ?_
         refine QJ (wmP J (W_v _ (Qb J) J (wfA Tryz.underlying96 ty94 J (wlA S 4 ty94 J (wmS J ?_)))))
         obtain ⟨p628,H⟩:=Z8 H
         obtain ⟨x630,he631,H⟩:=QO H
         replace he631:=oi he631
         obtain ⟨vs632,hv633⟩:∃ z:List (Str×Value),mdel vs600 y489=z:=⟨_,J⟩
         have hm634:Xa Qx M584 x630 vs632:=by rw [← he631,← hv633];exact hm602.del y489
         refine Jb S 3 J Tryz.underlying94 key9 y489 p628 hv633 J J (eE1 E ?_)
         intro w629 E S
         replace S:St w629 M584 F [_,_,_,_,_,_,_,_]:=S
         refine wnQ ?_
         exact ⟨x630,A321,c322,vs632,oi H,agP J,E,S.pk [3,0,1,4,5,6,7],hm634⟩
        refine QA (cB hb627) (QX (tn ?_))
        exact ⟨x598,A321,c322,vs600,oi H,agP J,E,S.pk [3,0,1,4,5,6,7],hm602⟩
       rintro ρ w635 ⟨x620,A621,c622,vs624,rfl,hρ,E,S,hm625⟩
       rw [QB hρ]
       have H:=o626H
       refine bn (tn ?_)
       exact ⟨x620,A621,c622,vs624,M584,oi H,agP J,LE573,E,S.pk [0,1,2,3,4,5,6],hm625⟩
     rintro ρ w636 ⟨x566,A567,c568,vs570,M637,rfl,hρ,hM638,E,S,hm571⟩
     rw [QB hρ]
     replace HM:=Hp.le_trans HM hM638
     replace hM487:=Hp.le_trans hM487 hM638
     have H:=o572H
     refine tn ?_
     exact ⟨kl,Nat.lt_succ_self kl,⟨x566,(er x326 y489),A567,c568,vs570,M637,H,agP J,hM487,E,S.pk [0,3,4,5,6,1,2],hm571⟩⟩
    ·intro w492 ht495 E' S
     replace E:=E.trans E'
     rw [ht495,Qn.eq_2,Vd] at H
     replace S:=S.rangeM_end 0 J
     replace S:St w492 M486 F [_,_,_,_,_,_,_]:=S
     refine W_v _ (QR J J) J (wnQ (QH (QA J ?_)))
     refine YZ ?_
     refine tx (tx (bsm (?_)))
     refine tn ?_
     exact ⟨x320,A321,c322,vs324,M486,oi H,trivial,hM487,E,S.pk [0,1,2,3,4,5,6],hm325⟩
 rintro ρ w639 ⟨x478,A479,c480,vs482,M640,rfl,hρ,hM641,E,S,hm483⟩
 rw [QB hρ]
 replace HM:=Hp.le_trans HM hM641
 have H:=o484H
 obtain rfl:=oi H
 exact ⟨_,_,_,rsA (vs:=[]) J,HM,E,S.pk [1,2,3,4,0,5,6],⟨A0_8,0,A0_9,0,A0_10,c0_10,A479,c480,vs482,J,hm483,J⟩⟩
def Zi (k:Nat) (a0:QW) (a1:Int) (a2:Int) (a3:Int):Option (Ql×QW) :=
 (if 0≤(IntKind.i64.wrap (a1-(1:Int)))∧(IntKind.i64.wrap (a1-(1:Int)))<(a0.txs.length:Int) then (Option.bind (α:=List Xf) (some (List.set a0.txs (IntKind.i64.wrap (a1-(1:Int))).toNat (⟨a2,(rd a0.txs (IntKind.i64.wrap (a1-(1:Int)))).snapshot⟩:Xf))) (fun x28=>(Option.bind (Zh k (⟨⟨a0.c.Tasks,a0.c.Active,a0.c.Keys,a0.c.Depth,a0.c.TS,a0.c.KeyLen,a0.c.ValLen,a0.c.Fan⟩,a0.names,a0.many,x28,a0.rows,a0.clock,a0.floor⟩:QW) a1 a3) (fun t32=>some (cz11,t32))))) else none)
theorem Zi.mono {k a0 a1 a2 a3}: OLe (Zi k a0 a1 a2 a3) (Zi (k+1) a0 a1 a2 a3):=by
 unfold Zi
 have m1:=@Zh.mono
 exact mo
theorem Zi.con {k M A0_8 A0_9 A0_10 c0_10 A0_11} {vs0_11:List (Str×Value)} {a0:QW} {a1:Int} {a2:Int} {a3:Int} {bo0} {r:Ql×QW} (h:Zi k a0 a1 a2 a3=some r) (hm0_11:Xa Qx M a0.rows vs0_11): Con Tryz.prog 135 #[pt bo0 0,vI a1,vU a2,vI a3] M [B96 bo0 a0 A0_8 A0_9 A0_10 c0_10 A0_11,XC QM (Value.int .i64) A0_8 a0.names,MpI A0_9 a0.many,Rw Qe 134 A0_10 c0_10 a0.txs,MpV A0_11 vs0_11] (fun v M' Γ'=>∃ (Aq1:Option Addr) (cq2:Nat) (Aq4:Option Addr) (cq5:Nat) (Aq7:Option Addr) (cq8:Nat) (Aq10:Option Addr) (cq11:Nat) (Aq13:Option Addr) (cq14:Nat) (vsq16:List (Str×Value)),v=.agg #[vI r.1.Err,.bool r.1.Found,vS r.1.Value,.slice Aq1 r.1.Pairs.length cq2]∧Xa Qx M' r.2.rows vsq16∧Γ'=[Rw Qq 119 Aq1 cq2 r.1.Pairs,B96 bo0 r.2 Aq4 Aq7 Aq10 cq11 Aq13,XC QM (Value.int .i64) Aq4 r.2.names,MpI Aq7 r.2.many,Rw Qe 134 Aq10 cq11 r.2.txs,MpV Aq13 vsq16]):=by
 refine cwA Tryz.func135 J Tryz.ntmps135 Tryz.results135 J h ?_
 intro w F rn S hrn E HM H
 unfold Zi at H
 refine wsQ ?_
 refine Yz S #[vI a1] J J J (eE2 E ?_)
 intro b1 w2 E S
 refine Yz S #[vI a3] J J J (eE2 E ?_)
 intro b4 w5 E S
 refine YN S cz16 ty38 J J (eE2 E ?_)
 intro b7 w8 E S
 refine wnQ (QH ?_)
 refine rgA S [0,1,2,3,4,5,6,7] [_,_,_,_,_,_,_,_] 9 mixed J (eE1 E ?_)
 intro w20 E S D1
 refine tz0 0 J D1 (xmP J) (tz0 1 J D1 (Qb J) (tz0 2 J D1 (xfA Tryz.underlying96 ty93 J) (tz1 3 J D1 (fun w' h'=>xlA h' 3 ty93 J) (tz1 4 J D1 (fun w' h'=>xlA h' 2 ty3 J) (tz0 5 J D1 (xiI J J) (tz0 6 J D1 (xmI J) ?_))))))
 obtain ⟨⟨p22,p23⟩,H⟩:=Z8 H
 obtain ⟨b24,o25,_,_,_,ee26,_⟩:=SlW.at' (S.row_read 6 J) p22 p23
 refine tz0 7 J D1 (QS Tryz.underlying93 ty134 (slA ee26) J p22 p23) (tz0 8 J D1 (X2 (o:=o25+(IntKind.i64.wrap (a1-(1:Int))).toNat*2) (off:=0) Tryz.underlying134 J ty5 J J) ?_)
 refine Wo 9 J ?_
 obtain ⟨x28,he29,H⟩:=QO H
 replace he29:=oi he29
 refine VQ S 6 J J ee26 (by first | exact p22 | simpa using p22) (by first | exact p23 | simpa using p23) 0 ty5 rfl rfl [vU a2] rfl rfl rfl rfl (⟨a2,(rd a0.txs (IntKind.i64.wrap (a1-(1:Int)))).snapshot⟩:Xf) (by rintro _ rfl;rfl) he29 (eE1 E ?_)
 intro w27 E S
 have hs30:Value.slice A0_10 a0.txs.length c0_10=Value.slice A0_10 x28.length c0_10:=by rw [← he29,List.length_set]
 try unfold B96 at S
 try rw [hs30] at S
 try rw [hs30]
 have p31:(IntKind.i64.wrap (a1-(1:Int)))<(x28.length:Int):=by rw [← he29,List.length_set];exact p23
 refine QK (Yl ⟨.inl (by decide),?_⟩)
 refine Wz ?_
 refine tn (wsQ (wmP J (W_v (.func (.func 141) #[] #[pt b1 0,pt b4 0]) (Vc J) J ?_)))
 obtain ⟨t32,ht33,H⟩:=QO H
 replace S:St w27 M F [_,_,_,_,_,_,_,_]:=S.pk [3,4,5,6,7,2,1,0]
 refine Y2 fn136 (Zh.con ht33 hm0_11) (Γ1:=[_,_,_,_,_,_,_]) (Γ2:=[_]) S J J ?_
 rintro _ w48 M49 Γ' hM50 E' S ⟨A34,c35,A37,c38,A40,c41,A43,c44,vs46,rfl,hm47,rfl⟩
 replace HM:=Hp.le_trans HM hM50
 replace E:=E.trans E'
 replace S:St w48 M49 F [_,_,_,_,_,_,_,_]:=S
 refine wnQ ?_
 as_aux_lemma =>
 refine wsQ (W_v _ (xb2 [(0,1),(1,1),(2,1),(3,1)] cz16 Tryz.underlying38 ty38 J) J ?_)
 refine Qu S 7 J ty38 J J [vI 0,.bool false,vS ([]:Str),.slice none 0 0] J J J cz16 J J (eE1 E ?_)
 intro w51 E S
 refine wnQ ?_
 refine QT ?_
 obtain rfl:=oi H
 replace S:=S.row_nil Qq 119
 exact ⟨_,_,_,fun w1 e1=>Zg (vs:=[.agg #[vI 0,.bool false,vS ([]:Str),.slice none ([]:List Qp).length 0]]) (FA.cons (rcA S e1 8 ty38 J J J) (FA.nil)),HM,E,S.pk [0,1,2,3,4,5],⟨none,0,A34,c35,A37,c38,A40,c41,A43,c44,vs46,J,hm47,J⟩⟩
def Q6 (k:Nat) (a0:QW) (a1:Int):Nat→Bool→List Str→Option ((Bool))
 | 0,_,_=>none
 | kl+1,x55,x56=>(onList x56 (some (x55)) (fun y82 todo89=>Q6 k a0 a1 kl (x55||(((mget a0.rows y82).getD cz19).intent.Writer==a1)) todo89))
theorem Q6.mono {k a0 a1}: ∀ {kl:Nat} {x0 x1},OLe (Q6 k a0 a1 kl x0 x1) (Q6 (k+1) a0 a1 (kl+1) x0 x1):=by
 intro kl
 induction kl with
 | zero=>intros;exact OLe.none
 | succ kl ih =>
  intros
  rw [Q6.eq_2,Q6.eq_2]
  exact mo
theorem Q6.perm {k:Nat} {a0:QW} {a1:Int} {kl:Nat} {x55:Bool} {x56:List Str} {x56':List Str} {lq:List (Str×Qh)} (hp:x56.Perm x56') (hn:x56.Nodup) (hl:(lq.map (·.1)).Nodup) (hs:∀ y∈x56,y∈lq.map (·.1)):Q6 k a0 a1 kl x55 x56=Q6 k a0 a1 kl x55 x56':=by
 refine qq (fun kl s t=>Q6 k a0 a1 kl s t) _ (fun y s=>some (s||(((mget a0.rows y).getD cz19).intent.Writer==a1))) (fun _ _=>J) (fun _ _ _=>J) (fun y z s=>?_) hp kl _
 simp only [Option.bind_some,Bool.or_assoc]
 rw [Bool.or_comm (_==a1)]
def YS (k:Nat) (a0:QW) (a1:Int) (a2:Int) (a3:QY):Option (Ql×QW) :=
 (if (a0.rows.map fun p:Str×Qh=>p.1).Nodup then (Option.bind (Q6 k a0 a1 k false (a0.rows.map fun p:Str×Qh=>p.1)) (fun x78=>(if (!x78)=true then (Option.bind (Zi k a0 a1 (3:Int) (0:Int)) (fun t104=>some (t104.1,t104.2))) else (if (a0.clock==a0.c.TS)=true then (Option.bind (Zi k a0 a1 (4:Int) (0:Int)) (fun t130=>some (cz10,t130.2))) else (Option.bind (Zi k (⟨⟨a0.c.Tasks,a0.c.Active,a0.c.Keys,a0.c.Depth,a0.c.TS,a0.c.KeyLen,a0.c.ValLen,a0.c.Fan⟩,a0.names,a0.many,a0.txs,a0.rows,(IntKind.i64.wrap (a0.clock+(1:Int))),a0.floor⟩:QW) a1 (3:Int) (IntKind.i64.wrap (a0.clock+(1:Int)))) (fun t155=>some (t155.1,t155.2))))))) else none)
theorem YS.mono {k a0 a1 a2 a3}: OLe (YS k a0 a1 a2 a3) (YS (k+1) a0 a1 a2 a3):=by
 unfold YS
 have m1:=@Q6.mono
 have m2:=@Zi.mono
 exact mo
theorem YS.con {k M A0_8 A0_9 A0_10 c0_10 A0_11} {vs0_11:List (Str×Value)} {a0:QW} {a1:Int} {a2:Int} {a3:QY} {bo0} {r:Ql×QW} (h:YS k a0 a1 a2 a3=some r) (hm0_11:Xa Qx M a0.rows vs0_11): Con Tryz.prog 128 #[pt bo0 0,vI a1,vI a2,.agg (Qo a3)] M [B96 bo0 a0 A0_8 A0_9 A0_10 c0_10 A0_11,XC QM (Value.int .i64) A0_8 a0.names,MpI A0_9 a0.many,Rw Qe 134 A0_10 c0_10 a0.txs,MpV A0_11 vs0_11] (fun v M' Γ'=>∃ (Aq1:Option Addr) (cq2:Nat) (Aq4:Option Addr) (cq5:Nat) (Aq7:Option Addr) (cq8:Nat) (Aq10:Option Addr) (cq11:Nat) (Aq13:Option Addr) (cq14:Nat) (vsq16:List (Str×Value)),v=.agg #[vI r.1.Err,.bool r.1.Found,vS r.1.Value,.slice Aq1 r.1.Pairs.length cq2]∧Xa Qx M' r.2.rows vsq16∧Γ'=[Rw Qq 119 Aq1 cq2 r.1.Pairs,B96 bo0 r.2 Aq4 Aq7 Aq10 cq11 Aq13,XC QM (Value.int .i64) Aq4 r.2.names,MpI Aq7 r.2.many,Rw Qe 134 Aq10 cq11 r.2.txs,MpV Aq13 vsq16]):=by
 refine cwA Tryz.func128 J Tryz.ntmps128 Tryz.results128 J h ?_
 intro w F rn S hrn E HM H
 unfold YS at H
 refine wsQ ?_
 refine Yz S (Qo a3) J J J (eE2 E ?_)
 intro b1 w2 E S
 refine YN S cz16 ty38 J J (eE2 E ?_)
 intro b4 w5 E S
 refine wnQ (wsQ (waB J (wnQ (QH (wsQ (wmP J (W_v _ (Qb J) J (wfA Tryz.underlying96 ty94 J (wlA S 2 ty94 J ?_)))))))))
 obtain ⟨hn7,H⟩:=Z8 H
 refine Ul S 6 J Tryz.underlying94 (by rw [hm0_11.keys];exact hn7) rfl rfl (eE2 E ?_)
 intro b8 w9 E S
 rw [hm0_11.keys] at S
 replace S:St w9 M F [_,_,_,_,_,_,_]:=S
 refine wnQ ?_
 obtain ⟨o79,o79h,o79H⟩:=QO H
 refine Zr (fun ρ w'=>∃ (x78:Bool),(x78)=o79∧QV ρ [(0,pt bo0 0),(1,vI a1),(8,pt b4 0),(9,.bool x78)]∧Ext w w'∧St w' M F [Blk b4 (.cells cz16 38 (0,0)),B96 bo0 a0 A0_8 A0_9 A0_10 c0_10 A0_11,XC QM (Value.int .i64) A0_8 a0.names,MpI A0_9 a0.many,Rw Qe 134 A0_10 c0_10 a0.txs,MpV A0_11 vs0_11]) ?_ ?_
 ·refine Yr (fun n ρ w'=>∃ (x55:Bool) (x56:List Str),Q6 k a0 a1 n x55 x56=some o79∧QV ρ [(0,pt bo0 0),(1,vI a1),(8,pt b4 0),(9,.bool x55),(16,pt b8 0)]∧Ext w w'∧St w' M F [Blk b4 (.cells cz16 38 (0,0)),B96 bo0 a0 A0_8 A0_9 A0_10 c0_10 A0_11,XC QM (Value.int .i64) A0_8 a0.names,MpI A0_9 a0.many,Rw Qe 134 A0_10 c0_10 a0.txs,RangeM encS (fun v:Value=>v) A0_11 b8 vs0_11 x56 none]) k ?_ ?_
  ·exact ⟨false,(a0.rows.map fun p:Str×Qh=>p.1),o79h,agP J,E,S.pk [0,2,3,4,5,6]⟩
  ·intro n
   rintro ρ w80 ⟨x55,x56,H,hρ,E,S⟩
   rw [QB hρ]
   cases n with
   | zero=>cases H
   | succ kl =>
    refine wsQ ?_
    obtain ⟨hn81a,hn81b,hn81c⟩:=S.rangeM_facts 5 J
    rw [hm0_11.keys] at hn81b hn81c
    refine U6 S 5 J J J ?_ ?_
    ·intro y82 v83 w84 hy86 hv87 E' S
     replace E:=E.trans E'
     rw [Q6.perm (permE hy86) hn81a hn81b hn81c,Q6.eq_2,X7] at H
     obtain ⟨cs90,hR91,he92⟩:=hm0_11.get y82 (z:=cz19) (zc:=[.slice none 0 0,vI 0,vI 0,.bool false,vS ([]:Str)]) ⟨_,SlW.nil _ _,J⟩
     rw [hv87] at he92
     obtain rfl:v83=_:=he92
     obtain ⟨v96,hs95,rfl⟩:=hR91
     obtain ⟨A93,c94,rfl,_⟩:=hs95.form
     replace S:St w84 M F [_,_,_,_,_,_]:=S
     refine W_v _ (QR J J) J (wnQ (QH (QC J (QX (tn ?_)))))
     refine ZW ?_
     refine wsQ (W_v (.tuple #[encS y82,.agg #[.slice A93 (((mget a0.rows y82).getD cz19).l).length c94,vI (((mget a0.rows y82).getD cz19).intent.Writer),vI (((mget a0.rows y82).getD cz19).intent.TS),.bool (((mget a0.rows y82).getD cz19).intent.Tomb),vS (((mget a0.rows y82).getD cz19).intent.Value)]]) (UZ (encv:=(fun v:Value=>v)) S 5 J hv87 J) J ?_)
     replace S:=S.rangeM_seen 5 J
     replace S:St w84 M F [_,_,_,_,_,_]:=S
     refine W_v _ (QR J J) J ?_
     refine YN S cz12 ty90 J J (eE2 E ?_)
     intro b97 w98 E S
     refine Qu S 0 J ty90 J J [.slice A93 (((mget a0.rows y82).getD cz19).l).length c94,vI (((mget a0.rows y82).getD cz19).intent.Writer),vI (((mget a0.rows y82).getD cz19).intent.TS),.bool (((mget a0.rows y82).getD cz19).intent.Tomb),vS (((mget a0.rows y82).getD cz19).intent.Value)] J J J #[.slice A93 (((mget a0.rows y82).getD cz19).l).length c94,vI (((mget a0.rows y82).getD cz19).intent.Writer),vI (((mget a0.rows y82).getD cz19).intent.TS),.bool (((mget a0.rows y82).getD cz19).intent.Tomb),vS (((mget a0.rows y82).getD cz19).intent.Value)] J J (eE1 E ?_)
     intro w100 E S
     refine wnQ (QJ (wmB J (wmB J ?_)))
     refine ZO 6 (fun ρ w'=>QV ρ [(0,pt bo0 0),(1,vI a1),(8,pt b4 0),(16,pt b8 0),(28,.bool (x55||(((mget a0.rows y82).getD cz19).intent.Writer==a1)))]∧w100=w') ?_ ?_
     ·rcases Qy x55 with hb101 | hb101
      ·refine QN (cS hb101) (wfA Tryz.underlying90 ty88 J (QN (cS hb101) (wfA Tryz.underlying88 ty3 J (QN (cS hb101) (wlA S 0 ty3 J (QN (cS hb101) (wmI J (QN (cS hb101) (wiB J J (wqB hb101 J (QK ?_)))))))))))
       exact ⟨⟨J,J,J,J,(flB hb101),trivial⟩,rfl⟩
      ·refine QZ (skF hb101) J (QZ (skF hb101) J (QZ (skF hb101) J (QZ (skF hb101) J (QZ (skF hb101) J (wpB hb101 J (QK ?_))))))
       exact ⟨⟨J,J,J,J,(flB hb101),trivial⟩,rfl⟩
     rintro ρ _ ⟨hρ,rfl⟩
     rw [QB hρ]
     refine waB J (QK (bn (tn ?_)))
     exact ⟨kl,Nat.lt_succ_self kl,⟨(x55||(((mget a0.rows y82).getD cz19).intent.Writer==a1)),(er x56 y82),H,agP J,E,S.pk [1,2,3,4,5,6]⟩⟩
    ·intro w85 ht88 E' S
     replace E:=E.trans E'
     rw [ht88,Q6.eq_2,Vd] at H
     replace S:=S.rangeM_end 5 J
     replace S:St w85 M F [_,_,_,_,_,_]:=S
     refine W_v _ (QR J J) J (wnQ (QH (QA J ?_)))
     refine YZ ?_
     refine tx (tx (bsm (?_)))
     refine tn ?_
     exact ⟨x55,oi H,agP J,E,S.pk [0,1,2,3,4,5]⟩
 rintro ρ w102 ⟨x78,rfl,hρ,E,S⟩
 rw [QB hρ]
 have H:=o79H
 refine tn ?_
 as_aux_lemma =>
 refine QH ?_
 refine ZW ?_
 refine wsQ (wmB J (W_v _ (Xr (b:=x78) J) J (waB J (wnQ ?_))))
 rcases Q3 H with ⟨hb103,H⟩ | ⟨hb103,H⟩
 ·refine QC (cB hb103) ?_
  refine wsQ (wmP J (wmI J ?_))
  obtain ⟨t104,ht105,H⟩:=QO H
  replace S:St w102 M F [_,_,_,_,_,_]:=S.pk [1,2,3,4,5,0]
  refine Y2 fn135 (Zi.con ht105 hm0_11) (Γ1:=[_,_,_,_,_]) (Γ2:=[_]) S J J ?_
  rintro _ w123 M124 Γ' hM125 E' S ⟨A106,c107,A109,c110,A112,c113,A115,c116,A118,c119,vs121,rfl,hm122,rfl⟩
  replace HM:=Hp.le_trans HM hM125
  replace E:=E.trans E'
  replace S:St w123 M124 F [_,_,_,_,_,_,_]:=S
  refine Qu S 6 J ty38 J J [vI t104.1.Err,.bool t104.1.Found,vS t104.1.Value,.slice A106 t104.1.Pairs.length c107] J J J #[vI t104.1.Err,.bool t104.1.Found,vS t104.1.Value,.slice A106 t104.1.Pairs.length c107] J J (eE1 E ?_)
  intro w126 E S
  refine wnQ ?_
  refine QT ?_
  refine br (tr (?_))
  obtain rfl:=oi H
  exact ⟨_,_,_,fun w1 e1=>Zg (vs:=[.agg #[vI t104.1.Err,.bool t104.1.Found,vS t104.1.Value,.slice A106 t104.1.Pairs.length c107]]) (FA.cons (rcA S e1 6 ty38 J J J) (FA.nil)),HM,E,S.pk [0,1,2,3,4,5],⟨A106,c107,A109,c110,A112,c113,A115,c116,A118,c119,vs121,J,hm122,J⟩⟩
 refine QA (cB hb103) (QH ?_)
 refine rgA S [0,1,2,3,4,5] [_,_,_,_,_,_] 11 mixed J (eE1 E ?_)
 intro w127 E S D1
 refine tz0 0 J D1 (xmP J) (tz0 1 J D1 (Qb J) (tz0 2 J D1 (xfA Tryz.underlying96 ty3 J) (tz1 3 J D1 (fun w' h'=>xlA h' 1 ty3 J) (tz0 4 J D1 (xmP J) (tz0 5 J D1 (Qb J) (tz0 6 J D1 (xfA Tryz.underlying96 ty23 J) (tz0 7 J D1 (xfA Tryz.underlying23 ty3 J) (tz1 8 J D1 (fun w' h'=>xlA h' 1 ty3 J) (tz0 9 J D1 (xiB J J) (tz0 10 J D1 (xaB J) ?_))))))))))
 refine Wz ?_
 refine tn ?_
 rcases Q3 H with ⟨hb129,H⟩ | ⟨hb129,H⟩
 ·refine QC (cB hb129) ?_
  refine wsQ (wmP J (wmI J ?_))
  obtain ⟨t130,ht131,H⟩:=QO H
  replace S:St w127 M F [_,_,_,_,_,_]:=S.pk [1,2,3,4,5,0]
  refine Y2 fn135 (Zi.con ht131 hm0_11) (Γ1:=[_,_,_,_,_]) (Γ2:=[_]) S J J ?_
  rintro _ w149 M150 Γ' hM151 E' S ⟨A132,c133,A135,c136,A138,c139,A141,c142,A144,c145,vs147,rfl,hm148,rfl⟩
  replace HM:=Hp.le_trans HM hM151
  replace E:=E.trans E'
  replace S:St w149 M150 F [_,_,_,_,_,_,_]:=S
  refine wnQ (wsQ (W_v _ (xb2 [(0,1),(1,1),(2,1),(3,1)] cz15 Tryz.underlying38 ty38 J) J ?_))
  refine Qu S 6 J ty38 J J [vI 35,.bool false,vS ([]:Str),.slice none 0 0] J J J cz15 J J (eE1 E ?_)
  intro w152 E S
  refine wnQ ?_
  refine QT ?_
  refine br (tr (?_))
  obtain rfl:=oi H
  replace S:=S.row_nil Qq 119
  exact ⟨_,_,_,fun w1 e1=>Zg (vs:=[.agg #[vI 35,.bool false,vS ([]:Str),.slice none ([]:List Qp).length 0]]) (FA.cons (rcA S e1 7 ty38 J J J) (FA.nil)),HM,E,S.pk [0,2,3,4,5,6],⟨none,0,A135,c136,A138,c139,A141,c142,A144,c145,vs147,J,hm148,J⟩⟩
 refine QA (cB hb129) (QX (bn (tn ?_)))
 as_aux_lemma =>
 refine wsQ (wmP J (W_v _ (Qb J) J (wfA Tryz.underlying96 ty3 J (wlA S 1 ty3 J (wiI J J (W_v _ (Qb J) J (wfA Tryz.underlying96 ty3 J ?_)))))))
 refine Qu S 1 J ty3 J J [vI (IntKind.i64.wrap (a0.clock+(1:Int)))] J J J #[vI a0.c.Tasks,vI a0.c.Active,vI a0.c.Keys,vI a0.c.Depth,vI a0.c.TS,vI a0.c.KeyLen,vI a0.c.ValLen,vI a0.c.Fan,.map (mb A0_8),.map (mb A0_9),.slice A0_10 a0.txs.length c0_10,.map (mb A0_11),vI (IntKind.i64.wrap (a0.clock+(1:Int))),vI a0.floor] J J (eE1 E ?_)
 intro w154 E S
 refine wnQ (wsQ (wmP J (wmI J (wmP J (W_v _ (Qb J) J (wfA Tryz.underlying96 ty3 J (wlA S 1 ty3 J ?_)))))))
 obtain ⟨t155,ht156,H⟩:=QO H
 replace S:St w154 M F [_,_,_,_,_,_]:=S.pk [1,2,3,4,5,0]
 refine Y2 fn135 (Zi.con ht156 hm0_11) (Γ1:=[_,_,_,_,_]) (Γ2:=[_]) S J J ?_
 rintro _ w174 M175 Γ' hM176 E' S ⟨A157,c158,A160,c161,A163,c164,A166,c167,A169,c170,vs172,rfl,hm173,rfl⟩
 replace HM:=Hp.le_trans HM hM176
 replace E:=E.trans E'
 replace S:St w174 M175 F [_,_,_,_,_,_,_]:=S
 refine Qu S 6 J ty38 J J [vI t155.1.Err,.bool t155.1.Found,vS t155.1.Value,.slice A157 t155.1.Pairs.length c158] J J J #[vI t155.1.Err,.bool t155.1.Found,vS t155.1.Value,.slice A157 t155.1.Pairs.length c158] J J (eE1 E ?_)
 intro w177 E S
 refine wnQ ?_
 refine QT ?_
 obtain rfl:=oi H
 exact ⟨_,_,_,fun w1 e1=>Zg (vs:=[.agg #[vI t155.1.Err,.bool t155.1.Found,vS t155.1.Value,.slice A157 t155.1.Pairs.length c158]]) (FA.cons (rcA S e1 6 ty38 J J J) (FA.nil)),HM,E,S.pk [0,1,2,3,4,5],⟨A157,c158,A160,c161,A163,c164,A166,c167,A169,c170,vs172,J,hm173,J⟩⟩
def Yu (k:Nat) (a0:QW) (a1:Int) (a2:Int) (a3:QY):Option (Ql×QW) :=
 (Option.bind (Zi k a0 a1 (4:Int) (0:Int)) (fun t7=>some (t7.1,t7.2)))
theorem Yu.mono {k a0 a1 a2 a3}: OLe (Yu k a0 a1 a2 a3) (Yu (k+1) a0 a1 a2 a3):=by
 unfold Yu
 have m1:=@Zi.mono
 exact mo
theorem Yu.con {k M A0_8 A0_9 A0_10 c0_10 A0_11} {vs0_11:List (Str×Value)} {a0:QW} {a1:Int} {a2:Int} {a3:QY} {bo0} {r:Ql×QW} (h:Yu k a0 a1 a2 a3=some r) (hm0_11:Xa Qx M a0.rows vs0_11): Con Tryz.prog 129 #[pt bo0 0,vI a1,vI a2,.agg (Qo a3)] M [B96 bo0 a0 A0_8 A0_9 A0_10 c0_10 A0_11,XC QM (Value.int .i64) A0_8 a0.names,MpI A0_9 a0.many,Rw Qe 134 A0_10 c0_10 a0.txs,MpV A0_11 vs0_11] (fun v M' Γ'=>∃ (Aq1:Option Addr) (cq2:Nat) (Aq4:Option Addr) (cq5:Nat) (Aq7:Option Addr) (cq8:Nat) (Aq10:Option Addr) (cq11:Nat) (Aq13:Option Addr) (cq14:Nat) (vsq16:List (Str×Value)),v=.agg #[vI r.1.Err,.bool r.1.Found,vS r.1.Value,.slice Aq1 r.1.Pairs.length cq2]∧Xa Qx M' r.2.rows vsq16∧Γ'=[Rw Qq 119 Aq1 cq2 r.1.Pairs,B96 bo0 r.2 Aq4 Aq7 Aq10 cq11 Aq13,XC QM (Value.int .i64) Aq4 r.2.names,MpI Aq7 r.2.many,Rw Qe 134 Aq10 cq11 r.2.txs,MpV Aq13 vsq16]):=by
 refine cwA Tryz.func129 J Tryz.ntmps129 Tryz.results129 J h ?_
 intro w F rn S hrn E HM H
 unfold Yu at H
 refine wsQ ?_
 refine Yz S (Qo a3) J J J (eE2 E ?_)
 intro b1 w2 E S
 refine YN S cz16 ty38 J J (eE2 E ?_)
 intro b4 w5 E S
 refine wnQ (wsQ (wmP J (wmI J ?_)))
 obtain ⟨t7,ht8,H⟩:=QO H
 replace S:St w5 M F [_,_,_,_,_,_,_]:=S.pk [2,3,4,5,6,0,1]
 refine Y2 fn135 (Zi.con ht8 hm0_11) (Γ1:=[_,_,_,_,_]) (Γ2:=[_,_]) S J J ?_
 rintro _ w26 M27 Γ' hM28 E' S ⟨A9,c10,A12,c13,A15,c16,A18,c19,A21,c22,vs24,rfl,hm25,rfl⟩
 replace HM:=Hp.le_trans HM hM28
 replace E:=E.trans E'
 replace S:St w26 M27 F [_,_,_,_,_,_,_,_]:=S
 refine Qu S 6 J ty38 J J [vI t7.1.Err,.bool t7.1.Found,vS t7.1.Value,.slice A9 t7.1.Pairs.length c10] J J J #[vI t7.1.Err,.bool t7.1.Found,vS t7.1.Value,.slice A9 t7.1.Pairs.length c10] J J (eE1 E ?_)
 intro w29 E S
 refine wnQ ?_
 refine QT ?_
 obtain rfl:=oi H
 exact ⟨_,_,_,fun w1 e1=>Zg (vs:=[.agg #[vI t7.1.Err,.bool t7.1.Found,vS t7.1.Value,.slice A9 t7.1.Pairs.length c10]]) (FA.cons (rcA S e1 6 ty38 J J J) (FA.nil)),HM,E,S.pk [0,1,2,3,4,5],⟨A9,c10,A12,c13,A15,c16,A18,c19,A21,c22,vs24,J,hm25,J⟩⟩
def YA (k:Nat) (a0:Qh) (ac_0:QW):Option (Qh) :=
 (Option.bind (VK k a0.l ac_0.floor) (fun t16=>some (⟨t16,⟨a0.intent.Writer,a0.intent.TS,a0.intent.Tomb,a0.intent.Value⟩⟩:Qh)))
theorem YA.mono {k a0 ac_0}: OLe (YA k a0 ac_0) (YA (k+1) a0 ac_0):=by
 unfold YA
 have m1:=@VK.mono
 exact mo
theorem YA.con {k M A0_0 c0_0} {a0:Qh} {Ac_0_8 Ac_0_9 Ac_0_10 cc_0_10 Ac_0_11} {ac_0:QW} {bc_0 boc_0} {r:Qh} (h:YA k a0 ac_0=some r) (hr0_0:SlR ZL M (.slice A0_0 a0.l.length c0_0) a0.l): Con Tryz.prog 137 #[.agg #[.slice A0_0 a0.l.length c0_0,vI a0.intent.Writer,vI a0.intent.TS,.bool a0.intent.Tomb,vS a0.intent.Value],pt bc_0 0] M [Blk bc_0 (.cells #[pt boc_0 0] 50 (0,0)),B96 boc_0 ac_0 Ac_0_8 Ac_0_9 Ac_0_10 cc_0_10 Ac_0_11,XC QM (Value.int .i64) Ac_0_8 ac_0.names,MpI Ac_0_9 ac_0.many,Rw Qe 134 Ac_0_10 cc_0_10 ac_0.txs] (fun v M' Γ'=>∃ (Aq1:Option Addr) (cq2:Nat),v=.agg #[.slice Aq1 r.l.length cq2,vI r.intent.Writer,vI r.intent.TS,.bool r.intent.Tomb,vS r.intent.Value]∧Γ'=[Rw ZL 88 Aq1 cq2 r.l,Blk bc_0 (.cells #[pt boc_0 0] 50 (0,0)),B96 boc_0 ac_0 Ac_0_8 Ac_0_9 Ac_0_10 cc_0_10 Ac_0_11,XC QM (Value.int .i64) Ac_0_8 ac_0.names,MpI Ac_0_9 ac_0.many,Rw Qe 134 Ac_0_10 cc_0_10 ac_0.txs]):=by
 refine cwA Tryz.func137 J Tryz.ntmps137 Tryz.results137 J h ?_
 intro w F rn S hrn E HM H
 unfold YA at H
 refine wsQ ?_
 refine Yz S #[.slice A0_0 a0.l.length c0_0,vI a0.intent.Writer,vI a0.intent.TS,.bool a0.intent.Tomb,vS a0.intent.Value] J J J (eE2 E ?_)
 intro b1 w2 E S
 refine YN S cz12 ty90 J J (eE2 E ?_)
 intro b4 w5 E S
 refine wnQ (QH ?_)
 refine rgA S [0,1,2,3,4,5,6] [_,_,_,_,_,_,_] 10 mixed J (eE1 E ?_)
 intro w14 E S D1
 refine tz0 0 J D1 (xfA Tryz.underlying90 ty86 J) (tz1 1 J D1 (fun w' h'=>xlA h' 1 ty86 J) (tz1 2 J D1 (fun w' h'=>xlA h' 2 ty50 J) (tz0 3 J D1 (Qb J) (tz0 4 J D1 (xfA Tryz.underlying96 ty3 J) (tz1 5 J D1 (fun w' h'=>xlA h' 3 ty3 J) (tz0 7 J D1 (xfA Tryz.underlying90 ty88 J) (Wt 8 J J J (.agg (Y4 a0.intent)) J (fun w' h'=>Qi (Y1 h' 1 J) ty88 J (QG J) J J) D1 ?_)))))))
 refine Wo 6 J ?_
 obtain ⟨t16,ht17,H⟩:=QO H
 refine ZR fn138 (VK.con ht17 hr0_0) S J J (by rintro _ _ _ ⟨_,_,_,rfl⟩;exact (QP (YX (fun _ _ _ _ h=>h)) YE)) (eE4 E ?_)
 rintro _ w21 _ Γ' E S ⟨A18,c19,rfl,rfl⟩
 refine QK (Yl ⟨.inr ⟨M,Hp.le_refl M,(S.pk [1,2,3,4,5,6,7])⟩,?_⟩)
 refine tz0 9 J (⟨M,Hp.le_refl M,(S.pk [1,2,3,4,5,6,7])⟩) (xb2 [(0,1),(1,4)] #[.slice A18 t16.length c19,vI a0.intent.Writer,vI a0.intent.TS,.bool a0.intent.Tomb,vS a0.intent.Value] Tryz.underlying90 ty90 J) ?_
 refine Wo 10 J ?_
 refine Qu S 1 J ty90 J J [.slice A18 t16.length c19,vI a0.intent.Writer,vI a0.intent.TS,.bool a0.intent.Tomb,vS a0.intent.Value] J J J #[.slice A18 t16.length c19,vI a0.intent.Writer,vI a0.intent.TS,.bool a0.intent.Tomb,vS a0.intent.Value] J J (eE1 E ?_)
 intro w22 E S
 refine QK (Yl ⟨.inl (by decide),?_⟩)
 refine Wz ?_
 refine tn ?_
 refine QT ?_
 obtain rfl:=oi H
 exact ⟨_,_,_,fun w1 e1=>Zg (vs:=[.agg #[.slice A18 t16.length c19,vI a0.intent.Writer,vI a0.intent.TS,.bool a0.intent.Tomb,vS a0.intent.Value]]) (FA.cons (rcA S e1 1 ty90 J J J) (FA.nil)),HM,E,S.pk [0,3,4,5,6,7],⟨A18,c19,J,J⟩⟩
def Qd (k:Nat) (a0:QW):Nat→List (Str×Qh)→List Str→Option (((List (Str×Qh))))
 | 0,_,_=>none
 | kl+1,x372,x378=>(onList x378 (some (x372)) (fun y567 todo574=>(Option.bind (α:=(List (Str×Qh))) (Option.bind (YA k ((mget x372 y567).getD cz19) (⟨⟨a0.c.Tasks,a0.c.Active,a0.c.Keys,a0.c.Depth,a0.c.TS,a0.c.KeyLen,a0.c.ValLen,a0.c.Fan⟩,a0.names,a0.many,a0.txs,x372,a0.clock,a0.floor⟩:QW)) (fun t669=>(if y567∈x372.map (fun p=>p.1) then (Option.bind (α:=List (Str×Qh)) (some (mput x372 y567 t669)) (fun x702=>(Option.bind (α:=(List (Str×Qh))) (if (((t669.l.length:Int)==(0:Int))&&(t669.intent.Writer==(0:Int)))=true then (if y567 ∉ todo574 then (Option.bind (α:=List (Str×Qh)) (some (mdel x702 y567)) (fun x734=>some (x734))) else none) else some (x702)) (fun x724=>some (x724))))) else none))) (fun x657=>Qd k a0 kl x657 todo574))))
theorem Qd.mono {k a0}: ∀ {kl:Nat} {x0 x1},OLe (Qd k a0 kl x0 x1) (Qd (k+1) a0 (kl+1) x0 x1):=by
 intro kl
 induction kl with
 | zero=>intros;exact OLe.none
 | succ kl ih =>
  intros
  rw [Qd.eq_2,Qd.eq_2]
  have m1:=@YA.mono
  exact mo
theorem Qd.perm {k:Nat} {a0:QW} {kl:Nat} {x372:List (Str×Qh)} {x378:List Str} {x378':List Str}  (hp:x378.Perm x378') (hn:x378.Nodup) (hl:(x372.map (·.1)).Nodup) (hs:∀ y∈x378,y∈x372.map (·.1)):Qd k a0 kl x372 x378=Qd k a0 kl x372 x378':=by
 exact Jn (z0:=cz19) (one:=fun s r=>YA k r (⟨⟨a0.c.Tasks,a0.c.Active,a0.c.Keys,a0.c.Depth,a0.c.TS,a0.c.KeyLen,a0.c.ValLen,a0.c.Fan⟩,a0.names,a0.many,a0.txs,s,a0.clock,a0.floor⟩:QW)) (dead:=fun r=>((r.l.length:Int)==(0:Int))&&(r.intent.Writer==(0:Int))) (fun kl s t=>Qd k a0 kl s t) _ (fun _ _ _=>J) (fun _ _=>J) (fun _ _ _=>J) hp hn kl _ hl hs
def ZM (k:Nat) (a0:QW):Option (QW) :=
 (if (a0.rows.map fun p:Str×Qh=>p.1).Nodup then (Option.bind (Qd k a0 k a0.rows (a0.rows.map fun p:Str×Qh=>p.1)) (fun x556=>some (⟨⟨a0.c.Tasks,a0.c.Active,a0.c.Keys,a0.c.Depth,a0.c.TS,a0.c.KeyLen,a0.c.ValLen,a0.c.Fan⟩,a0.names,a0.many,a0.txs,x556,a0.clock,a0.floor⟩:QW))) else none)
theorem ZM.mono {k a0}: OLe (ZM k a0) (ZM (k+1) a0):=by
 unfold ZM
 have m1:=@Qd.mono
 exact mo
theorem ZM.con {k M A0_8 A0_9 A0_10 c0_10 A0_11} {vs0_11:List (Str×Value)} {a0:QW} {bo0 b1_0} {r:QW} (h:ZM k a0=some r) (hm0_11:Xa Qx M a0.rows vs0_11): Con Tryz.prog 136 #[pt bo0 0,.func (.func 137) #[] #[pt b1_0 0]] M [B96 bo0 a0 A0_8 A0_9 A0_10 c0_10 A0_11,XC QM (Value.int .i64) A0_8 a0.names,MpI A0_9 a0.many,Rw Qe 134 A0_10 c0_10 a0.txs,MpV A0_11 vs0_11,Blk b1_0 (.cells #[pt bo0 0] 50 (0,0))] (fun v M' Γ'=>∃ (Aq1:Option Addr) (cq2:Nat) (Aq4:Option Addr) (cq5:Nat) (Aq7:Option Addr) (cq8:Nat) (Aq10:Option Addr) (cq11:Nat) (vsq13:List (Str×Value)),v=.tuple #[]∧Xa Qx M' r.rows vsq13∧Γ'=[B96 bo0 r Aq1 Aq4 Aq7 cq8 Aq10,XC QM (Value.int .i64) Aq1 r.names,MpI Aq4 r.many,Rw Qe 134 Aq7 cq8 r.txs,MpV Aq10 vsq13,Blk b1_0 (.cells #[pt bo0 0] 50 (0,0))]):=by
 refine cwA Tryz.func136 J Tryz.ntmps136 Tryz.results136 J h ?_
 intro w F rn S hrn E HM H
 unfold ZM at H
 refine wsQ (wmP J (W_v _ (Qb J) J (wfA Tryz.underlying96 ty94 J (wlA S 0 ty94 J ?_))))
 obtain ⟨hn1,H⟩:=Z8 H
 refine Ul S 4 J Tryz.underlying94 (by rw [hm0_11.keys];exact hn1) rfl rfl (eE2 E ?_)
 intro b2 w3 E S
 rw [hm0_11.keys] at S
 replace S:St w3 M F [_,_,_,_,_,_]:=S
 refine wnQ ?_
 obtain ⟨o562,o562h,o562H⟩:=QO H
 refine Zr (fun ρ w'=>∃ (x556:List (Str×Qh)) (A557:Option Addr) (c558:Nat) (vs560:List (Str×Value)) (Mj:Hp),(x556)=o562∧QV ρ []∧M.le Mj∧Ext w w'∧St w' Mj F [MpV A557 vs560,Blk bo0 (.cells #[vI a0.c.Tasks,vI a0.c.Active,vI a0.c.Keys,vI a0.c.Depth,vI a0.c.TS,vI a0.c.KeyLen,vI a0.c.ValLen,vI a0.c.Fan,.map (mb A0_8),.map (mb A0_9),.slice A0_10 a0.txs.length c0_10,.map (mb A557),vI a0.clock,vI a0.floor] 96 (0,0)),XC QM (Value.int .i64) A0_8 a0.names,MpI A0_9 a0.many,Rw Qe 134 A0_10 c0_10 a0.txs,Blk b1_0 (.cells #[pt bo0 0] 50 (0,0))]∧Xa Qx Mj x556 vs560) ?_ ?_
 ·refine Yr (fun n ρ w'=>∃ (x372:List (Str×Qh)) (x378:List Str) (A373:Option Addr) (c374:Nat) (vs376:List (Str×Value)) (Mj:Hp),Qd k a0 n x372 x378=some o562∧QV ρ [(0,pt bo0 0),(1,.func (.func 137) #[] #[pt b1_0 0]),(10,pt b2 0)]∧M.le Mj∧Ext w w'∧St w' Mj F [RangeM encS (fun v:Value=>v) A373 b2 vs376 x378 none,Blk bo0 (.cells #[vI a0.c.Tasks,vI a0.c.Active,vI a0.c.Keys,vI a0.c.Depth,vI a0.c.TS,vI a0.c.KeyLen,vI a0.c.ValLen,vI a0.c.Fan,.map (mb A0_8),.map (mb A0_9),.slice A0_10 a0.txs.length c0_10,.map (mb A373),vI a0.clock,vI a0.floor] 96 (0,0)),XC QM (Value.int .i64) A0_8 a0.names,MpI A0_9 a0.many,Rw Qe 134 A0_10 c0_10 a0.txs,Blk b1_0 (.cells #[pt bo0 0] 50 (0,0))]∧Xa Qx Mj x372 vs376) k ?_ ?_
  ·exact ⟨a0.rows,(a0.rows.map fun p:Str×Qh=>p.1),A0_11,0,vs0_11,M,o562h,agP J,(Hp.le_refl M),E,S.pk [4,0,1,2,3,5],hm0_11⟩
  ·intro n
   rintro ρ w563 ⟨x372,x378,A373,c374,vs376,M564,H,hρ,hM565,E,S,hm377⟩
   rw [QB hρ]
   replace HM:=Hp.le_trans HM hM565
   cases n with
   | zero=>cases H
   | succ kl =>
    refine wsQ ?_
    obtain ⟨hn566a,hn566b,hn566c⟩:=S.rangeM_facts 0 J
    rw [hm377.keys] at hn566b hn566c
    refine U6 S 0 J J J ?_ ?_
    ·intro y567 v568 w569 hy571 hv572 E' S
     replace E:=E.trans E'
     rw [Qd.perm (permE hy571) hn566a hn566b hn566c,Qd.eq_2,X7] at H
     obtain ⟨cs575,hR576,he577⟩:=hm377.get y567 (z:=cz19) (zc:=[.slice none 0 0,vI 0,vI 0,.bool false,vS ([]:Str)]) ⟨_,SlW.nil _ _,J⟩
     rw [hv572] at he577
     obtain rfl:v568=_:=he577
     obtain ⟨v581,hs580,rfl⟩:=hR576
     obtain ⟨A578,c579,rfl,_⟩:=hs580.form
     replace S:St w569 M564 F [_,_,_,_,_,_]:=S
     refine W_v _ (QR J J) J (wnQ (QH (QC J (QX (tn ?_)))))
     obtain ⟨o663,o663h,o663H⟩:=QO H
     refine Yc (fun ρ w'=>∃ (x657:List (Str×Qh)) (A658:Option Addr) (c659:Nat) (vs661:List (Str×Value)) (Mj:Hp),(x657)=o663∧QV ρ [(0,pt bo0 0),(1,.func (.func 137) #[] #[pt b1_0 0]),(10,pt b2 0)]∧M564.le Mj∧Ext w w'∧St w' Mj F [RangeM encS (fun v:Value=>v) A658 b2 vs661 (er x378 y567) none,Blk b1_0 (.cells #[pt bo0 0] 50 (0,0)),Blk bo0 (.cells #[vI a0.c.Tasks,vI a0.c.Active,vI a0.c.Keys,vI a0.c.Depth,vI a0.c.TS,vI a0.c.KeyLen,vI a0.c.ValLen,vI a0.c.Fan,.map (mb A0_8),.map (mb A0_9),.slice A0_10 a0.txs.length c0_10,.map (mb A658),vI a0.clock,vI a0.floor] 96 (0,0)),XC QM (Value.int .i64) A0_8 a0.names,MpI A0_9 a0.many,Rw Qe 134 A0_10 c0_10 a0.txs]∧Xa Qx Mj x657 vs661) ?_ ?_
     ·as_aux_lemma =>
       clear o663H
       have H:=o663h
       have LE664:=Hp.le_refl M564
       refine ZW ?_
       refine wsQ (W_v (.tuple #[encS y567,.agg #[.slice A578 (((mget x372 y567).getD cz19).l).length c579,vI (((mget x372 y567).getD cz19).intent.Writer),vI (((mget x372 y567).getD cz19).intent.TS),.bool (((mget x372 y567).getD cz19).intent.Tomb),vS (((mget x372 y567).getD cz19).intent.Value)]]) (UZ (encv:=(fun v:Value=>v)) S 0 J hv572 J) J ?_)
       replace S:=S.rangeM_seen 0 J
       replace S:St w569 M564 F [_,_,_,_,_,_]:=S
       refine W_v _ (QR J J) J (W_v _ (QR J J) J ?_)
       refine YN S cz12 ty90 J J (eE2 E ?_)
       intro b665 w666 E S
       refine waS J ?_
       refine Qu S 0 J ty90 J J [.slice A578 (((mget x372 y567).getD cz19).l).length c579,vI (((mget x372 y567).getD cz19).intent.Writer),vI (((mget x372 y567).getD cz19).intent.TS),.bool (((mget x372 y567).getD cz19).intent.Tomb),vS (((mget x372 y567).getD cz19).intent.Value)] J J J #[.slice A578 (((mget x372 y567).getD cz19).l).length c579,vI (((mget x372 y567).getD cz19).intent.Writer),vI (((mget x372 y567).getD cz19).intent.TS),.bool (((mget x372 y567).getD cz19).intent.Tomb),vS (((mget x372 y567).getD cz19).intent.Value)] J J (eE1 E ?_)
       intro w668 E S
       refine wnQ (wsQ (W_v (.func (.func 137) #[] #[pt b1_0 0]) (YW J) J (W_v (.agg #[.slice A578 (((mget x372 y567).getD cz19).l).length c579,vI (((mget x372 y567).getD cz19).intent.Writer),vI (((mget x372 y567).getD cz19).intent.TS),.bool (((mget x372 y567).getD cz19).intent.Tomb),vS (((mget x372 y567).getD cz19).intent.Value)]) (Qi (S.blk 0 J) ty90 J (QG J) J J) J ?_)))
       obtain ⟨t669,ht670,H⟩:=QO H
       replace S:St w668 M564 F [_,_,_,_,_,_,_]:=S.pk [6,2,3,4,5,0,1]
       refine VV (fs:=[]) (cap:=[pt b1_0 0]) fn137 J (YA.con ht670 hs580) (Γ1:=[_,_,_,_,_]) (Γ2:=[_,_]) S J J (by rintro _ _ _ ⟨_,_,rfl,rfl⟩;exact (QP (YX (fun _ _ _ _ h=>h)) (QP Zs (QP Zs (QP Zl (QP Zl (QP (YX (fun _ _ _ _ h=>h)) YE))))))) (eE4 E ?_)
       rintro _ w674 _ Γ' E S ⟨A671,c672,rfl,rfl⟩
       replace S:St w674 M564 F [_,_,_,_,_,_,_,_]:=S
       refine Qu S 6 J ty90 J J [.slice A671 t669.l.length c672,vI t669.intent.Writer,vI t669.intent.TS,.bool t669.intent.Tomb,vS t669.intent.Value] J J J #[.slice A671 t669.l.length c672,vI t669.intent.Writer,vI t669.intent.TS,.bool t669.intent.Tomb,vS t669.intent.Value] J J (eE1 E ?_)
       intro w677 E S
       refine wnQ (QH ?_)
       obtain ⟨M688,hM689,hf690,S⟩:=S.row_freeze 0 J
       replace HM:=Hp.le_trans HM hM689
       replace LE664:=Hp.le_trans LE664 hM689
       replace hm377:=Xa.mono hm377 hM689
       refine rgA S [0,1,2,3,4,5,6] [_,_,_,_,_,_,_] 6 mixed J (eE1 E ?_)
       intro w698 E S D1
       refine tz0 0 J D1 (xmP J) (tz0 1 J D1 (Qb J) (tz0 2 J D1 (xfA Tryz.underlying96 ty94 J) (tz1 3 J D1 (fun w' h'=>xlA h' 1 ty94 J) (tz0 4 J D1 (xmS J) (Wt 5 J J J (.agg #[.slice A671 t669.l.length c672,vI t669.intent.Writer,vI t669.intent.TS,.bool t669.intent.Tomb,vS t669.intent.Value]) J (fun w' h'=>Qi (Y1 h' 5 J) ty90 J (QG J) J J) D1 ?_)))))
       refine Wo 6 J ?_
       obtain ⟨p700,H⟩:=Z8 H
       obtain ⟨x702,he703,H⟩:=QO H
       replace he703:=oi he703
       obtain ⟨vs704,hv705⟩:∃ z:List (Str×Value),mput vs376 y567 (.agg #[.slice A671 t669.l.length c672,vI t669.intent.Writer,vI t669.intent.TS,.bool t669.intent.Tomb,vS t669.intent.Value])=z:=⟨_,J⟩
       have hm706:Xa Qx M688 x702 vs704:=by rw [← he703,← hv705];exact hm377.put y567 (cs:=[.slice A671 t669.l.length c672,vI t669.intent.Writer,vI t669.intent.TS,.bool t669.intent.Tomb,vS t669.intent.Value]) ⟨_,hf690,rfl⟩
       refine Um S 6 J Tryz.underlying94 key9 y567 (.agg #[.slice A671 t669.l.length c672,vI t669.intent.Writer,vI t669.intent.TS,.bool t669.intent.Tomb,vS t669.intent.Value]) (by rw [hm377.keys];exact p700) hv705 rfl rfl rfl (eE1 E ?_)
       intro w701 E S
       replace S:St w701 M688 F [_,_,_,_,_,_,_]:=S
       refine QK (Yl ⟨.inl (by decide),?_⟩)
       refine Wz ?_
       refine tn ?_
       as_aux_lemma =>
       refine wsQ (wfA Tryz.underlying90 ty86 J (wlA S 5 ty86 J (W_v _ (Qm (n:=t669.l.length) Tryz.underlying86 J) J (wiB J J (wmB J ?_)))))
       refine ZO 5 (fun ρ w'=>QV ρ [(0,pt bo0 0),(1,.func (.func 137) #[] #[pt b1_0 0]),(4,vS y567),(10,pt b2 0),(34,.bool (((t669.l.length:Int)==(0:Int))&&(t669.intent.Writer==(0:Int))))]∧w701=w') ?_ ?_
       ·rcases Qy ((t669.l.length:Int)==(0:Int)) with hb707 | hb707
        ·refine QZ (skT hb707) J (QZ (skT hb707) J (QZ (skT hb707) J (QZ (skT hb707) J (wqB hb707 J (QK ?_)))))
         exact ⟨⟨J,J,J,J,(flB hb707),trivial⟩,rfl⟩
        ·refine QN (cS hb707) (wfA Tryz.underlying90 ty88 J (QN (cS hb707) (wfA Tryz.underlying88 ty3 J (QN (cS hb707) (wlA S 5 ty3 J (QN (cS hb707) (wiB J J (wpB hb707 J (QK ?_)))))))))
         exact ⟨⟨J,J,J,J,(flB hb707),trivial⟩,rfl⟩
       rintro ρ _ ⟨hρ,rfl⟩
       rw [QB hρ]
       refine wnQ ?_
       obtain ⟨o730,o730h,o730H⟩:=QO H
       refine Yc (fun ρ w'=>∃ (x724:List (Str×Qh)) (A725:Option Addr) (c726:Nat) (vs728:List (Str×Value)),(x724)=o730∧QV ρ [(0,pt bo0 0),(1,.func (.func 137) #[] #[pt b1_0 0]),(10,pt b2 0)]∧Ext w w'∧St w' M688 F [RangeM encS (fun v:Value=>v) A725 b2 vs728 (er x378 y567) none,Blk b1_0 (.cells #[pt bo0 0] 50 (0,0)),Blk bo0 (.cells #[vI a0.c.Tasks,vI a0.c.Active,vI a0.c.Keys,vI a0.c.Depth,vI a0.c.TS,vI a0.c.KeyLen,vI a0.c.ValLen,vI a0.c.Fan,.map (mb A0_8),.map (mb A0_9),.slice A0_10 a0.txs.length c0_10,.map (mb A725),vI a0.clock,vI a0.floor] 96 (0,0)),XC QM (Value.int .i64) A0_8 a0.names,MpI A0_9 a0.many,Rw Qe 134 A0_10 c0_10 a0.txs]∧Xa Qx M688 x724 vs728) ?_ ?_
       ·clear o730H
        have H:=o730h
        rcases Q3 H with ⟨hb731,H⟩ | ⟨hb731,H⟩
        ·refine QC (cB hb731) ?_
         refine QJ (wmP J (W_v _ (Qb J) J (wfA Tryz.underlying96 ty94 J (wlA S 1 ty94 J (wmS J ?_)))))
         obtain ⟨p732,H⟩:=Z8 H
         obtain ⟨x734,he735,H⟩:=QO H
         replace he735:=oi he735
         obtain ⟨vs736,hv737⟩:∃ z:List (Str×Value),mdel vs704 y567=z:=⟨_,J⟩
         have hm738:Xa Qx M688 x734 vs736:=by rw [← he735,← hv737];exact hm706.del y567
         refine Jb S 6 J Tryz.underlying94 key9 y567 p732 hv737 J J (eE1 E ?_)
         intro w733 E S
         replace S:St w733 M688 F [_,_,_,_,_,_,_]:=S
         refine wnQ ?_
         exact ⟨x734,A373,c374,vs736,oi H,agP J,E,S.pk [6,0,1,2,3,4],hm738⟩
        refine QA (cB hb731) (QX (tn ?_))
        exact ⟨x702,A373,c374,vs704,oi H,agP J,E,S.pk [6,0,1,2,3,4],hm706⟩
       rintro ρ w739 ⟨x724,A725,c726,vs728,rfl,hρ,E,S,hm729⟩
       rw [QB hρ]
       have H:=o730H
       refine bn (tn ?_)
       exact ⟨x724,A725,c726,vs728,M688,oi H,agP J,LE664,E,S.pk [0,1,2,3,4,5],hm729⟩
     rintro ρ w740 ⟨x657,A658,c659,vs661,M741,rfl,hρ,hM742,E,S,hm662⟩
     rw [QB hρ]
     replace HM:=Hp.le_trans HM hM742
     replace hM565:=Hp.le_trans hM565 hM742
     have H:=o663H
     refine tn ?_
     exact ⟨kl,Nat.lt_succ_self kl,⟨x657,(er x378 y567),A658,c659,vs661,M741,H,agP J,hM565,E,S.pk [0,2,3,4,5,1],hm662⟩⟩
    ·intro w570 ht573 E' S
     replace E:=E.trans E'
     rw [ht573,Qd.eq_2,Vd] at H
     replace S:=S.rangeM_end 0 J
     replace S:St w570 M564 F [_,_,_,_,_,_]:=S
     refine W_v _ (QR J J) J (wnQ (QH (QA J ?_)))
     refine YZ ?_
     refine tx (tx (bsm (?_)))
     refine tn ?_
     exact ⟨x372,A373,c374,vs376,M564,oi H,trivial,hM565,E,S.pk [0,1,2,3,4,5],hm377⟩
 rintro ρ w743 ⟨x556,A557,c558,vs560,M744,rfl,hρ,hM745,E,S,hm561⟩
 rw [QB hρ]
 replace HM:=Hp.le_trans HM hM745
 have H:=o562H
 obtain rfl:=oi H
 exact ⟨_,_,_,rsA (vs:=[]) J,HM,E,S.pk [1,2,3,4,0,5],⟨A0_8,0,A0_9,0,A0_10,c0_10,A557,c558,vs560,J,hm561,J⟩⟩
def Zj (a0:QW):Nat→Int→Int→Option ((Int))
 | 0,_,_=>none
 | k+1,x154,x155=>(if (decide (x154<(a0.txs.length:Int)))=true then (Option.bind (α:=Int) (if 0≤x154∧x154<(a0.txs.length:Int) then (Option.bind (α:=Int) (if ((rd a0.txs x154).state==(1:Int))=true then some ((imin x155 ((rd a0.txs x154).snapshot))) else some (x155)) (fun x286=>some (x286))) else none) (fun x260=>Zj a0 k (IntKind.i64.wrap (x154+(1:Int))) x260)) else some (x155))
theorem Zj.mono {a0}: ∀ {kl:Nat} {x0 x1},OLe (Zj a0 kl x0 x1) (Zj a0 (kl+1) x0 x1):=by
 intro kl
 induction kl with
 | zero=>intros;exact OLe.none
 | succ kl ih =>
  intros
  rw [Zj.eq_2,Zj.eq_2]
  exact mo
def YR (k:Nat) (a0:QW) (a1:Int) (a2:Int) (a3:QY):Option (Ql×QW) :=
 (Option.bind (Zj a0 k (0:Int) a0.clock) (fun x224=>(Option.bind (ZM k (⟨⟨a0.c.Tasks,a0.c.Active,a0.c.Keys,a0.c.Depth,a0.c.TS,a0.c.KeyLen,a0.c.ValLen,a0.c.Fan⟩,a0.names,a0.many,a0.txs,a0.rows,a0.clock,x224⟩:QW)) (fun t296=>some (cz11,t296)))))
theorem YR.mono {k a0 a1 a2 a3}: OLe (YR k a0 a1 a2 a3) (YR (k+1) a0 a1 a2 a3):=by
 unfold YR
 have m1:=@ZM.mono
 have m2:=@Zj.mono
 exact mo
theorem YR.con {k M A0_8 A0_9 A0_10 c0_10 A0_11} {vs0_11:List (Str×Value)} {a0:QW} {a1:Int} {a2:Int} {a3:QY} {bo0} {r:Ql×QW} (h:YR k a0 a1 a2 a3=some r) (hm0_11:Xa Qx M a0.rows vs0_11): Con Tryz.prog 130 #[pt bo0 0,vI a1,vI a2,.agg (Qo a3)] M [B96 bo0 a0 A0_8 A0_9 A0_10 c0_10 A0_11,XC QM (Value.int .i64) A0_8 a0.names,MpI A0_9 a0.many,Rw Qe 134 A0_10 c0_10 a0.txs,MpV A0_11 vs0_11] (fun v M' Γ'=>∃ (Aq1:Option Addr) (cq2:Nat) (Aq4:Option Addr) (cq5:Nat) (Aq7:Option Addr) (cq8:Nat) (Aq10:Option Addr) (cq11:Nat) (Aq13:Option Addr) (cq14:Nat) (vsq16:List (Str×Value)),v=.agg #[vI r.1.Err,.bool r.1.Found,vS r.1.Value,.slice Aq1 r.1.Pairs.length cq2]∧Xa Qx M' r.2.rows vsq16∧Γ'=[Rw Qq 119 Aq1 cq2 r.1.Pairs,B96 bo0 r.2 Aq4 Aq7 Aq10 cq11 Aq13,XC QM (Value.int .i64) Aq4 r.2.names,MpI Aq7 r.2.many,Rw Qe 134 Aq10 cq11 r.2.txs,MpV Aq13 vsq16]):=by
 refine cwA Tryz.func130 J Tryz.ntmps130 Tryz.results130 J h ?_
 intro w F rn S hrn E HM H
 unfold YR at H
 refine wsQ ?_
 refine Yz S #[pt bo0 0] J J J (eE2 E ?_)
 intro b1 w2 E S
 refine Yz S (Qo a3) J J J (eE2 E ?_)
 intro b4 w5 E S
 refine YN S cz16 ty38 J J (eE2 E ?_)
 intro b7 w8 E S
 refine wnQ (QH ?_)
 refine rgA S [0,1,2,3,4,5,6,7] [_,_,_,_,_,_,_,_] 7 mixed J (eE1 E ?_)
 intro w11 E S D1
 refine tz1 0 J D1 (fun w' h'=>xlA h' 2 ty50 J) (tz1 1 J D1 (fun w' h'=>xlA h' 2 ty50 J) (tz0 2 J D1 (Qb J) (tz0 3 J D1 (xfA Tryz.underlying96 ty3 J) (tz1 4 J D1 (fun w' h'=>xlA h' 3 ty3 J) (tz0 5 J D1 (Qb J) (tz0 6 J D1 (xfA Tryz.underlying96 ty3 J) ?_))))))
 refine Wo 7 J ?_
 refine Qu S 3 J ty3 J J [vI a0.clock] J J J #[vI a0.c.Tasks,vI a0.c.Active,vI a0.c.Keys,vI a0.c.Depth,vI a0.c.TS,vI a0.c.KeyLen,vI a0.c.ValLen,vI a0.c.Fan,.map (mb A0_8),.map (mb A0_9),.slice A0_10 a0.txs.length c0_10,.map (mb A0_11),vI a0.clock,vI a0.clock] J J (eE1 E ?_)
 intro w13 E S
 refine QK (Yl ⟨.inl (by decide),?_⟩)
 refine Wz ?_
 refine tn (QH (wsQ (wlA S 2 ty50 J (W_v _ (Qb J) J (wfA Tryz.underlying96 ty93 J (wlA S 3 ty93 J (W_v _ (Qm (n:=a0.txs.length) Tryz.underlying93 J) J (wmI J (wnQ ?_)))))))))
 obtain ⟨o225,o225h,o225H⟩:=QO H
 refine Zr (fun ρ w'=>∃ (x224:Int),(x224)=o225∧QV ρ [(4,pt b1 0),(8,pt b7 0)]∧Ext w w'∧St w' M F [Blk b7 (.cells cz16 38 (0,0)),Blk b1 (.cells #[pt bo0 0] 50 (0,0)),Blk bo0 (.cells #[vI a0.c.Tasks,vI a0.c.Active,vI a0.c.Keys,vI a0.c.Depth,vI a0.c.TS,vI a0.c.KeyLen,vI a0.c.ValLen,vI a0.c.Fan,.map (mb A0_8),.map (mb A0_9),.slice A0_10 a0.txs.length c0_10,.map (mb A0_11),vI a0.clock,vI x224] 96 (0,0)),XC QM (Value.int .i64) A0_8 a0.names,MpI A0_9 a0.many,Rw Qe 134 A0_10 c0_10 a0.txs,MpV A0_11 vs0_11]) ?_ ?_
 ·refine Yr (fun n ρ w'=>∃ (x154:Int) (x155:Int),Zj a0 n x154 x155=some o225∧QV ρ [(4,pt b1 0),(8,pt b7 0),(21,.slice A0_10 a0.txs.length c0_10),(22,vI (a0.txs.length:Int)),(23,vI x154)]∧Ext w w'∧St w' M F [Blk b7 (.cells cz16 38 (0,0)),Blk b1 (.cells #[pt bo0 0] 50 (0,0)),Blk bo0 (.cells #[vI a0.c.Tasks,vI a0.c.Active,vI a0.c.Keys,vI a0.c.Depth,vI a0.c.TS,vI a0.c.KeyLen,vI a0.c.ValLen,vI a0.c.Fan,.map (mb A0_8),.map (mb A0_9),.slice A0_10 a0.txs.length c0_10,.map (mb A0_11),vI a0.clock,vI x155] 96 (0,0)),XC QM (Value.int .i64) A0_8 a0.names,MpI A0_9 a0.many,Rw Qe 134 A0_10 c0_10 a0.txs,MpV A0_11 vs0_11]) k ?_ ?_
  ·exact ⟨(0:Int),a0.clock,o225h,agP J,E,S.pk [0,2,3,4,5,6,7]⟩
  ·intro n
   rintro ρ w226 ⟨x154,x155,H,hρ,E,S⟩
   rw [QB hρ]
   cases n with
   | zero=>cases H
   | succ k =>
    rw [Zj.eq_2] at H
    refine wsQ (wiB J J (wnQ (QH ?_)))
    rcases Q3 H with ⟨hb227,H⟩ | ⟨hb227,H⟩
    ·refine QC (cB hb227) ?_
     refine QX (tn (QH ?_))
     obtain ⟨o261,o261h,o261H⟩:=QO H
     refine Yc (fun ρ w'=>∃ (x260:Int),(x260)=o261∧QV ρ [(4,pt b1 0),(8,pt b7 0),(21,.slice A0_10 a0.txs.length c0_10),(22,vI (a0.txs.length:Int)),(23,vI x154)]∧Ext w w'∧St w' M F [Blk b7 (.cells cz16 38 (0,0)),Blk b1 (.cells #[pt bo0 0] 50 (0,0)),Blk bo0 (.cells #[vI a0.c.Tasks,vI a0.c.Active,vI a0.c.Keys,vI a0.c.Depth,vI a0.c.TS,vI a0.c.KeyLen,vI a0.c.ValLen,vI a0.c.Fan,.map (mb A0_8),.map (mb A0_9),.slice A0_10 a0.txs.length c0_10,.map (mb A0_11),vI a0.clock,vI x260] 96 (0,0)),XC QM (Value.int .i64) A0_8 a0.names,MpI A0_9 a0.many,Rw Qe 134 A0_10 c0_10 a0.txs,MpV A0_11 vs0_11]) ?_ ?_
     ·as_aux_lemma =>
       clear o261H
       have H:=o261h
       refine ZW ?_
       refine wsQ ?_
       obtain ⟨⟨p262,p263⟩,H⟩:=Z8 H
       obtain ⟨b264,o265,cs266,_,_,ee271,hb267,vs268,hR269,hc270⟩:=SlW.at' (S.row_read 5 J) p262 p263
       obtain rfl:vs268=_:=hR269
       refine W_v _ (QS Tryz.underlying93 ty134 (slA ee271) J p262 p263) J (W_v (.agg #[vU ((rd a0.txs x154).state),vI ((rd a0.txs x154).snapshot)]) (Qi (Hp.of_get hb267) ty134 J (X1 hc270 0 J) J J) J ?_)
       refine YN S #[vU 0,vI 0] ty134 J J (eE2 E ?_)
       intro b272 w273 E S
       refine Qu S 0 J ty134 J J [vU ((rd a0.txs x154).state),vI ((rd a0.txs x154).snapshot)] J J J #[vU ((rd a0.txs x154).state),vI ((rd a0.txs x154).snapshot)] J J (eE1 E ?_)
       intro w275 E S
       refine wnQ (wsQ (wfA Tryz.underlying134 ty5 J (wlA S 0 ty5 J (wiB J J (wnQ ?_)))))
       obtain ⟨o287,o287h,o287H⟩:=QO H
       refine Yc (fun ρ w'=>∃ (x286:Int),(x286)=o287∧QV ρ [(4,pt b1 0),(8,pt b7 0),(21,.slice A0_10 a0.txs.length c0_10),(22,vI (a0.txs.length:Int)),(23,vI x154)]∧Ext w w'∧St w' M F [Blk b7 (.cells cz16 38 (0,0)),Blk b1 (.cells #[pt bo0 0] 50 (0,0)),Blk bo0 (.cells #[vI a0.c.Tasks,vI a0.c.Active,vI a0.c.Keys,vI a0.c.Depth,vI a0.c.TS,vI a0.c.KeyLen,vI a0.c.ValLen,vI a0.c.Fan,.map (mb A0_8),.map (mb A0_9),.slice A0_10 a0.txs.length c0_10,.map (mb A0_11),vI a0.clock,vI x286] 96 (0,0)),XC QM (Value.int .i64) A0_8 a0.names,MpI A0_9 a0.many,Rw Qe 134 A0_10 c0_10 a0.txs,MpV A0_11 vs0_11]) ?_ ?_
       ·clear o287H
        have H:=o287h
        rcases Q3 H with ⟨hb288,H⟩ | ⟨hb288,H⟩
        ·refine QC (cB hb288) ?_
         refine rgA S [0,1,2,3,4,5,6,7] [_,_,_,_,_,_,_,_] 10 mixed J (eE1 E ?_)
         intro w290 E S D2
         refine tz1 0 J D2 (fun w' h'=>xlA h' 2 ty50 J) (tz1 1 J D2 (fun w' h'=>xlA h' 2 ty50 J) (tz0 2 J D2 (Qb J) (tz0 3 J D2 (xfA Tryz.underlying96 ty3 J) (tz1 4 J D2 (fun w' h'=>xlA h' 3 ty3 J) (tz0 5 J D2 (xfA Tryz.underlying134 ty3 J) (tz1 6 J D2 (fun w' h'=>xlA h' 0 ty3 J) (Wt 7 J J J (vI (imin x155 ((rd a0.txs x154).snapshot))) J (fun w' h'=>UD J J) D2 (tz0 8 J D2 (Qb J) (tz0 9 J D2 (xfA Tryz.underlying96 ty3 J) ?_)))))))))
         refine Wo 10 J ?_
         refine Qu S 3 J ty3 J J [vI (imin x155 ((rd a0.txs x154).snapshot))] J J J #[vI a0.c.Tasks,vI a0.c.Active,vI a0.c.Keys,vI a0.c.Depth,vI a0.c.TS,vI a0.c.KeyLen,vI a0.c.ValLen,vI a0.c.Fan,.map (mb A0_8),.map (mb A0_9),.slice A0_10 a0.txs.length c0_10,.map (mb A0_11),vI a0.clock,vI (imin x155 ((rd a0.txs x154).snapshot))] J J (eE1 E ?_)
         intro w292 E S
         refine QK (Yl ⟨.inl (by decide),?_⟩)
         refine Wz ?_
         refine tn ?_
         exact ⟨(imin x155 ((rd a0.txs x154).snapshot)),oi H,agP J,E,S.pk [1,2,3,4,5,6,7]⟩
        refine QA (cB hb288) (QX (tn ?_))
        exact ⟨x155,oi H,agP J,E,S.pk [1,2,3,4,5,6,7]⟩
       rintro ρ w293 ⟨x286,rfl,hρ,E,S⟩
       rw [QB hρ]
       have H:=o287H
       refine bn (tn ?_)
       exact ⟨x286,oi H,agP J,E,S.pk [0,1,2,3,4,5,6]⟩
     rintro ρ w294 ⟨x260,rfl,hρ,E,S⟩
     rw [QB hρ]
     have H:=o261H
     refine tn (QJ (wiI J J (wmI J (wnQ ?_))))
     exact ⟨k,Nat.lt_succ_self k,⟨(IntKind.i64.wrap (x154+(1:Int))),x260,H,agP J,E,S.pk [0,1,2,3,4,5,6]⟩⟩
    refine QA (cB hb227) ?_
    refine YZ ?_
    refine tx (tx (bsm (?_)))
    refine tn ?_
    exact ⟨x155,oi H,agP J,E,S.pk [0,1,2,3,4,5,6]⟩
 rintro ρ w295 ⟨x224,rfl,hρ,E,S⟩
 rw [QB hρ]
 have H:=o225H
 refine tn ?_
 as_aux_lemma =>
 refine wsQ (wlA S 1 ty50 J (W_v (.func (.func 137) #[] #[pt b1 0]) (Vc J) J ?_))
 obtain ⟨t296,ht297,H⟩:=QO H
 replace S:St w295 M F [_,_,_,_,_,_,_]:=S.pk [2,3,4,5,6,1,0]
 refine Y2 fn136 (ZM.con ht297 hm0_11) (Γ1:=[_,_,_,_,_,_]) (Γ2:=[_]) S J J ?_
 rintro _ w312 M313 Γ' hM314 E' S ⟨A298,c299,A301,c302,A304,c305,A307,c308,vs310,rfl,hm311,rfl⟩
 replace HM:=Hp.le_trans HM hM314
 replace E:=E.trans E'
 replace S:St w312 M313 F [_,_,_,_,_,_,_]:=S
 refine wnQ (wsQ (W_v _ (xb2 [(0,1),(1,1),(2,1),(3,1)] cz16 Tryz.underlying38 ty38 J) J ?_))
 refine Qu S 6 J ty38 J J [vI 0,.bool false,vS ([]:Str),.slice none 0 0] J J J cz16 J J (eE1 E ?_)
 intro w315 E S
 refine wnQ ?_
 refine QT ?_
 obtain rfl:=oi H
 replace S:=S.row_nil Qq 119
 exact ⟨_,_,_,fun w1 e1=>Zg (vs:=[.agg #[vI 0,.bool false,vS ([]:Str),.slice none ([]:List Qp).length 0]]) (FA.cons (rcA S e1 7 ty38 J J J) (FA.nil)),HM,E,S.pk [0,1,2,3,4,5],⟨none,0,A298,c299,A301,c302,A304,c305,A307,c308,vs310,J,hm311,J⟩⟩
def Ys (k:Nat) (a0:QW) (a1:Int) (a2:Int) (a3:QY):Option (Ql) :=
 some cz11
theorem Ys.mono {k a0 a1 a2 a3}: OLe (Ys k a0 a1 a2 a3) (Ys (k+1) a0 a1 a2 a3):=by
 unfold Ys
 exact mo
theorem Ys.con {k M A0_8 A0_9 A0_10 c0_10 A0_11} {vs0_11:List (Str×Value)} {a0:QW} {a1:Int} {a2:Int} {a3:QY} {bo0} {r:Ql} (h:Ys k a0 a1 a2 a3=some r) (hm0_11:Xa Qx M a0.rows vs0_11): Con Tryz.prog 131 #[pt bo0 0,vI a1,vI a2,.agg (Qo a3)] M [B96 bo0 a0 A0_8 A0_9 A0_10 c0_10 A0_11,XC QM (Value.int .i64) A0_8 a0.names,MpI A0_9 a0.many,Rw Qe 134 A0_10 c0_10 a0.txs,MpV A0_11 vs0_11] (fun v M' Γ'=>∃ (Aq1:Option Addr) (cq2:Nat),v=.agg #[vI r.Err,.bool r.Found,vS r.Value,.slice Aq1 r.Pairs.length cq2]∧Γ'=[Rw Qq 119 Aq1 cq2 r.Pairs,B96 bo0 a0 A0_8 A0_9 A0_10 c0_10 A0_11,XC QM (Value.int .i64) A0_8 a0.names,MpI A0_9 a0.many,Rw Qe 134 A0_10 c0_10 a0.txs,MpV A0_11 vs0_11]):=by
 refine cwA Tryz.func131 J Tryz.ntmps131 Tryz.results131 J h ?_
 intro w F rn S hrn E HM H
 unfold Ys at H
 refine wsQ ?_
 refine Yz S (Qo a3) J J J (eE2 E ?_)
 intro b1 w2 E S
 refine YN S cz16 ty38 J J (eE2 E ?_)
 intro b4 w5 E S
 refine wnQ (wsQ (W_v _ (xb2 [(0,1),(1,1),(2,1),(3,1)] cz16 Tryz.underlying38 ty38 J) J ?_))
 refine Qu S 0 J ty38 J J [vI 0,.bool false,vS ([]:Str),.slice none 0 0] J J J cz16 J J (eE1 E ?_)
 intro w7 E S
 refine wnQ ?_
 refine QT ?_
 obtain rfl:=oi H
 replace S:=S.row_nil Qq 119
 exact ⟨_,_,_,fun w1 e1=>Zg (vs:=[.agg #[vI 0,.bool false,vS ([]:Str),.slice none ([]:List Qp).length 0]]) (FA.cons (rcA S e1 1 ty38 J J J) (FA.nil)),HM,E,S.pk [0,3,4,5,6,7],⟨none,0,J,J⟩⟩
end Go.Proofs.YtkknoimjgifhlaaGreatDoor
