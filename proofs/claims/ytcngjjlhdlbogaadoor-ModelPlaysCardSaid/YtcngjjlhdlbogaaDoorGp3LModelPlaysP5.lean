import Derived.Test.YtcngjjlhdlbogaaDoorGp3B
import Derived.Test.YtcngjjlhdlbogaaDoorGp3LModelPlaysP0
import Derived.Test.YtcngjjlhdlbogaaDoorGp3LModelPlaysP1
import Derived.Test.YtcngjjlhdlbogaaDoorGp3LModelPlaysP2
import Derived.Test.YtcngjjlhdlbogaaDoorGp3LModelPlaysP3
import Derived.Test.YtcngjjlhdlbogaaDoorGp3LModelPlaysP4
namespace Go.Proofs.YtcngjjlhdlbogaaDoor
open Go
set_option linter.unusedVariables false
set_option linter.unusedSimpArgs false
set_option maxHeartbeats 80000000
set_option maxRecDepth 100000
def ZJ (a0:QH):Nat→Int→Int→Option ((Int))
 | 0,_,_=>none
 | k+1,x149,x150=>(if (decide (x150 < (a0.L.length:Int)))=true then (Option.bind (α:=Int) (if 0≤x150∧x150 < (a0.L.length:Int) then (if 0≤x150∧x150 < (a0.L.length:Int) then (Option.bind (α:=Int) (if (rd a0.L x150).Has=true then some ((IntKind.i64.wrap ((IntKind.i64.wrap (x149+(((rd a0.L x150).L).length:Int)))+(1:Int)))) else some ((IntKind.i64.wrap (x149+(((rd a0.L x150).L).length:Int))))) (fun x293=>some (x293))) else none) else none) (fun x261=>ZJ a0 k x261 (IntKind.i64.wrap (x150+(1:Int))))) else some (x149))
theorem ZJ.mono {a0:QH}:∀ {kl:Nat} {x0 x1},OLe (ZJ a0 kl x0 x1) (ZJ a0 (kl+1) x0 x1):=by
 intro kl
 induction kl with
 | zero=>intros;exact OLe.none
 | succ kl ih =>
  intros
  rw [ZJ.eq_2,ZJ.eq_2]
  exact mo
def Zh (k:Nat) (a0:QH):Option (Int) :=
 (Option.bind (ZJ a0 k (0:Int) (0:Int)) (fun x223=>some x223))
theorem Zh.mono {k:Nat} {a0:QH}:OLe (Zh k a0) (Zh (k+1) a0):=by
 unfold Zh
 have m1:=@ZJ.mono
 exact mo
theorem Zh.con (k:Nat) (M:Hp) (A0_8:Option Addr) (c0_8:Nat) (A0_9:Option Addr) (c0_9:Nat) (a0:QH) (bo0:Nat) (r:Int) (hr0_8:SlR QY M (.slice A0_8 a0.T.length c0_8) a0.T) (hr0_9:SlR QU M (.slice A0_9 a0.L.length c0_9) a0.L) (h:Zh k a0=some r):Con Tryd.prog 67 #[pt bo0 0] M [B121 bo0 a0 A0_8 c0_8 A0_9 c0_9] (fun v M' Γ'=>v=vI r∧Γ'=[B121 bo0 a0 A0_8 c0_8 A0_9 c0_9]):=by
 refine Qt Tryd.func67 rfl Tryd.ntmps67 Tryd.results67 rfl ?_
 intro w F rn S hrn
 have E:=Ext.refl w
 have HM:=Hp.le_refl M
 have H:=h
 unfold Zh at H
 refine QE (QA (W_v (vI 0) (QG rfl) rfl (QB (tn (QE (QA (W_v (vI 0) (QG rfl) rfl (QB (tn (QE (QE (QA (W_v (vI 0) (QG rfl) rfl (QB (tn ?_)))))))))))))))
 obtain ⟨o224,o224h,o224H⟩:=QW H
 refine Yj (fun ρ w'=>∃ (x223:Int),(x223)=o224∧Qi ρ [(3,vI x223)]∧Ext w w'∧St w' M F [B121 bo0 a0 A0_8 c0_8 A0_9 c0_9]) ?_ ?_
 ·skip
  refine Y3 (fun n ρ w'=>∃ (x149:Int) (x150:Int),ZJ a0 n x149 x150=some o224∧Qi ρ [(0,pt bo0 0),(3,vI x149),(4,vI x150)]∧Ext w w'∧St w' M F [B121 bo0 a0 A0_8 c0_8 A0_9 c0_9]) k ?_ ?_
  ·skip
   exact ⟨(0:Int),(0:Int),o224h,⟨rfl,rfl,rfl,trivial⟩,E,S.pick [0] (by decide)⟩
  ·intro n
   rintro ρ w225 ⟨x149,x150,H,hρ,E,S⟩
   rw [QI hρ]
   cases n with
   | zero=>cases H
   | succ k =>
    rw [ZJ.eq_2] at H
    refine QE (QE (QA (W_v (vI x150) (QD rfl) rfl (W_v (pt bo0 0) (QD rfl) rfl (W_v (pt bo0 0) (Qo rfl) rfl (W_v (pt bo0 9) (QC (o:=0) (off:=9) Tryd.underlying121 rfl ty119 rfl rfl) rfl (W_v (.slice A0_9 a0.L.length c0_9) (QO (S.blk 0 rfl) ty119 rfl rfl) rfl (W_v (vI (a0.L.length:Int)) (Q8 (n:=a0.L.length) Tryd.underlying119 rfl) rfl (W_v (.bool (decide (x150 < (a0.L.length:Int)))) (Qa rfl rfl rfl rfl) rfl (QB (tn ?_)))))))))))
    rcases Zf H with ⟨hb226,H⟩ | ⟨hb226,H⟩
    ·refine QQ (congrArg Value.bool hb226) ?_
     refine Qr (tn (QE ?_))
     obtain ⟨o262,o262h,o262H⟩:=QW H
     refine Y7 (fun ρ w'=>∃ (x261:Int),(x261)=o262∧Qi ρ [(0,pt bo0 0),(3,vI x261),(4,vI x150)]∧Ext w w'∧St w' M F [B121 bo0 a0 A0_8 c0_8 A0_9 c0_9]) ?_ ?_
     ·as_aux_lemma =>
       clear o262H
       have H:=o262h
       refine YP ?_
       refine QE (QA (W_v (vI x149) (QD rfl) rfl (W_v (pt bo0 0) (QD rfl) rfl (W_v (pt bo0 0) (Qo rfl) rfl (W_v (pt bo0 9) (QC (o:=0) (off:=9) Tryd.underlying121 rfl ty119 rfl rfl) rfl (W_v (.slice A0_9 a0.L.length c0_9) (QO (S.blk 0 rfl) ty119 rfl rfl) rfl (W_v (vI x150) (QD rfl) rfl ?_)))))))
       obtain ⟨⟨p263,p264⟩,H⟩:=Yy H
       obtain ⟨b265,o266,cs267,_,_,ee272,hb268,vs269,hR270,hc271⟩:=SlW.at' hr0_9 p263 p264
       obtain ⟨v276,hs275,rfl⟩:=hR270
       obtain ⟨A273,c274,rfl,_⟩:=hs275.form
       refine W_v (.pointer (some ⟨b265,o266+x150.toNat*7,none⟩)) (Qy Tryd.underlying119 ty127 (slA ee272) rfl p263 p264) rfl (W_v (.pointer (some ⟨b265,o266+x150.toNat*7+1,none⟩)) (QC (o:=o266+x150.toNat*7) (off:=1) Tryd.underlying127 rfl ty65 rfl rfl) rfl (W_v (.slice A273 ((rd a0.L x150).L).length c274) (QO (S.frz hb268) ty65 rfl (hc271 1 _ rfl)) rfl (W_v (vI (((rd a0.L x150).L).length:Int)) (Q8 (n:=((rd a0.L x150).L).length) Tryd.underlying65 rfl) rfl (W_v (vI (IntKind.i64.wrap (x149+(((rd a0.L x150).L).length:Int)))) (Qa rfl rfl rfl rfl) rfl (W_v (vI (IntKind.i64.wrap (x149+(((rd a0.L x150).L).length:Int)))) (QG rfl) rfl (QB (tn (QE (QA (W_v (pt bo0 0) (QD rfl) rfl (W_v (pt bo0 0) (Qo rfl) rfl (W_v (pt bo0 9) (QC (o:=0) (off:=9) Tryd.underlying121 rfl ty119 rfl rfl) rfl (W_v (.slice A0_9 a0.L.length c0_9) (QO (S.blk 0 rfl) ty119 rfl rfl) rfl (W_v (vI x150) (QD rfl) rfl ?_))))))))))))))
       obtain ⟨⟨p277,p278⟩,H⟩:=Yy H
       obtain ⟨b279,o280,cs281,_,_,ee286,hb282,vs283,hR284,hc285⟩:=SlW.at' hr0_9 p277 p278
       obtain ⟨v290,hs289,rfl⟩:=hR284
       obtain ⟨A287,c288,rfl,_⟩:=hs289.form
       refine W_v (.pointer (some ⟨b279,o280+x150.toNat*7,none⟩)) (Qy Tryd.underlying119 ty127 (slA ee286) rfl p277 p278) rfl (W_v (.pointer (some ⟨b279,o280+x150.toNat*7+2,none⟩)) (QC (o:=o280+x150.toNat*7) (off:=2) Tryd.underlying127 rfl ty4 rfl rfl) rfl (W_v (.bool ((rd a0.L x150).Has)) (QO (S.frz hb282) ty4 rfl (hc285 2 _ rfl)) rfl (QB (tn ?_))))
       obtain ⟨o294,o294h,o294H⟩:=QW H
       refine Y7 (fun ρ w'=>∃ (x293:Int),(x293)=o294∧Qi ρ [(0,pt bo0 0),(3,vI x293),(4,vI x150)]∧Ext w w'∧St w' M F [B121 bo0 a0 A0_8 c0_8 A0_9 c0_9]) ?_ ?_
       ·clear o294H
        have H:=o294h
        rcases Zf H with ⟨hb295,H⟩ | ⟨hb295,H⟩
        ·refine QQ (congrArg Value.bool hb295) ?_
         refine QA (W_v (vI (IntKind.i64.wrap (x149+(((rd a0.L x150).L).length:Int)))) (QD rfl) rfl (W_v (vI (IntKind.i64.wrap ((IntKind.i64.wrap (x149+(((rd a0.L x150).L).length:Int)))+(1:Int)))) (Qa rfl rfl rfl rfl) rfl (W_v (vI (IntKind.i64.wrap ((IntKind.i64.wrap (x149+(((rd a0.L x150).L).length:Int)))+(1:Int)))) (QG rfl) rfl (QB (tn ?_)))))
         exact ⟨(IntKind.i64.wrap ((IntKind.i64.wrap (x149+(((rd a0.L x150).L).length:Int)))+(1:Int))),Option.some.inj H,⟨rfl,rfl,rfl,trivial⟩,E,S.pick [0] (by decide)⟩
        refine QK (congrArg Value.bool hb295) (Qr (tn ?_))
        exact ⟨(IntKind.i64.wrap (x149+(((rd a0.L x150).L).length:Int))),Option.some.inj H,⟨rfl,rfl,rfl,trivial⟩,E,S.pick [0] (by decide)⟩
       rintro ρ w296 ⟨x293,rfl,hρ,E,S⟩
       rw [QI hρ]
       have H:=o294H
       refine bn (tn ?_)
       exact ⟨x293,Option.some.inj H,⟨rfl,rfl,rfl,trivial⟩,E,S.pick [0] (by decide)⟩
     rintro ρ w297 ⟨x261,rfl,hρ,E,S⟩
     rw [QI hρ]
     have H:=o262H
     refine tn (QA (W_v (vI x150) (QD rfl) rfl (W_v (vI (IntKind.i64.wrap (x150+(1:Int)))) (Qa rfl rfl rfl rfl) rfl (W_v (vI (IntKind.i64.wrap (x150+(1:Int)))) (QG rfl) rfl (QB (tn ?_))))))
     exact ⟨k,Nat.lt_succ_self k,⟨x261,(IntKind.i64.wrap (x150+(1:Int))),H,⟨rfl,rfl,rfl,trivial⟩,E,S.pick [0] (by decide)⟩⟩
    refine QK (congrArg Value.bool hb226) ?_
    refine Y0 ?_
    refine tx (tx (bsm (?_)))
    refine tn ?_
    exact ⟨x149,Option.some.inj H,⟨rfl,trivial⟩,E,S.pick [0] (by decide)⟩
 rintro ρ w298 ⟨x223,rfl,hρ,E,S⟩
 rw [QI hρ]
 have H:=o224H
 refine tn ?_
 as_aux_lemma =>
 refine QE (QA (W_v (vI x223) (QD rfl) rfl (W_v (vI x223) (QG rfl) rfl (QB (tn ?_)))))
 refine Qs ?_
 obtain rfl:=Option.some.inj H
 exact ⟨_,_,_,fun w1 e1=>QX (vs:=[vI x223]) (FA.cons (rfl) (FA.nil)),HM,E,S.pick [0] (by decide),⟨rfl,rfl⟩⟩
def Ym (k:Nat) (a0:QJ):Option (Int) :=
 some a0.floor
theorem Ym.mono {k:Nat} {a0:QJ}:OLe (Ym k a0) (Ym (k+1) a0):=by
 unfold Ym
 exact mo
theorem Ym.con (k:Nat) (M:Hp) (A0_8:Option Addr) (c0_8:Nat) (A0_9:Option Addr) (c0_9:Nat) (A0_10:Option Addr) (c0_10:Nat) (A0_11:Option Addr) (c0_11:Nat) (vs0_11:List (Str×Value)) (a0:QJ) (bo0:Nat) (r:Int) (hm0_11:YV Qk M a0.rows vs0_11) (h:Ym k a0=some r):Con Tryd.prog 28 #[pt bo0 0] M [B94 bo0 a0 A0_8 A0_9 A0_10 c0_10 A0_11,QT QF (Value.int .i64) A0_8 a0.names,QT (Value.int .i64) (Value.int .i64) A0_9 a0.many,Row QL 99 (.slice A0_10 a0.txs.length c0_10) a0.txs,QT encS (fun v:Value=>v) A0_11 vs0_11] (fun v M' Γ'=>v=vI r∧Γ'=[B94 bo0 a0 A0_8 A0_9 A0_10 c0_10 A0_11,QT QF (Value.int .i64) A0_8 a0.names,QT (Value.int .i64) (Value.int .i64) A0_9 a0.many,Row QL 99 (.slice A0_10 a0.txs.length c0_10) a0.txs,QT encS (fun v:Value=>v) A0_11 vs0_11]):=by
 refine Qt Tryd.func28 rfl Tryd.ntmps28 Tryd.results28 rfl ?_
 intro w F rn S hrn
 have E:=Ext.refl w
 have HM:=Hp.le_refl M
 have H:=h
 unfold Ym at H
 refine QE (QA (W_v (vI 0) (QG rfl) rfl (QB (tn (QE (QE (QA (W_v (pt bo0 0) (QD rfl) rfl (W_v (.bool false) (Xe (r:=false) rfl rfl (XW Tryd.underlying27)) rfl (QB (tn (QK rfl (Qr (tn (QE ?_)))))))))))))))
 refine QA (W_v (pt bo0 0) (QD rfl) rfl (W_v (pt bo0 0) (Qo rfl) rfl (W_v (pt bo0 13) (QC (o:=0) (off:=13) Tryd.underlying94 rfl ty3 rfl rfl) rfl (W_v (vI a0.floor) (QO (S.blk 0 rfl) ty3 rfl rfl) rfl (W_v (vI a0.floor) (QG rfl) rfl (QB (tn ?_)))))))
 refine Qs ?_
 obtain rfl:=Option.some.inj H
 exact ⟨_,_,_,fun w1 e1=>QX (vs:=[vI a0.floor]) (FA.cons (rfl) (FA.nil)),HM,E,S.pick [0,1,2,3,4] (by decide),⟨rfl,rfl⟩⟩
def Zs (k:Nat) (a0:QJ) (a1:Str):Option (QS×Bool) :=
 some (((mget a0.rows a1).getD cz18).intent,(((mget a0.rows a1).getD cz18).intent.Writer != (0:Int)))
theorem Zs.mono {k:Nat} {a0:QJ} {a1:Str}:OLe (Zs k a0 a1) (Zs (k+1) a0 a1):=by
 unfold Zs
 exact mo
theorem Zs.con (k:Nat) (M:Hp) (A0_8:Option Addr) (c0_8:Nat) (A0_9:Option Addr) (c0_9:Nat) (A0_10:Option Addr) (c0_10:Nat) (A0_11:Option Addr) (c0_11:Nat) (vs0_11:List (Str×Value)) (a0:QJ) (a1:Str) (bo0:Nat) (r:QS×Bool) (hm0_11:YV Qk M a0.rows vs0_11) (h:Zs k a0 a1=some r):Con Tryd.prog 24 #[pt bo0 0,vS a1] M [B94 bo0 a0 A0_8 A0_9 A0_10 c0_10 A0_11,QT QF (Value.int .i64) A0_8 a0.names,QT (Value.int .i64) (Value.int .i64) A0_9 a0.many,Row QL 99 (.slice A0_10 a0.txs.length c0_10) a0.txs,QT encS (fun v:Value=>v) A0_11 vs0_11] (fun v M' Γ'=>v=.tuple #[.agg #[vI r.1.Writer,vI r.1.TS,.bool r.1.Tomb,vS r.1.Value],.bool r.2]∧Γ'=[B94 bo0 a0 A0_8 A0_9 A0_10 c0_10 A0_11,QT QF (Value.int .i64) A0_8 a0.names,QT (Value.int .i64) (Value.int .i64) A0_9 a0.many,Row QL 99 (.slice A0_10 a0.txs.length c0_10) a0.txs,QT encS (fun v:Value=>v) A0_11 vs0_11]):=by
 refine Qt Tryd.func24 rfl Tryd.ntmps24 Tryd.results24 rfl ?_
 intro w F rn S hrn
 have E:=Ext.refl w
 have HM:=Hp.le_refl M
 have H:=h
 unfold Zs at H
 refine QE (QA ?_)
 refine Zo S cz16 ty61 rfl rfl ?_
 intro b1 w2 E' S
 replace E:=E.trans E'
 refine W_v (.bool false) (QG rfl) rfl (QB (tn (QE (QE (QA (W_v (pt bo0 0) (QD rfl) rfl (W_v (.bool false) (Xe (r:=false) rfl rfl (XW Tryd.underlying27)) rfl (QB (tn (QK rfl (Qr (tn (QE (QA (W_v (pt bo0 0) (QD rfl) rfl ?_)))))))))))))))
 refine W_v (pt bo0 0) (Qo rfl) rfl (W_v (pt bo0 11) (QC (o:=0) (off:=11) Tryd.underlying94 rfl ty91 rfl rfl) rfl (W_v (.map (mb A0_11)) (QO (S.blk 1 rfl) ty91 rfl rfl) rfl (W_v (vS a1) (QD rfl) rfl ?_)))
 obtain ⟨cs4,hR5,he6⟩:=hm0_11.get a1 (z:=cz18) (zc:=[.slice none 0 0,vI 0,vI 0,.bool false,vS ([]:Str)]) ⟨_,SlW.nil _ _,rfl⟩
 obtain ⟨v10,hs9,rfl⟩:=hR5
 obtain ⟨A7,c8,rfl,_⟩:=hs9.form
 refine W_v (.agg #[.slice A7 (((mget a0.rows a1).getD cz18).l).length c8,vI (((mget a0.rows a1).getD cz18).intent.Writer),vI (((mget a0.rows a1).getD cz18).intent.TS),.bool (((mget a0.rows a1).getD cz18).intent.Tomb),vS (((mget a0.rows a1).getD cz18).intent.Value)]) ((Eq.trans (Xj S 5 rfl Tryd.underlying91 key9 (Value.agg cz9) (fun _=>ty101.zero) a1 rfl rfl) (by rw [show (mget vs0_11 a1).getD (Value.agg cz9)=_ from he6]))) rfl (W_v (.agg #[vI (((mget a0.rows a1).getD cz18).intent.Writer),vI (((mget a0.rows a1).getD cz18).intent.TS),.bool (((mget a0.rows a1).getD cz18).intent.Tomb),vS (((mget a0.rows a1).getD cz18).intent.Value)]) (UA Tryd.underlying101 rfl rfl ty61 rfl) rfl ?_)
 refine Zo S cz16 ty61 rfl rfl ?_
 intro b11 w12 E' S
 replace E:=E.trans E'
 refine Qx S 0 rfl ty61 rfl rfl [vI (((mget a0.rows a1).getD cz18).intent.Writer),vI (((mget a0.rows a1).getD cz18).intent.TS),.bool (((mget a0.rows a1).getD cz18).intent.Tomb),vS (((mget a0.rows a1).getD cz18).intent.Value)] rfl rfl rfl #[vI (((mget a0.rows a1).getD cz18).intent.Writer),vI (((mget a0.rows a1).getD cz18).intent.TS),.bool (((mget a0.rows a1).getD cz18).intent.Tomb),vS (((mget a0.rows a1).getD cz18).intent.Value)] rfl rfl ?_
 intro w14 E' S
 replace E:=E.trans E'
 refine QB (tn (QE ?_))
 refine Q0 (S:=fun w'=>∃ Mx,M.le Mx∧St w' Mx F [B61 b11 (((mget a0.rows a1).getD cz18).intent),B94 bo0 a0 A0_8 A0_9 A0_10 c0_10 A0_11,QT QF (Value.int .i64) A0_8 a0.names,QT (Value.int .i64) (Value.int .i64) A0_9 a0.many,Row QL 99 (.slice A0_10 a0.txs.length c0_10) a0.txs,QT encS (fun v:Value=>v) A0_11 vs0_11]) (L:=6) mixed ?_
 intro w16 hw17 E'
 replace S:=S.heap hw17
 replace E:=E.trans E'
 have D1:∃ Mx,Hp.le M Mx∧St _ Mx F [_,_,_,_,_,_]:=⟨_,Hp.le_refl _,S.pick [0,2,3,4,5,6] (by decide)⟩
 refine Wt 0 rfl rfl rfl (.agg #[vI (((mget a0.rows a1).getD cz18).intent.Writer),vI (((mget a0.rows a1).getD cz18).intent.TS),.bool (((mget a0.rows a1).getD cz18).intent.Tomb),vS (((mget a0.rows a1).getD cz18).intent.Value)]) rfl (fun w' h'=>ZA (Qp h' 0 rfl) ty61 rfl (QM rfl) rfl rfl) D1 (Wt 1 rfl rfl rfl (pt b11 0) rfl (fun w' h'=>QC (o:=0) (off:=0) Tryd.underlying61 rfl ty3 rfl rfl) D1 (Wt 2 rfl rfl rfl (vI (((mget a0.rows a1).getD cz18).intent.Writer)) rfl (fun w' h'=>QO (Qp h' 0 rfl) ty3 rfl rfl) D1 (Wt 3 rfl rfl rfl (.bool (((mget a0.rows a1).getD cz18).intent.Writer != (0:Int))) rfl (fun w' h'=>Qa rfl rfl rfl rfl) D1 ?_)))
 refine Wo 4 rfl ?_
 refine Qx S 1 rfl ty61 rfl rfl [vI (((mget a0.rows a1).getD cz18).intent.Writer),vI (((mget a0.rows a1).getD cz18).intent.TS),.bool (((mget a0.rows a1).getD cz18).intent.Tomb),vS (((mget a0.rows a1).getD cz18).intent.Value)] rfl rfl rfl #[vI (((mget a0.rows a1).getD cz18).intent.Writer),vI (((mget a0.rows a1).getD cz18).intent.TS),.bool (((mget a0.rows a1).getD cz18).intent.Tomb),vS (((mget a0.rows a1).getD cz18).intent.Value)] rfl rfl ?_
 intro w18 E' S
 replace E:=E.trans E'
 refine QB (YU ⟨.inr ⟨M,Hp.le_refl M,(S.pick [0,2,3,4,5,6] (by decide))⟩,?_⟩)
 refine Wt 5 rfl rfl rfl (.bool (((mget a0.rows a1).getD cz18).intent.Writer != (0:Int))) rfl (fun w' h'=>QG rfl) (⟨M,Hp.le_refl M,(S.pick [0,2,3,4,5,6] (by decide))⟩) ?_
 refine Wz ?_
 refine tn ?_
 refine Qs ?_
 obtain rfl:=Option.some.inj H
 exact ⟨_,_,_,fun w1 e1=>QX (vs:=[.agg #[vI (((mget a0.rows a1).getD cz18).intent.Writer),vI (((mget a0.rows a1).getD cz18).intent.TS),.bool (((mget a0.rows a1).getD cz18).intent.Tomb),vS (((mget a0.rows a1).getD cz18).intent.Value)],.bool (((mget a0.rows a1).getD cz18).intent.Writer != (0:Int))]) (FA.cons (⟨_,rfl,Qn ty61 ((S.of_eq e1).blk 1 rfl) (QM rfl) rfl (by decide)⟩) (FA.cons (rfl) (FA.nil))),HM,E,S.pick [2,3,4,5,6] (by decide),⟨rfl,rfl⟩⟩
def Zb:Nat→List QS→Int→Option ((Unit))
 | 0,_,_=>none
 | k+1,x764,x768=>(if (decide (x768 < (x764.length:Int)))=true then (if 0≤x768∧x768 < (x764.length:Int) then (Option.bind (α:=List QS) (some (List.set x764 x768.toNat (⟨(rd x764 x768).Writer,(rd x764 x768).TS,(rd x764 x768).Tomb,cz17⟩:QS))) (fun x799=>Zb k x799 (IntKind.i64.wrap (x768+(1:Int))))) else none) else some ())
theorem Zb.mono :∀ {kl:Nat} {x0 x1},OLe (Zb  kl x0 x1) (Zb  (kl+1) x0 x1):=by
 intro kl
 induction kl with
 | zero=>intros;exact OLe.none
 | succ kl ih =>
  intros
  rw [Zb.eq_2,Zb.eq_2]
  exact mo
def Zc (a0:QJ) (a1:QH) (t170:(List Str)):Nat→Int→Option ((Bool)⊕(Unit))
 | 0,_=>none
 | k+1,x491=>(if (decide (x491 < (t170.length:Int)))=true then (if 0≤x491∧x491 < (a1.L.length:Int) then (Option.bind (Zs k a0 ((rd a1.L x491).Key)) (fun t668=>(Option.bind (Zd k a0 ((rd a1.L x491).Key)) (fun t677=>(if 0≤x491∧x491 < (t170.length:Int) then (Option.bind (α:=Bool) (if (((sbin .neq (rd t170 x491) ((rd a1.L x491).Key))||(!(t668.2==(rd a1.L x491).Has)))||(!((t668.1.Writer==(rd a1.L x491).I.Writer)&&((t668.1.TS==(rd a1.L x491).I.TS)&&((t668.1.Tomb==(rd a1.L x491).I.Tomb)&&(t668.1.Value==(rd a1.L x491).I.Value))))))=true then some (true) else (Option.bind (Yp k t677 ((rd a1.L x491).L)) (fun t717=>some ((!t717))))) (fun x715=>(if x715=true then some (.inl false) else (Option.bind (Zb k t677 (0:Int)) (fun _=>Zc a0 a1 t170 k (IntKind.i64.wrap (x491+(1:Int)))))))) else none))))) else none) else some (.inr ()))
theorem Zc.mono {a0:QJ} {a1:QH} {t170:(List Str)}:∀ {kl:Nat} {x0},OLe (Zc a0 a1 t170 kl x0) (Zc a0 a1 t170 (kl+1) x0):=by
 intro kl
 induction kl with
 | zero=>intros;exact OLe.none
 | succ kl ih =>
  intros
  rw [Zc.eq_2,Zc.eq_2]
  have m1:=@Zb.mono
  have m2:=@Yp.mono
  have m3:=@Zs.mono
  have m4:=@Zd.mono
  exact mo
def ZK (k:Nat) (a0:QJ) (a1:QH) (a2:Str) (a3:Int) (a4:Int):Option (Bool) :=
 (Option.bind (Zy k a0 a3 a4) (fun t1=>(Option.bind (ZF k a1 a3 a4) (fun t6=>(Option.bind (α:=Bool) (if (((t1.1 != t6.1)||(t1.2.1 != t6.2.1))||(t1.2.2 != t6.2.2))=true then some (true) else (Option.bind (YO k a0) (fun t106=>(Option.bind (Zh k a1) (fun t111=>some ((t106 != t111))))))) (fun x104=>(Option.bind (α:=Bool) (if x104=true then some (true) else (Option.bind (Z0 k a0) (fun t130=>(Option.bind (ZM k a1) (fun t135=>some ((t130 != t135))))))) (fun x128=>(Option.bind (α:=Bool) (if x128=true then some (true) else (Option.bind (YN k a0) (fun t149=>some ((t149 != a1.Time))))) (fun x147=>(Option.bind (α:=Bool) (if x147=true then some (true) else (Option.bind (Ym k a0) (fun t163=>some ((t163 != a1.Low))))) (fun x161=>(if x161=true then some false else (Option.bind (ZR k a0) (fun t170=>(if ((t170.length:Int) != (a1.L.length:Int))=true then some false else (Option.bind (Zc a0 a1 t170 k (0:Int)) (fun o647o=>Sum.elim (fun r'=>some r') (fun _=>(Option.bind (Zs k a0 a2) (fun t805=>(Option.bind (α:=Bool) (if t805.2=true then some (true) else (Option.bind (Zd k a0 a2) (fun t833=>some ((decide ((t833.length:Int) > (0:Int))))))) (fun x831=>(Option.bind (α:=Bool) (if x831=true then some (true) else (Option.bind (Yv k t170 a2) (fun t851=>some ((!t851))))) (fun x849=>some x849))))))) o647o))))))))))))))))))
theorem ZK.mono {k:Nat} {a0:QJ} {a1:QH} {a2:Str} {a3:Int} {a4:Int}:OLe (ZK k a0 a1 a2 a3 a4) (ZK (k+1) a0 a1 a2 a3 a4):=by
 unfold ZK
 have m1:=@Yv.mono
 have m2:=@Zc.mono
 have m3:=@ZM.mono
 have m4:=@Zh.mono
 have m5:=@ZF.mono
 have m6:=@Z0.mono
 have m7:=@YN.mono
 have m8:=@Ym.mono
 have m9:=@Zs.mono
 have m10:=@ZR.mono
 have m11:=@YO.mono
 have m12:=@Zy.mono
 have m13:=@Zd.mono
 exact mo
theorem ZK.con (k:Nat) (M:Hp) (A0_8:Option Addr) (c0_8:Nat) (A0_9:Option Addr) (c0_9:Nat) (A0_10:Option Addr) (c0_10:Nat) (A0_11:Option Addr) (c0_11:Nat) (vs0_11:List (Str×Value)) (a0:QJ) (A1_8:Option Addr) (c1_8:Nat) (A1_9:Option Addr) (c1_9:Nat) (a1:QH) (a2:Str) (a3:Int) (a4:Int) (bo0:Nat) (bo1:Nat) (r:Bool) (hm0_11:YV Qk M a0.rows vs0_11) (hr1_8:SlR QY M (.slice A1_8 a1.T.length c1_8) a1.T) (hr1_9:SlR QU M (.slice A1_9 a1.L.length c1_9) a1.L) (h:ZK k a0 a1 a2 a3 a4=some r):Con Tryd.prog 40 #[pt bo0 0,pt bo1 0,vS a2,vI a3,vI a4] M [B94 bo0 a0 A0_8 A0_9 A0_10 c0_10 A0_11,QT QF (Value.int .i64) A0_8 a0.names,QT (Value.int .i64) (Value.int .i64) A0_9 a0.many,Row QL 99 (.slice A0_10 a0.txs.length c0_10) a0.txs,QT encS (fun v:Value=>v) A0_11 vs0_11,B121 bo1 a1 A1_8 c1_8 A1_9 c1_9] (fun v M' Γ'=>v=.bool r∧Γ'=[B94 bo0 a0 A0_8 A0_9 A0_10 c0_10 A0_11,QT QF (Value.int .i64) A0_8 a0.names,QT (Value.int .i64) (Value.int .i64) A0_9 a0.many,Row QL 99 (.slice A0_10 a0.txs.length c0_10) a0.txs,QT encS (fun v:Value=>v) A0_11 vs0_11,B121 bo1 a1 A1_8 c1_8 A1_9 c1_9]):=by
 refine Qt Tryd.func40 rfl Tryd.ntmps40 Tryd.results40 rfl ?_
 intro w F rn S hrn
 have E:=Ext.refl w
 have HM:=Hp.le_refl M
 have H:=h
 unfold ZK at H
 refine QE (QA (W_v (.bool false) (QG rfl) rfl (QB (tn (QE (QA (W_v (pt bo0 0) (QD rfl) rfl (W_v (vI a3) (QD rfl) rfl (W_v (vI a4) (QD rfl) rfl ?_)))))))))
 obtain ⟨t1,ht2,H⟩:=QW H
 refine Z5 fn23 (Zy.con k M A0_8 c0_8 A0_9 c0_9 A0_10 c0_10 A0_11 c0_11 vs0_11 a0 a3 a4 bo0 t1 hm0_11 ht2) (Γ1:=[_,_,_,_,_]) (Γ2:=[_]) S rfl rfl (by rintro _ _ _ ⟨rfl,rfl⟩;exact (QN ZW (QN Qu (QN Qu (QN (YI (fun _ _ _ _ h=>h)) (QN Qu Qd)))))) ?_
 rintro _ w3 _ Γ' E' S ⟨rfl,rfl⟩
 replace E:=E.trans E'
 replace S:St w3 M F [_,_,_,_,_,_]:=S
 refine W_v (.tuple #[vI t1.1,vU t1.2.1,vI t1.2.2]) (QD rfl) rfl (W_v (vI t1.1) (ZB rfl rfl) rfl (W_v (vU t1.2.1) (ZB rfl rfl) rfl (W_v (vI t1.2.2) (ZB rfl rfl) rfl (W_v (vI t1.1) (QG rfl) rfl (W_v (vU t1.2.1) (QG rfl) rfl (W_v (vI t1.2.2) (QG rfl) rfl (QB (tn (QE (QA (W_v (pt bo1 0) (QD rfl) rfl (W_v (vI a3) (QD rfl) rfl (W_v (vI a4) (QD rfl) rfl ?_)))))))))))))
 obtain ⟨t6,ht7,H⟩:=QW H
 replace S:St w3 M F [_,_,_,_,_,_]:=S.pick [5,0,1,2,3,4] (by decide)
 refine Z5 fn55 (ZF.con k M A1_8 c1_8 A1_9 c1_9 a1 a3 a4 bo1 t6 hr1_8 hr1_9 ht7) (Γ1:=[_]) (Γ2:=[_,_,_,_,_]) S rfl rfl (by rintro _ _ _ ⟨rfl,rfl⟩;exact (QN ZW Qd)) ?_
 rintro _ w8 _ Γ' E' S ⟨rfl,rfl⟩
 replace E:=E.trans E'
 replace S:St w8 M F [_,_,_,_,_,_]:=S
 refine W_v (.tuple #[vI t6.1,vU t6.2.1,vI t6.2.2]) (QD rfl) rfl (W_v (vI t6.1) (ZB rfl rfl) rfl (W_v (vU t6.2.1) (ZB rfl rfl) rfl (W_v (vI t6.2.2) (ZB rfl rfl) rfl (W_v (vI t6.1) (QG rfl) rfl (W_v (vU t6.2.1) (QG rfl) rfl (W_v (vI t6.2.2) (QG rfl) rfl (QB (tn (QE ?_)))))))))
 as_aux_lemma =>
 refine QE ?_
 refine Q0 (S:=fun w'=>∃ Mx,M.le Mx∧St w' Mx F [B121 bo1 a1 A1_8 c1_8 A1_9 c1_9,B94 bo0 a0 A0_8 A0_9 A0_10 c0_10 A0_11,QT QF (Value.int .i64) A0_8 a0.names,QT (Value.int .i64) (Value.int .i64) A0_9 a0.many,Row QL 99 (.slice A0_10 a0.txs.length c0_10) a0.txs,QT encS (fun v:Value=>v) A0_11 vs0_11]) (L:=45) mixed ?_
 intro w89 hw90 E'
 replace S:=S.heap hw90
 replace E:=E.trans E'
 have D1:∃ Mx,Hp.le M Mx∧St _ Mx F [_,_,_,_,_,_]:=⟨_,Hp.le_refl _,S.pick [0,1,2,3,4,5] (by decide)⟩
 refine Wt 0 rfl rfl rfl (vI t1.1) rfl (fun w' h'=>QD rfl) D1 (Wt 1 rfl rfl rfl (vI t6.1) rfl (fun w' h'=>QD rfl) D1 (Wt 2 rfl rfl rfl (.bool (t1.1 != t6.1)) rfl (fun w' h'=>Qa rfl rfl rfl rfl) D1 (Wt 3 rfl rfl rfl (.bool (t1.1 != t6.1)) rfl (fun w' h'=>QD rfl) D1 ?_)))
 refine YD (fun ρ w'=>Qi ρ [(0,pt bo0 0),(1,pt bo1 0),(2,vS a2),(13,vI t1.2.2),(16,vI t6.2.2),(49,.bool ((t1.1 != t6.1)||(t1.2.1 != t6.2.1)))]∧w89=w') 37 (Ls 45 [0,1,2,3,4,5,6,7]) ?_ ?_
 rotate_left
 ·intro hrest
  rcases ZX (t1.1 != t6.1) with hb91 | hb91
  ·skip
   have D2:∃ Mx,Hp.le M Mx∧St _ Mx F [_,_,_,_,_,_]:=⟨_,Hp.le_refl _,S.pick [0,1,2,3,4,5] (by decide)⟩
   refine WtY 4 rfl rfl rfl (vU t1.2.1) rfl (congrArg some hb91) (fun w' h'=>QD rfl) D2 (WtY 5 rfl rfl rfl (vU t6.2.1) rfl (congrArg some hb91) (fun w' h'=>QD rfl) D2 (WtY 6 rfl rfl rfl (.bool (t1.2.1 != t6.2.1)) rfl (congrArg some hb91) (fun w' h'=>Qa rfl rfl rfl rfl) D2 (Wt 7 rfl rfl rfl (.bool (t1.2.1 != t6.2.1)) rfl (fun w' h'=>QV (k:=false) (congrArg Value.bool hb91) rfl) D2 ?_)))
   exact hrest _ _ ⟨⟨rfl,rfl,rfl,rfl,rfl,(by first | rfl | (rw [hb91];rfl) | (simp only [hb91];rfl)),trivial⟩,rfl⟩
  ·skip
   have D3:∃ Mx,Hp.le M Mx∧St _ Mx F [_,_,_,_,_,_]:=⟨_,Hp.le_refl _,S.pick [0,1,2,3,4,5] (by decide)⟩
   refine WtN 4 rfl rfl rfl rfl (skF hb91) D3 (WtN 5 rfl rfl rfl rfl (skF hb91) D3 (WtN 6 rfl rfl rfl rfl (skF hb91) D3 (Wt 7 rfl rfl rfl (.bool true) rfl (fun w' h'=>QV (k:=true) (congrArg Value.bool hb91) rfl) D3 ?_)))
   exact hrest _ _ ⟨⟨rfl,rfl,rfl,rfl,rfl,(by first | rfl | (rw [hb91];rfl) | (simp only [hb91];rfl)),trivial⟩,rfl⟩
 rintro ρ _ ⟨hρ,rfl⟩
 rw [QI hρ]
 refine Wt 8 rfl rfl rfl (.bool ((t1.1 != t6.1)||(t1.2.1 != t6.2.1))) rfl (fun w' h'=>QD rfl) (⟨M,Hp.le_refl M,(S.pick [0,1,2,3,4,5] (by decide))⟩) ?_
 refine YD (fun ρ w'=>Qi ρ [(0,pt bo0 0),(1,pt bo1 0),(2,vS a2),(54,.bool (((t1.1 != t6.1)||(t1.2.1 != t6.2.1))||(t1.2.2 != t6.2.2)))]∧w89=w') 32 (Ls 45 [0,1,2,3,4,5,6,7,8,9,10,11,12]) ?_ ?_
 rotate_left
 ·intro hrest
  rcases ZX ((t1.1 != t6.1)||(t1.2.1 != t6.2.1)) with hb92 | hb92
  ·skip
   have D5:∃ Mx,Hp.le M Mx∧St _ Mx F [_,_,_,_,_,_]:=⟨_,Hp.le_refl _,S.pick [0,1,2,3,4,5] (by decide)⟩
   refine WtY 9 rfl rfl rfl (vI t1.2.2) rfl (congrArg some hb92) (fun w' h'=>QD rfl) D5 (WtY 10 rfl rfl rfl (vI t6.2.2) rfl (congrArg some hb92) (fun w' h'=>QD rfl) D5 (WtY 11 rfl rfl rfl (.bool (t1.2.2 != t6.2.2)) rfl (congrArg some hb92) (fun w' h'=>Qa rfl rfl rfl rfl) D5 (Wt 12 rfl rfl rfl (.bool (t1.2.2 != t6.2.2)) rfl (fun w' h'=>QV (k:=false) (congrArg Value.bool hb92) rfl) D5 ?_)))
   exact hrest _ _ ⟨⟨rfl,rfl,rfl,(by first | rfl | (rw [hb92];rfl) | (simp only [hb92];rfl)),trivial⟩,rfl⟩
  ·skip
   have D6:∃ Mx,Hp.le M Mx∧St _ Mx F [_,_,_,_,_,_]:=⟨_,Hp.le_refl _,S.pick [0,1,2,3,4,5] (by decide)⟩
   refine WtN 9 rfl rfl rfl rfl (skF hb92) D6 (WtN 10 rfl rfl rfl rfl (skF hb92) D6 (WtN 11 rfl rfl rfl rfl (skF hb92) D6 (Wt 12 rfl rfl rfl (.bool true) rfl (fun w' h'=>QV (k:=true) (congrArg Value.bool hb92) rfl) D6 ?_)))
   exact hrest _ _ ⟨⟨rfl,rfl,rfl,(by first | rfl | (rw [hb92];rfl) | (simp only [hb92];rfl)),trivial⟩,rfl⟩
 rintro ρ _ ⟨hρ,rfl⟩
 rw [QI hρ]
 refine Wt 13 rfl rfl rfl (.bool (((t1.1 != t6.1)||(t1.2.1 != t6.2.1))||(t1.2.2 != t6.2.2))) rfl (fun w' h'=>QD rfl) (⟨M,Hp.le_refl M,(S.pick [0,1,2,3,4,5] (by decide))⟩) ?_
 obtain ⟨o105,o105h,o105H⟩:=QW H
 refine YD (fun ρ w'=>∃ (x104:Bool),(x104)=o105∧Qi ρ [(0,pt bo0 0),(1,pt bo1 0),(2,vS a2),(61,.bool x104)]∧Ext w w'∧St w' M F [B121 bo1 a1 A1_8 c1_8 A1_9 c1_9,B94 bo0 a0 A0_8 A0_9 A0_10 c0_10 A0_11,QT QF (Value.int .i64) A0_8 a0.names,QT (Value.int .i64) (Value.int .i64) A0_9 a0.many,Row QL 99 (.slice A0_10 a0.txs.length c0_10) a0.txs,QT encS (fun v:Value=>v) A0_11 vs0_11]) 25 (Ls 45 [0,1,2,3,4,5,6,7,8,9,10,11,12,13,14,15,16,17,18,19]) ?_ ?_
 rotate_left
 ·intro hrest
  have H:=o105h
  rcases Zf H with ⟨hb103,H⟩ | ⟨hb103,H⟩
  ·skip
   have D8:∃ Mx,Hp.le M Mx∧St _ Mx F [_,_,_,_,_,_]:=⟨_,Hp.le_refl _,S.pick [0,1,2,3,4,5] (by decide)⟩
   refine WtN 14 rfl rfl rfl rfl (skF hb103) D8 (WtN 15 rfl rfl rfl rfl (skF hb103) D8 (WtN 16 rfl rfl rfl rfl (skF hb103) D8 (WtN 17 rfl rfl rfl rfl (skF hb103) D8 (WtN 18 rfl rfl rfl rfl (skF hb103) D8 (Wt 19 rfl rfl rfl (.bool true) rfl (fun w' h'=>QV (k:=true) (congrArg Value.bool hb103) rfl) D8 ?_)))))
   exact hrest _ _ ⟨true,Option.some.inj H,⟨rfl,rfl,rfl,rfl,trivial⟩,E,S.pick [0,1,2,3,4,5] (by decide)⟩
  ·skip
   have D9:∃ Mx,Hp.le M Mx∧St _ Mx F [_,_,_,_,_,_]:=⟨_,Hp.le_refl _,S.pick [0,1,2,3,4,5] (by decide)⟩
   refine WtY 14 rfl rfl rfl (pt bo0 0) rfl (congrArg some hb103) (fun w' h'=>QD rfl) D9 (WtY 16 rfl rfl rfl (pt bo1 0) rfl (congrArg some hb103) (fun w' h'=>QD rfl) D9 ?_)
   refine Wo 15 rfl ?_
   refine QP (congrArg some hb103) ?_
   obtain ⟨t106,ht107,H⟩:=QW H
   replace S:St w89 M F [_,_,_,_,_,_]:=S.pick [1,2,3,4,5,0] (by decide)
   refine Z5 fn22 (YO.con k M A0_8 c0_8 A0_9 c0_9 A0_10 c0_10 A0_11 c0_11 vs0_11 a0 bo0 t106 hm0_11 ht107) (Γ1:=[_,_,_,_,_]) (Γ2:=[_]) S rfl rfl (by rintro _ _ _ ⟨rfl,rfl⟩;exact (QN ZW (QN Qu (QN Qu (QN (YI (fun _ _ _ _ h=>h)) (QN Qu Qd)))))) ?_
   rintro _ w108 _ Γ' E' S ⟨rfl,rfl⟩
   replace E:=E.trans E'
   replace S:St w108 M F [_,_,_,_,_,_]:=S
   refine QB (YU ⟨.inr ⟨M,Hp.le_refl M,(S.pick [5,0,1,2,3,4] (by decide))⟩,?_⟩)
   refine Wo 17 rfl ?_
   refine QP (congrArg some hb103) ?_
   obtain ⟨t111,ht112,H⟩:=QW H
   replace S:St w108 M F [_,_,_,_,_,_]:=S.pick [5,0,1,2,3,4] (by decide)
   refine Z5 fn67 (Zh.con k M A1_8 c1_8 A1_9 c1_9 a1 bo1 t111 hr1_8 hr1_9 ht112) (Γ1:=[_]) (Γ2:=[_,_,_,_,_]) S rfl rfl (by rintro _ _ _ ⟨rfl,rfl⟩;exact (QN ZW Qd)) ?_
   rintro _ w113 _ Γ' E' S ⟨rfl,rfl⟩
   replace E:=E.trans E'
   replace S:St w113 M F [_,_,_,_,_,_]:=S
   refine QB (YU ⟨.inr ⟨M,Hp.le_refl M,(S.pick [0,1,2,3,4,5] (by decide))⟩,?_⟩)
   have D10:∃ Mx,Hp.le M Mx∧St _ Mx F [_,_,_,_,_,_]:=⟨_,Hp.le_refl _,S.pick [0,1,2,3,4,5] (by decide)⟩
   refine WtY 18 rfl rfl rfl (.bool (t106 != t111)) rfl (congrArg some hb103) (fun w' h'=>Qa rfl rfl rfl rfl) D10 (Wt 19 rfl rfl rfl (.bool (t106 != t111)) rfl (fun w' h'=>QV (k:=false) (congrArg Value.bool hb103) rfl) D10 ?_)
   exact hrest _ _ ⟨(t106 != t111),Option.some.inj H,⟨rfl,rfl,rfl,rfl,trivial⟩,E,S.pick [0,1,2,3,4,5] (by decide)⟩
 rintro ρ w116 ⟨x104,rfl,hρ,E,S⟩
 rw [QI hρ]
 have H:=o105H
 refine Wt 20 rfl rfl rfl (.bool x104) rfl (fun w' h'=>QD rfl) (⟨M,Hp.le_refl M,(S.pick [0,1,2,3,4,5] (by decide))⟩) ?_
 obtain ⟨o129,o129h,o129H⟩:=QW H
 refine YD (fun ρ w'=>∃ (x128:Bool),(x128)=o129∧Qi ρ [(0,pt bo0 0),(1,pt bo1 0),(2,vS a2),(68,.bool x128)]∧Ext w w'∧St w' M F [B121 bo1 a1 A1_8 c1_8 A1_9 c1_9,B94 bo0 a0 A0_8 A0_9 A0_10 c0_10 A0_11,QT QF (Value.int .i64) A0_8 a0.names,QT (Value.int .i64) (Value.int .i64) A0_9 a0.many,Row QL 99 (.slice A0_10 a0.txs.length c0_10) a0.txs,QT encS (fun v:Value=>v) A0_11 vs0_11]) 18 (Ls 45 [0,1,2,3,4,5,6,7,8,9,10,11,12,13,14,15,16,17,18,19,20,21,22,23,24,25,26]) ?_ ?_
 rotate_left
 ·intro hrest
  have H:=o129h
  rcases Zf H with ⟨hb127,H⟩ | ⟨hb127,H⟩
  ·skip
   have D12:∃ Mx,Hp.le M Mx∧St _ Mx F [_,_,_,_,_,_]:=⟨_,Hp.le_refl _,S.pick [0,1,2,3,4,5] (by decide)⟩
   refine WtN 21 rfl rfl rfl rfl (skF hb127) D12 (WtN 22 rfl rfl rfl rfl (skF hb127) D12 (WtN 23 rfl rfl rfl rfl (skF hb127) D12 (WtN 24 rfl rfl rfl rfl (skF hb127) D12 (WtN 25 rfl rfl rfl rfl (skF hb127) D12 (Wt 26 rfl rfl rfl (.bool true) rfl (fun w' h'=>QV (k:=true) (congrArg Value.bool hb127) rfl) D12 ?_)))))
   exact hrest _ _ ⟨true,Option.some.inj H,⟨rfl,rfl,rfl,rfl,trivial⟩,E,S.pick [0,1,2,3,4,5] (by decide)⟩
  ·skip
   have D13:∃ Mx,Hp.le M Mx∧St _ Mx F [_,_,_,_,_,_]:=⟨_,Hp.le_refl _,S.pick [0,1,2,3,4,5] (by decide)⟩
   refine WtY 21 rfl rfl rfl (pt bo0 0) rfl (congrArg some hb127) (fun w' h'=>QD rfl) D13 (WtY 23 rfl rfl rfl (pt bo1 0) rfl (congrArg some hb127) (fun w' h'=>QD rfl) D13 ?_)
   refine Wo 22 rfl ?_
   refine QP (congrArg some hb127) ?_
   obtain ⟨t130,ht131,H⟩:=QW H
   replace S:St w116 M F [_,_,_,_,_,_]:=S.pick [1,2,3,4,5,0] (by decide)
   refine Z5 fn21 (Z0.con k M A0_8 c0_8 A0_9 c0_9 A0_10 c0_10 A0_11 c0_11 vs0_11 a0 bo0 t130 hm0_11 ht131) (Γ1:=[_,_,_,_,_]) (Γ2:=[_]) S rfl rfl (by rintro _ _ _ ⟨rfl,rfl⟩;exact (QN ZW (QN Qu (QN Qu (QN (YI (fun _ _ _ _ h=>h)) (QN Qu Qd)))))) ?_
   rintro _ w132 _ Γ' E' S ⟨rfl,rfl⟩
   replace E:=E.trans E'
   replace S:St w132 M F [_,_,_,_,_,_]:=S
   refine QB (YU ⟨.inr ⟨M,Hp.le_refl M,(S.pick [5,0,1,2,3,4] (by decide))⟩,?_⟩)
   refine Wo 24 rfl ?_
   refine QP (congrArg some hb127) ?_
   obtain ⟨t135,ht136,H⟩:=QW H
   replace S:St w132 M F [_,_,_,_,_,_]:=S.pick [5,0,1,2,3,4] (by decide)
   refine Z5 fn59 (ZM.con k M A1_8 c1_8 A1_9 c1_9 a1 bo1 t135 hr1_8 hr1_9 ht136) (Γ1:=[_]) (Γ2:=[_,_,_,_,_]) S rfl rfl (by rintro _ _ _ ⟨rfl,rfl⟩;exact (QN ZW Qd)) ?_
   rintro _ w137 _ Γ' E' S ⟨rfl,rfl⟩
   replace E:=E.trans E'
   replace S:St w137 M F [_,_,_,_,_,_]:=S
   refine QB (YU ⟨.inr ⟨M,Hp.le_refl M,(S.pick [0,1,2,3,4,5] (by decide))⟩,?_⟩)
   have D14:∃ Mx,Hp.le M Mx∧St _ Mx F [_,_,_,_,_,_]:=⟨_,Hp.le_refl _,S.pick [0,1,2,3,4,5] (by decide)⟩
   refine WtY 25 rfl rfl rfl (.bool (t130 != t135)) rfl (congrArg some hb127) (fun w' h'=>Qa rfl rfl rfl rfl) D14 (Wt 26 rfl rfl rfl (.bool (t130 != t135)) rfl (fun w' h'=>QV (k:=false) (congrArg Value.bool hb127) rfl) D14 ?_)
   exact hrest _ _ ⟨(t130 != t135),Option.some.inj H,⟨rfl,rfl,rfl,rfl,trivial⟩,E,S.pick [0,1,2,3,4,5] (by decide)⟩
 rintro ρ w140 ⟨x128,rfl,hρ,E,S⟩
 rw [QI hρ]
 have H:=o129H
 refine Wt 27 rfl rfl rfl (.bool x128) rfl (fun w' h'=>QD rfl) (⟨M,Hp.le_refl M,(S.pick [0,1,2,3,4,5] (by decide))⟩) ?_
 obtain ⟨o148,o148h,o148H⟩:=QW H
 refine YD (fun ρ w'=>∃ (x147:Bool),(x147)=o148∧Qi ρ [(0,pt bo0 0),(1,pt bo1 0),(2,vS a2),(77,.bool x147)]∧Ext w w'∧St w' M F [B121 bo1 a1 A1_8 c1_8 A1_9 c1_9,B94 bo0 a0 A0_8 A0_9 A0_10 c0_10 A0_11,QT QF (Value.int .i64) A0_8 a0.names,QT (Value.int .i64) (Value.int .i64) A0_9 a0.many,Row QL 99 (.slice A0_10 a0.txs.length c0_10) a0.txs,QT encS (fun v:Value=>v) A0_11 vs0_11]) 9 (Ls 45 [0,1,2,3,4,5,6,7,8,9,10,11,12,13,14,15,16,17,18,19,20,21,22,23,24,25,26,27,28,29,30,31,32,33,34,35]) ?_ ?_
 rotate_left
 ·intro hrest
  have H:=o148h
  rcases Zf H with ⟨hb146,H⟩ | ⟨hb146,H⟩
  ·skip
   have D16:∃ Mx,Hp.le M Mx∧St _ Mx F [_,_,_,_,_,_]:=⟨_,Hp.le_refl _,S.pick [0,1,2,3,4,5] (by decide)⟩
   refine WtN 28 rfl rfl rfl rfl (skF hb146) D16 (WtN 29 rfl rfl rfl rfl (skF hb146) D16 (WtN 30 rfl rfl rfl rfl (skF hb146) D16 (WtN 31 rfl rfl rfl rfl (skF hb146) D16 (WtN 32 rfl rfl rfl rfl (skF hb146) D16 (WtN 33 rfl rfl rfl rfl (skF hb146) D16 (WtN 34 rfl rfl rfl rfl (skF hb146) D16 (Wt 35 rfl rfl rfl (.bool true) rfl (fun w' h'=>QV (k:=true) (congrArg Value.bool hb146) rfl) D16 ?_)))))))
   exact hrest _ _ ⟨true,Option.some.inj H,⟨rfl,rfl,rfl,rfl,trivial⟩,E,S.pick [0,1,2,3,4,5] (by decide)⟩
  ·skip
   have D17:∃ Mx,Hp.le M Mx∧St _ Mx F [_,_,_,_,_,_]:=⟨_,Hp.le_refl _,S.pick [0,1,2,3,4,5] (by decide)⟩
   refine WtY 28 rfl rfl rfl (pt bo0 0) rfl (congrArg some hb146) (fun w' h'=>QD rfl) D17 (WtY 30 rfl rfl rfl (pt bo1 0) rfl (congrArg some hb146) (fun w' h'=>QD rfl) D17 (WtY 31 rfl rfl rfl (pt bo1 0) rfl (congrArg some hb146) (fun w' h'=>Qo rfl) D17 (WtY 32 rfl rfl rfl (pt bo1 10) rfl (congrArg some hb146) (fun w' h'=>QC (o:=0) (off:=10) Tryd.underlying121 rfl ty3 rfl rfl) D17 (WtY 33 rfl rfl rfl (vI a1.Time) rfl (congrArg some hb146) (fun w' h'=>QO (Qp h' 0 rfl) ty3 rfl rfl) D17 ?_))))
   refine Wo 29 rfl ?_
   refine QP (congrArg some hb146) ?_
   obtain ⟨t149,ht150,H⟩:=QW H
   replace S:St w140 M F [_,_,_,_,_,_]:=S.pick [1,2,3,4,5,0] (by decide)
   refine Z5 fn19 (YN.con k M A0_8 c0_8 A0_9 c0_9 A0_10 c0_10 A0_11 c0_11 vs0_11 a0 bo0 t149 hm0_11 ht150) (Γ1:=[_,_,_,_,_]) (Γ2:=[_]) S rfl rfl (by rintro _ _ _ ⟨rfl,rfl⟩;exact (QN ZW (QN Qu (QN Qu (QN (YI (fun _ _ _ _ h=>h)) (QN Qu Qd)))))) ?_
   rintro _ w151 _ Γ' E' S ⟨rfl,rfl⟩
   replace E:=E.trans E'
   replace S:St w151 M F [_,_,_,_,_,_]:=S
   refine QB (YU ⟨.inr ⟨M,Hp.le_refl M,(S.pick [5,0,1,2,3,4] (by decide))⟩,?_⟩)
   have D18:∃ Mx,Hp.le M Mx∧St _ Mx F [_,_,_,_,_,_]:=⟨_,Hp.le_refl _,S.pick [5,0,1,2,3,4] (by decide)⟩
   refine WtY 34 rfl rfl rfl (.bool (t149 != a1.Time)) rfl (congrArg some hb146) (fun w' h'=>Qa rfl rfl rfl rfl) D18 (Wt 35 rfl rfl rfl (.bool (t149 != a1.Time)) rfl (fun w' h'=>QV (k:=false) (congrArg Value.bool hb146) rfl) D18 ?_)
   exact hrest _ _ ⟨(t149 != a1.Time),Option.some.inj H,⟨rfl,rfl,rfl,rfl,trivial⟩,E,S.pick [5,0,1,2,3,4] (by decide)⟩
 rintro ρ w154 ⟨x147,rfl,hρ,E,S⟩
 rw [QI hρ]
 have H:=o148H
 refine Wt 36 rfl rfl rfl (.bool x147) rfl (fun w' h'=>QD rfl) (⟨M,Hp.le_refl M,(S.pick [0,1,2,3,4,5] (by decide))⟩) ?_
 obtain ⟨o162,o162h,o162H⟩:=QW H
 refine YD (fun ρ w'=>∃ (x161:Bool),(x161)=o162∧Qi ρ [(0,pt bo0 0),(1,pt bo1 0),(2,vS a2),(86,.bool x161)]∧Ext w w'∧St w' M F [B121 bo1 a1 A1_8 c1_8 A1_9 c1_9,B94 bo0 a0 A0_8 A0_9 A0_10 c0_10 A0_11,QT QF (Value.int .i64) A0_8 a0.names,QT (Value.int .i64) (Value.int .i64) A0_9 a0.many,Row QL 99 (.slice A0_10 a0.txs.length c0_10) a0.txs,QT encS (fun v:Value=>v) A0_11 vs0_11]) 0 (Ls 45 [0,1,2,3,4,5,6,7,8,9,10,11,12,13,14,15,16,17,18,19,20,21,22,23,24,25,26,27,28,29,30,31,32,33,34,35,36,37,38,39,40,41,42,43,44]) ?_ ?_
 rotate_left
 ·intro hrest
  have H:=o162h
  rcases Zf H with ⟨hb160,H⟩ | ⟨hb160,H⟩
  ·skip
   have D20:∃ Mx,Hp.le M Mx∧St _ Mx F [_,_,_,_,_,_]:=⟨_,Hp.le_refl _,S.pick [0,1,2,3,4,5] (by decide)⟩
   refine WtN 37 rfl rfl rfl rfl (skF hb160) D20 (WtN 38 rfl rfl rfl rfl (skF hb160) D20 (WtN 39 rfl rfl rfl rfl (skF hb160) D20 (WtN 40 rfl rfl rfl rfl (skF hb160) D20 (WtN 41 rfl rfl rfl rfl (skF hb160) D20 (WtN 42 rfl rfl rfl rfl (skF hb160) D20 (WtN 43 rfl rfl rfl rfl (skF hb160) D20 (Wt 44 rfl rfl rfl (.bool true) rfl (fun w' h'=>QV (k:=true) (congrArg Value.bool hb160) rfl) D20 ?_)))))))
   exact hrest _ _ ⟨true,Option.some.inj H,⟨rfl,rfl,rfl,rfl,trivial⟩,E,S.pick [0,1,2,3,4,5] (by decide)⟩
  ·skip
   have D21:∃ Mx,Hp.le M Mx∧St _ Mx F [_,_,_,_,_,_]:=⟨_,Hp.le_refl _,S.pick [0,1,2,3,4,5] (by decide)⟩
   refine WtY 37 rfl rfl rfl (pt bo0 0) rfl (congrArg some hb160) (fun w' h'=>QD rfl) D21 (WtY 39 rfl rfl rfl (pt bo1 0) rfl (congrArg some hb160) (fun w' h'=>QD rfl) D21 (WtY 40 rfl rfl rfl (pt bo1 0) rfl (congrArg some hb160) (fun w' h'=>Qo rfl) D21 (WtY 41 rfl rfl rfl (pt bo1 11) rfl (congrArg some hb160) (fun w' h'=>QC (o:=0) (off:=11) Tryd.underlying121 rfl ty3 rfl rfl) D21 (WtY 42 rfl rfl rfl (vI a1.Low) rfl (congrArg some hb160) (fun w' h'=>QO (Qp h' 0 rfl) ty3 rfl rfl) D21 ?_))))
   refine Wo 38 rfl ?_
   refine QP (congrArg some hb160) ?_
   obtain ⟨t163,ht164,H⟩:=QW H
   replace S:St w154 M F [_,_,_,_,_,_]:=S.pick [1,2,3,4,5,0] (by decide)
   refine Z5 fn28 (Ym.con k M A0_8 c0_8 A0_9 c0_9 A0_10 c0_10 A0_11 c0_11 vs0_11 a0 bo0 t163 hm0_11 ht164) (Γ1:=[_,_,_,_,_]) (Γ2:=[_]) S rfl rfl (by rintro _ _ _ ⟨rfl,rfl⟩;exact (QN ZW (QN Qu (QN Qu (QN (YI (fun _ _ _ _ h=>h)) (QN Qu Qd)))))) ?_
   rintro _ w165 _ Γ' E' S ⟨rfl,rfl⟩
   replace E:=E.trans E'
   replace S:St w165 M F [_,_,_,_,_,_]:=S
   refine QB (YU ⟨.inr ⟨M,Hp.le_refl M,(S.pick [5,0,1,2,3,4] (by decide))⟩,?_⟩)
   have D22:∃ Mx,Hp.le M Mx∧St _ Mx F [_,_,_,_,_,_]:=⟨_,Hp.le_refl _,S.pick [5,0,1,2,3,4] (by decide)⟩
   refine WtY 43 rfl rfl rfl (.bool (t163 != a1.Low)) rfl (congrArg some hb160) (fun w' h'=>Qa rfl rfl rfl rfl) D22 (Wt 44 rfl rfl rfl (.bool (t163 != a1.Low)) rfl (fun w' h'=>QV (k:=false) (congrArg Value.bool hb160) rfl) D22 ?_)
   exact hrest _ _ ⟨(t163 != a1.Low),Option.some.inj H,⟨rfl,rfl,rfl,rfl,trivial⟩,E,S.pick [5,0,1,2,3,4] (by decide)⟩
 rintro ρ w168 ⟨x161,rfl,hρ,E,S⟩
 rw [QI hρ]
 have H:=o162H
 refine Wz ?_
 refine tn ?_
 rcases Zf H with ⟨hb169,H⟩ | ⟨hb169,H⟩
 ·refine QQ (congrArg Value.bool hb169) ?_
  refine QE (QA (W_v (.bool false) (QG rfl) rfl (QB (tn ?_))))
  refine Qs ?_
  refine tr (?_)
  obtain rfl:=Option.some.inj H
  exact ⟨_,_,_,fun w1 e1=>QX (vs:=[.bool false]) (FA.cons (rfl) (FA.nil)),HM,E,S.pick [1,2,3,4,5,0] (by decide),⟨rfl,rfl⟩⟩
 refine QK (congrArg Value.bool hb169) (Qr (tn ?_))
 as_aux_lemma =>
 refine QE (QA (W_v (pt bo0 0) (QD rfl) rfl ?_))
 obtain ⟨t170,ht171,H⟩:=QW H
 replace S:St w168 M F [_,_,_,_,_,_]:=S.pick [1,2,3,4,5,0] (by decide)
 refine Z5 fn27 (ZR.con k M A0_8 c0_8 A0_9 c0_9 A0_10 c0_10 A0_11 c0_11 vs0_11 a0 bo0 t170 hm0_11 ht171) (Γ1:=[_,_,_,_,_]) (Γ2:=[_]) S rfl rfl (by rintro _ _ _ ⟨_,_,rfl,rfl⟩;exact (QN (YI (fun _ _ _ _ h=>h)) (QN ZW (QN Qu (QN Qu (QN (YI (fun _ _ _ _ h=>h)) (QN Qu Qd))))))) ?_
 rintro _ w175 _ Γ' E' S ⟨A172,c173,rfl,rfl⟩
 replace E:=E.trans E'
 replace S:St w175 M F [_,_,_,_,_,_,_]:=S
 refine W_v (.slice A172 t170.length c173) (QG rfl) rfl (QB (tn (QE (QE (QA (W_v (.slice A172 t170.length c173) (QD rfl) rfl (W_v (vI (t170.length:Int)) (Q8 (n:=t170.length) Tryd.underlying67 rfl) rfl (W_v (pt bo1 0) (QD rfl) rfl (W_v (pt bo1 0) (Qo rfl) rfl (W_v (pt bo1 9) (QC (o:=0) (off:=9) Tryd.underlying121 rfl ty119 rfl rfl) rfl (W_v (.slice A1_9 a1.L.length c1_9) (QO (S.blk 6 rfl) ty119 rfl rfl) rfl (W_v (vI (a1.L.length:Int)) (Q8 (n:=a1.L.length) Tryd.underlying119 rfl) rfl (W_v (.bool ((t170.length:Int) != (a1.L.length:Int))) (Qa rfl rfl rfl rfl) rfl (QB (tn ?_)))))))))))))))
 rcases Zf H with ⟨hb178,H⟩ | ⟨hb178,H⟩
 ·refine QQ (congrArg Value.bool hb178) ?_
  refine QE (QA (W_v (.bool false) (QG rfl) rfl (QB (tn ?_))))
  refine Qs ?_
  refine tr (?_)
  obtain rfl:=Option.some.inj H
  exact ⟨_,_,_,fun w1 e1=>QX (vs:=[.bool false]) (FA.cons (rfl) (FA.nil)),HM,E,S.pick [1,2,3,4,5,6] (by decide),⟨rfl,rfl⟩⟩
 refine QK (congrArg Value.bool hb178) (Qr (tn (QE (QE (QA (W_v (vI 0) (QG rfl) rfl (QB (tn ?_))))))))
 obtain ⟨o647,o647h,o647H⟩:=QW H
 refine Yj (fun ρ w'=>.inr ()=o647∧Qi ρ [(0,pt bo0 0),(2,vS a2),(17,.slice A172 t170.length c173)]∧Ext w w'∧St w' M F [Row rStr 9 (.slice A172 t170.length c173) t170,B94 bo0 a0 A0_8 A0_9 A0_10 c0_10 A0_11,QT QF (Value.int .i64) A0_8 a0.names,QT (Value.int .i64) (Value.int .i64) A0_9 a0.many,Row QL 99 (.slice A0_10 a0.txs.length c0_10) a0.txs,QT encS (fun v:Value=>v) A0_11 vs0_11,B121 bo1 a1 A1_8 c1_8 A1_9 c1_9]) ?_ ?_
 ·skip
  refine Y3 (fun n ρ w'=>∃ (x491:Int),Zc a0 a1 t170 n x491=some o647∧Qi ρ [(0,pt bo0 0),(1,pt bo1 0),(2,vS a2),(17,.slice A172 t170.length c173),(18,vI x491)]∧Ext w w'∧St w' M F [Row rStr 9 (.slice A172 t170.length c173) t170,B94 bo0 a0 A0_8 A0_9 A0_10 c0_10 A0_11,QT QF (Value.int .i64) A0_8 a0.names,QT (Value.int .i64) (Value.int .i64) A0_9 a0.many,Row QL 99 (.slice A0_10 a0.txs.length c0_10) a0.txs,QT encS (fun v:Value=>v) A0_11 vs0_11,B121 bo1 a1 A1_8 c1_8 A1_9 c1_9]) k ?_ ?_
  ·skip
   exact ⟨(0:Int),o647h,⟨rfl,rfl,rfl,rfl,rfl,trivial⟩,E,S.pick [0,1,2,3,4,5,6] (by decide)⟩
  ·intro n
   rintro ρ w648 ⟨x491,H,hρ,E,S⟩
   rw [QI hρ]
   cases n with
   | zero=>cases H
   | succ k =>
    rw [Zc.eq_2] at H
    refine QE (QE (QA (W_v (vI x491) (QD rfl) rfl (W_v (.slice A172 t170.length c173) (QD rfl) rfl (W_v (vI (t170.length:Int)) (Q8 (n:=t170.length) Tryd.underlying67 rfl) rfl (W_v (.bool (decide (x491 < (t170.length:Int)))) (Qa rfl rfl rfl rfl) rfl (QB (tn ?_))))))))
    rcases Zf H with ⟨hb649,H⟩ | ⟨hb649,H⟩
    ·refine QQ (congrArg Value.bool hb649) ?_
     refine Qr (tn (QE ?_))
     refine YP ?_
     refine QE (QA (W_v (pt bo1 0) (QD rfl) rfl (W_v (pt bo1 0) (Qo rfl) rfl (W_v (pt bo1 9) (QC (o:=0) (off:=9) Tryd.underlying121 rfl ty119 rfl rfl) rfl (W_v (.slice A1_9 a1.L.length c1_9) (QO (S.blk 6 rfl) ty119 rfl rfl) rfl (W_v (vI x491) (QD rfl) rfl ?_))))))
     obtain ⟨⟨p650,p651⟩,H⟩:=Yy H
     obtain ⟨b652,o653,cs654,_,_,ee659,hb655,vs656,hR657,hc658⟩:=SlW.at' hr1_9 p650 p651
     obtain ⟨v663,hs662,rfl⟩:=hR657
     obtain ⟨A660,c661,rfl,_⟩:=hs662.form
     refine W_v (.pointer (some ⟨b652,o653+x491.toNat*7,none⟩)) (Qy Tryd.underlying119 ty127 (slA ee659) rfl p650 p651) rfl (W_v (.agg #[vS ((rd a1.L x491).Key),.slice A660 ((rd a1.L x491).L).length c661,.bool ((rd a1.L x491).Has),vI ((rd a1.L x491).I.Writer),vI ((rd a1.L x491).I.TS),.bool ((rd a1.L x491).I.Tomb),vS ((rd a1.L x491).I.Value)]) (ZA (S.frz hb655) ty127 rfl (Xa hc658 0 rfl) rfl rfl) rfl ?_)
     refine Zo S cz3 ty127 rfl rfl ?_
     intro b664 w665 E' S
     replace E:=E.trans E'
     refine Qx S 0 rfl ty127 rfl rfl [vS ((rd a1.L x491).Key),.slice A660 ((rd a1.L x491).L).length c661,.bool ((rd a1.L x491).Has),vI ((rd a1.L x491).I.Writer),vI ((rd a1.L x491).I.TS),.bool ((rd a1.L x491).I.Tomb),vS ((rd a1.L x491).I.Value)] rfl rfl rfl #[vS ((rd a1.L x491).Key),.slice A660 ((rd a1.L x491).L).length c661,.bool ((rd a1.L x491).Has),vI ((rd a1.L x491).I.Writer),vI ((rd a1.L x491).I.TS),.bool ((rd a1.L x491).I.Tomb),vS ((rd a1.L x491).I.Value)] (by as_aux_lemma=>kernel_rfl) rfl ?_
     intro w667 E' S
     replace E:=E.trans E'
     refine QB (tn (QE (QA (W_v (pt bo0 0) (QD rfl) rfl (W_v (pt b664 0) (QC (o:=0) (off:=0) Tryd.underlying127 rfl ty9 rfl rfl) rfl (W_v (vS ((rd a1.L x491).Key)) (QO (S.blk 0 rfl) ty9 rfl rfl) rfl ?_))))))
     obtain ⟨t668,ht669,H⟩:=QW H
     replace S:St w667 M F [_,_,_,_,_,_,_,_]:=S.pick [2,3,4,5,6,0,1,7] (by decide)
     refine Z5 fn24 (Zs.con k M A0_8 c0_8 A0_9 c0_9 A0_10 c0_10 A0_11 c0_11 vs0_11 a0 ((rd a1.L x491).Key) bo0 t668 hm0_11 ht669) (Γ1:=[_,_,_,_,_]) (Γ2:=[_,_,_]) S rfl rfl (by rintro _ _ _ ⟨rfl,rfl⟩;exact (QN ZW (QN Qu (QN Qu (QN (YI (fun _ _ _ _ h=>h)) (QN Qu Qd)))))) ?_
     rintro _ w670 _ Γ' E' S ⟨rfl,rfl⟩
     replace E:=E.trans E'
     replace S:St w670 M F [_,_,_,_,_,_,_,_]:=S
     refine W_v (.tuple #[.agg #[vI t668.1.Writer,vI t668.1.TS,.bool t668.1.Tomb,vS t668.1.Value],.bool t668.2]) (QD rfl) rfl (W_v (.agg #[vI t668.1.Writer,vI t668.1.TS,.bool t668.1.Tomb,vS t668.1.Value]) (ZB rfl rfl) rfl (W_v (.bool t668.2) (ZB rfl rfl) rfl ?_))
     refine Zo S cz16 ty61 rfl rfl ?_
     intro b673 w674 E' S
     replace E:=E.trans E'
     refine Qx S 0 rfl ty61 rfl rfl [vI t668.1.Writer,vI t668.1.TS,.bool t668.1.Tomb,vS t668.1.Value] rfl rfl rfl #[vI t668.1.Writer,vI t668.1.TS,.bool t668.1.Tomb,vS t668.1.Value] rfl rfl ?_
     intro w676 E' S
     replace E:=E.trans E'
     refine W_v (.bool t668.2) (QG rfl) rfl (QB (tn ?_))
     as_aux_lemma =>
     refine QE (QA (W_v (pt bo0 0) (QD rfl) rfl (W_v (pt b664 0) (QC (o:=0) (off:=0) Tryd.underlying127 rfl ty9 rfl rfl) rfl (W_v (vS ((rd a1.L x491).Key)) (QO (S.blk 6 rfl) ty9 rfl rfl) rfl ?_))))
     obtain ⟨t677,ht678,H⟩:=QW H
     replace S:St w676 M F [_,_,_,_,_,_,_,_,_]:=S.pick [1,2,3,4,5,0,6,7,8] (by decide)
     refine Z5 fn26 (Zd.con k M A0_8 c0_8 A0_9 c0_9 A0_10 c0_10 A0_11 c0_11 vs0_11 a0 ((rd a1.L x491).Key) bo0 t677 hm0_11 ht678) (Γ1:=[_,_,_,_,_]) (Γ2:=[_,_,_,_]) S rfl rfl (by rintro _ _ _ ⟨_,_,rfl,rfl⟩;exact (QN (YI (fun _ _ _ _ h=>h)) (QN ZW (QN Qu (QN Qu (QN (YI (fun _ _ _ _ h=>h)) (QN Qu Qd))))))) ?_
     rintro _ w682 _ Γ' E' S ⟨A679,c680,rfl,rfl⟩
     replace E:=E.trans E'
     replace S:St w682 M F [_,_,_,_,_,_,_,_,_,_]:=S
     refine W_v (.slice A679 t677.length c680) (QG rfl) rfl (QB (tn (QE (QE ?_))))
     refine Q0 (S:=fun w'=>∃ Mx,M.le Mx∧St w' Mx F [Row Q4 61 (.slice A679 t677.length c680) t677,B94 bo0 a0 A0_8 A0_9 A0_10 c0_10 A0_11,QT QF (Value.int .i64) A0_8 a0.names,QT (Value.int .i64) (Value.int .i64) A0_9 a0.many,Row QL 99 (.slice A0_10 a0.txs.length c0_10) a0.txs,QT encS (fun v:Value=>v) A0_11 vs0_11,B61 b673 t668.1,B127 b664 (rd a1.L x491) A660 c661,Row rStr 9 (.slice A172 t170.length c173) t170,B121 bo1 a1 A1_8 c1_8 A1_9 c1_9]) (L:=26) mixed ?_
     intro w702 hw703 E'
     replace S:=S.heap hw703
     replace E:=E.trans E'
     have D23:∃ Mx,Hp.le M Mx∧St _ Mx F [_,_,_,_,_,_,_,_,_,_]:=⟨_,Hp.le_refl _,S.pick [0,1,2,3,4,5,6,7,8,9] (by decide)⟩
     refine Wt 0 rfl rfl rfl (.slice A172 t170.length c173) rfl (fun w' h'=>QD rfl) D23 (Wt 1 rfl rfl rfl (vI x491) rfl (fun w' h'=>QD rfl) D23 ?_)
     obtain ⟨⟨p704,p705⟩,H⟩:=Yy H
     obtain ⟨b706,o707,_,_,_,ee708,_⟩:=SlW.at' (S.row_read 8 rfl) p704 p705
     refine Wt 2 rfl rfl rfl (.pointer (some ⟨b706,o707+x491.toNat*1,none⟩)) rfl (fun w' h'=>Qy Tryd.underlying67 ty9 (slA ee708) rfl p704 p705) D23 (Wt 3 rfl rfl rfl (vS (rd t170 x491)) rfl (fun w' h'=>Va h' 8 rfl ee708 p704 p705 0 (by rintro _ _ rfl;rfl) ty9 rfl) D23 (Wt 4 rfl rfl rfl (pt b664 0) rfl (fun w' h'=>QC (o:=0) (off:=0) Tryd.underlying127 rfl ty9 rfl rfl) D23 (Wt 5 rfl rfl rfl (vS ((rd a1.L x491).Key)) rfl (fun w' h'=>QO (Qp h' 7 rfl) ty9 rfl rfl) D23 (Wt 6 rfl rfl rfl (.bool (sbin .neq (rd t170 x491) ((rd a1.L x491).Key))) rfl (fun w' h'=>Xy rfl rfl rfl) D23 (Wt 7 rfl rfl rfl (.bool (sbin .neq (rd t170 x491) ((rd a1.L x491).Key))) rfl (fun w' h'=>QD rfl) D23 ?_)))))
     refine YD (fun ρ w'=>Qi ρ [(0,pt bo0 0),(1,pt bo1 0),(2,vS a2),(17,.slice A172 t170.length c173),(18,vI x491),(19,pt b664 0),(20,pt b673 0),(22,.slice A679 t677.length c680),(133,.bool ((sbin .neq (rd t170 x491) ((rd a1.L x491).Key))||(!(t668.2==(rd a1.L x491).Has))))]∧w702=w') 13 (Ls 26 [0,1,2,3,4,5,6,7,8,9,10,11,12]) ?_ ?_
     rotate_left
     ·intro hrest
      rcases ZX (sbin .neq (rd t170 x491) ((rd a1.L x491).Key)) with hb709 | hb709
      ·skip
       have D24:∃ Mx,Hp.le M Mx∧St _ Mx F [_,_,_,_,_,_,_,_,_,_]:=⟨_,Hp.le_refl _,S.pick [0,1,2,3,4,5,6,7,8,9] (by decide)⟩
       refine WtY 8 rfl rfl rfl (.bool t668.2) rfl (congrArg some hb709) (fun w' h'=>QD rfl) D24 (WtY 9 rfl rfl rfl (pt b664 2) rfl (congrArg some hb709) (fun w' h'=>QC (o:=0) (off:=2) Tryd.underlying127 rfl ty4 rfl rfl) D24 (WtY 10 rfl rfl rfl (.bool ((rd a1.L x491).Has)) rfl (congrArg some hb709) (fun w' h'=>QO (Qp h' 7 rfl) ty4 rfl rfl) D24 (WtY 11 rfl rfl rfl (.bool (!(t668.2==(rd a1.L x491).Has))) rfl (congrArg some hb709) (fun w' h'=>q7 Tryd.underlying4 rfl rfl) D24 (Wt 12 rfl rfl rfl (.bool (!(t668.2==(rd a1.L x491).Has))) rfl (fun w' h'=>QV (k:=false) (congrArg Value.bool hb709) rfl) D24 ?_))))
       exact hrest _ _ ⟨⟨rfl,rfl,rfl,rfl,rfl,rfl,rfl,rfl,(by first | rfl | (rw [hb709];rfl) | (simp only [hb709];rfl)),trivial⟩,rfl⟩
      ·skip
       have D25:∃ Mx,Hp.le M Mx∧St _ Mx F [_,_,_,_,_,_,_,_,_,_]:=⟨_,Hp.le_refl _,S.pick [0,1,2,3,4,5,6,7,8,9] (by decide)⟩
       refine WtN 8 rfl rfl rfl rfl (skF hb709) D25 (WtN 9 rfl rfl rfl rfl (skF hb709) D25 (WtN 10 rfl rfl rfl rfl (skF hb709) D25 (WtN 11 rfl rfl rfl rfl (skF hb709) D25 (Wt 12 rfl rfl rfl (.bool true) rfl (fun w' h'=>QV (k:=true) (congrArg Value.bool hb709) rfl) D25 ?_))))
       exact hrest _ _ ⟨⟨rfl,rfl,rfl,rfl,rfl,rfl,rfl,rfl,(by first | rfl | (rw [hb709];rfl) | (simp only [hb709];rfl)),trivial⟩,rfl⟩
     rintro ρ _ ⟨hρ,rfl⟩
     rw [QI hρ]
     refine Wt 13 rfl rfl rfl (.bool ((sbin .neq (rd t170 x491) ((rd a1.L x491).Key))||(!(t668.2==(rd a1.L x491).Has)))) rfl (fun w' h'=>QD rfl) (⟨M,Hp.le_refl M,(S.pick [0,1,2,3,4,5,6,7,8,9] (by decide))⟩) ?_
     refine YD (fun ρ w'=>Qi ρ [(0,pt bo0 0),(1,pt bo1 0),(2,vS a2),(17,.slice A172 t170.length c173),(18,vI x491),(19,pt b664 0),(22,.slice A679 t677.length c680),(139,.bool (((sbin .neq (rd t170 x491) ((rd a1.L x491).Key))||(!(t668.2==(rd a1.L x491).Has)))||(!((t668.1.Writer==(rd a1.L x491).I.Writer)&&((t668.1.TS==(rd a1.L x491).I.TS)&&((t668.1.Tomb==(rd a1.L x491).I.Tomb)&&(t668.1.Value==(rd a1.L x491).I.Value)))))))]∧w702=w') 7 (Ls 26 [0,1,2,3,4,5,6,7,8,9,10,11,12,13,14,15,16,17,18]) ?_ ?_
     rotate_left
     ·intro hrest
      rcases ZX ((sbin .neq (rd t170 x491) ((rd a1.L x491).Key))||(!(t668.2==(rd a1.L x491).Has))) with hb710 | hb710
      ·skip
       have D27:∃ Mx,Hp.le M Mx∧St _ Mx F [_,_,_,_,_,_,_,_,_,_]:=⟨_,Hp.le_refl _,S.pick [0,1,2,3,4,5,6,7,8,9] (by decide)⟩
       refine WtY 14 rfl rfl rfl (.agg #[vI t668.1.Writer,vI t668.1.TS,.bool t668.1.Tomb,vS t668.1.Value]) rfl (congrArg some hb710) (fun w' h'=>ZA (Qp h' 6 rfl) ty61 rfl (QM rfl) rfl rfl) D27 (WtY 15 rfl rfl rfl (pt b664 3) rfl (congrArg some hb710) (fun w' h'=>QC (o:=0) (off:=3) Tryd.underlying127 rfl ty61 rfl rfl) D27 (WtY 16 rfl rfl rfl (.agg #[vI ((rd a1.L x491).I.Writer),vI ((rd a1.L x491).I.TS),.bool ((rd a1.L x491).I.Tomb),vS ((rd a1.L x491).I.Value)]) rfl (congrArg some hb710) (fun w' h'=>ZA (Qp h' 7 rfl) ty61 rfl (QM rfl) rfl rfl) D27 (WtY 17 rfl rfl rfl (.bool (!((t668.1.Writer==(rd a1.L x491).I.Writer)&&((t668.1.TS==(rd a1.L x491).I.TS)&&((t668.1.Tomb==(rd a1.L x491).I.Tomb)&&(t668.1.Value==(rd a1.L x491).I.Value)))))) rfl (congrArg some hb710) (fun w' h'=>Vc (en61 _ _ _ _) rfl (eq61 _ t668.1.Writer t668.1.TS t668.1.Tomb t668.1.Value ((rd a1.L x491).I.Writer) ((rd a1.L x491).I.TS) ((rd a1.L x491).I.Tomb) ((rd a1.L x491).I.Value))) D27 (Wt 18 rfl rfl rfl (.bool (!((t668.1.Writer==(rd a1.L x491).I.Writer)&&((t668.1.TS==(rd a1.L x491).I.TS)&&((t668.1.Tomb==(rd a1.L x491).I.Tomb)&&(t668.1.Value==(rd a1.L x491).I.Value)))))) rfl (fun w' h'=>QV (k:=false) (congrArg Value.bool hb710) rfl) D27 ?_))))
       exact hrest _ _ ⟨⟨rfl,rfl,rfl,rfl,rfl,rfl,rfl,(by first | rfl | (rw [hb710];rfl) | (simp only [hb710];rfl)),trivial⟩,rfl⟩
      ·skip
       have D28:∃ Mx,Hp.le M Mx∧St _ Mx F [_,_,_,_,_,_,_,_,_,_]:=⟨_,Hp.le_refl _,S.pick [0,1,2,3,4,5,6,7,8,9] (by decide)⟩
       refine WtN 14 rfl rfl rfl rfl (skF hb710) D28 (WtN 15 rfl rfl rfl rfl (skF hb710) D28 (WtN 16 rfl rfl rfl rfl (skF hb710) D28 (WtN 17 rfl rfl rfl rfl (skF hb710) D28 (Wt 18 rfl rfl rfl (.bool true) rfl (fun w' h'=>QV (k:=true) (congrArg Value.bool hb710) rfl) D28 ?_))))
       exact hrest _ _ ⟨⟨rfl,rfl,rfl,rfl,rfl,rfl,rfl,(by first | rfl | (rw [hb710];rfl) | (simp only [hb710];rfl)),trivial⟩,rfl⟩
     rintro ρ _ ⟨hρ,rfl⟩
     rw [QI hρ]
     refine Wt 19 rfl rfl rfl (.bool (((sbin .neq (rd t170 x491) ((rd a1.L x491).Key))||(!(t668.2==(rd a1.L x491).Has)))||(!((t668.1.Writer==(rd a1.L x491).I.Writer)&&((t668.1.TS==(rd a1.L x491).I.TS)&&((t668.1.Tomb==(rd a1.L x491).I.Tomb)&&(t668.1.Value==(rd a1.L x491).I.Value))))))) rfl (fun w' h'=>QD rfl) (⟨M,Hp.le_refl M,(S.pick [0,1,2,3,4,5,6,7,8,9] (by decide))⟩) ?_
     obtain ⟨o716,o716h,o716H⟩:=QW H
     refine YD (fun ρ w'=>∃ (x715:Bool),(x715)=o716∧Qi ρ [(0,pt bo0 0),(1,pt bo1 0),(2,vS a2),(17,.slice A172 t170.length c173),(18,vI x491),(22,.slice A679 t677.length c680),(146,.bool x715)]∧Ext w w'∧St w' M F [Row Q4 61 (.slice A679 t677.length c680) t677,B94 bo0 a0 A0_8 A0_9 A0_10 c0_10 A0_11,QT QF (Value.int .i64) A0_8 a0.names,QT (Value.int .i64) (Value.int .i64) A0_9 a0.many,Row QL 99 (.slice A0_10 a0.txs.length c0_10) a0.txs,QT encS (fun v:Value=>v) A0_11 vs0_11,B61 b673 t668.1,B127 b664 (rd a1.L x491) A660 c661,Row rStr 9 (.slice A172 t170.length c173) t170,B121 bo1 a1 A1_8 c1_8 A1_9 c1_9]) 0 (Ls 26 [0,1,2,3,4,5,6,7,8,9,10,11,12,13,14,15,16,17,18,19,20,21,22,23,24,25]) ?_ ?_
     rotate_left
     ·intro hrest
      have H:=o716h
      rcases Zf H with ⟨hb714,H⟩ | ⟨hb714,H⟩
      ·skip
       have D30:∃ Mx,Hp.le M Mx∧St _ Mx F [_,_,_,_,_,_,_,_,_,_]:=⟨_,Hp.le_refl _,S.pick [0,1,2,3,4,5,6,7,8,9] (by decide)⟩
       refine WtN 20 rfl rfl rfl rfl (skF hb714) D30 (WtN 21 rfl rfl rfl rfl (skF hb714) D30 (WtN 22 rfl rfl rfl rfl (skF hb714) D30 (WtN 23 rfl rfl rfl rfl (skF hb714) D30 (WtN 24 rfl rfl rfl rfl (skF hb714) D30 (Wt 25 rfl rfl rfl (.bool true) rfl (fun w' h'=>QV (k:=true) (congrArg Value.bool hb714) rfl) D30 ?_)))))
       exact hrest _ _ ⟨true,Option.some.inj H,⟨rfl,rfl,rfl,rfl,rfl,rfl,rfl,trivial⟩,E,S.pick [0,1,2,3,4,5,6,7,8,9] (by decide)⟩
      ·skip
       have D31:∃ Mx,Hp.le M Mx∧St _ Mx F [_,_,_,_,_,_,_,_,_,_]:=⟨_,Hp.le_refl _,S.pick [0,1,2,3,4,5,6,7,8,9] (by decide)⟩
       refine WtY 20 rfl rfl rfl (.slice A679 t677.length c680) rfl (congrArg some hb714) (fun w' h'=>QD rfl) D31 (WtY 21 rfl rfl rfl (pt b664 1) rfl (congrArg some hb714) (fun w' h'=>QC (o:=0) (off:=1) Tryd.underlying127 rfl ty65 rfl rfl) D31 (WtY 22 rfl rfl rfl (.slice A660 ((rd a1.L x491).L).length c661) rfl (congrArg some hb714) (fun w' h'=>QO (Qp h' 7 rfl) ty65 rfl rfl) D31 ?_))
       refine Wo 23 rfl ?_
       refine QP (congrArg some hb714) ?_
       obtain ⟨t717,ht718,H⟩:=QW H
       refine Xw 1 fn53 (fun h9 hs9 hd9=>Yp.con k _ A679 c680 t677 A660 c661 ((rd a1.L x491).L) t717 (Sats.row hs9 hd9 0 rfl) (SlR.mono hs662 (Hp.le_union_left _ _)) ht718) S rfl rfl (by rintro _ _ _ ⟨_,rfl⟩;exact Qd) ?_
       rintro _ w719 _ Γ' E' S ⟨rfl,rfl⟩
       replace E:=E.trans E'
       refine QB (YU ⟨.inr ⟨M,Hp.le_refl M,(S.pick [0,1,2,3,4,5,6,7,8,9] (by decide))⟩,?_⟩)
       have D32:∃ Mx,Hp.le M Mx∧St _ Mx F [_,_,_,_,_,_,_,_,_,_]:=⟨_,Hp.le_refl _,S.pick [0,1,2,3,4,5,6,7,8,9] (by decide)⟩
       refine WtY 24 rfl rfl rfl (.bool (!t717)) rfl (congrArg some hb714) (fun w' h'=>Y5 (b:=t717) rfl) D32 (Wt 25 rfl rfl rfl (.bool (!t717)) rfl (fun w' h'=>QV (k:=false) (congrArg Value.bool hb714) rfl) D32 ?_)
       exact hrest _ _ ⟨(!t717),Option.some.inj H,⟨rfl,rfl,rfl,rfl,rfl,rfl,rfl,trivial⟩,E,S.pick [0,1,2,3,4,5,6,7,8,9] (by decide)⟩
     rintro ρ w720 ⟨x715,rfl,hρ,E,S⟩
     rw [QI hρ]
     have H:=o716H
     refine Wz ?_
     refine tn ?_
     rcases Zf H with ⟨hb721,H⟩ | ⟨hb721,H⟩
     ·refine QQ (congrArg Value.bool hb721) ?_
      refine QE (QA (W_v (.bool false) (QG rfl) rfl (QB (tn ?_))))
      refine Qs ?_
      refine tr (br (tr (tr (br (tr (tr (?_)))))))
      obtain rfl:=Option.some.inj H
      have H:=o647H
      replace H:=elimL H
      obtain rfl:=Option.some.inj H
      exact ⟨_,_,_,fun w1 e1=>QX (vs:=[.bool false]) (FA.cons (rfl) (FA.nil)),HM,E,S.pick [1,2,3,4,5,9] (by decide),⟨rfl,rfl⟩⟩
     refine QK (congrArg Value.bool hb721) (Qr (tn ?_))
     as_aux_lemma =>
     refine QE (QA (W_v (vI 0) (QG rfl) rfl (QB (tn ?_))))
     obtain ⟨o785,o785h,o785H⟩:=QW H
     refine Yj (fun ρ w'=>()=o785∧Qi ρ [(0,pt bo0 0),(1,pt bo1 0),(2,vS a2),(17,.slice A172 t170.length c173),(18,vI x491)]∧Ext w w'∧St w' M F [B94 bo0 a0 A0_8 A0_9 A0_10 c0_10 A0_11,QT QF (Value.int .i64) A0_8 a0.names,QT (Value.int .i64) (Value.int .i64) A0_9 a0.many,Row QL 99 (.slice A0_10 a0.txs.length c0_10) a0.txs,QT encS (fun v:Value=>v) A0_11 vs0_11,Row rStr 9 (.slice A172 t170.length c173) t170,B121 bo1 a1 A1_8 c1_8 A1_9 c1_9]) ?_ ?_
     ·skip
      refine Y3 (fun n ρ w'=>∃ (x764:List QS) (x768:Int) (A765:Option Addr) (c766:Nat),Zb n x764 x768=some o785∧Qi ρ [(0,pt bo0 0),(1,pt bo1 0),(2,vS a2),(17,.slice A172 t170.length c173),(18,vI x491),(22,.slice A765 x764.length c766),(23,vI x768)]∧Ext w w'∧St w' M F [Row Q4 61 (.slice A765 x764.length c766) x764,B94 bo0 a0 A0_8 A0_9 A0_10 c0_10 A0_11,QT QF (Value.int .i64) A0_8 a0.names,QT (Value.int .i64) (Value.int .i64) A0_9 a0.many,Row QL 99 (.slice A0_10 a0.txs.length c0_10) a0.txs,QT encS (fun v:Value=>v) A0_11 vs0_11,Row rStr 9 (.slice A172 t170.length c173) t170,B121 bo1 a1 A1_8 c1_8 A1_9 c1_9]) k ?_ ?_
      ·skip
       exact ⟨t677,(0:Int),A679,c680,o785h,⟨rfl,rfl,rfl,rfl,rfl,rfl,rfl,trivial⟩,E,S.pick [0,1,2,3,4,5,8,9] (by decide)⟩
      ·intro n
       rintro ρ w786 ⟨x764,x768,A765,c766,H,hρ,E,S⟩
       rw [QI hρ]
       cases n with
       | zero=>cases H
       | succ k =>
        rw [Zb.eq_2] at H
        refine QE (QE (QA (W_v (vI x768) (QD rfl) rfl (W_v (.slice A765 x764.length c766) (QD rfl) rfl (W_v (vI (x764.length:Int)) (Q8 (n:=x764.length) Tryd.underlying65 rfl) rfl (W_v (.bool (decide (x768 < (x764.length:Int)))) (Qa rfl rfl rfl rfl) rfl (QB (tn ?_))))))))
        rcases Zf H with ⟨hb787,H⟩ | ⟨hb787,H⟩
        ·refine QQ (congrArg Value.bool hb787) ?_
         refine Qr (tn (QE ?_))
         refine YP ?_
         refine QA (W_v (.slice A765 x764.length c766) (QD rfl) rfl (W_v (vI x768) (QD rfl) rfl ?_))
         obtain ⟨⟨p788,p789⟩,H⟩:=Yy H
         obtain ⟨b790,o791,cs792,_,_,ee797,hb793,vs794,hR795,hc796⟩:=SlW.at' (S.row_read 0 rfl) p788 p789
         obtain rfl:vs794=_:=hR795
         refine W_v (.pointer (some ⟨b790,o791+x768.toNat*4,none⟩)) (Qy Tryd.underlying65 ty61 (slA ee797) rfl p788 p789) rfl (W_v (.pointer (some ⟨b790,o791+x768.toNat*4+3,none⟩)) (QC (o:=o791+x768.toNat*4) (off:=3) Tryd.underlying61 rfl ty9 rfl rfl) rfl ?_)
         obtain ⟨x799,he800,H⟩:=QW H
         replace he800:=Option.some.inj he800
         refine X6 S 0 rfl rfl ee797 (by first | exact p788 | simpa using p788) (by first | exact p789 | simpa using p789) 3 ty9 rfl rfl [vS cz17] rfl rfl rfl rfl (⟨(rd x764 x768).Writer,(rd x764 x768).TS,(rd x764 x768).Tomb,cz17⟩:QS) (by rintro _ rfl;rfl) he800 ?_
         intro w798 E' S
         replace E:=E.trans E'
         have hs801:Value.slice A765 x764.length c766=Value.slice A765 x799.length c766:=by rw [← he800,List.length_set]
         try unfold B94 at S
         try unfold B121 at S
         try rw [hs801] at S
         try rw [hs801]
         have p802:x768 < (x799.length:Int):=by rw [← he800,List.length_set];exact p789
         refine QB (bn (tn (QA (W_v (vI x768) (QD rfl) rfl (W_v (vI (IntKind.i64.wrap (x768+(1:Int)))) (Qa rfl rfl rfl rfl) rfl (W_v (vI (IntKind.i64.wrap (x768+(1:Int)))) (QG rfl) rfl (QB (tn ?_))))))))
         exact ⟨k,Nat.lt_succ_self k,⟨x799,(IntKind.i64.wrap (x768+(1:Int))),A765,c766,H,⟨rfl,rfl,rfl,rfl,rfl,rfl,rfl,trivial⟩,E,S.pick [0,1,2,3,4,5,6,7] (by decide)⟩⟩
        refine QK (congrArg Value.bool hb787) ?_
        refine Y0 ?_
        refine tx (tx (bsm (?_)))
        refine tn ?_
        exact ⟨Option.some.inj H,⟨rfl,rfl,rfl,rfl,rfl,trivial⟩,E,S.pick [1,2,3,4,5,6,7] (by decide)⟩
     rintro ρ w803 ⟨rfl,hρ,E,S⟩
     rw [QI hρ]
     have H:=o785H
     refine bn (tn (QA (W_v (vI x491) (QD rfl) rfl (W_v (vI (IntKind.i64.wrap (x491+(1:Int)))) (Qa rfl rfl rfl rfl) rfl (W_v (vI (IntKind.i64.wrap (x491+(1:Int)))) (QG rfl) rfl (QB (tn ?_)))))))
     exact ⟨k,Nat.lt_succ_self k,⟨(IntKind.i64.wrap (x491+(1:Int))),H,⟨rfl,rfl,rfl,rfl,rfl,trivial⟩,E,S.pick [5,0,1,2,3,4,6] (by decide)⟩⟩
    refine QK (congrArg Value.bool hb649) ?_
    refine Y0 ?_
    refine tx (tx (bsm (?_)))
    refine tn ?_
    exact ⟨Option.some.inj H,⟨rfl,rfl,rfl,trivial⟩,E,S.pick [0,1,2,3,4,5,6] (by decide)⟩
 rintro ρ w804 ⟨rfl,hρ,E,S⟩
 rw [QI hρ]
 have H:=o647H
 replace H:=elimR H
 refine tn ?_
 as_aux_lemma =>
 refine QE (QA (W_v (pt bo0 0) (QD rfl) rfl (W_v (vS a2) (QD rfl) rfl ?_)))
 obtain ⟨t805,ht806,H⟩:=QW H
 replace S:St w804 M F [_,_,_,_,_,_,_]:=S.pick [1,2,3,4,5,0,6] (by decide)
 refine Z5 fn24 (Zs.con k M A0_8 c0_8 A0_9 c0_9 A0_10 c0_10 A0_11 c0_11 vs0_11 a0 a2 bo0 t805 hm0_11 ht806) (Γ1:=[_,_,_,_,_]) (Γ2:=[_,_]) S rfl rfl (by rintro _ _ _ ⟨rfl,rfl⟩;exact (QN ZW (QN Qu (QN Qu (QN (YI (fun _ _ _ _ h=>h)) (QN Qu Qd)))))) ?_
 rintro _ w807 _ Γ' E' S ⟨rfl,rfl⟩
 replace E:=E.trans E'
 replace S:St w807 M F [_,_,_,_,_,_,_]:=S
 refine W_v (.tuple #[.agg #[vI t805.1.Writer,vI t805.1.TS,.bool t805.1.Tomb,vS t805.1.Value],.bool t805.2]) (QD rfl) rfl (W_v (.agg #[vI t805.1.Writer,vI t805.1.TS,.bool t805.1.Tomb,vS t805.1.Value]) (ZB rfl rfl) rfl (W_v (.bool t805.2) (ZB rfl rfl) rfl ?_))
 refine Zo S cz16 ty61 rfl rfl ?_
 intro b810 w811 E' S
 replace E:=E.trans E'
 refine Qx S 0 rfl ty61 rfl rfl [vI t805.1.Writer,vI t805.1.TS,.bool t805.1.Tomb,vS t805.1.Value] rfl rfl rfl #[vI t805.1.Writer,vI t805.1.TS,.bool t805.1.Tomb,vS t805.1.Value] rfl rfl ?_
 intro w813 E' S
 replace E:=E.trans E'
 refine W_v (.bool t805.2) (QG rfl) rfl (QB (tn (QE (QA (W_v (.bool t805.2) (QD rfl) rfl (W_v (.bool t805.2) (QD rfl) rfl ?_))))))
 obtain ⟨o832,o832h,o832H⟩:=QW H
 refine ZH 6 (fun ρ w'=>∃ (x831:Bool),(x831)=o832∧Qi ρ [(2,vS a2),(17,.slice A172 t170.length c173),(170,.bool x831)]∧Ext w w'∧St w' M F [B94 bo0 a0 A0_8 A0_9 A0_10 c0_10 A0_11,QT QF (Value.int .i64) A0_8 a0.names,QT (Value.int .i64) (Value.int .i64) A0_9 a0.many,Row QL 99 (.slice A0_10 a0.txs.length c0_10) a0.txs,QT encS (fun v:Value=>v) A0_11 vs0_11,Row rStr 9 (.slice A172 t170.length c173) t170,B121 bo1 a1 A1_8 c1_8 A1_9 c1_9]) ?_ ?_
 ·have H:=o832h
  rcases Zf H with ⟨hb830,H⟩ | ⟨hb830,H⟩
  ·skip
   refine QZ (skF hb830) rfl (QZ (skF hb830) rfl (QZ (skF hb830) rfl (QZ (skF hb830) rfl (QZ (skF hb830) rfl (W_v (.bool true) (QV (k:=true) (congrArg Value.bool hb830) rfl) rfl (QB ?_))))))
   exact ⟨true,Option.some.inj H,⟨rfl,rfl,rfl,trivial⟩,E,S.pick [1,2,3,4,5,6,7] (by decide)⟩
  ·skip
   refine QP (congrArg some hb830) (W_v (pt bo0 0) (QD rfl) rfl (QP (congrArg some hb830) (W_v (vS a2) (QD rfl) rfl (QP (congrArg some hb830) ?_))))
   obtain ⟨t833,ht834,H⟩:=QW H
   replace S:St w813 M F [_,_,_,_,_,_,_,_]:=S.pick [1,2,3,4,5,0,6,7] (by decide)
   refine Z5 fn26 (Zd.con k M A0_8 c0_8 A0_9 c0_9 A0_10 c0_10 A0_11 c0_11 vs0_11 a0 a2 bo0 t833 hm0_11 ht834) (Γ1:=[_,_,_,_,_]) (Γ2:=[_,_,_]) S rfl rfl (by rintro _ _ _ ⟨_,_,rfl,rfl⟩;exact (QN (YI (fun _ _ _ _ h=>h)) (QN ZW (QN Qu (QN Qu (QN (YI (fun _ _ _ _ h=>h)) (QN Qu Qd))))))) ?_
   rintro _ w838 _ Γ' E' S ⟨A835,c836,rfl,rfl⟩
   replace E:=E.trans E'
   replace S:St w838 M F [_,_,_,_,_,_,_,_,_]:=S
   refine QP (congrArg some hb830) (W_v (vI (t833.length:Int)) (Q8 (n:=t833.length) Tryd.underlying65 rfl) rfl (QP (congrArg some hb830) (W_v (.bool (decide ((t833.length:Int) > (0:Int)))) (Qa rfl rfl rfl rfl) rfl (W_v (.bool (decide ((t833.length:Int) > (0:Int)))) (QV (k:=false) (congrArg Value.bool hb830) rfl) rfl (QB ?_)))))
   exact ⟨(decide ((t833.length:Int) > (0:Int))),Option.some.inj H,⟨rfl,rfl,rfl,trivial⟩,E,S.pick [1,2,3,4,5,7,8] (by decide)⟩
 as_aux_lemma =>
 rintro ρ w841 ⟨x831,rfl,hρ,E,S⟩
 rw [QI hρ]
 have H:=o832H
 refine W_v (.bool x831) (QD rfl) rfl ?_
 obtain ⟨o850,o850h,o850H⟩:=QW H
 refine ZH 5 (fun ρ w'=>∃ (x849:Bool),(x849)=o850∧Qi ρ [(176,.bool x849)]∧Ext w w'∧St w' M F [B94 bo0 a0 A0_8 A0_9 A0_10 c0_10 A0_11,QT QF (Value.int .i64) A0_8 a0.names,QT (Value.int .i64) (Value.int .i64) A0_9 a0.many,Row QL 99 (.slice A0_10 a0.txs.length c0_10) a0.txs,QT encS (fun v:Value=>v) A0_11 vs0_11,B121 bo1 a1 A1_8 c1_8 A1_9 c1_9]) ?_ ?_
 ·have H:=o850h
  rcases Zf H with ⟨hb848,H⟩ | ⟨hb848,H⟩
  ·skip
   refine QZ (skF hb848) rfl (QZ (skF hb848) rfl (QZ (skF hb848) rfl (QZ (skF hb848) rfl (W_v (.bool true) (QV (k:=true) (congrArg Value.bool hb848) rfl) rfl (QB ?_)))))
   exact ⟨true,Option.some.inj H,⟨rfl,trivial⟩,E,S.pick [0,1,2,3,4,6] (by decide)⟩
  ·skip
   refine QP (congrArg some hb848) (W_v (.slice A172 t170.length c173) (QD rfl) rfl (QP (congrArg some hb848) (W_v (vS a2) (QD rfl) rfl (QP (congrArg some hb848) ?_))))
   replace S:St w841 M F [_,_,_,_,_,_,_]:=S.pick [5,0,1,2,3,4,6] (by decide)
   obtain ⟨t851,ht852,H⟩:=QW H
   refine Xw 1 fn68 (fun h9 hs9 hd9=>Yv.con k _ A172 c173 t170 a2 t851 (Sats.row hs9 hd9 0 rfl) ht852) S rfl rfl (by rintro _ _ _ ⟨_,rfl⟩;exact Qd) ?_
   rintro _ w853 _ Γ' E' S ⟨rfl,rfl⟩
   replace E:=E.trans E'
   refine QP (congrArg some hb848) (W_v (.bool (!t851)) (Y5 (b:=t851) rfl) rfl (W_v (.bool (!t851)) (QV (k:=false) (congrArg Value.bool hb848) rfl) rfl (QB ?_)))
   exact ⟨(!t851),Option.some.inj H,⟨rfl,trivial⟩,E,S.pick [1,2,3,4,5,6] (by decide)⟩
 rintro ρ w854 ⟨x849,rfl,hρ,E,S⟩
 rw [QI hρ]
 have H:=o850H
 refine W_v (.bool x849) (QG rfl) rfl (QB (tn ?_))
 refine Qs ?_
 obtain rfl:=Option.some.inj H
 exact ⟨_,_,_,fun w1 e1=>QX (vs:=[.bool x849]) (FA.cons (rfl) (FA.nil)),HM,E,S.pick [0,1,2,3,4,5] (by decide),⟨rfl,rfl⟩⟩
def YS (k:Nat) (a0:QH):Option (QH) :=
 some a0
theorem YS.mono {k:Nat} {a0:QH}:OLe (YS k a0) (YS (k+1) a0):=by
 unfold YS
 exact mo
theorem YS.con (k:Nat) (M:Hp) (A0_8:Option Addr) (c0_8:Nat) (A0_9:Option Addr) (c0_9:Nat) (a0:QH) (bo0:Nat) (r:QH) (hr0_8:SlR QY M (.slice A0_8 a0.T.length c0_8) a0.T) (hr0_9:SlR QU M (.slice A0_9 a0.L.length c0_9) a0.L) (h:YS k a0=some r):Con Tryd.prog 36 #[pt bo0 0] M [B121 bo0 a0 A0_8 c0_8 A0_9 c0_9] (fun v M' Γ'=>∃ (bq1:Nat) (Aq3:Option Addr) (cq4:Nat) (Aq6:Option Addr) (cq7:Nat),v=pt bq1 0∧SlR QY M' (.slice Aq3 r.T.length cq4) r.T∧SlR QU M' (.slice Aq6 r.L.length cq7) r.L∧Γ'=[B121 bq1 r Aq3 cq4 Aq6 cq7,B121 bo0 a0 A0_8 c0_8 A0_9 c0_9]):=by
 refine Qt Tryd.func36 rfl Tryd.ntmps36 Tryd.results36 rfl ?_
 intro w F rn S hrn
 have E:=Ext.refl w
 have HM:=Hp.le_refl M
 have H:=h
 unfold YS at H
 refine QE (QA (W_v (.pointer none) (QG rfl) rfl (QB (tn (QE (QA (W_v (pt bo0 0) (QD rfl) rfl (W_v (pt bo0 0) (Qo rfl) rfl (W_v (.agg #[vI a0.C.Tasks,vI a0.C.Active,vI a0.C.Keys,vI a0.C.Depth,vI a0.C.TS,vI a0.C.KeyLen,vI a0.C.ValLen,vI a0.C.Fan,.slice A0_8 a0.T.length c0_8,.slice A0_9 a0.L.length c0_9,vI a0.Time,vI a0.Low]) (ZA (S.blk 0 rfl) ty121 rfl (QM rfl) rfl rfl) rfl ?_)))))))))
 refine Zo S cz2 ty121 rfl rfl ?_
 intro b1 w2 E' S
 replace E:=E.trans E'
 refine Qx S 0 rfl ty121 rfl rfl [vI a0.C.Tasks,vI a0.C.Active,vI a0.C.Keys,vI a0.C.Depth,vI a0.C.TS,vI a0.C.KeyLen,vI a0.C.ValLen,vI a0.C.Fan,.slice A0_8 a0.T.length c0_8,.slice A0_9 a0.L.length c0_9,vI a0.Time,vI a0.Low] rfl rfl rfl #[vI a0.C.Tasks,vI a0.C.Active,vI a0.C.Keys,vI a0.C.Depth,vI a0.C.TS,vI a0.C.KeyLen,vI a0.C.ValLen,vI a0.C.Fan,.slice A0_8 a0.T.length c0_8,.slice A0_9 a0.L.length c0_9,vI a0.Time,vI a0.Low] (by as_aux_lemma=>kernel_rfl) rfl ?_
 intro w4 E' S
 replace E:=E.trans E'
 refine QB (tn (QE (QA (W_v (pt b1 0) (QG rfl) rfl (QB (tn ?_))))))
 refine Qs ?_
 obtain rfl:=Option.some.inj H
 exact ⟨_,_,_,fun w1 e1=>QX (vs:=[pt b1 0]) (FA.cons (rfl) (FA.nil)),HM,E,S.pick [0,1] (by decide),⟨b1,A0_8,c0_8,A0_9,c0_9,rfl,hr0_8,hr0_9,rfl⟩⟩
end Go.Proofs.YtcngjjlhdlbogaaDoor
