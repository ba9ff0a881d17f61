import Derived.Test.YtnjbjpaiepefoaaDoorGp2B
import Derived.Test.YtnjbjpaiepefoaaDoorGp2P0
import Derived.Test.YtnjbjpaiepefoaaDoorGp2P1
import Derived.Test.YtnjbjpaiepefoaaDoorGp2P3
namespace Go.Proofs.YtnjbjpaiepefoaaDoor
open Go
set_option linter.unusedVariables false
set_option linter.unusedSimpArgs false
set_option maxHeartbeats 80000000
set_option maxRecDepth 100000
def YD (k:Nat) (a0:Qo) (a1:(List (List QW))) (a2:(List QG)):Option (Bool × Int) :=
 (Option.bind (ZH k a0 a1) (fun t10=>(Sum.elim (fun t12=>some (false,(1:Int))) (Sum.elim (fun t13=>(if (decide ((a2.length:Int) > (24:Int))) = true then some (false,(40:Int)) else (Option.bind (Q8 k a2) (fun t59=>(if t59 = true then some (false,(4:Int)) else (Option.bind (XO k a2) (fun t128=>(Option.bind (Z4 k a0 a1 t128) (fun t139=>(Sum.elim (fun t141=>some (false,(1:Int))) (Sum.elim (fun t142=>some (false,(4:Int))) (fun t143=>(Option.bind (Yk k a0) (fun t188=>(Sum.elim (fun t190=>some (false,(1:Int))) (fun t191=>(Option.bind (Yd k ([(-1:Int)]:List Int) a0.Tasks) (fun t241=>(Option.bind (Zv k (0:Int) t241 t191 a2 a1) (fun t247=>some (t247,(0:Int)))))))) t188))))) t139))))))))) (Sum.elim (fun t14=>some (false,(1:Int))) (Sum.elim (fun t15=>some (false,(1:Int))) (fun t16=>some (false,(1:Int))))))) t10))
theorem YD.mono {k:Nat} {a0:Qo} {a1:(List (List QW))} {a2:(List QG)}:OLe (YD k a0 a1 a2) (YD (k + 1) a0 a1 a2):=by
 unfold YD
 have m1:=@Yk.mono
 have m2:=@Zv.mono
 have m3:=@ZH.mono
 have m4:=@XO.mono
 have m5:=@Z4.mono
 have m6:=@Q8.mono
 have m7:=@Yd.mono
 exact mo
theorem YD.con (k:Nat) (M:Hp) (a0:Qo) (A1:Option Addr) (c1:Nat) (a1:(List (List QW))) (A2:Option Addr) (c2:Nat) (a2:(List QG)) (r:Bool × Int) (hr1:SlR (rSl ZV) M (.slice A1 a1.length c1) a1) (hr2:SlR QK M (.slice A2 a2.length c2) a2) (hg0:∃ gt fr,M 0 = some (.cells cz1 gt fr)) (hg1:∃ gt fr,M 1 = some (.cells cz3 gt fr)) (h:YD k a0 a1 a2 = some r):Con Tryd.prog 10 #[.agg #[vI a0.Tasks,vI a0.Active,vI a0.Keys,vI a0.Depth,vI a0.TS,vI a0.KeyLen,vI a0.ValLen,vI a0.Fan],.slice A1 a1.length c1,.slice A2 a2.length c2] M [] (fun v M' Γ'=>v = .tuple #[.bool r.1,vI r.2] ∧ Γ' = []):=by
 refine Qa Tryd.func10 rfl Tryd.ntmps10 Tryd.results10 rfl ?_
 intro w F rn S hrn
 have E:=Ext.refl w
 have HM:=Hp.le_refl M
 have H:=h
 unfold YD at H
 refine QE (QA ?_)
 refine YO S #[vI a0.Tasks,vI a0.Active,vI a0.Keys,vI a0.Depth,vI a0.TS,vI a0.KeyLen,vI a0.ValLen,vI a0.Fan] rfl rfl rfl ?_
 intro b1 w2 E' S
 replace E:=E.trans E'
 refine YO S #[.slice A1 a1.length c1] rfl rfl rfl ?_
 intro b4 w5 E' S
 replace E:=E.trans E'
 refine YO S #[.slice A2 a2.length c2] rfl rfl rfl ?_
 intro b7 w8 E' S
 replace E:=E.trans E'
 refine W_v (.bool false) (QD rfl) rfl (W_v (vI 0) (QD rfl) rfl (QB (tn (QE (QE (QA (W_v (.agg #[vI a0.Tasks,vI a0.Active,vI a0.Keys,vI a0.Depth,vI a0.TS,vI a0.KeyLen,vI a0.ValLen,vI a0.Fan]) (Qh (S.blk 2 rfl) ty23 rfl (QI rfl) rfl rfl) rfl (W_v (.slice A1 a1.length c1) (QR (S.blk 1 rfl) ty24 rfl rfl) rfl ?_))))))))
 obtain ⟨t10,ht11,H⟩:=QX H
 rcases t10 with t12 | t13 | t14 | t15 | t16
 ·skip
  replace H:=elimL H
  refine Z2 fn27 (ZH.con k M a0 A1 c1 a1 (Sum.inl t12) hr1 ht11) (Γ1:=[]) (Γ2:=[_,_,_]) S rfl rfl (by rintro _ _ _ ⟨rfl,rfl⟩; exact Qd) ?_
  rintro _ w17 _ Γ' E' S ⟨rfl,rfl⟩
  replace E:=E.trans E'
  replace S:St w17 M F [_,_,_]:=S
  refine W_v (.tuple cz16) (QC rfl) rfl (W_v (.pointer none) (QQ rfl rfl) rfl (W_v (.bool false) (QQ rfl rfl) rfl (W_v (.pointer none) (QD rfl) rfl (W_v (.bool false) (QD rfl) rfl (QB (tn (QE (QA (W_v (.bool false) (QC rfl) rfl (W_v (.bool true) (Yx (b:=false) rfl) rfl (QB (tn (QL rfl (QE (QA ?_)))))))))))))))
  refine W_v (.bool false) (QD rfl) rfl (W_v (vI 1) (QD rfl) rfl (QB (tn ?_)))
  refine QY ?_
  refine tr (?_)
  obtain rfl:=Option.some.inj H
  exact ⟨_,_,_,fun w1 e1=>QO (vs:=[.bool false,vI 1]) (FA.cons (rfl) (FA.cons (rfl) (FA.nil))),HM,E,S.pick [] (by decide),⟨rfl,rfl⟩⟩
 ·skip
  replace H:=elimR H
  replace H:=elimL H
  refine ZZ fn27 (ZH.con k M a0 A1 c1 a1 (Sum.inr (Sum.inl t13)) hr1 ht11) (Γ1:=[]) (Γ2:=[_,_,_]) S rfl rfl ?_
  rintro _ w55 M56 Γ' hM57 E' S ⟨b20,A22,c23,b25,A27,c28,A30,c31,b33,A35,c36,A38,c39,A41,c42,A44,c45,vs47,A49,c50,A52,c53,rfl,hs24,hm48,rfl⟩
  replace hg0:=gup hg0 hM57
  replace hg1:=gup hg1 hM57
  replace HM:=Hp.le_trans HM hM57
  replace hr1:=SlR.mono hr1 hM57
  replace hr2:=SlR.mono hr2 hM57
  replace E:=E.trans E'
  replace S:St w55 M56 F [_,_,_,_,_,_,_,_,_,_,_,_,_,_]:=S
  refine W_v (.tuple #[pt b20 0,.bool true]) (QC rfl) rfl (W_v (pt b20 0) (QQ rfl rfl) rfl (W_v (.bool true) (QQ rfl rfl) rfl (W_v (pt b20 0) (QD rfl) rfl (W_v (.bool true) (QD rfl) rfl (QB (tn (QE (QA (W_v (.bool true) (QC rfl) rfl (W_v (.bool false) (Yx (b:=true) rfl) rfl (QB (tn (QJ rfl (Qg (tn ?_)))))))))))))))
  refine QE (QE (QA (W_v (.slice A2 a2.length c2) (QR (S.blk 11 rfl) ty25 rfl rfl) rfl (W_v (vI (a2.length:Int)) (Qt (n:=a2.length) Tryd.underlying25 rfl) rfl (W_v (.bool (decide ((a2.length:Int) > (24:Int)))) (QT rfl rfl rfl rfl) rfl (QB (tn ?_)))))))
  rcases Zh H with ⟨hb58,H⟩ | ⟨hb58,H⟩
  ·refine QL (congrArg Value.bool hb58) ?_
   refine QE (QA (W_v (.bool false) (QD rfl) rfl (W_v (vI 40) (QD rfl) rfl (QB (tn ?_)))))
   refine QY ?_
   refine tr (?_)
   obtain rfl:=Option.some.inj H
   exact ⟨_,_,_,fun w1 e1=>QO (vs:=[.bool false,vI 40]) (FA.cons (rfl) (FA.cons (rfl) (FA.nil))),HM,E,S.pick [] (by decide),⟨rfl,rfl⟩⟩
  refine QJ (congrArg Value.bool hb58) (Qg (tn (QE (QE (QA (W_v (.slice A2 a2.length c2) (QR (S.blk 11 rfl) ty25 rfl rfl) rfl ?_))))))
  obtain ⟨t59,ht60,H⟩:=QX H
  refine Z2 fn28 (Q8.con k M56 A2 c2 a2 t59 hr2 ht60) (Γ1:=[]) (Γ2:=[_,_,_,_,_,_,_,_,_,_,_,_,_,_]) S rfl rfl (by rintro _ _ _ ⟨rfl,rfl⟩; exact Qd) ?_
  rintro _ w61 _ Γ' E' S ⟨rfl,rfl⟩
  replace E:=E.trans E'
  replace S:St w61 M56 F [_,_,_,_,_,_,_,_,_,_,_,_,_,_]:=S
  refine QB (tn ?_)
  rcases Zh H with ⟨hb64,H⟩ | ⟨hb64,H⟩
  ·refine QL (congrArg Value.bool hb64) ?_
   refine QE (QA (W_v (.bool false) (QD rfl) rfl (W_v (vI 4) (QD rfl) rfl (QB (tn ?_)))))
   refine QY ?_
   refine tr (?_)
   obtain rfl:=Option.some.inj H
   exact ⟨_,_,_,fun w1 e1=>QO (vs:=[.bool false,vI 4]) (FA.cons (rfl) (FA.cons (rfl) (FA.nil))),HM,E,S.pick [] (by decide),⟨rfl,rfl⟩⟩
  refine QJ (congrArg Value.bool hb64) (Qg (tn ?_))
  as_aux_lemma =>
  refine QE (QE ?_)
  have LE125:=Hp.le_refl M56
  refine Ql (S:=fun w'=>∃ Mx,M56.le Mx ∧ St w' Mx F [B107 b20 t13 A22 c23 b25 b33 A49 c50 A52 c53,Blk b25 (.cells #[.slice A27 t13.r.tasks.length c28,.slice A30 t13.r.l.length c31] 144 (0,0)),Row Qx 161 (.slice A27 t13.r.tasks.length c28) t13.r.tasks,Row QK 55 (.slice A30 t13.r.l.length c31) t13.r.l,B95 b33 t13.m A35 A38 A41 c42 A44,QV QH (Value.int .i64) A35 t13.m.names,QV (Value.int .i64) (Value.int .i64) A38 t13.m.many,Row QP 122 (.slice A41 t13.m.txs.length c42) t13.m.txs,QV encS (fun v:Value=>v) A44 vs47,Row Q0 69 (.slice A49 t13.done.length c50) t13.done,Row (rInt .i64) 3 (.slice A52 t13.last.length c53) t13.last,Blk b7 (.cells #[.slice A2 a2.length c2] 25 (0,0)),Blk b4 (.cells #[.slice A1 a1.length c1] 24 (0,0)),B23 b1 a0]) (L:=10) mixed ?_
  intro w126 hw127 E'
  replace S:=S.heap hw127
  replace E:=E.trans E'
  have D1:∃ Mx,Hp.le M56 Mx ∧ St _ Mx F [_,_,_,_,_,_,_,_,_,_,_,_,_,_]:=⟨_,Hp.le_refl _,S.pick [0,1,2,3,4,5,6,7,8,9,10,11,12,13] (by decide)⟩
  refine Wt 0 rfl rfl rfl (.agg #[vI a0.Tasks,vI a0.Active,vI a0.Keys,vI a0.Depth,vI a0.TS,vI a0.KeyLen,vI a0.ValLen,vI a0.Fan]) rfl (fun w' h'=>Qh (Qj h' 13 rfl) ty23 rfl (QI rfl) rfl rfl) D1 (Wt 1 rfl rfl rfl (.slice A1 a1.length c1) rfl (fun w' h'=>QR (Qj h' 12 rfl) ty24 rfl rfl) D1 (Wt 2 rfl rfl rfl (.slice A2 a2.length c2) rfl (fun w' h'=>QR (Qj h' 11 rfl) ty25 rfl rfl) D1 ?_))
  refine Wo 3 rfl ?_
  obtain ⟨t128,ht129,H⟩:=QX H
  refine ZZ fn31 (XO.con k M56 A2 c2 a2 t128 hr2 ht129) (Γ1:=[]) (Γ2:=[_,_,_,_,_,_,_,_,_,_,_,_,_,_]) S rfl rfl ?_
  rintro _ w133 M134 Γ' hM135 E' S ⟨A130,c131,rfl,rfl⟩
  replace hg0:=gup hg0 hM135
  replace hg1:=gup hg1 hM135
  replace HM:=Hp.le_trans HM hM135
  replace LE125:=Hp.le_trans LE125 hM135
  replace hr1:=SlR.mono hr1 hM135
  replace hr2:=SlR.mono hr2 hM135
  replace E:=E.trans E'
  refine QB (YC ⟨.inr ⟨M134,LE125,(S.pick [1,2,3,4,5,6,7,8,9,10,11,12,13,14] (by decide))⟩,?_⟩)
  refine Wo 4 rfl ?_
  obtain ⟨M136,hM137,hf138,S⟩:=S.row_freeze 0 rfl
  replace hg0:=gup hg0 hM137
  replace hg1:=gup hg1 hM137
  replace HM:=Hp.le_trans HM hM137
  replace LE125:=Hp.le_trans LE125 hM137
  replace hr1:=SlR.mono hr1 hM137
  replace hr2:=SlR.mono hr2 hM137
  obtain ⟨t139,ht140,H⟩:=QX H
  rcases t139 with t141 | t142 | t143
  ·skip
   replace H:=elimL H
   refine Z2 fn30 (Z4.con k M136 a0 A1 c1 a1 A130 c131 t128 (Sum.inl t141) hr1 hf138 hg0 hg1 ht140) (Γ1:=[]) (Γ2:=[_,_,_,_,_,_,_,_,_,_,_,_,_,_]) S rfl rfl (by rintro _ _ _ ⟨rfl,rfl⟩; exact Qd) ?_
   rintro _ w144 _ Γ' E' S ⟨rfl,rfl⟩
   replace E:=E.trans E'
   replace S:St w144 M136 F [_,_,_,_,_,_,_,_,_,_,_,_,_,_]:=S
   refine QB (YC ⟨.inr ⟨M136,LE125,(S.pick [0,1,2,3,4,5,6,7,8,9,10,11,12,13] (by decide))⟩,?_⟩)
   refine Wt 5 rfl rfl rfl (.tuple cz17) rfl (fun w' h'=>QC rfl) (⟨M136,LE125,(S.pick [0,1,2,3,4,5,6,7,8,9,10,11,12,13] (by decide))⟩) (Wt 6 rfl rfl rfl (.pointer none) rfl (fun w' h'=>QQ rfl rfl) (⟨M136,LE125,(S.pick [0,1,2,3,4,5,6,7,8,9,10,11,12,13] (by decide))⟩) (Wt 7 rfl rfl rfl (vI 1) rfl (fun w' h'=>QQ rfl rfl) (⟨M136,LE125,(S.pick [0,1,2,3,4,5,6,7,8,9,10,11,12,13] (by decide))⟩) (Wt 8 rfl rfl rfl (.pointer none) rfl (fun w' h'=>QD rfl) (⟨M136,LE125,(S.pick [0,1,2,3,4,5,6,7,8,9,10,11,12,13] (by decide))⟩) (Wt 9 rfl rfl rfl (vI 1) rfl (fun w' h'=>QD rfl) (⟨M136,LE125,(S.pick [0,1,2,3,4,5,6,7,8,9,10,11,12,13] (by decide))⟩) ?_))))
   refine Wz ?_
   refine tn (QE (QA (W_v (vI 1) (QC rfl) rfl (W_v (.bool true) (QT rfl rfl rfl rfl) rfl (QB (tn (QL rfl (QE (QA (W_v (vI 1) (QC rfl) rfl (W_v (.bool false) (QD rfl) rfl (W_v (vI 1) (QD rfl) rfl (QB (tn ?_))))))))))))))
   refine QY ?_
   refine tr (?_)
   obtain rfl:=Option.some.inj H
   exact ⟨_,_,_,fun w1 e1=>QO (vs:=[.bool false,vI 1]) (FA.cons (rfl) (FA.cons (rfl) (FA.nil))),HM,E,S.pick [] (by decide),⟨rfl,rfl⟩⟩
  ·skip
   replace H:=elimR H
   replace H:=elimL H
   refine Z2 fn30 (Z4.con k M136 a0 A1 c1 a1 A130 c131 t128 (Sum.inr (Sum.inl t142)) hr1 hf138 hg0 hg1 ht140) (Γ1:=[]) (Γ2:=[_,_,_,_,_,_,_,_,_,_,_,_,_,_]) S rfl rfl (by rintro _ _ _ ⟨rfl,rfl⟩; exact Qd) ?_
   rintro _ w147 _ Γ' E' S ⟨rfl,rfl⟩
   replace E:=E.trans E'
   replace S:St w147 M136 F [_,_,_,_,_,_,_,_,_,_,_,_,_,_]:=S
   refine QB (YC ⟨.inr ⟨M136,LE125,(S.pick [0,1,2,3,4,5,6,7,8,9,10,11,12,13] (by decide))⟩,?_⟩)
   refine Wt 5 rfl rfl rfl (.tuple cz18) rfl (fun w' h'=>QC rfl) (⟨M136,LE125,(S.pick [0,1,2,3,4,5,6,7,8,9,10,11,12,13] (by decide))⟩) (Wt 6 rfl rfl rfl (.pointer none) rfl (fun w' h'=>QQ rfl rfl) (⟨M136,LE125,(S.pick [0,1,2,3,4,5,6,7,8,9,10,11,12,13] (by decide))⟩) (Wt 7 rfl rfl rfl (vI 4) rfl (fun w' h'=>QQ rfl rfl) (⟨M136,LE125,(S.pick [0,1,2,3,4,5,6,7,8,9,10,11,12,13] (by decide))⟩) (Wt 8 rfl rfl rfl (.pointer none) rfl (fun w' h'=>QD rfl) (⟨M136,LE125,(S.pick [0,1,2,3,4,5,6,7,8,9,10,11,12,13] (by decide))⟩) (Wt 9 rfl rfl rfl (vI 4) rfl (fun w' h'=>QD rfl) (⟨M136,LE125,(S.pick [0,1,2,3,4,5,6,7,8,9,10,11,12,13] (by decide))⟩) ?_))))
   refine Wz ?_
   refine tn (QE (QA (W_v (vI 4) (QC rfl) rfl (W_v (.bool true) (QT rfl rfl rfl rfl) rfl (QB (tn (QL rfl (QE (QA (W_v (vI 4) (QC rfl) rfl (W_v (.bool false) (QD rfl) rfl (W_v (vI 4) (QD rfl) rfl (QB (tn ?_))))))))))))))
   refine QY ?_
   refine tr (?_)
   obtain rfl:=Option.some.inj H
   exact ⟨_,_,_,fun w1 e1=>QO (vs:=[.bool false,vI 4]) (FA.cons (rfl) (FA.cons (rfl) (FA.nil))),HM,E,S.pick [] (by decide),⟨rfl,rfl⟩⟩
  ·skip
   replace H:=elimR H
   replace H:=elimR H
   refine ZZ fn30 (Z4.con k M136 a0 A1 c1 a1 A130 c131 t128 (Sum.inr (Sum.inr t143)) hr1 hf138 hg0 hg1 ht140) (Γ1:=[]) (Γ2:=[_,_,_,_,_,_,_,_,_,_,_,_,_,_]) S rfl rfl ?_
   rintro _ w185 M186 Γ' hM187 E' S ⟨b150,A152,c153,b155,A157,c158,A160,c161,b163,A165,c166,A168,c169,A171,c172,A174,c175,vs177,A179,c180,A182,c183,rfl,hs154,hm178,rfl⟩
   replace hg0:=gup hg0 hM187
   replace hg1:=gup hg1 hM187
   replace HM:=Hp.le_trans HM hM187
   replace LE125:=Hp.le_trans LE125 hM187
   replace hr1:=SlR.mono hr1 hM187
   replace hr2:=SlR.mono hr2 hM187
   replace E:=E.trans E'
   replace S:St w185 M186 F [_,_,_,_,_,_,_,_,_,_,_,_,_,_,_,_,_,_,_,_,_,_,_,_,_]:=S
   refine QB (YC ⟨.inr ⟨M186,LE125,(S.pick [11,12,13,14,15,16,17,18,19,20,21,22,23,24] (by decide))⟩,?_⟩)
   refine Wt 5 rfl rfl rfl (.tuple #[pt b150 0,vI 0]) rfl (fun w' h'=>QC rfl) (⟨M186,LE125,(S.pick [11,12,13,14,15,16,17,18,19,20,21,22,23,24] (by decide))⟩) (Wt 6 rfl rfl rfl (pt b150 0) rfl (fun w' h'=>QQ rfl rfl) (⟨M186,LE125,(S.pick [11,12,13,14,15,16,17,18,19,20,21,22,23,24] (by decide))⟩) (Wt 7 rfl rfl rfl (vI 0) rfl (fun w' h'=>QQ rfl rfl) (⟨M186,LE125,(S.pick [11,12,13,14,15,16,17,18,19,20,21,22,23,24] (by decide))⟩) (Wt 8 rfl rfl rfl (pt b150 0) rfl (fun w' h'=>QD rfl) (⟨M186,LE125,(S.pick [11,12,13,14,15,16,17,18,19,20,21,22,23,24] (by decide))⟩) (Wt 9 rfl rfl rfl (vI 0) rfl (fun w' h'=>QD rfl) (⟨M186,LE125,(S.pick [11,12,13,14,15,16,17,18,19,20,21,22,23,24] (by decide))⟩) ?_))))
   refine Wz ?_
   refine tn (QE (QA (W_v (vI 0) (QC rfl) rfl (W_v (.bool false) (QT rfl rfl rfl rfl) rfl (QB (tn (QJ rfl (Qg (tn (QE (QA (W_v (.agg #[vI a0.Tasks,vI a0.Active,vI a0.Keys,vI a0.Depth,vI a0.TS,vI a0.KeyLen,vI a0.ValLen,vI a0.Fan]) (Qh (S.blk 24 rfl) ty23 rfl (QI rfl) rfl rfl) rfl ?_))))))))))))
   obtain ⟨t188,ht189,H⟩:=QX H
   rcases t188 with t190 | t191
   ·skip
    replace H:=elimL H
    refine Z2 fn13 (Yk.con k M186 a0 (Sum.inl t190)  ht189) (Γ1:=[]) (Γ2:=[_,_,_,_,_,_,_,_,_,_,_,_,_,_,_,_,_,_,_,_,_,_,_,_,_]) S rfl rfl (by rintro _ _ _ ⟨rfl,rfl⟩; exact Qd) ?_
    rintro _ w192 _ Γ' E' S ⟨rfl,rfl⟩
    replace E:=E.trans E'
    replace S:St w192 M186 F [_,_,_,_,_,_,_,_,_,_,_,_,_,_,_,_,_,_,_,_,_,_,_,_,_]:=S
    refine W_v (.tuple cz17) (QC rfl) rfl (W_v (.pointer none) (QQ rfl rfl) rfl (W_v (vI 1) (QQ rfl rfl) rfl (W_v (.pointer none) (QD rfl) rfl (W_v (vI 1) (QD rfl) rfl (QB (tn (QE (QE (QA (W_v (vI 1) (QC rfl) rfl (W_v (.bool true) (QT rfl rfl rfl rfl) rfl (QB (tn (QL rfl (QE ?_)))))))))))))))
    refine QA (W_v (vI 1) (QC rfl) rfl (W_v (.bool false) (QD rfl) rfl (W_v (vI 1) (QD rfl) rfl (QB (tn ?_)))))
    refine QY ?_
    refine tr (?_)
    obtain rfl:=Option.some.inj H
    exact ⟨_,_,_,fun w1 e1=>QO (vs:=[.bool false,vI 1]) (FA.cons (rfl) (FA.cons (rfl) (FA.nil))),HM,E,S.pick [] (by decide),⟨rfl,rfl⟩⟩
   ·skip
    replace H:=elimR H
    refine ZZ fn13 (Yk.con k M186 a0 (Sum.inr t191)  ht189) (Γ1:=[]) (Γ2:=[_,_,_,_,_,_,_,_,_,_,_,_,_,_,_,_,_,_,_,_,_,_,_,_,_]) S rfl rfl ?_
    rintro _ w211 M212 Γ' hM213 E' S ⟨b195,A197,c198,A200,c201,A203,c204,A206,c207,vs209,rfl,hm210,rfl⟩
    replace hg0:=gup hg0 hM213
    replace hg1:=gup hg1 hM213
    replace HM:=Hp.le_trans HM hM213
    replace hr1:=SlR.mono hr1 hM213
    replace hr2:=SlR.mono hr2 hM213
    replace E:=E.trans E'
    replace S:St w211 M212 F [_,_,_,_,_,_,_,_,_,_,_,_,_,_,_,_,_,_,_,_,_,_,_,_,_,_,_,_,_,_]:=S
    refine W_v (.tuple #[pt b195 0,vI 0]) (QC rfl) rfl (W_v (pt b195 0) (QQ rfl rfl) rfl (W_v (vI 0) (QQ rfl rfl) rfl (W_v (pt b195 0) (QD rfl) rfl (W_v (vI 0) (QD rfl) rfl (QB (tn (QE (QE (QA (W_v (vI 0) (QC rfl) rfl (W_v (.bool false) (QT rfl rfl rfl rfl) rfl (QB (tn (QJ rfl (Qg ?_)))))))))))))))
    refine tn (QE (QA (W_v (.func (.func 32) #[] #[pt b7 0]) (Xz rfl) rfl ?_)))
    refine Zu S #[.nilFunc] ty81 rfl rfl ?_
    intro b214 w215 E' S
    replace E:=E.trans E'
    refine Q5 S 0 rfl ty81 rfl rfl [.func (.func 32) #[] #[pt b7 0]] rfl rfl rfl #[.func (.func 32) #[] #[pt b7 0]] rfl rfl ?_
    intro w217 E' S
    replace E:=E.trans E'
    refine QB (tn (QE (QA ?_)))
    refine Zu S #[.nilFunc] ty82 rfl rfl ?_
    intro b218 w219 E' S
    replace E:=E.trans E'
    refine QB (tn (QE (QA (W_v (.func (.func 35) #[] #[pt b7 0,pt b218 0,pt b4 0,pt b214 0]) (Xz rfl) rfl ?_))))
    refine Q5 S 0 rfl ty82 rfl rfl [.func (.func 35) #[] #[pt b7 0,pt b218 0,pt b4 0,pt b214 0]] rfl rfl rfl #[.func (.func 35) #[] #[pt b7 0,pt b218 0,pt b4 0,pt b214 0]] rfl rfl ?_
    intro w221 E' S
    replace E:=E.trans E'
    refine QB (tn (QE ?_))
    refine Ql (S:=fun w'=>∃ Mx,M212.le Mx ∧ St w' Mx F [Blk b218 (.cells #[.func (.func 35) #[] #[pt b7 0,pt b218 0,pt b4 0,pt b214 0]] 82 (0,0)),Blk b214 (.cells #[.func (.func 32) #[] #[pt b7 0]] 81 (0,0)),B95 b195 t191 A197 A200 A203 c204 A206,QV QH (Value.int .i64) A197 t191.names,QV (Value.int .i64) (Value.int .i64) A200 t191.many,Row QP 122 (.slice A203 t191.txs.length c204) t191.txs,QV encS (fun v:Value=>v) A206 vs209,B107 b150 t143 A152 c153 b155 b163 A179 c180 A182 c183,Blk b155 (.cells #[.slice A157 t143.r.tasks.length c158,.slice A160 t143.r.l.length c161] 144 (0,0)),Row Qx 161 (.slice A157 t143.r.tasks.length c158) t143.r.tasks,Row QK 55 (.slice A160 t143.r.l.length c161) t143.r.l,B95 b163 t143.m A165 A168 A171 c172 A174,QV QH (Value.int .i64) A165 t143.m.names,QV (Value.int .i64) (Value.int .i64) A168 t143.m.many,Row QP 122 (.slice A171 t143.m.txs.length c172) t143.m.txs,QV encS (fun v:Value=>v) A174 vs177,Row Q0 69 (.slice A179 t143.done.length c180) t143.done,Row (rInt .i64) 3 (.slice A182 t143.last.length c183) t143.last,B107 b20 t13 A22 c23 b25 b33 A49 c50 A52 c53,Blk b25 (.cells #[.slice A27 t13.r.tasks.length c28,.slice A30 t13.r.l.length c31] 144 (0,0)),Row Qx 161 (.slice A27 t13.r.tasks.length c28) t13.r.tasks,Row QK 55 (.slice A30 t13.r.l.length c31) t13.r.l,B95 b33 t13.m A35 A38 A41 c42 A44,QV QH (Value.int .i64) A35 t13.m.names,QV (Value.int .i64) (Value.int .i64) A38 t13.m.many,Row QP 122 (.slice A41 t13.m.txs.length c42) t13.m.txs,QV encS (fun v:Value=>v) A44 vs47,Row Q0 69 (.slice A49 t13.done.length c50) t13.done,Row (rInt .i64) 3 (.slice A52 t13.last.length c53) t13.last,Blk b7 (.cells #[.slice A2 a2.length c2] 25 (0,0)),Blk b4 (.cells #[.slice A1 a1.length c1] 24 (0,0)),B23 b1 a0]) (L:=9) mixed ?_
    intro w236 hw237 E'
    replace S:=S.heap hw237
    replace E:=E.trans E'
    have D2:∃ Mx,Hp.le M212 Mx ∧ St _ Mx F [_,_,_,_,_,_,_,_,_,_,_,_,_,_,_,_,_,_,_,_,_,_,_,_,_,_,_,_,_,_,_,_]:=⟨_,Hp.le_refl _,S.pick [0,1,2,3,4,5,6,7,8,9,10,11,12,13,14,15,16,17,18,19,20,21,22,23,24,25,26,27,28,29,30,31] (by decide)⟩
    refine Wt 0 rfl rfl rfl (.func (.func 35) #[] #[pt b7 0,pt b218 0,pt b4 0,pt b214 0]) rfl (fun w' h'=>QR (Qj h' 0 rfl) ty82 rfl rfl) D2 (Wt 2 rfl rfl rfl (pt b1 0) rfl (fun w' h'=>QF (o:=0) (off:=0) Tryd.underlying23 rfl ty3 rfl rfl) D2 (Wt 3 rfl rfl rfl (vI a0.Tasks) rfl (fun w' h'=>QR (Qj h' 31 rfl) ty3 rfl rfl) D2 (Wt 5 rfl rfl rfl (pt b195 0) rfl (fun w' h'=>QC rfl) D2 ?_)))
    refine Wo 1 rfl ?_
    refine Y6 S #[vI (-1)] Tryd.underlying36 ty3 rfl rfl #[vI 0] (by as_aux_lemma=>kernel_rfl) (by as_aux_lemma=>kernel_rfl) rfl ?_
    intro b238 w239 E' S
    replace E:=E.trans E'
    replace S:=S.blk_row (r:=(rInt .i64)) (l:=([(-1:Int)]:List Int)) 0 rfl 1 (Nat.le_refl 1) rfl (Cells.cons (vs:=[vI (-1)]) (rfl) Cells.nil)
    refine QB (YC ⟨.inr ⟨M212,Hp.le_refl M212,(S.pick [1,2,3,4,5,6,7,8,9,10,11,12,13,14,15,16,17,18,19,20,21,22,23,24,25,26,27,28,29,30,31,32] (by decide))⟩,?_⟩)
    refine Wo 4 rfl ?_
    obtain ⟨t241,ht242,H⟩:=QX H
    refine XX 1 fn38 (fun h9 hs9 hd9=>Yd.con k _ (some ⟨b238,0,none⟩) 1 ([(-1:Int)]:List Int) a0.Tasks t241 (Sats.row hs9 hd9 0 rfl) ht242) S rfl rfl (by rintro _ _ _ ⟨_,_,_,rfl⟩; exact (QS (Yb (fun _ _ _ _ h=>h)) Qd)) ?_
    rintro _ w246 _ Γ' E' S ⟨A243,c244,rfl,rfl⟩
    replace E:=E.trans E'
    refine QB (YC ⟨.inr ⟨M212,Hp.le_refl M212,(S.pick [2,3,4,5,6,7,8,9,10,11,12,13,14,15,16,17,18,19,20,21,22,23,24,25,26,27,28,29,30,31,32,33] (by decide))⟩,?_⟩)
    refine Wo 6 rfl ?_
    obtain ⟨t247,ht248,H⟩:=QX H
    replace S:St w246 M212 F [_,_,_,_,_,_,_,_,_,_,_,_,_,_,_,_,_,_,_,_,_,_,_,_,_,_,_,_,_,_,_,_,_,_]:=S.pick [0,4,5,6,7,8,31,2,32,3,1,9,10,11,12,13,14,15,16,17,18,19,20,21,22,23,24,25,26,27,28,29,30,33] (by decide)
    refine V8 (fs:=[]) (cap:=[pt b7 0,pt b218 0,pt b4 0,pt b214 0]) fn35 rfl (fun h9 hs9 hd9=>Zv.con k _ (0:Int) A243 c244 t241 A197 c198 A200 c201 A203 c204 A206 c207 vs209 t191 A2 c2 a2 A1 c1 a1 b195 b7 b218 b4 b214 t247 (Sats.row hs9 hd9 0 rfl) (YP.mono hm210 (Hp.le_union_left _ _)) (SlR.mono hr2 (Hp.le_union_left _ _)) (SlR.mono hr1 (Hp.le_union_left _ _)) (let ⟨gt,fr,h8⟩:=hg0; ⟨gt,fr,Hp.le_union_left _ _ _ _ h8⟩) (let ⟨gt,fr,h8⟩:=hg1; ⟨gt,fr,Hp.le_union_left _ _ _ _ h8⟩) ht248) (Δ:=[Row (rInt .i64) 3 (.slice A243 t241.length c244) t241]) (Γ1:=[_,_,_,_,_,_,_,_,_]) (Γ2:=[_,_,_,_,_,_,_,_,_,_,_,_,_,_,_,_,_,_,_,_,_,_,_,_]) S rfl rfl (by rintro _ _ _ ⟨rfl,rfl⟩; exact (QS ZQ (QS ZS (QS ZS (QS (Yb (fun _ _ _ _ h=>h)) (QS ZS (QS ZQ (QS ZQ (QS ZQ (QS ZQ Qd)))))))))) ?_
    rintro _ w249 _ Γ' E' S ⟨rfl,rfl⟩
    replace E:=E.trans E'
    replace S:St w249 M212 F [_,_,_,_,_,_,_,_,_,_,_,_,_,_,_,_,_,_,_,_,_,_,_,_,_,_,_,_,_,_,_,_,_,_]:=S
    refine QB (YC ⟨.inr ⟨M212,Hp.le_refl M212,(S.pick [6,8,0,1,2,3,4,11,12,13,14,15,16,17,18,19,20,21,22,23,24,25,26,27,28,29,30,31,32,5,7,33] (by decide))⟩,?_⟩)
    have D3:∃ Mx,Hp.le M212 Mx ∧ St _ Mx F [_,_,_,_,_,_,_,_,_,_,_,_,_,_,_,_,_,_,_,_,_,_,_,_,_,_,_,_,_,_,_,_]:=⟨_,Hp.le_refl _,S.pick [6,8,0,1,2,3,4,11,12,13,14,15,16,17,18,19,20,21,22,23,24,25,26,27,28,29,30,31,32,5,7,33] (by decide)⟩
    refine Wt 7 rfl rfl rfl (.bool t247) rfl (fun w' h'=>QD rfl) D3 (Wt 8 rfl rfl rfl (vI 0) rfl (fun w' h'=>QD rfl) D3 ?_)
    refine Wz ?_
    refine tn ?_
    refine QY ?_
    obtain rfl:=Option.some.inj H
    exact ⟨_,_,_,fun w1 e1=>QO (vs:=[.bool t247,vI 0]) (FA.cons (rfl) (FA.cons (rfl) (FA.nil))),HM,E,S.pick [] (by decide),⟨rfl,rfl⟩⟩
 ·skip
  replace H:=elimR H
  replace H:=elimR H
  replace H:=elimL H
  refine ZZ fn27 (ZH.con k M a0 A1 c1 a1 (Sum.inr (Sum.inr (Sum.inl t14))) hr1 ht11) (Γ1:=[]) (Γ2:=[_,_,_]) S rfl rfl ?_
  rintro _ w279 M280 Γ' hM281 E' S ⟨b252,A254,c255,b257,A259,c260,A262,c263,A265,c266,A268,c269,vs271,A273,c274,A276,c277,rfl,hs256,hm272,rfl⟩
  replace HM:=Hp.le_trans HM hM281
  replace E:=E.trans E'
  replace S:St w279 M280 F [_,_,_,_,_,_,_,_,_,_,_]:=S
  refine W_v (.tuple #[pt b252 0,.bool false]) (QC rfl) rfl (W_v (pt b252 0) (QQ rfl rfl) rfl (W_v (.bool false) (QQ rfl rfl) rfl (W_v (pt b252 0) (QD rfl) rfl (W_v (.bool false) (QD rfl) rfl (QB (tn (QE (QA (W_v (.bool false) (QC rfl) rfl (W_v (.bool true) (Yx (b:=false) rfl) rfl (QB (tn (QL rfl (QE (QA ?_)))))))))))))))
  refine W_v (.bool false) (QD rfl) rfl (W_v (vI 1) (QD rfl) rfl (QB (tn ?_)))
  refine QY ?_
  refine tr (?_)
  obtain rfl:=Option.some.inj H
  exact ⟨_,_,_,fun w1 e1=>QO (vs:=[.bool false,vI 1]) (FA.cons (rfl) (FA.cons (rfl) (FA.nil))),HM,E,S.pick [] (by decide),⟨rfl,rfl⟩⟩
 ·skip
  replace H:=elimR H
  replace H:=elimR H
  replace H:=elimR H
  replace H:=elimL H
  refine ZZ fn27 (ZH.con k M a0 A1 c1 a1 (Sum.inr (Sum.inr (Sum.inr (Sum.inl t15)))) hr1 ht11) (Γ1:=[]) (Γ2:=[_,_,_]) S rfl rfl ?_
  rintro _ w293 M294 Γ' hM295 E' S ⟨b282,A284,c285,A287,c288,A290,c291,rfl,hs286,rfl⟩
  replace HM:=Hp.le_trans HM hM295
  replace E:=E.trans E'
  replace S:St w293 M294 F [_,_,_,_,_,_]:=S
  refine W_v (.tuple #[pt b282 0,.bool false]) (QC rfl) rfl (W_v (pt b282 0) (QQ rfl rfl) rfl (W_v (.bool false) (QQ rfl rfl) rfl (W_v (pt b282 0) (QD rfl) rfl (W_v (.bool false) (QD rfl) rfl (QB (tn (QE (QA (W_v (.bool false) (QC rfl) rfl (W_v (.bool true) (Yx (b:=false) rfl) rfl (QB (tn (QL rfl (QE (QA ?_)))))))))))))))
  refine W_v (.bool false) (QD rfl) rfl (W_v (vI 1) (QD rfl) rfl (QB (tn ?_)))
  refine QY ?_
  refine tr (?_)
  obtain rfl:=Option.some.inj H
  exact ⟨_,_,_,fun w1 e1=>QO (vs:=[.bool false,vI 1]) (FA.cons (rfl) (FA.cons (rfl) (FA.nil))),HM,E,S.pick [] (by decide),⟨rfl,rfl⟩⟩
 ·skip
  replace H:=elimR H
  replace H:=elimR H
  replace H:=elimR H
  replace H:=elimR H
  refine ZZ fn27 (ZH.con k M a0 A1 c1 a1 (Sum.inr (Sum.inr (Sum.inr (Sum.inr t16)))) hr1 ht11) (Γ1:=[]) (Γ2:=[_,_,_]) S rfl rfl ?_
  rintro _ w315 M316 Γ' hM317 E' S ⟨b296,A298,c299,b301,A303,c304,A306,c307,A309,c310,A312,c313,rfl,hs300,rfl⟩
  replace HM:=Hp.le_trans HM hM317
  replace E:=E.trans E'
  replace S:St w315 M316 F [_,_,_,_,_,_,_,_,_]:=S
  refine W_v (.tuple #[pt b296 0,.bool false]) (QC rfl) rfl (W_v (pt b296 0) (QQ rfl rfl) rfl (W_v (.bool false) (QQ rfl rfl) rfl (W_v (pt b296 0) (QD rfl) rfl (W_v (.bool false) (QD rfl) rfl (QB (tn (QE (QA (W_v (.bool false) (QC rfl) rfl (W_v (.bool true) (Yx (b:=false) rfl) rfl (QB (tn (QL rfl (QE (QA ?_)))))))))))))))
  refine W_v (.bool false) (QD rfl) rfl (W_v (vI 1) (QD rfl) rfl (QB (tn ?_)))
  refine QY ?_
  refine tr (?_)
  obtain rfl:=Option.some.inj H
  exact ⟨_,_,_,fun w1 e1=>QO (vs:=[.bool false,vI 1]) (FA.cons (rfl) (FA.cons (rfl) (FA.nil))),HM,E,S.pick [] (by decide),⟨rfl,rfl⟩⟩
def XI (a0:(List QG)):Nat → List QG → Int → Option ((List QG))
 | 0,_,_=>none
 | k + 1,x90,x94=>(if (decide (x94 < (a0.length:Int))) = true then (if 0 ≤ x94 ∧ x94 < (a0.length:Int) then (Option.bind (XT k (rd a0 x94)) (fun t162=>(if x90.length + ([t162]:List QG).length ≤ 1759218604441 then XI a0 k (x90 ++ ([t162]:List QG)) (IntKind.i64.wrap (x94 + (1:Int))) else none))) else none) else some (x90))
theorem XI.mono {a0:(List QG)}:∀ {kl:Nat} {x0 x1},OLe (XI a0 kl x0 x1) (XI a0 (kl + 1) x0 x1):=by
 intro kl
 induction kl with
 | zero=>intros; exact OLe.none
 | succ kl ih =>
  intros
  rw [XI.eq_2,XI.eq_2]
  have m1:=@XT.mono
  exact mo
def Xk (k:Nat) (a0:(List QG)):Option ((List QG)) :=
 (Option.bind (XI a0 k ([]:List QG) (0:Int)) (fun x134=>some x134))
theorem Xk.mono {k:Nat} {a0:(List QG)}:OLe (Xk k a0) (Xk (k + 1) a0):=by
 unfold Xk
 have m1:=@XI.mono
 exact mo
theorem Xk.con (k:Nat) (M:Hp) (A0:Option Addr) (c0:Nat) (a0:(List QG)) (r:(List QG)) (hr0:SlR QK M (.slice A0 a0.length c0) a0) (h:Xk k a0 = some r):Con Tryd.prog 51 #[.slice A0 a0.length c0] M [] (fun v M' Γ'=>∃ (A0:Option Addr) (c0:Nat),v = .slice A0 r.length c0 ∧ Γ' = [Row QK 55 (.slice A0 r.length c0) r]):=by
 refine Qa Tryd.func51 rfl Tryd.ntmps51 Tryd.results51 rfl ?_
 intro w F rn S hrn
 have E:=Ext.refl w
 have HM:=Hp.le_refl M
 have H:=h
 unfold Xk at H
 refine QE (QA (W_v (.slice none 0 0) (QD rfl) rfl (QB (tn (QE (QA (W_v (.slice none 0 0) (QD rfl) rfl (QB (tn (QE (QE (QA (W_v (.slice A0 a0.length c0) (QC rfl) rfl (W_v (vI (a0.length:Int)) (Qt (n:=a0.length) Tryd.underlying25 rfl) rfl (W_v (vI 0) (QC rfl) rfl ?_)))))))))))))))
 refine QB (tn ?_)
 obtain ⟨o138,o138h,o138H⟩:=QX H
 refine Ya (fun ρ w'=>∃ (x134:List QG) (A135:Option Addr) (c136:Nat) (Mj:Hp),(x134) = o138 ∧ Qs ρ [(3,.slice A135 x134.length c136)] ∧ M.le Mj ∧ Ext w w' ∧ St w' Mj F [Row QK 55 (.slice A135 x134.length c136) x134]) ?_ ?_
 ·skip
  refine Y0 (fun n ρ w'=>∃ (x90:List QG) (x94:Int) (A91:Option Addr) (c92:Nat) (Mj:Hp),XI a0 n x90 x94 = some o138 ∧ Qs ρ [(3,.slice A91 x90.length c92),(6,.slice A0 a0.length c0),(7,vI (a0.length:Int)),(8,vI x94)] ∧ M.le Mj ∧ Ext w w' ∧ St w' Mj F [Row QK 55 (.slice A91 x90.length c92) x90]) k ?_ ?_
  ·skip
   replace S:=S.row_nil QK 55
   exact ⟨([]:List QG),(0:Int),none,0,M,o138h,⟨rfl,rfl,rfl,rfl,trivial⟩,(Hp.le_refl M),E,S.pick [0] (by decide)⟩
  ·intro n
   rintro ρ w140 ⟨x90,x94,A91,c92,M141,H,hρ,hM142,E,S⟩
   rw [QN hρ]
   replace HM:=Hp.le_trans HM hM142
   replace hr0:=SlR.mono hr0 hM142
   cases n with
   | zero=>cases H
   | succ k =>
    rw [XI.eq_2] at H
    refine QE (QA (W_v (.bool (decide (x94 < (a0.length:Int)))) (QT rfl rfl rfl rfl) rfl (QB (tn (QE ?_)))))
    rcases Zh H with ⟨hb143,H⟩ | ⟨hb143,H⟩
    ·refine QL (congrArg Value.bool hb143) ?_
     refine Qg (tn (QE ?_))
     refine Z0 ?_
     refine QE (QA ?_)
     obtain ⟨⟨p144,p145⟩,H⟩:=Zt H
     obtain ⟨b146,o147,cs148,_,_,ee153,hb149,vs150,hR151,hc152⟩:=SlW.at' hr0 p144 p145
     obtain ⟨v157,hs156,rfl⟩:=hR151
     obtain ⟨A154,c155,rfl,_⟩:=hs156.form
     refine W_v (.pointer (some ⟨b146,o147 + x94.toNat * 7,none⟩)) (Qe Tryd.underlying25 ty55 (slA ee153) rfl p144 p145) rfl (W_v (.agg #[vU ((rd a0 x94).What),vI ((rd a0 x94).Task),vI ((rd a0 x94).Call),vI ((rd a0 x94).Answer.Err),.bool ((rd a0 x94).Answer.Found),vS ((rd a0 x94).Answer.Value),.slice A154 ((rd a0 x94).Answer.Pairs).length c155]) (Qh (S.frz hb149) ty55 rfl (XC hc152 0 rfl) rfl rfl) rfl ?_)
     refine Zu S cz5 ty55 rfl rfl ?_
     intro b158 w159 E' S
     replace E:=E.trans E'
     refine Q5 S 0 rfl ty55 rfl rfl [vU ((rd a0 x94).What),vI ((rd a0 x94).Task),vI ((rd a0 x94).Call),vI ((rd a0 x94).Answer.Err),.bool ((rd a0 x94).Answer.Found),vS ((rd a0 x94).Answer.Value),.slice A154 ((rd a0 x94).Answer.Pairs).length c155] rfl rfl rfl #[vU ((rd a0 x94).What),vI ((rd a0 x94).Task),vI ((rd a0 x94).Call),vI ((rd a0 x94).Answer.Err),.bool ((rd a0 x94).Answer.Found),vS ((rd a0 x94).Answer.Value),.slice A154 ((rd a0 x94).Answer.Pairs).length c155] (by as_aux_lemma=>kernel_rfl) rfl ?_
     intro w161 E' S
     replace E:=E.trans E'
     refine QB (tn (QA (W_v (.slice A91 x90.length c92) (QC rfl) rfl (W_v (.agg #[vU ((rd a0 x94).What),vI ((rd a0 x94).Task),vI ((rd a0 x94).Call),vI ((rd a0 x94).Answer.Err),.bool ((rd a0 x94).Answer.Found),vS ((rd a0 x94).Answer.Value),.slice A154 ((rd a0 x94).Answer.Pairs).length c155]) (Qh (S.blk 0 rfl) ty55 rfl (QI rfl) rfl rfl) rfl ?_))))
     obtain ⟨t162,ht163,H⟩:=QX H
     refine YJ fn68 (XT.con k M141 A154 c155 (rd a0 x94) t162 hs156 ht163) S rfl rfl (by rintro _ _ _ ⟨_,_,_,rfl⟩; exact (QS (Yb (fun _ _ _ _ h=>h)) Qd)) ?_
     rintro _ w167 _ Γ' E' S ⟨A164,c165,rfl,rfl⟩
     replace E:=E.trans E'
     obtain ⟨M168,hM169,hf170,S⟩:=S.row_freeze 0 rfl
     replace HM:=Hp.le_trans HM hM169
     replace hM142:=Hp.le_trans hM142 hM169
     refine Y6 S #[vU t162.What,vI t162.Task,vI t162.Call,vI t162.Answer.Err,.bool t162.Answer.Found,vS t162.Answer.Value,.slice A164 t162.Answer.Pairs.length c165] Tryd.underlying25 ty55 rfl rfl cz5 (by as_aux_lemma=>kernel_rfl) (by as_aux_lemma=>kernel_rfl) rfl ?_
     intro b171 w172 E' S
     replace E:=E.trans E'
     replace S:=S.blk_row (r:=QK) (l:=([t162]:List QG)) 0 rfl 1 (Nat.le_refl 1) rfl (Cells.cons (vs:=[vU t162.What,vI t162.Task,vI t162.Call,vI t162.Answer.Err,.bool t162.Answer.Found,vS t162.Answer.Value,.slice A164 t162.Answer.Pairs.length c165]) (⟨_,hf170,rfl⟩) Cells.nil)
     obtain ⟨p174,H⟩:=Zt H
     obtain ⟨src175,hs176,hC177⟩:=Yj (P:=Tryd.prog) (ρ:=QK) (l:=([t162]:List QG)) (S.row_read 0 rfl) (by decide)
     refine XN S 2 rfl rfl rfl Tryd.underlying25 (.inl Tryd.underlying25) ty55 rfl (by decide) (by decide) hs176 hC177 rfl (by omega) rfl ?_
     intro v178 w179 E' S
     replace E:=E.trans E'
     obtain ⟨A180,c181,rfl,_⟩:=(S.row_read 2 rfl).form
     refine W_v (.slice A180 (x90 ++ ([t162]:List QG)).length c181) (QD rfl) rfl (QB (bn (tn (QA (W_v (vI (IntKind.i64.wrap (x94 + (1:Int)))) (QT rfl rfl rfl rfl) rfl (W_v (vI (IntKind.i64.wrap (x94 + (1:Int)))) (QC rfl) rfl (QB (tn ?_))))))))
     exact ⟨k,Nat.lt_succ_self k,⟨(x90 ++ ([t162]:List QG)),(IntKind.i64.wrap (x94 + (1:Int))),A180,c181,M168,H,⟨rfl,rfl,rfl,rfl,trivial⟩,hM142,E,S.pick [2] (by decide)⟩⟩
    refine QJ (congrArg Value.bool hb143) ?_
    refine Yo ?_
    refine tx (tx (bsm (?_)))
    refine tn ?_
    exact ⟨x90,A91,c92,M141,Option.some.inj H,⟨rfl,trivial⟩,hM142,E,S.pick [0] (by decide)⟩
 rintro ρ w182 ⟨x134,A135,c136,M183,rfl,hρ,hM184,E,S⟩
 rw [QN hρ]
 replace HM:=Hp.le_trans HM hM184
 have H:=o138H
 refine tn ?_
 as_aux_lemma =>
 refine QE (QA (W_v (.slice A135 x134.length c136) (QC rfl) rfl (W_v (.slice A135 x134.length c136) (QD rfl) rfl (QB (tn ?_)))))
 refine QY ?_
 obtain rfl:=Option.some.inj H
 exact ⟨_,_,_,fun w1 e1=>QO (vs:=[.slice A135 x134.length c136]) (FA.cons (rfl) (FA.nil)),HM,E,S.pick [0] (by decide),⟨A135,c136,rfl,rfl⟩⟩
def Ys (k:Nat) (a0:QG):Option (Bool) :=
 some (a0.What == (2:Int))
theorem Ys.mono {k:Nat} {a0:QG}:OLe (Ys k a0) (Ys (k + 1) a0):=by
 unfold Ys
 exact mo
theorem Ys.con (k:Nat) (M:Hp) (A0_0:Option Addr) (c0_0:Nat) (a0:QG) (r:Bool) (hr0_0:SlR Qr M (.slice A0_0 a0.Answer.Pairs.length c0_0) a0.Answer.Pairs) (h:Ys k a0 = some r):Con Tryd.prog 52 #[.agg #[vU a0.What,vI a0.Task,vI a0.Call,vI a0.Answer.Err,.bool a0.Answer.Found,vS a0.Answer.Value,.slice A0_0 a0.Answer.Pairs.length c0_0]] M [] (fun v M' Γ'=>v = .bool r ∧ Γ' = []):=by
 refine Qa Tryd.func52 rfl Tryd.ntmps52 Tryd.results52 rfl ?_
 intro w F rn S hrn
 have E:=Ext.refl w
 have HM:=Hp.le_refl M
 have H:=h
 unfold Ys at H
 refine QE (QA ?_)
 refine YO S #[vU a0.What,vI a0.Task,vI a0.Call,vI a0.Answer.Err,.bool a0.Answer.Found,vS a0.Answer.Value,.slice A0_0 a0.Answer.Pairs.length c0_0] rfl rfl rfl ?_
 intro b1 w2 E' S
 replace E:=E.trans E'
 refine W_v (.bool false) (QD rfl) rfl (QB (tn (QE (QA (W_v (pt b1 0) (QF (o:=0) (off:=0) Tryd.underlying55 rfl ty5 rfl rfl) rfl (W_v (vU a0.What) (QR (S.blk 0 rfl) ty5 rfl rfl) rfl (W_v (.bool (a0.What == (2:Int))) (QT rfl rfl rfl rfl) rfl (W_v (.bool (a0.What == (2:Int))) (QD rfl) rfl (QB (tn ?_))))))))))
 refine QY ?_
 obtain rfl:=Option.some.inj H
 exact ⟨_,_,_,fun w1 e1=>QO (vs:=[.bool (a0.What == (2:Int))]) (FA.cons (rfl) (FA.nil)),HM,E,S.pick [] (by decide),⟨rfl,rfl⟩⟩
def Q7 (a0:(List QG)):Nat → Int → Option ((Int) ⊕ (Unit))
 | 0,_=>none
 | k + 1,x45=>(if (decide (x45 < (a0.length:Int))) = true then (if 0 ≤ x45 ∧ x45 < (a0.length:Int) then (Option.bind (Ys k (rd a0 x45)) (fun t84=>(if t84 = true then some (.inl x45) else Q7 a0 k (IntKind.i64.wrap (x45 + (1:Int)))))) else none) else some (.inr ()))
theorem Q7.mono {a0:(List QG)}:∀ {kl:Nat} {x0},OLe (Q7 a0 kl x0) (Q7 a0 (kl + 1) x0):=by
 intro kl
 induction kl with
 | zero=>intros; exact OLe.none
 | succ kl ih =>
  intros
  rw [Q7.eq_2,Q7.eq_2]
  have m1:=@Ys.mono
  exact mo
def ZD (k:Nat) (a0:(List QG)):Option (Int) :=
 (Option.bind (Q7 a0 k (0:Int)) (fun o67o=>Sum.elim (fun r'=>some r') (fun _=>some (-1:Int)) o67o))
theorem ZD.mono {k:Nat} {a0:(List QG)}:OLe (ZD k a0) (ZD (k + 1) a0):=by
 unfold ZD
 have m1:=@Q7.mono
 exact mo
theorem ZD.con (k:Nat) (M:Hp) (A0:Option Addr) (c0:Nat) (a0:(List QG)) (r:Int) (hr0:SlR QK M (.slice A0 a0.length c0) a0) (h:ZD k a0 = some r):Con Tryd.prog 33 #[.slice A0 a0.length c0,.func (.func 52) #[] #[]] M [] (fun v M' Γ'=>v = vI r ∧ Γ' = []):=by
 refine Qa Tryd.func33 rfl Tryd.ntmps33 Tryd.results33 rfl ?_
 intro w F rn S hrn
 have E:=Ext.refl w
 have HM:=Hp.le_refl M
 have H:=h
 unfold ZD at H
 refine QE (QA (W_v (vI 0) (QD rfl) rfl (QB (tn (QE (QE (QA (W_v (.slice A0 a0.length c0) (QC rfl) rfl (W_v (vI (a0.length:Int)) (Qt (n:=a0.length) Tryd.underlying25 rfl) rfl (W_v (vI 0) (QC rfl) rfl (QB (tn ?_))))))))))))
 obtain ⟨o67,o67h,o67H⟩:=QX H
 refine Ya (fun ρ w'=>.inr () = o67 ∧ Qs ρ [] ∧ Ext w w' ∧ St w' M F []) ?_ ?_
 ·skip
  refine Y0 (fun n ρ w'=>∃ (x45:Int),Q7 a0 n x45 = some o67 ∧ Qs ρ [(0,.slice A0 a0.length c0),(1,.func (.func 52) #[] #[]),(7,vI (a0.length:Int)),(8,vI x45)] ∧ Ext w w' ∧ St w' M F []) k ?_ ?_
  ·skip
   exact ⟨(0:Int),o67h,⟨rfl,rfl,rfl,rfl,trivial⟩,E,S.pick [] (by decide)⟩
  ·intro n
   rintro ρ w68 ⟨x45,H,hρ,E,S⟩
   rw [QN hρ]
   cases n with
   | zero=>cases H
   | succ k =>
    rw [Q7.eq_2] at H
    refine QE (QA (W_v (.bool (decide (x45 < (a0.length:Int)))) (QT rfl rfl rfl rfl) rfl (QB (tn (QE ?_)))))
    rcases Zh H with ⟨hb69,H⟩ | ⟨hb69,H⟩
    ·refine QL (congrArg Value.bool hb69) ?_
     refine Qg (tn (QE ?_))
     refine Z0 ?_
     refine QE (QA (W_v (vI x45) (QC rfl) rfl (W_v (vI x45) (QD rfl) rfl (QB (tn (QE (QA (W_v (.func (.func 52) #[] #[]) (QC rfl) rfl (W_v (.slice A0 a0.length c0) (QC rfl) rfl (W_v (vI x45) (QC rfl) rfl ?_))))))))))
     obtain ⟨⟨p70,p71⟩,H⟩:=Zt H
     obtain ⟨b72,o73,cs74,_,_,ee79,hb75,vs76,hR77,hc78⟩:=SlW.at' hr0 p70 p71
     obtain ⟨v83,hs82,rfl⟩:=hR77
     obtain ⟨A80,c81,rfl,_⟩:=hs82.form
     refine W_v (.pointer (some ⟨b72,o73 + x45.toNat * 7,none⟩)) (Qe Tryd.underlying25 ty55 (slA ee79) rfl p70 p71) rfl (W_v (.agg #[vU ((rd a0 x45).What),vI ((rd a0 x45).Task),vI ((rd a0 x45).Call),vI ((rd a0 x45).Answer.Err),.bool ((rd a0 x45).Answer.Found),vS ((rd a0 x45).Answer.Value),.slice A80 ((rd a0 x45).Answer.Pairs).length c81]) (Qh (S.frz hb75) ty55 rfl (XC hc78 0 rfl) rfl rfl) rfl ?_)
     obtain ⟨t84,ht85,H⟩:=QX H
     refine Xl (fs:=[]) (cap:=[]) fn52 rfl (Ys.con k M A80 c81 (rd a0 x45) t84 hs82 ht85) (Γ1:=[]) (Γ2:=[]) S rfl rfl (by rintro _ _ _ ⟨rfl,rfl⟩; exact Qd) ?_
     rintro _ w86 _ Γ' E' S ⟨rfl,rfl⟩
     replace E:=E.trans E'
     replace S:St w86 M F []:=S
     refine QB (tn ?_)
     rcases Zh H with ⟨hb89,H⟩ | ⟨hb89,H⟩
     ·refine QL (congrArg Value.bool hb89) ?_
      refine QE (QA (W_v (vI x45) (QC rfl) rfl (W_v (vI x45) (QD rfl) rfl (QB (tn ?_)))))
      refine QY ?_
      refine br (tr (tr (br (tr (tr (?_))))))
      obtain rfl:=Option.some.inj H
      have H:=o67H
      replace H:=elimL H
      obtain rfl:=Option.some.inj H
      exact ⟨_,_,_,fun w1 e1=>QO (vs:=[vI x45]) (FA.cons (rfl) (FA.nil)),HM,E,S.pick [] (by decide),⟨rfl,rfl⟩⟩
     refine QJ (congrArg Value.bool hb89) (Qg (bn (tn (QA (W_v (vI (IntKind.i64.wrap (x45 + (1:Int)))) (QT rfl rfl rfl rfl) rfl (W_v (vI (IntKind.i64.wrap (x45 + (1:Int)))) (QC rfl) rfl (QB (tn ?_))))))))
     exact ⟨k,Nat.lt_succ_self k,⟨(IntKind.i64.wrap (x45 + (1:Int))),H,⟨rfl,rfl,rfl,rfl,trivial⟩,E,S.pick [] (by decide)⟩⟩
    refine QJ (congrArg Value.bool hb69) ?_
    refine Yo ?_
    refine tx (tx (bsm (?_)))
    refine tn ?_
    exact ⟨Option.some.inj H,trivial,E,S.pick [] (by decide)⟩
 rintro ρ w90 ⟨rfl,hρ,E,S⟩
 rw [QN hρ]
 have H:=o67H
 replace H:=elimR H
 refine tn ?_
 as_aux_lemma =>
 refine QE (QA (W_v (vI (-1)) (QD rfl) rfl (QB (tn ?_))))
 refine QY ?_
 obtain rfl:=Option.some.inj H
 exact ⟨_,_,_,fun w1 e1=>QO (vs:=[vI (-1)]) (FA.cons (rfl) (FA.nil)),HM,E,S.pick [] (by decide),⟨rfl,rfl⟩⟩
def Qz:Nat → List QG → Int → Int → Option ((List QG × Int))
 | 0,_,_,_=>none
 | k + 1,x407,x411,x412=>(if (decide (x412 < (x407.length:Int))) = true then (Option.bind (α:=List QG × Int) (if 0 ≤ x412 ∧ x412 < (x407.length:Int) then (Option.bind (Ys k (rd x407 x412)) (fun t732=>(Option.bind (α:=List QG × Int) (if (!t732) = true then (if 0 ≤ x411 ∧ x411 < (x407.length:Int) then (Option.bind (α:=List QG) (some (List.set x407 x411.toNat (rd x407 x412))) (fun x801=>some (x801,(IntKind.i64.wrap (x411 + (1:Int)))))) else none) else some (x407,x411)) (fun ⟨x779,x783⟩=>some (x779,x783))))) else none) (fun ⟨x708,x712⟩=>Qz k x708 x712 (IntKind.i64.wrap (x412 + (1:Int))))) else some (x407,x411))
theorem Qz.mono :∀ {kl:Nat} {x0 x1 x2},OLe (Qz  kl x0 x1 x2) (Qz  (kl + 1) x0 x1 x2):=by
 intro kl
 induction kl with
 | zero=>intros; exact OLe.none
 | succ kl ih =>
  intros
  rw [Qz.eq_2,Qz.eq_2]
  have m1:=@Ys.mono
  exact mo
def Qn (k:Nat) (a0:(List QG)):Option ((List QG)) :=
 (Option.bind (ZD k a0) (fun t1=>(if (t1 == (-1:Int)) = true then some a0 else (Option.bind (Qz k a0 t1 (IntKind.i64.wrap (t1 + (1:Int)))) (fun ⟨x607,x611⟩=>(if 0 ≤ x611 ∧ x611 ≤ (x607.length:Int) then (Option.bind (α:=List QG) (some (List.take x611.toNat x607 ++ List.replicate (x607.length - x611.toNat) (⟨0,0,0,⟨0,false,[],[]⟩⟩:QG))) (fun x812=>(if 0 ≤ x611 ∧ x611 ≤ (x812.length:Int) then some (List.take x611.toNat x812) else none))) else none))))))
theorem Qn.mono {k:Nat} {a0:(List QG)}:OLe (Qn k a0) (Qn (k + 1) a0):=by
 unfold Qn
 have m1:=@Qz.mono
 have m2:=@ZD.mono
 exact mo
theorem Qn.con (k:Nat) (M:Hp) (A0:Option Addr) (c0:Nat) (a0:(List QG)) (r:(List QG))  (h:Qn k a0 = some r):Con Tryd.prog 50 #[.slice A0 a0.length c0,.func (.func 52) #[] #[]] M [Row QK 55 (.slice A0 a0.length c0) a0] (fun v M' Γ'=>∃ (Aq1:Option Addr) (cq2:Nat),v = .slice Aq1 r.length cq2 ∧ Γ' = [Row QK 55 (.slice Aq1 r.length cq2) r]):=by
 refine Qa Tryd.func50 rfl Tryd.ntmps50 Tryd.results50 rfl ?_
 intro w F rn S hrn
 have E:=Ext.refl w
 have HM:=Hp.le_refl M
 have H:=h
 unfold Qn at H
 refine QE (QA (W_v (.slice none 0 0) (QD rfl) rfl (QB (tn (QE (QA (W_v (.slice A0 a0.length c0) (QC rfl) rfl (W_v (.func (.func 52) #[] #[]) (QC rfl) rfl ?_))))))))
 obtain ⟨t1,ht2,H⟩:=QX H
 refine KO fn33 (fun h9 hs9 hd9=>ZD.con k _ A0 c0 a0 t1 (Sats.row hs9 hd9 0 rfl) ht2) (Δ:=[Row QK 55 (.slice A0 a0.length c0) a0]) (Γ1:=[]) (Γ2:=[]) S rfl rfl (by rintro _ _ _ ⟨rfl,rfl⟩; exact Qd) ?_
 rintro _ w3 _ Γ' E' S ⟨rfl,rfl⟩
 replace E:=E.trans E'
 replace S:St w3 M F [_]:=S
 refine W_v (vI t1) (QD rfl) rfl (QB (tn (QE (QE (QA (W_v (vI t1) (QC rfl) rfl (W_v (.bool (t1 == (-1:Int))) (QT rfl rfl rfl rfl) rfl (QB (tn ?_)))))))))
 rcases Zh H with ⟨hb6,H⟩ | ⟨hb6,H⟩
 ·refine QL (congrArg Value.bool hb6) ?_
  refine QE (QA (W_v (.slice A0 a0.length c0) (QC rfl) rfl (W_v (.slice A0 a0.length c0) (QD rfl) rfl (QB (tn ?_)))))
  refine QY ?_
  refine tr (?_)
  obtain rfl:=Option.some.inj H
  exact ⟨_,_,_,fun w1 e1=>QO (vs:=[.slice A0 a0.length c0]) (FA.cons (rfl) (FA.nil)),HM,E,S.pick [0] (by decide),⟨A0,c0,rfl,rfl⟩⟩
 refine QJ (congrArg Value.bool hb6) (Qg (tn (QE (QE (QA (W_v (vI t1) (QC rfl) rfl (W_v (vI (IntKind.i64.wrap (t1 + (1:Int)))) (QT rfl rfl rfl rfl) rfl (W_v (vI (IntKind.i64.wrap (t1 + (1:Int)))) (QD rfl) rfl (QB (tn ?_))))))))))
 obtain ⟨o612,o612h,o612H⟩:=QX H
 refine Ya (fun ρ w'=>∃ (x607:List QG) (x611:Int) (A608:Option Addr) (c609:Nat),(x607,x611) = o612 ∧ Qs ρ [(0,.slice A608 x607.length c609),(5,vI x611)] ∧ Ext w w' ∧ St w' M F [Row QK 55 (.slice A608 x607.length c609) x607]) ?_ ?_
 ·skip
  refine Y0 (fun n ρ w'=>∃ (x407:List QG) (x411:Int) (x412:Int) (A408:Option Addr) (c409:Nat),Qz n x407 x411 x412 = some o612 ∧ Qs ρ [(0,.slice A408 x407.length c409),(1,.func (.func 52) #[] #[]),(5,vI x411),(6,vI x412)] ∧ Ext w w' ∧ St w' M F [Row QK 55 (.slice A408 x407.length c409) x407]) k ?_ ?_
  ·skip
   exact ⟨a0,t1,(IntKind.i64.wrap (t1 + (1:Int))),A0,c0,o612h,⟨rfl,rfl,rfl,rfl,trivial⟩,E,S.pick [0] (by decide)⟩
  ·intro n
   rintro ρ w613 ⟨x407,x411,x412,A408,c409,H,hρ,E,S⟩
   rw [QN hρ]
   cases n with
   | zero=>cases H
   | succ k =>
    rw [Qz.eq_2] at H
    refine QE (QE (QA (W_v (vI x412) (QC rfl) rfl (W_v (.slice A408 x407.length c409) (QC rfl) rfl (W_v (vI (x407.length:Int)) (Qt (n:=x407.length) Tryd.underlying25 rfl) rfl (W_v (.bool (decide (x412 < (x407.length:Int)))) (QT rfl rfl rfl rfl) rfl (QB (tn ?_))))))))
    rcases Zh H with ⟨hb614,H⟩ | ⟨hb614,H⟩
    ·refine QL (congrArg Value.bool hb614) ?_
     refine Qg (tn (QE ?_))
     obtain ⟨o713,o713h,o713H⟩:=QX H
     refine Xg (fun ρ w'=>∃ (x708:List QG) (x712:Int) (A709:Option Addr) (c710:Nat),(x708,x712) = o713 ∧ Qs ρ [(0,.slice A709 x708.length c710),(1,.func (.func 52) #[] #[]),(5,vI x712),(6,vI x412)] ∧ Ext w w' ∧ St w' M F [Row QK 55 (.slice A709 x708.length c710) x708]) ?_ ?_
     ·as_aux_lemma =>
       clear o713H
       have H:=o713h
       refine Z0 ?_
       refine QE (QA (W_v (.slice A408 x407.length c409) (QC rfl) rfl (W_v (vI x412) (QC rfl) rfl ?_)))
       obtain ⟨⟨p714,p715⟩,H⟩:=Zt H
       obtain ⟨b716,o717,cs718,_,_,ee723,hb719,vs720,hR721,hc722⟩:=SlW.at' (S.row_read 0 rfl) p714 p715
       obtain ⟨v727,hs726,rfl⟩:=hR721
       obtain ⟨A724,c725,rfl,_⟩:=hs726.form
       refine W_v (.pointer (some ⟨b716,o717 + x412.toNat * 7,none⟩)) (Qe Tryd.underlying25 ty55 (slA ee723) rfl p714 p715) rfl (W_v (.agg #[vU ((rd x407 x412).What),vI ((rd x407 x412).Task),vI ((rd x407 x412).Call),vI ((rd x407 x412).Answer.Err),.bool ((rd x407 x412).Answer.Found),vS ((rd x407 x412).Answer.Value),.slice A724 ((rd x407 x412).Answer.Pairs).length c725]) (Qh (Hp.of_get hb719) ty55 rfl (XC hc722 0 rfl) rfl rfl) rfl ?_)
       refine Zu S cz5 ty55 rfl rfl ?_
       intro b728 w729 E' S
       replace E:=E.trans E'
       refine Q5 S 0 rfl ty55 rfl rfl [vU ((rd x407 x412).What),vI ((rd x407 x412).Task),vI ((rd x407 x412).Call),vI ((rd x407 x412).Answer.Err),.bool ((rd x407 x412).Answer.Found),vS ((rd x407 x412).Answer.Value),.slice A724 ((rd x407 x412).Answer.Pairs).length c725] rfl rfl rfl #[vU ((rd x407 x412).What),vI ((rd x407 x412).Task),vI ((rd x407 x412).Call),vI ((rd x407 x412).Answer.Err),.bool ((rd x407 x412).Answer.Found),vS ((rd x407 x412).Answer.Value),.slice A724 ((rd x407 x412).Answer.Pairs).length c725] (by as_aux_lemma=>kernel_rfl) rfl ?_
       intro w731 E' S
       replace E:=E.trans E'
       refine QB (tn (QE (QA (W_v (.func (.func 52) #[] #[]) (QC rfl) rfl (W_v (.agg #[vU ((rd x407 x412).What),vI ((rd x407 x412).Task),vI ((rd x407 x412).Call),vI ((rd x407 x412).Answer.Err),.bool ((rd x407 x412).Answer.Found),vS ((rd x407 x412).Answer.Value),.slice A724 ((rd x407 x412).Answer.Pairs).length c725]) (Qh (S.blk 0 rfl) ty55 rfl (QI rfl) rfl rfl) rfl ?_)))))
       obtain ⟨t732,ht733,H⟩:=QX H
       refine Xl (fs:=[]) (cap:=[]) fn52 rfl (Ys.con k M A724 c725 (rd x407 x412) t732 hs726 ht733) (Γ1:=[]) (Γ2:=[_,_]) S rfl rfl (by rintro _ _ _ ⟨rfl,rfl⟩; exact Qd) ?_
       rintro _ w734 _ Γ' E' S ⟨rfl,rfl⟩
       replace E:=E.trans E'
       replace S:St w734 M F [_,_]:=S
       refine W_v (.bool (!t732)) (Yx (b:=t732) rfl) rfl (QB (tn ?_))
       obtain ⟨o784,o784h,o784H⟩:=QX H
       refine Xg (fun ρ w'=>∃ (x779:List QG) (x783:Int) (A780:Option Addr) (c781:Nat),(x779,x783) = o784 ∧ Qs ρ [(0,.slice A780 x779.length c781),(1,.func (.func 52) #[] #[]),(5,vI x783),(6,vI x412)] ∧ Ext w w' ∧ St w' M F [Row QK 55 (.slice A780 x779.length c781) x779]) ?_ ?_
       ·clear o784H
        have H:=o784h
        rcases Zh H with ⟨hb785,H⟩ | ⟨hb785,H⟩
        ·refine QL (congrArg Value.bool hb785) ?_
         refine QE (QA (W_v (.slice A408 x407.length c409) (QC rfl) rfl (W_v (vI x411) (QC rfl) rfl (W_v (.agg #[vU ((rd x407 x412).What),vI ((rd x407 x412).Task),vI ((rd x407 x412).Call),vI ((rd x407 x412).Answer.Err),.bool ((rd x407 x412).Answer.Found),vS ((rd x407 x412).Answer.Value),.slice A724 ((rd x407 x412).Answer.Pairs).length c725]) (Qh (S.blk 0 rfl) ty55 rfl (QI rfl) rfl rfl) rfl ?_))))
         obtain ⟨⟨p786,p787⟩,H⟩:=Zt H
         obtain ⟨b788,o789,cs790,_,_,ee795,hb791,vs792,hR793,hc794⟩:=SlW.at' (S.row_read 1 rfl) p786 p787
         obtain ⟨v799,hs798,rfl⟩:=hR793
         obtain ⟨A796,c797,rfl,_⟩:=hs798.form
         refine W_v (.pointer (some ⟨b788,o789 + x411.toNat * 7,none⟩)) (Qe Tryd.underlying25 ty55 (slA ee795) rfl p786 p787) rfl ?_
         obtain ⟨x801,he802,H⟩:=QX H
         replace he802:=Option.some.inj he802
         refine XE S 1 rfl rfl ee795 (by first | exact p786 | simpa using p786) (by first | exact p787 | simpa using p787) 0 ty55 rfl rfl [vU ((rd x407 x412).What),vI ((rd x407 x412).Task),vI ((rd x407 x412).Call),vI ((rd x407 x412).Answer.Err),.bool ((rd x407 x412).Answer.Found),vS ((rd x407 x412).Answer.Value),.slice A724 ((rd x407 x412).Answer.Pairs).length c725] rfl rfl rfl rfl (rd x407 x412) (by rintro _ ⟨_,h6,rfl⟩; exact ⟨_,hs726,rfl⟩) he802 ?_
         intro w800 E' S
         replace E:=E.trans E'
         have hs803:Value.slice A408 x407.length c409 = Value.slice A408 x801.length c409:=by rw [← he802,List.length_set]
         try unfold B55 at S
         try rw [hs803] at S
         try rw [hs803]
         have p804:x412 < (x801.length:Int):=by rw [← he802,List.length_set]; exact p715
         have p805:x411 < (x801.length:Int):=by rw [← he802,List.length_set]; exact p787
         refine QB (tn (QA (W_v (vI x411) (QC rfl) rfl (W_v (vI (IntKind.i64.wrap (x411 + (1:Int)))) (QT rfl rfl rfl rfl) rfl (W_v (vI (IntKind.i64.wrap (x411 + (1:Int)))) (QD rfl) rfl (QB (tn ?_)))))))
         exact ⟨x801,(IntKind.i64.wrap (x411 + (1:Int))),A408,c409,Option.some.inj H,⟨rfl,rfl,rfl,rfl,trivial⟩,E,S.pick [1] (by decide)⟩
        refine QJ (congrArg Value.bool hb785) (Qg (tn ?_))
        exact ⟨x407,x411,A408,c409,Option.some.inj H,⟨rfl,rfl,rfl,rfl,trivial⟩,E,S.pick [1] (by decide)⟩
       rintro ρ w806 ⟨x779,x783,A780,c781,rfl,hρ,E,S⟩
       rw [QN hρ]
       have H:=o784H
       refine bn (tn ?_)
       exact ⟨x779,x783,A780,c781,Option.some.inj H,⟨rfl,rfl,rfl,rfl,trivial⟩,E,S.pick [0] (by decide)⟩
     rintro ρ w807 ⟨x708,x712,A709,c710,rfl,hρ,E,S⟩
     rw [QN hρ]
     have H:=o713H
     refine tn (QA (W_v (vI x412) (QC rfl) rfl (W_v (vI (IntKind.i64.wrap (x412 + (1:Int)))) (QT rfl rfl rfl rfl) rfl (W_v (vI (IntKind.i64.wrap (x412 + (1:Int)))) (QD rfl) rfl (QB (tn ?_))))))
     exact ⟨k,Nat.lt_succ_self k,⟨x708,x712,(IntKind.i64.wrap (x412 + (1:Int))),A709,c710,H,⟨rfl,rfl,rfl,rfl,trivial⟩,E,S.pick [0] (by decide)⟩⟩
    refine QJ (congrArg Value.bool hb614) ?_
    refine Yo ?_
    refine tx (tx (bsm (?_)))
    refine tn ?_
    exact ⟨x407,x411,A408,c409,Option.some.inj H,⟨rfl,rfl,trivial⟩,E,S.pick [0] (by decide)⟩
 rintro ρ w808 ⟨x607,x611,A608,c609,rfl,hρ,E,S⟩
 rw [QN hρ]
 have H:=o612H
 refine tn ?_
 as_aux_lemma =>
 refine QE (QA (W_v (.slice A608 x607.length c609) (QC rfl) rfl (W_v (vI x611) (QC rfl) rfl ?_)))
 obtain ⟨⟨p809,p810⟩,H⟩:=Zt H
 refine W_v (.slice (if c609 = x611.toNat then A608 else Option.map (fun x=>x.add (x611.toNat * 7)) A608) (x607.length - x611.toNat) (c609 - x611.toNat)) (UI Tryd.underlying25 ty55 rfl rfl p809 (by omega)) rfl ?_
 obtain ⟨x812,he813,H⟩:=QX H
 replace he813:=Option.some.inj he813
 refine Jd (i:=x611) (⟨0,0,0,⟨0,false,[],[]⟩⟩:QG) S 0 rfl p809 p810 Tryd.underlying25 ty55 rfl (by decide) (fun _=>⟨_,SlW.nil _ _,rfl⟩) he813 rfl ?_
 intro w811 E' S
 replace E:=E.trans E'
 have hs814:Value.slice A608 x607.length c609 = Value.slice A608 x812.length c609:=by rw [← he813]; congr 1; simp only [List.length_append,List.length_take,List.length_replicate]; omega
 try rw [hs814] at S
 try rw [hs814]
 refine QB (tn (QE (QA (W_v (.slice A608 x812.length c609) (QC rfl) rfl (W_v (vI x611) (QC rfl) rfl ?_)))))
 obtain ⟨⟨p815,p816⟩,H⟩:=Zt H
 have hx817:=@V1 _ _ _ _ _ _ _ _ _ (S.row_read 0 rfl) p815 p816
 replace S:=S.row_take 0 rfl x611.toNat (by omega)
 replace S:St w811 M F [_]:=S
 refine W_v (.slice A608 (List.take x611.toNat x812).length c609) (hx817 Tryd.underlying25 ty55 rfl rfl) rfl (W_v (.slice A608 (List.take x611.toNat x812).length c609) (QD rfl) rfl (QB (tn ?_)))
 refine QY ?_
 obtain rfl:=Option.some.inj H
 exact ⟨_,_,_,fun w1 e1=>QO (vs:=[.slice A608 (List.take x611.toNat x812).length c609]) (FA.cons (rfl) (FA.nil)),HM,E,S.pick [0] (by decide),⟨A608,c609,rfl,rfl⟩⟩
def XW (k:Nat) (a0:(List QG)):Option ((List QG)) :=
 (Option.bind (Xk k a0) (fun t1=>(Option.bind (Qn k t1) (fun t9=>some t9))))
theorem XW.mono {k:Nat} {a0:(List QG)}:OLe (XW k a0) (XW (k + 1) a0):=by
 unfold XW
 have m1:=@Xk.mono
 have m2:=@Qn.mono
 exact mo
theorem XW.con (k:Nat) (M:Hp) (A0:Option Addr) (c0:Nat) (a0:(List QG)) (r:(List QG)) (hr0:SlR QK M (.slice A0 a0.length c0) a0) (h:XW k a0 = some r):Con Tryd.prog 17 #[.slice A0 a0.length c0] M [] (fun v M' Γ'=>∃ (A0:Option Addr) (c0:Nat),v = .slice A0 r.length c0 ∧ Γ' = [Row QK 55 (.slice A0 r.length c0) r]):=by
 refine Qa Tryd.func17 rfl Tryd.ntmps17 Tryd.results17 rfl ?_
 intro w F rn S hrn
 have E:=Ext.refl w
 have HM:=Hp.le_refl M
 have H:=h
 unfold XW at H
 refine QE (QA (W_v (.slice none 0 0) (QD rfl) rfl (QB (tn (QE (QA (W_v (.slice A0 a0.length c0) (QC rfl) rfl ?_)))))))
 obtain ⟨t1,ht2,H⟩:=QX H
 refine ZZ fn51 (Xk.con k M A0 c0 a0 t1 hr0 ht2) (Γ1:=[]) (Γ2:=[]) S rfl rfl ?_
 rintro _ w6 M7 Γ' hM8 E' S ⟨A3,c4,rfl,rfl⟩
 replace HM:=Hp.le_trans HM hM8
 replace E:=E.trans E'
 obtain ⟨t9,ht10,H⟩:=QX H
 refine ZZ fn50 (Qn.con k M7 A3 c4 t1 t9  ht10) (Γ1:=[_]) (Γ2:=[]) S rfl rfl ?_
 rintro _ w14 M15 Γ' hM16 E' S ⟨A11,c12,rfl,rfl⟩
 replace HM:=Hp.le_trans HM hM16
 replace E:=E.trans E'
 replace S:St w14 M15 F [_]:=S
 refine W_v (.slice A11 t9.length c12) (QD rfl) rfl (QB (tn ?_))
 refine QY ?_
 obtain rfl:=Option.some.inj H
 exact ⟨_,_,_,fun w1 e1=>QO (vs:=[.slice A11 t9.length c12]) (FA.cons (rfl) (FA.nil)),HM,E,S.pick [0] (by decide),⟨A11,c12,rfl,rfl⟩⟩
def XA (a2:(List QG)):Nat → Int → List (List QW) → List ZL → List Int → List Z3 → List QG → QM → Option ((Int × Int) ⊕ (Unit))
 | 0,_,_,_,_,_,_,_=>none
 | k + 1,x232,x233,x237,x241,x245,x249,x253=>(if (decide (x232 < (a2.length:Int))) = true then (if 0 ≤ x232 ∧ x232 < (a2.length:Int) then (Option.bind (ZA k (⟨x233,(⟨x245,x249⟩:Qb),x253,x237,x241⟩:ZX) x232 (rd a2 x232)) (fun t345=>(if (t345.1 != (0:Int)) = true then some (.inl (x232,t345.1)) else XA a2 k (IntKind.i64.wrap (x232 + (1:Int))) t345.2.programs t345.2.done t345.2.last t345.2.r.tasks t345.2.r.l t345.2.m))) else none) else some (.inr ()))
theorem XA.mono {a2:(List QG)}:∀ {kl:Nat} {x0 x1 x2 x3 x4 x5 x6},OLe (XA a2 kl x0 x1 x2 x3 x4 x5 x6) (XA a2 (kl + 1) x0 x1 x2 x3 x4 x5 x6):=by
 intro kl
 induction kl with
 | zero=>intros; exact OLe.none
 | succ kl ih =>
  intros
  rw [XA.eq_2,XA.eq_2]
  have m1:=@ZA.mono
  exact mo
def Zi (k:Nat) (a0:Qo) (a1:(List (List QW))) (a2:(List QG)):Option (Int × Int) :=
 (Option.bind (ZH k a0 a1) (fun t4=>(Sum.elim (fun t6=>some ((-1:Int),(1:Int))) (Sum.elim (fun t7=>(Option.bind (XA a2 k (0:Int) t7.programs t7.done t7.last t7.r.tasks t7.r.l t7.m) (fun o322o=>Sum.elim (fun r'=>some r') (fun _=>some ((-1:Int),(0:Int))) o322o))) (Sum.elim (fun t8=>some ((-1:Int),(1:Int))) (Sum.elim (fun t9=>some ((-1:Int),(1:Int))) (fun t10=>some ((-1:Int),(1:Int))))))) t4))
theorem Zi.mono {k:Nat} {a0:Qo} {a1:(List (List QW))} {a2:(List QG)}:OLe (Zi k a0 a1 a2) (Zi (k + 1) a0 a1 a2):=by
 unfold Zi
 have m1:=@XA.mono
 have m2:=@ZH.mono
 exact mo
theorem Zi.con (k:Nat) (M:Hp) (a0:Qo) (A1:Option Addr) (c1:Nat) (a1:(List (List QW))) (A2:Option Addr) (c2:Nat) (a2:(List QG)) (r:Int × Int) (hr1:SlR (rSl ZV) M (.slice A1 a1.length c1) a1) (hr2:SlR QK M (.slice A2 a2.length c2) a2) (hg0:∃ gt fr,M 0 = some (.cells cz1 gt fr)) (hg1:∃ gt fr,M 1 = some (.cells cz3 gt fr)) (h:Zi k a0 a1 a2 = some r):Con Tryd.prog 20 #[.agg #[vI a0.Tasks,vI a0.Active,vI a0.Keys,vI a0.Depth,vI a0.TS,vI a0.KeyLen,vI a0.ValLen,vI a0.Fan],.slice A1 a1.length c1,.slice A2 a2.length c2] M [] (fun v M' Γ'=>v = .tuple #[vI r.1,vI r.2] ∧ Γ' = []):=by
 refine Qa Tryd.func20 rfl Tryd.ntmps20 Tryd.results20 rfl ?_
 intro w F rn S hrn
 have E:=Ext.refl w
 have HM:=Hp.le_refl M
 have H:=h
 unfold Zi at H
 refine QE (QA ?_)
 refine YO S #[vI a0.Tasks,vI a0.Active,vI a0.Keys,vI a0.Depth,vI a0.TS,vI a0.KeyLen,vI a0.ValLen,vI a0.Fan] rfl rfl rfl ?_
 intro b1 w2 E' S
 replace E:=E.trans E'
 refine W_v (vI 0) (QD rfl) rfl (W_v (vI 0) (QD rfl) rfl (QB (tn (QE (QA (W_v (.agg #[vI a0.Tasks,vI a0.Active,vI a0.Keys,vI a0.Depth,vI a0.TS,vI a0.KeyLen,vI a0.ValLen,vI a0.Fan]) (Qh (S.blk 0 rfl) ty23 rfl (QI rfl) rfl rfl) rfl (W_v (.slice A1 a1.length c1) (QC rfl) rfl ?_)))))))
 obtain ⟨t4,ht5,H⟩:=QX H
 rcases t4 with t6 | t7 | t8 | t9 | t10
 ·skip
  replace H:=elimL H
  refine Z2 fn27 (ZH.con k M a0 A1 c1 a1 (Sum.inl t6) hr1 ht5) (Γ1:=[]) (Γ2:=[_]) S rfl rfl (by rintro _ _ _ ⟨rfl,rfl⟩; exact Qd) ?_
  rintro _ w11 _ Γ' E' S ⟨rfl,rfl⟩
  replace E:=E.trans E'
  replace S:St w11 M F [_]:=S
  refine W_v (.tuple cz16) (QC rfl) rfl (W_v (.pointer none) (QQ rfl rfl) rfl (W_v (.bool false) (QQ rfl rfl) rfl (W_v (.pointer none) (QD rfl) rfl (W_v (.bool false) (QD rfl) rfl (QB (tn (QE (QE (QA (W_v (.bool false) (QC rfl) rfl (W_v (.bool true) (Yx (b:=false) rfl) rfl (QB (tn (QL rfl (QE ?_)))))))))))))))
  refine QA (W_v (vI (-1)) (QD rfl) rfl (W_v (vI 1) (QD rfl) rfl (QB (tn ?_))))
  refine QY ?_
  refine tr (?_)
  obtain rfl:=Option.some.inj H
  exact ⟨_,_,_,fun w1 e1=>QO (vs:=[vI (-1),vI 1]) (FA.cons (rfl) (FA.cons (rfl) (FA.nil))),HM,E,S.pick [] (by decide),⟨rfl,rfl⟩⟩
 ·skip
  replace H:=elimR H
  replace H:=elimL H
  refine ZZ fn27 (ZH.con k M a0 A1 c1 a1 (Sum.inr (Sum.inl t7)) hr1 ht5) (Γ1:=[]) (Γ2:=[_]) S rfl rfl ?_
  rintro _ w49 M50 Γ' hM51 E' S ⟨b14,A16,c17,b19,A21,c22,A24,c25,b27,A29,c30,A32,c33,A35,c36,A38,c39,vs41,A43,c44,A46,c47,rfl,hs18,hm42,rfl⟩
  replace hg0:=gup hg0 hM51
  replace hg1:=gup hg1 hM51
  replace HM:=Hp.le_trans HM hM51
  replace hr2:=SlR.mono hr2 hM51
  replace E:=E.trans E'
  replace S:St w49 M50 F [_,_,_,_,_,_,_,_,_,_,_,_]:=S
  refine W_v (.tuple #[pt b14 0,.bool true]) (QC rfl) rfl (W_v (pt b14 0) (QQ rfl rfl) rfl (W_v (.bool true) (QQ rfl rfl) rfl (W_v (pt b14 0) (QD rfl) rfl (W_v (.bool true) (QD rfl) rfl (QB (tn (QE (QE (QA (W_v (.bool true) (QC rfl) rfl (W_v (.bool false) (Yx (b:=true) rfl) rfl (QB (tn (QJ rfl (Qg ?_)))))))))))))))
  refine tn (QE (QE (QA (W_v (.slice A2 a2.length c2) (QC rfl) rfl (W_v (vI (a2.length:Int)) (Qt (n:=a2.length) Tryd.underlying25 rfl) rfl (W_v (vI 0) (QC rfl) rfl (QB (tn ?_))))))))
  obtain ⟨o322,o322h,o322H⟩:=QX H
  refine Ya (fun ρ w'=>∃ (Mj:Hp),.inr () = o322 ∧ Qs ρ [] ∧ M50.le Mj ∧ Ext w w' ∧ St w' Mj F []) ?_ ?_
  ·skip
   refine Y0 (fun n ρ w'=>∃ (x232:Int) (x233:List (List QW)) (x237:List ZL) (x241:List Int) (x245:List Z3) (x249:List QG) (x253:QM) (A234:Option Addr) (c235:Nat) (A238:Option Addr) (c239:Nat) (A242:Option Addr) (c243:Nat) (A246:Option Addr) (c247:Nat) (A250:Option Addr) (c251:Nat) (A254:Option Addr) (c255:Nat) (A257:Option Addr) (c258:Nat) (A260:Option Addr) (c261:Nat) (A263:Option Addr) (c264:Nat) (vs266:List (Str × Value)) (Mj:Hp),XA a2 n x232 x233 x237 x241 x245 x249 x253 = some o322 ∧ Qs ρ [(8,pt b14 0),(21,.slice A2 a2.length c2),(22,vI (a2.length:Int)),(23,vI x232)] ∧ M50.le Mj ∧ Ext w w' ∧ St w' Mj F [QV encS (fun v:Value=>v) A263 vs266,Row QP 122 (.slice A260 x253.txs.length c261) x253.txs,QV (Value.int .i64) (Value.int .i64) A257 x253.many,QV QH (Value.int .i64) A254 x253.names,Row QK 55 (.slice A250 x249.length c251) x249,Row Qx 161 (.slice A246 x245.length c247) x245,Row (rInt .i64) 3 (.slice A242 x241.length c243) x241,Row Q0 69 (.slice A238 x237.length c239) x237,Blk b14 (.cells #[.slice A234 x233.length c235,pt b19 0,pt b27 0,.slice A238 x237.length c239,.slice A242 x241.length c243] 107 (0,0)),Blk b19 (.cells #[.slice A246 x245.length c247,.slice A250 x249.length c251] 144 (0,0)),B95 b27 x253 A254 A257 A260 c261 A263] ∧ SlR (rSl ZV) Mj (.slice A234 x233.length c235) x233 ∧ YP Qm Mj x253.rows vs266) k ?_ ?_
   ·skip
    exact ⟨(0:Int),t7.programs,t7.done,t7.last,t7.r.tasks,t7.r.l,t7.m,A16,c17,A43,c44,A46,c47,A21,c22,A24,c25,A29,c30,A32,c33,A35,c36,A38,c39,vs41,M50,o322h,⟨rfl,rfl,rfl,rfl,trivial⟩,(Hp.le_refl M50),E,S.pick [8,7,6,5,3,2,10,9,0,1,4] (by decide),hs18,hm42⟩
   ·intro n
    rintro ρ w323 ⟨x232,x233,x237,x241,x245,x249,x253,A234,c235,A238,c239,A242,c243,A246,c247,A250,c251,A254,c255,A257,c258,A260,c261,A263,c264,vs266,M324,H,hρ,hM325,E,S,hs236,hm267⟩
    rw [QN hρ]
    replace hg0:=gup hg0 hM325
    replace hg1:=gup hg1 hM325
    replace HM:=Hp.le_trans HM hM325
    replace hr2:=SlR.mono hr2 hM325
    cases n with
    | zero=>cases H
    | succ k =>
     rw [XA.eq_2] at H
     refine QE (QA (W_v (.bool (decide (x232 < (a2.length:Int)))) (QT rfl rfl rfl rfl) rfl (QB (tn (QE ?_)))))
     rcases Zh H with ⟨hb326,H⟩ | ⟨hb326,H⟩
     ·refine QL (congrArg Value.bool hb326) ?_
      refine Qg (tn (QE ?_))
      refine Z0 ?_
      refine QE (QA (W_v (vI x232) (QC rfl) rfl ?_))
      obtain ⟨⟨p327,p328⟩,H⟩:=Zt H
      obtain ⟨b329,o330,cs331,_,_,ee336,hb332,vs333,hR334,hc335⟩:=SlW.at' hr2 p327 p328
      obtain ⟨v340,hs339,rfl⟩:=hR334
      obtain ⟨A337,c338,rfl,_⟩:=hs339.form
      refine W_v (.pointer (some ⟨b329,o330 + x232.toNat * 7,none⟩)) (Qe Tryd.underlying25 ty55 (slA ee336) rfl p327 p328) rfl (W_v (.agg #[vU ((rd a2 x232).What),vI ((rd a2 x232).Task),vI ((rd a2 x232).Call),vI ((rd a2 x232).Answer.Err),.bool ((rd a2 x232).Answer.Found),vS ((rd a2 x232).Answer.Value),.slice A337 ((rd a2 x232).Answer.Pairs).length c338]) (Qh (S.frz hb332) ty55 rfl (XC hc335 0 rfl) rfl rfl) rfl ?_)
      refine Zu S cz5 ty55 rfl rfl ?_
      intro b341 w342 E' S
      replace E:=E.trans E'
      refine W_v (vI x232) (QD rfl) rfl ?_
      refine Q5 S 0 rfl ty55 rfl rfl [vU ((rd a2 x232).What),vI ((rd a2 x232).Task),vI ((rd a2 x232).Call),vI ((rd a2 x232).Answer.Err),.bool ((rd a2 x232).Answer.Found),vS ((rd a2 x232).Answer.Value),.slice A337 ((rd a2 x232).Answer.Pairs).length c338] rfl rfl rfl #[vU ((rd a2 x232).What),vI ((rd a2 x232).Task),vI ((rd a2 x232).Call),vI ((rd a2 x232).Answer.Err),.bool ((rd a2 x232).Answer.Found),vS ((rd a2 x232).Answer.Value),.slice A337 ((rd a2 x232).Answer.Pairs).length c338] (by as_aux_lemma=>kernel_rfl) rfl ?_
      intro w344 E' S
      replace E:=E.trans E'
      refine QB (tn (QE (QA (W_v (pt b14 0) (QC rfl) rfl (W_v (vI x232) (QC rfl) rfl (W_v (.agg #[vU ((rd a2 x232).What),vI ((rd a2 x232).Task),vI ((rd a2 x232).Call),vI ((rd a2 x232).Answer.Err),.bool ((rd a2 x232).Answer.Found),vS ((rd a2 x232).Answer.Value),.slice A337 ((rd a2 x232).Answer.Pairs).length c338]) (Qh (S.blk 0 rfl) ty55 rfl (QI rfl) rfl rfl) rfl ?_))))))
      obtain ⟨t345,ht346,H⟩:=QX H
      replace S:St w344 M324 F [_,_,_,_,_,_,_,_,_,_,_,_]:=S.pick [9,10,6,5,11,4,3,2,1,8,7,0] (by decide)
      refine ZZ fn53 (ZA.con k M324 A234 c235 A246 c247 A250 c251 A254 c255 A257 c258 A260 c261 A263 c264 vs266 A238 c239 A242 c243 (⟨x233,(⟨x245,x249⟩:Qb),x253,x237,x241⟩:ZX) x232 A337 c338 (rd a2 x232) b19 b27 b14 t345 hs236 hm267 hs339 hg0 hg1 ht346) (Γ1:=[_,_,_,_,_,_,_,_,_,_,_]) (Γ2:=[_]) S rfl rfl ?_
      rintro _ w376 M377 Γ' hM378 E' S ⟨A347,c348,A350,c351,A353,c354,A356,c357,A359,c360,A362,c363,A365,c366,vs368,A370,c371,A373,c374,rfl,hs349,hm369,rfl⟩
      replace HM:=Hp.le_trans HM hM378
      replace hM325:=Hp.le_trans hM325 hM378
      replace E:=E.trans E'
      replace S:St w376 M377 F [_,_,_,_,_,_,_,_,_,_,_,_]:=S
      refine W_v (vI t345.1) (QD rfl) rfl (QB (tn ?_))
      as_aux_lemma =>
      refine QE (QA (W_v (vI t345.1) (QC rfl) rfl (W_v (.bool (t345.1 != (0:Int))) (QT rfl rfl rfl rfl) rfl (QB (tn ?_)))))
      rcases Zh H with ⟨hb379,H⟩ | ⟨hb379,H⟩
      ·refine QL (congrArg Value.bool hb379) ?_
       refine QE (QA (W_v (vI x232) (QC rfl) rfl (W_v (vI t345.1) (QC rfl) rfl (W_v (vI x232) (QD rfl) rfl (W_v (vI t345.1) (QD rfl) rfl (QB (tn ?_)))))))
       refine QY ?_
       refine br (tr (tr (br (tr (tr (?_))))))
       obtain rfl:=Option.some.inj H
       have H:=o322H
       replace H:=elimL H
       obtain rfl:=Option.some.inj H
       exact ⟨_,_,_,fun w1 e1=>QO (vs:=[vI x232,vI t345.1]) (FA.cons (rfl) (FA.cons (rfl) (FA.nil))),HM,E,S.pick [] (by decide),⟨rfl,rfl⟩⟩
      refine QJ (congrArg Value.bool hb379) (Qg (bn (tn (QA (W_v (vI (IntKind.i64.wrap (x232 + (1:Int)))) (QT rfl rfl rfl rfl) rfl (W_v (vI (IntKind.i64.wrap (x232 + (1:Int)))) (QC rfl) rfl (QB (tn ?_))))))))
      exact ⟨k,Nat.lt_succ_self k,⟨(IntKind.i64.wrap (x232 + (1:Int))),t345.2.programs,t345.2.done,t345.2.last,t345.2.r.tasks,t345.2.r.l,t345.2.m,A347,c348,A370,c371,A373,c374,A350,c351,A353,c354,A356,c357,A359,c360,A362,c363,A365,c366,vs368,M377,H,⟨rfl,rfl,rfl,rfl,trivial⟩,hM325,E,S.pick [8,7,6,5,3,2,10,9,0,1,4] (by decide),hs349,hm369⟩⟩
     refine QJ (congrArg Value.bool hb326) ?_
     refine Yo ?_
     refine tx (tx (bsm (?_)))
     refine tn ?_
     exact ⟨M324,Option.some.inj H,trivial,hM325,E,S.pick [] (by decide)⟩
  rintro ρ w380 ⟨M381,rfl,hρ,hM382,E,S⟩
  rw [QN hρ]
  replace HM:=Hp.le_trans HM hM382
  have H:=o322H
  replace H:=elimR H
  refine tn ?_
  as_aux_lemma =>
  refine QE (QA (W_v (vI (-1)) (QD rfl) rfl (W_v (vI 0) (QD rfl) rfl (QB (tn ?_)))))
  refine QY ?_
  obtain rfl:=Option.some.inj H
  exact ⟨_,_,_,fun w1 e1=>QO (vs:=[vI (-1),vI 0]) (FA.cons (rfl) (FA.cons (rfl) (FA.nil))),HM,E,S.pick [] (by decide),⟨rfl,rfl⟩⟩
 ·skip
  replace H:=elimR H
  replace H:=elimR H
  replace H:=elimL H
  refine ZZ fn27 (ZH.con k M a0 A1 c1 a1 (Sum.inr (Sum.inr (Sum.inl t8))) hr1 ht5) (Γ1:=[]) (Γ2:=[_]) S rfl rfl ?_
  rintro _ w410 M411 Γ' hM412 E' S ⟨b383,A385,c386,b388,A390,c391,A393,c394,A396,c397,A399,c400,vs402,A404,c405,A407,c408,rfl,hs387,hm403,rfl⟩
  replace HM:=Hp.le_trans HM hM412
  replace E:=E.trans E'
  replace S:St w410 M411 F [_,_,_,_,_,_,_,_,_]:=S
  refine W_v (.tuple #[pt b383 0,.bool false]) (QC rfl) rfl (W_v (pt b383 0) (QQ rfl rfl) rfl (W_v (.bool false) (QQ rfl rfl) rfl (W_v (pt b383 0) (QD rfl) rfl (W_v (.bool false) (QD rfl) rfl (QB (tn (QE (QE (QA (W_v (.bool false) (QC rfl) rfl (W_v (.bool true) (Yx (b:=false) rfl) rfl (QB (tn (QL rfl (QE ?_)))))))))))))))
  refine QA (W_v (vI (-1)) (QD rfl) rfl (W_v (vI 1) (QD rfl) rfl (QB (tn ?_))))
  refine QY ?_
  refine tr (?_)
  obtain rfl:=Option.some.inj H
  exact ⟨_,_,_,fun w1 e1=>QO (vs:=[vI (-1),vI 1]) (FA.cons (rfl) (FA.cons (rfl) (FA.nil))),HM,E,S.pick [] (by decide),⟨rfl,rfl⟩⟩
 ·skip
  replace H:=elimR H
  replace H:=elimR H
  replace H:=elimR H
  replace H:=elimL H
  refine ZZ fn27 (ZH.con k M a0 A1 c1 a1 (Sum.inr (Sum.inr (Sum.inr (Sum.inl t9)))) hr1 ht5) (Γ1:=[]) (Γ2:=[_]) S rfl rfl ?_
  rintro _ w424 M425 Γ' hM426 E' S ⟨b413,A415,c416,A418,c419,A421,c422,rfl,hs417,rfl⟩
  replace HM:=Hp.le_trans HM hM426
  replace E:=E.trans E'
  replace S:St w424 M425 F [_,_,_,_]:=S
  refine W_v (.tuple #[pt b413 0,.bool false]) (QC rfl) rfl (W_v (pt b413 0) (QQ rfl rfl) rfl (W_v (.bool false) (QQ rfl rfl) rfl (W_v (pt b413 0) (QD rfl) rfl (W_v (.bool false) (QD rfl) rfl (QB (tn (QE (QE (QA (W_v (.bool false) (QC rfl) rfl (W_v (.bool true) (Yx (b:=false) rfl) rfl (QB (tn (QL rfl (QE ?_)))))))))))))))
  refine QA (W_v (vI (-1)) (QD rfl) rfl (W_v (vI 1) (QD rfl) rfl (QB (tn ?_))))
  refine QY ?_
  refine tr (?_)
  obtain rfl:=Option.some.inj H
  exact ⟨_,_,_,fun w1 e1=>QO (vs:=[vI (-1),vI 1]) (FA.cons (rfl) (FA.cons (rfl) (FA.nil))),HM,E,S.pick [] (by decide),⟨rfl,rfl⟩⟩
 ·skip
  replace H:=elimR H
  replace H:=elimR H
  replace H:=elimR H
  replace H:=elimR H
  refine ZZ fn27 (ZH.con k M a0 A1 c1 a1 (Sum.inr (Sum.inr (Sum.inr (Sum.inr t10)))) hr1 ht5) (Γ1:=[]) (Γ2:=[_]) S rfl rfl ?_
  rintro _ w446 M447 Γ' hM448 E' S ⟨b427,A429,c430,b432,A434,c435,A437,c438,A440,c441,A443,c444,rfl,hs431,rfl⟩
  replace HM:=Hp.le_trans HM hM448
  replace E:=E.trans E'
  replace S:St w446 M447 F [_,_,_,_,_,_,_]:=S
  refine W_v (.tuple #[pt b427 0,.bool false]) (QC rfl) rfl (W_v (pt b427 0) (QQ rfl rfl) rfl (W_v (.bool false) (QQ rfl rfl) rfl (W_v (pt b427 0) (QD rfl) rfl (W_v (.bool false) (QD rfl) rfl (QB (tn (QE (QE (QA (W_v (.bool false) (QC rfl) rfl (W_v (.bool true) (Yx (b:=false) rfl) rfl (QB (tn (QL rfl (QE ?_)))))))))))))))
  refine QA (W_v (vI (-1)) (QD rfl) rfl (W_v (vI 1) (QD rfl) rfl (QB (tn ?_))))
  refine QY ?_
  refine tr (?_)
  obtain rfl:=Option.some.inj H
  exact ⟨_,_,_,fun w1 e1=>QO (vs:=[vI (-1),vI 1]) (FA.cons (rfl) (FA.cons (rfl) (FA.nil))),HM,E,S.pick [] (by decide),⟨rfl,rfl⟩⟩
def Zq (k:Nat) (a0:Int):Option (Qo) :=
 some (⟨(2:Int),a0,(2:Int),(2:Int),(9:Int),(2:Int),(2:Int),(3:Int)⟩:Qo)
theorem Zq.mono {k:Nat} {a0:Int}:OLe (Zq k a0) (Zq (k + 1) a0):=by
 unfold Zq
 exact mo
theorem Zq.con (k:Nat) (M:Hp) (a0:Int) (r:Qo)  (h:Zq k a0 = some r):Con Tryd.prog 21 #[vI a0] M [] (fun v M' Γ'=>v = .agg #[vI r.Tasks,vI r.Active,vI r.Keys,vI r.Depth,vI r.TS,vI r.KeyLen,vI r.ValLen,vI r.Fan] ∧ Γ' = []):=by
 refine Qa Tryd.func21 rfl Tryd.ntmps21 Tryd.results21 rfl ?_
 intro w F rn S hrn
 have E:=Ext.refl w
 have HM:=Hp.le_refl M
 have H:=h
 unfold Zq at H
 refine QE (QA ?_)
 refine Zu S #[vI 0,vI 0,vI 0,vI 0,vI 0,vI 0,vI 0,vI 0] ty23 rfl rfl ?_
 intro b1 w2 E' S
 replace E:=E.trans E'
 refine QB (tn (QE (QA (W_v (vI a0) (QC rfl) rfl (W_v (.agg #[vI 2,vI a0,vI 2,vI 2,vI 9,vI 2,vI 2,vI 3]) (ZN (pl:=[(0,1),(1,1),(2,1),(3,1),(4,1),(5,1),(6,1),(7,1)]) #[vI 2,vI a0,vI 2,vI 2,vI 9,vI 2,vI 2,vI 3] Tryd.underlying23 ty23 (by as_aux_lemma=>kernel_rfl) rfl (by as_aux_lemma=>kernel_rfl)) rfl ?_)))))
 refine Q5 S 0 rfl ty23 rfl rfl [vI 2,vI a0,vI 2,vI 2,vI 9,vI 2,vI 2,vI 3] rfl rfl rfl #[vI 2,vI a0,vI 2,vI 2,vI 9,vI 2,vI 2,vI 3] (by as_aux_lemma=>kernel_rfl) rfl ?_
 intro w4 E' S
 replace E:=E.trans E'
 refine QB (tn ?_)
 refine QY ?_
 obtain rfl:=Option.some.inj H
 exact ⟨_,_,_,fun w1 e1=>QO (vs:=[.agg #[vI 2,vI a0,vI 2,vI 2,vI 9,vI 2,vI 2,vI 3]]) (FA.cons (⟨_,rfl,Qv ty23 ((S.of_eq e1).blk 0 rfl) (QI rfl) rfl (by decide)⟩) (FA.nil)),HM,E,S.pick [] (by decide),⟨rfl,rfl⟩⟩
def Yv (k:Nat) :Option ((List (List QW))) :=
 (Option.bind (α:=List QW) (some ([cz2,(⟨(3:Int),(1:Int),([97]:Str),([]:Str),([]:Str),(0:Int),(0:Int)⟩:QW)]:List QW)) (fun x4=>(Option.bind (α:=List QW) (some ([cz2,(⟨(2:Int),(1:Int),([97]:Str),([]:Str),([]:Str),(0:Int),(0:Int)⟩:QW)]:List QW)) (fun x9=>some ([x4,x9]:List (List QW))))))
theorem Yv.mono {k:Nat} :OLe (Yv k ) (Yv (k + 1) ):=by
 unfold Yv
 exact mo
theorem Yv.con (k:Nat) (M:Hp)  (r:(List (List QW)))  (h:Yv k  = some r):Con Tryd.prog 22 #[] M [] (fun v M' Γ'=>∃ (A0:Option Addr) (c0:Nat),v = .slice A0 r.length c0 ∧ Γ' = [Row (rSl ZV) 44 (.slice A0 r.length c0) r]):=by
 refine Qa Tryd.func22 rfl Tryd.ntmps22 Tryd.results22 rfl ?_
 intro w F rn S hrn
 have E:=Ext.refl w
 have HM:=Hp.le_refl M
 have H:=h
 unfold Yv at H
 refine QE (QA (W_v (.slice none 0 0) (QD rfl) rfl (QB (tn (QE (QA (W_v (.agg cz6) (ZN (pl:=[(0,1),(1,1),(2,1),(3,1),(4,1),(5,1),(6,1)]) cz6 Tryd.underlying47 ty47 (by as_aux_lemma=>kernel_rfl) rfl (by as_aux_lemma=>kernel_rfl)) rfl (W_v (.agg #[vU 3,vI 1,vS ([97]:Str),vS ([]:Str),vS ([]:Str),vI 0,vU 0]) (ZN (pl:=[(0,1),(1,1),(2,1),(3,1),(4,1),(5,1),(6,1)]) #[vU 3,vI 1,vS ([97]:Str),vS ([]:Str),vS ([]:Str),vI 0,vU 0] Tryd.underlying47 ty47 (by as_aux_lemma=>kernel_rfl) rfl (by as_aux_lemma=>kernel_rfl)) rfl ?_))))))))
 refine Y6 S #[vU 1,vI 0,vS ([]:Str),vS ([]:Str),vS ([]:Str),vI 0,vU 0,vU 3,vI 1,vS ([97]:Str),vS ([]:Str),vS ([]:Str),vI 0,vU 0] Tryd.underlying44 ty47 rfl rfl #[vU 0,vI 0,vS ([]:Str),vS ([]:Str),vS ([]:Str),vI 0,vU 0,vU 0,vI 0,vS ([]:Str),vS ([]:Str),vS ([]:Str),vI 0,vU 0] (by as_aux_lemma=>kernel_rfl) (by as_aux_lemma=>kernel_rfl) rfl ?_
 intro b1 w2 E' S
 replace E:=E.trans E'
 replace S:=S.blk_row (r:=ZV) (l:=([cz2,(⟨(3:Int),(1:Int),([97]:Str),([]:Str),([]:Str),(0:Int),(0:Int)⟩:QW)]:List QW)) 0 rfl 2 (Nat.le_refl 2) rfl (Cells.cons (vs:=[vU 1,vI 0,vS ([]:Str),vS ([]:Str),vS ([]:Str),vI 0,vU 0]) (rfl) (Cells.cons (vs:=[vU 3,vI 1,vS ([97]:Str),vS ([]:Str),vS ([]:Str),vI 0,vU 0]) (rfl) Cells.nil))
 obtain ⟨x4,he5,H⟩:=QX H
 replace he5:=Option.some.inj he5
 rw [he5] at S
 refine Eq.mpr (congrArg (fun z=>Wl _ _ _ _ _ _ (upd _ _ z) _) (show Value.slice (some ⟨b1,0,none⟩) 2 2 = Value.slice (some ⟨b1,0,none⟩) x4.length 2 from (by rw [← he5]; rfl))) ?_
 refine W_v (.agg cz6) (ZN (pl:=[(0,1),(1,1),(2,1),(3,1),(4,1),(5,1),(6,1)]) cz6 Tryd.underlying47 ty47 (by as_aux_lemma=>kernel_rfl) rfl (by as_aux_lemma=>kernel_rfl)) rfl (W_v (.agg #[vU 2,vI 1,vS ([97]:Str),vS ([]:Str),vS ([]:Str),vI 0,vU 0]) (ZN (pl:=[(0,1),(1,1),(2,1),(3,1),(4,1),(5,1),(6,1)]) #[vU 2,vI 1,vS ([97]:Str),vS ([]:Str),vS ([]:Str),vI 0,vU 0] Tryd.underlying47 ty47 (by as_aux_lemma=>kernel_rfl) rfl (by as_aux_lemma=>kernel_rfl)) rfl ?_)
 refine Y6 S #[vU 1,vI 0,vS ([]:Str),vS ([]:Str),vS ([]:Str),vI 0,vU 0,vU 2,vI 1,vS ([97]:Str),vS ([]:Str),vS ([]:Str),vI 0,vU 0] Tryd.underlying44 ty47 rfl rfl #[vU 0,vI 0,vS ([]:Str),vS ([]:Str),vS ([]:Str),vI 0,vU 0,vU 0,vI 0,vS ([]:Str),vS ([]:Str),vS ([]:Str),vI 0,vU 0] (by as_aux_lemma=>kernel_rfl) (by as_aux_lemma=>kernel_rfl) rfl ?_
 intro b6 w7 E' S
 replace E:=E.trans E'
 replace S:=S.blk_row (r:=ZV) (l:=([cz2,(⟨(2:Int),(1:Int),([97]:Str),([]:Str),([]:Str),(0:Int),(0:Int)⟩:QW)]:List QW)) 0 rfl 2 (Nat.le_refl 2) rfl (Cells.cons (vs:=[vU 1,vI 0,vS ([]:Str),vS ([]:Str),vS ([]:Str),vI 0,vU 0]) (rfl) (Cells.cons (vs:=[vU 2,vI 1,vS ([97]:Str),vS ([]:Str),vS ([]:Str),vI 0,vU 0]) (rfl) Cells.nil))
 obtain ⟨x9,he10,H⟩:=QX H
 replace he10:=Option.some.inj he10
 rw [he10] at S
 refine Eq.mpr (congrArg (fun z=>Wl _ _ _ _ _ _ (upd _ _ z) _) (show Value.slice (some ⟨b6,0,none⟩) 2 2 = Value.slice (some ⟨b6,0,none⟩) x9.length 2 from (by rw [← he10]; rfl))) ?_
 obtain ⟨M11,hM12,hf13,S⟩:=S.row_freeze 1 rfl
 replace HM:=Hp.le_trans HM hM12
 obtain ⟨M14,hM15,hf16,S⟩:=S.row_freeze 0 rfl
 replace HM:=Hp.le_trans HM hM15
 replace hf13:=SlR.mono hf13 hM15
 refine Y6 S #[.slice (some ⟨b1,0,none⟩) x4.length 2,.slice (some ⟨b6,0,none⟩) x9.length 2] Tryd.underlying24 ty44 rfl rfl #[.slice none 0 0,.slice none 0 0] (by as_aux_lemma=>kernel_rfl) (by as_aux_lemma=>kernel_rfl) rfl ?_
 intro b17 w18 E' S
 replace E:=E.trans E'
 replace S:=S.blk_row (r:=(rSl ZV)) (l:=([x4,x9]:List (List QW))) 0 rfl 2 (Nat.le_refl 2) rfl (Cells.cons (vs:=[.slice (some ⟨b1,0,none⟩) x4.length 2]) (⟨_,hf13,rfl⟩) (Cells.cons (vs:=[.slice (some ⟨b6,0,none⟩) x9.length 2]) (⟨_,hf16,rfl⟩) Cells.nil))
 refine W_v (.slice (some ⟨b17,0,none⟩) ([x4,x9]:List (List QW)).length 2) (QD rfl) rfl (QB (tn ?_))
 refine QY ?_
 obtain rfl:=Option.some.inj H
 exact ⟨_,_,_,fun w1 e1=>QO (vs:=[.slice (some ⟨b17,0,none⟩) ([x4,x9]:List (List QW)).length 2]) (FA.cons (rfl) (FA.nil)),HM,E,S.pick [0] (by decide),⟨(some ⟨b17,0,none⟩),2,rfl,rfl⟩⟩
def ZT (k:Nat) (a0:Int) (a1:Int) (a2:Int) (a3:Qf):Option (QG) :=
 some (⟨a0,a1,a2,⟨a3.Err,a3.Found,a3.Value,a3.Pairs⟩⟩:QG)
theorem ZT.mono {k:Nat} {a0:Int} {a1:Int} {a2:Int} {a3:Qf}:OLe (ZT k a0 a1 a2 a3) (ZT (k + 1) a0 a1 a2 a3):=by
 unfold ZT
 exact mo
theorem ZT.con (k:Nat) (M:Hp) (a0:Int) (a1:Int) (a2:Int) (A3_0:Option Addr) (c3_0:Nat) (a3:Qf) (r:QG) (hr3_0:SlR Qr M (.slice A3_0 a3.Pairs.length c3_0) a3.Pairs) (h:ZT k a0 a1 a2 a3 = some r):Con Tryd.prog 26 #[vU a0,vI a1,vI a2,.agg #[vI a3.Err,.bool a3.Found,vS a3.Value,.slice A3_0 a3.Pairs.length c3_0]] M [] (fun v M' Γ'=>∃ (A0:Option Addr) (c0:Nat),v = .agg #[vU r.What,vI r.Task,vI r.Call,vI r.Answer.Err,.bool r.Answer.Found,vS r.Answer.Value,.slice A0 r.Answer.Pairs.length c0] ∧ SlR Qr M' (.slice A0 r.Answer.Pairs.length c0) r.Answer.Pairs ∧ Γ' = []):=by
 refine Qa Tryd.func26 rfl Tryd.ntmps26 Tryd.results26 rfl ?_
 intro w F rn S hrn
 have E:=Ext.refl w
 have HM:=Hp.le_refl M
 have H:=h
 unfold ZT at H
 refine QE (QA ?_)
 refine YO S #[vI a3.Err,.bool a3.Found,vS a3.Value,.slice A3_0 a3.Pairs.length c3_0] rfl rfl rfl ?_
 intro b1 w2 E' S
 replace E:=E.trans E'
 refine Zu S cz5 ty55 rfl rfl ?_
 intro b4 w5 E' S
 replace E:=E.trans E'
 refine QB (tn (QE (QA (W_v (vU a0) (QC rfl) rfl (W_v (vI a1) (QC rfl) rfl (W_v (vI a2) (QC rfl) rfl (W_v (.agg #[vI a3.Err,.bool a3.Found,vS a3.Value,.slice A3_0 a3.Pairs.length c3_0]) (Qh (S.blk 1 rfl) ty34 rfl (QI rfl) rfl rfl) rfl (W_v (.agg #[vU a0,vI a1,vI a2,vI a3.Err,.bool a3.Found,vS a3.Value,.slice A3_0 a3.Pairs.length c3_0]) (ZN (pl:=[(0,1),(1,1),(2,1),(3,4)]) #[vU a0,vI a1,vI a2,vI a3.Err,.bool a3.Found,vS a3.Value,.slice A3_0 a3.Pairs.length c3_0] Tryd.underlying55 ty55 (by as_aux_lemma=>kernel_rfl) rfl (by as_aux_lemma=>kernel_rfl)) rfl ?_))))))))
 refine Q5 S 0 rfl ty55 rfl rfl [vU a0,vI a1,vI a2,vI a3.Err,.bool a3.Found,vS a3.Value,.slice A3_0 a3.Pairs.length c3_0] rfl rfl rfl #[vU a0,vI a1,vI a2,vI a3.Err,.bool a3.Found,vS a3.Value,.slice A3_0 a3.Pairs.length c3_0] (by as_aux_lemma=>kernel_rfl) rfl ?_
 intro w7 E' S
 replace E:=E.trans E'
 refine QB (tn ?_)
 refine QY ?_
 obtain rfl:=Option.some.inj H
 exact ⟨_,_,_,fun w1 e1=>QO (vs:=[.agg #[vU a0,vI a1,vI a2,vI a3.Err,.bool a3.Found,vS a3.Value,.slice A3_0 a3.Pairs.length c3_0]]) (FA.cons (⟨_,rfl,Qv ty55 ((S.of_eq e1).blk 0 rfl) (QI rfl) rfl (by decide)⟩) (FA.nil)),HM,E,S.pick [] (by decide),⟨A3_0,c3_0,rfl,hr3_0,rfl⟩⟩
def Zd (k:Nat) (a0:Int) (a1:Int) (a2:Qf):Option ((List QG)) :=
 (Option.bind (ZT k (1:Int) a0 a1 cz7) (fun t34=>(Option.bind (ZT k (2:Int) a0 a1 cz7) (fun t42=>(Option.bind (ZT k (3:Int) a0 a1 a2) (fun t50=>some ([t34,t42,t50]:List QG)))))))
theorem Zd.mono {k:Nat} {a0:Int} {a1:Int} {a2:Qf}:OLe (Zd k a0 a1 a2) (Zd (k + 1) a0 a1 a2):=by
 unfold Zd
 have m1:=@ZT.mono
 exact mo
theorem Zd.con (k:Nat) (M:Hp) (a0:Int) (a1:Int) (A2_0:Option Addr) (c2_0:Nat) (a2:Qf) (r:(List QG)) (hr2_0:SlR Qr M (.slice A2_0 a2.Pairs.length c2_0) a2.Pairs) (h:Zd k a0 a1 a2 = some r):Con Tryd.prog 18 #[vI a0,vI a1,.agg #[vI a2.Err,.bool a2.Found,vS a2.Value,.slice A2_0 a2.Pairs.length c2_0]] M [] (fun v M' Γ'=>∃ (A0:Option Addr) (c0:Nat),v = .slice A0 r.length c0 ∧ Γ' = [Row QK 55 (.slice A0 r.length c0) r]):=by
 refine Qa Tryd.func18 rfl Tryd.ntmps18 Tryd.results18 rfl ?_
 intro w F rn S hrn
 have E:=Ext.refl w
 have HM:=Hp.le_refl M
 have H:=h
 unfold Zd at H
 refine QE (QA ?_)
 refine YO S #[vI a2.Err,.bool a2.Found,vS a2.Value,.slice A2_0 a2.Pairs.length c2_0] rfl rfl rfl ?_
 intro b1 w2 E' S
 replace E:=E.trans E'
 refine W_v (.slice none 0 0) (QD rfl) rfl (QB (tn (QE ?_)))
 have LE31:=Hp.le_refl M
 refine Ql (S:=fun w'=>∃ Mx,M.le Mx ∧ St w' Mx F [B34 b1 a2 A2_0 c2_0]) (L:=14) mixed ?_
 intro w32 hw33 E'
 replace S:=S.heap hw33
 replace E:=E.trans E'
 have D1:∃ Mx,Hp.le M Mx ∧ St _ Mx F [_]:=⟨_,Hp.le_refl _,S.pick [0] (by decide)⟩
 refine Wt 0 rfl rfl rfl (vI a0) rfl (fun w' h'=>QC rfl) D1 (Wt 1 rfl rfl rfl (vI a1) rfl (fun w' h'=>QC rfl) D1 (Wt 2 rfl rfl rfl (.agg cz13) rfl (fun w' h'=>ZN (pl:=[(0,1),(1,1),(2,1),(3,1)]) cz13 Tryd.underlying34 ty34 (by as_aux_lemma=>kernel_rfl) rfl (by as_aux_lemma=>kernel_rfl)) D1 (Wt 4 rfl rfl rfl (vI a0) rfl (fun w' h'=>QC rfl) D1 (Wt 5 rfl rfl rfl (vI a1) rfl (fun w' h'=>QC rfl) D1 (Wt 6 rfl rfl rfl (.agg cz13) rfl (fun w' h'=>ZN (pl:=[(0,1),(1,1),(2,1),(3,1)]) cz13 Tryd.underlying34 ty34 (by as_aux_lemma=>kernel_rfl) rfl (by as_aux_lemma=>kernel_rfl)) D1 (Wt 8 rfl rfl rfl (vI a0) rfl (fun w' h'=>QC rfl) D1 (Wt 9 rfl rfl rfl (vI a1) rfl (fun w' h'=>QC rfl) D1 (Wt 10 rfl rfl rfl (.agg #[vI a2.Err,.bool a2.Found,vS a2.Value,.slice A2_0 a2.Pairs.length c2_0]) rfl (fun w' h'=>Qh (Qj h' 0 rfl) ty34 rfl (QI rfl) rfl rfl) D1 ?_))))))))
 refine Wo 3 rfl ?_
 obtain ⟨t34,ht35,H⟩:=QX H
 refine ZZ fn26 (ZT.con k M (1:Int) a0 a1 none 0 cz7 t34 (SlW.nil _ _) ht35) (Γ1:=[]) (Γ2:=[_]) S rfl rfl ?_
 rintro _ w39 M40 Γ' hM41 E' S ⟨A36,c37,rfl,hs38,rfl⟩
 replace HM:=Hp.le_trans HM hM41
 replace LE31:=Hp.le_trans LE31 hM41
 replace hr2_0:=SlR.mono hr2_0 hM41
 replace E:=E.trans E'
 refine QB (YC ⟨.inr ⟨M40,LE31,(S.pick [0] (by decide))⟩,?_⟩)
 refine Wo 7 rfl ?_
 obtain ⟨t42,ht43,H⟩:=QX H
 refine ZZ fn26 (ZT.con k M40 (2:Int) a0 a1 none 0 cz7 t42 (SlW.nil _ _) ht43) (Γ1:=[]) (Γ2:=[_]) S rfl rfl ?_
 rintro _ w47 M48 Γ' hM49 E' S ⟨A44,c45,rfl,hs46,rfl⟩
 replace HM:=Hp.le_trans HM hM49
 replace LE31:=Hp.le_trans LE31 hM49
 replace hr2_0:=SlR.mono hr2_0 hM49
 replace hs38:=SlR.mono hs38 hM49
 replace E:=E.trans E'
 refine QB (YC ⟨.inr ⟨M48,LE31,(S.pick [0] (by decide))⟩,?_⟩)
 refine Wo 11 rfl ?_
 obtain ⟨t50,ht51,H⟩:=QX H
 refine ZZ fn26 (ZT.con k M48 (3:Int) a0 a1 A2_0 c2_0 a2 t50 hr2_0 ht51) (Γ1:=[]) (Γ2:=[_]) S rfl rfl ?_
 rintro _ w55 M56 Γ' hM57 E' S ⟨A52,c53,rfl,hs54,rfl⟩
 replace HM:=Hp.le_trans HM hM57
 replace LE31:=Hp.le_trans LE31 hM57
 replace hs38:=SlR.mono hs38 hM57
 replace hs46:=SlR.mono hs46 hM57
 replace E:=E.trans E'
 refine QB (YC ⟨.inr ⟨M56,LE31,(S.pick [0] (by decide))⟩,?_⟩)
 refine Wo 12 rfl ?_
 refine Y6 S #[vU t34.What,vI t34.Task,vI t34.Call,vI t34.Answer.Err,.bool t34.Answer.Found,vS t34.Answer.Value,.slice A36 t34.Answer.Pairs.length c37,vU t42.What,vI t42.Task,vI t42.Call,vI t42.Answer.Err,.bool t42.Answer.Found,vS t42.Answer.Value,.slice A44 t42.Answer.Pairs.length c45,vU t50.What,vI t50.Task,vI t50.Call,vI t50.Answer.Err,.bool t50.Answer.Found,vS t50.Answer.Value,.slice A52 t50.Answer.Pairs.length c53] Tryd.underlying25 ty55 rfl rfl #[vU 0,vI 0,vI 0,vI 0,.bool false,vS ([]:Str),.slice none 0 0,vU 0,vI 0,vI 0,vI 0,.bool false,vS ([]:Str),.slice none 0 0,vU 0,vI 0,vI 0,vI 0,.bool false,vS ([]:Str),.slice none 0 0] (by as_aux_lemma=>kernel_rfl) (by as_aux_lemma=>kernel_rfl) rfl ?_
 intro b58 w59 E' S
 replace E:=E.trans E'
 replace S:=S.blk_row (r:=QK) (l:=([t34,t42,t50]:List QG)) 0 rfl 3 (Nat.le_refl 3) rfl (Cells.cons (vs:=[vU t34.What,vI t34.Task,vI t34.Call,vI t34.Answer.Err,.bool t34.Answer.Found,vS t34.Answer.Value,.slice A36 t34.Answer.Pairs.length c37]) (⟨_,hs38,rfl⟩) (Cells.cons (vs:=[vU t42.What,vI t42.Task,vI t42.Call,vI t42.Answer.Err,.bool t42.Answer.Found,vS t42.Answer.Value,.slice A44 t42.Answer.Pairs.length c45]) (⟨_,hs46,rfl⟩) (Cells.cons (vs:=[vU t50.What,vI t50.Task,vI t50.Call,vI t50.Answer.Err,.bool t50.Answer.Found,vS t50.Answer.Value,.slice A52 t50.Answer.Pairs.length c53]) (⟨_,hs54,rfl⟩) Cells.nil)))
 refine QB (YC ⟨.inr ⟨M56,LE31,(S.pick [1] (by decide))⟩,?_⟩)
 refine Wt 13 rfl rfl rfl (.slice (some ⟨b58,0,none⟩) ([t34,t42,t50]:List QG).length 3) rfl (fun w' h'=>QD rfl) (⟨M56,LE31,(S.pick [1] (by decide))⟩) ?_
 refine Wz ?_
 refine tn ?_
 refine QY ?_
 obtain rfl:=Option.some.inj H
 exact ⟨_,_,_,fun w1 e1=>QO (vs:=[.slice (some ⟨b58,0,none⟩) ([t34,t42,t50]:List QG).length 3]) (FA.cons (rfl) (FA.nil)),HM,E,S.pick [0] (by decide),⟨(some ⟨b58,0,none⟩),3,rfl,rfl⟩⟩
def Zy (k:Nat) (a0:Qf):Option ((List QG)) :=
 (Option.bind (Zd k (0:Int) (0:Int) cz7) (fun t4=>(Option.bind (Zd k (0:Int) (1:Int) cz7) (fun t12=>(if t4.length + t12.length ≤ 1759218604441 then (Option.bind (Zd k (1:Int) (0:Int) cz7) (fun t63=>(if (t4 ++ t12).length + t63.length ≤ 1759218604441 then (Option.bind (Zd k (1:Int) (1:Int) a0) (fun t79=>(if ((t4 ++ t12) ++ t63).length + t79.length ≤ 1759218604441 then some (((t4 ++ t12) ++ t63) ++ t79) else none))) else none))) else none)))))
theorem Zy.mono {k:Nat} {a0:Qf}:OLe (Zy k a0) (Zy (k + 1) a0):=by
 unfold Zy
 have m1:=@Zd.mono
 exact mo
theorem Zy.con (k:Nat) (M:Hp) (A0_0:Option Addr) (c0_0:Nat) (a0:Qf) (r:(List QG)) (hr0_0:SlR Qr M (.slice A0_0 a0.Pairs.length c0_0) a0.Pairs) (h:Zy k a0 = some r):Con Tryd.prog 25 #[.agg #[vI a0.Err,.bool a0.Found,vS a0.Value,.slice A0_0 a0.Pairs.length c0_0]] M [] (fun v M' Γ'=>∃ (A0:Option Addr) (c0:Nat),v = .slice A0 r.length c0 ∧ Γ' = [Row QK 55 (.slice A0 r.length c0) r]):=by
 refine Qa Tryd.func25 rfl Tryd.ntmps25 Tryd.results25 rfl ?_
 intro w F rn S hrn
 have E:=Ext.refl w
 have HM:=Hp.le_refl M
 have H:=h
 unfold Zy at H
 refine QE (QA ?_)
 refine YO S #[vI a0.Err,.bool a0.Found,vS a0.Value,.slice A0_0 a0.Pairs.length c0_0] rfl rfl rfl ?_
 intro b1 w2 E' S
 replace E:=E.trans E'
 refine W_v (.slice none 0 0) (QD rfl) rfl (QB (tn (QE (QA (W_v (.agg cz13) (ZN (pl:=[(0,1),(1,1),(2,1),(3,1)]) cz13 Tryd.underlying34 ty34 (by as_aux_lemma=>kernel_rfl) rfl (by as_aux_lemma=>kernel_rfl)) rfl ?_)))))
 obtain ⟨t4,ht5,H⟩:=QX H
 refine ZZ fn18 (Zd.con k M (0:Int) (0:Int) none 0 cz7 t4 (SlW.nil _ _) ht5) (Γ1:=[]) (Γ2:=[_]) S rfl rfl ?_
 rintro _ w9 M10 Γ' hM11 E' S ⟨A6,c7,rfl,rfl⟩
 replace HM:=Hp.le_trans HM hM11
 replace hr0_0:=SlR.mono hr0_0 hM11
 replace E:=E.trans E'
 refine W_v (.agg cz13) (ZN (pl:=[(0,1),(1,1),(2,1),(3,1)]) cz13 Tryd.underlying34 ty34 (by as_aux_lemma=>kernel_rfl) rfl (by as_aux_lemma=>kernel_rfl)) rfl ?_
 obtain ⟨t12,ht13,H⟩:=QX H
 refine ZZ fn18 (Zd.con k M10 (0:Int) (1:Int) none 0 cz7 t12 (SlW.nil _ _) ht13) (Γ1:=[]) (Γ2:=[_,_]) S rfl rfl ?_
 rintro _ w17 M18 Γ' hM19 E' S ⟨A14,c15,rfl,rfl⟩
 replace HM:=Hp.le_trans HM hM19
 replace hr0_0:=SlR.mono hr0_0 hM19
 replace E:=E.trans E'
 obtain ⟨p20,H⟩:=Zt H
 obtain ⟨src21,hs22,hC23⟩:=Yj (P:=Tryd.prog) (ρ:=QK) (l:=t12) (S.row_read 0 rfl) (by decide)
 refine XN S 1 rfl rfl rfl Tryd.underlying25 (.inl Tryd.underlying25) ty55 rfl (by decide) (by decide) hs22 hC23 rfl (by omega) rfl ?_
 intro v24 w25 E' S
 replace E:=E.trans E'
 obtain ⟨A26,c27,rfl,_⟩:=(S.row_read 1 rfl).form
 refine W_v (.slice A26 (t4 ++ t12).length c27) (QD rfl) rfl (QB (tn (QE ?_)))
 have LE60:=Hp.le_refl M18
 refine Ql (S:=fun w'=>∃ Mx,M18.le Mx ∧ St w' Mx F [Row QK 55 (.slice A14 t12.length c15) t12,B34 b1 a0 A0_0 c0_0]) (L:=8) mixed ?_
 intro w61 hw62 E'
 replace S:=S.heap hw62
 replace E:=E.trans E'
 have D1:∃ Mx,Hp.le M18 Mx ∧ St _ Mx F [_,_]:=⟨_,Hp.le_refl _,S.pick [0,2] (by decide)⟩
 refine Wt 0 rfl rfl rfl (.slice A26 (t4 ++ t12).length c27) rfl (fun w' h'=>QC rfl) D1 (Wt 1 rfl rfl rfl (.agg cz13) rfl (fun w' h'=>ZN (pl:=[(0,1),(1,1),(2,1),(3,1)]) cz13 Tryd.underlying34 ty34 (by as_aux_lemma=>kernel_rfl) rfl (by as_aux_lemma=>kernel_rfl)) D1 (Wt 4 rfl rfl rfl (.agg #[vI a0.Err,.bool a0.Found,vS a0.Value,.slice A0_0 a0.Pairs.length c0_0]) rfl (fun w' h'=>Qh (Qj h' 1 rfl) ty34 rfl (QI rfl) rfl rfl) D1 ?_))
 refine Wo 2 rfl ?_
 obtain ⟨t63,ht64,H⟩:=QX H
 refine ZZ fn18 (Zd.con k M18 (1:Int) (0:Int) none 0 cz7 t63 (SlW.nil _ _) ht64) (Γ1:=[]) (Γ2:=[_,_,_]) S rfl rfl ?_
 rintro _ w68 M69 Γ' hM70 E' S ⟨A65,c66,rfl,rfl⟩
 replace HM:=Hp.le_trans HM hM70
 replace LE60:=Hp.le_trans LE60 hM70
 replace hr0_0:=SlR.mono hr0_0 hM70
 replace E:=E.trans E'
 refine QB (YC ⟨.inr ⟨M69,LE60,(S.pick [1,3] (by decide))⟩,?_⟩)
 refine Wo 3 rfl ?_
 obtain ⟨p71,H⟩:=Zt H
 obtain ⟨src72,hs73,hC74⟩:=Yj (P:=Tryd.prog) (ρ:=QK) (l:=t63) (S.row_read 0 rfl) (by decide)
 refine XN S 2 rfl rfl rfl Tryd.underlying25 (.inl Tryd.underlying25) ty55 rfl (by decide) (by decide) hs73 hC74 rfl (by omega) rfl ?_
 intro v75 w76 E' S
 replace E:=E.trans E'
 obtain ⟨A77,c78,rfl,_⟩:=(S.row_read 2 rfl).form
 refine QB (YC ⟨.inr ⟨M69,LE60,(S.pick [1,3] (by decide))⟩,?_⟩)
 refine Wo 5 rfl ?_
 obtain ⟨t79,ht80,H⟩:=QX H
 refine ZZ fn18 (Zd.con k M69 (1:Int) (1:Int) A0_0 c0_0 a0 t79 hr0_0 ht80) (Γ1:=[]) (Γ2:=[_,_,_,_]) S rfl rfl ?_
 rintro _ w84 M85 Γ' hM86 E' S ⟨A81,c82,rfl,rfl⟩
 replace HM:=Hp.le_trans HM hM86
 replace LE60:=Hp.le_trans LE60 hM86
 replace E:=E.trans E'
 refine QB (YC ⟨.inr ⟨M85,LE60,(S.pick [2,4] (by decide))⟩,?_⟩)
 refine Wo 6 rfl ?_
 obtain ⟨p87,H⟩:=Zt H
 obtain ⟨src88,hs89,hC90⟩:=Yj (P:=Tryd.prog) (ρ:=QK) (l:=t79) (S.row_read 0 rfl) (by decide)
 refine XN S 3 rfl rfl rfl Tryd.underlying25 (.inl Tryd.underlying25) ty55 rfl (by decide) (by decide) hs89 hC90 rfl (by omega) rfl ?_
 intro v91 w92 E' S
 replace E:=E.trans E'
 obtain ⟨A93,c94,rfl,_⟩:=(S.row_read 3 rfl).form
 refine QB (YC ⟨.inr ⟨M85,LE60,(S.pick [2,4] (by decide))⟩,?_⟩)
 refine Wt 7 rfl rfl rfl (.slice A93 (((t4 ++ t12) ++ t63) ++ t79).length c94) rfl (fun w' h'=>QD rfl) (⟨M85,LE60,(S.pick [2,4] (by decide))⟩) ?_
 refine Wz ?_
 refine tn ?_
 refine QY ?_
 obtain rfl:=Option.some.inj H
 exact ⟨_,_,_,fun w1 e1=>QO (vs:=[.slice A93 (((t4 ++ t12) ++ t63) ++ t79).length c94]) (FA.cons (rfl) (FA.nil)),HM,E,S.pick [3] (by decide),⟨A93,c94,rfl,rfl⟩⟩
def ZP (k:Nat) :Option (Bool) :=
 (Option.bind (Zq k (2:Int)) (fun t1=>(Option.bind (Yv k ) (fun t4=>(Option.bind (Zy k cz7) (fun t30=>(Option.bind (Zi k t1 t4 t30) (fun t38=>(Option.bind (Zy k (⟨(0:Int),true,([]:Str),([]:(List Qu))⟩:Qf)) (fun t55=>(Option.bind (Zi k t1 t4 t55) (fun t63=>(Option.bind (Zy k cz7) (fun t102=>(if 0 ≤ (7:Int) ∧ (7:Int) ≤ (t102.length:Int) then (Option.bind (ZT k (1:Int) (1:Int) (1:Int) cz7) (fun t113=>(if (List.take (7:Int).toNat t102).length + ([t113]:List QG).length ≤ 1759218604441 then (Option.bind (Zi k t1 t4 ((List.take (7:Int).toNat t102) ++ ([t113]:List QG))) (fun t132=>(Option.bind (Zy k cz7) (fun t160=>(Option.bind (XW k t160) (fun t171=>(Option.bind (YD k t1 t4 t171) (fun t179=>(if ((((((((t38.1 != (-1:Int)) || (t38.2 != (0:Int))) || (t63.1 != (11:Int))) || (t63.2 != (7:Int))) || (t132.1 != (7:Int))) || (t132.2 != (4:Int))) || (!t179.1)) || (t179.2 != (0:Int))) = true then some false else (Option.bind (ZT k (1:Int) (0:Int) (0:Int) cz7) (fun t190=>(Option.bind (ZT k (1:Int) (1:Int) (0:Int) cz7) (fun t198=>(Option.bind (ZT k (3:Int) (0:Int) (0:Int) (⟨(34:Int),false,([]:Str),([]:(List Qu))⟩:Qf)) (fun t206=>(Option.bind (ZT k (3:Int) (1:Int) (0:Int) cz7) (fun t214=>(Option.bind (Zq k (1:Int)) (fun t225=>(Option.bind (YD k t225 t4 ([t190,t198,t206,t214]:List QG)) (fun t228=>(if 0 ≤ (2:Int) ∧ (2:Int) < (([t190,t198,t206,t214]:List QG).length:Int) then (Option.bind (α:=List QG) (some (List.set ([t190,t198,t206,t214]:List QG) (2:Int).toNat (⟨(rd ([t190,t198,t206,t214]:List QG) (2:Int)).What,(rd ([t190,t198,t206,t214]:List QG) (2:Int)).Task,(rd ([t190,t198,t206,t214]:List QG) (2:Int)).Call,⟨(0:Int),(rd ([t190,t198,t206,t214]:List QG) (2:Int)).Answer.Found,(rd ([t190,t198,t206,t214]:List QG) (2:Int)).Answer.Value,(rd ([t190,t198,t206,t214]:List QG) (2:Int)).Answer.Pairs⟩⟩:QG))) (fun x246=>(Option.bind (Zq k (1:Int)) (fun t250=>(Option.bind (YD k t250 t4 x246) (fun t253=>(if 0 ≤ (3:Int) ∧ (3:Int) < (x246.length:Int) then (Option.bind (α:=List QG) (some (List.set x246 (3:Int).toNat (⟨(rd x246 (3:Int)).What,(rd x246 (3:Int)).Task,(rd x246 (3:Int)).Call,⟨(34:Int),(rd x246 (3:Int)).Answer.Found,(rd x246 (3:Int)).Answer.Value,(rd x246 (3:Int)).Answer.Pairs⟩⟩:QG))) (fun x271=>(Option.bind (Zq k (1:Int)) (fun t276=>(Option.bind (YD k t276 t4 x271) (fun t279=>some (((((t228.1 && (t228.2 == (0:Int))) && (!t253.1)) && (t253.2 == (0:Int))) && t279.1) && (t279.2 == (0:Int))))))))) else none))))))) else none)))))))))))))))))))))) else none))) else none)))))))))))))))
theorem ZP.mono {k:Nat} :OLe (ZP k ) (ZP (k + 1) ):=by
 unfold ZP
 have m1:=@XW.mono
 have m2:=@ZT.mono
 have m3:=@Zy.mono
 have m4:=@Zq.mono
 have m5:=@Yv.mono
 have m6:=@Zi.mono
 have m7:=@YD.mono
 exact mo
theorem ZP.con (k:Nat) (M:Hp)  (r:Bool)  (hg0:∃ gt fr,M 0 = some (.cells cz1 gt fr)) (hg1:∃ gt fr,M 1 = some (.cells cz3 gt fr)) (h:ZP k  = some r):Con Tryd.prog 9 #[] M [] (fun v M' Γ'=>v = .bool r ∧ Γ' = []):=by
 refine Qa Tryd.func9 rfl Tryd.ntmps9 Tryd.results9 rfl ?_
 intro w F rn S hrn
 have E:=Ext.refl w
 have HM:=Hp.le_refl M
 have H:=h
 unfold ZP at H
 refine QE (QA (W_v (.bool false) (QD rfl) rfl (QB (tn (QE (QA ?_))))))
 obtain ⟨t1,ht2,H⟩:=QX H
 refine YJ fn21 (Zq.con k M (2:Int) t1  ht2) S rfl rfl (by rintro _ _ _ ⟨_,rfl⟩; exact Qd) ?_
 rintro _ w3 _ Γ' E' S ⟨rfl,rfl⟩
 replace E:=E.trans E'
 obtain ⟨t4,ht5,H⟩:=QX H
 refine ZZ fn22 (Yv.con k M  t4  ht5) (Γ1:=[]) (Γ2:=[]) S rfl rfl ?_
 rintro _ w9 M10 Γ' hM11 E' S ⟨A6,c7,rfl,rfl⟩
 replace hg0:=gup hg0 hM11
 replace hg1:=gup hg1 hM11
 replace HM:=Hp.le_trans HM hM11
 replace E:=E.trans E'
 refine Zu S #[vI 0,vI 0,vI 0,vI 0,vI 0,vI 0,vI 0,vI 0] ty23 rfl rfl ?_
 intro b12 w13 E' S
 replace E:=E.trans E'
 refine Q5 S 0 rfl ty23 rfl rfl [vI t1.Tasks,vI t1.Active,vI t1.Keys,vI t1.Depth,vI t1.TS,vI t1.KeyLen,vI t1.ValLen,vI t1.Fan] rfl rfl rfl #[vI t1.Tasks,vI t1.Active,vI t1.Keys,vI t1.Depth,vI t1.TS,vI t1.KeyLen,vI t1.ValLen,vI t1.Fan] (by as_aux_lemma=>kernel_rfl) rfl ?_
 intro w15 E' S
 replace E:=E.trans E'
 refine W_v (.slice A6 t4.length c7) (QD rfl) rfl (QB (tn (QE ?_)))
 have LE27:=Hp.le_refl M10
 refine Ql (S:=fun w'=>∃ Mx,M10.le Mx ∧ St w' Mx F [B23 b12 t1,Row (rSl ZV) 44 (.slice A6 t4.length c7) t4]) (L:=10) mixed ?_
 intro w28 hw29 E'
 replace S:=S.heap hw29
 replace E:=E.trans E'
 have D1:∃ Mx,Hp.le M10 Mx ∧ St _ Mx F [_,_]:=⟨_,Hp.le_refl _,S.pick [0,1] (by decide)⟩
 refine Wt 0 rfl rfl rfl (.agg #[vI t1.Tasks,vI t1.Active,vI t1.Keys,vI t1.Depth,vI t1.TS,vI t1.KeyLen,vI t1.ValLen,vI t1.Fan]) rfl (fun w' h'=>Qh (Qj h' 0 rfl) ty23 rfl (QI rfl) rfl rfl) D1 (Wt 1 rfl rfl rfl (.slice A6 t4.length c7) rfl (fun w' h'=>QC rfl) D1 (Wt 2 rfl rfl rfl (.agg cz13) rfl (fun w' h'=>ZN (pl:=[(0,1),(1,1),(2,1),(3,1)]) cz13 Tryd.underlying34 ty34 (by as_aux_lemma=>kernel_rfl) rfl (by as_aux_lemma=>kernel_rfl)) D1 ?_))
 refine Wo 3 rfl ?_
 obtain ⟨t30,ht31,H⟩:=QX H
 refine ZZ fn25 (Zy.con k M10 none 0 cz7 t30 (SlW.nil _ _) ht31) (Γ1:=[]) (Γ2:=[_,_]) S rfl rfl ?_
 rintro _ w35 M36 Γ' hM37 E' S ⟨A32,c33,rfl,rfl⟩
 replace hg0:=gup hg0 hM37
 replace hg1:=gup hg1 hM37
 replace HM:=Hp.le_trans HM hM37
 replace LE27:=Hp.le_trans LE27 hM37
 replace E:=E.trans E'
 refine QB (YC ⟨.inr ⟨M36,LE27,(S.pick [1,2] (by decide))⟩,?_⟩)
 refine Wo 4 rfl ?_
 replace S:St w35 M36 F [_,_,_]:=S.pick [2,0,1] (by decide)
 obtain ⟨t38,ht39,H⟩:=QX H
 refine XX 2 fn20 (fun h9 hs9 hd9=>Zi.con k _ t1 A6 c7 t4 A32 c33 t30 t38 (Sats.row hs9 hd9 0 rfl) (Sats.row hs9 hd9 1 rfl) (let ⟨gt,fr,h8⟩:=hg0; ⟨gt,fr,Hp.le_union_left _ _ _ _ h8⟩) (let ⟨gt,fr,h8⟩:=hg1; ⟨gt,fr,Hp.le_union_left _ _ _ _ h8⟩) ht39) S rfl rfl (by rintro _ _ _ ⟨_,rfl⟩; exact Qd) ?_
 rintro _ w40 _ Γ' E' S ⟨rfl,rfl⟩
 replace E:=E.trans E'
 refine QB (YC ⟨.inr ⟨M36,LE27,(S.pick [2,0] (by decide))⟩,?_⟩)
 refine Wt 5 rfl rfl rfl (.tuple #[vI t38.1,vI t38.2]) rfl (fun w' h'=>QC rfl) (⟨M36,LE27,(S.pick [2,0] (by decide))⟩) (Wt 6 rfl rfl rfl (vI t38.1) rfl (fun w' h'=>QQ rfl rfl) (⟨M36,LE27,(S.pick [2,0] (by decide))⟩) (Wt 7 rfl rfl rfl (vI t38.2) rfl (fun w' h'=>QQ rfl rfl) (⟨M36,LE27,(S.pick [2,0] (by decide))⟩) (Wt 8 rfl rfl rfl (vI t38.1) rfl (fun w' h'=>QD rfl) (⟨M36,LE27,(S.pick [2,0] (by decide))⟩) (Wt 9 rfl rfl rfl (vI t38.2) rfl (fun w' h'=>QD rfl) (⟨M36,LE27,(S.pick [2,0] (by decide))⟩) ?_))))
 refine Wz ?_
 refine tn ?_
 as_aux_lemma =>
 refine QE ?_
 have LE52:=Hp.le_refl M36
 refine Ql (S:=fun w'=>∃ Mx,M36.le Mx ∧ St w' Mx F [Row (rSl ZV) 44 (.slice A6 t4.length c7) t4,Row QK 55 (.slice A32 t30.length c33) t30,B23 b12 t1]) (L:=10) mixed ?_
 intro w53 hw54 E'
 replace S:=S.heap hw54
 replace E:=E.trans E'
 have D2:∃ Mx,Hp.le M36 Mx ∧ St _ Mx F [_,_,_]:=⟨_,Hp.le_refl _,S.pick [0,1,2] (by decide)⟩
 refine Wt 0 rfl rfl rfl (.agg #[vI t1.Tasks,vI t1.Active,vI t1.Keys,vI t1.Depth,vI t1.TS,vI t1.KeyLen,vI t1.ValLen,vI t1.Fan]) rfl (fun w' h'=>Qh (Qj h' 2 rfl) ty23 rfl (QI rfl) rfl rfl) D2 (Wt 1 rfl rfl rfl (.slice A6 t4.length c7) rfl (fun w' h'=>QC rfl) D2 (Wt 2 rfl rfl rfl (.agg #[vI 0,.bool true,vS ([]:Str),.slice none 0 0]) rfl (fun w' h'=>ZN (pl:=[(0,1),(1,1),(2,1),(3,1)]) #[vI 0,.bool true,vS ([]:Str),.slice none 0 0] Tryd.underlying34 ty34 (by as_aux_lemma=>kernel_rfl) rfl (by as_aux_lemma=>kernel_rfl)) D2 ?_))
 refine Wo 3 rfl ?_
 obtain ⟨t55,ht56,H⟩:=QX H
 refine ZZ fn25 (Zy.con k M36 none 0 (⟨(0:Int),true,([]:Str),([]:(List Qu))⟩:Qf) t55 (SlW.nil _ _) ht56) (Γ1:=[]) (Γ2:=[_,_,_]) S rfl rfl ?_
 rintro _ w60 M61 Γ' hM62 E' S ⟨A57,c58,rfl,rfl⟩
 replace hg0:=gup hg0 hM62
 replace hg1:=gup hg1 hM62
 replace HM:=Hp.le_trans HM hM62
 replace LE52:=Hp.le_trans LE52 hM62
 replace E:=E.trans E'
 refine QB (YC ⟨.inr ⟨M61,LE52,(S.pick [1,2,3] (by decide))⟩,?_⟩)
 refine Wo 4 rfl ?_
 replace S:St w60 M61 F [_,_,_,_]:=S.pick [1,0,2,3] (by decide)
 obtain ⟨t63,ht64,H⟩:=QX H
 refine XX 2 fn20 (fun h9 hs9 hd9=>Zi.con k _ t1 A6 c7 t4 A57 c58 t55 t63 (Sats.row hs9 hd9 0 rfl) (Sats.row hs9 hd9 1 rfl) (let ⟨gt,fr,h8⟩:=hg0; ⟨gt,fr,Hp.le_union_left _ _ _ _ h8⟩) (let ⟨gt,fr,h8⟩:=hg1; ⟨gt,fr,Hp.le_union_left _ _ _ _ h8⟩) ht64) S rfl rfl (by rintro _ _ _ ⟨_,rfl⟩; exact Qd) ?_
 rintro _ w65 _ Γ' E' S ⟨rfl,rfl⟩
 replace E:=E.trans E'
 refine QB (YC ⟨.inr ⟨M61,LE52,(S.pick [0,2,3] (by decide))⟩,?_⟩)
 refine Wt 5 rfl rfl rfl (.tuple #[vI t63.1,vI t63.2]) rfl (fun w' h'=>QC rfl) (⟨M61,LE52,(S.pick [0,2,3] (by decide))⟩) (Wt 6 rfl rfl rfl (vI t63.1) rfl (fun w' h'=>QQ rfl rfl) (⟨M61,LE52,(S.pick [0,2,3] (by decide))⟩) (Wt 7 rfl rfl rfl (vI t63.2) rfl (fun w' h'=>QQ rfl rfl) (⟨M61,LE52,(S.pick [0,2,3] (by decide))⟩) (Wt 8 rfl rfl rfl (vI t63.1) rfl (fun w' h'=>QD rfl) (⟨M61,LE52,(S.pick [0,2,3] (by decide))⟩) (Wt 9 rfl rfl rfl (vI t63.2) rfl (fun w' h'=>QD rfl) (⟨M61,LE52,(S.pick [0,2,3] (by decide))⟩) ?_))))
 refine Wz ?_
 refine tn (QE ?_)
 have LE99:=Hp.le_refl M61
 refine Ql (S:=fun w'=>∃ Mx,M61.le Mx ∧ St w' Mx F [Row (rSl ZV) 44 (.slice A6 t4.length c7) t4,Row QK 55 (.slice A57 t55.length c58) t55,Row QK 55 (.slice A32 t30.length c33) t30,B23 b12 t1]) (L:=15) mixed ?_
 intro w100 hw101 E'
 replace S:=S.heap hw101
 replace E:=E.trans E'
 have D3:∃ Mx,Hp.le M61 Mx ∧ St _ Mx F [_,_,_,_]:=⟨_,Hp.le_refl _,S.pick [0,1,2,3] (by decide)⟩
 refine Wt 0 rfl rfl rfl (.agg #[vI t1.Tasks,vI t1.Active,vI t1.Keys,vI t1.Depth,vI t1.TS,vI t1.KeyLen,vI t1.ValLen,vI t1.Fan]) rfl (fun w' h'=>Qh (Qj h' 3 rfl) ty23 rfl (QI rfl) rfl rfl) D3 (Wt 1 rfl rfl rfl (.slice A6 t4.length c7) rfl (fun w' h'=>QC rfl) D3 (Wt 2 rfl rfl rfl (.agg cz13) rfl (fun w' h'=>ZN (pl:=[(0,1),(1,1),(2,1),(3,1)]) cz13 Tryd.underlying34 ty34 (by as_aux_lemma=>kernel_rfl) rfl (by as_aux_lemma=>kernel_rfl)) D3 (Wt 5 rfl rfl rfl (.agg cz13) rfl (fun w' h'=>ZN (pl:=[(0,1),(1,1),(2,1),(3,1)]) cz13 Tryd.underlying34 ty34 (by as_aux_lemma=>kernel_rfl) rfl (by as_aux_lemma=>kernel_rfl)) D3 ?_)))
 refine Wo 3 rfl ?_
 obtain ⟨t102,ht103,H⟩:=QX H
 refine ZZ fn25 (Zy.con k M61 none 0 cz7 t102 (SlW.nil _ _) ht103) (Γ1:=[]) (Γ2:=[_,_,_,_]) S rfl rfl ?_
 rintro _ w107 M108 Γ' hM109 E' S ⟨A104,c105,rfl,rfl⟩
 replace hg0:=gup hg0 hM109
 replace hg1:=gup hg1 hM109
 replace HM:=Hp.le_trans HM hM109
 replace LE99:=Hp.le_trans LE99 hM109
 replace E:=E.trans E'
 refine QB (YC ⟨.inr ⟨M108,LE99,(S.pick [1,2,3,4] (by decide))⟩,?_⟩)
 obtain ⟨⟨p110,p111⟩,H⟩:=Zt H
 have hx112:=@V1 _ _ _ _ _ _ _ _ _ (S.row_read 0 rfl) p110 p111
 replace S:=S.row_take 0 rfl (7:Int).toNat (by omega)
 replace S:St w107 M108 F [_,_,_,_,_]:=S
 refine Wt 4 rfl rfl rfl (.slice A104 (List.take (7:Int).toNat t102).length c105) rfl (fun w' h'=>hx112 Tryd.underlying25 ty55 rfl rfl) (⟨M108,LE99,(S.pick [1,2,3,4] (by decide))⟩) ?_
 refine Wo 6 rfl ?_
 obtain ⟨t113,ht114,H⟩:=QX H
 refine ZZ fn26 (ZT.con k M108 (1:Int) (1:Int) (1:Int) none 0 cz7 t113 (SlW.nil _ _) ht114) (Γ1:=[]) (Γ2:=[_,_,_,_,_]) S rfl rfl ?_
 rintro _ w118 M119 Γ' hM120 E' S ⟨A115,c116,rfl,hs117,rfl⟩
 replace hg0:=gup hg0 hM120
 replace hg1:=gup hg1 hM120
 replace HM:=Hp.le_trans HM hM120
 replace LE99:=Hp.le_trans LE99 hM120
 replace E:=E.trans E'
 refine QB (YC ⟨.inr ⟨M119,LE99,(S.pick [1,2,3,4] (by decide))⟩,?_⟩)
 refine Wo 7 rfl ?_
 refine Y6 S #[vU t113.What,vI t113.Task,vI t113.Call,vI t113.Answer.Err,.bool t113.Answer.Found,vS t113.Answer.Value,.slice A115 t113.Answer.Pairs.length c116] Tryd.underlying25 ty55 rfl rfl cz5 (by as_aux_lemma=>kernel_rfl) (by as_aux_lemma=>kernel_rfl) rfl ?_
 intro b121 w122 E' S
 replace E:=E.trans E'
 replace S:=S.blk_row (r:=QK) (l:=([t113]:List QG)) 0 rfl 1 (Nat.le_refl 1) rfl (Cells.cons (vs:=[vU t113.What,vI t113.Task,vI t113.Call,vI t113.Answer.Err,.bool t113.Answer.Found,vS t113.Answer.Value,.slice A115 t113.Answer.Pairs.length c116]) (⟨_,hs117,rfl⟩) Cells.nil)
 refine QB (YC ⟨.inr ⟨M119,LE99,(S.pick [2,3,4,5] (by decide))⟩,?_⟩)
 refine Wo 8 rfl ?_
 obtain ⟨p124,H⟩:=Zt H
 obtain ⟨src125,hs126,hC127⟩:=Yj (P:=Tryd.prog) (ρ:=QK) (l:=([t113]:List QG)) (S.row_read 0 rfl) (by decide)
 refine XN S 1 rfl rfl rfl Tryd.underlying25 (.inl Tryd.underlying25) ty55 rfl (by decide) (by decide) hs126 hC127 rfl (by omega) rfl ?_
 intro v128 w129 E' S
 replace E:=E.trans E'
 obtain ⟨A130,c131,rfl,_⟩:=(S.row_read 1 rfl).form
 refine QB (YC ⟨.inr ⟨M119,LE99,(S.pick [2,3,4,5] (by decide))⟩,?_⟩)
 refine Wo 9 rfl ?_
 replace S:St w129 M119 F [_,_,_,_,_,_]:=S.pick [2,1,0,3,4,5] (by decide)
 obtain ⟨t132,ht133,H⟩:=QX H
 refine XX 2 fn20 (fun h9 hs9 hd9=>Zi.con k _ t1 A6 c7 t4 A130 c131 ((List.take (7:Int).toNat t102) ++ ([t113]:List QG)) t132 (Sats.row hs9 hd9 0 rfl) (Sats.row hs9 hd9 1 rfl) (let ⟨gt,fr,h8⟩:=hg0; ⟨gt,fr,Hp.le_union_left _ _ _ _ h8⟩) (let ⟨gt,fr,h8⟩:=hg1; ⟨gt,fr,Hp.le_union_left _ _ _ _ h8⟩) ht133) S rfl rfl (by rintro _ _ _ ⟨_,rfl⟩; exact Qd) ?_
 rintro _ w134 _ Γ' E' S ⟨rfl,rfl⟩
 replace E:=E.trans E'
 refine QB (YC ⟨.inr ⟨M119,LE99,(S.pick [0,3,4,5] (by decide))⟩,?_⟩)
 refine Wt 10 rfl rfl rfl (.tuple #[vI t132.1,vI t132.2]) rfl (fun w' h'=>QC rfl) (⟨M119,LE99,(S.pick [0,3,4,5] (by decide))⟩) (Wt 11 rfl rfl rfl (vI t132.1) rfl (fun w' h'=>QQ rfl rfl) (⟨M119,LE99,(S.pick [0,3,4,5] (by decide))⟩) (Wt 12 rfl rfl rfl (vI t132.2) rfl (fun w' h'=>QQ rfl rfl) (⟨M119,LE99,(S.pick [0,3,4,5] (by decide))⟩) (Wt 13 rfl rfl rfl (vI t132.1) rfl (fun w' h'=>QD rfl) (⟨M119,LE99,(S.pick [0,3,4,5] (by decide))⟩) (Wt 14 rfl rfl rfl (vI t132.2) rfl (fun w' h'=>QD rfl) (⟨M119,LE99,(S.pick [0,3,4,5] (by decide))⟩) ?_))))
 refine Wz ?_
 refine tn ?_
 as_aux_lemma =>
 refine QE ?_
 have LE157:=Hp.le_refl M119
 refine Ql (S:=fun w'=>∃ Mx,M119.le Mx ∧ St w' Mx F [Row (rSl ZV) 44 (.slice A6 t4.length c7) t4,Row QK 55 (.slice A130 ((List.take (7:Int).toNat t102) ++ ([t113]:List QG)).length c131) ((List.take (7:Int).toNat t102) ++ ([t113]:List QG)),Row QK 55 (.slice (some ⟨b121,0,none⟩) ([t113]:List QG).length 1) ([t113]:List QG),Row QK 55 (.slice A57 t55.length c58) t55,Row QK 55 (.slice A32 t30.length c33) t30,B23 b12 t1]) (L:=11) mixed ?_
 intro w158 hw159 E'
 replace S:=S.heap hw159
 replace E:=E.trans E'
 have D4:∃ Mx,Hp.le M119 Mx ∧ St _ Mx F [_,_,_,_,_,_]:=⟨_,Hp.le_refl _,S.pick [0,1,2,3,4,5] (by decide)⟩
 refine Wt 0 rfl rfl rfl (.agg #[vI t1.Tasks,vI t1.Active,vI t1.Keys,vI t1.Depth,vI t1.TS,vI t1.KeyLen,vI t1.ValLen,vI t1.Fan]) rfl (fun w' h'=>Qh (Qj h' 5 rfl) ty23 rfl (QI rfl) rfl rfl) D4 (Wt 1 rfl rfl rfl (.slice A6 t4.length c7) rfl (fun w' h'=>QC rfl) D4 (Wt 2 rfl rfl rfl (.agg cz13) rfl (fun w' h'=>ZN (pl:=[(0,1),(1,1),(2,1),(3,1)]) cz13 Tryd.underlying34 ty34 (by as_aux_lemma=>kernel_rfl) rfl (by as_aux_lemma=>kernel_rfl)) D4 ?_))
 refine Wo 3 rfl ?_
 obtain ⟨t160,ht161,H⟩:=QX H
 refine ZZ fn25 (Zy.con k M119 none 0 cz7 t160 (SlW.nil _ _) ht161) (Γ1:=[]) (Γ2:=[_,_,_,_,_,_]) S rfl rfl ?_
 rintro _ w165 M166 Γ' hM167 E' S ⟨A162,c163,rfl,rfl⟩
 replace hg0:=gup hg0 hM167
 replace hg1:=gup hg1 hM167
 replace HM:=Hp.le_trans HM hM167
 replace LE157:=Hp.le_trans LE157 hM167
 replace E:=E.trans E'
 refine QB (YC ⟨.inr ⟨M166,LE157,(S.pick [1,2,3,4,5,6] (by decide))⟩,?_⟩)
 refine Wo 4 rfl ?_
 obtain ⟨M168,hM169,hf170,S⟩:=S.row_freeze 0 rfl
 replace hg0:=gup hg0 hM169
 replace hg1:=gup hg1 hM169
 replace HM:=Hp.le_trans HM hM169
 replace LE157:=Hp.le_trans LE157 hM169
 obtain ⟨t171,ht172,H⟩:=QX H
 refine ZZ fn17 (XW.con k M168 A162 c163 t160 t171 hf170 ht172) (Γ1:=[]) (Γ2:=[_,_,_,_,_,_]) S rfl rfl ?_
 rintro _ w176 M177 Γ' hM178 E' S ⟨A173,c174,rfl,rfl⟩
 replace hg0:=gup hg0 hM178
 replace hg1:=gup hg1 hM178
 replace HM:=Hp.le_trans HM hM178
 replace LE157:=Hp.le_trans LE157 hM178
 replace E:=E.trans E'
 refine QB (YC ⟨.inr ⟨M177,LE157,(S.pick [1,2,3,4,5,6] (by decide))⟩,?_⟩)
 refine Wo 5 rfl ?_
 replace S:St w176 M177 F [_,_,_,_,_,_,_]:=S.pick [1,0,2,3,4,5,6] (by decide)
 obtain ⟨t179,ht180,H⟩:=QX H
 refine XX 2 fn10 (fun h9 hs9 hd9=>YD.con k _ t1 A6 c7 t4 A173 c174 t171 t179 (Sats.row hs9 hd9 0 rfl) (Sats.row hs9 hd9 1 rfl) (let ⟨gt,fr,h8⟩:=hg0; ⟨gt,fr,Hp.le_union_left _ _ _ _ h8⟩) (let ⟨gt,fr,h8⟩:=hg1; ⟨gt,fr,Hp.le_union_left _ _ _ _ h8⟩) ht180) S rfl rfl (by rintro _ _ _ ⟨_,rfl⟩; exact Qd) ?_
 rintro _ w181 _ Γ' E' S ⟨rfl,rfl⟩
 replace E:=E.trans E'
 refine QB (YC ⟨.inr ⟨M177,LE157,(S.pick [0,2,3,4,5,6] (by decide))⟩,?_⟩)
 refine Wt 6 rfl rfl rfl (.tuple #[.bool t179.1,vI t179.2]) rfl (fun w' h'=>QC rfl) (⟨M177,LE157,(S.pick [0,2,3,4,5,6] (by decide))⟩) (Wt 7 rfl rfl rfl (.bool t179.1) rfl (fun w' h'=>QQ rfl rfl) (⟨M177,LE157,(S.pick [0,2,3,4,5,6] (by decide))⟩) (Wt 8 rfl rfl rfl (vI t179.2) rfl (fun w' h'=>QQ rfl rfl) (⟨M177,LE157,(S.pick [0,2,3,4,5,6] (by decide))⟩) (Wt 9 rfl rfl rfl (.bool t179.1) rfl (fun w' h'=>QD rfl) (⟨M177,LE157,(S.pick [0,2,3,4,5,6] (by decide))⟩) (Wt 10 rfl rfl rfl (vI t179.2) rfl (fun w' h'=>QD rfl) (⟨M177,LE157,(S.pick [0,2,3,4,5,6] (by decide))⟩) ?_))))
 refine Wz ?_
 refine tn ?_
 as_aux_lemma =>
 refine QE (QE (QA (W_v (vI t38.1) (QC rfl) rfl (W_v (.bool (t38.1 != (-1:Int))) (QT rfl rfl rfl rfl) rfl (W_v (.bool (t38.1 != (-1:Int))) (QC rfl) rfl ?_)))))
 refine ZI 3 (fun ρ w'=>Qs ρ [(2,.slice A6 t4.length c7),(5,vI t63.1),(6,vI t63.2),(7,vI t132.1),(8,vI t132.2),(9,.bool t179.1),(10,vI t179.2),(63,.bool ((t38.1 != (-1:Int)) || (t38.2 != (0:Int))))] ∧ w181 = w') ?_ ?_
 ·rcases Qw (t38.1 != (-1:Int)) with hb182 | hb182
  ·skip
   refine QU (congrArg some hb182) (W_v (vI t38.2) (QC rfl) rfl (QU (congrArg some hb182) (W_v (.bool (t38.2 != (0:Int))) (QT rfl rfl rfl rfl) rfl (W_v (.bool (t38.2 != (0:Int))) (QZ (k:=false) (congrArg Value.bool hb182) rfl) rfl (QB ?_)))))
   exact ⟨⟨rfl,rfl,rfl,rfl,rfl,rfl,rfl,(by first | rfl | (rw [hb182]; rfl) | (simp only [hb182]; rfl)),trivial⟩,rfl⟩
  ·skip
   refine Qk (skF hb182) rfl (Qk (skF hb182) rfl (W_v (.bool true) (QZ (k:=true) (congrArg Value.bool hb182) rfl) rfl (QB ?_)))
   exact ⟨⟨rfl,rfl,rfl,rfl,rfl,rfl,rfl,(by first | rfl | (rw [hb182]; rfl) | (simp only [hb182]; rfl)),trivial⟩,rfl⟩
 as_aux_lemma =>
 rintro ρ _ ⟨hρ,rfl⟩
 rw [QN hρ]
 refine W_v (.bool ((t38.1 != (-1:Int)) || (t38.2 != (0:Int)))) (QC rfl) rfl ?_
 refine ZI 3 (fun ρ w'=>Qs ρ [(2,.slice A6 t4.length c7),(6,vI t63.2),(7,vI t132.1),(8,vI t132.2),(9,.bool t179.1),(10,vI t179.2),(67,.bool (((t38.1 != (-1:Int)) || (t38.2 != (0:Int))) || (t63.1 != (11:Int))))] ∧ w181 = w') ?_ ?_
 ·rcases Qw ((t38.1 != (-1:Int)) || (t38.2 != (0:Int))) with hb183 | hb183
  ·skip
   refine QU (congrArg some hb183) (W_v (vI t63.1) (QC rfl) rfl (QU (congrArg some hb183) (W_v (.bool (t63.1 != (11:Int))) (QT rfl rfl rfl rfl) rfl (W_v (.bool (t63.1 != (11:Int))) (QZ (k:=false) (congrArg Value.bool hb183) rfl) rfl (QB ?_)))))
   exact ⟨⟨rfl,rfl,rfl,rfl,rfl,rfl,(by first | rfl | (rw [hb183]; rfl) | (simp only [hb183]; rfl)),trivial⟩,rfl⟩
  ·skip
   refine Qk (skF hb183) rfl (Qk (skF hb183) rfl (W_v (.bool true) (QZ (k:=true) (congrArg Value.bool hb183) rfl) rfl (QB ?_)))
   exact ⟨⟨rfl,rfl,rfl,rfl,rfl,rfl,(by first | rfl | (rw [hb183]; rfl) | (simp only [hb183]; rfl)),trivial⟩,rfl⟩
 as_aux_lemma =>
 rintro ρ _ ⟨hρ,rfl⟩
 rw [QN hρ]
 refine W_v (.bool (((t38.1 != (-1:Int)) || (t38.2 != (0:Int))) || (t63.1 != (11:Int)))) (QC rfl) rfl ?_
 refine ZI 3 (fun ρ w'=>Qs ρ [(2,.slice A6 t4.length c7),(7,vI t132.1),(8,vI t132.2),(9,.bool t179.1),(10,vI t179.2),(71,.bool ((((t38.1 != (-1:Int)) || (t38.2 != (0:Int))) || (t63.1 != (11:Int))) || (t63.2 != (7:Int))))] ∧ w181 = w') ?_ ?_
 ·rcases Qw (((t38.1 != (-1:Int)) || (t38.2 != (0:Int))) || (t63.1 != (11:Int))) with hb184 | hb184
  ·skip
   refine QU (congrArg some hb184) (W_v (vI t63.2) (QC rfl) rfl (QU (congrArg some hb184) (W_v (.bool (t63.2 != (7:Int))) (QT rfl rfl rfl rfl) rfl (W_v (.bool (t63.2 != (7:Int))) (QZ (k:=false) (congrArg Value.bool hb184) rfl) rfl (QB ?_)))))
   exact ⟨⟨rfl,rfl,rfl,rfl,rfl,(by first | rfl | (rw [hb184]; rfl) | (simp only [hb184]; rfl)),trivial⟩,rfl⟩
  ·skip
   refine Qk (skF hb184) rfl (Qk (skF hb184) rfl (W_v (.bool true) (QZ (k:=true) (congrArg Value.bool hb184) rfl) rfl (QB ?_)))
   exact ⟨⟨rfl,rfl,rfl,rfl,rfl,(by first | rfl | (rw [hb184]; rfl) | (simp only [hb184]; rfl)),trivial⟩,rfl⟩
 as_aux_lemma =>
 rintro ρ _ ⟨hρ,rfl⟩
 rw [QN hρ]
 refine W_v (.bool ((((t38.1 != (-1:Int)) || (t38.2 != (0:Int))) || (t63.1 != (11:Int))) || (t63.2 != (7:Int)))) (QC rfl) rfl ?_
 refine ZI 3 (fun ρ w'=>Qs ρ [(2,.slice A6 t4.length c7),(8,vI t132.2),(9,.bool t179.1),(10,vI t179.2),(75,.bool (((((t38.1 != (-1:Int)) || (t38.2 != (0:Int))) || (t63.1 != (11:Int))) || (t63.2 != (7:Int))) || (t132.1 != (7:Int))))] ∧ w181 = w') ?_ ?_
 ·rcases Qw ((((t38.1 != (-1:Int)) || (t38.2 != (0:Int))) || (t63.1 != (11:Int))) || (t63.2 != (7:Int))) with hb185 | hb185
  ·skip
   refine QU (congrArg some hb185) (W_v (vI t132.1) (QC rfl) rfl (QU (congrArg some hb185) (W_v (.bool (t132.1 != (7:Int))) (QT rfl rfl rfl rfl) rfl (W_v (.bool (t132.1 != (7:Int))) (QZ (k:=false) (congrArg Value.bool hb185) rfl) rfl (QB ?_)))))
   exact ⟨⟨rfl,rfl,rfl,rfl,(by first | rfl | (rw [hb185]; rfl) | (simp only [hb185]; rfl)),trivial⟩,rfl⟩
  ·skip
   refine Qk (skF hb185) rfl (Qk (skF hb185) rfl (W_v (.bool true) (QZ (k:=true) (congrArg Value.bool hb185) rfl) rfl (QB ?_)))
   exact ⟨⟨rfl,rfl,rfl,rfl,(by first | rfl | (rw [hb185]; rfl) | (simp only [hb185]; rfl)),trivial⟩,rfl⟩
 as_aux_lemma =>
 rintro ρ _ ⟨hρ,rfl⟩
 rw [QN hρ]
 refine W_v (.bool (((((t38.1 != (-1:Int)) || (t38.2 != (0:Int))) || (t63.1 != (11:Int))) || (t63.2 != (7:Int))) || (t132.1 != (7:Int)))) (QC rfl) rfl ?_
 refine ZI 3 (fun ρ w'=>Qs ρ [(2,.slice A6 t4.length c7),(9,.bool t179.1),(10,vI t179.2),(79,.bool ((((((t38.1 != (-1:Int)) || (t38.2 != (0:Int))) || (t63.1 != (11:Int))) || (t63.2 != (7:Int))) || (t132.1 != (7:Int))) || (t132.2 != (4:Int))))] ∧ w181 = w') ?_ ?_
 ·rcases Qw (((((t38.1 != (-1:Int)) || (t38.2 != (0:Int))) || (t63.1 != (11:Int))) || (t63.2 != (7:Int))) || (t132.1 != (7:Int))) with hb186 | hb186
  ·skip
   refine QU (congrArg some hb186) (W_v (vI t132.2) (QC rfl) rfl (QU (congrArg some hb186) (W_v (.bool (t132.2 != (4:Int))) (QT rfl rfl rfl rfl) rfl (W_v (.bool (t132.2 != (4:Int))) (QZ (k:=false) (congrArg Value.bool hb186) rfl) rfl (QB ?_)))))
   exact ⟨⟨rfl,rfl,rfl,(by first | rfl | (rw [hb186]; rfl) | (simp only [hb186]; rfl)),trivial⟩,rfl⟩
  ·skip
   refine Qk (skF hb186) rfl (Qk (skF hb186) rfl (W_v (.bool true) (QZ (k:=true) (congrArg Value.bool hb186) rfl) rfl (QB ?_)))
   exact ⟨⟨rfl,rfl,rfl,(by first | rfl | (rw [hb186]; rfl) | (simp only [hb186]; rfl)),trivial⟩,rfl⟩
 as_aux_lemma =>
 rintro ρ _ ⟨hρ,rfl⟩
 rw [QN hρ]
 refine W_v (.bool ((((((t38.1 != (-1:Int)) || (t38.2 != (0:Int))) || (t63.1 != (11:Int))) || (t63.2 != (7:Int))) || (t132.1 != (7:Int))) || (t132.2 != (4:Int)))) (QC rfl) rfl ?_
 refine ZI 3 (fun ρ w'=>Qs ρ [(2,.slice A6 t4.length c7),(10,vI t179.2),(83,.bool (((((((t38.1 != (-1:Int)) || (t38.2 != (0:Int))) || (t63.1 != (11:Int))) || (t63.2 != (7:Int))) || (t132.1 != (7:Int))) || (t132.2 != (4:Int))) || (!t179.1)))] ∧ w181 = w') ?_ ?_
 ·rcases Qw ((((((t38.1 != (-1:Int)) || (t38.2 != (0:Int))) || (t63.1 != (11:Int))) || (t63.2 != (7:Int))) || (t132.1 != (7:Int))) || (t132.2 != (4:Int))) with hb187 | hb187
  ·skip
   refine QU (congrArg some hb187) (W_v (.bool t179.1) (QC rfl) rfl (QU (congrArg some hb187) (W_v (.bool (!t179.1)) (Yx (b:=t179.1) rfl) rfl (W_v (.bool (!t179.1)) (QZ (k:=false) (congrArg Value.bool hb187) rfl) rfl (QB ?_)))))
   exact ⟨⟨rfl,rfl,(by first | rfl | (rw [hb187]; rfl) | (simp only [hb187]; rfl)),trivial⟩,rfl⟩
  ·skip
   refine Qk (skF hb187) rfl (Qk (skF hb187) rfl (W_v (.bool true) (QZ (k:=true) (congrArg Value.bool hb187) rfl) rfl (QB ?_)))
   exact ⟨⟨rfl,rfl,(by first | rfl | (rw [hb187]; rfl) | (simp only [hb187]; rfl)),trivial⟩,rfl⟩
 as_aux_lemma =>
 rintro ρ _ ⟨hρ,rfl⟩
 rw [QN hρ]
 refine W_v (.bool (((((((t38.1 != (-1:Int)) || (t38.2 != (0:Int))) || (t63.1 != (11:Int))) || (t63.2 != (7:Int))) || (t132.1 != (7:Int))) || (t132.2 != (4:Int))) || (!t179.1))) (QC rfl) rfl ?_
 refine ZI 3 (fun ρ w'=>Qs ρ [(2,.slice A6 t4.length c7),(87,.bool ((((((((t38.1 != (-1:Int)) || (t38.2 != (0:Int))) || (t63.1 != (11:Int))) || (t63.2 != (7:Int))) || (t132.1 != (7:Int))) || (t132.2 != (4:Int))) || (!t179.1)) || (t179.2 != (0:Int))))] ∧ w181 = w') ?_ ?_
 ·rcases Qw (((((((t38.1 != (-1:Int)) || (t38.2 != (0:Int))) || (t63.1 != (11:Int))) || (t63.2 != (7:Int))) || (t132.1 != (7:Int))) || (t132.2 != (4:Int))) || (!t179.1)) with hb188 | hb188
  ·skip
   refine QU (congrArg some hb188) (W_v (vI t179.2) (QC rfl) rfl (QU (congrArg some hb188) (W_v (.bool (t179.2 != (0:Int))) (QT rfl rfl rfl rfl) rfl (W_v (.bool (t179.2 != (0:Int))) (QZ (k:=false) (congrArg Value.bool hb188) rfl) rfl (QB ?_)))))
   exact ⟨⟨rfl,(by first | rfl | (rw [hb188]; rfl) | (simp only [hb188]; rfl)),trivial⟩,rfl⟩
  ·skip
   refine Qk (skF hb188) rfl (Qk (skF hb188) rfl (W_v (.bool true) (QZ (k:=true) (congrArg Value.bool hb188) rfl) rfl (QB ?_)))
   exact ⟨⟨rfl,(by first | rfl | (rw [hb188]; rfl) | (simp only [hb188]; rfl)),trivial⟩,rfl⟩
 as_aux_lemma =>
 rintro ρ _ ⟨hρ,rfl⟩
 rw [QN hρ]
 refine QB (tn ?_)
 rcases Zh H with ⟨hb189,H⟩ | ⟨hb189,H⟩
 ·refine QL (congrArg Value.bool hb189) ?_
  refine QE (QA (W_v (.bool false) (QD rfl) rfl (QB (tn ?_))))
  refine QY ?_
  refine tr (?_)
  obtain rfl:=Option.some.inj H
  exact ⟨_,_,_,fun w1 e1=>QO (vs:=[.bool false]) (FA.cons (rfl) (FA.nil)),HM,E,S.pick [] (by decide),⟨rfl,rfl⟩⟩
 refine QJ (congrArg Value.bool hb189) (Qg (tn (QE (QA (W_v (.agg cz13) (ZN (pl:=[(0,1),(1,1),(2,1),(3,1)]) cz13 Tryd.underlying34 ty34 (by as_aux_lemma=>kernel_rfl) rfl (by as_aux_lemma=>kernel_rfl)) rfl ?_)))))
 obtain ⟨t190,ht191,H⟩:=QX H
 refine ZZ fn26 (ZT.con k M177 (1:Int) (0:Int) (0:Int) none 0 cz7 t190 (SlW.nil _ _) ht191) (Γ1:=[]) (Γ2:=[_,_,_,_,_,_,_]) S rfl rfl ?_
 rintro _ w195 M196 Γ' hM197 E' S ⟨A192,c193,rfl,hs194,rfl⟩
 replace hg0:=gup hg0 hM197
 replace hg1:=gup hg1 hM197
 replace HM:=Hp.le_trans HM hM197
 replace E:=E.trans E'
 refine W_v (.agg cz13) (ZN (pl:=[(0,1),(1,1),(2,1),(3,1)]) cz13 Tryd.underlying34 ty34 (by as_aux_lemma=>kernel_rfl) rfl (by as_aux_lemma=>kernel_rfl)) rfl ?_
 obtain ⟨t198,ht199,H⟩:=QX H
 refine ZZ fn26 (ZT.con k M196 (1:Int) (1:Int) (0:Int) none 0 cz7 t198 (SlW.nil _ _) ht199) (Γ1:=[]) (Γ2:=[_,_,_,_,_,_,_]) S rfl rfl ?_
 rintro _ w203 M204 Γ' hM205 E' S ⟨A200,c201,rfl,hs202,rfl⟩
 replace hg0:=gup hg0 hM205
 replace hg1:=gup hg1 hM205
 replace HM:=Hp.le_trans HM hM205
 replace hs194:=SlR.mono hs194 hM205
 replace E:=E.trans E'
 refine W_v (.agg cz10) (ZN (pl:=[(0,1),(1,1),(2,1),(3,1)]) cz10 Tryd.underlying34 ty34 (by as_aux_lemma=>kernel_rfl) rfl (by as_aux_lemma=>kernel_rfl)) rfl ?_
 obtain ⟨t206,ht207,H⟩:=QX H
 refine ZZ fn26 (ZT.con k M204 (3:Int) (0:Int) (0:Int) none 0 (⟨(34:Int),false,([]:Str),([]:(List Qu))⟩:Qf) t206 (SlW.nil _ _) ht207) (Γ1:=[]) (Γ2:=[_,_,_,_,_,_,_]) S rfl rfl ?_
 rintro _ w211 M212 Γ' hM213 E' S ⟨A208,c209,rfl,hs210,rfl⟩
 replace hg0:=gup hg0 hM213
 replace hg1:=gup hg1 hM213
 replace HM:=Hp.le_trans HM hM213
 replace hs194:=SlR.mono hs194 hM213
 replace hs202:=SlR.mono hs202 hM213
 replace E:=E.trans E'
 refine W_v (.agg cz13) (ZN (pl:=[(0,1),(1,1),(2,1),(3,1)]) cz13 Tryd.underlying34 ty34 (by as_aux_lemma=>kernel_rfl) rfl (by as_aux_lemma=>kernel_rfl)) rfl ?_
 obtain ⟨t214,ht215,H⟩:=QX H
 refine ZZ fn26 (ZT.con k M212 (3:Int) (1:Int) (0:Int) none 0 cz7 t214 (SlW.nil _ _) ht215) (Γ1:=[]) (Γ2:=[_,_,_,_,_,_,_]) S rfl rfl ?_
 rintro _ w219 M220 Γ' hM221 E' S ⟨A216,c217,rfl,hs218,rfl⟩
 replace hg0:=gup hg0 hM221
 replace hg1:=gup hg1 hM221
 replace HM:=Hp.le_trans HM hM221
 replace hs194:=SlR.mono hs194 hM221
 replace hs202:=SlR.mono hs202 hM221
 replace hs210:=SlR.mono hs210 hM221
 replace E:=E.trans E'
 refine Y6 S #[vU t190.What,vI t190.Task,vI t190.Call,vI t190.Answer.Err,.bool t190.Answer.Found,vS t190.Answer.Value,.slice A192 t190.Answer.Pairs.length c193,vU t198.What,vI t198.Task,vI t198.Call,vI t198.Answer.Err,.bool t198.Answer.Found,vS t198.Answer.Value,.slice A200 t198.Answer.Pairs.length c201,vU t206.What,vI t206.Task,vI t206.Call,vI t206.Answer.Err,.bool t206.Answer.Found,vS t206.Answer.Value,.slice A208 t206.Answer.Pairs.length c209,vU t214.What,vI t214.Task,vI t214.Call,vI t214.Answer.Err,.bool t214.Answer.Found,vS t214.Answer.Value,.slice A216 t214.Answer.Pairs.length c217] Tryd.underlying25 ty55 rfl rfl #[vU 0,vI 0,vI 0,vI 0,.bool false,vS ([]:Str),.slice none 0 0,vU 0,vI 0,vI 0,vI 0,.bool false,vS ([]:Str),.slice none 0 0,vU 0,vI 0,vI 0,vI 0,.bool false,vS ([]:Str),.slice none 0 0,vU 0,vI 0,vI 0,vI 0,.bool false,vS ([]:Str),.slice none 0 0] (by as_aux_lemma=>kernel_rfl) (by as_aux_lemma=>kernel_rfl) rfl ?_
 intro b222 w223 E' S
 replace E:=E.trans E'
 replace S:=S.blk_row (r:=QK) (l:=([t190,t198,t206,t214]:List QG)) 0 rfl 4 (Nat.le_refl 4) rfl (Cells.cons (vs:=[vU t190.What,vI t190.Task,vI t190.Call,vI t190.Answer.Err,.bool t190.Answer.Found,vS t190.Answer.Value,.slice A192 t190.Answer.Pairs.length c193]) (⟨_,hs194,rfl⟩) (Cells.cons (vs:=[vU t198.What,vI t198.Task,vI t198.Call,vI t198.Answer.Err,.bool t198.Answer.Found,vS t198.Answer.Value,.slice A200 t198.Answer.Pairs.length c201]) (⟨_,hs202,rfl⟩) (Cells.cons (vs:=[vU t206.What,vI t206.Task,vI t206.Call,vI t206.Answer.Err,.bool t206.Answer.Found,vS t206.Answer.Value,.slice A208 t206.Answer.Pairs.length c209]) (⟨_,hs210,rfl⟩) (Cells.cons (vs:=[vU t214.What,vI t214.Task,vI t214.Call,vI t214.Answer.Err,.bool t214.Answer.Found,vS t214.Answer.Value,.slice A216 t214.Answer.Pairs.length c217]) (⟨_,hs218,rfl⟩) Cells.nil))))
 refine W_v (.slice (some ⟨b222,0,none⟩) ([t190,t198,t206,t214]:List QG).length 4) (QD rfl) rfl (QB (tn ?_))
 as_aux_lemma =>
 refine QE (QA ?_)
 obtain ⟨t225,ht226,H⟩:=QX H
 refine YJ fn21 (Zq.con k M220 (1:Int) t225  ht226) S rfl rfl (by rintro _ _ _ ⟨_,rfl⟩; exact Qd) ?_
 rintro _ w227 _ Γ' E' S ⟨rfl,rfl⟩
 replace E:=E.trans E'
 refine W_v (.slice A6 t4.length c7) (QC rfl) rfl (W_v (.slice (some ⟨b222,0,none⟩) ([t190,t198,t206,t214]:List QG).length 4) (QC rfl) rfl ?_)
 replace S:St w227 M220 F [_,_,_,_,_,_,_,_]:=S.pick [1,0,2,3,4,5,6,7] (by decide)
 obtain ⟨t228,ht229,H⟩:=QX H
 refine XX 2 fn10 (fun h9 hs9 hd9=>YD.con k _ t225 A6 c7 t4 (some ⟨b222,0,none⟩) 4 ([t190,t198,t206,t214]:List QG) t228 (Sats.row hs9 hd9 0 rfl) (Sats.row hs9 hd9 1 rfl) (let ⟨gt,fr,h8⟩:=hg0; ⟨gt,fr,Hp.le_union_left _ _ _ _ h8⟩) (let ⟨gt,fr,h8⟩:=hg1; ⟨gt,fr,Hp.le_union_left _ _ _ _ h8⟩) ht229) S rfl rfl (by rintro _ _ _ ⟨_,rfl⟩; exact Qd) ?_
 rintro _ w230 _ Γ' E' S ⟨rfl,rfl⟩
 replace E:=E.trans E'
 refine W_v (.tuple #[.bool t228.1,vI t228.2]) (QC rfl) rfl (W_v (.bool t228.1) (QQ rfl rfl) rfl (W_v (vI t228.2) (QQ rfl rfl) rfl (W_v (.bool t228.1) (QD rfl) rfl (W_v (vI t228.2) (QD rfl) rfl (QB (tn (QE (QA (W_v (.slice (some ⟨b222,0,none⟩) ([t190,t198,t206,t214]:List QG).length 4) (QC rfl) rfl ?_)))))))))
 obtain ⟨⟨p231,p232⟩,H⟩:=Zt H
 obtain ⟨b233,o234,cs235,_,_,ee240,hb236,vs237,hR238,hc239⟩:=SlW.at' (S.row_read 1 rfl) p231 p232
 obtain ⟨v244,hs243,rfl⟩:=hR238
 obtain ⟨A241,c242,rfl,_⟩:=hs243.form
 refine W_v (.pointer (some ⟨b233,o234 + (2:Int).toNat * 7,none⟩)) (Qe Tryd.underlying25 ty55 (slA ee240) rfl p231 p232) rfl (W_v (.pointer (some ⟨b233,o234 + (2:Int).toNat * 7 + 3,none⟩)) (QF (o:=o234 + (2:Int).toNat * 7) (off:=3) Tryd.underlying55 rfl ty34 rfl rfl) rfl (W_v (.pointer (some ⟨b233,o234 + (2:Int).toNat * 7 + 3,none⟩)) (QF (o:=o234 + (2:Int).toNat * 7 + 3) (off:=0) Tryd.underlying34 rfl ty28 rfl rfl) rfl ?_))
 obtain ⟨x246,he247,H⟩:=QX H
 replace he247:=Option.some.inj he247
 refine XE S 1 rfl rfl ee240 (by first | exact p231 | simpa using p231) (by first | exact p232 | simpa using p232) 3 ty28 rfl rfl [vI 0] rfl rfl rfl rfl (⟨(rd ([t190,t198,t206,t214]:List QG) (2:Int)).What,(rd ([t190,t198,t206,t214]:List QG) (2:Int)).Task,(rd ([t190,t198,t206,t214]:List QG) (2:Int)).Call,⟨(0:Int),(rd ([t190,t198,t206,t214]:List QG) (2:Int)).Answer.Found,(rd ([t190,t198,t206,t214]:List QG) (2:Int)).Answer.Value,(rd ([t190,t198,t206,t214]:List QG) (2:Int)).Answer.Pairs⟩⟩:QG) (by rintro _ ⟨_,h6,rfl⟩; exact ⟨_,h6,rfl⟩) he247 ?_
 intro w245 E' S
 replace E:=E.trans E'
 have hs248:Value.slice (some ⟨b222,0,none⟩) ([t190,t198,t206,t214]:List QG).length 4 = Value.slice (some ⟨b222,0,none⟩) x246.length 4:=by rw [← he247,List.length_set]
 try unfold B23 at S
 try rw [hs248] at S
 try rw [hs248]
 have p249:(2:Int) < (x246.length:Int):=by rw [← he247,List.length_set]; exact p232
 refine QB (tn (QE (QA ?_)))
 obtain ⟨t250,ht251,H⟩:=QX H
 refine YJ fn21 (Zq.con k M220 (1:Int) t250  ht251) S rfl rfl (by rintro _ _ _ ⟨_,rfl⟩; exact Qd) ?_
 rintro _ w252 _ Γ' E' S ⟨rfl,rfl⟩
 replace E:=E.trans E'
 refine W_v (.slice A6 t4.length c7) (QC rfl) rfl (W_v (.slice (some ⟨b222,0,none⟩) x246.length 4) (QC rfl) rfl ?_)
 obtain ⟨t253,ht254,H⟩:=QX H
 refine XX 2 fn10 (fun h9 hs9 hd9=>YD.con k _ t250 A6 c7 t4 (some ⟨b222,0,none⟩) 4 x246 t253 (Sats.row hs9 hd9 0 rfl) (Sats.row hs9 hd9 1 rfl) (let ⟨gt,fr,h8⟩:=hg0; ⟨gt,fr,Hp.le_union_left _ _ _ _ h8⟩) (let ⟨gt,fr,h8⟩:=hg1; ⟨gt,fr,Hp.le_union_left _ _ _ _ h8⟩) ht254) S rfl rfl (by rintro _ _ _ ⟨_,rfl⟩; exact Qd) ?_
 rintro _ w255 _ Γ' E' S ⟨rfl,rfl⟩
 replace E:=E.trans E'
 refine W_v (.tuple #[.bool t253.1,vI t253.2]) (QC rfl) rfl (W_v (.bool t253.1) (QQ rfl rfl) rfl (W_v (vI t253.2) (QQ rfl rfl) rfl (W_v (.bool t253.1) (QD rfl) rfl (W_v (vI t253.2) (QD rfl) rfl (QB (tn ?_))))))
 as_aux_lemma =>
 refine QE (QA (W_v (.slice (some ⟨b222,0,none⟩) x246.length 4) (QC rfl) rfl ?_))
 obtain ⟨⟨p256,p257⟩,H⟩:=Zt H
 obtain ⟨b258,o259,cs260,_,_,ee265,hb261,vs262,hR263,hc264⟩:=SlW.at' (S.row_read 1 rfl) p256 p257
 obtain ⟨v269,hs268,rfl⟩:=hR263
 obtain ⟨A266,c267,rfl,_⟩:=hs268.form
 refine W_v (.pointer (some ⟨b258,o259 + (3:Int).toNat * 7,none⟩)) (Qe Tryd.underlying25 ty55 (slA ee265) rfl p256 p257) rfl (W_v (.pointer (some ⟨b258,o259 + (3:Int).toNat * 7 + 3,none⟩)) (QF (o:=o259 + (3:Int).toNat * 7) (off:=3) Tryd.underlying55 rfl ty34 rfl rfl) rfl (W_v (.pointer (some ⟨b258,o259 + (3:Int).toNat * 7 + 3,none⟩)) (QF (o:=o259 + (3:Int).toNat * 7 + 3) (off:=0) Tryd.underlying34 rfl ty28 rfl rfl) rfl ?_))
 obtain ⟨x271,he272,H⟩:=QX H
 replace he272:=Option.some.inj he272
 refine XE S 1 rfl rfl ee265 (by first | exact p256 | simpa using p256) (by first | exact p257 | simpa using p257) 3 ty28 rfl rfl [vI 34] rfl rfl rfl rfl (⟨(rd x246 (3:Int)).What,(rd x246 (3:Int)).Task,(rd x246 (3:Int)).Call,⟨(34:Int),(rd x246 (3:Int)).Answer.Found,(rd x246 (3:Int)).Answer.Value,(rd x246 (3:Int)).Answer.Pairs⟩⟩:QG) (by rintro _ ⟨_,h6,rfl⟩; exact ⟨_,h6,rfl⟩) he272 ?_
 intro w270 E' S
 replace E:=E.trans E'
 have hs273:Value.slice (some ⟨b222,0,none⟩) x246.length 4 = Value.slice (some ⟨b222,0,none⟩) x271.length 4:=by rw [← he272,List.length_set]
 try unfold B23 at S
 try rw [hs273] at S
 try rw [hs273]
 have p274:(2:Int) < (x271.length:Int):=by rw [← he272,List.length_set]; exact p249
 have p275:(3:Int) < (x271.length:Int):=by rw [← he272,List.length_set]; exact p257
 refine QB (tn (QE (QA ?_)))
 obtain ⟨t276,ht277,H⟩:=QX H
 refine YJ fn21 (Zq.con k M220 (1:Int) t276  ht277) S rfl rfl (by rintro _ _ _ ⟨_,rfl⟩; exact Qd) ?_
 rintro _ w278 _ Γ' E' S ⟨rfl,rfl⟩
 replace E:=E.trans E'
 refine W_v (.slice A6 t4.length c7) (QC rfl) rfl (W_v (.slice (some ⟨b222,0,none⟩) x271.length 4) (QC rfl) rfl ?_)
 obtain ⟨t279,ht280,H⟩:=QX H
 refine XX 2 fn10 (fun h9 hs9 hd9=>YD.con k _ t276 A6 c7 t4 (some ⟨b222,0,none⟩) 4 x271 t279 (Sats.row hs9 hd9 0 rfl) (Sats.row hs9 hd9 1 rfl) (let ⟨gt,fr,h8⟩:=hg0; ⟨gt,fr,Hp.le_union_left _ _ _ _ h8⟩) (let ⟨gt,fr,h8⟩:=hg1; ⟨gt,fr,Hp.le_union_left _ _ _ _ h8⟩) ht280) S rfl rfl (by rintro _ _ _ ⟨_,rfl⟩; exact Qd) ?_
 rintro _ w281 _ Γ' E' S ⟨rfl,rfl⟩
 replace E:=E.trans E'
 refine W_v (.tuple #[.bool t279.1,vI t279.2]) (QC rfl) rfl (W_v (.bool t279.1) (QQ rfl rfl) rfl (W_v (vI t279.2) (QQ rfl rfl) rfl (W_v (.bool t279.1) (QD rfl) rfl (W_v (vI t279.2) (QD rfl) rfl (QB (tn (QE (QA (W_v (.bool t228.1) (QC rfl) rfl (W_v (.bool t228.1) (QC rfl) rfl ?_))))))))))
 refine ZI 3 (fun ρ w'=>Qs ρ [(14,.bool t253.1),(15,vI t253.2),(16,.bool t279.1),(17,vI t279.2),(130,.bool (t228.1 && (t228.2 == (0:Int))))] ∧ w281 = w') ?_ ?_
 ·rcases Qw t228.1 with hb282 | hb282
  ·skip
   refine Qk (skT hb282) rfl (Qk (skT hb282) rfl (W_v (.bool false) (QZ (k:=false) (congrArg Value.bool hb282) rfl) rfl (QB ?_)))
   exact ⟨⟨rfl,rfl,rfl,rfl,(by first | rfl | (rw [hb282]; rfl) | (simp only [hb282]; rfl)),trivial⟩,rfl⟩
  ·skip
   refine QU (congrArg some hb282) (W_v (vI t228.2) (QC rfl) rfl (QU (congrArg some hb282) (W_v (.bool (t228.2 == (0:Int))) (QT rfl rfl rfl rfl) rfl (W_v (.bool (t228.2 == (0:Int))) (QZ (k:=true) (congrArg Value.bool hb282) rfl) rfl (QB ?_)))))
   exact ⟨⟨rfl,rfl,rfl,rfl,(by first | rfl | (rw [hb282]; rfl) | (simp only [hb282]; rfl)),trivial⟩,rfl⟩
 as_aux_lemma =>
 rintro ρ _ ⟨hρ,rfl⟩
 rw [QN hρ]
 refine W_v (.bool (t228.1 && (t228.2 == (0:Int)))) (QC rfl) rfl ?_
 refine ZI 3 (fun ρ w'=>Qs ρ [(15,vI t253.2),(16,.bool t279.1),(17,vI t279.2),(134,.bool ((t228.1 && (t228.2 == (0:Int))) && (!t253.1)))] ∧ w281 = w') ?_ ?_
 ·rcases Qw (t228.1 && (t228.2 == (0:Int))) with hb283 | hb283
  ·skip
   refine Qk (skT hb283) rfl (Qk (skT hb283) rfl (W_v (.bool false) (QZ (k:=false) (congrArg Value.bool hb283) rfl) rfl (QB ?_)))
   exact ⟨⟨rfl,rfl,rfl,(by first | rfl | (rw [hb283]; rfl) | (simp only [hb283]; rfl)),trivial⟩,rfl⟩
  ·skip
   refine QU (congrArg some hb283) (W_v (.bool t253.1) (QC rfl) rfl (QU (congrArg some hb283) (W_v (.bool (!t253.1)) (Yx (b:=t253.1) rfl) rfl (W_v (.bool (!t253.1)) (QZ (k:=true) (congrArg Value.bool hb283) rfl) rfl (QB ?_)))))
   exact ⟨⟨rfl,rfl,rfl,(by first | rfl | (rw [hb283]; rfl) | (simp only [hb283]; rfl)),trivial⟩,rfl⟩
 as_aux_lemma =>
 rintro ρ _ ⟨hρ,rfl⟩
 rw [QN hρ]
 refine W_v (.bool ((t228.1 && (t228.2 == (0:Int))) && (!t253.1))) (QC rfl) rfl ?_
 refine ZI 3 (fun ρ w'=>Qs ρ [(16,.bool t279.1),(17,vI t279.2),(138,.bool (((t228.1 && (t228.2 == (0:Int))) && (!t253.1)) && (t253.2 == (0:Int))))] ∧ w281 = w') ?_ ?_
 ·rcases Qw ((t228.1 && (t228.2 == (0:Int))) && (!t253.1)) with hb284 | hb284
  ·skip
   refine Qk (skT hb284) rfl (Qk (skT hb284) rfl (W_v (.bool false) (QZ (k:=false) (congrArg Value.bool hb284) rfl) rfl (QB ?_)))
   exact ⟨⟨rfl,rfl,(by first | rfl | (rw [hb284]; rfl) | (simp only [hb284]; rfl)),trivial⟩,rfl⟩
  ·skip
   refine QU (congrArg some hb284) (W_v (vI t253.2) (QC rfl) rfl (QU (congrArg some hb284) (W_v (.bool (t253.2 == (0:Int))) (QT rfl rfl rfl rfl) rfl (W_v (.bool (t253.2 == (0:Int))) (QZ (k:=true) (congrArg Value.bool hb284) rfl) rfl (QB ?_)))))
   exact ⟨⟨rfl,rfl,(by first | rfl | (rw [hb284]; rfl) | (simp only [hb284]; rfl)),trivial⟩,rfl⟩
 as_aux_lemma =>
 rintro ρ _ ⟨hρ,rfl⟩
 rw [QN hρ]
 refine W_v (.bool (((t228.1 && (t228.2 == (0:Int))) && (!t253.1)) && (t253.2 == (0:Int)))) (QC rfl) rfl ?_
 refine ZI 2 (fun ρ w'=>Qs ρ [(17,vI t279.2),(141,.bool ((((t228.1 && (t228.2 == (0:Int))) && (!t253.1)) && (t253.2 == (0:Int))) && t279.1))] ∧ w281 = w') ?_ ?_
 ·rcases Qw (((t228.1 && (t228.2 == (0:Int))) && (!t253.1)) && (t253.2 == (0:Int))) with hb285 | hb285
  ·skip
   refine Qk (skT hb285) rfl (W_v (.bool false) (QZ (k:=false) (congrArg Value.bool hb285) rfl) rfl (QB ?_))
   exact ⟨⟨rfl,(by first | rfl | (rw [hb285]; rfl) | (simp only [hb285]; rfl)),trivial⟩,rfl⟩
  ·skip
   refine QU (congrArg some hb285) (W_v (.bool t279.1) (QC rfl) rfl (W_v (.bool t279.1) (QZ (k:=true) (congrArg Value.bool hb285) rfl) rfl (QB ?_)))
   exact ⟨⟨rfl,(by first | rfl | (rw [hb285]; rfl) | (simp only [hb285]; rfl)),trivial⟩,rfl⟩
 rintro ρ _ ⟨hρ,rfl⟩
 rw [QN hρ]
 refine W_v (.bool ((((t228.1 && (t228.2 == (0:Int))) && (!t253.1)) && (t253.2 == (0:Int))) && t279.1)) (QC rfl) rfl ?_
 refine ZI 3 (fun ρ w'=>Qs ρ [(145,.bool (((((t228.1 && (t228.2 == (0:Int))) && (!t253.1)) && (t253.2 == (0:Int))) && t279.1) && (t279.2 == (0:Int))))] ∧ w281 = w') ?_ ?_
 ·rcases Qw ((((t228.1 && (t228.2 == (0:Int))) && (!t253.1)) && (t253.2 == (0:Int))) && t279.1) with hb286 | hb286
  ·skip
   refine Qk (skT hb286) rfl (Qk (skT hb286) rfl (W_v (.bool false) (QZ (k:=false) (congrArg Value.bool hb286) rfl) rfl (QB ?_)))
   exact ⟨⟨(by first | rfl | (rw [hb286]; rfl) | (simp only [hb286]; rfl)),trivial⟩,rfl⟩
  ·skip
   refine QU (congrArg some hb286) (W_v (vI t279.2) (QC rfl) rfl (QU (congrArg some hb286) (W_v (.bool (t279.2 == (0:Int))) (QT rfl rfl rfl rfl) rfl (W_v (.bool (t279.2 == (0:Int))) (QZ (k:=true) (congrArg Value.bool hb286) rfl) rfl (QB ?_)))))
   exact ⟨⟨(by first | rfl | (rw [hb286]; rfl) | (simp only [hb286]; rfl)),trivial⟩,rfl⟩
 rintro ρ _ ⟨hρ,rfl⟩
 rw [QN hρ]
 refine W_v (.bool (((((t228.1 && (t228.2 == (0:Int))) && (!t253.1)) && (t253.2 == (0:Int))) && t279.1) && (t279.2 == (0:Int)))) (QD rfl) rfl (QB (tn ?_))
 refine QY ?_
 obtain rfl:=Option.some.inj H
 exact ⟨_,_,_,fun w1 e1=>QO (vs:=[.bool (((((t228.1 && (t228.2 == (0:Int))) && (!t253.1)) && (t253.2 == (0:Int))) && t279.1) && (t279.2 == (0:Int)))]) (FA.cons (rfl) (FA.nil)),HM,E,S.pick [] (by decide),⟨rfl,rfl⟩⟩
def XG (k:Nat) (a0:Qo) (a1:(List (List QW))) (a2:(List QG)):Option ((List ZL)) :=
 (Option.bind (Z4 k a0 a1 a2) (fun t4=>(Sum.elim (fun t6=>some ([]:(List ZL))) (Sum.elim (fun t7=>some ([]:(List ZL))) (fun t8=>some t8.done))) t4))
theorem XG.mono {k:Nat} {a0:Qo} {a1:(List (List QW))} {a2:(List QG)}:OLe (XG k a0 a1 a2) (XG (k + 1) a0 a1 a2):=by
 unfold XG
 have m1:=@Z4.mono
 exact mo
theorem XG.con (k:Nat) (M:Hp) (a0:Qo) (A1:Option Addr) (c1:Nat) (a1:(List (List QW))) (A2:Option Addr) (c2:Nat) (a2:(List QG)) (r:(List ZL)) (hr1:SlR (rSl ZV) M (.slice A1 a1.length c1) a1) (hr2:SlR QK M (.slice A2 a2.length c2) a2) (hg0:∃ gt fr,M 0 = some (.cells cz1 gt fr)) (hg1:∃ gt fr,M 1 = some (.cells cz3 gt fr)) (h:XG k a0 a1 a2 = some r):Con Tryd.prog 24 #[.agg #[vI a0.Tasks,vI a0.Active,vI a0.Keys,vI a0.Depth,vI a0.TS,vI a0.KeyLen,vI a0.ValLen,vI a0.Fan],.slice A1 a1.length c1,.slice A2 a2.length c2] M [] (fun v M' Γ'=>∃ (A0:Option Addr) (c0:Nat),v = .slice A0 r.length c0 ∧ Γ' = [Row Q0 69 (.slice A0 r.length c0) r]):=by
 refine Qa Tryd.func24 rfl Tryd.ntmps24 Tryd.results24 rfl ?_
 intro w F rn S hrn
 have E:=Ext.refl w
 have HM:=Hp.le_refl M
 have H:=h
 unfold XG at H
 refine QE (QA ?_)
 refine YO S #[vI a0.Tasks,vI a0.Active,vI a0.Keys,vI a0.Depth,vI a0.TS,vI a0.KeyLen,vI a0.ValLen,vI a0.Fan] rfl rfl rfl ?_
 intro b1 w2 E' S
 replace E:=E.trans E'
 refine W_v (.slice none 0 0) (QD rfl) rfl (QB (tn (QE (QA (W_v (.agg #[vI a0.Tasks,vI a0.Active,vI a0.Keys,vI a0.Depth,vI a0.TS,vI a0.KeyLen,vI a0.ValLen,vI a0.Fan]) (Qh (S.blk 0 rfl) ty23 rfl (QI rfl) rfl rfl) rfl (W_v (.slice A1 a1.length c1) (QC rfl) rfl (W_v (.slice A2 a2.length c2) (QC rfl) rfl ?_)))))))
 obtain ⟨t4,ht5,H⟩:=QX H
 rcases t4 with t6 | t7 | t8
 ·skip
  replace H:=elimL H
  refine Z2 fn30 (Z4.con k M a0 A1 c1 a1 A2 c2 a2 (Sum.inl t6) hr1 hr2 hg0 hg1 ht5) (Γ1:=[]) (Γ2:=[_]) S rfl rfl (by rintro _ _ _ ⟨rfl,rfl⟩; exact Qd) ?_
  rintro _ w9 _ Γ' E' S ⟨rfl,rfl⟩
  replace E:=E.trans E'
  replace S:St w9 M F [_]:=S
  refine W_v (.tuple cz17) (QC rfl) rfl (W_v (.pointer none) (QQ rfl rfl) rfl (W_v (vI 1) (QQ rfl rfl) rfl (W_v (.pointer none) (QD rfl) rfl (W_v (vI 1) (QD rfl) rfl (QB (tn (QE (QE (QA (W_v (vI 1) (QC rfl) rfl (W_v (.bool true) (QT rfl rfl rfl rfl) rfl (QB (tn (QL rfl (QE ?_)))))))))))))))
  refine QA (W_v (.slice none 0 0) (QD rfl) rfl (QB (tn ?_)))
  refine QY ?_
  refine tr (?_)
  obtain rfl:=Option.some.inj H
  replace S:=S.row_nil Q0 69
  exact ⟨_,_,_,fun w1 e1=>QO (vs:=[.slice none 0 0]) (FA.cons (rfl) (FA.nil)),HM,E,S.pick [0] (by decide),⟨none,0,rfl,rfl⟩⟩
 ·skip
  replace H:=elimR H
  replace H:=elimL H
  refine Z2 fn30 (Z4.con k M a0 A1 c1 a1 A2 c2 a2 (Sum.inr (Sum.inl t7)) hr1 hr2 hg0 hg1 ht5) (Γ1:=[]) (Γ2:=[_]) S rfl rfl (by rintro _ _ _ ⟨rfl,rfl⟩; exact Qd) ?_
  rintro _ w13 _ Γ' E' S ⟨rfl,rfl⟩
  replace E:=E.trans E'
  replace S:St w13 M F [_]:=S
  refine W_v (.tuple cz18) (QC rfl) rfl (W_v (.pointer none) (QQ rfl rfl) rfl (W_v (vI 4) (QQ rfl rfl) rfl (W_v (.pointer none) (QD rfl) rfl (W_v (vI 4) (QD rfl) rfl (QB (tn (QE (QE (QA (W_v (vI 4) (QC rfl) rfl (W_v (.bool true) (QT rfl rfl rfl rfl) rfl (QB (tn (QL rfl (QE ?_)))))))))))))))
  refine QA (W_v (.slice none 0 0) (QD rfl) rfl (QB (tn ?_)))
  refine QY ?_
  refine tr (?_)
  obtain rfl:=Option.some.inj H
  replace S:=S.row_nil Q0 69
  exact ⟨_,_,_,fun w1 e1=>QO (vs:=[.slice none 0 0]) (FA.cons (rfl) (FA.nil)),HM,E,S.pick [0] (by decide),⟨none,0,rfl,rfl⟩⟩
 ·skip
  replace H:=elimR H
  replace H:=elimR H
  refine ZZ fn30 (Z4.con k M a0 A1 c1 a1 A2 c2 a2 (Sum.inr (Sum.inr t8)) hr1 hr2 hg0 hg1 ht5) (Γ1:=[]) (Γ2:=[_]) S rfl rfl ?_
  rintro _ w52 M53 Γ' hM54 E' S ⟨b17,A19,c20,b22,A24,c25,A27,c28,b30,A32,c33,A35,c36,A38,c39,A41,c42,vs44,A46,c47,A49,c50,rfl,hs21,hm45,rfl⟩
  replace HM:=Hp.le_trans HM hM54
  replace E:=E.trans E'
  replace S:St w52 M53 F [_,_,_,_,_,_,_,_,_,_,_,_]:=S
  refine W_v (.tuple #[pt b17 0,vI 0]) (QC rfl) rfl (W_v (pt b17 0) (QQ rfl rfl) rfl (W_v (vI 0) (QQ rfl rfl) rfl (W_v (pt b17 0) (QD rfl) rfl (W_v (vI 0) (QD rfl) rfl (QB (tn (QE (QE (QA (W_v (vI 0) (QC rfl) rfl (W_v (.bool false) (QT rfl rfl rfl rfl) rfl (QB (tn (QJ rfl (Qg ?_)))))))))))))))
  refine tn (QE (QA (W_v (pt b17 0) (QC rfl) rfl (W_v (pt b17 0) (Qy rfl) rfl (W_v (pt b17 3) (QF (o:=0) (off:=3) Tryd.underlying107 rfl ty62 rfl rfl) rfl (W_v (.slice A46 t8.done.length c47) (QR (S.blk 0 rfl) ty62 rfl rfl) rfl (W_v (.slice A46 t8.done.length c47) (QD rfl) rfl (QB (tn ?_)))))))))
  refine QY ?_
  obtain rfl:=Option.some.inj H
  exact ⟨_,_,_,fun w1 e1=>QO (vs:=[.slice A46 t8.done.length c47]) (FA.cons (rfl) (FA.nil)),HM,E,S.pick [9] (by decide),⟨A46,c47,rfl,rfl⟩⟩
def Yi (t15:(List ZL)):Nat → List QG → Int → Option ((List QG))
 | 0,_,_=>none
 | k + 1,x1291,x1295=>(if (decide (x1295 < (t15.length:Int))) = true then (Option.bind (α:=List QG) (if 0 ≤ x1295 ∧ x1295 < (t15.length:Int) then (Option.bind (α:=List QG) (if (decide ((rd t15 x1295).Back ≥ (0:Int))) = true then (if 0 ≤ x1295 ∧ x1295 < (t15.length:Int) then (if 0 ≤ x1295 ∧ x1295 < (t15.length:Int) then (if 0 ≤ (rd t15 x1295).Back ∧ (rd t15 x1295).Back < (x1291.length:Int) then (Option.bind (α:=List QG) (some (List.set x1291 ((rd t15 x1295).Back).toNat (⟨(rd x1291 ((rd t15 x1295).Back)).What,(rd x1291 ((rd t15 x1295).Back)).Task,(rd x1291 ((rd t15 x1295).Back)).Call,⟨(rd t15 x1295).Answer.Err,(rd t15 x1295).Answer.Found,(rd t15 x1295).Answer.Value,(rd t15 x1295).Answer.Pairs⟩⟩:QG))) (fun x2554=>some (x2554))) else none) else none) else none) else some (x1291)) (fun x2456=>some (x2456))) else none) (fun x2243=>Yi t15 k x2243 (IntKind.i64.wrap (x1295 + (1:Int))))) else some (x1291))
theorem Yi.mono {t15:(List ZL)}:∀ {kl:Nat} {x0 x1},OLe (Yi t15 kl x0 x1) (Yi t15 (kl + 1) x0 x1):=by
 intro kl
 induction kl with
 | zero=>intros; exact OLe.none
 | succ kl ih =>
  intros
  rw [Yi.eq_2,Yi.eq_2]
  exact mo
def YQ (k:Nat) (a0:Qo) (a1:(List (List QW))) (a2:(List QG)):Option ((List QG)) :=
 (if ([]:List QG).length + a2.length ≤ 1759218604441 then (Option.bind (XG k a0 a1 a2) (fun t15=>(Option.bind (Yi t15 k (([]:List QG) ++ a2) (0:Int)) (fun x1925=>some x1925)))) else none)
theorem YQ.mono {k:Nat} {a0:Qo} {a1:(List (List QW))} {a2:(List QG)}:OLe (YQ k a0 a1 a2) (YQ (k + 1) a0 a1 a2):=by
 unfold YQ
 have m1:=@Yi.mono
 have m2:=@XG.mono
 exact mo
theorem YQ.con (k:Nat) (M:Hp) (a0:Qo) (A1:Option Addr) (c1:Nat) (a1:(List (List QW))) (A2:Option Addr) (c2:Nat) (a2:(List QG)) (r:(List QG)) (hr1:SlR (rSl ZV) M (.slice A1 a1.length c1) a1) (hr2:SlR QK M (.slice A2 a2.length c2) a2) (hg0:∃ gt fr,M 0 = some (.cells cz1 gt fr)) (hg1:∃ gt fr,M 1 = some (.cells cz3 gt fr)) (h:YQ k a0 a1 a2 = some r):Con Tryd.prog 19 #[.agg #[vI a0.Tasks,vI a0.Active,vI a0.Keys,vI a0.Depth,vI a0.TS,vI a0.KeyLen,vI a0.ValLen,vI a0.Fan],.slice A1 a1.length c1,.slice A2 a2.length c2] M [] (fun v M' Γ'=>∃ (A0:Option Addr) (c0:Nat),v = .slice A0 r.length c0 ∧ Γ' = [Row QK 55 (.slice A0 r.length c0) r]):=by
 refine Qa Tryd.func19 rfl Tryd.ntmps19 Tryd.results19 rfl ?_
 intro w F rn S hrn
 have E:=Ext.refl w
 have HM:=Hp.le_refl M
 have H:=h
 unfold YQ at H
 refine QE (QA ?_)
 refine YO S #[vI a0.Tasks,vI a0.Active,vI a0.Keys,vI a0.Depth,vI a0.TS,vI a0.KeyLen,vI a0.ValLen,vI a0.Fan] rfl rfl rfl ?_
 intro b1 w2 E' S
 replace E:=E.trans E'
 refine W_v (.slice none 0 0) (QD rfl) rfl (QB (tn (QE (QA ?_))))
 refine Y6 S #[] Tryd.underlying25 ty55 rfl rfl #[] (by as_aux_lemma=>kernel_rfl) (by as_aux_lemma=>kernel_rfl) rfl ?_
 intro b4 w5 E' S
 replace E:=E.trans E'
 replace S:=S.blk_row (r:=QK) (l:=([]:List QG)) 0 rfl 0 (Nat.le_refl 0) rfl Cells.nil
 refine W_v (.slice A2 a2.length c2) (QC rfl) rfl ?_
 obtain ⟨p7,H⟩:=Zt H
 obtain ⟨src8,hs9,hC10⟩:=Yj (P:=Tryd.prog) (ρ:=QK) (l:=a2) (SlR.world hr2 S) (by decide)
 refine XN S 0 rfl rfl rfl Tryd.underlying25 (.inl Tryd.underlying25) ty55 rfl (by decide) (by decide) hs9 hC10 rfl (by omega) rfl ?_
 intro v11 w12 E' S
 replace E:=E.trans E'
 obtain ⟨A13,c14,rfl,_⟩:=(S.row_read 0 rfl).form
 refine W_v (.slice A13 (([]:List QG) ++ a2).length c14) (QD rfl) rfl (QB (tn (QE (QA (W_v (.agg #[vI a0.Tasks,vI a0.Active,vI a0.Keys,vI a0.Depth,vI a0.TS,vI a0.KeyLen,vI a0.ValLen,vI a0.Fan]) (Qh (S.blk 1 rfl) ty23 rfl (QI rfl) rfl rfl) rfl (W_v (.slice A1 a1.length c1) (QC rfl) rfl (W_v (.slice A2 a2.length c2) (QC rfl) rfl ?_)))))))
 obtain ⟨t15,ht16,H⟩:=QX H
 refine ZZ fn24 (XG.con k M a0 A1 c1 a1 A2 c2 a2 t15 hr1 hr2 hg0 hg1 ht16) (Γ1:=[]) (Γ2:=[_,_]) S rfl rfl ?_
 rintro _ w20 M21 Γ' hM22 E' S ⟨A17,c18,rfl,rfl⟩
 replace HM:=Hp.le_trans HM hM22
 replace E:=E.trans E'
 refine W_v (.slice A17 t15.length c18) (QD rfl) rfl (QB (tn (QE (QE (QA (W_v (vI 0) (QD rfl) rfl (QB (tn ?_))))))))
 obtain ⟨o1929,o1929h,o1929H⟩:=QX H
 refine Ya (fun ρ w'=>∃ (x1925:List QG) (A1926:Option Addr) (c1927:Nat),(x1925) = o1929 ∧ Qs ρ [(7,.slice A1926 x1925.length c1927)] ∧ Ext w w' ∧ St w' M21 F [Row QK 55 (.slice A1926 x1925.length c1927) x1925]) ?_ ?_
 ·skip
  refine Y0 (fun n ρ w'=>∃ (x1291:List QG) (x1295:Int) (A1292:Option Addr) (c1293:Nat),Yi t15 n x1291 x1295 = some o1929 ∧ Qs ρ [(7,.slice A1292 x1291.length c1293),(8,.slice A17 t15.length c18),(9,vI x1295)] ∧ Ext w w' ∧ St w' M21 F [Row QK 55 (.slice A1292 x1291.length c1293) x1291,Row Q0 69 (.slice A17 t15.length c18) t15]) k ?_ ?_
  ·skip
   exact ⟨(([]:List QG) ++ a2),(0:Int),A13,c14,o1929h,⟨rfl,rfl,rfl,trivial⟩,E,S.pick [1,0] (by decide)⟩
  ·intro n
   rintro ρ w1930 ⟨x1291,x1295,A1292,c1293,H,hρ,E,S⟩
   rw [QN hρ]
   cases n with
   | zero=>cases H
   | succ k =>
    rw [Yi.eq_2] at H
    refine QE (QE (QA (W_v (vI x1295) (QC rfl) rfl (W_v (.slice A17 t15.length c18) (QC rfl) rfl (W_v (vI (t15.length:Int)) (Qt (n:=t15.length) Tryd.underlying62 rfl) rfl (W_v (.bool (decide (x1295 < (t15.length:Int)))) (QT rfl rfl rfl rfl) rfl (QB (tn ?_))))))))
    rcases Zh H with ⟨hb1931,H⟩ | ⟨hb1931,H⟩
    ·refine QL (congrArg Value.bool hb1931) ?_
     refine Qg (tn (QE ?_))
     obtain ⟨o2247,o2247h,o2247H⟩:=QX H
     refine Xg (fun ρ w'=>∃ (x2243:List QG) (A2244:Option Addr) (c2245:Nat),(x2243) = o2247 ∧ Qs ρ [(7,.slice A2244 x2243.length c2245),(8,.slice A17 t15.length c18),(9,vI x1295)] ∧ Ext w w' ∧ St w' M21 F [Row QK 55 (.slice A2244 x2243.length c2245) x2243,Row Q0 69 (.slice A17 t15.length c18) t15]) ?_ ?_
     ·as_aux_lemma =>
       clear o2247H
       have H:=o2247h
       refine Z0 ?_
       refine QE (QA (W_v (.slice A17 t15.length c18) (QC rfl) rfl (W_v (vI x1295) (QC rfl) rfl ?_)))
       obtain ⟨⟨p2248,p2249⟩,H⟩:=Zt H
       obtain ⟨b2250,o2251,cs2252,_,_,ee2257,hb2253,vs2254,hR2255,hc2256⟩:=SlW.at' (S.row_read 1 rfl) p2248 p2249
       obtain ⟨v2261,hs2260,rfl⟩:=hR2255
       obtain ⟨A2258,c2259,rfl,_⟩:=hs2260.form
       refine W_v (.pointer (some ⟨b2250,o2251 + x1295.toNat * 8,none⟩)) (Qe Tryd.underlying62 ty69 (slA ee2257) rfl p2248 p2249) rfl (W_v (.pointer (some ⟨b2250,o2251 + x1295.toNat * 8 + 7,none⟩)) (QF (o:=o2251 + x1295.toNat * 8) (off:=7) Tryd.underlying69 rfl ty3 rfl rfl) rfl (W_v (vI ((rd t15 x1295).Back)) (QR (Hp.of_get hb2253) ty3 rfl (hc2256 7 _ rfl)) rfl (W_v (.bool (decide ((rd t15 x1295).Back ≥ (0:Int)))) (QT rfl rfl rfl rfl) rfl (QB (tn ?_)))))
       obtain ⟨o2460,o2460h,o2460H⟩:=QX H
       refine Xg (fun ρ w'=>∃ (x2456:List QG) (A2457:Option Addr) (c2458:Nat),(x2456) = o2460 ∧ Qs ρ [(7,.slice A2457 x2456.length c2458),(8,.slice A17 t15.length c18),(9,vI x1295)] ∧ Ext w w' ∧ St w' M21 F [Row QK 55 (.slice A2457 x2456.length c2458) x2456,Row Q0 69 (.slice A17 t15.length c18) t15]) ?_ ?_
       ·as_aux_lemma =>
         clear o2460H
         have H:=o2460h
         rcases Zh H with ⟨hb2461,H⟩ | ⟨hb2461,H⟩
         ·refine QL (congrArg Value.bool hb2461) ?_
          refine Ql (S:=fun w'=>∃ Mx,M21.le Mx ∧ St w' Mx F [Row QK 55 (.slice A1292 x1291.length c1293) x1291,Row Q0 69 (.slice A17 t15.length c18) t15]) (L:=13) mixed ?_
          intro w2509 hw2510 E'
          replace S:=S.heap hw2510
          replace E:=E.trans E'
          have D1:∃ Mx,Hp.le M21 Mx ∧ St _ Mx F [_,_]:=⟨_,Hp.le_refl _,S.pick [0,1] (by decide)⟩
          refine Wt 0 rfl rfl rfl (.slice A1292 x1291.length c1293) rfl (fun w' h'=>QC rfl) D1 (Wt 1 rfl rfl rfl (.slice A17 t15.length c18) rfl (fun w' h'=>QC rfl) D1 (Wt 2 rfl rfl rfl (vI x1295) rfl (fun w' h'=>QC rfl) D1 ?_))
          obtain ⟨⟨p2511,p2512⟩,H⟩:=Zt H
          obtain ⟨b2513,o2514,cs2515,_,_,ee2520,hb2516,vs2517,hR2518,hc2519⟩:=SlW.at' (S.row_read 1 rfl) p2511 p2512
          obtain ⟨v2524,hs2523,rfl⟩:=hR2518
          obtain ⟨A2521,c2522,rfl,_⟩:=hs2523.form
          refine Wt 3 rfl rfl rfl (.pointer (some ⟨b2513,o2514 + x1295.toNat * 8,none⟩)) rfl (fun w' h'=>Qe Tryd.underlying62 ty69 (slA ee2520) rfl p2511 p2512) D1 (Wt 4 rfl rfl rfl (.pointer (some ⟨b2513,o2514 + x1295.toNat * 8 + 7,none⟩)) rfl (fun w' h'=>QF (o:=o2514 + x1295.toNat * 8) (off:=7) Tryd.underlying69 rfl ty3 rfl rfl) D1 (Wt 5 rfl rfl rfl (vI ((rd t15 x1295).Back)) rfl (fun w' h'=>by obtain ⟨_,_,S'⟩:=h'; obtain ⟨_,_,_,_,_,e',b',_,r',c'⟩:=SlW.at' (S'.row_read 1 rfl) p2511 p2512; obtain ⟨rfl,rfl⟩:=addr_inj (e'.symm.trans ee2520); obtain ⟨_,_,rfl⟩:=r'; exact QR (Hp.of_get b') ty3 rfl (c' 7 _ rfl)) D1 (Wt 6 rfl rfl rfl (.slice A17 t15.length c18) rfl (fun w' h'=>QC rfl) D1 (Wt 7 rfl rfl rfl (vI x1295) rfl (fun w' h'=>QC rfl) D1 ?_))))
          obtain ⟨⟨p2525,p2526⟩,H⟩:=Zt H
          obtain ⟨b2527,o2528,cs2529,_,_,ee2534,hb2530,vs2531,hR2532,hc2533⟩:=SlW.at' (S.row_read 1 rfl) p2525 p2526
          obtain ⟨v2538,hs2537,rfl⟩:=hR2532
          obtain ⟨A2535,c2536,rfl,_⟩:=hs2537.form
          refine Wt 8 rfl rfl rfl (.pointer (some ⟨b2527,o2528 + x1295.toNat * 8,none⟩)) rfl (fun w' h'=>Qe Tryd.underlying62 ty69 (slA ee2534) rfl p2525 p2526) D1 (Wt 9 rfl rfl rfl (.pointer (some ⟨b2527,o2528 + x1295.toNat * 8 + 2,none⟩)) rfl (fun w' h'=>QF (o:=o2528 + x1295.toNat * 8) (off:=2) Tryd.underlying69 rfl ty34 rfl rfl) D1 ?_)
          refine Wo 10 rfl ?_
          refine W_v (.agg #[vI ((rd t15 x1295).Answer.Err),.bool ((rd t15 x1295).Answer.Found),vS ((rd t15 x1295).Answer.Value),.slice A2535 ((rd t15 x1295).Answer.Pairs).length c2536]) (Qh (Hp.of_get hb2530) ty34 rfl (XC hc2533 2 rfl) rfl rfl) rfl ?_
          refine QB (YC ⟨.inr ⟨M21,Hp.le_refl M21,(S.pick [0,1] (by decide))⟩,?_⟩)
          obtain ⟨⟨p2539,p2540⟩,H⟩:=Zt H
          obtain ⟨b2541,o2542,cs2543,_,_,ee2548,hb2544,vs2545,hR2546,hc2547⟩:=SlW.at' (S.row_read 0 rfl) p2539 p2540
          obtain ⟨v2552,hs2551,rfl⟩:=hR2546
          obtain ⟨A2549,c2550,rfl,_⟩:=hs2551.form
          refine Wt 11 rfl rfl rfl (.pointer (some ⟨b2541,o2542 + ((rd t15 x1295).Back).toNat * 7,none⟩)) rfl (fun w' h'=>Qe Tryd.underlying25 ty55 (slA ee2548) rfl p2539 p2540) D1 (Wt 12 rfl rfl rfl (.pointer (some ⟨b2541,o2542 + ((rd t15 x1295).Back).toNat * 7 + 3,none⟩)) rfl (fun w' h'=>QF (o:=o2542 + ((rd t15 x1295).Back).toNat * 7) (off:=3) Tryd.underlying55 rfl ty34 rfl rfl) D1 ?_)
          refine Wo 13 rfl ?_
          obtain ⟨x2554,he2555,H⟩:=QX H
          replace he2555:=Option.some.inj he2555
          refine XE S 0 rfl rfl ee2548 (by first | exact p2539 | simpa using p2539) (by first | exact p2540 | simpa using p2540) 3 ty34 rfl rfl [vI ((rd t15 x1295).Answer.Err),.bool ((rd t15 x1295).Answer.Found),vS ((rd t15 x1295).Answer.Value),.slice A2535 ((rd t15 x1295).Answer.Pairs).length c2536] rfl rfl rfl rfl (⟨(rd x1291 ((rd t15 x1295).Back)).What,(rd x1291 ((rd t15 x1295).Back)).Task,(rd x1291 ((rd t15 x1295).Back)).Call,⟨(rd t15 x1295).Answer.Err,(rd t15 x1295).Answer.Found,(rd t15 x1295).Answer.Value,(rd t15 x1295).Answer.Pairs⟩⟩:QG) (by rintro _ ⟨_,h6,rfl⟩; exact ⟨_,hs2537,rfl⟩) he2555 ?_
          intro w2553 E' S
          replace E:=E.trans E'
          have hs2556:Value.slice A1292 x1291.length c1293 = Value.slice A1292 x2554.length c1293:=by rw [← he2555,List.length_set]
          try rw [hs2556] at S
          try rw [hs2556]
          have p2557:(rd t15 x1295).Back < (x2554.length:Int):=by rw [← he2555,List.length_set]; exact p2540
          refine QB (YC ⟨.inl (by decide),?_⟩)
          refine Wz ?_
          refine tn ?_
          exact ⟨x2554,A1292,c1293,Option.some.inj H,⟨rfl,rfl,rfl,trivial⟩,E,S.pick [0,1] (by decide)⟩
         refine QJ (congrArg Value.bool hb2461) (Qg (tn ?_))
         exact ⟨x1291,A1292,c1293,Option.some.inj H,⟨rfl,rfl,rfl,trivial⟩,E,S.pick [0,1] (by decide)⟩
       rintro ρ w2558 ⟨x2456,A2457,c2458,rfl,hρ,E,S⟩
       rw [QN hρ]
       have H:=o2460H
       refine bn (tn ?_)
       exact ⟨x2456,A2457,c2458,Option.some.inj H,⟨rfl,rfl,rfl,trivial⟩,E,S.pick [0,1] (by decide)⟩
     rintro ρ w2559 ⟨x2243,A2244,c2245,rfl,hρ,E,S⟩
     rw [QN hρ]
     have H:=o2247H
     refine tn (QA (W_v (vI x1295) (QC rfl) rfl (W_v (vI (IntKind.i64.wrap (x1295 + (1:Int)))) (QT rfl rfl rfl rfl) rfl (W_v (vI (IntKind.i64.wrap (x1295 + (1:Int)))) (QD rfl) rfl (QB (tn ?_))))))
     exact ⟨k,Nat.lt_succ_self k,⟨x2243,(IntKind.i64.wrap (x1295 + (1:Int))),A2244,c2245,H,⟨rfl,rfl,rfl,trivial⟩,E,S.pick [0,1] (by decide)⟩⟩
    refine QJ (congrArg Value.bool hb1931) ?_
    refine Yo ?_
    refine tx (tx (bsm (?_)))
    refine tn ?_
    exact ⟨x1291,A1292,c1293,Option.some.inj H,⟨rfl,trivial⟩,E,S.pick [0] (by decide)⟩
 rintro ρ w2560 ⟨x1925,A1926,c1927,rfl,hρ,E,S⟩
 rw [QN hρ]
 have H:=o1929H
 refine tn ?_
 as_aux_lemma =>
 refine QE (QA (W_v (.slice A1926 x1925.length c1927) (QC rfl) rfl (W_v (.slice A1926 x1925.length c1927) (QD rfl) rfl (QB (tn ?_)))))
 refine QY ?_
 obtain rfl:=Option.some.inj H
 exact ⟨_,_,_,fun w1 e1=>QO (vs:=[.slice A1926 x1925.length c1927]) (FA.cons (rfl) (FA.nil)),HM,E,S.pick [0] (by decide),⟨A1926,c1927,rfl,rfl⟩⟩
end Go.Proofs.YtnjbjpaiepefoaaDoor
