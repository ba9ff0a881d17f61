import Derived.Test.YtcngjjlhdlbogaaDoorGp3B
import Derived.Test.YtcngjjlhdlbogaaDoorGp3LModelPlaysP0
import Derived.Test.YtcngjjlhdlbogaaDoorGp3LModelPlaysP2
import Derived.Test.YtcngjjlhdlbogaaDoorGp3LModelPlaysP3
import Derived.Test.YtcngjjlhdlbogaaDoorGp3LModelPlaysP4
import Derived.Test.YtcngjjlhdlbogaaDoorGp3LModelPlaysP5
namespace Go.Proofs.YtcngjjlhdlbogaaDoor
open Go
set_option linter.unusedVariables false
set_option linter.unusedSimpArgs false
set_option maxHeartbeats 80000000
set_option maxRecDepth 100000
def ZZ:Nat→Int→List Qf→Option ((Unit))
 | 0,_,_=>none
 | k+1,x38931,x38932=>(if (decide (x38931 < (x38932.length:Int)))=true then (if 0≤x38931∧x38931 < (x38932.length:Int) then (Option.bind (α:=List Qf) (some (List.set x38932 x38931.toNat (⟨(rd x38932 x38931).Key,cz17⟩:Qf))) (fun x38966=>ZZ k (IntKind.i64.wrap (x38931+(1:Int))) x38966)) else none) else some ())
theorem ZZ.mono :∀ {kl:Nat} {x0 x1},OLe (ZZ  kl x0 x1) (ZZ  (kl+1) x0 x1):=by
 intro kl
 induction kl with
 | zero=>intros;exact OLe.none
 | succ kl ih =>
  intros
  rw [ZZ.eq_2,ZZ.eq_2]
  exact mo
def Zw:Nat→Int→List Qf→Option ((Unit))
 | 0,_,_=>none
 | k+1,x41473,x41474=>(if (decide (x41473 < (x41474.length:Int)))=true then (if 0≤x41473∧x41473 < (x41474.length:Int) then (Option.bind (α:=List Qf) (some (List.set x41474 x41473.toNat (⟨(rd x41474 x41473).Key,cz17⟩:Qf))) (fun x41508=>Zw k (IntKind.i64.wrap (x41473+(1:Int))) x41508)) else none) else some ())
theorem Zw.mono :∀ {kl:Nat} {x0 x1},OLe (Zw  kl x0 x1) (Zw  (kl+1) x0 x1):=by
 intro kl
 induction kl with
 | zero=>intros;exact OLe.none
 | succ kl ih =>
  intros
  rw [Zw.eq_2,Zw.eq_2]
  exact mo
def Zj (a1:(List YG)):Nat→Int→QH→QJ→Option ((Bool)⊕(Unit))
 | 0,_,_,_=>none
 | k+1,x31176,x31177,x31184=>(if (decide (x31176 < (a1.length:Int)))=true then (if ((Int.tmod x31176 (6:Int))==(3:Int))=true then (Option.bind (Yb k x31184) (fun t36395=>(Option.bind (YS k x31177) (fun t36416=>(if 0≤x31176∧x31176 < (a1.length:Int) then (Option.bind (Za k x31184 ((rd a1 x31176).Task) ((rd a1 x31176).Call)) (fun t36455=>(Option.bind (Q6 k x31177 ((rd a1 x31176).Task) ((rd a1 x31176).Call)) (fun t36460=>(if (t36455 != t36460)=true then some (.inl false) else (Option.bind (α:=Int×Bool×Str×List Qf×Int×Bool×Str×List Qf×QH×QJ) (Option.bind (Q5 k x31184 ((rd a1 x31176).Task) ((rd a1 x31176).Call)) (fun t38088=>(Option.bind (Qe k x31177 ((rd a1 x31176).Task) ((rd a1 x31176).Call)) (fun t38110=>some (t38088.1.Err,t38088.1.Found,t38088.1.Value,t38088.1.Pairs,t38110.1.Err,t38110.1.Found,t38110.1.Value,t38110.1.Pairs,t38110.2,t38088.2))))) (fun ⟨x38052,x38053,x38054,x38055,x38059,x38060,x38061,x38062,x38066,x38073⟩=>(Option.bind (YE k (⟨x38052,x38053,x38054,x38055⟩:Qc) (⟨x38059,x38060,x38061,x38062⟩:Qc)) (fun t38821=>(Option.bind (α:=Bool) (if (!t38821)=true then some (true) else (Option.bind (Y4 k (⟨x38052,x38053,x38054,x38055⟩:Qc) (⟨x38059,x38060,x38061,x38062⟩:Qc)) (fun t38833=>some ((!t38833))))) (fun x38831=>(Option.bind (α:=Bool) (if x38831=true then some (true) else (Option.bind (Y4 k (⟨x38052,x38053,x38054,x38055⟩:Qc) cz4) (fun t38846=>some (t38846)))) (fun x38844=>(Option.bind (α:=Bool) (if x38844=true then some (true) else (Option.bind (ZK k x38073 x38066 ((rd a1 x31176).Call.Key) ((rd a1 x31176).Task) ((rd a1 x31176).Call.Tx)) (fun t38863=>some ((!t38863))))) (fun x38861=>(Option.bind (α:=Bool) (if x38861=true then some (true) else (Option.bind (ZK k t36395 t36416 ((rd a1 x31176).Call.Key) ((rd a1 x31176).Task) ((rd a1 x31176).Call.Tx)) (fun t38882=>some ((!t38882))))) (fun x38880=>(if x38880=true then some (.inl false) else (Option.bind (ZZ k (0:Int) x38055) (fun _=>Zj a1 k (IntKind.i64.wrap (x31176+(1:Int))) x38066 x38073)))))))))))))))))))) else none))))) else (if 0≤x31176∧x31176 < (a1.length:Int) then (Option.bind (Za k x31184 ((rd a1 x31176).Task) ((rd a1 x31176).Call)) (fun t38997=>(Option.bind (Q6 k x31177 ((rd a1 x31176).Task) ((rd a1 x31176).Call)) (fun t39002=>(if (t38997 != t39002)=true then some (.inl false) else (Option.bind (α:=Int×Bool×Str×List Qf×Int×Bool×Str×List Qf×QH×QJ) (Option.bind (Q5 k x31184 ((rd a1 x31176).Task) ((rd a1 x31176).Call)) (fun t40630=>(Option.bind (Qe k x31177 ((rd a1 x31176).Task) ((rd a1 x31176).Call)) (fun t40652=>some (t40630.1.Err,t40630.1.Found,t40630.1.Value,t40630.1.Pairs,t40652.1.Err,t40652.1.Found,t40652.1.Value,t40652.1.Pairs,t40652.2,t40630.2))))) (fun ⟨x40594,x40595,x40596,x40597,x40601,x40602,x40603,x40604,x40608,x40615⟩=>(Option.bind (YE k (⟨x40594,x40595,x40596,x40597⟩:Qc) (⟨x40601,x40602,x40603,x40604⟩:Qc)) (fun t41363=>(Option.bind (α:=Bool) (if (!t41363)=true then some (true) else (Option.bind (Y4 k (⟨x40594,x40595,x40596,x40597⟩:Qc) (⟨x40601,x40602,x40603,x40604⟩:Qc)) (fun t41375=>some ((!t41375))))) (fun x41373=>(Option.bind (α:=Bool) (if x41373=true then some (true) else (Option.bind (Y4 k (⟨x40594,x40595,x40596,x40597⟩:Qc) cz4) (fun t41388=>some (t41388)))) (fun x41386=>(Option.bind (α:=Bool) (if x41386=true then some (true) else (Option.bind (ZK k x40615 x40608 ((rd a1 x31176).Call.Key) ((rd a1 x31176).Task) ((rd a1 x31176).Call.Tx)) (fun t41405=>some ((!t41405))))) (fun x41403=>(Option.bind (α:=Bool) (if x41403=true then some (true) else (Option.bind (ZK k x40615 x40608 ((rd a1 x31176).Call.Key) ((rd a1 x31176).Task) ((rd a1 x31176).Call.Tx)) (fun t41424=>some ((!t41424))))) (fun x41422=>(if x41422=true then some (.inl false) else (Option.bind (Zw k (0:Int) x40597) (fun _=>Zj a1 k (IntKind.i64.wrap (x31176+(1:Int))) x40608 x40615)))))))))))))))))))) else none)) else some (.inr ()))
theorem Zj.mono {a1:(List YG)}:∀ {kl:Nat} {x0 x1 x2},OLe (Zj a1 kl x0 x1 x2) (Zj a1 (kl+1) x0 x1 x2):=by
 intro kl
 induction kl with
 | zero=>intros;exact OLe.none
 | succ kl ih =>
  intros
  rw [Zj.eq_2,Zj.eq_2]
  have m1:=@ZZ.mono
  have m2:=@Zw.mono
  have m3:=@ZK.mono
  have m4:=@YE.mono
  have m5:=@YS.mono
  have m6:=@Qe.mono
  have m7:=@Q6.mono
  have m8:=@Yb.mono
  have m9:=@Q5.mono
  have m10:=@Za.mono
  have m11:=@Y4.mono
  exact mo
def YZ (k:Nat) (a0:Qw) (a1:(List YG)):Option (Bool) :=
 (Option.bind (Yr k a1) (fun t4=>(if t4=true then (Option.bind (YF k ) (fun t8=>some t8)) else (Option.bind (Y6 k a0) (fun t11=>(Sum.elim (fun t13=>(Option.bind (YK k a0) (fun t18=>(Sum.elim (fun t20=>(Option.bind (YF k ) (fun t25=>some t25))) (fun t21=>some false)) t18))) (fun t14=>(Option.bind (YK k a0) (fun t58=>(Sum.elim (fun t60=>some false) (fun t61=>(Option.bind (Zj a1 k (0:Int) t61 t14) (fun o36354o=>Sum.elim (fun r'=>some r') (fun _=>(Option.bind (YF k ) (fun t41516=>some t41516))) o36354o)))) t58)))) t11)))))
theorem YZ.mono {k:Nat} {a0:Qw} {a1:(List YG)}:OLe (YZ k a0 a1) (YZ (k+1) a0 a1):=by
 unfold YZ
 have m1:=@Zj.mono
 have m2:=@Yr.mono
 have m3:=@YF.mono
 have m4:=@YK.mono
 have m5:=@Y6.mono
 exact mo
theorem YZ.con (k:Nat) (M:Hp) (a0:Qw) (A1:Option Addr) (c1:Nat) (a1:(List YG)) (r:Bool) (hr1:SlR Xi M (.slice A1 a1.length c1) a1) (hg0:∃ gt fr,M 0=some (.cells cz1 gt fr)) (h:YZ k a0 a1=some r):Con Tryd.prog 9 #[.agg #[vI a0.Tasks,vI a0.Active,vI a0.Keys,vI a0.Depth,vI a0.TS,vI a0.KeyLen,vI a0.ValLen,vI a0.Fan],.slice A1 a1.length c1] M [] (fun v M' Γ'=>v=.bool r∧Γ'=[]):=by
 refine Qt Tryd.func9 rfl Tryd.ntmps9 Tryd.results9 rfl ?_
 intro w F rn S hrn
 have E:=Ext.refl w
 have HM:=Hp.le_refl M
 have H:=h
 unfold YZ at H
 refine QE (QA ?_)
 refine Y8 S #[vI a0.Tasks,vI a0.Active,vI a0.Keys,vI a0.Depth,vI a0.TS,vI a0.KeyLen,vI a0.ValLen,vI a0.Fan] rfl rfl rfl ?_
 intro b1 w2 E' S
 replace E:=E.trans E'
 refine W_v (.bool false) (QG rfl) rfl (QB (tn (QE (QE (QA (W_v (.slice A1 a1.length c1) (QD rfl) rfl ?_))))))
 obtain ⟨t4,ht5,H⟩:=QW H
 refine Zz fn12 (Yr.con k M A1 c1 a1 t4 hr1 ht5) S rfl rfl (by rintro _ _ _ ⟨_,rfl⟩;exact Qd) ?_
 rintro _ w6 _ Γ' E' S ⟨rfl,rfl⟩
 replace E:=E.trans E'
 refine QB (tn ?_)
 rcases Zf H with ⟨hb7,H⟩ | ⟨hb7,H⟩
 ·refine QQ (congrArg Value.bool hb7) ?_
  refine QE (QA ?_)
  obtain ⟨t8,ht9,H⟩:=QW H
  refine Zz fn11 (YF.con k M  t8 hg0 ht9) S rfl rfl (by rintro _ _ _ ⟨_,rfl⟩;exact Qd) ?_
  rintro _ w10 _ Γ' E' S ⟨rfl,rfl⟩
  replace E:=E.trans E'
  refine W_v (.bool t8) (QG rfl) rfl (QB (tn ?_))
  refine Qs ?_
  refine tr (?_)
  obtain rfl:=Option.some.inj H
  exact ⟨_,_,_,fun w1 e1=>QX (vs:=[.bool t8]) (FA.cons (rfl) (FA.nil)),HM,E,S.pick [] (by decide),⟨rfl,rfl⟩⟩
 refine QK (congrArg Value.bool hb7) (Qr (tn (QE (QA (W_v (.agg #[vI a0.Tasks,vI a0.Active,vI a0.Keys,vI a0.Depth,vI a0.TS,vI a0.KeyLen,vI a0.ValLen,vI a0.Fan]) (ZA (S.blk 0 rfl) ty23 rfl (QM rfl) rfl rfl) rfl ?_)))))
 obtain ⟨t11,ht12,H⟩:=QW H
 rcases t11 with t13 | t14
 ·skip
  replace H:=elimL H
  refine Z5 fn13 (Y6.con k M a0 (Sum.inl t13)  ht12) (Γ1:=[]) (Γ2:=[_]) S rfl rfl (by rintro _ _ _ ⟨rfl,rfl⟩;exact Qd) ?_
  rintro _ w15 _ Γ' E' S ⟨rfl,rfl⟩
  replace E:=E.trans E'
  replace S:St w15 M F [_]:=S
  refine W_v (.tuple #[.pointer none,vI 1]) (QD rfl) rfl (W_v (.pointer none) (ZB rfl rfl) rfl (W_v (vI 1) (ZB rfl rfl) rfl (W_v (.pointer none) (QG rfl) rfl (W_v (vI 1) (QG rfl) rfl (QB (tn (QE (QA (W_v (.agg #[vI a0.Tasks,vI a0.Active,vI a0.Keys,vI a0.Depth,vI a0.TS,vI a0.KeyLen,vI a0.ValLen,vI a0.Fan]) (ZA (S.blk 0 rfl) ty23 rfl (QM rfl) rfl rfl) rfl ?_)))))))))
  obtain ⟨t18,ht19,H⟩:=QW H
  rcases t18 with t20 | t21
  ·skip
   replace H:=elimL H
   refine Z5 fn35 (YK.con k M a0 (Sum.inl t20)  ht19) (Γ1:=[]) (Γ2:=[_]) S rfl rfl (by rintro _ _ _ ⟨rfl,rfl⟩;exact Qd) ?_
   rintro _ w22 _ Γ' E' S ⟨rfl,rfl⟩
   replace E:=E.trans E'
   replace S:St w22 M F [_]:=S
   refine W_v (.tuple #[.pointer none,vI 1]) (QD rfl) rfl (W_v (.pointer none) (ZB rfl rfl) rfl (W_v (vI 1) (ZB rfl rfl) rfl (W_v (.pointer none) (QG rfl) rfl (W_v (vI 1) (QG rfl) rfl (QB (tn (QE (QE (QA (W_v (vI 1) (QD rfl) rfl (W_v (vI 1) (QD rfl) rfl (W_v (.bool false) (Qa rfl rfl rfl rfl) rfl (W_v (.bool false) (QD rfl) rfl (QP (rfl) (W_v (vI 1) (QD rfl) rfl ?_)))))))))))))))
   refine QP (rfl) (W_v (.bool true) (Qa rfl rfl rfl rfl) rfl (W_v (.bool true) (QV (k:=false) rfl rfl) rfl (QB (tn (QQ rfl (QE (QA (W_v (vI 1) (QD rfl) rfl (W_v (vI 1) (QD rfl) rfl (W_v (.bool true) (Qa rfl rfl rfl rfl) rfl (W_v (.bool true) (QD rfl) rfl (QP (rfl) (W_v (.pointer none) (QD rfl) rfl (QP (rfl) (W_v (.bool true) (Xe (r:=true) rfl rfl (Us Tryd.underlying27)) rfl ?_)))))))))))))))
   refine W_v (.bool true) (QV (k:=true) rfl rfl) rfl (W_v (.bool true) (QD rfl) rfl (QP (rfl) ?_))
   obtain ⟨t25,ht26,H⟩:=QW H
   refine Zz fn11 (YF.con k M  t25 hg0 ht26) S rfl rfl (by rintro _ _ _ ⟨_,rfl⟩;exact Qd) ?_
   rintro _ w27 _ Γ' E' S ⟨rfl,rfl⟩
   replace E:=E.trans E'
   refine W_v (.bool t25) (QV (k:=true) rfl rfl) rfl (W_v (.bool t25) (QG rfl) rfl (QB (tn ?_)))
   refine Qs ?_
   refine tr (?_)
   obtain rfl:=Option.some.inj H
   exact ⟨_,_,_,fun w1 e1=>QX (vs:=[.bool t25]) (FA.cons (rfl) (FA.nil)),HM,E,S.pick [] (by decide),⟨rfl,rfl⟩⟩
  ·skip
   replace H:=elimR H
   refine Yc fn35 (YK.con k M a0 (Sum.inr t21)  ht19) (Γ1:=[]) (Γ2:=[_]) S rfl rfl ?_
   rintro _ w36 M37 Γ' hM38 E' S ⟨b28,A30,c31,A33,c34,rfl,rfl⟩
   replace HM:=Hp.le_trans HM hM38
   replace E:=E.trans E'
   replace S:St w36 M37 F [_,_,_,_]:=S
   refine W_v (.tuple #[pt b28 0,vI 0]) (QD rfl) rfl (W_v (pt b28 0) (ZB rfl rfl) rfl (W_v (vI 0) (ZB rfl rfl) rfl (W_v (pt b28 0) (QG rfl) rfl (W_v (vI 0) (QG rfl) rfl (QB (tn (QE (QE (QA (W_v (vI 1) (QD rfl) rfl (W_v (vI 0) (QD rfl) rfl (W_v (.bool true) (Qa rfl rfl rfl rfl) rfl (W_v (.bool true) (QD rfl) rfl (QZ (rfl) rfl (QZ (rfl) rfl ?_)))))))))))))))
   refine W_v (.bool true) (QV (k:=true) rfl rfl) rfl (QB (tn (QQ rfl (QE (QA (W_v (vI 1) (QD rfl) rfl (W_v (vI 0) (QD rfl) rfl (W_v (.bool false) (Qa rfl rfl rfl rfl) rfl (W_v (.bool false) (QD rfl) rfl (QZ (rfl) rfl (QZ (rfl) rfl (W_v (.bool false) (QV (k:=false) rfl rfl) rfl (W_v (.bool false) (QD rfl) rfl (QZ (rfl) rfl (W_v (.bool false) (QV (k:=false) rfl rfl) rfl ?_)))))))))))))))
   refine W_v (.bool false) (QG rfl) rfl (QB (tn ?_))
   refine Qs ?_
   refine tr (?_)
   obtain rfl:=Option.some.inj H
   exact ⟨_,_,_,fun w1 e1=>QX (vs:=[.bool false]) (FA.cons (rfl) (FA.nil)),HM,E,S.pick [] (by decide),⟨rfl,rfl⟩⟩
 ·skip
  replace H:=elimR H
  refine Yc fn13 (Y6.con k M a0 (Sum.inr t14)  ht12) (Γ1:=[]) (Γ2:=[_]) S rfl rfl ?_
  rintro _ w55 M56 Γ' hM57 E' S ⟨b39,A41,c42,A44,c45,A47,c48,A50,c51,vs53,rfl,hm54,rfl⟩
  replace hg0:=gup hg0 hM57
  replace HM:=Hp.le_trans HM hM57
  replace hr1:=SlR.mono hr1 hM57
  replace E:=E.trans E'
  replace S:St w55 M56 F [_,_,_,_,_,_]:=S
  refine W_v (.tuple #[pt b39 0,vI 0]) (QD rfl) rfl (W_v (pt b39 0) (ZB rfl rfl) rfl (W_v (vI 0) (ZB rfl rfl) rfl (W_v (pt b39 0) (QG rfl) rfl (W_v (vI 0) (QG rfl) rfl (QB (tn (QE (QA (W_v (.agg #[vI a0.Tasks,vI a0.Active,vI a0.Keys,vI a0.Depth,vI a0.TS,vI a0.KeyLen,vI a0.ValLen,vI a0.Fan]) (ZA (S.blk 5 rfl) ty23 rfl (QM rfl) rfl rfl) rfl ?_)))))))))
  obtain ⟨t58,ht59,H⟩:=QW H
  rcases t58 with t60 | t61
  ·skip
   replace H:=elimL H
   refine Z5 fn35 (YK.con k M56 a0 (Sum.inl t60)  ht59) (Γ1:=[]) (Γ2:=[_,_,_,_,_,_]) S rfl rfl (by rintro _ _ _ ⟨rfl,rfl⟩;exact Qd) ?_
   rintro _ w62 _ Γ' E' S ⟨rfl,rfl⟩
   replace E:=E.trans E'
   replace S:St w62 M56 F [_,_,_,_,_,_]:=S
   refine W_v (.tuple #[.pointer none,vI 1]) (QD rfl) rfl (W_v (.pointer none) (ZB rfl rfl) rfl (W_v (vI 1) (ZB rfl rfl) rfl (W_v (.pointer none) (QG rfl) rfl (W_v (vI 1) (QG rfl) rfl (QB (tn (QE (QE (QA (W_v (vI 0) (QD rfl) rfl (W_v (vI 1) (QD rfl) rfl (W_v (.bool true) (Qa rfl rfl rfl rfl) rfl (W_v (.bool true) (QD rfl) rfl (QZ (rfl) rfl (QZ (rfl) rfl ?_)))))))))))))))
   refine W_v (.bool true) (QV (k:=true) rfl rfl) rfl (QB (tn (QQ rfl (QE (QA (W_v (vI 0) (QD rfl) rfl (W_v (vI 1) (QD rfl) rfl (W_v (.bool false) (Qa rfl rfl rfl rfl) rfl (W_v (.bool false) (QD rfl) rfl (QZ (rfl) rfl (QZ (rfl) rfl (W_v (.bool false) (QV (k:=false) rfl rfl) rfl (W_v (.bool false) (QD rfl) rfl (QZ (rfl) rfl (W_v (.bool false) (QV (k:=false) rfl rfl) rfl ?_)))))))))))))))
   refine W_v (.bool false) (QG rfl) rfl (QB (tn ?_))
   refine Qs ?_
   refine tr (?_)
   obtain rfl:=Option.some.inj H
   exact ⟨_,_,_,fun w1 e1=>QX (vs:=[.bool false]) (FA.cons (rfl) (FA.nil)),HM,E,S.pick [] (by decide),⟨rfl,rfl⟩⟩
  ·skip
   replace H:=elimR H
   refine Yc fn35 (YK.con k M56 a0 (Sum.inr t61)  ht59) (Γ1:=[]) (Γ2:=[_,_,_,_,_,_]) S rfl rfl ?_
   rintro _ w73 M74 Γ' hM75 E' S ⟨b65,A67,c68,A70,c71,rfl,rfl⟩
   replace hg0:=gup hg0 hM75
   replace HM:=Hp.le_trans HM hM75
   replace hr1:=SlR.mono hr1 hM75
   replace hm54:=YV.mono hm54 hM75
   replace E:=E.trans E'
   replace S:St w73 M74 F [_,_,_,_,_,_,_,_,_]:=S
   refine W_v (.tuple #[pt b65 0,vI 0]) (QD rfl) rfl (W_v (pt b65 0) (ZB rfl rfl) rfl (W_v (vI 0) (ZB rfl rfl) rfl (W_v (pt b65 0) (QG rfl) rfl (W_v (vI 0) (QG rfl) rfl (QB (tn (QE (QE (QA (W_v (vI 0) (QD rfl) rfl (W_v (vI 0) (QD rfl) rfl (W_v (.bool false) (Qa rfl rfl rfl rfl) rfl (W_v (.bool false) (QD rfl) rfl (QP (rfl) (W_v (vI 0) (QD rfl) rfl ?_)))))))))))))))
   refine QP (rfl) (W_v (.bool false) (Qa rfl rfl rfl rfl) rfl (W_v (.bool false) (QV (k:=false) rfl rfl) rfl (QB (tn (QK rfl (Qr (tn (QE (QE (QA (W_v (vI 0) (QG rfl) rfl (QB (tn ?_)))))))))))))
   obtain ⟨M10445,hM10446,hf10447,S⟩:=S.row_freeze 1 rfl
   replace hg0:=gup hg0 hM10446
   replace HM:=Hp.le_trans HM hM10446
   replace hr1:=SlR.mono hr1 hM10446
   replace hm54:=YV.mono hm54 hM10446
   obtain ⟨M20817,hM20818,hf20819,S⟩:=S.row_freeze 1 rfl
   replace hg0:=gup hg0 hM20818
   replace HM:=Hp.le_trans HM hM20818
   replace hr1:=SlR.mono hr1 hM20818
   replace hm54:=YV.mono hm54 hM20818
   replace hf10447:=SlR.mono hf10447 hM20818
   obtain ⟨o36354,o36354h,o36354H⟩:=QW H
   refine Yj (fun ρ w'=>∃ (Mj:Hp),.inr ()=o36354∧Qi ρ []∧M20817.le Mj∧Ext w w'∧St w' Mj F []) ?_ ?_
   ·skip
    refine Y3 (fun n ρ w'=>∃ (x31176:Int) (x31177:QH) (x31184:QJ) (A31178:Option Addr) (c31179:Nat) (A31181:Option Addr) (c31182:Nat) (A31185:Option Addr) (c31186:Nat) (A31188:Option Addr) (c31189:Nat) (A31191:Option Addr) (c31192:Nat) (A31194:Option Addr) (c31195:Nat) (vs31197:List (Str×Value)) (Mj:Hp),Zj a1 n x31176 x31177 x31184=some o36354∧Qi ρ [(1,.slice A1 a1.length c1),(5,pt b39 0),(7,pt b65 0),(9,vI x31176)]∧M20817.le Mj∧Ext w w'∧St w' Mj F [QT encS (fun v:Value=>v) A31194 vs31197,Row QL 99 (.slice A31191 x31184.txs.length c31192) x31184.txs,QT (Value.int .i64) (Value.int .i64) A31188 x31184.many,QT QF (Value.int .i64) A31185 x31184.names,B121 b65 x31177 A31178 c31179 A31181 c31182,B94 b39 x31184 A31185 A31188 A31191 c31192 A31194]∧SlR QY Mj (.slice A31178 x31177.T.length c31179) x31177.T∧SlR QU Mj (.slice A31181 x31177.L.length c31182) x31177.L∧YV Qk Mj x31184.rows vs31197) k ?_ ?_
    ·skip
     exact ⟨(0:Int),t61,t14,A67,c68,A70,c71,A41,c42,A44,c45,A47,c48,A50,c51,vs53,M20817,o36354h,⟨rfl,rfl,rfl,rfl,trivial⟩,(Hp.le_refl M20817),E,S.pick [5,4,3,2,0,1] (by decide),hf10447,hf20819,hm54⟩
    ·intro n
     rintro ρ w36355 ⟨x31176,x31177,x31184,A31178,c31179,A31181,c31182,A31185,c31186,A31188,c31189,A31191,c31192,A31194,c31195,vs31197,M36356,H,hρ,hM36357,E,S,hs31180,hs31183,hm31198⟩
     rw [QI hρ]
     replace hg0:=gup hg0 hM36357
     replace HM:=Hp.le_trans HM hM36357
     replace hr1:=SlR.mono hr1 hM36357
     cases n with
     | zero=>cases H
     | succ k =>
      rw [Zj.eq_2] at H
      refine QE (QE (QA (W_v (vI x31176) (QD rfl) rfl (W_v (.slice A1 a1.length c1) (QD rfl) rfl (W_v (vI (a1.length:Int)) (Q8 (n:=a1.length) Tryd.underlying24 rfl) rfl (W_v (.bool (decide (x31176 < (a1.length:Int)))) (Qa rfl rfl rfl rfl) rfl (QB (tn ?_))))))))
      rcases Zf H with ⟨hb36358,H⟩ | ⟨hb36358,H⟩
      ·refine QQ (congrArg Value.bool hb36358) ?_
       refine Qr (tn (QE ?_))
       refine YP ?_
       refine QE (QA (W_v (pt b39 0) (QD rfl) rfl (W_v (pt b65 0) (QD rfl) rfl (W_v (pt b39 0) (QG rfl) rfl (W_v (pt b65 0) (QG rfl) rfl (QB (tn (QE (QE (QA (W_v (vI x31176) (QD rfl) rfl (W_v (vI (Int.tmod x31176 (6:Int))) (x_rem rfl rfl (by decide)) rfl (W_v (.bool ((Int.tmod x31176 (6:Int))==(3:Int))) (Qa rfl rfl rfl rfl) rfl (QB (tn ?_)))))))))))))))
       rcases Zf H with ⟨hb36394,H⟩ | ⟨hb36394,H⟩
       ·refine QQ (congrArg Value.bool hb36394) ?_
        refine QA (W_v (pt b39 0) (QD rfl) rfl ?_)
        obtain ⟨t36395,ht36396,H⟩:=QW H
        replace S:St w36355 M36356 F [_,_,_,_,_,_]:=S.pick [5,3,2,1,0,4] (by decide)
        refine Yc fn29 (Yb.con k M36356 A31185 c31186 A31188 c31189 A31191 c31192 A31194 c31195 vs31197 x31184 b39 t36395 hm31198 ht36396) (Γ1:=[_,_,_,_,_]) (Γ2:=[_]) S rfl rfl ?_
        rintro _ w36413 M36414 Γ' hM36415 E' S ⟨b36397,A36399,c36400,A36402,c36403,A36405,c36406,A36408,c36409,vs36411,rfl,hm36412,rfl⟩
        replace hg0:=gup hg0 hM36415
        replace HM:=Hp.le_trans HM hM36415
        replace hM36357:=Hp.le_trans hM36357 hM36415
        replace hr1:=SlR.mono hr1 hM36415
        replace hs31180:=SlR.mono hs31180 hM36415
        replace hs31183:=SlR.mono hs31183 hM36415
        replace hm31198:=YV.mono hm31198 hM36415
        replace E:=E.trans E'
        replace S:St w36413 M36414 F [_,_,_,_,_,_,_,_,_,_,_]:=S
        refine W_v (pt b65 0) (QD rfl) rfl ?_
        obtain ⟨t36416,ht36417,H⟩:=QW H
        replace S:St w36413 M36414 F [_,_,_,_,_,_,_,_,_,_,_]:=S.pick [10,0,1,2,3,4,5,6,7,8,9] (by decide)
        refine Yc fn36 (YS.con k M36414 A31178 c31179 A31181 c31182 x31177 b65 t36416 hs31180 hs31183 ht36417) (Γ1:=[_]) (Γ2:=[_,_,_,_,_,_,_,_,_,_]) S rfl rfl ?_
        rintro _ w36426 M36427 Γ' hM36428 E' S ⟨b36418,A36420,c36421,A36423,c36424,rfl,hs36422,hs36425,rfl⟩
        replace hg0:=gup hg0 hM36428
        replace HM:=Hp.le_trans HM hM36428
        replace hM36357:=Hp.le_trans hM36357 hM36428
        replace hr1:=SlR.mono hr1 hM36428
        replace hs31180:=SlR.mono hs31180 hM36428
        replace hs31183:=SlR.mono hs31183 hM36428
        replace hm31198:=YV.mono hm31198 hM36428
        replace hm36412:=YV.mono hm36412 hM36428
        replace E:=E.trans E'
        replace S:St w36426 M36427 F [_,_,_,_,_,_,_,_,_,_,_,_]:=S
        refine W_v (pt b36397 0) (QG rfl) rfl (W_v (pt b36418 0) (QG rfl) rfl (QB (tn (QE (QA (W_v (.slice A1 a1.length c1) (QD rfl) rfl (W_v (vI x31176) (QD rfl) rfl ?_)))))))
        obtain ⟨⟨p36429,p36430⟩,H⟩:=Yy H
        obtain ⟨b36431,o36432,cs36433,_,_,ee36438,hb36434,vs36435,hR36436,hc36437⟩:=SlW.at' hr1 p36429 p36430
        obtain rfl:vs36435=_:=hR36436
        refine W_v (.pointer (some ⟨b36431,o36432+x31176.toNat*8,none⟩)) (Qy Tryd.underlying24 ty39 (slA ee36438) rfl p36429 p36430) rfl (W_v (.agg #[vI ((rd a1 x31176).Task),vU ((rd a1 x31176).Call.Kind),vI ((rd a1 x31176).Call.Tx),vS ((rd a1 x31176).Call.Key),vS ((rd a1 x31176).Call.End),vS ((rd a1 x31176).Call.Value),vI ((rd a1 x31176).Call.Limit),vU ((rd a1 x31176).Call.Engine)]) (ZA (S.frz hb36434) ty39 rfl (Xa hc36437 0 rfl) rfl rfl) rfl ?_)
        refine Zo S #[vI 0,vU 0,vI 0,vS ([]:Str),vS ([]:Str),vS ([]:Str),vI 0,vU 0] ty39 rfl rfl ?_
        intro b36439 w36440 E' S
        replace E:=E.trans E'
        refine Qx S 0 rfl ty39 rfl rfl [vI ((rd a1 x31176).Task),vU ((rd a1 x31176).Call.Kind),vI ((rd a1 x31176).Call.Tx),vS ((rd a1 x31176).Call.Key),vS ((rd a1 x31176).Call.End),vS ((rd a1 x31176).Call.Value),vI ((rd a1 x31176).Call.Limit),vU ((rd a1 x31176).Call.Engine)] rfl rfl rfl #[vI ((rd a1 x31176).Task),vU ((rd a1 x31176).Call.Kind),vI ((rd a1 x31176).Call.Tx),vS ((rd a1 x31176).Call.Key),vS ((rd a1 x31176).Call.End),vS ((rd a1 x31176).Call.Value),vI ((rd a1 x31176).Call.Limit),vU ((rd a1 x31176).Call.Engine)] (by as_aux_lemma=>kernel_rfl) rfl ?_
        intro w36442 E' S
        replace E:=E.trans E'
        refine QB (tn (QE (QE ?_)))
        refine Q0 (S:=fun w'=>∃ Mx,M36427.le Mx∧St w' Mx F [B39 b36439 (rd a1 x31176),B121 b36418 t36416 A36420 c36421 A36423 c36424,B121 b65 x31177 A31178 c31179 A31181 c31182,B94 b36397 t36395 A36399 A36402 A36405 c36406 A36408,QT QF (Value.int .i64) A36399 t36395.names,QT (Value.int .i64) (Value.int .i64) A36402 t36395.many,Row QL 99 (.slice A36405 t36395.txs.length c36406) t36395.txs,QT encS (fun v:Value=>v) A36408 vs36411,B94 b39 x31184 A31185 A31188 A31191 c31192 A31194,QT QF (Value.int .i64) A31185 x31184.names,QT (Value.int .i64) (Value.int .i64) A31188 x31184.many,Row QL 99 (.slice A31191 x31184.txs.length c31192) x31184.txs,QT encS (fun v:Value=>v) A31194 vs31197]) (L:=13) mixed ?_
        intro w36453 hw36454 E'
        replace S:=S.heap hw36454
        replace E:=E.trans E'
        have D1:∃ Mx,Hp.le M36427 Mx∧St _ Mx F [_,_,_,_,_,_,_,_,_,_,_,_,_]:=⟨_,Hp.le_refl _,S.pick [0,1,2,3,4,5,6,7,8,9,10,11,12] (by decide)⟩
        refine Wt 0 rfl rfl rfl (pt b39 0) rfl (fun w' h'=>QD rfl) D1 (Wt 1 rfl rfl rfl (pt b36439 0) rfl (fun w' h'=>QC (o:=0) (off:=0) Tryd.underlying39 rfl ty3 rfl rfl) D1 (Wt 2 rfl rfl rfl (vI ((rd a1 x31176).Task)) rfl (fun w' h'=>QO (Qp h' 0 rfl) ty3 rfl rfl) D1 (Wt 3 rfl rfl rfl (pt b36439 1) rfl (fun w' h'=>QC (o:=0) (off:=1) Tryd.underlying39 rfl ty37 rfl rfl) D1 (Wt 4 rfl rfl rfl (.agg #[vU ((rd a1 x31176).Call.Kind),vI ((rd a1 x31176).Call.Tx),vS ((rd a1 x31176).Call.Key),vS ((rd a1 x31176).Call.End),vS ((rd a1 x31176).Call.Value),vI ((rd a1 x31176).Call.Limit),vU ((rd a1 x31176).Call.Engine)]) rfl (fun w' h'=>ZA (Qp h' 0 rfl) ty37 rfl (QM rfl) rfl rfl) D1 (Wt 6 rfl rfl rfl (pt b65 0) rfl (fun w' h'=>QD rfl) D1 (Wt 7 rfl rfl rfl (pt b36439 0) rfl (fun w' h'=>QC (o:=0) (off:=0) Tryd.underlying39 rfl ty3 rfl rfl) D1 (Wt 8 rfl rfl rfl (vI ((rd a1 x31176).Task)) rfl (fun w' h'=>QO (Qp h' 0 rfl) ty3 rfl rfl) D1 (Wt 9 rfl rfl rfl (pt b36439 1) rfl (fun w' h'=>QC (o:=0) (off:=1) Tryd.underlying39 rfl ty37 rfl rfl) D1 (Wt 10 rfl rfl rfl (.agg #[vU ((rd a1 x31176).Call.Kind),vI ((rd a1 x31176).Call.Tx),vS ((rd a1 x31176).Call.Key),vS ((rd a1 x31176).Call.End),vS ((rd a1 x31176).Call.Value),vI ((rd a1 x31176).Call.Limit),vU ((rd a1 x31176).Call.Engine)]) rfl (fun w' h'=>ZA (Qp h' 0 rfl) ty37 rfl (QM rfl) rfl rfl) D1 ?_)))))))))
        refine Wo 5 rfl ?_
        obtain ⟨t36455,ht36456,H⟩:=QW H
        replace S:St w36453 M36427 F [_,_,_,_,_,_,_,_,_,_,_,_,_]:=S.pick [8,9,10,11,12,0,1,2,3,4,5,6,7] (by decide)
        refine Z5 fn25 (Za.con k M36427 A31185 c31186 A31188 c31189 A31191 c31192 A31194 c31195 vs31197 x31184 ((rd a1 x31176).Task) ((rd a1 x31176).Call) b39 t36455 hm31198 ht36456) (Γ1:=[_,_,_,_,_]) (Γ2:=[_,_,_,_,_,_,_,_]) S rfl rfl (by rintro _ _ _ ⟨rfl,rfl⟩;exact (QN ZW (QN Qu (QN Qu (QN (YI (fun _ _ _ _ h=>h)) (QN Qu Qd)))))) ?_
        rintro _ w36457 _ Γ' E' S ⟨rfl,rfl⟩
        replace E:=E.trans E'
        replace S:St w36457 M36427 F [_,_,_,_,_,_,_,_,_,_,_,_,_]:=S
        refine QB (YU ⟨.inr ⟨M36427,Hp.le_refl M36427,(S.pick [5,6,7,8,9,10,11,12,0,1,2,3,4] (by decide))⟩,?_⟩)
        refine Wo 11 rfl ?_
        obtain ⟨t36460,ht36461,H⟩:=QW H
        replace S:St w36457 M36427 F [_,_,_,_,_,_,_,_,_,_,_,_,_]:=S.pick [7,0,1,2,3,4,5,6,8,9,10,11,12] (by decide)
        refine Z5 fn37 (Q6.con k M36427 A31178 c31179 A31181 c31182 x31177 ((rd a1 x31176).Task) ((rd a1 x31176).Call) b65 t36460 hs31180 hs31183 ht36461) (Γ1:=[_]) (Γ2:=[_,_,_,_,_,_,_,_,_,_,_,_]) S rfl rfl (by rintro _ _ _ ⟨rfl,rfl⟩;exact (QN ZW Qd)) ?_
        rintro _ w36462 _ Γ' E' S ⟨rfl,rfl⟩
        replace E:=E.trans E'
        replace S:St w36462 M36427 F [_,_,_,_,_,_,_,_,_,_,_,_,_]:=S
        refine QB (YU ⟨.inr ⟨M36427,Hp.le_refl M36427,(S.pick [6,7,0,8,9,10,11,12,1,2,3,4,5] (by decide))⟩,?_⟩)
        refine Wt 12 rfl rfl rfl (.bool (t36455 != t36460)) rfl (fun w' h'=>Qa rfl rfl rfl rfl) (⟨M36427,Hp.le_refl M36427,(S.pick [6,7,0,8,9,10,11,12,1,2,3,4,5] (by decide))⟩) ?_
        refine Wz ?_
        refine tn ?_
        rcases Zf H with ⟨hb36465,H⟩ | ⟨hb36465,H⟩
        ·refine QQ (congrArg Value.bool hb36465) ?_
         refine QE (QA (W_v (.bool false) (QG rfl) rfl (QB (tn ?_))))
         refine Qs ?_
         refine tr (br (tr (tr (br (tr (tr (?_)))))))
         obtain rfl:=Option.some.inj H
         have H:=o36354H
         replace H:=elimL H
         obtain rfl:=Option.some.inj H
         exact ⟨_,_,_,fun w1 e1=>QX (vs:=[.bool false]) (FA.cons (rfl) (FA.nil)),HM,E,S.pick [] (by decide),⟨rfl,rfl⟩⟩
        refine QK (congrArg Value.bool hb36465) (Qr (tn ?_))
        as_aux_lemma =>
        refine QE ?_
        have LE37642:=Hp.le_refl M36427
        refine Q0 (S:=fun w'=>∃ Mx,M36427.le Mx∧St w' Mx F [B39 b36439 (rd a1 x31176),B121 b36418 t36416 A36420 c36421 A36423 c36424,B94 b36397 t36395 A36399 A36402 A36405 c36406 A36408,QT QF (Value.int .i64) A36399 t36395.names,QT (Value.int .i64) (Value.int .i64) A36402 t36395.many,Row QL 99 (.slice A36405 t36395.txs.length c36406) t36395.txs,QT encS (fun v:Value=>v) A36408 vs36411]) (L:=14) mixed ?_
        intro w37643 hw37644 E'
        replace S:=S.heap hw37644
        replace E:=E.trans E'
        have D3:∃ Mx,Hp.le M36427 Mx∧St _ Mx F [_,_,_,_,_,_,_]:=⟨_,Hp.le_refl _,S.pick [6,7,8,9,10,11,12] (by decide)⟩
        refine Wt 0 rfl rfl rfl (pt b39 0) rfl (fun w' h'=>QD rfl) D3 (Wt 1 rfl rfl rfl (pt b36439 0) rfl (fun w' h'=>QC (o:=0) (off:=0) Tryd.underlying39 rfl ty3 rfl rfl) D3 (Wt 2 rfl rfl rfl (vI ((rd a1 x31176).Task)) rfl (fun w' h'=>QO (Qp h' 0 rfl) ty3 rfl rfl) D3 (Wt 3 rfl rfl rfl (pt b36439 1) rfl (fun w' h'=>QC (o:=0) (off:=1) Tryd.underlying39 rfl ty37 rfl rfl) D3 (Wt 4 rfl rfl rfl (.agg #[vU ((rd a1 x31176).Call.Kind),vI ((rd a1 x31176).Call.Tx),vS ((rd a1 x31176).Call.Key),vS ((rd a1 x31176).Call.End),vS ((rd a1 x31176).Call.Value),vI ((rd a1 x31176).Call.Limit),vU ((rd a1 x31176).Call.Engine)]) rfl (fun w' h'=>ZA (Qp h' 0 rfl) ty37 rfl (QM rfl) rfl rfl) D3 (Wt 6 rfl rfl rfl (pt b65 0) rfl (fun w' h'=>QD rfl) D3 (Wt 7 rfl rfl rfl (pt b36439 0) rfl (fun w' h'=>QC (o:=0) (off:=0) Tryd.underlying39 rfl ty3 rfl rfl) D3 (Wt 8 rfl rfl rfl (vI ((rd a1 x31176).Task)) rfl (fun w' h'=>QO (Qp h' 0 rfl) ty3 rfl rfl) D3 (Wt 9 rfl rfl rfl (pt b36439 1) rfl (fun w' h'=>QC (o:=0) (off:=1) Tryd.underlying39 rfl ty37 rfl rfl) D3 (Wt 10 rfl rfl rfl (.agg #[vU ((rd a1 x31176).Call.Kind),vI ((rd a1 x31176).Call.Tx),vS ((rd a1 x31176).Call.Key),vS ((rd a1 x31176).Call.End),vS ((rd a1 x31176).Call.Value),vI ((rd a1 x31176).Call.Limit),vU ((rd a1 x31176).Call.Engine)]) rfl (fun w' h'=>ZA (Qp h' 0 rfl) ty37 rfl (QM rfl) rfl rfl) D3 ?_)))))))))
        obtain ⟨o38583,o38583h,o38583H⟩:=QW H
        refine YD (fun ρ w'=>∃ (x38052:Int) (x38053:Bool) (x38054:Str) (x38055:List Qf) (x38059:Int) (x38060:Bool) (x38061:Str) (x38062:List Qf) (x38066:QH) (x38073:QJ) (A38056:Option Addr) (c38057:Nat) (A38063:Option Addr) (c38064:Nat) (A38067:Option Addr) (c38068:Nat) (A38070:Option Addr) (c38071:Nat) (A38074:Option Addr) (c38075:Nat) (A38077:Option Addr) (c38078:Nat) (A38080:Option Addr) (c38081:Nat) (A38083:Option Addr) (c38084:Nat) (vs38086:List (Str×Value)) (b38048:Nat) (b38050:Nat) (Mj:Hp),(x38052,x38053,x38054,x38055,x38059,x38060,x38061,x38062,x38066,x38073)=o38583∧Qi ρ [(1,.slice A1 a1.length c1),(5,pt b39 0),(7,pt b65 0),(9,vI x31176),(10,pt b36397 0),(11,pt b36418 0),(12,pt b36439 0),(13,pt b38048 0),(14,pt b38050 0),(83,.agg #[vI x38052,.bool x38053,vS x38054,.slice A38056 x38055.length c38057]),(89,.agg #[vI x38059,.bool x38060,vS x38061,.slice A38063 x38062.length c38064])]∧M36427.le Mj∧Ext w w'∧St w' Mj F [Blk b38050 (.cells cz14 43 (0,0)),Blk b38048 (.cells cz14 43 (0,0)),QT encS (fun v:Value=>v) A38083 vs38086,Row QL 99 (.slice A38080 x38073.txs.length c38081) x38073.txs,QT (Value.int .i64) (Value.int .i64) A38077 x38073.many,QT QF (Value.int .i64) A38074 x38073.names,Row Qm 87 (.slice A38063 x38062.length c38064) x38062,Row Qm 87 (.slice A38056 x38055.length c38057) x38055,B121 b65 x38066 A38067 c38068 A38070 c38071,B94 b39 x38073 A38074 A38077 A38080 c38081 A38083,B39 b36439 (rd a1 x31176),B121 b36418 t36416 A36420 c36421 A36423 c36424,B94 b36397 t36395 A36399 A36402 A36405 c36406 A36408,QT QF (Value.int .i64) A36399 t36395.names,QT (Value.int .i64) (Value.int .i64) A36402 t36395.many,Row QL 99 (.slice A36405 t36395.txs.length c36406) t36395.txs,QT encS (fun v:Value=>v) A36408 vs36411]∧SlR QY Mj (.slice A38067 x38066.T.length c38068) x38066.T∧SlR QU Mj (.slice A38070 x38066.L.length c38071) x38066.L∧YV Qk Mj x38073.rows vs38086) 2 (Ls 16 [0,1,2,3,4,5,6,7,8,9,10,11,12,13]) ?_ ?_
        rotate_left
        ·intro hq38595
         refine YD (fun ρ w'=>∃ (x38011:Int) (x38012:Bool) (x38013:Str) (x38014:List Qf) (x38018:QJ) (A38015:Option Addr) (c38016:Nat) (A38019:Option Addr) (c38020:Nat) (A38022:Option Addr) (c38023:Nat) (A38025:Option Addr) (c38026:Nat) (A38028:Option Addr) (c38029:Nat) (vs38031:List (Str×Value)) (b38007:Nat) (b38009:Nat) (Mj:Hp),(Option.bind (Qe k x31177 ((rd a1 x31176).Task) ((rd a1 x31176).Call)) (fun t38569=>some (x38011,x38012,x38013,x38014,t38569.1.Err,t38569.1.Found,t38569.1.Value,t38569.1.Pairs,t38569.2,x38018)))=some o38583∧Qi ρ [(1,.slice A1 a1.length c1),(5,pt b39 0),(7,pt b65 0),(9,vI x31176),(10,pt b36397 0),(11,pt b36418 0),(12,pt b36439 0),(13,pt b38007 0),(14,pt b38009 0),(83,.agg #[vI x38011,.bool x38012,vS x38013,.slice A38015 x38014.length c38016]),(84,pt b65 0),(86,vI ((rd a1 x31176).Task)),(88,.agg #[vU ((rd a1 x31176).Call.Kind),vI ((rd a1 x31176).Call.Tx),vS ((rd a1 x31176).Call.Key),vS ((rd a1 x31176).Call.End),vS ((rd a1 x31176).Call.Value),vI ((rd a1 x31176).Call.Limit),vU ((rd a1 x31176).Call.Engine)])]∧M36427.le Mj∧Ext w w'∧St w' Mj F [Blk b38009 (.cells cz14 43 (0,0)),Blk b38007 (.cells cz14 43 (0,0)),QT encS (fun v:Value=>v) A38028 vs38031,Row QL 99 (.slice A38025 x38018.txs.length c38026) x38018.txs,QT (Value.int .i64) (Value.int .i64) A38022 x38018.many,QT QF (Value.int .i64) A38019 x38018.names,Row Qm 87 (.slice A38015 x38014.length c38016) x38014,B94 b39 x38018 A38019 A38022 A38025 c38026 A38028,B121 b65 x31177 A31178 c31179 A31181 c31182,B39 b36439 (rd a1 x31176),B121 b36418 t36416 A36420 c36421 A36423 c36424,B94 b36397 t36395 A36399 A36402 A36405 c36406 A36408,QT QF (Value.int .i64) A36399 t36395.names,QT (Value.int .i64) (Value.int .i64) A36402 t36395.many,Row QL 99 (.slice A36405 t36395.txs.length c36406) t36395.txs,QT encS (fun v:Value=>v) A36408 vs36411]∧YV Qk Mj x38018.rows vs38031) 3 (Ls 16 [0,1,2,3,4,5,6,7,8,9,10,12,13]) ?_ ?_
         ·clear o38583h
          rintro ρ w38596 ⟨x38011,x38012,x38013,x38014,x38018,A38015,c38016,A38019,c38020,A38022,c38023,A38025,c38026,A38028,c38029,vs38031,b38007,b38009,M38597,H,hρ,hM38598,E,S,hm38032⟩
          rw [QI hρ]
          replace HM:=Hp.le_trans HM hM38598
          replace hs31180:=SlR.mono hs31180 hM38598
          replace hs31183:=SlR.mono hs31183 hM38598
          refine Wo 11 rfl ?_
          obtain ⟨t38600,ht38601,H⟩:=QW H
          replace S:St w38596 M38597 F [_,_,_,_,_,_,_,_,_,_,_,_,_,_,_,_]:=S.pick [8,0,1,2,3,4,5,6,7,9,10,11,12,13,14,15] (by decide)
          refine Yc fn38 (Qe.con k M38597 A31178 c31179 A31181 c31182 x31177 ((rd a1 x31176).Task) ((rd a1 x31176).Call) b65 t38600 hs31180 hs31183 ht38601) (Γ1:=[_]) (Γ2:=[_,_,_,_,_,_,_,_,_,_,_,_,_,_,_]) S rfl rfl ?_
          rintro _ w38611 M38612 Γ' hM38613 E' S ⟨A38602,c38603,A38605,c38606,A38608,c38609,rfl,hs38607,hs38610,rfl⟩
          replace HM:=Hp.le_trans HM hM38613
          replace hM38598:=Hp.le_trans hM38598 hM38613
          replace hm38032:=YV.mono hm38032 hM38613
          replace E:=E.trans E'
          replace S:St w38611 M38612 F [_,_,_,_,_,_,_,_,_,_,_,_,_,_,_,_,_]:=S
          refine QB (YU ⟨.inr ⟨M38612,hM38598,(S.pick [10,11,12,13,14,15,16] (by decide))⟩,?_⟩)
          exact hq38595 _ _ ⟨x38011,x38012,x38013,x38014,t38600.1.Err,t38600.1.Found,t38600.1.Value,t38600.1.Pairs,t38600.2,x38018,A38015,c38016,A38602,c38603,A38605,c38606,A38608,c38609,A38019,c38020,A38022,c38023,A38025,c38026,A38028,c38029,vs38031,b38007,b38009,M38612,Option.some.inj H,⟨rfl,rfl,rfl,rfl,rfl,rfl,rfl,rfl,rfl,rfl,rfl,trivial⟩,hM38598,E,S.pick [2,3,4,5,6,7,0,8,1,9,10,11,12,13,14,15,16] (by decide),hs38607,hs38610,hm38032⟩
         intro hq38594
         refine YD (fun ρ w'=>∃ (x37967:Int) (x37968:Bool) (x37969:Str) (x37970:List Qf) (x37974:Int) (x37975:Bool) (x37976:Str) (x37977:List Qf) (x37981:QH) (x37988:QJ) (A37971:Option Addr) (c37972:Nat) (A37978:Option Addr) (c37979:Nat) (A37982:Option Addr) (c37983:Nat) (A37985:Option Addr) (c37986:Nat) (A37989:Option Addr) (c37990:Nat) (A37992:Option Addr) (c37993:Nat) (A37995:Option Addr) (c37996:Nat) (A37998:Option Addr) (c37999:Nat) (vs38001:List (Str×Value)) (b37965:Nat) (Mj:Hp),some (x37967,x37968,x37969,x37970,x37974,x37975,x37976,x37977,x37981,x37988)=some o38583∧Qi ρ [(1,.slice A1 a1.length c1),(5,pt b39 0),(7,pt b65 0),(9,vI x31176),(10,pt b36397 0),(11,pt b36418 0),(12,pt b36439 0),(14,pt b37965 0),(83,.agg #[vI x37967,.bool x37968,vS x37969,.slice A37971 x37970.length c37972]),(89,.agg #[vI x37974,.bool x37975,vS x37976,.slice A37978 x37977.length c37979])]∧M36427.le Mj∧Ext w w'∧St w' Mj F [Blk b37965 (.cells cz14 43 (0,0)),QT encS (fun v:Value=>v) A37998 vs38001,Row QL 99 (.slice A37995 x37988.txs.length c37996) x37988.txs,QT (Value.int .i64) (Value.int .i64) A37992 x37988.many,QT QF (Value.int .i64) A37989 x37988.names,Row Qm 87 (.slice A37978 x37977.length c37979) x37977,Row Qm 87 (.slice A37971 x37970.length c37972) x37970,B121 b65 x37981 A37982 c37983 A37985 c37986,B94 b39 x37988 A37989 A37992 A37995 c37996 A37998,B39 b36439 (rd a1 x31176),B121 b36418 t36416 A36420 c36421 A36423 c36424,B94 b36397 t36395 A36399 A36402 A36405 c36406 A36408,QT QF (Value.int .i64) A36399 t36395.names,QT (Value.int .i64) (Value.int .i64) A36402 t36395.many,Row QL 99 (.slice A36405 t36395.txs.length c36406) t36395.txs,QT encS (fun v:Value=>v) A36408 vs36411]∧SlR QY Mj (.slice A37982 x37981.T.length c37983) x37981.T∧SlR QU Mj (.slice A37985 x37981.L.length c37986) x37981.L∧YV Qk Mj x37988.rows vs38001) 3 (Ls 16 [0,1,2,3,4,5,6,7,8,9,10,11,13]) ?_ ?_
         ·clear o38583h
          rintro ρ w38614 ⟨x37967,x37968,x37969,x37970,x37974,x37975,x37976,x37977,x37981,x37988,A37971,c37972,A37978,c37979,A37982,c37983,A37985,c37986,A37989,c37990,A37992,c37993,A37995,c37996,A37998,c37999,vs38001,b37965,M38615,H,hρ,hM38616,E,S,hs37984,hs37987,hm38002⟩
          rw [QI hρ]
          replace HM:=Hp.le_trans HM hM38616
          refine Wo 12 rfl ?_
          refine Zo S cz14 ty43 rfl rfl ?_
          intro b38618 w38619 E' S
          replace E:=E.trans E'
          refine QB (YU ⟨.inr ⟨M38615,hM38616,(S.pick [10,11,12,13,14,15,16] (by decide))⟩,?_⟩)
          exact hq38595 _ _ ⟨x37967,x37968,x37969,x37970,x37974,x37975,x37976,x37977,x37981,x37988,A37971,c37972,A37978,c37979,A37982,c37983,A37985,c37986,A37989,c37990,A37992,c37993,A37995,c37996,A37998,c37999,vs38001,b38618,b37965,M38615,Option.some.inj H,⟨rfl,rfl,rfl,rfl,rfl,rfl,rfl,rfl,rfl,rfl,rfl,trivial⟩,hM38616,E,S.pick [1,0,2,3,4,5,6,7,8,9,10,11,12,13,14,15,16] (by decide),hs37984,hs37987,hm38002⟩
         intro hq38593
         refine YD (fun ρ w'=>∃ (x37925:Int) (x37926:Bool) (x37927:Str) (x37928:List Qf) (x37932:Int) (x37933:Bool) (x37934:Str) (x37935:List Qf) (x37939:QH) (x37946:QJ) (A37929:Option Addr) (c37930:Nat) (A37936:Option Addr) (c37937:Nat) (A37940:Option Addr) (c37941:Nat) (A37943:Option Addr) (c37944:Nat) (A37947:Option Addr) (c37948:Nat) (A37950:Option Addr) (c37951:Nat) (A37953:Option Addr) (c37954:Nat) (A37956:Option Addr) (c37957:Nat) (vs37959:List (Str×Value)) (b37923:Nat) (Mj:Hp),some (x37925,x37926,x37927,x37928,x37932,x37933,x37934,x37935,x37939,x37946)=some o38583∧Qi ρ [(1,.slice A1 a1.length c1),(5,pt b39 0),(7,pt b65 0),(9,vI x31176),(10,pt b36397 0),(11,pt b36418 0),(12,pt b36439 0),(13,pt b37923 0),(83,.agg #[vI x37925,.bool x37926,vS x37927,.slice A37929 x37928.length c37930]),(89,.agg #[vI x37932,.bool x37933,vS x37934,.slice A37936 x37935.length c37937])]∧M36427.le Mj∧Ext w w'∧St w' Mj F [Blk b37923 (.cells cz14 43 (0,0)),QT encS (fun v:Value=>v) A37956 vs37959,Row QL 99 (.slice A37953 x37946.txs.length c37954) x37946.txs,QT (Value.int .i64) (Value.int .i64) A37950 x37946.many,QT QF (Value.int .i64) A37947 x37946.names,Row Qm 87 (.slice A37936 x37935.length c37937) x37935,Row Qm 87 (.slice A37929 x37928.length c37930) x37928,B121 b65 x37939 A37940 c37941 A37943 c37944,B94 b39 x37946 A37947 A37950 A37953 c37954 A37956,B39 b36439 (rd a1 x31176),B121 b36418 t36416 A36420 c36421 A36423 c36424,B94 b36397 t36395 A36399 A36402 A36405 c36406 A36408,QT QF (Value.int .i64) A36399 t36395.names,QT (Value.int .i64) (Value.int .i64) A36402 t36395.many,Row QL 99 (.slice A36405 t36395.txs.length c36406) t36395.txs,QT encS (fun v:Value=>v) A36408 vs36411]∧SlR QY Mj (.slice A37940 x37939.T.length c37941) x37939.T∧SlR QU Mj (.slice A37943 x37939.L.length c37944) x37939.L∧YV Qk Mj x37946.rows vs37959) 3 (Ls 16 [0,1,2,3,4,5,6,7,8,9,10,11,12]) ?_ ?_
         ·clear o38583h
          rintro ρ w38621 ⟨x37925,x37926,x37927,x37928,x37932,x37933,x37934,x37935,x37939,x37946,A37929,c37930,A37936,c37937,A37940,c37941,A37943,c37944,A37947,c37948,A37950,c37951,A37953,c37954,A37956,c37957,vs37959,b37923,M38622,H,hρ,hM38623,E,S,hs37942,hs37945,hm37960⟩
          rw [QI hρ]
          replace HM:=Hp.le_trans HM hM38623
          refine Wo 13 rfl ?_
          refine Zo S cz14 ty43 rfl rfl ?_
          intro b38625 w38626 E' S
          replace E:=E.trans E'
          refine QB (YU ⟨.inr ⟨M38622,hM38623,(S.pick [10,11,12,13,14,15,16] (by decide))⟩,?_⟩)
          exact hq38595 _ _ ⟨x37925,x37926,x37927,x37928,x37932,x37933,x37934,x37935,x37939,x37946,A37929,c37930,A37936,c37937,A37940,c37941,A37943,c37944,A37947,c37948,A37950,c37951,A37953,c37954,A37956,c37957,vs37959,b37923,b38625,M38622,Option.some.inj H,⟨rfl,rfl,rfl,rfl,rfl,rfl,rfl,rfl,rfl,rfl,rfl,trivial⟩,hM38623,E,S.pick [0,1,2,3,4,5,6,7,8,9,10,11,12,13,14,15,16] (by decide),hs37942,hs37945,hm37960⟩
         intro hq38592
         refine YD (fun ρ w'=>∃ (b37897:Nat) (b37899:Nat) (Mj:Hp),(Option.bind (Q5 k x31184 ((rd a1 x31176).Task) ((rd a1 x31176).Call)) (fun t38524=>(Option.bind (Qe k x31177 ((rd a1 x31176).Task) ((rd a1 x31176).Call)) (fun t38546=>some (t38524.1.Err,t38524.1.Found,t38524.1.Value,t38524.1.Pairs,t38546.1.Err,t38546.1.Found,t38546.1.Value,t38546.1.Pairs,t38546.2,t38524.2)))))=some o38583∧Qi ρ [(1,.slice A1 a1.length c1),(5,pt b39 0),(7,pt b65 0),(9,vI x31176),(10,pt b36397 0),(11,pt b36418 0),(12,pt b36439 0),(13,pt b37897 0),(14,pt b37899 0),(78,pt b39 0),(80,vI ((rd a1 x31176).Task)),(82,.agg #[vU ((rd a1 x31176).Call.Kind),vI ((rd a1 x31176).Call.Tx),vS ((rd a1 x31176).Call.Key),vS ((rd a1 x31176).Call.End),vS ((rd a1 x31176).Call.Value),vI ((rd a1 x31176).Call.Limit),vU ((rd a1 x31176).Call.Engine)]),(84,pt b65 0),(86,vI ((rd a1 x31176).Task)),(88,.agg #[vU ((rd a1 x31176).Call.Kind),vI ((rd a1 x31176).Call.Tx),vS ((rd a1 x31176).Call.Key),vS ((rd a1 x31176).Call.End),vS ((rd a1 x31176).Call.Value),vI ((rd a1 x31176).Call.Limit),vU ((rd a1 x31176).Call.Engine)])]∧M36427.le Mj∧Ext w w'∧St w' Mj F [Blk b37899 (.cells cz14 43 (0,0)),Blk b37897 (.cells cz14 43 (0,0)),B121 b65 x31177 A31178 c31179 A31181 c31182,B94 b39 x31184 A31185 A31188 A31191 c31192 A31194,QT QF (Value.int .i64) A31185 x31184.names,QT (Value.int .i64) (Value.int .i64) A31188 x31184.many,Row QL 99 (.slice A31191 x31184.txs.length c31192) x31184.txs,QT encS (fun v:Value=>v) A31194 vs31197,B39 b36439 (rd a1 x31176),B121 b36418 t36416 A36420 c36421 A36423 c36424,B94 b36397 t36395 A36399 A36402 A36405 c36406 A36408,QT QF (Value.int .i64) A36399 t36395.names,QT (Value.int .i64) (Value.int .i64) A36402 t36395.many,Row QL 99 (.slice A36405 t36395.txs.length c36406) t36395.txs,QT encS (fun v:Value=>v) A36408 vs36411]) 4 (Ls 16 [0,1,2,3,4,6,7,8,9,10,12,13]) ?_ ?_
         ·clear o38583h
          rintro ρ w38628 ⟨b37897,b37899,M38629,H,hρ,hM38630,E,S⟩
          rw [QI hρ]
          replace hg0:=gup hg0 hM38630
          replace HM:=Hp.le_trans HM hM38630
          replace hm31198:=YV.mono hm31198 hM38630
          refine Wo 5 rfl ?_
          obtain ⟨t38632,ht38633,H⟩:=QW H
          replace S:St w38628 M38629 F [_,_,_,_,_,_,_,_,_,_,_,_,_,_,_]:=S.pick [3,4,5,6,7,0,1,2,8,9,10,11,12,13,14] (by decide)
          refine Yc fn15 (Q5.con k M38629 A31185 c31186 A31188 c31189 A31191 c31192 A31194 c31195 vs31197 x31184 ((rd a1 x31176).Task) ((rd a1 x31176).Call) b39 t38632 hm31198 hg0 ht38633) (Γ1:=[_,_,_,_,_]) (Γ2:=[_,_,_,_,_,_,_,_,_,_]) S rfl rfl ?_
          rintro _ w38651 M38652 Γ' hM38653 E' S ⟨A38634,c38635,A38637,c38638,A38640,c38641,A38643,c38644,A38646,c38647,vs38649,rfl,hm38650,rfl⟩
          replace HM:=Hp.le_trans HM hM38653
          replace hM38630:=Hp.le_trans hM38630 hM38653
          replace E:=E.trans E'
          replace S:St w38651 M38652 F [_,_,_,_,_,_,_,_,_,_,_,_,_,_,_,_]:=S
          refine QB (YU ⟨.inr ⟨M38652,hM38630,(S.pick [9,10,11,12,13,14,15] (by decide))⟩,?_⟩)
          exact hq38594 _ _ ⟨t38632.1.Err,t38632.1.Found,t38632.1.Value,t38632.1.Pairs,t38632.2,A38634,c38635,A38637,c38638,A38640,c38641,A38643,c38644,A38646,c38647,vs38649,b37897,b37899,M38652,H,⟨rfl,rfl,rfl,rfl,rfl,rfl,rfl,rfl,rfl,rfl,rfl,rfl,rfl,trivial⟩,hM38630,E,S.pick [6,7,5,4,3,2,0,1,8,9,10,11,12,13,14,15] (by decide),hm38650⟩
         intro hq38591
         refine YD (fun ρ w'=>∃ (x37857:Int) (x37858:Bool) (x37859:Str) (x37860:List Qf) (x37864:QJ) (A37861:Option Addr) (c37862:Nat) (A37865:Option Addr) (c37866:Nat) (A37868:Option Addr) (c37869:Nat) (A37871:Option Addr) (c37872:Nat) (A37874:Option Addr) (c37875:Nat) (vs37877:List (Str×Value)) (b37855:Nat) (Mj:Hp),(Option.bind (Qe k x31177 ((rd a1 x31176).Task) ((rd a1 x31176).Call)) (fun t38488=>some (x37857,x37858,x37859,x37860,t38488.1.Err,t38488.1.Found,t38488.1.Value,t38488.1.Pairs,t38488.2,x37864)))=some o38583∧Qi ρ [(1,.slice A1 a1.length c1),(5,pt b39 0),(7,pt b65 0),(9,vI x31176),(10,pt b36397 0),(11,pt b36418 0),(12,pt b36439 0),(14,pt b37855 0),(83,.agg #[vI x37857,.bool x37858,vS x37859,.slice A37861 x37860.length c37862]),(84,pt b65 0),(86,vI ((rd a1 x31176).Task)),(88,.agg #[vU ((rd a1 x31176).Call.Kind),vI ((rd a1 x31176).Call.Tx),vS ((rd a1 x31176).Call.Key),vS ((rd a1 x31176).Call.End),vS ((rd a1 x31176).Call.Value),vI ((rd a1 x31176).Call.Limit),vU ((rd a1 x31176).Call.Engine)])]∧M36427.le Mj∧Ext w w'∧St w' Mj F [Blk b37855 (.cells cz14 43 (0,0)),QT encS (fun v:Value=>v) A37874 vs37877,Row QL 99 (.slice A37871 x37864.txs.length c37872) x37864.txs,QT (Value.int .i64) (Value.int .i64) A37868 x37864.many,QT QF (Value.int .i64) A37865 x37864.names,Row Qm 87 (.slice A37861 x37860.length c37862) x37860,B94 b39 x37864 A37865 A37868 A37871 c37872 A37874,B121 b65 x31177 A31178 c31179 A31181 c31182,B39 b36439 (rd a1 x31176),B121 b36418 t36416 A36420 c36421 A36423 c36424,B94 b36397 t36395 A36399 A36402 A36405 c36406 A36408,QT QF (Value.int .i64) A36399 t36395.names,QT (Value.int .i64) (Value.int .i64) A36402 t36395.many,Row QL 99 (.slice A36405 t36395.txs.length c36406) t36395.txs,QT encS (fun v:Value=>v) A36408 vs36411]∧YV Qk Mj x37864.rows vs37877) 4 (Ls 16 [0,1,2,3,4,5,6,7,8,9,10,13]) ?_ ?_
         ·clear o38583h
          rintro ρ w38654 ⟨x37857,x37858,x37859,x37860,x37864,A37861,c37862,A37865,c37866,A37868,c37869,A37871,c37872,A37874,c37875,vs37877,b37855,M38655,H,hρ,hM38656,E,S,hm37878⟩
          rw [QI hρ]
          replace HM:=Hp.le_trans HM hM38656
          replace hs31180:=SlR.mono hs31180 hM38656
          replace hs31183:=SlR.mono hs31183 hM38656
          refine XK (rs:=[11,12]) (by kernel_rfl) (by decide) ?_
          simp only [List.forall_mem_cons,List.not_mem_nil,false_implies,implies_true,and_true]
          refine ⟨?_,?_⟩
          ·refine ⟨_,rfl,?_⟩
           obtain ⟨t38658,ht38659,H⟩:=QW H
           replace S:St w38654 M38655 F [_,_,_,_,_,_,_,_,_,_,_,_,_,_,_]:=S.pick [7,0,1,2,3,4,5,6,8,9,10,11,12,13,14] (by decide)
           refine Yc fn38 (Qe.con k M38655 A31178 c31179 A31181 c31182 x31177 ((rd a1 x31176).Task) ((rd a1 x31176).Call) b65 t38658 hs31180 hs31183 ht38659) (Γ1:=[_]) (Γ2:=[_,_,_,_,_,_,_,_,_,_,_,_,_,_]) S rfl rfl ?_
           rintro _ w38669 M38670 Γ' hM38671 E' S ⟨A38660,c38661,A38663,c38664,A38666,c38667,rfl,hs38665,hs38668,rfl⟩
           replace HM:=Hp.le_trans HM hM38671
           replace hM38656:=Hp.le_trans hM38656 hM38671
           replace hm37878:=YV.mono hm37878 hM38671
           replace E:=E.trans E'
           replace S:St w38669 M38670 F [_,_,_,_,_,_,_,_,_,_,_,_,_,_,_,_]:=S
           refine QB (YU ⟨.inr ⟨M38670,hM38656,(S.pick [9,10,11,12,13,14,15] (by decide))⟩,?_⟩)
           exact hq38593 _ _ ⟨x37857,x37858,x37859,x37860,t38658.1.Err,t38658.1.Found,t38658.1.Value,t38658.1.Pairs,t38658.2,x37864,A37861,c37862,A38660,c38661,A38663,c38664,A38666,c38667,A37865,c37866,A37868,c37869,A37871,c37872,A37874,c37875,vs37877,b37855,M38670,H,⟨rfl,rfl,rfl,rfl,rfl,rfl,rfl,rfl,rfl,rfl,trivial⟩,hM38656,E,S.pick [2,3,4,5,6,0,7,1,8,9,10,11,12,13,14,15] (by decide),hs38665,hs38668,hm37878⟩
          ·refine ⟨_,rfl,?_⟩
           refine Zo S cz14 ty43 rfl rfl ?_
           intro b38672 w38673 E' S
           replace E:=E.trans E'
           refine QB (YU ⟨.inr ⟨M38655,hM38656,(S.pick [9,10,11,12,13,14,15] (by decide))⟩,?_⟩)
           exact hq38594 _ _ ⟨x37857,x37858,x37859,x37860,x37864,A37861,c37862,A37865,c37866,A37868,c37869,A37871,c37872,A37874,c37875,vs37877,b38672,b37855,M38655,H,⟨rfl,rfl,rfl,rfl,rfl,rfl,rfl,rfl,rfl,rfl,rfl,rfl,rfl,trivial⟩,hM38656,E,S.pick [1,0,2,3,4,5,6,7,8,9,10,11,12,13,14,15] (by decide),hm37878⟩
         intro hq38590
         refine YD (fun ρ w'=>∃ (x37815:Int) (x37816:Bool) (x37817:Str) (x37818:List Qf) (x37822:QJ) (A37819:Option Addr) (c37820:Nat) (A37823:Option Addr) (c37824:Nat) (A37826:Option Addr) (c37827:Nat) (A37829:Option Addr) (c37830:Nat) (A37832:Option Addr) (c37833:Nat) (vs37835:List (Str×Value)) (b37813:Nat) (Mj:Hp),(Option.bind (Qe k x31177 ((rd a1 x31176).Task) ((rd a1 x31176).Call)) (fun t38452=>some (x37815,x37816,x37817,x37818,t38452.1.Err,t38452.1.Found,t38452.1.Value,t38452.1.Pairs,t38452.2,x37822)))=some o38583∧Qi ρ [(1,.slice A1 a1.length c1),(5,pt b39 0),(7,pt b65 0),(9,vI x31176),(10,pt b36397 0),(11,pt b36418 0),(12,pt b36439 0),(13,pt b37813 0),(83,.agg #[vI x37815,.bool x37816,vS x37817,.slice A37819 x37818.length c37820]),(84,pt b65 0),(86,vI ((rd a1 x31176).Task)),(88,.agg #[vU ((rd a1 x31176).Call.Kind),vI ((rd a1 x31176).Call.Tx),vS ((rd a1 x31176).Call.Key),vS ((rd a1 x31176).Call.End),vS ((rd a1 x31176).Call.Value),vI ((rd a1 x31176).Call.Limit),vU ((rd a1 x31176).Call.Engine)])]∧M36427.le Mj∧Ext w w'∧St w' Mj F [Blk b37813 (.cells cz14 43 (0,0)),QT encS (fun v:Value=>v) A37832 vs37835,Row QL 99 (.slice A37829 x37822.txs.length c37830) x37822.txs,QT (Value.int .i64) (Value.int .i64) A37826 x37822.many,QT QF (Value.int .i64) A37823 x37822.names,Row Qm 87 (.slice A37819 x37818.length c37820) x37818,B94 b39 x37822 A37823 A37826 A37829 c37830 A37832,B121 b65 x31177 A31178 c31179 A31181 c31182,B39 b36439 (rd a1 x31176),B121 b36418 t36416 A36420 c36421 A36423 c36424,B94 b36397 t36395 A36399 A36402 A36405 c36406 A36408,QT QF (Value.int .i64) A36399 t36395.names,QT (Value.int .i64) (Value.int .i64) A36402 t36395.many,Row QL 99 (.slice A36405 t36395.txs.length c36406) t36395.txs,QT encS (fun v:Value=>v) A36408 vs36411]∧YV Qk Mj x37822.rows vs37835) 4 (Ls 16 [0,1,2,3,4,5,6,7,8,9,10,12]) ?_ ?_
         ·clear o38583h
          rintro ρ w38675 ⟨x37815,x37816,x37817,x37818,x37822,A37819,c37820,A37823,c37824,A37826,c37827,A37829,c37830,A37832,c37833,vs37835,b37813,M38676,H,hρ,hM38677,E,S,hm37836⟩
          rw [QI hρ]
          replace HM:=Hp.le_trans HM hM38677
          replace hs31180:=SlR.mono hs31180 hM38677
          replace hs31183:=SlR.mono hs31183 hM38677
          refine XK (rs:=[11,13]) (by kernel_rfl) (by decide) ?_
          simp only [List.forall_mem_cons,List.not_mem_nil,false_implies,implies_true,and_true]
          refine ⟨?_,?_⟩
          ·refine ⟨_,rfl,?_⟩
           obtain ⟨t38679,ht38680,H⟩:=QW H
           replace S:St w38675 M38676 F [_,_,_,_,_,_,_,_,_,_,_,_,_,_,_]:=S.pick [7,0,1,2,3,4,5,6,8,9,10,11,12,13,14] (by decide)
           refine Yc fn38 (Qe.con k M38676 A31178 c31179 A31181 c31182 x31177 ((rd a1 x31176).Task) ((rd a1 x31176).Call) b65 t38679 hs31180 hs31183 ht38680) (Γ1:=[_]) (Γ2:=[_,_,_,_,_,_,_,_,_,_,_,_,_,_]) S rfl rfl ?_
           rintro _ w38690 M38691 Γ' hM38692 E' S ⟨A38681,c38682,A38684,c38685,A38687,c38688,rfl,hs38686,hs38689,rfl⟩
           replace HM:=Hp.le_trans HM hM38692
           replace hM38677:=Hp.le_trans hM38677 hM38692
           replace hm37836:=YV.mono hm37836 hM38692
           replace E:=E.trans E'
           replace S:St w38690 M38691 F [_,_,_,_,_,_,_,_,_,_,_,_,_,_,_,_]:=S
           refine QB (YU ⟨.inr ⟨M38691,hM38677,(S.pick [9,10,11,12,13,14,15] (by decide))⟩,?_⟩)
           exact hq38592 _ _ ⟨x37815,x37816,x37817,x37818,t38679.1.Err,t38679.1.Found,t38679.1.Value,t38679.1.Pairs,t38679.2,x37822,A37819,c37820,A38681,c38682,A38684,c38685,A38687,c38688,A37823,c37824,A37826,c37827,A37829,c37830,A37832,c37833,vs37835,b37813,M38691,H,⟨rfl,rfl,rfl,rfl,rfl,rfl,rfl,rfl,rfl,rfl,trivial⟩,hM38677,E,S.pick [2,3,4,5,6,0,7,1,8,9,10,11,12,13,14,15] (by decide),hs38686,hs38689,hm37836⟩
          ·refine ⟨_,rfl,?_⟩
           refine Zo S cz14 ty43 rfl rfl ?_
           intro b38693 w38694 E' S
           replace E:=E.trans E'
           refine QB (YU ⟨.inr ⟨M38676,hM38677,(S.pick [9,10,11,12,13,14,15] (by decide))⟩,?_⟩)
           exact hq38594 _ _ ⟨x37815,x37816,x37817,x37818,x37822,A37819,c37820,A37823,c37824,A37826,c37827,A37829,c37830,A37832,c37833,vs37835,b37813,b38693,M38676,H,⟨rfl,rfl,rfl,rfl,rfl,rfl,rfl,rfl,rfl,rfl,rfl,rfl,rfl,trivial⟩,hM38677,E,S.pick [0,1,2,3,4,5,6,7,8,9,10,11,12,13,14,15] (by decide),hm37836⟩
         intro hq38589
         refine YD (fun ρ w'=>∃ (x37770:Int) (x37771:Bool) (x37772:Str) (x37773:List Qf) (x37777:Int) (x37778:Bool) (x37779:Str) (x37780:List Qf) (x37784:QH) (x37791:QJ) (A37774:Option Addr) (c37775:Nat) (A37781:Option Addr) (c37782:Nat) (A37785:Option Addr) (c37786:Nat) (A37788:Option Addr) (c37789:Nat) (A37792:Option Addr) (c37793:Nat) (A37795:Option Addr) (c37796:Nat) (A37798:Option Addr) (c37799:Nat) (A37801:Option Addr) (c37802:Nat) (vs37804:List (Str×Value)) (Mj:Hp),some (x37770,x37771,x37772,x37773,x37777,x37778,x37779,x37780,x37784,x37791)=some o38583∧Qi ρ [(1,.slice A1 a1.length c1),(5,pt b39 0),(7,pt b65 0),(9,vI x31176),(10,pt b36397 0),(11,pt b36418 0),(12,pt b36439 0),(83,.agg #[vI x37770,.bool x37771,vS x37772,.slice A37774 x37773.length c37775]),(89,.agg #[vI x37777,.bool x37778,vS x37779,.slice A37781 x37780.length c37782])]∧M36427.le Mj∧Ext w w'∧St w' Mj F [QT encS (fun v:Value=>v) A37801 vs37804,Row QL 99 (.slice A37798 x37791.txs.length c37799) x37791.txs,QT (Value.int .i64) (Value.int .i64) A37795 x37791.many,QT QF (Value.int .i64) A37792 x37791.names,Row Qm 87 (.slice A37781 x37780.length c37782) x37780,Row Qm 87 (.slice A37774 x37773.length c37775) x37773,B121 b65 x37784 A37785 c37786 A37788 c37789,B94 b39 x37791 A37792 A37795 A37798 c37799 A37801,B39 b36439 (rd a1 x31176),B121 b36418 t36416 A36420 c36421 A36423 c36424,B94 b36397 t36395 A36399 A36402 A36405 c36406 A36408,QT QF (Value.int .i64) A36399 t36395.names,QT (Value.int .i64) (Value.int .i64) A36402 t36395.many,Row QL 99 (.slice A36405 t36395.txs.length c36406) t36395.txs,QT encS (fun v:Value=>v) A36408 vs36411]∧SlR QY Mj (.slice A37785 x37784.T.length c37786) x37784.T∧SlR QU Mj (.slice A37788 x37784.L.length c37789) x37784.L∧YV Qk Mj x37791.rows vs37804) 4 (Ls 16 [0,1,2,3,4,5,6,7,8,9,10,11]) ?_ ?_
         ·clear o38583h
          rintro ρ w38696 ⟨x37770,x37771,x37772,x37773,x37777,x37778,x37779,x37780,x37784,x37791,A37774,c37775,A37781,c37782,A37785,c37786,A37788,c37789,A37792,c37793,A37795,c37796,A37798,c37799,A37801,c37802,vs37804,M38697,H,hρ,hM38698,E,S,hs37787,hs37790,hm37805⟩
          rw [QI hρ]
          replace HM:=Hp.le_trans HM hM38698
          refine XK (rs:=[12,13]) (by kernel_rfl) (by decide) ?_
          simp only [List.forall_mem_cons,List.not_mem_nil,false_implies,implies_true,and_true]
          refine ⟨?_,?_⟩
          ·refine ⟨_,rfl,?_⟩
           refine Zo S cz14 ty43 rfl rfl ?_
           intro b38700 w38701 E' S
           replace E:=E.trans E'
           refine QB (YU ⟨.inr ⟨M38697,hM38698,(S.pick [9,10,11,12,13,14,15] (by decide))⟩,?_⟩)
           exact hq38592 _ _ ⟨x37770,x37771,x37772,x37773,x37777,x37778,x37779,x37780,x37784,x37791,A37774,c37775,A37781,c37782,A37785,c37786,A37788,c37789,A37792,c37793,A37795,c37796,A37798,c37799,A37801,c37802,vs37804,b38700,M38697,H,⟨rfl,rfl,rfl,rfl,rfl,rfl,rfl,rfl,rfl,rfl,trivial⟩,hM38698,E,S.pick [0,1,2,3,4,5,6,7,8,9,10,11,12,13,14,15] (by decide),hs37787,hs37790,hm37805⟩
          ·refine ⟨_,rfl,?_⟩
           refine Zo S cz14 ty43 rfl rfl ?_
           intro b38703 w38704 E' S
           replace E:=E.trans E'
           refine QB (YU ⟨.inr ⟨M38697,hM38698,(S.pick [9,10,11,12,13,14,15] (by decide))⟩,?_⟩)
           exact hq38593 _ _ ⟨x37770,x37771,x37772,x37773,x37777,x37778,x37779,x37780,x37784,x37791,A37774,c37775,A37781,c37782,A37785,c37786,A37788,c37789,A37792,c37793,A37795,c37796,A37798,c37799,A37801,c37802,vs37804,b38703,M38697,H,⟨rfl,rfl,rfl,rfl,rfl,rfl,rfl,rfl,rfl,rfl,trivial⟩,hM38698,E,S.pick [0,1,2,3,4,5,6,7,8,9,10,11,12,13,14,15] (by decide),hs37787,hs37790,hm37805⟩
         intro hq38588
         refine YD (fun ρ w'=>∃ (b37743:Nat) (Mj:Hp),(Option.bind (Q5 k x31184 ((rd a1 x31176).Task) ((rd a1 x31176).Call)) (fun t38358=>(Option.bind (Qe k x31177 ((rd a1 x31176).Task) ((rd a1 x31176).Call)) (fun t38380=>some (t38358.1.Err,t38358.1.Found,t38358.1.Value,t38358.1.Pairs,t38380.1.Err,t38380.1.Found,t38380.1.Value,t38380.1.Pairs,t38380.2,t38358.2)))))=some o38583∧Qi ρ [(1,.slice A1 a1.length c1),(5,pt b39 0),(7,pt b65 0),(9,vI x31176),(10,pt b36397 0),(11,pt b36418 0),(12,pt b36439 0),(14,pt b37743 0),(78,pt b39 0),(80,vI ((rd a1 x31176).Task)),(82,.agg #[vU ((rd a1 x31176).Call.Kind),vI ((rd a1 x31176).Call.Tx),vS ((rd a1 x31176).Call.Key),vS ((rd a1 x31176).Call.End),vS ((rd a1 x31176).Call.Value),vI ((rd a1 x31176).Call.Limit),vU ((rd a1 x31176).Call.Engine)]),(84,pt b65 0),(86,vI ((rd a1 x31176).Task)),(88,.agg #[vU ((rd a1 x31176).Call.Kind),vI ((rd a1 x31176).Call.Tx),vS ((rd a1 x31176).Call.Key),vS ((rd a1 x31176).Call.End),vS ((rd a1 x31176).Call.Value),vI ((rd a1 x31176).Call.Limit),vU ((rd a1 x31176).Call.Engine)])]∧M36427.le Mj∧Ext w w'∧St w' Mj F [Blk b37743 (.cells cz14 43 (0,0)),B121 b65 x31177 A31178 c31179 A31181 c31182,B94 b39 x31184 A31185 A31188 A31191 c31192 A31194,QT QF (Value.int .i64) A31185 x31184.names,QT (Value.int .i64) (Value.int .i64) A31188 x31184.many,Row QL 99 (.slice A31191 x31184.txs.length c31192) x31184.txs,QT encS (fun v:Value=>v) A31194 vs31197,B39 b36439 (rd a1 x31176),B121 b36418 t36416 A36420 c36421 A36423 c36424,B94 b36397 t36395 A36399 A36402 A36405 c36406 A36408,QT QF (Value.int .i64) A36399 t36395.names,QT (Value.int .i64) (Value.int .i64) A36402 t36395.many,Row QL 99 (.slice A36405 t36395.txs.length c36406) t36395.txs,QT encS (fun v:Value=>v) A36408 vs36411]) 5 (Ls 16 [0,1,2,3,4,6,7,8,9,10,13]) ?_ ?_
         ·clear o38583h
          rintro ρ w38706 ⟨b37743,M38707,H,hρ,hM38708,E,S⟩
          rw [QI hρ]
          replace hg0:=gup hg0 hM38708
          replace HM:=Hp.le_trans HM hM38708
          replace hm31198:=YV.mono hm31198 hM38708
          refine XK (rs:=[5,12]) (by kernel_rfl) (by decide) ?_
          simp only [List.forall_mem_cons,List.not_mem_nil,false_implies,implies_true,and_true]
          refine ⟨?_,?_⟩
          ·refine ⟨_,rfl,?_⟩
           obtain ⟨t38710,ht38711,H⟩:=QW H
           replace S:St w38706 M38707 F [_,_,_,_,_,_,_,_,_,_,_,_,_,_]:=S.pick [2,3,4,5,6,0,1,7,8,9,10,11,12,13] (by decide)
           refine Yc fn15 (Q5.con k M38707 A31185 c31186 A31188 c31189 A31191 c31192 A31194 c31195 vs31197 x31184 ((rd a1 x31176).Task) ((rd a1 x31176).Call) b39 t38710 hm31198 hg0 ht38711) (Γ1:=[_,_,_,_,_]) (Γ2:=[_,_,_,_,_,_,_,_,_]) S rfl rfl ?_
           rintro _ w38729 M38730 Γ' hM38731 E' S ⟨A38712,c38713,A38715,c38716,A38718,c38719,A38721,c38722,A38724,c38725,vs38727,rfl,hm38728,rfl⟩
           replace HM:=Hp.le_trans HM hM38731
           replace hM38708:=Hp.le_trans hM38708 hM38731
           replace E:=E.trans E'
           replace S:St w38729 M38730 F [_,_,_,_,_,_,_,_,_,_,_,_,_,_,_]:=S
           refine QB (YU ⟨.inr ⟨M38730,hM38708,(S.pick [8,9,10,11,12,13,14] (by decide))⟩,?_⟩)
           exact hq38590 _ _ ⟨t38710.1.Err,t38710.1.Found,t38710.1.Value,t38710.1.Pairs,t38710.2,A38712,c38713,A38715,c38716,A38718,c38719,A38721,c38722,A38724,c38725,vs38727,b37743,M38730,H,⟨rfl,rfl,rfl,rfl,rfl,rfl,rfl,rfl,rfl,rfl,rfl,rfl,trivial⟩,hM38708,E,S.pick [6,5,4,3,2,0,1,7,8,9,10,11,12,13,14] (by decide),hm38728⟩
          ·refine ⟨_,rfl,?_⟩
           refine Zo S cz14 ty43 rfl rfl ?_
           intro b38732 w38733 E' S
           replace E:=E.trans E'
           refine QB (YU ⟨.inr ⟨M38707,hM38708,(S.pick [8,9,10,11,12,13,14] (by decide))⟩,?_⟩)
           exact hq38591 _ _ ⟨b38732,b37743,M38707,H,⟨rfl,rfl,rfl,rfl,rfl,rfl,rfl,rfl,rfl,rfl,rfl,rfl,rfl,rfl,rfl,trivial⟩,hM38708,E,S.pick [1,0,2,3,4,5,6,7,8,9,10,11,12,13,14] (by decide)⟩
         intro hq38587
         refine YD (fun ρ w'=>∃ (b37716:Nat) (Mj:Hp),(Option.bind (Q5 k x31184 ((rd a1 x31176).Task) ((rd a1 x31176).Call)) (fun t38278=>(Option.bind (Qe k x31177 ((rd a1 x31176).Task) ((rd a1 x31176).Call)) (fun t38300=>some (t38278.1.Err,t38278.1.Found,t38278.1.Value,t38278.1.Pairs,t38300.1.Err,t38300.1.Found,t38300.1.Value,t38300.1.Pairs,t38300.2,t38278.2)))))=some o38583∧Qi ρ [(1,.slice A1 a1.length c1),(5,pt b39 0),(7,pt b65 0),(9,vI x31176),(10,pt b36397 0),(11,pt b36418 0),(12,pt b36439 0),(13,pt b37716 0),(78,pt b39 0),(80,vI ((rd a1 x31176).Task)),(82,.agg #[vU ((rd a1 x31176).Call.Kind),vI ((rd a1 x31176).Call.Tx),vS ((rd a1 x31176).Call.Key),vS ((rd a1 x31176).Call.End),vS ((rd a1 x31176).Call.Value),vI ((rd a1 x31176).Call.Limit),vU ((rd a1 x31176).Call.Engine)]),(84,pt b65 0),(86,vI ((rd a1 x31176).Task)),(88,.agg #[vU ((rd a1 x31176).Call.Kind),vI ((rd a1 x31176).Call.Tx),vS ((rd a1 x31176).Call.Key),vS ((rd a1 x31176).Call.End),vS ((rd a1 x31176).Call.Value),vI ((rd a1 x31176).Call.Limit),vU ((rd a1 x31176).Call.Engine)])]∧M36427.le Mj∧Ext w w'∧St w' Mj F [Blk b37716 (.cells cz14 43 (0,0)),B121 b65 x31177 A31178 c31179 A31181 c31182,B94 b39 x31184 A31185 A31188 A31191 c31192 A31194,QT QF (Value.int .i64) A31185 x31184.names,QT (Value.int .i64) (Value.int .i64) A31188 x31184.many,Row QL 99 (.slice A31191 x31184.txs.length c31192) x31184.txs,QT encS (fun v:Value=>v) A31194 vs31197,B39 b36439 (rd a1 x31176),B121 b36418 t36416 A36420 c36421 A36423 c36424,B94 b36397 t36395 A36399 A36402 A36405 c36406 A36408,QT QF (Value.int .i64) A36399 t36395.names,QT (Value.int .i64) (Value.int .i64) A36402 t36395.many,Row QL 99 (.slice A36405 t36395.txs.length c36406) t36395.txs,QT encS (fun v:Value=>v) A36408 vs36411]) 5 (Ls 16 [0,1,2,3,4,6,7,8,9,10,12]) ?_ ?_
         ·clear o38583h
          rintro ρ w38735 ⟨b37716,M38736,H,hρ,hM38737,E,S⟩
          rw [QI hρ]
          replace hg0:=gup hg0 hM38737
          replace HM:=Hp.le_trans HM hM38737
          replace hm31198:=YV.mono hm31198 hM38737
          refine XK (rs:=[5,13]) (by kernel_rfl) (by decide) ?_
          simp only [List.forall_mem_cons,List.not_mem_nil,false_implies,implies_true,and_true]
          refine ⟨?_,?_⟩
          ·refine ⟨_,rfl,?_⟩
           obtain ⟨t38739,ht38740,H⟩:=QW H
           replace S:St w38735 M38736 F [_,_,_,_,_,_,_,_,_,_,_,_,_,_]:=S.pick [2,3,4,5,6,0,1,7,8,9,10,11,12,13] (by decide)
           refine Yc fn15 (Q5.con k M38736 A31185 c31186 A31188 c31189 A31191 c31192 A31194 c31195 vs31197 x31184 ((rd a1 x31176).Task) ((rd a1 x31176).Call) b39 t38739 hm31198 hg0 ht38740) (Γ1:=[_,_,_,_,_]) (Γ2:=[_,_,_,_,_,_,_,_,_]) S rfl rfl ?_
           rintro _ w38758 M38759 Γ' hM38760 E' S ⟨A38741,c38742,A38744,c38745,A38747,c38748,A38750,c38751,A38753,c38754,vs38756,rfl,hm38757,rfl⟩
           replace HM:=Hp.le_trans HM hM38760
           replace hM38737:=Hp.le_trans hM38737 hM38760
           replace E:=E.trans E'
           replace S:St w38758 M38759 F [_,_,_,_,_,_,_,_,_,_,_,_,_,_,_]:=S
           refine QB (YU ⟨.inr ⟨M38759,hM38737,(S.pick [8,9,10,11,12,13,14] (by decide))⟩,?_⟩)
           exact hq38589 _ _ ⟨t38739.1.Err,t38739.1.Found,t38739.1.Value,t38739.1.Pairs,t38739.2,A38741,c38742,A38744,c38745,A38747,c38748,A38750,c38751,A38753,c38754,vs38756,b37716,M38759,H,⟨rfl,rfl,rfl,rfl,rfl,rfl,rfl,rfl,rfl,rfl,rfl,rfl,trivial⟩,hM38737,E,S.pick [6,5,4,3,2,0,1,7,8,9,10,11,12,13,14] (by decide),hm38757⟩
          ·refine ⟨_,rfl,?_⟩
           refine Zo S cz14 ty43 rfl rfl ?_
           intro b38761 w38762 E' S
           replace E:=E.trans E'
           refine QB (YU ⟨.inr ⟨M38736,hM38737,(S.pick [8,9,10,11,12,13,14] (by decide))⟩,?_⟩)
           exact hq38591 _ _ ⟨b37716,b38761,M38736,H,⟨rfl,rfl,rfl,rfl,rfl,rfl,rfl,rfl,rfl,rfl,rfl,rfl,rfl,rfl,rfl,trivial⟩,hM38737,E,S.pick [0,1,2,3,4,5,6,7,8,9,10,11,12,13,14] (by decide)⟩
         intro hq38586
         refine YD (fun ρ w'=>∃ (x37673:Int) (x37674:Bool) (x37675:Str) (x37676:List Qf) (x37680:QJ) (A37677:Option Addr) (c37678:Nat) (A37681:Option Addr) (c37682:Nat) (A37684:Option Addr) (c37685:Nat) (A37687:Option Addr) (c37688:Nat) (A37690:Option Addr) (c37691:Nat) (vs37693:List (Str×Value)) (Mj:Hp),(Option.bind (Qe k x31177 ((rd a1 x31176).Task) ((rd a1 x31176).Call)) (fun t38215=>some (x37673,x37674,x37675,x37676,t38215.1.Err,t38215.1.Found,t38215.1.Value,t38215.1.Pairs,t38215.2,x37680)))=some o38583∧Qi ρ [(1,.slice A1 a1.length c1),(5,pt b39 0),(7,pt b65 0),(9,vI x31176),(10,pt b36397 0),(11,pt b36418 0),(12,pt b36439 0),(83,.agg #[vI x37673,.bool x37674,vS x37675,.slice A37677 x37676.length c37678]),(84,pt b65 0),(86,vI ((rd a1 x31176).Task)),(88,.agg #[vU ((rd a1 x31176).Call.Kind),vI ((rd a1 x31176).Call.Tx),vS ((rd a1 x31176).Call.Key),vS ((rd a1 x31176).Call.End),vS ((rd a1 x31176).Call.Value),vI ((rd a1 x31176).Call.Limit),vU ((rd a1 x31176).Call.Engine)])]∧M36427.le Mj∧Ext w w'∧St w' Mj F [QT encS (fun v:Value=>v) A37690 vs37693,Row QL 99 (.slice A37687 x37680.txs.length c37688) x37680.txs,QT (Value.int .i64) (Value.int .i64) A37684 x37680.many,QT QF (Value.int .i64) A37681 x37680.names,Row Qm 87 (.slice A37677 x37676.length c37678) x37676,B94 b39 x37680 A37681 A37684 A37687 c37688 A37690,B121 b65 x31177 A31178 c31179 A31181 c31182,B39 b36439 (rd a1 x31176),B121 b36418 t36416 A36420 c36421 A36423 c36424,B94 b36397 t36395 A36399 A36402 A36405 c36406 A36408,QT QF (Value.int .i64) A36399 t36395.names,QT (Value.int .i64) (Value.int .i64) A36402 t36395.many,Row QL 99 (.slice A36405 t36395.txs.length c36406) t36395.txs,QT encS (fun v:Value=>v) A36408 vs36411]∧YV Qk Mj x37680.rows vs37693) 5 (Ls 16 [0,1,2,3,4,5,6,7,8,9,10]) ?_ ?_
         ·clear o38583h
          rintro ρ w38764 ⟨x37673,x37674,x37675,x37676,x37680,A37677,c37678,A37681,c37682,A37684,c37685,A37687,c37688,A37690,c37691,vs37693,M38765,H,hρ,hM38766,E,S,hm37694⟩
          rw [QI hρ]
          replace HM:=Hp.le_trans HM hM38766
          replace hs31180:=SlR.mono hs31180 hM38766
          replace hs31183:=SlR.mono hs31183 hM38766
          refine XK (rs:=[11,12,13]) (by kernel_rfl) (by decide) ?_
          simp only [List.forall_mem_cons,List.not_mem_nil,false_implies,implies_true,and_true]
          refine ⟨?_,?_,?_⟩
          ·refine ⟨_,rfl,?_⟩
           obtain ⟨t38768,ht38769,H⟩:=QW H
           replace S:St w38764 M38765 F [_,_,_,_,_,_,_,_,_,_,_,_,_,_]:=S.pick [6,0,1,2,3,4,5,7,8,9,10,11,12,13] (by decide)
           refine Yc fn38 (Qe.con k M38765 A31178 c31179 A31181 c31182 x31177 ((rd a1 x31176).Task) ((rd a1 x31176).Call) b65 t38768 hs31180 hs31183 ht38769) (Γ1:=[_]) (Γ2:=[_,_,_,_,_,_,_,_,_,_,_,_,_]) S rfl rfl ?_
           rintro _ w38779 M38780 Γ' hM38781 E' S ⟨A38770,c38771,A38773,c38774,A38776,c38777,rfl,hs38775,hs38778,rfl⟩
           replace HM:=Hp.le_trans HM hM38781
           replace hM38766:=Hp.le_trans hM38766 hM38781
           replace hm37694:=YV.mono hm37694 hM38781
           replace E:=E.trans E'
           replace S:St w38779 M38780 F [_,_,_,_,_,_,_,_,_,_,_,_,_,_,_]:=S
           refine QB (YU ⟨.inr ⟨M38780,hM38766,(S.pick [8,9,10,11,12,13,14] (by decide))⟩,?_⟩)
           exact hq38588 _ _ ⟨x37673,x37674,x37675,x37676,t38768.1.Err,t38768.1.Found,t38768.1.Value,t38768.1.Pairs,t38768.2,x37680,A37677,c37678,A38770,c38771,A38773,c38774,A38776,c38777,A37681,c37682,A37684,c37685,A37687,c37688,A37690,c37691,vs37693,M38780,H,⟨rfl,rfl,rfl,rfl,rfl,rfl,rfl,rfl,rfl,trivial⟩,hM38766,E,S.pick [2,3,4,5,0,6,1,7,8,9,10,11,12,13,14] (by decide),hs38775,hs38778,hm37694⟩
          ·refine ⟨_,rfl,?_⟩
           refine Zo S cz14 ty43 rfl rfl ?_
           intro b38782 w38783 E' S
           replace E:=E.trans E'
           refine QB (YU ⟨.inr ⟨M38765,hM38766,(S.pick [8,9,10,11,12,13,14] (by decide))⟩,?_⟩)
           exact hq38589 _ _ ⟨x37673,x37674,x37675,x37676,x37680,A37677,c37678,A37681,c37682,A37684,c37685,A37687,c37688,A37690,c37691,vs37693,b38782,M38765,H,⟨rfl,rfl,rfl,rfl,rfl,rfl,rfl,rfl,rfl,rfl,rfl,rfl,trivial⟩,hM38766,E,S.pick [0,1,2,3,4,5,6,7,8,9,10,11,12,13,14] (by decide),hm37694⟩
          ·refine ⟨_,rfl,?_⟩
           refine Zo S cz14 ty43 rfl rfl ?_
           intro b38785 w38786 E' S
           replace E:=E.trans E'
           refine QB (YU ⟨.inr ⟨M38765,hM38766,(S.pick [8,9,10,11,12,13,14] (by decide))⟩,?_⟩)
           exact hq38590 _ _ ⟨x37673,x37674,x37675,x37676,x37680,A37677,c37678,A37681,c37682,A37684,c37685,A37687,c37688,A37690,c37691,vs37693,b38785,M38765,H,⟨rfl,rfl,rfl,rfl,rfl,rfl,rfl,rfl,rfl,rfl,rfl,rfl,trivial⟩,hM38766,E,S.pick [0,1,2,3,4,5,6,7,8,9,10,11,12,13,14] (by decide),hm37694⟩
         intro hq38585
         have H:=o38583h
         refine XK (rs:=[5,12,13]) (by kernel_rfl) (by decide) ?_
         simp only [List.forall_mem_cons,List.not_mem_nil,false_implies,implies_true,and_true]
         refine ⟨?_,?_,?_⟩
         ·refine ⟨_,rfl,?_⟩
          obtain ⟨t38788,ht38789,H⟩:=QW H
          replace S:St w37643 M36427 F [_,_,_,_,_,_,_,_,_,_,_,_,_]:=S.pick [1,2,3,4,5,0,6,7,8,9,10,11,12] (by decide)
          refine Yc fn15 (Q5.con k M36427 A31185 c31186 A31188 c31189 A31191 c31192 A31194 c31195 vs31197 x31184 ((rd a1 x31176).Task) ((rd a1 x31176).Call) b39 t38788 hm31198 hg0 ht38789) (Γ1:=[_,_,_,_,_]) (Γ2:=[_,_,_,_,_,_,_,_]) S rfl rfl ?_
          rintro _ w38807 M38808 Γ' hM38809 E' S ⟨A38790,c38791,A38793,c38794,A38796,c38797,A38799,c38800,A38802,c38803,vs38805,rfl,hm38806,rfl⟩
          replace HM:=Hp.le_trans HM hM38809
          replace LE37642:=Hp.le_trans LE37642 hM38809
          replace E:=E.trans E'
          replace S:St w38807 M38808 F [_,_,_,_,_,_,_,_,_,_,_,_,_,_]:=S
          refine QB (YU ⟨.inr ⟨M38808,LE37642,(S.pick [7,8,9,10,11,12,13] (by decide))⟩,?_⟩)
          exact hq38585 _ _ ⟨t38788.1.Err,t38788.1.Found,t38788.1.Value,t38788.1.Pairs,t38788.2,A38790,c38791,A38793,c38794,A38796,c38797,A38799,c38800,A38802,c38803,vs38805,M38808,H,⟨rfl,rfl,rfl,rfl,rfl,rfl,rfl,rfl,rfl,rfl,rfl,trivial⟩,LE37642,E,S.pick [5,4,3,2,0,1,6,7,8,9,10,11,12,13] (by decide),hm38806⟩
         ·refine ⟨_,rfl,?_⟩
          refine Zo S cz14 ty43 rfl rfl ?_
          intro b38810 w38811 E' S
          replace E:=E.trans E'
          refine QB (YU ⟨.inr ⟨M36427,Hp.le_refl M36427,(S.pick [7,8,9,10,11,12,13] (by decide))⟩,?_⟩)
          exact hq38586 _ _ ⟨b38810,M36427,H,⟨rfl,rfl,rfl,rfl,rfl,rfl,rfl,rfl,rfl,rfl,rfl,rfl,rfl,rfl,trivial⟩,(Hp.le_refl M36427),E,S.pick [0,1,2,3,4,5,6,7,8,9,10,11,12,13] (by decide)⟩
         ·refine ⟨_,rfl,?_⟩
          refine Zo S cz14 ty43 rfl rfl ?_
          intro b38813 w38814 E' S
          replace E:=E.trans E'
          refine QB (YU ⟨.inr ⟨M36427,Hp.le_refl M36427,(S.pick [7,8,9,10,11,12,13] (by decide))⟩,?_⟩)
          exact hq38587 _ _ ⟨b38813,M36427,H,⟨rfl,rfl,rfl,rfl,rfl,rfl,rfl,rfl,rfl,rfl,rfl,rfl,rfl,rfl,trivial⟩,(Hp.le_refl M36427),E,S.pick [0,1,2,3,4,5,6,7,8,9,10,11,12,13] (by decide)⟩
        rintro ρ w38816 ⟨x38052,x38053,x38054,x38055,x38059,x38060,x38061,x38062,x38066,x38073,A38056,c38057,A38063,c38064,A38067,c38068,A38070,c38071,A38074,c38075,A38077,c38078,A38080,c38081,A38083,c38084,vs38086,b38048,b38050,M38817,rfl,hρ,hM38818,E,S,hs38069,hs38072,hm38087⟩
        rw [QI hρ]
        replace HM:=Hp.le_trans HM hM38818
        replace hM36357:=Hp.le_trans hM36357 hM38818
        replace hm36412:=YV.mono hm36412 hM38818
        replace hs36422:=SlR.mono hs36422 hM38818
        replace hs36425:=SlR.mono hs36425 hM38818
        have H:=o38583H
        refine Wo 14 rfl ?_
        refine Qx S 1 rfl ty43 rfl rfl [vI x38052,.bool x38053,vS x38054,.slice A38056 x38055.length c38057] rfl rfl rfl #[vI x38052,.bool x38053,vS x38054,.slice A38056 x38055.length c38057] rfl rfl ?_
        intro w38819 E' S
        replace E:=E.trans E'
        refine QB (YU ⟨.inl (by decide),?_⟩)
        refine Wo 15 rfl ?_
        refine Qx S 0 rfl ty43 rfl rfl [vI x38059,.bool x38060,vS x38061,.slice A38063 x38062.length c38064] rfl rfl rfl #[vI x38059,.bool x38060,vS x38061,.slice A38063 x38062.length c38064] rfl rfl ?_
        intro w38820 E' S
        replace E:=E.trans E'
        refine QB (YU ⟨.inl (by decide),?_⟩)
        refine Wz ?_
        refine tn ?_
        as_aux_lemma =>
        refine QE (QE (QA (W_v (.agg #[vI x38052,.bool x38053,vS x38054,.slice A38056 x38055.length c38057]) (ZA (S.blk 1 rfl) ty43 rfl (QM rfl) rfl rfl) rfl (W_v (.agg #[vI x38059,.bool x38060,vS x38061,.slice A38063 x38062.length c38064]) (ZA (S.blk 0 rfl) ty43 rfl (QM rfl) rfl rfl) rfl ?_))))
        replace S:St w38820 M38817 F [_,_,_,_,_,_,_,_,_,_,_,_,_,_,_,_,_]:=S.pick [7,6,0,1,2,3,4,5,8,9,10,11,12,13,14,15,16] (by decide)
        obtain ⟨t38821,ht38822,H⟩:=QW H
        refine Xw 2 fn20 (fun h9 hs9 hd9=>YE.con k _ A38056 c38057 (⟨x38052,x38053,x38054,x38055⟩:Qc) A38063 c38064 (⟨x38059,x38060,x38061,x38062⟩:Qc) t38821 (Sats.row hs9 hd9 0 rfl) (Sats.row hs9 hd9 1 rfl) ht38822) S rfl rfl (by rintro _ _ _ ⟨_,rfl⟩;exact Qd) ?_
        rintro _ w38823 _ Γ' E' S ⟨rfl,rfl⟩
        replace E:=E.trans E'
        refine W_v (.bool (!t38821)) (Y5 (b:=t38821) rfl) rfl (W_v (.bool (!t38821)) (QD rfl) rfl ?_)
        obtain ⟨o38832,o38832h,o38832H⟩:=QW H
        refine ZH 5 (fun ρ w'=>∃ (x38831:Bool),(x38831)=o38832∧Qi ρ [(1,.slice A1 a1.length c1),(5,pt b39 0),(7,pt b65 0),(9,vI x31176),(10,pt b36397 0),(11,pt b36418 0),(12,pt b36439 0),(13,pt b38048 0),(99,.bool x38831)]∧Ext w w'∧St w' M38817 F [Row Qm 87 (.slice A38056 x38055.length c38057) x38055,Blk b38048 (.cells #[vI x38052,.bool x38053,vS x38054,.slice A38056 x38055.length c38057] 43 (0,0)),QT encS (fun v:Value=>v) A38083 vs38086,Row QL 99 (.slice A38080 x38073.txs.length c38081) x38073.txs,QT (Value.int .i64) (Value.int .i64) A38077 x38073.many,QT QF (Value.int .i64) A38074 x38073.names,B121 b65 x38066 A38067 c38068 A38070 c38071,B94 b39 x38073 A38074 A38077 A38080 c38081 A38083,B39 b36439 (rd a1 x31176),B121 b36418 t36416 A36420 c36421 A36423 c36424,B94 b36397 t36395 A36399 A36402 A36405 c36406 A36408,QT QF (Value.int .i64) A36399 t36395.names,QT (Value.int .i64) (Value.int .i64) A36402 t36395.many,Row QL 99 (.slice A36405 t36395.txs.length c36406) t36395.txs,QT encS (fun v:Value=>v) A36408 vs36411]) ?_ ?_
        ·have H:=o38832h
         rcases Zf H with ⟨hb38830,H⟩ | ⟨hb38830,H⟩
         ·skip
          refine QZ (skF hb38830) rfl (QZ (skF hb38830) rfl (QZ (skF hb38830) rfl (QZ (skF hb38830) rfl (W_v (.bool true) (QV (k:=true) (congrArg Value.bool hb38830) rfl) rfl (QB ?_)))))
          exact ⟨true,Option.some.inj H,⟨rfl,rfl,rfl,rfl,rfl,rfl,rfl,rfl,rfl,trivial⟩,E,S.pick [0,3,4,5,6,7,8,9,10,11,12,13,14,15,16] (by decide)⟩
         ·skip
          refine QP (congrArg some hb38830) (W_v (.agg #[vI x38052,.bool x38053,vS x38054,.slice A38056 x38055.length c38057]) (ZA (S.blk 3 rfl) ty43 rfl (QM rfl) rfl rfl) rfl (QP (congrArg some hb38830) (W_v (.agg #[vI x38059,.bool x38060,vS x38061,.slice A38063 x38062.length c38064]) (ZA (S.blk 2 rfl) ty43 rfl (QM rfl) rfl rfl) rfl (QP (congrArg some hb38830) ?_))))
          obtain ⟨t38833,ht38834,H⟩:=QW H
          refine Xw 2 fn39 (fun h9 hs9 hd9=>Y4.con k _ A38056 c38057 (⟨x38052,x38053,x38054,x38055⟩:Qc) A38063 c38064 (⟨x38059,x38060,x38061,x38062⟩:Qc) t38833 (Sats.row hs9 hd9 0 rfl) (Sats.row hs9 hd9 1 rfl) ht38834) S rfl rfl (by rintro _ _ _ ⟨_,rfl⟩;exact Qd) ?_
          rintro _ w38835 _ Γ' E' S ⟨rfl,rfl⟩
          replace E:=E.trans E'
          refine QP (congrArg some hb38830) (W_v (.bool (!t38833)) (Y5 (b:=t38833) rfl) rfl (W_v (.bool (!t38833)) (QV (k:=false) (congrArg Value.bool hb38830) rfl) rfl (QB ?_)))
          exact ⟨(!t38833),Option.some.inj H,⟨rfl,rfl,rfl,rfl,rfl,rfl,rfl,rfl,rfl,trivial⟩,E,S.pick [0,3,4,5,6,7,8,9,10,11,12,13,14,15,16] (by decide)⟩
        as_aux_lemma =>
        rintro ρ w38836 ⟨x38831,rfl,hρ,E,S⟩
        rw [QI hρ]
        have H:=o38832H
        refine W_v (.bool x38831) (QD rfl) rfl ?_
        obtain ⟨o38845,o38845h,o38845H⟩:=QW H
        refine ZH 4 (fun ρ w'=>∃ (x38844:Bool),(x38844)=o38845∧Qi ρ [(1,.slice A1 a1.length c1),(5,pt b39 0),(7,pt b65 0),(9,vI x31176),(10,pt b36397 0),(11,pt b36418 0),(12,pt b36439 0),(13,pt b38048 0),(104,.bool x38844)]∧Ext w w'∧St w' M38817 F [Row Qm 87 (.slice A38056 x38055.length c38057) x38055,Blk b38048 (.cells #[vI x38052,.bool x38053,vS x38054,.slice A38056 x38055.length c38057] 43 (0,0)),QT encS (fun v:Value=>v) A38083 vs38086,Row QL 99 (.slice A38080 x38073.txs.length c38081) x38073.txs,QT (Value.int .i64) (Value.int .i64) A38077 x38073.many,QT QF (Value.int .i64) A38074 x38073.names,B121 b65 x38066 A38067 c38068 A38070 c38071,B94 b39 x38073 A38074 A38077 A38080 c38081 A38083,B39 b36439 (rd a1 x31176),B121 b36418 t36416 A36420 c36421 A36423 c36424,B94 b36397 t36395 A36399 A36402 A36405 c36406 A36408,QT QF (Value.int .i64) A36399 t36395.names,QT (Value.int .i64) (Value.int .i64) A36402 t36395.many,Row QL 99 (.slice A36405 t36395.txs.length c36406) t36395.txs,QT encS (fun v:Value=>v) A36408 vs36411]) ?_ ?_
        ·have H:=o38845h
         rcases Zf H with ⟨hb38843,H⟩ | ⟨hb38843,H⟩
         ·skip
          refine QZ (skF hb38843) rfl (QZ (skF hb38843) rfl (QZ (skF hb38843) rfl (W_v (.bool true) (QV (k:=true) (congrArg Value.bool hb38843) rfl) rfl (QB ?_))))
          exact ⟨true,Option.some.inj H,⟨rfl,rfl,rfl,rfl,rfl,rfl,rfl,rfl,rfl,trivial⟩,E,S.pick [0,1,2,3,4,5,6,7,8,9,10,11,12,13,14] (by decide)⟩
         ·skip
          refine QP (congrArg some hb38843) (W_v (.agg #[vI x38052,.bool x38053,vS x38054,.slice A38056 x38055.length c38057]) (ZA (S.blk 1 rfl) ty43 rfl (QM rfl) rfl rfl) rfl (QP (congrArg some hb38843) (W_v (.agg cz10) (Z3 (pl:=[(0,1),(1,1),(2,1),(3,1)]) cz10 Tryd.underlying43 ty43 (by as_aux_lemma=>kernel_rfl) rfl (by as_aux_lemma=>kernel_rfl)) rfl (QP (congrArg some hb38843) ?_))))
          obtain ⟨t38846,ht38847,H⟩:=QW H
          refine Xw 1 fn39 (fun h9 hs9 hd9=>Y4.con k _ A38056 c38057 (⟨x38052,x38053,x38054,x38055⟩:Qc) none 0 cz4 t38846 (Sats.row hs9 hd9 0 rfl) (SlW.nil _ _) ht38847) S rfl rfl (by rintro _ _ _ ⟨_,rfl⟩;exact Qd) ?_
          rintro _ w38848 _ Γ' E' S ⟨rfl,rfl⟩
          replace E:=E.trans E'
          refine W_v (.bool t38846) (QV (k:=false) (congrArg Value.bool hb38843) rfl) rfl (QB ?_)
          exact ⟨t38846,Option.some.inj H,⟨rfl,rfl,rfl,rfl,rfl,rfl,rfl,rfl,rfl,trivial⟩,E,S.pick [0,1,2,3,4,5,6,7,8,9,10,11,12,13,14] (by decide)⟩
        as_aux_lemma =>
        rintro ρ w38849 ⟨x38844,rfl,hρ,E,S⟩
        rw [QI hρ]
        have H:=o38845H
        refine W_v (.bool x38844) (QD rfl) rfl ?_
        obtain ⟨o38862,o38862h,o38862H⟩:=QW H
        refine ZH 13 (fun ρ w'=>∃ (x38861:Bool),(x38861)=o38862∧Qi ρ [(1,.slice A1 a1.length c1),(5,pt b39 0),(7,pt b65 0),(9,vI x31176),(10,pt b36397 0),(11,pt b36418 0),(12,pt b36439 0),(13,pt b38048 0),(118,.bool x38861)]∧Ext w w'∧St w' M38817 F [Row Qm 87 (.slice A38056 x38055.length c38057) x38055,Blk b38048 (.cells #[vI x38052,.bool x38053,vS x38054,.slice A38056 x38055.length c38057] 43 (0,0)),QT encS (fun v:Value=>v) A38083 vs38086,Row QL 99 (.slice A38080 x38073.txs.length c38081) x38073.txs,QT (Value.int .i64) (Value.int .i64) A38077 x38073.many,QT QF (Value.int .i64) A38074 x38073.names,B121 b65 x38066 A38067 c38068 A38070 c38071,B94 b39 x38073 A38074 A38077 A38080 c38081 A38083,B39 b36439 (rd a1 x31176),B121 b36418 t36416 A36420 c36421 A36423 c36424,B94 b36397 t36395 A36399 A36402 A36405 c36406 A36408,QT QF (Value.int .i64) A36399 t36395.names,QT (Value.int .i64) (Value.int .i64) A36402 t36395.many,Row QL 99 (.slice A36405 t36395.txs.length c36406) t36395.txs,QT encS (fun v:Value=>v) A36408 vs36411]) ?_ ?_
        ·as_aux_lemma =>
          have H:=o38862h
          rcases Zf H with ⟨hb38860,H⟩ | ⟨hb38860,H⟩
          ·skip
           refine QZ (skF hb38860) rfl (QZ (skF hb38860) rfl (QZ (skF hb38860) rfl (QZ (skF hb38860) rfl (QZ (skF hb38860) rfl (QZ (skF hb38860) rfl (QZ (skF hb38860) rfl (QZ (skF hb38860) rfl (QZ (skF hb38860) rfl (QZ (skF hb38860) rfl (QZ (skF hb38860) rfl (QZ (skF hb38860) rfl (W_v (.bool true) (QV (k:=true) (congrArg Value.bool hb38860) rfl) rfl (QB ?_)))))))))))))
           exact ⟨true,Option.some.inj H,⟨rfl,rfl,rfl,rfl,rfl,rfl,rfl,rfl,rfl,trivial⟩,E,S.pick [0,1,2,3,4,5,6,7,8,9,10,11,12,13,14] (by decide)⟩
          ·skip
           refine QP (congrArg some hb38860) (W_v (pt b39 0) (QD rfl) rfl (QP (congrArg some hb38860) (W_v (pt b65 0) (QD rfl) rfl (QP (congrArg some hb38860) (W_v (pt b36439 1) (QC (o:=0) (off:=1) Tryd.underlying39 rfl ty37 rfl rfl) rfl (QP (congrArg some hb38860) (W_v (pt b36439 3) (QC (o:=1) (off:=2) Tryd.underlying37 rfl ty9 rfl rfl) rfl (QP (congrArg some hb38860) (W_v (vS ((rd a1 x31176).Call.Key)) (QO (S.blk 8 rfl) ty9 rfl rfl) rfl (QP (congrArg some hb38860) (W_v (pt b36439 0) (QC (o:=0) (off:=0) Tryd.underlying39 rfl ty3 rfl rfl) rfl (QP (congrArg some hb38860) (W_v (vI ((rd a1 x31176).Task)) (QO (S.blk 8 rfl) ty3 rfl rfl) rfl (QP (congrArg some hb38860) (W_v (pt b36439 1) (QC (o:=0) (off:=1) Tryd.underlying39 rfl ty37 rfl rfl) rfl ?_)))))))))))))))
           refine QP (congrArg some hb38860) (W_v (pt b36439 2) (QC (o:=1) (off:=1) Tryd.underlying37 rfl ty3 rfl rfl) rfl (QP (congrArg some hb38860) (W_v (vI ((rd a1 x31176).Call.Tx)) (QO (S.blk 8 rfl) ty3 rfl rfl) rfl (QP (congrArg some hb38860) ?_))))
           obtain ⟨t38863,ht38864,H⟩:=QW H
           replace S:St w38849 M38817 F [_,_,_,_,_,_,_,_,_,_,_,_,_,_,_]:=S.pick [7,5,4,3,2,6,0,1,8,9,10,11,12,13,14] (by decide)
           refine Z5 fn40 (ZK.con k M38817 A38074 c38075 A38077 c38078 A38080 c38081 A38083 c38084 vs38086 x38073 A38067 c38068 A38070 c38071 x38066 ((rd a1 x31176).Call.Key) ((rd a1 x31176).Task) ((rd a1 x31176).Call.Tx) b39 b65 t38863 hm38087 hs38069 hs38072 ht38864) (Γ1:=[_,_,_,_,_,_]) (Γ2:=[_,_,_,_,_,_,_,_,_]) S rfl rfl (by rintro _ _ _ ⟨rfl,rfl⟩;exact (QN ZW (QN Qu (QN Qu (QN (YI (fun _ _ _ _ h=>h)) (QN Qu (QN ZW Qd))))))) ?_
           rintro _ w38865 _ Γ' E' S ⟨rfl,rfl⟩
           replace E:=E.trans E'
           replace S:St w38865 M38817 F [_,_,_,_,_,_,_,_,_,_,_,_,_,_,_]:=S
           refine QP (congrArg some hb38860) (W_v (.bool (!t38863)) (Y5 (b:=t38863) rfl) rfl (W_v (.bool (!t38863)) (QV (k:=false) (congrArg Value.bool hb38860) rfl) rfl (QB ?_)))
           exact ⟨(!t38863),Option.some.inj H,⟨rfl,rfl,rfl,rfl,rfl,rfl,rfl,rfl,rfl,trivial⟩,E,S.pick [6,7,4,3,2,1,5,0,8,9,10,11,12,13,14] (by decide)⟩
        as_aux_lemma =>
        rintro ρ w38868 ⟨x38861,rfl,hρ,E,S⟩
        rw [QI hρ]
        have H:=o38862H
        refine W_v (.bool x38861) (QD rfl) rfl ?_
        obtain ⟨o38881,o38881h,o38881H⟩:=QW H
        refine ZH 13 (fun ρ w'=>∃ (x38880:Bool),(x38880)=o38881∧Qi ρ [(1,.slice A1 a1.length c1),(5,pt b39 0),(7,pt b65 0),(9,vI x31176),(13,pt b38048 0),(132,.bool x38880)]∧Ext w w'∧St w' M38817 F [Row Qm 87 (.slice A38056 x38055.length c38057) x38055,Blk b38048 (.cells #[vI x38052,.bool x38053,vS x38054,.slice A38056 x38055.length c38057] 43 (0,0)),QT encS (fun v:Value=>v) A38083 vs38086,Row QL 99 (.slice A38080 x38073.txs.length c38081) x38073.txs,QT (Value.int .i64) (Value.int .i64) A38077 x38073.many,QT QF (Value.int .i64) A38074 x38073.names,B121 b65 x38066 A38067 c38068 A38070 c38071,B94 b39 x38073 A38074 A38077 A38080 c38081 A38083]) ?_ ?_
        ·as_aux_lemma =>
          have H:=o38881h
          rcases Zf H with ⟨hb38879,H⟩ | ⟨hb38879,H⟩
          ·skip
           refine QZ (skF hb38879) rfl (QZ (skF hb38879) rfl (QZ (skF hb38879) rfl (QZ (skF hb38879) rfl (QZ (skF hb38879) rfl (QZ (skF hb38879) rfl (QZ (skF hb38879) rfl (QZ (skF hb38879) rfl (QZ (skF hb38879) rfl (QZ (skF hb38879) rfl (QZ (skF hb38879) rfl (QZ (skF hb38879) rfl (W_v (.bool true) (QV (k:=true) (congrArg Value.bool hb38879) rfl) rfl (QB ?_)))))))))))))
           exact ⟨true,Option.some.inj H,⟨rfl,rfl,rfl,rfl,rfl,rfl,trivial⟩,E,S.pick [0,1,2,3,4,5,6,7] (by decide)⟩
          ·skip
           refine QP (congrArg some hb38879) (W_v (pt b36397 0) (QD rfl) rfl (QP (congrArg some hb38879) (W_v (pt b36418 0) (QD rfl) rfl (QP (congrArg some hb38879) (W_v (pt b36439 1) (QC (o:=0) (off:=1) Tryd.underlying39 rfl ty37 rfl rfl) rfl (QP (congrArg some hb38879) (W_v (pt b36439 3) (QC (o:=1) (off:=2) Tryd.underlying37 rfl ty9 rfl rfl) rfl (QP (congrArg some hb38879) (W_v (vS ((rd a1 x31176).Call.Key)) (QO (S.blk 8 rfl) ty9 rfl rfl) rfl (QP (congrArg some hb38879) (W_v (pt b36439 0) (QC (o:=0) (off:=0) Tryd.underlying39 rfl ty3 rfl rfl) rfl (QP (congrArg some hb38879) (W_v (vI ((rd a1 x31176).Task)) (QO (S.blk 8 rfl) ty3 rfl rfl) rfl (QP (congrArg some hb38879) (W_v (pt b36439 1) (QC (o:=0) (off:=1) Tryd.underlying39 rfl ty37 rfl rfl) rfl ?_)))))))))))))))
           refine QP (congrArg some hb38879) (W_v (pt b36439 2) (QC (o:=1) (off:=1) Tryd.underlying37 rfl ty3 rfl rfl) rfl (QP (congrArg some hb38879) (W_v (vI ((rd a1 x31176).Call.Tx)) (QO (S.blk 8 rfl) ty3 rfl rfl) rfl (QP (congrArg some hb38879) ?_))))
           obtain ⟨t38882,ht38883,H⟩:=QW H
           replace S:St w38868 M38817 F [_,_,_,_,_,_,_,_,_,_,_,_,_,_,_]:=S.pick [10,11,12,13,14,9,0,1,2,3,4,5,6,7,8] (by decide)
           refine Z5 fn40 (ZK.con k M38817 A36399 c36400 A36402 c36403 A36405 c36406 A36408 c36409 vs36411 t36395 A36420 c36421 A36423 c36424 t36416 ((rd a1 x31176).Call.Key) ((rd a1 x31176).Task) ((rd a1 x31176).Call.Tx) b36397 b36418 t38882 hm36412 hs36422 hs36425 ht38883) (Γ1:=[_,_,_,_,_,_]) (Γ2:=[_,_,_,_,_,_,_,_,_]) S rfl rfl (by rintro _ _ _ ⟨rfl,rfl⟩;exact (QN ZW (QN Qu (QN Qu (QN (YI (fun _ _ _ _ h=>h)) (QN Qu (QN ZW Qd))))))) ?_
           rintro _ w38884 _ Γ' E' S ⟨rfl,rfl⟩
           replace E:=E.trans E'
           replace S:St w38884 M38817 F [_,_,_,_,_,_,_,_,_,_,_,_,_,_,_]:=S
           refine QP (congrArg some hb38879) (W_v (.bool (!t38882)) (Y5 (b:=t38882) rfl) rfl (W_v (.bool (!t38882)) (QV (k:=false) (congrArg Value.bool hb38879) rfl) rfl (QB ?_)))
           exact ⟨(!t38882),Option.some.inj H,⟨rfl,rfl,rfl,rfl,rfl,rfl,trivial⟩,E,S.pick [6,7,8,9,10,11,12,13] (by decide)⟩
        as_aux_lemma =>
        rintro ρ w38887 ⟨x38880,rfl,hρ,E,S⟩
        rw [QI hρ]
        have H:=o38881H
        refine QB (tn ?_)
        rcases Zf H with ⟨hb38888,H⟩ | ⟨hb38888,H⟩
        ·refine QQ (congrArg Value.bool hb38888) ?_
         refine QE (QA (W_v (.bool false) (QG rfl) rfl (QB (tn ?_))))
         refine Qs ?_
         refine tr (br (tr (tr (br (tr (tr (?_)))))))
         obtain rfl:=Option.some.inj H
         have H:=o36354H
         replace H:=elimL H
         obtain rfl:=Option.some.inj H
         exact ⟨_,_,_,fun w1 e1=>QX (vs:=[.bool false]) (FA.cons (rfl) (FA.nil)),HM,E,S.pick [] (by decide),⟨rfl,rfl⟩⟩
        refine QK (congrArg Value.bool hb38888) (Qr (tn (QE (QA (W_v (vI 0) (QG rfl) rfl (QB (tn ?_)))))))
        obtain ⟨o38952,o38952h,o38952H⟩:=QW H
        refine Yj (fun ρ w'=>()=o38952∧Qi ρ [(1,.slice A1 a1.length c1),(5,pt b39 0),(7,pt b65 0),(9,vI x31176)]∧Ext w w'∧St w' M38817 F [QT encS (fun v:Value=>v) A38083 vs38086,Row QL 99 (.slice A38080 x38073.txs.length c38081) x38073.txs,QT (Value.int .i64) (Value.int .i64) A38077 x38073.many,QT QF (Value.int .i64) A38074 x38073.names,B121 b65 x38066 A38067 c38068 A38070 c38071,B94 b39 x38073 A38074 A38077 A38080 c38081 A38083]) ?_ ?_
        ·skip
         refine Y3 (fun n ρ w'=>∃ (x38931:Int) (x38932:List Qf) (A38933:Option Addr) (c38934:Nat),ZZ n x38931 x38932=some o38952∧Qi ρ [(1,.slice A1 a1.length c1),(5,pt b39 0),(7,pt b65 0),(9,vI x31176),(13,pt b38048 0),(15,vI x38931)]∧Ext w w'∧St w' M38817 F [Row Qm 87 (.slice A38933 x38932.length c38934) x38932,Blk b38048 (.cells #[vI x38052,.bool x38053,vS x38054,.slice A38933 x38932.length c38934] 43 (0,0)),QT encS (fun v:Value=>v) A38083 vs38086,Row QL 99 (.slice A38080 x38073.txs.length c38081) x38073.txs,QT (Value.int .i64) (Value.int .i64) A38077 x38073.many,QT QF (Value.int .i64) A38074 x38073.names,B121 b65 x38066 A38067 c38068 A38070 c38071,B94 b39 x38073 A38074 A38077 A38080 c38081 A38083]) k ?_ ?_
         ·skip
          exact ⟨(0:Int),x38055,A38056,c38057,o38952h,⟨rfl,rfl,rfl,rfl,rfl,rfl,trivial⟩,E,S.pick [0,1,2,3,4,5,6,7] (by decide)⟩
         ·intro n
          rintro ρ w38953 ⟨x38931,x38932,A38933,c38934,H,hρ,E,S⟩
          rw [QI hρ]
          cases n with
          | zero=>cases H
          | succ k =>
           rw [ZZ.eq_2] at H
           refine QE (QE (QA (W_v (vI x38931) (QD rfl) rfl (W_v (pt b38048 3) (QC (o:=0) (off:=3) Tryd.underlying43 rfl ty41 rfl rfl) rfl (W_v (.slice A38933 x38932.length c38934) (QO (S.blk 1 rfl) ty41 rfl rfl) rfl (W_v (vI (x38932.length:Int)) (Q8 (n:=x38932.length) Tryd.underlying41 rfl) rfl (W_v (.bool (decide (x38931 < (x38932.length:Int)))) (Qa rfl rfl rfl rfl) rfl (QB (tn ?_)))))))))
           rcases Zf H with ⟨hb38954,H⟩ | ⟨hb38954,H⟩
           ·refine QQ (congrArg Value.bool hb38954) ?_
            refine Qr (tn (QE ?_))
            refine YP ?_
            refine QA (W_v (pt b38048 3) (QC (o:=0) (off:=3) Tryd.underlying43 rfl ty41 rfl rfl) rfl (W_v (.slice A38933 x38932.length c38934) (QO (S.blk 1 rfl) ty41 rfl rfl) rfl (W_v (vI x38931) (QD rfl) rfl ?_)))
            obtain ⟨⟨p38955,p38956⟩,H⟩:=Yy H
            obtain ⟨b38957,o38958,cs38959,_,_,ee38964,hb38960,vs38961,hR38962,hc38963⟩:=SlW.at' (S.row_read 0 rfl) p38955 p38956
            obtain rfl:vs38961=_:=hR38962
            refine W_v (.pointer (some ⟨b38957,o38958+x38931.toNat*2,none⟩)) (Qy Tryd.underlying41 ty87 (slA ee38964) rfl p38955 p38956) rfl (W_v (.pointer (some ⟨b38957,o38958+x38931.toNat*2+1,none⟩)) (QC (o:=o38958+x38931.toNat*2) (off:=1) Tryd.underlying87 rfl ty9 rfl rfl) rfl ?_)
            obtain ⟨x38966,he38967,H⟩:=QW H
            replace he38967:=Option.some.inj he38967
            refine X6 S 0 rfl rfl ee38964 (by first | exact p38955 | simpa using p38955) (by first | exact p38956 | simpa using p38956) 1 ty9 rfl rfl [vS cz17] rfl rfl rfl rfl (⟨(rd x38932 x38931).Key,cz17⟩:Qf) (by rintro _ rfl;rfl) he38967 ?_
            intro w38965 E' S
            replace E:=E.trans E'
            have hs38968:Value.slice A38933 x38932.length c38934=Value.slice A38933 x38966.length c38934:=by rw [← he38967,List.length_set]
            try unfold B94 at S
            try unfold B121 at S
            try rw [hs38968] at S
            try rw [hs38968]
            have p38969:x38931 < (x38966.length:Int):=by rw [← he38967,List.length_set];exact p38956
            refine QB (bn (tn (QA (W_v (vI x38931) (QD rfl) rfl (W_v (vI (IntKind.i64.wrap (x38931+(1:Int)))) (Qa rfl rfl rfl rfl) rfl (W_v (vI (IntKind.i64.wrap (x38931+(1:Int)))) (QG rfl) rfl (QB (tn ?_))))))))
            exact ⟨k,Nat.lt_succ_self k,⟨(IntKind.i64.wrap (x38931+(1:Int))),x38966,A38933,c38934,H,⟨rfl,rfl,rfl,rfl,rfl,rfl,trivial⟩,E,S.pick [0,1,2,3,4,5,6,7] (by decide)⟩⟩
           refine QK (congrArg Value.bool hb38954) ?_
           refine Y0 ?_
           refine tx (tx (bsm (?_)))
           refine tn ?_
           exact ⟨Option.some.inj H,⟨rfl,rfl,rfl,rfl,trivial⟩,E,S.pick [2,3,4,5,6,7] (by decide)⟩
        rintro ρ w38970 ⟨rfl,hρ,E,S⟩
        rw [QI hρ]
        have H:=o38952H
        refine bn (tn (QA (W_v (vI x31176) (QD rfl) rfl (W_v (vI (IntKind.i64.wrap (x31176+(1:Int)))) (Qa rfl rfl rfl rfl) rfl (W_v (vI (IntKind.i64.wrap (x31176+(1:Int)))) (QG rfl) rfl (QB (tn ?_)))))))
        exact ⟨k,Nat.lt_succ_self k,⟨(IntKind.i64.wrap (x31176+(1:Int))),x38066,x38073,A38067,c38068,A38070,c38071,A38074,c38075,A38077,c38078,A38080,c38081,A38083,c38084,vs38086,M38817,H,⟨rfl,rfl,rfl,rfl,trivial⟩,hM36357,E,S.pick [0,1,2,3,4,5] (by decide),hs38069,hs38072,hm38087⟩⟩
       refine QK (congrArg Value.bool hb36394) (Qr (tn ?_))
       as_aux_lemma =>
       refine QE (QA (W_v (.slice A1 a1.length c1) (QD rfl) rfl (W_v (vI x31176) (QD rfl) rfl ?_)))
       obtain ⟨⟨p38971,p38972⟩,H⟩:=Yy H
       obtain ⟨b38973,o38974,cs38975,_,_,ee38980,hb38976,vs38977,hR38978,hc38979⟩:=SlW.at' hr1 p38971 p38972
       obtain rfl:vs38977=_:=hR38978
       refine W_v (.pointer (some ⟨b38973,o38974+x31176.toNat*8,none⟩)) (Qy Tryd.underlying24 ty39 (slA ee38980) rfl p38971 p38972) rfl (W_v (.agg #[vI ((rd a1 x31176).Task),vU ((rd a1 x31176).Call.Kind),vI ((rd a1 x31176).Call.Tx),vS ((rd a1 x31176).Call.Key),vS ((rd a1 x31176).Call.End),vS ((rd a1 x31176).Call.Value),vI ((rd a1 x31176).Call.Limit),vU ((rd a1 x31176).Call.Engine)]) (ZA (S.frz hb38976) ty39 rfl (Xa hc38979 0 rfl) rfl rfl) rfl ?_)
       refine Zo S #[vI 0,vU 0,vI 0,vS ([]:Str),vS ([]:Str),vS ([]:Str),vI 0,vU 0] ty39 rfl rfl ?_
       intro b38981 w38982 E' S
       replace E:=E.trans E'
       refine Qx S 0 rfl ty39 rfl rfl [vI ((rd a1 x31176).Task),vU ((rd a1 x31176).Call.Kind),vI ((rd a1 x31176).Call.Tx),vS ((rd a1 x31176).Call.Key),vS ((rd a1 x31176).Call.End),vS ((rd a1 x31176).Call.Value),vI ((rd a1 x31176).Call.Limit),vU ((rd a1 x31176).Call.Engine)] rfl rfl rfl #[vI ((rd a1 x31176).Task),vU ((rd a1 x31176).Call.Kind),vI ((rd a1 x31176).Call.Tx),vS ((rd a1 x31176).Call.Key),vS ((rd a1 x31176).Call.End),vS ((rd a1 x31176).Call.Value),vI ((rd a1 x31176).Call.Limit),vU ((rd a1 x31176).Call.Engine)] (by as_aux_lemma=>kernel_rfl) rfl ?_
       intro w38984 E' S
       replace E:=E.trans E'
       refine QB (tn (QE (QE ?_)))
       refine Q0 (S:=fun w'=>∃ Mx,M36356.le Mx∧St w' Mx F [B39 b38981 (rd a1 x31176),QT encS (fun v:Value=>v) A31194 vs31197,Row QL 99 (.slice A31191 x31184.txs.length c31192) x31184.txs,QT (Value.int .i64) (Value.int .i64) A31188 x31184.many,QT QF (Value.int .i64) A31185 x31184.names,B121 b65 x31177 A31178 c31179 A31181 c31182,B94 b39 x31184 A31185 A31188 A31191 c31192 A31194]) (L:=13) mixed ?_
       intro w38995 hw38996 E'
       replace S:=S.heap hw38996
       replace E:=E.trans E'
       have D4:∃ Mx,Hp.le M36356 Mx∧St _ Mx F [_,_,_,_,_,_,_]:=⟨_,Hp.le_refl _,S.pick [0,1,2,3,4,5,6] (by decide)⟩
       refine Wt 0 rfl rfl rfl (pt b39 0) rfl (fun w' h'=>QD rfl) D4 (Wt 1 rfl rfl rfl (pt b38981 0) rfl (fun w' h'=>QC (o:=0) (off:=0) Tryd.underlying39 rfl ty3 rfl rfl) D4 (Wt 2 rfl rfl rfl (vI ((rd a1 x31176).Task)) rfl (fun w' h'=>QO (Qp h' 0 rfl) ty3 rfl rfl) D4 (Wt 3 rfl rfl rfl (pt b38981 1) rfl (fun w' h'=>QC (o:=0) (off:=1) Tryd.underlying39 rfl ty37 rfl rfl) D4 (Wt 4 rfl rfl rfl (.agg #[vU ((rd a1 x31176).Call.Kind),vI ((rd a1 x31176).Call.Tx),vS ((rd a1 x31176).Call.Key),vS ((rd a1 x31176).Call.End),vS ((rd a1 x31176).Call.Value),vI ((rd a1 x31176).Call.Limit),vU ((rd a1 x31176).Call.Engine)]) rfl (fun w' h'=>ZA (Qp h' 0 rfl) ty37 rfl (QM rfl) rfl rfl) D4 (Wt 6 rfl rfl rfl (pt b65 0) rfl (fun w' h'=>QD rfl) D4 (Wt 7 rfl rfl rfl (pt b38981 0) rfl (fun w' h'=>QC (o:=0) (off:=0) Tryd.underlying39 rfl ty3 rfl rfl) D4 (Wt 8 rfl rfl rfl (vI ((rd a1 x31176).Task)) rfl (fun w' h'=>QO (Qp h' 0 rfl) ty3 rfl rfl) D4 (Wt 9 rfl rfl rfl (pt b38981 1) rfl (fun w' h'=>QC (o:=0) (off:=1) Tryd.underlying39 rfl ty37 rfl rfl) D4 (Wt 10 rfl rfl rfl (.agg #[vU ((rd a1 x31176).Call.Kind),vI ((rd a1 x31176).Call.Tx),vS ((rd a1 x31176).Call.Key),vS ((rd a1 x31176).Call.End),vS ((rd a1 x31176).Call.Value),vI ((rd a1 x31176).Call.Limit),vU ((rd a1 x31176).Call.Engine)]) rfl (fun w' h'=>ZA (Qp h' 0 rfl) ty37 rfl (QM rfl) rfl rfl) D4 ?_)))))))))
       refine Wo 5 rfl ?_
       obtain ⟨t38997,ht38998,H⟩:=QW H
       replace S:St w38995 M36356 F [_,_,_,_,_,_,_]:=S.pick [6,4,3,2,1,0,5] (by decide)
       refine Z5 fn25 (Za.con k M36356 A31185 c31186 A31188 c31189 A31191 c31192 A31194 c31195 vs31197 x31184 ((rd a1 x31176).Task) ((rd a1 x31176).Call) b39 t38997 hm31198 ht38998) (Γ1:=[_,_,_,_,_]) (Γ2:=[_,_]) S rfl rfl (by rintro _ _ _ ⟨rfl,rfl⟩;exact (QN ZW (QN Qu (QN Qu (QN (YI (fun _ _ _ _ h=>h)) (QN Qu Qd)))))) ?_
       rintro _ w38999 _ Γ' E' S ⟨rfl,rfl⟩
       replace E:=E.trans E'
       replace S:St w38999 M36356 F [_,_,_,_,_,_,_]:=S
       refine QB (YU ⟨.inr ⟨M36356,Hp.le_refl M36356,(S.pick [5,4,3,2,1,6,0] (by decide))⟩,?_⟩)
       refine Wo 11 rfl ?_
       obtain ⟨t39002,ht39003,H⟩:=QW H
       replace S:St w38999 M36356 F [_,_,_,_,_,_,_]:=S.pick [6,0,1,2,3,4,5] (by decide)
       refine Z5 fn37 (Q6.con k M36356 A31178 c31179 A31181 c31182 x31177 ((rd a1 x31176).Task) ((rd a1 x31176).Call) b65 t39002 hs31180 hs31183 ht39003) (Γ1:=[_]) (Γ2:=[_,_,_,_,_,_]) S rfl rfl (by rintro _ _ _ ⟨rfl,rfl⟩;exact (QN ZW Qd)) ?_
       rintro _ w39004 _ Γ' E' S ⟨rfl,rfl⟩
       replace E:=E.trans E'
       replace S:St w39004 M36356 F [_,_,_,_,_,_,_]:=S
       refine QB (YU ⟨.inr ⟨M36356,Hp.le_refl M36356,(S.pick [6,5,4,3,2,0,1] (by decide))⟩,?_⟩)
       refine Wt 12 rfl rfl rfl (.bool (t38997 != t39002)) rfl (fun w' h'=>Qa rfl rfl rfl rfl) (⟨M36356,Hp.le_refl M36356,(S.pick [6,5,4,3,2,0,1] (by decide))⟩) ?_
       refine Wz ?_
       refine tn ?_
       rcases Zf H with ⟨hb39007,H⟩ | ⟨hb39007,H⟩
       ·refine QQ (congrArg Value.bool hb39007) ?_
        refine QE (QA (W_v (.bool false) (QG rfl) rfl (QB (tn ?_))))
        refine Qs ?_
        refine tr (br (tr (tr (br (tr (tr (?_)))))))
        obtain rfl:=Option.some.inj H
        have H:=o36354H
        replace H:=elimL H
        obtain rfl:=Option.some.inj H
        exact ⟨_,_,_,fun w1 e1=>QX (vs:=[.bool false]) (FA.cons (rfl) (FA.nil)),HM,E,S.pick [] (by decide),⟨rfl,rfl⟩⟩
       refine QK (congrArg Value.bool hb39007) (Qr (tn ?_))
       as_aux_lemma =>
       refine QE ?_
       have LE40184:=Hp.le_refl M36356
       refine Q0 (S:=fun w'=>∃ Mx,M36356.le Mx∧St w' Mx F [B39 b38981 (rd a1 x31176)]) (L:=14) mixed ?_
       intro w40185 hw40186 E'
       replace S:=S.heap hw40186
       replace E:=E.trans E'
       have D6:∃ Mx,Hp.le M36356 Mx∧St _ Mx F [_]:=⟨_,Hp.le_refl _,S.pick [6] (by decide)⟩
       refine Wt 0 rfl rfl rfl (pt b39 0) rfl (fun w' h'=>QD rfl) D6 (Wt 1 rfl rfl rfl (pt b38981 0) rfl (fun w' h'=>QC (o:=0) (off:=0) Tryd.underlying39 rfl ty3 rfl rfl) D6 (Wt 2 rfl rfl rfl (vI ((rd a1 x31176).Task)) rfl (fun w' h'=>QO (Qp h' 0 rfl) ty3 rfl rfl) D6 (Wt 3 rfl rfl rfl (pt b38981 1) rfl (fun w' h'=>QC (o:=0) (off:=1) Tryd.underlying39 rfl ty37 rfl rfl) D6 (Wt 4 rfl rfl rfl (.agg #[vU ((rd a1 x31176).Call.Kind),vI ((rd a1 x31176).Call.Tx),vS ((rd a1 x31176).Call.Key),vS ((rd a1 x31176).Call.End),vS ((rd a1 x31176).Call.Value),vI ((rd a1 x31176).Call.Limit),vU ((rd a1 x31176).Call.Engine)]) rfl (fun w' h'=>ZA (Qp h' 0 rfl) ty37 rfl (QM rfl) rfl rfl) D6 (Wt 6 rfl rfl rfl (pt b65 0) rfl (fun w' h'=>QD rfl) D6 (Wt 7 rfl rfl rfl (pt b38981 0) rfl (fun w' h'=>QC (o:=0) (off:=0) Tryd.underlying39 rfl ty3 rfl rfl) D6 (Wt 8 rfl rfl rfl (vI ((rd a1 x31176).Task)) rfl (fun w' h'=>QO (Qp h' 0 rfl) ty3 rfl rfl) D6 (Wt 9 rfl rfl rfl (pt b38981 1) rfl (fun w' h'=>QC (o:=0) (off:=1) Tryd.underlying39 rfl ty37 rfl rfl) D6 (Wt 10 rfl rfl rfl (.agg #[vU ((rd a1 x31176).Call.Kind),vI ((rd a1 x31176).Call.Tx),vS ((rd a1 x31176).Call.Key),vS ((rd a1 x31176).Call.End),vS ((rd a1 x31176).Call.Value),vI ((rd a1 x31176).Call.Limit),vU ((rd a1 x31176).Call.Engine)]) rfl (fun w' h'=>ZA (Qp h' 0 rfl) ty37 rfl (QM rfl) rfl rfl) D6 ?_)))))))))
       obtain ⟨o41125,o41125h,o41125H⟩:=QW H
       refine YD (fun ρ w'=>∃ (x40594:Int) (x40595:Bool) (x40596:Str) (x40597:List Qf) (x40601:Int) (x40602:Bool) (x40603:Str) (x40604:List Qf) (x40608:QH) (x40615:QJ) (A40598:Option Addr) (c40599:Nat) (A40605:Option Addr) (c40606:Nat) (A40609:Option Addr) (c40610:Nat) (A40612:Option Addr) (c40613:Nat) (A40616:Option Addr) (c40617:Nat) (A40619:Option Addr) (c40620:Nat) (A40622:Option Addr) (c40623:Nat) (A40625:Option Addr) (c40626:Nat) (vs40628:List (Str×Value)) (b40590:Nat) (b40592:Nat) (Mj:Hp),(x40594,x40595,x40596,x40597,x40601,x40602,x40603,x40604,x40608,x40615)=o41125∧Qi ρ [(1,.slice A1 a1.length c1),(5,pt b39 0),(7,pt b65 0),(9,vI x31176),(10,pt b39 0),(11,pt b65 0),(12,pt b38981 0),(13,pt b40590 0),(14,pt b40592 0),(83,.agg #[vI x40594,.bool x40595,vS x40596,.slice A40598 x40597.length c40599]),(89,.agg #[vI x40601,.bool x40602,vS x40603,.slice A40605 x40604.length c40606])]∧M36356.le Mj∧Ext w w'∧St w' Mj F [Blk b40592 (.cells cz14 43 (0,0)),Blk b40590 (.cells cz14 43 (0,0)),QT encS (fun v:Value=>v) A40625 vs40628,Row QL 99 (.slice A40622 x40615.txs.length c40623) x40615.txs,QT (Value.int .i64) (Value.int .i64) A40619 x40615.many,QT QF (Value.int .i64) A40616 x40615.names,Row Qm 87 (.slice A40605 x40604.length c40606) x40604,Row Qm 87 (.slice A40598 x40597.length c40599) x40597,B121 b65 x40608 A40609 c40610 A40612 c40613,B94 b39 x40615 A40616 A40619 A40622 c40623 A40625,B39 b38981 (rd a1 x31176)]∧SlR QY Mj (.slice A40609 x40608.T.length c40610) x40608.T∧SlR QU Mj (.slice A40612 x40608.L.length c40613) x40608.L∧YV Qk Mj x40615.rows vs40628) 2 (Ls 16 [0,1,2,3,4,5,6,7,8,9,10,11,12,13]) ?_ ?_
       rotate_left
       ·intro hq41137
        refine YD (fun ρ w'=>∃ (x40553:Int) (x40554:Bool) (x40555:Str) (x40556:List Qf) (x40560:QJ) (A40557:Option Addr) (c40558:Nat) (A40561:Option Addr) (c40562:Nat) (A40564:Option Addr) (c40565:Nat) (A40567:Option Addr) (c40568:Nat) (A40570:Option Addr) (c40571:Nat) (vs40573:List (Str×Value)) (b40549:Nat) (b40551:Nat) (Mj:Hp),(Option.bind (Qe k x31177 ((rd a1 x31176).Task) ((rd a1 x31176).Call)) (fun t41111=>some (x40553,x40554,x40555,x40556,t41111.1.Err,t41111.1.Found,t41111.1.Value,t41111.1.Pairs,t41111.2,x40560)))=some o41125∧Qi ρ [(1,.slice A1 a1.length c1),(5,pt b39 0),(7,pt b65 0),(9,vI x31176),(10,pt b39 0),(11,pt b65 0),(12,pt b38981 0),(13,pt b40549 0),(14,pt b40551 0),(83,.agg #[vI x40553,.bool x40554,vS x40555,.slice A40557 x40556.length c40558]),(84,pt b65 0),(86,vI ((rd a1 x31176).Task)),(88,.agg #[vU ((rd a1 x31176).Call.Kind),vI ((rd a1 x31176).Call.Tx),vS ((rd a1 x31176).Call.Key),vS ((rd a1 x31176).Call.End),vS ((rd a1 x31176).Call.Value),vI ((rd a1 x31176).Call.Limit),vU ((rd a1 x31176).Call.Engine)])]∧M36356.le Mj∧Ext w w'∧St w' Mj F [Blk b40551 (.cells cz14 43 (0,0)),Blk b40549 (.cells cz14 43 (0,0)),QT encS (fun v:Value=>v) A40570 vs40573,Row QL 99 (.slice A40567 x40560.txs.length c40568) x40560.txs,QT (Value.int .i64) (Value.int .i64) A40564 x40560.many,QT QF (Value.int .i64) A40561 x40560.names,Row Qm 87 (.slice A40557 x40556.length c40558) x40556,B94 b39 x40560 A40561 A40564 A40567 c40568 A40570,B121 b65 x31177 A31178 c31179 A31181 c31182,B39 b38981 (rd a1 x31176)]∧YV Qk Mj x40560.rows vs40573) 3 (Ls 16 [0,1,2,3,4,5,6,7,8,9,10,12,13]) ?_ ?_
        ·clear o41125h
         rintro ρ w41138 ⟨x40553,x40554,x40555,x40556,x40560,A40557,c40558,A40561,c40562,A40564,c40565,A40567,c40568,A40570,c40571,vs40573,b40549,b40551,M41139,H,hρ,hM41140,E,S,hm40574⟩
         rw [QI hρ]
         replace HM:=Hp.le_trans HM hM41140
         replace hs31180:=SlR.mono hs31180 hM41140
         replace hs31183:=SlR.mono hs31183 hM41140
         refine Wo 11 rfl ?_
         obtain ⟨t41142,ht41143,H⟩:=QW H
         replace S:St w41138 M41139 F [_,_,_,_,_,_,_,_,_,_]:=S.pick [8,0,1,2,3,4,5,6,7,9] (by decide)
         refine Yc fn38 (Qe.con k M41139 A31178 c31179 A31181 c31182 x31177 ((rd a1 x31176).Task) ((rd a1 x31176).Call) b65 t41142 hs31180 hs31183 ht41143) (Γ1:=[_]) (Γ2:=[_,_,_,_,_,_,_,_,_]) S rfl rfl ?_
         rintro _ w41153 M41154 Γ' hM41155 E' S ⟨A41144,c41145,A41147,c41148,A41150,c41151,rfl,hs41149,hs41152,rfl⟩
         replace HM:=Hp.le_trans HM hM41155
         replace hM41140:=Hp.le_trans hM41140 hM41155
         replace hm40574:=YV.mono hm40574 hM41155
         replace E:=E.trans E'
         replace S:St w41153 M41154 F [_,_,_,_,_,_,_,_,_,_,_]:=S
         refine QB (YU ⟨.inr ⟨M41154,hM41140,(S.pick [10] (by decide))⟩,?_⟩)
         exact hq41137 _ _ ⟨x40553,x40554,x40555,x40556,t41142.1.Err,t41142.1.Found,t41142.1.Value,t41142.1.Pairs,t41142.2,x40560,A40557,c40558,A41144,c41145,A41147,c41148,A41150,c41151,A40561,c40562,A40564,c40565,A40567,c40568,A40570,c40571,vs40573,b40549,b40551,M41154,Option.some.inj H,⟨rfl,rfl,rfl,rfl,rfl,rfl,rfl,rfl,rfl,rfl,rfl,trivial⟩,hM41140,E,S.pick [2,3,4,5,6,7,0,8,1,9,10] (by decide),hs41149,hs41152,hm40574⟩
        intro hq41136
        refine YD (fun ρ w'=>∃ (x40509:Int) (x40510:Bool) (x40511:Str) (x40512:List Qf) (x40516:Int) (x40517:Bool) (x40518:Str) (x40519:List Qf) (x40523:QH) (x40530:QJ) (A40513:Option Addr) (c40514:Nat) (A40520:Option Addr) (c40521:Nat) (A40524:Option Addr) (c40525:Nat) (A40527:Option Addr) (c40528:Nat) (A40531:Option Addr) (c40532:Nat) (A40534:Option Addr) (c40535:Nat) (A40537:Option Addr) (c40538:Nat) (A40540:Option Addr) (c40541:Nat) (vs40543:List (Str×Value)) (b40507:Nat) (Mj:Hp),some (x40509,x40510,x40511,x40512,x40516,x40517,x40518,x40519,x40523,x40530)=some o41125∧Qi ρ [(1,.slice A1 a1.length c1),(5,pt b39 0),(7,pt b65 0),(9,vI x31176),(10,pt b39 0),(11,pt b65 0),(12,pt b38981 0),(14,pt b40507 0),(83,.agg #[vI x40509,.bool x40510,vS x40511,.slice A40513 x40512.length c40514]),(89,.agg #[vI x40516,.bool x40517,vS x40518,.slice A40520 x40519.length c40521])]∧M36356.le Mj∧Ext w w'∧St w' Mj F [Blk b40507 (.cells cz14 43 (0,0)),QT encS (fun v:Value=>v) A40540 vs40543,Row QL 99 (.slice A40537 x40530.txs.length c40538) x40530.txs,QT (Value.int .i64) (Value.int .i64) A40534 x40530.many,QT QF (Value.int .i64) A40531 x40530.names,Row Qm 87 (.slice A40520 x40519.length c40521) x40519,Row Qm 87 (.slice A40513 x40512.length c40514) x40512,B121 b65 x40523 A40524 c40525 A40527 c40528,B94 b39 x40530 A40531 A40534 A40537 c40538 A40540,B39 b38981 (rd a1 x31176)]∧SlR QY Mj (.slice A40524 x40523.T.length c40525) x40523.T∧SlR QU Mj (.slice A40527 x40523.L.length c40528) x40523.L∧YV Qk Mj x40530.rows vs40543) 3 (Ls 16 [0,1,2,3,4,5,6,7,8,9,10,11,13]) ?_ ?_
        ·clear o41125h
         rintro ρ w41156 ⟨x40509,x40510,x40511,x40512,x40516,x40517,x40518,x40519,x40523,x40530,A40513,c40514,A40520,c40521,A40524,c40525,A40527,c40528,A40531,c40532,A40534,c40535,A40537,c40538,A40540,c40541,vs40543,b40507,M41157,H,hρ,hM41158,E,S,hs40526,hs40529,hm40544⟩
         rw [QI hρ]
         replace HM:=Hp.le_trans HM hM41158
         refine Wo 12 rfl ?_
         refine Zo S cz14 ty43 rfl rfl ?_
         intro b41160 w41161 E' S
         replace E:=E.trans E'
         refine QB (YU ⟨.inr ⟨M41157,hM41158,(S.pick [10] (by decide))⟩,?_⟩)
         exact hq41137 _ _ ⟨x40509,x40510,x40511,x40512,x40516,x40517,x40518,x40519,x40523,x40530,A40513,c40514,A40520,c40521,A40524,c40525,A40527,c40528,A40531,c40532,A40534,c40535,A40537,c40538,A40540,c40541,vs40543,b41160,b40507,M41157,Option.some.inj H,⟨rfl,rfl,rfl,rfl,rfl,rfl,rfl,rfl,rfl,rfl,rfl,trivial⟩,hM41158,E,S.pick [1,0,2,3,4,5,6,7,8,9,10] (by decide),hs40526,hs40529,hm40544⟩
        intro hq41135
        refine YD (fun ρ w'=>∃ (x40467:Int) (x40468:Bool) (x40469:Str) (x40470:List Qf) (x40474:Int) (x40475:Bool) (x40476:Str) (x40477:List Qf) (x40481:QH) (x40488:QJ) (A40471:Option Addr) (c40472:Nat) (A40478:Option Addr) (c40479:Nat) (A40482:Option Addr) (c40483:Nat) (A40485:Option Addr) (c40486:Nat) (A40489:Option Addr) (c40490:Nat) (A40492:Option Addr) (c40493:Nat) (A40495:Option Addr) (c40496:Nat) (A40498:Option Addr) (c40499:Nat) (vs40501:List (Str×Value)) (b40465:Nat) (Mj:Hp),some (x40467,x40468,x40469,x40470,x40474,x40475,x40476,x40477,x40481,x40488)=some o41125∧Qi ρ [(1,.slice A1 a1.length c1),(5,pt b39 0),(7,pt b65 0),(9,vI x31176),(10,pt b39 0),(11,pt b65 0),(12,pt b38981 0),(13,pt b40465 0),(83,.agg #[vI x40467,.bool x40468,vS x40469,.slice A40471 x40470.length c40472]),(89,.agg #[vI x40474,.bool x40475,vS x40476,.slice A40478 x40477.length c40479])]∧M36356.le Mj∧Ext w w'∧St w' Mj F [Blk b40465 (.cells cz14 43 (0,0)),QT encS (fun v:Value=>v) A40498 vs40501,Row QL 99 (.slice A40495 x40488.txs.length c40496) x40488.txs,QT (Value.int .i64) (Value.int .i64) A40492 x40488.many,QT QF (Value.int .i64) A40489 x40488.names,Row Qm 87 (.slice A40478 x40477.length c40479) x40477,Row Qm 87 (.slice A40471 x40470.length c40472) x40470,B121 b65 x40481 A40482 c40483 A40485 c40486,B94 b39 x40488 A40489 A40492 A40495 c40496 A40498,B39 b38981 (rd a1 x31176)]∧SlR QY Mj (.slice A40482 x40481.T.length c40483) x40481.T∧SlR QU Mj (.slice A40485 x40481.L.length c40486) x40481.L∧YV Qk Mj x40488.rows vs40501) 3 (Ls 16 [0,1,2,3,4,5,6,7,8,9,10,11,12]) ?_ ?_
        ·clear o41125h
         rintro ρ w41163 ⟨x40467,x40468,x40469,x40470,x40474,x40475,x40476,x40477,x40481,x40488,A40471,c40472,A40478,c40479,A40482,c40483,A40485,c40486,A40489,c40490,A40492,c40493,A40495,c40496,A40498,c40499,vs40501,b40465,M41164,H,hρ,hM41165,E,S,hs40484,hs40487,hm40502⟩
         rw [QI hρ]
         replace HM:=Hp.le_trans HM hM41165
         refine Wo 13 rfl ?_
         refine Zo S cz14 ty43 rfl rfl ?_
         intro b41167 w41168 E' S
         replace E:=E.trans E'
         refine QB (YU ⟨.inr ⟨M41164,hM41165,(S.pick [10] (by decide))⟩,?_⟩)
         exact hq41137 _ _ ⟨x40467,x40468,x40469,x40470,x40474,x40475,x40476,x40477,x40481,x40488,A40471,c40472,A40478,c40479,A40482,c40483,A40485,c40486,A40489,c40490,A40492,c40493,A40495,c40496,A40498,c40499,vs40501,b40465,b41167,M41164,Option.some.inj H,⟨rfl,rfl,rfl,rfl,rfl,rfl,rfl,rfl,rfl,rfl,rfl,trivial⟩,hM41165,E,S.pick [0,1,2,3,4,5,6,7,8,9,10] (by decide),hs40484,hs40487,hm40502⟩
        intro hq41134
        refine YD (fun ρ w'=>∃ (b40439:Nat) (b40441:Nat) (Mj:Hp),(Option.bind (Q5 k x31184 ((rd a1 x31176).Task) ((rd a1 x31176).Call)) (fun t41066=>(Option.bind (Qe k x31177 ((rd a1 x31176).Task) ((rd a1 x31176).Call)) (fun t41088=>some (t41066.1.Err,t41066.1.Found,t41066.1.Value,t41066.1.Pairs,t41088.1.Err,t41088.1.Found,t41088.1.Value,t41088.1.Pairs,t41088.2,t41066.2)))))=some o41125∧Qi ρ [(1,.slice A1 a1.length c1),(5,pt b39 0),(7,pt b65 0),(9,vI x31176),(10,pt b39 0),(11,pt b65 0),(12,pt b38981 0),(13,pt b40439 0),(14,pt b40441 0),(78,pt b39 0),(80,vI ((rd a1 x31176).Task)),(82,.agg #[vU ((rd a1 x31176).Call.Kind),vI ((rd a1 x31176).Call.Tx),vS ((rd a1 x31176).Call.Key),vS ((rd a1 x31176).Call.End),vS ((rd a1 x31176).Call.Value),vI ((rd a1 x31176).Call.Limit),vU ((rd a1 x31176).Call.Engine)]),(84,pt b65 0),(86,vI ((rd a1 x31176).Task)),(88,.agg #[vU ((rd a1 x31176).Call.Kind),vI ((rd a1 x31176).Call.Tx),vS ((rd a1 x31176).Call.Key),vS ((rd a1 x31176).Call.End),vS ((rd a1 x31176).Call.Value),vI ((rd a1 x31176).Call.Limit),vU ((rd a1 x31176).Call.Engine)])]∧M36356.le Mj∧Ext w w'∧St w' Mj F [Blk b40441 (.cells cz14 43 (0,0)),Blk b40439 (.cells cz14 43 (0,0)),B121 b65 x31177 A31178 c31179 A31181 c31182,B94 b39 x31184 A31185 A31188 A31191 c31192 A31194,QT QF (Value.int .i64) A31185 x31184.names,QT (Value.int .i64) (Value.int .i64) A31188 x31184.many,Row QL 99 (.slice A31191 x31184.txs.length c31192) x31184.txs,QT encS (fun v:Value=>v) A31194 vs31197,B39 b38981 (rd a1 x31176)]) 4 (Ls 16 [0,1,2,3,4,6,7,8,9,10,12,13]) ?_ ?_
        ·clear o41125h
         rintro ρ w41170 ⟨b40439,b40441,M41171,H,hρ,hM41172,E,S⟩
         rw [QI hρ]
         replace hg0:=gup hg0 hM41172
         replace HM:=Hp.le_trans HM hM41172
         replace hm31198:=YV.mono hm31198 hM41172
         refine Wo 5 rfl ?_
         obtain ⟨t41174,ht41175,H⟩:=QW H
         replace S:St w41170 M41171 F [_,_,_,_,_,_,_,_,_]:=S.pick [3,4,5,6,7,0,1,2,8] (by decide)
         refine Yc fn15 (Q5.con k M41171 A31185 c31186 A31188 c31189 A31191 c31192 A31194 c31195 vs31197 x31184 ((rd a1 x31176).Task) ((rd a1 x31176).Call) b39 t41174 hm31198 hg0 ht41175) (Γ1:=[_,_,_,_,_]) (Γ2:=[_,_,_,_]) S rfl rfl ?_
         rintro _ w41193 M41194 Γ' hM41195 E' S ⟨A41176,c41177,A41179,c41180,A41182,c41183,A41185,c41186,A41188,c41189,vs41191,rfl,hm41192,rfl⟩
         replace HM:=Hp.le_trans HM hM41195
         replace hM41172:=Hp.le_trans hM41172 hM41195
         replace E:=E.trans E'
         replace S:St w41193 M41194 F [_,_,_,_,_,_,_,_,_,_]:=S
         refine QB (YU ⟨.inr ⟨M41194,hM41172,(S.pick [9] (by decide))⟩,?_⟩)
         exact hq41136 _ _ ⟨t41174.1.Err,t41174.1.Found,t41174.1.Value,t41174.1.Pairs,t41174.2,A41176,c41177,A41179,c41180,A41182,c41183,A41185,c41186,A41188,c41189,vs41191,b40439,b40441,M41194,H,⟨rfl,rfl,rfl,rfl,rfl,rfl,rfl,rfl,rfl,rfl,rfl,rfl,rfl,trivial⟩,hM41172,E,S.pick [6,7,5,4,3,2,0,1,8,9] (by decide),hm41192⟩
        intro hq41133
        refine YD (fun ρ w'=>∃ (x40399:Int) (x40400:Bool) (x40401:Str) (x40402:List Qf) (x40406:QJ) (A40403:Option Addr) (c40404:Nat) (A40407:Option Addr) (c40408:Nat) (A40410:Option Addr) (c40411:Nat) (A40413:Option Addr) (c40414:Nat) (A40416:Option Addr) (c40417:Nat) (vs40419:List (Str×Value)) (b40397:Nat) (Mj:Hp),(Option.bind (Qe k x31177 ((rd a1 x31176).Task) ((rd a1 x31176).Call)) (fun t41030=>some (x40399,x40400,x40401,x40402,t41030.1.Err,t41030.1.Found,t41030.1.Value,t41030.1.Pairs,t41030.2,x40406)))=some o41125∧Qi ρ [(1,.slice A1 a1.length c1),(5,pt b39 0),(7,pt b65 0),(9,vI x31176),(10,pt b39 0),(11,pt b65 0),(12,pt b38981 0),(14,pt b40397 0),(83,.agg #[vI x40399,.bool x40400,vS x40401,.slice A40403 x40402.length c40404]),(84,pt b65 0),(86,vI ((rd a1 x31176).Task)),(88,.agg #[vU ((rd a1 x31176).Call.Kind),vI ((rd a1 x31176).Call.Tx),vS ((rd a1 x31176).Call.Key),vS ((rd a1 x31176).Call.End),vS ((rd a1 x31176).Call.Value),vI ((rd a1 x31176).Call.Limit),vU ((rd a1 x31176).Call.Engine)])]∧M36356.le Mj∧Ext w w'∧St w' Mj F [Blk b40397 (.cells cz14 43 (0,0)),QT encS (fun v:Value=>v) A40416 vs40419,Row QL 99 (.slice A40413 x40406.txs.length c40414) x40406.txs,QT (Value.int .i64) (Value.int .i64) A40410 x40406.many,QT QF (Value.int .i64) A40407 x40406.names,Row Qm 87 (.slice A40403 x40402.length c40404) x40402,B94 b39 x40406 A40407 A40410 A40413 c40414 A40416,B121 b65 x31177 A31178 c31179 A31181 c31182,B39 b38981 (rd a1 x31176)]∧YV Qk Mj x40406.rows vs40419) 4 (Ls 16 [0,1,2,3,4,5,6,7,8,9,10,13]) ?_ ?_
        ·clear o41125h
         rintro ρ w41196 ⟨x40399,x40400,x40401,x40402,x40406,A40403,c40404,A40407,c40408,A40410,c40411,A40413,c40414,A40416,c40417,vs40419,b40397,M41197,H,hρ,hM41198,E,S,hm40420⟩
         rw [QI hρ]
         replace HM:=Hp.le_trans HM hM41198
         replace hs31180:=SlR.mono hs31180 hM41198
         replace hs31183:=SlR.mono hs31183 hM41198
         refine XK (rs:=[11,12]) (by kernel_rfl) (by decide) ?_
         simp only [List.forall_mem_cons,List.not_mem_nil,false_implies,implies_true,and_true]
         refine ⟨?_,?_⟩
         ·refine ⟨_,rfl,?_⟩
          obtain ⟨t41200,ht41201,H⟩:=QW H
          replace S:St w41196 M41197 F [_,_,_,_,_,_,_,_,_]:=S.pick [7,0,1,2,3,4,5,6,8] (by decide)
          refine Yc fn38 (Qe.con k M41197 A31178 c31179 A31181 c31182 x31177 ((rd a1 x31176).Task) ((rd a1 x31176).Call) b65 t41200 hs31180 hs31183 ht41201) (Γ1:=[_]) (Γ2:=[_,_,_,_,_,_,_,_]) S rfl rfl ?_
          rintro _ w41211 M41212 Γ' hM41213 E' S ⟨A41202,c41203,A41205,c41206,A41208,c41209,rfl,hs41207,hs41210,rfl⟩
          replace HM:=Hp.le_trans HM hM41213
          replace hM41198:=Hp.le_trans hM41198 hM41213
          replace hm40420:=YV.mono hm40420 hM41213
          replace E:=E.trans E'
          replace S:St w41211 M41212 F [_,_,_,_,_,_,_,_,_,_]:=S
          refine QB (YU ⟨.inr ⟨M41212,hM41198,(S.pick [9] (by decide))⟩,?_⟩)
          exact hq41135 _ _ ⟨x40399,x40400,x40401,x40402,t41200.1.Err,t41200.1.Found,t41200.1.Value,t41200.1.Pairs,t41200.2,x40406,A40403,c40404,A41202,c41203,A41205,c41206,A41208,c41209,A40407,c40408,A40410,c40411,A40413,c40414,A40416,c40417,vs40419,b40397,M41212,H,⟨rfl,rfl,rfl,rfl,rfl,rfl,rfl,rfl,rfl,rfl,trivial⟩,hM41198,E,S.pick [2,3,4,5,6,0,7,1,8,9] (by decide),hs41207,hs41210,hm40420⟩
         ·refine ⟨_,rfl,?_⟩
          refine Zo S cz14 ty43 rfl rfl ?_
          intro b41214 w41215 E' S
          replace E:=E.trans E'
          refine QB (YU ⟨.inr ⟨M41197,hM41198,(S.pick [9] (by decide))⟩,?_⟩)
          exact hq41136 _ _ ⟨x40399,x40400,x40401,x40402,x40406,A40403,c40404,A40407,c40408,A40410,c40411,A40413,c40414,A40416,c40417,vs40419,b41214,b40397,M41197,H,⟨rfl,rfl,rfl,rfl,rfl,rfl,rfl,rfl,rfl,rfl,rfl,rfl,rfl,trivial⟩,hM41198,E,S.pick [1,0,2,3,4,5,6,7,8,9] (by decide),hm40420⟩
        intro hq41132
        refine YD (fun ρ w'=>∃ (x40357:Int) (x40358:Bool) (x40359:Str) (x40360:List Qf) (x40364:QJ) (A40361:Option Addr) (c40362:Nat) (A40365:Option Addr) (c40366:Nat) (A40368:Option Addr) (c40369:Nat) (A40371:Option Addr) (c40372:Nat) (A40374:Option Addr) (c40375:Nat) (vs40377:List (Str×Value)) (b40355:Nat) (Mj:Hp),(Option.bind (Qe k x31177 ((rd a1 x31176).Task) ((rd a1 x31176).Call)) (fun t40994=>some (x40357,x40358,x40359,x40360,t40994.1.Err,t40994.1.Found,t40994.1.Value,t40994.1.Pairs,t40994.2,x40364)))=some o41125∧Qi ρ [(1,.slice A1 a1.length c1),(5,pt b39 0),(7,pt b65 0),(9,vI x31176),(10,pt b39 0),(11,pt b65 0),(12,pt b38981 0),(13,pt b40355 0),(83,.agg #[vI x40357,.bool x40358,vS x40359,.slice A40361 x40360.length c40362]),(84,pt b65 0),(86,vI ((rd a1 x31176).Task)),(88,.agg #[vU ((rd a1 x31176).Call.Kind),vI ((rd a1 x31176).Call.Tx),vS ((rd a1 x31176).Call.Key),vS ((rd a1 x31176).Call.End),vS ((rd a1 x31176).Call.Value),vI ((rd a1 x31176).Call.Limit),vU ((rd a1 x31176).Call.Engine)])]∧M36356.le Mj∧Ext w w'∧St w' Mj F [Blk b40355 (.cells cz14 43 (0,0)),QT encS (fun v:Value=>v) A40374 vs40377,Row QL 99 (.slice A40371 x40364.txs.length c40372) x40364.txs,QT (Value.int .i64) (Value.int .i64) A40368 x40364.many,QT QF (Value.int .i64) A40365 x40364.names,Row Qm 87 (.slice A40361 x40360.length c40362) x40360,B94 b39 x40364 A40365 A40368 A40371 c40372 A40374,B121 b65 x31177 A31178 c31179 A31181 c31182,B39 b38981 (rd a1 x31176)]∧YV Qk Mj x40364.rows vs40377) 4 (Ls 16 [0,1,2,3,4,5,6,7,8,9,10,12]) ?_ ?_
        ·clear o41125h
         rintro ρ w41217 ⟨x40357,x40358,x40359,x40360,x40364,A40361,c40362,A40365,c40366,A40368,c40369,A40371,c40372,A40374,c40375,vs40377,b40355,M41218,H,hρ,hM41219,E,S,hm40378⟩
         rw [QI hρ]
         replace HM:=Hp.le_trans HM hM41219
         replace hs31180:=SlR.mono hs31180 hM41219
         replace hs31183:=SlR.mono hs31183 hM41219
         refine XK (rs:=[11,13]) (by kernel_rfl) (by decide) ?_
         simp only [List.forall_mem_cons,List.not_mem_nil,false_implies,implies_true,and_true]
         refine ⟨?_,?_⟩
         ·refine ⟨_,rfl,?_⟩
          obtain ⟨t41221,ht41222,H⟩:=QW H
          replace S:St w41217 M41218 F [_,_,_,_,_,_,_,_,_]:=S.pick [7,0,1,2,3,4,5,6,8] (by decide)
          refine Yc fn38 (Qe.con k M41218 A31178 c31179 A31181 c31182 x31177 ((rd a1 x31176).Task) ((rd a1 x31176).Call) b65 t41221 hs31180 hs31183 ht41222) (Γ1:=[_]) (Γ2:=[_,_,_,_,_,_,_,_]) S rfl rfl ?_
          rintro _ w41232 M41233 Γ' hM41234 E' S ⟨A41223,c41224,A41226,c41227,A41229,c41230,rfl,hs41228,hs41231,rfl⟩
          replace HM:=Hp.le_trans HM hM41234
          replace hM41219:=Hp.le_trans hM41219 hM41234
          replace hm40378:=YV.mono hm40378 hM41234
          replace E:=E.trans E'
          replace S:St w41232 M41233 F [_,_,_,_,_,_,_,_,_,_]:=S
          refine QB (YU ⟨.inr ⟨M41233,hM41219,(S.pick [9] (by decide))⟩,?_⟩)
          exact hq41134 _ _ ⟨x40357,x40358,x40359,x40360,t41221.1.Err,t41221.1.Found,t41221.1.Value,t41221.1.Pairs,t41221.2,x40364,A40361,c40362,A41223,c41224,A41226,c41227,A41229,c41230,A40365,c40366,A40368,c40369,A40371,c40372,A40374,c40375,vs40377,b40355,M41233,H,⟨rfl,rfl,rfl,rfl,rfl,rfl,rfl,rfl,rfl,rfl,trivial⟩,hM41219,E,S.pick [2,3,4,5,6,0,7,1,8,9] (by decide),hs41228,hs41231,hm40378⟩
         ·refine ⟨_,rfl,?_⟩
          refine Zo S cz14 ty43 rfl rfl ?_
          intro b41235 w41236 E' S
          replace E:=E.trans E'
          refine QB (YU ⟨.inr ⟨M41218,hM41219,(S.pick [9] (by decide))⟩,?_⟩)
          exact hq41136 _ _ ⟨x40357,x40358,x40359,x40360,x40364,A40361,c40362,A40365,c40366,A40368,c40369,A40371,c40372,A40374,c40375,vs40377,b40355,b41235,M41218,H,⟨rfl,rfl,rfl,rfl,rfl,rfl,rfl,rfl,rfl,rfl,rfl,rfl,rfl,trivial⟩,hM41219,E,S.pick [0,1,2,3,4,5,6,7,8,9] (by decide),hm40378⟩
        intro hq41131
        refine YD (fun ρ w'=>∃ (x40312:Int) (x40313:Bool) (x40314:Str) (x40315:List Qf) (x40319:Int) (x40320:Bool) (x40321:Str) (x40322:List Qf) (x40326:QH) (x40333:QJ) (A40316:Option Addr) (c40317:Nat) (A40323:Option Addr) (c40324:Nat) (A40327:Option Addr) (c40328:Nat) (A40330:Option Addr) (c40331:Nat) (A40334:Option Addr) (c40335:Nat) (A40337:Option Addr) (c40338:Nat) (A40340:Option Addr) (c40341:Nat) (A40343:Option Addr) (c40344:Nat) (vs40346:List (Str×Value)) (Mj:Hp),some (x40312,x40313,x40314,x40315,x40319,x40320,x40321,x40322,x40326,x40333)=some o41125∧Qi ρ [(1,.slice A1 a1.length c1),(5,pt b39 0),(7,pt b65 0),(9,vI x31176),(10,pt b39 0),(11,pt b65 0),(12,pt b38981 0),(83,.agg #[vI x40312,.bool x40313,vS x40314,.slice A40316 x40315.length c40317]),(89,.agg #[vI x40319,.bool x40320,vS x40321,.slice A40323 x40322.length c40324])]∧M36356.le Mj∧Ext w w'∧St w' Mj F [QT encS (fun v:Value=>v) A40343 vs40346,Row QL 99 (.slice A40340 x40333.txs.length c40341) x40333.txs,QT (Value.int .i64) (Value.int .i64) A40337 x40333.many,QT QF (Value.int .i64) A40334 x40333.names,Row Qm 87 (.slice A40323 x40322.length c40324) x40322,Row Qm 87 (.slice A40316 x40315.length c40317) x40315,B121 b65 x40326 A40327 c40328 A40330 c40331,B94 b39 x40333 A40334 A40337 A40340 c40341 A40343,B39 b38981 (rd a1 x31176)]∧SlR QY Mj (.slice A40327 x40326.T.length c40328) x40326.T∧SlR QU Mj (.slice A40330 x40326.L.length c40331) x40326.L∧YV Qk Mj x40333.rows vs40346) 4 (Ls 16 [0,1,2,3,4,5,6,7,8,9,10,11]) ?_ ?_
        ·clear o41125h
         rintro ρ w41238 ⟨x40312,x40313,x40314,x40315,x40319,x40320,x40321,x40322,x40326,x40333,A40316,c40317,A40323,c40324,A40327,c40328,A40330,c40331,A40334,c40335,A40337,c40338,A40340,c40341,A40343,c40344,vs40346,M41239,H,hρ,hM41240,E,S,hs40329,hs40332,hm40347⟩
         rw [QI hρ]
         replace HM:=Hp.le_trans HM hM41240
         refine XK (rs:=[12,13]) (by kernel_rfl) (by decide) ?_
         simp only [List.forall_mem_cons,List.not_mem_nil,false_implies,implies_true,and_true]
         refine ⟨?_,?_⟩
         ·refine ⟨_,rfl,?_⟩
          refine Zo S cz14 ty43 rfl rfl ?_
          intro b41242 w41243 E' S
          replace E:=E.trans E'
          refine QB (YU ⟨.inr ⟨M41239,hM41240,(S.pick [9] (by decide))⟩,?_⟩)
          exact hq41134 _ _ ⟨x40312,x40313,x40314,x40315,x40319,x40320,x40321,x40322,x40326,x40333,A40316,c40317,A40323,c40324,A40327,c40328,A40330,c40331,A40334,c40335,A40337,c40338,A40340,c40341,A40343,c40344,vs40346,b41242,M41239,H,⟨rfl,rfl,rfl,rfl,rfl,rfl,rfl,rfl,rfl,rfl,trivial⟩,hM41240,E,S.pick [0,1,2,3,4,5,6,7,8,9] (by decide),hs40329,hs40332,hm40347⟩
         ·refine ⟨_,rfl,?_⟩
          refine Zo S cz14 ty43 rfl rfl ?_
          intro b41245 w41246 E' S
          replace E:=E.trans E'
          refine QB (YU ⟨.inr ⟨M41239,hM41240,(S.pick [9] (by decide))⟩,?_⟩)
          exact hq41135 _ _ ⟨x40312,x40313,x40314,x40315,x40319,x40320,x40321,x40322,x40326,x40333,A40316,c40317,A40323,c40324,A40327,c40328,A40330,c40331,A40334,c40335,A40337,c40338,A40340,c40341,A40343,c40344,vs40346,b41245,M41239,H,⟨rfl,rfl,rfl,rfl,rfl,rfl,rfl,rfl,rfl,rfl,trivial⟩,hM41240,E,S.pick [0,1,2,3,4,5,6,7,8,9] (by decide),hs40329,hs40332,hm40347⟩
        intro hq41130
        refine YD (fun ρ w'=>∃ (b40285:Nat) (Mj:Hp),(Option.bind (Q5 k x31184 ((rd a1 x31176).Task) ((rd a1 x31176).Call)) (fun t40900=>(Option.bind (Qe k x31177 ((rd a1 x31176).Task) ((rd a1 x31176).Call)) (fun t40922=>some (t40900.1.Err,t40900.1.Found,t40900.1.Value,t40900.1.Pairs,t40922.1.Err,t40922.1.Found,t40922.1.Value,t40922.1.Pairs,t40922.2,t40900.2)))))=some o41125∧Qi ρ [(1,.slice A1 a1.length c1),(5,pt b39 0),(7,pt b65 0),(9,vI x31176),(10,pt b39 0),(11,pt b65 0),(12,pt b38981 0),(14,pt b40285 0),(78,pt b39 0),(80,vI ((rd a1 x31176).Task)),(82,.agg #[vU ((rd a1 x31176).Call.Kind),vI ((rd a1 x31176).Call.Tx),vS ((rd a1 x31176).Call.Key),vS ((rd a1 x31176).Call.End),vS ((rd a1 x31176).Call.Value),vI ((rd a1 x31176).Call.Limit),vU ((rd a1 x31176).Call.Engine)]),(84,pt b65 0),(86,vI ((rd a1 x31176).Task)),(88,.agg #[vU ((rd a1 x31176).Call.Kind),vI ((rd a1 x31176).Call.Tx),vS ((rd a1 x31176).Call.Key),vS ((rd a1 x31176).Call.End),vS ((rd a1 x31176).Call.Value),vI ((rd a1 x31176).Call.Limit),vU ((rd a1 x31176).Call.Engine)])]∧M36356.le Mj∧Ext w w'∧St w' Mj F [Blk b40285 (.cells cz14 43 (0,0)),B121 b65 x31177 A31178 c31179 A31181 c31182,B94 b39 x31184 A31185 A31188 A31191 c31192 A31194,QT QF (Value.int .i64) A31185 x31184.names,QT (Value.int .i64) (Value.int .i64) A31188 x31184.many,Row QL 99 (.slice A31191 x31184.txs.length c31192) x31184.txs,QT encS (fun v:Value=>v) A31194 vs31197,B39 b38981 (rd a1 x31176)]) 5 (Ls 16 [0,1,2,3,4,6,7,8,9,10,13]) ?_ ?_
        ·clear o41125h
         rintro ρ w41248 ⟨b40285,M41249,H,hρ,hM41250,E,S⟩
         rw [QI hρ]
         replace hg0:=gup hg0 hM41250
         replace HM:=Hp.le_trans HM hM41250
         replace hm31198:=YV.mono hm31198 hM41250
         refine XK (rs:=[5,12]) (by kernel_rfl) (by decide) ?_
         simp only [List.forall_mem_cons,List.not_mem_nil,false_implies,implies_true,and_true]
         refine ⟨?_,?_⟩
         ·refine ⟨_,rfl,?_⟩
          obtain ⟨t41252,ht41253,H⟩:=QW H
          replace S:St w41248 M41249 F [_,_,_,_,_,_,_,_]:=S.pick [2,3,4,5,6,0,1,7] (by decide)
          refine Yc fn15 (Q5.con k M41249 A31185 c31186 A31188 c31189 A31191 c31192 A31194 c31195 vs31197 x31184 ((rd a1 x31176).Task) ((rd a1 x31176).Call) b39 t41252 hm31198 hg0 ht41253) (Γ1:=[_,_,_,_,_]) (Γ2:=[_,_,_]) S rfl rfl ?_
          rintro _ w41271 M41272 Γ' hM41273 E' S ⟨A41254,c41255,A41257,c41258,A41260,c41261,A41263,c41264,A41266,c41267,vs41269,rfl,hm41270,rfl⟩
          replace HM:=Hp.le_trans HM hM41273
          replace hM41250:=Hp.le_trans hM41250 hM41273
          replace E:=E.trans E'
          replace S:St w41271 M41272 F [_,_,_,_,_,_,_,_,_]:=S
          refine QB (YU ⟨.inr ⟨M41272,hM41250,(S.pick [8] (by decide))⟩,?_⟩)
          exact hq41132 _ _ ⟨t41252.1.Err,t41252.1.Found,t41252.1.Value,t41252.1.Pairs,t41252.2,A41254,c41255,A41257,c41258,A41260,c41261,A41263,c41264,A41266,c41267,vs41269,b40285,M41272,H,⟨rfl,rfl,rfl,rfl,rfl,rfl,rfl,rfl,rfl,rfl,rfl,rfl,trivial⟩,hM41250,E,S.pick [6,5,4,3,2,0,1,7,8] (by decide),hm41270⟩
         ·refine ⟨_,rfl,?_⟩
          refine Zo S cz14 ty43 rfl rfl ?_
          intro b41274 w41275 E' S
          replace E:=E.trans E'
          refine QB (YU ⟨.inr ⟨M41249,hM41250,(S.pick [8] (by decide))⟩,?_⟩)
          exact hq41133 _ _ ⟨b41274,b40285,M41249,H,⟨rfl,rfl,rfl,rfl,rfl,rfl,rfl,rfl,rfl,rfl,rfl,rfl,rfl,rfl,rfl,trivial⟩,hM41250,E,S.pick [1,0,2,3,4,5,6,7,8] (by decide)⟩
        intro hq41129
        refine YD (fun ρ w'=>∃ (b40258:Nat) (Mj:Hp),(Option.bind (Q5 k x31184 ((rd a1 x31176).Task) ((rd a1 x31176).Call)) (fun t40820=>(Option.bind (Qe k x31177 ((rd a1 x31176).Task) ((rd a1 x31176).Call)) (fun t40842=>some (t40820.1.Err,t40820.1.Found,t40820.1.Value,t40820.1.Pairs,t40842.1.Err,t40842.1.Found,t40842.1.Value,t40842.1.Pairs,t40842.2,t40820.2)))))=some o41125∧Qi ρ [(1,.slice A1 a1.length c1),(5,pt b39 0),(7,pt b65 0),(9,vI x31176),(10,pt b39 0),(11,pt b65 0),(12,pt b38981 0),(13,pt b40258 0),(78,pt b39 0),(80,vI ((rd a1 x31176).Task)),(82,.agg #[vU ((rd a1 x31176).Call.Kind),vI ((rd a1 x31176).Call.Tx),vS ((rd a1 x31176).Call.Key),vS ((rd a1 x31176).Call.End),vS ((rd a1 x31176).Call.Value),vI ((rd a1 x31176).Call.Limit),vU ((rd a1 x31176).Call.Engine)]),(84,pt b65 0),(86,vI ((rd a1 x31176).Task)),(88,.agg #[vU ((rd a1 x31176).Call.Kind),vI ((rd a1 x31176).Call.Tx),vS ((rd a1 x31176).Call.Key),vS ((rd a1 x31176).Call.End),vS ((rd a1 x31176).Call.Value),vI ((rd a1 x31176).Call.Limit),vU ((rd a1 x31176).Call.Engine)])]∧M36356.le Mj∧Ext w w'∧St w' Mj F [Blk b40258 (.cells cz14 43 (0,0)),B121 b65 x31177 A31178 c31179 A31181 c31182,B94 b39 x31184 A31185 A31188 A31191 c31192 A31194,QT QF (Value.int .i64) A31185 x31184.names,QT (Value.int .i64) (Value.int .i64) A31188 x31184.many,Row QL 99 (.slice A31191 x31184.txs.length c31192) x31184.txs,QT encS (fun v:Value=>v) A31194 vs31197,B39 b38981 (rd a1 x31176)]) 5 (Ls 16 [0,1,2,3,4,6,7,8,9,10,12]) ?_ ?_
        ·clear o41125h
         rintro ρ w41277 ⟨b40258,M41278,H,hρ,hM41279,E,S⟩
         rw [QI hρ]
         replace hg0:=gup hg0 hM41279
         replace HM:=Hp.le_trans HM hM41279
         replace hm31198:=YV.mono hm31198 hM41279
         refine XK (rs:=[5,13]) (by kernel_rfl) (by decide) ?_
         simp only [List.forall_mem_cons,List.not_mem_nil,false_implies,implies_true,and_true]
         refine ⟨?_,?_⟩
         ·refine ⟨_,rfl,?_⟩
          obtain ⟨t41281,ht41282,H⟩:=QW H
          replace S:St w41277 M41278 F [_,_,_,_,_,_,_,_]:=S.pick [2,3,4,5,6,0,1,7] (by decide)
          refine Yc fn15 (Q5.con k M41278 A31185 c31186 A31188 c31189 A31191 c31192 A31194 c31195 vs31197 x31184 ((rd a1 x31176).Task) ((rd a1 x31176).Call) b39 t41281 hm31198 hg0 ht41282) (Γ1:=[_,_,_,_,_]) (Γ2:=[_,_,_]) S rfl rfl ?_
          rintro _ w41300 M41301 Γ' hM41302 E' S ⟨A41283,c41284,A41286,c41287,A41289,c41290,A41292,c41293,A41295,c41296,vs41298,rfl,hm41299,rfl⟩
          replace HM:=Hp.le_trans HM hM41302
          replace hM41279:=Hp.le_trans hM41279 hM41302
          replace E:=E.trans E'
          replace S:St w41300 M41301 F [_,_,_,_,_,_,_,_,_]:=S
          refine QB (YU ⟨.inr ⟨M41301,hM41279,(S.pick [8] (by decide))⟩,?_⟩)
          exact hq41131 _ _ ⟨t41281.1.Err,t41281.1.Found,t41281.1.Value,t41281.1.Pairs,t41281.2,A41283,c41284,A41286,c41287,A41289,c41290,A41292,c41293,A41295,c41296,vs41298,b40258,M41301,H,⟨rfl,rfl,rfl,rfl,rfl,rfl,rfl,rfl,rfl,rfl,rfl,rfl,trivial⟩,hM41279,E,S.pick [6,5,4,3,2,0,1,7,8] (by decide),hm41299⟩
         ·refine ⟨_,rfl,?_⟩
          refine Zo S cz14 ty43 rfl rfl ?_
          intro b41303 w41304 E' S
          replace E:=E.trans E'
          refine QB (YU ⟨.inr ⟨M41278,hM41279,(S.pick [8] (by decide))⟩,?_⟩)
          exact hq41133 _ _ ⟨b40258,b41303,M41278,H,⟨rfl,rfl,rfl,rfl,rfl,rfl,rfl,rfl,rfl,rfl,rfl,rfl,rfl,rfl,rfl,trivial⟩,hM41279,E,S.pick [0,1,2,3,4,5,6,7,8] (by decide)⟩
        intro hq41128
        refine YD (fun ρ w'=>∃ (x40215:Int) (x40216:Bool) (x40217:Str) (x40218:List Qf) (x40222:QJ) (A40219:Option Addr) (c40220:Nat) (A40223:Option Addr) (c40224:Nat) (A40226:Option Addr) (c40227:Nat) (A40229:Option Addr) (c40230:Nat) (A40232:Option Addr) (c40233:Nat) (vs40235:List (Str×Value)) (Mj:Hp),(Option.bind (Qe k x31177 ((rd a1 x31176).Task) ((rd a1 x31176).Call)) (fun t40757=>some (x40215,x40216,x40217,x40218,t40757.1.Err,t40757.1.Found,t40757.1.Value,t40757.1.Pairs,t40757.2,x40222)))=some o41125∧Qi ρ [(1,.slice A1 a1.length c1),(5,pt b39 0),(7,pt b65 0),(9,vI x31176),(10,pt b39 0),(11,pt b65 0),(12,pt b38981 0),(83,.agg #[vI x40215,.bool x40216,vS x40217,.slice A40219 x40218.length c40220]),(84,pt b65 0),(86,vI ((rd a1 x31176).Task)),(88,.agg #[vU ((rd a1 x31176).Call.Kind),vI ((rd a1 x31176).Call.Tx),vS ((rd a1 x31176).Call.Key),vS ((rd a1 x31176).Call.End),vS ((rd a1 x31176).Call.Value),vI ((rd a1 x31176).Call.Limit),vU ((rd a1 x31176).Call.Engine)])]∧M36356.le Mj∧Ext w w'∧St w' Mj F [QT encS (fun v:Value=>v) A40232 vs40235,Row QL 99 (.slice A40229 x40222.txs.length c40230) x40222.txs,QT (Value.int .i64) (Value.int .i64) A40226 x40222.many,QT QF (Value.int .i64) A40223 x40222.names,Row Qm 87 (.slice A40219 x40218.length c40220) x40218,B94 b39 x40222 A40223 A40226 A40229 c40230 A40232,B121 b65 x31177 A31178 c31179 A31181 c31182,B39 b38981 (rd a1 x31176)]∧YV Qk Mj x40222.rows vs40235) 5 (Ls 16 [0,1,2,3,4,5,6,7,8,9,10]) ?_ ?_
        ·clear o41125h
         rintro ρ w41306 ⟨x40215,x40216,x40217,x40218,x40222,A40219,c40220,A40223,c40224,A40226,c40227,A40229,c40230,A40232,c40233,vs40235,M41307,H,hρ,hM41308,E,S,hm40236⟩
         rw [QI hρ]
         replace HM:=Hp.le_trans HM hM41308
         replace hs31180:=SlR.mono hs31180 hM41308
         replace hs31183:=SlR.mono hs31183 hM41308
         refine XK (rs:=[11,12,13]) (by kernel_rfl) (by decide) ?_
         simp only [List.forall_mem_cons,List.not_mem_nil,false_implies,implies_true,and_true]
         refine ⟨?_,?_,?_⟩
         ·refine ⟨_,rfl,?_⟩
          obtain ⟨t41310,ht41311,H⟩:=QW H
          replace S:St w41306 M41307 F [_,_,_,_,_,_,_,_]:=S.pick [6,0,1,2,3,4,5,7] (by decide)
          refine Yc fn38 (Qe.con k M41307 A31178 c31179 A31181 c31182 x31177 ((rd a1 x31176).Task) ((rd a1 x31176).Call) b65 t41310 hs31180 hs31183 ht41311) (Γ1:=[_]) (Γ2:=[_,_,_,_,_,_,_]) S rfl rfl ?_
          rintro _ w41321 M41322 Γ' hM41323 E' S ⟨A41312,c41313,A41315,c41316,A41318,c41319,rfl,hs41317,hs41320,rfl⟩
          replace HM:=Hp.le_trans HM hM41323
          replace hM41308:=Hp.le_trans hM41308 hM41323
          replace hm40236:=YV.mono hm40236 hM41323
          replace E:=E.trans E'
          replace S:St w41321 M41322 F [_,_,_,_,_,_,_,_,_]:=S
          refine QB (YU ⟨.inr ⟨M41322,hM41308,(S.pick [8] (by decide))⟩,?_⟩)
          exact hq41130 _ _ ⟨x40215,x40216,x40217,x40218,t41310.1.Err,t41310.1.Found,t41310.1.Value,t41310.1.Pairs,t41310.2,x40222,A40219,c40220,A41312,c41313,A41315,c41316,A41318,c41319,A40223,c40224,A40226,c40227,A40229,c40230,A40232,c40233,vs40235,M41322,H,⟨rfl,rfl,rfl,rfl,rfl,rfl,rfl,rfl,rfl,trivial⟩,hM41308,E,S.pick [2,3,4,5,0,6,1,7,8] (by decide),hs41317,hs41320,hm40236⟩
         ·refine ⟨_,rfl,?_⟩
          refine Zo S cz14 ty43 rfl rfl ?_
          intro b41324 w41325 E' S
          replace E:=E.trans E'
          refine QB (YU ⟨.inr ⟨M41307,hM41308,(S.pick [8] (by decide))⟩,?_⟩)
          exact hq41131 _ _ ⟨x40215,x40216,x40217,x40218,x40222,A40219,c40220,A40223,c40224,A40226,c40227,A40229,c40230,A40232,c40233,vs40235,b41324,M41307,H,⟨rfl,rfl,rfl,rfl,rfl,rfl,rfl,rfl,rfl,rfl,rfl,rfl,trivial⟩,hM41308,E,S.pick [0,1,2,3,4,5,6,7,8] (by decide),hm40236⟩
         ·refine ⟨_,rfl,?_⟩
          refine Zo S cz14 ty43 rfl rfl ?_
          intro b41327 w41328 E' S
          replace E:=E.trans E'
          refine QB (YU ⟨.inr ⟨M41307,hM41308,(S.pick [8] (by decide))⟩,?_⟩)
          exact hq41132 _ _ ⟨x40215,x40216,x40217,x40218,x40222,A40219,c40220,A40223,c40224,A40226,c40227,A40229,c40230,A40232,c40233,vs40235,b41327,M41307,H,⟨rfl,rfl,rfl,rfl,rfl,rfl,rfl,rfl,rfl,rfl,rfl,rfl,trivial⟩,hM41308,E,S.pick [0,1,2,3,4,5,6,7,8] (by decide),hm40236⟩
        intro hq41127
        have H:=o41125h
        refine XK (rs:=[5,12,13]) (by kernel_rfl) (by decide) ?_
        simp only [List.forall_mem_cons,List.not_mem_nil,false_implies,implies_true,and_true]
        refine ⟨?_,?_,?_⟩
        ·refine ⟨_,rfl,?_⟩
         obtain ⟨t41330,ht41331,H⟩:=QW H
         replace S:St w40185 M36356 F [_,_,_,_,_,_,_]:=S.pick [1,2,3,4,5,0,6] (by decide)
         refine Yc fn15 (Q5.con k M36356 A31185 c31186 A31188 c31189 A31191 c31192 A31194 c31195 vs31197 x31184 ((rd a1 x31176).Task) ((rd a1 x31176).Call) b39 t41330 hm31198 hg0 ht41331) (Γ1:=[_,_,_,_,_]) (Γ2:=[_,_]) S rfl rfl ?_
         rintro _ w41349 M41350 Γ' hM41351 E' S ⟨A41332,c41333,A41335,c41336,A41338,c41339,A41341,c41342,A41344,c41345,vs41347,rfl,hm41348,rfl⟩
         replace HM:=Hp.le_trans HM hM41351
         replace LE40184:=Hp.le_trans LE40184 hM41351
         replace E:=E.trans E'
         replace S:St w41349 M41350 F [_,_,_,_,_,_,_,_]:=S
         refine QB (YU ⟨.inr ⟨M41350,LE40184,(S.pick [7] (by decide))⟩,?_⟩)
         exact hq41127 _ _ ⟨t41330.1.Err,t41330.1.Found,t41330.1.Value,t41330.1.Pairs,t41330.2,A41332,c41333,A41335,c41336,A41338,c41339,A41341,c41342,A41344,c41345,vs41347,M41350,H,⟨rfl,rfl,rfl,rfl,rfl,rfl,rfl,rfl,rfl,rfl,rfl,trivial⟩,LE40184,E,S.pick [5,4,3,2,0,1,6,7] (by decide),hm41348⟩
        ·refine ⟨_,rfl,?_⟩
         refine Zo S cz14 ty43 rfl rfl ?_
         intro b41352 w41353 E' S
         replace E:=E.trans E'
         refine QB (YU ⟨.inr ⟨M36356,Hp.le_refl M36356,(S.pick [7] (by decide))⟩,?_⟩)
         exact hq41128 _ _ ⟨b41352,M36356,H,⟨rfl,rfl,rfl,rfl,rfl,rfl,rfl,rfl,rfl,rfl,rfl,rfl,rfl,rfl,trivial⟩,(Hp.le_refl M36356),E,S.pick [0,1,2,3,4,5,6,7] (by decide)⟩
        ·refine ⟨_,rfl,?_⟩
         refine Zo S cz14 ty43 rfl rfl ?_
         intro b41355 w41356 E' S
         replace E:=E.trans E'
         refine QB (YU ⟨.inr ⟨M36356,Hp.le_refl M36356,(S.pick [7] (by decide))⟩,?_⟩)
         exact hq41129 _ _ ⟨b41355,M36356,H,⟨rfl,rfl,rfl,rfl,rfl,rfl,rfl,rfl,rfl,rfl,rfl,rfl,rfl,rfl,trivial⟩,(Hp.le_refl M36356),E,S.pick [0,1,2,3,4,5,6,7] (by decide)⟩
       rintro ρ w41358 ⟨x40594,x40595,x40596,x40597,x40601,x40602,x40603,x40604,x40608,x40615,A40598,c40599,A40605,c40606,A40609,c40610,A40612,c40613,A40616,c40617,A40619,c40620,A40622,c40623,A40625,c40626,vs40628,b40590,b40592,M41359,rfl,hρ,hM41360,E,S,hs40611,hs40614,hm40629⟩
       rw [QI hρ]
       replace HM:=Hp.le_trans HM hM41360
       replace hM36357:=Hp.le_trans hM36357 hM41360
       have H:=o41125H
       refine Wo 14 rfl ?_
       refine Qx S 1 rfl ty43 rfl rfl [vI x40594,.bool x40595,vS x40596,.slice A40598 x40597.length c40599] rfl rfl rfl #[vI x40594,.bool x40595,vS x40596,.slice A40598 x40597.length c40599] rfl rfl ?_
       intro w41361 E' S
       replace E:=E.trans E'
       refine QB (YU ⟨.inl (by decide),?_⟩)
       refine Wo 15 rfl ?_
       refine Qx S 0 rfl ty43 rfl rfl [vI x40601,.bool x40602,vS x40603,.slice A40605 x40604.length c40606] rfl rfl rfl #[vI x40601,.bool x40602,vS x40603,.slice A40605 x40604.length c40606] rfl rfl ?_
       intro w41362 E' S
       replace E:=E.trans E'
       refine QB (YU ⟨.inl (by decide),?_⟩)
       refine Wz ?_
       refine tn ?_
       as_aux_lemma =>
       refine QE (QE (QA (W_v (.agg #[vI x40594,.bool x40595,vS x40596,.slice A40598 x40597.length c40599]) (ZA (S.blk 1 rfl) ty43 rfl (QM rfl) rfl rfl) rfl (W_v (.agg #[vI x40601,.bool x40602,vS x40603,.slice A40605 x40604.length c40606]) (ZA (S.blk 0 rfl) ty43 rfl (QM rfl) rfl rfl) rfl ?_))))
       replace S:St w41362 M41359 F [_,_,_,_,_,_,_,_,_,_,_]:=S.pick [7,6,0,1,2,3,4,5,8,9,10] (by decide)
       obtain ⟨t41363,ht41364,H⟩:=QW H
       refine Xw 2 fn20 (fun h9 hs9 hd9=>YE.con k _ A40598 c40599 (⟨x40594,x40595,x40596,x40597⟩:Qc) A40605 c40606 (⟨x40601,x40602,x40603,x40604⟩:Qc) t41363 (Sats.row hs9 hd9 0 rfl) (Sats.row hs9 hd9 1 rfl) ht41364) S rfl rfl (by rintro _ _ _ ⟨_,rfl⟩;exact Qd) ?_
       rintro _ w41365 _ Γ' E' S ⟨rfl,rfl⟩
       replace E:=E.trans E'
       refine W_v (.bool (!t41363)) (Y5 (b:=t41363) rfl) rfl (W_v (.bool (!t41363)) (QD rfl) rfl ?_)
       obtain ⟨o41374,o41374h,o41374H⟩:=QW H
       refine ZH 5 (fun ρ w'=>∃ (x41373:Bool),(x41373)=o41374∧Qi ρ [(1,.slice A1 a1.length c1),(5,pt b39 0),(7,pt b65 0),(9,vI x31176),(10,pt b39 0),(11,pt b65 0),(12,pt b38981 0),(13,pt b40590 0),(99,.bool x41373)]∧Ext w w'∧St w' M41359 F [Row Qm 87 (.slice A40598 x40597.length c40599) x40597,Blk b40590 (.cells #[vI x40594,.bool x40595,vS x40596,.slice A40598 x40597.length c40599] 43 (0,0)),QT encS (fun v:Value=>v) A40625 vs40628,Row QL 99 (.slice A40622 x40615.txs.length c40623) x40615.txs,QT (Value.int .i64) (Value.int .i64) A40619 x40615.many,QT QF (Value.int .i64) A40616 x40615.names,B121 b65 x40608 A40609 c40610 A40612 c40613,B94 b39 x40615 A40616 A40619 A40622 c40623 A40625,B39 b38981 (rd a1 x31176)]) ?_ ?_
       ·have H:=o41374h
        rcases Zf H with ⟨hb41372,H⟩ | ⟨hb41372,H⟩
        ·skip
         refine QZ (skF hb41372) rfl (QZ (skF hb41372) rfl (QZ (skF hb41372) rfl (QZ (skF hb41372) rfl (W_v (.bool true) (QV (k:=true) (congrArg Value.bool hb41372) rfl) rfl (QB ?_)))))
         exact ⟨true,Option.some.inj H,⟨rfl,rfl,rfl,rfl,rfl,rfl,rfl,rfl,rfl,trivial⟩,E,S.pick [0,3,4,5,6,7,8,9,10] (by decide)⟩
        ·skip
         refine QP (congrArg some hb41372) (W_v (.agg #[vI x40594,.bool x40595,vS x40596,.slice A40598 x40597.length c40599]) (ZA (S.blk 3 rfl) ty43 rfl (QM rfl) rfl rfl) rfl (QP (congrArg some hb41372) (W_v (.agg #[vI x40601,.bool x40602,vS x40603,.slice A40605 x40604.length c40606]) (ZA (S.blk 2 rfl) ty43 rfl (QM rfl) rfl rfl) rfl (QP (congrArg some hb41372) ?_))))
         obtain ⟨t41375,ht41376,H⟩:=QW H
         refine Xw 2 fn39 (fun h9 hs9 hd9=>Y4.con k _ A40598 c40599 (⟨x40594,x40595,x40596,x40597⟩:Qc) A40605 c40606 (⟨x40601,x40602,x40603,x40604⟩:Qc) t41375 (Sats.row hs9 hd9 0 rfl) (Sats.row hs9 hd9 1 rfl) ht41376) S rfl rfl (by rintro _ _ _ ⟨_,rfl⟩;exact Qd) ?_
         rintro _ w41377 _ Γ' E' S ⟨rfl,rfl⟩
         replace E:=E.trans E'
         refine QP (congrArg some hb41372) (W_v (.bool (!t41375)) (Y5 (b:=t41375) rfl) rfl (W_v (.bool (!t41375)) (QV (k:=false) (congrArg Value.bool hb41372) rfl) rfl (QB ?_)))
         exact ⟨(!t41375),Option.some.inj H,⟨rfl,rfl,rfl,rfl,rfl,rfl,rfl,rfl,rfl,trivial⟩,E,S.pick [0,3,4,5,6,7,8,9,10] (by decide)⟩
       as_aux_lemma =>
       rintro ρ w41378 ⟨x41373,rfl,hρ,E,S⟩
       rw [QI hρ]
       have H:=o41374H
       refine W_v (.bool x41373) (QD rfl) rfl ?_
       obtain ⟨o41387,o41387h,o41387H⟩:=QW H
       refine ZH 4 (fun ρ w'=>∃ (x41386:Bool),(x41386)=o41387∧Qi ρ [(1,.slice A1 a1.length c1),(5,pt b39 0),(7,pt b65 0),(9,vI x31176),(10,pt b39 0),(11,pt b65 0),(12,pt b38981 0),(13,pt b40590 0),(104,.bool x41386)]∧Ext w w'∧St w' M41359 F [Row Qm 87 (.slice A40598 x40597.length c40599) x40597,Blk b40590 (.cells #[vI x40594,.bool x40595,vS x40596,.slice A40598 x40597.length c40599] 43 (0,0)),QT encS (fun v:Value=>v) A40625 vs40628,Row QL 99 (.slice A40622 x40615.txs.length c40623) x40615.txs,QT (Value.int .i64) (Value.int .i64) A40619 x40615.many,QT QF (Value.int .i64) A40616 x40615.names,B121 b65 x40608 A40609 c40610 A40612 c40613,B94 b39 x40615 A40616 A40619 A40622 c40623 A40625,B39 b38981 (rd a1 x31176)]) ?_ ?_
       ·have H:=o41387h
        rcases Zf H with ⟨hb41385,H⟩ | ⟨hb41385,H⟩
        ·skip
         refine QZ (skF hb41385) rfl (QZ (skF hb41385) rfl (QZ (skF hb41385) rfl (W_v (.bool true) (QV (k:=true) (congrArg Value.bool hb41385) rfl) rfl (QB ?_))))
         exact ⟨true,Option.some.inj H,⟨rfl,rfl,rfl,rfl,rfl,rfl,rfl,rfl,rfl,trivial⟩,E,S.pick [0,1,2,3,4,5,6,7,8] (by decide)⟩
        ·skip
         refine QP (congrArg some hb41385) (W_v (.agg #[vI x40594,.bool x40595,vS x40596,.slice A40598 x40597.length c40599]) (ZA (S.blk 1 rfl) ty43 rfl (QM rfl) rfl rfl) rfl (QP (congrArg some hb41385) (W_v (.agg cz10) (Z3 (pl:=[(0,1),(1,1),(2,1),(3,1)]) cz10 Tryd.underlying43 ty43 (by as_aux_lemma=>kernel_rfl) rfl (by as_aux_lemma=>kernel_rfl)) rfl (QP (congrArg some hb41385) ?_))))
         obtain ⟨t41388,ht41389,H⟩:=QW H
         refine Xw 1 fn39 (fun h9 hs9 hd9=>Y4.con k _ A40598 c40599 (⟨x40594,x40595,x40596,x40597⟩:Qc) none 0 cz4 t41388 (Sats.row hs9 hd9 0 rfl) (SlW.nil _ _) ht41389) S rfl rfl (by rintro _ _ _ ⟨_,rfl⟩;exact Qd) ?_
         rintro _ w41390 _ Γ' E' S ⟨rfl,rfl⟩
         replace E:=E.trans E'
         refine W_v (.bool t41388) (QV (k:=false) (congrArg Value.bool hb41385) rfl) rfl (QB ?_)
         exact ⟨t41388,Option.some.inj H,⟨rfl,rfl,rfl,rfl,rfl,rfl,rfl,rfl,rfl,trivial⟩,E,S.pick [0,1,2,3,4,5,6,7,8] (by decide)⟩
       as_aux_lemma =>
       rintro ρ w41391 ⟨x41386,rfl,hρ,E,S⟩
       rw [QI hρ]
       have H:=o41387H
       refine W_v (.bool x41386) (QD rfl) rfl ?_
       obtain ⟨o41404,o41404h,o41404H⟩:=QW H
       refine ZH 13 (fun ρ w'=>∃ (x41403:Bool),(x41403)=o41404∧Qi ρ [(1,.slice A1 a1.length c1),(5,pt b39 0),(7,pt b65 0),(9,vI x31176),(10,pt b39 0),(11,pt b65 0),(12,pt b38981 0),(13,pt b40590 0),(118,.bool x41403)]∧Ext w w'∧St w' M41359 F [Row Qm 87 (.slice A40598 x40597.length c40599) x40597,Blk b40590 (.cells #[vI x40594,.bool x40595,vS x40596,.slice A40598 x40597.length c40599] 43 (0,0)),QT encS (fun v:Value=>v) A40625 vs40628,Row QL 99 (.slice A40622 x40615.txs.length c40623) x40615.txs,QT (Value.int .i64) (Value.int .i64) A40619 x40615.many,QT QF (Value.int .i64) A40616 x40615.names,B121 b65 x40608 A40609 c40610 A40612 c40613,B94 b39 x40615 A40616 A40619 A40622 c40623 A40625,B39 b38981 (rd a1 x31176)]) ?_ ?_
       ·as_aux_lemma =>
         have H:=o41404h
         rcases Zf H with ⟨hb41402,H⟩ | ⟨hb41402,H⟩
         ·skip
          refine QZ (skF hb41402) rfl (QZ (skF hb41402) rfl (QZ (skF hb41402) rfl (QZ (skF hb41402) rfl (QZ (skF hb41402) rfl (QZ (skF hb41402) rfl (QZ (skF hb41402) rfl (QZ (skF hb41402) rfl (QZ (skF hb41402) rfl (QZ (skF hb41402) rfl (QZ (skF hb41402) rfl (QZ (skF hb41402) rfl (W_v (.bool true) (QV (k:=true) (congrArg Value.bool hb41402) rfl) rfl (QB ?_)))))))))))))
          exact ⟨true,Option.some.inj H,⟨rfl,rfl,rfl,rfl,rfl,rfl,rfl,rfl,rfl,trivial⟩,E,S.pick [0,1,2,3,4,5,6,7,8] (by decide)⟩
         ·skip
          refine QP (congrArg some hb41402) (W_v (pt b39 0) (QD rfl) rfl (QP (congrArg some hb41402) (W_v (pt b65 0) (QD rfl) rfl (QP (congrArg some hb41402) (W_v (pt b38981 1) (QC (o:=0) (off:=1) Tryd.underlying39 rfl ty37 rfl rfl) rfl (QP (congrArg some hb41402) (W_v (pt b38981 3) (QC (o:=1) (off:=2) Tryd.underlying37 rfl ty9 rfl rfl) rfl (QP (congrArg some hb41402) (W_v (vS ((rd a1 x31176).Call.Key)) (QO (S.blk 8 rfl) ty9 rfl rfl) rfl (QP (congrArg some hb41402) (W_v (pt b38981 0) (QC (o:=0) (off:=0) Tryd.underlying39 rfl ty3 rfl rfl) rfl (QP (congrArg some hb41402) (W_v (vI ((rd a1 x31176).Task)) (QO (S.blk 8 rfl) ty3 rfl rfl) rfl (QP (congrArg some hb41402) (W_v (pt b38981 1) (QC (o:=0) (off:=1) Tryd.underlying39 rfl ty37 rfl rfl) rfl ?_)))))))))))))))
          refine QP (congrArg some hb41402) (W_v (pt b38981 2) (QC (o:=1) (off:=1) Tryd.underlying37 rfl ty3 rfl rfl) rfl (QP (congrArg some hb41402) (W_v (vI ((rd a1 x31176).Call.Tx)) (QO (S.blk 8 rfl) ty3 rfl rfl) rfl (QP (congrArg some hb41402) ?_))))
          obtain ⟨t41405,ht41406,H⟩:=QW H
          replace S:St w41391 M41359 F [_,_,_,_,_,_,_,_,_]:=S.pick [7,5,4,3,2,6,0,1,8] (by decide)
          refine Z5 fn40 (ZK.con k M41359 A40616 c40617 A40619 c40620 A40622 c40623 A40625 c40626 vs40628 x40615 A40609 c40610 A40612 c40613 x40608 ((rd a1 x31176).Call.Key) ((rd a1 x31176).Task) ((rd a1 x31176).Call.Tx) b39 b65 t41405 hm40629 hs40611 hs40614 ht41406) (Γ1:=[_,_,_,_,_,_]) (Γ2:=[_,_,_]) S rfl rfl (by rintro _ _ _ ⟨rfl,rfl⟩;exact (QN ZW (QN Qu (QN Qu (QN (YI (fun _ _ _ _ h=>h)) (QN Qu (QN ZW Qd))))))) ?_
          rintro _ w41407 _ Γ' E' S ⟨rfl,rfl⟩
          replace E:=E.trans E'
          replace S:St w41407 M41359 F [_,_,_,_,_,_,_,_,_]:=S
          refine QP (congrArg some hb41402) (W_v (.bool (!t41405)) (Y5 (b:=t41405) rfl) rfl (W_v (.bool (!t41405)) (QV (k:=false) (congrArg Value.bool hb41402) rfl) rfl (QB ?_)))
          exact ⟨(!t41405),Option.some.inj H,⟨rfl,rfl,rfl,rfl,rfl,rfl,rfl,rfl,rfl,trivial⟩,E,S.pick [6,7,4,3,2,1,5,0,8] (by decide)⟩
       as_aux_lemma =>
       rintro ρ w41410 ⟨x41403,rfl,hρ,E,S⟩
       rw [QI hρ]
       have H:=o41404H
       refine W_v (.bool x41403) (QD rfl) rfl ?_
       obtain ⟨o41423,o41423h,o41423H⟩:=QW H
       refine ZH 13 (fun ρ w'=>∃ (x41422:Bool),(x41422)=o41423∧Qi ρ [(1,.slice A1 a1.length c1),(5,pt b39 0),(7,pt b65 0),(9,vI x31176),(13,pt b40590 0),(132,.bool x41422)]∧Ext w w'∧St w' M41359 F [Row Qm 87 (.slice A40598 x40597.length c40599) x40597,Blk b40590 (.cells #[vI x40594,.bool x40595,vS x40596,.slice A40598 x40597.length c40599] 43 (0,0)),QT encS (fun v:Value=>v) A40625 vs40628,Row QL 99 (.slice A40622 x40615.txs.length c40623) x40615.txs,QT (Value.int .i64) (Value.int .i64) A40619 x40615.many,QT QF (Value.int .i64) A40616 x40615.names,B121 b65 x40608 A40609 c40610 A40612 c40613,B94 b39 x40615 A40616 A40619 A40622 c40623 A40625]) ?_ ?_
       ·as_aux_lemma =>
         have H:=o41423h
         rcases Zf H with ⟨hb41421,H⟩ | ⟨hb41421,H⟩
         ·skip
          refine QZ (skF hb41421) rfl (QZ (skF hb41421) rfl (QZ (skF hb41421) rfl (QZ (skF hb41421) rfl (QZ (skF hb41421) rfl (QZ (skF hb41421) rfl (QZ (skF hb41421) rfl (QZ (skF hb41421) rfl (QZ (skF hb41421) rfl (QZ (skF hb41421) rfl (QZ (skF hb41421) rfl (QZ (skF hb41421) rfl (W_v (.bool true) (QV (k:=true) (congrArg Value.bool hb41421) rfl) rfl (QB ?_)))))))))))))
          exact ⟨true,Option.some.inj H,⟨rfl,rfl,rfl,rfl,rfl,rfl,trivial⟩,E,S.pick [0,1,2,3,4,5,6,7] (by decide)⟩
         ·skip
          refine QP (congrArg some hb41421) (W_v (pt b39 0) (QD rfl) rfl (QP (congrArg some hb41421) (W_v (pt b65 0) (QD rfl) rfl (QP (congrArg some hb41421) (W_v (pt b38981 1) (QC (o:=0) (off:=1) Tryd.underlying39 rfl ty37 rfl rfl) rfl (QP (congrArg some hb41421) (W_v (pt b38981 3) (QC (o:=1) (off:=2) Tryd.underlying37 rfl ty9 rfl rfl) rfl (QP (congrArg some hb41421) (W_v (vS ((rd a1 x31176).Call.Key)) (QO (S.blk 8 rfl) ty9 rfl rfl) rfl (QP (congrArg some hb41421) (W_v (pt b38981 0) (QC (o:=0) (off:=0) Tryd.underlying39 rfl ty3 rfl rfl) rfl (QP (congrArg some hb41421) (W_v (vI ((rd a1 x31176).Task)) (QO (S.blk 8 rfl) ty3 rfl rfl) rfl (QP (congrArg some hb41421) (W_v (pt b38981 1) (QC (o:=0) (off:=1) Tryd.underlying39 rfl ty37 rfl rfl) rfl ?_)))))))))))))))
          refine QP (congrArg some hb41421) (W_v (pt b38981 2) (QC (o:=1) (off:=1) Tryd.underlying37 rfl ty3 rfl rfl) rfl (QP (congrArg some hb41421) (W_v (vI ((rd a1 x31176).Call.Tx)) (QO (S.blk 8 rfl) ty3 rfl rfl) rfl (QP (congrArg some hb41421) ?_))))
          obtain ⟨t41424,ht41425,H⟩:=QW H
          replace S:St w41410 M41359 F [_,_,_,_,_,_,_,_,_]:=S.pick [7,5,4,3,2,6,0,1,8] (by decide)
          refine Z5 fn40 (ZK.con k M41359 A40616 c40617 A40619 c40620 A40622 c40623 A40625 c40626 vs40628 x40615 A40609 c40610 A40612 c40613 x40608 ((rd a1 x31176).Call.Key) ((rd a1 x31176).Task) ((rd a1 x31176).Call.Tx) b39 b65 t41424 hm40629 hs40611 hs40614 ht41425) (Γ1:=[_,_,_,_,_,_]) (Γ2:=[_,_,_]) S rfl rfl (by rintro _ _ _ ⟨rfl,rfl⟩;exact (QN ZW (QN Qu (QN Qu (QN (YI (fun _ _ _ _ h=>h)) (QN Qu (QN ZW Qd))))))) ?_
          rintro _ w41426 _ Γ' E' S ⟨rfl,rfl⟩
          replace E:=E.trans E'
          replace S:St w41426 M41359 F [_,_,_,_,_,_,_,_,_]:=S
          refine QP (congrArg some hb41421) (W_v (.bool (!t41424)) (Y5 (b:=t41424) rfl) rfl (W_v (.bool (!t41424)) (QV (k:=false) (congrArg Value.bool hb41421) rfl) rfl (QB ?_)))
          exact ⟨(!t41424),Option.some.inj H,⟨rfl,rfl,rfl,rfl,rfl,rfl,trivial⟩,E,S.pick [6,7,4,3,2,1,5,0] (by decide)⟩
       as_aux_lemma =>
       rintro ρ w41429 ⟨x41422,rfl,hρ,E,S⟩
       rw [QI hρ]
       have H:=o41423H
       refine QB (tn ?_)
       rcases Zf H with ⟨hb41430,H⟩ | ⟨hb41430,H⟩
       ·refine QQ (congrArg Value.bool hb41430) ?_
        refine QE (QA (W_v (.bool false) (QG rfl) rfl (QB (tn ?_))))
        refine Qs ?_
        refine tr (br (tr (tr (br (tr (tr (?_)))))))
        obtain rfl:=Option.some.inj H
        have H:=o36354H
        replace H:=elimL H
        obtain rfl:=Option.some.inj H
        exact ⟨_,_,_,fun w1 e1=>QX (vs:=[.bool false]) (FA.cons (rfl) (FA.nil)),HM,E,S.pick [] (by decide),⟨rfl,rfl⟩⟩
       refine QK (congrArg Value.bool hb41430) (Qr (tn (QE (QA (W_v (vI 0) (QG rfl) rfl (QB (tn ?_)))))))
       obtain ⟨o41494,o41494h,o41494H⟩:=QW H
       refine Yj (fun ρ w'=>()=o41494∧Qi ρ [(1,.slice A1 a1.length c1),(5,pt b39 0),(7,pt b65 0),(9,vI x31176)]∧Ext w w'∧St w' M41359 F [QT encS (fun v:Value=>v) A40625 vs40628,Row QL 99 (.slice A40622 x40615.txs.length c40623) x40615.txs,QT (Value.int .i64) (Value.int .i64) A40619 x40615.many,QT QF (Value.int .i64) A40616 x40615.names,B121 b65 x40608 A40609 c40610 A40612 c40613,B94 b39 x40615 A40616 A40619 A40622 c40623 A40625]) ?_ ?_
       ·skip
        refine Y3 (fun n ρ w'=>∃ (x41473:Int) (x41474:List Qf) (A41475:Option Addr) (c41476:Nat),Zw n x41473 x41474=some o41494∧Qi ρ [(1,.slice A1 a1.length c1),(5,pt b39 0),(7,pt b65 0),(9,vI x31176),(13,pt b40590 0),(15,vI x41473)]∧Ext w w'∧St w' M41359 F [Row Qm 87 (.slice A41475 x41474.length c41476) x41474,Blk b40590 (.cells #[vI x40594,.bool x40595,vS x40596,.slice A41475 x41474.length c41476] 43 (0,0)),QT encS (fun v:Value=>v) A40625 vs40628,Row QL 99 (.slice A40622 x40615.txs.length c40623) x40615.txs,QT (Value.int .i64) (Value.int .i64) A40619 x40615.many,QT QF (Value.int .i64) A40616 x40615.names,B121 b65 x40608 A40609 c40610 A40612 c40613,B94 b39 x40615 A40616 A40619 A40622 c40623 A40625]) k ?_ ?_
        ·skip
         exact ⟨(0:Int),x40597,A40598,c40599,o41494h,⟨rfl,rfl,rfl,rfl,rfl,rfl,trivial⟩,E,S.pick [0,1,2,3,4,5,6,7] (by decide)⟩
        ·intro n
         rintro ρ w41495 ⟨x41473,x41474,A41475,c41476,H,hρ,E,S⟩
         rw [QI hρ]
         cases n with
         | zero=>cases H
         | succ k =>
          rw [Zw.eq_2] at H
          refine QE (QE (QA (W_v (vI x41473) (QD rfl) rfl (W_v (pt b40590 3) (QC (o:=0) (off:=3) Tryd.underlying43 rfl ty41 rfl rfl) rfl (W_v (.slice A41475 x41474.length c41476) (QO (S.blk 1 rfl) ty41 rfl rfl) rfl (W_v (vI (x41474.length:Int)) (Q8 (n:=x41474.length) Tryd.underlying41 rfl) rfl (W_v (.bool (decide (x41473 < (x41474.length:Int)))) (Qa rfl rfl rfl rfl) rfl (QB (tn ?_)))))))))
          rcases Zf H with ⟨hb41496,H⟩ | ⟨hb41496,H⟩
          ·refine QQ (congrArg Value.bool hb41496) ?_
           refine Qr (tn (QE ?_))
           refine YP ?_
           refine QA (W_v (pt b40590 3) (QC (o:=0) (off:=3) Tryd.underlying43 rfl ty41 rfl rfl) rfl (W_v (.slice A41475 x41474.length c41476) (QO (S.blk 1 rfl) ty41 rfl rfl) rfl (W_v (vI x41473) (QD rfl) rfl ?_)))
           obtain ⟨⟨p41497,p41498⟩,H⟩:=Yy H
           obtain ⟨b41499,o41500,cs41501,_,_,ee41506,hb41502,vs41503,hR41504,hc41505⟩:=SlW.at' (S.row_read 0 rfl) p41497 p41498
           obtain rfl:vs41503=_:=hR41504
           refine W_v (.pointer (some ⟨b41499,o41500+x41473.toNat*2,none⟩)) (Qy Tryd.underlying41 ty87 (slA ee41506) rfl p41497 p41498) rfl (W_v (.pointer (some ⟨b41499,o41500+x41473.toNat*2+1,none⟩)) (QC (o:=o41500+x41473.toNat*2) (off:=1) Tryd.underlying87 rfl ty9 rfl rfl) rfl ?_)
           obtain ⟨x41508,he41509,H⟩:=QW H
           replace he41509:=Option.some.inj he41509
           refine X6 S 0 rfl rfl ee41506 (by first | exact p41497 | simpa using p41497) (by first | exact p41498 | simpa using p41498) 1 ty9 rfl rfl [vS cz17] rfl rfl rfl rfl (⟨(rd x41474 x41473).Key,cz17⟩:Qf) (by rintro _ rfl;rfl) he41509 ?_
           intro w41507 E' S
           replace E:=E.trans E'
           have hs41510:Value.slice A41475 x41474.length c41476=Value.slice A41475 x41508.length c41476:=by rw [← he41509,List.length_set]
           try unfold B94 at S
           try unfold B121 at S
           try rw [hs41510] at S
           try rw [hs41510]
           have p41511:x41473 < (x41508.length:Int):=by rw [← he41509,List.length_set];exact p41498
           refine QB (bn (tn (QA (W_v (vI x41473) (QD rfl) rfl (W_v (vI (IntKind.i64.wrap (x41473+(1:Int)))) (Qa rfl rfl rfl rfl) rfl (W_v (vI (IntKind.i64.wrap (x41473+(1:Int)))) (QG rfl) rfl (QB (tn ?_))))))))
           exact ⟨k,Nat.lt_succ_self k,⟨(IntKind.i64.wrap (x41473+(1:Int))),x41508,A41475,c41476,H,⟨rfl,rfl,rfl,rfl,rfl,rfl,trivial⟩,E,S.pick [0,1,2,3,4,5,6,7] (by decide)⟩⟩
          refine QK (congrArg Value.bool hb41496) ?_
          refine Y0 ?_
          refine tx (tx (bsm (?_)))
          refine tn ?_
          exact ⟨Option.some.inj H,⟨rfl,rfl,rfl,rfl,trivial⟩,E,S.pick [2,3,4,5,6,7] (by decide)⟩
       rintro ρ w41512 ⟨rfl,hρ,E,S⟩
       rw [QI hρ]
       have H:=o41494H
       refine bn (tn (QA (W_v (vI x31176) (QD rfl) rfl (W_v (vI (IntKind.i64.wrap (x31176+(1:Int)))) (Qa rfl rfl rfl rfl) rfl (W_v (vI (IntKind.i64.wrap (x31176+(1:Int)))) (QG rfl) rfl (QB (tn ?_)))))))
       exact ⟨k,Nat.lt_succ_self k,⟨(IntKind.i64.wrap (x31176+(1:Int))),x40608,x40615,A40609,c40610,A40612,c40613,A40616,c40617,A40619,c40620,A40622,c40623,A40625,c40626,vs40628,M41359,H,⟨rfl,rfl,rfl,rfl,trivial⟩,hM36357,E,S.pick [0,1,2,3,4,5] (by decide),hs40611,hs40614,hm40629⟩⟩
      refine QK (congrArg Value.bool hb36358) ?_
      refine Y0 ?_
      refine tx (tx (bsm (?_)))
      refine tn ?_
      exact ⟨M36356,Option.some.inj H,trivial,hM36357,E,S.pick [] (by decide)⟩
   rintro ρ w41513 ⟨M41514,rfl,hρ,hM41515,E,S⟩
   rw [QI hρ]
   replace hg0:=gup hg0 hM41515
   replace HM:=Hp.le_trans HM hM41515
   have H:=o36354H
   replace H:=elimR H
   refine tn ?_
   as_aux_lemma =>
   refine QE (QA ?_)
   obtain ⟨t41516,ht41517,H⟩:=QW H
   refine Zz fn11 (YF.con k M41514  t41516 hg0 ht41517) S rfl rfl (by rintro _ _ _ ⟨_,rfl⟩;exact Qd) ?_
   rintro _ w41518 _ Γ' E' S ⟨rfl,rfl⟩
   replace E:=E.trans E'
   refine W_v (.bool t41516) (QG rfl) rfl (QB (tn ?_))
   refine Qs ?_
   obtain rfl:=Option.some.inj H
   exact ⟨_,_,_,fun w1 e1=>QX (vs:=[.bool t41516]) (FA.cons (rfl) (FA.nil)),HM,E,S.pick [] (by decide),⟨rfl,rfl⟩⟩
end Go.Proofs.YtcngjjlhdlbogaaDoor
