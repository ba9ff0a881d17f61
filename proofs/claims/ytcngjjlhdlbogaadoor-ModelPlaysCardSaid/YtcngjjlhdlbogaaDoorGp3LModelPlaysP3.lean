import Derived.Test.YtcngjjlhdlbogaaDoorGp3B
import Derived.Test.YtcngjjlhdlbogaaDoorGp3LModelPlaysP2
namespace Go.Proofs.YtcngjjlhdlbogaaDoor
open Go
set_option linter.unusedVariables false
set_option linter.unusedSimpArgs false
set_option maxHeartbeats 80000000
set_option maxRecDepth 100000
def Ye (k:Nat) (a0:(List QS)) (a1:Int):Option (QS×Bool) :=
 (Option.bind (Yd k a0 a1) (fun t4=>(Option.bind (α:=Bool) (if (t4==(a0.length:Int))=true then some (true) else (if 0≤t4∧t4 < (a0.length:Int) then some ((rd a0 t4).Tomb) else none)) (fun x28=>(if x28=true then some ((⟨(0:Int),(0:Int),false,([]:Str)⟩:QS),false) else (if 0≤t4∧t4 < (a0.length:Int) then some ((rd a0 t4),true) else none))))))
theorem Ye.mono {k:Nat} {a0:(List QS)} {a1:Int}:OLe (Ye k a0 a1) (Ye (k+1) a0 a1):=by
 unfold Ye
 have m1:=@Yd.mono
 exact mo
theorem Ye.con (k:Nat) (M:Hp) (A0:Option Addr) (c0:Nat) (a0:(List QS)) (a1:Int) (r:QS×Bool) (hr0:SlR Q4 M (.slice A0 a0.length c0) a0) (h:Ye k a0 a1=some r):Con Tryd.prog 79 #[.slice A0 a0.length c0,vI a1] M [] (fun v M' Γ'=>v=.tuple #[.agg #[vI r.1.Writer,vI r.1.TS,.bool r.1.Tomb,vS r.1.Value],.bool r.2]∧Γ'=[]):=by
 refine Qt Tryd.func79 rfl Tryd.ntmps79 Tryd.results79 rfl ?_
 intro w F rn S hrn
 have E:=Ext.refl w
 have HM:=Hp.le_refl M
 have H:=h
 unfold Ye at H
 refine QE (QA ?_)
 refine Zo S cz16 ty61 rfl rfl ?_
 intro b1 w2 E' S
 replace E:=E.trans E'
 refine W_v (.bool false) (QG rfl) rfl (QB (tn (QE (QA (W_v (.slice A0 a0.length c0) (QD rfl) rfl (W_v (vI a1) (QD rfl) rfl ?_))))))
 obtain ⟨t4,ht5,H⟩:=QW H
 refine Zz fn88 (Yd.con k M A0 c0 a0 a1 t4 hr0 ht5) S rfl rfl (by rintro _ _ _ ⟨_,rfl⟩;exact Qd) ?_
 rintro _ w6 _ Γ' E' S ⟨rfl,rfl⟩
 replace E:=E.trans E'
 refine W_v (vI t4) (QG rfl) rfl (QB (tn (QE (QE (QA (W_v (vI t4) (QD rfl) rfl (W_v (.slice A0 a0.length c0) (QD rfl) rfl (W_v (vI (a0.length:Int)) (Q8 (n:=a0.length) Tryd.underlying65 rfl) rfl (W_v (.bool (t4==(a0.length:Int))) (Qa rfl rfl rfl rfl) rfl (W_v (.bool (t4==(a0.length:Int))) (QD rfl) rfl ?_))))))))))
 obtain ⟨o29,o29h,o29H⟩:=QW H
 refine ZH 6 (fun ρ w'=>∃ (x28:Bool),(x28)=o29∧Qi ρ [(0,.slice A0 a0.length c0),(4,pt b1 0),(6,vI t4),(20,.bool x28)]∧Ext w w'∧St w' M F [Blk b1 (.cells cz16 61 (0,0))]) ?_ ?_
 ·have H:=o29h
  rcases Zf H with ⟨hb27,H⟩ | ⟨hb27,H⟩
  ·skip
   refine QZ (skF hb27) rfl (QZ (skF hb27) rfl (QZ (skF hb27) rfl (QZ (skF hb27) rfl (QZ (skF hb27) rfl (W_v (.bool true) (QV (k:=true) (congrArg Value.bool hb27) rfl) rfl (QB ?_))))))
   exact ⟨true,Option.some.inj H,⟨rfl,rfl,rfl,rfl,trivial⟩,E,S.pick [0] (by decide)⟩
  ·skip
   refine QP (congrArg some hb27) (W_v (.slice A0 a0.length c0) (QD rfl) rfl (QP (congrArg some hb27) (W_v (vI t4) (QD rfl) rfl (QP (congrArg some hb27) ?_))))
   obtain ⟨⟨p30,p31⟩,H⟩:=Yy H
   obtain ⟨b32,o33,cs34,_,_,ee39,hb35,vs36,hR37,hc38⟩:=SlW.at' hr0 p30 p31
   obtain rfl:vs36=_:=hR37
   refine W_v (.pointer (some ⟨b32,o33+t4.toNat*4,none⟩)) (Qy Tryd.underlying65 ty61 (slA ee39) rfl p30 p31) rfl (QP (congrArg some hb27) (W_v (.pointer (some ⟨b32,o33+t4.toNat*4+2,none⟩)) (QC (o:=o33+t4.toNat*4) (off:=2) Tryd.underlying61 rfl ty4 rfl rfl) rfl (QP (congrArg some hb27) (W_v (.bool ((rd a0 t4).Tomb)) (QO (S.frz hb35) ty4 rfl (hc38 2 _ rfl)) rfl (W_v (.bool ((rd a0 t4).Tomb)) (QV (k:=false) (congrArg Value.bool hb27) rfl) rfl (QB ?_))))))
   exact ⟨((rd a0 t4).Tomb),Option.some.inj H,⟨rfl,rfl,rfl,rfl,trivial⟩,E,S.pick [0] (by decide)⟩
 as_aux_lemma =>
 rintro ρ w40 ⟨x28,rfl,hρ,E,S⟩
 rw [QI hρ]
 have H:=o29H
 refine QB (tn ?_)
 rcases Zf H with ⟨hb41,H⟩ | ⟨hb41,H⟩
 ·refine QQ (congrArg Value.bool hb41) ?_
  refine QE (QA (W_v (.agg cz16) (Z3 (pl:=[(0,1),(1,1),(2,1),(3,1)]) cz16 Tryd.underlying61 ty61 (by as_aux_lemma=>kernel_rfl) rfl (by as_aux_lemma=>kernel_rfl)) rfl ?_))
  refine Qx S 0 rfl ty61 rfl rfl [vI 0,vI 0,.bool false,vS ([]:Str)] rfl rfl rfl cz16 rfl rfl ?_
  intro w42 E' S
  replace E:=E.trans E'
  refine W_v (.bool false) (QG rfl) rfl (QB (tn ?_))
  refine Qs ?_
  refine tr (?_)
  obtain rfl:=Option.some.inj H
  exact ⟨_,_,_,fun w1 e1=>QX (vs:=[.agg cz16,.bool false]) (FA.cons (⟨_,rfl,Qn ty61 ((S.of_eq e1).blk 0 rfl) (QM rfl) rfl (by decide)⟩) (FA.cons (rfl) (FA.nil))),HM,E,S.pick [] (by decide),⟨rfl,rfl⟩⟩
 refine QK (congrArg Value.bool hb41) (Qr (tn (QE (QA (W_v (.slice A0 a0.length c0) (QD rfl) rfl (W_v (vI t4) (QD rfl) rfl ?_))))))
 obtain ⟨⟨p43,p44⟩,H⟩:=Yy H
 obtain ⟨b45,o46,cs47,_,_,ee52,hb48,vs49,hR50,hc51⟩:=SlW.at' hr0 p43 p44
 obtain rfl:vs49=_:=hR50
 refine W_v (.pointer (some ⟨b45,o46+t4.toNat*4,none⟩)) (Qy Tryd.underlying65 ty61 (slA ee52) rfl p43 p44) rfl (W_v (.agg #[vI ((rd a0 t4).Writer),vI ((rd a0 t4).TS),.bool ((rd a0 t4).Tomb),vS ((rd a0 t4).Value)]) (ZA (S.frz hb48) ty61 rfl (Xa hc51 0 rfl) rfl rfl) rfl ?_)
 refine Qx S 0 rfl ty61 rfl rfl [vI ((rd a0 t4).Writer),vI ((rd a0 t4).TS),.bool ((rd a0 t4).Tomb),vS ((rd a0 t4).Value)] rfl rfl rfl #[vI ((rd a0 t4).Writer),vI ((rd a0 t4).TS),.bool ((rd a0 t4).Tomb),vS ((rd a0 t4).Value)] rfl rfl ?_
 intro w53 E' S
 replace E:=E.trans E'
 refine W_v (.bool true) (QG rfl) rfl (QB (tn ?_))
 refine Qs ?_
 obtain rfl:=Option.some.inj H
 exact ⟨_,_,_,fun w1 e1=>QX (vs:=[.agg #[vI ((rd a0 t4).Writer),vI ((rd a0 t4).TS),.bool ((rd a0 t4).Tomb),vS ((rd a0 t4).Value)],.bool true]) (FA.cons (⟨_,rfl,Qn ty61 ((S.of_eq e1).blk 0 rfl) (QM rfl) rfl (by decide)⟩) (FA.cons (rfl) (FA.nil))),HM,E,S.pick [] (by decide),⟨rfl,rfl⟩⟩
def Yl (k:Nat) (a0:(List QS)) (a1:Int):Option (Bool) :=
 (Option.bind (α:=Bool) (if (decide ((a0.length:Int) > (0:Int)))=true then (if 0≤(0:Int)∧(0:Int) < (a0.length:Int) then some ((decide ((rd a0 (0:Int)).TS > a1))) else none) else some (false)) (fun x22=>some x22))
theorem Yl.mono {k:Nat} {a0:(List QS)} {a1:Int}:OLe (Yl k a0 a1) (Yl (k+1) a0 a1):=by
 unfold Yl
 exact mo
theorem Yl.con (k:Nat) (M:Hp) (A0:Option Addr) (c0:Nat) (a0:(List QS)) (a1:Int) (r:Bool) (hr0:SlR Q4 M (.slice A0 a0.length c0) a0) (h:Yl k a0 a1=some r):Con Tryd.prog 80 #[.slice A0 a0.length c0,vI a1] M [] (fun v M' Γ'=>v=.bool r∧Γ'=[]):=by
 refine Qt Tryd.func80 rfl Tryd.ntmps80 Tryd.results80 rfl ?_
 intro w F rn S hrn
 have E:=Ext.refl w
 have HM:=Hp.le_refl M
 have H:=h
 unfold Yl at H
 refine QE (QA (W_v (.bool false) (QG rfl) rfl (QB (tn (QE (QA (W_v (.slice A0 a0.length c0) (QD rfl) rfl (W_v (vI (a0.length:Int)) (Q8 (n:=a0.length) Tryd.underlying65 rfl) rfl (W_v (.bool (decide ((a0.length:Int) > (0:Int)))) (Qa rfl rfl rfl rfl) rfl (W_v (.bool (decide ((a0.length:Int) > (0:Int)))) (QD rfl) rfl ?_))))))))))
 obtain ⟨o23,o23h,o23H⟩:=QW H
 refine ZH 7 (fun ρ w'=>∃ (x22:Bool),(x22)=o23∧Qi ρ [(15,.bool x22)]∧Ext w w'∧St w' M F []) ?_ ?_
 ·have H:=o23h
  rcases Zf H with ⟨hb21,H⟩ | ⟨hb21,H⟩
  ·skip
   refine QP (congrArg some hb21) (W_v (.slice A0 a0.length c0) (QD rfl) rfl (QP (congrArg some hb21) ?_))
   obtain ⟨⟨p24,p25⟩,H⟩:=Yy H
   obtain ⟨b26,o27,cs28,_,_,ee33,hb29,vs30,hR31,hc32⟩:=SlW.at' hr0 p24 p25
   obtain rfl:vs30=_:=hR31
   refine W_v (.pointer (some ⟨b26,o27+(0:Int).toNat*4,none⟩)) (Qy Tryd.underlying65 ty61 (slA ee33) rfl p24 p25) rfl (QP (congrArg some hb21) (W_v (.pointer (some ⟨b26,o27+(0:Int).toNat*4+1,none⟩)) (QC (o:=o27+(0:Int).toNat*4) (off:=1) Tryd.underlying61 rfl ty3 rfl rfl) rfl (QP (congrArg some hb21) (W_v (vI ((rd a0 (0:Int)).TS)) (QO (S.frz hb29) ty3 rfl (hc32 1 _ rfl)) rfl (QP (congrArg some hb21) (W_v (vI a1) (QD rfl) rfl (QP (congrArg some hb21) (W_v (.bool (decide ((rd a0 (0:Int)).TS > a1))) (Qa rfl rfl rfl rfl) rfl (W_v (.bool (decide ((rd a0 (0:Int)).TS > a1))) (QV (k:=true) (congrArg Value.bool hb21) rfl) rfl (QB ?_))))))))))
   exact ⟨(decide ((rd a0 (0:Int)).TS > a1)),Option.some.inj H,⟨rfl,trivial⟩,E,S.pick [] (by decide)⟩
  ·skip
   refine QZ (skT hb21) rfl (QZ (skT hb21) rfl (QZ (skT hb21) rfl (QZ (skT hb21) rfl (QZ (skT hb21) rfl (QZ (skT hb21) rfl (W_v (.bool false) (QV (k:=false) (congrArg Value.bool hb21) rfl) rfl (QB ?_)))))))
   exact ⟨false,Option.some.inj H,⟨rfl,trivial⟩,E,S.pick [] (by decide)⟩
 rintro ρ w34 ⟨x22,rfl,hρ,E,S⟩
 rw [QI hρ]
 have H:=o23H
 refine W_v (.bool x22) (QG rfl) rfl (QB (tn ?_))
 refine Qs ?_
 obtain rfl:=Option.some.inj H
 exact ⟨_,_,_,fun w1 e1=>QX (vs:=[.bool x22]) (FA.cons (rfl) (FA.nil)),HM,E,S.pick [] (by decide),⟨rfl,rfl⟩⟩
def YL (a0:(List QS)) (t1:Int):Nat→List QS→Int→Option ((List QS))
 | 0,_,_=>none
 | k+1,x462,x466=>(if ((decide (x466 < (a0.length:Int)))&&(decide (x466≤t1)))=true then (Option.bind (α:=List QS) (Option.bind (α:=Bool) (if (decide (x466 < t1))=true then some (true) else (if 0≤x466∧x466 < (a0.length:Int) then some ((!((rd a0 x466).Tomb))) else none)) (fun x828=>(Option.bind (α:=List QS) (if x828=true then (if 0≤x466∧x466 < (a0.length:Int) then (if x462.length+([(rd a0 x466)]:List QS).length≤3518437208883 then some ((x462++([(rd a0 x466)]:List QS))) else none) else none) else some (x462)) (fun x885=>some (x885))))) (fun x802=>YL a0 t1 k x802 (IntKind.i64.wrap (x466+(1:Int))))) else some (x462))
theorem YL.mono {a0:(List QS)} {t1:Int}:∀ {kl:Nat} {x0 x1},OLe (YL a0 t1 kl x0 x1) (YL a0 t1 (kl+1) x0 x1):=by
 intro kl
 induction kl with
 | zero=>intros;exact OLe.none
 | succ kl ih =>
  intros
  rw [YL.eq_2,YL.eq_2]
  exact mo
def Yw (k:Nat) (a0:(List QS)) (a1:Int):Option ((List QS)) :=
 (Option.bind (Yd k a0 a1) (fun t1=>(Option.bind (YL a0 t1 k ([]:List QS) (0:Int)) (fun x687=>some x687))))
theorem Yw.mono {k:Nat} {a0:(List QS)} {a1:Int}:OLe (Yw k a0 a1) (Yw (k+1) a0 a1):=by
 unfold Yw
 have m1:=@YL.mono
 have m2:=@Yd.mono
 exact mo
theorem Yw.con (k:Nat) (M:Hp) (A0:Option Addr) (c0:Nat) (a0:(List QS)) (a1:Int) (r:(List QS)) (hr0:SlR Q4 M (.slice A0 a0.length c0) a0) (h:Yw k a0 a1=some r):Con Tryd.prog 82 #[.slice A0 a0.length c0,vI a1] M [] (fun v M' Γ'=>∃ (A0:Option Addr) (c0:Nat),v=.slice A0 r.length c0∧Γ'=[Row Q4 61 (.slice A0 r.length c0) r]):=by
 refine Qt Tryd.func82 rfl Tryd.ntmps82 Tryd.results82 rfl ?_
 intro w F rn S hrn
 have E:=Ext.refl w
 have HM:=Hp.le_refl M
 have H:=h
 unfold Yw at H
 refine QE (QA (W_v (.slice none 0 0) (QG rfl) rfl (QB (tn (QE (QA (W_v (.slice A0 a0.length c0) (QD rfl) rfl (W_v (vI a1) (QD rfl) rfl ?_))))))))
 obtain ⟨t1,ht2,H⟩:=QW H
 refine Zz fn88 (Yd.con k M A0 c0 a0 a1 t1 hr0 ht2) S rfl rfl (by rintro _ _ _ ⟨_,rfl⟩;exact Qd) ?_
 rintro _ w3 _ Γ' E' S ⟨rfl,rfl⟩
 replace E:=E.trans E'
 refine W_v (vI t1) (QG rfl) rfl (QB (tn (QE (QA (W_v (.slice none 0 0) (QG rfl) rfl (QB (tn (QE (QE (QA (W_v (vI 0) (QG rfl) rfl (QB (tn ?_)))))))))))))
 obtain ⟨o691,o691h,o691H⟩:=QW H
 refine Yj (fun ρ w'=>∃ (x687:List QS) (A688:Option Addr) (c689:Nat),(x687)=o691∧Qi ρ [(6,.slice A688 x687.length c689)]∧Ext w w'∧St w' M F [Row Q4 61 (.slice A688 x687.length c689) x687]) ?_ ?_
 ·skip
  refine Y3 (fun n ρ w'=>∃ (x462:List QS) (x466:Int) (A463:Option Addr) (c464:Nat),YL a0 t1 n x462 x466=some o691∧Qi ρ [(0,.slice A0 a0.length c0),(5,vI t1),(6,.slice A463 x462.length c464),(7,vI x466)]∧Ext w w'∧St w' M F [Row Q4 61 (.slice A463 x462.length c464) x462]) k ?_ ?_
  ·skip
   replace S:=S.row_nil Q4 61
   exact ⟨([]:List QS),(0:Int),none,0,o691h,⟨rfl,rfl,rfl,rfl,trivial⟩,E,S.pick [0] (by decide)⟩
  ·intro n
   rintro ρ w693 ⟨x462,x466,A463,c464,H,hρ,E,S⟩
   rw [QI hρ]
   cases n with
   | zero=>cases H
   | succ k =>
    rw [YL.eq_2] at H
    refine QE (QE (QA (W_v (vI x466) (QD rfl) rfl (W_v (.slice A0 a0.length c0) (QD rfl) rfl (W_v (vI (a0.length:Int)) (Q8 (n:=a0.length) Tryd.underlying65 rfl) rfl (W_v (.bool (decide (x466 < (a0.length:Int)))) (Qa rfl rfl rfl rfl) rfl (W_v (.bool (decide (x466 < (a0.length:Int)))) (QD rfl) rfl ?_)))))))
    refine ZH 4 (fun ρ w'=>Qi ρ [(0,.slice A0 a0.length c0),(5,vI t1),(6,.slice A463 x462.length c464),(7,vI x466),(19,.bool ((decide (x466 < (a0.length:Int)))&&(decide (x466≤t1))))]∧w693=w') ?_ ?_
    ·rcases ZX (decide (x466 < (a0.length:Int))) with hb694 | hb694
     ·skip
      refine QZ (skT hb694) rfl (QZ (skT hb694) rfl (QZ (skT hb694) rfl (W_v (.bool false) (QV (k:=false) (congrArg Value.bool hb694) rfl) rfl (QB ?_))))
      exact ⟨⟨rfl,rfl,rfl,rfl,(by first | rfl | (rw [hb694];rfl) | (simp only [hb694];rfl)),trivial⟩,rfl⟩
     ·skip
      refine QP (congrArg some hb694) (W_v (vI x466) (QD rfl) rfl (QP (congrArg some hb694) (W_v (vI t1) (QD rfl) rfl (QP (congrArg some hb694) (W_v (.bool (decide (x466≤t1))) (Qa rfl rfl rfl rfl) rfl (W_v (.bool (decide (x466≤t1))) (QV (k:=true) (congrArg Value.bool hb694) rfl) rfl (QB ?_)))))))
      exact ⟨⟨rfl,rfl,rfl,rfl,(by first | rfl | (rw [hb694];rfl) | (simp only [hb694];rfl)),trivial⟩,rfl⟩
    as_aux_lemma =>
    rintro ρ _ ⟨hρ,rfl⟩
    rw [QI hρ]
    refine QB (tn ?_)
    rcases Zf H with ⟨hb695,H⟩ | ⟨hb695,H⟩
    ·refine QQ (congrArg Value.bool hb695) ?_
     refine Qr (tn (QE ?_))
     obtain ⟨o806,o806h,o806H⟩:=QW H
     refine Y7 (fun ρ w'=>∃ (x802:List QS) (A803:Option Addr) (c804:Nat),(x802)=o806∧Qi ρ [(0,.slice A0 a0.length c0),(5,vI t1),(6,.slice A803 x802.length c804),(7,vI x466)]∧Ext w w'∧St w' M F [Row Q4 61 (.slice A803 x802.length c804) x802]) ?_ ?_
     ·as_aux_lemma =>
       clear o806H
       have H:=o806h
       refine YP ?_
       refine QE (QA (W_v (vI x466) (QD rfl) rfl (W_v (vI t1) (QD rfl) rfl (W_v (.bool (decide (x466 < t1))) (Qa rfl rfl rfl rfl) rfl (W_v (.bool (decide (x466 < t1))) (QD rfl) rfl ?_)))))
       obtain ⟨o829,o829h,o829H⟩:=QW H
       refine ZH 7 (fun ρ w'=>∃ (x828:Bool),(x828)=o829∧Qi ρ [(0,.slice A0 a0.length c0),(5,vI t1),(6,.slice A463 x462.length c464),(7,vI x466),(32,.bool x828)]∧Ext w w'∧St w' M F [Row Q4 61 (.slice A463 x462.length c464) x462]) ?_ ?_
       ·have H:=o829h
        rcases Zf H with ⟨hb827,H⟩ | ⟨hb827,H⟩
        ·skip
         refine QZ (skF hb827) rfl (QZ (skF hb827) rfl (QZ (skF hb827) rfl (QZ (skF hb827) rfl (QZ (skF hb827) rfl (QZ (skF hb827) rfl (W_v (.bool true) (QV (k:=true) (congrArg Value.bool hb827) rfl) rfl (QB ?_)))))))
         exact ⟨true,Option.some.inj H,⟨rfl,rfl,rfl,rfl,rfl,trivial⟩,E,S.pick [0] (by decide)⟩
        ·skip
         refine QP (congrArg some hb827) (W_v (.slice A0 a0.length c0) (QD rfl) rfl (QP (congrArg some hb827) (W_v (vI x466) (QD rfl) rfl (QP (congrArg some hb827) ?_))))
         obtain ⟨⟨p830,p831⟩,H⟩:=Yy H
         obtain ⟨b832,o833,cs834,_,_,ee839,hb835,vs836,hR837,hc838⟩:=SlW.at' hr0 p830 p831
         obtain rfl:vs836=_:=hR837
         refine W_v (.pointer (some ⟨b832,o833+x466.toNat*4,none⟩)) (Qy Tryd.underlying65 ty61 (slA ee839) rfl p830 p831) rfl (QP (congrArg some hb827) (W_v (.pointer (some ⟨b832,o833+x466.toNat*4+2,none⟩)) (QC (o:=o833+x466.toNat*4) (off:=2) Tryd.underlying61 rfl ty4 rfl rfl) rfl (QP (congrArg some hb827) (W_v (.bool ((rd a0 x466).Tomb)) (QO (S.frz hb835) ty4 rfl (hc838 2 _ rfl)) rfl (QP (congrArg some hb827) (W_v (.bool (!((rd a0 x466).Tomb))) (Y5 (b:=((rd a0 x466).Tomb)) rfl) rfl (W_v (.bool (!((rd a0 x466).Tomb))) (QV (k:=false) (congrArg Value.bool hb827) rfl) rfl (QB ?_))))))))
         exact ⟨(!((rd a0 x466).Tomb)),Option.some.inj H,⟨rfl,rfl,rfl,rfl,rfl,trivial⟩,E,S.pick [0] (by decide)⟩
       as_aux_lemma =>
       rintro ρ w840 ⟨x828,rfl,hρ,E,S⟩
       rw [QI hρ]
       have H:=o829H
       refine QB (tn ?_)
       obtain ⟨o889,o889h,o889H⟩:=QW H
       refine Y7 (fun ρ w'=>∃ (x885:List QS) (A886:Option Addr) (c887:Nat),(x885)=o889∧Qi ρ [(0,.slice A0 a0.length c0),(5,vI t1),(6,.slice A886 x885.length c887),(7,vI x466)]∧Ext w w'∧St w' M F [Row Q4 61 (.slice A886 x885.length c887) x885]) ?_ ?_
       ·clear o889H
        have H:=o889h
        rcases Zf H with ⟨hb890,H⟩ | ⟨hb890,H⟩
        ·refine QQ (congrArg Value.bool hb890) ?_
         refine QA (W_v (.slice A463 x462.length c464) (QD rfl) rfl (W_v (.slice A0 a0.length c0) (QD rfl) rfl (W_v (vI x466) (QD rfl) rfl ?_)))
         obtain ⟨⟨p891,p892⟩,H⟩:=Yy H
         obtain ⟨b893,o894,cs895,_,_,ee900,hb896,vs897,hR898,hc899⟩:=SlW.at' hr0 p891 p892
         obtain rfl:vs897=_:=hR898
         refine W_v (.pointer (some ⟨b893,o894+x466.toNat*4,none⟩)) (Qy Tryd.underlying65 ty61 (slA ee900) rfl p891 p892) rfl (W_v (.agg #[vI ((rd a0 x466).Writer),vI ((rd a0 x466).TS),.bool ((rd a0 x466).Tomb),vS ((rd a0 x466).Value)]) (ZA (S.frz hb896) ty61 rfl (Xa hc899 0 rfl) rfl rfl) rfl ?_)
         refine XE S #[vI ((rd a0 x466).Writer),vI ((rd a0 x466).TS),.bool ((rd a0 x466).Tomb),vS ((rd a0 x466).Value)] Tryd.underlying65 ty61 rfl rfl cz16 (by as_aux_lemma=>kernel_rfl) (by as_aux_lemma=>kernel_rfl) rfl ?_
         intro b901 w902 E' S
         replace E:=E.trans E'
         replace S:=S.blk_row (r:=Q4) (l:=([(rd a0 x466)]:List QS)) 0 rfl 1 (Nat.le_refl 1) rfl (Cells.cons (vs:=[vI ((rd a0 x466).Writer),vI ((rd a0 x466).TS),.bool ((rd a0 x466).Tomb),vS ((rd a0 x466).Value)]) (rfl) Cells.nil)
         obtain ⟨p904,H⟩:=Yy H
         obtain ⟨src905,hs906,hC907⟩:=Y1 (P:=Tryd.prog) (ρ:=Q4) (l:=([(rd a0 x466)]:List QS)) (S.row_read 0 rfl) (by decide)
         refine XL S 1 rfl rfl rfl Tryd.underlying65 (.inl Tryd.underlying65) ty61 rfl (by decide) (by decide) hs906 hC907 rfl (by omega) rfl ?_
         intro v908 w909 E' S
         replace E:=E.trans E'
         obtain ⟨A910,c911,rfl,_⟩:=(S.row_read 1 rfl).form
         refine W_v (.slice A910 (x462++([(rd a0 x466)]:List QS)).length c911) (QG rfl) rfl (QB (tn ?_))
         exact ⟨(x462++([(rd a0 x466)]:List QS)),A910,c911,Option.some.inj H,⟨rfl,rfl,rfl,rfl,trivial⟩,E,S.pick [1] (by decide)⟩
        refine QK (congrArg Value.bool hb890) (Qr (tn ?_))
        exact ⟨x462,A463,c464,Option.some.inj H,⟨rfl,rfl,rfl,rfl,trivial⟩,E,S.pick [0] (by decide)⟩
       rintro ρ w912 ⟨x885,A886,c887,rfl,hρ,E,S⟩
       rw [QI hρ]
       have H:=o889H
       refine bn (tn ?_)
       exact ⟨x885,A886,c887,Option.some.inj H,⟨rfl,rfl,rfl,rfl,trivial⟩,E,S.pick [0] (by decide)⟩
     rintro ρ w913 ⟨x802,A803,c804,rfl,hρ,E,S⟩
     rw [QI hρ]
     have H:=o806H
     refine tn (QA (W_v (vI x466) (QD rfl) rfl (W_v (vI (IntKind.i64.wrap (x466+(1:Int)))) (Qa rfl rfl rfl rfl) rfl (W_v (vI (IntKind.i64.wrap (x466+(1:Int)))) (QG rfl) rfl (QB (tn ?_))))))
     exact ⟨k,Nat.lt_succ_self k,⟨x802,(IntKind.i64.wrap (x466+(1:Int))),A803,c804,H,⟨rfl,rfl,rfl,rfl,trivial⟩,E,S.pick [0] (by decide)⟩⟩
    refine QK (congrArg Value.bool hb695) ?_
    refine Y0 ?_
    refine tx (tx (bsm (?_)))
    refine tn ?_
    exact ⟨x462,A463,c464,Option.some.inj H,⟨rfl,trivial⟩,E,S.pick [0] (by decide)⟩
 rintro ρ w914 ⟨x687,A688,c689,rfl,hρ,E,S⟩
 rw [QI hρ]
 have H:=o691H
 refine tn ?_
 as_aux_lemma =>
 refine QE (QA (W_v (.slice A688 x687.length c689) (QD rfl) rfl (W_v (.slice A688 x687.length c689) (QG rfl) rfl (QB (tn ?_)))))
 refine Qs ?_
 obtain rfl:=Option.some.inj H
 exact ⟨_,_,_,fun w1 e1=>QX (vs:=[.slice A688 x687.length c689]) (FA.cons (rfl) (FA.nil)),HM,E,S.pick [0] (by decide),⟨A688,c689,rfl,rfl⟩⟩
def ZN (a0:(List Qf)) (a1:(List Qf)):Nat→Int→Option ((Bool)⊕(Unit))
 | 0,_=>none
 | k+1,x92=>(if (decide (x92 < (a0.length:Int)))=true then (if 0≤x92∧x92 < (a0.length:Int) then (if 0≤x92∧x92 < (a1.length:Int) then (if (!(((rd a0 x92).Key==(rd a1 x92).Key)&&((rd a0 x92).Value==(rd a1 x92).Value)))=true then some (.inl false) else ZN a0 a1 k (IntKind.i64.wrap (x92+(1:Int)))) else none) else none) else some (.inr ()))
theorem ZN.mono {a0:(List Qf)} {a1:(List Qf)}:∀ {kl:Nat} {x0},OLe (ZN a0 a1 kl x0) (ZN a0 a1 (kl+1) x0):=by
 intro kl
 induction kl with
 | zero=>intros;exact OLe.none
 | succ kl ih =>
  intros
  rw [ZN.eq_2,ZN.eq_2]
  exact mo
def Zt (k:Nat) (a0:(List Qf)) (a1:(List Qf)):Option (Bool) :=
 (if ((a0.length:Int) != (a1.length:Int))=true then some false else (Option.bind (ZN a0 a1 k (0:Int)) (fun o137o=>Sum.elim (fun r'=>some r') (fun _=>some true) o137o)))
theorem Zt.mono {k:Nat} {a0:(List Qf)} {a1:(List Qf)}:OLe (Zt k a0 a1) (Zt (k+1) a0 a1):=by
 unfold Zt
 have m1:=@ZN.mono
 exact mo
theorem Zt.con (k:Nat) (M:Hp) (A0:Option Addr) (c0:Nat) (a0:(List Qf)) (A1:Option Addr) (c1:Nat) (a1:(List Qf)) (r:Bool) (hr0:SlR Qm M (.slice A0 a0.length c0) a0) (hr1:SlR Qm M (.slice A1 a1.length c1) a1) (h:Zt k a0 a1=some r):Con Tryd.prog 66 #[.slice A0 a0.length c0,.slice A1 a1.length c1] M [] (fun v M' Γ'=>v=.bool r∧Γ'=[]):=by
 refine Qt Tryd.func66 rfl Tryd.ntmps66 Tryd.results66 rfl ?_
 intro w F rn S hrn
 have E:=Ext.refl w
 have HM:=Hp.le_refl M
 have H:=h
 unfold Zt at H
 refine QE (QA (W_v (.bool false) (QG rfl) rfl (QB (tn (QE (QE (QA (W_v (.slice A0 a0.length c0) (QD rfl) rfl (W_v (vI (a0.length:Int)) (Q8 (n:=a0.length) Tryd.underlying41 rfl) rfl (W_v (.slice A1 a1.length c1) (QD rfl) rfl (W_v (vI (a1.length:Int)) (Q8 (n:=a1.length) Tryd.underlying41 rfl) rfl (W_v (.bool ((a0.length:Int) != (a1.length:Int))) (Qa rfl rfl rfl rfl) rfl (QB (tn ?_))))))))))))))
 rcases Zf H with ⟨hb1,H⟩ | ⟨hb1,H⟩
 ·refine QQ (congrArg Value.bool hb1) ?_
  refine QE (QA (W_v (.bool false) (QG rfl) rfl (QB (tn ?_))))
  refine Qs ?_
  refine tr (?_)
  obtain rfl:=Option.some.inj H
  exact ⟨_,_,_,fun w1 e1=>QX (vs:=[.bool false]) (FA.cons (rfl) (FA.nil)),HM,E,S.pick [] (by decide),⟨rfl,rfl⟩⟩
 refine QK (congrArg Value.bool hb1) (Qr (tn (QE (QE (QA (W_v (.slice A0 a0.length c0) (QD rfl) rfl (W_v (vI (a0.length:Int)) (Q8 (n:=a0.length) Tryd.underlying41 rfl) rfl (W_v (vI 0) (QD rfl) rfl (QB (tn ?_))))))))))
 obtain ⟨o137,o137h,o137H⟩:=QW H
 refine Yj (fun ρ w'=>.inr ()=o137∧Qi ρ []∧Ext w w'∧St w' M F []) ?_ ?_
 ·skip
  refine Y3 (fun n ρ w'=>∃ (x92:Int),ZN a0 a1 n x92=some o137∧Qi ρ [(0,.slice A0 a0.length c0),(1,.slice A1 a1.length c1),(12,vI (a0.length:Int)),(13,vI x92)]∧Ext w w'∧St w' M F []) k ?_ ?_
  ·skip
   exact ⟨(0:Int),o137h,⟨rfl,rfl,rfl,rfl,trivial⟩,E,S.pick [] (by decide)⟩
  ·intro n
   rintro ρ w138 ⟨x92,H,hρ,E,S⟩
   rw [QI hρ]
   cases n with
   | zero=>cases H
   | succ k =>
    rw [ZN.eq_2] at H
    refine QE (QA (W_v (.bool (decide (x92 < (a0.length:Int)))) (Qa rfl rfl rfl rfl) rfl (QB (tn (QE ?_)))))
    rcases Zf H with ⟨hb139,H⟩ | ⟨hb139,H⟩
    ·refine QQ (congrArg Value.bool hb139) ?_
     refine Qr (tn (QE ?_))
     refine YP ?_
     refine QE (QA (W_v (vI x92) (QD rfl) rfl (W_v (vI x92) (QG rfl) rfl (QB (tn (QE ?_))))))
     refine Q0 (S:=fun w'=>∃ Mx,M.le Mx∧St w' Mx F []) (L:=9) mixed ?_
     intro w160 hw161 E'
     replace S:=S.heap hw161
     replace E:=E.trans E'
     have D1:∃ Mx,Hp.le M Mx∧St _ Mx F []:=⟨_,Hp.le_refl _,S.pick [] (by decide)⟩
     refine Wt 0 rfl rfl rfl (.slice A0 a0.length c0) rfl (fun w' h'=>QD rfl) D1 (Wt 1 rfl rfl rfl (vI x92) rfl (fun w' h'=>QD rfl) D1 ?_)
     obtain ⟨⟨p162,p163⟩,H⟩:=Yy H
     obtain ⟨b164,o165,cs166,_,_,ee171,hb167,vs168,hR169,hc170⟩:=SlW.at' hr0 p162 p163
     obtain rfl:vs168=_:=hR169
     refine Wt 2 rfl rfl rfl (.pointer (some ⟨b164,o165+x92.toNat*2,none⟩)) rfl (fun w' h'=>Qy Tryd.underlying41 ty87 (slA ee171) rfl p162 p163) D1 (Wt 3 rfl rfl rfl (.agg #[vS ((rd a0 x92).Key),vS ((rd a0 x92).Value)]) rfl (fun w' h'=>ZA (XG h' hb167) ty87 rfl (Xa hc170 0 rfl) rfl rfl) D1 (Wt 4 rfl rfl rfl (.slice A1 a1.length c1) rfl (fun w' h'=>QD rfl) D1 (Wt 5 rfl rfl rfl (vI x92) rfl (fun w' h'=>QD rfl) D1 ?_)))
     obtain ⟨⟨p172,p173⟩,H⟩:=Yy H
     obtain ⟨b174,o175,cs176,_,_,ee181,hb177,vs178,hR179,hc180⟩:=SlW.at' hr1 p172 p173
     obtain rfl:vs178=_:=hR179
     refine Wt 6 rfl rfl rfl (.pointer (some ⟨b174,o175+x92.toNat*2,none⟩)) rfl (fun w' h'=>Qy Tryd.underlying41 ty87 (slA ee181) rfl p172 p173) D1 (Wt 7 rfl rfl rfl (.agg #[vS ((rd a1 x92).Key),vS ((rd a1 x92).Value)]) rfl (fun w' h'=>ZA (XG h' hb177) ty87 rfl (Xa hc180 0 rfl) rfl rfl) D1 (Wt 8 rfl rfl rfl (.bool (!(((rd a0 x92).Key==(rd a1 x92).Key)&&((rd a0 x92).Value==(rd a1 x92).Value)))) rfl (fun w' h'=>Vc (en87 _ _ _ _) rfl (eq87 _ ((rd a0 x92).Key) ((rd a0 x92).Value) ((rd a1 x92).Key) ((rd a1 x92).Value))) D1 ?_))
     refine Wz ?_
     refine tn ?_
     rcases Zf H with ⟨hb182,H⟩ | ⟨hb182,H⟩
     ·refine QQ (congrArg Value.bool hb182) ?_
      refine QE (QA (W_v (.bool false) (QG rfl) rfl (QB (tn ?_))))
      refine Qs ?_
      refine br (tr (tr (br (tr (tr (?_))))))
      obtain rfl:=Option.some.inj H
      have H:=o137H
      replace H:=elimL H
      obtain rfl:=Option.some.inj H
      exact ⟨_,_,_,fun w1 e1=>QX (vs:=[.bool false]) (FA.cons (rfl) (FA.nil)),HM,E,S.pick [] (by decide),⟨rfl,rfl⟩⟩
     refine QK (congrArg Value.bool hb182) (Qr (bn (tn (QA (W_v (vI (IntKind.i64.wrap (x92+(1:Int)))) (Qa rfl rfl rfl rfl) rfl (W_v (vI (IntKind.i64.wrap (x92+(1:Int)))) (QD rfl) rfl (QB (tn ?_))))))))
     exact ⟨k,Nat.lt_succ_self k,⟨(IntKind.i64.wrap (x92+(1:Int))),H,⟨rfl,rfl,rfl,rfl,trivial⟩,E,S.pick [] (by decide)⟩⟩
    refine QK (congrArg Value.bool hb139) ?_
    refine Y0 ?_
    refine tx (tx (bsm (?_)))
    refine tn ?_
    exact ⟨Option.some.inj H,trivial,E,S.pick [] (by decide)⟩
 rintro ρ w183 ⟨rfl,hρ,E,S⟩
 rw [QI hρ]
 have H:=o137H
 replace H:=elimR H
 refine tn ?_
 as_aux_lemma =>
 refine QE (QA (W_v (.bool true) (QG rfl) rfl (QB (tn ?_))))
 refine Qs ?_
 obtain rfl:=Option.some.inj H
 exact ⟨_,_,_,fun w1 e1=>QX (vs:=[.bool true]) (FA.cons (rfl) (FA.nil)),HM,E,S.pick [] (by decide),⟨rfl,rfl⟩⟩
def Y4 (k:Nat) (a0:Qc) (a1:Qc):Option (Bool) :=
 (Option.bind (α:=Bool) (if (((a0.Err==a1.Err)&&(a0.Found==a1.Found))&&(sbin .eql a0.Value a1.Value))=true then (Option.bind (Zt k a0.Pairs a1.Pairs) (fun t18=>some (t18))) else some (false)) (fun x16=>some x16))
theorem Y4.mono {k:Nat} {a0:Qc} {a1:Qc}:OLe (Y4 k a0 a1) (Y4 (k+1) a0 a1):=by
 unfold Y4
 have m1:=@Zt.mono
 exact mo
theorem Y4.con (k:Nat) (M:Hp) (A0_0:Option Addr) (c0_0:Nat) (a0:Qc) (A1_0:Option Addr) (c1_0:Nat) (a1:Qc) (r:Bool) (hr0_0:SlR Qm M (.slice A0_0 a0.Pairs.length c0_0) a0.Pairs) (hr1_0:SlR Qm M (.slice A1_0 a1.Pairs.length c1_0) a1.Pairs) (h:Y4 k a0 a1=some r):Con Tryd.prog 39 #[.agg #[vI a0.Err,.bool a0.Found,vS a0.Value,.slice A0_0 a0.Pairs.length c0_0],.agg #[vI a1.Err,.bool a1.Found,vS a1.Value,.slice A1_0 a1.Pairs.length c1_0]] M [] (fun v M' Γ'=>v=.bool r∧Γ'=[]):=by
 refine Qt Tryd.func39 rfl Tryd.ntmps39 Tryd.results39 rfl ?_
 intro w F rn S hrn
 have E:=Ext.refl w
 have HM:=Hp.le_refl M
 have H:=h
 unfold Y4 at H
 refine QE (QA ?_)
 refine Y8 S #[vI a0.Err,.bool a0.Found,vS a0.Value,.slice A0_0 a0.Pairs.length c0_0] rfl rfl rfl ?_
 intro b1 w2 E' S
 replace E:=E.trans E'
 refine Y8 S #[vI a1.Err,.bool a1.Found,vS a1.Value,.slice A1_0 a1.Pairs.length c1_0] rfl rfl rfl ?_
 intro b4 w5 E' S
 replace E:=E.trans E'
 refine W_v (.bool false) (QG rfl) rfl (QB (tn (QE (QA (W_v (pt b1 0) (QC (o:=0) (off:=0) Tryd.underlying43 rfl ty28 rfl rfl) rfl (W_v (vI a0.Err) (QO (S.blk 1 rfl) ty28 rfl rfl) rfl (W_v (pt b4 0) (QC (o:=0) (off:=0) Tryd.underlying43 rfl ty28 rfl rfl) rfl (W_v (vI a1.Err) (QO (S.blk 0 rfl) ty28 rfl rfl) rfl (W_v (.bool (a0.Err==a1.Err)) (Qa rfl rfl rfl rfl) rfl (W_v (.bool (a0.Err==a1.Err)) (QD rfl) rfl ?_))))))))))
 refine ZH 6 (fun ρ w'=>Qi ρ [(2,pt b1 0),(3,pt b4 0),(16,.bool ((a0.Err==a1.Err)&&(a0.Found==a1.Found)))]∧w5=w') ?_ ?_
 ·rcases ZX (a0.Err==a1.Err) with hb7 | hb7
  ·skip
   refine QZ (skT hb7) rfl (QZ (skT hb7) rfl (QZ (skT hb7) rfl (QZ (skT hb7) rfl (QZ (skT hb7) rfl (W_v (.bool false) (QV (k:=false) (congrArg Value.bool hb7) rfl) rfl (QB ?_))))))
   exact ⟨⟨rfl,rfl,(by first | rfl | (rw [hb7];rfl) | (simp only [hb7];rfl)),trivial⟩,rfl⟩
  ·skip
   refine QP (congrArg some hb7) (W_v (pt b1 1) (QC (o:=0) (off:=1) Tryd.underlying43 rfl ty4 rfl rfl) rfl (QP (congrArg some hb7) (W_v (.bool a0.Found) (QO (S.blk 1 rfl) ty4 rfl rfl) rfl (QP (congrArg some hb7) (W_v (pt b4 1) (QC (o:=0) (off:=1) Tryd.underlying43 rfl ty4 rfl rfl) rfl (QP (congrArg some hb7) (W_v (.bool a1.Found) (QO (S.blk 0 rfl) ty4 rfl rfl) rfl (QP (congrArg some hb7) (W_v (.bool (a0.Found==a1.Found)) (q8 Tryd.underlying4 rfl rfl) rfl (W_v (.bool (a0.Found==a1.Found)) (QV (k:=true) (congrArg Value.bool hb7) rfl) rfl (QB ?_)))))))))))
   exact ⟨⟨rfl,rfl,(by first | rfl | (rw [hb7];rfl) | (simp only [hb7];rfl)),trivial⟩,rfl⟩
 as_aux_lemma =>
 rintro ρ _ ⟨hρ,rfl⟩
 rw [QI hρ]
 refine W_v (.bool ((a0.Err==a1.Err)&&(a0.Found==a1.Found))) (QD rfl) rfl ?_
 refine ZH 6 (fun ρ w'=>Qi ρ [(2,pt b1 0),(3,pt b4 0),(23,.bool (((a0.Err==a1.Err)&&(a0.Found==a1.Found))&&(sbin .eql a0.Value a1.Value)))]∧w5=w') ?_ ?_
 ·rcases ZX ((a0.Err==a1.Err)&&(a0.Found==a1.Found)) with hb8 | hb8
  ·skip
   refine QZ (skT hb8) rfl (QZ (skT hb8) rfl (QZ (skT hb8) rfl (QZ (skT hb8) rfl (QZ (skT hb8) rfl (W_v (.bool false) (QV (k:=false) (congrArg Value.bool hb8) rfl) rfl (QB ?_))))))
   exact ⟨⟨rfl,rfl,(by first | rfl | (rw [hb8];rfl) | (simp only [hb8];rfl)),trivial⟩,rfl⟩
  ·skip
   refine QP (congrArg some hb8) (W_v (pt b1 2) (QC (o:=0) (off:=2) Tryd.underlying43 rfl ty9 rfl rfl) rfl (QP (congrArg some hb8) (W_v (vS a0.Value) (QO (S.blk 1 rfl) ty9 rfl rfl) rfl (QP (congrArg some hb8) (W_v (pt b4 2) (QC (o:=0) (off:=2) Tryd.underlying43 rfl ty9 rfl rfl) rfl (QP (congrArg some hb8) (W_v (vS a1.Value) (QO (S.blk 0 rfl) ty9 rfl rfl) rfl (QP (congrArg some hb8) (W_v (.bool (sbin .eql a0.Value a1.Value)) (Xy rfl rfl rfl) rfl (W_v (.bool (sbin .eql a0.Value a1.Value)) (QV (k:=true) (congrArg Value.bool hb8) rfl) rfl (QB ?_)))))))))))
   exact ⟨⟨rfl,rfl,(by first | rfl | (rw [hb8];rfl) | (simp only [hb8];rfl)),trivial⟩,rfl⟩
 as_aux_lemma =>
 rintro ρ _ ⟨hρ,rfl⟩
 rw [QI hρ]
 refine W_v (.bool (((a0.Err==a1.Err)&&(a0.Found==a1.Found))&&(sbin .eql a0.Value a1.Value))) (QD rfl) rfl ?_
 obtain ⟨o17,o17h,o17H⟩:=QW H
 refine ZH 6 (fun ρ w'=>∃ (x16:Bool),(x16)=o17∧Qi ρ [(30,.bool x16)]∧Ext w w'∧St w' M F []) ?_ ?_
 ·have H:=o17h
  rcases Zf H with ⟨hb15,H⟩ | ⟨hb15,H⟩
  ·skip
   refine QP (congrArg some hb15) (W_v (pt b1 3) (QC (o:=0) (off:=3) Tryd.underlying43 rfl ty41 rfl rfl) rfl (QP (congrArg some hb15) (W_v (.slice A0_0 a0.Pairs.length c0_0) (QO (S.blk 1 rfl) ty41 rfl rfl) rfl (QP (congrArg some hb15) (W_v (pt b4 3) (QC (o:=0) (off:=3) Tryd.underlying43 rfl ty41 rfl rfl) rfl (QP (congrArg some hb15) (W_v (.slice A1_0 a1.Pairs.length c1_0) (QO (S.blk 0 rfl) ty41 rfl rfl) rfl (QP (congrArg some hb15) ?_))))))))
   obtain ⟨t18,ht19,H⟩:=QW H
   refine Zz fn66 (Zt.con k M A0_0 c0_0 a0.Pairs A1_0 c1_0 a1.Pairs t18 hr0_0 hr1_0 ht19) S rfl rfl (by rintro _ _ _ ⟨_,rfl⟩;exact Qd) ?_
   rintro _ w20 _ Γ' E' S ⟨rfl,rfl⟩
   replace E:=E.trans E'
   refine W_v (.bool t18) (QV (k:=true) (congrArg Value.bool hb15) rfl) rfl (QB ?_)
   exact ⟨t18,Option.some.inj H,⟨rfl,trivial⟩,E,S.pick [] (by decide)⟩
  ·skip
   refine QZ (skT hb15) rfl (QZ (skT hb15) rfl (QZ (skT hb15) rfl (QZ (skT hb15) rfl (QZ (skT hb15) rfl (W_v (.bool false) (QV (k:=false) (congrArg Value.bool hb15) rfl) rfl (QB ?_))))))
   exact ⟨false,Option.some.inj H,⟨rfl,trivial⟩,E,S.pick [] (by decide)⟩
 rintro ρ w21 ⟨x16,rfl,hρ,E,S⟩
 rw [QI hρ]
 have H:=o17H
 refine W_v (.bool x16) (QG rfl) rfl (QB (tn ?_))
 refine Qs ?_
 obtain rfl:=Option.some.inj H
 exact ⟨_,_,_,fun w1 e1=>QX (vs:=[.bool x16]) (FA.cons (rfl) (FA.nil)),HM,E,S.pick [] (by decide),⟨rfl,rfl⟩⟩
def YT (a0:(List QS)) (a1:(List QS)):Nat→Int→Option ((Bool)⊕(Unit))
 | 0,_=>none
 | k+1,x92=>(if (decide (x92 < (a0.length:Int)))=true then (if 0≤x92∧x92 < (a0.length:Int) then (if 0≤x92∧x92 < (a1.length:Int) then (if (!(((rd a0 x92).Writer==(rd a1 x92).Writer)&&(((rd a0 x92).TS==(rd a1 x92).TS)&&(((rd a0 x92).Tomb==(rd a1 x92).Tomb)&&((rd a0 x92).Value==(rd a1 x92).Value)))))=true then some (.inl false) else YT a0 a1 k (IntKind.i64.wrap (x92+(1:Int)))) else none) else none) else some (.inr ()))
theorem YT.mono {a0:(List QS)} {a1:(List QS)}:∀ {kl:Nat} {x0},OLe (YT a0 a1 kl x0) (YT a0 a1 (kl+1) x0):=by
 intro kl
 induction kl with
 | zero=>intros;exact OLe.none
 | succ kl ih =>
  intros
  rw [YT.eq_2,YT.eq_2]
  exact mo
def Yp (k:Nat) (a0:(List QS)) (a1:(List QS)):Option (Bool) :=
 (if ((a0.length:Int) != (a1.length:Int))=true then some false else (Option.bind (YT a0 a1 k (0:Int)) (fun o137o=>Sum.elim (fun r'=>some r') (fun _=>some true) o137o)))
theorem Yp.mono {k:Nat} {a0:(List QS)} {a1:(List QS)}:OLe (Yp k a0 a1) (Yp (k+1) a0 a1):=by
 unfold Yp
 have m1:=@YT.mono
 exact mo
theorem Yp.con (k:Nat) (M:Hp) (A0:Option Addr) (c0:Nat) (a0:(List QS)) (A1:Option Addr) (c1:Nat) (a1:(List QS)) (r:Bool) (hr0:SlR Q4 M (.slice A0 a0.length c0) a0) (hr1:SlR Q4 M (.slice A1 a1.length c1) a1) (h:Yp k a0 a1=some r):Con Tryd.prog 53 #[.slice A0 a0.length c0,.slice A1 a1.length c1] M [] (fun v M' Γ'=>v=.bool r∧Γ'=[]):=by
 refine Qt Tryd.func53 rfl Tryd.ntmps53 Tryd.results53 rfl ?_
 intro w F rn S hrn
 have E:=Ext.refl w
 have HM:=Hp.le_refl M
 have H:=h
 unfold Yp at H
 refine QE (QA (W_v (.bool false) (QG rfl) rfl (QB (tn (QE (QE (QA (W_v (.slice A0 a0.length c0) (QD rfl) rfl (W_v (vI (a0.length:Int)) (Q8 (n:=a0.length) Tryd.underlying65 rfl) rfl (W_v (.slice A1 a1.length c1) (QD rfl) rfl (W_v (vI (a1.length:Int)) (Q8 (n:=a1.length) Tryd.underlying65 rfl) rfl (W_v (.bool ((a0.length:Int) != (a1.length:Int))) (Qa rfl rfl rfl rfl) rfl (QB (tn ?_))))))))))))))
 rcases Zf H with ⟨hb1,H⟩ | ⟨hb1,H⟩
 ·refine QQ (congrArg Value.bool hb1) ?_
  refine QE (QA (W_v (.bool false) (QG rfl) rfl (QB (tn ?_))))
  refine Qs ?_
  refine tr (?_)
  obtain rfl:=Option.some.inj H
  exact ⟨_,_,_,fun w1 e1=>QX (vs:=[.bool false]) (FA.cons (rfl) (FA.nil)),HM,E,S.pick [] (by decide),⟨rfl,rfl⟩⟩
 refine QK (congrArg Value.bool hb1) (Qr (tn (QE (QE (QA (W_v (vI 0) (QG rfl) rfl (QB (tn ?_))))))))
 obtain ⟨o137,o137h,o137H⟩:=QW H
 refine Yj (fun ρ w'=>.inr ()=o137∧Qi ρ []∧Ext w w'∧St w' M F []) ?_ ?_
 ·skip
  refine Y3 (fun n ρ w'=>∃ (x92:Int),YT a0 a1 n x92=some o137∧Qi ρ [(0,.slice A0 a0.length c0),(1,.slice A1 a1.length c1),(5,vI x92)]∧Ext w w'∧St w' M F []) k ?_ ?_
  ·skip
   exact ⟨(0:Int),o137h,⟨rfl,rfl,rfl,trivial⟩,E,S.pick [] (by decide)⟩
  ·intro n
   rintro ρ w138 ⟨x92,H,hρ,E,S⟩
   rw [QI hρ]
   cases n with
   | zero=>cases H
   | succ k =>
    rw [YT.eq_2] at H
    refine QE (QE (QA (W_v (vI x92) (QD rfl) rfl (W_v (.slice A0 a0.length c0) (QD rfl) rfl (W_v (vI (a0.length:Int)) (Q8 (n:=a0.length) Tryd.underlying65 rfl) rfl (W_v (.bool (decide (x92 < (a0.length:Int)))) (Qa rfl rfl rfl rfl) rfl (QB (tn ?_))))))))
    rcases Zf H with ⟨hb139,H⟩ | ⟨hb139,H⟩
    ·refine QQ (congrArg Value.bool hb139) ?_
     refine Qr (tn (QE ?_))
     refine YP ?_
     refine QE ?_
     refine Q0 (S:=fun w'=>∃ Mx,M.le Mx∧St w' Mx F []) (L:=9) mixed ?_
     intro w160 hw161 E'
     replace S:=S.heap hw161
     replace E:=E.trans E'
     have D1:∃ Mx,Hp.le M Mx∧St _ Mx F []:=⟨_,Hp.le_refl _,S.pick [] (by decide)⟩
     refine Wt 0 rfl rfl rfl (.slice A0 a0.length c0) rfl (fun w' h'=>QD rfl) D1 (Wt 1 rfl rfl rfl (vI x92) rfl (fun w' h'=>QD rfl) D1 ?_)
     obtain ⟨⟨p162,p163⟩,H⟩:=Yy H
     obtain ⟨b164,o165,cs166,_,_,ee171,hb167,vs168,hR169,hc170⟩:=SlW.at' hr0 p162 p163
     obtain rfl:vs168=_:=hR169
     refine Wt 2 rfl rfl rfl (.pointer (some ⟨b164,o165+x92.toNat*4,none⟩)) rfl (fun w' h'=>Qy Tryd.underlying65 ty61 (slA ee171) rfl p162 p163) D1 (Wt 3 rfl rfl rfl (.agg #[vI ((rd a0 x92).Writer),vI ((rd a0 x92).TS),.bool ((rd a0 x92).Tomb),vS ((rd a0 x92).Value)]) rfl (fun w' h'=>ZA (XG h' hb167) ty61 rfl (Xa hc170 0 rfl) rfl rfl) D1 (Wt 4 rfl rfl rfl (.slice A1 a1.length c1) rfl (fun w' h'=>QD rfl) D1 (Wt 5 rfl rfl rfl (vI x92) rfl (fun w' h'=>QD rfl) D1 ?_)))
     obtain ⟨⟨p172,p173⟩,H⟩:=Yy H
     obtain ⟨b174,o175,cs176,_,_,ee181,hb177,vs178,hR179,hc180⟩:=SlW.at' hr1 p172 p173
     obtain rfl:vs178=_:=hR179
     refine Wt 6 rfl rfl rfl (.pointer (some ⟨b174,o175+x92.toNat*4,none⟩)) rfl (fun w' h'=>Qy Tryd.underlying65 ty61 (slA ee181) rfl p172 p173) D1 (Wt 7 rfl rfl rfl (.agg #[vI ((rd a1 x92).Writer),vI ((rd a1 x92).TS),.bool ((rd a1 x92).Tomb),vS ((rd a1 x92).Value)]) rfl (fun w' h'=>ZA (XG h' hb177) ty61 rfl (Xa hc180 0 rfl) rfl rfl) D1 (Wt 8 rfl rfl rfl (.bool (!(((rd a0 x92).Writer==(rd a1 x92).Writer)&&(((rd a0 x92).TS==(rd a1 x92).TS)&&(((rd a0 x92).Tomb==(rd a1 x92).Tomb)&&((rd a0 x92).Value==(rd a1 x92).Value)))))) rfl (fun w' h'=>Vc (en61 _ _ _ _) rfl (eq61 _ ((rd a0 x92).Writer) ((rd a0 x92).TS) ((rd a0 x92).Tomb) ((rd a0 x92).Value) ((rd a1 x92).Writer) ((rd a1 x92).TS) ((rd a1 x92).Tomb) ((rd a1 x92).Value))) D1 ?_))
     refine Wz ?_
     refine tn ?_
     rcases Zf H with ⟨hb182,H⟩ | ⟨hb182,H⟩
     ·refine QQ (congrArg Value.bool hb182) ?_
      refine QE (QA (W_v (.bool false) (QG rfl) rfl (QB (tn ?_))))
      refine Qs ?_
      refine br (tr (tr (br (tr (tr (?_))))))
      obtain rfl:=Option.some.inj H
      have H:=o137H
      replace H:=elimL H
      obtain rfl:=Option.some.inj H
      exact ⟨_,_,_,fun w1 e1=>QX (vs:=[.bool false]) (FA.cons (rfl) (FA.nil)),HM,E,S.pick [] (by decide),⟨rfl,rfl⟩⟩
     refine QK (congrArg Value.bool hb182) (Qr (bn (tn (QA (W_v (vI x92) (QD rfl) rfl (W_v (vI (IntKind.i64.wrap (x92+(1:Int)))) (Qa rfl rfl rfl rfl) rfl (W_v (vI (IntKind.i64.wrap (x92+(1:Int)))) (QG rfl) rfl (QB (tn ?_)))))))))
     exact ⟨k,Nat.lt_succ_self k,⟨(IntKind.i64.wrap (x92+(1:Int))),H,⟨rfl,rfl,rfl,trivial⟩,E,S.pick [] (by decide)⟩⟩
    refine QK (congrArg Value.bool hb139) ?_
    refine Y0 ?_
    refine tx (tx (bsm (?_)))
    refine tn ?_
    exact ⟨Option.some.inj H,trivial,E,S.pick [] (by decide)⟩
 rintro ρ w183 ⟨rfl,hρ,E,S⟩
 rw [QI hρ]
 have H:=o137H
 replace H:=elimR H
 refine tn ?_
 as_aux_lemma =>
 refine QE (QA (W_v (.bool true) (QG rfl) rfl (QB (tn ?_))))
 refine Qs ?_
 obtain rfl:=Option.some.inj H
 exact ⟨_,_,_,fun w1 e1=>QX (vs:=[.bool true]) (FA.cons (rfl) (FA.nil)),HM,E,S.pick [] (by decide),⟨rfl,rfl⟩⟩
def YX (a0:(List Str)) (a1:Str):Nat→Int→Option ((Bool)⊕(Unit))
 | 0,_=>none
 | k+1,x27=>(if (decide (x27 < (a0.length:Int)))=true then (if 0≤x27∧x27 < (a0.length:Int) then (if (sbin .eql (rd a0 x27) a1)=true then some (.inl true) else YX a0 a1 k (IntKind.i64.wrap (x27+(1:Int)))) else none) else some (.inr ()))
theorem YX.mono {a0:(List Str)} {a1:Str}:∀ {kl:Nat} {x0},OLe (YX a0 a1 kl x0) (YX a0 a1 (kl+1) x0):=by
 intro kl
 induction kl with
 | zero=>intros;exact OLe.none
 | succ kl ih =>
  intros
  rw [YX.eq_2,YX.eq_2]
  exact mo
def Yv (k:Nat) (a0:(List Str)) (a1:Str):Option (Bool) :=
 (Option.bind (YX a0 a1 k (0:Int)) (fun o40o=>Sum.elim (fun r'=>some r') (fun _=>some false) o40o))
theorem Yv.mono {k:Nat} {a0:(List Str)} {a1:Str}:OLe (Yv k a0 a1) (Yv (k+1) a0 a1):=by
 unfold Yv
 have m1:=@YX.mono
 exact mo
theorem Yv.con (k:Nat) (M:Hp) (A0:Option Addr) (c0:Nat) (a0:(List Str)) (a1:Str) (r:Bool) (hr0:SlR rStr M (.slice A0 a0.length c0) a0) (h:Yv k a0 a1=some r):Con Tryd.prog 68 #[.slice A0 a0.length c0,vS a1] M [] (fun v M' Γ'=>v=.bool r∧Γ'=[]):=by
 refine Qt Tryd.func68 rfl Tryd.ntmps68 Tryd.results68 rfl ?_
 intro w F rn S hrn
 have E:=Ext.refl w
 have HM:=Hp.le_refl M
 have H:=h
 unfold Yv at H
 refine QE (QA (W_v (.bool false) (QG rfl) rfl (QB (tn (QE (QE (QA (W_v (vI 0) (QG rfl) rfl (QB (tn ?_))))))))))
 obtain ⟨o40,o40h,o40H⟩:=QW H
 refine Yj (fun ρ w'=>.inr ()=o40∧Qi ρ []∧Ext w w'∧St w' M F []) ?_ ?_
 ·skip
  refine Y3 (fun n ρ w'=>∃ (x27:Int),YX a0 a1 n x27=some o40∧Qi ρ [(0,.slice A0 a0.length c0),(1,vS a1),(5,vI x27)]∧Ext w w'∧St w' M F []) k ?_ ?_
  ·skip
   exact ⟨(0:Int),o40h,⟨rfl,rfl,rfl,trivial⟩,E,S.pick [] (by decide)⟩
  ·intro n
   rintro ρ w41 ⟨x27,H,hρ,E,S⟩
   rw [QI hρ]
   cases n with
   | zero=>cases H
   | succ k =>
    rw [YX.eq_2] at H
    refine QE (QE (QA (W_v (vI x27) (QD rfl) rfl (W_v (.slice A0 a0.length c0) (QD rfl) rfl (W_v (vI (a0.length:Int)) (Q8 (n:=a0.length) Tryd.underlying67 rfl) rfl (W_v (.bool (decide (x27 < (a0.length:Int)))) (Qa rfl rfl rfl rfl) rfl (QB (tn ?_))))))))
    rcases Zf H with ⟨hb42,H⟩ | ⟨hb42,H⟩
    ·refine QQ (congrArg Value.bool hb42) ?_
     refine Qr (tn (QE ?_))
     refine YP ?_
     refine QE (QA (W_v (.slice A0 a0.length c0) (QD rfl) rfl (W_v (vI x27) (QD rfl) rfl ?_)))
     obtain ⟨⟨p43,p44⟩,H⟩:=Yy H
     obtain ⟨b45,o46,cs47,_,_,ee52,hb48,vs49,hR50,hc51⟩:=SlW.at' hr0 p43 p44
     obtain rfl:vs49=_:=hR50
     refine W_v (.pointer (some ⟨b45,o46+x27.toNat*1,none⟩)) (Qy Tryd.underlying67 ty9 (slA ee52) rfl p43 p44) rfl (W_v (vS (rd a0 x27)) (QO (S.frz hb48) ty9 rfl (hc51 0 _ rfl)) rfl (W_v (vS a1) (QD rfl) rfl (W_v (.bool (sbin .eql (rd a0 x27) a1)) (Xy rfl rfl rfl) rfl (QB (tn ?_)))))
     rcases Zf H with ⟨hb53,H⟩ | ⟨hb53,H⟩
     ·refine QQ (congrArg Value.bool hb53) ?_
      refine QE (QA (W_v (.bool true) (QG rfl) rfl (QB (tn ?_))))
      refine Qs ?_
      refine br (tr (tr (br (tr (tr (?_))))))
      obtain rfl:=Option.some.inj H
      have H:=o40H
      replace H:=elimL H
      obtain rfl:=Option.some.inj H
      exact ⟨_,_,_,fun w1 e1=>QX (vs:=[.bool true]) (FA.cons (rfl) (FA.nil)),HM,E,S.pick [] (by decide),⟨rfl,rfl⟩⟩
     refine QK (congrArg Value.bool hb53) (Qr (bn (tn (QA (W_v (vI x27) (QD rfl) rfl (W_v (vI (IntKind.i64.wrap (x27+(1:Int)))) (Qa rfl rfl rfl rfl) rfl (W_v (vI (IntKind.i64.wrap (x27+(1:Int)))) (QG rfl) rfl (QB (tn ?_)))))))))
     exact ⟨k,Nat.lt_succ_self k,⟨(IntKind.i64.wrap (x27+(1:Int))),H,⟨rfl,rfl,rfl,trivial⟩,E,S.pick [] (by decide)⟩⟩
    refine QK (congrArg Value.bool hb42) ?_
    refine Y0 ?_
    refine tx (tx (bsm (?_)))
    refine tn ?_
    exact ⟨Option.some.inj H,trivial,E,S.pick [] (by decide)⟩
 rintro ρ w54 ⟨rfl,hρ,E,S⟩
 rw [QI hρ]
 have H:=o40H
 replace H:=elimR H
 refine tn ?_
 as_aux_lemma =>
 refine QE (QA (W_v (.bool false) (QG rfl) rfl (QB (tn ?_))))
 refine Qs ?_
 obtain rfl:=Option.some.inj H
 exact ⟨_,_,_,fun w1 e1=>QX (vs:=[.bool false]) (FA.cons (rfl) (FA.nil)),HM,E,S.pick [] (by decide),⟨rfl,rfl⟩⟩
def YK (k:Nat) (a0:Qw):Option ((Unit)⊕(QH)) :=
 (Option.bind (YB k a0) (fun t4=>(if (!t4)=true then some (Sum.inl ()) else some (Sum.inr (⟨⟨a0.Tasks,a0.Active,a0.Keys,a0.Depth,a0.TS,a0.KeyLen,a0.ValLen,a0.Fan⟩,([]:List Qj),([]:List QR),(0:Int),(0:Int)⟩:QH)))))
theorem YK.mono {k:Nat} {a0:Qw}:OLe (YK k a0) (YK (k+1) a0):=by
 unfold YK
 have m1:=@YB.mono
 exact mo
theorem YK.con (k:Nat) (M:Hp) (a0:Qw) (r:(Unit)⊕(QH))  (h:YK k a0=some r):Con Tryd.prog 35 #[.agg #[vI a0.Tasks,vI a0.Active,vI a0.Keys,vI a0.Depth,vI a0.TS,vI a0.KeyLen,vI a0.ValLen,vI a0.Fan]] M [] (fun v M' Γ'=>(Sum.elim (fun x=>v=.tuple #[.pointer none,vI 1]∧Γ'=[]) (fun x=>∃ (bq1:Nat) (Aq3:Option Addr) (cq4:Nat) (Aq6:Option Addr) (cq7:Nat),v=.tuple #[pt bq1 0,vI 0]∧Γ'=[B121 bq1 x Aq3 cq4 Aq6 cq7,Row QY 124 (.slice Aq3 x.T.length cq4) x.T,Row QU 127 (.slice Aq6 x.L.length cq7) x.L])) r):=by
 refine Qt Tryd.func35 rfl Tryd.ntmps35 Tryd.results35 rfl ?_
 intro w F rn S hrn
 have E:=Ext.refl w
 have HM:=Hp.le_refl M
 have H:=h
 unfold YK at H
 refine QE (QA ?_)
 refine Y8 S #[vI a0.Tasks,vI a0.Active,vI a0.Keys,vI a0.Depth,vI a0.TS,vI a0.KeyLen,vI a0.ValLen,vI a0.Fan] rfl rfl rfl ?_
 intro b1 w2 E' S
 replace E:=E.trans E'
 refine W_v (.pointer none) (QG rfl) rfl (W_v (vI 0) (QG rfl) rfl (QB (tn (QE (QE (QA (W_v (.agg #[vI a0.Tasks,vI a0.Active,vI a0.Keys,vI a0.Depth,vI a0.TS,vI a0.KeyLen,vI a0.ValLen,vI a0.Fan]) (ZA (S.blk 0 rfl) ty23 rfl (QM rfl) rfl rfl) rfl ?_)))))))
 obtain ⟨t4,ht5,H⟩:=QW H
 refine Zz fn54 (YB.con k M a0 t4  ht5) S rfl rfl (by rintro _ _ _ ⟨_,rfl⟩;exact Qd) ?_
 rintro _ w6 _ Γ' E' S ⟨rfl,rfl⟩
 replace E:=E.trans E'
 refine W_v (.bool (!t4)) (Y5 (b:=t4) rfl) rfl (QB (tn ?_))
 rcases Zf H with ⟨hb7,H⟩ | ⟨hb7,H⟩
 ·refine QQ (congrArg Value.bool hb7) ?_
  refine QE (QA (W_v (.pointer none) (QG rfl) rfl (W_v (vI 1) (QG rfl) rfl (QB (tn ?_)))))
  refine Qs ?_
  refine tr (?_)
  obtain rfl:=Option.some.inj H
  exact ⟨_,_,_,fun w1 e1=>QX (vs:=[.pointer none,vI 1]) (FA.cons (rfl) (FA.cons (rfl) (FA.nil))),HM,E,S.pick [] (by decide),⟨rfl,rfl⟩⟩
 refine QK (congrArg Value.bool hb7) (Qr (tn (QE (QA (W_v (.agg #[vI a0.Tasks,vI a0.Active,vI a0.Keys,vI a0.Depth,vI a0.TS,vI a0.KeyLen,vI a0.ValLen,vI a0.Fan]) (ZA (S.blk 0 rfl) ty23 rfl (QM rfl) rfl rfl) rfl (W_v (.agg #[vI a0.Tasks,vI a0.Active,vI a0.Keys,vI a0.Depth,vI a0.TS,vI a0.KeyLen,vI a0.ValLen,vI a0.Fan,.slice none 0 0,.slice none 0 0,vI 0,vI 0]) (Z3 (pl:=[(0,8),(8,1),(9,1),(10,1),(11,1)]) #[vI a0.Tasks,vI a0.Active,vI a0.Keys,vI a0.Depth,vI a0.TS,vI a0.KeyLen,vI a0.ValLen,vI a0.Fan,.slice none 0 0,.slice none 0 0,vI 0,vI 0] Tryd.underlying121 ty121 (by as_aux_lemma=>kernel_rfl) rfl (by as_aux_lemma=>kernel_rfl)) rfl ?_))))))
 refine Y8 S #[vI a0.Tasks,vI a0.Active,vI a0.Keys,vI a0.Depth,vI a0.TS,vI a0.KeyLen,vI a0.ValLen,vI a0.Fan,.slice none 0 0,.slice none 0 0,vI 0,vI 0] rfl rfl rfl ?_
 intro b8 w9 E' S
 replace E:=E.trans E'
 refine W_v (pt b8 0) (QG rfl) rfl (W_v (vI 0) (QG rfl) rfl (QB (tn ?_)))
 refine Qs ?_
 obtain rfl:=Option.some.inj H
 replace S:=S.row_nil QY 124
 replace S:=S.row_nil QU 127
 exact ⟨_,_,_,fun w1 e1=>QX (vs:=[pt b8 0,vI 0]) (FA.cons (rfl) (FA.cons (rfl) (FA.nil))),HM,E,S.pick [2,1,0] (by decide),⟨b8,none,0,none,0,rfl,rfl⟩⟩
def Yb (k:Nat) (a0:QJ):Option (QJ) :=
 (Option.bind (Z7 k a0.txs) (fun t35=>some (⟨⟨a0.c.Tasks,a0.c.Active,a0.c.Keys,a0.c.Depth,a0.c.TS,a0.c.KeyLen,a0.c.ValLen,a0.c.Fan⟩,a0.names,a0.many,t35,a0.rows,a0.clock,a0.floor⟩:QJ)))
theorem Yb.mono {k:Nat} {a0:QJ}:OLe (Yb k a0) (Yb (k+1) a0):=by
 unfold Yb
 have m1:=@Z7.mono
 exact mo
theorem Yb.con (k:Nat) (M:Hp) (A0_8:Option Addr) (c0_8:Nat) (A0_9:Option Addr) (c0_9:Nat) (A0_10:Option Addr) (c0_10:Nat) (A0_11:Option Addr) (c0_11:Nat) (vs0_11:List (Str×Value)) (a0:QJ) (bo0:Nat) (r:QJ) (hm0_11:YV Qk M a0.rows vs0_11) (h:Yb k a0=some r):Con Tryd.prog 29 #[pt bo0 0] M [B94 bo0 a0 A0_8 A0_9 A0_10 c0_10 A0_11,QT QF (Value.int .i64) A0_8 a0.names,QT (Value.int .i64) (Value.int .i64) A0_9 a0.many,Row QL 99 (.slice A0_10 a0.txs.length c0_10) a0.txs,QT encS (fun v:Value=>v) A0_11 vs0_11] (fun v M' Γ'=>∃ (bq1:Nat) (Aq3:Option Addr) (cq4:Nat) (Aq6:Option Addr) (cq7:Nat) (Aq9:Option Addr) (cq10:Nat) (Aq12:Option Addr) (cq13:Nat) (vsq15:List (Str×Value)),v=pt bq1 0∧YV Qk M' r.rows vsq15∧Γ'=[B94 bq1 r Aq3 Aq6 Aq9 cq10 Aq12,QT QF (Value.int .i64) Aq3 r.names,QT (Value.int .i64) (Value.int .i64) Aq6 r.many,Row QL 99 (.slice Aq9 r.txs.length cq10) r.txs,QT encS (fun v:Value=>v) Aq12 vsq15,B94 bo0 a0 A0_8 A0_9 A0_10 c0_10 A0_11,QT QF (Value.int .i64) A0_8 a0.names,QT (Value.int .i64) (Value.int .i64) A0_9 a0.many,Row QL 99 (.slice A0_10 a0.txs.length c0_10) a0.txs,QT encS (fun v:Value=>v) A0_11 vs0_11]):=by
 refine Qt Tryd.func29 rfl Tryd.ntmps29 Tryd.results29 rfl ?_
 intro w F rn S hrn
 have E:=Ext.refl w
 have HM:=Hp.le_refl M
 have H:=h
 unfold Yb at H
 refine QE (QA (W_v (.pointer none) (QG rfl) rfl (QB (tn (QE (QE (QA (W_v (pt bo0 0) (QD rfl) rfl (W_v (.bool false) (Xe (r:=false) rfl rfl (XW Tryd.underlying27)) rfl (QB (tn (QK rfl (Qr (tn (QE ?_)))))))))))))))
 refine QA (W_v (pt bo0 0) (QD rfl) rfl (W_v (pt bo0 0) (Qo rfl) rfl (W_v (.agg #[vI a0.c.Tasks,vI a0.c.Active,vI a0.c.Keys,vI a0.c.Depth,vI a0.c.TS,vI a0.c.KeyLen,vI a0.c.ValLen,vI a0.c.Fan,.map (mb A0_8),.map (mb A0_9),.slice A0_10 a0.txs.length c0_10,.map (mb A0_11),vI a0.clock,vI a0.floor]) (ZA (S.blk 0 rfl) ty94 rfl (QM rfl) rfl rfl) rfl ?_)))
 refine Zo S #[vI 0,vI 0,vI 0,vI 0,vI 0,vI 0,vI 0,vI 0,.map none,.map none,.slice none 0 0,.map none,vI 0,vI 0] ty94 rfl rfl ?_
 intro b1 w2 E' S
 replace E:=E.trans E'
 refine Qx S 0 rfl ty94 rfl rfl [vI a0.c.Tasks,vI a0.c.Active,vI a0.c.Keys,vI a0.c.Depth,vI a0.c.TS,vI a0.c.KeyLen,vI a0.c.ValLen,vI a0.c.Fan,.map (mb A0_8),.map (mb A0_9),.slice A0_10 a0.txs.length c0_10,.map (mb A0_11),vI a0.clock,vI a0.floor] rfl rfl rfl #[vI a0.c.Tasks,vI a0.c.Active,vI a0.c.Keys,vI a0.c.Depth,vI a0.c.TS,vI a0.c.KeyLen,vI a0.c.ValLen,vI a0.c.Fan,.map (mb A0_8),.map (mb A0_9),.slice A0_10 a0.txs.length c0_10,.map (mb A0_11),vI a0.clock,vI a0.floor] (by as_aux_lemma=>kernel_rfl) rfl ?_
 intro w4 E' S
 replace E:=E.trans E'
 refine QB (tn (QE ?_))
 refine Q0 (S:=fun w'=>∃ Mx,M.le Mx∧St w' Mx F [B94 b1 a0 A0_8 A0_9 A0_10 c0_10 A0_11,B94 bo0 a0 A0_8 A0_9 A0_10 c0_10 A0_11,QT QF (Value.int .i64) A0_8 a0.names,QT (Value.int .i64) (Value.int .i64) A0_9 a0.many,Row QL 99 (.slice A0_10 a0.txs.length c0_10) a0.txs,QT encS (fun v:Value=>v) A0_11 vs0_11]) (L:=21) mixed ?_
 intro w24 hw25 E'
 replace S:=S.heap hw25
 replace E:=E.trans E'
 have D1:∃ Mx,Hp.le M Mx∧St _ Mx F [_,_,_,_,_,_]:=⟨_,Hp.le_refl _,S.pick [0,1,2,3,4,5] (by decide)⟩
 refine Wt 0 rfl rfl rfl (pt bo0 0) rfl (fun w' h'=>QD rfl) D1 (Wt 1 rfl rfl rfl (pt bo0 0) rfl (fun w' h'=>Qo rfl) D1 (Wt 2 rfl rfl rfl (pt bo0 8) rfl (fun w' h'=>QC (o:=0) (off:=8) Tryd.underlying94 rfl ty89 rfl rfl) D1 (Wt 3 rfl rfl rfl (.map (mb A0_8)) rfl (fun w' h'=>QO (Qp h' 1 rfl) ty89 rfl rfl) D1 (Wt 5 rfl rfl rfl (pt bo0 0) rfl (fun w' h'=>QD rfl) D1 (Wt 6 rfl rfl rfl (pt bo0 0) rfl (fun w' h'=>Qo rfl) D1 (Wt 7 rfl rfl rfl (pt bo0 9) rfl (fun w' h'=>QC (o:=0) (off:=9) Tryd.underlying94 rfl ty90 rfl rfl) D1 (Wt 8 rfl rfl rfl (.map (mb A0_9)) rfl (fun w' h'=>QO (Qp h' 1 rfl) ty90 rfl rfl) D1 (Wt 10 rfl rfl rfl (pt bo0 0) rfl (fun w' h'=>QD rfl) D1 (Wt 11 rfl rfl rfl (pt bo0 0) rfl (fun w' h'=>Qo rfl) D1 (Wt 12 rfl rfl rfl (pt bo0 11) rfl (fun w' h'=>QC (o:=0) (off:=11) Tryd.underlying94 rfl ty91 rfl rfl) D1 (Wt 13 rfl rfl rfl (.map (mb A0_11)) rfl (fun w' h'=>QO (Qp h' 1 rfl) ty91 rfl rfl) D1 (Wt 15 rfl rfl rfl (pt bo0 0) rfl (fun w' h'=>QD rfl) D1 (Wt 16 rfl rfl rfl (pt bo0 0) rfl (fun w' h'=>Qo rfl) D1 (Wt 17 rfl rfl rfl (pt bo0 10) rfl (fun w' h'=>QC (o:=0) (off:=10) Tryd.underlying94 rfl ty92 rfl rfl) D1 (Wt 18 rfl rfl rfl (.slice A0_10 a0.txs.length c0_10) rfl (fun w' h'=>QO (Qp h' 1 rfl) ty92 rfl rfl) D1 ?_)))))))))))))))
 refine Wo 4 rfl ?_
 replace S:St w24 M F [_,_,_,_,_,_]:=S.pick [2,0,1,3,4,5] (by decide)
 refine Z5 fn49 (maps_Clone_89.con M A0_8 a0.names) (Γ2:=[_,_,_,_,_]) S rfl rfl (by rintro _ _ _ ⟨_,_,rfl⟩;exact (QN Qu (QN Qu Qd))) ?_
 rintro _ w27 _ Γ' E' S ⟨b26,rfl,rfl⟩
 replace E:=E.trans E'
 replace S:St w27 M F [_,_,_,_,_,_,_]:=S
 refine QB (YU ⟨.inr ⟨M,Hp.le_refl M,(S.pick [2,3,1,4,5,6] (by decide))⟩,?_⟩)
 refine Wo 9 rfl ?_
 replace S:St w27 M F [_,_,_,_,_,_,_]:=S.pick [4,0,1,2,3,5,6] (by decide)
 refine Z5 fn50 (maps_Clone_90.con M A0_9 a0.many) (Γ2:=[_,_,_,_,_,_]) S rfl rfl (by rintro _ _ _ ⟨_,_,rfl⟩;exact (QN Qu (QN Qu Qd))) ?_
 rintro _ w30 _ Γ' E' S ⟨b29,rfl,rfl⟩
 replace E:=E.trans E'
 replace S:St w30 M F [_,_,_,_,_,_,_,_]:=S
 refine QB (YU ⟨.inr ⟨M,Hp.le_refl M,(S.pick [4,5,3,1,6,7] (by decide))⟩,?_⟩)
 refine Wo 14 rfl ?_
 replace S:St w30 M F [_,_,_,_,_,_,_,_]:=S.pick [7,0,1,2,3,4,5,6] (by decide)
 refine Z5 fn51 (maps_Clone_91.con M A0_11 vs0_11) (Γ2:=[_,_,_,_,_,_,_]) S rfl rfl (by rintro _ _ _ ⟨_,_,rfl⟩;exact (QN Qu (QN Qu Qd))) ?_
 rintro _ w33 _ Γ' E' S ⟨b32,rfl,rfl⟩
 replace E:=E.trans E'
 replace S:St w33 M F [_,_,_,_,_,_,_,_,_]:=S
 refine QB (YU ⟨.inr ⟨M,Hp.le_refl M,(S.pick [6,7,5,3,8,1] (by decide))⟩,?_⟩)
 refine Wo 19 rfl ?_
 replace S:St w33 M F [_,_,_,_,_,_,_,_,_]:=S.pick [8,0,1,2,3,4,5,6,7] (by decide)
 obtain ⟨t35,ht36,H⟩:=QW H
 refine Xw 1 fn52 (fun h9 hs9 hd9=>Z7.con k _ A0_10 c0_10 a0.txs t35 (Sats.row hs9 hd9 0 rfl) ht36) S rfl rfl (by rintro _ _ _ ⟨_,_,_,rfl⟩;exact (QN (YI (fun _ _ _ _ h=>h)) Qd)) ?_
 rintro _ w40 _ Γ' E' S ⟨A37,c38,rfl,rfl⟩
 replace E:=E.trans E'
 refine QB (YU ⟨.inr ⟨M,Hp.le_refl M,(S.pick [8,9,7,5,1,3] (by decide))⟩,?_⟩)
 refine Wt 20 rfl rfl rfl (pt b1 8) rfl (fun w' h'=>QC (o:=0) (off:=8) Tryd.underlying94 rfl ty89 rfl rfl) (⟨M,Hp.le_refl M,(S.pick [8,9,7,5,1,3] (by decide))⟩) ?_
 refine Wo 21 rfl ?_
 refine Qx S 8 rfl ty89 rfl rfl [.map (mb (some ⟨b26,0,none⟩))] rfl rfl rfl #[vI a0.c.Tasks,vI a0.c.Active,vI a0.c.Keys,vI a0.c.Depth,vI a0.c.TS,vI a0.c.KeyLen,vI a0.c.ValLen,vI a0.c.Fan,.map (mb (some ⟨b26,0,none⟩)),.map (mb A0_9),.slice A0_10 a0.txs.length c0_10,.map (mb A0_11),vI a0.clock,vI a0.floor] rfl rfl ?_
 intro w41 E' S
 replace E:=E.trans E'
 refine QB (YU ⟨.inl (by decide),?_⟩)
 refine Wo 22 rfl ?_
 refine W_v (pt b1 9) (QC (o:=0) (off:=9) Tryd.underlying94 rfl ty90 rfl rfl) rfl ?_
 refine QB (YU ⟨.inl (by decide),?_⟩)
 refine Wo 23 rfl ?_
 refine Qx S 8 rfl ty90 rfl rfl [.map (mb (some ⟨b29,0,none⟩))] rfl rfl rfl #[vI a0.c.Tasks,vI a0.c.Active,vI a0.c.Keys,vI a0.c.Depth,vI a0.c.TS,vI a0.c.KeyLen,vI a0.c.ValLen,vI a0.c.Fan,.map (mb (some ⟨b26,0,none⟩)),.map (mb (some ⟨b29,0,none⟩)),.slice A0_10 a0.txs.length c0_10,.map (mb A0_11),vI a0.clock,vI a0.floor] rfl rfl ?_
 intro w42 E' S
 replace E:=E.trans E'
 refine QB (YU ⟨.inl (by decide),?_⟩)
 refine Wo 24 rfl ?_
 refine W_v (pt b1 11) (QC (o:=0) (off:=11) Tryd.underlying94 rfl ty91 rfl rfl) rfl ?_
 refine QB (YU ⟨.inl (by decide),?_⟩)
 refine Wo 25 rfl ?_
 refine Qx S 8 rfl ty91 rfl rfl [.map (mb (some ⟨b32,0,none⟩))] rfl rfl rfl #[vI a0.c.Tasks,vI a0.c.Active,vI a0.c.Keys,vI a0.c.Depth,vI a0.c.TS,vI a0.c.KeyLen,vI a0.c.ValLen,vI a0.c.Fan,.map (mb (some ⟨b26,0,none⟩)),.map (mb (some ⟨b29,0,none⟩)),.slice A0_10 a0.txs.length c0_10,.map (mb (some ⟨b32,0,none⟩)),vI a0.clock,vI a0.floor] rfl rfl ?_
 intro w43 E' S
 replace E:=E.trans E'
 refine QB (YU ⟨.inl (by decide),?_⟩)
 refine Wo 26 rfl ?_
 refine W_v (pt b1 10) (QC (o:=0) (off:=10) Tryd.underlying94 rfl ty92 rfl rfl) rfl ?_
 refine QB (YU ⟨.inl (by decide),?_⟩)
 refine Wo 27 rfl ?_
 refine Qx S 8 rfl ty92 rfl rfl [.slice A37 t35.length c38] rfl rfl rfl #[vI a0.c.Tasks,vI a0.c.Active,vI a0.c.Keys,vI a0.c.Depth,vI a0.c.TS,vI a0.c.KeyLen,vI a0.c.ValLen,vI a0.c.Fan,.map (mb (some ⟨b26,0,none⟩)),.map (mb (some ⟨b29,0,none⟩)),.slice A37 t35.length c38,.map (mb (some ⟨b32,0,none⟩)),vI a0.clock,vI a0.floor] rfl rfl ?_
 intro w44 E' S
 replace E:=E.trans E'
 refine QB (YU ⟨.inl (by decide),?_⟩)
 refine Wz ?_
 refine tn ?_
 as_aux_lemma =>
 refine QE (QA (W_v (pt b1 0) (QG rfl) rfl (QB (tn ?_))))
 refine Qs ?_
 obtain rfl:=Option.some.inj H
 exact ⟨_,_,_,fun w1 e1=>QX (vs:=[pt b1 0]) (FA.cons (rfl) (FA.nil)),HM,E,S.pick [8,6,4,0,2,9,7,5,1,3] (by decide),⟨b1,(some ⟨b26,0,none⟩),0,(some ⟨b29,0,none⟩),0,A37,c38,(some ⟨b32,0,none⟩),0,vs0_11,rfl,hm0_11,rfl⟩⟩
def ZT (a0:QH) (a1:Int) (a2:Int):Nat→Int→Option ((Int×Int×Int)⊕(Unit))
 | 0,_=>none
 | k+1,x179=>(if (decide (x179 < (a0.T.length:Int)))=true then (if 0≤x179∧x179 < (a0.T.length:Int) then (Option.bind (α:=Bool) (if ((rd a0.T x179).Task==a1)=true then (if 0≤x179∧x179 < (a0.T.length:Int) then some (((rd a0.T x179).N==a2)) else none) else some (false)) (fun x302=>(if x302=true then (if 0≤x179∧x179 < (a0.T.length:Int) then (if 0≤x179∧x179 < (a0.T.length:Int) then some (.inl ((IntKind.i64.wrap (x179+(1:Int))),(rd a0.T x179).State,(rd a0.T x179).Snapshot)) else none) else none) else ZT a0 a1 a2 k (IntKind.i64.wrap (x179+(1:Int)))))) else none) else some (.inr ()))
theorem ZT.mono {a0:QH} {a1:Int} {a2:Int}:∀ {kl:Nat} {x0},OLe (ZT a0 a1 a2 kl x0) (ZT a0 a1 a2 (kl+1) x0):=by
 intro kl
 induction kl with
 | zero=>intros;exact OLe.none
 | succ kl ih =>
  intros
  rw [ZT.eq_2,ZT.eq_2]
  exact mo
def ZF (k:Nat) (a0:QH) (a1:Int) (a2:Int):Option (Int×Int×Int) :=
 (Option.bind (ZT a0 a1 a2 k (0:Int)) (fun o268o=>Sum.elim (fun r'=>some r') (fun _=>some ((0:Int),(0:Int),(0:Int))) o268o))
theorem ZF.mono {k:Nat} {a0:QH} {a1:Int} {a2:Int}:OLe (ZF k a0 a1 a2) (ZF (k+1) a0 a1 a2):=by
 unfold ZF
 have m1:=@ZT.mono
 exact mo
theorem ZF.con (k:Nat) (M:Hp) (A0_8:Option Addr) (c0_8:Nat) (A0_9:Option Addr) (c0_9:Nat) (a0:QH) (a1:Int) (a2:Int) (bo0:Nat) (r:Int×Int×Int) (hr0_8:SlR QY M (.slice A0_8 a0.T.length c0_8) a0.T) (hr0_9:SlR QU M (.slice A0_9 a0.L.length c0_9) a0.L) (h:ZF k a0 a1 a2=some r):Con Tryd.prog 55 #[pt bo0 0,vI a1,vI a2] M [B121 bo0 a0 A0_8 c0_8 A0_9 c0_9] (fun v M' Γ'=>v=.tuple #[vI r.1,vU r.2.1,vI r.2.2]∧Γ'=[B121 bo0 a0 A0_8 c0_8 A0_9 c0_9]):=by
 refine Qt Tryd.func55 rfl Tryd.ntmps55 Tryd.results55 rfl ?_
 intro w F rn S hrn
 have E:=Ext.refl w
 have HM:=Hp.le_refl M
 have H:=h
 unfold ZF at H
 refine QE (QA (W_v (vI 0) (QG rfl) rfl (W_v (vU 0) (QG rfl) rfl (W_v (vI 0) (QG rfl) rfl (QB (tn (QE (QE (QA (W_v (vI 0) (QG rfl) rfl (QB (tn ?_))))))))))))
 obtain ⟨o268,o268h,o268H⟩:=QW H
 refine Yj (fun ρ w'=>.inr ()=o268∧Qi ρ []∧Ext w w'∧St w' M F [B121 bo0 a0 A0_8 c0_8 A0_9 c0_9]) ?_ ?_
 ·skip
  refine Y3 (fun n ρ w'=>∃ (x179:Int),ZT a0 a1 a2 n x179=some o268∧Qi ρ [(0,pt bo0 0),(1,vI a1),(2,vI a2),(9,vI x179)]∧Ext w w'∧St w' M F [B121 bo0 a0 A0_8 c0_8 A0_9 c0_9]) k ?_ ?_
  ·skip
   exact ⟨(0:Int),o268h,⟨rfl,rfl,rfl,rfl,trivial⟩,E,S.pick [0] (by decide)⟩
  ·intro n
   rintro ρ w269 ⟨x179,H,hρ,E,S⟩
   rw [QI hρ]
   cases n with
   | zero=>cases H
   | succ k =>
    rw [ZT.eq_2] at H
    refine QE (QE (QA (W_v (vI x179) (QD rfl) rfl (W_v (pt bo0 0) (QD rfl) rfl (W_v (pt bo0 0) (Qo rfl) rfl (W_v (pt bo0 8) (QC (o:=0) (off:=8) Tryd.underlying121 rfl ty118 rfl rfl) rfl (W_v (.slice A0_8 a0.T.length c0_8) (QO (S.blk 0 rfl) ty118 rfl rfl) rfl (W_v (vI (a0.T.length:Int)) (Q8 (n:=a0.T.length) Tryd.underlying118 rfl) rfl (W_v (.bool (decide (x179 < (a0.T.length:Int)))) (Qa rfl rfl rfl rfl) rfl (QB (tn ?_)))))))))))
    rcases Zf H with ⟨hb270,H⟩ | ⟨hb270,H⟩
    ·refine QQ (congrArg Value.bool hb270) ?_
     refine Qr (tn (QE ?_))
     refine YP ?_
     refine QE (QA (W_v (pt bo0 0) (QD rfl) rfl (W_v (pt bo0 0) (Qo rfl) rfl (W_v (pt bo0 8) (QC (o:=0) (off:=8) Tryd.underlying121 rfl ty118 rfl rfl) rfl (W_v (.slice A0_8 a0.T.length c0_8) (QO (S.blk 0 rfl) ty118 rfl rfl) rfl (W_v (vI x179) (QD rfl) rfl ?_))))))
     obtain ⟨⟨p271,p272⟩,H⟩:=Yy H
     obtain ⟨b273,o274,cs275,_,_,ee280,hb276,vs277,hR278,hc279⟩:=SlW.at' hr0_8 p271 p272
     obtain rfl:vs277=_:=hR278
     refine W_v (.pointer (some ⟨b273,o274+x179.toNat*4,none⟩)) (Qy Tryd.underlying118 ty124 (slA ee280) rfl p271 p272) rfl (W_v (.pointer (some ⟨b273,o274+x179.toNat*4,none⟩)) (QC (o:=o274+x179.toNat*4) (off:=0) Tryd.underlying124 rfl ty3 rfl rfl) rfl (W_v (vI ((rd a0.T x179).Task)) (QO (S.frz hb276) ty3 rfl (hc279 0 _ rfl)) rfl (W_v (vI a1) (QD rfl) rfl (W_v (.bool ((rd a0.T x179).Task==a1)) (Qa rfl rfl rfl rfl) rfl (W_v (.bool ((rd a0.T x179).Task==a1)) (QD rfl) rfl ?_)))))
     obtain ⟨o303,o303h,o303H⟩:=QW H
     refine ZH 11 (fun ρ w'=>∃ (x302:Bool),(x302)=o303∧Qi ρ [(0,pt bo0 0),(1,vI a1),(2,vI a2),(9,vI x179),(40,.bool x302)]∧Ext w w'∧St w' M F [B121 bo0 a0 A0_8 c0_8 A0_9 c0_9]) ?_ ?_
     ·as_aux_lemma =>
       have H:=o303h
       rcases Zf H with ⟨hb301,H⟩ | ⟨hb301,H⟩
       ·skip
        refine QP (congrArg some hb301) (W_v (pt bo0 0) (QD rfl) rfl (QP (congrArg some hb301) (W_v (pt bo0 0) (Qo rfl) rfl (QP (congrArg some hb301) (W_v (pt bo0 8) (QC (o:=0) (off:=8) Tryd.underlying121 rfl ty118 rfl rfl) rfl (QP (congrArg some hb301) (W_v (.slice A0_8 a0.T.length c0_8) (QO (S.blk 0 rfl) ty118 rfl rfl) rfl (QP (congrArg some hb301) (W_v (vI x179) (QD rfl) rfl (QP (congrArg some hb301) ?_))))))))))
        obtain ⟨⟨p304,p305⟩,H⟩:=Yy H
        obtain ⟨b306,o307,cs308,_,_,ee313,hb309,vs310,hR311,hc312⟩:=SlW.at' hr0_8 p304 p305
        obtain rfl:vs310=_:=hR311
        refine W_v (.pointer (some ⟨b306,o307+x179.toNat*4,none⟩)) (Qy Tryd.underlying118 ty124 (slA ee313) rfl p304 p305) rfl (QP (congrArg some hb301) (W_v (.pointer (some ⟨b306,o307+x179.toNat*4+1,none⟩)) (QC (o:=o307+x179.toNat*4) (off:=1) Tryd.underlying124 rfl ty3 rfl rfl) rfl (QP (congrArg some hb301) (W_v (vI ((rd a0.T x179).N)) (QO (S.frz hb309) ty3 rfl (hc312 1 _ rfl)) rfl (QP (congrArg some hb301) (W_v (vI a2) (QD rfl) rfl (QP (congrArg some hb301) (W_v (.bool ((rd a0.T x179).N==a2)) (Qa rfl rfl rfl rfl) rfl (W_v (.bool ((rd a0.T x179).N==a2)) (QV (k:=true) (congrArg Value.bool hb301) rfl) rfl (QB ?_))))))))))
        exact ⟨((rd a0.T x179).N==a2),Option.some.inj H,⟨rfl,rfl,rfl,rfl,rfl,trivial⟩,E,S.pick [0] (by decide)⟩
       ·skip
        refine QZ (skT hb301) rfl (QZ (skT hb301) rfl (QZ (skT hb301) rfl (QZ (skT hb301) rfl (QZ (skT hb301) rfl (QZ (skT hb301) rfl (QZ (skT hb301) rfl (QZ (skT hb301) rfl (QZ (skT hb301) rfl (QZ (skT hb301) rfl (W_v (.bool false) (QV (k:=false) (congrArg Value.bool hb301) rfl) rfl (QB ?_)))))))))))
        exact ⟨false,Option.some.inj H,⟨rfl,rfl,rfl,rfl,rfl,trivial⟩,E,S.pick [0] (by decide)⟩
     as_aux_lemma =>
     rintro ρ w314 ⟨x302,rfl,hρ,E,S⟩
     rw [QI hρ]
     have H:=o303H
     refine QB (tn ?_)
     rcases Zf H with ⟨hb315,H⟩ | ⟨hb315,H⟩
     ·refine QQ (congrArg Value.bool hb315) ?_
      refine QE ?_
      refine Q0 (S:=fun w'=>∃ Mx,M.le Mx∧St w' Mx F [B121 bo0 a0 A0_8 c0_8 A0_9 c0_9]) (L:=21) mixed ?_
      intro w336 hw337 E'
      replace S:=S.heap hw337
      replace E:=E.trans E'
      have D1:∃ Mx,Hp.le M Mx∧St _ Mx F [_]:=⟨_,Hp.le_refl _,S.pick [0] (by decide)⟩
      refine Wt 0 rfl rfl rfl (vI x179) rfl (fun w' h'=>QD rfl) D1 (Wt 1 rfl rfl rfl (vI (IntKind.i64.wrap (x179+(1:Int)))) rfl (fun w' h'=>Qa rfl rfl rfl rfl) D1 (Wt 2 rfl rfl rfl (pt bo0 0) rfl (fun w' h'=>QD rfl) D1 (Wt 3 rfl rfl rfl (pt bo0 0) rfl (fun w' h'=>Qo rfl) D1 (Wt 4 rfl rfl rfl (pt bo0 8) rfl (fun w' h'=>QC (o:=0) (off:=8) Tryd.underlying121 rfl ty118 rfl rfl) D1 (Wt 5 rfl rfl rfl (.slice A0_8 a0.T.length c0_8) rfl (fun w' h'=>QO (Qp h' 0 rfl) ty118 rfl rfl) D1 (Wt 6 rfl rfl rfl (vI x179) rfl (fun w' h'=>QD rfl) D1 ?_))))))
      obtain ⟨⟨p338,p339⟩,H⟩:=Yy H
      obtain ⟨b340,o341,cs342,_,_,ee347,hb343,vs344,hR345,hc346⟩:=SlW.at' hr0_8 p338 p339
      obtain rfl:vs344=_:=hR345
      refine Wt 7 rfl rfl rfl (.pointer (some ⟨b340,o341+x179.toNat*4,none⟩)) rfl (fun w' h'=>Qy Tryd.underlying118 ty124 (slA ee347) rfl p338 p339) D1 (Wt 8 rfl rfl rfl (.pointer (some ⟨b340,o341+x179.toNat*4+2,none⟩)) rfl (fun w' h'=>QC (o:=o341+x179.toNat*4) (off:=2) Tryd.underlying124 rfl ty5 rfl rfl) D1 (Wt 9 rfl rfl rfl (vU ((rd a0.T x179).State)) rfl (fun w' h'=>QO (XG h' hb343) ty5 rfl (hc346 2 _ rfl)) D1 (Wt 10 rfl rfl rfl (pt bo0 0) rfl (fun w' h'=>QD rfl) D1 (Wt 11 rfl rfl rfl (pt bo0 0) rfl (fun w' h'=>Qo rfl) D1 (Wt 12 rfl rfl rfl (pt bo0 8) rfl (fun w' h'=>QC (o:=0) (off:=8) Tryd.underlying121 rfl ty118 rfl rfl) D1 (Wt 13 rfl rfl rfl (.slice A0_8 a0.T.length c0_8) rfl (fun w' h'=>QO (Qp h' 0 rfl) ty118 rfl rfl) D1 (Wt 14 rfl rfl rfl (vI x179) rfl (fun w' h'=>QD rfl) D1 ?_)))))))
      obtain ⟨⟨p348,p349⟩,H⟩:=Yy H
      obtain ⟨b350,o351,cs352,_,_,ee357,hb353,vs354,hR355,hc356⟩:=SlW.at' hr0_8 p348 p349
      obtain rfl:vs354=_:=hR355
      refine Wt 15 rfl rfl rfl (.pointer (some ⟨b350,o351+x179.toNat*4,none⟩)) rfl (fun w' h'=>Qy Tryd.underlying118 ty124 (slA ee357) rfl p348 p349) D1 (Wt 16 rfl rfl rfl (.pointer (some ⟨b350,o351+x179.toNat*4+3,none⟩)) rfl (fun w' h'=>QC (o:=o351+x179.toNat*4) (off:=3) Tryd.underlying124 rfl ty3 rfl rfl) D1 (Wt 17 rfl rfl rfl (vI ((rd a0.T x179).Snapshot)) rfl (fun w' h'=>QO (XG h' hb353) ty3 rfl (hc356 3 _ rfl)) D1 (Wt 18 rfl rfl rfl (vI (IntKind.i64.wrap (x179+(1:Int)))) rfl (fun w' h'=>QG rfl) D1 (Wt 19 rfl rfl rfl (vU ((rd a0.T x179).State)) rfl (fun w' h'=>QG rfl) D1 (Wt 20 rfl rfl rfl (vI ((rd a0.T x179).Snapshot)) rfl (fun w' h'=>QG rfl) D1 ?_)))))
      refine Wz ?_
      refine tn ?_
      refine Qs ?_
      refine br (tr (tr (br (tr (tr (?_))))))
      obtain rfl:=Option.some.inj H
      have H:=o268H
      replace H:=elimL H
      obtain rfl:=Option.some.inj H
      exact ⟨_,_,_,fun w1 e1=>QX (vs:=[vI (IntKind.i64.wrap (x179+(1:Int))),vU ((rd a0.T x179).State),vI ((rd a0.T x179).Snapshot)]) (FA.cons (rfl) (FA.cons (rfl) (FA.cons (rfl) (FA.nil)))),HM,E,S.pick [0] (by decide),⟨rfl,rfl⟩⟩
     refine QK (congrArg Value.bool hb315) (Qr (bn (tn (QA (W_v (vI x179) (QD rfl) rfl (W_v (vI (IntKind.i64.wrap (x179+(1:Int)))) (Qa rfl rfl rfl rfl) rfl (W_v (vI (IntKind.i64.wrap (x179+(1:Int)))) (QG rfl) rfl (QB (tn ?_)))))))))
     exact ⟨k,Nat.lt_succ_self k,⟨(IntKind.i64.wrap (x179+(1:Int))),H,⟨rfl,rfl,rfl,rfl,trivial⟩,E,S.pick [0] (by decide)⟩⟩
    refine QK (congrArg Value.bool hb270) ?_
    refine Y0 ?_
    refine tx (tx (bsm (?_)))
    refine tn ?_
    exact ⟨Option.some.inj H,trivial,E,S.pick [0] (by decide)⟩
 rintro ρ w358 ⟨rfl,hρ,E,S⟩
 rw [QI hρ]
 have H:=o268H
 replace H:=elimR H
 refine tn ?_
 as_aux_lemma =>
 refine QE (QA (W_v (vI 0) (QG rfl) rfl (W_v (vU 0) (QG rfl) rfl (W_v (vI 0) (QG rfl) rfl (QB (tn ?_))))))
 refine Qs ?_
 obtain rfl:=Option.some.inj H
 exact ⟨_,_,_,fun w1 e1=>QX (vs:=[vI 0,vU 0,vI 0]) (FA.cons (rfl) (FA.cons (rfl) (FA.cons (rfl) (FA.nil)))),HM,E,S.pick [0] (by decide),⟨rfl,rfl⟩⟩
def Q6 (k:Nat) (a0:QH) (a1:Int) (a2:ZE):Option (Int) :=
 (if (((((decide (a1 < (0:Int)))||(decide (a1≥a0.C.Tasks)))||(decide (a2.Kind < (1:Int))))||(decide (a2.Kind > (9:Int))))||(((a2.Kind==(9:Int))&&(a2.Engine != (1:Int)))&&(a2.Engine != (2:Int))))=true then some (1:Int) else (if (((a2.Kind==(1:Int))||(a2.Kind==(8:Int)))||(a2.Kind==(9:Int)))=true then some (0:Int) else (Option.bind (ZF k a0 a1 a2.Tx) (fun t18=>(if (t18.2.1==(0:Int))=true then some (30:Int) else (if (t18.2.1 != (1:Int))=true then some (31:Int) else (Option.bind (α:=Bool) (if (((a2.Kind==(2:Int))||(a2.Kind==(3:Int)))||(a2.Kind==(4:Int)))=true then (Option.bind (Yz k a0.C a2.Key) (fun t69=>some ((!t69)))) else some (false)) (fun x67=>(Option.bind (α:=Bool) (if x67=true then some (true) else (Option.bind (α:=Bool) (if (a2.Kind==(3:Int))=true then (Option.bind (Yq k a0.C a2.Value) (fun t92=>some ((!t92)))) else some (false)) (fun x90=>some (x90)))) (fun x84=>(if x84=true then some (32:Int) else (Option.bind (α:=Bool) (if (a2.Kind==(5:Int))=true then (Option.bind (Yf k a0.C a2.Key) (fun t152=>(Option.bind (α:=Bool) (if (!t152)=true then some (true) else (Option.bind (Yf k a0.C a2.End) (fun t161=>some ((!t161))))) (fun x159=>some (((x159||(decide (a2.Limit < (0:Int))))||(decide (a2.Limit > (128:Int))))))))) else some (false)) (fun x150=>(if x150=true then some (32:Int) else some (0:Int)))))))))))))))
theorem Q6.mono {k:Nat} {a0:QH} {a1:Int} {a2:ZE}:OLe (Q6 k a0 a1 a2) (Q6 (k+1) a0 a1 a2):=by
 unfold Q6
 have m1:=@Yf.mono
 have m2:=@Yz.mono
 have m3:=@Yq.mono
 have m4:=@ZF.mono
 exact mo
theorem Q6.con (k:Nat) (M:Hp) (A0_8:Option Addr) (c0_8:Nat) (A0_9:Option Addr) (c0_9:Nat) (a0:QH) (a1:Int) (a2:ZE) (bo0:Nat) (r:Int) (hr0_8:SlR QY M (.slice A0_8 a0.T.length c0_8) a0.T) (hr0_9:SlR QU M (.slice A0_9 a0.L.length c0_9) a0.L) (h:Q6 k a0 a1 a2=some r):Con Tryd.prog 37 #[pt bo0 0,vI a1,.agg #[vU a2.Kind,vI a2.Tx,vS a2.Key,vS a2.End,vS a2.Value,vI a2.Limit,vU a2.Engine]] M [B121 bo0 a0 A0_8 c0_8 A0_9 c0_9] (fun v M' Γ'=>v=vI r∧Γ'=[B121 bo0 a0 A0_8 c0_8 A0_9 c0_9]):=by
 refine Qt Tryd.func37 rfl Tryd.ntmps37 Tryd.results37 rfl ?_
 intro w F rn S hrn
 have E:=Ext.refl w
 have HM:=Hp.le_refl M
 have H:=h
 unfold Q6 at H
 refine QE (QA ?_)
 refine Y8 S #[vU a2.Kind,vI a2.Tx,vS a2.Key,vS a2.End,vS a2.Value,vI a2.Limit,vU a2.Engine] rfl rfl rfl ?_
 intro b1 w2 E' S
 replace E:=E.trans E'
 refine W_v (vI 0) (QG rfl) rfl (QB (tn (QE (QE (QA (W_v (vI a1) (QD rfl) rfl (W_v (.bool (decide (a1 < (0:Int)))) (Qa rfl rfl rfl rfl) rfl (W_v (.bool (decide (a1 < (0:Int)))) (QD rfl) rfl ?_))))))))
 refine ZH 8 (fun ρ w'=>Qi ρ [(0,pt bo0 0),(1,vI a1),(5,pt b1 0),(21,.bool ((decide (a1 < (0:Int)))||(decide (a1≥a0.C.Tasks))))]∧w2=w') ?_ ?_
 ·rcases ZX (decide (a1 < (0:Int))) with hb4 | hb4
  ·skip
   refine QP (congrArg some hb4) (W_v (vI a1) (QD rfl) rfl (QP (congrArg some hb4) (W_v (pt bo0 0) (QD rfl) rfl (QP (congrArg some hb4) (W_v (pt bo0 0) (Qo rfl) rfl (QP (congrArg some hb4) (W_v (pt bo0 0) (QC (o:=0) (off:=0) Tryd.underlying121 rfl ty23 rfl rfl) rfl (QP (congrArg some hb4) (W_v (pt bo0 0) (QC (o:=0) (off:=0) Tryd.underlying23 rfl ty3 rfl rfl) rfl (QP (congrArg some hb4) (W_v (vI a0.C.Tasks) (QO (S.blk 1 rfl) ty3 rfl rfl) rfl (QP (congrArg some hb4) (W_v (.bool (decide (a1≥a0.C.Tasks))) (Qa rfl rfl rfl rfl) rfl (W_v (.bool (decide (a1≥a0.C.Tasks))) (QV (k:=false) (congrArg Value.bool hb4) rfl) rfl (QB ?_)))))))))))))))
   exact ⟨⟨rfl,rfl,rfl,(by first | rfl | (rw [hb4];rfl) | (simp only [hb4];rfl)),trivial⟩,rfl⟩
  ·skip
   refine QZ (skF hb4) rfl (QZ (skF hb4) rfl (QZ (skF hb4) rfl (QZ (skF hb4) rfl (QZ (skF hb4) rfl (QZ (skF hb4) rfl (QZ (skF hb4) rfl (W_v (.bool true) (QV (k:=true) (congrArg Value.bool hb4) rfl) rfl (QB ?_))))))))
   exact ⟨⟨rfl,rfl,rfl,(by first | rfl | (rw [hb4];rfl) | (simp only [hb4];rfl)),trivial⟩,rfl⟩
 as_aux_lemma =>
 rintro ρ _ ⟨hρ,rfl⟩
 rw [QI hρ]
 refine W_v (.bool ((decide (a1 < (0:Int)))||(decide (a1≥a0.C.Tasks)))) (QD rfl) rfl ?_
 refine ZH 4 (fun ρ w'=>Qi ρ [(0,pt bo0 0),(1,vI a1),(5,pt b1 0),(26,.bool (((decide (a1 < (0:Int)))||(decide (a1≥a0.C.Tasks)))||(decide (a2.Kind < (1:Int)))))]∧w2=w') ?_ ?_
 ·rcases ZX ((decide (a1 < (0:Int)))||(decide (a1≥a0.C.Tasks))) with hb5 | hb5
  ·skip
   refine QP (congrArg some hb5) (W_v (pt b1 0) (QC (o:=0) (off:=0) Tryd.underlying37 rfl ty5 rfl rfl) rfl (QP (congrArg some hb5) (W_v (vU a2.Kind) (QO (S.blk 0 rfl) ty5 rfl rfl) rfl (QP (congrArg some hb5) (W_v (.bool (decide (a2.Kind < (1:Int)))) (Qa rfl rfl rfl rfl) rfl (W_v (.bool (decide (a2.Kind < (1:Int)))) (QV (k:=false) (congrArg Value.bool hb5) rfl) rfl (QB ?_)))))))
   exact ⟨⟨rfl,rfl,rfl,(by first | rfl | (rw [hb5];rfl) | (simp only [hb5];rfl)),trivial⟩,rfl⟩
  ·skip
   refine QZ (skF hb5) rfl (QZ (skF hb5) rfl (QZ (skF hb5) rfl (W_v (.bool true) (QV (k:=true) (congrArg Value.bool hb5) rfl) rfl (QB ?_))))
   exact ⟨⟨rfl,rfl,rfl,(by first | rfl | (rw [hb5];rfl) | (simp only [hb5];rfl)),trivial⟩,rfl⟩
 as_aux_lemma =>
 rintro ρ _ ⟨hρ,rfl⟩
 rw [QI hρ]
 refine W_v (.bool (((decide (a1 < (0:Int)))||(decide (a1≥a0.C.Tasks)))||(decide (a2.Kind < (1:Int))))) (QD rfl) rfl ?_
 refine ZH 4 (fun ρ w'=>Qi ρ [(0,pt bo0 0),(1,vI a1),(5,pt b1 0),(31,.bool ((((decide (a1 < (0:Int)))||(decide (a1≥a0.C.Tasks)))||(decide (a2.Kind < (1:Int))))||(decide (a2.Kind > (9:Int)))))]∧w2=w') ?_ ?_
 ·rcases ZX (((decide (a1 < (0:Int)))||(decide (a1≥a0.C.Tasks)))||(decide (a2.Kind < (1:Int)))) with hb6 | hb6
  ·skip
   refine QP (congrArg some hb6) (W_v (pt b1 0) (QC (o:=0) (off:=0) Tryd.underlying37 rfl ty5 rfl rfl) rfl (QP (congrArg some hb6) (W_v (vU a2.Kind) (QO (S.blk 0 rfl) ty5 rfl rfl) rfl (QP (congrArg some hb6) (W_v (.bool (decide (a2.Kind > (9:Int)))) (Qa rfl rfl rfl rfl) rfl (W_v (.bool (decide (a2.Kind > (9:Int)))) (QV (k:=false) (congrArg Value.bool hb6) rfl) rfl (QB ?_)))))))
   exact ⟨⟨rfl,rfl,rfl,(by first | rfl | (rw [hb6];rfl) | (simp only [hb6];rfl)),trivial⟩,rfl⟩
  ·skip
   refine QZ (skF hb6) rfl (QZ (skF hb6) rfl (QZ (skF hb6) rfl (W_v (.bool true) (QV (k:=true) (congrArg Value.bool hb6) rfl) rfl (QB ?_))))
   exact ⟨⟨rfl,rfl,rfl,(by first | rfl | (rw [hb6];rfl) | (simp only [hb6];rfl)),trivial⟩,rfl⟩
 as_aux_lemma =>
 rintro ρ _ ⟨hρ,rfl⟩
 rw [QI hρ]
 refine W_v (.bool ((((decide (a1 < (0:Int)))||(decide (a1≥a0.C.Tasks)))||(decide (a2.Kind < (1:Int))))||(decide (a2.Kind > (9:Int))))) (QD rfl) rfl ?_
 refine ZH 14 (fun ρ w'=>Qi ρ [(0,pt bo0 0),(1,vI a1),(5,pt b1 0),(46,.bool (((((decide (a1 < (0:Int)))||(decide (a1≥a0.C.Tasks)))||(decide (a2.Kind < (1:Int))))||(decide (a2.Kind > (9:Int))))||(((a2.Kind==(9:Int))&&(a2.Engine != (1:Int)))&&(a2.Engine != (2:Int)))))]∧w2=w') ?_ ?_
 ·as_aux_lemma =>
   rcases ZX ((((decide (a1 < (0:Int)))||(decide (a1≥a0.C.Tasks)))||(decide (a2.Kind < (1:Int))))||(decide (a2.Kind > (9:Int)))) with hb11 | hb11
   ·skip
    refine QP (congrArg some hb11) (W_v (pt b1 0) (QC (o:=0) (off:=0) Tryd.underlying37 rfl ty5 rfl rfl) rfl (QP (congrArg some hb11) (W_v (vU a2.Kind) (QO (S.blk 0 rfl) ty5 rfl rfl) rfl (QP (congrArg some hb11) (W_v (.bool (a2.Kind==(9:Int))) (Qa rfl rfl rfl rfl) rfl (QP (congrArg some hb11) (W_v (.bool (a2.Kind==(9:Int))) (QD rfl) rfl ?_)))))))
    refine ZH 4 (fun ρ w'=>Qi ρ [(0,pt bo0 0),(1,vI a1),(5,pt b1 0),(32,.bool ((((decide (a1 < (0:Int)))||(decide (a1≥a0.C.Tasks)))||(decide (a2.Kind < (1:Int))))||(decide (a2.Kind > (9:Int))))),(40,.bool ((a2.Kind==(9:Int))&&(a2.Engine != (1:Int))))]∧w2=w') ?_ ?_
    ·rcases ZX (a2.Kind==(9:Int)) with hb12 | hb12
     ·skip
      refine QZ (skT hb12) rfl (QZ (skT hb12) rfl (QZ (skT hb12) rfl (QP (congrArg some hb11) (W_v (.bool false) (QV (k:=false) (congrArg Value.bool hb12) rfl) rfl (QB ?_)))))
      exact ⟨⟨rfl,rfl,rfl,rfl,(by first | rfl | (rw [hb12];rfl) | (simp only [hb12];rfl)),trivial⟩,rfl⟩
     ·skip
      refine QP (congrArg some hb12) (W_v (pt b1 6) (QC (o:=0) (off:=6) Tryd.underlying37 rfl ty5 rfl rfl) rfl (QP (congrArg some hb12) (W_v (vU a2.Engine) (QO (S.blk 0 rfl) ty5 rfl rfl) rfl (QP (congrArg some hb12) (W_v (.bool (a2.Engine != (1:Int))) (Qa rfl rfl rfl rfl) rfl (QP (congrArg some hb11) (W_v (.bool (a2.Engine != (1:Int))) (QV (k:=true) (congrArg Value.bool hb12) rfl) rfl (QB ?_))))))))
      exact ⟨⟨rfl,rfl,rfl,rfl,(by first | rfl | (rw [hb12];rfl) | (simp only [hb12];rfl)),trivial⟩,rfl⟩
    rintro ρ _ ⟨hρ,rfl⟩
    rw [QI hρ]
    refine QP (congrArg some hb11) (W_v (.bool ((a2.Kind==(9:Int))&&(a2.Engine != (1:Int)))) (QD rfl) rfl ?_)
    refine ZH 4 (fun ρ w'=>Qi ρ [(0,pt bo0 0),(1,vI a1),(5,pt b1 0),(32,.bool ((((decide (a1 < (0:Int)))||(decide (a1≥a0.C.Tasks)))||(decide (a2.Kind < (1:Int))))||(decide (a2.Kind > (9:Int))))),(45,.bool (((a2.Kind==(9:Int))&&(a2.Engine != (1:Int)))&&(a2.Engine != (2:Int))))]∧w2=w') ?_ ?_
    ·rcases ZX ((a2.Kind==(9:Int))&&(a2.Engine != (1:Int))) with hb13 | hb13
     ·skip
      refine QZ (skT hb13) rfl (QZ (skT hb13) rfl (QZ (skT hb13) rfl (QP (congrArg some hb11) (W_v (.bool false) (QV (k:=false) (congrArg Value.bool hb13) rfl) rfl (QB ?_)))))
      exact ⟨⟨rfl,rfl,rfl,rfl,(by first | rfl | (rw [hb13];rfl) | (simp only [hb13];rfl)),trivial⟩,rfl⟩
     ·skip
      refine QP (congrArg some hb13) (W_v (pt b1 6) (QC (o:=0) (off:=6) Tryd.underlying37 rfl ty5 rfl rfl) rfl (QP (congrArg some hb13) (W_v (vU a2.Engine) (QO (S.blk 0 rfl) ty5 rfl rfl) rfl (QP (congrArg some hb13) (W_v (.bool (a2.Engine != (2:Int))) (Qa rfl rfl rfl rfl) rfl (QP (congrArg some hb11) (W_v (.bool (a2.Engine != (2:Int))) (QV (k:=true) (congrArg Value.bool hb13) rfl) rfl (QB ?_))))))))
      exact ⟨⟨rfl,rfl,rfl,rfl,(by first | rfl | (rw [hb13];rfl) | (simp only [hb13];rfl)),trivial⟩,rfl⟩
    rintro ρ _ ⟨hρ,rfl⟩
    rw [QI hρ]
    refine W_v (.bool (((a2.Kind==(9:Int))&&(a2.Engine != (1:Int)))&&(a2.Engine != (2:Int)))) (QV (k:=false) (congrArg Value.bool hb11) rfl) rfl (QB ?_)
    exact ⟨⟨rfl,rfl,rfl,(by first | rfl | (rw [hb11];rfl) | (simp only [hb11];rfl)),trivial⟩,rfl⟩
   ·skip
    refine QZ (skF hb11) rfl (QZ (skF hb11) rfl (QZ (skF hb11) rfl (QZ (skF hb11) rfl (QZ (rfl) rfl (QZ (rfl) rfl (QZ (rfl) rfl (QZ (skF hb11) rfl (QZ (skF hb11) rfl (QZ (rfl) rfl (QZ (rfl) rfl (QZ (rfl) rfl (QZ (skF hb11) rfl (W_v (.bool true) (QV (k:=true) (congrArg Value.bool hb11) rfl) rfl (QB ?_))))))))))))))
    exact ⟨⟨rfl,rfl,rfl,(by first | rfl | (rw [hb11];rfl) | (simp only [hb11];rfl)),trivial⟩,rfl⟩
 as_aux_lemma =>
 rintro ρ _ ⟨hρ,rfl⟩
 rw [QI hρ]
 refine QB (tn ?_)
 rcases Zf H with ⟨hb14,H⟩ | ⟨hb14,H⟩
 ·refine QQ (congrArg Value.bool hb14) ?_
  refine QE (QA (W_v (vI 1) (QG rfl) rfl (QB (tn ?_))))
  refine Qs ?_
  refine tr (?_)
  obtain rfl:=Option.some.inj H
  exact ⟨_,_,_,fun w1 e1=>QX (vs:=[vI 1]) (FA.cons (rfl) (FA.nil)),HM,E,S.pick [1] (by decide),⟨rfl,rfl⟩⟩
 refine QK (congrArg Value.bool hb14) (Qr (tn (QE (QE (QA (W_v (pt b1 0) (QC (o:=0) (off:=0) Tryd.underlying37 rfl ty5 rfl rfl) rfl (W_v (vU a2.Kind) (QO (S.blk 0 rfl) ty5 rfl rfl) rfl (W_v (.bool (a2.Kind==(1:Int))) (Qa rfl rfl rfl rfl) rfl (W_v (.bool (a2.Kind==(1:Int))) (QD rfl) rfl ?_)))))))))
 refine ZH 4 (fun ρ w'=>Qi ρ [(0,pt bo0 0),(1,vI a1),(5,pt b1 0),(54,.bool ((a2.Kind==(1:Int))||(a2.Kind==(8:Int))))]∧w2=w') ?_ ?_
 ·rcases ZX (a2.Kind==(1:Int)) with hb15 | hb15
  ·skip
   refine QP (congrArg some hb15) (W_v (pt b1 0) (QC (o:=0) (off:=0) Tryd.underlying37 rfl ty5 rfl rfl) rfl (QP (congrArg some hb15) (W_v (vU a2.Kind) (QO (S.blk 0 rfl) ty5 rfl rfl) rfl (QP (congrArg some hb15) (W_v (.bool (a2.Kind==(8:Int))) (Qa rfl rfl rfl rfl) rfl (W_v (.bool (a2.Kind==(8:Int))) (QV (k:=false) (congrArg Value.bool hb15) rfl) rfl (QB ?_)))))))
   exact ⟨⟨rfl,rfl,rfl,(by first | rfl | (rw [hb15];rfl) | (simp only [hb15];rfl)),trivial⟩,rfl⟩
  ·skip
   refine QZ (skF hb15) rfl (QZ (skF hb15) rfl (QZ (skF hb15) rfl (W_v (.bool true) (QV (k:=true) (congrArg Value.bool hb15) rfl) rfl (QB ?_))))
   exact ⟨⟨rfl,rfl,rfl,(by first | rfl | (rw [hb15];rfl) | (simp only [hb15];rfl)),trivial⟩,rfl⟩
 as_aux_lemma =>
 rintro ρ _ ⟨hρ,rfl⟩
 rw [QI hρ]
 refine W_v (.bool ((a2.Kind==(1:Int))||(a2.Kind==(8:Int)))) (QD rfl) rfl ?_
 refine ZH 4 (fun ρ w'=>Qi ρ [(0,pt bo0 0),(1,vI a1),(5,pt b1 0),(59,.bool (((a2.Kind==(1:Int))||(a2.Kind==(8:Int)))||(a2.Kind==(9:Int))))]∧w2=w') ?_ ?_
 ·rcases ZX ((a2.Kind==(1:Int))||(a2.Kind==(8:Int))) with hb16 | hb16
  ·skip
   refine QP (congrArg some hb16) (W_v (pt b1 0) (QC (o:=0) (off:=0) Tryd.underlying37 rfl ty5 rfl rfl) rfl (QP (congrArg some hb16) (W_v (vU a2.Kind) (QO (S.blk 0 rfl) ty5 rfl rfl) rfl (QP (congrArg some hb16) (W_v (.bool (a2.Kind==(9:Int))) (Qa rfl rfl rfl rfl) rfl (W_v (.bool (a2.Kind==(9:Int))) (QV (k:=false) (congrArg Value.bool hb16) rfl) rfl (QB ?_)))))))
   exact ⟨⟨rfl,rfl,rfl,(by first | rfl | (rw [hb16];rfl) | (simp only [hb16];rfl)),trivial⟩,rfl⟩
  ·skip
   refine QZ (skF hb16) rfl (QZ (skF hb16) rfl (QZ (skF hb16) rfl (W_v (.bool true) (QV (k:=true) (congrArg Value.bool hb16) rfl) rfl (QB ?_))))
   exact ⟨⟨rfl,rfl,rfl,(by first | rfl | (rw [hb16];rfl) | (simp only [hb16];rfl)),trivial⟩,rfl⟩
 as_aux_lemma =>
 rintro ρ _ ⟨hρ,rfl⟩
 rw [QI hρ]
 refine QB (tn ?_)
 rcases Zf H with ⟨hb17,H⟩ | ⟨hb17,H⟩
 ·refine QQ (congrArg Value.bool hb17) ?_
  refine QE (QA (W_v (vI 0) (QG rfl) rfl (QB (tn ?_))))
  refine Qs ?_
  refine tr (?_)
  obtain rfl:=Option.some.inj H
  exact ⟨_,_,_,fun w1 e1=>QX (vs:=[vI 0]) (FA.cons (rfl) (FA.nil)),HM,E,S.pick [1] (by decide),⟨rfl,rfl⟩⟩
 refine QK (congrArg Value.bool hb17) (Qr (tn (QE (QA (W_v (pt bo0 0) (QD rfl) rfl (W_v (vI a1) (QD rfl) rfl (W_v (pt b1 1) (QC (o:=0) (off:=1) Tryd.underlying37 rfl ty3 rfl rfl) rfl (W_v (vI a2.Tx) (QO (S.blk 0 rfl) ty3 rfl rfl) rfl ?_))))))))
 obtain ⟨t18,ht19,H⟩:=QW H
 replace S:St w2 M F [_,_]:=S.pick [1,0] (by decide)
 refine Z5 fn55 (ZF.con k M A0_8 c0_8 A0_9 c0_9 a0 a1 a2.Tx bo0 t18 hr0_8 hr0_9 ht19) (Γ1:=[_]) (Γ2:=[_]) S rfl rfl (by rintro _ _ _ ⟨rfl,rfl⟩;exact (QN ZW Qd)) ?_
 rintro _ w20 _ Γ' E' S ⟨rfl,rfl⟩
 replace E:=E.trans E'
 replace S:St w20 M F [_,_]:=S
 refine W_v (.tuple #[vI t18.1,vU t18.2.1,vI t18.2.2]) (QD rfl) rfl (W_v (vI t18.1) (ZB rfl rfl) rfl (W_v (vU t18.2.1) (ZB rfl rfl) rfl (W_v (vI t18.2.2) (ZB rfl rfl) rfl (W_v (vI t18.1) (QG rfl) rfl (W_v (vU t18.2.1) (QG rfl) rfl (W_v (vI t18.2.2) (QG rfl) rfl (QB (tn (QE (QE (QA (W_v (vU t18.2.1) (QD rfl) rfl (W_v (.bool (t18.2.1==(0:Int))) (Qa rfl rfl rfl rfl) rfl (QB (tn ?_)))))))))))))))
 rcases Zf H with ⟨hb23,H⟩ | ⟨hb23,H⟩
 ·refine QQ (congrArg Value.bool hb23) ?_
  refine QE (QA (W_v (vI 30) (QG rfl) rfl (QB (tn ?_))))
  refine Qs ?_
  refine tr (?_)
  obtain rfl:=Option.some.inj H
  exact ⟨_,_,_,fun w1 e1=>QX (vs:=[vI 30]) (FA.cons (rfl) (FA.nil)),HM,E,S.pick [0] (by decide),⟨rfl,rfl⟩⟩
 refine QK (congrArg Value.bool hb23) (Qr (tn ?_))
 as_aux_lemma =>
 refine QE (QE (QA (W_v (vU t18.2.1) (QD rfl) rfl (W_v (.bool (t18.2.1 != (1:Int))) (Qa rfl rfl rfl rfl) rfl (QB (tn ?_))))))
 rcases Zf H with ⟨hb24,H⟩ | ⟨hb24,H⟩
 ·refine QQ (congrArg Value.bool hb24) ?_
  refine QE (QA (W_v (vI 31) (QG rfl) rfl (QB (tn ?_))))
  refine Qs ?_
  refine tr (?_)
  obtain rfl:=Option.some.inj H
  exact ⟨_,_,_,fun w1 e1=>QX (vs:=[vI 31]) (FA.cons (rfl) (FA.nil)),HM,E,S.pick [0] (by decide),⟨rfl,rfl⟩⟩
 refine QK (congrArg Value.bool hb24) (Qr (tn (QE (QA (W_v (pt b1 0) (QC (o:=0) (off:=0) Tryd.underlying37 rfl ty5 rfl rfl) rfl (W_v (vU a2.Kind) (QO (S.blk 1 rfl) ty5 rfl rfl) rfl (W_v (.bool (a2.Kind==(2:Int))) (Qa rfl rfl rfl rfl) rfl (W_v (.bool (a2.Kind==(2:Int))) (QD rfl) rfl ?_))))))))
 refine ZH 4 (fun ρ w'=>Qi ρ [(0,pt bo0 0),(5,pt b1 0),(80,.bool ((a2.Kind==(2:Int))||(a2.Kind==(3:Int))))]∧w20=w') ?_ ?_
 ·rcases ZX (a2.Kind==(2:Int)) with hb25 | hb25
  ·skip
   refine QP (congrArg some hb25) (W_v (pt b1 0) (QC (o:=0) (off:=0) Tryd.underlying37 rfl ty5 rfl rfl) rfl (QP (congrArg some hb25) (W_v (vU a2.Kind) (QO (S.blk 1 rfl) ty5 rfl rfl) rfl (QP (congrArg some hb25) (W_v (.bool (a2.Kind==(3:Int))) (Qa rfl rfl rfl rfl) rfl (W_v (.bool (a2.Kind==(3:Int))) (QV (k:=false) (congrArg Value.bool hb25) rfl) rfl (QB ?_)))))))
   exact ⟨⟨rfl,rfl,(by first | rfl | (rw [hb25];rfl) | (simp only [hb25];rfl)),trivial⟩,rfl⟩
  ·skip
   refine QZ (skF hb25) rfl (QZ (skF hb25) rfl (QZ (skF hb25) rfl (W_v (.bool true) (QV (k:=true) (congrArg Value.bool hb25) rfl) rfl (QB ?_))))
   exact ⟨⟨rfl,rfl,(by first | rfl | (rw [hb25];rfl) | (simp only [hb25];rfl)),trivial⟩,rfl⟩
 as_aux_lemma =>
 rintro ρ _ ⟨hρ,rfl⟩
 rw [QI hρ]
 refine W_v (.bool ((a2.Kind==(2:Int))||(a2.Kind==(3:Int)))) (QD rfl) rfl ?_
 refine ZH 4 (fun ρ w'=>Qi ρ [(0,pt bo0 0),(5,pt b1 0),(85,.bool (((a2.Kind==(2:Int))||(a2.Kind==(3:Int)))||(a2.Kind==(4:Int))))]∧w20=w') ?_ ?_
 ·rcases ZX ((a2.Kind==(2:Int))||(a2.Kind==(3:Int))) with hb26 | hb26
  ·skip
   refine QP (congrArg some hb26) (W_v (pt b1 0) (QC (o:=0) (off:=0) Tryd.underlying37 rfl ty5 rfl rfl) rfl (QP (congrArg some hb26) (W_v (vU a2.Kind) (QO (S.blk 1 rfl) ty5 rfl rfl) rfl (QP (congrArg some hb26) (W_v (.bool (a2.Kind==(4:Int))) (Qa rfl rfl rfl rfl) rfl (W_v (.bool (a2.Kind==(4:Int))) (QV (k:=false) (congrArg Value.bool hb26) rfl) rfl (QB ?_)))))))
   exact ⟨⟨rfl,rfl,(by first | rfl | (rw [hb26];rfl) | (simp only [hb26];rfl)),trivial⟩,rfl⟩
  ·skip
   refine QZ (skF hb26) rfl (QZ (skF hb26) rfl (QZ (skF hb26) rfl (W_v (.bool true) (QV (k:=true) (congrArg Value.bool hb26) rfl) rfl (QB ?_))))
   exact ⟨⟨rfl,rfl,(by first | rfl | (rw [hb26];rfl) | (simp only [hb26];rfl)),trivial⟩,rfl⟩
 as_aux_lemma =>
 rintro ρ _ ⟨hρ,rfl⟩
 rw [QI hρ]
 refine W_v (.bool (((a2.Kind==(2:Int))||(a2.Kind==(3:Int)))||(a2.Kind==(4:Int)))) (QG rfl) rfl (QB (tn (QE (QE ?_))))
 refine Q0 (S:=fun w'=>∃ Mx,M.le Mx∧St w' Mx F [B121 bo0 a0 A0_8 c0_8 A0_9 c0_9,B37 b1 a2]) (L:=26) mixed ?_
 intro w61 hw62 E'
 replace S:=S.heap hw62
 replace E:=E.trans E'
 have D1:∃ Mx,Hp.le M Mx∧St _ Mx F [_,_]:=⟨_,Hp.le_refl _,S.pick [0,1] (by decide)⟩
 refine Wt 0 rfl rfl rfl (.bool (((a2.Kind==(2:Int))||(a2.Kind==(3:Int)))||(a2.Kind==(4:Int)))) rfl (fun w' h'=>QD rfl) D1 (Wt 1 rfl rfl rfl (.bool (((a2.Kind==(2:Int))||(a2.Kind==(3:Int)))||(a2.Kind==(4:Int)))) rfl (fun w' h'=>QD rfl) D1 ?_)
 obtain ⟨o68,o68h,o68H⟩:=QW H
 refine YD (fun ρ w'=>∃ (x67:Bool),(x67)=o68∧Qi ρ [(0,pt bo0 0),(5,pt b1 0),(96,.bool x67)]∧Ext w w'∧St w' M F [B121 bo0 a0 A0_8 c0_8 A0_9 c0_9,B37 b1 a2]) 15 (Ls 26 [0,1,2,3,4,5,6,7,8,9,10]) ?_ ?_
 rotate_left
 ·intro hrest
  have H:=o68h
  rcases Zf H with ⟨hb66,H⟩ | ⟨hb66,H⟩
  ·skip
   have D2:∃ Mx,Hp.le M Mx∧St _ Mx F [_,_]:=⟨_,Hp.le_refl _,S.pick [0,1] (by decide)⟩
   refine WtY 2 rfl rfl rfl (pt bo0 0) rfl (congrArg some hb66) (fun w' h'=>QD rfl) D2 (WtY 3 rfl rfl rfl (pt bo0 0) rfl (congrArg some hb66) (fun w' h'=>Qo rfl) D2 (WtY 4 rfl rfl rfl (pt bo0 0) rfl (congrArg some hb66) (fun w' h'=>QC (o:=0) (off:=0) Tryd.underlying121 rfl ty23 rfl rfl) D2 (WtY 5 rfl rfl rfl (.agg #[vI a0.C.Tasks,vI a0.C.Active,vI a0.C.Keys,vI a0.C.Depth,vI a0.C.TS,vI a0.C.KeyLen,vI a0.C.ValLen,vI a0.C.Fan]) rfl (congrArg some hb66) (fun w' h'=>ZA (Qp h' 0 rfl) ty23 rfl (QM rfl) rfl rfl) D2 (WtY 6 rfl rfl rfl (pt b1 2) rfl (congrArg some hb66) (fun w' h'=>QC (o:=0) (off:=2) Tryd.underlying37 rfl ty9 rfl rfl) D2 (WtY 7 rfl rfl rfl (vS a2.Key) rfl (congrArg some hb66) (fun w' h'=>QO (Qp h' 1 rfl) ty9 rfl rfl) D2 ?_)))))
   refine Wo 8 rfl ?_
   refine QP (congrArg some hb66) ?_
   obtain ⟨t69,ht70,H⟩:=QW H
   refine Zz fn56 (Yz.con k M a0.C a2.Key t69  ht70) S rfl rfl (by rintro _ _ _ ⟨_,rfl⟩;exact Qd) ?_
   rintro _ w71 _ Γ' E' S ⟨rfl,rfl⟩
   replace E:=E.trans E'
   refine QB (YU ⟨.inr ⟨M,Hp.le_refl M,(S.pick [0,1] (by decide))⟩,?_⟩)
   have D3:∃ Mx,Hp.le M Mx∧St _ Mx F [_,_]:=⟨_,Hp.le_refl _,S.pick [0,1] (by decide)⟩
   refine WtY 9 rfl rfl rfl (.bool (!t69)) rfl (congrArg some hb66) (fun w' h'=>Y5 (b:=t69) rfl) D3 (Wt 10 rfl rfl rfl (.bool (!t69)) rfl (fun w' h'=>QV (k:=true) (congrArg Value.bool hb66) rfl) D3 ?_)
   exact hrest _ _ ⟨(!t69),Option.some.inj H,⟨rfl,rfl,rfl,trivial⟩,E,S.pick [0,1] (by decide)⟩
  ·skip
   have D4:∃ Mx,Hp.le M Mx∧St _ Mx F [_,_]:=⟨_,Hp.le_refl _,S.pick [0,1] (by decide)⟩
   refine WtN 2 rfl rfl rfl rfl (skT hb66) D4 (WtN 3 rfl rfl rfl rfl (skT hb66) D4 (WtN 4 rfl rfl rfl rfl (skT hb66) D4 (WtN 5 rfl rfl rfl rfl (skT hb66) D4 (WtN 6 rfl rfl rfl rfl (skT hb66) D4 (WtN 7 rfl rfl rfl rfl (skT hb66) D4 (WtN 8 rfl rfl rfl rfl (skT hb66) D4 (WtN 9 rfl rfl rfl rfl (skT hb66) D4 (Wt 10 rfl rfl rfl (.bool false) rfl (fun w' h'=>QV (k:=false) (congrArg Value.bool hb66) rfl) D4 ?_))))))))
   exact hrest _ _ ⟨false,Option.some.inj H,⟨rfl,rfl,rfl,trivial⟩,E,S.pick [0,1] (by decide)⟩
 rintro ρ w72 ⟨x67,rfl,hρ,E,S⟩
 rw [QI hρ]
 have H:=o68H
 refine Wt 11 rfl rfl rfl (.bool x67) rfl (fun w' h'=>QD rfl) (⟨M,Hp.le_refl M,(S.pick [0,1] (by decide))⟩) ?_
 obtain ⟨o85,o85h,o85H⟩:=QW H
 refine YD (fun ρ w'=>∃ (x84:Bool),(x84)=o85∧Qi ρ [(0,pt bo0 0),(5,pt b1 0),(111,.bool x84)]∧Ext w w'∧St w' M F [B121 bo0 a0 A0_8 c0_8 A0_9 c0_9,B37 b1 a2]) 0 (Ls 26 [0,1,2,3,4,5,6,7,8,9,10,11,12,13,14,15,16,17,18,19,20,21,22,23,24,25]) ?_ ?_
 rotate_left
 ·intro hrest
  have H:=o85h
  rcases Zf H with ⟨hb83,H⟩ | ⟨hb83,H⟩
  ·skip
   have D6:∃ Mx,Hp.le M Mx∧St _ Mx F [_,_]:=⟨_,Hp.le_refl _,S.pick [0,1] (by decide)⟩
   refine WtN 12 rfl rfl rfl rfl (skF hb83) D6 (WtN 13 rfl rfl rfl rfl (skF hb83) D6 (WtN 14 rfl rfl rfl rfl (skF hb83) D6 (WtN 15 rfl rfl rfl rfl (skF hb83) D6 (WtN 16 rfl rfl rfl rfl (rfl) D6 (WtN 17 rfl rfl rfl rfl (rfl) D6 (WtN 18 rfl rfl rfl rfl (rfl) D6 (WtN 19 rfl rfl rfl rfl (rfl) D6 (WtN 20 rfl rfl rfl rfl (rfl) D6 (WtN 21 rfl rfl rfl rfl (rfl) D6 (WtN 22 rfl rfl rfl rfl (rfl) D6 (WtN 23 rfl rfl rfl rfl (rfl) D6 (WtN 24 rfl rfl rfl rfl (skF hb83) D6 (Wt 25 rfl rfl rfl (.bool true) rfl (fun w' h'=>QV (k:=true) (congrArg Value.bool hb83) rfl) D6 ?_)))))))))))))
   exact hrest _ _ ⟨true,Option.some.inj H,⟨rfl,rfl,rfl,trivial⟩,E,S.pick [0,1] (by decide)⟩
  ·skip
   have D7:∃ Mx,Hp.le M Mx∧St _ Mx F [_,_]:=⟨_,Hp.le_refl _,S.pick [0,1] (by decide)⟩
   refine WtY 12 rfl rfl rfl (pt b1 0) rfl (congrArg some hb83) (fun w' h'=>QC (o:=0) (off:=0) Tryd.underlying37 rfl ty5 rfl rfl) D7 (WtY 13 rfl rfl rfl (vU a2.Kind) rfl (congrArg some hb83) (fun w' h'=>QO (Qp h' 1 rfl) ty5 rfl rfl) D7 (WtY 14 rfl rfl rfl (.bool (a2.Kind==(3:Int))) rfl (congrArg some hb83) (fun w' h'=>Qa rfl rfl rfl rfl) D7 (WtY 15 rfl rfl rfl (.bool (a2.Kind==(3:Int))) rfl (congrArg some hb83) (fun w' h'=>QD rfl) D7 ?_)))
   obtain ⟨o91,o91h,o91H⟩:=QW H
   refine YD (fun ρ w'=>∃ (x90:Bool),(x90)=o91∧Qi ρ [(0,pt bo0 0),(5,pt b1 0),(97,.bool x67),(110,.bool x90)]∧Ext w w'∧St w' M F [B121 bo0 a0 A0_8 c0_8 A0_9 c0_9,B37 b1 a2]) 1 (Ls 26 [0,1,2,3,4,5,6,7,8,9,10,11,12,13,14,15,16,17,18,19,20,21,22,23,24]) ?_ ?_
   rotate_left
   ·intro hrest
    have H:=o91h
    rcases Zf H with ⟨hb89,H⟩ | ⟨hb89,H⟩
    ·skip
     have D8:∃ Mx,Hp.le M Mx∧St _ Mx F [_,_]:=⟨_,Hp.le_refl _,S.pick [0,1] (by decide)⟩
     refine WtY 16 rfl rfl rfl (pt bo0 0) rfl (congrArg some hb89) (fun w' h'=>QD rfl) D8 (WtY 17 rfl rfl rfl (pt bo0 0) rfl (congrArg some hb89) (fun w' h'=>Qo rfl) D8 (WtY 18 rfl rfl rfl (pt bo0 0) rfl (congrArg some hb89) (fun w' h'=>QC (o:=0) (off:=0) Tryd.underlying121 rfl ty23 rfl rfl) D8 (WtY 19 rfl rfl rfl (.agg #[vI a0.C.Tasks,vI a0.C.Active,vI a0.C.Keys,vI a0.C.Depth,vI a0.C.TS,vI a0.C.KeyLen,vI a0.C.ValLen,vI a0.C.Fan]) rfl (congrArg some hb89) (fun w' h'=>ZA (Qp h' 0 rfl) ty23 rfl (QM rfl) rfl rfl) D8 (WtY 20 rfl rfl rfl (pt b1 4) rfl (congrArg some hb89) (fun w' h'=>QC (o:=0) (off:=4) Tryd.underlying37 rfl ty9 rfl rfl) D8 (WtY 21 rfl rfl rfl (vS a2.Value) rfl (congrArg some hb89) (fun w' h'=>QO (Qp h' 1 rfl) ty9 rfl rfl) D8 ?_)))))
     refine Wo 22 rfl ?_
     refine QP (congrArg some hb89) ?_
     obtain ⟨t92,ht93,H⟩:=QW H
     refine Zz fn57 (Yq.con k M a0.C a2.Value t92  ht93) S rfl rfl (by rintro _ _ _ ⟨_,rfl⟩;exact Qd) ?_
     rintro _ w94 _ Γ' E' S ⟨rfl,rfl⟩
     replace E:=E.trans E'
     refine QB (YU ⟨.inr ⟨M,Hp.le_refl M,(S.pick [0,1] (by decide))⟩,?_⟩)
     have D9:∃ Mx,Hp.le M Mx∧St _ Mx F [_,_]:=⟨_,Hp.le_refl _,S.pick [0,1] (by decide)⟩
     refine WtY 23 rfl rfl rfl (.bool (!t92)) rfl (congrArg some hb89) (fun w' h'=>Y5 (b:=t92) rfl) D9 (WtY 24 rfl rfl rfl (.bool (!t92)) rfl (congrArg some hb83) (fun w' h'=>QV (k:=true) (congrArg Value.bool hb89) rfl) D9 ?_)
     exact hrest _ _ ⟨(!t92),Option.some.inj H,⟨rfl,rfl,rfl,rfl,trivial⟩,E,S.pick [0,1] (by decide)⟩
    ·skip
     have D10:∃ Mx,Hp.le M Mx∧St _ Mx F [_,_]:=⟨_,Hp.le_refl _,S.pick [0,1] (by decide)⟩
     refine WtN 16 rfl rfl rfl rfl (skT hb89) D10 (WtN 17 rfl rfl rfl rfl (skT hb89) D10 (WtN 18 rfl rfl rfl rfl (skT hb89) D10 (WtN 19 rfl rfl rfl rfl (skT hb89) D10 (WtN 20 rfl rfl rfl rfl (skT hb89) D10 (WtN 21 rfl rfl rfl rfl (skT hb89) D10 (WtN 22 rfl rfl rfl rfl (skT hb89) D10 (WtN 23 rfl rfl rfl rfl (skT hb89) D10 (WtY 24 rfl rfl rfl (.bool false) rfl (congrArg some hb83) (fun w' h'=>QV (k:=false) (congrArg Value.bool hb89) rfl) D10 ?_))))))))
     exact hrest _ _ ⟨false,Option.some.inj H,⟨rfl,rfl,rfl,rfl,trivial⟩,E,S.pick [0,1] (by decide)⟩
   rintro ρ w95 ⟨x90,rfl,hρ,E,S⟩
   rw [QI hρ]
   have H:=o91H
   refine Wt 25 rfl rfl rfl (.bool x90) rfl (fun w' h'=>QV (k:=false) (congrArg Value.bool hb83) rfl) (⟨M,Hp.le_refl M,(S.pick [0,1] (by decide))⟩) ?_
   exact hrest _ _ ⟨x90,Option.some.inj H,⟨rfl,rfl,rfl,trivial⟩,E,S.pick [0,1] (by decide)⟩
 rintro ρ w96 ⟨x84,rfl,hρ,E,S⟩
 rw [QI hρ]
 have H:=o85H
 refine Wz ?_
 refine tn ?_
 rcases Zf H with ⟨hb97,H⟩ | ⟨hb97,H⟩
 ·refine QQ (congrArg Value.bool hb97) ?_
  refine QE (QA (W_v (vI 32) (QG rfl) rfl (QB (tn ?_))))
  refine Qs ?_
  refine tr (?_)
  obtain rfl:=Option.some.inj H
  exact ⟨_,_,_,fun w1 e1=>QX (vs:=[vI 32]) (FA.cons (rfl) (FA.nil)),HM,E,S.pick [0] (by decide),⟨rfl,rfl⟩⟩
 refine QK (congrArg Value.bool hb97) (Qr (tn ?_))
 as_aux_lemma =>
 refine QE (QE ?_)
 refine Q0 (S:=fun w'=>∃ Mx,M.le Mx∧St w' Mx F [B121 bo0 a0 A0_8 c0_8 A0_9 c0_9,B37 b1 a2]) (L:=33) mixed ?_
 intro w132 hw133 E'
 replace S:=S.heap hw133
 replace E:=E.trans E'
 have D12:∃ Mx,Hp.le M Mx∧St _ Mx F [_,_]:=⟨_,Hp.le_refl _,S.pick [0,1] (by decide)⟩
 refine Wt 0 rfl rfl rfl (pt b1 0) rfl (fun w' h'=>QC (o:=0) (off:=0) Tryd.underlying37 rfl ty5 rfl rfl) D12 (Wt 1 rfl rfl rfl (vU a2.Kind) rfl (fun w' h'=>QO (Qp h' 1 rfl) ty5 rfl rfl) D12 (Wt 2 rfl rfl rfl (.bool (a2.Kind==(5:Int))) rfl (fun w' h'=>Qa rfl rfl rfl rfl) D12 (Wt 3 rfl rfl rfl (.bool (a2.Kind==(5:Int))) rfl (fun w' h'=>QD rfl) D12 ?_)))
 obtain ⟨o151,o151h,o151H⟩:=QW H
 refine YD (fun ρ w'=>∃ (x150:Bool),(x150)=o151∧Qi ρ [(144,.bool x150)]∧Ext w w'∧St w' M F [B121 bo0 a0 A0_8 c0_8 A0_9 c0_9,B37 b1 a2]) 0 (Ls 33 [0,1,2,3,4,5,6,7,8,9,10,11,12,13,14,15,16,17,18,19,20,21,22,23,24,25,26,27,28,29,30,31,32]) ?_ ?_
 rotate_left
 ·intro hrest
  have H:=o151h
  rcases Zf H with ⟨hb149,H⟩ | ⟨hb149,H⟩
  ·skip
   have D13:∃ Mx,Hp.le M Mx∧St _ Mx F [_,_]:=⟨_,Hp.le_refl _,S.pick [0,1] (by decide)⟩
   refine WtY 4 rfl rfl rfl (pt bo0 0) rfl (congrArg some hb149) (fun w' h'=>QD rfl) D13 (WtY 5 rfl rfl rfl (pt bo0 0) rfl (congrArg some hb149) (fun w' h'=>Qo rfl) D13 (WtY 6 rfl rfl rfl (pt bo0 0) rfl (congrArg some hb149) (fun w' h'=>QC (o:=0) (off:=0) Tryd.underlying121 rfl ty23 rfl rfl) D13 (WtY 7 rfl rfl rfl (.agg #[vI a0.C.Tasks,vI a0.C.Active,vI a0.C.Keys,vI a0.C.Depth,vI a0.C.TS,vI a0.C.KeyLen,vI a0.C.ValLen,vI a0.C.Fan]) rfl (congrArg some hb149) (fun w' h'=>ZA (Qp h' 0 rfl) ty23 rfl (QM rfl) rfl rfl) D13 (WtY 8 rfl rfl rfl (pt b1 2) rfl (congrArg some hb149) (fun w' h'=>QC (o:=0) (off:=2) Tryd.underlying37 rfl ty9 rfl rfl) D13 (WtY 9 rfl rfl rfl (vS a2.Key) rfl (congrArg some hb149) (fun w' h'=>QO (Qp h' 1 rfl) ty9 rfl rfl) D13 ?_)))))
   refine Wo 10 rfl ?_
   refine QP (congrArg some hb149) ?_
   obtain ⟨t152,ht153,H⟩:=QW H
   refine Zz fn58 (Yf.con k M a0.C a2.Key t152  ht153) S rfl rfl (by rintro _ _ _ ⟨_,rfl⟩;exact Qd) ?_
   rintro _ w154 _ Γ' E' S ⟨rfl,rfl⟩
   replace E:=E.trans E'
   refine QB (YU ⟨.inr ⟨M,Hp.le_refl M,(S.pick [0,1] (by decide))⟩,?_⟩)
   have D14:∃ Mx,Hp.le M Mx∧St _ Mx F [_,_]:=⟨_,Hp.le_refl _,S.pick [0,1] (by decide)⟩
   refine WtY 11 rfl rfl rfl (.bool (!t152)) rfl (congrArg some hb149) (fun w' h'=>Y5 (b:=t152) rfl) D14 (WtY 12 rfl rfl rfl (.bool (!t152)) rfl (congrArg some hb149) (fun w' h'=>QD rfl) D14 ?_)
   obtain ⟨o160,o160h,o160H⟩:=QW H
   refine YD (fun ρ w'=>∃ (x159:Bool),(x159)=o160∧Qi ρ [(5,pt b1 0),(115,.bool (a2.Kind==(5:Int))),(133,.bool x159)]∧Ext w w'∧St w' M F [B121 bo0 a0 A0_8 c0_8 A0_9 c0_9,B37 b1 a2]) 11 (Ls 33 [0,1,2,3,4,5,6,7,8,9,10,11,12,13,14,15,16,17,18,19,20,21]) ?_ ?_
   rotate_left
   ·intro hrest
    have H:=o160h
    rcases Zf H with ⟨hb158,H⟩ | ⟨hb158,H⟩
    ·skip
     have D15:∃ Mx,Hp.le M Mx∧St _ Mx F [_,_]:=⟨_,Hp.le_refl _,S.pick [0,1] (by decide)⟩
     refine WtN 13 rfl rfl rfl rfl (skF hb158) D15 (WtN 14 rfl rfl rfl rfl (skF hb158) D15 (WtN 15 rfl rfl rfl rfl (skF hb158) D15 (WtN 16 rfl rfl rfl rfl (skF hb158) D15 (WtN 17 rfl rfl rfl rfl (skF hb158) D15 (WtN 18 rfl rfl rfl rfl (skF hb158) D15 (WtN 19 rfl rfl rfl rfl (skF hb158) D15 (WtN 20 rfl rfl rfl rfl (skF hb158) D15 (WtY 21 rfl rfl rfl (.bool true) rfl (congrArg some hb149) (fun w' h'=>QV (k:=true) (congrArg Value.bool hb158) rfl) D15 ?_))))))))
     exact hrest _ _ ⟨true,Option.some.inj H,⟨rfl,rfl,rfl,trivial⟩,E,S.pick [0,1] (by decide)⟩
    ·skip
     have D16:∃ Mx,Hp.le M Mx∧St _ Mx F [_,_]:=⟨_,Hp.le_refl _,S.pick [0,1] (by decide)⟩
     refine WtY 13 rfl rfl rfl (pt bo0 0) rfl (congrArg some hb158) (fun w' h'=>QD rfl) D16 (WtY 14 rfl rfl rfl (pt bo0 0) rfl (congrArg some hb158) (fun w' h'=>Qo rfl) D16 (WtY 15 rfl rfl rfl (pt bo0 0) rfl (congrArg some hb158) (fun w' h'=>QC (o:=0) (off:=0) Tryd.underlying121 rfl ty23 rfl rfl) D16 (WtY 16 rfl rfl rfl (.agg #[vI a0.C.Tasks,vI a0.C.Active,vI a0.C.Keys,vI a0.C.Depth,vI a0.C.TS,vI a0.C.KeyLen,vI a0.C.ValLen,vI a0.C.Fan]) rfl (congrArg some hb158) (fun w' h'=>ZA (Qp h' 0 rfl) ty23 rfl (QM rfl) rfl rfl) D16 (WtY 17 rfl rfl rfl (pt b1 3) rfl (congrArg some hb158) (fun w' h'=>QC (o:=0) (off:=3) Tryd.underlying37 rfl ty9 rfl rfl) D16 (WtY 18 rfl rfl rfl (vS a2.End) rfl (congrArg some hb158) (fun w' h'=>QO (Qp h' 1 rfl) ty9 rfl rfl) D16 ?_)))))
     refine Wo 19 rfl ?_
     refine QP (congrArg some hb158) ?_
     obtain ⟨t161,ht162,H⟩:=QW H
     refine Zz fn58 (Yf.con k M a0.C a2.End t161  ht162) S rfl rfl (by rintro _ _ _ ⟨_,rfl⟩;exact Qd) ?_
     rintro _ w163 _ Γ' E' S ⟨rfl,rfl⟩
     replace E:=E.trans E'
     refine QB (YU ⟨.inr ⟨M,Hp.le_refl M,(S.pick [0,1] (by decide))⟩,?_⟩)
     have D17:∃ Mx,Hp.le M Mx∧St _ Mx F [_,_]:=⟨_,Hp.le_refl _,S.pick [0,1] (by decide)⟩
     refine WtY 20 rfl rfl rfl (.bool (!t161)) rfl (congrArg some hb158) (fun w' h'=>Y5 (b:=t161) rfl) D17 (WtY 21 rfl rfl rfl (.bool (!t161)) rfl (congrArg some hb149) (fun w' h'=>QV (k:=false) (congrArg Value.bool hb158) rfl) D17 ?_)
     exact hrest _ _ ⟨(!t161),Option.some.inj H,⟨rfl,rfl,rfl,trivial⟩,E,S.pick [0,1] (by decide)⟩
   rintro ρ w164 ⟨x159,rfl,hρ,E,S⟩
   rw [QI hρ]
   have H:=o160H
   refine WtY 22 rfl rfl rfl (.bool x159) rfl (congrArg some hb149) (fun w' h'=>QD rfl) (⟨M,Hp.le_refl M,(S.pick [0,1] (by decide))⟩) ?_
   refine YD (fun ρ w'=>Qi ρ [(5,pt b1 0),(115,.bool (a2.Kind==(5:Int))),(138,.bool (x159||(decide (a2.Limit < (0:Int)))))]∧w164=w') 6 (Ls 33 [0,1,2,3,4,5,6,7,8,9,10,11,12,13,14,15,16,17,18,19,20,21,22,23,24,25,26]) ?_ ?_
   rotate_left
   ·intro hrest
    rcases ZX x159 with hb165 | hb165
    ·skip
     have D19:∃ Mx,Hp.le M Mx∧St _ Mx F [_,_]:=⟨_,Hp.le_refl _,S.pick [0,1] (by decide)⟩
     refine WtY 23 rfl rfl rfl (pt b1 5) rfl (congrArg some hb165) (fun w' h'=>QC (o:=0) (off:=5) Tryd.underlying37 rfl ty3 rfl rfl) D19 (WtY 24 rfl rfl rfl (vI a2.Limit) rfl (congrArg some hb165) (fun w' h'=>QO (Qp h' 1 rfl) ty3 rfl rfl) D19 (WtY 25 rfl rfl rfl (.bool (decide (a2.Limit < (0:Int)))) rfl (congrArg some hb165) (fun w' h'=>Qa rfl rfl rfl rfl) D19 (WtY 26 rfl rfl rfl (.bool (decide (a2.Limit < (0:Int)))) rfl (congrArg some hb149) (fun w' h'=>QV (k:=false) (congrArg Value.bool hb165) rfl) D19 ?_)))
     exact hrest _ _ ⟨⟨rfl,rfl,(by first | rfl | (rw [hb165];rfl) | (simp only [hb165];rfl)),trivial⟩,rfl⟩
    ·skip
     have D20:∃ Mx,Hp.le M Mx∧St _ Mx F [_,_]:=⟨_,Hp.le_refl _,S.pick [0,1] (by decide)⟩
     refine WtN 23 rfl rfl rfl rfl (skF hb165) D20 (WtN 24 rfl rfl rfl rfl (skF hb165) D20 (WtN 25 rfl rfl rfl rfl (skF hb165) D20 (WtY 26 rfl rfl rfl (.bool true) rfl (congrArg some hb149) (fun w' h'=>QV (k:=true) (congrArg Value.bool hb165) rfl) D20 ?_)))
     exact hrest _ _ ⟨⟨rfl,rfl,(by first | rfl | (rw [hb165];rfl) | (simp only [hb165];rfl)),trivial⟩,rfl⟩
   rintro ρ _ ⟨hρ,rfl⟩
   rw [QI hρ]
   refine WtY 27 rfl rfl rfl (.bool (x159||(decide (a2.Limit < (0:Int))))) rfl (congrArg some hb149) (fun w' h'=>QD rfl) (⟨M,Hp.le_refl M,(S.pick [0,1] (by decide))⟩) ?_
   refine YD (fun ρ w'=>Qi ρ [(115,.bool (a2.Kind==(5:Int))),(143,.bool ((x159||(decide (a2.Limit < (0:Int))))||(decide (a2.Limit > (128:Int)))))]∧w164=w') 1 (Ls 33 [0,1,2,3,4,5,6,7,8,9,10,11,12,13,14,15,16,17,18,19,20,21,22,23,24,25,26,27,28,29,30,31]) ?_ ?_
   rotate_left
   ·intro hrest
    rcases ZX (x159||(decide (a2.Limit < (0:Int)))) with hb166 | hb166
    ·skip
     have D22:∃ Mx,Hp.le M Mx∧St _ Mx F [_,_]:=⟨_,Hp.le_refl _,S.pick [0,1] (by decide)⟩
     refine WtY 28 rfl rfl rfl (pt b1 5) rfl (congrArg some hb166) (fun w' h'=>QC (o:=0) (off:=5) Tryd.underlying37 rfl ty3 rfl rfl) D22 (WtY 29 rfl rfl rfl (vI a2.Limit) rfl (congrArg some hb166) (fun w' h'=>QO (Qp h' 1 rfl) ty3 rfl rfl) D22 (WtY 30 rfl rfl rfl (.bool (decide (a2.Limit > (128:Int)))) rfl (congrArg some hb166) (fun w' h'=>Qa rfl rfl rfl rfl) D22 (WtY 31 rfl rfl rfl (.bool (decide (a2.Limit > (128:Int)))) rfl (congrArg some hb149) (fun w' h'=>QV (k:=false) (congrArg Value.bool hb166) rfl) D22 ?_)))
     exact hrest _ _ ⟨⟨rfl,(by first | rfl | (rw [hb166];rfl) | (simp only [hb166];rfl)),trivial⟩,rfl⟩
    ·skip
     have D23:∃ Mx,Hp.le M Mx∧St _ Mx F [_,_]:=⟨_,Hp.le_refl _,S.pick [0,1] (by decide)⟩
     refine WtN 28 rfl rfl rfl rfl (skF hb166) D23 (WtN 29 rfl rfl rfl rfl (skF hb166) D23 (WtN 30 rfl rfl rfl rfl (skF hb166) D23 (WtY 31 rfl rfl rfl (.bool true) rfl (congrArg some hb149) (fun w' h'=>QV (k:=true) (congrArg Value.bool hb166) rfl) D23 ?_)))
     exact hrest _ _ ⟨⟨rfl,(by first | rfl | (rw [hb166];rfl) | (simp only [hb166];rfl)),trivial⟩,rfl⟩
   rintro ρ _ ⟨hρ,rfl⟩
   rw [QI hρ]
   refine Wt 32 rfl rfl rfl (.bool ((x159||(decide (a2.Limit < (0:Int))))||(decide (a2.Limit > (128:Int))))) rfl (fun w' h'=>QV (k:=true) (congrArg Value.bool hb149) rfl) (⟨M,Hp.le_refl M,(S.pick [0,1] (by decide))⟩) ?_
   exact hrest _ _ ⟨((x159||(decide (a2.Limit < (0:Int))))||(decide (a2.Limit > (128:Int)))),Option.some.inj H,⟨rfl,trivial⟩,E,S.pick [0,1] (by decide)⟩
  ·skip
   have D25:∃ Mx,Hp.le M Mx∧St _ Mx F [_,_]:=⟨_,Hp.le_refl _,S.pick [0,1] (by decide)⟩
   refine WtN 4 rfl rfl rfl rfl (skT hb149) D25 (WtN 5 rfl rfl rfl rfl (skT hb149) D25 (WtN 6 rfl rfl rfl rfl (skT hb149) D25 (WtN 7 rfl rfl rfl rfl (skT hb149) D25 (WtN 8 rfl rfl rfl rfl (skT hb149) D25 (WtN 9 rfl rfl rfl rfl (skT hb149) D25 (WtN 10 rfl rfl rfl rfl (skT hb149) D25 (WtN 11 rfl rfl rfl rfl (skT hb149) D25 (WtN 12 rfl rfl rfl rfl (skT hb149) D25 (WtN 13 rfl rfl rfl rfl (rfl) D25 (WtN 14 rfl rfl rfl rfl (rfl) D25 (WtN 15 rfl rfl rfl rfl (rfl) D25 (WtN 16 rfl rfl rfl rfl (rfl) D25 (WtN 17 rfl rfl rfl rfl (rfl) D25 (WtN 18 rfl rfl rfl rfl (rfl) D25 (WtN 19 rfl rfl rfl rfl (rfl) D25 ?_)))))))))))))))
   refine WtN 20 rfl rfl rfl rfl (rfl) D25 (WtN 21 rfl rfl rfl rfl (skT hb149) D25 (WtN 22 rfl rfl rfl rfl (skT hb149) D25 (WtN 23 rfl rfl rfl rfl (rfl) D25 (WtN 24 rfl rfl rfl rfl (rfl) D25 (WtN 25 rfl rfl rfl rfl (rfl) D25 (WtN 26 rfl rfl rfl rfl (skT hb149) D25 (WtN 27 rfl rfl rfl rfl (skT hb149) D25 (WtN 28 rfl rfl rfl rfl (rfl) D25 (WtN 29 rfl rfl rfl rfl (rfl) D25 (WtN 30 rfl rfl rfl rfl (rfl) D25 (WtN 31 rfl rfl rfl rfl (skT hb149) D25 (Wt 32 rfl rfl rfl (.bool false) rfl (fun w' h'=>QV (k:=false) (congrArg Value.bool hb149) rfl) D25 ?_))))))))))))
   exact hrest _ _ ⟨false,Option.some.inj H,⟨rfl,trivial⟩,E,S.pick [0,1] (by decide)⟩
 rintro ρ w167 ⟨x150,rfl,hρ,E,S⟩
 rw [QI hρ]
 have H:=o151H
 refine Wz ?_
 refine tn ?_
 rcases Zf H with ⟨hb168,H⟩ | ⟨hb168,H⟩
 ·refine QQ (congrArg Value.bool hb168) ?_
  refine QE (QA (W_v (vI 32) (QG rfl) rfl (QB (tn ?_))))
  refine Qs ?_
  refine tr (?_)
  obtain rfl:=Option.some.inj H
  exact ⟨_,_,_,fun w1 e1=>QX (vs:=[vI 32]) (FA.cons (rfl) (FA.nil)),HM,E,S.pick [0] (by decide),⟨rfl,rfl⟩⟩
 refine QK (congrArg Value.bool hb168) (Qr (tn ?_))
 as_aux_lemma =>
 refine QE (QA (W_v (vI 0) (QG rfl) rfl (QB (tn ?_))))
 refine Qs ?_
 obtain rfl:=Option.some.inj H
 exact ⟨_,_,_,fun w1 e1=>QX (vs:=[vI 0]) (FA.cons (rfl) (FA.nil)),HM,E,S.pick [0] (by decide),⟨rfl,rfl⟩⟩
def ZQ (a0:QH):Nat→Int→Int→Option ((Int))
 | 0,_,_=>none
 | k+1,x77,x78=>(if (decide (x78 < (a0.T.length:Int)))=true then (Option.bind (α:=Int) (if 0≤x78∧x78 < (a0.T.length:Int) then (Option.bind (α:=Int) (if ((rd a0.T x78).State==(1:Int))=true then some ((IntKind.i64.wrap (x77+(1:Int)))) else some (x77)) (fun x149=>some (x149))) else none) (fun x135=>ZQ a0 k x135 (IntKind.i64.wrap (x78+(1:Int))))) else some (x77))
theorem ZQ.mono {a0:QH}:∀ {kl:Nat} {x0 x1},OLe (ZQ a0 kl x0 x1) (ZQ a0 (kl+1) x0 x1):=by
 intro kl
 induction kl with
 | zero=>intros;exact OLe.none
 | succ kl ih =>
  intros
  rw [ZQ.eq_2,ZQ.eq_2]
  exact mo
def ZM (k:Nat) (a0:QH):Option (Int) :=
 (Option.bind (ZQ a0 k (0:Int) (0:Int)) (fun x115=>some x115))
theorem ZM.mono {k:Nat} {a0:QH}:OLe (ZM k a0) (ZM (k+1) a0):=by
 unfold ZM
 have m1:=@ZQ.mono
 exact mo
theorem ZM.con (k:Nat) (M:Hp) (A0_8:Option Addr) (c0_8:Nat) (A0_9:Option Addr) (c0_9:Nat) (a0:QH) (bo0:Nat) (r:Int) (hr0_8:SlR QY M (.slice A0_8 a0.T.length c0_8) a0.T) (hr0_9:SlR QU M (.slice A0_9 a0.L.length c0_9) a0.L) (h:ZM k a0=some r):Con Tryd.prog 59 #[pt bo0 0] M [B121 bo0 a0 A0_8 c0_8 A0_9 c0_9] (fun v M' Γ'=>v=vI r∧Γ'=[B121 bo0 a0 A0_8 c0_8 A0_9 c0_9]):=by
 refine Qt Tryd.func59 rfl Tryd.ntmps59 Tryd.results59 rfl ?_
 intro w F rn S hrn
 have E:=Ext.refl w
 have HM:=Hp.le_refl M
 have H:=h
 unfold ZM at H
 refine QE (QA (W_v (vI 0) (QG rfl) rfl (QB (tn (QE (QA (W_v (vI 0) (QG rfl) rfl (QB (tn (QE (QE (QA (W_v (vI 0) (QG rfl) rfl (QB (tn ?_)))))))))))))))
 obtain ⟨o116,o116h,o116H⟩:=QW H
 refine Yj (fun ρ w'=>∃ (x115:Int),(x115)=o116∧Qi ρ [(3,vI x115)]∧Ext w w'∧St w' M F [B121 bo0 a0 A0_8 c0_8 A0_9 c0_9]) ?_ ?_
 ·skip
  refine Y3 (fun n ρ w'=>∃ (x77:Int) (x78:Int),ZQ a0 n x77 x78=some o116∧Qi ρ [(0,pt bo0 0),(3,vI x77),(4,vI x78)]∧Ext w w'∧St w' M F [B121 bo0 a0 A0_8 c0_8 A0_9 c0_9]) k ?_ ?_
  ·skip
   exact ⟨(0:Int),(0:Int),o116h,⟨rfl,rfl,rfl,trivial⟩,E,S.pick [0] (by decide)⟩
  ·intro n
   rintro ρ w117 ⟨x77,x78,H,hρ,E,S⟩
   rw [QI hρ]
   cases n with
   | zero=>cases H
   | succ k =>
    rw [ZQ.eq_2] at H
    refine QE (QE (QA (W_v (vI x78) (QD rfl) rfl (W_v (pt bo0 0) (QD rfl) rfl (W_v (pt bo0 0) (Qo rfl) rfl (W_v (pt bo0 8) (QC (o:=0) (off:=8) Tryd.underlying121 rfl ty118 rfl rfl) rfl (W_v (.slice A0_8 a0.T.length c0_8) (QO (S.blk 0 rfl) ty118 rfl rfl) rfl (W_v (vI (a0.T.length:Int)) (Q8 (n:=a0.T.length) Tryd.underlying118 rfl) rfl (W_v (.bool (decide (x78 < (a0.T.length:Int)))) (Qa rfl rfl rfl rfl) rfl (QB (tn ?_)))))))))))
    rcases Zf H with ⟨hb118,H⟩ | ⟨hb118,H⟩
    ·refine QQ (congrArg Value.bool hb118) ?_
     refine Qr (tn (QE ?_))
     obtain ⟨o136,o136h,o136H⟩:=QW H
     refine Y7 (fun ρ w'=>∃ (x135:Int),(x135)=o136∧Qi ρ [(0,pt bo0 0),(3,vI x135),(4,vI x78)]∧Ext w w'∧St w' M F [B121 bo0 a0 A0_8 c0_8 A0_9 c0_9]) ?_ ?_
     ·as_aux_lemma =>
       clear o136H
       have H:=o136h
       refine YP ?_
       refine QE (QA (W_v (pt bo0 0) (QD rfl) rfl (W_v (pt bo0 0) (Qo rfl) rfl (W_v (pt bo0 8) (QC (o:=0) (off:=8) Tryd.underlying121 rfl ty118 rfl rfl) rfl (W_v (.slice A0_8 a0.T.length c0_8) (QO (S.blk 0 rfl) ty118 rfl rfl) rfl (W_v (vI x78) (QD rfl) rfl ?_))))))
       obtain ⟨⟨p137,p138⟩,H⟩:=Yy H
       obtain ⟨b139,o140,cs141,_,_,ee146,hb142,vs143,hR144,hc145⟩:=SlW.at' hr0_8 p137 p138
       obtain rfl:vs143=_:=hR144
       refine W_v (.pointer (some ⟨b139,o140+x78.toNat*4,none⟩)) (Qy Tryd.underlying118 ty124 (slA ee146) rfl p137 p138) rfl (W_v (.pointer (some ⟨b139,o140+x78.toNat*4+2,none⟩)) (QC (o:=o140+x78.toNat*4) (off:=2) Tryd.underlying124 rfl ty5 rfl rfl) rfl (W_v (vU ((rd a0.T x78).State)) (QO (S.frz hb142) ty5 rfl (hc145 2 _ rfl)) rfl (W_v (.bool ((rd a0.T x78).State==(1:Int))) (Qa rfl rfl rfl rfl) rfl (QB (tn ?_)))))
       obtain ⟨o150,o150h,o150H⟩:=QW H
       refine Y7 (fun ρ w'=>∃ (x149:Int),(x149)=o150∧Qi ρ [(0,pt bo0 0),(3,vI x149),(4,vI x78)]∧Ext w w'∧St w' M F [B121 bo0 a0 A0_8 c0_8 A0_9 c0_9]) ?_ ?_
       ·clear o150H
        have H:=o150h
        rcases Zf H with ⟨hb151,H⟩ | ⟨hb151,H⟩
        ·refine QQ (congrArg Value.bool hb151) ?_
         refine QA (W_v (vI x77) (QD rfl) rfl (W_v (vI (IntKind.i64.wrap (x77+(1:Int)))) (Qa rfl rfl rfl rfl) rfl (W_v (vI (IntKind.i64.wrap (x77+(1:Int)))) (QG rfl) rfl (QB (tn ?_)))))
         exact ⟨(IntKind.i64.wrap (x77+(1:Int))),Option.some.inj H,⟨rfl,rfl,rfl,trivial⟩,E,S.pick [0] (by decide)⟩
        refine QK (congrArg Value.bool hb151) (Qr (tn ?_))
        exact ⟨x77,Option.some.inj H,⟨rfl,rfl,rfl,trivial⟩,E,S.pick [0] (by decide)⟩
       rintro ρ w152 ⟨x149,rfl,hρ,E,S⟩
       rw [QI hρ]
       have H:=o150H
       refine bn (tn ?_)
       exact ⟨x149,Option.some.inj H,⟨rfl,rfl,rfl,trivial⟩,E,S.pick [0] (by decide)⟩
     rintro ρ w153 ⟨x135,rfl,hρ,E,S⟩
     rw [QI hρ]
     have H:=o136H
     refine tn (QA (W_v (vI x78) (QD rfl) rfl (W_v (vI (IntKind.i64.wrap (x78+(1:Int)))) (Qa rfl rfl rfl rfl) rfl (W_v (vI (IntKind.i64.wrap (x78+(1:Int)))) (QG rfl) rfl (QB (tn ?_))))))
     exact ⟨k,Nat.lt_succ_self k,⟨x135,(IntKind.i64.wrap (x78+(1:Int))),H,⟨rfl,rfl,rfl,trivial⟩,E,S.pick [0] (by decide)⟩⟩
    refine QK (congrArg Value.bool hb118) ?_
    refine Y0 ?_
    refine tx (tx (bsm (?_)))
    refine tn ?_
    exact ⟨x77,Option.some.inj H,⟨rfl,trivial⟩,E,S.pick [0] (by decide)⟩
 rintro ρ w154 ⟨x115,rfl,hρ,E,S⟩
 rw [QI hρ]
 have H:=o116H
 refine tn ?_
 as_aux_lemma =>
 refine QE (QA (W_v (vI x115) (QD rfl) rfl (W_v (vI x115) (QG rfl) rfl (QB (tn ?_)))))
 refine Qs ?_
 obtain rfl:=Option.some.inj H
 exact ⟨_,_,_,fun w1 e1=>QX (vs:=[vI x115]) (FA.cons (rfl) (FA.nil)),HM,E,S.pick [0] (by decide),⟨rfl,rfl⟩⟩
def ZS (a0:QH) (a1:Str):Nat→Int→Option ((QR)⊕(Unit))
 | 0,_=>none
 | k+1,x68=>(if (decide (x68 < (a0.L.length:Int)))=true then (if 0≤x68∧x68 < (a0.L.length:Int) then (if (sbin .eql ((rd a0.L x68).Key) a1)=true then (if 0≤x68∧x68 < (a0.L.length:Int) then some (.inl (rd a0.L x68)) else none) else ZS a0 a1 k (IntKind.i64.wrap (x68+(1:Int)))) else none) else some (.inr ()))
theorem ZS.mono {a0:QH} {a1:Str}:∀ {kl:Nat} {x0},OLe (ZS a0 a1 kl x0) (ZS a0 a1 (kl+1) x0):=by
 intro kl
 induction kl with
 | zero=>intros;exact OLe.none
 | succ kl ih =>
  intros
  rw [ZS.eq_2,ZS.eq_2]
  exact mo
def Zk (k:Nat) (a0:QH) (a1:Str):Option (QR) :=
 (Option.bind (ZS a0 a1 k (0:Int)) (fun o100o=>Sum.elim (fun r'=>some r') (fun _=>some (⟨a1,([]:(List QS)),false,⟨(0:Int),(0:Int),false,([]:Str)⟩⟩:QR)) o100o))
theorem Zk.mono {k:Nat} {a0:QH} {a1:Str}:OLe (Zk k a0 a1) (Zk (k+1) a0 a1):=by
 unfold Zk
 have m1:=@ZS.mono
 exact mo
theorem Zk.con (k:Nat) (M:Hp) (A0_8:Option Addr) (c0_8:Nat) (A0_9:Option Addr) (c0_9:Nat) (a0:QH) (a1:Str) (bo0:Nat) (r:QR) (hr0_8:SlR QY M (.slice A0_8 a0.T.length c0_8) a0.T) (hr0_9:SlR QU M (.slice A0_9 a0.L.length c0_9) a0.L) (h:Zk k a0 a1=some r):Con Tryd.prog 61 #[pt bo0 0,vS a1] M [B121 bo0 a0 A0_8 c0_8 A0_9 c0_9] (fun v M' Γ'=>∃ (Aq1:Option Addr) (cq2:Nat),v=.agg #[vS r.Key,.slice Aq1 r.L.length cq2,.bool r.Has,vI r.I.Writer,vI r.I.TS,.bool r.I.Tomb,vS r.I.Value]∧SlR Q4 M' (.slice Aq1 r.L.length cq2) r.L∧Γ'=[B121 bo0 a0 A0_8 c0_8 A0_9 c0_9]):=by
 refine Qt Tryd.func61 rfl Tryd.ntmps61 Tryd.results61 rfl ?_
 intro w F rn S hrn
 have E:=Ext.refl w
 have HM:=Hp.le_refl M
 have H:=h
 unfold Zk at H
 refine QE (QA ?_)
 refine Zo S cz3 ty127 rfl rfl ?_
 intro b1 w2 E' S
 replace E:=E.trans E'
 refine QB (tn (QE (QE (QA (W_v (vI 0) (QG rfl) rfl (QB (tn ?_)))))))
 obtain ⟨o100,o100h,o100H⟩:=QW H
 refine Yj (fun ρ w'=>.inr ()=o100∧Qi ρ [(1,vS a1),(4,pt b1 0)]∧Ext w w'∧St w' M F [Blk b1 (.cells cz3 127 (0,0)),B121 bo0 a0 A0_8 c0_8 A0_9 c0_9]) ?_ ?_
 ·skip
  refine Y3 (fun n ρ w'=>∃ (x68:Int),ZS a0 a1 n x68=some o100∧Qi ρ [(0,pt bo0 0),(1,vS a1),(4,pt b1 0),(5,vI x68)]∧Ext w w'∧St w' M F [Blk b1 (.cells cz3 127 (0,0)),B121 bo0 a0 A0_8 c0_8 A0_9 c0_9]) k ?_ ?_
  ·skip
   exact ⟨(0:Int),o100h,⟨rfl,rfl,rfl,rfl,trivial⟩,E,S.pick [0,1] (by decide)⟩
  ·intro n
   rintro ρ w101 ⟨x68,H,hρ,E,S⟩
   rw [QI hρ]
   cases n with
   | zero=>cases H
   | succ k =>
    rw [ZS.eq_2] at H
    refine QE (QE (QA (W_v (vI x68) (QD rfl) rfl (W_v (pt bo0 0) (QD rfl) rfl (W_v (pt bo0 0) (Qo rfl) rfl (W_v (pt bo0 9) (QC (o:=0) (off:=9) Tryd.underlying121 rfl ty119 rfl rfl) rfl (W_v (.slice A0_9 a0.L.length c0_9) (QO (S.blk 1 rfl) ty119 rfl rfl) rfl (W_v (vI (a0.L.length:Int)) (Q8 (n:=a0.L.length) Tryd.underlying119 rfl) rfl (W_v (.bool (decide (x68 < (a0.L.length:Int)))) (Qa rfl rfl rfl rfl) rfl (QB (tn ?_)))))))))))
    rcases Zf H with ⟨hb102,H⟩ | ⟨hb102,H⟩
    ·refine QQ (congrArg Value.bool hb102) ?_
     refine Qr (tn (QE ?_))
     refine YP ?_
     refine QE (QA (W_v (pt bo0 0) (QD rfl) rfl (W_v (pt bo0 0) (Qo rfl) rfl (W_v (pt bo0 9) (QC (o:=0) (off:=9) Tryd.underlying121 rfl ty119 rfl rfl) rfl (W_v (.slice A0_9 a0.L.length c0_9) (QO (S.blk 1 rfl) ty119 rfl rfl) rfl (W_v (vI x68) (QD rfl) rfl ?_))))))
     obtain ⟨⟨p103,p104⟩,H⟩:=Yy H
     obtain ⟨b105,o106,cs107,_,_,ee112,hb108,vs109,hR110,hc111⟩:=SlW.at' hr0_9 p103 p104
     obtain ⟨v116,hs115,rfl⟩:=hR110
     obtain ⟨A113,c114,rfl,_⟩:=hs115.form
     refine W_v (.pointer (some ⟨b105,o106+x68.toNat*7,none⟩)) (Qy Tryd.underlying119 ty127 (slA ee112) rfl p103 p104) rfl (W_v (.pointer (some ⟨b105,o106+x68.toNat*7,none⟩)) (QC (o:=o106+x68.toNat*7) (off:=0) Tryd.underlying127 rfl ty9 rfl rfl) rfl (W_v (vS ((rd a0.L x68).Key)) (QO (S.frz hb108) ty9 rfl (hc111 0 _ rfl)) rfl (W_v (vS a1) (QD rfl) rfl (W_v (.bool (sbin .eql ((rd a0.L x68).Key) a1)) (Xy rfl rfl rfl) rfl (QB (tn ?_))))))
     rcases Zf H with ⟨hb117,H⟩ | ⟨hb117,H⟩
     ·refine QQ (congrArg Value.bool hb117) ?_
      refine QE (QA (W_v (pt bo0 0) (QD rfl) rfl (W_v (pt bo0 0) (Qo rfl) rfl (W_v (pt bo0 9) (QC (o:=0) (off:=9) Tryd.underlying121 rfl ty119 rfl rfl) rfl (W_v (.slice A0_9 a0.L.length c0_9) (QO (S.blk 1 rfl) ty119 rfl rfl) rfl (W_v (vI x68) (QD rfl) rfl ?_))))))
      obtain ⟨⟨p118,p119⟩,H⟩:=Yy H
      obtain ⟨b120,o121,cs122,_,_,ee127,hb123,vs124,hR125,hc126⟩:=SlW.at' hr0_9 p118 p119
      obtain ⟨v131,hs130,rfl⟩:=hR125
      obtain ⟨A128,c129,rfl,_⟩:=hs130.form
      refine W_v (.pointer (some ⟨b120,o121+x68.toNat*7,none⟩)) (Qy Tryd.underlying119 ty127 (slA ee127) rfl p118 p119) rfl (W_v (.agg #[vS ((rd a0.L x68).Key),.slice A128 ((rd a0.L x68).L).length c129,.bool ((rd a0.L x68).Has),vI ((rd a0.L x68).I.Writer),vI ((rd a0.L x68).I.TS),.bool ((rd a0.L x68).I.Tomb),vS ((rd a0.L x68).I.Value)]) (ZA (S.frz hb123) ty127 rfl (Xa hc126 0 rfl) rfl rfl) rfl ?_)
      refine Qx S 0 rfl ty127 rfl rfl [vS ((rd a0.L x68).Key),.slice A128 ((rd a0.L x68).L).length c129,.bool ((rd a0.L x68).Has),vI ((rd a0.L x68).I.Writer),vI ((rd a0.L x68).I.TS),.bool ((rd a0.L x68).I.Tomb),vS ((rd a0.L x68).I.Value)] rfl rfl rfl #[vS ((rd a0.L x68).Key),.slice A128 ((rd a0.L x68).L).length c129,.bool ((rd a0.L x68).Has),vI ((rd a0.L x68).I.Writer),vI ((rd a0.L x68).I.TS),.bool ((rd a0.L x68).I.Tomb),vS ((rd a0.L x68).I.Value)] (by as_aux_lemma=>kernel_rfl) rfl ?_
      intro w132 E' S
      replace E:=E.trans E'
      refine QB (tn ?_)
      refine Qs ?_
      refine br (tr (tr (br (tr (tr (?_))))))
      obtain rfl:=Option.some.inj H
      have H:=o100H
      replace H:=elimL H
      obtain rfl:=Option.some.inj H
      exact ⟨_,_,_,fun w1 e1=>QX (vs:=[.agg #[vS ((rd a0.L x68).Key),.slice A128 ((rd a0.L x68).L).length c129,.bool ((rd a0.L x68).Has),vI ((rd a0.L x68).I.Writer),vI ((rd a0.L x68).I.TS),.bool ((rd a0.L x68).I.Tomb),vS ((rd a0.L x68).I.Value)]]) (FA.cons (⟨_,rfl,Qn ty127 ((S.of_eq e1).blk 0 rfl) (QM rfl) rfl (by decide)⟩) (FA.nil)),HM,E,S.pick [1] (by decide),⟨A128,c129,rfl,hs130,rfl⟩⟩
     refine QK (congrArg Value.bool hb117) (Qr (bn (tn (QA (W_v (vI x68) (QD rfl) rfl (W_v (vI (IntKind.i64.wrap (x68+(1:Int)))) (Qa rfl rfl rfl rfl) rfl (W_v (vI (IntKind.i64.wrap (x68+(1:Int)))) (QG rfl) rfl (QB (tn ?_)))))))))
     exact ⟨k,Nat.lt_succ_self k,⟨(IntKind.i64.wrap (x68+(1:Int))),H,⟨rfl,rfl,rfl,rfl,trivial⟩,E,S.pick [0,1] (by decide)⟩⟩
    refine QK (congrArg Value.bool hb102) ?_
    refine Y0 ?_
    refine tx (tx (bsm (?_)))
    refine tn ?_
    exact ⟨Option.some.inj H,⟨rfl,rfl,trivial⟩,E,S.pick [0,1] (by decide)⟩
 rintro ρ w133 ⟨rfl,hρ,E,S⟩
 rw [QI hρ]
 have H:=o100H
 replace H:=elimR H
 refine tn ?_
 as_aux_lemma =>
 refine QE (QA (W_v (vS a1) (QD rfl) rfl (W_v (.agg #[vS a1,.slice none 0 0,.bool false,vI 0,vI 0,.bool false,vS ([]:Str)]) (Z3 (pl:=[(0,1),(1,1),(2,1),(3,4)]) #[vS a1,.slice none 0 0,.bool false,vI 0,vI 0,.bool false,vS ([]:Str)] Tryd.underlying127 ty127 (by as_aux_lemma=>kernel_rfl) rfl (by as_aux_lemma=>kernel_rfl)) rfl ?_)))
 refine Qx S 0 rfl ty127 rfl rfl [vS a1,.slice none 0 0,.bool false,vI 0,vI 0,.bool false,vS ([]:Str)] rfl rfl rfl #[vS a1,.slice none 0 0,.bool false,vI 0,vI 0,.bool false,vS ([]:Str)] (by as_aux_lemma=>kernel_rfl) rfl ?_
 intro w134 E' S
 replace E:=E.trans E'
 refine QB (tn ?_)
 refine Qs ?_
 obtain rfl:=Option.some.inj H
 exact ⟨_,_,_,fun w1 e1=>QX (vs:=[.agg #[vS a1,.slice none 0 0,.bool false,vI 0,vI 0,.bool false,vS ([]:Str)]]) (FA.cons (⟨_,rfl,Qn ty127 ((S.of_eq e1).blk 0 rfl) (QM rfl) rfl (by decide)⟩) (FA.nil)),HM,E,S.pick [1] (by decide),⟨none,0,rfl,SlW.nil _ _,rfl⟩⟩
def ZD (k:Nat) (a0:QH) (a1:Int) (a2:QR):Option (Str×Bool) :=
 (if (a2.Has&&(a2.I.Writer==a1))=true then some (a2.I.Value,(!a2.I.Tomb)) else (if 0≤(IntKind.i64.wrap (a1 - (1:Int)))∧(IntKind.i64.wrap (a1 - (1:Int))) < (a0.T.length:Int) then (Option.bind (α:=Int×Int×Bool×Str×Bool) (Option.bind (Ye k a2.L ((rd a0.T (IntKind.i64.wrap (a1 - (1:Int)))).Snapshot)) (fun t121=>some (t121.1.Writer,t121.1.TS,t121.1.Tomb,t121.1.Value,t121.2))) (fun ⟨x116,x117,x118,x119,x120⟩=>some (x119,x120))) else none))
theorem ZD.mono {k:Nat} {a0:QH} {a1:Int} {a2:QR}:OLe (ZD k a0 a1 a2) (ZD (k+1) a0 a1 a2):=by
 unfold ZD
 have m1:=@Ye.mono
 exact mo
theorem ZD.con (k:Nat) (M:Hp) (A0_8:Option Addr) (c0_8:Nat) (A0_9:Option Addr) (c0_9:Nat) (a0:QH) (a1:Int) (A2_0:Option Addr) (c2_0:Nat) (a2:QR) (bo0:Nat) (r:Str×Bool) (hr0_8:SlR QY M (.slice A0_8 a0.T.length c0_8) a0.T) (hr0_9:SlR QU M (.slice A0_9 a0.L.length c0_9) a0.L) (hr2_0:SlR Q4 M (.slice A2_0 a2.L.length c2_0) a2.L) (h:ZD k a0 a1 a2=some r):Con Tryd.prog 60 #[pt bo0 0,vI a1,.agg #[vS a2.Key,.slice A2_0 a2.L.length c2_0,.bool a2.Has,vI a2.I.Writer,vI a2.I.TS,.bool a2.I.Tomb,vS a2.I.Value]] M [B121 bo0 a0 A0_8 c0_8 A0_9 c0_9] (fun v M' Γ'=>v=.tuple #[vS r.1,.bool r.2]∧Γ'=[B121 bo0 a0 A0_8 c0_8 A0_9 c0_9]):=by
 refine Qt Tryd.func60 rfl Tryd.ntmps60 Tryd.results60 rfl ?_
 intro w F rn S hrn
 have E:=Ext.refl w
 have HM:=Hp.le_refl M
 have H:=h
 unfold ZD at H
 refine QE (QA ?_)
 refine Y8 S #[vS a2.Key,.slice A2_0 a2.L.length c2_0,.bool a2.Has,vI a2.I.Writer,vI a2.I.TS,.bool a2.I.Tomb,vS a2.I.Value] rfl rfl rfl ?_
 intro b1 w2 E' S
 replace E:=E.trans E'
 refine W_v (vS ([]:Str)) (QG rfl) rfl (W_v (.bool false) (QG rfl) rfl (QB (tn (QE (QE (QA (W_v (pt b1 2) (QC (o:=0) (off:=2) Tryd.underlying127 rfl ty4 rfl rfl) rfl (W_v (.bool a2.Has) (QO (S.blk 0 rfl) ty4 rfl rfl) rfl (W_v (.bool a2.Has) (QD rfl) rfl ?_)))))))))
 refine ZH 6 (fun ρ w'=>Qi ρ [(0,pt bo0 0),(1,vI a1),(5,pt b1 0),(18,.bool (a2.Has&&(a2.I.Writer==a1)))]∧w2=w') ?_ ?_
 ·rcases ZX a2.Has with hb4 | hb4
  ·skip
   refine QZ (skT hb4) rfl (QZ (skT hb4) rfl (QZ (skT hb4) rfl (QZ (skT hb4) rfl (QZ (skT hb4) rfl (W_v (.bool false) (QV (k:=false) (congrArg Value.bool hb4) rfl) rfl (QB ?_))))))
   exact ⟨⟨rfl,rfl,rfl,(by first | rfl | (rw [hb4];rfl) | (simp only [hb4];rfl)),trivial⟩,rfl⟩
  ·skip
   refine QP (congrArg some hb4) (W_v (pt b1 3) (QC (o:=0) (off:=3) Tryd.underlying127 rfl ty61 rfl rfl) rfl (QP (congrArg some hb4) (W_v (pt b1 3) (QC (o:=3) (off:=0) Tryd.underlying61 rfl ty3 rfl rfl) rfl (QP (congrArg some hb4) (W_v (vI a2.I.Writer) (QO (S.blk 0 rfl) ty3 rfl rfl) rfl (QP (congrArg some hb4) (W_v (vI a1) (QD rfl) rfl (QP (congrArg some hb4) (W_v (.bool (a2.I.Writer==a1)) (Qa rfl rfl rfl rfl) rfl (W_v (.bool (a2.I.Writer==a1)) (QV (k:=true) (congrArg Value.bool hb4) rfl) rfl (QB ?_)))))))))))
   exact ⟨⟨rfl,rfl,rfl,(by first | rfl | (rw [hb4];rfl) | (simp only [hb4];rfl)),trivial⟩,rfl⟩
 as_aux_lemma =>
 rintro ρ _ ⟨hρ,rfl⟩
 rw [QI hρ]
 refine QB (tn ?_)
 rcases Zf H with ⟨hb5,H⟩ | ⟨hb5,H⟩
 ·refine QQ (congrArg Value.bool hb5) ?_
  refine QE ?_
  refine Q0 (S:=fun w'=>∃ Mx,M.le Mx∧St w' Mx F [B127 b1 a2 A2_0 c2_0,B121 bo0 a0 A0_8 c0_8 A0_9 c0_9]) (L:=9) mixed ?_
  intro w6 hw7 E'
  replace S:=S.heap hw7
  replace E:=E.trans E'
  have D1:∃ Mx,Hp.le M Mx∧St _ Mx F [_,_]:=⟨_,Hp.le_refl _,S.pick [0,1] (by decide)⟩
  refine Wt 0 rfl rfl rfl (pt b1 3) rfl (fun w' h'=>QC (o:=0) (off:=3) Tryd.underlying127 rfl ty61 rfl rfl) D1 (Wt 1 rfl rfl rfl (pt b1 6) rfl (fun w' h'=>QC (o:=3) (off:=3) Tryd.underlying61 rfl ty9 rfl rfl) D1 (Wt 2 rfl rfl rfl (vS a2.I.Value) rfl (fun w' h'=>QO (Qp h' 0 rfl) ty9 rfl rfl) D1 (Wt 3 rfl rfl rfl (pt b1 3) rfl (fun w' h'=>QC (o:=0) (off:=3) Tryd.underlying127 rfl ty61 rfl rfl) D1 (Wt 4 rfl rfl rfl (pt b1 5) rfl (fun w' h'=>QC (o:=3) (off:=2) Tryd.underlying61 rfl ty4 rfl rfl) D1 (Wt 5 rfl rfl rfl (.bool a2.I.Tomb) rfl (fun w' h'=>QO (Qp h' 0 rfl) ty4 rfl rfl) D1 (Wt 6 rfl rfl rfl (.bool (!a2.I.Tomb)) rfl (fun w' h'=>Y5 (b:=a2.I.Tomb) rfl) D1 (Wt 7 rfl rfl rfl (vS a2.I.Value) rfl (fun w' h'=>QG rfl) D1 (Wt 8 rfl rfl rfl (.bool (!a2.I.Tomb)) rfl (fun w' h'=>QG rfl) D1 ?_))))))))
  refine Wz ?_
  refine tn ?_
  refine Qs ?_
  refine tr (?_)
  obtain rfl:=Option.some.inj H
  exact ⟨_,_,_,fun w1 e1=>QX (vs:=[vS a2.I.Value,.bool (!a2.I.Tomb)]) (FA.cons (rfl) (FA.cons (rfl) (FA.nil))),HM,E,S.pick [1] (by decide),⟨rfl,rfl⟩⟩
 refine QK (congrArg Value.bool hb5) (Qr (tn (QE ?_)))
 refine Q0 (S:=fun w'=>∃ Mx,M.le Mx∧St w' Mx F [B127 b1 a2 A2_0 c2_0,B121 bo0 a0 A0_8 c0_8 A0_9 c0_9]) (L:=18) mixed ?_
 intro w83 hw84 E'
 replace S:=S.heap hw84
 replace E:=E.trans E'
 have D2:∃ Mx,Hp.le M Mx∧St _ Mx F [_,_]:=⟨_,Hp.le_refl _,S.pick [0,1] (by decide)⟩
 refine Wt 0 rfl rfl rfl (pt b1 1) rfl (fun w' h'=>QC (o:=0) (off:=1) Tryd.underlying127 rfl ty65 rfl rfl) D2 (Wt 1 rfl rfl rfl (.slice A2_0 a2.L.length c2_0) rfl (fun w' h'=>QO (Qp h' 0 rfl) ty65 rfl rfl) D2 (Wt 2 rfl rfl rfl (pt bo0 0) rfl (fun w' h'=>QD rfl) D2 (Wt 3 rfl rfl rfl (pt bo0 0) rfl (fun w' h'=>Qo rfl) D2 (Wt 4 rfl rfl rfl (pt bo0 8) rfl (fun w' h'=>QC (o:=0) (off:=8) Tryd.underlying121 rfl ty118 rfl rfl) D2 (Wt 5 rfl rfl rfl (.slice A0_8 a0.T.length c0_8) rfl (fun w' h'=>QO (Qp h' 1 rfl) ty118 rfl rfl) D2 (Wt 6 rfl rfl rfl (vI a1) rfl (fun w' h'=>QD rfl) D2 (Wt 7 rfl rfl rfl (vI (IntKind.i64.wrap (a1 - (1:Int)))) rfl (fun w' h'=>Qa rfl rfl rfl rfl) D2 ?_)))))))
 obtain ⟨⟨p85,p86⟩,H⟩:=Yy H
 obtain ⟨b87,o88,cs89,_,_,ee94,hb90,vs91,hR92,hc93⟩:=SlW.at' hr0_8 p85 p86
 obtain rfl:vs91=_:=hR92
 refine Wt 8 rfl rfl rfl (.pointer (some ⟨b87,o88+(IntKind.i64.wrap (a1 - (1:Int))).toNat*4,none⟩)) rfl (fun w' h'=>Qy Tryd.underlying118 ty124 (slA ee94) rfl p85 p86) D2 (Wt 9 rfl rfl rfl (.pointer (some ⟨b87,o88+(IntKind.i64.wrap (a1 - (1:Int))).toNat*4+3,none⟩)) rfl (fun w' h'=>QC (o:=o88+(IntKind.i64.wrap (a1 - (1:Int))).toNat*4) (off:=3) Tryd.underlying124 rfl ty3 rfl rfl) D2 (Wt 10 rfl rfl rfl (vI ((rd a0.T (IntKind.i64.wrap (a1 - (1:Int)))).Snapshot)) rfl (fun w' h'=>QO (XG h' hb90) ty3 rfl (hc93 3 _ rfl)) D2 ?_))
 obtain ⟨o139,o139h,o139H⟩:=QW H
 refine YD (fun ρ w'=>∃ (x116:Int) (x117:Int) (x118:Bool) (x119:Str) (x120:Bool) (b114:Nat),(x116,x117,x118,x119,x120)=o139∧Qi ρ [(8,pt b114 0),(39,.agg #[vI x116,vI x117,.bool x118,vS x119]),(40,.bool x120)]∧Ext w w'∧St w' M F [Blk b114 (.cells cz16 61 (0,0)),B127 b1 a2 A2_0 c2_0,B121 bo0 a0 A0_8 c0_8 A0_9 c0_9]) 2 (Ls 18 [0,1,2,3,4,5,6,7,8,9,10,11,12,13,14,15]) ?_ ?_
 rotate_left
 ·intro hq143
  refine YD (fun ρ w'=>∃ (x106:Int) (x107:Int) (x108:Bool) (x109:Str) (x110:Bool),some (x106,x107,x108,x109,x110)=some o139∧Qi ρ [(39,.agg #[vI x106,vI x107,.bool x108,vS x109]),(40,.bool x110)]∧Ext w w'∧St w' M F [B127 b1 a2 A2_0 c2_0,B121 bo0 a0 A0_8 c0_8 A0_9 c0_9]) 3 (Ls 18 [0,1,2,3,4,5,6,7,8,9,10,11,12,13,14]) ?_ ?_
  ·clear o139h
   rintro ρ w144 ⟨x106,x107,x108,x109,x110,H,hρ,E,S⟩
   rw [QI hρ]
   refine Wo 15 rfl ?_
   refine Zo S cz16 ty61 rfl rfl ?_
   intro b145 w146 E' S
   replace E:=E.trans E'
   refine QB (YU ⟨.inr ⟨M,Hp.le_refl M,(S.pick [1,2] (by decide))⟩,?_⟩)
   exact hq143 _ _ ⟨x106,x107,x108,x109,x110,b145,Option.some.inj H,⟨rfl,rfl,rfl,trivial⟩,E,S.pick [0,1,2] (by decide)⟩
  intro hq142
  refine YD (fun ρ w'=>∃ (b101:Nat),(Option.bind (Ye k a2.L ((rd a0.T (IntKind.i64.wrap (a1 - (1:Int)))).Snapshot)) (fun t133=>some (t133.1.Writer,t133.1.TS,t133.1.Tomb,t133.1.Value,t133.2)))=some o139∧Qi ρ [(8,pt b101 0),(28,.slice A2_0 a2.L.length c2_0),(37,vI ((rd a0.T (IntKind.i64.wrap (a1 - (1:Int)))).Snapshot))]∧Ext w w'∧St w' M F [Blk b101 (.cells cz16 61 (0,0)),B127 b1 a2 A2_0 c2_0,B121 bo0 a0 A0_8 c0_8 A0_9 c0_9]) 6 (Ls 18 [0,1,2,3,4,5,6,7,8,9,10,15]) ?_ ?_
  ·clear o139h
   rintro ρ w148 ⟨b101,H,hρ,E,S⟩
   rw [QI hρ]
   refine Wo 11 rfl ?_
   obtain ⟨t149,ht150,H⟩:=QW H
   refine Zz fn79 (Ye.con k M A2_0 c2_0 a2.L ((rd a0.T (IntKind.i64.wrap (a1 - (1:Int)))).Snapshot) t149 hr2_0 ht150) S rfl rfl (by rintro _ _ _ ⟨_,rfl⟩;exact Qd) ?_
   rintro _ w151 _ Γ' E' S ⟨rfl,rfl⟩
   replace E:=E.trans E'
   refine QB (YU ⟨.inr ⟨M,Hp.le_refl M,(S.pick [1,2] (by decide))⟩,?_⟩)
   have D3:∃ Mx,Hp.le M Mx∧St _ Mx F [_,_]:=⟨_,Hp.le_refl _,S.pick [1,2] (by decide)⟩
   refine Wt 12 rfl rfl rfl (.tuple #[.agg #[vI t149.1.Writer,vI t149.1.TS,.bool t149.1.Tomb,vS t149.1.Value],.bool t149.2]) rfl (fun w' h'=>QD rfl) D3 (Wt 13 rfl rfl rfl (.agg #[vI t149.1.Writer,vI t149.1.TS,.bool t149.1.Tomb,vS t149.1.Value]) rfl (fun w' h'=>ZB rfl rfl) D3 (Wt 14 rfl rfl rfl (.bool t149.2) rfl (fun w' h'=>ZB rfl rfl) D3 ?_))
   exact hq143 _ _ ⟨t149.1.Writer,t149.1.TS,t149.1.Tomb,t149.1.Value,t149.2,b101,Option.some.inj H,⟨rfl,rfl,rfl,trivial⟩,E,S.pick [0,1,2] (by decide)⟩
  intro hq141
  have H:=o139h
  refine XK (rs:=[11,15]) (by kernel_rfl) (by decide) ?_
  simp only [List.forall_mem_cons,List.not_mem_nil,false_implies,implies_true,and_true]
  refine ⟨?_,?_⟩
  ·refine ⟨_,rfl,?_⟩
   obtain ⟨t152,ht153,H⟩:=QW H
   refine Zz fn79 (Ye.con k M A2_0 c2_0 a2.L ((rd a0.T (IntKind.i64.wrap (a1 - (1:Int)))).Snapshot) t152 hr2_0 ht153) S rfl rfl (by rintro _ _ _ ⟨_,rfl⟩;exact Qd) ?_
   rintro _ w154 _ Γ' E' S ⟨rfl,rfl⟩
   replace E:=E.trans E'
   refine QB (YU ⟨.inr ⟨M,Hp.le_refl M,(S.pick [0,1] (by decide))⟩,?_⟩)
   have D4:∃ Mx,Hp.le M Mx∧St _ Mx F [_,_]:=⟨_,Hp.le_refl _,S.pick [0,1] (by decide)⟩
   refine Wt 12 rfl rfl rfl (.tuple #[.agg #[vI t152.1.Writer,vI t152.1.TS,.bool t152.1.Tomb,vS t152.1.Value],.bool t152.2]) rfl (fun w' h'=>QD rfl) D4 (Wt 13 rfl rfl rfl (.agg #[vI t152.1.Writer,vI t152.1.TS,.bool t152.1.Tomb,vS t152.1.Value]) rfl (fun w' h'=>ZB rfl rfl) D4 (Wt 14 rfl rfl rfl (.bool t152.2) rfl (fun w' h'=>ZB rfl rfl) D4 ?_))
   exact hq142 _ _ ⟨t152.1.Writer,t152.1.TS,t152.1.Tomb,t152.1.Value,t152.2,H,⟨rfl,rfl,trivial⟩,E,S.pick [0,1] (by decide)⟩
  ·refine ⟨_,rfl,?_⟩
   refine Zo S cz16 ty61 rfl rfl ?_
   intro b155 w156 E' S
   replace E:=E.trans E'
   refine QB (YU ⟨.inr ⟨M,Hp.le_refl M,(S.pick [1,2] (by decide))⟩,?_⟩)
   exact hq141 _ _ ⟨b155,H,⟨rfl,rfl,rfl,trivial⟩,E,S.pick [0,1,2] (by decide)⟩
 rintro ρ w158 ⟨x116,x117,x118,x119,x120,b114,rfl,hρ,E,S⟩
 rw [QI hρ]
 have H:=o139H
 refine Wo 16 rfl ?_
 refine Qx S 0 rfl ty61 rfl rfl [vI x116,vI x117,.bool x118,vS x119] rfl rfl rfl #[vI x116,vI x117,.bool x118,vS x119] rfl rfl ?_
 intro w159 E' S
 replace E:=E.trans E'
 refine QB (YU ⟨.inr ⟨M,Hp.le_refl M,(S.pick [1,2] (by decide))⟩,?_⟩)
 refine Wt 17 rfl rfl rfl (.bool x120) rfl (fun w' h'=>QG rfl) (⟨M,Hp.le_refl M,(S.pick [1,2] (by decide))⟩) ?_
 refine Wz ?_
 refine tn ?_
 as_aux_lemma =>
 refine QE (QA (W_v (pt b114 3) (QC (o:=0) (off:=3) Tryd.underlying61 rfl ty9 rfl rfl) rfl (W_v (vS x119) (QO (S.blk 0 rfl) ty9 rfl rfl) rfl (W_v (.bool x120) (QD rfl) rfl (W_v (vS x119) (QG rfl) rfl (W_v (.bool x120) (QG rfl) rfl (QB (tn ?_))))))))
 refine Qs ?_
 obtain rfl:=Option.some.inj H
 exact ⟨_,_,_,fun w1 e1=>QX (vs:=[vS x119,.bool x120]) (FA.cons (rfl) (FA.cons (rfl) (FA.nil))),HM,E,S.pick [2] (by decide),⟨rfl,rfl⟩⟩
def ZL (a0:QH) (a1:QR):Nat→List QR→Bool→Int→Option ((List QR×Bool))
 | 0,_,_,_=>none
 | k+1,x697,x701,x702=>(if (decide (x702 < (a0.L.length:Int)))=true then (Option.bind (α:=List QR×Bool) (if 0≤x702∧x702 < (a0.L.length:Int) then (Option.bind (Zm k ((rd a0.L x702).Key) a1.Key) (fun t1251=>(Option.bind (α:=List QR×Bool) (if ((decide (t1251≥(0:Int)))&&(!x701))=true then (if x697.length+([a1]:List QR).length≤1599289640401 then some ((x697++([a1]:List QR)),true) else none) else some (x697,x701)) (fun ⟨x1279,x1283⟩=>(Option.bind (α:=List QR) (if (t1251 != (0:Int))=true then (if 0≤x702∧x702 < (a0.L.length:Int) then (if x1279.length+([(rd a0.L x702)]:List QR).length≤1599289640401 then some ((x1279++([(rd a0.L x702)]:List QR))) else none) else none) else some (x1279)) (fun x1350=>some (x1350,x1283))))))) else none) (fun ⟨x1212,x1216⟩=>ZL a0 a1 k x1212 x1216 (IntKind.i64.wrap (x702+(1:Int))))) else some (x697,x701))
theorem ZL.mono {a0:QH} {a1:QR}:∀ {kl:Nat} {x0 x1 x2},OLe (ZL a0 a1 kl x0 x1 x2) (ZL a0 a1 (kl+1) x0 x1 x2):=by
 intro kl
 induction kl with
 | zero=>intros;exact OLe.none
 | succ kl ih =>
  intros
  rw [ZL.eq_2,ZL.eq_2]
  have m1:=@Zm.mono
  exact mo
def ZC (k:Nat) (a0:QH) (a1:QR):Option (QH) :=
 (Option.bind (ZL a0 a1 k ([]:List QR) (((a1.L.length:Int)==(0:Int))&&(!a1.Has)) (0:Int)) (fun ⟨x1039,x1043⟩=>(Option.bind (α:=List QR) (if (!x1043)=true then (if x1039.length+([a1]:List QR).length≤1599289640401 then some ((x1039++([a1]:List QR))) else none) else some (x1039)) (fun x1408=>some (⟨⟨a0.C.Tasks,a0.C.Active,a0.C.Keys,a0.C.Depth,a0.C.TS,a0.C.KeyLen,a0.C.ValLen,a0.C.Fan⟩,a0.T,x1408,a0.Time,a0.Low⟩:QH)))))
theorem ZC.mono {k:Nat} {a0:QH} {a1:QR}:OLe (ZC k a0 a1) (ZC (k+1) a0 a1):=by
 unfold ZC
 have m1:=@ZL.mono
 exact mo
theorem ZC.con (k:Nat) (M:Hp) (A0_8:Option Addr) (c0_8:Nat) (A0_9:Option Addr) (c0_9:Nat) (a0:QH) (A1_0:Option Addr) (c1_0:Nat) (a1:QR) (bo0:Nat) (r:QH) (hr0_8:SlR QY M (.slice A0_8 a0.T.length c0_8) a0.T) (hr0_9:SlR QU M (.slice A0_9 a0.L.length c0_9) a0.L) (hr1_0:SlR Q4 M (.slice A1_0 a1.L.length c1_0) a1.L) (h:ZC k a0 a1=some r):Con Tryd.prog 81 #[pt bo0 0,.agg #[vS a1.Key,.slice A1_0 a1.L.length c1_0,.bool a1.Has,vI a1.I.Writer,vI a1.I.TS,.bool a1.I.Tomb,vS a1.I.Value]] M [B121 bo0 a0 A0_8 c0_8 A0_9 c0_9] (fun v M' Γ'=>∃ (Aq1:Option Addr) (cq2:Nat) (Aq4:Option Addr) (cq5:Nat),v=.tuple #[]∧SlR QY M' (.slice Aq1 r.T.length cq2) r.T∧Γ'=[B121 bo0 r Aq1 cq2 Aq4 cq5,Row QU 127 (.slice Aq4 r.L.length cq5) r.L]):=by
 refine Qt Tryd.func81 rfl Tryd.ntmps81 Tryd.results81 rfl ?_
 intro w F rn S hrn
 have E:=Ext.refl w
 have HM:=Hp.le_refl M
 have H:=h
 unfold ZC at H
 refine QE (QA ?_)
 refine Y8 S #[vS a1.Key,.slice A1_0 a1.L.length c1_0,.bool a1.Has,vI a1.I.Writer,vI a1.I.TS,.bool a1.I.Tomb,vS a1.I.Value] rfl rfl rfl ?_
 intro b1 w2 E' S
 replace E:=E.trans E'
 refine QB (tn (QE (QA (W_v (.slice none 0 0) (QG rfl) rfl (QB (tn (QE (QA (W_v (pt b1 1) (QC (o:=0) (off:=1) Tryd.underlying127 rfl ty65 rfl rfl) rfl (W_v (.slice A1_0 a1.L.length c1_0) (QO (S.blk 0 rfl) ty65 rfl rfl) rfl (W_v (vI (a1.L.length:Int)) (Q8 (n:=a1.L.length) Tryd.underlying65 rfl) rfl (W_v (.bool ((a1.L.length:Int)==(0:Int))) (Qa rfl rfl rfl rfl) rfl (W_v (.bool ((a1.L.length:Int)==(0:Int))) (QD rfl) rfl ?_)))))))))))))
 refine ZH 4 (fun ρ w'=>Qi ρ [(0,pt bo0 0),(3,pt b1 0),(4,.slice none 0 0),(16,.bool (((a1.L.length:Int)==(0:Int))&&(!a1.Has)))]∧w2=w') ?_ ?_
 ·rcases ZX ((a1.L.length:Int)==(0:Int)) with hb4 | hb4
  ·skip
   refine QZ (skT hb4) rfl (QZ (skT hb4) rfl (QZ (skT hb4) rfl (W_v (.bool false) (QV (k:=false) (congrArg Value.bool hb4) rfl) rfl (QB ?_))))
   exact ⟨⟨rfl,rfl,rfl,(by first | rfl | (rw [hb4];rfl) | (simp only [hb4];rfl)),trivial⟩,rfl⟩
  ·skip
   refine QP (congrArg some hb4) (W_v (pt b1 2) (QC (o:=0) (off:=2) Tryd.underlying127 rfl ty4 rfl rfl) rfl (QP (congrArg some hb4) (W_v (.bool a1.Has) (QO (S.blk 0 rfl) ty4 rfl rfl) rfl (QP (congrArg some hb4) (W_v (.bool (!a1.Has)) (Y5 (b:=a1.Has) rfl) rfl (W_v (.bool (!a1.Has)) (QV (k:=true) (congrArg Value.bool hb4) rfl) rfl (QB ?_)))))))
   exact ⟨⟨rfl,rfl,rfl,(by first | rfl | (rw [hb4];rfl) | (simp only [hb4];rfl)),trivial⟩,rfl⟩
 as_aux_lemma =>
 rintro ρ _ ⟨hρ,rfl⟩
 rw [QI hρ]
 refine W_v (.bool (((a1.L.length:Int)==(0:Int))&&(!a1.Has))) (QG rfl) rfl (QB (tn (QE (QE (QA (W_v (vI 0) (QG rfl) rfl (QB (tn ?_))))))))
 obtain ⟨o1044,o1044h,o1044H⟩:=QW H
 refine Yj (fun ρ w'=>∃ (x1039:List QR) (x1043:Bool) (A1040:Option Addr) (c1041:Nat),(x1039,x1043)=o1044∧Qi ρ [(0,pt bo0 0),(3,pt b1 0),(4,.slice A1040 x1039.length c1041),(5,.bool x1043)]∧Ext w w'∧St w' M F [Row QU 127 (.slice A1040 x1039.length c1041) x1039,B127 b1 a1 A1_0 c1_0,B121 bo0 a0 A0_8 c0_8 A0_9 c0_9]) ?_ ?_
 ·skip
  refine Y3 (fun n ρ w'=>∃ (x697:List QR) (x701:Bool) (x702:Int) (A698:Option Addr) (c699:Nat),ZL a0 a1 n x697 x701 x702=some o1044∧Qi ρ [(0,pt bo0 0),(3,pt b1 0),(4,.slice A698 x697.length c699),(5,.bool x701),(6,vI x702)]∧Ext w w'∧St w' M F [Row QU 127 (.slice A698 x697.length c699) x697,B127 b1 a1 A1_0 c1_0,B121 bo0 a0 A0_8 c0_8 A0_9 c0_9]) k ?_ ?_
  ·skip
   replace S:=S.row_nil QU 127
   exact ⟨([]:List QR),(((a1.L.length:Int)==(0:Int))&&(!a1.Has)),(0:Int),none,0,o1044h,⟨rfl,rfl,rfl,rfl,rfl,trivial⟩,E,S.pick [0,1,2] (by decide)⟩
  ·intro n
   rintro ρ w1046 ⟨x697,x701,x702,A698,c699,H,hρ,E,S⟩
   rw [QI hρ]
   cases n with
   | zero=>cases H
   | succ k =>
    rw [ZL.eq_2] at H
    refine QE (QE (QA (W_v (vI x702) (QD rfl) rfl (W_v (pt bo0 0) (QD rfl) rfl (W_v (pt bo0 0) (Qo rfl) rfl (W_v (pt bo0 9) (QC (o:=0) (off:=9) Tryd.underlying121 rfl ty119 rfl rfl) rfl (W_v (.slice A0_9 a0.L.length c0_9) (QO (S.blk 2 rfl) ty119 rfl rfl) rfl (W_v (vI (a0.L.length:Int)) (Q8 (n:=a0.L.length) Tryd.underlying119 rfl) rfl (W_v (.bool (decide (x702 < (a0.L.length:Int)))) (Qa rfl rfl rfl rfl) rfl (QB (tn ?_)))))))))))
    rcases Zf H with ⟨hb1047,H⟩ | ⟨hb1047,H⟩
    ·refine QQ (congrArg Value.bool hb1047) ?_
     refine Qr (tn (QE ?_))
     obtain ⟨o1217,o1217h,o1217H⟩:=QW H
     refine Y7 (fun ρ w'=>∃ (x1212:List QR) (x1216:Bool) (A1213:Option Addr) (c1214:Nat),(x1212,x1216)=o1217∧Qi ρ [(0,pt bo0 0),(3,pt b1 0),(4,.slice A1213 x1212.length c1214),(5,.bool x1216),(6,vI x702)]∧Ext w w'∧St w' M F [Row QU 127 (.slice A1213 x1212.length c1214) x1212,B127 b1 a1 A1_0 c1_0,B121 bo0 a0 A0_8 c0_8 A0_9 c0_9]) ?_ ?_
     ·as_aux_lemma =>
       clear o1217H
       have H:=o1217h
       refine YP ?_
       refine QE ?_
       refine Q0 (S:=fun w'=>∃ Mx,M.le Mx∧St w' Mx F [Row QU 127 (.slice A698 x697.length c699) x697,B127 b1 a1 A1_0 c1_0,B121 bo0 a0 A0_8 c0_8 A0_9 c0_9]) (L:=12) mixed ?_
       intro w1235 hw1236 E'
       replace S:=S.heap hw1236
       replace E:=E.trans E'
       have D1:∃ Mx,Hp.le M Mx∧St _ Mx F [_,_,_]:=⟨_,Hp.le_refl _,S.pick [0,1,2] (by decide)⟩
       refine Wt 0 rfl rfl rfl (pt bo0 0) rfl (fun w' h'=>QD rfl) D1 (Wt 1 rfl rfl rfl (pt bo0 0) rfl (fun w' h'=>Qo rfl) D1 (Wt 2 rfl rfl rfl (pt bo0 9) rfl (fun w' h'=>QC (o:=0) (off:=9) Tryd.underlying121 rfl ty119 rfl rfl) D1 (Wt 3 rfl rfl rfl (.slice A0_9 a0.L.length c0_9) rfl (fun w' h'=>QO (Qp h' 2 rfl) ty119 rfl rfl) D1 (Wt 4 rfl rfl rfl (vI x702) rfl (fun w' h'=>QD rfl) D1 ?_))))
       obtain ⟨⟨p1237,p1238⟩,H⟩:=Yy H
       obtain ⟨b1239,o1240,cs1241,_,_,ee1246,hb1242,vs1243,hR1244,hc1245⟩:=SlW.at' hr0_9 p1237 p1238
       obtain ⟨v1250,hs1249,rfl⟩:=hR1244
       obtain ⟨A1247,c1248,rfl,_⟩:=hs1249.form
       refine Wt 5 rfl rfl rfl (.pointer (some ⟨b1239,o1240+x702.toNat*7,none⟩)) rfl (fun w' h'=>Qy Tryd.underlying119 ty127 (slA ee1246) rfl p1237 p1238) D1 (Wt 6 rfl rfl rfl (.pointer (some ⟨b1239,o1240+x702.toNat*7,none⟩)) rfl (fun w' h'=>QC (o:=o1240+x702.toNat*7) (off:=0) Tryd.underlying127 rfl ty9 rfl rfl) D1 (Wt 7 rfl rfl rfl (vS ((rd a0.L x702).Key)) rfl (fun w' h'=>QO (XG h' hb1242) ty9 rfl (hc1245 0 _ rfl)) D1 (Wt 8 rfl rfl rfl (pt b1 0) rfl (fun w' h'=>QC (o:=0) (off:=0) Tryd.underlying127 rfl ty9 rfl rfl) D1 (Wt 9 rfl rfl rfl (vS a1.Key) rfl (fun w' h'=>QO (Qp h' 1 rfl) ty9 rfl rfl) D1 ?_))))
       refine Wo 10 rfl ?_
       obtain ⟨t1251,ht1252,H⟩:=QW H
       refine Zz fn69 (Zm.con k M ((rd a0.L x702).Key) a1.Key t1251  ht1252) S rfl rfl (by rintro _ _ _ ⟨_,rfl⟩;exact Qd) ?_
       rintro _ w1253 _ Γ' E' S ⟨rfl,rfl⟩
       replace E:=E.trans E'
       refine QB (YU ⟨.inr ⟨M,Hp.le_refl M,(S.pick [0,1,2] (by decide))⟩,?_⟩)
       refine Wt 11 rfl rfl rfl (vI t1251) rfl (fun w' h'=>QG rfl) (⟨M,Hp.le_refl M,(S.pick [0,1,2] (by decide))⟩) ?_
       refine Wz ?_
       refine tn (QE (QE (QA (W_v (vI t1251) (QD rfl) rfl (W_v (.bool (decide (t1251≥(0:Int)))) (Qa rfl rfl rfl rfl) rfl (W_v (.bool (decide (t1251≥(0:Int)))) (QD rfl) rfl ?_))))))
       refine ZH 3 (fun ρ w'=>Qi ρ [(0,pt bo0 0),(3,pt b1 0),(4,.slice A698 x697.length c699),(5,.bool x701),(6,vI x702),(7,vI t1251),(42,.bool ((decide (t1251≥(0:Int)))&&(!x701)))]∧w1253=w') ?_ ?_
       ·rcases ZX (decide (t1251≥(0:Int))) with hb1254 | hb1254
        ·skip
         refine QZ (skT hb1254) rfl (QZ (skT hb1254) rfl (W_v (.bool false) (QV (k:=false) (congrArg Value.bool hb1254) rfl) rfl (QB ?_)))
         exact ⟨⟨rfl,rfl,rfl,rfl,rfl,rfl,(by first | rfl | (rw [hb1254];rfl) | (simp only [hb1254];rfl)),trivial⟩,rfl⟩
        ·skip
         refine QP (congrArg some hb1254) (W_v (.bool x701) (QD rfl) rfl (QP (congrArg some hb1254) (W_v (.bool (!x701)) (Y5 (b:=x701) rfl) rfl (W_v (.bool (!x701)) (QV (k:=true) (congrArg Value.bool hb1254) rfl) rfl (QB ?_)))))
         exact ⟨⟨rfl,rfl,rfl,rfl,rfl,rfl,(by first | rfl | (rw [hb1254];rfl) | (simp only [hb1254];rfl)),trivial⟩,rfl⟩
       as_aux_lemma =>
       rintro ρ _ ⟨hρ,rfl⟩
       rw [QI hρ]
       refine QB (tn ?_)
       obtain ⟨o1284,o1284h,o1284H⟩:=QW H
       refine Y7 (fun ρ w'=>∃ (x1279:List QR) (x1283:Bool) (A1280:Option Addr) (c1281:Nat),(x1279,x1283)=o1284∧Qi ρ [(0,pt bo0 0),(3,pt b1 0),(4,.slice A1280 x1279.length c1281),(5,.bool x1283),(6,vI x702),(7,vI t1251)]∧Ext w w'∧St w' M F [Row QU 127 (.slice A1280 x1279.length c1281) x1279,B127 b1 a1 A1_0 c1_0,B121 bo0 a0 A0_8 c0_8 A0_9 c0_9]) ?_ ?_
       ·clear o1284H
        have H:=o1284h
        rcases Zf H with ⟨hb1285,H⟩ | ⟨hb1285,H⟩
        ·refine QQ (congrArg Value.bool hb1285) ?_
         refine QE (QA (W_v (.slice A698 x697.length c699) (QD rfl) rfl (W_v (.agg #[vS a1.Key,.slice A1_0 a1.L.length c1_0,.bool a1.Has,vI a1.I.Writer,vI a1.I.TS,.bool a1.I.Tomb,vS a1.I.Value]) (ZA (S.blk 1 rfl) ty127 rfl (QM rfl) rfl rfl) rfl ?_)))
         refine XE S #[vS a1.Key,.slice A1_0 a1.L.length c1_0,.bool a1.Has,vI a1.I.Writer,vI a1.I.TS,.bool a1.I.Tomb,vS a1.I.Value] Tryd.underlying119 ty127 rfl rfl cz3 (by as_aux_lemma=>kernel_rfl) (by as_aux_lemma=>kernel_rfl) rfl ?_
         intro b1286 w1287 E' S
         replace E:=E.trans E'
         replace S:=S.blk_row (r:=QU) (l:=([a1]:List QR)) 0 rfl 1 (Nat.le_refl 1) rfl (Cells.cons (vs:=[vS a1.Key,.slice A1_0 a1.L.length c1_0,.bool a1.Has,vI a1.I.Writer,vI a1.I.TS,.bool a1.I.Tomb,vS a1.I.Value]) (⟨_,hr1_0,rfl⟩) Cells.nil)
         obtain ⟨p1289,H⟩:=Yy H
         obtain ⟨src1290,hs1291,hC1292⟩:=Y1 (P:=Tryd.prog) (ρ:=QU) (l:=([a1]:List QR)) (S.row_read 0 rfl) (by decide)
         refine XL S 1 rfl rfl rfl Tryd.underlying119 (.inl Tryd.underlying119) ty127 rfl (by decide) (by decide) hs1291 hC1292 rfl (by omega) rfl ?_
         intro v1293 w1294 E' S
         replace E:=E.trans E'
         obtain ⟨A1295,c1296,rfl,_⟩:=(S.row_read 1 rfl).form
         refine W_v (.slice A1295 (x697++([a1]:List QR)).length c1296) (QG rfl) rfl (QB (tn (QA (W_v (.bool true) (QG rfl) rfl (QB (tn ?_))))))
         exact ⟨(x697++([a1]:List QR)),true,A1295,c1296,Option.some.inj H,⟨rfl,rfl,rfl,rfl,rfl,rfl,trivial⟩,E,S.pick [1,2,3] (by decide)⟩
        refine QK (congrArg Value.bool hb1285) (Qr (tn ?_))
        exact ⟨x697,x701,A698,c699,Option.some.inj H,⟨rfl,rfl,rfl,rfl,rfl,rfl,trivial⟩,E,S.pick [0,1,2] (by decide)⟩
       as_aux_lemma =>
       rintro ρ w1297 ⟨x1279,x1283,A1280,c1281,rfl,hρ,E,S⟩
       rw [QI hρ]
       have H:=o1284H
       refine tn (QE (QA (W_v (vI t1251) (QD rfl) rfl (W_v (.bool (t1251 != (0:Int))) (Qa rfl rfl rfl rfl) rfl (QB (tn ?_))))))
       obtain ⟨o1354,o1354h,o1354H⟩:=QW H
       refine Y7 (fun ρ w'=>∃ (x1350:List QR) (A1351:Option Addr) (c1352:Nat),(x1350)=o1354∧Qi ρ [(0,pt bo0 0),(3,pt b1 0),(4,.slice A1351 x1350.length c1352),(5,.bool x1283),(6,vI x702)]∧Ext w w'∧St w' M F [Row QU 127 (.slice A1351 x1350.length c1352) x1350,B127 b1 a1 A1_0 c1_0,B121 bo0 a0 A0_8 c0_8 A0_9 c0_9]) ?_ ?_
       ·clear o1354H
        have H:=o1354h
        rcases Zf H with ⟨hb1355,H⟩ | ⟨hb1355,H⟩
        ·refine QQ (congrArg Value.bool hb1355) ?_
         refine QA (W_v (.slice A1280 x1279.length c1281) (QD rfl) rfl (W_v (pt bo0 0) (QD rfl) rfl (W_v (pt bo0 0) (Qo rfl) rfl (W_v (pt bo0 9) (QC (o:=0) (off:=9) Tryd.underlying121 rfl ty119 rfl rfl) rfl (W_v (.slice A0_9 a0.L.length c0_9) (QO (S.blk 2 rfl) ty119 rfl rfl) rfl (W_v (vI x702) (QD rfl) rfl ?_))))))
         obtain ⟨⟨p1356,p1357⟩,H⟩:=Yy H
         obtain ⟨b1358,o1359,cs1360,_,_,ee1365,hb1361,vs1362,hR1363,hc1364⟩:=SlW.at' hr0_9 p1356 p1357
         obtain ⟨v1369,hs1368,rfl⟩:=hR1363
         obtain ⟨A1366,c1367,rfl,_⟩:=hs1368.form
         refine W_v (.pointer (some ⟨b1358,o1359+x702.toNat*7,none⟩)) (Qy Tryd.underlying119 ty127 (slA ee1365) rfl p1356 p1357) rfl (W_v (.agg #[vS ((rd a0.L x702).Key),.slice A1366 ((rd a0.L x702).L).length c1367,.bool ((rd a0.L x702).Has),vI ((rd a0.L x702).I.Writer),vI ((rd a0.L x702).I.TS),.bool ((rd a0.L x702).I.Tomb),vS ((rd a0.L x702).I.Value)]) (ZA (S.frz hb1361) ty127 rfl (Xa hc1364 0 rfl) rfl rfl) rfl ?_)
         refine XE S #[vS ((rd a0.L x702).Key),.slice A1366 ((rd a0.L x702).L).length c1367,.bool ((rd a0.L x702).Has),vI ((rd a0.L x702).I.Writer),vI ((rd a0.L x702).I.TS),.bool ((rd a0.L x702).I.Tomb),vS ((rd a0.L x702).I.Value)] Tryd.underlying119 ty127 rfl rfl cz3 (by as_aux_lemma=>kernel_rfl) (by as_aux_lemma=>kernel_rfl) rfl ?_
         intro b1370 w1371 E' S
         replace E:=E.trans E'
         replace S:=S.blk_row (r:=QU) (l:=([(rd a0.L x702)]:List QR)) 0 rfl 1 (Nat.le_refl 1) rfl (Cells.cons (vs:=[vS ((rd a0.L x702).Key),.slice A1366 ((rd a0.L x702).L).length c1367,.bool ((rd a0.L x702).Has),vI ((rd a0.L x702).I.Writer),vI ((rd a0.L x702).I.TS),.bool ((rd a0.L x702).I.Tomb),vS ((rd a0.L x702).I.Value)]) (⟨_,hs1368,rfl⟩) Cells.nil)
         obtain ⟨p1373,H⟩:=Yy H
         obtain ⟨src1374,hs1375,hC1376⟩:=Y1 (P:=Tryd.prog) (ρ:=QU) (l:=([(rd a0.L x702)]:List QR)) (S.row_read 0 rfl) (by decide)
         refine XL S 1 rfl rfl rfl Tryd.underlying119 (.inl Tryd.underlying119) ty127 rfl (by decide) (by decide) hs1375 hC1376 rfl (by omega) rfl ?_
         intro v1377 w1378 E' S
         replace E:=E.trans E'
         obtain ⟨A1379,c1380,rfl,_⟩:=(S.row_read 1 rfl).form
         refine W_v (.slice A1379 (x1279++([(rd a0.L x702)]:List QR)).length c1380) (QG rfl) rfl (QB (tn ?_))
         exact ⟨(x1279++([(rd a0.L x702)]:List QR)),A1379,c1380,Option.some.inj H,⟨rfl,rfl,rfl,rfl,rfl,trivial⟩,E,S.pick [1,2,3] (by decide)⟩
        refine QK (congrArg Value.bool hb1355) (Qr (tn ?_))
        exact ⟨x1279,A1280,c1281,Option.some.inj H,⟨rfl,rfl,rfl,rfl,rfl,trivial⟩,E,S.pick [0,1,2] (by decide)⟩
       rintro ρ w1381 ⟨x1350,A1351,c1352,rfl,hρ,E,S⟩
       rw [QI hρ]
       have H:=o1354H
       refine bn (tn ?_)
       exact ⟨x1350,x1283,A1351,c1352,Option.some.inj H,⟨rfl,rfl,rfl,rfl,rfl,trivial⟩,E,S.pick [0,1,2] (by decide)⟩
     rintro ρ w1382 ⟨x1212,x1216,A1213,c1214,rfl,hρ,E,S⟩
     rw [QI hρ]
     have H:=o1217H
     refine tn (QA (W_v (vI x702) (QD rfl) rfl (W_v (vI (IntKind.i64.wrap (x702+(1:Int)))) (Qa rfl rfl rfl rfl) rfl (W_v (vI (IntKind.i64.wrap (x702+(1:Int)))) (QG rfl) rfl (QB (tn ?_))))))
     exact ⟨k,Nat.lt_succ_self k,⟨x1212,x1216,(IntKind.i64.wrap (x702+(1:Int))),A1213,c1214,H,⟨rfl,rfl,rfl,rfl,rfl,trivial⟩,E,S.pick [0,1,2] (by decide)⟩⟩
    refine QK (congrArg Value.bool hb1047) ?_
    refine Y0 ?_
    refine tx (tx (bsm (?_)))
    refine tn ?_
    exact ⟨x697,x701,A698,c699,Option.some.inj H,⟨rfl,rfl,rfl,rfl,trivial⟩,E,S.pick [0,1,2] (by decide)⟩
 rintro ρ w1383 ⟨x1039,x1043,A1040,c1041,rfl,hρ,E,S⟩
 rw [QI hρ]
 have H:=o1044H
 refine tn ?_
 as_aux_lemma =>
 refine QE (QE (QA (W_v (.bool x1043) (QD rfl) rfl (W_v (.bool (!x1043)) (Y5 (b:=x1043) rfl) rfl (QB (tn ?_))))))
 obtain ⟨o1412,o1412h,o1412H⟩:=QW H
 refine Y7 (fun ρ w'=>∃ (x1408:List QR) (A1409:Option Addr) (c1410:Nat),(x1408)=o1412∧Qi ρ [(0,pt bo0 0),(4,.slice A1409 x1408.length c1410)]∧Ext w w'∧St w' M F [Row QU 127 (.slice A1409 x1408.length c1410) x1408,B121 bo0 a0 A0_8 c0_8 A0_9 c0_9]) ?_ ?_
 ·clear o1412H
  have H:=o1412h
  rcases Zf H with ⟨hb1413,H⟩ | ⟨hb1413,H⟩
  ·refine QQ (congrArg Value.bool hb1413) ?_
   refine QA (W_v (.slice A1040 x1039.length c1041) (QD rfl) rfl (W_v (.agg #[vS a1.Key,.slice A1_0 a1.L.length c1_0,.bool a1.Has,vI a1.I.Writer,vI a1.I.TS,.bool a1.I.Tomb,vS a1.I.Value]) (ZA (S.blk 1 rfl) ty127 rfl (QM rfl) rfl rfl) rfl ?_))
   refine XE S #[vS a1.Key,.slice A1_0 a1.L.length c1_0,.bool a1.Has,vI a1.I.Writer,vI a1.I.TS,.bool a1.I.Tomb,vS a1.I.Value] Tryd.underlying119 ty127 rfl rfl cz3 (by as_aux_lemma=>kernel_rfl) (by as_aux_lemma=>kernel_rfl) rfl ?_
   intro b1414 w1415 E' S
   replace E:=E.trans E'
   replace S:=S.blk_row (r:=QU) (l:=([a1]:List QR)) 0 rfl 1 (Nat.le_refl 1) rfl (Cells.cons (vs:=[vS a1.Key,.slice A1_0 a1.L.length c1_0,.bool a1.Has,vI a1.I.Writer,vI a1.I.TS,.bool a1.I.Tomb,vS a1.I.Value]) (⟨_,hr1_0,rfl⟩) Cells.nil)
   obtain ⟨p1417,H⟩:=Yy H
   obtain ⟨src1418,hs1419,hC1420⟩:=Y1 (P:=Tryd.prog) (ρ:=QU) (l:=([a1]:List QR)) (S.row_read 0 rfl) (by decide)
   refine XL S 1 rfl rfl rfl Tryd.underlying119 (.inl Tryd.underlying119) ty127 rfl (by decide) (by decide) hs1419 hC1420 rfl (by omega) rfl ?_
   intro v1421 w1422 E' S
   replace E:=E.trans E'
   obtain ⟨A1423,c1424,rfl,_⟩:=(S.row_read 1 rfl).form
   refine W_v (.slice A1423 (x1039++([a1]:List QR)).length c1424) (QG rfl) rfl (QB (tn ?_))
   exact ⟨(x1039++([a1]:List QR)),A1423,c1424,Option.some.inj H,⟨rfl,rfl,trivial⟩,E,S.pick [1,3] (by decide)⟩
  refine QK (congrArg Value.bool hb1413) (Qr (tn ?_))
  exact ⟨x1039,A1040,c1041,Option.some.inj H,⟨rfl,rfl,trivial⟩,E,S.pick [0,2] (by decide)⟩
 rintro ρ w1425 ⟨x1408,A1409,c1410,rfl,hρ,E,S⟩
 rw [QI hρ]
 have H:=o1412H
 refine tn (QA (W_v (pt bo0 0) (QD rfl) rfl (W_v (.slice A1409 x1408.length c1410) (QD rfl) rfl (W_v (pt bo0 0) (Qo rfl) rfl (W_v (pt bo0 9) (QC (o:=0) (off:=9) Tryd.underlying121 rfl ty119 rfl rfl) rfl ?_)))))
 refine Qx S 1 rfl ty119 rfl rfl [.slice A1409 x1408.length c1410] rfl rfl rfl #[vI a0.C.Tasks,vI a0.C.Active,vI a0.C.Keys,vI a0.C.Depth,vI a0.C.TS,vI a0.C.KeyLen,vI a0.C.ValLen,vI a0.C.Fan,.slice A0_8 a0.T.length c0_8,.slice A1409 x1408.length c1410,vI a0.Time,vI a0.Low] rfl rfl ?_
 intro w1426 E' S
 replace E:=E.trans E'
 refine QB ?_
 obtain rfl:=Option.some.inj H
 exact ⟨_,_,_,fun w1 e1=>QX (vs:=[]) (FA.nil),HM,E,S.pick [1,0] (by decide),⟨A0_8,c0_8,A1409,c1410,rfl,hr0_8,rfl⟩⟩
end Go.Proofs.YtcngjjlhdlbogaaDoor
