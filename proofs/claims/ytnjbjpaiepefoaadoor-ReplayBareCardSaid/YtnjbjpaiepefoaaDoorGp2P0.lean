import Derived.Test.YtnjbjpaiepefoaaDoorGp2B
namespace Go.Proofs.YtnjbjpaiepefoaaDoor
open Go
set_option linter.unusedVariables false
set_option linter.unusedSimpArgs false
set_option maxHeartbeats 80000000
set_option maxRecDepth 100000
def YW (a1:(List QG)) (x1058:Int):Nat → Int → Int → Option ((Int))
 | 0,_,_=>none
 | k + 1,x1880,x1881=>(if 0 ≤ x1058 ∧ x1058 < (a1.length:Int) then (if ((decide (x1881 < (((rd a1 x1058).Answer.Pairs).length:Int))) && (decide (x1880 < (9000:Int)))) = true then (if 0 ≤ x1058 ∧ x1058 < (a1.length:Int) then (if 0 ≤ x1881 ∧ x1881 < (((rd a1 x1058).Answer.Pairs).length:Int) then (if 0 ≤ x1058 ∧ x1058 < (a1.length:Int) then (if 0 ≤ x1881 ∧ x1881 < (((rd a1 x1058).Answer.Pairs).length:Int) then YW a1 x1058 k (IntKind.i64.wrap ((IntKind.i64.wrap (x1880 + (imin (9000:Int) (((rd ((rd a1 x1058).Answer.Pairs) x1881).Key).length:Int)))) + (imin (9000:Int) (((rd ((rd a1 x1058).Answer.Pairs) x1881).Value).length:Int)))) (IntKind.i64.wrap (x1881 + (1:Int))) else none) else none) else none) else none) else some (x1880)) else none)
theorem YW.mono {a1:(List QG)} {x1058:Int}:∀ {kl:Nat} {x0 x1},OLe (YW a1 x1058 kl x0 x1) (YW a1 x1058 (kl + 1) x0 x1):=by
 intro kl
 induction kl with
 | zero=>intros; exact OLe.none
 | succ kl ih =>
  intros
  rw [YW.eq_2,YW.eq_2]
  exact mo
def YU (a0:(List (List QW))) (x2496:Int):Nat → Int → Int → Option ((Int))
 | 0,_,_=>none
 | k + 1,x2782,x2783=>(if 0 ≤ x2496 ∧ x2496 < (a0.length:Int) then (if ((decide (x2783 < ((rd a0 x2496).length:Int))) && (decide (x2782 < (9000:Int)))) = true then (if 0 ≤ x2496 ∧ x2496 < (a0.length:Int) then (if 0 ≤ x2783 ∧ x2783 < ((rd a0 x2496).length:Int) then YU a0 x2496 k (IntKind.i64.wrap ((IntKind.i64.wrap ((IntKind.i64.wrap ((IntKind.i64.wrap (x2782 + (5:Int))) + (imin (9000:Int) (((rd (rd a0 x2496) x2783).Key).length:Int)))) + (imin (9000:Int) (((rd (rd a0 x2496) x2783).End).length:Int)))) + (imin (9000:Int) (((rd (rd a0 x2496) x2783).Value).length:Int)))) (IntKind.i64.wrap (x2783 + (1:Int))) else none) else none) else some (x2782)) else none)
theorem YU.mono {a0:(List (List QW))} {x2496:Int}:∀ {kl:Nat} {x0 x1},OLe (YU a0 x2496 kl x0 x1) (YU a0 x2496 (kl + 1) x0 x1):=by
 intro kl
 induction kl with
 | zero=>intros; exact OLe.none
 | succ kl ih =>
  intros
  rw [YU.eq_2,YU.eq_2]
  exact mo
def YV (a0:(List (List QW))):Nat → Int → Int → Option ((Int))
 | 0,_,_=>none
 | k + 1,x2495,x2496=>(if ((decide (x2496 < (a0.length:Int))) && (decide (x2495 < (9000:Int)))) = true then (Option.bind (YU a0 x2496 k (IntKind.i64.wrap (x2495 + (1:Int))) (0:Int)) (fun x2828=>YV a0 k x2828 (IntKind.i64.wrap (x2496 + (1:Int))))) else some (x2495))
theorem YV.mono {a0:(List (List QW))}:∀ {kl:Nat} {x0 x1},OLe (YV a0 kl x0 x1) (YV a0 (kl + 1) x0 x1):=by
 intro kl
 induction kl with
 | zero=>intros; exact OLe.none
 | succ kl ih =>
  intros
  rw [YV.eq_2,YV.eq_2]
  have m1:=@YU.mono
  exact mo
def YX (a1:(List QG)):Nat → Int → Int → Option ((Int))
 | 0,_,_=>none
 | k + 1,x1057,x1058=>(if ((decide (x1058 < (a1.length:Int))) && (decide (x1057 < (9000:Int)))) = true then (if 0 ≤ x1058 ∧ x1058 < (a1.length:Int) then (if 0 ≤ x1058 ∧ x1058 < (a1.length:Int) then (Option.bind (YW a1 x1058 k (IntKind.i64.wrap ((IntKind.i64.wrap (x1057 + (imin (9000:Int) (((rd a1 x1058).Answer.Value).length:Int)))) + (imin (9000:Int) (((rd a1 x1058).Answer.Pairs).length:Int)))) (0:Int)) (fun x1996=>YX a1 k x1996 (IntKind.i64.wrap (x1058 + (1:Int))))) else none) else none) else some (x1057))
theorem YX.mono {a1:(List QG)}:∀ {kl:Nat} {x0 x1},OLe (YX a1 kl x0 x1) (YX a1 (kl + 1) x0 x1):=by
 intro kl
 induction kl with
 | zero=>intros; exact OLe.none
 | succ kl ih =>
  intros
  rw [YX.eq_2,YX.eq_2]
  have m1:=@YW.mono
  exact mo
def ZW (k:Nat) (a0:(List (List QW))) (a1:(List QG)):Option (Bool) :=
 (Option.bind (YX a1 k (IntKind.i64.wrap ((30:Int) * (imin (1000:Int) (a1.length:Int)))) (0:Int)) (fun x1585=>(Option.bind (YV a0 k x1585 (0:Int)) (fun x2685=>some (decide (x2685 ≥ (9000:Int)))))))
theorem ZW.mono {k:Nat} {a0:(List (List QW))} {a1:(List QG)}:OLe (ZW k a0 a1) (ZW (k + 1) a0 a1):=by
 unfold ZW
 have m1:=@YX.mono
 have m2:=@YV.mono
 exact mo
theorem ZW.con (k:Nat) (M:Hp) (A0:Option Addr) (c0:Nat) (a0:(List (List QW))) (A1:Option Addr) (c1:Nat) (a1:(List QG)) (r:Bool) (hr0:SlR (rSl ZV) M (.slice A0 a0.length c0) a0) (hr1:SlR QK M (.slice A1 a1.length c1) a1) (h:ZW k a0 a1 = some r):Con Tryd.prog 8 #[.slice A0 a0.length c0,.slice A1 a1.length c1] M [] (fun v M' Γ'=>v = .bool r ∧ Γ' = []):=by
 refine Qa Tryd.func8 rfl Tryd.ntmps8 Tryd.results8 rfl ?_
 intro w F rn S hrn
 have E:=Ext.refl w
 have HM:=Hp.le_refl M
 have H:=h
 unfold ZW at H
 refine QE (QA (W_v (.bool false) (QD rfl) rfl (QB (tn (QE (QA (W_v (.slice A1 a1.length c1) (QC rfl) rfl (W_v (vI (a1.length:Int)) (Qt (n:=a1.length) Tryd.underlying25 rfl) rfl (W_v (vI (imin (1000:Int) (a1.length:Int))) (VV rfl rfl) rfl (W_v (vI (IntKind.i64.wrap ((30:Int) * (imin (1000:Int) (a1.length:Int))))) (QT rfl rfl rfl rfl) rfl (W_v (vI (IntKind.i64.wrap ((30:Int) * (imin (1000:Int) (a1.length:Int))))) (QD rfl) rfl (QB (tn (QE (QE ?_)))))))))))))))
 refine QA (W_v (vI 0) (QD rfl) rfl (QB (tn ?_)))
 obtain ⟨o1586,o1586h,o1586H⟩:=QX H
 refine Ya (fun ρ w'=>∃ (x1585:Int),(x1585) = o1586 ∧ Qs ρ [(0,.slice A0 a0.length c0),(5,vI x1585)] ∧ Ext w w' ∧ St w' M F []) ?_ ?_
 ·skip
  refine Y0 (fun n ρ w'=>∃ (x1057:Int) (x1058:Int),YX a1 n x1057 x1058 = some o1586 ∧ Qs ρ [(0,.slice A0 a0.length c0),(1,.slice A1 a1.length c1),(5,vI x1057),(6,vI x1058)] ∧ Ext w w' ∧ St w' M F []) k ?_ ?_
  ·skip
   exact ⟨(IntKind.i64.wrap ((30:Int) * (imin (1000:Int) (a1.length:Int)))),(0:Int),o1586h,⟨rfl,rfl,rfl,rfl,trivial⟩,E,S.pick [] (by decide)⟩
  ·intro n
   rintro ρ w1587 ⟨x1057,x1058,H,hρ,E,S⟩
   rw [QN hρ]
   cases n with
   | zero=>cases H
   | succ k =>
    rw [YX.eq_2] at H
    refine QE (QE (QA (W_v (vI x1058) (QC rfl) rfl (W_v (.slice A1 a1.length c1) (QC rfl) rfl (W_v (vI (a1.length:Int)) (Qt (n:=a1.length) Tryd.underlying25 rfl) rfl (W_v (.bool (decide (x1058 < (a1.length:Int)))) (QT rfl rfl rfl rfl) rfl (W_v (.bool (decide (x1058 < (a1.length:Int)))) (QC rfl) rfl ?_)))))))
    refine ZI 3 (fun ρ w'=>Qs ρ [(0,.slice A0 a0.length c0),(1,.slice A1 a1.length c1),(5,vI x1057),(6,vI x1058),(22,.bool ((decide (x1058 < (a1.length:Int))) && (decide (x1057 < (9000:Int)))))] ∧ w1587 = w') ?_ ?_
    ·rcases Qw (decide (x1058 < (a1.length:Int))) with hb1588 | hb1588
     ·skip
      refine Qk (skT hb1588) rfl (Qk (skT hb1588) rfl (W_v (.bool false) (QZ (k:=false) (congrArg Value.bool hb1588) rfl) rfl (QB ?_)))
      exact ⟨⟨rfl,rfl,rfl,rfl,(by first | rfl | (rw [hb1588]; rfl) | (simp only [hb1588]; rfl)),trivial⟩,rfl⟩
     ·skip
      refine QU (congrArg some hb1588) (W_v (vI x1057) (QC rfl) rfl (QU (congrArg some hb1588) (W_v (.bool (decide (x1057 < (9000:Int)))) (QT rfl rfl rfl rfl) rfl (W_v (.bool (decide (x1057 < (9000:Int)))) (QZ (k:=true) (congrArg Value.bool hb1588) rfl) rfl (QB ?_)))))
      exact ⟨⟨rfl,rfl,rfl,rfl,(by first | rfl | (rw [hb1588]; rfl) | (simp only [hb1588]; rfl)),trivial⟩,rfl⟩
    as_aux_lemma =>
    rintro ρ _ ⟨hρ,rfl⟩
    rw [QN hρ]
    refine QB (tn ?_)
    rcases Zh H with ⟨hb1589,H⟩ | ⟨hb1589,H⟩
    ·refine QL (congrArg Value.bool hb1589) ?_
     refine Qg (tn (QE ?_))
     refine Z0 ?_
     refine QE ?_
     refine Ql (S:=fun w'=>∃ Mx,M.le Mx ∧ St w' Mx F []) (L:=20) mixed ?_
     intro w1618 hw1619 E'
     replace S:=S.heap hw1619
     replace E:=E.trans E'
     have D1:∃ Mx,Hp.le M Mx ∧ St _ Mx F []:=⟨_,Hp.le_refl _,S.pick [] (by decide)⟩
     refine Wt 0 rfl rfl rfl (vI x1057) rfl (fun w' h'=>QC rfl) D1 (Wt 1 rfl rfl rfl (.slice A1 a1.length c1) rfl (fun w' h'=>QC rfl) D1 (Wt 2 rfl rfl rfl (vI x1058) rfl (fun w' h'=>QC rfl) D1 ?_))
     obtain ⟨⟨p1620,p1621⟩,H⟩:=Zt H
     obtain ⟨b1622,o1623,cs1624,_,_,ee1629,hb1625,vs1626,hR1627,hc1628⟩:=SlW.at' hr1 p1620 p1621
     obtain ⟨v1633,hs1632,rfl⟩:=hR1627
     obtain ⟨A1630,c1631,rfl,_⟩:=hs1632.form
     refine Wt 3 rfl rfl rfl (.pointer (some ⟨b1622,o1623 + x1058.toNat * 7,none⟩)) rfl (fun w' h'=>Qe Tryd.underlying25 ty55 (slA ee1629) rfl p1620 p1621) D1 (Wt 4 rfl rfl rfl (.pointer (some ⟨b1622,o1623 + x1058.toNat * 7 + 3,none⟩)) rfl (fun w' h'=>QF (o:=o1623 + x1058.toNat * 7) (off:=3) Tryd.underlying55 rfl ty34 rfl rfl) D1 (Wt 5 rfl rfl rfl (.pointer (some ⟨b1622,o1623 + x1058.toNat * 7 + 3 + 2,none⟩)) rfl (fun w' h'=>QF (o:=o1623 + x1058.toNat * 7 + 3) (off:=2) Tryd.underlying34 rfl ty9 rfl rfl) D1 (Wt 6 rfl rfl rfl (vS ((rd a1 x1058).Answer.Value)) rfl (fun w' h'=>QR (Y5 h' hb1625) ty9 rfl (hc1628 5 _ rfl)) D1 (Wt 7 rfl rfl rfl (vI (((rd a1 x1058).Answer.Value).length:Int)) rfl (fun w' h'=>X6 Tryd.underlying9 rfl) D1 (Wt 8 rfl rfl rfl (vI (imin (9000:Int) (((rd a1 x1058).Answer.Value).length:Int))) rfl (fun w' h'=>VV rfl rfl) D1 (Wt 9 rfl rfl rfl (vI (IntKind.i64.wrap (x1057 + (imin (9000:Int) (((rd a1 x1058).Answer.Value).length:Int))))) rfl (fun w' h'=>QT rfl rfl rfl rfl) D1 (Wt 10 rfl rfl rfl (.slice A1 a1.length c1) rfl (fun w' h'=>QC rfl) D1 (Wt 11 rfl rfl rfl (vI x1058) rfl (fun w' h'=>QC rfl) D1 ?_))))))))
     obtain ⟨⟨p1634,p1635⟩,H⟩:=Zt H
     obtain ⟨b1636,o1637,cs1638,_,_,ee1643,hb1639,vs1640,hR1641,hc1642⟩:=SlW.at' hr1 p1634 p1635
     obtain ⟨v1647,hs1646,rfl⟩:=hR1641
     obtain ⟨A1644,c1645,rfl,_⟩:=hs1646.form
     refine Wt 12 rfl rfl rfl (.pointer (some ⟨b1636,o1637 + x1058.toNat * 7,none⟩)) rfl (fun w' h'=>Qe Tryd.underlying25 ty55 (slA ee1643) rfl p1634 p1635) D1 (Wt 13 rfl rfl rfl (.pointer (some ⟨b1636,o1637 + x1058.toNat * 7 + 3,none⟩)) rfl (fun w' h'=>QF (o:=o1637 + x1058.toNat * 7) (off:=3) Tryd.underlying55 rfl ty34 rfl rfl) D1 (Wt 14 rfl rfl rfl (.pointer (some ⟨b1636,o1637 + x1058.toNat * 7 + 3 + 3,none⟩)) rfl (fun w' h'=>QF (o:=o1637 + x1058.toNat * 7 + 3) (off:=3) Tryd.underlying34 rfl ty32 rfl rfl) D1 (Wt 15 rfl rfl rfl (.slice A1644 ((rd a1 x1058).Answer.Pairs).length c1645) rfl (fun w' h'=>QR (Y5 h' hb1639) ty32 rfl (hc1642 6 _ rfl)) D1 (Wt 16 rfl rfl rfl (vI (((rd a1 x1058).Answer.Pairs).length:Int)) rfl (fun w' h'=>Qt (n:=((rd a1 x1058).Answer.Pairs).length) Tryd.underlying32 rfl) D1 (Wt 17 rfl rfl rfl (vI (imin (9000:Int) (((rd a1 x1058).Answer.Pairs).length:Int))) rfl (fun w' h'=>VV rfl rfl) D1 (Wt 18 rfl rfl rfl (vI (IntKind.i64.wrap ((IntKind.i64.wrap (x1057 + (imin (9000:Int) (((rd a1 x1058).Answer.Value).length:Int)))) + (imin (9000:Int) (((rd a1 x1058).Answer.Pairs).length:Int))))) rfl (fun w' h'=>QT rfl rfl rfl rfl) D1 (Wt 19 rfl rfl rfl (vI (IntKind.i64.wrap ((IntKind.i64.wrap (x1057 + (imin (9000:Int) (((rd a1 x1058).Answer.Value).length:Int)))) + (imin (9000:Int) (((rd a1 x1058).Answer.Pairs).length:Int))))) rfl (fun w' h'=>QD rfl) D1 ?_)))))))
     refine Wz ?_
     refine tn (QE (QA (W_v (vI 0) (QD rfl) rfl (QB (tn ?_)))))
     obtain ⟨o1997,o1997h,o1997H⟩:=QX H
     refine Ya (fun ρ w'=>∃ (x1996:Int),(x1996) = o1997 ∧ Qs ρ [(0,.slice A0 a0.length c0),(1,.slice A1 a1.length c1),(5,vI x1996),(6,vI x1058)] ∧ Ext w w' ∧ St w' M F []) ?_ ?_
     ·skip
      refine Y0 (fun n ρ w'=>∃ (x1880:Int) (x1881:Int),YW a1 x1058 n x1880 x1881 = some o1997 ∧ Qs ρ [(0,.slice A0 a0.length c0),(1,.slice A1 a1.length c1),(5,vI x1880),(6,vI x1058),(7,vI x1881)] ∧ Ext w w' ∧ St w' M F []) k ?_ ?_
      ·skip
       exact ⟨(IntKind.i64.wrap ((IntKind.i64.wrap (x1057 + (imin (9000:Int) (((rd a1 x1058).Answer.Value).length:Int)))) + (imin (9000:Int) (((rd a1 x1058).Answer.Pairs).length:Int)))),(0:Int),o1997h,⟨rfl,rfl,rfl,rfl,rfl,trivial⟩,E,S.pick [] (by decide)⟩
      ·intro n
       rintro ρ w1998 ⟨x1880,x1881,H,hρ,E,S⟩
       rw [QN hρ]
       cases n with
       | zero=>cases H
       | succ k =>
        rw [YW.eq_2] at H
        refine QE (QE (QA (W_v (vI x1881) (QC rfl) rfl (W_v (.slice A1 a1.length c1) (QC rfl) rfl (W_v (vI x1058) (QC rfl) rfl ?_)))))
        obtain ⟨⟨p1999,p2000⟩,H⟩:=Zt H
        obtain ⟨b2001,o2002,cs2003,_,_,ee2008,hb2004,vs2005,hR2006,hc2007⟩:=SlW.at' hr1 p1999 p2000
        obtain ⟨v2012,hs2011,rfl⟩:=hR2006
        obtain ⟨A2009,c2010,rfl,_⟩:=hs2011.form
        refine W_v (.pointer (some ⟨b2001,o2002 + x1058.toNat * 7,none⟩)) (Qe Tryd.underlying25 ty55 (slA ee2008) rfl p1999 p2000) rfl (W_v (.pointer (some ⟨b2001,o2002 + x1058.toNat * 7 + 3,none⟩)) (QF (o:=o2002 + x1058.toNat * 7) (off:=3) Tryd.underlying55 rfl ty34 rfl rfl) rfl (W_v (.pointer (some ⟨b2001,o2002 + x1058.toNat * 7 + 3 + 3,none⟩)) (QF (o:=o2002 + x1058.toNat * 7 + 3) (off:=3) Tryd.underlying34 rfl ty32 rfl rfl) rfl (W_v (.slice A2009 ((rd a1 x1058).Answer.Pairs).length c2010) (QR (S.frz hb2004) ty32 rfl (hc2007 6 _ rfl)) rfl (W_v (vI (((rd a1 x1058).Answer.Pairs).length:Int)) (Qt (n:=((rd a1 x1058).Answer.Pairs).length) Tryd.underlying32 rfl) rfl (W_v (.bool (decide (x1881 < (((rd a1 x1058).Answer.Pairs).length:Int)))) (QT rfl rfl rfl rfl) rfl (W_v (.bool (decide (x1881 < (((rd a1 x1058).Answer.Pairs).length:Int)))) (QC rfl) rfl ?_))))))
        refine ZI 3 (fun ρ w'=>Qs ρ [(0,.slice A0 a0.length c0),(1,.slice A1 a1.length c1),(5,vI x1880),(6,vI x1058),(7,vI x1881),(56,.bool ((decide (x1881 < (((rd a1 x1058).Answer.Pairs).length:Int))) && (decide (x1880 < (9000:Int)))))] ∧ w1998 = w') ?_ ?_
        ·rcases Qw (decide (x1881 < (((rd a1 x1058).Answer.Pairs).length:Int))) with hb2013 | hb2013
         ·skip
          refine Qk (skT hb2013) rfl (Qk (skT hb2013) rfl (W_v (.bool false) (QZ (k:=false) (congrArg Value.bool hb2013) rfl) rfl (QB ?_)))
          exact ⟨⟨rfl,rfl,rfl,rfl,rfl,(by first | rfl | (rw [hb2013]; rfl) | (simp only [hb2013]; rfl)),trivial⟩,rfl⟩
         ·skip
          refine QU (congrArg some hb2013) (W_v (vI x1880) (QC rfl) rfl (QU (congrArg some hb2013) (W_v (.bool (decide (x1880 < (9000:Int)))) (QT rfl rfl rfl rfl) rfl (W_v (.bool (decide (x1880 < (9000:Int)))) (QZ (k:=true) (congrArg Value.bool hb2013) rfl) rfl (QB ?_)))))
          exact ⟨⟨rfl,rfl,rfl,rfl,rfl,(by first | rfl | (rw [hb2013]; rfl) | (simp only [hb2013]; rfl)),trivial⟩,rfl⟩
        as_aux_lemma =>
        rintro ρ _ ⟨hρ,rfl⟩
        rw [QN hρ]
        refine QB (tn ?_)
        rcases Zh H with ⟨hb2014,H⟩ | ⟨hb2014,H⟩
        ·refine QL (congrArg Value.bool hb2014) ?_
         refine Qg (tn (QE ?_))
         refine Z0 ?_
         refine Ql (S:=fun w'=>∃ Mx,M.le Mx ∧ St w' Mx F []) (L:=28) mixed ?_
         intro w2063 hw2064 E'
         replace S:=S.heap hw2064
         replace E:=E.trans E'
         have D2:∃ Mx,Hp.le M Mx ∧ St _ Mx F []:=⟨_,Hp.le_refl _,S.pick [] (by decide)⟩
         refine Wt 0 rfl rfl rfl (vI x1880) rfl (fun w' h'=>QC rfl) D2 (Wt 1 rfl rfl rfl (.slice A1 a1.length c1) rfl (fun w' h'=>QC rfl) D2 (Wt 2 rfl rfl rfl (vI x1058) rfl (fun w' h'=>QC rfl) D2 ?_))
         obtain ⟨⟨p2065,p2066⟩,H⟩:=Zt H
         obtain ⟨b2067,o2068,cs2069,_,_,ee2074,hb2070,vs2071,hR2072,hc2073⟩:=SlW.at' hr1 p2065 p2066
         obtain ⟨v2078,hs2077,rfl⟩:=hR2072
         obtain ⟨A2075,c2076,rfl,_⟩:=hs2077.form
         have hs2077z:=hs2077
         refine Wt 3 rfl rfl rfl (.pointer (some ⟨b2067,o2068 + x1058.toNat * 7,none⟩)) rfl (fun w' h'=>Qe Tryd.underlying25 ty55 (slA ee2074) rfl p2065 p2066) D2 (Wt 4 rfl rfl rfl (.pointer (some ⟨b2067,o2068 + x1058.toNat * 7 + 3,none⟩)) rfl (fun w' h'=>QF (o:=o2068 + x1058.toNat * 7) (off:=3) Tryd.underlying55 rfl ty34 rfl rfl) D2 (Wt 5 rfl rfl rfl (.pointer (some ⟨b2067,o2068 + x1058.toNat * 7 + 3 + 3,none⟩)) rfl (fun w' h'=>QF (o:=o2068 + x1058.toNat * 7 + 3) (off:=3) Tryd.underlying34 rfl ty32 rfl rfl) D2 (Wt 6 rfl rfl rfl (.slice A2075 ((rd a1 x1058).Answer.Pairs).length c2076) rfl (fun w' h'=>QR (Y5 h' hb2070) ty32 rfl (hc2073 6 _ rfl)) D2 (Wt 7 rfl rfl rfl (vI x1881) rfl (fun w' h'=>QC rfl) D2 ?_))))
         obtain ⟨⟨p2079,p2080⟩,H⟩:=Zt H
         obtain ⟨b2081,o2082,cs2083,_,_,ee2088,hb2084,vs2085,hR2086,hc2087⟩:=SlW.at' hs2077z p2079 p2080
         obtain rfl:vs2085 = _:=hR2086
         refine Wt 8 rfl rfl rfl (.pointer (some ⟨b2081,o2082 + x1881.toNat * 2,none⟩)) rfl (fun w' h'=>Qe Tryd.underlying32 ty72 (slA ee2088) rfl p2079 p2080) D2 (Wt 9 rfl rfl rfl (.pointer (some ⟨b2081,o2082 + x1881.toNat * 2,none⟩)) rfl (fun w' h'=>QF (o:=o2082 + x1881.toNat * 2) (off:=0) Tryd.underlying72 rfl ty9 rfl rfl) D2 (Wt 10 rfl rfl rfl (vS ((rd ((rd a1 x1058).Answer.Pairs) x1881).Key)) rfl (fun w' h'=>QR (Y5 h' hb2084) ty9 rfl (hc2087 0 _ rfl)) D2 (Wt 11 rfl rfl rfl (vI (((rd ((rd a1 x1058).Answer.Pairs) x1881).Key).length:Int)) rfl (fun w' h'=>X6 Tryd.underlying9 rfl) D2 (Wt 12 rfl rfl rfl (vI (imin (9000:Int) (((rd ((rd a1 x1058).Answer.Pairs) x1881).Key).length:Int))) rfl (fun w' h'=>VV rfl rfl) D2 (Wt 13 rfl rfl rfl (vI (IntKind.i64.wrap (x1880 + (imin (9000:Int) (((rd ((rd a1 x1058).Answer.Pairs) x1881).Key).length:Int))))) rfl (fun w' h'=>QT rfl rfl rfl rfl) D2 (Wt 14 rfl rfl rfl (.slice A1 a1.length c1) rfl (fun w' h'=>QC rfl) D2 (Wt 15 rfl rfl rfl (vI x1058) rfl (fun w' h'=>QC rfl) D2 ?_)))))))
         obtain ⟨⟨p2089,p2090⟩,H⟩:=Zt H
         obtain ⟨b2091,o2092,cs2093,_,_,ee2098,hb2094,vs2095,hR2096,hc2097⟩:=SlW.at' hr1 p2089 p2090
         obtain ⟨v2102,hs2101,rfl⟩:=hR2096
         obtain ⟨A2099,c2100,rfl,_⟩:=hs2101.form
         have hs2101z:=hs2101
         refine Wt 16 rfl rfl rfl (.pointer (some ⟨b2091,o2092 + x1058.toNat * 7,none⟩)) rfl (fun w' h'=>Qe Tryd.underlying25 ty55 (slA ee2098) rfl p2089 p2090) D2 (Wt 17 rfl rfl rfl (.pointer (some ⟨b2091,o2092 + x1058.toNat * 7 + 3,none⟩)) rfl (fun w' h'=>QF (o:=o2092 + x1058.toNat * 7) (off:=3) Tryd.underlying55 rfl ty34 rfl rfl) D2 (Wt 18 rfl rfl rfl (.pointer (some ⟨b2091,o2092 + x1058.toNat * 7 + 3 + 3,none⟩)) rfl (fun w' h'=>QF (o:=o2092 + x1058.toNat * 7 + 3) (off:=3) Tryd.underlying34 rfl ty32 rfl rfl) D2 (Wt 19 rfl rfl rfl (.slice A2099 ((rd a1 x1058).Answer.Pairs).length c2100) rfl (fun w' h'=>QR (Y5 h' hb2094) ty32 rfl (hc2097 6 _ rfl)) D2 (Wt 20 rfl rfl rfl (vI x1881) rfl (fun w' h'=>QC rfl) D2 ?_))))
         obtain ⟨⟨p2103,p2104⟩,H⟩:=Zt H
         obtain ⟨b2105,o2106,cs2107,_,_,ee2112,hb2108,vs2109,hR2110,hc2111⟩:=SlW.at' hs2101z p2103 p2104
         obtain rfl:vs2109 = _:=hR2110
         refine Wt 21 rfl rfl rfl (.pointer (some ⟨b2105,o2106 + x1881.toNat * 2,none⟩)) rfl (fun w' h'=>Qe Tryd.underlying32 ty72 (slA ee2112) rfl p2103 p2104) D2 (Wt 22 rfl rfl rfl (.pointer (some ⟨b2105,o2106 + x1881.toNat * 2 + 1,none⟩)) rfl (fun w' h'=>QF (o:=o2106 + x1881.toNat * 2) (off:=1) Tryd.underlying72 rfl ty9 rfl rfl) D2 (Wt 23 rfl rfl rfl (vS ((rd ((rd a1 x1058).Answer.Pairs) x1881).Value)) rfl (fun w' h'=>QR (Y5 h' hb2108) ty9 rfl (hc2111 1 _ rfl)) D2 (Wt 24 rfl rfl rfl (vI (((rd ((rd a1 x1058).Answer.Pairs) x1881).Value).length:Int)) rfl (fun w' h'=>X6 Tryd.underlying9 rfl) D2 (Wt 25 rfl rfl rfl (vI (imin (9000:Int) (((rd ((rd a1 x1058).Answer.Pairs) x1881).Value).length:Int))) rfl (fun w' h'=>VV rfl rfl) D2 (Wt 26 rfl rfl rfl (vI (IntKind.i64.wrap ((IntKind.i64.wrap (x1880 + (imin (9000:Int) (((rd ((rd a1 x1058).Answer.Pairs) x1881).Key).length:Int)))) + (imin (9000:Int) (((rd ((rd a1 x1058).Answer.Pairs) x1881).Value).length:Int))))) rfl (fun w' h'=>QT rfl rfl rfl rfl) D2 (Wt 27 rfl rfl rfl (vI (IntKind.i64.wrap ((IntKind.i64.wrap (x1880 + (imin (9000:Int) (((rd ((rd a1 x1058).Answer.Pairs) x1881).Key).length:Int)))) + (imin (9000:Int) (((rd ((rd a1 x1058).Answer.Pairs) x1881).Value).length:Int))))) rfl (fun w' h'=>QD rfl) D2 ?_))))))
         refine Wz ?_
         refine bn (tn (QA (W_v (vI x1881) (QC rfl) rfl (W_v (vI (IntKind.i64.wrap (x1881 + (1:Int)))) (QT rfl rfl rfl rfl) rfl (W_v (vI (IntKind.i64.wrap (x1881 + (1:Int)))) (QD rfl) rfl (QB (tn ?_)))))))
         exact ⟨k,Nat.lt_succ_self k,⟨(IntKind.i64.wrap ((IntKind.i64.wrap (x1880 + (imin (9000:Int) (((rd ((rd a1 x1058).Answer.Pairs) x1881).Key).length:Int)))) + (imin (9000:Int) (((rd ((rd a1 x1058).Answer.Pairs) x1881).Value).length:Int)))),(IntKind.i64.wrap (x1881 + (1:Int))),H,⟨rfl,rfl,rfl,rfl,rfl,trivial⟩,E,S.pick [] (by decide)⟩⟩
        refine QJ (congrArg Value.bool hb2014) ?_
        refine Yo ?_
        refine tx (tx (bsm (?_)))
        refine tn ?_
        exact ⟨x1880,Option.some.inj H,⟨rfl,rfl,rfl,rfl,trivial⟩,E,S.pick [] (by decide)⟩
     rintro ρ w2113 ⟨x1996,rfl,hρ,E,S⟩
     rw [QN hρ]
     have H:=o1997H
     refine bn (tn (QA (W_v (vI x1058) (QC rfl) rfl (W_v (vI (IntKind.i64.wrap (x1058 + (1:Int)))) (QT rfl rfl rfl rfl) rfl (W_v (vI (IntKind.i64.wrap (x1058 + (1:Int)))) (QD rfl) rfl (QB (tn ?_)))))))
     exact ⟨k,Nat.lt_succ_self k,⟨x1996,(IntKind.i64.wrap (x1058 + (1:Int))),H,⟨rfl,rfl,rfl,rfl,trivial⟩,E,S.pick [] (by decide)⟩⟩
    refine QJ (congrArg Value.bool hb1589) ?_
    refine Yo ?_
    refine tx (tx (bsm (?_)))
    refine tn ?_
    exact ⟨x1057,Option.some.inj H,⟨rfl,rfl,trivial⟩,E,S.pick [] (by decide)⟩
 rintro ρ w2114 ⟨x1585,rfl,hρ,E,S⟩
 rw [QN hρ]
 have H:=o1586H
 refine tn ?_
 as_aux_lemma =>
 refine QE (QE (QA (W_v (vI 0) (QD rfl) rfl (QB (tn ?_)))))
 obtain ⟨o2686,o2686h,o2686H⟩:=QX H
 refine Ya (fun ρ w'=>∃ (x2685:Int),(x2685) = o2686 ∧ Qs ρ [(5,vI x2685)] ∧ Ext w w' ∧ St w' M F []) ?_ ?_
 ·skip
  refine Y0 (fun n ρ w'=>∃ (x2495:Int) (x2496:Int),YV a0 n x2495 x2496 = some o2686 ∧ Qs ρ [(0,.slice A0 a0.length c0),(5,vI x2495),(8,vI x2496)] ∧ Ext w w' ∧ St w' M F []) k ?_ ?_
  ·skip
   exact ⟨x1585,(0:Int),o2686h,⟨rfl,rfl,rfl,trivial⟩,E,S.pick [] (by decide)⟩
  ·intro n
   rintro ρ w2687 ⟨x2495,x2496,H,hρ,E,S⟩
   rw [QN hρ]
   cases n with
   | zero=>cases H
   | succ k =>
    rw [YV.eq_2] at H
    refine QE (QE (QA (W_v (vI x2496) (QC rfl) rfl (W_v (.slice A0 a0.length c0) (QC rfl) rfl (W_v (vI (a0.length:Int)) (Qt (n:=a0.length) Tryd.underlying24 rfl) rfl (W_v (.bool (decide (x2496 < (a0.length:Int)))) (QT rfl rfl rfl rfl) rfl (W_v (.bool (decide (x2496 < (a0.length:Int)))) (QC rfl) rfl ?_)))))))
    refine ZI 3 (fun ρ w'=>Qs ρ [(0,.slice A0 a0.length c0),(5,vI x2495),(8,vI x2496),(93,.bool ((decide (x2496 < (a0.length:Int))) && (decide (x2495 < (9000:Int)))))] ∧ w2687 = w') ?_ ?_
    ·rcases Qw (decide (x2496 < (a0.length:Int))) with hb2688 | hb2688
     ·skip
      refine Qk (skT hb2688) rfl (Qk (skT hb2688) rfl (W_v (.bool false) (QZ (k:=false) (congrArg Value.bool hb2688) rfl) rfl (QB ?_)))
      exact ⟨⟨rfl,rfl,rfl,(by first | rfl | (rw [hb2688]; rfl) | (simp only [hb2688]; rfl)),trivial⟩,rfl⟩
     ·skip
      refine QU (congrArg some hb2688) (W_v (vI x2495) (QC rfl) rfl (QU (congrArg some hb2688) (W_v (.bool (decide (x2495 < (9000:Int)))) (QT rfl rfl rfl rfl) rfl (W_v (.bool (decide (x2495 < (9000:Int)))) (QZ (k:=true) (congrArg Value.bool hb2688) rfl) rfl (QB ?_)))))
      exact ⟨⟨rfl,rfl,rfl,(by first | rfl | (rw [hb2688]; rfl) | (simp only [hb2688]; rfl)),trivial⟩,rfl⟩
    as_aux_lemma =>
    rintro ρ _ ⟨hρ,rfl⟩
    rw [QN hρ]
    refine QB (tn ?_)
    rcases Zh H with ⟨hb2689,H⟩ | ⟨hb2689,H⟩
    ·refine QL (congrArg Value.bool hb2689) ?_
     refine Qg (tn (QE ?_))
     refine Z0 ?_
     refine QE (QA (W_v (vI x2495) (QC rfl) rfl (W_v (vI (IntKind.i64.wrap (x2495 + (1:Int)))) (QT rfl rfl rfl rfl) rfl (W_v (vI (IntKind.i64.wrap (x2495 + (1:Int)))) (QD rfl) rfl (QB (tn (QE (QA (W_v (vI 0) (QD rfl) rfl (QB (tn ?_)))))))))))
     obtain ⟨o2829,o2829h,o2829H⟩:=QX H
     refine Ya (fun ρ w'=>∃ (x2828:Int),(x2828) = o2829 ∧ Qs ρ [(0,.slice A0 a0.length c0),(5,vI x2828),(8,vI x2496)] ∧ Ext w w' ∧ St w' M F []) ?_ ?_
     ·skip
      refine Y0 (fun n ρ w'=>∃ (x2782:Int) (x2783:Int),YU a0 x2496 n x2782 x2783 = some o2829 ∧ Qs ρ [(0,.slice A0 a0.length c0),(5,vI x2782),(8,vI x2496),(9,vI x2783)] ∧ Ext w w' ∧ St w' M F []) k ?_ ?_
      ·skip
       exact ⟨(IntKind.i64.wrap (x2495 + (1:Int))),(0:Int),o2829h,⟨rfl,rfl,rfl,rfl,trivial⟩,E,S.pick [] (by decide)⟩
      ·intro n
       rintro ρ w2830 ⟨x2782,x2783,H,hρ,E,S⟩
       rw [QN hρ]
       cases n with
       | zero=>cases H
       | succ k =>
        rw [YU.eq_2] at H
        refine QE (QE (QA (W_v (vI x2783) (QC rfl) rfl (W_v (.slice A0 a0.length c0) (QC rfl) rfl (W_v (vI x2496) (QC rfl) rfl ?_)))))
        obtain ⟨⟨p2831,p2832⟩,H⟩:=Zt H
        obtain ⟨b2833,o2834,cs2835,_,_,ee2840,hb2836,vs2837,hR2838,hc2839⟩:=SlW.at' hr0 p2831 p2832
        obtain ⟨v2844,hs2843,rfl⟩:=hR2838
        obtain ⟨A2841,c2842,rfl,_⟩:=hs2843.form
        refine W_v (.pointer (some ⟨b2833,o2834 + x2496.toNat * 1,none⟩)) (Qe Tryd.underlying24 ty44 (slA ee2840) rfl p2831 p2832) rfl (W_v (.slice A2841 (rd a0 x2496).length c2842) (QR (S.frz hb2836) ty44 rfl (hc2839 0 _ rfl)) rfl (W_v (vI ((rd a0 x2496).length:Int)) (Qt (n:=(rd a0 x2496).length) Tryd.underlying44 rfl) rfl (W_v (.bool (decide (x2783 < ((rd a0 x2496).length:Int)))) (QT rfl rfl rfl rfl) rfl (W_v (.bool (decide (x2783 < ((rd a0 x2496).length:Int)))) (QC rfl) rfl ?_))))
        refine ZI 3 (fun ρ w'=>Qs ρ [(0,.slice A0 a0.length c0),(5,vI x2782),(8,vI x2496),(9,vI x2783),(108,.bool ((decide (x2783 < ((rd a0 x2496).length:Int))) && (decide (x2782 < (9000:Int)))))] ∧ w2830 = w') ?_ ?_
        ·rcases Qw (decide (x2783 < ((rd a0 x2496).length:Int))) with hb2845 | hb2845
         ·skip
          refine Qk (skT hb2845) rfl (Qk (skT hb2845) rfl (W_v (.bool false) (QZ (k:=false) (congrArg Value.bool hb2845) rfl) rfl (QB ?_)))
          exact ⟨⟨rfl,rfl,rfl,rfl,(by first | rfl | (rw [hb2845]; rfl) | (simp only [hb2845]; rfl)),trivial⟩,rfl⟩
         ·skip
          refine QU (congrArg some hb2845) (W_v (vI x2782) (QC rfl) rfl (QU (congrArg some hb2845) (W_v (.bool (decide (x2782 < (9000:Int)))) (QT rfl rfl rfl rfl) rfl (W_v (.bool (decide (x2782 < (9000:Int)))) (QZ (k:=true) (congrArg Value.bool hb2845) rfl) rfl (QB ?_)))))
          exact ⟨⟨rfl,rfl,rfl,rfl,(by first | rfl | (rw [hb2845]; rfl) | (simp only [hb2845]; rfl)),trivial⟩,rfl⟩
        as_aux_lemma =>
        rintro ρ _ ⟨hρ,rfl⟩
        rw [QN hρ]
        refine QB (tn ?_)
        rcases Zh H with ⟨hb2846,H⟩ | ⟨hb2846,H⟩
        ·refine QL (congrArg Value.bool hb2846) ?_
         refine Qg (tn (QE ?_))
         refine Z0 ?_
         refine QE (QA (W_v (.slice A0 a0.length c0) (QC rfl) rfl (W_v (vI x2496) (QC rfl) rfl ?_)))
         obtain ⟨⟨p2847,p2848⟩,H⟩:=Zt H
         obtain ⟨b2849,o2850,cs2851,_,_,ee2856,hb2852,vs2853,hR2854,hc2855⟩:=SlW.at' hr0 p2847 p2848
         obtain ⟨v2860,hs2859,rfl⟩:=hR2854
         obtain ⟨A2857,c2858,rfl,_⟩:=hs2859.form
         refine W_v (.pointer (some ⟨b2849,o2850 + x2496.toNat * 1,none⟩)) (Qe Tryd.underlying24 ty44 (slA ee2856) rfl p2847 p2848) rfl (W_v (.slice A2857 (rd a0 x2496).length c2858) (QR (S.frz hb2852) ty44 rfl (hc2855 0 _ rfl)) rfl (W_v (vI x2783) (QC rfl) rfl ?_))
         obtain ⟨⟨p2861,p2862⟩,H⟩:=Zt H
         obtain ⟨b2863,o2864,cs2865,_,_,ee2870,hb2866,vs2867,hR2868,hc2869⟩:=SlW.at' hs2859 p2861 p2862
         obtain rfl:vs2867 = _:=hR2868
         refine W_v (.pointer (some ⟨b2863,o2864 + x2783.toNat * 7,none⟩)) (Qe Tryd.underlying44 ty47 (slA ee2870) rfl p2861 p2862) rfl (W_v (.agg #[vU ((rd (rd a0 x2496) x2783).Kind),vI ((rd (rd a0 x2496) x2783).Tx),vS ((rd (rd a0 x2496) x2783).Key),vS ((rd (rd a0 x2496) x2783).End),vS ((rd (rd a0 x2496) x2783).Value),vI ((rd (rd a0 x2496) x2783).Limit),vU ((rd (rd a0 x2496) x2783).Engine)]) (Qh (S.frz hb2866) ty47 rfl (XC hc2869 0 rfl) rfl rfl) rfl ?_)
         refine Zu S cz4 ty47 rfl rfl ?_
         intro b2871 w2872 E' S
         replace E:=E.trans E'
         refine Q5 S 0 rfl ty47 rfl rfl [vU ((rd (rd a0 x2496) x2783).Kind),vI ((rd (rd a0 x2496) x2783).Tx),vS ((rd (rd a0 x2496) x2783).Key),vS ((rd (rd a0 x2496) x2783).End),vS ((rd (rd a0 x2496) x2783).Value),vI ((rd (rd a0 x2496) x2783).Limit),vU ((rd (rd a0 x2496) x2783).Engine)] rfl rfl rfl #[vU ((rd (rd a0 x2496) x2783).Kind),vI ((rd (rd a0 x2496) x2783).Tx),vS ((rd (rd a0 x2496) x2783).Key),vS ((rd (rd a0 x2496) x2783).End),vS ((rd (rd a0 x2496) x2783).Value),vI ((rd (rd a0 x2496) x2783).Limit),vU ((rd (rd a0 x2496) x2783).Engine)] (by as_aux_lemma=>kernel_rfl) rfl ?_
         intro w2874 E' S
         replace E:=E.trans E'
         refine QB (tn (QA (W_v (vI x2782) (QC rfl) rfl (W_v (vI (IntKind.i64.wrap (x2782 + (5:Int)))) (QT rfl rfl rfl rfl) rfl (W_v (pt b2871 2) (QF (o:=0) (off:=2) Tryd.underlying47 rfl ty9 rfl rfl) rfl (W_v (vS ((rd (rd a0 x2496) x2783).Key)) (QR (S.blk 0 rfl) ty9 rfl rfl) rfl (W_v (vI (((rd (rd a0 x2496) x2783).Key).length:Int)) (X6 Tryd.underlying9 rfl) rfl (W_v (vI (imin (9000:Int) (((rd (rd a0 x2496) x2783).Key).length:Int))) (VV rfl rfl) rfl (W_v (vI (IntKind.i64.wrap ((IntKind.i64.wrap (x2782 + (5:Int))) + (imin (9000:Int) (((rd (rd a0 x2496) x2783).Key).length:Int))))) (QT rfl rfl rfl rfl) rfl (W_v (pt b2871 3) (QF (o:=0) (off:=3) Tryd.underlying47 rfl ty9 rfl rfl) rfl (W_v (vS ((rd (rd a0 x2496) x2783).End)) (QR (S.blk 0 rfl) ty9 rfl rfl) rfl (W_v (vI (((rd (rd a0 x2496) x2783).End).length:Int)) (X6 Tryd.underlying9 rfl) rfl (W_v (vI (imin (9000:Int) (((rd (rd a0 x2496) x2783).End).length:Int))) (VV rfl rfl) rfl (W_v (vI (IntKind.i64.wrap ((IntKind.i64.wrap ((IntKind.i64.wrap (x2782 + (5:Int))) + (imin (9000:Int) (((rd (rd a0 x2496) x2783).Key).length:Int)))) + (imin (9000:Int) (((rd (rd a0 x2496) x2783).End).length:Int))))) (QT rfl rfl rfl rfl) rfl (W_v (pt b2871 4) (QF (o:=0) (off:=4) Tryd.underlying47 rfl ty9 rfl rfl) rfl ?_)))))))))))))))
         refine W_v (vS ((rd (rd a0 x2496) x2783).Value)) (QR (S.blk 0 rfl) ty9 rfl rfl) rfl (W_v (vI (((rd (rd a0 x2496) x2783).Value).length:Int)) (X6 Tryd.underlying9 rfl) rfl (W_v (vI (imin (9000:Int) (((rd (rd a0 x2496) x2783).Value).length:Int))) (VV rfl rfl) rfl (W_v (vI (IntKind.i64.wrap ((IntKind.i64.wrap ((IntKind.i64.wrap ((IntKind.i64.wrap (x2782 + (5:Int))) + (imin (9000:Int) (((rd (rd a0 x2496) x2783).Key).length:Int)))) + (imin (9000:Int) (((rd (rd a0 x2496) x2783).End).length:Int)))) + (imin (9000:Int) (((rd (rd a0 x2496) x2783).Value).length:Int))))) (QT rfl rfl rfl rfl) rfl (W_v (vI (IntKind.i64.wrap ((IntKind.i64.wrap ((IntKind.i64.wrap ((IntKind.i64.wrap (x2782 + (5:Int))) + (imin (9000:Int) (((rd (rd a0 x2496) x2783).Key).length:Int)))) + (imin (9000:Int) (((rd (rd a0 x2496) x2783).End).length:Int)))) + (imin (9000:Int) (((rd (rd a0 x2496) x2783).Value).length:Int))))) (QD rfl) rfl (QB (bn (tn (QA (W_v (vI x2783) (QC rfl) rfl (W_v (vI (IntKind.i64.wrap (x2783 + (1:Int)))) (QT rfl rfl rfl rfl) rfl (W_v (vI (IntKind.i64.wrap (x2783 + (1:Int)))) (QD rfl) rfl (QB (tn ?_)))))))))))))
         exact ⟨k,Nat.lt_succ_self k,⟨(IntKind.i64.wrap ((IntKind.i64.wrap ((IntKind.i64.wrap ((IntKind.i64.wrap (x2782 + (5:Int))) + (imin (9000:Int) (((rd (rd a0 x2496) x2783).Key).length:Int)))) + (imin (9000:Int) (((rd (rd a0 x2496) x2783).End).length:Int)))) + (imin (9000:Int) (((rd (rd a0 x2496) x2783).Value).length:Int)))),(IntKind.i64.wrap (x2783 + (1:Int))),H,⟨rfl,rfl,rfl,rfl,trivial⟩,E,S.pick [] (by decide)⟩⟩
        refine QJ (congrArg Value.bool hb2846) ?_
        refine Yo ?_
        refine tx (tx (bsm (?_)))
        refine tn ?_
        exact ⟨x2782,Option.some.inj H,⟨rfl,rfl,rfl,trivial⟩,E,S.pick [] (by decide)⟩
     rintro ρ w2875 ⟨x2828,rfl,hρ,E,S⟩
     rw [QN hρ]
     have H:=o2829H
     refine bn (tn (QA (W_v (vI x2496) (QC rfl) rfl (W_v (vI (IntKind.i64.wrap (x2496 + (1:Int)))) (QT rfl rfl rfl rfl) rfl (W_v (vI (IntKind.i64.wrap (x2496 + (1:Int)))) (QD rfl) rfl (QB (tn ?_)))))))
     exact ⟨k,Nat.lt_succ_self k,⟨x2828,(IntKind.i64.wrap (x2496 + (1:Int))),H,⟨rfl,rfl,rfl,trivial⟩,E,S.pick [] (by decide)⟩⟩
    refine QJ (congrArg Value.bool hb2689) ?_
    refine Yo ?_
    refine tx (tx (bsm (?_)))
    refine tn ?_
    exact ⟨x2495,Option.some.inj H,⟨rfl,trivial⟩,E,S.pick [] (by decide)⟩
 rintro ρ w2876 ⟨x2685,rfl,hρ,E,S⟩
 rw [QN hρ]
 have H:=o2686H
 refine tn ?_
 as_aux_lemma =>
 refine QE (QA (W_v (vI x2685) (QC rfl) rfl (W_v (.bool (decide (x2685 ≥ (9000:Int)))) (QT rfl rfl rfl rfl) rfl (W_v (.bool (decide (x2685 ≥ (9000:Int)))) (QD rfl) rfl (QB (tn ?_))))))
 refine QY ?_
 obtain rfl:=Option.some.inj H
 exact ⟨_,_,_,fun w1 e1=>QO (vs:=[.bool (decide (x2685 ≥ (9000:Int)))]) (FA.cons (rfl) (FA.nil)),HM,E,S.pick [] (by decide),⟨rfl,rfl⟩⟩
def Xi (a0:Qo):Nat → Int → Option ((Bool) ⊕ (Unit))
 | 0,_=>none
 | k + 1,x23=>(if (decide (x23 < (8:Int))) = true then (Option.bind (α:=List Xa) (some ([(⟨(a0.Tasks),(1:Int),(6:Int)⟩:Xa),(⟨(a0.Active),(1:Int),(8:Int)⟩:Xa),(⟨(a0.Keys),(1:Int),(64:Int)⟩:Xa),(⟨(a0.Depth),(2:Int),(8:Int)⟩:Xa),(⟨(a0.TS),(1:Int),(1048576:Int)⟩:Xa),(⟨(a0.KeyLen),(1:Int),(64:Int)⟩:Xa),(⟨(a0.ValLen),(0:Int),(256:Int)⟩:Xa),(⟨(a0.Fan),(3:Int),(8:Int)⟩:Xa)]:List Xa)) (fun x38=>(if 0 ≤ x23 ∧ x23 < (8:Int) then (if ((decide ((rd x38 x23).n < (rd x38 x23).low)) || (decide ((rd x38 x23).n > (rd x38 x23).high))) = true then some (.inl false) else Xi a0 k (IntKind.i64.wrap (x23 + (1:Int)))) else none))) else some (.inr ()))
theorem Xi.mono {a0:Qo}:∀ {kl:Nat} {x0},OLe (Xi a0 kl x0) (Xi a0 (kl + 1) x0):=by
 intro kl
 induction kl with
 | zero=>intros; exact OLe.none
 | succ kl ih =>
  intros
  rw [Xi.eq_2,Xi.eq_2]
  exact mo
def Xc (k:Nat) (a0:Qo):Option (Bool) :=
 (Option.bind (Xi a0 k (0:Int)) (fun o35o=>Sum.elim (fun r'=>some r') (fun _=>some true) o35o))
theorem Xc.mono {k:Nat} {a0:Qo}:OLe (Xc k a0) (Xc (k + 1) a0):=by
 unfold Xc
 have m1:=@Xi.mono
 exact mo
theorem Xc.con (k:Nat) (M:Hp) (a0:Qo) (r:Bool)  (h:Xc k a0 = some r):Con Tryd.prog 45 #[.agg #[vI a0.Tasks,vI a0.Active,vI a0.Keys,vI a0.Depth,vI a0.TS,vI a0.KeyLen,vI a0.ValLen,vI a0.Fan]] M [] (fun v M' Γ'=>v = .bool r ∧ Γ' = []):=by
 refine Qa Tryd.func45 rfl Tryd.ntmps45 Tryd.results45 rfl ?_
 intro w F rn S hrn
 have E:=Ext.refl w
 have HM:=Hp.le_refl M
 have H:=h
 unfold Xc at H
 refine QE (QA ?_)
 refine YO S #[vI a0.Tasks,vI a0.Active,vI a0.Keys,vI a0.Depth,vI a0.TS,vI a0.KeyLen,vI a0.ValLen,vI a0.Fan] rfl rfl rfl ?_
 intro b1 w2 E' S
 replace E:=E.trans E'
 refine W_v (.bool false) (QD rfl) rfl (QB (tn (QE (QE (QA (W_v (pt b1 0) (QF (o:=0) (off:=0) Tryd.underlying23 rfl ty3 rfl rfl) rfl (W_v (vI a0.Tasks) (QR (S.blk 0 rfl) ty3 rfl rfl) rfl (W_v (.agg #[vI (a0.Tasks),vI 1,vI 6]) (ZN (pl:=[(0,1),(1,1),(2,1)]) #[vI (a0.Tasks),vI 1,vI 6] Tryd.underlying129 ty129 (by as_aux_lemma=>kernel_rfl) rfl (by as_aux_lemma=>kernel_rfl)) rfl (W_v (pt b1 1) (QF (o:=0) (off:=1) Tryd.underlying23 rfl ty3 rfl rfl) rfl (W_v (vI a0.Active) (QR (S.blk 0 rfl) ty3 rfl rfl) rfl (W_v (.agg #[vI (a0.Active),vI 1,vI 8]) (ZN (pl:=[(0,1),(1,1),(2,1)]) #[vI (a0.Active),vI 1,vI 8] Tryd.underlying129 ty129 (by as_aux_lemma=>kernel_rfl) rfl (by as_aux_lemma=>kernel_rfl)) rfl (W_v (pt b1 2) (QF (o:=0) (off:=2) Tryd.underlying23 rfl ty3 rfl rfl) rfl (W_v (vI a0.Keys) (QR (S.blk 0 rfl) ty3 rfl rfl) rfl (W_v (.agg #[vI (a0.Keys),vI 1,vI 64]) (ZN (pl:=[(0,1),(1,1),(2,1)]) #[vI (a0.Keys),vI 1,vI 64] Tryd.underlying129 ty129 (by as_aux_lemma=>kernel_rfl) rfl (by as_aux_lemma=>kernel_rfl)) rfl (W_v (pt b1 3) (QF (o:=0) (off:=3) Tryd.underlying23 rfl ty3 rfl rfl) rfl ?_)))))))))))))))
 refine W_v (vI a0.Depth) (QR (S.blk 0 rfl) ty3 rfl rfl) rfl (W_v (.agg #[vI (a0.Depth),vI 2,vI 8]) (ZN (pl:=[(0,1),(1,1),(2,1)]) #[vI (a0.Depth),vI 2,vI 8] Tryd.underlying129 ty129 (by as_aux_lemma=>kernel_rfl) rfl (by as_aux_lemma=>kernel_rfl)) rfl (W_v (pt b1 4) (QF (o:=0) (off:=4) Tryd.underlying23 rfl ty3 rfl rfl) rfl (W_v (vI a0.TS) (QR (S.blk 0 rfl) ty3 rfl rfl) rfl (W_v (.agg #[vI (a0.TS),vI 1,vI 1048576]) (ZN (pl:=[(0,1),(1,1),(2,1)]) #[vI (a0.TS),vI 1,vI 1048576] Tryd.underlying129 ty129 (by as_aux_lemma=>kernel_rfl) rfl (by as_aux_lemma=>kernel_rfl)) rfl (W_v (pt b1 5) (QF (o:=0) (off:=5) Tryd.underlying23 rfl ty3 rfl rfl) rfl (W_v (vI a0.KeyLen) (QR (S.blk 0 rfl) ty3 rfl rfl) rfl (W_v (.agg #[vI (a0.KeyLen),vI 1,vI 64]) (ZN (pl:=[(0,1),(1,1),(2,1)]) #[vI (a0.KeyLen),vI 1,vI 64] Tryd.underlying129 ty129 (by as_aux_lemma=>kernel_rfl) rfl (by as_aux_lemma=>kernel_rfl)) rfl (W_v (pt b1 6) (QF (o:=0) (off:=6) Tryd.underlying23 rfl ty3 rfl rfl) rfl (W_v (vI a0.ValLen) (QR (S.blk 0 rfl) ty3 rfl rfl) rfl (W_v (.agg #[vI (a0.ValLen),vI 0,vI 256]) (ZN (pl:=[(0,1),(1,1),(2,1)]) #[vI (a0.ValLen),vI 0,vI 256] Tryd.underlying129 ty129 (by as_aux_lemma=>kernel_rfl) rfl (by as_aux_lemma=>kernel_rfl)) rfl (W_v (pt b1 7) (QF (o:=0) (off:=7) Tryd.underlying23 rfl ty3 rfl rfl) rfl (W_v (vI a0.Fan) (QR (S.blk 0 rfl) ty3 rfl rfl) rfl (W_v (.agg #[vI (a0.Fan),vI 3,vI 8]) (ZN (pl:=[(0,1),(1,1),(2,1)]) #[vI (a0.Fan),vI 3,vI 8] Tryd.underlying129 ty129 (by as_aux_lemma=>kernel_rfl) rfl (by as_aux_lemma=>kernel_rfl)) rfl (W_v (.agg #[vI (a0.Tasks),vI 1,vI 6,vI (a0.Active),vI 1,vI 8,vI (a0.Keys),vI 1,vI 64,vI (a0.Depth),vI 2,vI 8,vI (a0.TS),vI 1,vI 1048576,vI (a0.KeyLen),vI 1,vI 64,vI (a0.ValLen),vI 0,vI 256,vI (a0.Fan),vI 3,vI 8]) (JP #[vI (a0.Tasks),vI 1,vI 6,vI (a0.Active),vI 1,vI 8,vI (a0.Keys),vI 1,vI 64,vI (a0.Depth),vI 2,vI 8,vI (a0.TS),vI 1,vI 1048576,vI (a0.KeyLen),vI 1,vI 64,vI (a0.ValLen),vI 0,vI 256,vI (a0.Fan),vI 3,vI 8] Tryd.underlying130 ty130 ty129 rfl (by kernel_rfl)) rfl (W_v (vI 0) (QC rfl) rfl ?_)))))))))))))))
 refine QB (tn ?_)
 obtain ⟨o35,o35h,o35H⟩:=QX H
 refine Ya (fun ρ w'=>.inr () = o35 ∧ Qs ρ [] ∧ Ext w w' ∧ St w' M F []) ?_ ?_
 ·skip
  refine Y0 (fun n ρ w'=>∃ (x23:Int),Xi a0 n x23 = some o35 ∧ Qs ρ [(29,.agg #[vI (a0.Tasks),vI 1,vI 6,vI (a0.Active),vI 1,vI 8,vI (a0.Keys),vI 1,vI 64,vI (a0.Depth),vI 2,vI 8,vI (a0.TS),vI 1,vI 1048576,vI (a0.KeyLen),vI 1,vI 64,vI (a0.ValLen),vI 0,vI 256,vI (a0.Fan),vI 3,vI 8]),(30,vI x23)] ∧ Ext w w' ∧ St w' M F []) k ?_ ?_
  ·skip
   exact ⟨(0:Int),o35h,⟨rfl,rfl,trivial⟩,E,S.pick [] (by decide)⟩
  ·intro n
   rintro ρ w36 ⟨x23,H,hρ,E,S⟩
   rw [QN hρ]
   cases n with
   | zero=>cases H
   | succ k =>
    rw [Xi.eq_2] at H
    refine QE (QA (W_v (.bool (decide (x23 < (8:Int)))) (QT rfl rfl rfl rfl) rfl (QB (tn (QE ?_)))))
    rcases Zh H with ⟨hb37,H⟩ | ⟨hb37,H⟩
    ·refine QL (congrArg Value.bool hb37) ?_
     refine Qg (tn (QE ?_))
     refine Z0 ?_
     refine QE (QA ?_)
     obtain ⟨x38,he39,H⟩:=QX H
     replace he39:=Option.some.inj he39
     obtain ⟨⟨p40,p41⟩,H⟩:=Zt H
     refine W_v (.agg #[vI ((rd x38 x23).n),vI ((rd x38 x23).low),vI ((rd x38 x23).high)]) ((by rw [← he39]; exact JO Tryd.underlying130 ty129 rfl rfl p40 p41 (by obtain ⟨q,hq⟩:=Int.eq_ofNat_of_zero_le p40; have h9:q = 0 ∨ q = 1 ∨ q = 2 ∨ q = 3 ∨ q = 4 ∨ q = 5 ∨ q = 6 ∨ q = 7:=(by omega); rcases h9 with rfl | rfl | rfl | rfl | rfl | rfl | rfl | rfl <;> (rw [hq] <;> rfl)))) rfl ?_
     refine Zu S #[vI 0,vI 0,vI 0] ty129 rfl rfl ?_
     intro b42 w43 E' S
     replace E:=E.trans E'
     refine Q5 S 0 rfl ty129 rfl rfl [vI ((rd x38 x23).n),vI ((rd x38 x23).low),vI ((rd x38 x23).high)] rfl rfl rfl #[vI ((rd x38 x23).n),vI ((rd x38 x23).low),vI ((rd x38 x23).high)] rfl rfl ?_
     intro w45 E' S
     replace E:=E.trans E'
     refine QB (tn (QE (QA (W_v (pt b42 0) (QF (o:=0) (off:=0) Tryd.underlying129 rfl ty3 rfl rfl) rfl (W_v (vI ((rd x38 x23).n)) (QR (S.blk 0 rfl) ty3 rfl rfl) rfl (W_v (pt b42 1) (QF (o:=0) (off:=1) Tryd.underlying129 rfl ty3 rfl rfl) rfl (W_v (vI ((rd x38 x23).low)) (QR (S.blk 0 rfl) ty3 rfl rfl) rfl (W_v (.bool (decide ((rd x38 x23).n < (rd x38 x23).low))) (QT rfl rfl rfl rfl) rfl (W_v (.bool (decide ((rd x38 x23).n < (rd x38 x23).low))) (QC rfl) rfl ?_)))))))))
     refine ZI 6 (fun ρ w'=>Qs ρ [(29,.agg #[vI (a0.Tasks),vI 1,vI 6,vI (a0.Active),vI 1,vI 8,vI (a0.Keys),vI 1,vI 64,vI (a0.Depth),vI 2,vI 8,vI (a0.TS),vI 1,vI 1048576,vI (a0.KeyLen),vI 1,vI 64,vI (a0.ValLen),vI 0,vI 256,vI (a0.Fan),vI 3,vI 8]),(30,vI x23),(44,.bool ((decide ((rd x38 x23).n < (rd x38 x23).low)) || (decide ((rd x38 x23).n > (rd x38 x23).high))))] ∧ w45 = w') ?_ ?_
     ·rcases Qw (decide ((rd x38 x23).n < (rd x38 x23).low)) with hb46 | hb46
      ·skip
       refine QU (congrArg some hb46) (W_v (pt b42 0) (QF (o:=0) (off:=0) Tryd.underlying129 rfl ty3 rfl rfl) rfl (QU (congrArg some hb46) (W_v (vI ((rd x38 x23).n)) (QR (S.blk 0 rfl) ty3 rfl rfl) rfl (QU (congrArg some hb46) (W_v (pt b42 2) (QF (o:=0) (off:=2) Tryd.underlying129 rfl ty3 rfl rfl) rfl (QU (congrArg some hb46) (W_v (vI ((rd x38 x23).high)) (QR (S.blk 0 rfl) ty3 rfl rfl) rfl (QU (congrArg some hb46) (W_v (.bool (decide ((rd x38 x23).n > (rd x38 x23).high))) (QT rfl rfl rfl rfl) rfl (W_v (.bool (decide ((rd x38 x23).n > (rd x38 x23).high))) (QZ (k:=false) (congrArg Value.bool hb46) rfl) rfl (QB ?_)))))))))))
       exact ⟨⟨rfl,rfl,(by first | rfl | (rw [hb46]; rfl) | (simp only [hb46]; rfl)),trivial⟩,rfl⟩
      ·skip
       refine Qk (skF hb46) rfl (Qk (skF hb46) rfl (Qk (skF hb46) rfl (Qk (skF hb46) rfl (Qk (skF hb46) rfl (W_v (.bool true) (QZ (k:=true) (congrArg Value.bool hb46) rfl) rfl (QB ?_))))))
       exact ⟨⟨rfl,rfl,(by first | rfl | (rw [hb46]; rfl) | (simp only [hb46]; rfl)),trivial⟩,rfl⟩
     rintro ρ _ ⟨hρ,rfl⟩
     rw [QN hρ]
     refine QB (tn ?_)
     rcases Zh H with ⟨hb47,H⟩ | ⟨hb47,H⟩
     ·refine QL (congrArg Value.bool hb47) ?_
      refine QE (QA (W_v (.bool false) (QD rfl) rfl (QB (tn ?_))))
      refine QY ?_
      refine br (tr (tr (br (tr (tr (?_))))))
      obtain rfl:=Option.some.inj H
      have H:=o35H
      replace H:=elimL H
      obtain rfl:=Option.some.inj H
      exact ⟨_,_,_,fun w1 e1=>QO (vs:=[.bool false]) (FA.cons (rfl) (FA.nil)),HM,E,S.pick [] (by decide),⟨rfl,rfl⟩⟩
     refine QJ (congrArg Value.bool hb47) (Qg (bn (tn (QA (W_v (vI (IntKind.i64.wrap (x23 + (1:Int)))) (QT rfl rfl rfl rfl) rfl (W_v (vI (IntKind.i64.wrap (x23 + (1:Int)))) (QC rfl) rfl (QB (tn ?_))))))))
     exact ⟨k,Nat.lt_succ_self k,⟨(IntKind.i64.wrap (x23 + (1:Int))),H,⟨rfl,rfl,trivial⟩,E,S.pick [] (by decide)⟩⟩
    refine QJ (congrArg Value.bool hb37) ?_
    refine Yo ?_
    refine tx (tx (bsm (?_)))
    refine tn ?_
    exact ⟨Option.some.inj H,trivial,E,S.pick [] (by decide)⟩
 rintro ρ w48 ⟨rfl,hρ,E,S⟩
 rw [QN hρ]
 have H:=o35H
 replace H:=elimR H
 refine tn ?_
 as_aux_lemma =>
 refine QE (QA (W_v (.bool true) (QD rfl) rfl (QB (tn ?_))))
 refine QY ?_
 obtain rfl:=Option.some.inj H
 exact ⟨_,_,_,fun w1 e1=>QO (vs:=[.bool true]) (FA.cons (rfl) (FA.nil)),HM,E,S.pick [] (by decide),⟨rfl,rfl⟩⟩
def XF (k:Nat) (a0:(List QW)):Option (Bool) :=
 some (decide ((a0.length:Int) > (64:Int)))
theorem XF.mono {k:Nat} {a0:(List QW)}:OLe (XF k a0) (XF (k + 1) a0):=by
 unfold XF
 exact mo
theorem XF.con (k:Nat) (M:Hp) (A0:Option Addr) (c0:Nat) (a0:(List QW)) (r:Bool) (hr0:SlR ZV M (.slice A0 a0.length c0) a0) (h:XF k a0 = some r):Con Tryd.prog 47 #[.slice A0 a0.length c0] M [] (fun v M' Γ'=>v = .bool r ∧ Γ' = []):=by
 refine Qa Tryd.func47 rfl Tryd.ntmps47 Tryd.results47 rfl ?_
 intro w F rn S hrn
 have E:=Ext.refl w
 have HM:=Hp.le_refl M
 have H:=h
 unfold XF at H
 refine QE (QA (W_v (.bool false) (QD rfl) rfl (QB (tn (QE (QA (W_v (.slice A0 a0.length c0) (QC rfl) rfl (W_v (vI (a0.length:Int)) (Qt (n:=a0.length) Tryd.underlying44 rfl) rfl (W_v (.bool (decide ((a0.length:Int) > (64:Int)))) (QT rfl rfl rfl rfl) rfl (W_v (.bool (decide ((a0.length:Int) > (64:Int)))) (QD rfl) rfl (QB (tn ?_))))))))))))
 refine QY ?_
 obtain rfl:=Option.some.inj H
 exact ⟨_,_,_,fun w1 e1=>QO (vs:=[.bool (decide ((a0.length:Int) > (64:Int)))]) (FA.cons (rfl) (FA.nil)),HM,E,S.pick [] (by decide),⟨rfl,rfl⟩⟩
def ZE (a0:(List (List QW))):Nat → Int → Option ((Int) ⊕ (Unit))
 | 0,_=>none
 | k + 1,x45=>(if (decide (x45 < (a0.length:Int))) = true then (if 0 ≤ x45 ∧ x45 < (a0.length:Int) then (Option.bind (XF k (rd a0 x45)) (fun t84=>(if t84 = true then some (.inl x45) else ZE a0 k (IntKind.i64.wrap (x45 + (1:Int)))))) else none) else some (.inr ()))
theorem ZE.mono {a0:(List (List QW))}:∀ {kl:Nat} {x0},OLe (ZE a0 kl x0) (ZE a0 (kl + 1) x0):=by
 intro kl
 induction kl with
 | zero=>intros; exact OLe.none
 | succ kl ih =>
  intros
  rw [ZE.eq_2,ZE.eq_2]
  have m1:=@XF.mono
  exact mo
def ZK (k:Nat) (a0:(List (List QW))):Option (Int) :=
 (Option.bind (ZE a0 k (0:Int)) (fun o67o=>Sum.elim (fun r'=>some r') (fun _=>some (-1:Int)) o67o))
theorem ZK.mono {k:Nat} {a0:(List (List QW))}:OLe (ZK k a0) (ZK (k + 1) a0):=by
 unfold ZK
 have m1:=@ZE.mono
 exact mo
theorem ZK.con (k:Nat) (M:Hp) (A0:Option Addr) (c0:Nat) (a0:(List (List QW))) (r:Int) (hr0:SlR (rSl ZV) M (.slice A0 a0.length c0) a0) (h:ZK k a0 = some r):Con Tryd.prog 65 #[.slice A0 a0.length c0,.func (.func 47) #[] #[]] M [] (fun v M' Γ'=>v = vI r ∧ Γ' = []):=by
 refine Qa Tryd.func65 rfl Tryd.ntmps65 Tryd.results65 rfl ?_
 intro w F rn S hrn
 have E:=Ext.refl w
 have HM:=Hp.le_refl M
 have H:=h
 unfold ZK at H
 refine QE (QA (W_v (vI 0) (QD rfl) rfl (QB (tn (QE (QE (QA (W_v (.slice A0 a0.length c0) (QC rfl) rfl (W_v (vI (a0.length:Int)) (Qt (n:=a0.length) Tryd.underlying24 rfl) rfl (W_v (vI 0) (QC rfl) rfl (QB (tn ?_))))))))))))
 obtain ⟨o67,o67h,o67H⟩:=QX H
 refine Ya (fun ρ w'=>.inr () = o67 ∧ Qs ρ [] ∧ Ext w w' ∧ St w' M F []) ?_ ?_
 ·skip
  refine Y0 (fun n ρ w'=>∃ (x45:Int),ZE a0 n x45 = some o67 ∧ Qs ρ [(0,.slice A0 a0.length c0),(1,.func (.func 47) #[] #[]),(7,vI (a0.length:Int)),(8,vI x45)] ∧ Ext w w' ∧ St w' M F []) k ?_ ?_
  ·skip
   exact ⟨(0:Int),o67h,⟨rfl,rfl,rfl,rfl,trivial⟩,E,S.pick [] (by decide)⟩
  ·intro n
   rintro ρ w68 ⟨x45,H,hρ,E,S⟩
   rw [QN hρ]
   cases n with
   | zero=>cases H
   | succ k =>
    rw [ZE.eq_2] at H
    refine QE (QA (W_v (.bool (decide (x45 < (a0.length:Int)))) (QT rfl rfl rfl rfl) rfl (QB (tn (QE ?_)))))
    rcases Zh H with ⟨hb69,H⟩ | ⟨hb69,H⟩
    ·refine QL (congrArg Value.bool hb69) ?_
     refine Qg (tn (QE ?_))
     refine Z0 ?_
     refine QE (QA (W_v (vI x45) (QC rfl) rfl (W_v (vI x45) (QD rfl) rfl (QB (tn (QE (QA (W_v (.func (.func 47) #[] #[]) (QC rfl) rfl (W_v (.slice A0 a0.length c0) (QC rfl) rfl (W_v (vI x45) (QC rfl) rfl ?_))))))))))
     obtain ⟨⟨p70,p71⟩,H⟩:=Zt H
     obtain ⟨b72,o73,cs74,_,_,ee79,hb75,vs76,hR77,hc78⟩:=SlW.at' hr0 p70 p71
     obtain ⟨v83,hs82,rfl⟩:=hR77
     obtain ⟨A80,c81,rfl,_⟩:=hs82.form
     refine W_v (.pointer (some ⟨b72,o73 + x45.toNat * 1,none⟩)) (Qe Tryd.underlying24 ty44 (slA ee79) rfl p70 p71) rfl (W_v (.slice A80 (rd a0 x45).length c81) (QR (S.frz hb75) ty44 rfl (hc78 0 _ rfl)) rfl ?_)
     obtain ⟨t84,ht85,H⟩:=QX H
     refine Xl (fs:=[]) (cap:=[]) fn47 rfl (XF.con k M A80 c81 (rd a0 x45) t84 hs82 ht85) (Γ1:=[]) (Γ2:=[]) S rfl rfl (by rintro _ _ _ ⟨rfl,rfl⟩; exact Qd) ?_
     rintro _ w86 _ Γ' E' S ⟨rfl,rfl⟩
     replace E:=E.trans E'
     replace S:St w86 M F []:=S
     refine QB (tn ?_)
     rcases Zh H with ⟨hb89,H⟩ | ⟨hb89,H⟩
     ·refine QL (congrArg Value.bool hb89) ?_
      refine QE (QA (W_v (vI x45) (QC rfl) rfl (W_v (vI x45) (QD rfl) rfl (QB (tn ?_)))))
      refine QY ?_
      refine br (tr (tr (br (tr (tr (?_))))))
      obtain rfl:=Option.some.inj H
      have H:=o67H
      replace H:=elimL H
      obtain rfl:=Option.some.inj H
      exact ⟨_,_,_,fun w1 e1=>QO (vs:=[vI x45]) (FA.cons (rfl) (FA.nil)),HM,E,S.pick [] (by decide),⟨rfl,rfl⟩⟩
     refine QJ (congrArg Value.bool hb89) (Qg (bn (tn (QA (W_v (vI (IntKind.i64.wrap (x45 + (1:Int)))) (QT rfl rfl rfl rfl) rfl (W_v (vI (IntKind.i64.wrap (x45 + (1:Int)))) (QC rfl) rfl (QB (tn ?_))))))))
     exact ⟨k,Nat.lt_succ_self k,⟨(IntKind.i64.wrap (x45 + (1:Int))),H,⟨rfl,rfl,rfl,rfl,trivial⟩,E,S.pick [] (by decide)⟩⟩
    refine QJ (congrArg Value.bool hb69) ?_
    refine Yo ?_
    refine tx (tx (bsm (?_)))
    refine tn ?_
    exact ⟨Option.some.inj H,trivial,E,S.pick [] (by decide)⟩
 rintro ρ w90 ⟨rfl,hρ,E,S⟩
 rw [QN hρ]
 have H:=o67H
 replace H:=elimR H
 refine tn ?_
 as_aux_lemma =>
 refine QE (QA (W_v (vI (-1)) (QD rfl) rfl (QB (tn ?_))))
 refine QY ?_
 obtain rfl:=Option.some.inj H
 exact ⟨_,_,_,fun w1 e1=>QO (vs:=[vI (-1)]) (FA.cons (rfl) (FA.nil)),HM,E,S.pick [] (by decide),⟨rfl,rfl⟩⟩
def ZF (k:Nat) (a0:(List (List QW))):Option (Bool) :=
 (Option.bind (ZK k a0) (fun t1=>some (decide (t1 ≥ (0:Int)))))
theorem ZF.mono {k:Nat} {a0:(List (List QW))}:OLe (ZF k a0) (ZF (k + 1) a0):=by
 unfold ZF
 have m1:=@ZK.mono
 exact mo
theorem ZF.con (k:Nat) (M:Hp) (A0:Option Addr) (c0:Nat) (a0:(List (List QW))) (r:Bool) (hr0:SlR (rSl ZV) M (.slice A0 a0.length c0) a0) (h:ZF k a0 = some r):Con Tryd.prog 46 #[.slice A0 a0.length c0,.func (.func 47) #[] #[]] M [] (fun v M' Γ'=>v = .bool r ∧ Γ' = []):=by
 refine Qa Tryd.func46 rfl Tryd.ntmps46 Tryd.results46 rfl ?_
 intro w F rn S hrn
 have E:=Ext.refl w
 have HM:=Hp.le_refl M
 have H:=h
 unfold ZF at H
 refine QE (QA (W_v (.bool false) (QD rfl) rfl (QB (tn (QE (QA (W_v (.slice A0 a0.length c0) (QC rfl) rfl (W_v (.func (.func 47) #[] #[]) (QC rfl) rfl ?_))))))))
 obtain ⟨t1,ht2,H⟩:=QX H
 refine Z2 fn65 (ZK.con k M A0 c0 a0 t1 hr0 ht2) (Γ1:=[]) (Γ2:=[]) S rfl rfl (by rintro _ _ _ ⟨rfl,rfl⟩; exact Qd) ?_
 rintro _ w3 _ Γ' E' S ⟨rfl,rfl⟩
 replace E:=E.trans E'
 replace S:St w3 M F []:=S
 refine W_v (.bool (decide (t1 ≥ (0:Int)))) (QT rfl rfl rfl rfl) rfl (W_v (.bool (decide (t1 ≥ (0:Int)))) (QD rfl) rfl (QB (tn ?_)))
 refine QY ?_
 obtain rfl:=Option.some.inj H
 exact ⟨_,_,_,fun w1 e1=>QO (vs:=[.bool (decide (t1 ≥ (0:Int)))]) (FA.cons (rfl) (FA.nil)),HM,E,S.pick [] (by decide),⟨rfl,rfl⟩⟩
def XU (k:Nat) (a0:Qo) (a1:(List (List QW))):Option (Bool) :=
 (Option.bind (Xc k a0) (fun t4=>(Option.bind (α:=Bool) (if (t4 && (decide ((a1.length:Int) ≤ a0.Tasks))) = true then (Option.bind (ZF k a1) (fun t21=>some ((!t21)))) else some (false)) (fun x19=>some x19))))
theorem XU.mono {k:Nat} {a0:Qo} {a1:(List (List QW))}:OLe (XU k a0 a1) (XU (k + 1) a0 a1):=by
 unfold XU
 have m1:=@ZF.mono
 have m2:=@Xc.mono
 exact mo
theorem XU.con (k:Nat) (M:Hp) (a0:Qo) (A1:Option Addr) (c1:Nat) (a1:(List (List QW))) (r:Bool) (hr1:SlR (rSl ZV) M (.slice A1 a1.length c1) a1) (h:XU k a0 a1 = some r):Con Tryd.prog 14 #[.agg #[vI a0.Tasks,vI a0.Active,vI a0.Keys,vI a0.Depth,vI a0.TS,vI a0.KeyLen,vI a0.ValLen,vI a0.Fan],.slice A1 a1.length c1] M [] (fun v M' Γ'=>v = .bool r ∧ Γ' = []):=by
 refine Qa Tryd.func14 rfl Tryd.ntmps14 Tryd.results14 rfl ?_
 intro w F rn S hrn
 have E:=Ext.refl w
 have HM:=Hp.le_refl M
 have H:=h
 unfold XU at H
 refine QE (QA ?_)
 refine YO S #[vI a0.Tasks,vI a0.Active,vI a0.Keys,vI a0.Depth,vI a0.TS,vI a0.KeyLen,vI a0.ValLen,vI a0.Fan] rfl rfl rfl ?_
 intro b1 w2 E' S
 replace E:=E.trans E'
 refine W_v (.bool false) (QD rfl) rfl (QB (tn (QE (QA (W_v (.agg #[vI a0.Tasks,vI a0.Active,vI a0.Keys,vI a0.Depth,vI a0.TS,vI a0.KeyLen,vI a0.ValLen,vI a0.Fan]) (Qh (S.blk 0 rfl) ty23 rfl (QI rfl) rfl rfl) rfl ?_)))))
 obtain ⟨t4,ht5,H⟩:=QX H
 refine YJ fn45 (Xc.con k M a0 t4  ht5) S rfl rfl (by rintro _ _ _ ⟨_,rfl⟩; exact Qd) ?_
 rintro _ w6 _ Γ' E' S ⟨rfl,rfl⟩
 replace E:=E.trans E'
 refine W_v (.bool t4) (QC rfl) rfl ?_
 refine ZI 6 (fun ρ w'=>Qs ρ [(1,.slice A1 a1.length c1),(13,.bool (t4 && (decide ((a1.length:Int) ≤ a0.Tasks))))] ∧ w6 = w') ?_ ?_
 ·rcases Qw t4 with hb7 | hb7
  ·skip
   refine Qk (skT hb7) rfl (Qk (skT hb7) rfl (Qk (skT hb7) rfl (Qk (skT hb7) rfl (Qk (skT hb7) rfl (W_v (.bool false) (QZ (k:=false) (congrArg Value.bool hb7) rfl) rfl (QB ?_))))))
   exact ⟨⟨rfl,(by first | rfl | (rw [hb7]; rfl) | (simp only [hb7]; rfl)),trivial⟩,rfl⟩
  ·skip
   refine QU (congrArg some hb7) (W_v (.slice A1 a1.length c1) (QC rfl) rfl (QU (congrArg some hb7) (W_v (vI (a1.length:Int)) (Qt (n:=a1.length) Tryd.underlying24 rfl) rfl (QU (congrArg some hb7) (W_v (pt b1 0) (QF (o:=0) (off:=0) Tryd.underlying23 rfl ty3 rfl rfl) rfl (QU (congrArg some hb7) (W_v (vI a0.Tasks) (QR (S.blk 0 rfl) ty3 rfl rfl) rfl (QU (congrArg some hb7) (W_v (.bool (decide ((a1.length:Int) ≤ a0.Tasks))) (QT rfl rfl rfl rfl) rfl (W_v (.bool (decide ((a1.length:Int) ≤ a0.Tasks))) (QZ (k:=true) (congrArg Value.bool hb7) rfl) rfl (QB ?_)))))))))))
   exact ⟨⟨rfl,(by first | rfl | (rw [hb7]; rfl) | (simp only [hb7]; rfl)),trivial⟩,rfl⟩
 rintro ρ _ ⟨hρ,rfl⟩
 rw [QN hρ]
 refine W_v (.bool (t4 && (decide ((a1.length:Int) ≤ a0.Tasks)))) (QC rfl) rfl ?_
 obtain ⟨o20,o20h,o20H⟩:=QX H
 refine ZI 4 (fun ρ w'=>∃ (x19:Bool),(x19) = o20 ∧ Qs ρ [(18,.bool x19)] ∧ Ext w w' ∧ St w' M F []) ?_ ?_
 ·have H:=o20h
  rcases Zh H with ⟨hb18,H⟩ | ⟨hb18,H⟩
  ·skip
   refine QU (congrArg some hb18) (W_v (.slice A1 a1.length c1) (QC rfl) rfl (QU (congrArg some hb18) ?_))
   obtain ⟨t21,ht22,H⟩:=QX H
   refine Z2 fn46 (ZF.con k M A1 c1 a1 t21 hr1 ht22) (Γ1:=[]) (Γ2:=[_]) S rfl rfl (by rintro _ _ _ ⟨rfl,rfl⟩; exact Qd) ?_
   rintro _ w23 _ Γ' E' S ⟨rfl,rfl⟩
   replace E:=E.trans E'
   replace S:St w23 M F [_]:=S
   refine QU (congrArg some hb18) (W_v (.bool (!t21)) (Yx (b:=t21) rfl) rfl (W_v (.bool (!t21)) (QZ (k:=true) (congrArg Value.bool hb18) rfl) rfl (QB ?_)))
   exact ⟨(!t21),Option.some.inj H,⟨rfl,trivial⟩,E,S.pick [] (by decide)⟩
  ·skip
   refine Qk (skT hb18) rfl (Qk (skT hb18) rfl (Qk (skT hb18) rfl (W_v (.bool false) (QZ (k:=false) (congrArg Value.bool hb18) rfl) rfl (QB ?_))))
   exact ⟨false,Option.some.inj H,⟨rfl,trivial⟩,E,S.pick [] (by decide)⟩
 rintro ρ w26 ⟨x19,rfl,hρ,E,S⟩
 rw [QN hρ]
 have H:=o20H
 refine W_v (.bool x19) (QD rfl) rfl (QB (tn ?_))
 refine QY ?_
 obtain rfl:=Option.some.inj H
 exact ⟨_,_,_,fun w1 e1=>QO (vs:=[.bool x19]) (FA.cons (rfl) (FA.nil)),HM,E,S.pick [] (by decide),⟨rfl,rfl⟩⟩
def Zc (a0:(List Qu)) (a1:(List Qu)):Nat → Int → Option ((Bool) ⊕ (Unit))
 | 0,_=>none
 | k + 1,x92=>(if (decide (x92 < (a0.length:Int))) = true then (if 0 ≤ x92 ∧ x92 < (a0.length:Int) then (if 0 ≤ x92 ∧ x92 < (a1.length:Int) then (if (!(((rd a0 x92).Key == (rd a1 x92).Key) && ((rd a0 x92).Value == (rd a1 x92).Value))) = true then some (.inl false) else Zc a0 a1 k (IntKind.i64.wrap (x92 + (1:Int)))) else none) else none) else some (.inr ()))
theorem Zc.mono {a0:(List Qu)} {a1:(List Qu)}:∀ {kl:Nat} {x0},OLe (Zc a0 a1 kl x0) (Zc a0 a1 (kl + 1) x0):=by
 intro kl
 induction kl with
 | zero=>intros; exact OLe.none
 | succ kl ih =>
  intros
  rw [Zc.eq_2,Zc.eq_2]
  exact mo
def Zj (k:Nat) (a0:(List Qu)) (a1:(List Qu)):Option (Bool) :=
 (if ((a0.length:Int) != (a1.length:Int)) = true then some false else (Option.bind (Zc a0 a1 k (0:Int)) (fun o137o=>Sum.elim (fun r'=>some r') (fun _=>some true) o137o)))
theorem Zj.mono {k:Nat} {a0:(List Qu)} {a1:(List Qu)}:OLe (Zj k a0 a1) (Zj (k + 1) a0 a1):=by
 unfold Zj
 have m1:=@Zc.mono
 exact mo
theorem Zj.con (k:Nat) (M:Hp) (A0:Option Addr) (c0:Nat) (a0:(List Qu)) (A1:Option Addr) (c1:Nat) (a1:(List Qu)) (r:Bool) (hr0:SlR Qr M (.slice A0 a0.length c0) a0) (hr1:SlR Qr M (.slice A1 a1.length c1) a1) (h:Zj k a0 a1 = some r):Con Tryd.prog 44 #[.slice A0 a0.length c0,.slice A1 a1.length c1] M [] (fun v M' Γ'=>v = .bool r ∧ Γ' = []):=by
 refine Qa Tryd.func44 rfl Tryd.ntmps44 Tryd.results44 rfl ?_
 intro w F rn S hrn
 have E:=Ext.refl w
 have HM:=Hp.le_refl M
 have H:=h
 unfold Zj at H
 refine QE (QA (W_v (.bool false) (QD rfl) rfl (QB (tn (QE (QE (QA (W_v (.slice A0 a0.length c0) (QC rfl) rfl (W_v (vI (a0.length:Int)) (Qt (n:=a0.length) Tryd.underlying32 rfl) rfl (W_v (.slice A1 a1.length c1) (QC rfl) rfl (W_v (vI (a1.length:Int)) (Qt (n:=a1.length) Tryd.underlying32 rfl) rfl (W_v (.bool ((a0.length:Int) != (a1.length:Int))) (QT rfl rfl rfl rfl) rfl (QB (tn ?_))))))))))))))
 rcases Zh H with ⟨hb1,H⟩ | ⟨hb1,H⟩
 ·refine QL (congrArg Value.bool hb1) ?_
  refine QE (QA (W_v (.bool false) (QD rfl) rfl (QB (tn ?_))))
  refine QY ?_
  refine tr (?_)
  obtain rfl:=Option.some.inj H
  exact ⟨_,_,_,fun w1 e1=>QO (vs:=[.bool false]) (FA.cons (rfl) (FA.nil)),HM,E,S.pick [] (by decide),⟨rfl,rfl⟩⟩
 refine QJ (congrArg Value.bool hb1) (Qg (tn (QE (QE (QA (W_v (.slice A0 a0.length c0) (QC rfl) rfl (W_v (vI (a0.length:Int)) (Qt (n:=a0.length) Tryd.underlying32 rfl) rfl (W_v (vI 0) (QC rfl) rfl (QB (tn ?_))))))))))
 obtain ⟨o137,o137h,o137H⟩:=QX H
 refine Ya (fun ρ w'=>.inr () = o137 ∧ Qs ρ [] ∧ Ext w w' ∧ St w' M F []) ?_ ?_
 ·skip
  refine Y0 (fun n ρ w'=>∃ (x92:Int),Zc a0 a1 n x92 = some o137 ∧ Qs ρ [(0,.slice A0 a0.length c0),(1,.slice A1 a1.length c1),(12,vI (a0.length:Int)),(13,vI x92)] ∧ Ext w w' ∧ St w' M F []) k ?_ ?_
  ·skip
   exact ⟨(0:Int),o137h,⟨rfl,rfl,rfl,rfl,trivial⟩,E,S.pick [] (by decide)⟩
  ·intro n
   rintro ρ w138 ⟨x92,H,hρ,E,S⟩
   rw [QN hρ]
   cases n with
   | zero=>cases H
   | succ k =>
    rw [Zc.eq_2] at H
    refine QE (QA (W_v (.bool (decide (x92 < (a0.length:Int)))) (QT rfl rfl rfl rfl) rfl (QB (tn (QE ?_)))))
    rcases Zh H with ⟨hb139,H⟩ | ⟨hb139,H⟩
    ·refine QL (congrArg Value.bool hb139) ?_
     refine Qg (tn (QE ?_))
     refine Z0 ?_
     refine QE (QA (W_v (vI x92) (QC rfl) rfl (W_v (vI x92) (QD rfl) rfl (QB (tn (QE ?_))))))
     refine Ql (S:=fun w'=>∃ Mx,M.le Mx ∧ St w' Mx F []) (L:=9) mixed ?_
     intro w160 hw161 E'
     replace S:=S.heap hw161
     replace E:=E.trans E'
     have D1:∃ Mx,Hp.le M Mx ∧ St _ Mx F []:=⟨_,Hp.le_refl _,S.pick [] (by decide)⟩
     refine Wt 0 rfl rfl rfl (.slice A0 a0.length c0) rfl (fun w' h'=>QC rfl) D1 (Wt 1 rfl rfl rfl (vI x92) rfl (fun w' h'=>QC rfl) D1 ?_)
     obtain ⟨⟨p162,p163⟩,H⟩:=Zt H
     obtain ⟨b164,o165,cs166,_,_,ee171,hb167,vs168,hR169,hc170⟩:=SlW.at' hr0 p162 p163
     obtain rfl:vs168 = _:=hR169
     refine Wt 2 rfl rfl rfl (.pointer (some ⟨b164,o165 + x92.toNat * 2,none⟩)) rfl (fun w' h'=>Qe Tryd.underlying32 ty72 (slA ee171) rfl p162 p163) D1 (Wt 3 rfl rfl rfl (.agg #[vS ((rd a0 x92).Key),vS ((rd a0 x92).Value)]) rfl (fun w' h'=>Qh (Y5 h' hb167) ty72 rfl (XC hc170 0 rfl) rfl rfl) D1 (Wt 4 rfl rfl rfl (.slice A1 a1.length c1) rfl (fun w' h'=>QC rfl) D1 (Wt 5 rfl rfl rfl (vI x92) rfl (fun w' h'=>QC rfl) D1 ?_)))
     obtain ⟨⟨p172,p173⟩,H⟩:=Zt H
     obtain ⟨b174,o175,cs176,_,_,ee181,hb177,vs178,hR179,hc180⟩:=SlW.at' hr1 p172 p173
     obtain rfl:vs178 = _:=hR179
     refine Wt 6 rfl rfl rfl (.pointer (some ⟨b174,o175 + x92.toNat * 2,none⟩)) rfl (fun w' h'=>Qe Tryd.underlying32 ty72 (slA ee181) rfl p172 p173) D1 (Wt 7 rfl rfl rfl (.agg #[vS ((rd a1 x92).Key),vS ((rd a1 x92).Value)]) rfl (fun w' h'=>Qh (Y5 h' hb177) ty72 rfl (XC hc180 0 rfl) rfl rfl) D1 (Wt 8 rfl rfl rfl (.bool (!(((rd a0 x92).Key == (rd a1 x92).Key) && ((rd a0 x92).Value == (rd a1 x92).Value)))) rfl (fun w' h'=>Uq (en72 _ _ _ _) rfl (eq72 _ ((rd a0 x92).Key) ((rd a0 x92).Value) ((rd a1 x92).Key) ((rd a1 x92).Value))) D1 ?_))
     refine Wz ?_
     refine tn ?_
     rcases Zh H with ⟨hb182,H⟩ | ⟨hb182,H⟩
     ·refine QL (congrArg Value.bool hb182) ?_
      refine QE (QA (W_v (.bool false) (QD rfl) rfl (QB (tn ?_))))
      refine QY ?_
      refine br (tr (tr (br (tr (tr (?_))))))
      obtain rfl:=Option.some.inj H
      have H:=o137H
      replace H:=elimL H
      obtain rfl:=Option.some.inj H
      exact ⟨_,_,_,fun w1 e1=>QO (vs:=[.bool false]) (FA.cons (rfl) (FA.nil)),HM,E,S.pick [] (by decide),⟨rfl,rfl⟩⟩
     refine QJ (congrArg Value.bool hb182) (Qg (bn (tn (QA (W_v (vI (IntKind.i64.wrap (x92 + (1:Int)))) (QT rfl rfl rfl rfl) rfl (W_v (vI (IntKind.i64.wrap (x92 + (1:Int)))) (QC rfl) rfl (QB (tn ?_))))))))
     exact ⟨k,Nat.lt_succ_self k,⟨(IntKind.i64.wrap (x92 + (1:Int))),H,⟨rfl,rfl,rfl,rfl,trivial⟩,E,S.pick [] (by decide)⟩⟩
    refine QJ (congrArg Value.bool hb139) ?_
    refine Yo ?_
    refine tx (tx (bsm (?_)))
    refine tn ?_
    exact ⟨Option.some.inj H,trivial,E,S.pick [] (by decide)⟩
 rintro ρ w183 ⟨rfl,hρ,E,S⟩
 rw [QN hρ]
 have H:=o137H
 replace H:=elimR H
 refine tn ?_
 as_aux_lemma =>
 refine QE (QA (W_v (.bool true) (QD rfl) rfl (QB (tn ?_))))
 refine QY ?_
 obtain rfl:=Option.some.inj H
 exact ⟨_,_,_,fun w1 e1=>QO (vs:=[.bool true]) (FA.cons (rfl) (FA.nil)),HM,E,S.pick [] (by decide),⟨rfl,rfl⟩⟩
def Y4 (k:Nat) (a0:Qf) (a1:Qf):Option (Bool) :=
 (Option.bind (α:=Bool) (if (((a0.Err == a1.Err) && (a0.Found == a1.Found)) && (sbin .eql a0.Value a1.Value)) = true then (Option.bind (Zj k a0.Pairs a1.Pairs) (fun t18=>some (t18))) else some (false)) (fun x16=>some x16))
theorem Y4.mono {k:Nat} {a0:Qf} {a1:Qf}:OLe (Y4 k a0 a1) (Y4 (k + 1) a0 a1):=by
 unfold Y4
 have m1:=@Zj.mono
 exact mo
theorem Y4.con (k:Nat) (M:Hp) (A0_0:Option Addr) (c0_0:Nat) (a0:Qf) (A1_0:Option Addr) (c1_0:Nat) (a1:Qf) (r:Bool) (hr0_0:SlR Qr M (.slice A0_0 a0.Pairs.length c0_0) a0.Pairs) (hr1_0:SlR Qr M (.slice A1_0 a1.Pairs.length c1_0) a1.Pairs) (h:Y4 k a0 a1 = some r):Con Tryd.prog 12 #[.agg #[vI a0.Err,.bool a0.Found,vS a0.Value,.slice A0_0 a0.Pairs.length c0_0],.agg #[vI a1.Err,.bool a1.Found,vS a1.Value,.slice A1_0 a1.Pairs.length c1_0]] M [] (fun v M' Γ'=>v = .bool r ∧ Γ' = []):=by
 refine Qa Tryd.func12 rfl Tryd.ntmps12 Tryd.results12 rfl ?_
 intro w F rn S hrn
 have E:=Ext.refl w
 have HM:=Hp.le_refl M
 have H:=h
 unfold Y4 at H
 refine QE (QA ?_)
 refine YO S #[vI a0.Err,.bool a0.Found,vS a0.Value,.slice A0_0 a0.Pairs.length c0_0] rfl rfl rfl ?_
 intro b1 w2 E' S
 replace E:=E.trans E'
 refine YO S #[vI a1.Err,.bool a1.Found,vS a1.Value,.slice A1_0 a1.Pairs.length c1_0] rfl rfl rfl ?_
 intro b4 w5 E' S
 replace E:=E.trans E'
 refine W_v (.bool false) (QD rfl) rfl (QB (tn (QE (QA (W_v (pt b1 0) (QF (o:=0) (off:=0) Tryd.underlying34 rfl ty28 rfl rfl) rfl (W_v (vI a0.Err) (QR (S.blk 1 rfl) ty28 rfl rfl) rfl (W_v (pt b4 0) (QF (o:=0) (off:=0) Tryd.underlying34 rfl ty28 rfl rfl) rfl (W_v (vI a1.Err) (QR (S.blk 0 rfl) ty28 rfl rfl) rfl (W_v (.bool (a0.Err == a1.Err)) (QT rfl rfl rfl rfl) rfl (W_v (.bool (a0.Err == a1.Err)) (QC rfl) rfl ?_))))))))))
 refine ZI 6 (fun ρ w'=>Qs ρ [(2,pt b1 0),(3,pt b4 0),(16,.bool ((a0.Err == a1.Err) && (a0.Found == a1.Found)))] ∧ w5 = w') ?_ ?_
 ·rcases Qw (a0.Err == a1.Err) with hb7 | hb7
  ·skip
   refine Qk (skT hb7) rfl (Qk (skT hb7) rfl (Qk (skT hb7) rfl (Qk (skT hb7) rfl (Qk (skT hb7) rfl (W_v (.bool false) (QZ (k:=false) (congrArg Value.bool hb7) rfl) rfl (QB ?_))))))
   exact ⟨⟨rfl,rfl,(by first | rfl | (rw [hb7]; rfl) | (simp only [hb7]; rfl)),trivial⟩,rfl⟩
  ·skip
   refine QU (congrArg some hb7) (W_v (pt b1 1) (QF (o:=0) (off:=1) Tryd.underlying34 rfl ty4 rfl rfl) rfl (QU (congrArg some hb7) (W_v (.bool a0.Found) (QR (S.blk 1 rfl) ty4 rfl rfl) rfl (QU (congrArg some hb7) (W_v (pt b4 1) (QF (o:=0) (off:=1) Tryd.underlying34 rfl ty4 rfl rfl) rfl (QU (congrArg some hb7) (W_v (.bool a1.Found) (QR (S.blk 0 rfl) ty4 rfl rfl) rfl (QU (congrArg some hb7) (W_v (.bool (a0.Found == a1.Found)) (Jf Tryd.underlying4 rfl rfl) rfl (W_v (.bool (a0.Found == a1.Found)) (QZ (k:=true) (congrArg Value.bool hb7) rfl) rfl (QB ?_)))))))))))
   exact ⟨⟨rfl,rfl,(by first | rfl | (rw [hb7]; rfl) | (simp only [hb7]; rfl)),trivial⟩,rfl⟩
 as_aux_lemma =>
 rintro ρ _ ⟨hρ,rfl⟩
 rw [QN hρ]
 refine W_v (.bool ((a0.Err == a1.Err) && (a0.Found == a1.Found))) (QC rfl) rfl ?_
 refine ZI 6 (fun ρ w'=>Qs ρ [(2,pt b1 0),(3,pt b4 0),(23,.bool (((a0.Err == a1.Err) && (a0.Found == a1.Found)) && (sbin .eql a0.Value a1.Value)))] ∧ w5 = w') ?_ ?_
 ·rcases Qw ((a0.Err == a1.Err) && (a0.Found == a1.Found)) with hb8 | hb8
  ·skip
   refine Qk (skT hb8) rfl (Qk (skT hb8) rfl (Qk (skT hb8) rfl (Qk (skT hb8) rfl (Qk (skT hb8) rfl (W_v (.bool false) (QZ (k:=false) (congrArg Value.bool hb8) rfl) rfl (QB ?_))))))
   exact ⟨⟨rfl,rfl,(by first | rfl | (rw [hb8]; rfl) | (simp only [hb8]; rfl)),trivial⟩,rfl⟩
  ·skip
   refine QU (congrArg some hb8) (W_v (pt b1 2) (QF (o:=0) (off:=2) Tryd.underlying34 rfl ty9 rfl rfl) rfl (QU (congrArg some hb8) (W_v (vS a0.Value) (QR (S.blk 1 rfl) ty9 rfl rfl) rfl (QU (congrArg some hb8) (W_v (pt b4 2) (QF (o:=0) (off:=2) Tryd.underlying34 rfl ty9 rfl rfl) rfl (QU (congrArg some hb8) (W_v (vS a1.Value) (QR (S.blk 0 rfl) ty9 rfl rfl) rfl (QU (congrArg some hb8) (W_v (.bool (sbin .eql a0.Value a1.Value)) (UJ rfl rfl rfl) rfl (W_v (.bool (sbin .eql a0.Value a1.Value)) (QZ (k:=true) (congrArg Value.bool hb8) rfl) rfl (QB ?_)))))))))))
   exact ⟨⟨rfl,rfl,(by first | rfl | (rw [hb8]; rfl) | (simp only [hb8]; rfl)),trivial⟩,rfl⟩
 as_aux_lemma =>
 rintro ρ _ ⟨hρ,rfl⟩
 rw [QN hρ]
 refine W_v (.bool (((a0.Err == a1.Err) && (a0.Found == a1.Found)) && (sbin .eql a0.Value a1.Value))) (QC rfl) rfl ?_
 obtain ⟨o17,o17h,o17H⟩:=QX H
 refine ZI 6 (fun ρ w'=>∃ (x16:Bool),(x16) = o17 ∧ Qs ρ [(30,.bool x16)] ∧ Ext w w' ∧ St w' M F []) ?_ ?_
 ·have H:=o17h
  rcases Zh H with ⟨hb15,H⟩ | ⟨hb15,H⟩
  ·skip
   refine QU (congrArg some hb15) (W_v (pt b1 3) (QF (o:=0) (off:=3) Tryd.underlying34 rfl ty32 rfl rfl) rfl (QU (congrArg some hb15) (W_v (.slice A0_0 a0.Pairs.length c0_0) (QR (S.blk 1 rfl) ty32 rfl rfl) rfl (QU (congrArg some hb15) (W_v (pt b4 3) (QF (o:=0) (off:=3) Tryd.underlying34 rfl ty32 rfl rfl) rfl (QU (congrArg some hb15) (W_v (.slice A1_0 a1.Pairs.length c1_0) (QR (S.blk 0 rfl) ty32 rfl rfl) rfl (QU (congrArg some hb15) ?_))))))))
   obtain ⟨t18,ht19,H⟩:=QX H
   refine YJ fn44 (Zj.con k M A0_0 c0_0 a0.Pairs A1_0 c1_0 a1.Pairs t18 hr0_0 hr1_0 ht19) S rfl rfl (by rintro _ _ _ ⟨_,rfl⟩; exact Qd) ?_
   rintro _ w20 _ Γ' E' S ⟨rfl,rfl⟩
   replace E:=E.trans E'
   refine W_v (.bool t18) (QZ (k:=true) (congrArg Value.bool hb15) rfl) rfl (QB ?_)
   exact ⟨t18,Option.some.inj H,⟨rfl,trivial⟩,E,S.pick [] (by decide)⟩
  ·skip
   refine Qk (skT hb15) rfl (Qk (skT hb15) rfl (Qk (skT hb15) rfl (Qk (skT hb15) rfl (Qk (skT hb15) rfl (W_v (.bool false) (QZ (k:=false) (congrArg Value.bool hb15) rfl) rfl (QB ?_))))))
   exact ⟨false,Option.some.inj H,⟨rfl,trivial⟩,E,S.pick [] (by decide)⟩
 rintro ρ w21 ⟨x16,rfl,hρ,E,S⟩
 rw [QN hρ]
 have H:=o17H
 refine W_v (.bool x16) (QD rfl) rfl (QB (tn ?_))
 refine QY ?_
 obtain rfl:=Option.some.inj H
 exact ⟨_,_,_,fun w1 e1=>QO (vs:=[.bool x16]) (FA.cons (rfl) (FA.nil)),HM,E,S.pick [] (by decide),⟨rfl,rfl⟩⟩
def Xj (k:Nat) (a0:Int):Option (Bool) :=
 some (((a0 != (1:Int)) && (a0 != (8:Int))) && (a0 != (9:Int)))
theorem Xj.mono {k:Nat} {a0:Int}:OLe (Xj k a0) (Xj (k + 1) a0):=by
 unfold Xj
 exact mo
theorem Xj.con (k:Nat) (M:Hp) (a0:Int) (r:Bool)  (h:Xj k a0 = some r):Con Tryd.prog 66 #[vU a0] M [] (fun v M' Γ'=>v = .bool r ∧ Γ' = []):=by
 refine Qa Tryd.func66 rfl Tryd.ntmps66 Tryd.results66 rfl ?_
 intro w F rn S hrn
 have E:=Ext.refl w
 have HM:=Hp.le_refl M
 have H:=h
 unfold Xj at H
 refine QE (QA (W_v (.bool false) (QD rfl) rfl (QB (tn (QE (QA (W_v (vU a0) (QC rfl) rfl (W_v (.bool (a0 != (1:Int))) (QT rfl rfl rfl rfl) rfl (W_v (.bool (a0 != (1:Int))) (QC rfl) rfl ?_)))))))))
 refine ZI 3 (fun ρ w'=>Qs ρ [(0,vU a0),(8,.bool ((a0 != (1:Int)) && (a0 != (8:Int))))] ∧ w = w') ?_ ?_
 ·rcases Qw (a0 != (1:Int)) with hb1 | hb1
  ·skip
   refine Qk (skT hb1) rfl (Qk (skT hb1) rfl (W_v (.bool false) (QZ (k:=false) (congrArg Value.bool hb1) rfl) rfl (QB ?_)))
   exact ⟨⟨rfl,(by first | rfl | (rw [hb1]; rfl) | (simp only [hb1]; rfl)),trivial⟩,rfl⟩
  ·skip
   refine QU (congrArg some hb1) (W_v (vU a0) (QC rfl) rfl (QU (congrArg some hb1) (W_v (.bool (a0 != (8:Int))) (QT rfl rfl rfl rfl) rfl (W_v (.bool (a0 != (8:Int))) (QZ (k:=true) (congrArg Value.bool hb1) rfl) rfl (QB ?_)))))
   exact ⟨⟨rfl,(by first | rfl | (rw [hb1]; rfl) | (simp only [hb1]; rfl)),trivial⟩,rfl⟩
 rintro ρ _ ⟨hρ,rfl⟩
 rw [QN hρ]
 refine W_v (.bool ((a0 != (1:Int)) && (a0 != (8:Int)))) (QC rfl) rfl ?_
 refine ZI 3 (fun ρ w'=>Qs ρ [(12,.bool (((a0 != (1:Int)) && (a0 != (8:Int))) && (a0 != (9:Int))))] ∧ w = w') ?_ ?_
 ·rcases Qw ((a0 != (1:Int)) && (a0 != (8:Int))) with hb2 | hb2
  ·skip
   refine Qk (skT hb2) rfl (Qk (skT hb2) rfl (W_v (.bool false) (QZ (k:=false) (congrArg Value.bool hb2) rfl) rfl (QB ?_)))
   exact ⟨⟨(by first | rfl | (rw [hb2]; rfl) | (simp only [hb2]; rfl)),trivial⟩,rfl⟩
  ·skip
   refine QU (congrArg some hb2) (W_v (vU a0) (QC rfl) rfl (QU (congrArg some hb2) (W_v (.bool (a0 != (9:Int))) (QT rfl rfl rfl rfl) rfl (W_v (.bool (a0 != (9:Int))) (QZ (k:=true) (congrArg Value.bool hb2) rfl) rfl (QB ?_)))))
   exact ⟨⟨(by first | rfl | (rw [hb2]; rfl) | (simp only [hb2]; rfl)),trivial⟩,rfl⟩
 rintro ρ _ ⟨hρ,rfl⟩
 rw [QN hρ]
 refine W_v (.bool (((a0 != (1:Int)) && (a0 != (8:Int))) && (a0 != (9:Int)))) (QD rfl) rfl (QB (tn ?_))
 refine QY ?_
 obtain rfl:=Option.some.inj H
 exact ⟨_,_,_,fun w1 e1=>QO (vs:=[.bool (((a0 != (1:Int)) && (a0 != (8:Int))) && (a0 != (9:Int)))]) (FA.cons (rfl) (FA.nil)),HM,E,S.pick [] (by decide),⟨rfl,rfl⟩⟩
def Yl (k:Nat) (a0:Qo) (a1:Int) (a2:Int):Option (Unit) :=
 some ()
theorem Yl.mono {k:Nat} {a0:Qo} {a1:Int} {a2:Int}:OLe (Yl k a0 a1 a2) (Yl (k + 1) a0 a1 a2):=by
 unfold Yl
 exact mo
theorem Yl.con (k:Nat) (M:Hp) (a0:Qo) (a1:Int) (a2:Int) (r:Unit)  (h:Yl k a0 a1 a2 = some r):Con Tryd.prog 83 #[.agg #[vI a0.Tasks,vI a0.Active,vI a0.Keys,vI a0.Depth,vI a0.TS,vI a0.KeyLen,vI a0.ValLen,vI a0.Fan],vI a1,vI a2] M [] (fun v M' Γ'=>∃ (bq1:Nat) (bq3:Nat) (bq5:Nat),v = .func (.func 94) #[] #[pt bq1 0,pt bq3 0,pt bq5 0] ∧ Γ' = [B23 bq1 a0,Blk bq3 (.cells #[vI a1] 3 (0,0)),Blk bq5 (.cells #[vI a2] 3 (0,0))]):=by
 refine Qa Tryd.func83 rfl Tryd.ntmps83 Tryd.results83 rfl ?_
 intro w F rn S hrn
 have E:=Ext.refl w
 have HM:=Hp.le_refl M
 have H:=h
 unfold Yl at H
 refine QE (QA ?_)
 refine YO S #[vI a0.Tasks,vI a0.Active,vI a0.Keys,vI a0.Depth,vI a0.TS,vI a0.KeyLen,vI a0.ValLen,vI a0.Fan] rfl rfl rfl ?_
 intro b1 w2 E' S
 replace E:=E.trans E'
 refine YO S #[vI a1] rfl rfl rfl ?_
 intro b4 w5 E' S
 replace E:=E.trans E'
 refine YO S #[vI a2] rfl rfl rfl ?_
 intro b7 w8 E' S
 replace E:=E.trans E'
 refine W_v (.nilFunc) (QD rfl) rfl (QB (tn (QE (QA (W_v (.func (.func 94) #[] #[pt b1 0,pt b4 0,pt b7 0]) (Xz rfl) rfl (W_v (.func (.func 94) #[] #[pt b1 0,pt b4 0,pt b7 0]) (QD rfl) rfl (QB (tn ?_))))))))
 refine QY ?_
 obtain rfl:=Option.some.inj H
 exact ⟨_,_,_,fun w1 e1=>QO (vs:=[.func (.func 94) #[] #[pt b1 0,pt b4 0,pt b7 0]]) (FA.cons (rfl) (FA.nil)),HM,E,S.pick [2,1,0] (by decide),⟨b1,b4,b7,rfl,rfl⟩⟩
def Ym (k:Nat) (a0:Str) (ac_0:Qo) (ac_1:Int) (ac_2:Int):Option (Bool) :=
 (Option.bind (Xc k ac_0) (fun t1=>some ((t1 && (decide ((a0.length:Int) ≥ ac_1))) && (decide ((a0.length:Int) ≤ ac_2)))))
theorem Ym.mono {k:Nat} {a0:Str} {ac_0:Qo} {ac_1:Int} {ac_2:Int}:OLe (Ym k a0 ac_0 ac_1 ac_2) (Ym (k + 1) a0 ac_0 ac_1 ac_2):=by
 unfold Ym
 have m1:=@Xc.mono
 exact mo
theorem Ym.con (k:Nat) (M:Hp) (a0:Str) (ac_0:Qo) (ac_1:Int) (ac_2:Int) (bc_0:Nat) (bc_1:Nat) (bc_2:Nat) (r:Bool)  (h:Ym k a0 ac_0 ac_1 ac_2 = some r):Con Tryd.prog 94 #[vS a0,pt bc_0 0,pt bc_1 0,pt bc_2 0] M [B23 bc_0 ac_0,Blk bc_1 (.cells #[vI ac_1] 3 (0,0)),Blk bc_2 (.cells #[vI ac_2] 3 (0,0))] (fun v M' Γ'=>v = .bool r ∧ Γ' = [B23 bc_0 ac_0,Blk bc_1 (.cells #[vI ac_1] 3 (0,0)),Blk bc_2 (.cells #[vI ac_2] 3 (0,0))]):=by
 refine Qa Tryd.func94 rfl Tryd.ntmps94 Tryd.results94 rfl ?_
 intro w F rn S hrn
 have E:=Ext.refl w
 have HM:=Hp.le_refl M
 have H:=h
 unfold Ym at H
 refine QE (QA (W_v (.bool false) (QD rfl) rfl (QB (tn (QE (QA (W_v (.agg #[vI ac_0.Tasks,vI ac_0.Active,vI ac_0.Keys,vI ac_0.Depth,vI ac_0.TS,vI ac_0.KeyLen,vI ac_0.ValLen,vI ac_0.Fan]) (Qh (S.blk 0 rfl) ty23 rfl (QI rfl) rfl rfl) rfl ?_)))))))
 obtain ⟨t1,ht2,H⟩:=QX H
 refine YJ fn45 (Xc.con k M ac_0 t1  ht2) S rfl rfl (by rintro _ _ _ ⟨_,rfl⟩; exact Qd) ?_
 rintro _ w3 _ Γ' E' S ⟨rfl,rfl⟩
 replace E:=E.trans E'
 refine W_v (.bool t1) (QC rfl) rfl ?_
 refine ZI 5 (fun ρ w'=>Qs ρ [(0,vS a0),(3,pt bc_2 0),(13,.bool (t1 && (decide ((a0.length:Int) ≥ ac_1))))] ∧ w3 = w') ?_ ?_
 ·rcases Qw t1 with hb4 | hb4
  ·skip
   refine Qk (skT hb4) rfl (Qk (skT hb4) rfl (Qk (skT hb4) rfl (Qk (skT hb4) rfl (W_v (.bool false) (QZ (k:=false) (congrArg Value.bool hb4) rfl) rfl (QB ?_)))))
   exact ⟨⟨rfl,rfl,(by first | rfl | (rw [hb4]; rfl) | (simp only [hb4]; rfl)),trivial⟩,rfl⟩
  ·skip
   refine QU (congrArg some hb4) (W_v (vS a0) (QC rfl) rfl (QU (congrArg some hb4) (W_v (vI (a0.length:Int)) (X6 Tryd.underlying9 rfl) rfl (QU (congrArg some hb4) (W_v (vI ac_1) (QR (S.blk 1 rfl) ty3 rfl rfl) rfl (QU (congrArg some hb4) (W_v (.bool (decide ((a0.length:Int) ≥ ac_1))) (QT rfl rfl rfl rfl) rfl (W_v (.bool (decide ((a0.length:Int) ≥ ac_1))) (QZ (k:=true) (congrArg Value.bool hb4) rfl) rfl (QB ?_)))))))))
   exact ⟨⟨rfl,rfl,(by first | rfl | (rw [hb4]; rfl) | (simp only [hb4]; rfl)),trivial⟩,rfl⟩
 rintro ρ _ ⟨hρ,rfl⟩
 rw [QN hρ]
 refine W_v (.bool (t1 && (decide ((a0.length:Int) ≥ ac_1)))) (QC rfl) rfl ?_
 refine ZI 5 (fun ρ w'=>Qs ρ [(19,.bool ((t1 && (decide ((a0.length:Int) ≥ ac_1))) && (decide ((a0.length:Int) ≤ ac_2))))] ∧ w3 = w') ?_ ?_
 ·rcases Qw (t1 && (decide ((a0.length:Int) ≥ ac_1))) with hb5 | hb5
  ·skip
   refine Qk (skT hb5) rfl (Qk (skT hb5) rfl (Qk (skT hb5) rfl (Qk (skT hb5) rfl (W_v (.bool false) (QZ (k:=false) (congrArg Value.bool hb5) rfl) rfl (QB ?_)))))
   exact ⟨⟨(by first | rfl | (rw [hb5]; rfl) | (simp only [hb5]; rfl)),trivial⟩,rfl⟩
  ·skip
   refine QU (congrArg some hb5) (W_v (vS a0) (QC rfl) rfl (QU (congrArg some hb5) (W_v (vI (a0.length:Int)) (X6 Tryd.underlying9 rfl) rfl (QU (congrArg some hb5) (W_v (vI ac_2) (QR (S.blk 2 rfl) ty3 rfl rfl) rfl (QU (congrArg some hb5) (W_v (.bool (decide ((a0.length:Int) ≤ ac_2))) (QT rfl rfl rfl rfl) rfl (W_v (.bool (decide ((a0.length:Int) ≤ ac_2))) (QZ (k:=true) (congrArg Value.bool hb5) rfl) rfl (QB ?_)))))))))
   exact ⟨⟨(by first | rfl | (rw [hb5]; rfl) | (simp only [hb5]; rfl)),trivial⟩,rfl⟩
 rintro ρ _ ⟨hρ,rfl⟩
 rw [QN hρ]
 refine W_v (.bool ((t1 && (decide ((a0.length:Int) ≥ ac_1))) && (decide ((a0.length:Int) ≤ ac_2)))) (QD rfl) rfl (QB (tn ?_))
 refine QY ?_
 obtain rfl:=Option.some.inj H
 exact ⟨_,_,_,fun w1 e1=>QO (vs:=[.bool ((t1 && (decide ((a0.length:Int) ≥ ac_1))) && (decide ((a0.length:Int) ≤ ac_2)))]) (FA.cons (rfl) (FA.nil)),HM,E,S.pick [0,1,2] (by decide),⟨rfl,rfl⟩⟩
def Xw (k:Nat) (a0:Qo) (a1:Str):Option (Bool) :=
 (Option.bind (Yl k a0 (1:Int) a0.KeyLen) (fun t4=>(Option.bind (Ym k a1 a0 (1:Int) a0.KeyLen) (fun t15=>some t15))))
theorem Xw.mono {k:Nat} {a0:Qo} {a1:Str}:OLe (Xw k a0 a1) (Xw (k + 1) a0 a1):=by
 unfold Xw
 have m1:=@Ym.mono
 have m2:=@Yl.mono
 exact mo
theorem Xw.con (k:Nat) (M:Hp) (a0:Qo) (a1:Str) (r:Bool)  (h:Xw k a0 a1 = some r):Con Tryd.prog 77 #[.agg #[vI a0.Tasks,vI a0.Active,vI a0.Keys,vI a0.Depth,vI a0.TS,vI a0.KeyLen,vI a0.ValLen,vI a0.Fan],vS a1] M [] (fun v M' Γ'=>v = .bool r ∧ Γ' = []):=by
 refine Qa Tryd.func77 rfl Tryd.ntmps77 Tryd.results77 rfl ?_
 intro w F rn S hrn
 have E:=Ext.refl w
 have HM:=Hp.le_refl M
 have H:=h
 unfold Xw at H
 refine QE (QA ?_)
 refine YO S #[vI a0.Tasks,vI a0.Active,vI a0.Keys,vI a0.Depth,vI a0.TS,vI a0.KeyLen,vI a0.ValLen,vI a0.Fan] rfl rfl rfl ?_
 intro b1 w2 E' S
 replace E:=E.trans E'
 refine W_v (.bool false) (QD rfl) rfl (QB (tn (QE (QA (W_v (.agg #[vI a0.Tasks,vI a0.Active,vI a0.Keys,vI a0.Depth,vI a0.TS,vI a0.KeyLen,vI a0.ValLen,vI a0.Fan]) (Qh (S.blk 0 rfl) ty23 rfl (QI rfl) rfl rfl) rfl (W_v (pt b1 5) (QF (o:=0) (off:=5) Tryd.underlying23 rfl ty3 rfl rfl) rfl (W_v (vI a0.KeyLen) (QR (S.blk 0 rfl) ty3 rfl rfl) rfl ?_)))))))
 obtain ⟨t4,ht5,H⟩:=QX H
 refine Z2 fn83 (Yl.con k M a0 (1:Int) a0.KeyLen t4  ht5) (Γ1:=[]) (Γ2:=[_]) S rfl rfl (by rintro _ _ _ ⟨_,_,_,rfl,rfl⟩; exact (QS ZQ (QS ZQ (QS ZQ Qd)))) ?_
 rintro _ w12 _ Γ' E' S ⟨b6,b8,b10,rfl,rfl⟩
 replace E:=E.trans E'
 replace S:St w12 M F [_,_,_,_]:=S
 refine W_v (vS a1) (QC rfl) rfl ?_
 obtain ⟨t15,ht16,H⟩:=QX H
 refine Xl (fs:=[]) (cap:=[pt b6 0,pt b8 0,pt b10 0]) fn94 rfl (Ym.con k M a1 a0 (1:Int) a0.KeyLen b6 b8 b10 t15  ht16) (Γ1:=[_,_,_]) (Γ2:=[_]) S rfl rfl (by rintro _ _ _ ⟨rfl,rfl⟩; exact (QS ZQ (QS ZQ (QS ZQ Qd)))) ?_
 rintro _ w17 _ Γ' E' S ⟨rfl,rfl⟩
 replace E:=E.trans E'
 replace S:St w17 M F [_,_,_,_]:=S
 refine W_v (.bool t15) (QD rfl) rfl (QB (tn ?_))
 refine QY ?_
 obtain rfl:=Option.some.inj H
 exact ⟨_,_,_,fun w1 e1=>QO (vs:=[.bool t15]) (FA.cons (rfl) (FA.nil)),HM,E,S.pick [] (by decide),⟨rfl,rfl⟩⟩
def Xq (k:Nat) (a0:Qo) (a1:Str):Option (Bool) :=
 (Option.bind (Yl k a0 (0:Int) a0.ValLen) (fun t4=>(Option.bind (Ym k a1 a0 (0:Int) a0.ValLen) (fun t15=>some t15))))
theorem Xq.mono {k:Nat} {a0:Qo} {a1:Str}:OLe (Xq k a0 a1) (Xq (k + 1) a0 a1):=by
 unfold Xq
 have m1:=@Ym.mono
 have m2:=@Yl.mono
 exact mo
theorem Xq.con (k:Nat) (M:Hp) (a0:Qo) (a1:Str) (r:Bool)  (h:Xq k a0 a1 = some r):Con Tryd.prog 78 #[.agg #[vI a0.Tasks,vI a0.Active,vI a0.Keys,vI a0.Depth,vI a0.TS,vI a0.KeyLen,vI a0.ValLen,vI a0.Fan],vS a1] M [] (fun v M' Γ'=>v = .bool r ∧ Γ' = []):=by
 refine Qa Tryd.func78 rfl Tryd.ntmps78 Tryd.results78 rfl ?_
 intro w F rn S hrn
 have E:=Ext.refl w
 have HM:=Hp.le_refl M
 have H:=h
 unfold Xq at H
 refine QE (QA ?_)
 refine YO S #[vI a0.Tasks,vI a0.Active,vI a0.Keys,vI a0.Depth,vI a0.TS,vI a0.KeyLen,vI a0.ValLen,vI a0.Fan] rfl rfl rfl ?_
 intro b1 w2 E' S
 replace E:=E.trans E'
 refine W_v (.bool false) (QD rfl) rfl (QB (tn (QE (QA (W_v (.agg #[vI a0.Tasks,vI a0.Active,vI a0.Keys,vI a0.Depth,vI a0.TS,vI a0.KeyLen,vI a0.ValLen,vI a0.Fan]) (Qh (S.blk 0 rfl) ty23 rfl (QI rfl) rfl rfl) rfl (W_v (pt b1 6) (QF (o:=0) (off:=6) Tryd.underlying23 rfl ty3 rfl rfl) rfl (W_v (vI a0.ValLen) (QR (S.blk 0 rfl) ty3 rfl rfl) rfl ?_)))))))
 obtain ⟨t4,ht5,H⟩:=QX H
 refine Z2 fn83 (Yl.con k M a0 (0:Int) a0.ValLen t4  ht5) (Γ1:=[]) (Γ2:=[_]) S rfl rfl (by rintro _ _ _ ⟨_,_,_,rfl,rfl⟩; exact (QS ZQ (QS ZQ (QS ZQ Qd)))) ?_
 rintro _ w12 _ Γ' E' S ⟨b6,b8,b10,rfl,rfl⟩
 replace E:=E.trans E'
 replace S:St w12 M F [_,_,_,_]:=S
 refine W_v (vS a1) (QC rfl) rfl ?_
 obtain ⟨t15,ht16,H⟩:=QX H
 refine Xl (fs:=[]) (cap:=[pt b6 0,pt b8 0,pt b10 0]) fn94 rfl (Ym.con k M a1 a0 (0:Int) a0.ValLen b6 b8 b10 t15  ht16) (Γ1:=[_,_,_]) (Γ2:=[_]) S rfl rfl (by rintro _ _ _ ⟨rfl,rfl⟩; exact (QS ZQ (QS ZQ (QS ZQ Qd)))) ?_
 rintro _ w17 _ Γ' E' S ⟨rfl,rfl⟩
 replace E:=E.trans E'
 replace S:St w17 M F [_,_,_,_]:=S
 refine W_v (.bool t15) (QD rfl) rfl (QB (tn ?_))
 refine QY ?_
 obtain rfl:=Option.some.inj H
 exact ⟨_,_,_,fun w1 e1=>QO (vs:=[.bool t15]) (FA.cons (rfl) (FA.nil)),HM,E,S.pick [] (by decide),⟨rfl,rfl⟩⟩
def Xb (k:Nat) (a0:Qo) (a1:Str):Option (Bool) :=
 (Option.bind (Yl k a0 (0:Int) a0.KeyLen) (fun t4=>(Option.bind (Ym k a1 a0 (0:Int) a0.KeyLen) (fun t15=>some t15))))
theorem Xb.mono {k:Nat} {a0:Qo} {a1:Str}:OLe (Xb k a0 a1) (Xb (k + 1) a0 a1):=by
 unfold Xb
 have m1:=@Ym.mono
 have m2:=@Yl.mono
 exact mo
theorem Xb.con (k:Nat) (M:Hp) (a0:Qo) (a1:Str) (r:Bool)  (h:Xb k a0 a1 = some r):Con Tryd.prog 79 #[.agg #[vI a0.Tasks,vI a0.Active,vI a0.Keys,vI a0.Depth,vI a0.TS,vI a0.KeyLen,vI a0.ValLen,vI a0.Fan],vS a1] M [] (fun v M' Γ'=>v = .bool r ∧ Γ' = []):=by
 refine Qa Tryd.func79 rfl Tryd.ntmps79 Tryd.results79 rfl ?_
 intro w F rn S hrn
 have E:=Ext.refl w
 have HM:=Hp.le_refl M
 have H:=h
 unfold Xb at H
 refine QE (QA ?_)
 refine YO S #[vI a0.Tasks,vI a0.Active,vI a0.Keys,vI a0.Depth,vI a0.TS,vI a0.KeyLen,vI a0.ValLen,vI a0.Fan] rfl rfl rfl ?_
 intro b1 w2 E' S
 replace E:=E.trans E'
 refine W_v (.bool false) (QD rfl) rfl (QB (tn (QE (QA (W_v (.agg #[vI a0.Tasks,vI a0.Active,vI a0.Keys,vI a0.Depth,vI a0.TS,vI a0.KeyLen,vI a0.ValLen,vI a0.Fan]) (Qh (S.blk 0 rfl) ty23 rfl (QI rfl) rfl rfl) rfl (W_v (pt b1 5) (QF (o:=0) (off:=5) Tryd.underlying23 rfl ty3 rfl rfl) rfl (W_v (vI a0.KeyLen) (QR (S.blk 0 rfl) ty3 rfl rfl) rfl ?_)))))))
 obtain ⟨t4,ht5,H⟩:=QX H
 refine Z2 fn83 (Yl.con k M a0 (0:Int) a0.KeyLen t4  ht5) (Γ1:=[]) (Γ2:=[_]) S rfl rfl (by rintro _ _ _ ⟨_,_,_,rfl,rfl⟩; exact (QS ZQ (QS ZQ (QS ZQ Qd)))) ?_
 rintro _ w12 _ Γ' E' S ⟨b6,b8,b10,rfl,rfl⟩
 replace E:=E.trans E'
 replace S:St w12 M F [_,_,_,_]:=S
 refine W_v (vS a1) (QC rfl) rfl ?_
 obtain ⟨t15,ht16,H⟩:=QX H
 refine Xl (fs:=[]) (cap:=[pt b6 0,pt b8 0,pt b10 0]) fn94 rfl (Ym.con k M a1 a0 (0:Int) a0.KeyLen b6 b8 b10 t15  ht16) (Γ1:=[_,_,_]) (Γ2:=[_]) S rfl rfl (by rintro _ _ _ ⟨rfl,rfl⟩; exact (QS ZQ (QS ZQ (QS ZQ Qd)))) ?_
 rintro _ w17 _ Γ' E' S ⟨rfl,rfl⟩
 replace E:=E.trans E'
 replace S:St w17 M F [_,_,_,_]:=S
 refine W_v (.bool t15) (QD rfl) rfl (QB (tn ?_))
 refine QY ?_
 obtain rfl:=Option.some.inj H
 exact ⟨_,_,_,fun w1 e1=>QO (vs:=[.bool t15]) (FA.cons (rfl) (FA.nil)),HM,E,S.pick [] (by decide),⟨rfl,rfl⟩⟩
def XL (k:Nat) (a0:(List Qq)) (a1:Int):Option (Unit) :=
 some ()
theorem XL.mono {k:Nat} {a0:(List Qq)} {a1:Int}:OLe (XL k a0 a1) (XL (k + 1) a0 a1):=by
 unfold XL
 exact mo
theorem XL.con (k:Nat) (M:Hp) (A0:Option Addr) (c0:Nat) (a0:(List Qq)) (a1:Int) (r:Unit) (hr0:SlR YK M (.slice A0 a0.length c0) a0) (h:XL k a0 a1 = some r):Con Tryd.prog 145 #[.slice A0 a0.length c0,vI a1] M [] (fun v M' Γ'=>∃ (bq1:Nat) (bq3:Nat),v = .func (.func 151) #[] #[pt bq1 0,pt bq3 0] ∧ Γ' = [Blk bq1 (.cells #[.slice A0 a0.length c0] 115 (0,0)),Blk bq3 (.cells #[vI a1] 3 (0,0))]):=by
 refine Qa Tryd.func145 rfl Tryd.ntmps145 Tryd.results145 rfl ?_
 intro w F rn S hrn
 have E:=Ext.refl w
 have HM:=Hp.le_refl M
 have H:=h
 unfold XL at H
 refine QE (QA ?_)
 refine YO S #[.slice A0 a0.length c0] rfl rfl rfl ?_
 intro b1 w2 E' S
 replace E:=E.trans E'
 refine YO S #[vI a1] rfl rfl rfl ?_
 intro b4 w5 E' S
 replace E:=E.trans E'
 refine W_v (.nilFunc) (QD rfl) rfl (QB (tn (QE (QA (W_v (.func (.func 151) #[] #[pt b1 0,pt b4 0]) (Xz rfl) rfl (W_v (.func (.func 151) #[] #[pt b1 0,pt b4 0]) (QD rfl) rfl (QB (tn ?_))))))))
 refine QY ?_
 obtain rfl:=Option.some.inj H
 exact ⟨_,_,_,fun w1 e1=>QO (vs:=[.func (.func 151) #[] #[pt b1 0,pt b4 0]]) (FA.cons (rfl) (FA.nil)),HM,E,S.pick [1,0] (by decide),⟨b1,b4,rfl,rfl⟩⟩
def XH {σ ε:Type} (a_0:(List Qq)) (a_1:Int) (bd:Int × Bool → σ → Option (σ ⊕ ε)):Nat → Int → σ ⊕ ε → Option ((σ ⊕ ε) ⊕ ((σ ⊕ ε)))
 | 0,_,_=>none
 | k + 1,x53,x54=>(if (decide (x53 < (a_0.length:Int))) = true then (if 0 ≤ x53 ∧ x53 < (a_0.length:Int) then (Option.bind (toL x54) (fun s99=>Option.bind (bd (x53,(decide ((rd a_0 x53).TS ≤ a_1))) s99) (fun t101=>(if ((!(isNorm t101)) || (decide ((rd a_0 x53).TS ≤ a_1))) = true then some (.inl t101) else XH a_0 a_1 bd k (IntKind.i64.wrap (x53 + (1:Int))) t101)))) else none) else some (.inr (x54)))
theorem XH.mono {σ ε:Type} {a_0:(List Qq)} {a_1:Int} {bd bd':Int × Bool → σ → Option (σ ⊕ ε)} (hbd:∀ x s,OLe (bd x s) (bd' x s)):∀ {kl:Nat} {x0 x1},OLe (XH a_0 a_1 bd kl x0 x1) (XH a_0 a_1 bd' (kl + 1) x0 x1):=by
 intro kl
 induction kl with
 | zero=>intros; exact OLe.none
 | succ kl ih =>
  intros
  rw [XH.eq_2,XH.eq_2]
  repeat' (first | with_reducible exact OLe.none | with_reducible exact OLe.some | with_reducible refine OLe.ite ?_ ?_ | with_reducible refine OLe.bind ?_ (fun _=>?_) | exact OLe.toL | exact hbd _ _ | exact ih | refine OLe.bind ?_ (fun _=>?_) | refine OLe.ite ?_ ?_ | refine OLe.elim (fun _=>?_) (fun _=>?_) | split)
def XM {σ ε:Type} (k:Nat) (a_0:(List Qq)) (a_1:Int) (bd:Int × Bool → σ → Option (σ ⊕ ε)) (s0:σ):Option (σ ⊕ ε) :=
 (Option.bind (XH a_0 a_1 bd k (0:Int) (.inl s0)) (fun o80o=>Sum.elim (fun r'=>some r') (fun x79=>some x79) o80o))
theorem XM.mono {σ ε:Type} {k:Nat} {a_0:(List Qq)} {a_1:Int} {bd bd':Int × Bool → σ → Option (σ ⊕ ε)} (hbd:∀ x s,OLe (bd x s) (bd' x s)) {s0:σ}:OLe (XM k a_0 a_1 bd s0) (XM (k + 1) a_0 a_1 bd' s0):=by
 unfold XM
 repeat' (first | with_reducible exact OLe.none | with_reducible exact OLe.some | with_reducible refine OLe.ite ?_ ?_ | with_reducible refine OLe.bind ?_ (fun _=>?_) | with_reducible exact XH.mono hbd | exact OLe.toL | exact hbd _ _ | refine OLe.bind ?_ (fun _=>?_) | refine OLe.ite ?_ ?_ | refine OLe.elim (fun _=>?_) (fun _=>?_) | split)
theorem XM.con {σ ε:Type} (k:Nat) (M:Hp) (A_0:Option Addr) (c_0:Nat) (a_0:(List Qq)) (a_1:Int) (b_0:Nat) (b_1:Nat) (bd:Int × Bool → σ → Option (σ ⊕ ε)) (s0:σ) (r:σ ⊕ ε) (hr_0:SlR YK M (.slice A_0 a_0.length c_0) a_0) (h:XM k a_0 a_1 bd s0 = some r):Iter Tryd.prog 151 [pt b_0 0,pt b_1 0] M (fun (M:Hp) (x:Int × Bool) (vs:List Value)=>vs = [vI x.1,.bool x.2]) bd s0 r [Blk b_0 (.cells #[.slice A_0 a_0.length c_0] 115 (0,0)),Blk b_1 (.cells #[vI a_1] 3 (0,0))] (fun M' Γ'=>Γ' = [Blk b_0 (.cells #[.slice A_0 a_0.length c_0] 115 (0,0)),Blk b_1 (.cells #[vI a_1] 3 (0,0))]):=by
 intro lp B hY
 refine Qa Tryd.func151 rfl Tryd.ntmps151 Tryd.results151 rfl ?_
 intro w F rn S hrn
 have E:=Ext.refl w
 have HM:=Hp.le_refl M
 have H:=h
 unfold XM at H
 refine QE (QA (W_v (.slice A_0 a_0.length c_0) (QR (S.blk 1 rfl) ty115 rfl rfl) rfl (W_v (vI (a_0.length:Int)) (Qt (n:=a_0.length) Tryd.underlying115 rfl) rfl (W_v (vI 0) (QC rfl) rfl (QB (tn ?_))))))
 obtain ⟨o80,o80h,o80H⟩:=QX H
 refine Ya (fun ρ w'=>∃ (x79:σ ⊕ ε) (Mj:Hp),.inr (x79) = o80 ∧ Qs ρ [] ∧ M.le Mj ∧ Ext w w' ∧ St w' Mj F [Blk b_0 (.cells #[.slice A_0 a_0.length c_0] 115 (0,0)),Blk b_1 (.cells #[vI a_1] 3 (0,0)),B x79]) ?_ ?_
 ·skip
  refine Y0 (fun n ρ w'=>∃ (x53:Int) (x54:σ ⊕ ε) (Mj:Hp),XH a_0 a_1 bd n x53 x54 = some o80 ∧ Qs ρ [(0,.func (.yield lp) #[] #[]),(2,pt b_1 0),(6,.slice A_0 a_0.length c_0),(7,vI (a_0.length:Int)),(8,vI x53)] ∧ M.le Mj ∧ Ext w w' ∧ St w' Mj F [Blk b_0 (.cells #[.slice A_0 a_0.length c_0] 115 (0,0)),Blk b_1 (.cells #[vI a_1] 3 (0,0)),B x54]) k ?_ ?_
  ·skip
   exact ⟨(0:Int),(.inl s0),M,o80h,⟨rfl,rfl,rfl,rfl,rfl,trivial⟩,(Hp.le_refl M),E,S.pick [1,2,0] (by decide)⟩
  ·intro n
   rintro ρ w81 ⟨x53,x54,M82,H,hρ,hM83,E,S⟩
   rw [QN hρ]
   replace HM:=Hp.le_trans HM hM83
   replace hr_0:=SlR.mono hr_0 hM83
   cases n with
   | zero=>cases H
   | succ k =>
    rw [XH.eq_2] at H
    refine QE (QA (W_v (.bool (decide (x53 < (a_0.length:Int)))) (QT rfl rfl rfl rfl) rfl (QB (tn (QE ?_)))))
    rcases Zh H with ⟨hb84,H⟩ | ⟨hb84,H⟩
    ·refine QL (congrArg Value.bool hb84) ?_
     refine Qg (tn (QE ?_))
     refine Z0 ?_
     refine QE (QA (W_v (vI x53) (QC rfl) rfl ?_))
     obtain ⟨⟨p85,p86⟩,H⟩:=Zt H
     obtain ⟨b87,o88,cs89,_,_,ee94,hb90,vs91,hR92,hc93⟩:=SlW.at' hr_0 p85 p86
     obtain rfl:vs91 = _:=hR92
     refine W_v (.pointer (some ⟨b87,o88 + x53.toNat * 4,none⟩)) (Qe Tryd.underlying115 ty117 (slA ee94) rfl p85 p86) rfl (W_v (.agg #[vI ((rd a_0 x53).Writer),vI ((rd a_0 x53).TS),.bool ((rd a_0 x53).Tomb),vS ((rd a_0 x53).Value)]) (Qh (S.frz hb90) ty117 rfl (XC hc93 0 rfl) rfl rfl) rfl ?_)
     refine Zu S cz14 ty117 rfl rfl ?_
     intro b95 w96 E' S
     replace E:=E.trans E'
     refine W_v (vI x53) (QD rfl) rfl ?_
     refine Q5 S 0 rfl ty117 rfl rfl [vI ((rd a_0 x53).Writer),vI ((rd a_0 x53).TS),.bool ((rd a_0 x53).Tomb),vS ((rd a_0 x53).Value)] rfl rfl rfl #[vI ((rd a_0 x53).Writer),vI ((rd a_0 x53).TS),.bool ((rd a_0 x53).Tomb),vS ((rd a_0 x53).Value)] rfl rfl ?_
     intro w98 E' S
     replace E:=E.trans E'
     refine QB (tn (QE (QA (W_v (.func (.yield lp) #[] #[]) (QC rfl) rfl (W_v (vI x53) (QC rfl) rfl (W_v (pt b95 1) (QF (o:=0) (off:=1) Tryd.underlying117 rfl ty3 rfl rfl) rfl (W_v (vI ((rd a_0 x53).TS)) (QR (S.blk 0 rfl) ty3 rfl rfl) rfl (W_v (vI a_1) (QR (S.blk 2 rfl) ty3 rfl rfl) rfl (W_v (.bool (decide ((rd a_0 x53).TS ≤ a_1))) (QT rfl rfl rfl rfl) rfl ?_)))))))))
     obtain ⟨s99,hs100,H⟩:=QX H
     obtain ⟨t101,ht102,H⟩:=QX H
     rw [Kd hs100] at S
     replace S:St w98 M82 F [_,_,_,_]:=S.pick [3,0,1,2] (by decide)
     refine Jq rfl (hY _ (x53,(decide ((rd a_0 x53).TS ≤ a_1))) _ s99 t101 HM (rfl) ht102) S rfl rfl ?_
     rintro _ w103 M104 _ hM105 E' S ⟨rfl,rfl⟩
     replace HM:=Hp.le_trans HM hM105
     replace hM83:=Hp.le_trans hM83 hM105
     replace E:=E.trans E'
     refine W_v (.bool (!(isNorm t101))) (Yx (b:=(isNorm t101)) rfl) rfl (W_v (.bool (!(isNorm t101))) (QC rfl) rfl ?_)
     refine ZI 5 (fun ρ w'=>Qs ρ [(0,.func (.yield lp) #[] #[]),(2,pt b_1 0),(6,.slice A_0 a_0.length c_0),(7,vI (a_0.length:Int)),(8,vI x53),(26,.bool ((!(isNorm t101)) || (decide ((rd a_0 x53).TS ≤ a_1))))] ∧ w103 = w') ?_ ?_
     ·rcases Qw (!(isNorm t101)) with hb106 | hb106
      ·skip
       refine QU (congrArg some hb106) (W_v (pt b95 1) (QF (o:=0) (off:=1) Tryd.underlying117 rfl ty3 rfl rfl) rfl (QU (congrArg some hb106) (W_v (vI ((rd a_0 x53).TS)) (QR (S.blk 1 rfl) ty3 rfl rfl) rfl (QU (congrArg some hb106) (W_v (vI a_1) (QR (S.blk 3 rfl) ty3 rfl rfl) rfl (QU (congrArg some hb106) (W_v (.bool (decide ((rd a_0 x53).TS ≤ a_1))) (QT rfl rfl rfl rfl) rfl (W_v (.bool (decide ((rd a_0 x53).TS ≤ a_1))) (QZ (k:=false) (congrArg Value.bool hb106) rfl) rfl (QB ?_)))))))))
       exact ⟨⟨rfl,rfl,rfl,rfl,rfl,(by first | rfl | (rw [hb106]; rfl) | (simp only [hb106]; rfl)),trivial⟩,rfl⟩
      ·skip
       refine Qk (skF hb106) rfl (Qk (skF hb106) rfl (Qk (skF hb106) rfl (Qk (skF hb106) rfl (W_v (.bool true) (QZ (k:=true) (congrArg Value.bool hb106) rfl) rfl (QB ?_)))))
       exact ⟨⟨rfl,rfl,rfl,rfl,rfl,(by first | rfl | (rw [hb106]; rfl) | (simp only [hb106]; rfl)),trivial⟩,rfl⟩
     rintro ρ _ ⟨hρ,rfl⟩
     rw [QN hρ]
     refine QB (tn ?_)
     rcases Zh H with ⟨hb107,H⟩ | ⟨hb107,H⟩
     ·refine QL (congrArg Value.bool hb107) ?_
      refine QY ?_
      refine br (tr (tr (br (tr (?_)))))
      obtain rfl:=Option.some.inj H
      have H:=o80H
      replace H:=elimL H
      obtain rfl:=Option.some.inj H
      exact ⟨_,_,_,fun w1 e1=>QO (vs:=[]) FA.nil,HM,E,S.pick [0,2,3] (by decide),⟨_,rfl,rfl⟩⟩
     refine QJ (congrArg Value.bool hb107) (Qg (bn (tn (QA (W_v (vI (IntKind.i64.wrap (x53 + (1:Int)))) (QT rfl rfl rfl rfl) rfl (W_v (vI (IntKind.i64.wrap (x53 + (1:Int)))) (QC rfl) rfl (QB (tn ?_))))))))
     exact ⟨k,Nat.lt_succ_self k,⟨(IntKind.i64.wrap (x53 + (1:Int))),t101,M104,H,⟨rfl,rfl,rfl,rfl,rfl,trivial⟩,hM83,E,S.pick [2,3,0] (by decide)⟩⟩
    refine QJ (congrArg Value.bool hb84) ?_
    refine Yo ?_
    refine tx (tx (bsm (?_)))
    refine tn ?_
    exact ⟨x54,M82,Option.some.inj H,trivial,hM83,E,S.pick [0,1,2] (by decide)⟩
 rintro ρ w108 ⟨x79,M109,rfl,hρ,hM110,E,S⟩
 rw [QN hρ]
 replace HM:=Hp.le_trans HM hM110
 have H:=o80H
 replace H:=elimR H
 obtain rfl:=Option.some.inj H
 exact ⟨_,_,_,fun w1 e1=>QO (vs:=[]) FA.nil,HM,E,S.pick [2,0,1] (by decide),⟨_,rfl,rfl⟩⟩
def Xe (a0:(List Qq)) (k:Nat):(Int × Bool) → Unit → Option ((Unit) ⊕ (Qq))
 | (y170,y171),_=>(Option.bind (α:=Bool) (if y171 = true then (if 0 ≤ y170 ∧ y170 < (a0.length:Int) then some ((!((rd a0 y170).Tomb))) else none) else some (false)) (fun x195=>(if x195 = true then (if 0 ≤ y170 ∧ y170 < (a0.length:Int) then some (.inr (rd a0 y170)) else none) else some (.inl ()))))
theorem Xe.mono {a0:(List Qq)} {k:Nat}:∀ x s,OLe (Xe a0 k x s) (Xe a0 (k + 1) x s):=by
 intro x s
 unfold Xe
 exact mo
def Xm (k:Nat) (a0:(List Qq)) (a1:Int):Option (Qq × Bool) :=
 (Option.bind (XL k a0 a1) (fun t10=>(Option.bind (XM k a0 a1 (Xe a0 k) ()) (fun o167o=>Sum.elim (fun _=>some ((⟨(0:Int),(0:Int),false,([]:Str)⟩:Qq),false)) (fun x166=>some (x166,true)) o167o))))
theorem Xm.mono {k:Nat} {a0:(List Qq)} {a1:Int}:OLe (Xm k a0 a1) (Xm (k + 1) a0 a1):=by
 unfold Xm
 repeat' (first | with_reducible exact OLe.none | with_reducible exact OLe.some | with_reducible refine OLe.ite ?_ ?_ | with_reducible refine OLe.bind ?_ (fun _=>?_) | with_reducible exact Xe.mono | exact XM.mono (fun _ _=>by first | exact Xe.mono _ _) | with_reducible exact XL.mono | refine OLe.bind ?_ (fun _=>?_) | refine OLe.ite ?_ ?_ | refine OLe.elim (fun _=>?_) (fun _=>?_) | split)
theorem Xm.con (k:Nat) (M:Hp) (A0:Option Addr) (c0:Nat) (a0:(List Qq)) (a1:Int) (r:Qq × Bool) (hr0:SlR YK M (.slice A0 a0.length c0) a0) (h:Xm k a0 a1 = some r):Con Tryd.prog 139 #[.slice A0 a0.length c0,vI a1] M [] (fun v M' Γ'=>v = .tuple #[.agg #[vI r.1.Writer,vI r.1.TS,.bool r.1.Tomb,vS r.1.Value],.bool r.2] ∧ Γ' = []):=by
 refine Qa Tryd.func139 rfl Tryd.ntmps139 Tryd.results139 rfl ?_
 intro w F rn S hrn
 have E:=Ext.refl w
 have HM:=Hp.le_refl M
 have H:=h
 unfold Xm at H
 refine QE (QA ?_)
 refine YO S #[.slice A0 a0.length c0] rfl rfl rfl ?_
 intro b1 w2 E' S
 replace E:=E.trans E'
 refine Zu S cz14 ty117 rfl rfl ?_
 intro b4 w5 E' S
 replace E:=E.trans E'
 refine Zu S #[.bool false] ty4 rfl rfl ?_
 intro b7 w8 E' S
 replace E:=E.trans E'
 refine QB (tn (QE (QE (QA (W_v (.slice A0 a0.length c0) (QR (S.blk 2 rfl) ty115 rfl rfl) rfl (W_v (vI a1) (QC rfl) rfl ?_))))))
 obtain ⟨t10,ht11,H⟩:=QX H
 refine Z2 fn145 (XL.con k M A0 c0 a0 a1 t10 hr0 ht11) (Γ1:=[]) (Γ2:=[_,_,_]) S rfl rfl (by rintro _ _ _ ⟨_,_,rfl,rfl⟩; exact (QS ZQ (QS ZQ Qd))) ?_
 rintro _ w16 _ Γ' E' S ⟨b12,b14,rfl,rfl⟩
 replace E:=E.trans E'
 replace S:St w16 M F [_,_,_,_,_]:=S
 refine QB (tn ?_)
 refine Z0 ?_
 obtain ⟨o167,o167h,o167H⟩:=QX H
 refine VY (σ:=Unit) (ε:=Qq) (Γi:=[Blk b12 (.cells #[.slice A0 a0.length c0] 115 (0,0)),Blk b14 (.cells #[vI a1] 3 (0,0))]) (Γr:=[]) (Sum.elim (fun _=>AE (ι:=Unit) (fun (i:Unit)=>[Blk b7 (.cells #[.bool false] 4 (0,0)),Blk b4 (.cells cz14 117 (0,0)),Blk b1 (.cells #[.slice A0 a0.length c0] 115 (0,0))]) (fun _ _=>True) (fun _ _ _ _ _=>trivial)) (fun x166=>AE (ι:=Unit) (fun (i:Unit)=>[Blk b7 (.cells #[.bool true] 4 (0,0)),B117 b4 x166]) (fun _ _=>True) (fun _ _ _ _ _=>trivial))) (fun _=>Code.ret) fn151 rfl (St.close_ex (φ:=(fun _ _=>True)) (hφ:=(fun _ _ _ _ _=>trivial)) () trivial (S.pick [2,3,4,0,1] (by decide))) (by rintro _ _ _ rfl; rfl) (by decide) (XM.con k M A0 c0 a0 a1 b12 b14 (Xe a0 k) () o167 hr0 o167h) ?_ ?_
 ·intro nn lp M168 F yy vs ss tt w hM169 henc hbd S
  obtain ⟨y170,y171⟩:=yy
  obtain rfl:=henc
  replace HM:=Hp.le_trans HM hM169
  replace hr0:=SlR.mono hr0 hM169
  replace S:St w M168 F (AE (ι:=Unit) (fun (i:Unit)=>[Blk b7 (.cells #[.bool false] 4 (0,0)),Blk b4 (.cells cz14 117 (0,0)),Blk b1 (.cells #[.slice A0 a0.length c0] 115 (0,0))]) (fun _ _=>True) (fun _ _ _ _ _=>trivial) :: []):=S
  obtain ⟨_,_,S⟩:=S.open_ex
  replace S:St w M168 F [_,_,_]:=S
  have E:=Ext.refl w
  have LE172:=Hp.le_refl M168
  have H:=hbd
  rw [Xe.eq_1] at H
  refine QE (QA (W_v (vI y170) (QD rfl) rfl (QB (tn (QA (W_v (.bool y171) (QD rfl) rfl (QB ?_)))))))
  refine YC ⟨_,_,LE172,E,S,?_⟩
  intro w F E3 S
  have E:=Ext.refl w
  have LE173:=Hp.le_refl M168
  refine Z0 ?_
  refine QE (QA (W_v (.bool y171) (QC rfl) rfl (W_v (.bool y171) (QC rfl) rfl ?_)))
  obtain ⟨o196,o196h,o196H⟩:=QX H
  refine ZI 7 (fun ρ w'=>∃ (x195:Bool),(x195) = o196 ∧ Qs ρ [(2,pt b1 0),(4,pt b4 0),(5,pt b7 0),(6,vI y170),(21,.bool x195)] ∧ Ext w w' ∧ St w' M168 F [Blk b7 (.cells #[.bool false] 4 (0,0)),Blk b4 (.cells cz14 117 (0,0)),Blk b1 (.cells #[.slice A0 a0.length c0] 115 (0,0))]) ?_ ?_
  ·have H:=o196h
   rcases Zh H with ⟨hb194,H⟩ | ⟨hb194,H⟩
   ·skip
    refine QU (congrArg some hb194) (W_v (.slice A0 a0.length c0) (QR (S.blk 2 rfl) ty115 rfl rfl) rfl (QU (congrArg some hb194) (W_v (vI y170) (QC rfl) rfl (QU (congrArg some hb194) ?_))))
    obtain ⟨⟨p197,p198⟩,H⟩:=Zt H
    obtain ⟨b199,o200,cs201,_,_,ee206,hb202,vs203,hR204,hc205⟩:=SlW.at' hr0 p197 p198
    obtain rfl:vs203 = _:=hR204
    refine W_v (.pointer (some ⟨b199,o200 + y170.toNat * 4,none⟩)) (Qe Tryd.underlying115 ty117 (slA ee206) rfl p197 p198) rfl (QU (congrArg some hb194) (W_v (.pointer (some ⟨b199,o200 + y170.toNat * 4 + 2,none⟩)) (QF (o:=o200 + y170.toNat * 4) (off:=2) Tryd.underlying117 rfl ty4 rfl rfl) rfl (QU (congrArg some hb194) (W_v (.bool ((rd a0 y170).Tomb)) (QR (S.frz hb202) ty4 rfl (hc205 2 _ rfl)) rfl (QU (congrArg some hb194) (W_v (.bool (!((rd a0 y170).Tomb))) (Yx (b:=((rd a0 y170).Tomb)) rfl) rfl (W_v (.bool (!((rd a0 y170).Tomb))) (QZ (k:=true) (congrArg Value.bool hb194) rfl) rfl (QB ?_))))))))
    exact ⟨(!((rd a0 y170).Tomb)),Option.some.inj H,⟨rfl,rfl,rfl,rfl,rfl,trivial⟩,E,S.pick [0,1,2] (by decide)⟩
   ·skip
    refine Qk (skT hb194) rfl (Qk (skT hb194) rfl (Qk (skT hb194) rfl (Qk (skT hb194) rfl (Qk (skT hb194) rfl (Qk (skT hb194) rfl (W_v (.bool false) (QZ (k:=false) (congrArg Value.bool hb194) rfl) rfl (QB ?_)))))))
    exact ⟨false,Option.some.inj H,⟨rfl,rfl,rfl,rfl,rfl,trivial⟩,E,S.pick [0,1,2] (by decide)⟩
  rintro ρ w207 ⟨x195,rfl,hρ,E,S⟩
  rw [QN hρ]
  have H:=o196H
  refine QB (tn ?_)
  rcases Zh H with ⟨hb208,H⟩ | ⟨hb208,H⟩
  ·refine QL (congrArg Value.bool hb208) ?_
   refine QE (QA (W_v (.slice A0 a0.length c0) (QR (S.blk 2 rfl) ty115 rfl rfl) rfl (W_v (vI y170) (QC rfl) rfl ?_)))
   obtain ⟨⟨p209,p210⟩,H⟩:=Zt H
   obtain ⟨b211,o212,cs213,_,_,ee218,hb214,vs215,hR216,hc217⟩:=SlW.at' hr0 p209 p210
   obtain rfl:vs215 = _:=hR216
   refine W_v (.pointer (some ⟨b211,o212 + y170.toNat * 4,none⟩)) (Qe Tryd.underlying115 ty117 (slA ee218) rfl p209 p210) rfl (W_v (.agg #[vI ((rd a0 y170).Writer),vI ((rd a0 y170).TS),.bool ((rd a0 y170).Tomb),vS ((rd a0 y170).Value)]) (Qh (S.frz hb214) ty117 rfl (XC hc217 0 rfl) rfl rfl) rfl ?_)
   refine Q5 S 1 rfl ty117 rfl rfl [vI ((rd a0 y170).Writer),vI ((rd a0 y170).TS),.bool ((rd a0 y170).Tomb),vS ((rd a0 y170).Value)] rfl rfl rfl #[vI ((rd a0 y170).Writer),vI ((rd a0 y170).TS),.bool ((rd a0 y170).Tomb),vS ((rd a0 y170).Value)] rfl rfl ?_
   intro w219 E' S
   replace E:=E.trans E'
   refine Q5 S 0 rfl ty4 rfl rfl [.bool true] rfl rfl rfl #[.bool true] rfl rfl ?_
   intro w220 E' S
   replace E:=E.trans E'
   refine QB (tn ?_)
   refine QY ?_
   refine br (?_)
   obtain rfl:=Option.some.inj H
   exact UD rfl LE173 E (St.close_ex (φ:=(fun _ _=>True)) (hφ:=(fun _ _ _ _ _=>trivial)) () trivial (S.pick [0,1] (by decide)))
  refine QJ (congrArg Value.bool hb208) (Qg (bn ?_))
  obtain rfl:=Option.some.inj H
  exact UD trivial LE173 E (St.close_ex (φ:=(fun _ _=>True)) (hφ:=(fun _ _ _ _ _=>trivial)) () trivial (S.pick [0,1,2] (by decide)))
 intro w221 M222 Γ' hM223 E' hΨ S
 obtain rfl:Γ' = _:=hΨ
 replace E:=E.trans E'
 replace HM:=Hp.le_trans HM hM223
 have H:=o167H
 rcases o167 with _ | x166
 ·replace H:=elimL H
  refine Uc ?_
  replace S:St w221 M222 F (AE (ι:=Unit) (fun (i:Unit)=>[Blk b7 (.cells #[.bool false] 4 (0,0)),Blk b4 (.cells cz14 117 (0,0)),Blk b1 (.cells #[.slice A0 a0.length c0] 115 (0,0))]) (fun _ _=>True) (fun _ _ _ _ _=>trivial) :: [Blk b12 (.cells #[.slice A0 a0.length c0] 115 (0,0)),Blk b14 (.cells #[vI a1] 3 (0,0))]):=S
  obtain ⟨_,_,S⟩:=S.open_ex
  replace S:St w221 M222 F [_,_,_,_,_]:=S
  refine bn (tn (QE (QA (W_v (.agg cz14) (ZN (pl:=[(0,1),(1,1),(2,1),(3,1)]) cz14 Tryd.underlying117 ty117 (by as_aux_lemma=>kernel_rfl) rfl (by as_aux_lemma=>kernel_rfl)) rfl ?_))))
  refine Q5 S 1 rfl ty117 rfl rfl [vI 0,vI 0,.bool false,vS ([]:Str)] rfl rfl rfl cz14 rfl rfl ?_
  intro w224 E' S
  replace E:=E.trans E'
  refine Q5 S 0 rfl ty4 rfl rfl [.bool false] rfl rfl rfl #[.bool false] rfl rfl ?_
  intro w225 E' S
  replace E:=E.trans E'
  refine QB (tn ?_)
  refine QY ?_
  obtain rfl:=Option.some.inj H
  exact ⟨_,_,_,fun w1 e1=>QO (vs:=[.agg cz14,.bool false]) (FA.cons (⟨_,rfl,Qv ty117 ((S.of_eq e1).blk 1 rfl) (QI rfl) rfl (by decide)⟩) (FA.cons (⟨_,rfl,VD ty4 ((S.of_eq e1).blk 0 rfl) rfl⟩) (FA.nil))),HM,E,S.pick [] (by decide),⟨rfl,rfl⟩⟩
 ·replace H:=elimR H
  refine KK ?_
  replace S:St w221 M222 F (AE (ι:=Unit) (fun (i:Unit)=>[Blk b7 (.cells #[.bool true] 4 (0,0)),B117 b4 x166]) (fun _ _=>True) (fun _ _ _ _ _=>trivial) :: [Blk b12 (.cells #[.slice A0 a0.length c0] 115 (0,0)),Blk b14 (.cells #[vI a1] 3 (0,0))]):=S
  obtain ⟨_,_,S⟩:=S.open_ex
  replace S:St w221 M222 F [_,_,_,_]:=S
  refine QY ?_
  refine br (tr (?_))
  obtain rfl:=Option.some.inj H
  exact ⟨_,_,_,fun w1 e1=>QO (vs:=[.agg #[vI x166.Writer,vI x166.TS,.bool x166.Tomb,vS x166.Value],.bool true]) (FA.cons (⟨_,rfl,Qv ty117 ((S.of_eq e1).blk 1 rfl) (QI rfl) rfl (by decide)⟩) (FA.cons (⟨_,rfl,VD ty4 ((S.of_eq e1).blk 0 rfl) rfl⟩) (FA.nil))),HM,E,S.pick [] (by decide),⟨rfl,rfl⟩⟩
def Xr (k:Nat) (a0:(List Qq)) (a1:Int):Option (Bool) :=
 (Option.bind (α:=Bool) (if (decide ((a0.length:Int) > (0:Int))) = true then (if 0 ≤ (0:Int) ∧ (0:Int) < (a0.length:Int) then some ((decide ((rd a0 (0:Int)).TS > a1))) else none) else some (false)) (fun x22=>some x22))
theorem Xr.mono {k:Nat} {a0:(List Qq)} {a1:Int}:OLe (Xr k a0 a1) (Xr (k + 1) a0 a1):=by
 unfold Xr
 exact mo
theorem Xr.con (k:Nat) (M:Hp) (A0:Option Addr) (c0:Nat) (a0:(List Qq)) (a1:Int) (r:Bool) (hr0:SlR YK M (.slice A0 a0.length c0) a0) (h:Xr k a0 a1 = some r):Con Tryd.prog 140 #[.slice A0 a0.length c0,vI a1] M [] (fun v M' Γ'=>v = .bool r ∧ Γ' = []):=by
 refine Qa Tryd.func140 rfl Tryd.ntmps140 Tryd.results140 rfl ?_
 intro w F rn S hrn
 have E:=Ext.refl w
 have HM:=Hp.le_refl M
 have H:=h
 unfold Xr at H
 refine QE (QA (W_v (.bool false) (QD rfl) rfl (QB (tn (QE (QA (W_v (.slice A0 a0.length c0) (QC rfl) rfl (W_v (vI (a0.length:Int)) (Qt (n:=a0.length) Tryd.underlying115 rfl) rfl (W_v (.bool (decide ((a0.length:Int) > (0:Int)))) (QT rfl rfl rfl rfl) rfl (W_v (.bool (decide ((a0.length:Int) > (0:Int)))) (QC rfl) rfl ?_))))))))))
 obtain ⟨o23,o23h,o23H⟩:=QX H
 refine ZI 7 (fun ρ w'=>∃ (x22:Bool),(x22) = o23 ∧ Qs ρ [(15,.bool x22)] ∧ Ext w w' ∧ St w' M F []) ?_ ?_
 ·have H:=o23h
  rcases Zh H with ⟨hb21,H⟩ | ⟨hb21,H⟩
  ·skip
   refine QU (congrArg some hb21) (W_v (.slice A0 a0.length c0) (QC rfl) rfl (QU (congrArg some hb21) ?_))
   obtain ⟨⟨p24,p25⟩,H⟩:=Zt H
   obtain ⟨b26,o27,cs28,_,_,ee33,hb29,vs30,hR31,hc32⟩:=SlW.at' hr0 p24 p25
   obtain rfl:vs30 = _:=hR31
   refine W_v (.pointer (some ⟨b26,o27 + (0:Int).toNat * 4,none⟩)) (Qe Tryd.underlying115 ty117 (slA ee33) rfl p24 p25) rfl (QU (congrArg some hb21) (W_v (.pointer (some ⟨b26,o27 + (0:Int).toNat * 4 + 1,none⟩)) (QF (o:=o27 + (0:Int).toNat * 4) (off:=1) Tryd.underlying117 rfl ty3 rfl rfl) rfl (QU (congrArg some hb21) (W_v (vI ((rd a0 (0:Int)).TS)) (QR (S.frz hb29) ty3 rfl (hc32 1 _ rfl)) rfl (QU (congrArg some hb21) (W_v (vI a1) (QC rfl) rfl (QU (congrArg some hb21) (W_v (.bool (decide ((rd a0 (0:Int)).TS > a1))) (QT rfl rfl rfl rfl) rfl (W_v (.bool (decide ((rd a0 (0:Int)).TS > a1))) (QZ (k:=true) (congrArg Value.bool hb21) rfl) rfl (QB ?_))))))))))
   exact ⟨(decide ((rd a0 (0:Int)).TS > a1)),Option.some.inj H,⟨rfl,trivial⟩,E,S.pick [] (by decide)⟩
  ·skip
   refine Qk (skT hb21) rfl (Qk (skT hb21) rfl (Qk (skT hb21) rfl (Qk (skT hb21) rfl (Qk (skT hb21) rfl (Qk (skT hb21) rfl (W_v (.bool false) (QZ (k:=false) (congrArg Value.bool hb21) rfl) rfl (QB ?_)))))))
   exact ⟨false,Option.some.inj H,⟨rfl,trivial⟩,E,S.pick [] (by decide)⟩
 rintro ρ w34 ⟨x22,rfl,hρ,E,S⟩
 rw [QN hρ]
 have H:=o23H
 refine W_v (.bool x22) (QD rfl) rfl (QB (tn ?_))
 refine QY ?_
 obtain rfl:=Option.some.inj H
 exact ⟨_,_,_,fun w1 e1=>QO (vs:=[.bool x22]) (FA.cons (rfl) (FA.nil)),HM,E,S.pick [] (by decide),⟨rfl,rfl⟩⟩
def Zn (k:Nat) (a0:Str) (a1:Str):Option (Int) :=
 some (Lib.compareBytes a0 a1)
theorem Zn.mono {k:Nat} {a0:Str} {a1:Str}:OLe (Zn k a0 a1) (Zn (k + 1) a0 a1):=by
 unfold Zn
 exact mo
theorem Zn.con (k:Nat) (M:Hp) (a0:Str) (a1:Str) (r:Int)  (h:Zn k a0 a1 = some r):Con Tryd.prog 155 #[vS a0,vS a1] M [] (fun v M' Γ'=>v = vI r ∧ Γ' = []):=by
 refine Qa Tryd.func155 rfl Tryd.ntmps155 Tryd.results155 rfl ?_
 intro w F rn S hrn
 have E:=Ext.refl w
 have HM:=Hp.le_refl M
 have H:=h
 unfold Zn at H
 refine QE (QA (W_v (vI 0) (QD rfl) rfl (QB (tn (QE (QA (W_v (vS a0) (QC rfl) rfl (W_v (vS a1) (QC rfl) rfl (W_v (vI (Lib.compareBytes a0 a1)) (x_cmp cmp166 rfl rfl) rfl (W_v (vI (Lib.compareBytes a0 a1)) (QD rfl) rfl (QB (tn ?_))))))))))))
 refine QY ?_
 obtain rfl:=Option.some.inj H
 exact ⟨_,_,_,fun w1 e1=>QO (vs:=[vI (Lib.compareBytes a0 a1)]) (FA.cons (rfl) (FA.nil)),HM,E,S.pick [] (by decide),⟨rfl,rfl⟩⟩
def Y7 (k:Nat) (a0:Str) (a1:Str):Option (Int) :=
 (Option.bind (Zn k a0 a1) (fun t1=>some t1))
theorem Y7.mono {k:Nat} {a0:Str} {a1:Str}:OLe (Y7 k a0 a1) (Y7 (k + 1) a0 a1):=by
 unfold Y7
 have m1:=@Zn.mono
 exact mo
theorem Y7.con (k:Nat) (M:Hp) (a0:Str) (a1:Str) (r:Int)  (h:Y7 k a0 a1 = some r):Con Tryd.prog 150 #[vS a0,vS a1] M [] (fun v M' Γ'=>v = vI r ∧ Γ' = []):=by
 refine Qa Tryd.func150 rfl Tryd.ntmps150 Tryd.results150 rfl ?_
 intro w F rn S hrn
 have E:=Ext.refl w
 have HM:=Hp.le_refl M
 have H:=h
 unfold Y7 at H
 refine QE (QA (W_v (vI 0) (QD rfl) rfl (QB (tn (QE (QA (W_v (vS a0) (QC rfl) rfl (W_v (vS a1) (QC rfl) rfl ?_))))))))
 obtain ⟨t1,ht2,H⟩:=QX H
 refine YJ fn155 (Zn.con k M a0 a1 t1  ht2) S rfl rfl (by rintro _ _ _ ⟨_,rfl⟩; exact Qd) ?_
 rintro _ w3 _ Γ' E' S ⟨rfl,rfl⟩
 replace E:=E.trans E'
 refine W_v (vI t1) (QD rfl) rfl (QB (tn ?_))
 refine QY ?_
 obtain rfl:=Option.some.inj H
 exact ⟨_,_,_,fun w1 e1=>QO (vs:=[vI t1]) (FA.cons (rfl) (FA.nil)),HM,E,S.pick [] (by decide),⟨rfl,rfl⟩⟩
def Xn (k:Nat) (a0:Str) (a1:Str):Option (Int) :=
 (Option.bind (Y7 k a0 a1) (fun t1=>some t1))
theorem Xn.mono {k:Nat} {a0:Str} {a1:Str}:OLe (Xn k a0 a1) (Xn (k + 1) a0 a1):=by
 unfold Xn
 have m1:=@Y7.mono
 exact mo
theorem Xn.con (k:Nat) (M:Hp) (a0:Str) (a1:Str) (r:Int)  (h:Xn k a0 a1 = some r):Con Tryd.prog 143 #[vS a0,vS a1] M [] (fun v M' Γ'=>v = vI r ∧ Γ' = []):=by
 refine Qa Tryd.func143 rfl Tryd.ntmps143 Tryd.results143 rfl ?_
 intro w F rn S hrn
 have E:=Ext.refl w
 have HM:=Hp.le_refl M
 have H:=h
 unfold Xn at H
 refine QE (QA (W_v (vI 0) (QD rfl) rfl (QB (tn (QE (QA (W_v (vS a0) (QC rfl) rfl (W_v (vS a1) (QC rfl) rfl ?_))))))))
 obtain ⟨t1,ht2,H⟩:=QX H
 refine YJ fn150 (Y7.con k M a0 a1 t1  ht2) S rfl rfl (by rintro _ _ _ ⟨_,rfl⟩; exact Qd) ?_
 rintro _ w3 _ Γ' E' S ⟨rfl,rfl⟩
 replace E:=E.trans E'
 refine W_v (vI t1) (QD rfl) rfl (QB (tn ?_))
 refine QY ?_
 obtain rfl:=Option.some.inj H
 exact ⟨_,_,_,fun w1 e1=>QO (vs:=[vI t1]) (FA.cons (rfl) (FA.nil)),HM,E,S.pick [] (by decide),⟨rfl,rfl⟩⟩
def Xh (k:Nat) (a0:Str) (a1:Str) (a2:Str):Option (Bool) :=
 some ((sbin .leq a1 a0) && ((sbin .eql a2 ([]:Str)) || (sbin .lss a0 a2)))
theorem Xh.mono {k:Nat} {a0:Str} {a1:Str} {a2:Str}:OLe (Xh k a0 a1 a2) (Xh (k + 1) a0 a1 a2):=by
 unfold Xh
 exact mo
theorem Xh.con (k:Nat) (M:Hp) (a0:Str) (a1:Str) (a2:Str) (r:Bool)  (h:Xh k a0 a1 a2 = some r):Con Tryd.prog 134 #[vS a0,vS a1,vS a2] M [] (fun v M' Γ'=>v = .bool r ∧ Γ' = []):=by
 refine Qa Tryd.func134 rfl Tryd.ntmps134 Tryd.results134 rfl ?_
 intro w F rn S hrn
 have E:=Ext.refl w
 have HM:=Hp.le_refl M
 have H:=h
 unfold Xh at H
 refine QE (QA (W_v (.bool false) (QD rfl) rfl (QB (tn (QE (QA (W_v (vS a1) (QC rfl) rfl (W_v (vS a0) (QC rfl) rfl (W_v (.bool (sbin .leq a1 a0)) (UJ rfl rfl rfl) rfl (W_v (.bool (sbin .leq a1 a0)) (QC rfl) rfl ?_))))))))))
 refine ZI 8 (fun ρ w'=>Qs ρ [(18,.bool ((sbin .leq a1 a0) && ((sbin .eql a2 ([]:Str)) || (sbin .lss a0 a2))))] ∧ w = w') ?_ ?_
 ·as_aux_lemma =>
   rcases Qw (sbin .leq a1 a0) with hb3 | hb3
   ·skip
    refine Qk (skT hb3) rfl (Qk (skT hb3) rfl (Qk (skT hb3) rfl (Qk (rfl) rfl (Qk (rfl) rfl (Qk (rfl) rfl (Qk (skT hb3) rfl (W_v (.bool false) (QZ (k:=false) (congrArg Value.bool hb3) rfl) rfl (QB ?_))))))))
    exact ⟨⟨(by first | rfl | (rw [hb3]; rfl) | (simp only [hb3]; rfl)),trivial⟩,rfl⟩
   ·skip
    refine QU (congrArg some hb3) (W_v (vS a2) (QC rfl) rfl (QU (congrArg some hb3) (W_v (.bool (sbin .eql a2 ([]:Str))) (UJ rfl rfl rfl) rfl (QU (congrArg some hb3) (W_v (.bool (sbin .eql a2 ([]:Str))) (QC rfl) rfl ?_)))))
    refine ZI 4 (fun ρ w'=>Qs ρ [(10,.bool (sbin .leq a1 a0)),(17,.bool ((sbin .eql a2 ([]:Str)) || (sbin .lss a0 a2)))] ∧ w = w') ?_ ?_
    ·rcases Qw (sbin .eql a2 ([]:Str)) with hb4 | hb4
     ·skip
      refine QU (congrArg some hb4) (W_v (vS a0) (QC rfl) rfl (QU (congrArg some hb4) (W_v (vS a2) (QC rfl) rfl (QU (congrArg some hb4) (W_v (.bool (sbin .lss a0 a2)) (UJ rfl rfl rfl) rfl (QU (congrArg some hb3) (W_v (.bool (sbin .lss a0 a2)) (QZ (k:=false) (congrArg Value.bool hb4) rfl) rfl (QB ?_))))))))
      exact ⟨⟨rfl,(by first | rfl | (rw [hb4]; rfl) | (simp only [hb4]; rfl)),trivial⟩,rfl⟩
     ·skip
      refine Qk (skF hb4) rfl (Qk (skF hb4) rfl (Qk (skF hb4) rfl (QU (congrArg some hb3) (W_v (.bool true) (QZ (k:=true) (congrArg Value.bool hb4) rfl) rfl (QB ?_)))))
      exact ⟨⟨rfl,(by first | rfl | (rw [hb4]; rfl) | (simp only [hb4]; rfl)),trivial⟩,rfl⟩
    rintro ρ _ ⟨hρ,rfl⟩
    rw [QN hρ]
    refine W_v (.bool ((sbin .eql a2 ([]:Str)) || (sbin .lss a0 a2))) (QZ (k:=true) (congrArg Value.bool hb3) rfl) rfl (QB ?_)
    exact ⟨⟨(by first | rfl | (rw [hb3]; rfl) | (simp only [hb3]; rfl)),trivial⟩,rfl⟩
 rintro ρ _ ⟨hρ,rfl⟩
 rw [QN hρ]
 refine W_v (.bool ((sbin .leq a1 a0) && ((sbin .eql a2 ([]:Str)) || (sbin .lss a0 a2)))) (QD rfl) rfl (QB (tn ?_))
 refine QY ?_
 obtain rfl:=Option.some.inj H
 exact ⟨_,_,_,fun w1 e1=>QO (vs:=[.bool ((sbin .leq a1 a0) && ((sbin .eql a2 ([]:Str)) || (sbin .lss a0 a2)))]) (FA.cons (rfl) (FA.nil)),HM,E,S.pick [] (by decide),⟨rfl,rfl⟩⟩
def ZR (k:Nat) (a0:List Qq):Option (List Qq) :=
 if ([]:List Qq).length + a0.length ≤ 3518437208883 then some (([]:List Qq) ++ a0) else none
theorem ZR.mono {k:Nat} {a0:List Qq}:OLe (ZR k a0) (ZR (k + 1) a0):=by
 unfold ZR
 exact mo
theorem ZR.con (k:Nat) (M:Hp) (A0:Option Addr) (c0:Nat) (a0:(List Qq)) (r:(List Qq)) (hr0:SlR YK M (.slice A0 a0.length c0) a0) (h:ZR k a0 = some r):Con Tryd.prog 146 #[.slice A0 a0.length c0] M [] (fun v M' Γ'=>∃ (A0:Option Addr) (c0:Nat),v = .slice A0 r.length c0 ∧ Γ' = [Row YK 117 (.slice A0 r.length c0) r]):=by
 have H:=h
 unfold ZR at H
 cases A0 with
 | none =>
  obtain ⟨_,H⟩:=Zt H
  obtain rfl:a0 = []:=SlW.none_nil hr0
  refine Qa Tryd.func146 rfl Tryd.ntmps146 Tryd.results146 rfl ?_
  intro w F rn S hrn
  have E:=Ext.refl w
  have HM:=Hp.le_refl M
  refine QE (QA (W_v (.slice none 0 0) (QD rfl) rfl (QB (tn (QE (QE (QA (W_v (.slice none ([]:List Qq).length c0) (QC rfl) rfl (W_v (.bool true) (Xd rfl rfl (run_equal_slice_nil _ _ _ _ _ _ Tryd.underlying115)) rfl (QB (tn (QL rfl (QE (QA (W_v (.slice none 0 0) (QD rfl) rfl ?_)))))))))))))))
  refine QB (tn ?_)
  refine QY ?_
  refine tr (?_)
  obtain rfl:=Option.some.inj H
  replace S:=S.row_nil YK 117
  exact ⟨_,_,_,fun w1 e1=>QO (vs:=[.slice none 0 0]) (FA.cons (rfl) (FA.nil)),HM,E,S.pick [0] (by decide),⟨none,0,rfl,rfl⟩⟩
 | some ad =>
  refine Qa Tryd.func146 rfl Tryd.ntmps146 Tryd.results146 rfl ?_
  intro w F rn S hrn
  have E:=Ext.refl w
  have HM:=Hp.le_refl M
  refine QE (QA (W_v (.slice none 0 0) (QD rfl) rfl (QB (tn (QE (QE (QA (W_v (.slice (some ad) a0.length c0) (QC rfl) rfl (W_v (.bool false) (Xd rfl rfl (run_equal_slice_nil _ _ _ _ _ _ Tryd.underlying115)) rfl (QB (tn (QJ rfl (Qg (tn (QE ?_)))))))))))))))
  refine QA ?_
  refine Y6 S #[] Tryd.underlying115 ty117 rfl rfl #[] (by as_aux_lemma=>kernel_rfl) (by as_aux_lemma=>kernel_rfl) rfl ?_
  intro b2 w3 E' S
  replace E:=E.trans E'
  replace S:=S.blk_row (r:=YK) (l:=([]:List Qq)) 0 rfl 0 (Nat.le_refl 0) rfl Cells.nil
  refine W_v (.slice (some ad) a0.length c0) (QC rfl) rfl ?_
  obtain ⟨p5,H⟩:=Zt H
  obtain ⟨src6,hs7,hC8⟩:=Yj (P:=Tryd.prog) (ρ:=YK) (l:=a0) (SlR.world hr0 S) (by decide)
  refine XN S 0 rfl rfl rfl Tryd.underlying115 (.inl Tryd.underlying115) ty117 rfl (by decide) (by decide) hs7 hC8 rfl (by omega) rfl ?_
  intro v9 w10 E' S
  replace E:=E.trans E'
  obtain ⟨A11,c12,rfl,_⟩:=(S.row_read 0 rfl).form
  refine W_v (.slice A11 (([]:List Qq) ++ a0).length c12) (QD rfl) rfl (QB (tn ?_))
  refine QY ?_
  obtain rfl:=Option.some.inj H
  exact ⟨_,_,_,fun w1 e1=>QO (vs:=[.slice A11 (([]:List Qq) ++ a0).length c12]) (FA.cons (rfl) (FA.nil)),HM,E,S.pick [0] (by decide),⟨A11,c12,rfl,rfl⟩⟩
def Xf (a0:(List Qq)) (k:Nat):(Int × Bool) → Int → Option ((Int) ⊕ (Unit))
 | (y164,y165),x113=>(Option.bind (α:=Int) (if (!y165) = true then some (x113) else (if 0 ≤ y164 ∧ y164 < (a0.length:Int) then (Option.bind (α:=Int) (if (!((rd a0 y164).Tomb)) = true then some ((IntKind.i64.wrap (y164 + (1:Int)))) else some (y164)) (fun x207=>some (x207))) else none)) (fun x189=>some (.inl x189)))
theorem Xf.mono {a0:(List Qq)} {k:Nat}:∀ x s,OLe (Xf a0 k x s) (Xf a0 (k + 1) x s):=by
 intro x s
 unfold Xf
 exact mo
def Xx (k:Nat) (a0:(List Qq)) (a1:Int):Option ((List Qq)) :=
 (Option.bind (XL k a0 a1) (fun t8=>(Option.bind (XM k a0 a1 (Xf a0 k) (a0.length:Int)) (fun o161o=>Sum.elim (fun x113=>(if 0 ≤ x113 ∧ x113 ≤ x113 ∧ x113 ≤ (a0.length:Int) then (Option.bind (ZR k (List.take x113.toNat a0)) (fun t221=>some t221)) else none)) (fun _=>none) o161o))))
theorem Xx.mono {k:Nat} {a0:(List Qq)} {a1:Int}:OLe (Xx k a0 a1) (Xx (k + 1) a0 a1):=by
 unfold Xx
 repeat' (first | with_reducible exact OLe.none | with_reducible exact OLe.some | with_reducible refine OLe.ite ?_ ?_ | with_reducible refine OLe.bind ?_ (fun _=>?_) | with_reducible exact Xf.mono | exact XM.mono (fun _ _=>by first | exact Xf.mono _ _) | with_reducible exact XL.mono | with_reducible exact ZR.mono | refine OLe.bind ?_ (fun _=>?_) | refine OLe.ite ?_ ?_ | refine OLe.elim (fun _=>?_) (fun _=>?_) | split)
theorem Xx.con (k:Nat) (M:Hp) (A0:Option Addr) (c0:Nat) (a0:(List Qq)) (a1:Int) (r:(List Qq)) (hr0:SlR YK M (.slice A0 a0.length c0) a0) (h:Xx k a0 a1 = some r):Con Tryd.prog 138 #[.slice A0 a0.length c0,vI a1] M [] (fun v M' Γ'=>∃ (A0:Option Addr) (c0:Nat),v = .slice A0 r.length c0 ∧ Γ' = [Row YK 117 (.slice A0 r.length c0) r]):=by
 refine Qa Tryd.func138 rfl Tryd.ntmps138 Tryd.results138 rfl ?_
 intro w F rn S hrn
 have E:=Ext.refl w
 have HM:=Hp.le_refl M
 have H:=h
 unfold Xx at H
 refine QE (QA ?_)
 refine YO S #[.slice A0 a0.length c0] rfl rfl rfl ?_
 intro b1 w2 E' S
 replace E:=E.trans E'
 refine W_v (.slice none 0 0) (QD rfl) rfl (QB (tn (QE (QA (W_v (.slice A0 a0.length c0) (QR (S.blk 0 rfl) ty115 rfl rfl) rfl (W_v (vI (a0.length:Int)) (Qt (n:=a0.length) Tryd.underlying115 rfl) rfl ?_))))))
 refine Zu S #[vI 0] ty3 rfl rfl ?_
 intro b4 w5 E' S
 replace E:=E.trans E'
 refine Q5 S 0 rfl ty3 rfl rfl [vI (a0.length:Int)] rfl rfl rfl #[vI (a0.length:Int)] rfl rfl ?_
 intro w7 E' S
 replace E:=E.trans E'
 refine QB (tn (QE (QE (QA (W_v (.slice A0 a0.length c0) (QR (S.blk 1 rfl) ty115 rfl rfl) rfl (W_v (vI a1) (QC rfl) rfl ?_))))))
 obtain ⟨t8,ht9,H⟩:=QX H
 refine Z2 fn145 (XL.con k M A0 c0 a0 a1 t8 hr0 ht9) (Γ1:=[]) (Γ2:=[_,_]) S rfl rfl (by rintro _ _ _ ⟨_,_,rfl,rfl⟩; exact (QS ZQ (QS ZQ Qd))) ?_
 rintro _ w14 _ Γ' E' S ⟨b10,b12,rfl,rfl⟩
 replace E:=E.trans E'
 replace S:St w14 M F [_,_,_,_]:=S
 refine QB (tn ?_)
 refine Z0 ?_
 obtain ⟨o161,o161h,o161H⟩:=QX H
 refine VY (σ:=Int) (ε:=Unit) (Γi:=[Blk b10 (.cells #[.slice A0 a0.length c0] 115 (0,0)),Blk b12 (.cells #[vI a1] 3 (0,0))]) (Γr:=[]) (Sum.elim (fun x113=>AE (ι:=Unit) (fun (i:Unit)=>[Blk b4 (.cells #[vI x113] 3 (0,0)),Blk b1 (.cells #[.slice A0 a0.length c0] 115 (0,0))]) (fun _ _=>True) (fun _ _ _ _ _=>trivial)) (fun _=>Star [])) (fun _=>Code.ret) fn151 rfl (St.close_ex (φ:=(fun _ _=>True)) (hφ:=(fun _ _ _ _ _=>trivial)) () trivial (S.pick [2,3,0,1] (by decide))) (by rintro _ _ _ rfl; rfl) (by decide) (XM.con k M A0 c0 a0 a1 b10 b12 (Xf a0 k) (a0.length:Int) o161 hr0 o161h) ?_ ?_
 ·intro nn lp M162 F yy vs x113 tt w hM163 henc hbd S
  obtain ⟨y164,y165⟩:=yy
  obtain rfl:=henc
  replace HM:=Hp.le_trans HM hM163
  replace hr0:=SlR.mono hr0 hM163
  replace S:St w M162 F (AE (ι:=Unit) (fun (i:Unit)=>[Blk b4 (.cells #[vI x113] 3 (0,0)),Blk b1 (.cells #[.slice A0 a0.length c0] 115 (0,0))]) (fun _ _=>True) (fun _ _ _ _ _=>trivial) :: []):=S
  obtain ⟨_,_,S⟩:=S.open_ex
  replace S:St w M162 F [_,_]:=S
  have E:=Ext.refl w
  have LE166:=Hp.le_refl M162
  have H:=hbd
  rw [Xf.eq_1] at H
  refine QE (QA (W_v (vI y164) (QD rfl) rfl (QB (tn (QA (W_v (.bool y165) (QD rfl) rfl (QB ?_)))))))
  refine YC ⟨_,_,LE166,E,S,?_⟩
  intro w F E3 S
  have E:=Ext.refl w
  have LE167:=Hp.le_refl M162
  obtain ⟨o190,o190h,o190H⟩:=QX H
  refine Xg (fun ρ w'=>∃ (x189:Int),(x189) = o190 ∧ Qs ρ [(2,pt b1 0),(4,.slice none 0 0),(5,pt b4 0)] ∧ Ext w w' ∧ St w' M162 F [Blk b4 (.cells #[vI x189] 3 (0,0)),Blk b1 (.cells #[.slice A0 a0.length c0] 115 (0,0))]) ?_ ?_
  ·as_aux_lemma =>
    clear o190H
    have H:=o190h
    refine Z0 ?_
    refine QE (QE (QA (W_v (.bool y165) (QC rfl) rfl (W_v (.bool (!y165)) (Yx (b:=y165) rfl) rfl (QB (tn ?_))))))
    rcases Zh H with ⟨hb191,H⟩ | ⟨hb191,H⟩
    ·refine QL (congrArg Value.bool hb191) ?_
     refine Yo ?_
     refine tx (bsm (?_))
     refine tn ?_
     exact ⟨x113,Option.some.inj H,⟨rfl,rfl,rfl,trivial⟩,E,S.pick [0,1] (by decide)⟩
    refine QJ (congrArg Value.bool hb191) (Qg (tn (QE (QA (W_v (vI y164) (QC rfl) rfl ?_)))))
    refine Q5 S 0 rfl ty3 rfl rfl [vI y164] rfl rfl rfl #[vI y164] rfl rfl ?_
    intro w192 E' S
    replace E:=E.trans E'
    refine QB (tn (QE (QA (W_v (.slice A0 a0.length c0) (QR (S.blk 1 rfl) ty115 rfl rfl) rfl (W_v (vI y164) (QC rfl) rfl ?_)))))
    obtain ⟨⟨p193,p194⟩,H⟩:=Zt H
    obtain ⟨b195,o196,cs197,_,_,ee202,hb198,vs199,hR200,hc201⟩:=SlW.at' hr0 p193 p194
    obtain rfl:vs199 = _:=hR200
    refine W_v (.pointer (some ⟨b195,o196 + y164.toNat * 4,none⟩)) (Qe Tryd.underlying115 ty117 (slA ee202) rfl p193 p194) rfl (W_v (.pointer (some ⟨b195,o196 + y164.toNat * 4 + 2,none⟩)) (QF (o:=o196 + y164.toNat * 4) (off:=2) Tryd.underlying117 rfl ty4 rfl rfl) rfl (W_v (.bool ((rd a0 y164).Tomb)) (QR (S.frz hb198) ty4 rfl (hc201 2 _ rfl)) rfl (W_v (.bool (!((rd a0 y164).Tomb))) (Yx (b:=((rd a0 y164).Tomb)) rfl) rfl (QB (tn ?_)))))
    obtain ⟨o208,o208h,o208H⟩:=QX H
    refine Xg (fun ρ w'=>∃ (x207:Int),(x207) = o208 ∧ Qs ρ [(2,pt b1 0),(4,.slice none 0 0),(5,pt b4 0)] ∧ Ext w w' ∧ St w' M162 F [Blk b4 (.cells #[vI x207] 3 (0,0)),Blk b1 (.cells #[.slice A0 a0.length c0] 115 (0,0))]) ?_ ?_
    ·clear o208H
     have H:=o208h
     rcases Zh H with ⟨hb209,H⟩ | ⟨hb209,H⟩
     ·refine QL (congrArg Value.bool hb209) ?_
      refine QA (W_v (vI y164) (QC rfl) rfl (W_v (vI (IntKind.i64.wrap (y164 + (1:Int)))) (QT rfl rfl rfl rfl) rfl ?_))
      refine Q5 S 0 rfl ty3 rfl rfl [vI (IntKind.i64.wrap (y164 + (1:Int)))] rfl rfl rfl #[vI (IntKind.i64.wrap (y164 + (1:Int)))] rfl rfl ?_
      intro w210 E' S
      replace E:=E.trans E'
      refine QB (tn ?_)
      exact ⟨(IntKind.i64.wrap (y164 + (1:Int))),Option.some.inj H,⟨rfl,rfl,rfl,trivial⟩,E,S.pick [0,1] (by decide)⟩
     refine QJ (congrArg Value.bool hb209) (Qg (tn ?_))
     exact ⟨y164,Option.some.inj H,⟨rfl,rfl,rfl,trivial⟩,E,S.pick [0,1] (by decide)⟩
    rintro ρ w211 ⟨x207,rfl,hρ,E,S⟩
    rw [QN hρ]
    have H:=o208H
    refine bn (tn ?_)
    exact ⟨x207,Option.some.inj H,⟨rfl,rfl,rfl,trivial⟩,E,S.pick [0,1] (by decide)⟩
  rintro ρ w212 ⟨x189,rfl,hρ,E,S⟩
  rw [QN hρ]
  have H:=o190H
  obtain rfl:=Option.some.inj H
  exact UD trivial LE167 E (St.close_ex (φ:=(fun _ _=>True)) (hφ:=(fun _ _ _ _ _=>trivial)) () trivial (S.pick [0,1] (by decide)))
 intro w213 M214 Γ' hM215 E' hΨ S
 obtain rfl:Γ' = _:=hΨ
 replace E:=E.trans E'
 replace HM:=Hp.le_trans HM hM215
 replace hr0:=SlR.mono hr0 hM215
 have H:=o161H
 rcases o161 with x113 | _
 ·replace H:=elimL H
  refine Uc ?_
  replace S:St w213 M214 F (AE (ι:=Unit) (fun (i:Unit)=>[Blk b4 (.cells #[vI x113] 3 (0,0)),Blk b1 (.cells #[.slice A0 a0.length c0] 115 (0,0))]) (fun _ _=>True) (fun _ _ _ _ _=>trivial) :: [Blk b10 (.cells #[.slice A0 a0.length c0] 115 (0,0)),Blk b12 (.cells #[vI a1] 3 (0,0))]):=S
  obtain ⟨_,_,S⟩:=S.open_ex
  replace S:St w213 M214 F [_,_,_,_]:=S
  refine bn (tn (QE (QA (W_v (.slice A0 a0.length c0) (QR (S.blk 1 rfl) ty115 rfl rfl) rfl (W_v (vI x113) (QR (S.blk 0 rfl) ty3 rfl rfl) rfl (W_v (vI x113) (QR (S.blk 0 rfl) ty3 rfl rfl) rfl ?_))))))
  obtain ⟨⟨p216,p217,p218⟩,H⟩:=Zt H
  obtain ⟨hs219,hx220⟩:=sl_hm hr0 p216 p217 p218
  refine W_v (.slice A0 (List.take x113.toNat a0).length x113.toNat) (hx220 Tryd.underlying115 ty117 rfl rfl rfl) rfl ?_
  obtain ⟨t221,ht222,H⟩:=QX H
  refine YJ fn146 (ZR.con k M214 A0 x113.toNat (List.take x113.toNat a0) t221 hs219 ht222) S rfl rfl (by rintro _ _ _ ⟨_,_,_,rfl⟩; exact (QS (Yb (fun _ _ _ _ h=>h)) Qd)) ?_
  rintro _ w226 _ Γ' E' S ⟨A223,c224,rfl,rfl⟩
  replace E:=E.trans E'
  refine W_v (.slice A223 t221.length c224) (QD rfl) rfl (QB (tn ?_))
  refine QY ?_
  obtain rfl:=Option.some.inj H
  exact ⟨_,_,_,fun w1 e1=>QO (vs:=[.slice A223 t221.length c224]) (FA.cons (rfl) (FA.nil)),HM,E,S.pick [0] (by decide),⟨A223,c224,rfl,rfl⟩⟩
 ·cases H
def Zl (k:Nat) (a0:List Qu):Option (List Qu) :=
 if ([]:List Qu).length + a0.length ≤ 4398046511104 then some (([]:List Qu) ++ a0) else none
theorem Zl.mono {k:Nat} {a0:List Qu}:OLe (Zl k a0) (Zl (k + 1) a0):=by
 unfold Zl
 exact mo
theorem Zl.con (k:Nat) (M:Hp) (A0:Option Addr) (c0:Nat) (a0:(List Qu)) (r:(List Qu)) (hr0:SlR Qr M (.slice A0 a0.length c0) a0) (h:Zl k a0 = some r):Con Tryd.prog 80 #[.slice A0 a0.length c0] M [] (fun v M' Γ'=>∃ (A0:Option Addr) (c0:Nat),v = .slice A0 r.length c0 ∧ Γ' = [Row Qr 72 (.slice A0 r.length c0) r]):=by
 have H:=h
 unfold Zl at H
 cases A0 with
 | none =>
  obtain ⟨_,H⟩:=Zt H
  obtain rfl:a0 = []:=SlW.none_nil hr0
  refine Qa Tryd.func80 rfl Tryd.ntmps80 Tryd.results80 rfl ?_
  intro w F rn S hrn
  have E:=Ext.refl w
  have HM:=Hp.le_refl M
  refine QE (QA (W_v (.slice none 0 0) (QD rfl) rfl (QB (tn (QE (QE (QA (W_v (.slice none ([]:List Qu).length c0) (QC rfl) rfl (W_v (.bool true) (Xd rfl rfl (run_equal_slice_nil _ _ _ _ _ _ Tryd.underlying32)) rfl (QB (tn (QL rfl (QE (QA (W_v (.slice none 0 0) (QD rfl) rfl ?_)))))))))))))))
  refine QB (tn ?_)
  refine QY ?_
  refine tr (?_)
  obtain rfl:=Option.some.inj H
  replace S:=S.row_nil Qr 72
  exact ⟨_,_,_,fun w1 e1=>QO (vs:=[.slice none 0 0]) (FA.cons (rfl) (FA.nil)),HM,E,S.pick [0] (by decide),⟨none,0,rfl,rfl⟩⟩
 | some ad =>
  refine Qa Tryd.func80 rfl Tryd.ntmps80 Tryd.results80 rfl ?_
  intro w F rn S hrn
  have E:=Ext.refl w
  have HM:=Hp.le_refl M
  refine QE (QA (W_v (.slice none 0 0) (QD rfl) rfl (QB (tn (QE (QE (QA (W_v (.slice (some ad) a0.length c0) (QC rfl) rfl (W_v (.bool false) (Xd rfl rfl (run_equal_slice_nil _ _ _ _ _ _ Tryd.underlying32)) rfl (QB (tn (QJ rfl (Qg (tn (QE ?_)))))))))))))))
  refine QA ?_
  refine Y6 S #[] Tryd.underlying32 ty72 rfl rfl #[] (by as_aux_lemma=>kernel_rfl) (by as_aux_lemma=>kernel_rfl) rfl ?_
  intro b2 w3 E' S
  replace E:=E.trans E'
  replace S:=S.blk_row (r:=Qr) (l:=([]:List Qu)) 0 rfl 0 (Nat.le_refl 0) rfl Cells.nil
  refine W_v (.slice (some ad) a0.length c0) (QC rfl) rfl ?_
  obtain ⟨p5,H⟩:=Zt H
  obtain ⟨src6,hs7,hC8⟩:=Yj (P:=Tryd.prog) (ρ:=Qr) (l:=a0) (SlR.world hr0 S) (by decide)
  refine XN S 0 rfl rfl rfl Tryd.underlying32 (.inl Tryd.underlying32) ty72 rfl (by decide) (by decide) hs7 hC8 rfl (by omega) rfl ?_
  intro v9 w10 E' S
  replace E:=E.trans E'
  obtain ⟨A11,c12,rfl,_⟩:=(S.row_read 0 rfl).form
  refine W_v (.slice A11 (([]:List Qu) ++ a0).length c12) (QD rfl) rfl (QB (tn ?_))
  refine QY ?_
  obtain rfl:=Option.some.inj H
  exact ⟨_,_,_,fun w1 e1=>QO (vs:=[.slice A11 (([]:List Qu) ++ a0).length c12]) (FA.cons (rfl) (FA.nil)),HM,E,S.pick [0] (by decide),⟨A11,c12,rfl,rfl⟩⟩
def XT (k:Nat) (a0:QG):Option (QG) :=
 (Option.bind (Zl k a0.Answer.Pairs) (fun t7=>some (⟨a0.What,a0.Task,a0.Call,⟨a0.Answer.Err,a0.Answer.Found,a0.Answer.Value,t7⟩⟩:QG)))
theorem XT.mono {k:Nat} {a0:QG}:OLe (XT k a0) (XT (k + 1) a0):=by
 unfold XT
 have m1:=@Zl.mono
 exact mo
theorem XT.con (k:Nat) (M:Hp) (A0_0:Option Addr) (c0_0:Nat) (a0:QG) (r:QG) (hr0_0:SlR Qr M (.slice A0_0 a0.Answer.Pairs.length c0_0) a0.Answer.Pairs) (h:XT k a0 = some r):Con Tryd.prog 68 #[.agg #[vU a0.What,vI a0.Task,vI a0.Call,vI a0.Answer.Err,.bool a0.Answer.Found,vS a0.Answer.Value,.slice A0_0 a0.Answer.Pairs.length c0_0]] M [] (fun v M' Γ'=>∃ (A0:Option Addr) (c0:Nat),v = .agg #[vU r.What,vI r.Task,vI r.Call,vI r.Answer.Err,.bool r.Answer.Found,vS r.Answer.Value,.slice A0 r.Answer.Pairs.length c0] ∧ Γ' = [Row Qr 72 (.slice A0 r.Answer.Pairs.length c0) r.Answer.Pairs]):=by
 refine Qa Tryd.func68 rfl Tryd.ntmps68 Tryd.results68 rfl ?_
 intro w F rn S hrn
 have E:=Ext.refl w
 have HM:=Hp.le_refl M
 have H:=h
 unfold XT at H
 refine QE (QA ?_)
 refine YO S #[vU a0.What,vI a0.Task,vI a0.Call,vI a0.Answer.Err,.bool a0.Answer.Found,vS a0.Answer.Value,.slice A0_0 a0.Answer.Pairs.length c0_0] rfl rfl rfl ?_
 intro b1 w2 E' S
 replace E:=E.trans E'
 refine Zu S cz5 ty55 rfl rfl ?_
 intro b4 w5 E' S
 replace E:=E.trans E'
 refine QB (tn (QE (QA (W_v (pt b1 3) (QF (o:=0) (off:=3) Tryd.underlying55 rfl ty34 rfl rfl) rfl (W_v (pt b1 6) (QF (o:=3) (off:=3) Tryd.underlying34 rfl ty32 rfl rfl) rfl (W_v (.slice A0_0 a0.Answer.Pairs.length c0_0) (QR (S.blk 1 rfl) ty32 rfl rfl) rfl ?_))))))
 obtain ⟨t7,ht8,H⟩:=QX H
 refine YJ fn80 (Zl.con k M A0_0 c0_0 a0.Answer.Pairs t7 hr0_0 ht8) S rfl rfl (by rintro _ _ _ ⟨_,_,_,rfl⟩; exact (QS (Yb (fun _ _ _ _ h=>h)) Qd)) ?_
 rintro _ w12 _ Γ' E' S ⟨A9,c10,rfl,rfl⟩
 replace E:=E.trans E'
 refine W_v (pt b1 3) (QF (o:=0) (off:=3) Tryd.underlying55 rfl ty34 rfl rfl) rfl (W_v (pt b1 6) (QF (o:=3) (off:=3) Tryd.underlying34 rfl ty32 rfl rfl) rfl ?_)
 refine Q5 S 2 rfl ty32 rfl rfl [.slice A9 t7.length c10] rfl rfl rfl #[vU a0.What,vI a0.Task,vI a0.Call,vI a0.Answer.Err,.bool a0.Answer.Found,vS a0.Answer.Value,.slice A9 t7.length c10] rfl rfl ?_
 intro w13 E' S
 replace E:=E.trans E'
 refine QB (tn (QE (QA (W_v (.agg #[vU a0.What,vI a0.Task,vI a0.Call,vI a0.Answer.Err,.bool a0.Answer.Found,vS a0.Answer.Value,.slice A9 t7.length c10]) (Qh (S.blk 2 rfl) ty55 rfl (QI rfl) rfl rfl) rfl ?_))))
 refine Q5 S 1 rfl ty55 rfl rfl [vU a0.What,vI a0.Task,vI a0.Call,vI a0.Answer.Err,.bool a0.Answer.Found,vS a0.Answer.Value,.slice A9 t7.length c10] rfl rfl rfl #[vU a0.What,vI a0.Task,vI a0.Call,vI a0.Answer.Err,.bool a0.Answer.Found,vS a0.Answer.Value,.slice A9 t7.length c10] (by as_aux_lemma=>kernel_rfl) rfl ?_
 intro w14 E' S
 replace E:=E.trans E'
 refine QB (tn ?_)
 refine QY ?_
 obtain rfl:=Option.some.inj H
 exact ⟨_,_,_,fun w1 e1=>QO (vs:=[.agg #[vU a0.What,vI a0.Task,vI a0.Call,vI a0.Answer.Err,.bool a0.Answer.Found,vS a0.Answer.Value,.slice A9 t7.length c10]]) (FA.cons (⟨_,rfl,Qv ty55 ((S.of_eq e1).blk 1 rfl) (QI rfl) rfl (by decide)⟩) (FA.nil)),HM,E,S.pick [0] (by decide),⟨A9,c10,rfl,rfl⟩⟩
def Y2 (a0:(List QG)):Nat → List QG → Int → Option ((List QG))
 | 0,_,_=>none
 | k + 1,x165,x169=>(if (decide (x169 < (a0.length:Int))) = true then (if 0 ≤ x169 ∧ x169 < (a0.length:Int) then (Option.bind (α:=List QG) (if ((rd a0 x169).What == (3:Int)) = true then (if x165.length + ([(⟨(2:Int),((rd a0 x169).Task),((rd a0 x169).Call),⟨(0:Int),false,([]:Str),([]:(List Qu))⟩⟩:QG)]:List QG).length ≤ 1759218604441 then some ((x165 ++ ([(⟨(2:Int),((rd a0 x169).Task),((rd a0 x169).Call),⟨(0:Int),false,([]:Str),([]:(List Qu))⟩⟩:QG)]:List QG))) else none) else some (x165)) (fun x292=>(if x292.length + ([(rd a0 x169)]:List QG).length ≤ 1759218604441 then Y2 a0 k (x292 ++ ([(rd a0 x169)]:List QG)) (IntKind.i64.wrap (x169 + (1:Int))) else none))) else none) else some (x165))
theorem Y2.mono {a0:(List QG)}:∀ {kl:Nat} {x0 x1},OLe (Y2 a0 kl x0 x1) (Y2 a0 (kl + 1) x0 x1):=by
 intro kl
 induction kl with
 | zero=>intros; exact OLe.none
 | succ kl ih =>
  intros
  rw [Y2.eq_2,Y2.eq_2]
  exact mo
def XO (k:Nat) (a0:(List QG)):Option ((List QG)) :=
 (Option.bind (Y2 a0 k ([]:List QG) (0:Int)) (fun x242=>some x242))
theorem XO.mono {k:Nat} {a0:(List QG)}:OLe (XO k a0) (XO (k + 1) a0):=by
 unfold XO
 have m1:=@Y2.mono
 exact mo
theorem XO.con (k:Nat) (M:Hp) (A0:Option Addr) (c0:Nat) (a0:(List QG)) (r:(List QG)) (hr0:SlR QK M (.slice A0 a0.length c0) a0) (h:XO k a0 = some r):Con Tryd.prog 31 #[.slice A0 a0.length c0] M [] (fun v M' Γ'=>∃ (A0:Option Addr) (c0:Nat),v = .slice A0 r.length c0 ∧ Γ' = [Row QK 55 (.slice A0 r.length c0) r]):=by
 refine Qa Tryd.func31 rfl Tryd.ntmps31 Tryd.results31 rfl ?_
 intro w F rn S hrn
 have E:=Ext.refl w
 have HM:=Hp.le_refl M
 have H:=h
 unfold XO at H
 refine QE (QA (W_v (.slice none 0 0) (QD rfl) rfl (QB (tn (QE (QA (W_v (.slice none 0 0) (QD rfl) rfl (QB (tn (QE (QE (QA (W_v (.slice A0 a0.length c0) (QC rfl) rfl (W_v (vI (a0.length:Int)) (Qt (n:=a0.length) Tryd.underlying25 rfl) rfl (W_v (vI 0) (QC rfl) rfl ?_)))))))))))))))
 refine QB (tn ?_)
 obtain ⟨o246,o246h,o246H⟩:=QX H
 refine Ya (fun ρ w'=>∃ (x242:List QG) (A243:Option Addr) (c244:Nat),(x242) = o246 ∧ Qs ρ [(3,.slice A243 x242.length c244)] ∧ Ext w w' ∧ St w' M F [Row QK 55 (.slice A243 x242.length c244) x242]) ?_ ?_
 ·skip
  refine Y0 (fun n ρ w'=>∃ (x165:List QG) (x169:Int) (A166:Option Addr) (c167:Nat),Y2 a0 n x165 x169 = some o246 ∧ Qs ρ [(3,.slice A166 x165.length c167),(6,.slice A0 a0.length c0),(7,vI (a0.length:Int)),(8,vI x169)] ∧ Ext w w' ∧ St w' M F [Row QK 55 (.slice A166 x165.length c167) x165]) k ?_ ?_
  ·skip
   replace S:=S.row_nil QK 55
   exact ⟨([]:List QG),(0:Int),none,0,o246h,⟨rfl,rfl,rfl,rfl,trivial⟩,E,S.pick [0] (by decide)⟩
  ·intro n
   rintro ρ w248 ⟨x165,x169,A166,c167,H,hρ,E,S⟩
   rw [QN hρ]
   cases n with
   | zero=>cases H
   | succ k =>
    rw [Y2.eq_2] at H
    refine QE (QA (W_v (.bool (decide (x169 < (a0.length:Int)))) (QT rfl rfl rfl rfl) rfl (QB (tn (QE ?_)))))
    rcases Zh H with ⟨hb249,H⟩ | ⟨hb249,H⟩
    ·refine QL (congrArg Value.bool hb249) ?_
     refine Qg (tn (QE ?_))
     refine Z0 ?_
     refine QE (QA ?_)
     obtain ⟨⟨p250,p251⟩,H⟩:=Zt H
     obtain ⟨b252,o253,cs254,_,_,ee259,hb255,vs256,hR257,hc258⟩:=SlW.at' hr0 p250 p251
     obtain ⟨v263,hs262,rfl⟩:=hR257
     obtain ⟨A260,c261,rfl,_⟩:=hs262.form
     refine W_v (.pointer (some ⟨b252,o253 + x169.toNat * 7,none⟩)) (Qe Tryd.underlying25 ty55 (slA ee259) rfl p250 p251) rfl (W_v (.agg #[vU ((rd a0 x169).What),vI ((rd a0 x169).Task),vI ((rd a0 x169).Call),vI ((rd a0 x169).Answer.Err),.bool ((rd a0 x169).Answer.Found),vS ((rd a0 x169).Answer.Value),.slice A260 ((rd a0 x169).Answer.Pairs).length c261]) (Qh (S.frz hb255) ty55 rfl (XC hc258 0 rfl) rfl rfl) rfl ?_)
     refine Zu S cz5 ty55 rfl rfl ?_
     intro b264 w265 E' S
     replace E:=E.trans E'
     refine Q5 S 0 rfl ty55 rfl rfl [vU ((rd a0 x169).What),vI ((rd a0 x169).Task),vI ((rd a0 x169).Call),vI ((rd a0 x169).Answer.Err),.bool ((rd a0 x169).Answer.Found),vS ((rd a0 x169).Answer.Value),.slice A260 ((rd a0 x169).Answer.Pairs).length c261] rfl rfl rfl #[vU ((rd a0 x169).What),vI ((rd a0 x169).Task),vI ((rd a0 x169).Call),vI ((rd a0 x169).Answer.Err),.bool ((rd a0 x169).Answer.Found),vS ((rd a0 x169).Answer.Value),.slice A260 ((rd a0 x169).Answer.Pairs).length c261] (by as_aux_lemma=>kernel_rfl) rfl ?_
     intro w267 E' S
     replace E:=E.trans E'
     refine QB (tn (QE (QE (QA (W_v (pt b264 0) (QF (o:=0) (off:=0) Tryd.underlying55 rfl ty5 rfl rfl) rfl (W_v (vU ((rd a0 x169).What)) (QR (S.blk 0 rfl) ty5 rfl rfl) rfl (W_v (.bool ((rd a0 x169).What == (3:Int))) (QT rfl rfl rfl rfl) rfl (QB (tn ?_)))))))))
     obtain ⟨o296,o296h,o296H⟩:=QX H
     refine Xg (fun ρ w'=>∃ (x292:List QG) (A293:Option Addr) (c294:Nat),(x292) = o296 ∧ Qs ρ [(3,.slice A293 x292.length c294),(5,pt b264 0),(6,.slice A0 a0.length c0),(7,vI (a0.length:Int)),(8,vI x169)] ∧ Ext w w' ∧ St w' M F [Row QK 55 (.slice A293 x292.length c294) x292,B55 b264 (rd a0 x169) A260 c261]) ?_ ?_
     ·clear o296H
      have H:=o296h
      rcases Zh H with ⟨hb297,H⟩ | ⟨hb297,H⟩
      ·refine QL (congrArg Value.bool hb297) ?_
       refine QA (W_v (.slice A166 x165.length c167) (QC rfl) rfl (W_v (pt b264 1) (QF (o:=0) (off:=1) Tryd.underlying55 rfl ty3 rfl rfl) rfl (W_v (vI ((rd a0 x169).Task)) (QR (S.blk 0 rfl) ty3 rfl rfl) rfl (W_v (pt b264 2) (QF (o:=0) (off:=2) Tryd.underlying55 rfl ty3 rfl rfl) rfl (W_v (vI ((rd a0 x169).Call)) (QR (S.blk 0 rfl) ty3 rfl rfl) rfl (W_v (.agg #[vU 2,vI ((rd a0 x169).Task),vI ((rd a0 x169).Call),vI 0,.bool false,vS ([]:Str),.slice none 0 0]) (ZN (pl:=[(0,1),(1,1),(2,1),(3,4)]) #[vU 2,vI ((rd a0 x169).Task),vI ((rd a0 x169).Call),vI 0,.bool false,vS ([]:Str),.slice none 0 0] Tryd.underlying55 ty55 (by as_aux_lemma=>kernel_rfl) rfl (by as_aux_lemma=>kernel_rfl)) rfl ?_))))))
       refine Y6 S #[vU 2,vI ((rd a0 x169).Task),vI ((rd a0 x169).Call),vI 0,.bool false,vS ([]:Str),.slice none 0 0] Tryd.underlying25 ty55 rfl rfl cz5 (by as_aux_lemma=>kernel_rfl) (by as_aux_lemma=>kernel_rfl) rfl ?_
       intro b298 w299 E' S
       replace E:=E.trans E'
       replace S:=S.blk_row (r:=QK) (l:=([(⟨(2:Int),((rd a0 x169).Task),((rd a0 x169).Call),⟨(0:Int),false,([]:Str),([]:(List Qu))⟩⟩:QG)]:List QG)) 0 rfl 1 (Nat.le_refl 1) rfl (Cells.cons (vs:=[vU 2,vI ((rd a0 x169).Task),vI ((rd a0 x169).Call),vI 0,.bool false,vS ([]:Str),.slice none 0 0]) (⟨_,(SlW.nil _ _),rfl⟩) Cells.nil)
       obtain ⟨p301,H⟩:=Zt H
       obtain ⟨src302,hs303,hC304⟩:=Yj (P:=Tryd.prog) (ρ:=QK) (l:=([(⟨(2:Int),((rd a0 x169).Task),((rd a0 x169).Call),⟨(0:Int),false,([]:Str),([]:(List Qu))⟩⟩:QG)]:List QG)) (S.row_read 0 rfl) (by decide)
       refine XN S 2 rfl rfl rfl Tryd.underlying25 (.inl Tryd.underlying25) ty55 rfl (by decide) (by decide) hs303 hC304 rfl (by omega) rfl ?_
       intro v305 w306 E' S
       replace E:=E.trans E'
       obtain ⟨A307,c308,rfl,_⟩:=(S.row_read 2 rfl).form
       refine W_v (.slice A307 (x165 ++ ([(⟨(2:Int),((rd a0 x169).Task),((rd a0 x169).Call),⟨(0:Int),false,([]:Str),([]:(List Qu))⟩⟩:QG)]:List QG)).length c308) (QD rfl) rfl (QB (tn ?_))
       exact ⟨(x165 ++ ([(⟨(2:Int),((rd a0 x169).Task),((rd a0 x169).Call),⟨(0:Int),false,([]:Str),([]:(List Qu))⟩⟩:QG)]:List QG)),A307,c308,Option.some.inj H,⟨rfl,rfl,rfl,rfl,rfl,trivial⟩,E,S.pick [2,1] (by decide)⟩
      refine QJ (congrArg Value.bool hb297) (Qg (tn ?_))
      exact ⟨x165,A166,c167,Option.some.inj H,⟨rfl,rfl,rfl,rfl,rfl,trivial⟩,E,S.pick [1,0] (by decide)⟩
     rintro ρ w309 ⟨x292,A293,c294,rfl,hρ,E,S⟩
     rw [QN hρ]
     have H:=o296H
     refine tn (QA (W_v (.slice A293 x292.length c294) (QC rfl) rfl (W_v (.agg #[vU ((rd a0 x169).What),vI ((rd a0 x169).Task),vI ((rd a0 x169).Call),vI ((rd a0 x169).Answer.Err),.bool ((rd a0 x169).Answer.Found),vS ((rd a0 x169).Answer.Value),.slice A260 ((rd a0 x169).Answer.Pairs).length c261]) (Qh (S.blk 1 rfl) ty55 rfl (QI rfl) rfl rfl) rfl ?_)))
     refine Y6 S #[vU ((rd a0 x169).What),vI ((rd a0 x169).Task),vI ((rd a0 x169).Call),vI ((rd a0 x169).Answer.Err),.bool ((rd a0 x169).Answer.Found),vS ((rd a0 x169).Answer.Value),.slice A260 ((rd a0 x169).Answer.Pairs).length c261] Tryd.underlying25 ty55 rfl rfl cz5 (by as_aux_lemma=>kernel_rfl) (by as_aux_lemma=>kernel_rfl) rfl ?_
     intro b310 w311 E' S
     replace E:=E.trans E'
     replace S:=S.blk_row (r:=QK) (l:=([(rd a0 x169)]:List QG)) 0 rfl 1 (Nat.le_refl 1) rfl (Cells.cons (vs:=[vU ((rd a0 x169).What),vI ((rd a0 x169).Task),vI ((rd a0 x169).Call),vI ((rd a0 x169).Answer.Err),.bool ((rd a0 x169).Answer.Found),vS ((rd a0 x169).Answer.Value),.slice A260 ((rd a0 x169).Answer.Pairs).length c261]) (⟨_,hs262,rfl⟩) Cells.nil)
     obtain ⟨p313,H⟩:=Zt H
     obtain ⟨src314,hs315,hC316⟩:=Yj (P:=Tryd.prog) (ρ:=QK) (l:=([(rd a0 x169)]:List QG)) (S.row_read 0 rfl) (by decide)
     refine XN S 1 rfl rfl rfl Tryd.underlying25 (.inl Tryd.underlying25) ty55 rfl (by decide) (by decide) hs315 hC316 rfl (by omega) rfl ?_
     intro v317 w318 E' S
     replace E:=E.trans E'
     obtain ⟨A319,c320,rfl,_⟩:=(S.row_read 1 rfl).form
     refine W_v (.slice A319 (x292 ++ ([(rd a0 x169)]:List QG)).length c320) (QD rfl) rfl (QB (bn (tn (QA (W_v (vI (IntKind.i64.wrap (x169 + (1:Int)))) (QT rfl rfl rfl rfl) rfl (W_v (vI (IntKind.i64.wrap (x169 + (1:Int)))) (QC rfl) rfl (QB (tn ?_))))))))
     exact ⟨k,Nat.lt_succ_self k,⟨(x292 ++ ([(rd a0 x169)]:List QG)),(IntKind.i64.wrap (x169 + (1:Int))),A319,c320,H,⟨rfl,rfl,rfl,rfl,trivial⟩,E,S.pick [1] (by decide)⟩⟩
    refine QJ (congrArg Value.bool hb249) ?_
    refine Yo ?_
    refine tx (tx (bsm (?_)))
    refine tn ?_
    exact ⟨x165,A166,c167,Option.some.inj H,⟨rfl,trivial⟩,E,S.pick [0] (by decide)⟩
 rintro ρ w321 ⟨x242,A243,c244,rfl,hρ,E,S⟩
 rw [QN hρ]
 have H:=o246H
 refine tn ?_
 as_aux_lemma =>
 refine QE (QA (W_v (.slice A243 x242.length c244) (QC rfl) rfl (W_v (.slice A243 x242.length c244) (QD rfl) rfl (QB (tn ?_)))))
 refine QY ?_
 obtain rfl:=Option.some.inj H
 exact ⟨_,_,_,fun w1 e1=>QO (vs:=[.slice A243 x242.length c244]) (FA.cons (rfl) (FA.nil)),HM,E,S.pick [0] (by decide),⟨A243,c244,rfl,rfl⟩⟩
def YA (k:Nat) (a0:List Int):Option (List Int) :=
 if ([]:List Int).length + a0.length ≤ 17592186044416 then some (([]:List Int) ++ a0) else none
theorem YA.mono {k:Nat} {a0:List Int}:OLe (YA k a0) (YA (k + 1) a0):=by
 unfold YA
 exact mo
theorem YA.con (k:Nat) (M:Hp) (A0:Option Addr) (c0:Nat) (a0:(List Int)) (r:(List Int)) (hr0:SlR (rInt .i64) M (.slice A0 a0.length c0) a0) (h:YA k a0 = some r):Con Tryd.prog 36 #[.slice A0 a0.length c0] M [] (fun v M' Γ'=>∃ (A0:Option Addr) (c0:Nat),v = .slice A0 r.length c0 ∧ Γ' = [Row (rInt .i64) 3 (.slice A0 r.length c0) r]):=by
 have H:=h
 unfold YA at H
 cases A0 with
 | none =>
  obtain ⟨_,H⟩:=Zt H
  obtain rfl:a0 = []:=SlW.none_nil hr0
  refine Qa Tryd.func36 rfl Tryd.ntmps36 Tryd.results36 rfl ?_
  intro w F rn S hrn
  have E:=Ext.refl w
  have HM:=Hp.le_refl M
  refine QE (QA (W_v (.slice none 0 0) (QD rfl) rfl (QB (tn (QE (QE (QA (W_v (.slice none ([]:List Int).length c0) (QC rfl) rfl (W_v (.bool true) (Xd rfl rfl (run_equal_slice_nil _ _ _ _ _ _ Tryd.underlying36)) rfl (QB (tn (QL rfl (QE (QA (W_v (.slice none 0 0) (QD rfl) rfl ?_)))))))))))))))
  refine QB (tn ?_)
  refine QY ?_
  refine tr (?_)
  obtain rfl:=Option.some.inj H
  replace S:=S.row_nil (rInt .i64) 3
  exact ⟨_,_,_,fun w1 e1=>QO (vs:=[.slice none 0 0]) (FA.cons (rfl) (FA.nil)),HM,E,S.pick [0] (by decide),⟨none,0,rfl,rfl⟩⟩
 | some ad =>
  refine Qa Tryd.func36 rfl Tryd.ntmps36 Tryd.results36 rfl ?_
  intro w F rn S hrn
  have E:=Ext.refl w
  have HM:=Hp.le_refl M
  refine QE (QA (W_v (.slice none 0 0) (QD rfl) rfl (QB (tn (QE (QE (QA (W_v (.slice (some ad) a0.length c0) (QC rfl) rfl (W_v (.bool false) (Xd rfl rfl (run_equal_slice_nil _ _ _ _ _ _ Tryd.underlying36)) rfl (QB (tn (QJ rfl (Qg (tn (QE ?_)))))))))))))))
  refine QA ?_
  refine Y6 S #[] Tryd.underlying36 ty3 rfl rfl #[] (by as_aux_lemma=>kernel_rfl) (by as_aux_lemma=>kernel_rfl) rfl ?_
  intro b2 w3 E' S
  replace E:=E.trans E'
  replace S:=S.blk_row (r:=(rInt .i64)) (l:=([]:List Int)) 0 rfl 0 (Nat.le_refl 0) rfl Cells.nil
  refine W_v (.slice (some ad) a0.length c0) (QC rfl) rfl ?_
  obtain ⟨p5,H⟩:=Zt H
  obtain ⟨src6,hs7,hC8⟩:=Yj (P:=Tryd.prog) (ρ:=(rInt .i64)) (l:=a0) (SlR.world hr0 S) (by decide)
  refine XN S 0 rfl rfl rfl Tryd.underlying36 (.inl Tryd.underlying36) ty3 rfl (by decide) (by decide) hs7 hC8 rfl (by omega) rfl ?_
  intro v9 w10 E' S
  replace E:=E.trans E'
  obtain ⟨A11,c12,rfl,_⟩:=(S.row_read 0 rfl).form
  refine W_v (.slice A11 (([]:List Int) ++ a0).length c12) (QD rfl) rfl (QB (tn ?_))
  refine QY ?_
  obtain rfl:=Option.some.inj H
  exact ⟨_,_,_,fun w1 e1=>QO (vs:=[.slice A11 (([]:List Int) ++ a0).length c12]) (FA.cons (rfl) (FA.nil)),HM,E,S.pick [0] (by decide),⟨A11,c12,rfl,rfl⟩⟩
theorem clone71:IsClone Tryd.prog 71:=⟨_,Tryd.func71,by kernel_rfl,by kernel_rfl,by kernel_rfl,by kernel_rfl⟩
theorem maps_Clone_90.con (M:Hp) (A:Option Addr) (l:List (ZO × Int)):Con Tryd.prog 55 #[.map (mb A)] M [QV QH (Value.int .i64) A l] (fun v M' Γ'=>∃ b:Nat,v = .map (mb (some ⟨b,0,none⟩)) ∧ Γ' = [QV QH (Value.int .i64) (some ⟨b,0,none⟩) l,QV QH (Value.int .i64) A l]):=by
 refine Qa Tryd.func55 rfl Tryd.ntmps55 Tryd.results55 rfl ?_
 intro w F rn S hrn
 have E:=Ext.refl w
 have HM:=Hp.le_refl M
 obtain ⟨b0,rfl,_⟩:=S.mapC 0 rfl
 refine QE (QA (W_v (.map none) (QD rfl) rfl (QB (tn (QE (QE (QA (W_v (.map (mb (some ⟨b0,0,none⟩))) (QC rfl) rfl (W_v (.bool false) (Vl Tryd.underlying90 rfl rfl) rfl (QB (tn (QJ rfl (Qg (tn (QE ?_)))))))))))))))
 refine QA (W_v (.map (mb (some ⟨b0,0,none⟩))) (QC rfl) rfl (W_v (.iface 90 (.map (mb (some ⟨b0,0,none⟩)))) (VN Tryd.underlying90 rfl) rfl ?_))
 refine Vg clone71 S 0 rfl rfl rfl ?_
 intro b w1 E' S
 replace E:=E.trans E'
 refine W_v (.map (mb (some ⟨b,0,none⟩))) (Vc Tryd.underlying90 rfl) rfl (W_v (.map (mb (some ⟨b,0,none⟩))) (QD rfl) rfl (QB (tn ?_)))
 refine QY ?_
 exact ⟨_,_,_,fun w1 e1=>QO (vs:=[.map (mb (some ⟨b,0,none⟩))]) (FA.cons (rfl) (FA.nil)),HM,E,S.pick [0,1] (by decide),⟨b,rfl,rfl⟩⟩
theorem maps_Clone_91.con (M:Hp) (A:Option Addr) (l:List (Int × Int)):Con Tryd.prog 56 #[.map (mb A)] M [QV (Value.int .i64) (Value.int .i64) A l] (fun v M' Γ'=>∃ b:Nat,v = .map (mb (some ⟨b,0,none⟩)) ∧ Γ' = [QV (Value.int .i64) (Value.int .i64) (some ⟨b,0,none⟩) l,QV (Value.int .i64) (Value.int .i64) A l]):=by
 refine Qa Tryd.func56 rfl Tryd.ntmps56 Tryd.results56 rfl ?_
 intro w F rn S hrn
 have E:=Ext.refl w
 have HM:=Hp.le_refl M
 obtain ⟨b0,rfl,_⟩:=S.mapC 0 rfl
 refine QE (QA (W_v (.map none) (QD rfl) rfl (QB (tn (QE (QE (QA (W_v (.map (mb (some ⟨b0,0,none⟩))) (QC rfl) rfl (W_v (.bool false) (Vl Tryd.underlying91 rfl rfl) rfl (QB (tn (QJ rfl (Qg (tn (QE ?_)))))))))))))))
 refine QA (W_v (.map (mb (some ⟨b0,0,none⟩))) (QC rfl) rfl (W_v (.iface 91 (.map (mb (some ⟨b0,0,none⟩)))) (VN Tryd.underlying91 rfl) rfl ?_))
 refine Vg clone71 S 0 rfl rfl rfl ?_
 intro b w1 E' S
 replace E:=E.trans E'
 refine W_v (.map (mb (some ⟨b,0,none⟩))) (Vc Tryd.underlying91 rfl) rfl (W_v (.map (mb (some ⟨b,0,none⟩))) (QD rfl) rfl (QB (tn ?_)))
 refine QY ?_
 exact ⟨_,_,_,fun w1 e1=>QO (vs:=[.map (mb (some ⟨b,0,none⟩))]) (FA.cons (rfl) (FA.nil)),HM,E,S.pick [0,1] (by decide),⟨b,rfl,rfl⟩⟩
theorem maps_Clone_92.con (M:Hp) (A:Option Addr) (l:List (Str × Value)):Con Tryd.prog 57 #[.map (mb A)] M [QV encS (fun v:Value=>v) A l] (fun v M' Γ'=>∃ b:Nat,v = .map (mb (some ⟨b,0,none⟩)) ∧ Γ' = [QV encS (fun v:Value=>v) (some ⟨b,0,none⟩) l,QV encS (fun v:Value=>v) A l]):=by
 refine Qa Tryd.func57 rfl Tryd.ntmps57 Tryd.results57 rfl ?_
 intro w F rn S hrn
 have E:=Ext.refl w
 have HM:=Hp.le_refl M
 obtain ⟨b0,rfl,_⟩:=S.mapC 0 rfl
 refine QE (QA (W_v (.map none) (QD rfl) rfl (QB (tn (QE (QE (QA (W_v (.map (mb (some ⟨b0,0,none⟩))) (QC rfl) rfl (W_v (.bool false) (Vl Tryd.underlying92 rfl rfl) rfl (QB (tn (QJ rfl (Qg (tn (QE ?_)))))))))))))))
 refine QA (W_v (.map (mb (some ⟨b0,0,none⟩))) (QC rfl) rfl (W_v (.iface 92 (.map (mb (some ⟨b0,0,none⟩)))) (VN Tryd.underlying92 rfl) rfl ?_))
 refine Vg clone71 S 0 rfl rfl rfl ?_
 intro b w1 E' S
 replace E:=E.trans E'
 refine W_v (.map (mb (some ⟨b,0,none⟩))) (Vc Tryd.underlying92 rfl) rfl (W_v (.map (mb (some ⟨b,0,none⟩))) (QD rfl) rfl (QB (tn ?_)))
 refine QY ?_
 exact ⟨_,_,_,fun w1 e1=>QO (vs:=[.map (mb (some ⟨b,0,none⟩))]) (FA.cons (rfl) (FA.nil)),HM,E,S.pick [0,1] (by decide),⟨b,rfl,rfl⟩⟩
def Zk (k:Nat) (a0:List Zo):Option (List Zo) :=
 if ([]:List Zo).length + a0.length ≤ 8796093022208 then some (([]:List Zo) ++ a0) else none
theorem Zk.mono {k:Nat} {a0:List Zo}:OLe (Zk k a0) (Zk (k + 1) a0):=by
 unfold Zk
 exact mo
theorem Zk.con (k:Nat) (M:Hp) (A0:Option Addr) (c0:Nat) (a0:(List Zo)) (r:(List Zo)) (hr0:SlR QP M (.slice A0 a0.length c0) a0) (h:Zk k a0 = some r):Con Tryd.prog 58 #[.slice A0 a0.length c0] M [] (fun v M' Γ'=>∃ (A0:Option Addr) (c0:Nat),v = .slice A0 r.length c0 ∧ Γ' = [Row QP 122 (.slice A0 r.length c0) r]):=by
 have H:=h
 unfold Zk at H
 cases A0 with
 | none =>
  obtain ⟨_,H⟩:=Zt H
  obtain rfl:a0 = []:=SlW.none_nil hr0
  refine Qa Tryd.func58 rfl Tryd.ntmps58 Tryd.results58 rfl ?_
  intro w F rn S hrn
  have E:=Ext.refl w
  have HM:=Hp.le_refl M
  refine QE (QA (W_v (.slice none 0 0) (QD rfl) rfl (QB (tn (QE (QE (QA (W_v (.slice none ([]:List Zo).length c0) (QC rfl) rfl (W_v (.bool true) (Xd rfl rfl (run_equal_slice_nil _ _ _ _ _ _ Tryd.underlying93)) rfl (QB (tn (QL rfl (QE (QA (W_v (.slice none 0 0) (QD rfl) rfl ?_)))))))))))))))
  refine QB (tn ?_)
  refine QY ?_
  refine tr (?_)
  obtain rfl:=Option.some.inj H
  replace S:=S.row_nil QP 122
  exact ⟨_,_,_,fun w1 e1=>QO (vs:=[.slice none 0 0]) (FA.cons (rfl) (FA.nil)),HM,E,S.pick [0] (by decide),⟨none,0,rfl,rfl⟩⟩
 | some ad =>
  refine Qa Tryd.func58 rfl Tryd.ntmps58 Tryd.results58 rfl ?_
  intro w F rn S hrn
  have E:=Ext.refl w
  have HM:=Hp.le_refl M
  refine QE (QA (W_v (.slice none 0 0) (QD rfl) rfl (QB (tn (QE (QE (QA (W_v (.slice (some ad) a0.length c0) (QC rfl) rfl (W_v (.bool false) (Xd rfl rfl (run_equal_slice_nil _ _ _ _ _ _ Tryd.underlying93)) rfl (QB (tn (QJ rfl (Qg (tn (QE ?_)))))))))))))))
  refine QA ?_
  refine Y6 S #[] Tryd.underlying93 ty122 rfl rfl #[] (by as_aux_lemma=>kernel_rfl) (by as_aux_lemma=>kernel_rfl) rfl ?_
  intro b2 w3 E' S
  replace E:=E.trans E'
  replace S:=S.blk_row (r:=QP) (l:=([]:List Zo)) 0 rfl 0 (Nat.le_refl 0) rfl Cells.nil
  refine W_v (.slice (some ad) a0.length c0) (QC rfl) rfl ?_
  obtain ⟨p5,H⟩:=Zt H
  obtain ⟨src6,hs7,hC8⟩:=Yj (P:=Tryd.prog) (ρ:=QP) (l:=a0) (SlR.world hr0 S) (by decide)
  refine XN S 0 rfl rfl rfl Tryd.underlying93 (.inl Tryd.underlying93) ty122 rfl (by decide) (by decide) hs7 hC8 rfl (by omega) rfl ?_
  intro v9 w10 E' S
  replace E:=E.trans E'
  obtain ⟨A11,c12,rfl,_⟩:=(S.row_read 0 rfl).form
  refine W_v (.slice A11 (([]:List Zo) ++ a0).length c12) (QD rfl) rfl (QB (tn ?_))
  refine QY ?_
  obtain rfl:=Option.some.inj H
  exact ⟨_,_,_,fun w1 e1=>QO (vs:=[.slice A11 (([]:List Zo) ++ a0).length c12]) (FA.cons (rfl) (FA.nil)),HM,E,S.pick [0] (by decide),⟨A11,c12,rfl,rfl⟩⟩
def XB (k:Nat) (a0:Int) (a1:Int):Option (Int × Int) :=
 (Option.bind (α:=Int) (some (IntKind.u64.wrap ((iand .u64 a0 (4294967295:Int)) * (iand .u64 a1 (4294967295:Int))))) (fun x1=>(Option.bind (α:=Int) (some (IntKind.u64.wrap ((ishr .u64 a0 (32:Int)) * (iand .u64 a1 (4294967295:Int))))) (fun x3=>(Option.bind (α:=Int) (some (iand .u64 (IntKind.u64.wrap (x3 + (ishr .u64 x1 (32:Int)))) (4294967295:Int))) (fun x5=>(Option.bind (α:=Int) (some (ishr .u64 (IntKind.u64.wrap (x3 + (ishr .u64 x1 (32:Int)))) (32:Int))) (fun x7=>(Option.bind (α:=Int) (some (IntKind.u64.wrap ((iand .u64 a0 (4294967295:Int)) * (ishr .u64 a1 (32:Int))))) (fun x9=>(Option.bind (α:=Int) (some (IntKind.u64.wrap ((ishr .u64 a0 (32:Int)) * (ishr .u64 a1 (32:Int))))) (fun x11=>(Option.bind (α:=Int) (some (IntKind.u64.wrap ((IntKind.u64.wrap (x11 + x7)) + (ishr .u64 (IntKind.u64.wrap (x5 + x9)) (32:Int))))) (fun x13=>some (x13,(IntKind.u64.wrap (a0 * a1)))))))))))))))))
theorem XB.mono {k:Nat} {a0:Int} {a1:Int}:OLe (XB k a0 a1) (XB (k + 1) a0 a1):=by
 unfold XB
 exact mo
theorem XB.con (k:Nat) (M:Hp) (a0:Int) (a1:Int) (r:Int × Int)  (h:XB k a0 a1 = some r):Con Tryd.prog 73 #[.int .u64 a0,.int .u64 a1] M [] (fun v M' Γ'=>v = .tuple #[.int .u64 r.1,.int .u64 r.2] ∧ Γ' = []):=by
 refine Qa Tryd.func73 rfl Tryd.ntmps73 Tryd.results73 rfl ?_
 intro w F rn S hrn
 have E:=Ext.refl w
 have HM:=Hp.le_refl M
 have H:=h
 unfold XB at H
 refine QE (QA (W_v (.int .u64 0) (QD rfl) rfl (W_v (.int .u64 0) (QD rfl) rfl (QB (tn (QE (QA (W_v (.int .u64 a0) (QC rfl) rfl (W_v (.int .u64 (iand .u64 a0 (4294967295:Int))) (Jg rfl rfl) rfl (W_v (.int .u64 (iand .u64 a0 (4294967295:Int))) (QD rfl) rfl (QB (tn (QE (QA (W_v (.int .u64 a0) (QC rfl) rfl ?_)))))))))))))))
 refine W_v (.int .u64 (ishr .u64 a0 (32:Int))) (Ug rfl rfl (by decide)) rfl (W_v (.int .u64 (ishr .u64 a0 (32:Int))) (QD rfl) rfl (QB (tn (QE (QA (W_v (.int .u64 a1) (QC rfl) rfl (W_v (.int .u64 (iand .u64 a1 (4294967295:Int))) (Jg rfl rfl) rfl (W_v (.int .u64 (iand .u64 a1 (4294967295:Int))) (QD rfl) rfl (QB (tn (QE (QA (W_v (.int .u64 a1) (QC rfl) rfl (W_v (.int .u64 (ishr .u64 a1 (32:Int))) (Ug rfl rfl (by decide)) rfl (W_v (.int .u64 (ishr .u64 a1 (32:Int))) (QD rfl) rfl ?_)))))))))))))))
 refine QB (tn (QE (QA (W_v (.int .u64 (iand .u64 a0 (4294967295:Int))) (QC rfl) rfl (W_v (.int .u64 (iand .u64 a1 (4294967295:Int))) (QC rfl) rfl ?_)))))
 obtain ⟨x1,he2,H⟩:=QX H
 replace he2:=Option.some.inj he2
 refine W_v (.int .u64 x1) ((by rw [← he2]; exact QT rfl rfl rfl rfl)) rfl (W_v (.int .u64 x1) (QD rfl) rfl (QB (tn (QE (QA (W_v (.int .u64 (ishr .u64 a0 (32:Int))) (QC rfl) rfl (W_v (.int .u64 (iand .u64 a1 (4294967295:Int))) (QC rfl) rfl ?_)))))))
 obtain ⟨x3,he4,H⟩:=QX H
 replace he4:=Option.some.inj he4
 refine W_v (.int .u64 x3) ((by rw [← he4]; exact QT rfl rfl rfl rfl)) rfl (W_v (.int .u64 x1) (QC rfl) rfl (W_v (.int .u64 (ishr .u64 x1 (32:Int))) (Ug rfl rfl (by decide)) rfl (W_v (.int .u64 (IntKind.u64.wrap (x3 + (ishr .u64 x1 (32:Int))))) (QT rfl rfl rfl rfl) rfl (W_v (.int .u64 (IntKind.u64.wrap (x3 + (ishr .u64 x1 (32:Int))))) (QD rfl) rfl (QB (tn ?_))))))
 as_aux_lemma =>
 refine QE (QA (W_v (.int .u64 (IntKind.u64.wrap (x3 + (ishr .u64 x1 (32:Int))))) (QC rfl) rfl ?_))
 obtain ⟨x5,he6,H⟩:=QX H
 replace he6:=Option.some.inj he6
 refine W_v (.int .u64 x5) ((by rw [← he6]; exact Jg rfl rfl)) rfl (W_v (.int .u64 x5) (QD rfl) rfl (QB (tn (QE (QA (W_v (.int .u64 (IntKind.u64.wrap (x3 + (ishr .u64 x1 (32:Int))))) (QC rfl) rfl ?_))))))
 obtain ⟨x7,he8,H⟩:=QX H
 replace he8:=Option.some.inj he8
 refine W_v (.int .u64 x7) ((by rw [← he8]; exact Ug rfl rfl (by decide))) rfl (W_v (.int .u64 x7) (QD rfl) rfl (QB (tn (QE (QA (W_v (.int .u64 x5) (QC rfl) rfl (W_v (.int .u64 (iand .u64 a0 (4294967295:Int))) (QC rfl) rfl (W_v (.int .u64 (ishr .u64 a1 (32:Int))) (QC rfl) rfl ?_))))))))
 obtain ⟨x9,he10,H⟩:=QX H
 replace he10:=Option.some.inj he10
 refine W_v (.int .u64 x9) ((by rw [← he10]; exact QT rfl rfl rfl rfl)) rfl (W_v (.int .u64 (IntKind.u64.wrap (x5 + x9))) (QT rfl rfl rfl rfl) rfl (W_v (.int .u64 (IntKind.u64.wrap (x5 + x9))) (QD rfl) rfl (QB (tn (QE (QA (W_v (.int .u64 (ishr .u64 a0 (32:Int))) (QC rfl) rfl (W_v (.int .u64 (ishr .u64 a1 (32:Int))) (QC rfl) rfl ?_))))))))
 obtain ⟨x11,he12,H⟩:=QX H
 replace he12:=Option.some.inj he12
 refine W_v (.int .u64 x11) ((by rw [← he12]; exact QT rfl rfl rfl rfl)) rfl (W_v (.int .u64 x7) (QC rfl) rfl (W_v (.int .u64 (IntKind.u64.wrap (x11 + x7))) (QT rfl rfl rfl rfl) rfl (W_v (.int .u64 (IntKind.u64.wrap (x5 + x9))) (QC rfl) rfl (W_v (.int .u64 (ishr .u64 (IntKind.u64.wrap (x5 + x9)) (32:Int))) (Ug rfl rfl (by decide)) rfl ?_))))
 obtain ⟨x13,he14,H⟩:=QX H
 replace he14:=Option.some.inj he14
 refine W_v (.int .u64 x13) ((by rw [← he14]; exact QT rfl rfl rfl rfl)) rfl (W_v (.int .u64 x13) (QD rfl) rfl (QB (tn ?_)))
 as_aux_lemma =>
 refine QE (QA (W_v (.int .u64 a0) (QC rfl) rfl (W_v (.int .u64 a1) (QC rfl) rfl (W_v (.int .u64 (IntKind.u64.wrap (a0 * a1))) (QT rfl rfl rfl rfl) rfl (W_v (.int .u64 (IntKind.u64.wrap (a0 * a1))) (QD rfl) rfl (QB (tn ?_)))))))
 refine QY ?_
 obtain rfl:=Option.some.inj H
 exact ⟨_,_,_,fun w1 e1=>QO (vs:=[.int .u64 x13,.int .u64 (IntKind.u64.wrap (a0 * a1))]) (FA.cons (rfl) (FA.cons (rfl) (FA.nil))),HM,E,S.pick [] (by decide),⟨rfl,rfl⟩⟩
def XQ (k:Nat) (a0:Int) (a1:Int):Option (Int × Int) :=
 (Option.bind (XB k a0 a1) (fun t1=>some (t1.1,t1.2)))
theorem XQ.mono {k:Nat} {a0:Int} {a1:Int}:OLe (XQ k a0 a1) (XQ (k + 1) a0 a1):=by
 unfold XQ
 have m1:=@XB.mono
 exact mo
theorem XQ.con (k:Nat) (M:Hp) (a0:Int) (a1:Int) (r:Int × Int)  (h:XQ k a0 a1 = some r):Con Tryd.prog 59 #[.int .u64 a0,.int .u64 a1] M [] (fun v M' Γ'=>v = .tuple #[.int .u64 r.1,.int .u64 r.2] ∧ Γ' = []):=by
 refine Qa Tryd.func59 rfl Tryd.ntmps59 Tryd.results59 rfl ?_
 intro w F rn S hrn
 have E:=Ext.refl w
 have HM:=Hp.le_refl M
 have H:=h
 unfold XQ at H
 refine QE (QA (W_v (.int .u64 0) (QD rfl) rfl (W_v (.int .u64 0) (QD rfl) rfl (QB (tn (QE (QJ rfl (Qg (tn (QE (QA (W_v (.int .u64 a0) (QC rfl) rfl (W_v (.int .u64 a1) (QC rfl) rfl ?_)))))))))))))
 obtain ⟨t1,ht2,H⟩:=QX H
 refine YJ fn73 (XB.con k M a0 a1 t1  ht2) S rfl rfl (by rintro _ _ _ ⟨_,rfl⟩; exact Qd) ?_
 rintro _ w3 _ Γ' E' S ⟨rfl,rfl⟩
 replace E:=E.trans E'
 refine W_v (.tuple #[.int .u64 t1.1,.int .u64 t1.2]) (QC rfl) rfl (W_v (.int .u64 t1.1) (QQ rfl rfl) rfl (W_v (.int .u64 t1.2) (QQ rfl rfl) rfl (W_v (.int .u64 t1.1) (QD rfl) rfl (W_v (.int .u64 t1.2) (QD rfl) rfl (QB (tn (QE (QA (W_v (.int .u64 t1.1) (QC rfl) rfl (W_v (.int .u64 t1.2) (QC rfl) rfl (W_v (.int .u64 t1.1) (QD rfl) rfl (W_v (.int .u64 t1.2) (QD rfl) rfl (QB (tn ?_))))))))))))))
 refine QY ?_
 obtain rfl:=Option.some.inj H
 exact ⟨_,_,_,fun w1 e1=>QO (vs:=[.int .u64 t1.1,.int .u64 t1.2]) (FA.cons (rfl) (FA.cons (rfl) (FA.nil))),HM,E,S.pick [] (by decide),⟨rfl,rfl⟩⟩
def YE:Nat → List Int → Int → Option ((List Int))
 | 0,_,_=>none
 | k + 1,x82,x86=>(if (decide (x86 < (x82.length:Int))) = true then (if 0 ≤ x86 ∧ x86 ≤ (x82.length:Int) then (if 0 ≤ x86 ∧ x86 ≤ (x82.length:Int) then (Option.bind (α:=List Int) (some (List.take x86.toNat x82 ++ List.take (min (List.take x86.toNat x82).length (x82.length - x86.toNat)) (List.take x86.toNat x82) ++ List.drop (x86.toNat + (min (List.take x86.toNat x82).length (x82.length - x86.toNat))) x82)) (fun x135=>YE k x135 (IntKind.i64.wrap (x86 + (((min (List.take x86.toNat x82).length (x82.length - x86.toNat)):Nat):Int))))) else none) else none) else some (x82))
theorem YE.mono :∀ {kl:Nat} {x0 x1},OLe (YE  kl x0 x1) (YE  (kl + 1) x0 x1):=by
 intro kl
 induction kl with
 | zero=>intros; exact OLe.none
 | succ kl ih =>
  intros
  rw [YE.eq_2,YE.eq_2]
  exact mo
def Yd (k:Nat) (a0:(List Int)) (a1:Int):Option ((List Int)) :=
 (Option.bind (α:=Unit) (if (decide (a1 < (0:Int))) = true then none else some ()) (fun _=>(Option.bind (XQ k (IntKind.u64.wrap (a0.length:Int)) (IntKind.u64.wrap a1)) (fun t6=>(Option.bind (α:=Unit) (if ((decide (t6.1 > (0:Int))) || (decide (t6.2 > (9223372036854775807:Int)))) = true then none else some ()) (fun _=>(if 0 ≤ (IntKind.i64.wrap t6.2) ∧ (IntKind.i64.wrap t6.2) ≤ (IntKind.i64.wrap t6.2) ∧ (IntKind.i64.wrap t6.2) * 8 ≤ 140737488355328 ∧ (IntKind.i64.wrap t6.2) ≤ 9223372036854775807 then (Option.bind (α:=List Int) (some (List.take 0 (List.replicate (IntKind.i64.wrap t6.2).toNat (0:Int)) ++ List.take (min a0.length ((List.replicate (IntKind.i64.wrap t6.2).toNat (0:Int)).length - 0)) a0 ++ List.drop (0 + (min a0.length ((List.replicate (IntKind.i64.wrap t6.2).toNat (0:Int)).length - 0))) (List.replicate (IntKind.i64.wrap t6.2).toNat (0:Int)))) (fun x23=>(Option.bind (YE k x23 (((min a0.length ((List.replicate (IntKind.i64.wrap t6.2).toNat (0:Int)).length - 0)):Nat):Int)) (fun x110=>some x110)))) else none)))))))
theorem Yd.mono {k:Nat} {a0:(List Int)} {a1:Int}:OLe (Yd k a0 a1) (Yd (k + 1) a0 a1):=by
 unfold Yd
 have m1:=@XQ.mono
 have m2:=@YE.mono
 exact mo
theorem Yd.con (k:Nat) (M:Hp) (A0:Option Addr) (c0:Nat) (a0:(List Int)) (a1:Int) (r:(List Int)) (hr0:SlR (rInt .i64) M (.slice A0 a0.length c0) a0) (h:Yd k a0 a1 = some r):Con Tryd.prog 38 #[.slice A0 a0.length c0,vI a1] M [] (fun v M' Γ'=>∃ (A0:Option Addr) (c0:Nat),v = .slice A0 r.length c0 ∧ Γ' = [Row (rInt .i64) 3 (.slice A0 r.length c0) r]):=by
 refine Qa Tryd.func38 rfl Tryd.ntmps38 Tryd.results38 rfl ?_
 intro w F rn S hrn
 have E:=Ext.refl w
 have HM:=Hp.le_refl M
 have H:=h
 unfold Yd at H
 refine QE (QA (W_v (.slice none 0 0) (QD rfl) rfl (QB (tn (QE (QE (QA (W_v (vI a1) (QC rfl) rfl (W_v (.bool (decide (a1 < (0:Int)))) (QT rfl rfl rfl rfl) rfl (QB (tn ?_)))))))))))
 obtain ⟨o3,o3h,o3H⟩:=QX H
 refine Xg (fun ρ w'=>() = o3 ∧ Qs ρ [(0,.slice A0 a0.length c0),(1,vI a1)] ∧ Ext w w' ∧ St w' M F []) ?_ ?_
 ·clear o3H
  have H:=o3h
  rcases Zh H with ⟨hb4,H⟩ | ⟨hb4,H⟩
  ·refine QL (congrArg Value.bool hb4) ?_
   cases H
  refine QJ (congrArg Value.bool hb4) (Qg (tn ?_))
  exact ⟨Option.some.inj H,⟨rfl,rfl,trivial⟩,E,S.pick [] (by decide)⟩
 as_aux_lemma =>
 rintro ρ w5 ⟨rfl,hρ,E,S⟩
 rw [QN hρ]
 have H:=o3H
 refine tn (QE (QA (W_v (.slice A0 a0.length c0) (QC rfl) rfl (W_v (vI (a0.length:Int)) (Qt (n:=a0.length) Tryd.underlying36 rfl) rfl (W_v (.int .u64 (IntKind.u64.wrap (a0.length:Int))) (XD Tryd.underlying3 Tryd.underlying43 rfl) rfl (W_v (vI a1) (QC rfl) rfl (W_v (.int .u64 (IntKind.u64.wrap a1)) (XD Tryd.underlying3 Tryd.underlying43 rfl) rfl ?_)))))))
 obtain ⟨t6,ht7,H⟩:=QX H
 refine YJ fn59 (XQ.con k M (IntKind.u64.wrap (a0.length:Int)) (IntKind.u64.wrap a1) t6  ht7) S rfl rfl (by rintro _ _ _ ⟨_,rfl⟩; exact Qd) ?_
 rintro _ w8 _ Γ' E' S ⟨rfl,rfl⟩
 replace E:=E.trans E'
 refine W_v (.tuple #[.int .u64 t6.1,.int .u64 t6.2]) (QC rfl) rfl (W_v (.int .u64 t6.1) (QQ rfl rfl) rfl (W_v (.int .u64 t6.2) (QQ rfl rfl) rfl (W_v (.int .u64 t6.1) (QD rfl) rfl (W_v (.int .u64 t6.2) (QD rfl) rfl (QB (tn (QE (QE (QA (W_v (.int .u64 t6.1) (QC rfl) rfl (W_v (.bool (decide (t6.1 > (0:Int)))) (QT rfl rfl rfl rfl) rfl (W_v (.bool (decide (t6.1 > (0:Int)))) (QC rfl) rfl ?_))))))))))))
 refine ZI 3 (fun ρ w'=>Qs ρ [(0,.slice A0 a0.length c0),(6,.int .u64 t6.2),(26,.bool ((decide (t6.1 > (0:Int))) || (decide (t6.2 > (9223372036854775807:Int)))))] ∧ w8 = w') ?_ ?_
 ·rcases Qw (decide (t6.1 > (0:Int))) with hb9 | hb9
  ·skip
   refine QU (congrArg some hb9) (W_v (.int .u64 t6.2) (QC rfl) rfl (QU (congrArg some hb9) (W_v (.bool (decide (t6.2 > (9223372036854775807:Int)))) (QT rfl rfl rfl rfl) rfl (W_v (.bool (decide (t6.2 > (9223372036854775807:Int)))) (QZ (k:=false) (congrArg Value.bool hb9) rfl) rfl (QB ?_)))))
   exact ⟨⟨rfl,rfl,(by first | rfl | (rw [hb9]; rfl) | (simp only [hb9]; rfl)),trivial⟩,rfl⟩
  ·skip
   refine Qk (skF hb9) rfl (Qk (skF hb9) rfl (W_v (.bool true) (QZ (k:=true) (congrArg Value.bool hb9) rfl) rfl (QB ?_)))
   exact ⟨⟨rfl,rfl,(by first | rfl | (rw [hb9]; rfl) | (simp only [hb9]; rfl)),trivial⟩,rfl⟩
 as_aux_lemma =>
 rintro ρ _ ⟨hρ,rfl⟩
 rw [QN hρ]
 refine QB (tn ?_)
 obtain ⟨o12,o12h,o12H⟩:=QX H
 refine Xg (fun ρ w'=>() = o12 ∧ Qs ρ [(0,.slice A0 a0.length c0),(6,.int .u64 t6.2)] ∧ Ext w w' ∧ St w' M F []) ?_ ?_
 ·clear o12H
  have H:=o12h
  rcases Zh H with ⟨hb13,H⟩ | ⟨hb13,H⟩
  ·refine QL (congrArg Value.bool hb13) ?_
   cases H
  refine QJ (congrArg Value.bool hb13) (Qg (tn ?_))
  exact ⟨Option.some.inj H,⟨rfl,rfl,trivial⟩,E,S.pick [] (by decide)⟩
 as_aux_lemma =>
 rintro ρ w14 ⟨rfl,hρ,E,S⟩
 rw [QN hρ]
 have H:=o12H
 refine tn (QE (QA (W_v (.int .u64 t6.2) (QC rfl) rfl (W_v (vI (IntKind.i64.wrap t6.2)) (XD Tryd.underlying43 Tryd.underlying3 rfl) rfl ?_))))
 obtain ⟨⟨p15,p16,p17,p18⟩,H⟩:=Zt H
 refine Vn (r:=(rInt .i64)) S (0:Int) Tryd.underlying36 ty3 rfl (by decide) (fun _=>rfl) rfl rfl p15 p16 p17 p18 rfl ?_
 intro b19 w20 E' S
 replace E:=E.trans E'
 refine W_v (.slice (some ⟨b19,0,none⟩) (List.replicate (IntKind.i64.wrap t6.2).toNat (0:Int)).length ((IntKind.i64.wrap t6.2).toNat)) (QD rfl) rfl (QB (tn (QE (QA (W_v (.slice (some ⟨b19,0,none⟩) (List.replicate (IntKind.i64.wrap t6.2).toNat (0:Int)).length ((IntKind.i64.wrap t6.2).toNat)) (QC rfl) rfl (W_v (.slice A0 a0.length c0) (QC rfl) rfl ?_))))))
 obtain ⟨x23,he24,H⟩:=QX H
 replace he24:=Option.some.inj he24
 refine Uo (i:=0) S 0 rfl (Nat.zero_le _) Tryd.underlying36 ty3 (by decide) (SlR.world hr0 S) (min a0.length ((List.replicate (IntKind.i64.wrap t6.2).toNat (0:Int)).length - 0)) rfl he24 rfl (.inr (.inr ⟨rfl,rfl⟩)) rfl rfl ?_
 intro w22 E' S
 replace E:=E.trans E'
 have hs25:Value.slice (some ⟨b19,0,none⟩) (List.replicate (IntKind.i64.wrap t6.2).toNat (0:Int)).length ((IntKind.i64.wrap t6.2).toNat) = Value.slice (some ⟨b19,0,none⟩) x23.length ((IntKind.i64.wrap t6.2).toNat):=by rw [← he24]; congr 1; simp only [List.length_append,List.length_take,List.length_drop]; omega
 try rw [hs25] at S
 try rw [hs25]
 refine W_v (vI (((min a0.length ((List.replicate (IntKind.i64.wrap t6.2).toNat (0:Int)).length - 0)):Nat):Int)) (QD rfl) rfl (QB (tn (QE ?_)))
 obtain ⟨o114,o114h,o114H⟩:=QX H
 refine Ya (fun ρ w'=>∃ (x110:List Int) (A111:Option Addr) (c112:Nat),(x110) = o114 ∧ Qs ρ [(7,.slice A111 x110.length c112)] ∧ Ext w w' ∧ St w' M F [Row (rInt .i64) 3 (.slice A111 x110.length c112) x110]) ?_ ?_
 ·skip
  refine Y0 (fun n ρ w'=>∃ (x82:List Int) (x86:Int) (A83:Option Addr) (c84:Nat),YE n x82 x86 = some o114 ∧ Qs ρ [(7,.slice A83 x82.length c84),(8,vI x86)] ∧ Ext w w' ∧ St w' M F [Row (rInt .i64) 3 (.slice A83 x82.length c84) x82]) k ?_ ?_
  ·skip
   exact ⟨x23,(((min a0.length ((List.replicate (IntKind.i64.wrap t6.2).toNat (0:Int)).length - 0)):Nat):Int),(some ⟨b19,0,none⟩),((IntKind.i64.wrap t6.2).toNat),o114h,⟨rfl,rfl,trivial⟩,E,S.pick [0] (by decide)⟩
  ·intro n
   rintro ρ w115 ⟨x82,x86,A83,c84,H,hρ,E,S⟩
   rw [QN hρ]
   cases n with
   | zero=>cases H
   | succ k =>
    rw [YE.eq_2] at H
    refine QE (QE (QA (W_v (vI x86) (QC rfl) rfl (W_v (.slice A83 x82.length c84) (QC rfl) rfl (W_v (vI (x82.length:Int)) (Qt (n:=x82.length) Tryd.underlying36 rfl) rfl (W_v (.bool (decide (x86 < (x82.length:Int)))) (QT rfl rfl rfl rfl) rfl (QB (tn ?_))))))))
    rcases Zh H with ⟨hb116,H⟩ | ⟨hb116,H⟩
    ·refine QL (congrArg Value.bool hb116) ?_
     refine Qg (tn ?_)
     refine Z0 ?_
     refine Ql (S:=fun w'=>∃ Mx,M.le Mx ∧ St w' Mx F []) (L:=10) mixed ?_
     intro w127 hw128 E'
     replace S:=S.heap hw128
     replace E:=E.trans E'
     have D1:∃ Mx,Hp.le M Mx ∧ St _ Mx F []:=⟨_,Hp.le_refl _,S.pick [] (by decide)⟩
     refine Wt 0 rfl rfl rfl (vI x86) rfl (fun w' h'=>QC rfl) D1 (Wt 1 rfl rfl rfl (.slice A83 x82.length c84) rfl (fun w' h'=>QC rfl) D1 (Wt 2 rfl rfl rfl (vI x86) rfl (fun w' h'=>QC rfl) D1 ?_))
     obtain ⟨⟨p129,p130⟩,H⟩:=Zt H
     refine Wt 3 rfl rfl rfl (.slice (if c84 = x86.toNat then A83 else Option.map (fun x=>x.add (x86.toNat * 1)) A83) (x82.length - x86.toNat) (c84 - x86.toNat)) rfl (fun w' h'=>UI Tryd.underlying36 ty3 rfl rfl p129 (by omega)) D1 (Wt 4 rfl rfl rfl (.slice A83 x82.length c84) rfl (fun w' h'=>QC rfl) D1 (Wt 5 rfl rfl rfl (vI x86) rfl (fun w' h'=>QC rfl) D1 ?_))
     obtain ⟨⟨p131,p132⟩,H⟩:=Zt H
     have hx133:=@V1 _ _ _ _ _ _ _ _ _ (S.row_read 0 rfl) p131 p132
     refine Wt 6 rfl rfl rfl (.slice A83 ((List.take x86.toNat x82).length) c84) rfl (fun w' h'=>hx133 Tryd.underlying36 ty3 rfl rfl) D1 ?_
     refine Wo 7 rfl ?_
     have hs138:=Vp (S.row_read 0 rfl) p131 p132
     obtain ⟨x135,he136,H⟩:=QX H
     replace he136:=Option.some.inj he136
     refine Uo (i:=x86.toNat) S 0 rfl (by have:=p129; have:=p130; omega) Tryd.underlying36 ty3 (by decide) hs138 (min (List.take x86.toNat x82).length (x82.length - x86.toNat)) rfl he136 rfl (if h8:c84 = x86.toNat then .inl (by have h9:=Kf (S.row_read 0 rfl); omega) else .inr (.inl (if_neg h8))) rfl rfl ?_
     intro w134 E' S
     replace E:=E.trans E'
     have hs137:Value.slice A83 x82.length c84 = Value.slice A83 x135.length c84:=by rw [← he136]; congr 1; simp only [List.length_append,List.length_take,List.length_drop]; omega
     try rw [hs137] at S
     try rw [hs137]
     refine QB (YC ⟨.inr ⟨M,Hp.le_refl M,(S.pick [] (by decide))⟩,?_⟩)
     have D2:∃ Mx,Hp.le M Mx ∧ St _ Mx F []:=⟨_,Hp.le_refl _,S.pick [] (by decide)⟩
     refine Wt 8 rfl rfl rfl (vI (IntKind.i64.wrap (x86 + (((min (List.take x86.toNat x82).length (x82.length - x86.toNat)):Nat):Int)))) rfl (fun w' h'=>QT rfl rfl rfl rfl) D2 (Wt 9 rfl rfl rfl (vI (IntKind.i64.wrap (x86 + (((min (List.take x86.toNat x82).length (x82.length - x86.toNat)):Nat):Int)))) rfl (fun w' h'=>QD rfl) D2 ?_)
     refine Wz ?_
     refine bn (tn ?_)
     exact ⟨k,Nat.lt_succ_self k,⟨x135,(IntKind.i64.wrap (x86 + (((min (List.take x86.toNat x82).length (x82.length - x86.toNat)):Nat):Int))),A83,c84,H,⟨rfl,rfl,trivial⟩,E,S.pick [0] (by decide)⟩⟩
    refine QJ (congrArg Value.bool hb116) ?_
    refine Yo ?_
    refine tx (tx (bsm (?_)))
    refine tn ?_
    exact ⟨x82,A83,c84,Option.some.inj H,⟨rfl,trivial⟩,E,S.pick [0] (by decide)⟩
 rintro ρ w139 ⟨x110,A111,c112,rfl,hρ,E,S⟩
 rw [QN hρ]
 have H:=o114H
 refine tn ?_
 as_aux_lemma =>
 refine QE (QA (W_v (.slice A111 x110.length c112) (QC rfl) rfl (W_v (.slice A111 x110.length c112) (QD rfl) rfl (QB (tn ?_)))))
 refine QY ?_
 obtain rfl:=Option.some.inj H
 exact ⟨_,_,_,fun w1 e1=>QO (vs:=[.slice A111 x110.length c112]) (FA.cons (rfl) (FA.nil)),HM,E,S.pick [0] (by decide),⟨A111,c112,rfl,rfl⟩⟩
end Go.Proofs.YtnjbjpaiepefoaaDoor
