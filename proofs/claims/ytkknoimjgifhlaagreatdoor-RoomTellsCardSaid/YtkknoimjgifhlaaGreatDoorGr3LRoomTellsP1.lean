import Derived.Test.YtkknoimjgifhlaaGreatDoorGr3B
import Derived.Test.YtkknoimjgifhlaaGreatDoorGr3LRoomTellsP0
namespace Go.Proofs.YtkknoimjgifhlaaGreatDoor
open Go
set_option linter.unusedVariables false
set_option linter.unusedSimpArgs false
set_option maxHeartbeats 80000000
set_option maxRecDepth 100000
def Yt (k:Nat) (a0:QI) (a1:(List (List QY))):Option ((Unit)⊕(Z2)⊕(Z2)⊕(Z2)⊕(Z2)) :=
 (Option.bind (VJ k a0 a1) (fun t4=>(if (!t4)=true then some (Sum.inl ()) else (Option.bind (X8 k a0.Tasks) (fun t8=>(Sum.elim (fun t10=>(Option.bind (XB k a0) (fun t15=>(Sum.elim (fun t17=>(if 0≤a0.Tasks∧a0.Tasks≤a0.Tasks∧a0.Tasks*8≤140737488355328∧a0.Tasks≤9223372036854775807 then some (Sum.inr (Sum.inr (Sum.inr (Sum.inl (⟨a1,(⟨[],[]⟩:Qg),(⟨⟨0,0,0,0,0,0,0,0⟩,[],[],[],[],0,0⟩:QW),([]:List ZX),(List.replicate a0.Tasks.toNat (0:Int))⟩:Z2))))) else none)) (fun t18=>(if 0≤a0.Tasks∧a0.Tasks≤a0.Tasks∧a0.Tasks*8≤140737488355328∧a0.Tasks≤9223372036854775807 then some (Sum.inr (Sum.inr (Sum.inl (⟨a1,(⟨[],[]⟩:Qg),t18,([]:List ZX),(List.replicate a0.Tasks.toNat (0:Int))⟩:Z2)))) else none))) t15))) (fun t11=>(Option.bind (XB k a0) (fun t74=>(Sum.elim (fun t76=>(if 0≤a0.Tasks∧a0.Tasks≤a0.Tasks∧a0.Tasks*8≤140737488355328∧a0.Tasks≤9223372036854775807 then some (Sum.inr (Sum.inr (Sum.inr (Sum.inr (⟨a1,t11,(⟨⟨0,0,0,0,0,0,0,0⟩,[],[],[],[],0,0⟩:QW),([]:List ZX),(List.replicate a0.Tasks.toNat (0:Int))⟩:Z2))))) else none)) (fun t77=>(if 0≤a0.Tasks∧a0.Tasks≤a0.Tasks∧a0.Tasks*8≤140737488355328∧a0.Tasks≤9223372036854775807 then some (Sum.inr (Sum.inl (⟨a1,t11,t77,([]:List ZX),(List.replicate a0.Tasks.toNat (0:Int))⟩:Z2))) else none))) t74)))) t8)))))
theorem Yt.mono {k a0 a1}: OLe (Yt k a0 a1) (Yt (k+1) a0 a1):=by
 unfold Yt
 have m1:=@X8.mono
 have m2:=@XB.mono
 have m3:=@VJ.mono
 exact mo
theorem Yt.con {k M} {a0:QI} {A1 c1} {a1:(List (List QY))} {r:(Unit)⊕(Z2)⊕(Z2)⊕(Z2)⊕(Z2)} (h:Yt k a0 a1=some r) (hr1:SlR (rSl Yk) M (.slice A1 a1.length c1) a1): Con Tryz.prog 50 #[.agg (QF a0),.slice A1 a1.length c1] M [] (fun v M' Γ'=>(Sum.elim (fun x=>v=.tuple #[.pointer none,.bool false]∧Γ'=[]) (Sum.elim (fun x=>∃ (bq1:Nat) (Aq3:Option Addr) (cq4:Nat) (bq6:Nat) (Aq8:Option Addr) (cq9:Nat) (Aq11:Option Addr) (cq12:Nat) (bq14:Nat) (Aq16:Option Addr) (cq17:Nat) (Aq19:Option Addr) (cq20:Nat) (Aq22:Option Addr) (cq23:Nat) (Aq25:Option Addr) (cq26:Nat) (vsq28:List (Str×Value)) (Aq30:Option Addr) (cq31:Nat) (Aq33:Option Addr) (cq34:Nat),v=.tuple #[pt bq1 0,.bool true]∧SlR (rSl Yk) M' (.slice Aq3 x.programs.length cq4) x.programs∧Xa Qx M' x.m.rows vsq28∧Γ'=[B85 bq1 x Aq3 cq4 bq6 bq14 Aq30 cq31 Aq33 cq34,Blk bq6 (.cells #[.slice Aq8 x.r.tasks.length cq9,.slice Aq11 x.r.l.length cq12] 162 (0,0)),Rw Zu 165 Aq8 cq9 x.r.tasks,Rw Qs 40 Aq11 cq12 x.r.l,B96 bq14 x.m Aq16 Aq19 Aq22 cq23 Aq25,XC QM (Value.int .i64) Aq16 x.m.names,MpI Aq19 x.m.many,Rw Qe 134 Aq22 cq23 x.m.txs,MpV Aq25 vsq28,Rw Zz 61 Aq30 cq31 x.done,Rw (rInt .i64) 3 Aq33 cq34 x.last]) (Sum.elim (fun x=>∃ (bq1:Nat) (Aq3:Option Addr) (cq4:Nat) (bq6:Nat) (Aq8:Option Addr) (cq9:Nat) (Aq11:Option Addr) (cq12:Nat) (Aq14:Option Addr) (cq15:Nat) (Aq17:Option Addr) (cq18:Nat) (vsq20:List (Str×Value)) (Aq22:Option Addr) (cq23:Nat) (Aq25:Option Addr) (cq26:Nat),v=.tuple #[pt bq1 0,.bool false]∧SlR (rSl Yk) M' (.slice Aq3 x.programs.length cq4) x.programs∧Xa Qx M' x.m.rows vsq20∧Γ'=[Blk bq1 (.cells #[.slice Aq3 x.programs.length cq4,.pointer none,pt bq6 0,.slice Aq22 x.done.length cq23,.slice Aq25 x.last.length cq26] 85 (0,0)),B96 bq6 x.m Aq8 Aq11 Aq14 cq15 Aq17,XC QM (Value.int .i64) Aq8 x.m.names,MpI Aq11 x.m.many,Rw Qe 134 Aq14 cq15 x.m.txs,MpV Aq17 vsq20,Rw Zz 61 Aq22 cq23 x.done,Rw (rInt .i64) 3 Aq25 cq26 x.last]) (Sum.elim (fun x=>∃ (bq1:Nat) (Aq3:Option Addr) (cq4:Nat) (Aq6:Option Addr) (cq7:Nat) (Aq9:Option Addr) (cq10:Nat),v=.tuple #[pt bq1 0,.bool false]∧SlR (rSl Yk) M' (.slice Aq3 x.programs.length cq4) x.programs∧Γ'=[Blk bq1 (.cells #[.slice Aq3 x.programs.length cq4,.pointer none,.pointer none,.slice Aq6 x.done.length cq7,.slice Aq9 x.last.length cq10] 85 (0,0)),Rw Zz 61 Aq6 cq7 x.done,Rw (rInt .i64) 3 Aq9 cq10 x.last]) (fun x=>∃ (bq1:Nat) (Aq3:Option Addr) (cq4:Nat) (bq6:Nat) (Aq8:Option Addr) (cq9:Nat) (Aq11:Option Addr) (cq12:Nat) (Aq14:Option Addr) (cq15:Nat) (Aq17:Option Addr) (cq18:Nat),v=.tuple #[pt bq1 0,.bool false]∧SlR (rSl Yk) M' (.slice Aq3 x.programs.length cq4) x.programs∧Γ'=[Blk bq1 (.cells #[.slice Aq3 x.programs.length cq4,pt bq6 0,.pointer none,.slice Aq14 x.done.length cq15,.slice Aq17 x.last.length cq18] 85 (0,0)),Blk bq6 (.cells #[.slice Aq8 x.r.tasks.length cq9,.slice Aq11 x.r.l.length cq12] 162 (0,0)),Rw Zu 165 Aq8 cq9 x.r.tasks,Rw Qs 40 Aq11 cq12 x.r.l,Rw Zz 61 Aq14 cq15 x.done,Rw (rInt .i64) 3 Aq17 cq18 x.last]))))) r):=by
 refine cwA Tryz.func50 J Tryz.ntmps50 Tryz.results50 J h ?_
 intro w F rn S hrn E HM H
 unfold Yt at H
 refine wsQ ?_
 refine Yz S (QF a0) J J J (eE2 E ?_)
 intro b1 w2 E S
 refine W_v (.pointer none) (Zm J) J (waB J (wnQ (QH (wsQ (W_v (.agg (QF a0)) (Qi (S.blk 0 J) ty23 J (QG J) J J) J (wmL J ?_))))))
 obtain ⟨t4,ht5,H⟩:=QO H
 refine ZR fn67 (VJ.con ht5 hr1) S J J flN (eE4 E ?_)
 rintro _ w6 _ Γ' E S ⟨rfl,rfl⟩
 refine W_v _ (Xr (b:=t4) J) J (wnQ ?_)
 rcases Q3 H with ⟨hb7,H⟩ | ⟨hb7,H⟩
 ·refine QC (cB hb7) ?_
  refine wsQ (W_v (.pointer none) (Zm J) J (waB J (wnQ ?_)))
  refine QT ?_
  refine tr (?_)
  obtain rfl:=oi H
  exact ⟨_,_,_,rsA (vs:=[_,_]) J,HM,E,S.pk [],⟨J,J⟩⟩
 refine QA (cB hb7) (QX (tn (wsQ (wfA Tryz.underlying23 ty3 J (wlA S 0 ty3 J ?_)))))
 obtain ⟨t8,ht9,H⟩:=QO H
 rcases t8 with t10 | t11
 ·replace H:=elimL H
  refine Zy fn68 (X8.con ht9) (Γ1:=[]) (Γ2:=[_]) S J J flN (eE4 E ?_)
  rintro _ w12 _ Γ' E S ⟨rfl,rfl⟩
  replace S:St w12 M F [_]:=S
  refine wmT J (W_v _ (QR J J) J (W_v _ (QR J J) J (W_v (.pointer none) (Zm J) J (waI J (wnQ (wsQ (W_v (.agg (QF a0)) (Qi (S.blk 0 J) ty23 J (QG J) J J) J ?_)))))))
  obtain ⟨t15,ht16,H⟩:=QO H
  rcases t15 with t17 | t18
  ·replace H:=elimL H
   refine Zy fn22 (XB.con ht16) (Γ1:=[]) (Γ2:=[_]) S J J flN (eE4 E ?_)
   rintro _ w19 _ Γ' E S ⟨rfl,rfl⟩
   replace S:St w19 M F [_]:=S
   refine wmT J (W_v _ (QR J J) J (W_v _ (QR J J) J (W_v (.pointer none) (Zm J) J (waI J (wnQ (wsQ (wmL J (W_v (.pointer none) (YW J) J (W_v (.pointer none) (YW J) J (wfA Tryz.underlying23 ty3 J (wlA S 0 ty3 J ?_)))))))))))
   obtain ⟨⟨p22,p23,p24,p25⟩,H⟩:=Z8 H
   refine Ja (r:=(rInt .i64)) S (0:Int) Tryz.underlying83 ty3 J (by decide) (fun _=>J) J J p22 p23 p24 p25 J (eE2 E ?_)
   intro b26 w27 E S
   refine W_v _ (xb2 [(0,1),(1,1),(2,1),(3,1),(4,1)] #[.slice A1 a1.length c1,.pointer none,.pointer none,.slice none 0 0,.slice (some ⟨b26,0,none⟩) (List.replicate a0.Tasks.toNat (0:Int)).length a0.Tasks.toNat] Tryz.underlying85 ty85 J) J ?_
   refine Yz S #[.slice A1 a1.length c1,.pointer none,.pointer none,.slice none 0 0,.slice (some ⟨b26,0,none⟩) (List.replicate a0.Tasks.toNat (0:Int)).length a0.Tasks.toNat] J J J (eE2 E ?_)
   intro b29 w30 E S
   refine wmI J (wiB J J (wmB J (QZ (J) J (QZ (J) J (wqB J J (waP J (waB J (wnQ ?_))))))))
   refine QT ?_
   obtain rfl:=oi H
   replace S:=S.row_nil Zz 61
   exact ⟨_,_,_,rsA (vs:=[_,_]) J,HM,E,S.pk [1,0,2],⟨b29,A1,c1,none,0,(some ⟨b26,0,none⟩),a0.Tasks.toNat,J,hr1,J⟩⟩
  ·replace H:=elimR H
   refine Y2 fn22 (XB.con ht16) (Γ1:=[]) (Γ2:=[_]) S J J ?_
   rintro _ w49 M50 Γ' hM51 E' S ⟨b33,A35,c36,A38,c39,A41,c42,A44,c45,vs47,rfl,hm48,rfl⟩
   replace HM:=Hp.le_trans HM hM51
   replace hr1:=SlR.mono hr1 hM51
   replace E:=E.trans E'
   replace S:St w49 M50 F [_,_,_,_,_,_]:=S
   refine wmT J (W_v _ (QR J J) J (W_v _ (QR J J) J (waP J (waI J (wnQ (wsQ (wmL J (W_v (.pointer none) (YW J) J (wmP J (wfA Tryz.underlying23 ty3 J (wlA S 5 ty3 J ?_)))))))))))
   obtain ⟨⟨p52,p53,p54,p55⟩,H⟩:=Z8 H
   refine Ja (r:=(rInt .i64)) S (0:Int) Tryz.underlying83 ty3 J (by decide) (fun _=>J) J J p52 p53 p54 p55 J (eE2 E ?_)
   intro b56 w57 E S
   refine W_v _ (xb2 [(0,1),(1,1),(2,1),(3,1),(4,1)] #[.slice A1 a1.length c1,.pointer none,pt b33 0,.slice none 0 0,.slice (some ⟨b56,0,none⟩) (List.replicate a0.Tasks.toNat (0:Int)).length a0.Tasks.toNat] Tryz.underlying85 ty85 J) J ?_
   refine Yz S #[.slice A1 a1.length c1,.pointer none,pt b33 0,.slice none 0 0,.slice (some ⟨b56,0,none⟩) (List.replicate a0.Tasks.toNat (0:Int)).length a0.Tasks.toNat] J J J (eE2 E ?_)
   intro b59 w60 E S
   refine wmI J (wiB J J (wmB J (QZ (J) J (QZ (J) J (wqB J J (waP J (waB J (wnQ ?_))))))))
   refine QT ?_
   obtain rfl:=oi H
   replace S:=S.row_nil Zz 61
   exact ⟨_,_,_,rsA (vs:=[_,_]) J,HM,E,S.pk [1,3,4,5,6,7,0,2],⟨b59,A1,c1,b33,A35,c36,A38,c39,A41,c42,A44,c45,vs47,none,0,(some ⟨b56,0,none⟩),a0.Tasks.toNat,J,hr1,hm48,J⟩⟩
 ·replace H:=elimR H
  refine Y2 fn68 (X8.con ht9) (Γ1:=[]) (Γ2:=[_]) S J J ?_
  rintro _ w71 M72 Γ' hM73 E' S ⟨b63,A65,c66,A68,c69,rfl,rfl⟩
  replace HM:=Hp.le_trans HM hM73
  replace hr1:=SlR.mono hr1 hM73
  replace E:=E.trans E'
  replace S:St w71 M72 F [_,_,_,_]:=S
  refine wmT J (W_v _ (QR J J) J (W_v _ (QR J J) J (waP J (waI J (wnQ (wsQ (W_v (.agg (QF a0)) (Qi (S.blk 3 J) ty23 J (QG J) J J) J ?_)))))))
  obtain ⟨t74,ht75,H⟩:=QO H
  rcases t74 with t76 | t77
  ·replace H:=elimL H
   refine Zy fn22 (XB.con ht75) (Γ1:=[]) (Γ2:=[_,_,_,_]) S J J flN (eE4 E ?_)
   rintro _ w78 _ Γ' E S ⟨rfl,rfl⟩
   replace S:St w78 M72 F [_,_,_,_]:=S
   refine wmT J (W_v _ (QR J J) J (W_v _ (QR J J) J (W_v (.pointer none) (Zm J) J (waI J (wnQ (wsQ (wmL J (wmP J (W_v (.pointer none) (YW J) J (wfA Tryz.underlying23 ty3 J (wlA S 3 ty3 J ?_)))))))))))
   obtain ⟨⟨p81,p82,p83,p84⟩,H⟩:=Z8 H
   refine Ja (r:=(rInt .i64)) S (0:Int) Tryz.underlying83 ty3 J (by decide) (fun _=>J) J J p81 p82 p83 p84 J (eE2 E ?_)
   intro b85 w86 E S
   refine W_v _ (xb2 [(0,1),(1,1),(2,1),(3,1),(4,1)] #[.slice A1 a1.length c1,pt b63 0,.pointer none,.slice none 0 0,.slice (some ⟨b85,0,none⟩) (List.replicate a0.Tasks.toNat (0:Int)).length a0.Tasks.toNat] Tryz.underlying85 ty85 J) J ?_
   refine Yz S #[.slice A1 a1.length c1,pt b63 0,.pointer none,.slice none 0 0,.slice (some ⟨b85,0,none⟩) (List.replicate a0.Tasks.toNat (0:Int)).length a0.Tasks.toNat] J J J (eE2 E ?_)
   intro b88 w89 E S
   refine wmI J (wiB J J (wmB J (QN (J) (wmI J (QN (J) (wiB J J (wpB J J (waP J (waB J (wnQ ?_))))))))))
   refine QT ?_
   obtain rfl:=oi H
   replace S:=S.row_nil Zz 61
   exact ⟨_,_,_,rsA (vs:=[_,_]) J,HM,E,S.pk [1,3,4,5,0,2],⟨b88,A1,c1,b63,A65,c66,A68,c69,none,0,(some ⟨b85,0,none⟩),a0.Tasks.toNat,J,hr1,J⟩⟩
  ·replace H:=elimR H
   refine Y2 fn22 (XB.con ht75) (Γ1:=[]) (Γ2:=[_,_,_,_]) S J J ?_
   rintro _ w108 M109 Γ' hM110 E' S ⟨b92,A94,c95,A97,c98,A100,c101,A103,c104,vs106,rfl,hm107,rfl⟩
   replace HM:=Hp.le_trans HM hM110
   replace hr1:=SlR.mono hr1 hM110
   replace E:=E.trans E'
   replace S:St w108 M109 F [_,_,_,_,_,_,_,_,_]:=S
   refine wmT J (W_v _ (QR J J) J (W_v _ (QR J J) J (waP J (waI J (wnQ (wsQ (wmL J (wmP J (wmP J (wfA Tryz.underlying23 ty3 J (wlA S 8 ty3 J ?_)))))))))))
   obtain ⟨⟨p111,p112,p113,p114⟩,H⟩:=Z8 H
   refine Ja (r:=(rInt .i64)) S (0:Int) Tryz.underlying83 ty3 J (by decide) (fun _=>J) J J p111 p112 p113 p114 J (eE2 E ?_)
   intro b115 w116 E S
   refine W_v _ (xb2 [(0,1),(1,1),(2,1),(3,1),(4,1)] #[.slice A1 a1.length c1,pt b63 0,pt b92 0,.slice none 0 0,.slice (some ⟨b115,0,none⟩) (List.replicate a0.Tasks.toNat (0:Int)).length a0.Tasks.toNat] Tryz.underlying85 ty85 J) J ?_
   refine Yz S #[.slice A1 a1.length c1,pt b63 0,pt b92 0,.slice none 0 0,.slice (some ⟨b115,0,none⟩) (List.replicate a0.Tasks.toNat (0:Int)).length a0.Tasks.toNat] J J J (eE2 E ?_)
   intro b118 w119 E S
   refine wmI J (wiB J J (wmB J (QN (J) (wmI J (QN (J) (wiB J J (wpB J J (waP J (waB J (wnQ ?_))))))))))
   refine QT ?_
   obtain rfl:=oi H
   replace S:=S.row_nil Zz 61
   exact ⟨_,_,_,rsA (vs:=[_,_]) J,HM,E,S.pk [1,8,9,10,3,4,5,6,7,0,2],⟨b118,A1,c1,b63,A65,c66,A68,c69,b92,A94,c95,A97,c98,A100,c101,A103,c104,vs106,none,0,(some ⟨b115,0,none⟩),a0.Tasks.toNat,J,hr1,hm107,J⟩⟩
def Zd (k:Nat) (a0:Z2) (a1:QL):Option (QY×Bool) :=
 (Option.bind (α:=Bool) (if (((decide (a1.Task<(0:Int)))||(decide (a1.Task≥(a0.programs.length:Int))))||(decide (a1.Call<(0:Int))))=true then some (true) else (if 0≤a1.Task∧a1.Task<(a0.programs.length:Int) then some ((decide (a1.Call≥((rd a0.programs a1.Task).length:Int)))) else none)) (fun x60=>(if x60=true then some ((⟨(0:Int),(0:Int),([]:Str),([]:Str),([]:Str),(0:Int),(0:Int)⟩:QY),false) else (if 0≤a1.Task∧a1.Task<(a0.programs.length:Int) then (if 0≤a1.Call∧a1.Call<((rd a0.programs a1.Task).length:Int) then some ((rd (rd a0.programs a1.Task) a1.Call),true) else none) else none))))
theorem Zd.mono {k a0 a1}: OLe (Zd k a0 a1) (Zd (k+1) a0 a1):=by
 unfold Zd
 exact mo
theorem Zd.con {k M A0_0 c0_0 A0_1_0 c0_1_0 A0_1_1 c0_1_1 A0_2_8 A0_2_9 A0_2_10 c0_2_10 A0_2_11} {vs0_2_11:List (Str×Value)} {A0_3 c0_3 A0_4 c0_4} {a0:Z2} {A1_0 c1_0} {a1:QL} {bo0_1 bo0_2 bo0} {r:QY×Bool} (h:Zd k a0 a1=some r) (hr0_0:SlR (rSl Yk) M (.slice A0_0 a0.programs.length c0_0) a0.programs) (hm0_2_11:Xa Qx M a0.m.rows vs0_2_11) (hr1_0:SlR Qq M (.slice A1_0 a1.Answer.Pairs.length c1_0) a1.Answer.Pairs): Con Tryz.prog 69 #[pt bo0 0,.agg #[vU a1.What,vI a1.Task,vI a1.Call,vI a1.Answer.Err,.bool a1.Answer.Found,vS a1.Answer.Value,.slice A1_0 a1.Answer.Pairs.length c1_0]] M [B85 bo0 a0 A0_0 c0_0 bo0_1 bo0_2 A0_3 c0_3 A0_4 c0_4,Blk bo0_1 (.cells #[.slice A0_1_0 a0.r.tasks.length c0_1_0,.slice A0_1_1 a0.r.l.length c0_1_1] 162 (0,0)),Rw Zu 165 A0_1_0 c0_1_0 a0.r.tasks,Rw Qs 40 A0_1_1 c0_1_1 a0.r.l,B96 bo0_2 a0.m A0_2_8 A0_2_9 A0_2_10 c0_2_10 A0_2_11,XC QM (Value.int .i64) A0_2_8 a0.m.names,MpI A0_2_9 a0.m.many,Rw Qe 134 A0_2_10 c0_2_10 a0.m.txs,MpV A0_2_11 vs0_2_11,Rw Zz 61 A0_3 c0_3 a0.done,Rw (rInt .i64) 3 A0_4 c0_4 a0.last] (fun v M' Γ'=>v=.tuple #[.agg (Qo r.1),.bool r.2]∧Γ'=[B85 bo0 a0 A0_0 c0_0 bo0_1 bo0_2 A0_3 c0_3 A0_4 c0_4,Blk bo0_1 (.cells #[.slice A0_1_0 a0.r.tasks.length c0_1_0,.slice A0_1_1 a0.r.l.length c0_1_1] 162 (0,0)),Rw Zu 165 A0_1_0 c0_1_0 a0.r.tasks,Rw Qs 40 A0_1_1 c0_1_1 a0.r.l,B96 bo0_2 a0.m A0_2_8 A0_2_9 A0_2_10 c0_2_10 A0_2_11,XC QM (Value.int .i64) A0_2_8 a0.m.names,MpI A0_2_9 a0.m.many,Rw Qe 134 A0_2_10 c0_2_10 a0.m.txs,MpV A0_2_11 vs0_2_11,Rw Zz 61 A0_3 c0_3 a0.done,Rw (rInt .i64) 3 A0_4 c0_4 a0.last]):=by
 refine cwA Tryz.func69 J Tryz.ntmps69 Tryz.results69 J h ?_
 intro w F rn S hrn E HM H
 unfold Zd at H
 refine wsQ ?_
 refine Yz S #[vU a1.What,vI a1.Task,vI a1.Call,vI a1.Answer.Err,.bool a1.Answer.Found,vS a1.Answer.Value,.slice A1_0 a1.Answer.Pairs.length c1_0] J J J (eE2 E ?_)
 intro b1 w2 E S
 refine YN S cz5 ty43 J J (eE2 E ?_)
 intro b4 w5 E S
 refine waB J (wnQ (QH (QH ?_)))
 refine rgA S [0,1,2,3,4,5,6,7,8,9,10,11,12] [_,_,_,_,_,_,_,_,_,_,_,_,_] 32 mixed J (eE1 E ?_)
 intro w41 E S D1
 refine tz0 0 J D1 (xfA Tryz.underlying40 ty3 J) (tz1 1 J D1 (fun w' h'=>xlA h' 1 ty3 J) (tz0 2 J D1 (xiB J J) (tz0 3 J D1 (xmB J) ?_)))
 refine YB (fun ρ w'=>QV ρ [(0,pt bo0 0),(3,pt b1 0),(4,pt b4 0),(18,.bool ((decide (a1.Task<(0:Int)))||(decide (a1.Task≥(a0.programs.length:Int)))))]∧w41=w') 19 (Ls 32 [0,1,2,3,4,5,6,7,8,9,10,11,12]) ?_ ?_
 rotate_left
 ·intro hrest
  rcases Qy (decide (a1.Task<(0:Int))) with hb43 | hb43
  ·refine tz2 4 J (cS hb43) D1 (xfA Tryz.underlying40 ty3 J) (tz3 5 J (cS hb43) D1 (fun w' h'=>xlA h' 1 ty3 J) (tz2 6 J (cS hb43) D1 (xmP J) (tz2 7 J (cS hb43) D1 (Qb J) (tz2 8 J (cS hb43) D1 (xfA Tryz.underlying85 ty24 J) (tz3 9 J (cS hb43) D1 (fun w' h'=>xlA h' 2 ty24 J) (tz2 10 J (cS hb43) D1 (Qm (n:=a0.programs.length) Tryz.underlying24 J) (tz2 11 J (cS hb43) D1 (xiB J J) (tz0 12 J D1 (xqB hb43 J) ?_))))))))
   exact hrest _ _ ⟨⟨J,J,J,(flB hb43),trivial⟩,rfl⟩
  ·refine tz4 4 J (skF hb43) D1 (tz4 5 J (skF hb43) D1 (tz4 6 J (skF hb43) D1 (tz4 7 J (skF hb43) D1 (tz4 8 J (skF hb43) D1 (tz4 9 J (skF hb43) D1 (tz4 10 J (skF hb43) D1 (tz4 11 J (skF hb43) D1 (tz0 12 J D1 (xpB hb43 J) ?_))))))))
   exact hrest _ _ ⟨⟨J,J,J,(flB hb43),trivial⟩,rfl⟩
 rintro ρ _ ⟨hρ,rfl⟩
 rw [QB hρ]
 refine tz0 13 J (⟨M,Hp.le_refl M,(S.pk [0,1,2,3,4,5,6,7,8,9,10,11,12])⟩) (xmB J) ?_
 refine YB (fun ρ w'=>QV ρ [(0,pt bo0 0),(3,pt b1 0),(4,pt b4 0),(23,.bool (((decide (a1.Task<(0:Int)))||(decide (a1.Task≥(a0.programs.length:Int))))||(decide (a1.Call<(0:Int)))))]∧w41=w') 14 (Ls 32 [0,1,2,3,4,5,6,7,8,9,10,11,12,13,14,15,16,17]) ?_ ?_
 rotate_left
 ·intro hrest
  rcases Qy ((decide (a1.Task<(0:Int)))||(decide (a1.Task≥(a0.programs.length:Int)))) with hb44 | hb44
  ·refine tz2 14 J (cS hb44) D1 (xfA Tryz.underlying40 ty3 J) (tz3 15 J (cS hb44) D1 (fun w' h'=>xlA h' 1 ty3 J) (tz2 16 J (cS hb44) D1 (xiB J J) (tz0 17 J D1 (xqB hb44 J) ?_)))
   exact hrest _ _ ⟨⟨J,J,J,(flB hb44),trivial⟩,rfl⟩
  ·refine tz4 14 J (skF hb44) D1 (tz4 15 J (skF hb44) D1 (tz4 16 J (skF hb44) D1 (tz0 17 J D1 (xpB hb44 J) ?_)))
   exact hrest _ _ ⟨⟨J,J,J,(flB hb44),trivial⟩,rfl⟩
 rintro ρ _ ⟨hρ,rfl⟩
 rw [QB hρ]
 refine tz0 18 J (⟨M,Hp.le_refl M,(S.pk [0,1,2,3,4,5,6,7,8,9,10,11,12])⟩) (xmB J) ?_
 obtain ⟨o61,o61h,o61H⟩:=QO H
 refine YB (fun ρ w'=>∃ (x60:Bool),(x60)=o61∧QV ρ [(0,pt bo0 0),(3,pt b1 0),(4,pt b4 0),(37,.bool x60)]∧Ext w w'∧St w' M F [Blk b4 (.cells cz5 43 (0,0)),B40 b1 a1 A1_0 c1_0,B85 bo0 a0 A0_0 c0_0 bo0_1 bo0_2 A0_3 c0_3 A0_4 c0_4,Blk bo0_1 (.cells #[.slice A0_1_0 a0.r.tasks.length c0_1_0,.slice A0_1_1 a0.r.l.length c0_1_1] 162 (0,0)),Rw Zu 165 A0_1_0 c0_1_0 a0.r.tasks,Rw Qs 40 A0_1_1 c0_1_1 a0.r.l,B96 bo0_2 a0.m A0_2_8 A0_2_9 A0_2_10 c0_2_10 A0_2_11,XC QM (Value.int .i64) A0_2_8 a0.m.names,MpI A0_2_9 a0.m.many,Rw Qe 134 A0_2_10 c0_2_10 a0.m.txs,MpV A0_2_11 vs0_2_11,Rw Zz 61 A0_3 c0_3 a0.done,Rw (rInt .i64) 3 A0_4 c0_4 a0.last]) 0 (Ls 32 [0,1,2,3,4,5,6,7,8,9,10,11,12,13,14,15,16,17,18,19,20,21,22,23,24,25,26,27,28,29,30,31]) ?_ ?_
 rotate_left
 ·intro hrest
  have H:=o61h
  rcases Q3 H with ⟨hb59,H⟩ | ⟨hb59,H⟩
  ·refine tz4 19 J (skF hb59) D1 (tz4 20 J (skF hb59) D1 (tz4 21 J (skF hb59) D1 (tz4 22 J (skF hb59) D1 (tz4 23 J (skF hb59) D1 (tz4 24 J (skF hb59) D1 (tz4 25 J (skF hb59) D1 (tz4 26 J (skF hb59) D1 (tz4 27 J (skF hb59) D1 (tz4 28 J (skF hb59) D1 (tz4 29 J (skF hb59) D1 (tz4 30 J (skF hb59) D1 (tz0 31 J D1 (xpB hb59 J) ?_))))))))))))
   exact hrest _ _ ⟨true,oi H,agP J,E,S.pk [0,1,2,3,4,5,6,7,8,9,10,11,12]⟩
  ·refine tz2 19 J (cS hb59) D1 (xfA Tryz.underlying40 ty3 J) (tz3 20 J (cS hb59) D1 (fun w' h'=>xlA h' 1 ty3 J) (tz2 21 J (cS hb59) D1 (xmP J) (tz2 22 J (cS hb59) D1 (Qb J) (tz2 23 J (cS hb59) D1 (xfA Tryz.underlying85 ty24 J) (tz3 24 J (cS hb59) D1 (fun w' h'=>xlA h' 2 ty24 J) (tz2 25 J (cS hb59) D1 (xfA Tryz.underlying40 ty3 J) (tz3 26 J (cS hb59) D1 (fun w' h'=>xlA h' 1 ty3 J) ?_)))))))
   obtain ⟨⟨p62,p63⟩,H⟩:=Z8 H
   obtain ⟨b64,o65,cs66,_,_,ee71,hb67,vs68,hR69,hc70⟩:=SlW.at' hr0_0 p62 p63
   obtain ⟨v75,hs74,rfl⟩:=hR69
   obtain ⟨A72,c73,rfl,_⟩:=hs74.form
   refine tz2 27 J (cS hb59) D1 (QS Tryz.underlying24 ty41 (slA ee71) J p62 p63) (tz3 28 J (cS hb59) D1 (fun w' h'=>Z0 (Yj h' hb67) ty41 J (hc70 0 _ J)) (tz2 29 J (cS hb59) D1 (Qm (n:=(rd a0.programs a1.Task).length) Tryz.underlying41 J) (tz2 30 J (cS hb59) D1 (xiB J J) (tz0 31 J D1 (xqB hb59 J) ?_))))
   exact hrest _ _ ⟨(decide (a1.Call≥((rd a0.programs a1.Task).length:Int))),oi H,agP J,E,S.pk [0,1,2,3,4,5,6,7,8,9,10,11,12]⟩
 rintro ρ w76 ⟨x60,rfl,hρ,E,S⟩
 rw [QB hρ]
 have H:=o61H
 refine Wz ?_
 refine tn ?_
 rcases Q3 H with ⟨hb77,H⟩ | ⟨hb77,H⟩
 ·refine QC (cB hb77) ?_
  refine wsQ (W_v _ (xb2 [(0,1),(1,1),(2,1),(3,1),(4,1),(5,1),(6,1)] cz5 Tryz.underlying43 ty43 J) J ?_)
  refine Qu S 0 J ty43 J J [vU 0,vI 0,vS ([]:Str),vS ([]:Str),vS ([]:Str),vI 0,vU 0] J J J cz5 (by as_aux_lemma=>kernel_rfl) J (eE1 E ?_)
  intro w78 E S
  refine waB J (wnQ ?_)
  refine QT ?_
  refine tr (?_)
  obtain rfl:=oi H
  exact ⟨_,_,_,fun w1 e1=>Zg (vs:=[.agg cz5,.bool false]) (FA.cons (rcA S e1 0 ty43 J J J) (FA.cons (J) (FA.nil))),HM,E,S.pk [2,3,4,5,6,7,8,9,10,11,12],⟨J,J⟩⟩
 refine QA (cB hb77) (QX (tn ?_))
 as_aux_lemma =>
 refine QH ?_
 refine rgA S [0,1,2,3,4,5,6,7,8,9,10,11,12] [_,_,_,_,_,_,_,_,_,_,_,_,_] 12 mixed J (eE1 E ?_)
 intro w104 E S D10
 refine tz0 0 J D10 (xmP J) (tz0 1 J D10 (Qb J) (tz0 2 J D10 (xfA Tryz.underlying85 ty24 J) (tz1 3 J D10 (fun w' h'=>xlA h' 2 ty24 J) (tz0 4 J D10 (xfA Tryz.underlying40 ty3 J) (tz1 5 J D10 (fun w' h'=>xlA h' 1 ty3 J) ?_)))))
 obtain ⟨⟨p106,p107⟩,H⟩:=Z8 H
 obtain ⟨b108,o109,cs110,_,_,ee115,hb111,vs112,hR113,hc114⟩:=SlW.at' hr0_0 p106 p107
 obtain ⟨v119,hs118,rfl⟩:=hR113
 obtain ⟨A116,c117,rfl,_⟩:=hs118.form
 have hs118z:=hs118
 refine tz0 6 J D10 (QS Tryz.underlying24 ty41 (slA ee115) J p106 p107) (tz1 7 J D10 (fun w' h'=>Z0 (Yj h' hb111) ty41 J (hc114 0 _ J)) (tz0 8 J D10 (xfA Tryz.underlying40 ty3 J) (tz1 9 J D10 (fun w' h'=>xlA h' 1 ty3 J) ?_)))
 obtain ⟨⟨p120,p121⟩,H⟩:=Z8 H
 obtain ⟨b122,o123,cs124,_,_,ee129,hb125,vs126,hR127,hc128⟩:=SlW.at' hs118z p120 p121
 obtain rfl:vs126=_:=hR127
 refine tz0 10 J D10 (QS Tryz.underlying41 ty43 (slA ee129) J p120 p121) (Wt 11 J J J (.agg (Qo (rd (rd a0.programs a1.Task) a1.Call))) J (fun w' h'=>Qi (Yj h' hb125) ty43 J (X1 hc128 0 J) J J) D10 ?_)
 refine Wo 12 J ?_
 refine Qu S 0 J ty43 J J [vU ((rd (rd a0.programs a1.Task) a1.Call).Kind),vI ((rd (rd a0.programs a1.Task) a1.Call).Tx),vS ((rd (rd a0.programs a1.Task) a1.Call).Key),vS ((rd (rd a0.programs a1.Task) a1.Call).End),vS ((rd (rd a0.programs a1.Task) a1.Call).Value),vI ((rd (rd a0.programs a1.Task) a1.Call).Limit),vU ((rd (rd a0.programs a1.Task) a1.Call).Engine)] J J J (Qo (rd (rd a0.programs a1.Task) a1.Call)) (by as_aux_lemma=>kernel_rfl) J (eE1 E ?_)
 intro w130 E S
 refine QK (Yl ⟨.inl (by decide),?_⟩)
 refine Wo 13 J ?_
 refine waB J ?_
 refine QK (Yl ⟨.inl (by decide),?_⟩)
 refine Wz ?_
 refine tn ?_
 refine QT ?_
 obtain rfl:=oi H
 exact ⟨_,_,_,fun w1 e1=>Zg (vs:=[.agg (Qo (rd (rd a0.programs a1.Task) a1.Call)),.bool true]) (FA.cons (rcA S e1 0 ty43 J J J) (FA.cons (J) (FA.nil))),HM,E,S.pk [2,3,4,5,6,7,8,9,10,11,12],⟨J,J⟩⟩
def Zt (k:Nat) (a0:Qg) (a1:Int):Option (Int×Bool×Bool) :=
 (Option.bind (α:=Bool) (if ((decide (a1<(0:Int)))||(decide (a1≥(a0.tasks.length:Int))))=true then some (true) else (if 0≤a1∧a1<(a0.tasks.length:Int) then some (((rd a0.tasks a1).at_==(0:Int))) else none)) (fun x23=>(if x23=true then some ((0:Int),false,false) else (if 0≤a1∧a1<(a0.tasks.length:Int) then some ((rd a0.tasks a1).calls,((rd a0.tasks a1).at_==(2:Int)),true) else none))))
theorem Zt.mono {k a0 a1}: OLe (Zt k a0 a1) (Zt (k+1) a0 a1):=by
 unfold Zt
 exact mo
theorem Zt.con {k M A0_0 c0_0 A0_1 c0_1} {a0:Qg} {a1:Int} {bo0} {r:Int×Bool×Bool} (h:Zt k a0 a1=some r): Con Tryz.prog 71 #[pt bo0 0,vI a1] M [Blk bo0 (.cells #[.slice A0_0 a0.tasks.length c0_0,.slice A0_1 a0.l.length c0_1] 162 (0,0)),Rw Zu 165 A0_0 c0_0 a0.tasks,Rw Qs 40 A0_1 c0_1 a0.l] (fun v M' Γ'=>v=.tuple #[vI r.1,.bool r.2.1,.bool r.2.2]∧Γ'=[Blk bo0 (.cells #[.slice A0_0 a0.tasks.length c0_0,.slice A0_1 a0.l.length c0_1] 162 (0,0)),Rw Zu 165 A0_0 c0_0 a0.tasks,Rw Qs 40 A0_1 c0_1 a0.l]):=by
 refine cwA Tryz.func71 J Tryz.ntmps71 Tryz.results71 J h ?_
 intro w F rn S hrn E HM H
 unfold Zt at H
 refine wsQ (waI J (waB J (waB J (wnQ (QH (wsQ (wmP J (W_v (.bool false) (VY (r:=false) J J (VT Tryz.underlying82)) J (wmB J (QN (J) (wmI J (QN (J) ?_))))))))))))
 refine wiB J J (wqB J J (wmB J ?_))
 refine ZO 8 (fun ρ w'=>QV ρ [(0,pt bo0 0),(1,vI a1),(22,.bool ((decide (a1<(0:Int)))||(decide (a1≥(a0.tasks.length:Int)))))]∧w=w') ?_ ?_
 ·rcases Qy (decide (a1<(0:Int))) with hb1 | hb1
  ·refine QN (cS hb1) (wmI J (QN (cS hb1) (wmP J (QN (cS hb1) (W_v _ (Qb J) J (QN (cS hb1) (wfA Tryz.underlying162 ty160 J (QN (cS hb1) (wlA S 0 ty160 J (QN (cS hb1) (W_v _ (Qm (n:=a0.tasks.length) Tryz.underlying160 J) J (QN (cS hb1) (wiB J J (wqB hb1 J (QK ?_)))))))))))))))
   exact ⟨⟨J,J,(flB hb1),trivial⟩,rfl⟩
  ·refine QZ (skF hb1) J (QZ (skF hb1) J (QZ (skF hb1) J (QZ (skF hb1) J (QZ (skF hb1) J (QZ (skF hb1) J (QZ (skF hb1) J (wpB hb1 J (QK ?_))))))))
   exact ⟨⟨J,J,(flB hb1),trivial⟩,rfl⟩
 as_aux_lemma =>
 rintro ρ _ ⟨hρ,rfl⟩
 rw [QB hρ]
 refine wmB J ?_
 obtain ⟨o24,o24h,o24H⟩:=QO H
 refine ZO 10 (fun ρ w'=>∃ (x23:Bool),(x23)=o24∧QV ρ [(0,pt bo0 0),(1,vI a1),(33,.bool x23)]∧Ext w w'∧St w' M F [Blk bo0 (.cells #[.slice A0_0 a0.tasks.length c0_0,.slice A0_1 a0.l.length c0_1] 162 (0,0)),Rw Zu 165 A0_0 c0_0 a0.tasks,Rw Qs 40 A0_1 c0_1 a0.l]) ?_ ?_
 ·as_aux_lemma =>
   have H:=o24h
   rcases Q3 H with ⟨hb22,H⟩ | ⟨hb22,H⟩
   ·refine QZ (skF hb22) J (QZ (skF hb22) J (QZ (skF hb22) J (QZ (skF hb22) J (QZ (skF hb22) J (QZ (skF hb22) J (QZ (skF hb22) J (QZ (skF hb22) J (QZ (skF hb22) J (wpB hb22 J (QK ?_))))))))))
    exact ⟨true,oi H,agP J,E,S.pk [0,1,2]⟩
   ·refine QN (cS hb22) (wmP J (QN (cS hb22) (W_v _ (Qb J) J (QN (cS hb22) (wfA Tryz.underlying162 ty160 J (QN (cS hb22) (wlA S 0 ty160 J (QN (cS hb22) (wmI J (QN (cS hb22) ?_))))))))))
    obtain ⟨⟨p25,p26⟩,H⟩:=Z8 H
    obtain ⟨b27,o28,cs29,_,_,ee34,hb30,vs31,hR32,hc33⟩:=SlW.at' (S.row_read 1 J) p25 p26
    obtain rfl:vs31=_:=hR32
    refine W_v _ (QS Tryz.underlying160 ty165 (slA ee34) J p25 p26) J (QN (cS hb22) (wfA Tryz.underlying165 ty3 J (QN (cS hb22) (W_v _ (Z0 (Hp.of_get hb30) ty3 J (hc33 0 _ J)) J (QN (cS hb22) (wiB J J (wqB hb22 J (QK ?_))))))))
    exact ⟨((rd a0.tasks a1).at_==(0:Int)),oi H,agP J,E,S.pk [0,1,2]⟩
 as_aux_lemma =>
 rintro ρ w35 ⟨x23,rfl,hρ,E,S⟩
 rw [QB hρ]
 have H:=o24H
 refine wnQ ?_
 rcases Q3 H with ⟨hb36,H⟩ | ⟨hb36,H⟩
 ·refine QC (cB hb36) ?_
  refine wsQ (waI J (waB J (waB J (wnQ ?_))))
  refine QT ?_
  refine tr (?_)
  obtain rfl:=oi H
  exact ⟨_,_,_,rsA (vs:=[_,_,_]) J,HM,E,S.pk [0,1,2],⟨J,J⟩⟩
 refine QA (cB hb36) (QX (tn (wsQ (wmP J (W_v _ (Qb J) J (wfA Tryz.underlying162 ty160 J (wlA S 0 ty160 J (wmI J ?_))))))))
 obtain ⟨⟨p37,p38⟩,H⟩:=Z8 H
 obtain ⟨b39,o40,cs41,_,_,ee46,hb42,vs43,hR44,hc45⟩:=SlW.at' (S.row_read 1 J) p37 p38
 obtain rfl:vs43=_:=hR44
 refine W_v _ (QS Tryz.underlying160 ty165 (slA ee46) J p37 p38) J (W_v (.agg #[vI ((rd a0.tasks a1).at_),vI ((rd a0.tasks a1).calls)]) (Qi (Hp.of_get hb42) ty165 J (X1 hc45 0 J) J J) J ?_)
 refine YN S #[vI 0,vI 0] ty165 J J (eE2 E ?_)
 intro b47 w48 E S
 refine Qu S 0 J ty165 J J [vI ((rd a0.tasks a1).at_),vI ((rd a0.tasks a1).calls)] J J J #[vI ((rd a0.tasks a1).at_),vI ((rd a0.tasks a1).calls)] J J (eE1 E ?_)
 intro w50 E S
 refine wnQ (QH ?_)
 refine rgA S [0,1,2,3] [_,_,_,_] 8 mixed J (eE1 E ?_)
 intro w51 E S D1
 refine tz0 0 J D1 (xfA Tryz.underlying165 ty3 J) (tz1 1 J D1 (fun w' h'=>xlA h' 0 ty3 J) (tz0 2 J D1 (xfA Tryz.underlying165 ty3 J) (tz1 3 J D1 (fun w' h'=>xlA h' 0 ty3 J) (tz0 4 J D1 (xiB J J) (tz0 5 J D1 (xaI J) (tz0 6 J D1 (xaB J) (tz0 7 J D1 (xaB J) ?_)))))))
 refine Wz ?_
 refine tn ?_
 refine QT ?_
 obtain rfl:=oi H
 exact ⟨_,_,_,rsA (vs:=[_,_,_]) J,HM,E,S.pk [1,2,3],⟨J,J⟩⟩
def ZN (k:Nat) (a0:Qg) (a1:Int) (a2:Int) (a3:QL):Option (Int×Qg) :=
 (if ((decide (a1<(0:Int)))||(decide (a1≥(a0.tasks.length:Int))))=true then some ((1:Int),a0) else (if 0≤a1∧a1<(a0.tasks.length:Int) then (if ((rd a0.tasks a1).at_ != a2)=true then some ((7:Int),a0) else (if 0≤a1∧a1<(a0.tasks.length:Int) then (Option.bind (VL k (⟨a3.What,a1,(rd a0.tasks a1).calls,⟨a3.Answer.Err,a3.Answer.Found,a3.Answer.Value,a3.Answer.Pairs⟩⟩:QL)) (fun t57=>(if a0.l.length+([t57]:List QL).length≤1759218604441 then (Option.bind (α:=List YQ) (some (List.set a0.tasks a1.toNat (⟨(IntKind.i64.wrap ((rd a0.tasks a1).at_+(1:Int))),(rd a0.tasks a1).calls⟩:YQ))) (fun x79=>(Option.bind (α:=List YQ) (if (decide ((rd x79 a1).at_>(2:Int)))=true then (Option.bind (α:=List YQ) (some (List.set x79 a1.toNat (⟨(0:Int),(rd x79 a1).calls⟩:YQ))) (fun x117=>(Option.bind (α:=List YQ) (some (List.set x117 a1.toNat (⟨(rd x117 a1).at_,(IntKind.i64.wrap ((rd x117 a1).calls+(1:Int)))⟩:YQ))) (fun x123=>some (x123))))) else some (x79)) (fun x110=>some ((0:Int),(⟨x110,(a0.l++([t57]:List QL))⟩:Qg)))))) else none))) else none)) else none))
theorem ZN.mono {k a0 a1 a2 a3}: OLe (ZN k a0 a1 a2 a3) (ZN (k+1) a0 a1 a2 a3):=by
 unfold ZN
 have m1:=@VL.mono
 exact mo
theorem ZN.con {k M A0_0 c0_0 A0_1 c0_1} {a0:Qg} {a1:Int} {a2:Int} {A3_0 c3_0} {a3:QL} {bo0} {r:Int×Qg} (h:ZN k a0 a1 a2 a3=some r) (hr3_0:SlR Qq M (.slice A3_0 a3.Answer.Pairs.length c3_0) a3.Answer.Pairs): Con Tryz.prog 151 #[pt bo0 0,vI a1,vI a2,.agg #[vU a3.What,vI a3.Task,vI a3.Call,vI a3.Answer.Err,.bool a3.Answer.Found,vS a3.Answer.Value,.slice A3_0 a3.Answer.Pairs.length c3_0]] M [Blk bo0 (.cells #[.slice A0_0 a0.tasks.length c0_0,.slice A0_1 a0.l.length c0_1] 162 (0,0)),Rw Zu 165 A0_0 c0_0 a0.tasks,Rw Qs 40 A0_1 c0_1 a0.l] (fun v M' Γ'=>∃ (Aq1:Option Addr) (cq2:Nat) (Aq4:Option Addr) (cq5:Nat),v=vI r.1∧Γ'=[Blk bo0 (.cells #[.slice Aq1 r.2.tasks.length cq2,.slice Aq4 r.2.l.length cq5] 162 (0,0)),Rw Zu 165 Aq1 cq2 r.2.tasks,Rw Qs 40 Aq4 cq5 r.2.l]):=by
 refine cwA Tryz.func151 J Tryz.ntmps151 Tryz.results151 J h ?_
 intro w F rn S hrn E HM H
 unfold ZN at H
 refine wsQ ?_
 refine Yz S #[vU a3.What,vI a3.Task,vI a3.Call,vI a3.Answer.Err,.bool a3.Answer.Found,vS a3.Answer.Value,.slice A3_0 a3.Answer.Pairs.length c3_0] J J J (eE2 E ?_)
 intro b1 w2 E S
 refine waI J (wnQ (QH ?_))
 refine ZW ?_
 refine wsQ (wmP J (W_v (.bool false) (VY (r:=false) J J (VT Tryz.underlying82)) J (waB J (wnQ (QA J (wsQ (wmI J (wiB J J (wmB J ?_)))))))))
 refine ZO 8 (fun ρ w'=>QV ρ [(0,pt bo0 0),(1,vI a1),(2,vI a2),(7,pt b1 0),(24,.bool ((decide (a1<(0:Int)))||(decide (a1≥(a0.tasks.length:Int)))))]∧w2=w') ?_ ?_
 ·rcases Qy (decide (a1<(0:Int))) with hb4 | hb4
  ·refine QN (cS hb4) (wmI J (QN (cS hb4) (wmP J (QN (cS hb4) (W_v _ (Qb J) J (QN (cS hb4) (wfA Tryz.underlying162 ty160 J (QN (cS hb4) (wlA S 1 ty160 J (QN (cS hb4) (W_v _ (Qm (n:=a0.tasks.length) Tryz.underlying160 J) J (QN (cS hb4) (wiB J J (wqB hb4 J (QK ?_)))))))))))))))
   exact ⟨⟨J,J,J,J,(flB hb4),trivial⟩,rfl⟩
  ·refine QZ (skF hb4) J (QZ (skF hb4) J (QZ (skF hb4) J (QZ (skF hb4) J (QZ (skF hb4) J (QZ (skF hb4) J (QZ (skF hb4) J (wpB hb4 J (QK ?_))))))))
   exact ⟨⟨J,J,J,J,(flB hb4),trivial⟩,rfl⟩
 as_aux_lemma =>
 rintro ρ _ ⟨hρ,rfl⟩
 rw [QB hρ]
 refine waB J (wnQ ?_)
 rcases Q3 H with ⟨hb5,H⟩ | ⟨hb5,H⟩
 ·refine QC (cB hb5) ?_
  refine wsQ (waI J (wnQ ?_))
  refine QT ?_
  refine br (tr (?_))
  obtain rfl:=oi H
  exact ⟨_,_,_,rsA (vs:=[_]) J,HM,E,S.pk [1,2,3],⟨A0_0,c0_0,A0_1,c0_1,J,J⟩⟩
 refine QA (cB hb5) (wsQ (wmP J (W_v _ (Qb J) J (wfA Tryz.underlying162 ty160 J (wlA S 1 ty160 J (wmI J ?_))))))
 obtain ⟨⟨p6,p7⟩,H⟩:=Z8 H
 obtain ⟨b8,o9,cs10,_,_,ee15,hb11,vs12,hR13,hc14⟩:=SlW.at' (S.row_read 2 J) p6 p7
 obtain rfl:vs12=_:=hR13
 refine W_v _ (QS Tryz.underlying160 ty165 (slA ee15) J p6 p7) J (wfA Tryz.underlying165 ty3 J (W_v _ (Z0 (Hp.of_get hb11) ty3 J (hc14 0 _ J)) J (wmI J (wiB J J (waB J (wnQ ?_))))))
 rcases Q3 H with ⟨hb16,H⟩ | ⟨hb16,H⟩
 ·refine QC (cB hb16) ?_
  refine wsQ (waI J (wnQ ?_))
  refine QT ?_
  refine br (tr (?_))
  obtain rfl:=oi H
  exact ⟨_,_,_,rsA (vs:=[_]) J,HM,E,S.pk [1,2,3],⟨A0_0,c0_0,A0_1,c0_1,J,J⟩⟩
 refine QA (cB hb16) (QX (bn (tn ?_)))
 as_aux_lemma =>
 refine wsQ (wmP J (W_v _ (Qb J) J (wfA Tryz.underlying162 ty160 J (wlA S 1 ty160 J (wmI J ?_)))))
 obtain ⟨⟨p17,p18⟩,H⟩:=Z8 H
 obtain ⟨b19,o20,cs21,_,_,ee26,hb22,vs23,hR24,hc25⟩:=SlW.at' (S.row_read 2 J) p17 p18
 obtain rfl:vs23=_:=hR24
 refine W_v _ (QS Tryz.underlying160 ty165 (slA ee26) J p17 p18) J (waP J (wnQ (QH ?_)))
 refine rgA S [1,2,3] [_,_,_] 8 mixed J (eE1 E ?_)
 intro w29 E S D1
 refine tz0 0 J D1 (xmI J) (tz0 1 J D1 (xmP J) (tz0 2 J D1 (Qb J) (tz0 3 J D1 (xfA Tryz.underlying165 ty3 J) (Wt 4 J J J (vI ((rd a0.tasks a1).calls)) J (fun w' h'=>X9 h' 1 J ee26 p17 p18 1 (by rintro _ _ rfl;rfl) ty3 J) D1 (tz0 5 J D1 (xfA Tryz.underlying40 ty3 J) ?_)))))
 refine Wo 6 J ?_
 refine Qu S 0 J ty3 J J [vI a1] J J J #[vU a3.What,vI a1,vI a3.Call,vI a3.Answer.Err,.bool a3.Answer.Found,vS a3.Answer.Value,.slice A3_0 a3.Answer.Pairs.length c3_0] J J (eE1 E ?_)
 intro w31 E S
 refine QK (Yl ⟨.inr ⟨M,Hp.le_refl M,(S.pk [1,2,3])⟩,?_⟩)
 refine tz0 7 J (⟨M,Hp.le_refl M,(S.pk [1,2,3])⟩) (xfA Tryz.underlying40 ty3 J) ?_
 refine Wo 8 J ?_
 refine Qu S 0 J ty3 J J [vI ((rd a0.tasks a1).calls)] J J J #[vU a3.What,vI a1,vI ((rd a0.tasks a1).calls),vI a3.Answer.Err,.bool a3.Answer.Found,vS a3.Answer.Value,.slice A3_0 a3.Answer.Pairs.length c3_0] J J (eE1 E ?_)
 intro w32 E S
 refine QK (Yl ⟨.inl (by decide),?_⟩)
 refine Wz ?_
 refine tn (QH ?_)
 have LE54:=Hp.le_refl M
 refine rgA S [0,1,2] [_,_,_] 11 mixed J (eE1 E ?_)
 intro w55 E S D3
 refine tz0 0 J D3 (xmP J) (tz0 1 J D3 (xmP J) (tz0 2 J D3 (Qb J) (tz0 3 J D3 (xfA Tryz.underlying162 ty25 J) (tz1 4 J D3 (fun w' h'=>xlA h' 1 ty25 J) (Wt 5 J J J (.agg #[vU a3.What,vI a1,vI ((rd a0.tasks a1).calls),vI a3.Answer.Err,.bool a3.Answer.Found,vS a3.Answer.Value,.slice A3_0 a3.Answer.Pairs.length c3_0]) J (fun w' h'=>Qi (Y1 h' 0 J) ty40 J (QG J) J J) D3 ?_)))))
 refine Wo 6 J ?_
 obtain ⟨t57,ht58,H⟩:=QO H
 refine ZR fn152 (VL.con ht58 hr3_0) S J J (by rintro _ _ _ ⟨_,_,_,rfl⟩;exact (QP (YX (fun _ _ _ _ h=>h)) YE)) (eE4 E ?_)
 rintro _ w62 _ Γ' E S ⟨A59,c60,rfl,rfl⟩
 refine QK (Yl ⟨.inr ⟨M,Hp.le_refl M,(S.pk [1,2,3])⟩,?_⟩)
 refine Wo 7 J ?_
 obtain ⟨M63,hM64,hf65,S⟩:=S.row_freeze 0 J
 replace HM:=Hp.le_trans HM hM64
 replace LE54:=Hp.le_trans LE54 hM64
 refine Xl S #[vU t57.What,vI t57.Task,vI t57.Call,vI t57.Answer.Err,.bool t57.Answer.Found,vS t57.Answer.Value,.slice A59 t57.Answer.Pairs.length c60] Tryz.underlying25 ty40 J J cz6 (by as_aux_lemma=>kernel_rfl) (by as_aux_lemma=>kernel_rfl) J (eE2 E ?_)
 intro b66 w67 E S
 replace S:=S.blk_row (r:=Qs) (l:=([t57]:List QL)) 0 J 1 (Nat.le_refl 1) J (Cells.cons (vs:=[vU t57.What,vI t57.Task,vI t57.Call,vI t57.Answer.Err,.bool t57.Answer.Found,vS t57.Answer.Value,.slice A59 t57.Answer.Pairs.length c60]) (⟨_,hf65,J⟩) Cells.nil)
 refine QK (Yl ⟨.inr ⟨M63,LE54,(S.pk [1,2,3])⟩,?_⟩)
 refine Wo 8 J ?_
 obtain ⟨p69,H⟩:=Z8 H
 obtain ⟨src70,hs71,hC72⟩:=XJ (P:=Tryz.prog) (ρ:=Qs) (l:=([t57]:List QL)) (S.row_read 0 J) (by decide)
 refine X0 S 4 J J J Tryz.underlying25 (.inl Tryz.underlying25) ty40 J (by decide) (by decide) hs71 hC72 J (by omega) J (eE2 E ?_)
 intro v73 w74 E S
 obtain ⟨A75,c76,rfl,_⟩:=(S.row_read 4 J).form
 refine QK (Yl ⟨.inr ⟨M63,LE54,(S.pk [1,2,3])⟩,?_⟩)
 refine tz0 9 J (⟨M63,LE54,(S.pk [1,2,3])⟩) (Qb J) (tz0 10 J (⟨M63,LE54,(S.pk [1,2,3])⟩) (xfA Tryz.underlying162 ty25 J) ?_)
 refine Wo 11 J ?_
 refine Qu S 2 J ty25 J J [.slice A75 (a0.l++([t57]:List QL)).length c76] J J J #[.slice A0_0 a0.tasks.length c0_0,.slice A75 (a0.l++([t57]:List QL)).length c76] J J (eE1 E ?_)
 intro w77 E S
 refine QK (Yl ⟨.inl (by decide),?_⟩)
 refine Wz ?_
 refine tn ?_
 as_aux_lemma =>
 refine QH (wsQ (wmP J (W_v _ (Qb J) J (wfA Tryz.underlying165 ty3 J (W_v (vI ((rd a0.tasks a1).at_)) (X9 ⟨M63,Hp.le_refl _,S⟩ 3 J ee26 p17 p18 0 (by rintro _ _ rfl;rfl) ty3 J) J (wiI J J (W_v _ (Qb J) J (wfA Tryz.underlying165 ty3 J ?_))))))))
 obtain ⟨x79,he80,H⟩:=QO H
 replace he80:=oi he80
 refine VQ S 3 J J ee26 (by first | exact p17 | simpa using p17) (by first | exact p18 | simpa using p18) 0 ty3 rfl rfl [vI (IntKind.i64.wrap ((rd a0.tasks a1).at_+(1:Int)))] rfl rfl rfl rfl (⟨(IntKind.i64.wrap ((rd a0.tasks a1).at_+(1:Int))),(rd a0.tasks a1).calls⟩:YQ) (by rintro _ rfl;rfl) he80 (eE1 E ?_)
 intro w78 E S
 have hs81:Value.slice A0_0 a0.tasks.length c0_0=Value.slice A0_0 x79.length c0_0:=by rw [← he80,List.length_set]
 try rw [hs81] at S
 try rw [hs81]
 have p82:a1<(x79.length:Int):=by rw [← he80,List.length_set];exact p7
 have p83:a1<(x79.length:Int):=by rw [← he80,List.length_set];exact p18
 refine wnQ (wsQ (wmP J (W_v _ (Qb J) J (wfA Tryz.underlying165 ty3 J (W_v (vI ((rd x79 a1).at_)) (X9 ⟨M63,Hp.le_refl _,S⟩ 3 J ee26 p17 p83 0 (by rintro _ _ rfl;rfl) ty3 J) J (wiB J J (wnQ ?_)))))))
 obtain ⟨o114,o114h,o114H⟩:=QO H
 refine Yc (fun ρ w'=>∃ (x110:List YQ) (A111:Option Addr) (c112:Nat),(x110)=o114∧QV ρ []∧Ext w w'∧St w' M63 F [Rw Zu 165 A111 c112 x110,Blk bo0 (.cells #[.slice A111 x110.length c112,.slice A75 (a0.l++([t57]:List QL)).length c76] 162 (0,0)),Row Qs 40 (.slice A75 (a0.l++([t57]:List QL)).length c76) (a0.l++([t57]:List QL))]) ?_ ?_
 ·as_aux_lemma =>
   clear o114H
   have H:=o114h
   rcases Q3 H with ⟨hb115,H⟩ | ⟨hb115,H⟩
   ·refine QC (cB hb115) ?_
    refine wsQ (wmP J (W_v _ (Qb J) J (wfA Tryz.underlying165 ty3 J ?_)))
    obtain ⟨x117,he118,H⟩:=QO H
    replace he118:=oi he118
    refine VQ S 3 J J ee26 (by first | exact p17 | simpa using p17) (by first | exact p83 | simpa using p83) 0 ty3 rfl rfl [vI 0] rfl rfl rfl rfl (⟨(0:Int),(rd x79 a1).calls⟩:YQ) (by rintro _ rfl;rfl) he118 (eE1 E ?_)
    intro w116 E S
    have hs119:Value.slice A0_0 x79.length c0_0=Value.slice A0_0 x117.length c0_0:=by rw [← he118,List.length_set]
    try rw [hs119] at S
    try rw [hs119]
    have p120:a1<(x117.length:Int):=by rw [← he118,List.length_set];exact p82
    have p121:a1<(x117.length:Int):=by rw [← he118,List.length_set];exact p83
    refine wnQ (QJ (wmP J (W_v _ (Qb J) J (wfA Tryz.underlying165 ty3 J (W_v (vI ((rd x117 a1).calls)) (X9 ⟨M63,Hp.le_refl _,S⟩ 3 J ee26 p17 p121 1 (by rintro _ _ rfl;rfl) ty3 J) J (wiI J J (W_v _ (Qb J) J (wfA Tryz.underlying165 ty3 J ?_))))))))
    obtain ⟨x123,he124,H⟩:=QO H
    replace he124:=oi he124
    refine VQ S 3 J J ee26 (by first | exact p17 | simpa using p17) (by first | exact p121 | simpa using p121) 1 ty3 rfl rfl [vI (IntKind.i64.wrap ((rd x117 a1).calls+(1:Int)))] rfl rfl rfl rfl (⟨(rd x117 a1).at_,(IntKind.i64.wrap ((rd x117 a1).calls+(1:Int)))⟩:YQ) (by rintro _ rfl;rfl) he124 (eE1 E ?_)
    intro w122 E S
    have hs125:Value.slice A0_0 x117.length c0_0=Value.slice A0_0 x123.length c0_0:=by rw [← he124,List.length_set]
    try rw [hs125] at S
    try rw [hs125]
    have p126:a1<(x123.length:Int):=by rw [← he124,List.length_set];exact p120
    have p127:a1<(x123.length:Int):=by rw [← he124,List.length_set];exact p121
    refine wnQ ?_
    exact ⟨x123,A0_0,c0_0,oi H,trivial,E,S.pk [3,2,4]⟩
   refine QA (cB hb115) (QX (tn ?_))
   exact ⟨x79,A0_0,c0_0,oi H,trivial,E,S.pk [3,2,4]⟩
 rintro ρ w128 ⟨x110,A111,c112,rfl,hρ,E,S⟩
 rw [QB hρ]
 have H:=o114H
 refine tn ?_
 as_aux_lemma =>
 refine wsQ (waI J (wnQ ?_))
 refine QT ?_
 obtain rfl:=oi H
 exact ⟨_,_,_,rsA (vs:=[_]) J,HM,E,S.pk [1,0,2],⟨A111,c112,A75,c76,J,J⟩⟩
def Yb (k:Nat) (a0:Qg) (a1:Int):Option (Int×Qg) :=
 (Option.bind (ZN k a0 a1 (0:Int) (⟨(1:Int),(0:Int),(0:Int),⟨(0:Int),false,([]:Str),([]:(List Qp))⟩⟩:QL)) (fun t1=>some (t1.1,t1.2)))
theorem Yb.mono {k a0 a1}: OLe (Yb k a0 a1) (Yb (k+1) a0 a1):=by
 unfold Yb
 have m1:=@ZN.mono
 exact mo
theorem Yb.con {k M A0_0 c0_0 A0_1 c0_1} {a0:Qg} {a1:Int} {bo0} {r:Int×Qg} (h:Yb k a0 a1=some r): Con Tryz.prog 146 #[pt bo0 0,vI a1] M [Blk bo0 (.cells #[.slice A0_0 a0.tasks.length c0_0,.slice A0_1 a0.l.length c0_1] 162 (0,0)),Rw Zu 165 A0_0 c0_0 a0.tasks,Rw Qs 40 A0_1 c0_1 a0.l] (fun v M' Γ'=>∃ (Aq1:Option Addr) (cq2:Nat) (Aq4:Option Addr) (cq5:Nat),v=vI r.1∧Γ'=[Blk bo0 (.cells #[.slice Aq1 r.2.tasks.length cq2,.slice Aq4 r.2.l.length cq5] 162 (0,0)),Rw Zu 165 Aq1 cq2 r.2.tasks,Rw Qs 40 Aq4 cq5 r.2.l]):=by
 refine cwA Tryz.func146 J Tryz.ntmps146 Tryz.results146 J h ?_
 intro w F rn S hrn E HM H
 unfold Yb at H
 refine wsQ (waI J (wnQ (wsQ (wmP J (wmI J (W_v _ (xb2 [(0,1),(1,1),(2,1),(3,4)] #[vU 1,vI 0,vI 0,vI 0,.bool false,vS ([]:Str),.slice none 0 0] Tryz.underlying40 ty40 J) J ?_))))))
 obtain ⟨t1,ht2,H⟩:=QO H
 refine Y2 fn151 (ZN.con ht2 (SlW.nil _ _)) (Γ1:=[_,_,_]) (Γ2:=[]) S J J ?_
 rintro _ w9 M10 Γ' hM11 E' S ⟨A3,c4,A6,c7,rfl,rfl⟩
 replace HM:=Hp.le_trans HM hM11
 replace E:=E.trans E'
 replace S:St w9 M10 F [_,_,_]:=S
 refine waI J (wnQ ?_)
 refine QT ?_
 obtain rfl:=oi H
 exact ⟨_,_,_,rsA (vs:=[_]) J,HM,E,S.pk [0,1,2],⟨A3,c4,A6,c7,J,J⟩⟩
def XO (k:Nat) (a0:Qg) (a1:QL):Option (Int×Qg) :=
 (Option.bind (Yb k a0 a1.Task) (fun t4=>some (t4.1,t4.2)))
theorem XO.mono {k a0 a1}: OLe (XO k a0 a1) (XO (k+1) a0 a1):=by
 unfold XO
 have m1:=@Yb.mono
 exact mo
theorem XO.con {k M A0_0 c0_0 A0_1 c0_1} {a0:Qg} {A1_0 c1_0} {a1:QL} {bo0} {r:Int×Qg} (h:XO k a0 a1=some r) (hr1_0:SlR Qq M (.slice A1_0 a1.Answer.Pairs.length c1_0) a1.Answer.Pairs): Con Tryz.prog 145 #[pt bo0 0,.agg #[vU a1.What,vI a1.Task,vI a1.Call,vI a1.Answer.Err,.bool a1.Answer.Found,vS a1.Answer.Value,.slice A1_0 a1.Answer.Pairs.length c1_0]] M [Blk bo0 (.cells #[.slice A0_0 a0.tasks.length c0_0,.slice A0_1 a0.l.length c0_1] 162 (0,0)),Rw Zu 165 A0_0 c0_0 a0.tasks,Rw Qs 40 A0_1 c0_1 a0.l] (fun v M' Γ'=>∃ (Aq1:Option Addr) (cq2:Nat) (Aq4:Option Addr) (cq5:Nat),v=vI r.1∧Γ'=[Blk bo0 (.cells #[.slice Aq1 r.2.tasks.length cq2,.slice Aq4 r.2.l.length cq5] 162 (0,0)),Rw Zu 165 Aq1 cq2 r.2.tasks,Rw Qs 40 Aq4 cq5 r.2.l]):=by
 refine cwA Tryz.func145 J Tryz.ntmps145 Tryz.results145 J h ?_
 intro w F rn S hrn E HM H
 unfold XO at H
 refine wsQ ?_
 refine Yz S #[vU a1.What,vI a1.Task,vI a1.Call,vI a1.Answer.Err,.bool a1.Answer.Found,vS a1.Answer.Value,.slice A1_0 a1.Answer.Pairs.length c1_0] J J J (eE2 E ?_)
 intro b1 w2 E S
 refine waI J (wnQ (wsQ (wmP J (wfA Tryz.underlying40 ty3 J (wlA S 0 ty3 J ?_)))))
 obtain ⟨t4,ht5,H⟩:=QO H
 replace S:St w2 M F [_,_,_,_]:=S.pk [1,2,3,0]
 refine Y2 fn146 (Yb.con ht5) (Γ1:=[_,_,_]) (Γ2:=[_]) S J J ?_
 rintro _ w12 M13 Γ' hM14 E' S ⟨A6,c7,A9,c10,rfl,rfl⟩
 replace HM:=Hp.le_trans HM hM14
 replace E:=E.trans E'
 replace S:St w12 M13 F [_,_,_,_]:=S
 refine waI J (wnQ ?_)
 refine QT ?_
 obtain rfl:=oi H
 exact ⟨_,_,_,rsA (vs:=[_]) J,HM,E,S.pk [0,1,2],⟨A6,c7,A9,c10,J,J⟩⟩
def Yy (k:Nat) (a0:Qg) (a1:Int):Option (Int×Qg) :=
 (Option.bind (ZN k a0 a1 (1:Int) (⟨(2:Int),(0:Int),(0:Int),⟨(0:Int),false,([]:Str),([]:(List Qp))⟩⟩:QL)) (fun t1=>some (t1.1,t1.2)))
theorem Yy.mono {k a0 a1}: OLe (Yy k a0 a1) (Yy (k+1) a0 a1):=by
 unfold Yy
 have m1:=@ZN.mono
 exact mo
theorem Yy.con {k M A0_0 c0_0 A0_1 c0_1} {a0:Qg} {a1:Int} {bo0} {r:Int×Qg} (h:Yy k a0 a1=some r): Con Tryz.prog 148 #[pt bo0 0,vI a1] M [Blk bo0 (.cells #[.slice A0_0 a0.tasks.length c0_0,.slice A0_1 a0.l.length c0_1] 162 (0,0)),Rw Zu 165 A0_0 c0_0 a0.tasks,Rw Qs 40 A0_1 c0_1 a0.l] (fun v M' Γ'=>∃ (Aq1:Option Addr) (cq2:Nat) (Aq4:Option Addr) (cq5:Nat),v=vI r.1∧Γ'=[Blk bo0 (.cells #[.slice Aq1 r.2.tasks.length cq2,.slice Aq4 r.2.l.length cq5] 162 (0,0)),Rw Zu 165 Aq1 cq2 r.2.tasks,Rw Qs 40 Aq4 cq5 r.2.l]):=by
 refine cwA Tryz.func148 J Tryz.ntmps148 Tryz.results148 J h ?_
 intro w F rn S hrn E HM H
 unfold Yy at H
 refine wsQ (waI J (wnQ (wsQ (wmP J (wmI J (W_v _ (xb2 [(0,1),(1,1),(2,1),(3,4)] #[vU 2,vI 0,vI 0,vI 0,.bool false,vS ([]:Str),.slice none 0 0] Tryz.underlying40 ty40 J) J ?_))))))
 obtain ⟨t1,ht2,H⟩:=QO H
 refine Y2 fn151 (ZN.con ht2 (SlW.nil _ _)) (Γ1:=[_,_,_]) (Γ2:=[]) S J J ?_
 rintro _ w9 M10 Γ' hM11 E' S ⟨A3,c4,A6,c7,rfl,rfl⟩
 replace HM:=Hp.le_trans HM hM11
 replace E:=E.trans E'
 replace S:St w9 M10 F [_,_,_]:=S
 refine waI J (wnQ ?_)
 refine QT ?_
 obtain rfl:=oi H
 exact ⟨_,_,_,rsA (vs:=[_]) J,HM,E,S.pk [0,1,2],⟨A3,c4,A6,c7,J,J⟩⟩
def XN (k:Nat) (a0:Qg) (a1:QL):Option (Int×Qg) :=
 (Option.bind (Yy k a0 a1.Task) (fun t4=>some (t4.1,t4.2)))
theorem XN.mono {k a0 a1}: OLe (XN k a0 a1) (XN (k+1) a0 a1):=by
 unfold XN
 have m1:=@Yy.mono
 exact mo
theorem XN.con {k M A0_0 c0_0 A0_1 c0_1} {a0:Qg} {A1_0 c1_0} {a1:QL} {bo0} {r:Int×Qg} (h:XN k a0 a1=some r) (hr1_0:SlR Qq M (.slice A1_0 a1.Answer.Pairs.length c1_0) a1.Answer.Pairs): Con Tryz.prog 147 #[pt bo0 0,.agg #[vU a1.What,vI a1.Task,vI a1.Call,vI a1.Answer.Err,.bool a1.Answer.Found,vS a1.Answer.Value,.slice A1_0 a1.Answer.Pairs.length c1_0]] M [Blk bo0 (.cells #[.slice A0_0 a0.tasks.length c0_0,.slice A0_1 a0.l.length c0_1] 162 (0,0)),Rw Zu 165 A0_0 c0_0 a0.tasks,Rw Qs 40 A0_1 c0_1 a0.l] (fun v M' Γ'=>∃ (Aq1:Option Addr) (cq2:Nat) (Aq4:Option Addr) (cq5:Nat),v=vI r.1∧Γ'=[Blk bo0 (.cells #[.slice Aq1 r.2.tasks.length cq2,.slice Aq4 r.2.l.length cq5] 162 (0,0)),Rw Zu 165 Aq1 cq2 r.2.tasks,Rw Qs 40 Aq4 cq5 r.2.l]):=by
 refine cwA Tryz.func147 J Tryz.ntmps147 Tryz.results147 J h ?_
 intro w F rn S hrn E HM H
 unfold XN at H
 refine wsQ ?_
 refine Yz S #[vU a1.What,vI a1.Task,vI a1.Call,vI a1.Answer.Err,.bool a1.Answer.Found,vS a1.Answer.Value,.slice A1_0 a1.Answer.Pairs.length c1_0] J J J (eE2 E ?_)
 intro b1 w2 E S
 refine waI J (wnQ (wsQ (wmP J (wfA Tryz.underlying40 ty3 J (wlA S 0 ty3 J ?_)))))
 obtain ⟨t4,ht5,H⟩:=QO H
 replace S:St w2 M F [_,_,_,_]:=S.pk [1,2,3,0]
 refine Y2 fn148 (Yy.con ht5) (Γ1:=[_,_,_]) (Γ2:=[_]) S J J ?_
 rintro _ w12 M13 Γ' hM14 E' S ⟨A6,c7,A9,c10,rfl,rfl⟩
 replace HM:=Hp.le_trans HM hM14
 replace E:=E.trans E'
 replace S:St w12 M13 F [_,_,_,_]:=S
 refine waI J (wnQ ?_)
 refine QT ?_
 obtain rfl:=oi H
 exact ⟨_,_,_,rsA (vs:=[_]) J,HM,E,S.pk [0,1,2],⟨A6,c7,A9,c10,J,J⟩⟩
def Ya (k:Nat) (a0:Qg) (a1:Int) (a2:Ql):Option (Int×Qg) :=
 (Option.bind (ZN k a0 a1 (2:Int) (⟨(3:Int),(0:Int),(0:Int),⟨a2.Err,a2.Found,a2.Value,a2.Pairs⟩⟩:QL)) (fun t4=>some (t4.1,t4.2)))
theorem Ya.mono {k a0 a1 a2}: OLe (Ya k a0 a1 a2) (Ya (k+1) a0 a1 a2):=by
 unfold Ya
 have m1:=@ZN.mono
 exact mo
theorem Ya.con {k M A0_0 c0_0 A0_1 c0_1} {a0:Qg} {a1:Int} {A2_0 c2_0} {a2:Ql} {bo0} {r:Int×Qg} (h:Ya k a0 a1 a2=some r) (hr2_0:SlR Qq M (.slice A2_0 a2.Pairs.length c2_0) a2.Pairs): Con Tryz.prog 150 #[pt bo0 0,vI a1,.agg #[vI a2.Err,.bool a2.Found,vS a2.Value,.slice A2_0 a2.Pairs.length c2_0]] M [Blk bo0 (.cells #[.slice A0_0 a0.tasks.length c0_0,.slice A0_1 a0.l.length c0_1] 162 (0,0)),Rw Zu 165 A0_0 c0_0 a0.tasks,Rw Qs 40 A0_1 c0_1 a0.l] (fun v M' Γ'=>∃ (Aq1:Option Addr) (cq2:Nat) (Aq4:Option Addr) (cq5:Nat),v=vI r.1∧Γ'=[Blk bo0 (.cells #[.slice Aq1 r.2.tasks.length cq2,.slice Aq4 r.2.l.length cq5] 162 (0,0)),Rw Zu 165 Aq1 cq2 r.2.tasks,Rw Qs 40 Aq4 cq5 r.2.l]):=by
 refine cwA Tryz.func150 J Tryz.ntmps150 Tryz.results150 J h ?_
 intro w F rn S hrn E HM H
 unfold Ya at H
 refine wsQ ?_
 refine Yz S #[vI a2.Err,.bool a2.Found,vS a2.Value,.slice A2_0 a2.Pairs.length c2_0] J J J (eE2 E ?_)
 intro b1 w2 E S
 refine waI J (wnQ (wsQ (wmP J (wmI J (W_v (.agg #[vI a2.Err,.bool a2.Found,vS a2.Value,.slice A2_0 a2.Pairs.length c2_0]) (Qi (S.blk 0 J) ty38 J (QG J) J J) J (W_v _ (xb2 [(0,1),(1,1),(2,1),(3,4)] #[vU 3,vI 0,vI 0,vI a2.Err,.bool a2.Found,vS a2.Value,.slice A2_0 a2.Pairs.length c2_0] Tryz.underlying40 ty40 J) J ?_))))))
 obtain ⟨t4,ht5,H⟩:=QO H
 replace S:St w2 M F [_,_,_,_]:=S.pk [1,2,3,0]
 refine Y2 fn151 (ZN.con ht5 hr2_0) (Γ1:=[_,_,_]) (Γ2:=[_]) S J J ?_
 rintro _ w12 M13 Γ' hM14 E' S ⟨A6,c7,A9,c10,rfl,rfl⟩
 replace HM:=Hp.le_trans HM hM14
 replace E:=E.trans E'
 replace S:St w12 M13 F [_,_,_,_]:=S
 refine waI J (wnQ ?_)
 refine QT ?_
 obtain rfl:=oi H
 exact ⟨_,_,_,rsA (vs:=[_]) J,HM,E,S.pk [0,1,2],⟨A6,c7,A9,c10,J,J⟩⟩
def XM (k:Nat) (a0:Qg) (a1:QL):Option (Int×Qg) :=
 (Option.bind (Ya k a0 a1.Task a1.Answer) (fun t4=>some (t4.1,t4.2)))
theorem XM.mono {k a0 a1}: OLe (XM k a0 a1) (XM (k+1) a0 a1):=by
 unfold XM
 have m1:=@Ya.mono
 exact mo
theorem XM.con {k M A0_0 c0_0 A0_1 c0_1} {a0:Qg} {A1_0 c1_0} {a1:QL} {bo0} {r:Int×Qg} (h:XM k a0 a1=some r) (hr1_0:SlR Qq M (.slice A1_0 a1.Answer.Pairs.length c1_0) a1.Answer.Pairs): Con Tryz.prog 149 #[pt bo0 0,.agg #[vU a1.What,vI a1.Task,vI a1.Call,vI a1.Answer.Err,.bool a1.Answer.Found,vS a1.Answer.Value,.slice A1_0 a1.Answer.Pairs.length c1_0]] M [Blk bo0 (.cells #[.slice A0_0 a0.tasks.length c0_0,.slice A0_1 a0.l.length c0_1] 162 (0,0)),Rw Zu 165 A0_0 c0_0 a0.tasks,Rw Qs 40 A0_1 c0_1 a0.l] (fun v M' Γ'=>∃ (Aq1:Option Addr) (cq2:Nat) (Aq4:Option Addr) (cq5:Nat),v=vI r.1∧Γ'=[Blk bo0 (.cells #[.slice Aq1 r.2.tasks.length cq2,.slice Aq4 r.2.l.length cq5] 162 (0,0)),Rw Zu 165 Aq1 cq2 r.2.tasks,Rw Qs 40 Aq4 cq5 r.2.l]):=by
 refine cwA Tryz.func149 J Tryz.ntmps149 Tryz.results149 J h ?_
 intro w F rn S hrn E HM H
 unfold XM at H
 refine wsQ ?_
 refine Yz S #[vU a1.What,vI a1.Task,vI a1.Call,vI a1.Answer.Err,.bool a1.Answer.Found,vS a1.Answer.Value,.slice A1_0 a1.Answer.Pairs.length c1_0] J J J (eE2 E ?_)
 intro b1 w2 E S
 refine waI J (wnQ (wsQ (wmP J (wfA Tryz.underlying40 ty3 J (wlA S 0 ty3 J (wfA Tryz.underlying40 ty38 J (W_v (.agg #[vI a1.Answer.Err,.bool a1.Answer.Found,vS a1.Answer.Value,.slice A1_0 a1.Answer.Pairs.length c1_0]) (Qi (S.blk 0 J) ty38 J (QG J) J J) J ?_)))))))
 obtain ⟨t4,ht5,H⟩:=QO H
 replace S:St w2 M F [_,_,_,_]:=S.pk [1,2,3,0]
 refine Y2 fn150 (Ya.con ht5 hr1_0) (Γ1:=[_,_,_]) (Γ2:=[_]) S J J ?_
 rintro _ w12 M13 Γ' hM14 E' S ⟨A6,c7,A9,c10,rfl,rfl⟩
 replace HM:=Hp.le_trans HM hM14
 replace E:=E.trans E'
 replace S:St w12 M13 F [_,_,_,_]:=S
 refine waI J (wnQ ?_)
 refine QT ?_
 obtain rfl:=oi H
 exact ⟨_,_,_,rsA (vs:=[_]) J,HM,E,S.pk [0,1,2],⟨A6,c7,A9,c10,J,J⟩⟩
def YP (k:Nat) (a0:QW) (a1:Int) (a2:Int):Option (Int×Int×Int) :=
 (if (!((mget a0.names (⟨a1,a2⟩:Y7)).isSome))=true then some ((0:Int),(0:Int),(0:Int)) else (if 0≤(IntKind.i64.wrap (((mget a0.names (⟨a1,a2⟩:Y7)).getD (0:Int))-(1:Int)))∧(IntKind.i64.wrap (((mget a0.names (⟨a1,a2⟩:Y7)).getD (0:Int))-(1:Int)))<(a0.txs.length:Int) then some (((mget a0.names (⟨a1,a2⟩:Y7)).getD (0:Int)),(rd a0.txs (IntKind.i64.wrap (((mget a0.names (⟨a1,a2⟩:Y7)).getD (0:Int))-(1:Int)))).state,(rd a0.txs (IntKind.i64.wrap (((mget a0.names (⟨a1,a2⟩:Y7)).getD (0:Int))-(1:Int)))).snapshot) else none))
theorem YP.mono {k a0 a1 a2}: OLe (YP k a0 a1 a2) (YP (k+1) a0 a1 a2):=by
 unfold YP
 exact mo
theorem YP.con {k M A0_8 A0_9 A0_10 c0_10 A0_11} {vs0_11:List (Str×Value)} {a0:QW} {a1:Int} {a2:Int} {bo0} {r:Int×Int×Int} (h:YP k a0 a1 a2=some r) (hm0_11:Xa Qx M a0.rows vs0_11): Con Tryz.prog 37 #[pt bo0 0,vI a1,vI a2] M [B96 bo0 a0 A0_8 A0_9 A0_10 c0_10 A0_11,XC QM (Value.int .i64) A0_8 a0.names,MpI A0_9 a0.many,Rw Qe 134 A0_10 c0_10 a0.txs,MpV A0_11 vs0_11] (fun v M' Γ'=>v=.tuple #[vI r.1,vU r.2.1,vI r.2.2]∧Γ'=[B96 bo0 a0 A0_8 A0_9 A0_10 c0_10 A0_11,XC QM (Value.int .i64) A0_8 a0.names,MpI A0_9 a0.many,Rw Qe 134 A0_10 c0_10 a0.txs,MpV A0_11 vs0_11]):=by
 refine cwA Tryz.func37 J Tryz.ntmps37 Tryz.results37 J h ?_
 intro w F rn S hrn E HM H
 unfold YP at H
 refine wsQ (waI J (waI J (waI J (wnQ (QH (wsQ (wmP J (W_v (.bool false) (VY (r:=false) J J (VT Tryz.underlying50)) J (wnQ (QA J (QX ?_)))))))))))
 refine tn (wsQ (wmP J (W_v _ (Qb J) J (wfA Tryz.underlying96 ty91 J (wlA S 0 ty91 J (wmI J (wmI J (W_v _ (xb2 [(0,1),(1,1)] #[vI a1,vI a2] Tryz.underlying132 ty132 J) J (W_v (.tuple #[vI ((mget a0.names (⟨a1,a2⟩:Y7)).getD (0:Int)),.bool ((mget a0.names (⟨a1,a2⟩:Y7)).isSome)]) (Kr S 1 J Tryz.underlying91 key132 (0:Int) (fun _=>ty3.zero) (⟨a1,a2⟩:Y7) J J) J (wmT J (W_v _ (QR J J) J (W_v _ (QR J J) J (waI J (waB J ?_))))))))))))))
 refine wnQ (QH (wsQ (wmB J (W_v _ (Xr (b:=((mget a0.names (⟨a1,a2⟩:Y7)).isSome)) J) J (wnQ ?_)))))
 rcases Q3 H with ⟨hb1,H⟩ | ⟨hb1,H⟩
 ·refine QC (cB hb1) ?_
  refine wsQ (waI J (waI J (waI J (wnQ ?_))))
  refine QT ?_
  refine tr (?_)
  obtain rfl:=oi H
  exact ⟨_,_,_,rsA (vs:=[_,_,_]) J,HM,E,S.pk [0,1,2,3,4],⟨J,J⟩⟩
 refine QA (cB hb1) (QX (tn ?_))
 as_aux_lemma =>
 refine wsQ (wmP J (W_v _ (Qb J) J (wfA Tryz.underlying96 ty93 J (wlA S 0 ty93 J (wmI J (wiI J J ?_))))))
 obtain ⟨⟨p2,p3⟩,H⟩:=Z8 H
 obtain ⟨b4,o5,cs6,_,_,ee11,hb7,vs8,hR9,hc10⟩:=SlW.at' (S.row_read 3 J) p2 p3
 obtain rfl:vs8=_:=hR9
 refine W_v _ (QS Tryz.underlying93 ty134 (slA ee11) J p2 p3) J (W_v (.agg #[vU ((rd a0.txs (IntKind.i64.wrap (((mget a0.names (⟨a1,a2⟩:Y7)).getD (0:Int))-(1:Int)))).state),vI ((rd a0.txs (IntKind.i64.wrap (((mget a0.names (⟨a1,a2⟩:Y7)).getD (0:Int))-(1:Int)))).snapshot)]) (Qi (Hp.of_get hb7) ty134 J (X1 hc10 0 J) J J) J ?_)
 refine YN S #[vU 0,vI 0] ty134 J J (eE2 E ?_)
 intro b12 w13 E S
 refine Qu S 0 J ty134 J J [vU ((rd a0.txs (IntKind.i64.wrap (((mget a0.names (⟨a1,a2⟩:Y7)).getD (0:Int))-(1:Int)))).state),vI ((rd a0.txs (IntKind.i64.wrap (((mget a0.names (⟨a1,a2⟩:Y7)).getD (0:Int))-(1:Int)))).snapshot)] J J J #[vU ((rd a0.txs (IntKind.i64.wrap (((mget a0.names (⟨a1,a2⟩:Y7)).getD (0:Int))-(1:Int)))).state),vI ((rd a0.txs (IntKind.i64.wrap (((mget a0.names (⟨a1,a2⟩:Y7)).getD (0:Int))-(1:Int)))).snapshot)] J J (eE1 E ?_)
 intro w15 E S
 refine wnQ (QH ?_)
 refine rgA S [0,1,2,3,4,5] [_,_,_,_,_,_] 8 mixed J (eE1 E ?_)
 intro w16 E S D1
 refine tz0 0 J D1 (xmI J) (tz0 1 J D1 (xfA Tryz.underlying134 ty5 J) (tz1 2 J D1 (fun w' h'=>xlA h' 0 ty5 J) (tz0 3 J D1 (xfA Tryz.underlying134 ty3 J) (tz1 4 J D1 (fun w' h'=>xlA h' 0 ty3 J) (tz0 5 J D1 (xaI J) (tz0 6 J D1 (xaI J) (tz0 7 J D1 (xaI J) ?_)))))))
 refine Wz ?_
 refine tn ?_
 refine QT ?_
 obtain rfl:=oi H
 exact ⟨_,_,_,rsA (vs:=[_,_,_]) J,HM,E,S.pk [1,2,3,4,5],⟨J,J⟩⟩
def YI (k:Nat) (a0:QW) (a1:QY):Option (Bool) :=
 (Option.bind (α:=Bool) (if (a1.Kind==(2:Int))=true then some ((a1.Kind==(2:Int))) else some ((a1.Kind==(4:Int)))) (fun x6=>(if x6=true then (Option.bind (VM k a0.c a1.Key) (fun t16=>some t16)) else (if (a1.Kind==(3:Int))=true then (Option.bind (VM k a0.c a1.Key) (fun t35=>(Option.bind (α:=Bool) (if t35=true then (Option.bind (VI k a0.c a1.Value) (fun t44=>some (t44))) else some (false)) (fun x42=>some x42)))) else (if (a1.Kind==(5:Int))=true then (Option.bind (X6 k a0.c a1.Key) (fun t66=>(Option.bind (α:=Bool) (if t66=true then (Option.bind (X6 k a0.c a1.End) (fun t75=>some (t75))) else some (false)) (fun x73=>some ((x73&&(decide (a1.Limit≥(0:Int))))&&(decide (a1.Limit≤(128:Int)))))))) else some true)))))
theorem YI.mono {k a0 a1}: OLe (YI k a0 a1) (YI (k+1) a0 a1):=by
 unfold YI
 have m1:=@X6.mono
 have m2:=@VM.mono
 have m3:=@VI.mono
 exact mo
theorem YI.con {k M A0_8 A0_9 A0_10 c0_10 A0_11} {vs0_11:List (Str×Value)} {a0:QW} {a1:QY} {bo0} {r:Bool} (h:YI k a0 a1=some r) (hm0_11:Xa Qx M a0.rows vs0_11): Con Tryz.prog 57 #[pt bo0 0,.agg (Qo a1)] M [B96 bo0 a0 A0_8 A0_9 A0_10 c0_10 A0_11,XC QM (Value.int .i64) A0_8 a0.names,MpI A0_9 a0.many,Rw Qe 134 A0_10 c0_10 a0.txs,MpV A0_11 vs0_11] (fun v M' Γ'=>v=.bool r∧Γ'=[B96 bo0 a0 A0_8 A0_9 A0_10 c0_10 A0_11,XC QM (Value.int .i64) A0_8 a0.names,MpI A0_9 a0.many,Rw Qe 134 A0_10 c0_10 a0.txs,MpV A0_11 vs0_11]):=by
 refine cwA Tryz.func57 J Tryz.ntmps57 Tryz.results57 J h ?_
 intro w F rn S hrn E HM H
 unfold YI at H
 refine wsQ ?_
 refine Yz S (Qo a1) J J J (eE2 E ?_)
 intro b1 w2 E S
 refine waB J (wnQ (QH (wsQ (wfA Tryz.underlying43 ty5 J (wlA S 0 ty5 J (wnQ ?_))))))
 refine ZW ?_
 refine QH (wsQ (wiB J J (waB J (wnQ ?_))))
 obtain ⟨o7,o7h,o7H⟩:=QO H
 refine Yc (fun ρ w'=>∃ (x6:Bool),(x6)=o7∧QV ρ [(0,pt bo0 0),(3,pt b1 0),(6,vU a1.Kind),(7,.bool x6)]∧Ext w w'∧St w' M F [B43 b1 a1,B96 bo0 a0 A0_8 A0_9 A0_10 c0_10 A0_11,XC QM (Value.int .i64) A0_8 a0.names,MpI A0_9 a0.many,Rw Qe 134 A0_10 c0_10 a0.txs,MpV A0_11 vs0_11]) ?_ ?_
 ·clear o7H
  have H:=o7h
  rcases Q3 H with ⟨hb8,H⟩ | ⟨hb8,H⟩
  ·refine QC (cB hb8) ?_
   refine QX (tn ?_)
   exact ⟨(a1.Kind==(2:Int)),oi H,agP J,E,S.pk [0,1,2,3,4,5]⟩
  refine QA (cB hb8) (QJ (wiB J J (waB J (wnQ ?_))))
  exact ⟨(a1.Kind==(4:Int)),oi H,agP J,E,S.pk [0,1,2,3,4,5]⟩
 as_aux_lemma =>
 rintro ρ w9 ⟨x6,rfl,hρ,E,S⟩
 rw [QB hρ]
 have H:=o7H
 refine tn ?_
 rcases Q3 H with ⟨hb10,H⟩ | ⟨hb10,H⟩
 ·refine QC (cB hb10) ?_
  refine QH ?_
  refine rgA S [0,1,2,3,4,5] [_,_,_,_,_,_] 8 mixed J (eE1 E ?_)
  intro w14 E S D1
  refine tz0 0 J D1 (xmP J) (tz0 1 J D1 (Qb J) (tz0 2 J D1 (xfA Tryz.underlying96 ty23 J) (Wt 3 J J J (.agg (QF a0.c)) J (fun w' h'=>Qi (Y1 h' 1 J) ty23 J (QG J) J J) D1 (tz0 4 J D1 (xfA Tryz.underlying43 ty9 J) (tz1 5 J D1 (fun w' h'=>xlA h' 0 ty9 J) ?_)))))
  refine Wo 6 J ?_
  obtain ⟨t16,ht17,H⟩:=QO H
  refine ZR fn76 (VM.con ht17) S J J flN (eE4 E ?_)
  rintro _ w18 _ Γ' E S ⟨rfl,rfl⟩
  refine QK (Yl ⟨.inr ⟨M,Hp.le_refl M,(S.pk [0,1,2,3,4,5])⟩,?_⟩)
  refine tz0 7 J (⟨M,Hp.le_refl M,(S.pk [0,1,2,3,4,5])⟩) (xaB J) ?_
  refine Wz ?_
  refine tn ?_
  refine QT ?_
  refine br (tr (?_))
  obtain rfl:=oi H
  exact ⟨_,_,_,rsA (vs:=[_]) J,HM,E,S.pk [1,2,3,4,5],⟨J,J⟩⟩
 refine QA (cB hb10) (wsQ (wiB J J (waB J (wnQ ?_))))
 rcases Q3 H with ⟨hb19,H⟩ | ⟨hb19,H⟩
 ·refine QC (cB hb19) ?_
  refine QH ?_
  refine rgA S [0,1,2,3,4,5] [_,_,_,_,_,_] 17 mixed J (eE1 E ?_)
  intro w33 E S D3
  refine tz0 0 J D3 (xmP J) (tz0 1 J D3 (Qb J) (tz0 2 J D3 (xfA Tryz.underlying96 ty23 J) (Wt 3 J J J (.agg (QF a0.c)) J (fun w' h'=>Qi (Y1 h' 1 J) ty23 J (QG J) J J) D3 (tz0 4 J D3 (xfA Tryz.underlying43 ty9 J) (tz1 5 J D3 (fun w' h'=>xlA h' 0 ty9 J) ?_)))))
  refine Wo 6 J ?_
  obtain ⟨t35,ht36,H⟩:=QO H
  refine ZR fn76 (VM.con ht36) S J J flN (eE4 E ?_)
  rintro _ w37 _ Γ' E S ⟨rfl,rfl⟩
  refine QK (Yl ⟨.inr ⟨M,Hp.le_refl M,(S.pk [0,1,2,3,4,5])⟩,?_⟩)
  refine tz0 7 J (⟨M,Hp.le_refl M,(S.pk [0,1,2,3,4,5])⟩) (xmB J) ?_
  obtain ⟨o43,o43h,o43H⟩:=QO H
  refine YB (fun ρ w'=>∃ (x42:Bool),(x42)=o43∧QV ρ [(34,.bool x42)]∧Ext w w'∧St w' M F [B43 b1 a1,B96 bo0 a0 A0_8 A0_9 A0_10 c0_10 A0_11,XC QM (Value.int .i64) A0_8 a0.names,MpI A0_9 a0.many,Rw Qe 134 A0_10 c0_10 a0.txs,MpV A0_11 vs0_11]) 1 (Ls 17 [0,1,2,3,4,5,6,7,8,9,10,11,12,13,14,15]) ?_ ?_
  rotate_left
  ·intro hrest
   have H:=o43h
   rcases Q3 H with ⟨hb41,H⟩ | ⟨hb41,H⟩
   ·have D5:∃ Mx,Hp.le M Mx∧St _ Mx F [_,_,_,_,_,_]:=⟨_,Hp.le_refl _,S.pk [0,1,2,3,4,5]⟩
    refine tz2 8 J (cS hb41) D5 (xmP J) (tz2 9 J (cS hb41) D5 (Qb J) (tz2 10 J (cS hb41) D5 (xfA Tryz.underlying96 ty23 J) (WtY 11 J J J (.agg (QF a0.c)) J (cS hb41) (fun w' h'=>Qi (Y1 h' 1 J) ty23 J (QG J) J J) D5 (tz2 12 J (cS hb41) D5 (xfA Tryz.underlying43 ty9 J) (tz3 13 J (cS hb41) D5 (fun w' h'=>xlA h' 0 ty9 J) ?_)))))
    refine Wo 14 J ?_
    refine QN (cS hb41) ?_
    obtain ⟨t44,ht45,H⟩:=QO H
    refine ZR fn77 (VI.con ht45) S J J flN (eE4 E ?_)
    rintro _ w46 _ Γ' E S ⟨rfl,rfl⟩
    refine QK (Yl ⟨.inr ⟨M,Hp.le_refl M,(S.pk [0,1,2,3,4,5])⟩,?_⟩)
    refine tz0 15 J (⟨M,Hp.le_refl M,(S.pk [0,1,2,3,4,5])⟩) (xpB hb41 J) ?_
    exact hrest _ _ ⟨t44,oi H,agP J,E,S.pk [0,1,2,3,4,5]⟩
   ·have D7:∃ Mx,Hp.le M Mx∧St _ Mx F [_,_,_,_,_,_]:=⟨_,Hp.le_refl _,S.pk [0,1,2,3,4,5]⟩
    refine tz4 8 J (skT hb41) D7 (tz4 9 J (skT hb41) D7 (tz4 10 J (skT hb41) D7 (tz4 11 J (skT hb41) D7 (tz4 12 J (skT hb41) D7 (tz4 13 J (skT hb41) D7 (tz4 14 J (skT hb41) D7 (tz0 15 J D7 (xqB hb41 J) ?_)))))))
    exact hrest _ _ ⟨false,oi H,agP J,E,S.pk [0,1,2,3,4,5]⟩
  rintro ρ w47 ⟨x42,rfl,hρ,E,S⟩
  rw [QB hρ]
  have H:=o43H
  refine tz0 16 J (⟨M,Hp.le_refl M,(S.pk [0,1,2,3,4,5])⟩) (xaB J) ?_
  refine Wz ?_
  refine tn ?_
  refine QT ?_
  refine br (tr (?_))
  obtain rfl:=oi H
  exact ⟨_,_,_,rsA (vs:=[_]) J,HM,E,S.pk [1,2,3,4,5],⟨J,J⟩⟩
 refine QA (cB hb19) ?_
 as_aux_lemma =>
 refine wsQ (wiB J J (waB J (wnQ ?_)))
 rcases Q3 H with ⟨hb48,H⟩ | ⟨hb48,H⟩
 ·refine QC (cB hb48) ?_
  refine QH ?_
  refine rgA S [0,1,2,3,4,5] [_,_,_,_,_,_] 27 mixed J (eE1 E ?_)
  intro w64 E S D9
  refine tz0 0 J D9 (xmP J) (tz0 1 J D9 (Qb J) (tz0 2 J D9 (xfA Tryz.underlying96 ty23 J) (Wt 3 J J J (.agg (QF a0.c)) J (fun w' h'=>Qi (Y1 h' 1 J) ty23 J (QG J) J J) D9 (tz0 4 J D9 (xfA Tryz.underlying43 ty9 J) (tz1 5 J D9 (fun w' h'=>xlA h' 0 ty9 J) ?_)))))
  refine Wo 6 J ?_
  obtain ⟨t66,ht67,H⟩:=QO H
  refine ZR fn78 (X6.con ht67) S J J flN (eE4 E ?_)
  rintro _ w68 _ Γ' E S ⟨rfl,rfl⟩
  refine QK (Yl ⟨.inr ⟨M,Hp.le_refl M,(S.pk [0,1,2,3,4,5])⟩,?_⟩)
  refine tz0 7 J (⟨M,Hp.le_refl M,(S.pk [0,1,2,3,4,5])⟩) (xmB J) ?_
  obtain ⟨o74,o74h,o74H⟩:=QO H
  refine YB (fun ρ w'=>∃ (x73:Bool),(x73)=o74∧QV ρ [(3,pt b1 0),(52,.bool x73)]∧Ext w w'∧St w' M F [B43 b1 a1,B96 bo0 a0 A0_8 A0_9 A0_10 c0_10 A0_11,XC QM (Value.int .i64) A0_8 a0.names,MpI A0_9 a0.many,Rw Qe 134 A0_10 c0_10 a0.txs,MpV A0_11 vs0_11]) 11 (Ls 27 [0,1,2,3,4,5,6,7,8,9,10,11,12,13,14,15]) ?_ ?_
  rotate_left
  ·intro hrest
   have H:=o74h
   rcases Q3 H with ⟨hb72,H⟩ | ⟨hb72,H⟩
   ·have D11:∃ Mx,Hp.le M Mx∧St _ Mx F [_,_,_,_,_,_]:=⟨_,Hp.le_refl _,S.pk [0,1,2,3,4,5]⟩
    refine tz2 8 J (cS hb72) D11 (xmP J) (tz2 9 J (cS hb72) D11 (Qb J) (tz2 10 J (cS hb72) D11 (xfA Tryz.underlying96 ty23 J) (WtY 11 J J J (.agg (QF a0.c)) J (cS hb72) (fun w' h'=>Qi (Y1 h' 1 J) ty23 J (QG J) J J) D11 (tz2 12 J (cS hb72) D11 (xfA Tryz.underlying43 ty9 J) (tz3 13 J (cS hb72) D11 (fun w' h'=>xlA h' 0 ty9 J) ?_)))))
    refine Wo 14 J ?_
    refine QN (cS hb72) ?_
    obtain ⟨t75,ht76,H⟩:=QO H
    refine ZR fn78 (X6.con ht76) S J J flN (eE4 E ?_)
    rintro _ w77 _ Γ' E S ⟨rfl,rfl⟩
    refine QK (Yl ⟨.inr ⟨M,Hp.le_refl M,(S.pk [0,1,2,3,4,5])⟩,?_⟩)
    refine tz0 15 J (⟨M,Hp.le_refl M,(S.pk [0,1,2,3,4,5])⟩) (xpB hb72 J) ?_
    exact hrest _ _ ⟨t75,oi H,agP J,E,S.pk [0,1,2,3,4,5]⟩
   ·have D13:∃ Mx,Hp.le M Mx∧St _ Mx F [_,_,_,_,_,_]:=⟨_,Hp.le_refl _,S.pk [0,1,2,3,4,5]⟩
    refine tz4 8 J (skT hb72) D13 (tz4 9 J (skT hb72) D13 (tz4 10 J (skT hb72) D13 (tz4 11 J (skT hb72) D13 (tz4 12 J (skT hb72) D13 (tz4 13 J (skT hb72) D13 (tz4 14 J (skT hb72) D13 (tz0 15 J D13 (xqB hb72 J) ?_)))))))
    exact hrest _ _ ⟨false,oi H,agP J,E,S.pk [0,1,2,3,4,5]⟩
  rintro ρ w78 ⟨x73,rfl,hρ,E,S⟩
  rw [QB hρ]
  have H:=o74H
  refine tz0 16 J (⟨M,Hp.le_refl M,(S.pk [0,1,2,3,4,5])⟩) (xmB J) ?_
  refine YB (fun ρ w'=>QV ρ [(3,pt b1 0),(57,.bool (x73&&(decide (a1.Limit≥(0:Int)))))]∧w78=w') 6 (Ls 27 [0,1,2,3,4,5,6,7,8,9,10,11,12,13,14,15,16,17,18,19,20]) ?_ ?_
  rotate_left
  ·intro hrest
   rcases Qy x73 with hb79 | hb79
   ·have D15:∃ Mx,Hp.le M Mx∧St _ Mx F [_,_,_,_,_,_]:=⟨_,Hp.le_refl _,S.pk [0,1,2,3,4,5]⟩
    refine tz4 17 J (skT hb79) D15 (tz4 18 J (skT hb79) D15 (tz4 19 J (skT hb79) D15 (tz0 20 J D15 (xqB hb79 J) ?_)))
    exact hrest _ _ ⟨⟨J,(flB hb79),trivial⟩,rfl⟩
   ·have D16:∃ Mx,Hp.le M Mx∧St _ Mx F [_,_,_,_,_,_]:=⟨_,Hp.le_refl _,S.pk [0,1,2,3,4,5]⟩
    refine tz2 17 J (cS hb79) D16 (xfA Tryz.underlying43 ty3 J) (tz3 18 J (cS hb79) D16 (fun w' h'=>xlA h' 0 ty3 J) (tz2 19 J (cS hb79) D16 (xiB J J) (tz0 20 J D16 (xpB hb79 J) ?_)))
    exact hrest _ _ ⟨⟨J,(flB hb79),trivial⟩,rfl⟩
  rintro ρ _ ⟨hρ,rfl⟩
  rw [QB hρ]
  refine tz0 21 J (⟨M,Hp.le_refl M,(S.pk [0,1,2,3,4,5])⟩) (xmB J) ?_
  refine YB (fun ρ w'=>QV ρ [(62,.bool ((x73&&(decide (a1.Limit≥(0:Int))))&&(decide (a1.Limit≤(128:Int)))))]∧w78=w') 1 (Ls 27 [0,1,2,3,4,5,6,7,8,9,10,11,12,13,14,15,16,17,18,19,20,21,22,23,24,25]) ?_ ?_
  rotate_left
  ·intro hrest
   rcases Qy (x73&&(decide (a1.Limit≥(0:Int)))) with hb80 | hb80
   ·have D18:∃ Mx,Hp.le M Mx∧St _ Mx F [_,_,_,_,_,_]:=⟨_,Hp.le_refl _,S.pk [0,1,2,3,4,5]⟩
    refine tz4 22 J (skT hb80) D18 (tz4 23 J (skT hb80) D18 (tz4 24 J (skT hb80) D18 (tz0 25 J D18 (xqB hb80 J) ?_)))
    exact hrest _ _ ⟨⟨(flB hb80),trivial⟩,rfl⟩
   ·have D19:∃ Mx,Hp.le M Mx∧St _ Mx F [_,_,_,_,_,_]:=⟨_,Hp.le_refl _,S.pk [0,1,2,3,4,5]⟩
    refine tz2 22 J (cS hb80) D19 (xfA Tryz.underlying43 ty3 J) (tz3 23 J (cS hb80) D19 (fun w' h'=>xlA h' 0 ty3 J) (tz2 24 J (cS hb80) D19 (xiB J J) (tz0 25 J D19 (xpB hb80 J) ?_)))
    exact hrest _ _ ⟨⟨(flB hb80),trivial⟩,rfl⟩
  rintro ρ _ ⟨hρ,rfl⟩
  rw [QB hρ]
  refine tz0 26 J (⟨M,Hp.le_refl M,(S.pk [0,1,2,3,4,5])⟩) (xaB J) ?_
  refine Wz ?_
  refine tn ?_
  refine QT ?_
  refine br (tr (?_))
  obtain rfl:=oi H
  exact ⟨_,_,_,rsA (vs:=[_]) J,HM,E,S.pk [1,2,3,4,5],⟨J,J⟩⟩
 refine QA (cB hb48) (QX (bn (tn ?_)))
 as_aux_lemma =>
 refine wsQ (waB J (wnQ ?_))
 refine QT ?_
 obtain rfl:=oi H
 exact ⟨_,_,_,rsA (vs:=[_]) J,HM,E,S.pk [1,2,3,4,5],⟨J,J⟩⟩
def YL (k:Nat) (a0:QW) (a1:Int) (a2:QY):Option (Int) :=
 (if ((((decide (a1<(0:Int)))||(decide (a1≥a0.c.Tasks)))||(decide (a2.Kind<(1:Int))))||(decide (a2.Kind>(9:Int))))=true then some (1:Int) else (if (((a2.Kind==(9:Int))&&(a2.Engine != (1:Int)))&&(a2.Engine != (2:Int)))=true then some (1:Int) else (Option.bind (VH k a2.Kind) (fun t11=>(if t11=true then (Option.bind (YP k a0 a1 a2.Tx) (fun t15=>(if (t15.2.1==(1:Int))=true then (Option.bind (YI k a0 a2) (fun t21=>(if (!t21)=true then some (32:Int) else some (0:Int)))) else (if (t15.2.1==(0:Int))=true then some (30:Int) else some (31:Int))))) else (Option.bind (YI k a0 a2) (fun t28=>(if (!t28)=true then some (32:Int) else some (0:Int)))))))))
theorem YL.mono {k a0 a1 a2}: OLe (YL k a0 a1 a2) (YL (k+1) a0 a1 a2):=by
 unfold YL
 have m1:=@YP.mono
 have m2:=@YI.mono
 have m3:=@VH.mono
 exact mo
theorem YL.con {k M A0_8 A0_9 A0_10 c0_10 A0_11} {vs0_11:List (Str×Value)} {a0:QW} {a1:Int} {a2:QY} {bo0} {r:Int} (h:YL k a0 a1 a2=some r) (hm0_11:Xa Qx M a0.rows vs0_11): Con Tryz.prog 36 #[pt bo0 0,vI a1,.agg (Qo a2)] M [B96 bo0 a0 A0_8 A0_9 A0_10 c0_10 A0_11,XC QM (Value.int .i64) A0_8 a0.names,MpI A0_9 a0.many,Rw Qe 134 A0_10 c0_10 a0.txs,MpV A0_11 vs0_11] (fun v M' Γ'=>v=vI r∧Γ'=[B96 bo0 a0 A0_8 A0_9 A0_10 c0_10 A0_11,XC QM (Value.int .i64) A0_8 a0.names,MpI A0_9 a0.many,Rw Qe 134 A0_10 c0_10 a0.txs,MpV A0_11 vs0_11]):=by
 refine cwA Tryz.func36 J Tryz.ntmps36 Tryz.results36 J h ?_
 intro w F rn S hrn E HM H
 unfold YL at H
 refine wsQ ?_
 refine Yz S (Qo a2) J J J (eE2 E ?_)
 intro b1 w2 E S
 refine waI J (wnQ (QH ?_))
 refine ZW ?_
 refine wsQ (wmP J (W_v (.bool false) (VY (r:=false) J J (VT Tryz.underlying50)) J (waB J (wnQ (QA J (wsQ (wmI J (wiB J J (wmB J ?_)))))))))
 refine ZO 8 (fun ρ w'=>QV ρ [(0,pt bo0 0),(1,vI a1),(5,pt b1 0),(24,.bool ((decide (a1<(0:Int)))||(decide (a1≥a0.c.Tasks))))]∧w2=w') ?_ ?_
 ·rcases Qy (decide (a1<(0:Int))) with hb4 | hb4
  ·refine QN (cS hb4) (wmI J (QN (cS hb4) (wmP J (QN (cS hb4) (W_v _ (Qb J) J (QN (cS hb4) (wfA Tryz.underlying96 ty23 J (QN (cS hb4) (wfA Tryz.underlying23 ty3 J (QN (cS hb4) (wlA S 1 ty3 J (QN (cS hb4) (wiB J J (wqB hb4 J (QK ?_)))))))))))))))
   exact ⟨⟨J,J,J,(flB hb4),trivial⟩,rfl⟩
  ·refine QZ (skF hb4) J (QZ (skF hb4) J (QZ (skF hb4) J (QZ (skF hb4) J (QZ (skF hb4) J (QZ (skF hb4) J (QZ (skF hb4) J (wpB hb4 J (QK ?_))))))))
   exact ⟨⟨J,J,J,(flB hb4),trivial⟩,rfl⟩
 as_aux_lemma =>
 rintro ρ _ ⟨hρ,rfl⟩
 rw [QB hρ]
 refine wmB J ?_
 refine ZO 4 (fun ρ w'=>QV ρ [(0,pt bo0 0),(1,vI a1),(5,pt b1 0),(29,.bool (((decide (a1<(0:Int)))||(decide (a1≥a0.c.Tasks)))||(decide (a2.Kind<(1:Int)))))]∧w2=w') ?_ ?_
 ·rcases Qy ((decide (a1<(0:Int)))||(decide (a1≥a0.c.Tasks))) with hb5 | hb5
  ·refine QN (cS hb5) (wfA Tryz.underlying43 ty5 J (QN (cS hb5) (wlA S 0 ty5 J (QN (cS hb5) (wiB J J (wqB hb5 J (QK ?_)))))))
   exact ⟨⟨J,J,J,(flB hb5),trivial⟩,rfl⟩
  ·refine QZ (skF hb5) J (QZ (skF hb5) J (QZ (skF hb5) J (wpB hb5 J (QK ?_))))
   exact ⟨⟨J,J,J,(flB hb5),trivial⟩,rfl⟩
 as_aux_lemma =>
 rintro ρ _ ⟨hρ,rfl⟩
 rw [QB hρ]
 refine wmB J ?_
 refine ZO 4 (fun ρ w'=>QV ρ [(0,pt bo0 0),(1,vI a1),(5,pt b1 0),(34,.bool ((((decide (a1<(0:Int)))||(decide (a1≥a0.c.Tasks)))||(decide (a2.Kind<(1:Int))))||(decide (a2.Kind>(9:Int)))))]∧w2=w') ?_ ?_
 ·rcases Qy (((decide (a1<(0:Int)))||(decide (a1≥a0.c.Tasks)))||(decide (a2.Kind<(1:Int)))) with hb6 | hb6
  ·refine QN (cS hb6) (wfA Tryz.underlying43 ty5 J (QN (cS hb6) (wlA S 0 ty5 J (QN (cS hb6) (wiB J J (wqB hb6 J (QK ?_)))))))
   exact ⟨⟨J,J,J,(flB hb6),trivial⟩,rfl⟩
  ·refine QZ (skF hb6) J (QZ (skF hb6) J (QZ (skF hb6) J (wpB hb6 J (QK ?_))))
   exact ⟨⟨J,J,J,(flB hb6),trivial⟩,rfl⟩
 as_aux_lemma =>
 rintro ρ _ ⟨hρ,rfl⟩
 rw [QB hρ]
 refine waB J (wnQ ?_)
 rcases Q3 H with ⟨hb7,H⟩ | ⟨hb7,H⟩
 ·refine QC (cB hb7) ?_
  refine wsQ (waI J (wnQ ?_))
  refine QT ?_
  refine br (tr (?_))
  obtain rfl:=oi H
  exact ⟨_,_,_,rsA (vs:=[_]) J,HM,E,S.pk [1,2,3,4,5],⟨J,J⟩⟩
 refine QA (cB hb7) (wsQ (wfA Tryz.underlying43 ty5 J (wlA S 0 ty5 J (wiB J J (wmB J ?_)))))
 refine ZO 4 (fun ρ w'=>QV ρ [(0,pt bo0 0),(1,vI a1),(5,pt b1 0),(43,.bool ((a2.Kind==(9:Int))&&(a2.Engine != (1:Int))))]∧w2=w') ?_ ?_
 ·rcases Qy (a2.Kind==(9:Int)) with hb8 | hb8
  ·refine QZ (skT hb8) J (QZ (skT hb8) J (QZ (skT hb8) J (wqB hb8 J (QK ?_))))
   exact ⟨⟨J,J,J,(flB hb8),trivial⟩,rfl⟩
  ·refine QN (cS hb8) (wfA Tryz.underlying43 ty5 J (QN (cS hb8) (wlA S 0 ty5 J (QN (cS hb8) (wiB J J (wpB hb8 J (QK ?_)))))))
   exact ⟨⟨J,J,J,(flB hb8),trivial⟩,rfl⟩
 as_aux_lemma =>
 rintro ρ _ ⟨hρ,rfl⟩
 rw [QB hρ]
 refine wmB J ?_
 refine ZO 4 (fun ρ w'=>QV ρ [(0,pt bo0 0),(1,vI a1),(5,pt b1 0),(48,.bool (((a2.Kind==(9:Int))&&(a2.Engine != (1:Int)))&&(a2.Engine != (2:Int))))]∧w2=w') ?_ ?_
 ·rcases Qy ((a2.Kind==(9:Int))&&(a2.Engine != (1:Int))) with hb9 | hb9
  ·refine QZ (skT hb9) J (QZ (skT hb9) J (QZ (skT hb9) J (wqB hb9 J (QK ?_))))
   exact ⟨⟨J,J,J,(flB hb9),trivial⟩,rfl⟩
  ·refine QN (cS hb9) (wfA Tryz.underlying43 ty5 J (QN (cS hb9) (wlA S 0 ty5 J (QN (cS hb9) (wiB J J (wpB hb9 J (QK ?_)))))))
   exact ⟨⟨J,J,J,(flB hb9),trivial⟩,rfl⟩
 as_aux_lemma =>
 rintro ρ _ ⟨hρ,rfl⟩
 rw [QB hρ]
 refine waB J (wnQ ?_)
 rcases Q3 H with ⟨hb10,H⟩ | ⟨hb10,H⟩
 ·refine QC (cB hb10) ?_
  refine wsQ (waI J (wnQ ?_))
  refine QT ?_
  refine br (tr (?_))
  obtain rfl:=oi H
  exact ⟨_,_,_,rsA (vs:=[_]) J,HM,E,S.pk [1,2,3,4,5],⟨J,J⟩⟩
 refine QA (cB hb10) (QX (bn (tn (QH (wsQ (wfA Tryz.underlying43 ty5 J (wlA S 0 ty5 J ?_)))))))
 obtain ⟨t11,ht12,H⟩:=QO H
 refine ZR fn56 (VH.con ht12) S J J flN (eE4 E ?_)
 rintro _ w13 _ Γ' E S ⟨rfl,rfl⟩
 refine wnQ ?_
 rcases Q3 H with ⟨hb14,H⟩ | ⟨hb14,H⟩
 ·refine QC (cB hb14) ?_
  refine wsQ (wmP J (wmI J (wfA Tryz.underlying43 ty3 J (wlA S 0 ty3 J ?_))))
  obtain ⟨t15,ht16,H⟩:=QO H
  replace S:St w13 M F [_,_,_,_,_,_]:=S.pk [1,2,3,4,5,0]
  refine Zy fn37 (YP.con ht16 hm0_11) (Γ1:=[_,_,_,_,_]) (Γ2:=[_]) S J J (by rintro _ _ _ ⟨rfl,rfl⟩;exact (QP Zs (QP Zl (QP Zl (QP (YX (fun _ _ _ _ h=>h)) (QP Zl YE)))))) (eE4 E ?_)
  rintro _ w17 _ Γ' E S ⟨rfl,rfl⟩
  replace S:St w17 M F [_,_,_,_,_,_]:=S
  refine wmT J (W_v _ (QR J J) J (W_v _ (QR J J) J (W_v _ (QR J J) J (waI J (waI J (waI J (wnQ (wsQ (wmI J (wnQ ?_))))))))))
  refine ZW ?_
  refine wsQ (wiB J J (waB J (wnQ ?_)))
  rcases Q3 H with ⟨hb20,H⟩ | ⟨hb20,H⟩
  ·refine QC (cB hb20) ?_
   refine QX (bn (tn (QH (wsQ (wmP J (W_v (.agg (Qo a2)) (Qi (S.blk 5 J) ty43 J (QG J) J J) J ?_))))))
   obtain ⟨t21,ht22,H⟩:=QO H
   refine Zy fn57 (YI.con ht22 hm0_11) (Γ1:=[_,_,_,_,_]) (Γ2:=[_]) S J J (by rintro _ _ _ ⟨rfl,rfl⟩;exact (QP Zs (QP Zl (QP Zl (QP (YX (fun _ _ _ _ h=>h)) (QP Zl YE)))))) (eE4 E ?_)
   rintro _ w23 _ Γ' E S ⟨rfl,rfl⟩
   replace S:St w23 M F [_,_,_,_,_,_]:=S
   refine W_v _ (Xr (b:=t21) J) J (wnQ ?_)
   rcases Q3 H with ⟨hb26,H⟩ | ⟨hb26,H⟩
   ·refine QC (cB hb26) ?_
    refine wsQ (waI J (wnQ ?_))
    refine QT ?_
    refine tr (?_)
    obtain rfl:=oi H
    exact ⟨_,_,_,rsA (vs:=[_]) J,HM,E,S.pk [0,1,2,3,4],⟨J,J⟩⟩
   refine QA (cB hb26) (QX (tn (wsQ (waI J (wnQ ?_)))))
   refine QT ?_
   obtain rfl:=oi H
   exact ⟨_,_,_,rsA (vs:=[_]) J,HM,E,S.pk [0,1,2,3,4],⟨J,J⟩⟩
  refine QA (cB hb20) ?_
  as_aux_lemma =>
  refine wsQ (wiB J J (waB J (wnQ ?_)))
  rcases Q3 H with ⟨hb27,H⟩ | ⟨hb27,H⟩
  ·refine QC (cB hb27) ?_
   refine wsQ (waI J (wnQ ?_))
   refine QT ?_
   refine br (tr (?_))
   obtain rfl:=oi H
   exact ⟨_,_,_,rsA (vs:=[_]) J,HM,E,S.pk [0,1,2,3,4],⟨J,J⟩⟩
  refine QA (cB hb27) (wsQ (waI J (wnQ ?_)))
  refine QT ?_
  refine br (tr (?_))
  obtain rfl:=oi H
  exact ⟨_,_,_,rsA (vs:=[_]) J,HM,E,S.pk [0,1,2,3,4],⟨J,J⟩⟩
 refine QA (cB hb14) (QX (tn ?_))
 as_aux_lemma =>
 refine QH (wsQ (wmP J (W_v (.agg (Qo a2)) (Qi (S.blk 0 J) ty43 J (QG J) J J) J ?_)))
 obtain ⟨t28,ht29,H⟩:=QO H
 replace S:St w13 M F [_,_,_,_,_,_]:=S.pk [1,2,3,4,5,0]
 refine Zy fn57 (YI.con ht29 hm0_11) (Γ1:=[_,_,_,_,_]) (Γ2:=[_]) S J J (by rintro _ _ _ ⟨rfl,rfl⟩;exact (QP Zs (QP Zl (QP Zl (QP (YX (fun _ _ _ _ h=>h)) (QP Zl YE)))))) (eE4 E ?_)
 rintro _ w30 _ Γ' E S ⟨rfl,rfl⟩
 replace S:St w30 M F [_,_,_,_,_,_]:=S
 refine W_v _ (Xr (b:=t28) J) J (wnQ ?_)
 rcases Q3 H with ⟨hb33,H⟩ | ⟨hb33,H⟩
 ·refine QC (cB hb33) ?_
  refine wsQ (waI J (wnQ ?_))
  refine QT ?_
  refine tr (?_)
  obtain rfl:=oi H
  exact ⟨_,_,_,rsA (vs:=[_]) J,HM,E,S.pk [0,1,2,3,4],⟨J,J⟩⟩
 refine QA (cB hb33) (QX (tn (wsQ (waI J (wnQ ?_)))))
 refine QT ?_
 obtain rfl:=oi H
 exact ⟨_,_,_,rsA (vs:=[_]) J,HM,E,S.pk [0,1,2,3,4],⟨J,J⟩⟩
def Zv (a0:QW):Nat→Int→Int→Option ((Int))
 | 0,_,_=>none
 | k+1,x93,x94=>(if (decide (x94<(a0.txs.length:Int)))=true then (Option.bind (α:=Int) (if 0≤x94∧x94<(a0.txs.length:Int) then (Option.bind (α:=Int) (if ((rd a0.txs x94).state==(1:Int))=true then some ((IntKind.i64.wrap (x93+(1:Int)))) else some (x93)) (fun x181=>some (x181))) else none) (fun x163=>Zv a0 k x163 (IntKind.i64.wrap (x94+(1:Int))))) else some (x93))
theorem Zv.mono {a0}: ∀ {kl:Nat} {x0 x1},OLe (Zv a0 kl x0 x1) (Zv a0 (kl+1) x0 x1):=by
 intro kl
 induction kl with
 | zero=>intros;exact OLe.none
 | succ kl ih =>
  intros
  rw [Zv.eq_2,Zv.eq_2]
  exact mo
def YT (k:Nat) (a0:QW):Option (Int) :=
 (Option.bind (Zv a0 k (0:Int) (0:Int)) (fun x139=>some x139))
theorem YT.mono {k a0}: OLe (YT k a0) (YT (k+1) a0):=by
 unfold YT
 have m1:=@Zv.mono
 exact mo
theorem YT.con {k M A0_8 A0_9 A0_10 c0_10 A0_11} {vs0_11:List (Str×Value)} {a0:QW} {bo0} {r:Int} (h:YT k a0=some r) (hm0_11:Xa Qx M a0.rows vs0_11): Con Tryz.prog 121 #[pt bo0 0] M [B96 bo0 a0 A0_8 A0_9 A0_10 c0_10 A0_11,XC QM (Value.int .i64) A0_8 a0.names,MpI A0_9 a0.many,Rw Qe 134 A0_10 c0_10 a0.txs,MpV A0_11 vs0_11] (fun v M' Γ'=>v=vI r∧Γ'=[B96 bo0 a0 A0_8 A0_9 A0_10 c0_10 A0_11,XC QM (Value.int .i64) A0_8 a0.names,MpI A0_9 a0.many,Rw Qe 134 A0_10 c0_10 a0.txs,MpV A0_11 vs0_11]):=by
 refine cwA Tryz.func121 J Tryz.ntmps121 Tryz.results121 J h ?_
 intro w F rn S hrn E HM H
 unfold YT at H
 refine wsQ (waI J (wnQ (wsQ (waI J (wnQ (QH (wsQ (wmP J (W_v (.bool false) (VY (r:=false) J J (VT Tryz.underlying50)) J (QK ?_))))))))))
 refine tn (QA J (QX (tn (QH (wsQ (wmP J (W_v _ (Qb J) J (wfA Tryz.underlying96 ty93 J (wlA S 0 ty93 J (W_v _ (Qm (n:=a0.txs.length) Tryz.underlying93 J) J (wmI J (wnQ ?_))))))))))))
 obtain ⟨o140,o140h,o140H⟩:=QO H
 refine Zr (fun ρ w'=>∃ (x139:Int),(x139)=o140∧QV ρ [(3,vI x139)]∧Ext w w'∧St w' M F [B96 bo0 a0 A0_8 A0_9 A0_10 c0_10 A0_11,XC QM (Value.int .i64) A0_8 a0.names,MpI A0_9 a0.many,Rw Qe 134 A0_10 c0_10 a0.txs,MpV A0_11 vs0_11]) ?_ ?_
 ·refine Yr (fun n ρ w'=>∃ (x93:Int) (x94:Int),Zv a0 n x93 x94=some o140∧QV ρ [(3,vI x93),(12,.slice A0_10 a0.txs.length c0_10),(13,vI (a0.txs.length:Int)),(14,vI x94)]∧Ext w w'∧St w' M F [B96 bo0 a0 A0_8 A0_9 A0_10 c0_10 A0_11,XC QM (Value.int .i64) A0_8 a0.names,MpI A0_9 a0.many,Rw Qe 134 A0_10 c0_10 a0.txs,MpV A0_11 vs0_11]) k ?_ ?_
  ·exact ⟨(0:Int),(0:Int),o140h,agP J,E,S.pk [0,1,2,3,4]⟩
  ·intro n
   rintro ρ w141 ⟨x93,x94,H,hρ,E,S⟩
   rw [QB hρ]
   cases n with
   | zero=>cases H
   | succ k =>
    rw [Zv.eq_2] at H
    refine wsQ (wiB J J (wnQ (QH ?_)))
    rcases Q3 H with ⟨hb142,H⟩ | ⟨hb142,H⟩
    ·refine QC (cB hb142) ?_
     refine QX (tn (QH ?_))
     obtain ⟨o164,o164h,o164H⟩:=QO H
     refine Yc (fun ρ w'=>∃ (x163:Int),(x163)=o164∧QV ρ [(3,vI x163),(12,.slice A0_10 a0.txs.length c0_10),(13,vI (a0.txs.length:Int)),(14,vI x94)]∧Ext w w'∧St w' M F [B96 bo0 a0 A0_8 A0_9 A0_10 c0_10 A0_11,XC QM (Value.int .i64) A0_8 a0.names,MpI A0_9 a0.many,Rw Qe 134 A0_10 c0_10 a0.txs,MpV A0_11 vs0_11]) ?_ ?_
     ·as_aux_lemma =>
       clear o164H
       have H:=o164h
       refine ZW ?_
       refine wsQ ?_
       obtain ⟨⟨p165,p166⟩,H⟩:=Z8 H
       obtain ⟨b167,o168,cs169,_,_,ee174,hb170,vs171,hR172,hc173⟩:=SlW.at' (S.row_read 3 J) p165 p166
       obtain rfl:vs171=_:=hR172
       refine W_v _ (QS Tryz.underlying93 ty134 (slA ee174) J p165 p166) J (W_v (.agg #[vU ((rd a0.txs x94).state),vI ((rd a0.txs x94).snapshot)]) (Qi (Hp.of_get hb170) ty134 J (X1 hc173 0 J) J J) J ?_)
       refine YN S #[vU 0,vI 0] ty134 J J (eE2 E ?_)
       intro b175 w176 E S
       refine Qu S 0 J ty134 J J [vU ((rd a0.txs x94).state),vI ((rd a0.txs x94).snapshot)] J J J #[vU ((rd a0.txs x94).state),vI ((rd a0.txs x94).snapshot)] J J (eE1 E ?_)
       intro w178 E S
       refine wnQ (wsQ (wfA Tryz.underlying134 ty5 J (wlA S 0 ty5 J (wiB J J (wnQ ?_)))))
       obtain ⟨o182,o182h,o182H⟩:=QO H
       refine Yc (fun ρ w'=>∃ (x181:Int),(x181)=o182∧QV ρ [(3,vI x181),(12,.slice A0_10 a0.txs.length c0_10),(13,vI (a0.txs.length:Int)),(14,vI x94)]∧Ext w w'∧St w' M F [B96 bo0 a0 A0_8 A0_9 A0_10 c0_10 A0_11,XC QM (Value.int .i64) A0_8 a0.names,MpI A0_9 a0.many,Rw Qe 134 A0_10 c0_10 a0.txs,MpV A0_11 vs0_11]) ?_ ?_
       ·clear o182H
        have H:=o182h
        rcases Q3 H with ⟨hb183,H⟩ | ⟨hb183,H⟩
        ·refine QC (cB hb183) ?_
         refine QJ (wmI J (wiI J J (waI J (wnQ ?_))))
         exact ⟨(IntKind.i64.wrap (x93+(1:Int))),oi H,agP J,E,S.pk [1,2,3,4,5]⟩
        refine QA (cB hb183) (QX (tn ?_))
        exact ⟨x93,oi H,agP J,E,S.pk [1,2,3,4,5]⟩
       rintro ρ w184 ⟨x181,rfl,hρ,E,S⟩
       rw [QB hρ]
       have H:=o182H
       refine bn (tn ?_)
       exact ⟨x181,oi H,agP J,E,S.pk [0,1,2,3,4]⟩
     rintro ρ w185 ⟨x163,rfl,hρ,E,S⟩
     rw [QB hρ]
     have H:=o164H
     refine tn (QJ (wiI J J (wmI J (wnQ ?_))))
     exact ⟨k,Nat.lt_succ_self k,⟨x163,(IntKind.i64.wrap (x94+(1:Int))),H,agP J,E,S.pk [0,1,2,3,4]⟩⟩
    refine QA (cB hb142) ?_
    refine YZ ?_
    refine tx (tx (bsm (?_)))
    refine tn ?_
    exact ⟨x93,oi H,agP J,E,S.pk [0,1,2,3,4]⟩
 rintro ρ w186 ⟨x139,rfl,hρ,E,S⟩
 rw [QB hρ]
 have H:=o140H
 refine tn ?_
 as_aux_lemma =>
 refine wsQ (wmI J (waI J (wnQ ?_)))
 refine QT ?_
 obtain rfl:=oi H
 exact ⟨_,_,_,rsA (vs:=[_]) J,HM,E,S.pk [0,1,2,3,4],⟨J,J⟩⟩
def Yd (k:Nat) (a0:QW) (a1:Int) (a2:Int) (a3:QY):Option (Ql×QW) :=
 (Option.bind (YT k a0) (fun t14=>(if (decide (t14≥a0.c.Active))=true then some (cz8,a0) else (if a0.txs.length+([(⟨(1:Int),(a0.clock)⟩:Xf)]:List Xf).length≤8796093022208 then (Option.bind (α:=List (Int×Int)) (some (mput a0.many a2 (IntKind.i64.wrap (((mget a0.many a2).getD (0:Int))+(1:Int))))) (fun x49=>(Option.bind (α:=List (Y7×Int)) (some (mput a0.names (⟨a2,((mget x49 a2).getD (0:Int))⟩:Y7) ((a0.txs++([(⟨(1:Int),(a0.clock)⟩:Xf)]:List Xf)).length:Int))) (fun x57=>some (cz11,(⟨⟨a0.c.Tasks,a0.c.Active,a0.c.Keys,a0.c.Depth,a0.c.TS,a0.c.KeyLen,a0.c.ValLen,a0.c.Fan⟩,x57,x49,(a0.txs++([(⟨(1:Int),(a0.clock)⟩:Xf)]:List Xf)),a0.rows,a0.clock,a0.floor⟩:QW)))))) else none))))
theorem Yd.mono {k a0 a1 a2 a3}: OLe (Yd k a0 a1 a2 a3) (Yd (k+1) a0 a1 a2 a3):=by
 unfold Yd
 have m1:=@YT.mono
 exact mo
theorem Yd.con {k M A0_8 A0_9 A0_10 c0_10 A0_11} {vs0_11:List (Str×Value)} {a0:QW} {a1:Int} {a2:Int} {a3:QY} {bo0} {r:Ql×QW} (h:Yd k a0 a1 a2 a3=some r) (hm0_11:Xa Qx M a0.rows vs0_11): Con Tryz.prog 123 #[pt bo0 0,vI a1,vI a2,.agg (Qo a3)] M [B96 bo0 a0 A0_8 A0_9 A0_10 c0_10 A0_11,XC QM (Value.int .i64) A0_8 a0.names,MpI A0_9 a0.many,Rw Qe 134 A0_10 c0_10 a0.txs,MpV A0_11 vs0_11] (fun v M' Γ'=>∃ (Aq1:Option Addr) (cq2:Nat) (Aq4:Option Addr) (cq5:Nat) (Aq7:Option Addr) (cq8:Nat) (Aq10:Option Addr) (cq11:Nat) (Aq13:Option Addr) (cq14:Nat) (vsq16:List (Str×Value)),v=.agg #[vI r.1.Err,.bool r.1.Found,vS r.1.Value,.slice Aq1 r.1.Pairs.length cq2]∧Xa Qx M' r.2.rows vsq16∧Γ'=[Rw Qq 119 Aq1 cq2 r.1.Pairs,B96 bo0 r.2 Aq4 Aq7 Aq10 cq11 Aq13,XC QM (Value.int .i64) Aq4 r.2.names,MpI Aq7 r.2.many,Rw Qe 134 Aq10 cq11 r.2.txs,MpV Aq13 vsq16]):=by
 refine cwA Tryz.func123 J Tryz.ntmps123 Tryz.results123 J h ?_
 intro w F rn S hrn E HM H
 unfold Yd at H
 refine wsQ ?_
 refine Yz S (Qo a3) J J J (eE2 E ?_)
 intro b1 w2 E S
 refine YN S cz16 ty38 J J (eE2 E ?_)
 intro b4 w5 E S
 refine wnQ (QH (QH ?_))
 refine rgA S [0,1,2,3,4,5,6] [_,_,_,_,_,_,_] 8 mixed J (eE1 E ?_)
 intro w12 E S D1
 refine tz0 0 J D1 (xmP J) (tz0 2 J D1 (xmP J) (tz0 3 J D1 (Qb J) (tz0 4 J D1 (xfA Tryz.underlying96 ty23 J) (tz0 5 J D1 (xfA Tryz.underlying23 ty3 J) (tz1 6 J D1 (fun w' h'=>xlA h' 2 ty3 J) ?_)))))
 refine Wo 1 J ?_
 obtain ⟨t14,ht15,H⟩:=QO H
 replace S:St w12 M F [_,_,_,_,_,_,_]:=S.pk [2,3,4,5,6,0,1]
 refine Zy fn121 (YT.con ht15 hm0_11) (Γ1:=[_,_,_,_,_]) (Γ2:=[_,_]) S J J (by rintro _ _ _ ⟨rfl,rfl⟩;exact (QP Zs (QP Zl (QP Zl (QP (YX (fun _ _ _ _ h=>h)) (QP Zl YE)))))) (eE4 E ?_)
 rintro _ w16 _ Γ' E S ⟨rfl,rfl⟩
 replace S:St w16 M F [_,_,_,_,_,_,_]:=S
 refine QK (Yl ⟨.inr ⟨M,Hp.le_refl M,(S.pk [5,6,0,1,2,3,4])⟩,?_⟩)
 refine tz0 7 J (⟨M,Hp.le_refl M,(S.pk [5,6,0,1,2,3,4])⟩) (xiB J J) ?_
 refine Wz ?_
 refine tn ?_
 rcases Q3 H with ⟨hb19,H⟩ | ⟨hb19,H⟩
 ·refine QC (cB hb19) ?_
  refine wsQ (W_v _ (xb2 [(0,1),(1,1),(2,1),(3,1)] cz13 Tryz.underlying38 ty38 J) J ?_)
  refine Qu S 5 J ty38 J J [vI 34,.bool false,vS ([]:Str),.slice none 0 0] J J J cz13 J J (eE1 E ?_)
  intro w20 E S
  refine wnQ ?_
  refine QT ?_
  refine tr (?_)
  obtain rfl:=oi H
  replace S:=S.row_nil Qq 119
  exact ⟨_,_,_,fun w1 e1=>Zg (vs:=[.agg #[vI 34,.bool false,vS ([]:Str),.slice none ([]:List Qp).length 0]]) (FA.cons (rcA S e1 6 ty38 J J J) (FA.nil)),HM,E,S.pk [0,1,2,3,4,5],⟨none,0,A0_8,0,A0_9,0,A0_10,c0_10,A0_11,0,vs0_11,J,hm0_11,J⟩⟩
 refine QA (cB hb19) (QX (tn ?_))
 as_aux_lemma =>
 refine QH ?_
 refine rgA S [0,1,2,4,5,6] [_,_,_,_,_,_] 14 mixed J (eE1 E ?_)
 intro w34 E S D3
 refine tz0 0 J D3 (xmP J) (tz0 1 J D3 (xmP J) (tz0 2 J D3 (Qb J) (tz0 3 J D3 (xfA Tryz.underlying96 ty93 J) (tz1 4 J D3 (fun w' h'=>xlA h' 0 ty93 J) (tz0 5 J D3 (xmP J) (tz0 6 J D3 (Qb J) (tz0 7 J D3 (xfA Tryz.underlying96 ty3 J) (tz1 8 J D3 (fun w' h'=>xlA h' 0 ty3 J) (tz0 9 J D3 (xb2 [(0,1),(1,1)] #[vU 1,vI (a0.clock)] Tryz.underlying134 ty134 J) ?_)))))))))
 refine Wo 10 J ?_
 refine Xl S #[vU 1,vI (a0.clock)] Tryz.underlying93 ty134 J J #[vU 0,vI 0] (by as_aux_lemma=>kernel_rfl) (by as_aux_lemma=>kernel_rfl) J (eE2 E ?_)
 intro b36 w37 E S
 replace S:=S.blk_row (r:=Qe) (l:=([(⟨(1:Int),(a0.clock)⟩:Xf)]:List Xf)) 0 J 1 (Nat.le_refl 1) J (Cells.cons (vs:=[vU 1,vI (a0.clock)]) (J) Cells.nil)
 refine QK (Yl ⟨.inr ⟨M,Hp.le_refl M,(S.pk [1,2,3,5,6,7])⟩,?_⟩)
 refine Wo 11 J ?_
 obtain ⟨p39,H⟩:=Z8 H
 obtain ⟨src40,hs41,hC42⟩:=XJ (P:=Tryz.prog) (ρ:=Qe) (l:=([(⟨(1:Int),(a0.clock)⟩:Xf)]:List Xf)) (S.row_read 0 J) (by decide)
 refine X0 S 4 J J J Tryz.underlying93 (.inl Tryz.underlying93) ty134 J (by decide) (by decide) hs41 hC42 J (by omega) J (eE2 E ?_)
 intro v43 w44 E S
 obtain ⟨A45,c46,rfl,_⟩:=(S.row_read 4 J).form
 refine QK (Yl ⟨.inr ⟨M,Hp.le_refl M,(S.pk [1,2,3,5,6,7])⟩,?_⟩)
 have D4:∃ Mx,Hp.le M Mx∧St _ Mx F [_,_,_,_,_,_]:=⟨_,Hp.le_refl _,S.pk [1,2,3,5,6,7]⟩
 refine tz0 12 J D4 (Qb J) (tz0 13 J D4 (xfA Tryz.underlying96 ty93 J) ?_)
 refine Wo 14 J ?_
 refine Qu S 1 J ty93 J J [.slice A45 (a0.txs++([(⟨(1:Int),(a0.clock)⟩:Xf)]:List Xf)).length c46] J J J #[vI a0.c.Tasks,vI a0.c.Active,vI a0.c.Keys,vI a0.c.Depth,vI a0.c.TS,vI a0.c.KeyLen,vI a0.c.ValLen,vI a0.c.Fan,.map (mb A0_8),.map (mb A0_9),.slice A45 (a0.txs++([(⟨(1:Int),(a0.clock)⟩:Xf)]:List Xf)).length c46,.map (mb A0_11),vI a0.clock,vI a0.floor] J J (eE1 E ?_)
 intro w47 E S
 refine QK (Yl ⟨.inl (by decide),?_⟩)
 refine Wz ?_
 refine tn (wsQ (wmP J (W_v _ (Qb J) J (wfA Tryz.underlying96 ty92 J (wlA S 1 ty92 J (wmI J (W_v (vI ((mget a0.many a2).getD (0:Int))) (Vn S 3 J Tryz.underlying92 key3 (0:Int) (fun _=>ty3.zero) a2 J J) J (wiI J J ?_))))))))
 obtain ⟨x49,he50,H⟩:=QO H
 replace he50:=oi he50
 refine UJ S 3 J Tryz.underlying92 key3 a2 (IntKind.i64.wrap (((mget a0.many a2).getD (0:Int))+(1:Int))) he50 J J J (eE1 E ?_)
 intro w48 E S
 replace S:St w48 M F [_,_,_,_,_,_,_,_]:=S
 refine wnQ ?_
 as_aux_lemma =>
 refine QH ?_
 refine rgA S [0,1,2,3,4,5,6,7] [_,_,_,_,_,_,_,_] 17 mixed J (eE1 E ?_)
 intro w54 E S D5
 refine tz0 0 J D5 (xmP J) (tz0 1 J D5 (Qb J) (tz0 2 J D5 (xfA Tryz.underlying96 ty91 J) (tz1 3 J D5 (fun w' h'=>xlA h' 1 ty91 J) (tz0 4 J D5 (xmI J) (tz0 5 J D5 (xmP J) (tz0 6 J D5 (Qb J) (tz0 7 J D5 (xfA Tryz.underlying96 ty92 J) (tz1 8 J D5 (fun w' h'=>xlA h' 1 ty92 J) (tz0 9 J D5 (xmI J) (Wt 10 J J J (vI ((mget x49 a2).getD (0:Int))) J (fun w' h'=>Exists.elim h' fun Mx h9=>Vn h9.2 3 J Tryz.underlying92 key3 (0:Int) (fun _=>ty3.zero) a2 J J) D5 (tz0 11 J D5 (xb2 [(0,1),(1,1)] #[vI a2,vI ((mget x49 a2).getD (0:Int))] Tryz.underlying132 ty132 J) (tz0 12 J D5 (xmP J) (tz0 13 J D5 (Qb J) (tz0 14 J D5 (xfA Tryz.underlying96 ty93 J) (tz1 15 J D5 (fun w' h'=>xlA h' 1 ty93 J) ?_)))))))))))))))
 refine tz0 16 J D5 (Qm (n:=(a0.txs++([(⟨(1:Int),(a0.clock)⟩:Xf)]:List Xf)).length) Tryz.underlying93 J) ?_
 refine Wo 17 J ?_
 obtain ⟨x57,he58,H⟩:=QO H
 replace he58:=oi he58
 refine UJ S 2 J Tryz.underlying91 key132 (⟨a2,((mget x49 a2).getD (0:Int))⟩:Y7) ((a0.txs++([(⟨(1:Int),(a0.clock)⟩:Xf)]:List Xf)).length:Int) he58 J J J (eE1 E ?_)
 intro w56 E S
 replace S:St w56 M F [_,_,_,_,_,_,_,_]:=S
 refine QK (Yl ⟨.inl (by decide),?_⟩)
 refine Wz ?_
 refine tn (wsQ (W_v _ (xb2 [(0,1),(1,1),(2,1),(3,1)] cz16 Tryz.underlying38 ty38 J) J ?_))
 refine Qu S 6 J ty38 J J [vI 0,.bool false,vS ([]:Str),.slice none 0 0] J J J cz16 J J (eE1 E ?_)
 intro w59 E S
 refine wnQ ?_
 refine QT ?_
 obtain rfl:=oi H
 replace S:=S.row_nil Qq 119
 exact ⟨_,_,_,fun w1 e1=>Zg (vs:=[.agg #[vI 0,.bool false,vS ([]:Str),.slice none ([]:List Qp).length 0]]) (FA.cons (rcA S e1 7 ty38 J J J) (FA.nil)),HM,E,S.pk [0,2,3,4,5,6],⟨none,0,A0_8,0,A0_9,0,A45,c46,A0_11,0,vs0_11,J,hm0_11,J⟩⟩
def Zp (k:Nat) (a0:QW) (a1:Int) (a2:Qh):Option (Str×Bool) :=
 (if (a2.intent.Writer==a1)=true then some (a2.intent.Value,(!a2.intent.Tomb)) else (if 0≤(IntKind.i64.wrap (a1-(1:Int)))∧(IntKind.i64.wrap (a1-(1:Int)))<(a0.txs.length:Int) then (Option.bind (α:=Int×Int×Bool×Str×Bool) (Option.bind (VC k a2.l ((rd a0.txs (IntKind.i64.wrap (a1-(1:Int)))).snapshot)) (fun t110=>some (t110.1.Writer,t110.1.TS,t110.1.Tomb,t110.1.Value,t110.2))) (fun ⟨x105,x106,x107,x108,x109⟩=>some (x108,x109))) else none))
theorem Zp.mono {k a0 a1 a2}: OLe (Zp k a0 a1 a2) (Zp (k+1) a0 a1 a2):=by
 unfold Zp
 have m1:=@VC.mono
 exact mo
theorem Zp.con {k M A0_8 A0_9 A0_10 c0_10 A0_11} {vs0_11:List (Str×Value)} {a0:QW} {a1:Int} {A2_0 c2_0} {a2:Qh} {bo0} {r:Str×Bool} (h:Zp k a0 a1 a2=some r) (hm0_11:Xa Qx M a0.rows vs0_11) (hr2_0:SlR ZL M (.slice A2_0 a2.l.length c2_0) a2.l): Con Tryz.prog 132 #[pt bo0 0,vI a1,.agg #[.slice A2_0 a2.l.length c2_0,vI a2.intent.Writer,vI a2.intent.TS,.bool a2.intent.Tomb,vS a2.intent.Value]] M [B96 bo0 a0 A0_8 A0_9 A0_10 c0_10 A0_11,XC QM (Value.int .i64) A0_8 a0.names,MpI A0_9 a0.many,Rw Qe 134 A0_10 c0_10 a0.txs,MpV A0_11 vs0_11] (fun v M' Γ'=>v=.tuple #[vS r.1,.bool r.2]∧Γ'=[B96 bo0 a0 A0_8 A0_9 A0_10 c0_10 A0_11,XC QM (Value.int .i64) A0_8 a0.names,MpI A0_9 a0.many,Rw Qe 134 A0_10 c0_10 a0.txs,MpV A0_11 vs0_11]):=by
 refine cwA Tryz.func132 J Tryz.ntmps132 Tryz.results132 J h ?_
 intro w F rn S hrn E HM H
 unfold Zp at H
 refine wsQ ?_
 refine Yz S #[.slice A2_0 a2.l.length c2_0,vI a2.intent.Writer,vI a2.intent.TS,.bool a2.intent.Tomb,vS a2.intent.Value] J J J (eE2 E ?_)
 intro b1 w2 E S
 refine waS J (waB J (wnQ (QH (wsQ (wfA Tryz.underlying90 ty88 J (wfA Tryz.underlying88 ty3 J (wlA S 0 ty3 J (wmI J (wiB J J (wnQ ?_))))))))))
 rcases Q3 H with ⟨hb4,H⟩ | ⟨hb4,H⟩
 ·refine QC (cB hb4) ?_
  refine QH ?_
  refine rgA S [0,1,2,3,4,5] [_,_,_,_,_,_] 9 mixed J (eE1 E ?_)
  intro w5 E S D1
  refine tz0 0 J D1 (xfA Tryz.underlying90 ty88 J) (tz0 1 J D1 (xfA Tryz.underlying88 ty9 J) (tz1 2 J D1 (fun w' h'=>xlA h' 0 ty9 J) (tz0 3 J D1 (xfA Tryz.underlying90 ty88 J) (tz0 4 J D1 (xfA Tryz.underlying88 ty4 J) (tz1 5 J D1 (fun w' h'=>xlA h' 0 ty4 J) (tz0 6 J D1 (Xr (b:=a2.intent.Tomb) J) (tz0 7 J D1 (xaS J) (tz0 8 J D1 (xaB J) ?_))))))))
  refine Wz ?_
  refine tn ?_
  refine QT ?_
  refine tr (?_)
  obtain rfl:=oi H
  exact ⟨_,_,_,rsA (vs:=[_,_]) J,HM,E,S.pk [1,2,3,4,5],⟨J,J⟩⟩
 refine QA (cB hb4) (QX (tn ?_))
 as_aux_lemma =>
 refine QH ?_
 refine rgA S [0,1,2,3,4,5] [_,_,_,_,_,_] 18 mixed J (eE1 E ?_)
 intro w77 E S D2
 refine tz0 0 J D2 (xfA Tryz.underlying90 ty86 J) (tz1 1 J D2 (fun w' h'=>xlA h' 0 ty86 J) (tz0 2 J D2 (xmP J) (tz0 3 J D2 (Qb J) (tz0 4 J D2 (xfA Tryz.underlying96 ty93 J) (tz1 5 J D2 (fun w' h'=>xlA h' 1 ty93 J) (tz0 6 J D2 (xmI J) (tz0 7 J D2 (xiI J J) ?_)))))))
 obtain ⟨⟨p79,p80⟩,H⟩:=Z8 H
 obtain ⟨b81,o82,_,_,_,ee83,_⟩:=SlW.at' (S.row_read 4 J) p79 p80
 refine tz0 8 J D2 (QS Tryz.underlying93 ty134 (slA ee83) J p79 p80) (tz0 9 J D2 (X2 (o:=o82+(IntKind.i64.wrap (a1-(1:Int))).toNat*2) (off:=1) Tryz.underlying134 J ty3 J J) (Wt 10 J J J (vI ((rd a0.txs (IntKind.i64.wrap (a1-(1:Int)))).snapshot)) J (fun w' h'=>X9 h' 4 J ee83 p79 p80 1 (by rintro _ _ rfl;rfl) ty3 J) D2 ?_))
 obtain ⟨o128,o128h,o128H⟩:=QO H
 refine YB (fun ρ w'=>∃ (x105:Int) (x106:Int) (x107:Bool) (x108:Str) (x109:Bool) (b103:Nat),(x105,x106,x107,x108,x109)=o128∧QV ρ [(8,pt b103 0),(35,.agg #[vI x105,vI x106,.bool x107,vS x108]),(36,.bool x109)]∧Ext w w'∧St w' M F [Blk b103 (.cells cz18 88 (0,0)),B90 b1 a2 A2_0 c2_0,B96 bo0 a0 A0_8 A0_9 A0_10 c0_10 A0_11,XC QM (Value.int .i64) A0_8 a0.names,MpI A0_9 a0.many,Rw Qe 134 A0_10 c0_10 a0.txs,MpV A0_11 vs0_11]) 2 (Ls 18 [0,1,2,3,4,5,6,7,8,9,10,11,12,13,14,15]) ?_ ?_
 rotate_left
 ·intro hq132
  refine YB (fun ρ w'=>∃ (x95:Int) (x96:Int) (x97:Bool) (x98:Str) (x99:Bool),some (x95,x96,x97,x98,x99)=some o128∧QV ρ [(35,.agg #[vI x95,vI x96,.bool x97,vS x98]),(36,.bool x99)]∧Ext w w'∧St w' M F [B90 b1 a2 A2_0 c2_0,B96 bo0 a0 A0_8 A0_9 A0_10 c0_10 A0_11,XC QM (Value.int .i64) A0_8 a0.names,MpI A0_9 a0.many,Rw Qe 134 A0_10 c0_10 a0.txs,MpV A0_11 vs0_11]) 3 (Ls 18 [0,1,2,3,4,5,6,7,8,9,10,11,12,13,14]) ?_ ?_
  ·clear o128h
   rintro ρ w133 ⟨x95,x96,x97,x98,x99,H,hρ,E,S⟩
   rw [QB hρ]
   refine Wo 15 J ?_
   refine YN S cz18 ty88 J J (eE2 E ?_)
   intro b134 w135 E S
   refine QK (Yl ⟨.inr ⟨M,Hp.le_refl M,(S.pk [1,2,3,4,5,6])⟩,?_⟩)
   exact hq132 _ _ ⟨x95,x96,x97,x98,x99,b134,oi H,agP J,E,S.pk [0,1,2,3,4,5,6]⟩
  intro hq131
  refine YB (fun ρ w'=>∃ (b90:Nat),(Option.bind (VC k a2.l ((rd a0.txs (IntKind.i64.wrap (a1-(1:Int)))).snapshot)) (fun t122=>some (t122.1.Writer,t122.1.TS,t122.1.Tomb,t122.1.Value,t122.2)))=some o128∧QV ρ [(8,pt b90 0),(24,.slice A2_0 a2.l.length c2_0),(33,vI ((rd a0.txs (IntKind.i64.wrap (a1-(1:Int)))).snapshot))]∧Ext w w'∧St w' M F [Blk b90 (.cells cz18 88 (0,0)),B90 b1 a2 A2_0 c2_0,B96 bo0 a0 A0_8 A0_9 A0_10 c0_10 A0_11,XC QM (Value.int .i64) A0_8 a0.names,MpI A0_9 a0.many,Rw Qe 134 A0_10 c0_10 a0.txs,MpV A0_11 vs0_11]) 6 (Ls 18 [0,1,2,3,4,5,6,7,8,9,10,15]) ?_ ?_
  ·clear o128h
   rintro ρ w137 ⟨b90,H,hρ,E,S⟩
   rw [QB hρ]
   refine Wo 11 J ?_
   obtain ⟨t138,ht139,H⟩:=QO H
   refine ZR fn139 (VC.con ht139 hr2_0) S J J flN (eE4 E ?_)
   rintro _ w140 _ Γ' E S ⟨rfl,rfl⟩
   refine QK (Yl ⟨.inr ⟨M,Hp.le_refl M,(S.pk [1,2,3,4,5,6])⟩,?_⟩)
   have D3:∃ Mx,Hp.le M Mx∧St _ Mx F [_,_,_,_,_,_]:=⟨_,Hp.le_refl _,S.pk [1,2,3,4,5,6]⟩
   refine tz0 12 J D3 (xmT J) (tz0 13 J D3 (QR J J) (tz0 14 J D3 (QR J J) ?_))
   exact hq132 _ _ ⟨t138.1.Writer,t138.1.TS,t138.1.Tomb,t138.1.Value,t138.2,b90,oi H,agP J,E,S.pk [0,1,2,3,4,5,6]⟩
  intro hq130
  have H:=o128h
  refine V4 (rs:=[11,15]) (by kernel_rfl) (by decide) ?_
  simp only [List.forall_mem_cons,List.not_mem_nil,false_implies,implies_true,and_true]
  refine ⟨?_,?_⟩
  ·refine ⟨_,J,?_⟩
   obtain ⟨t141,ht142,H⟩:=QO H
   refine ZR fn139 (VC.con ht142 hr2_0) S J J flN (eE4 E ?_)
   rintro _ w143 _ Γ' E S ⟨rfl,rfl⟩
   refine QK (Yl ⟨.inr ⟨M,Hp.le_refl M,(S.pk [0,1,2,3,4,5])⟩,?_⟩)
   have D4:∃ Mx,Hp.le M Mx∧St _ Mx F [_,_,_,_,_,_]:=⟨_,Hp.le_refl _,S.pk [0,1,2,3,4,5]⟩
   refine tz0 12 J D4 (xmT J) (tz0 13 J D4 (QR J J) (tz0 14 J D4 (QR J J) ?_))
   exact hq131 _ _ ⟨t141.1.Writer,t141.1.TS,t141.1.Tomb,t141.1.Value,t141.2,H,agP J,E,S.pk [0,1,2,3,4,5]⟩
  ·refine ⟨_,J,?_⟩
   refine YN S cz18 ty88 J J (eE2 E ?_)
   intro b144 w145 E S
   refine QK (Yl ⟨.inr ⟨M,Hp.le_refl M,(S.pk [1,2,3,4,5,6])⟩,?_⟩)
   exact hq130 _ _ ⟨b144,H,agP J,E,S.pk [0,1,2,3,4,5,6]⟩
 rintro ρ w147 ⟨x105,x106,x107,x108,x109,b103,rfl,hρ,E,S⟩
 rw [QB hρ]
 have H:=o128H
 refine Wo 16 J ?_
 refine Qu S 0 J ty88 J J [vI x105,vI x106,.bool x107,vS x108] J J J #[vI x105,vI x106,.bool x107,vS x108] J J (eE1 E ?_)
 intro w148 E S
 refine QK (Yl ⟨.inr ⟨M,Hp.le_refl M,(S.pk [1,2,3,4,5,6])⟩,?_⟩)
 refine tz0 17 J (⟨M,Hp.le_refl M,(S.pk [1,2,3,4,5,6])⟩) (xaB J) ?_
 refine Wz ?_
 refine tn ?_
 as_aux_lemma =>
 refine wsQ (wfA Tryz.underlying88 ty9 J (wlA S 0 ty9 J (wmB J (waS J (waB J (wnQ ?_))))))
 refine QT ?_
 obtain rfl:=oi H
 exact ⟨_,_,_,rsA (vs:=[_,_]) J,HM,E,S.pk [2,3,4,5,6],⟨J,J⟩⟩
def Y0 (k:Nat) (a0:QW) (a1:Int) (a2:Int) (a3:QY):Option (Ql) :=
 (Option.bind (Zp k a0 a1 ((mget a0.rows a3.Key).getD cz19)) (fun t28=>(if (!t28.2)=true then some cz11 else some (⟨(0:Int),true,t28.1,([]:List Qp)⟩:Ql))))
theorem Y0.mono {k a0 a1 a2 a3}: OLe (Y0 k a0 a1 a2 a3) (Y0 (k+1) a0 a1 a2 a3):=by
 unfold Y0
 have m1:=@Zp.mono
 exact mo
theorem Y0.con {k M A0_8 A0_9 A0_10 c0_10 A0_11} {vs0_11:List (Str×Value)} {a0:QW} {a1:Int} {a2:Int} {a3:QY} {bo0} {r:Ql} (h:Y0 k a0 a1 a2 a3=some r) (hm0_11:Xa Qx M a0.rows vs0_11): Con Tryz.prog 124 #[pt bo0 0,vI a1,vI a2,.agg (Qo a3)] M [B96 bo0 a0 A0_8 A0_9 A0_10 c0_10 A0_11,XC QM (Value.int .i64) A0_8 a0.names,MpI A0_9 a0.many,Rw Qe 134 A0_10 c0_10 a0.txs,MpV A0_11 vs0_11] (fun v M' Γ'=>∃ (Aq1:Option Addr) (cq2:Nat),v=.agg #[vI r.Err,.bool r.Found,vS r.Value,.slice Aq1 r.Pairs.length cq2]∧Γ'=[Rw Qq 119 Aq1 cq2 r.Pairs,B96 bo0 a0 A0_8 A0_9 A0_10 c0_10 A0_11,XC QM (Value.int .i64) A0_8 a0.names,MpI A0_9 a0.many,Rw Qe 134 A0_10 c0_10 a0.txs,MpV A0_11 vs0_11]):=by
 refine cwA Tryz.func124 J Tryz.ntmps124 Tryz.results124 J h ?_
 intro w F rn S hrn E HM H
 unfold Y0 at H
 refine wsQ ?_
 refine Yz S (Qo a3) J J J (eE2 E ?_)
 intro b1 w2 E S
 refine YN S cz16 ty38 J J (eE2 E ?_)
 intro b4 w5 E S
 refine wnQ (QH ?_)
 refine rgA S [0,1,2,3,4,5,6] [_,_,_,_,_,_,_] 15 mixed J (eE1 E ?_)
 intro w19 E S D1
 refine tz0 0 J D1 (xmP J) (tz0 1 J D1 (xmI J) (tz0 2 J D1 (xmP J) (tz0 3 J D1 (Qb J) (tz0 4 J D1 (xfA Tryz.underlying96 ty94 J) (tz1 5 J D1 (fun w' h'=>xlA h' 2 ty94 J) (tz0 6 J D1 (xfA Tryz.underlying43 ty9 J) (tz1 7 J D1 (fun w' h'=>xlA h' 1 ty9 J) ?_)))))))
 obtain ⟨cs21,hR22,he23⟩:=hm0_11.get a3.Key (z:=cz19) (zc:=[.slice none 0 0,vI 0,vI 0,.bool false,vS ([]:Str)]) ⟨_,SlW.nil _ _,J⟩
 obtain ⟨v27,hs26,rfl⟩:=hR22
 obtain ⟨A24,c25,rfl,_⟩:=hs26.form
 refine Wt 8 J J J (.agg #[.slice A24 (((mget a0.rows a3.Key).getD cz19).l).length c25,vI (((mget a0.rows a3.Key).getD cz19).intent.Writer),vI (((mget a0.rows a3.Key).getD cz19).intent.TS),.bool (((mget a0.rows a3.Key).getD cz19).intent.Tomb),vS (((mget a0.rows a3.Key).getD cz19).intent.Value)]) J (fun w' h'=>Exists.elim h' fun Mx h9=>(Eq.trans (Vn h9.2 6 J Tryz.underlying94 key9 (Value.agg cz12) (fun _=>ty90.zero) a3.Key J J) (by rw [show (mget vs0_11 a3.Key).getD (Value.agg cz12)=_ from he23]))) D1 ?_
 refine Wo 9 J ?_
 obtain ⟨t28,ht29,H⟩:=QO H
 replace S:St w19 M F [_,_,_,_,_,_,_]:=S.pk [2,3,4,5,6,0,1]
 refine Zy fn132 (Zp.con ht29 hm0_11 hs26) (Γ1:=[_,_,_,_,_]) (Γ2:=[_,_]) S J J (by rintro _ _ _ ⟨rfl,rfl⟩;exact (QP Zs (QP Zl (QP Zl (QP (YX (fun _ _ _ _ h=>h)) (QP Zl YE)))))) (eE4 E ?_)
 rintro _ w30 _ Γ' E S ⟨rfl,rfl⟩
 replace S:St w30 M F [_,_,_,_,_,_,_]:=S
 refine QK (Yl ⟨.inr ⟨M,Hp.le_refl M,(S.pk [5,6,0,1,2,3,4])⟩,?_⟩)
 have D2:∃ Mx,Hp.le M Mx∧St _ Mx F [_,_,_,_,_,_,_]:=⟨_,Hp.le_refl _,S.pk [5,6,0,1,2,3,4]⟩
 refine tz0 10 J D2 (xmT J) (tz0 11 J D2 (QR J J) (tz0 12 J D2 (QR J J) (tz0 13 J D2 (xaS J) (tz0 14 J D2 (xaB J) ?_))))
 refine Wz ?_
 refine tn (QH ?_)
 as_aux_lemma =>
 refine wsQ (wmB J (W_v _ (Xr (b:=t28.2) J) J (wnQ ?_)))
 rcases Q3 H with ⟨hb33,H⟩ | ⟨hb33,H⟩
 ·refine QC (cB hb33) ?_
  refine wsQ (W_v _ (xb2 [(0,1),(1,1),(2,1),(3,1)] cz16 Tryz.underlying38 ty38 J) J ?_)
  refine Qu S 5 J ty38 J J [vI 0,.bool false,vS ([]:Str),.slice none 0 0] J J J cz16 J J (eE1 E ?_)
  intro w34 E S
  refine wnQ ?_
  refine QT ?_
  refine tr (?_)
  obtain rfl:=oi H
  replace S:=S.row_nil Qq 119
  exact ⟨_,_,_,fun w1 e1=>Zg (vs:=[.agg #[vI 0,.bool false,vS ([]:Str),.slice none ([]:List Qp).length 0]]) (FA.cons (rcA S e1 6 ty38 J J J) (FA.nil)),HM,E,S.pk [0,1,2,3,4,5],⟨none,0,J,J⟩⟩
 refine QA (cB hb33) (QX (tn (wsQ (wmS J (W_v _ (xb2 [(0,1),(1,1),(2,1),(3,1)] #[vI 0,.bool true,vS t28.1,.slice none 0 0] Tryz.underlying38 ty38 J) J ?_)))))
 refine Qu S 5 J ty38 J J [vI 0,.bool true,vS t28.1,.slice none 0 0] J J J #[vI 0,.bool true,vS t28.1,.slice none 0 0] J J (eE1 E ?_)
 intro w36 E S
 refine wnQ ?_
 refine QT ?_
 obtain rfl:=oi H
 replace S:=S.row_nil Qq 119
 exact ⟨_,_,_,fun w1 e1=>Zg (vs:=[.agg #[vI 0,.bool true,vS t28.1,.slice none ([]:List Qp).length 0]]) (FA.cons (rcA S e1 6 ty38 J J J) (FA.nil)),HM,E,S.pk [0,1,2,3,4,5],⟨none,0,J,J⟩⟩
end Go.Proofs.YtkknoimjgifhlaaGreatDoor
