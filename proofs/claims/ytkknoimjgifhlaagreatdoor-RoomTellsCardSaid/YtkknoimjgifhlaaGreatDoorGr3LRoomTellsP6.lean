import Derived.Test.YtkknoimjgifhlaaGreatDoorGr3B
import Derived.Test.YtkknoimjgifhlaaGreatDoorGr3LRoomTellsP4
import Derived.Test.YtkknoimjgifhlaaGreatDoorGr3LRoomTellsP5
namespace Go.Proofs.YtkknoimjgifhlaaGreatDoor
open Go
set_option linter.unusedVariables false
set_option linter.unusedSimpArgs false
set_option maxHeartbeats 80000000
set_option maxRecDepth 100000
def ZI (a0:QE) (a1:Int):Nat→Int→Int→Option ((Int))
 | 0,_,_=>none
 | k+1,x112,x113=>(if (decide (x113<(a0.T.length:Int)))=true then (Option.bind (α:=Int) (if 0≤x113∧x113<(a0.T.length:Int) then (Option.bind (α:=Int) (if ((rd a0.T x113).Task==a1)=true then some ((IntKind.i64.wrap (x112+(1:Int)))) else some (x112)) (fun x184=>some (x184))) else none) (fun x170=>ZI a0 a1 k x170 (IntKind.i64.wrap (x113+(1:Int))))) else some (x112))
theorem ZI.mono {a0 a1}: ∀ {kl:Nat} {x0 x1},OLe (ZI a0 a1 kl x0 x1) (ZI a0 a1 (kl+1) x0 x1):=by
 intro kl
 induction kl with
 | zero=>intros;exact OLe.none
 | succ kl ih =>
  intros
  rw [ZI.eq_2,ZI.eq_2]
  exact mo
def ZH (a0:QE) (a2:QY) (t15:Int×Int×Int):Nat→List Qp→Int→Option ((List Qp))
 | 0,_,_=>none
 | k+1,x1370,x1374=>(if ((decide (x1374<(a0.L.length:Int)))&&(decide ((x1370.length:Int)<a2.Limit)))=true then (Option.bind (α:=List Qp) (if 0≤x1374∧x1374<(a0.L.length:Int) then (Option.bind (Q4 k a0 t15.1 (rd a0.L x1374)) (fun t1954=>(Option.bind (α:=Bool) (if t1954.2=true then (if 0≤x1374∧x1374<(a0.L.length:Int) then (Option.bind (Yw k ((rd a0.L x1374).Key) a2.Key a2.End) (fun t2033=>some (t2033))) else none) else some (false)) (fun x2017=>(Option.bind (α:=List Qp) (if x2017=true then (if 0≤x1374∧x1374<(a0.L.length:Int) then (if x1370.length+([(⟨((rd a0.L x1374).Key),t1954.1⟩:Qp)]:List Qp).length≤4398046511104 then some ((x1370++([(⟨((rd a0.L x1374).Key),t1954.1⟩:Qp)]:List Qp))) else none) else none) else some (x1370)) (fun x2089=>some (x2089))))))) else none) (fun x1935=>ZH a0 a2 t15 k x1935 (IntKind.i64.wrap (x1374+(1:Int))))) else some (x1370))
theorem ZH.mono {a0 a2 t15}: ∀ {kl:Nat} {x0 x1},OLe (ZH a0 a2 t15 kl x0 x1) (ZH a0 a2 t15 (kl+1) x0 x1):=by
 intro kl
 induction kl with
 | zero=>intros;exact OLe.none
 | succ kl ih =>
  intros
  rw [ZH.eq_2,ZH.eq_2]
  have m1:=@Yw.mono
  have m2:=@Q4.mono
  exact mo
def Q5 (k:Nat) (a0:QE) (a1:Int) (a2:QY):Option (Ql×QE) :=
 (Option.bind (Za k a0 a1 a2) (fun t7=>(if (t7 != (0:Int))=true then some ((⟨t7,false,([]:Str),([]:List Qp)⟩:Ql),a0) else (Option.bind (ZQ k a0 a1 a2.Tx) (fun t15=>(if (a2.Kind==(1:Int))=true then (Option.bind (Zf k a0) (fun t28=>(if (decide (t28≥a0.C.Active))=true then some (cz8,a0) else (Option.bind (ZI a0 a1 k (1:Int) (0:Int)) (fun x150=>(Option.bind (α:=List Qf×List Qf) (if ([]:List Qf).length+a0.T.length≤4398046511104 then some ((([]:List Qf)++a0.T),([(⟨a1,x150,(1:Int),(a0.Time)⟩:Qf)]:List Qf)) else none) (fun ⟨x426,x430⟩=>(if x426.length+x430.length≤4398046511104 then some (cz11,(⟨⟨a0.C.Tasks,a0.C.Active,a0.C.Keys,a0.C.Depth,a0.C.TS,a0.C.KeyLen,a0.C.ValLen,a0.C.Fan⟩,(x426++x430),a0.L,a0.Time,a0.Low⟩:QE)) else none)))))))) else (if (a2.Kind==(2:Int))=true then (Option.bind (ZZ k a0 a2.Key) (fun t561=>(Option.bind (Q4 k a0 t15.1 t561) (fun t569=>(if t569.2=true then some ((⟨(0:Int),true,t569.1,([]:List Qp)⟩:Ql),a0) else some (cz11,a0)))))) else (if (a2.Kind==(3:Int))=true then (Option.bind (Zb k a0 t15.1 a2.Key a2.Value false) (fun t580=>some (t580.1,t580.2))) else (if (a2.Kind==(4:Int))=true then (Option.bind (Zb k a0 t15.1 a2.Key ([]:Str) true) (fun t596=>some (t596.1,t596.2))) else (if (a2.Kind==(5:Int))=true then (Option.bind (ZH a0 a2 t15 k ([]:List Qp) (0:Int)) (fun x1745=>some ((⟨(0:Int),false,([]:Str),x1745⟩:Ql),a0))) else (if (a2.Kind==(6:Int))=true then (Option.bind (Zo k a0 t15.1) (fun t2125=>some (t2125.1,t2125.2))) else (Option.bind (α:=QE) (if (a2.Kind==(7:Int))=true then (Option.bind (Qw k a0 t15.1 (4:Int) (0:Int)) (fun t2270=>some (t2270))) else (Option.bind (α:=QE) (if (a2.Kind==(8:Int))=true then (Option.bind (Ze k a0) (fun t2314=>some (t2314))) else some (a0)) (fun x2305=>some (x2305)))) (fun x2260=>some (cz11,x2260))))))))))))))
theorem Q5.mono {k a0 a1 a2}: OLe (Q5 k a0 a1 a2) (Q5 (k+1) a0 a1 a2):=by
 unfold Q5
 have m1:=@Zf.mono
 have m2:=@ZI.mono
 have m3:=@ZH.mono
 have m4:=@Za.mono
 have m5:=@ZQ.mono
 have m6:=@Zo.mono
 have m7:=@Qw.mono
 have m8:=@ZZ.mono
 have m9:=@Q4.mono
 have m10:=@Ze.mono
 have m11:=@Zb.mono
 exact mo
theorem Q5.con {k M A0_8 c0_8 A0_9 c0_9} {a0:QE} {a1:Int} {a2:QY} {bo0} {r:Ql×QE} (h:Q5 k a0 a1 a2=some r) (hr0_9:SlR Qa M (.slice A0_9 a0.L.length c0_9) a0.L): Con Tryz.prog 30 #[pt bo0 0,vI a1,.agg (Qo a2)] M [B69 bo0 a0 A0_8 c0_8 A0_9 c0_9,Rw QD 112 A0_8 c0_8 a0.T] (fun v M' Γ'=>∃ (Aq1:Option Addr) (cq2:Nat) (Aq4:Option Addr) (cq5:Nat) (Aq7:Option Addr) (cq8:Nat),v=.agg #[vI r.1.Err,.bool r.1.Found,vS r.1.Value,.slice Aq1 r.1.Pairs.length cq2]∧SlR Qa M' (.slice Aq7 r.2.L.length cq8) r.2.L∧Γ'=[Rw Qq 119 Aq1 cq2 r.1.Pairs,B69 bo0 r.2 Aq4 cq5 Aq7 cq8,Rw QD 112 Aq4 cq5 r.2.T]):=by
 refine cwA Tryz.func30 J Tryz.ntmps30 Tryz.results30 J h ?_
 intro w F rn S hrn E HM H
 unfold Q5 at H
 refine wsQ ?_
 refine Yz S (Qo a2) J J J (eE2 E ?_)
 intro b1 w2 E S
 refine YN S cz16 ty38 J J (eE2 E ?_)
 intro b4 w5 E S
 refine wnQ (wsQ (wmP J (wmI J (W_v (.agg (Qo a2)) (Qi (S.blk 1 J) ty43 J (QG J) J J) J ?_))))
 obtain ⟨t7,ht8,H⟩:=QO H
 replace S:St w5 M F [_,_,_,_]:=S.pk [2,3,0,1]
 refine Zy fn40 (Za.con ht8 hr0_9) (Γ1:=[_,_]) (Γ2:=[_,_]) S J J (by rintro _ _ _ ⟨rfl,rfl⟩;exact (QP Zs (QP (YX (fun _ _ _ _ h=>h)) YE))) (eE4 E ?_)
 rintro _ w9 _ Γ' E S ⟨rfl,rfl⟩
 replace S:St w9 M F [_,_,_,_]:=S
 refine waI J (wnQ (QH (wsQ (wmI J (wiB J J (wnQ ?_))))))
 rcases Q3 H with ⟨hb12,H⟩ | ⟨hb12,H⟩
 ·refine QC (cB hb12) ?_
  refine wsQ (wmI J (W_v _ (xb2 [(0,1),(1,1),(2,1),(3,1)] #[vI t7,.bool false,vS ([]:Str),.slice none 0 0] Tryz.underlying38 ty38 J) J ?_))
  refine Qu S 2 J ty38 J J [vI t7,.bool false,vS ([]:Str),.slice none 0 0] J J J #[vI t7,.bool false,vS ([]:Str),.slice none 0 0] J J (eE1 E ?_)
  intro w13 E S
  refine wnQ ?_
  refine QT ?_
  refine tr (?_)
  obtain rfl:=oi H
  replace S:=S.row_nil Qq 119
  exact ⟨_,_,_,fun w1 e1=>Zg (vs:=[.agg #[vI t7,.bool false,vS ([]:Str),.slice none ([]:List Qp).length 0]]) (FA.cons (rcA S e1 3 ty38 J J J) (FA.nil)),HM,E,S.pk [0,1,2],⟨none,0,A0_8,c0_8,A0_9,c0_9,J,hr0_9,J⟩⟩
 refine QA (cB hb12) (QX (tn ?_))
 as_aux_lemma =>
 refine wsQ (wmP J (wmI J (wfA Tryz.underlying43 ty3 J (wlA S 3 ty3 J ?_))))
 obtain ⟨t15,ht16,H⟩:=QO H
 refine Zy fn41 (ZQ.con ht16 hr0_9) (Γ1:=[_,_]) (Γ2:=[_,_]) S J J (by rintro _ _ _ ⟨rfl,rfl⟩;exact (QP Zs (QP (YX (fun _ _ _ _ h=>h)) YE))) (eE4 E ?_)
 rintro _ w17 _ Γ' E S ⟨rfl,rfl⟩
 replace S:St w17 M F [_,_,_,_]:=S
 refine wmT J (W_v _ (QR J J) J (W_v _ (QR J J) J (W_v _ (QR J J) J (waI J (waI J (waI J (wnQ (QH (wsQ (wfA Tryz.underlying43 ty5 J (wlA S 3 ty5 J (wnQ ?_))))))))))))
 refine ZW ?_
 refine wsQ (wiB J J (waB J (wnQ ?_)))
 rcases Q3 H with ⟨hb20,H⟩ | ⟨hb20,H⟩
 ·refine QC (cB hb20) ?_
  refine QH (QH ?_)
  refine rgA S [0,1,2,3] [_,_,_,_] 8 mixed J (eE1 E ?_)
  intro w26 E S D1
  refine tz0 0 J D1 (xmP J) (tz0 2 J D1 (xmP J) (tz0 3 J D1 (Qb J) (tz0 4 J D1 (xfA Tryz.underlying69 ty23 J) (tz0 5 J D1 (xfA Tryz.underlying23 ty3 J) (tz1 6 J D1 (fun w' h'=>xlA h' 0 ty3 J) ?_)))))
  refine Wo 1 J ?_
  obtain ⟨t28,ht29,H⟩:=QO H
  refine Zy fn42 (Zf.con ht29 hr0_9) (Γ1:=[_,_]) (Γ2:=[_,_]) S J J (by rintro _ _ _ ⟨rfl,rfl⟩;exact (QP Zs (QP (YX (fun _ _ _ _ h=>h)) YE))) (eE4 E ?_)
  rintro _ w30 _ Γ' E S ⟨rfl,rfl⟩
  replace S:St w30 M F [_,_,_,_]:=S
  refine QK (Yl ⟨.inr ⟨M,Hp.le_refl M,(S.pk [0,1,2,3])⟩,?_⟩)
  refine tz0 7 J (⟨M,Hp.le_refl M,(S.pk [0,1,2,3])⟩) (xiB J J) ?_
  refine Wz ?_
  refine tn ?_
  rcases Q3 H with ⟨hb33,H⟩ | ⟨hb33,H⟩
  ·refine QC (cB hb33) ?_
   refine wsQ (W_v _ (xb2 [(0,1),(1,1),(2,1),(3,1)] cz13 Tryz.underlying38 ty38 J) J ?_)
   refine Qu S 2 J ty38 J J [vI 34,.bool false,vS ([]:Str),.slice none 0 0] J J J cz13 J J (eE1 E ?_)
   intro w34 E S
   refine wnQ ?_
   refine QT ?_
   refine tr (br (tr (?_)))
   obtain rfl:=oi H
   replace S:=S.row_nil Qq 119
   exact ⟨_,_,_,fun w1 e1=>Zg (vs:=[.agg #[vI 34,.bool false,vS ([]:Str),.slice none ([]:List Qp).length 0]]) (FA.cons (rcA S e1 3 ty38 J J J) (FA.nil)),HM,E,S.pk [0,1,2],⟨none,0,A0_8,c0_8,A0_9,c0_9,J,hr0_9,J⟩⟩
  refine QA (cB hb33) (QX (tn (wsQ (waI J (wnQ ?_)))))
  as_aux_lemma =>
  refine QH (wsQ (waI J (wnQ ?_)))
  obtain ⟨o151,o151h,o151H⟩:=QO H
  refine Zr (fun ρ w'=>∃ (x150:Int),(x150)=o151∧QV ρ [(0,pt bo0 0),(1,vI a1),(6,pt b4 0),(11,vI x150)]∧Ext w w'∧St w' M F [B69 bo0 a0 A0_8 c0_8 A0_9 c0_9,Rw QD 112 A0_8 c0_8 a0.T,Blk b4 (.cells cz16 38 (0,0))]) ?_ ?_
  ·refine Yr (fun n ρ w'=>∃ (x112:Int) (x113:Int),ZI a0 a1 n x112 x113=some o151∧QV ρ [(0,pt bo0 0),(1,vI a1),(6,pt b4 0),(11,vI x112),(12,vI x113)]∧Ext w w'∧St w' M F [B69 bo0 a0 A0_8 c0_8 A0_9 c0_9,Rw QD 112 A0_8 c0_8 a0.T,Blk b4 (.cells cz16 38 (0,0))]) k ?_ ?_
   ·exact ⟨(1:Int),(0:Int),o151h,agP J,E,S.pk [0,1,2]⟩
   ·intro n
    rintro ρ w152 ⟨x112,x113,H,hρ,E,S⟩
    rw [QB hρ]
    cases n with
    | zero=>cases H
    | succ k =>
     rw [ZI.eq_2] at H
     refine QH (wsQ (wmI J (wmP J (W_v _ (Qb J) J (wfA Tryz.underlying69 ty66 J (wlA S 0 ty66 J (W_v _ (Qm (n:=a0.T.length) Tryz.underlying66 J) J (wiB J J (wnQ ?_)))))))))
     rcases Q3 H with ⟨hb153,H⟩ | ⟨hb153,H⟩
     ·refine QC (cB hb153) ?_
      refine QX (tn (QH ?_))
      obtain ⟨o171,o171h,o171H⟩:=QO H
      refine Yc (fun ρ w'=>∃ (x170:Int),(x170)=o171∧QV ρ [(0,pt bo0 0),(1,vI a1),(6,pt b4 0),(11,vI x170),(12,vI x113)]∧Ext w w'∧St w' M F [B69 bo0 a0 A0_8 c0_8 A0_9 c0_9,Rw QD 112 A0_8 c0_8 a0.T,Blk b4 (.cells cz16 38 (0,0))]) ?_ ?_
      ·as_aux_lemma =>
        clear o171H
        have H:=o171h
        refine ZW ?_
        refine wsQ (wmP J (W_v _ (Qb J) J (wfA Tryz.underlying69 ty66 J (wlA S 0 ty66 J (wmI J ?_)))))
        obtain ⟨⟨p172,p173⟩,H⟩:=Z8 H
        obtain ⟨b174,o175,cs176,_,_,ee181,hb177,vs178,hR179,hc180⟩:=SlW.at' (S.row_read 1 J) p172 p173
        obtain rfl:vs178=_:=hR179
        refine W_v _ (QS Tryz.underlying66 ty112 (slA ee181) J p172 p173) J (wfA Tryz.underlying112 ty3 J (W_v _ (Z0 (Hp.of_get hb177) ty3 J (hc180 0 _ J)) J (wmI J (wiB J J (wnQ ?_)))))
        obtain ⟨o185,o185h,o185H⟩:=QO H
        refine Yc (fun ρ w'=>∃ (x184:Int),(x184)=o185∧QV ρ [(0,pt bo0 0),(1,vI a1),(6,pt b4 0),(11,vI x184),(12,vI x113)]∧Ext w w'∧St w' M F [B69 bo0 a0 A0_8 c0_8 A0_9 c0_9,Rw QD 112 A0_8 c0_8 a0.T,Blk b4 (.cells cz16 38 (0,0))]) ?_ ?_
        ·clear o185H
         have H:=o185h
         rcases Q3 H with ⟨hb186,H⟩ | ⟨hb186,H⟩
         ·refine QC (cB hb186) ?_
          refine QJ (wmI J (wiI J J (waI J (wnQ ?_))))
          exact ⟨(IntKind.i64.wrap (x112+(1:Int))),oi H,agP J,E,S.pk [0,1,2]⟩
         refine QA (cB hb186) (QX (tn ?_))
         exact ⟨x112,oi H,agP J,E,S.pk [0,1,2]⟩
        rintro ρ w187 ⟨x184,rfl,hρ,E,S⟩
        rw [QB hρ]
        have H:=o185H
        refine bn (tn ?_)
        exact ⟨x184,oi H,agP J,E,S.pk [0,1,2]⟩
      rintro ρ w188 ⟨x170,rfl,hρ,E,S⟩
      rw [QB hρ]
      have H:=o171H
      refine tn (QJ (wmI J (wiI J J (waI J (wnQ ?_)))))
      exact ⟨k,Nat.lt_succ_self k,⟨x170,(IntKind.i64.wrap (x113+(1:Int))),H,agP J,E,S.pk [0,1,2]⟩⟩
     refine QA (cB hb153) ?_
     refine YZ ?_
     refine tx (tx (bsm (?_)))
     refine tn ?_
     exact ⟨x112,oi H,agP J,E,S.pk [0,1,2]⟩
  rintro ρ w189 ⟨x150,rfl,hρ,E,S⟩
  rw [QB hρ]
  have H:=o151H
  refine tn ?_
  refine rgA S [0,1,2] [_,_,_] 18 mixed J (eE1 E ?_)
  intro w373 E S D3
  refine tz0 0 J D3 (xmP J) (tz0 2 J D3 (xmP J) (tz0 3 J D3 (Qb J) (tz0 4 J D3 (xfA Tryz.underlying69 ty66 J) (tz1 5 J D3 (fun w' h'=>xlA h' 0 ty66 J) (tz0 7 J D3 (xmI J) (tz0 8 J D3 (xmI J) (tz0 9 J D3 (xmP J) (tz0 10 J D3 (Qb J) (tz0 11 J D3 (xfA Tryz.underlying69 ty3 J) (tz1 12 J D3 (fun w' h'=>xlA h' 0 ty3 J) (tz0 13 J D3 (xb2 [(0,1),(1,1),(2,1),(3,1)] #[vI a1,vI x150,vU 1,vI (a0.Time)] Tryz.underlying112 ty112 J) ?_)))))))))))
  obtain ⟨o506,o506h,o506H⟩:=QO H
  refine YB (fun ρ w'=>∃ (x426:List Qf) (x430:List Qf) (A427:Option Addr) (c428:Nat) (A431:Option Addr) (c432:Nat),(x426,x430)=o506∧QV ρ [(6,pt b4 0),(70,pt bo0 0),(76,.slice A427 x426.length c428),(84,.slice A431 x430.length c432)]∧Ext w w'∧St w' M F [Rw QD 112 A431 c432 x430,Rw QD 112 A427 c428 x426,B69 bo0 a0 A0_8 c0_8 A0_9 c0_9,Rw QD 112 A0_8 c0_8 a0.T,Blk b4 (.cells cz16 38 (0,0))]) 4 (Ls 19 [0,1,2,3,4,5,6,7,8,9,10,11,12,13,14]) ?_ ?_
  rotate_left
  ·intro hq512
   refine YB (fun ρ w'=>∃ (x410:List Qf) (x414:List Qf) (A411:Option Addr) (c412:Nat) (A415:Option Addr) (c416:Nat),(if x410.length+a0.T.length≤4398046511104 then some ((x410++a0.T),x414) else none)=some o506∧QV ρ [(6,pt b4 0),(70,pt bo0 0),(71,.slice A411 x410.length c412),(75,.slice A0_8 a0.T.length c0_8),(84,.slice A415 x414.length c416)]∧Ext w w'∧St w' M F [Rw QD 112 A415 c416 x414,Rw QD 112 A411 c412 x410,B69 bo0 a0 A0_8 c0_8 A0_9 c0_9,Rw QD 112 A0_8 c0_8 a0.T,Blk b4 (.cells cz16 38 (0,0))]) 5 (Ls 19 [0,1,2,3,4,5,7,8,9,10,11,12,13,14]) ?_ ?_
   ·clear o506h
    rintro ρ w513 ⟨x410,x414,A411,c412,A415,c416,H,hρ,E,S⟩
    rw [QB hρ]
    refine Wo 6 J ?_
    obtain ⟨p514,H⟩:=Z8 H
    obtain ⟨src515,hs516,hC517⟩:=XJ (P:=Tryz.prog) (ρ:=QD) (l:=a0.T) (S.row_read 3 J) (by decide)
    refine X0 S 1 J J J Tryz.underlying66 (.inl Tryz.underlying66) ty112 J (by decide) (by decide) hs516 hC517 J (by omega) J (eE2 E ?_)
    intro v518 w519 E S
    obtain ⟨A520,c521,rfl,_⟩:=(S.row_read 1 J).form
    refine QK (Yl ⟨.inr ⟨M,Hp.le_refl M,(S.pk [2,3,4])⟩,?_⟩)
    exact hq512 _ _ ⟨(x410++a0.T),x414,A520,c521,A415,c416,oi H,agP J,E,S.pk [0,1,2,3,4]⟩
   intro hq511
   refine YB (fun ρ w'=>∃ (x403:List Qf) (A404:Option Addr) (c405:Nat),some (x403,([(⟨a1,x150,(1:Int),(a0.Time)⟩:Qf)]:List Qf))=some o506∧QV ρ [(6,pt b4 0),(70,pt bo0 0),(76,.slice A404 x403.length c405),(83,.agg #[vI a1,vI x150,vU 1,vI (a0.Time)])]∧Ext w w'∧St w' M F [Rw QD 112 A404 c405 x403,B69 bo0 a0 A0_8 c0_8 A0_9 c0_9,Rw QD 112 A0_8 c0_8 a0.T,Blk b4 (.cells cz16 38 (0,0))]) 5 (Ls 19 [0,1,2,3,4,5,6,7,8,9,10,11,12,13]) ?_ ?_
   ·clear o506h
    rintro ρ w522 ⟨x403,A404,c405,H,hρ,E,S⟩
    rw [QB hρ]
    refine Wo 14 J ?_
    refine Xl S #[vI a1,vI x150,vU 1,vI (a0.Time)] Tryz.underlying66 ty112 J J cz20 (by as_aux_lemma=>kernel_rfl) (by as_aux_lemma=>kernel_rfl) J (eE2 E ?_)
    intro b523 w524 E S
    replace S:=S.blk_row (r:=QD) (l:=([(⟨a1,x150,(1:Int),(a0.Time)⟩:Qf)]:List Qf)) 0 J 1 (Nat.le_refl 1) J (Cells.cons (vs:=[vI a1,vI x150,vU 1,vI (a0.Time)]) (J) Cells.nil)
    refine QK (Yl ⟨.inr ⟨M,Hp.le_refl M,(S.pk [2,3,4])⟩,?_⟩)
    exact hq512 _ _ ⟨x403,([(⟨a1,x150,(1:Int),(a0.Time)⟩:Qf)]:List Qf),A404,c405,(some ⟨b523,0,none⟩),1,oi H,agP J,E,S.pk [0,1,2,3,4]⟩
   intro hq510
   refine YB (fun ρ w'=>∃ (x396:List Qf) (A397:Option Addr) (c398:Nat),(if ([]:List Qf).length+a0.T.length≤4398046511104 then some ((([]:List Qf)++a0.T),x396) else none)=some o506∧QV ρ [(6,pt b4 0),(70,pt bo0 0),(75,.slice A0_8 a0.T.length c0_8),(84,.slice A397 x396.length c398)]∧Ext w w'∧St w' M F [Rw QD 112 A397 c398 x396,B69 bo0 a0 A0_8 c0_8 A0_9 c0_9,Rw QD 112 A0_8 c0_8 a0.T,Blk b4 (.cells cz16 38 (0,0))]) 6 (Ls 19 [0,2,3,4,5,7,8,9,10,11,12,13,14]) ?_ ?_
   ·clear o506h
    rintro ρ w526 ⟨x396,A397,c398,H,hρ,E,S⟩
    rw [QB hρ]
    refine Wo 1 J ?_
    refine Xl S #[] Tryz.underlying66 ty112 J J #[] (by as_aux_lemma=>kernel_rfl) (by as_aux_lemma=>kernel_rfl) J (eE2 E ?_)
    intro b527 w528 E S
    replace S:=S.blk_row (r:=QD) (l:=([]:List Qf)) 0 J 0 (Nat.le_refl 0) J Cells.nil
    refine QK (Yl ⟨.inr ⟨M,Hp.le_refl M,(S.pk [2,3,4])⟩,?_⟩)
    exact hq511 _ _ ⟨([]:List Qf),x396,(some ⟨b527,0,none⟩),0,A397,c398,H,agP J,E,S.pk [1,0,2,3,4]⟩
   intro hq509
   refine YB (fun ρ w'=>∃ (x381:List Qf) (A382:Option Addr) (c383:Nat),(if x381.length+a0.T.length≤4398046511104 then some ((x381++a0.T),([(⟨a1,x150,(1:Int),(a0.Time)⟩:Qf)]:List Qf)) else none)=some o506∧QV ρ [(6,pt b4 0),(70,pt bo0 0),(71,.slice A382 x381.length c383),(75,.slice A0_8 a0.T.length c0_8),(83,.agg #[vI a1,vI x150,vU 1,vI (a0.Time)])]∧Ext w w'∧St w' M F [Rw QD 112 A382 c383 x381,B69 bo0 a0 A0_8 c0_8 A0_9 c0_9,Rw QD 112 A0_8 c0_8 a0.T,Blk b4 (.cells cz16 38 (0,0))]) 6 (Ls 19 [0,1,2,3,4,5,7,8,9,10,11,12,13]) ?_ ?_
   ·clear o506h
    rintro ρ w530 ⟨x381,A382,c383,H,hρ,E,S⟩
    rw [QB hρ]
    refine V4 (rs:=[6,14]) (by kernel_rfl) (by decide) ?_
    simp only [List.forall_mem_cons,List.not_mem_nil,false_implies,implies_true,and_true]
    refine ⟨?_,?_⟩
    ·refine ⟨_,J,?_⟩
     obtain ⟨p531,H⟩:=Z8 H
     obtain ⟨src532,hs533,hC534⟩:=XJ (P:=Tryz.prog) (ρ:=QD) (l:=a0.T) (S.row_read 2 J) (by decide)
     refine X0 S 0 J J J Tryz.underlying66 (.inl Tryz.underlying66) ty112 J (by decide) (by decide) hs533 hC534 J (by omega) J (eE2 E ?_)
     intro v535 w536 E S
     obtain ⟨A537,c538,rfl,_⟩:=(S.row_read 0 J).form
     refine QK (Yl ⟨.inr ⟨M,Hp.le_refl M,(S.pk [1,2,3])⟩,?_⟩)
     exact hq510 _ _ ⟨(x381++a0.T),A537,c538,H,agP J,E,S.pk [0,1,2,3]⟩
    ·refine ⟨_,J,?_⟩
     refine Xl S #[vI a1,vI x150,vU 1,vI (a0.Time)] Tryz.underlying66 ty112 J J cz20 (by as_aux_lemma=>kernel_rfl) (by as_aux_lemma=>kernel_rfl) J (eE2 E ?_)
     intro b539 w540 E S
     replace S:=S.blk_row (r:=QD) (l:=([(⟨a1,x150,(1:Int),(a0.Time)⟩:Qf)]:List Qf)) 0 J 1 (Nat.le_refl 1) J (Cells.cons (vs:=[vI a1,vI x150,vU 1,vI (a0.Time)]) (J) Cells.nil)
     refine QK (Yl ⟨.inr ⟨M,Hp.le_refl M,(S.pk [2,3,4])⟩,?_⟩)
     exact hq511 _ _ ⟨x381,([(⟨a1,x150,(1:Int),(a0.Time)⟩:Qf)]:List Qf),A382,c383,(some ⟨b539,0,none⟩),1,H,agP J,E,S.pk [0,1,2,3,4]⟩
   intro hq508
   have H:=o506h
   refine V4 (rs:=[1,14]) (by kernel_rfl) (by decide) ?_
   simp only [List.forall_mem_cons,List.not_mem_nil,false_implies,implies_true,and_true]
   refine ⟨?_,?_⟩
   ·refine ⟨_,J,?_⟩
    refine Xl S #[] Tryz.underlying66 ty112 J J #[] (by as_aux_lemma=>kernel_rfl) (by as_aux_lemma=>kernel_rfl) J (eE2 E ?_)
    intro b542 w543 E S
    replace S:=S.blk_row (r:=QD) (l:=([]:List Qf)) 0 J 0 (Nat.le_refl 0) J Cells.nil
    refine QK (Yl ⟨.inr ⟨M,Hp.le_refl M,(S.pk [1,2,3])⟩,?_⟩)
    exact hq508 _ _ ⟨([]:List Qf),(some ⟨b542,0,none⟩),0,H,agP J,E,S.pk [0,1,2,3]⟩
   ·refine ⟨_,J,?_⟩
    refine Xl S #[vI a1,vI x150,vU 1,vI (a0.Time)] Tryz.underlying66 ty112 J J cz20 (by as_aux_lemma=>kernel_rfl) (by as_aux_lemma=>kernel_rfl) J (eE2 E ?_)
    intro b545 w546 E S
    replace S:=S.blk_row (r:=QD) (l:=([(⟨a1,x150,(1:Int),(a0.Time)⟩:Qf)]:List Qf)) 0 J 1 (Nat.le_refl 1) J (Cells.cons (vs:=[vI a1,vI x150,vU 1,vI (a0.Time)]) (J) Cells.nil)
    refine QK (Yl ⟨.inr ⟨M,Hp.le_refl M,(S.pk [1,2,3])⟩,?_⟩)
    exact hq509 _ _ ⟨([(⟨a1,x150,(1:Int),(a0.Time)⟩:Qf)]:List Qf),(some ⟨b545,0,none⟩),1,H,agP J,E,S.pk [0,1,2,3]⟩
  rintro ρ w548 ⟨x426,x430,A427,c428,A431,c432,rfl,hρ,E,S⟩
  rw [QB hρ]
  have H:=o506H
  refine Wo 15 J ?_
  obtain ⟨p549,H⟩:=Z8 H
  obtain ⟨src550,hs551,hC552⟩:=XJ (P:=Tryz.prog) (ρ:=QD) (l:=x430) (S.row_read 0 J) (by decide)
  refine X0 S 1 J J J Tryz.underlying66 (.inl Tryz.underlying66) ty112 J (by decide) (by decide) hs551 hC552 J (by omega) J (eE2 E ?_)
  intro v553 w554 E S
  obtain ⟨A555,c556,rfl,_⟩:=(S.row_read 1 J).form
  refine QK (Yl ⟨.inr ⟨M,Hp.le_refl M,(S.pk [2,3,4])⟩,?_⟩)
  have D4:∃ Mx,Hp.le M Mx∧St _ Mx F [_,_,_]:=⟨_,Hp.le_refl _,S.pk [2,3,4]⟩
  refine tz0 16 J D4 (Qb J) (tz0 17 J D4 (xfA Tryz.underlying69 ty66 J) ?_)
  refine Wo 18 J ?_
  refine Qu S 2 J ty66 J J [.slice A555 (x426++x430).length c556] J J J #[vI a0.C.Tasks,vI a0.C.Active,vI a0.C.Keys,vI a0.C.Depth,vI a0.C.TS,vI a0.C.KeyLen,vI a0.C.ValLen,vI a0.C.Fan,.slice A555 (x426++x430).length c556,.slice A0_9 a0.L.length c0_9,vI a0.Time,vI a0.Low] J J (eE1 E ?_)
  intro w557 E S
  refine QK (Yl ⟨.inl (by decide),?_⟩)
  refine Wz ?_
  refine bn (tn ?_)
  as_aux_lemma =>
  refine wsQ (W_v _ (xb2 [(0,1),(1,1),(2,1),(3,1)] cz16 Tryz.underlying38 ty38 J) J ?_)
  refine Qu S 4 J ty38 J J [vI 0,.bool false,vS ([]:Str),.slice none 0 0] J J J cz16 J J (eE1 E ?_)
  intro w558 E S
  refine wnQ ?_
  refine QT ?_
  obtain rfl:=oi H
  replace S:=S.row_nil Qq 119
  exact ⟨_,_,_,fun w1 e1=>Zg (vs:=[.agg #[vI 0,.bool false,vS ([]:Str),.slice none ([]:List Qp).length 0]]) (FA.cons (rcA S e1 5 ty38 J J J) (FA.nil)),HM,E,S.pk [0,3,2],⟨none,0,A555,c556,A0_9,c0_9,J,hr0_9,J⟩⟩
 refine QA (cB hb20) ?_
 as_aux_lemma =>
 refine wsQ (wiB J J (waB J (wnQ ?_)))
 rcases Q3 H with ⟨hb560,H⟩ | ⟨hb560,H⟩
 ·refine QC (cB hb560) ?_
  refine wsQ (wmP J (wmI J (wmP J (wfA Tryz.underlying43 ty9 J (wlA S 3 ty9 J ?_)))))
  obtain ⟨t561,ht562,H⟩:=QO H
  refine Y2 fn44 (ZZ.con ht562 hr0_9) (Γ1:=[_,_]) (Γ2:=[_,_]) S J J ?_
  rintro _ w566 M567 Γ' hM568 E' S ⟨A563,c564,rfl,hs565,rfl⟩
  replace HM:=Hp.le_trans HM hM568
  replace hr0_9:=SlR.mono hr0_9 hM568
  replace E:=E.trans E'
  replace S:St w566 M567 F [_,_,_,_]:=S
  obtain ⟨t569,ht570,H⟩:=QO H
  refine Zy fn43 (Q4.con ht570 hr0_9 hs565) (Γ1:=[_,_]) (Γ2:=[_,_]) S J J (by rintro _ _ _ ⟨rfl,rfl⟩;exact (QP Zs (QP (YX (fun _ _ _ _ h=>h)) YE))) (eE4 E ?_)
  rintro _ w571 _ Γ' E S ⟨rfl,rfl⟩
  replace S:St w571 M567 F [_,_,_,_]:=S
  refine wmT J (W_v _ (QR J J) J (W_v _ (QR J J) J (waS J (waB J (wnQ (wsQ (wmB J (wnQ ?_))))))))
  rcases Q3 H with ⟨hb574,H⟩ | ⟨hb574,H⟩
  ·refine QC (cB hb574) ?_
   refine wsQ (wmS J (W_v _ (xb2 [(0,1),(1,1),(2,1),(3,1)] #[vI 0,.bool true,vS t569.1,.slice none 0 0] Tryz.underlying38 ty38 J) J ?_))
   refine Qu S 2 J ty38 J J [vI 0,.bool true,vS t569.1,.slice none 0 0] J J J #[vI 0,.bool true,vS t569.1,.slice none 0 0] J J (eE1 E ?_)
   intro w575 E S
   refine wnQ ?_
   refine QT ?_
   refine br (tr (?_))
   obtain rfl:=oi H
   replace S:=S.row_nil Qq 119
   exact ⟨_,_,_,fun w1 e1=>Zg (vs:=[.agg #[vI 0,.bool true,vS t569.1,.slice none ([]:List Qp).length 0]]) (FA.cons (rcA S e1 3 ty38 J J J) (FA.nil)),HM,E,S.pk [0,1,2],⟨none,0,A0_8,c0_8,A0_9,c0_9,J,hr0_9,J⟩⟩
  refine QA (cB hb574) (QX (bn (tn (wsQ (W_v _ (xb2 [(0,1),(1,1),(2,1),(3,1)] cz16 Tryz.underlying38 ty38 J) J ?_)))))
  refine Qu S 2 J ty38 J J [vI 0,.bool false,vS ([]:Str),.slice none 0 0] J J J cz16 J J (eE1 E ?_)
  intro w577 E S
  refine wnQ ?_
  refine QT ?_
  obtain rfl:=oi H
  replace S:=S.row_nil Qq 119
  exact ⟨_,_,_,fun w1 e1=>Zg (vs:=[.agg #[vI 0,.bool false,vS ([]:Str),.slice none ([]:List Qp).length 0]]) (FA.cons (rcA S e1 3 ty38 J J J) (FA.nil)),HM,E,S.pk [0,1,2],⟨none,0,A0_8,c0_8,A0_9,c0_9,J,hr0_9,J⟩⟩
 refine QA (cB hb560) ?_
 as_aux_lemma =>
 refine wsQ (wiB J J (waB J (wnQ ?_)))
 rcases Q3 H with ⟨hb579,H⟩ | ⟨hb579,H⟩
 ·refine QC (cB hb579) ?_
  refine wsQ (wmP J (wmI J (wfA Tryz.underlying43 ty9 J (wlA S 3 ty9 J (wfA Tryz.underlying43 ty9 J (wlA S 3 ty9 J ?_))))))
  obtain ⟨t580,ht581,H⟩:=QO H
  refine Y2 fn45 (Zb.con ht581 hr0_9) (Γ1:=[_,_]) (Γ2:=[_,_]) S J J ?_
  rintro _ w591 M592 Γ' hM593 E' S ⟨A582,c583,A585,c586,A588,c589,rfl,hs590,rfl⟩
  replace HM:=Hp.le_trans HM hM593
  replace E:=E.trans E'
  replace S:St w591 M592 F [_,_,_,_,_]:=S
  refine Qu S 3 J ty38 J J [vI t580.1.Err,.bool t580.1.Found,vS t580.1.Value,.slice A582 t580.1.Pairs.length c583] J J J #[vI t580.1.Err,.bool t580.1.Found,vS t580.1.Value,.slice A582 t580.1.Pairs.length c583] J J (eE1 E ?_)
  intro w594 E S
  refine wnQ ?_
  refine QT ?_
  refine br (tr (?_))
  obtain rfl:=oi H
  exact ⟨_,_,_,fun w1 e1=>Zg (vs:=[.agg #[vI t580.1.Err,.bool t580.1.Found,vS t580.1.Value,.slice A582 t580.1.Pairs.length c583]]) (FA.cons (rcA S e1 3 ty38 J J J) (FA.nil)),HM,E,S.pk [0,1,2],⟨A582,c583,A585,c586,A588,c589,J,hs590,J⟩⟩
 refine QA (cB hb579) (wsQ (wiB J J (waB J (wnQ ?_))))
 rcases Q3 H with ⟨hb595,H⟩ | ⟨hb595,H⟩
 ·refine QC (cB hb595) ?_
  refine wsQ (wmP J (wmI J (wfA Tryz.underlying43 ty9 J (wlA S 3 ty9 J ?_))))
  obtain ⟨t596,ht597,H⟩:=QO H
  refine Y2 fn45 (Zb.con ht597 hr0_9) (Γ1:=[_,_]) (Γ2:=[_,_]) S J J ?_
  rintro _ w607 M608 Γ' hM609 E' S ⟨A598,c599,A601,c602,A604,c605,rfl,hs606,rfl⟩
  replace HM:=Hp.le_trans HM hM609
  replace E:=E.trans E'
  replace S:St w607 M608 F [_,_,_,_,_]:=S
  refine Qu S 3 J ty38 J J [vI t596.1.Err,.bool t596.1.Found,vS t596.1.Value,.slice A598 t596.1.Pairs.length c599] J J J #[vI t596.1.Err,.bool t596.1.Found,vS t596.1.Value,.slice A598 t596.1.Pairs.length c599] J J (eE1 E ?_)
  intro w610 E S
  refine wnQ ?_
  refine QT ?_
  refine br (tr (?_))
  obtain rfl:=oi H
  exact ⟨_,_,_,fun w1 e1=>Zg (vs:=[.agg #[vI t596.1.Err,.bool t596.1.Found,vS t596.1.Value,.slice A598 t596.1.Pairs.length c599]]) (FA.cons (rcA S e1 3 ty38 J J J) (FA.nil)),HM,E,S.pk [0,1,2],⟨A598,c599,A601,c602,A604,c605,J,hs606,J⟩⟩
 refine QA (cB hb595) ?_
 as_aux_lemma =>
 refine wsQ (wiB J J (waB J (wnQ ?_)))
 rcases Q3 H with ⟨hb611,H⟩ | ⟨hb611,H⟩
 ·refine QC (cB hb611) ?_
  refine wsQ (waL J (wnQ (QH (wsQ (waI J (wnQ ?_))))))
  obtain ⟨o1749,o1749h,o1749H⟩:=QO H
  refine Zr (fun ρ w'=>∃ (x1745:List Qp) (A1746:Option Addr) (c1747:Nat),(x1745)=o1749∧QV ρ [(6,pt b4 0),(15,.slice A1746 x1745.length c1747)]∧Ext w w'∧St w' M F [Rw Qq 119 A1746 c1747 x1745,B69 bo0 a0 A0_8 c0_8 A0_9 c0_9,Rw QD 112 A0_8 c0_8 a0.T,Blk b4 (.cells cz16 38 (0,0))]) ?_ ?_
  ·refine Yr (fun n ρ w'=>∃ (x1370:List Qp) (x1374:Int) (A1371:Option Addr) (c1372:Nat),ZH a0 a2 t15 n x1370 x1374=some o1749∧QV ρ [(0,pt bo0 0),(5,pt b1 0),(6,pt b4 0),(8,vI t15.1),(15,.slice A1371 x1370.length c1372),(16,vI x1374)]∧Ext w w'∧St w' M F [Rw Qq 119 A1371 c1372 x1370,B69 bo0 a0 A0_8 c0_8 A0_9 c0_9,Rw QD 112 A0_8 c0_8 a0.T,Blk b4 (.cells cz16 38 (0,0)),B43 b1 a2]) k ?_ ?_
   ·replace S:=S.row_nil Qq 119
    exact ⟨([]:List Qp),(0:Int),none,0,o1749h,agP J,E,S.pk [0,1,2,3,4]⟩
   ·intro n
    rintro ρ w1751 ⟨x1370,x1374,A1371,c1372,H,hρ,E,S⟩
    rw [QB hρ]
    cases n with
    | zero=>cases H
    | succ k =>
     rw [ZH.eq_2] at H
     refine QH (wsQ (wmI J (wmP J (W_v _ (Qb J) J (wfA Tryz.underlying69 ty67 J (wlA S 1 ty67 J (W_v _ (Qm (n:=a0.L.length) Tryz.underlying67 J) J (wiB J J (wmB J ?_)))))))))
     refine ZO 6 (fun ρ w'=>QV ρ [(0,pt bo0 0),(5,pt b1 0),(6,pt b4 0),(8,vI t15.1),(15,.slice A1371 x1370.length c1372),(16,vI x1374),(134,.bool ((decide (x1374<(a0.L.length:Int)))&&(decide ((x1370.length:Int)<a2.Limit))))]∧w1751=w') ?_ ?_
     ·rcases Qy (decide (x1374<(a0.L.length:Int))) with hb1752 | hb1752
      ·refine QZ (skT hb1752) J (QZ (skT hb1752) J (QZ (skT hb1752) J (QZ (skT hb1752) J (QZ (skT hb1752) J (wqB hb1752 J (QK ?_))))))
       exact ⟨⟨J,J,J,J,J,J,(flB hb1752),trivial⟩,rfl⟩
      ·refine QN (cS hb1752) (wmL J (QN (cS hb1752) (W_v _ (Qm (n:=x1370.length) Tryz.underlying36 J) J (QN (cS hb1752) (wfA Tryz.underlying43 ty3 J (QN (cS hb1752) (wlA S 4 ty3 J (QN (cS hb1752) (wiB J J (wpB hb1752 J (QK ?_)))))))))))
       exact ⟨⟨J,J,J,J,J,J,(flB hb1752),trivial⟩,rfl⟩
     as_aux_lemma =>
     rintro ρ _ ⟨hρ,rfl⟩
     rw [QB hρ]
     refine wnQ ?_
     rcases Q3 H with ⟨hb1753,H⟩ | ⟨hb1753,H⟩
     ·refine QC (cB hb1753) ?_
      refine QX (tn (QH ?_))
      obtain ⟨o1939,o1939h,o1939H⟩:=QO H
      refine Yc (fun ρ w'=>∃ (x1935:List Qp) (A1936:Option Addr) (c1937:Nat),(x1935)=o1939∧QV ρ [(0,pt bo0 0),(5,pt b1 0),(6,pt b4 0),(8,vI t15.1),(15,.slice A1936 x1935.length c1937),(16,vI x1374)]∧Ext w w'∧St w' M F [Rw Qq 119 A1936 c1937 x1935,B69 bo0 a0 A0_8 c0_8 A0_9 c0_9,Rw QD 112 A0_8 c0_8 a0.T,Blk b4 (.cells cz16 38 (0,0)),B43 b1 a2]) ?_ ?_
      ·as_aux_lemma =>
        clear o1939H
        have H:=o1939h
        refine ZW ?_
        refine wsQ (wmP J (wmI J (wmP J (W_v _ (Qb J) J (wfA Tryz.underlying69 ty67 J (wlA S 1 ty67 J (wmI J ?_)))))))
        obtain ⟨⟨p1940,p1941⟩,H⟩:=Z8 H
        obtain ⟨b1942,o1943,cs1944,_,_,ee1949,hb1945,vs1946,hR1947,hc1948⟩:=SlW.at' hr0_9 p1940 p1941
        obtain ⟨v1953,hs1952,rfl⟩:=hR1947
        obtain ⟨A1950,c1951,rfl,_⟩:=hs1952.form
        refine W_v _ (QS Tryz.underlying67 ty110 (slA ee1949) J p1940 p1941) J (W_v (.agg #[vS ((rd a0.L x1374).Key),.slice A1950 ((rd a0.L x1374).L).length c1951,.bool ((rd a0.L x1374).Has),vI ((rd a0.L x1374).I.Writer),vI ((rd a0.L x1374).I.TS),.bool ((rd a0.L x1374).I.Tomb),vS ((rd a0.L x1374).I.Value)]) (Qi (S.frz hb1945) ty110 J (X1 hc1948 0 J) J J) J ?_)
        obtain ⟨t1954,ht1955,H⟩:=QO H
        replace S:St w1751 M F [_,_,_,_,_]:=S.pk [1,2,0,3,4]
        refine Zy fn43 (Q4.con ht1955 hr0_9 hs1952) (Γ1:=[_,_]) (Γ2:=[_,_,_]) S J J (by rintro _ _ _ ⟨rfl,rfl⟩;exact (QP Zs (QP (YX (fun _ _ _ _ h=>h)) YE))) (eE4 E ?_)
        rintro _ w1956 _ Γ' E S ⟨rfl,rfl⟩
        replace S:St w1956 M F [_,_,_,_,_]:=S
        refine wmT J (W_v _ (QR J J) J (W_v _ (QR J J) J (waS J (waB J (wnQ (QH ?_))))))
        refine rgA S [0,1,2,3,4] [_,_,_,_,_] 16 mixed J (eE1 E ?_)
        intro w1997 E S D5
        refine tz0 0 J D5 (xmB J) (tz0 1 J D5 (xmB J) ?_)
        obtain ⟨o2018,o2018h,o2018H⟩:=QO H
        refine YB (fun ρ w'=>∃ (x2017:Bool),(x2017)=o2018∧QV ρ [(0,pt bo0 0),(5,pt b1 0),(6,pt b4 0),(8,vI t15.1),(15,.slice A1371 x1370.length c1372),(16,vI x1374),(17,vS t1954.1),(165,.bool x2017)]∧Ext w w'∧St w' M F [B69 bo0 a0 A0_8 c0_8 A0_9 c0_9,Rw QD 112 A0_8 c0_8 a0.T,Rw Qq 119 A1371 c1372 x1370,Blk b4 (.cells cz16 38 (0,0)),B43 b1 a2]) 0 (Ls 16 [0,1,2,3,4,5,6,7,8,9,10,11,12,13,14,15]) ?_ ?_
        rotate_left
        ·intro hrest
         have H:=o2018h
         rcases Q3 H with ⟨hb2016,H⟩ | ⟨hb2016,H⟩
         ·refine tz2 2 J (cS hb2016) D5 (xmP J) (tz2 3 J (cS hb2016) D5 (Qb J) (tz2 4 J (cS hb2016) D5 (xfA Tryz.underlying69 ty67 J) (tz3 5 J (cS hb2016) D5 (fun w' h'=>xlA h' 0 ty67 J) (tz2 6 J (cS hb2016) D5 (xmI J) ?_))))
          obtain ⟨⟨p2019,p2020⟩,H⟩:=Z8 H
          obtain ⟨b2021,o2022,cs2023,_,_,ee2028,hb2024,vs2025,hR2026,hc2027⟩:=SlW.at' hr0_9 p2019 p2020
          obtain ⟨v2032,hs2031,rfl⟩:=hR2026
          obtain ⟨A2029,c2030,rfl,_⟩:=hs2031.form
          refine tz2 7 J (cS hb2016) D5 (QS Tryz.underlying67 ty110 (slA ee2028) J p2019 p2020) (tz2 8 J (cS hb2016) D5 (xfA Tryz.underlying110 ty9 J) (tz3 9 J (cS hb2016) D5 (fun w' h'=>Z0 (Yj h' hb2024) ty9 J (hc2027 0 _ J)) (tz2 10 J (cS hb2016) D5 (xfA Tryz.underlying43 ty9 J) (tz3 11 J (cS hb2016) D5 (fun w' h'=>xlA h' 4 ty9 J) (tz2 12 J (cS hb2016) D5 (xfA Tryz.underlying43 ty9 J) (tz3 13 J (cS hb2016) D5 (fun w' h'=>xlA h' 4 ty9 J) ?_))))))
          refine Wo 14 J ?_
          refine QN (cS hb2016) ?_
          obtain ⟨t2033,ht2034,H⟩:=QO H
          refine ZR fn46 (Yw.con ht2034) S J J flN (eE4 E ?_)
          rintro _ w2035 _ Γ' E S ⟨rfl,rfl⟩
          refine QK (Yl ⟨.inr ⟨M,Hp.le_refl M,(S.pk [0,1,2,3,4])⟩,?_⟩)
          refine tz0 15 J (⟨M,Hp.le_refl M,(S.pk [0,1,2,3,4])⟩) (xpB hb2016 J) ?_
          exact hrest _ _ ⟨t2033,oi H,agP J,E,S.pk [0,1,2,3,4]⟩
         ·refine tz4 2 J (skT hb2016) D5 (tz4 3 J (skT hb2016) D5 (tz4 4 J (skT hb2016) D5 (tz4 5 J (skT hb2016) D5 (tz4 6 J (skT hb2016) D5 (tz4 7 J (skT hb2016) D5 (tz4 8 J (skT hb2016) D5 (tz4 9 J (skT hb2016) D5 (tz4 10 J (skT hb2016) D5 (tz4 11 J (skT hb2016) D5 (tz4 12 J (skT hb2016) D5 (tz4 13 J (skT hb2016) D5 (tz4 14 J (skT hb2016) D5 (tz0 15 J D5 (xqB hb2016 J) ?_)))))))))))))
          exact hrest _ _ ⟨false,oi H,agP J,E,S.pk [0,1,2,3,4]⟩
        rintro ρ w2036 ⟨x2017,rfl,hρ,E,S⟩
        rw [QB hρ]
        have H:=o2018H
        refine Wz ?_
        refine tn ?_
        obtain ⟨o2093,o2093h,o2093H⟩:=QO H
        refine Yc (fun ρ w'=>∃ (x2089:List Qp) (A2090:Option Addr) (c2091:Nat),(x2089)=o2093∧QV ρ [(0,pt bo0 0),(5,pt b1 0),(6,pt b4 0),(8,vI t15.1),(15,.slice A2090 x2089.length c2091),(16,vI x1374)]∧Ext w w'∧St w' M F [Rw Qq 119 A2090 c2091 x2089,B69 bo0 a0 A0_8 c0_8 A0_9 c0_9,Rw QD 112 A0_8 c0_8 a0.T,Blk b4 (.cells cz16 38 (0,0)),B43 b1 a2]) ?_ ?_
        ·clear o2093H
         have H:=o2093h
         rcases Q3 H with ⟨hb2094,H⟩ | ⟨hb2094,H⟩
         ·refine QC (cB hb2094) ?_
          refine QJ (wmL J (wmP J (W_v _ (Qb J) J (wfA Tryz.underlying69 ty67 J (wlA S 0 ty67 J (wmI J ?_))))))
          obtain ⟨⟨p2095,p2096⟩,H⟩:=Z8 H
          obtain ⟨b2097,o2098,cs2099,_,_,ee2104,hb2100,vs2101,hR2102,hc2103⟩:=SlW.at' hr0_9 p2095 p2096
          obtain ⟨v2108,hs2107,rfl⟩:=hR2102
          obtain ⟨A2105,c2106,rfl,_⟩:=hs2107.form
          refine W_v _ (QS Tryz.underlying67 ty110 (slA ee2104) J p2095 p2096) J (wfA Tryz.underlying110 ty9 J (W_v _ (Z0 (S.frz hb2100) ty9 J (hc2103 0 _ J)) J (wmS J (W_v _ (xb2 [(0,1),(1,1)] #[vS ((rd a0.L x1374).Key),vS t1954.1] Tryz.underlying119 ty119 J) J ?_))))
          refine Xl S #[vS ((rd a0.L x1374).Key),vS t1954.1] Tryz.underlying36 ty119 J J #[vS ([]:Str),vS ([]:Str)] (by as_aux_lemma=>kernel_rfl) (by as_aux_lemma=>kernel_rfl) J (eE2 E ?_)
          intro b2109 w2110 E S
          replace S:=S.blk_row (r:=Qq) (l:=([(⟨((rd a0.L x1374).Key),t1954.1⟩:Qp)]:List Qp)) 0 J 1 (Nat.le_refl 1) J (Cells.cons (vs:=[vS ((rd a0.L x1374).Key),vS t1954.1]) (J) Cells.nil)
          obtain ⟨p2112,H⟩:=Z8 H
          obtain ⟨src2113,hs2114,hC2115⟩:=XJ (P:=Tryz.prog) (ρ:=Qq) (l:=([(⟨((rd a0.L x1374).Key),t1954.1⟩:Qp)]:List Qp)) (S.row_read 0 J) (by decide)
          refine X0 S 3 J J J Tryz.underlying36 (.inl Tryz.underlying36) ty119 J (by decide) (by decide) hs2114 hC2115 J (by omega) J (eE2 E ?_)
          intro v2116 w2117 E S
          obtain ⟨A2118,c2119,rfl,_⟩:=(S.row_read 3 J).form
          refine waL J (wnQ ?_)
          exact ⟨(x1370++([(⟨((rd a0.L x1374).Key),t1954.1⟩:Qp)]:List Qp)),A2118,c2119,oi H,agP J,E,S.pk [3,1,2,4,5]⟩
         refine QA (cB hb2094) (QX (tn ?_))
         exact ⟨x1370,A1371,c1372,oi H,agP J,E,S.pk [2,0,1,3,4]⟩
        rintro ρ w2120 ⟨x2089,A2090,c2091,rfl,hρ,E,S⟩
        rw [QB hρ]
        have H:=o2093H
        refine bn (tn ?_)
        exact ⟨x2089,A2090,c2091,oi H,agP J,E,S.pk [0,1,2,3,4]⟩
      rintro ρ w2121 ⟨x1935,A1936,c1937,rfl,hρ,E,S⟩
      rw [QB hρ]
      have H:=o1939H
      refine tn (QJ (wmI J (wiI J J (waI J (wnQ ?_)))))
      exact ⟨k,Nat.lt_succ_self k,⟨x1935,(IntKind.i64.wrap (x1374+(1:Int))),A1936,c1937,H,agP J,E,S.pk [0,1,2,3,4]⟩⟩
     refine QA (cB hb1753) ?_
     refine YZ ?_
     refine tx (tx (bsm (?_)))
     refine tn ?_
     exact ⟨x1370,A1371,c1372,oi H,agP J,E,S.pk [0,1,2,3]⟩
  rintro ρ w2122 ⟨x1745,A1746,c1747,rfl,hρ,E,S⟩
  rw [QB hρ]
  have H:=o1749H
  refine tn ?_
  as_aux_lemma =>
  refine wsQ (wmL J (W_v _ (xb2 [(0,1),(1,1),(2,1),(3,1)] #[vI 0,.bool false,vS ([]:Str),.slice A1746 x1745.length c1747] Tryz.underlying38 ty38 J) J ?_))
  refine Qu S 3 J ty38 J J [vI 0,.bool false,vS ([]:Str),.slice A1746 x1745.length c1747] J J J #[vI 0,.bool false,vS ([]:Str),.slice A1746 x1745.length c1747] J J (eE1 E ?_)
  intro w2123 E S
  refine wnQ ?_
  refine QT ?_
  refine br (tr (?_))
  obtain rfl:=oi H
  exact ⟨_,_,_,fun w1 e1=>Zg (vs:=[.agg #[vI 0,.bool false,vS ([]:Str),.slice A1746 x1745.length c1747]]) (FA.cons (rcA S e1 3 ty38 J J J) (FA.nil)),HM,E,S.pk [0,1,2],⟨A1746,c1747,A0_8,c0_8,A0_9,c0_9,J,hr0_9,J⟩⟩
 refine QA (cB hb611) ?_
 as_aux_lemma =>
 refine wsQ (wiB J J (waB J (wnQ ?_)))
 rcases Q3 H with ⟨hb2124,H⟩ | ⟨hb2124,H⟩
 ·refine QC (cB hb2124) ?_
  refine wsQ (wmP J (wmI J ?_))
  obtain ⟨t2125,ht2126,H⟩:=QO H
  refine Y2 fn47 (Zo.con ht2126 hr0_9) (Γ1:=[_,_]) (Γ2:=[_,_]) S J J ?_
  rintro _ w2136 M2137 Γ' hM2138 E' S ⟨A2127,c2128,A2130,c2131,A2133,c2134,rfl,hs2135,rfl⟩
  replace HM:=Hp.le_trans HM hM2138
  replace E:=E.trans E'
  replace S:St w2136 M2137 F [_,_,_,_,_]:=S
  refine Qu S 3 J ty38 J J [vI t2125.1.Err,.bool t2125.1.Found,vS t2125.1.Value,.slice A2127 t2125.1.Pairs.length c2128] J J J #[vI t2125.1.Err,.bool t2125.1.Found,vS t2125.1.Value,.slice A2127 t2125.1.Pairs.length c2128] J J (eE1 E ?_)
  intro w2139 E S
  refine wnQ ?_
  refine QT ?_
  refine br (tr (?_))
  obtain rfl:=oi H
  exact ⟨_,_,_,fun w1 e1=>Zg (vs:=[.agg #[vI t2125.1.Err,.bool t2125.1.Found,vS t2125.1.Value,.slice A2127 t2125.1.Pairs.length c2128]]) (FA.cons (rcA S e1 3 ty38 J J J) (FA.nil)),HM,E,S.pk [0,1,2],⟨A2127,c2128,A2130,c2131,A2133,c2134,J,hs2135,J⟩⟩
 refine QA (cB hb2124) (wsQ (wiB J J (waB J (wnQ ?_))))
 obtain ⟨o2267,o2267h,o2267H⟩:=QO H
 refine Yc (fun ρ w'=>∃ (x2260:QE) (A2261:Option Addr) (c2262:Nat) (A2264:Option Addr) (c2265:Nat) (Mj:Hp),(x2260)=o2267∧QV ρ [(6,pt b4 0)]∧M.le Mj∧Ext w w'∧St w' Mj F [Rw QD 112 A2261 c2262 x2260.T,B69 bo0 x2260 A2261 c2262 A2264 c2265,Blk b4 (.cells cz16 38 (0,0))]∧SlR Qa Mj (.slice A2264 x2260.L.length c2265) x2260.L) ?_ ?_
 ·as_aux_lemma =>
   clear o2267H
   have H:=o2267h
   have LE2268:=Hp.le_refl M
   rcases Q3 H with ⟨hb2269,H⟩ | ⟨hb2269,H⟩
   ·refine QC (cB hb2269) ?_
    refine QJ (wmP J (wmI J ?_))
    obtain ⟨t2270,ht2271,H⟩:=QO H
    refine Y2 fn48 (Qw.con ht2271 hr0_9) (Γ1:=[_,_]) (Γ2:=[_,_]) S J J ?_
    rintro _ w2278 M2279 Γ' hM2280 E' S ⟨A2272,c2273,A2275,c2276,rfl,hs2277,rfl⟩
    replace HM:=Hp.le_trans HM hM2280
    replace LE2268:=Hp.le_trans LE2268 hM2280
    replace E:=E.trans E'
    replace S:St w2278 M2279 F [_,_,_,_]:=S
    refine wnQ ?_
    exact ⟨t2270,A2272,c2273,A2275,c2276,M2279,oi H,agP J,LE2268,E,S.pk [1,0,2],hs2277⟩
   refine QA (cB hb2269) (wsQ (wiB J J (waB J (wnQ ?_))))
   obtain ⟨o2312,o2312h,o2312H⟩:=QO H
   refine Yc (fun ρ w'=>∃ (x2305:QE) (A2306:Option Addr) (c2307:Nat) (A2309:Option Addr) (c2310:Nat) (Mj:Hp),(x2305)=o2312∧QV ρ [(6,pt b4 0)]∧M.le Mj∧Ext w w'∧St w' Mj F [Rw QD 112 A2306 c2307 x2305.T,B69 bo0 x2305 A2306 c2307 A2309 c2310,Blk b4 (.cells cz16 38 (0,0))]∧SlR Qa Mj (.slice A2309 x2305.L.length c2310) x2305.L) ?_ ?_
   ·clear o2312H
    have H:=o2312h
    rcases Q3 H with ⟨hb2313,H⟩ | ⟨hb2313,H⟩
    ·refine QC (cB hb2313) ?_
     refine QJ (wmP J ?_)
     obtain ⟨t2314,ht2315,H⟩:=QO H
     refine Y2 fn49 (Ze.con ht2315 hr0_9) (Γ1:=[_,_]) (Γ2:=[_,_]) S J J ?_
     rintro _ w2322 M2323 Γ' hM2324 E' S ⟨A2316,c2317,A2319,c2320,rfl,hs2321,rfl⟩
     replace HM:=Hp.le_trans HM hM2324
     replace LE2268:=Hp.le_trans LE2268 hM2324
     replace E:=E.trans E'
     replace S:St w2322 M2323 F [_,_,_,_]:=S
     refine wnQ ?_
     exact ⟨t2314,A2316,c2317,A2319,c2320,M2323,oi H,agP J,LE2268,E,S.pk [1,0,2],hs2321⟩
    refine QA (cB hb2313) (QX (tn ?_))
    exact ⟨a0,A0_8,c0_8,A0_9,c0_9,M,oi H,agP J,(Hp.le_refl M),E,S.pk [1,0,2],hr0_9⟩
   rintro ρ w2325 ⟨x2305,A2306,c2307,A2309,c2310,M2326,rfl,hρ,hM2327,E,S,hs2311⟩
   rw [QB hρ]
   replace HM:=Hp.le_trans HM hM2327
   have H:=o2312H
   refine tn ?_
   exact ⟨x2305,A2306,c2307,A2309,c2310,M2326,oi H,agP J,hM2327,E,S.pk [0,1,2],hs2311⟩
 rintro ρ w2328 ⟨x2260,A2261,c2262,A2264,c2265,M2329,rfl,hρ,hM2330,E,S,hs2266⟩
 rw [QB hρ]
 replace HM:=Hp.le_trans HM hM2330
 have H:=o2267H
 refine bn (tn ?_)
 as_aux_lemma =>
 refine wsQ (W_v _ (xb2 [(0,1),(1,1),(2,1),(3,1)] cz16 Tryz.underlying38 ty38 J) J ?_)
 refine Qu S 2 J ty38 J J [vI 0,.bool false,vS ([]:Str),.slice none 0 0] J J J cz16 J J (eE1 E ?_)
 intro w2331 E S
 refine wnQ ?_
 refine QT ?_
 obtain rfl:=oi H
 replace S:=S.row_nil Qq 119
 exact ⟨_,_,_,fun w1 e1=>Zg (vs:=[.agg #[vI 0,.bool false,vS ([]:Str),.slice none ([]:List Qp).length 0]]) (FA.cons (rcA S e1 3 ty38 J J J) (FA.nil)),HM,E,S.pk [0,2,1],⟨none,0,A2261,c2262,A2264,c2265,J,hs2266,J⟩⟩
def XH (a2:(List QL)) (x3354:Int):Nat→List QQ→Int→Option ((List QQ))
 | 0,_,_=>none
 | k+1,x6018,x6022=>(if ((decide (x6022<(x6018.length:Int)))&&((rd a2 x3354).What==(3:Int)))=true then (Option.bind (α:=List QQ) (if 0≤x6022∧x6022<(x6018.length:Int) then (Option.bind (α:=Bool) (if ((rd x6018 x6022).Task==(rd a2 x3354).Task)=true then (if 0≤x6022∧x6022<(x6018.length:Int) then some (((rd x6018 x6022).Call==(rd a2 x3354).Call)) else none) else some (false)) (fun x6601=>(Option.bind (α:=List QQ) (if x6601=true then (if 0≤x6022∧x6022<(x6018.length:Int) then (Option.bind (α:=List QQ) (some (List.set x6018 x6022.toNat (⟨(rd x6018 x6022).Task,(rd x6018 x6022).Call,⟨(rd x6018 x6022).Answer.Err,(rd x6018 x6022).Answer.Found,(rd x6018 x6022).Answer.Value,(rd x6018 x6022).Answer.Pairs⟩,(rd x6018 x6022).Mark,x3354⟩:QQ))) (fun x6679=>some (x6679))) else none) else some (x6018)) (fun x6658=>some (x6658))))) else none) (fun x6519=>XH a2 x3354 k x6519 (IntKind.i64.wrap (x6022+(1:Int))))) else some (x6018))
theorem XH.mono {a2 x3354}: ∀ {kl:Nat} {x0 x1},OLe (XH a2 x3354 kl x0 x1) (XH a2 x3354 (kl+1) x0 x1):=by
 intro kl
 induction kl with
 | zero=>intros;exact OLe.none
 | succ kl ih =>
  intros
  rw [XH.eq_2,XH.eq_2]
  exact mo
def XI (a1:(List (List QY))) (a2:(List QL)):Nat→List QQ→Int→Option ((List QQ))
 | 0,_,_=>none
 | k+1,x3350,x3354=>(if (decide (x3354<(a2.length:Int)))=true then (if 0≤x3354∧x3354<(a2.length:Int) then (Option.bind (α:=List QQ) (if ((rd a2 x3354).What==(2:Int))=true then (if 0≤(rd a2 x3354).Task∧(rd a2 x3354).Task<(a1.length:Int) then (if 0≤(rd a2 x3354).Call∧(rd a2 x3354).Call<((rd a1 ((rd a2 x3354).Task)).length:Int) then (Option.bind (Y3 k ((rd a2 x3354).Task) (rd (rd a1 ((rd a2 x3354).Task)) ((rd a2 x3354).Call))) (fun t5325=>(Option.bind (α:=List QQ) (some ([(⟨((rd a2 x3354).Task),((rd a2 x3354).Call),⟨t5325.Err,t5325.Found,t5325.Value,t5325.Pairs⟩,x3354,(-1:Int)⟩:QQ)]:List QQ)) (fun x5339=>(if x3350.length+x5339.length≤1599289640401 then some ((x3350++x5339)) else none))))) else none) else none) else some (x3350)) (fun x5244=>(Option.bind (XH a2 x3354 k x5244 (0:Int)) (fun x6351=>XI a1 a2 k x6351 (IntKind.i64.wrap (x3354+(1:Int))))))) else none) else some (x3350))
theorem XI.mono {a1 a2}: ∀ {kl:Nat} {x0 x1},OLe (XI a1 a2 kl x0 x1) (XI a1 a2 (kl+1) x0 x1):=by
 intro kl
 induction kl with
 | zero=>intros;exact OLe.none
 | succ kl ih =>
  intros
  rw [XI.eq_2,XI.eq_2]
  have m1:=@Y3.mono
  have m2:=@XH.mono
  exact mo
def Zc (a2:(List QL)) (x13588:Int):Nat→List QQ→Int→Option ((List QQ))
 | 0,_,_=>none
 | k+1,x16352,x16356=>(if ((decide (x16356<(x16352.length:Int)))&&((rd a2 x13588).What==(3:Int)))=true then (Option.bind (α:=List QQ) (if 0≤x16356∧x16356<(x16352.length:Int) then (Option.bind (α:=Bool) (if ((rd x16352 x16356).Task==(rd a2 x13588).Task)=true then (if 0≤x16356∧x16356<(x16352.length:Int) then some (((rd x16352 x16356).Call==(rd a2 x13588).Call)) else none) else some (false)) (fun x16935=>(Option.bind (α:=List QQ) (if x16935=true then (if 0≤x16356∧x16356<(x16352.length:Int) then (Option.bind (α:=List QQ) (some (List.set x16352 x16356.toNat (⟨(rd x16352 x16356).Task,(rd x16352 x16356).Call,⟨(rd x16352 x16356).Answer.Err,(rd x16352 x16356).Answer.Found,(rd x16352 x16356).Answer.Value,(rd x16352 x16356).Answer.Pairs⟩,(rd x16352 x16356).Mark,x13588⟩:QQ))) (fun x17013=>some (x17013))) else none) else some (x16352)) (fun x16992=>some (x16992))))) else none) (fun x16853=>Zc a2 x13588 k x16853 (IntKind.i64.wrap (x16356+(1:Int))))) else some (x16352))
theorem Zc.mono {a2 x13588}: ∀ {kl:Nat} {x0 x1},OLe (Zc a2 x13588 kl x0 x1) (Zc a2 x13588 (kl+1) x0 x1):=by
 intro kl
 induction kl with
 | zero=>intros;exact OLe.none
 | succ kl ih =>
  intros
  rw [Zc.eq_2,Zc.eq_2]
  exact mo
def Zq (a1:(List (List QY))) (a2:(List QL)):Nat→List QQ→Int→QE→Option ((List QQ×QE))
 | 0,_,_,_=>none
 | k+1,x13584,x13588,x13589=>(if (decide (x13588<(a2.length:Int)))=true then (if 0≤x13588∧x13588<(a2.length:Int) then (Option.bind (α:=List QQ×QE) (if ((rd a2 x13588).What==(2:Int))=true then (if 0≤(rd a2 x13588).Task∧(rd a2 x13588).Task<(a1.length:Int) then (if 0≤(rd a2 x13588).Call∧(rd a2 x13588).Call<((rd a1 ((rd a2 x13588).Task)).length:Int) then (Option.bind (Q5 k x13589 ((rd a2 x13588).Task) (rd (rd a1 ((rd a2 x13588).Task)) ((rd a2 x13588).Call))) (fun t15653=>(Option.bind (α:=List QQ) (some ([(⟨((rd a2 x13588).Task),((rd a2 x13588).Call),⟨t15653.1.Err,t15653.1.Found,t15653.1.Value,t15653.1.Pairs⟩,x13588,(-1:Int)⟩:QQ)]:List QQ)) (fun x15673=>(if x13584.length+x15673.length≤1599289640401 then some ((x13584++x15673),t15653.2) else none))))) else none) else none) else some (x13584,x13589)) (fun ⟨x15559,x15563⟩=>(Option.bind (Zc a2 x13588 k x15559 (0:Int)) (fun x16685=>Zq a1 a2 k x16685 (IntKind.i64.wrap (x13588+(1:Int))) x15563)))) else none) else some (x13584,x13589))
theorem Zq.mono {a1 a2}: ∀ {kl:Nat} {x0 x1 x2},OLe (Zq a1 a2 kl x0 x1 x2) (Zq a1 a2 (kl+1) x0 x1 x2):=by
 intro kl
 induction kl with
 | zero=>intros;exact OLe.none
 | succ kl ih =>
  intros
  rw [Zq.eq_2,Zq.eq_2]
  have m1:=@Q5.mono
  have m2:=@Zc.mono
  exact mo
def YG (k:Nat) (a0:QI) (a1:(List (List QY))) (a2:(List QL)):Option (((List QQ))⊕((List QQ)×QE)) :=
 (Option.bind (Zk k a0) (fun t4=>(Sum.elim (fun t6=>(Option.bind (XI a1 a2 k ([]:List QQ) (0:Int)) (fun x5016=>some (Sum.inl x5016)))) (fun t7=>(Option.bind (Zq a1 a2 k ([]:List QQ) (0:Int) t7) (fun ⟨x15300,x15304⟩=>some (Sum.inr (x15300,x15304)))))) t4))
theorem YG.mono {k a0 a1 a2}: OLe (YG k a0 a1 a2) (YG (k+1) a0 a1 a2):=by
 unfold YG
 have m1:=@Zk.mono
 have m2:=@XI.mono
 have m3:=@Zq.mono
 exact mo
theorem YG.con {k M} {a0:QI} {A1 c1} {a1:(List (List QY))} {A2 c2} {a2:(List QL)} {r:((List QQ))⊕((List QQ)×QE)} (h:YG k a0 a1 a2=some r) (hr1:SlR (rSl Yk) M (.slice A1 a1.length c1) a1) (hr2:SlR Qs M (.slice A2 a2.length c2) a2): Con Tryz.prog 28 #[.agg (QF a0),.slice A1 a1.length c1,.slice A2 a2.length c2] M [] (fun v M' Γ'=>(Sum.elim (fun x=>∃ (Aq1:Option Addr) (cq2:Nat),v=.tuple #[.slice Aq1 x.length cq2,.pointer none]∧Γ'=[Rw ZA 74 Aq1 cq2 x]) (fun x=>∃ (Aq1:Option Addr) (cq2:Nat) (bq4:Nat) (Aq6:Option Addr) (cq7:Nat) (Aq9:Option Addr) (cq10:Nat),v=.tuple #[.slice Aq1 x.1.length cq2,pt bq4 0]∧SlR Qa M' (.slice Aq9 x.2.L.length cq10) x.2.L∧Γ'=[Rw ZA 74 Aq1 cq2 x.1,B69 bq4 x.2 Aq6 cq7 Aq9 cq10,Rw QD 112 Aq6 cq7 x.2.T])) r):=by
 refine cwA Tryz.func28 J Tryz.ntmps28 Tryz.results28 J h ?_
 intro w F rn S hrn E HM H
 unfold YG at H
 refine wsQ ?_
 refine Yz S (QF a0) J J J (eE2 E ?_)
 intro b1 w2 E S
 refine waL J (W_v (.pointer none) (Zm J) J (wnQ (wsQ (W_v (.agg (QF a0)) (Qi (S.blk 0 J) ty23 J (QG J) J J) J ?_))))
 obtain ⟨t4,ht5,H⟩:=QO H
 rcases t4 with t6 | t7
 ·replace H:=elimL H
  refine Zy fn29 (Zk.con ht5) (Γ1:=[]) (Γ2:=[_]) S J J flN (eE4 E ?_)
  rintro _ w8 _ Γ' E S ⟨rfl,rfl⟩
  replace S:St w8 M F [_]:=S
  refine wmT J (W_v _ (QR J J) J (W_v _ (QR J J) J (W_v (.pointer none) (Zm J) J (waI J (wnQ (wsQ (waL J (wnQ (QH (wsQ (waI J ?_)))))))))))
  refine wnQ ?_
  obtain ⟨o5020,o5020h,o5020H⟩:=QO H
  refine Zr (fun ρ w'=>∃ (x5016:List QQ) (A5017:Option Addr) (c5018:Nat) (Mj:Hp),(x5016)=o5020∧QV ρ [(8,.pointer none),(10,.slice A5017 x5016.length c5018)]∧M.le Mj∧Ext w w'∧St w' Mj F [Rw ZA 74 A5017 c5018 x5016]) ?_ ?_
  ·refine Yr (fun n ρ w'=>∃ (x3350:List QQ) (x3354:Int) (A3351:Option Addr) (c3352:Nat) (Mj:Hp),XI a1 a2 n x3350 x3354=some o5020∧QV ρ [(1,.slice A1 a1.length c1),(2,.slice A2 a2.length c2),(8,.pointer none),(10,.slice A3351 x3350.length c3352),(11,vI x3354)]∧M.le Mj∧Ext w w'∧St w' Mj F [Rw ZA 74 A3351 c3352 x3350]) k ?_ ?_
   ·replace S:=S.row_nil ZA 74
    exact ⟨([]:List QQ),(0:Int),none,0,M,o5020h,agP J,(Hp.le_refl M),E,S.pk [0]⟩
   ·intro n
    rintro ρ w5022 ⟨x3350,x3354,A3351,c3352,M5023,H,hρ,hM5024,E,S⟩
    rw [QB hρ]
    replace HM:=Hp.le_trans HM hM5024
    replace hr1:=SlR.mono hr1 hM5024
    replace hr2:=SlR.mono hr2 hM5024
    cases n with
    | zero=>cases H
    | succ k =>
     rw [XI.eq_2] at H
     refine QH (wsQ (wmI J (wmL J (W_v _ (Qm (n:=a2.length) Tryz.underlying25 J) J (wiB J J (wnQ ?_))))))
     rcases Q3 H with ⟨hb5025,H⟩ | ⟨hb5025,H⟩
     ·refine QC (cB hb5025) ?_
      refine QX (tn (QH ?_))
      refine ZW ?_
      refine wsQ (wmL J (wmI J ?_))
      obtain ⟨⟨p5026,p5027⟩,H⟩:=Z8 H
      obtain ⟨b5028,o5029,cs5030,_,_,ee5035,hb5031,vs5032,hR5033,hc5034⟩:=SlW.at' hr2 p5026 p5027
      obtain ⟨v5039,hs5038,rfl⟩:=hR5033
      obtain ⟨A5036,c5037,rfl,_⟩:=hs5038.form
      refine W_v _ (QS Tryz.underlying25 ty40 (slA ee5035) J p5026 p5027) J (W_v (.agg #[vU ((rd a2 x3354).What),vI ((rd a2 x3354).Task),vI ((rd a2 x3354).Call),vI ((rd a2 x3354).Answer.Err),.bool ((rd a2 x3354).Answer.Found),vS ((rd a2 x3354).Answer.Value),.slice A5036 ((rd a2 x3354).Answer.Pairs).length c5037]) (Qi (S.frz hb5031) ty40 J (X1 hc5034 0 J) J J) J ?_)
      refine YN S cz6 ty40 J J (eE2 E ?_)
      intro b5040 w5041 E S
      refine Qu S 0 J ty40 J J [vU ((rd a2 x3354).What),vI ((rd a2 x3354).Task),vI ((rd a2 x3354).Call),vI ((rd a2 x3354).Answer.Err),.bool ((rd a2 x3354).Answer.Found),vS ((rd a2 x3354).Answer.Value),.slice A5036 ((rd a2 x3354).Answer.Pairs).length c5037] J J J #[vU ((rd a2 x3354).What),vI ((rd a2 x3354).Task),vI ((rd a2 x3354).Call),vI ((rd a2 x3354).Answer.Err),.bool ((rd a2 x3354).Answer.Found),vS ((rd a2 x3354).Answer.Value),.slice A5036 ((rd a2 x3354).Answer.Pairs).length c5037] (by as_aux_lemma=>kernel_rfl) J (eE1 E ?_)
      intro w5043 E S
      refine wnQ (QH (wsQ (wfA Tryz.underlying40 ty5 J (wlA S 0 ty5 J (wiB J J (wnQ ?_))))))
      obtain ⟨o5248,o5248h,o5248H⟩:=QO H
      refine Yc (fun ρ w'=>∃ (x5244:List QQ) (A5245:Option Addr) (c5246:Nat) (Mj:Hp),(x5244)=o5248∧QV ρ [(1,.slice A1 a1.length c1),(2,.slice A2 a2.length c2),(8,.pointer none),(10,.slice A5245 x5244.length c5246),(11,vI x3354),(12,pt b5040 0)]∧M5023.le Mj∧Ext w w'∧St w' Mj F [Rw ZA 74 A5245 c5246 x5244,B40 b5040 (rd a2 x3354) A5036 c5037]) ?_ ?_
      ·as_aux_lemma =>
        clear o5248H
        have H:=o5248h
        have LE5249:=Hp.le_refl M5023
        rcases Q3 H with ⟨hb5250,H⟩ | ⟨hb5250,H⟩
        ·refine QC (cB hb5250) ?_
         refine VX (S:=fun w'=>∃ Mx,M5023.le Mx∧St w' Mx F [B40 b5040 (rd a2 x3354) A5036 c5037]) (L:=23) mixed ?_
         intro w5299 hw5300 E'
         replace S:=S.heap hw5300
         replace E:=E.trans E'
         have hr1z:=hr1
         have D1:∃ Mx,Hp.le M5023 Mx∧St _ Mx F [_]:=⟨_,Hp.le_refl _,S.pk [0]⟩
         refine tz0 0 J D1 (xmL J) (tz0 1 J D1 (xfA Tryz.underlying40 ty3 J) (tz1 2 J D1 (fun w' h'=>xlA h' 0 ty3 J) (tz0 3 J D1 (xfA Tryz.underlying40 ty3 J) (tz1 4 J D1 (fun w' h'=>xlA h' 0 ty3 J) (Wt 5 J J J (.pointer none) J (fun w' h'=>YW J) D1 (tz0 6 J D1 (xfA Tryz.underlying40 ty3 J) (tz1 7 J D1 (fun w' h'=>xlA h' 0 ty3 J) (tz0 8 J D1 (xmL J) (tz0 9 J D1 (xfA Tryz.underlying40 ty3 J) (tz1 10 J D1 (fun w' h'=>xlA h' 0 ty3 J) ?_))))))))))
         obtain ⟨⟨p5301,p5302⟩,H⟩:=Z8 H
         obtain ⟨b5303,o5304,cs5305,_,_,ee5310,hb5306,vs5307,hR5308,hc5309⟩:=SlW.at' hr1z p5301 p5302
         obtain ⟨v5314,hs5313,rfl⟩:=hR5308
         obtain ⟨A5311,c5312,rfl,_⟩:=hs5313.form
         have hs5313z:=hs5313
         refine tz0 11 J D1 (QS Tryz.underlying24 ty41 (slA ee5310) J p5301 p5302) (tz1 12 J D1 (fun w' h'=>Z0 (Yj h' hb5306) ty41 J (hc5309 0 _ J)) (tz0 13 J D1 (xfA Tryz.underlying40 ty3 J) (tz1 14 J D1 (fun w' h'=>xlA h' 0 ty3 J) ?_)))
         obtain ⟨⟨p5315,p5316⟩,H⟩:=Z8 H
         obtain ⟨b5317,o5318,cs5319,_,_,ee5324,hb5320,vs5321,hR5322,hc5323⟩:=SlW.at' hs5313z p5315 p5316
         obtain rfl:vs5321=_:=hR5322
         refine tz0 15 J D1 (QS Tryz.underlying41 ty43 (slA ee5324) J p5315 p5316) (Wt 16 J J J (.agg (Qo (rd (rd a1 ((rd a2 x3354).Task)) ((rd a2 x3354).Call)))) J (fun w' h'=>Qi (Yj h' hb5320) ty43 J (X1 hc5323 0 J) J J) D1 (tz0 18 J D1 (xmI J) ?_))
         refine Wo 17 J ?_
         obtain ⟨t5325,ht5326,H⟩:=QO H
         refine Zy fn30 (Y3.con ht5326) (Γ1:=[]) (Γ2:=[_,_]) S J J (by rintro _ _ _ ⟨_,_,rfl,rfl⟩;exact (QP (YX (fun _ _ _ _ h=>h)) YE)) (eE4 E ?_)
         rintro _ w5330 _ Γ' E S ⟨A5327,c5328,rfl,rfl⟩
         replace S:St w5330 M5023 F [_,_,_]:=S
         refine QK (Yl ⟨.inr ⟨M5023,Hp.le_refl M5023,(S.pk [1])⟩,?_⟩)
         refine tz0 19 J (⟨M5023,Hp.le_refl M5023,(S.pk [1])⟩) (xb2 [(0,1),(1,1),(2,4),(6,1),(7,1)] #[vI ((rd a2 x3354).Task),vI ((rd a2 x3354).Call),vI t5325.Err,.bool t5325.Found,vS t5325.Value,.slice A5327 t5325.Pairs.length c5328,vI x3354,vI (-1)] Tryz.underlying74 ty74 J) ?_
         refine Wo 20 J ?_
         obtain ⟨M5333,hM5334,hf5335,S⟩:=S.row_freeze 0 J
         replace HM:=Hp.le_trans HM hM5334
         replace LE5249:=Hp.le_trans LE5249 hM5334
         refine Xl S #[vI ((rd a2 x3354).Task),vI ((rd a2 x3354).Call),vI t5325.Err,.bool t5325.Found,vS t5325.Value,.slice A5327 t5325.Pairs.length c5328,vI x3354,vI (-1)] Tryz.underlying70 ty74 J J cz4 (by as_aux_lemma=>kernel_rfl) (by as_aux_lemma=>kernel_rfl) J (eE2 E ?_)
         intro b5336 w5337 E S
         replace S:=S.blk_row (r:=ZA) (l:=([(⟨((rd a2 x3354).Task),((rd a2 x3354).Call),⟨t5325.Err,t5325.Found,t5325.Value,t5325.Pairs⟩,x3354,(-1:Int)⟩:QQ)]:List QQ)) 0 J 1 (Nat.le_refl 1) J (Cells.cons (vs:=[vI ((rd a2 x3354).Task),vI ((rd a2 x3354).Call),vI t5325.Err,.bool t5325.Found,vS t5325.Value,.slice A5327 t5325.Pairs.length c5328,vI x3354,vI (-1)]) (⟨_,hf5335,J⟩) Cells.nil)
         obtain ⟨x5339,he5340,H⟩:=QO H
         replace he5340:=oi he5340
         try unfold B40 at S
         rw [he5340] at S
         refine Eq.mpr (congrArg (fun z=>Wl _ _ _ _ _ _ (upd _ _ z) _) (show Value.slice (some ⟨b5336,0,none⟩) 1 1=Value.slice (some ⟨b5336,0,none⟩) x5339.length 1 from (by rw [← he5340];rfl))) ?_
         refine QK (Yl ⟨.inr ⟨M5333,LE5249,(S.pk [1])⟩,?_⟩)
         refine Wo 21 J ?_
         obtain ⟨p5341,H⟩:=Z8 H
         obtain ⟨src5342,hs5343,hC5344⟩:=XJ (P:=Tryz.prog) (ρ:=ZA) (l:=x5339) (S.row_read 0 J) (by decide)
         refine X0 S 2 J J J Tryz.underlying70 (.inl Tryz.underlying70) ty74 J (by decide) (by decide) hs5343 hC5344 J (by omega) J (eE2 E ?_)
         intro v5345 w5346 E S
         obtain ⟨A5347,c5348,rfl,_⟩:=(S.row_read 2 J).form
         refine QK (Yl ⟨.inr ⟨M5333,LE5249,(S.pk [1])⟩,?_⟩)
         refine tz0 22 J (⟨M5333,LE5249,(S.pk [1])⟩) (xaL J) ?_
         refine Wz ?_
         refine tn ?_
         exact ⟨(x3350++x5339),A5347,c5348,M5333,oi H,agP J,LE5249,E,S.pk [2,1]⟩
        refine QA (cB hb5250) (QX (tn ?_))
        exact ⟨x3350,A3351,c3352,M5023,oi H,agP J,(Hp.le_refl M5023),E,S.pk [1,0]⟩
      as_aux_lemma =>
      rintro ρ w5349 ⟨x5244,A5245,c5246,M5350,rfl,hρ,hM5351,E,S⟩
      rw [QB hρ]
      replace HM:=Hp.le_trans HM hM5351
      replace hM5024:=Hp.le_trans hM5024 hM5351
      have H:=o5248H
      refine tn (wsQ (waI J (wnQ ?_)))
      obtain ⟨o6355,o6355h,o6355H⟩:=QO H
      refine Zr (fun ρ w'=>∃ (x6351:List QQ) (A6352:Option Addr) (c6353:Nat),(x6351)=o6355∧QV ρ [(1,.slice A1 a1.length c1),(2,.slice A2 a2.length c2),(8,.pointer none),(10,.slice A6352 x6351.length c6353),(11,vI x3354)]∧Ext w w'∧St w' M5350 F [Rw ZA 74 A6352 c6353 x6351]) ?_ ?_
      ·refine Yr (fun n ρ w'=>∃ (x6018:List QQ) (x6022:Int) (A6019:Option Addr) (c6020:Nat),XH a2 x3354 n x6018 x6022=some o6355∧QV ρ [(1,.slice A1 a1.length c1),(2,.slice A2 a2.length c2),(8,.pointer none),(10,.slice A6019 x6018.length c6020),(11,vI x3354),(12,pt b5040 0),(13,vI x6022)]∧Ext w w'∧St w' M5350 F [Rw ZA 74 A6019 c6020 x6018,B40 b5040 (rd a2 x3354) A5036 c5037]) k ?_ ?_
       ·exact ⟨x5244,(0:Int),A5245,c5246,o6355h,agP J,E,S.pk [0,1]⟩
       ·intro n
        rintro ρ w6356 ⟨x6018,x6022,A6019,c6020,H,hρ,E,S⟩
        rw [QB hρ]
        cases n with
        | zero=>cases H
        | succ k =>
         rw [XH.eq_2] at H
         refine QH (wsQ (wmI J (wmL J (W_v _ (Qm (n:=x6018.length) Tryz.underlying70 J) J (wiB J J (wmB J ?_))))))
         refine ZO 4 (fun ρ w'=>QV ρ [(1,.slice A1 a1.length c1),(2,.slice A2 a2.length c2),(8,.pointer none),(10,.slice A6019 x6018.length c6020),(11,vI x3354),(12,pt b5040 0),(13,vI x6022),(62,.bool ((decide (x6022<(x6018.length:Int)))&&((rd a2 x3354).What==(3:Int))))]∧w6356=w') ?_ ?_
         ·rcases Qy (decide (x6022<(x6018.length:Int))) with hb6357 | hb6357
          ·refine QZ (skT hb6357) J (QZ (skT hb6357) J (QZ (skT hb6357) J (wqB hb6357 J (QK ?_))))
           exact ⟨⟨J,J,J,J,J,J,J,(flB hb6357),trivial⟩,rfl⟩
          ·refine QN (cS hb6357) (wfA Tryz.underlying40 ty5 J (QN (cS hb6357) (wlA S 1 ty5 J (QN (cS hb6357) (wiB J J (wpB hb6357 J (QK ?_)))))))
           exact ⟨⟨J,J,J,J,J,J,J,(flB hb6357),trivial⟩,rfl⟩
         as_aux_lemma =>
         rintro ρ _ ⟨hρ,rfl⟩
         rw [QB hρ]
         refine wnQ ?_
         rcases Q3 H with ⟨hb6358,H⟩ | ⟨hb6358,H⟩
         ·refine QC (cB hb6358) ?_
          refine QX (tn (QH ?_))
          obtain ⟨o6523,o6523h,o6523H⟩:=QO H
          refine Yc (fun ρ w'=>∃ (x6519:List QQ) (A6520:Option Addr) (c6521:Nat),(x6519)=o6523∧QV ρ [(1,.slice A1 a1.length c1),(2,.slice A2 a2.length c2),(8,.pointer none),(10,.slice A6520 x6519.length c6521),(11,vI x3354),(12,pt b5040 0),(13,vI x6022)]∧Ext w w'∧St w' M5350 F [Rw ZA 74 A6520 c6521 x6519,B40 b5040 (rd a2 x3354) A5036 c5037]) ?_ ?_
          ·as_aux_lemma =>
            clear o6523H
            have H:=o6523h
            refine ZW ?_
            refine QH ?_
            refine rgA S [0,1] [_,_] 18 mixed J (eE1 E ?_)
            intro w6570 E S D3
            refine tz0 0 J D3 (xmL J) (tz0 1 J D3 (xmI J) ?_)
            obtain ⟨⟨p6572,p6573⟩,H⟩:=Z8 H
            obtain ⟨b6574,o6575,cs6576,_,_,ee6581,hb6577,vs6578,hR6579,hc6580⟩:=SlW.at' (S.row_read 0 J) p6572 p6573
            obtain ⟨v6585,hs6584,rfl⟩:=hR6579
            obtain ⟨A6582,c6583,rfl,_⟩:=hs6584.form
            refine tz0 2 J D3 (QS Tryz.underlying70 ty74 (slA ee6581) J p6572 p6573) (tz0 3 J D3 (xfA Tryz.underlying74 ty3 J) (Wt 4 J J J (vI ((rd x6018 x6022).Task)) J (fun w' h'=>by obtain ⟨_,_,S'⟩:=h';obtain ⟨_,_,_,_,_,e',b',_,r',c'⟩:=SlW.at' (S'.row_read 0 J) p6572 p6573;obtain ⟨rfl,rfl⟩:=Uk (e'.symm.trans ee6581);obtain ⟨_,_,rfl⟩:=r';exact Z0 (Hp.of_get b') ty3 J (c' 0 _ J)) D3 (tz0 5 J D3 (xfA Tryz.underlying40 ty3 J) (tz1 6 J D3 (fun w' h'=>xlA h' 1 ty3 J) (tz0 7 J D3 (xiB J J) (tz0 8 J D3 (xmB J) ?_))))))
            obtain ⟨o6602,o6602h,o6602H⟩:=QO H
            refine YB (fun ρ w'=>∃ (x6601:Bool),(x6601)=o6602∧QV ρ [(1,.slice A1 a1.length c1),(2,.slice A2 a2.length c2),(8,.pointer none),(10,.slice A6019 x6018.length c6020),(11,vI x3354),(12,pt b5040 0),(13,vI x6022),(82,.bool x6601)]∧Ext w w'∧St w' M5350 F [Rw ZA 74 A6019 c6020 x6018,B40 b5040 (rd a2 x3354) A5036 c5037]) 0 (Ls 18 [0,1,2,3,4,5,6,7,8,9,10,11,12,13,14,15,16,17]) ?_ ?_
            rotate_left
            ·intro hrest
             have H:=o6602h
             rcases Q3 H with ⟨hb6600,H⟩ | ⟨hb6600,H⟩
             ·have D4:∃ Mx,Hp.le M5350 Mx∧St _ Mx F [_,_]:=⟨_,Hp.le_refl _,S.pk [0,1]⟩
              refine tz2 9 J (cS hb6600) D4 (xmL J) (tz2 10 J (cS hb6600) D4 (xmI J) ?_)
              obtain ⟨⟨p6603,p6604⟩,H⟩:=Z8 H
              obtain ⟨b6605,o6606,cs6607,_,_,ee6612,hb6608,vs6609,hR6610,hc6611⟩:=SlW.at' (S.row_read 0 J) p6603 p6604
              obtain ⟨v6616,hs6615,rfl⟩:=hR6610
              obtain ⟨A6613,c6614,rfl,_⟩:=hs6615.form
              refine tz2 11 J (cS hb6600) D4 (QS Tryz.underlying70 ty74 (slA ee6612) J p6603 p6604) (tz2 12 J (cS hb6600) D4 (xfA Tryz.underlying74 ty3 J) (WtY 13 J J J (vI ((rd x6018 x6022).Call)) J (cS hb6600) (fun w' h'=>by obtain ⟨_,_,S'⟩:=h';obtain ⟨_,_,_,_,_,e',b',_,r',c'⟩:=SlW.at' (S'.row_read 0 J) p6603 p6604;obtain ⟨rfl,rfl⟩:=Uk (e'.symm.trans ee6612);obtain ⟨_,_,rfl⟩:=r';exact Z0 (Hp.of_get b') ty3 J (c' 1 _ J)) D4 (tz2 14 J (cS hb6600) D4 (xfA Tryz.underlying40 ty3 J) (tz3 15 J (cS hb6600) D4 (fun w' h'=>xlA h' 1 ty3 J) (tz2 16 J (cS hb6600) D4 (xiB J J) (tz0 17 J D4 (xpB hb6600 J) ?_))))))
              exact hrest _ _ ⟨((rd x6018 x6022).Call==(rd a2 x3354).Call),oi H,agP J,E,S.pk [0,1]⟩
             ·have D5:∃ Mx,Hp.le M5350 Mx∧St _ Mx F [_,_]:=⟨_,Hp.le_refl _,S.pk [0,1]⟩
              refine tz4 9 J (skT hb6600) D5 (tz4 10 J (skT hb6600) D5 (tz4 11 J (skT hb6600) D5 (tz4 12 J (skT hb6600) D5 (tz4 13 J (skT hb6600) D5 (tz4 14 J (skT hb6600) D5 (tz4 15 J (skT hb6600) D5 (tz4 16 J (skT hb6600) D5 (tz0 17 J D5 (xqB hb6600 J) ?_))))))))
              exact hrest _ _ ⟨false,oi H,agP J,E,S.pk [0,1]⟩
            rintro ρ w6617 ⟨x6601,rfl,hρ,E,S⟩
            rw [QB hρ]
            have H:=o6602H
            refine Wz ?_
            refine tn ?_
            obtain ⟨o6662,o6662h,o6662H⟩:=QO H
            refine Yc (fun ρ w'=>∃ (x6658:List QQ) (A6659:Option Addr) (c6660:Nat),(x6658)=o6662∧QV ρ [(1,.slice A1 a1.length c1),(2,.slice A2 a2.length c2),(8,.pointer none),(10,.slice A6659 x6658.length c6660),(11,vI x3354),(12,pt b5040 0),(13,vI x6022)]∧Ext w w'∧St w' M5350 F [Rw ZA 74 A6659 c6660 x6658,B40 b5040 (rd a2 x3354) A5036 c5037]) ?_ ?_
            ·clear o6662H
             have H:=o6662h
             rcases Q3 H with ⟨hb6663,H⟩ | ⟨hb6663,H⟩
             ·refine QC (cB hb6663) ?_
              refine QJ (wmL J (wmI J (wmI J ?_)))
              obtain ⟨⟨p6664,p6665⟩,H⟩:=Z8 H
              obtain ⟨b6666,o6667,cs6668,_,_,ee6673,hb6669,vs6670,hR6671,hc6672⟩:=SlW.at' (S.row_read 0 J) p6664 p6665
              obtain ⟨v6677,hs6676,rfl⟩:=hR6671
              obtain ⟨A6674,c6675,rfl,_⟩:=hs6676.form
              refine W_v _ (QS Tryz.underlying70 ty74 (slA ee6673) J p6664 p6665) J (wfA Tryz.underlying74 ty3 J ?_)
              obtain ⟨x6679,he6680,H⟩:=QO H
              replace he6680:=oi he6680
              refine VQ S 0 J J ee6673 (by first | exact p6664 | simpa using p6664) (by first | exact p6665 | simpa using p6665) 7 ty3 rfl rfl [vI x3354] rfl rfl rfl rfl (⟨(rd x6018 x6022).Task,(rd x6018 x6022).Call,⟨(rd x6018 x6022).Answer.Err,(rd x6018 x6022).Answer.Found,(rd x6018 x6022).Answer.Value,(rd x6018 x6022).Answer.Pairs⟩,(rd x6018 x6022).Mark,x3354⟩:QQ) (by rintro _ ⟨_,h5,rfl⟩;exact ⟨_,h5,rfl⟩) he6680 (eE1 E ?_)
              intro w6678 E S
              have hs6681:Value.slice A6019 x6018.length c6020=Value.slice A6019 x6679.length c6020:=by rw [← he6680,List.length_set]
              try unfold B40 at S
              try rw [hs6681] at S
              try rw [hs6681]
              have p6682:x6022<(x6679.length:Int):=by rw [← he6680,List.length_set];exact p6665
              refine wnQ ?_
              exact ⟨x6679,A6019,c6020,oi H,agP J,E,S.pk [0,1]⟩
             refine QA (cB hb6663) (QX (tn ?_))
             exact ⟨x6018,A6019,c6020,oi H,agP J,E,S.pk [0,1]⟩
            rintro ρ w6683 ⟨x6658,A6659,c6660,rfl,hρ,E,S⟩
            rw [QB hρ]
            have H:=o6662H
            refine bn (tn ?_)
            exact ⟨x6658,A6659,c6660,oi H,agP J,E,S.pk [0,1]⟩
          rintro ρ w6684 ⟨x6519,A6520,c6521,rfl,hρ,E,S⟩
          rw [QB hρ]
          have H:=o6523H
          refine tn (QJ (wmI J (wiI J J (waI J (wnQ ?_)))))
          exact ⟨k,Nat.lt_succ_self k,⟨x6519,(IntKind.i64.wrap (x6022+(1:Int))),A6520,c6521,H,agP J,E,S.pk [0,1]⟩⟩
         refine QA (cB hb6358) ?_
         refine YZ ?_
         refine tx (tx (bsm (?_)))
         refine tn ?_
         exact ⟨x6018,A6019,c6020,oi H,agP J,E,S.pk [0]⟩
      rintro ρ w6685 ⟨x6351,A6352,c6353,rfl,hρ,E,S⟩
      rw [QB hρ]
      have H:=o6355H
      refine bn (tn (QJ (wmI J (wiI J J (waI J (wnQ ?_))))))
      exact ⟨k,Nat.lt_succ_self k,⟨x6351,(IntKind.i64.wrap (x3354+(1:Int))),A6352,c6353,M5350,H,agP J,hM5024,E,S.pk [0]⟩⟩
     refine QA (cB hb5025) ?_
     refine YZ ?_
     refine tx (tx (bsm (?_)))
     refine tn ?_
     exact ⟨x3350,A3351,c3352,M5023,oi H,agP J,hM5024,E,S.pk [0]⟩
  rintro ρ w6686 ⟨x5016,A5017,c5018,M6687,rfl,hρ,hM6688,E,S⟩
  rw [QB hρ]
  replace HM:=Hp.le_trans HM hM6688
  have H:=o5020H
  refine tn ?_
  as_aux_lemma =>
  refine wsQ (wmL J (W_v (.pointer none) (YW J) J (waL J (W_v (.pointer none) (Zm J) J (wnQ ?_)))))
  refine QT ?_
  obtain rfl:=oi H
  exact ⟨_,_,_,rsA (vs:=[_,_]) J,HM,E,S.pk [0],⟨A5017,c5018,J,J⟩⟩
 ·replace H:=elimR H
  refine Y2 fn29 (Zk.con ht5) (Γ1:=[]) (Γ2:=[_]) S J J ?_
  rintro _ w6697 M6698 Γ' hM6699 E' S ⟨b6689,A6691,c6692,A6694,c6695,rfl,rfl⟩
  replace HM:=Hp.le_trans HM hM6699
  replace hr1:=SlR.mono hr1 hM6699
  replace hr2:=SlR.mono hr2 hM6699
  replace E:=E.trans E'
  replace S:St w6697 M6698 F [_,_,_,_]:=S
  refine wmT J (W_v _ (QR J J) J (W_v _ (QR J J) J (waP J (waI J (wnQ (wsQ (waL J (wnQ (QH (wsQ (waI J ?_)))))))))))
  refine wnQ ?_
  obtain ⟨M10142,hM10143,hf10144,S⟩:=S.row_freeze 2 J
  replace HM:=Hp.le_trans HM hM10143
  replace hr1:=SlR.mono hr1 hM10143
  replace hr2:=SlR.mono hr2 hM10143
  obtain ⟨o15311,o15311h,o15311H⟩:=QO H
  refine Zr (fun ρ w'=>∃ (x15300:List QQ) (x15304:QE) (A15301:Option Addr) (c15302:Nat) (A15305:Option Addr) (c15306:Nat) (A15308:Option Addr) (c15309:Nat) (Mj:Hp),(x15300,x15304)=o15311∧QV ρ [(8,pt b6689 0),(10,.slice A15301 x15300.length c15302)]∧M10142.le Mj∧Ext w w'∧St w' Mj F [Rw QD 112 A15305 c15306 x15304.T,Rw ZA 74 A15301 c15302 x15300,B69 b6689 x15304 A15305 c15306 A15308 c15309]∧SlR Qa Mj (.slice A15308 x15304.L.length c15309) x15304.L) ?_ ?_
  ·refine Yr (fun n ρ w'=>∃ (x13584:List QQ) (x13588:Int) (x13589:QE) (A13585:Option Addr) (c13586:Nat) (A13590:Option Addr) (c13591:Nat) (A13593:Option Addr) (c13594:Nat) (Mj:Hp),Zq a1 a2 n x13584 x13588 x13589=some o15311∧QV ρ [(1,.slice A1 a1.length c1),(2,.slice A2 a2.length c2),(8,pt b6689 0),(10,.slice A13585 x13584.length c13586),(11,vI x13588)]∧M10142.le Mj∧Ext w w'∧St w' Mj F [Rw QD 112 A13590 c13591 x13589.T,Rw ZA 74 A13585 c13586 x13584,B69 b6689 x13589 A13590 c13591 A13593 c13594]∧SlR Qa Mj (.slice A13593 x13589.L.length c13594) x13589.L) k ?_ ?_
   ·replace S:=S.row_nil ZA 74
    exact ⟨([]:List QQ),(0:Int),t7,none,0,A6691,c6692,A6694,c6695,M10142,o15311h,agP J,(Hp.le_refl M10142),E,S.pk [2,0,1],hf10144⟩
   ·intro n
    rintro ρ w15313 ⟨x13584,x13588,x13589,A13585,c13586,A13590,c13591,A13593,c13594,M15314,H,hρ,hM15315,E,S,hs13595⟩
    rw [QB hρ]
    replace HM:=Hp.le_trans HM hM15315
    replace hr1:=SlR.mono hr1 hM15315
    replace hr2:=SlR.mono hr2 hM15315
    cases n with
    | zero=>cases H
    | succ k =>
     rw [Zq.eq_2] at H
     refine QH (wsQ (wmI J (wmL J (W_v _ (Qm (n:=a2.length) Tryz.underlying25 J) J (wiB J J (wnQ ?_))))))
     rcases Q3 H with ⟨hb15316,H⟩ | ⟨hb15316,H⟩
     ·refine QC (cB hb15316) ?_
      refine QX (tn (QH ?_))
      refine ZW ?_
      refine wsQ (wmL J (wmI J ?_))
      obtain ⟨⟨p15317,p15318⟩,H⟩:=Z8 H
      obtain ⟨b15319,o15320,cs15321,_,_,ee15326,hb15322,vs15323,hR15324,hc15325⟩:=SlW.at' hr2 p15317 p15318
      obtain ⟨v15330,hs15329,rfl⟩:=hR15324
      obtain ⟨A15327,c15328,rfl,_⟩:=hs15329.form
      refine W_v _ (QS Tryz.underlying25 ty40 (slA ee15326) J p15317 p15318) J (W_v (.agg #[vU ((rd a2 x13588).What),vI ((rd a2 x13588).Task),vI ((rd a2 x13588).Call),vI ((rd a2 x13588).Answer.Err),.bool ((rd a2 x13588).Answer.Found),vS ((rd a2 x13588).Answer.Value),.slice A15327 ((rd a2 x13588).Answer.Pairs).length c15328]) (Qi (S.frz hb15322) ty40 J (X1 hc15325 0 J) J J) J ?_)
      refine YN S cz6 ty40 J J (eE2 E ?_)
      intro b15331 w15332 E S
      refine Qu S 0 J ty40 J J [vU ((rd a2 x13588).What),vI ((rd a2 x13588).Task),vI ((rd a2 x13588).Call),vI ((rd a2 x13588).Answer.Err),.bool ((rd a2 x13588).Answer.Found),vS ((rd a2 x13588).Answer.Value),.slice A15327 ((rd a2 x13588).Answer.Pairs).length c15328] J J J #[vU ((rd a2 x13588).What),vI ((rd a2 x13588).Task),vI ((rd a2 x13588).Call),vI ((rd a2 x13588).Answer.Err),.bool ((rd a2 x13588).Answer.Found),vS ((rd a2 x13588).Answer.Value),.slice A15327 ((rd a2 x13588).Answer.Pairs).length c15328] (by as_aux_lemma=>kernel_rfl) J (eE1 E ?_)
      intro w15334 E S
      refine wnQ (QH (wsQ (wfA Tryz.underlying40 ty5 J (wlA S 0 ty5 J (wiB J J (wnQ ?_))))))
      obtain ⟨o15570,o15570h,o15570H⟩:=QO H
      refine Yc (fun ρ w'=>∃ (x15559:List QQ) (x15563:QE) (A15560:Option Addr) (c15561:Nat) (A15564:Option Addr) (c15565:Nat) (A15567:Option Addr) (c15568:Nat) (Mj:Hp),(x15559,x15563)=o15570∧QV ρ [(1,.slice A1 a1.length c1),(2,.slice A2 a2.length c2),(8,pt b6689 0),(10,.slice A15560 x15559.length c15561),(11,vI x13588),(12,pt b15331 0)]∧M15314.le Mj∧Ext w w'∧St w' Mj F [Rw QD 112 A15564 c15565 x15563.T,Rw ZA 74 A15560 c15561 x15559,B69 b6689 x15563 A15564 c15565 A15567 c15568,B40 b15331 (rd a2 x13588) A15327 c15328]∧SlR Qa Mj (.slice A15567 x15563.L.length c15568) x15563.L) ?_ ?_
      ·as_aux_lemma =>
        clear o15570H
        have H:=o15570h
        have LE15571:=Hp.le_refl M15314
        rcases Q3 H with ⟨hb15572,H⟩ | ⟨hb15572,H⟩
        ·refine QC (cB hb15572) ?_
         refine VX (S:=fun w'=>∃ Mx,M15314.le Mx∧St w' Mx F [B40 b15331 (rd a2 x13588) A15327 c15328]) (L:=23) mixed ?_
         intro w15627 hw15628 E'
         replace S:=S.heap hw15628
         replace E:=E.trans E'
         have hr1z:=hr1
         have D6:∃ Mx,Hp.le M15314 Mx∧St _ Mx F [_]:=⟨_,Hp.le_refl _,S.pk [0]⟩
         refine tz0 0 J D6 (xmL J) (tz0 1 J D6 (xfA Tryz.underlying40 ty3 J) (tz1 2 J D6 (fun w' h'=>xlA h' 0 ty3 J) (tz0 3 J D6 (xfA Tryz.underlying40 ty3 J) (tz1 4 J D6 (fun w' h'=>xlA h' 0 ty3 J) (tz0 5 J D6 (xmP J) (tz0 6 J D6 (xfA Tryz.underlying40 ty3 J) (tz1 7 J D6 (fun w' h'=>xlA h' 0 ty3 J) (tz0 8 J D6 (xmL J) (tz0 9 J D6 (xfA Tryz.underlying40 ty3 J) (tz1 10 J D6 (fun w' h'=>xlA h' 0 ty3 J) ?_))))))))))
         obtain ⟨⟨p15629,p15630⟩,H⟩:=Z8 H
         obtain ⟨b15631,o15632,cs15633,_,_,ee15638,hb15634,vs15635,hR15636,hc15637⟩:=SlW.at' hr1z p15629 p15630
         obtain ⟨v15642,hs15641,rfl⟩:=hR15636
         obtain ⟨A15639,c15640,rfl,_⟩:=hs15641.form
         have hs15641z:=hs15641
         refine tz0 11 J D6 (QS Tryz.underlying24 ty41 (slA ee15638) J p15629 p15630) (tz1 12 J D6 (fun w' h'=>Z0 (Yj h' hb15634) ty41 J (hc15637 0 _ J)) (tz0 13 J D6 (xfA Tryz.underlying40 ty3 J) (tz1 14 J D6 (fun w' h'=>xlA h' 0 ty3 J) ?_)))
         obtain ⟨⟨p15643,p15644⟩,H⟩:=Z8 H
         obtain ⟨b15645,o15646,cs15647,_,_,ee15652,hb15648,vs15649,hR15650,hc15651⟩:=SlW.at' hs15641z p15643 p15644
         obtain rfl:vs15649=_:=hR15650
         refine tz0 15 J D6 (QS Tryz.underlying41 ty43 (slA ee15652) J p15643 p15644) (Wt 16 J J J (.agg (Qo (rd (rd a1 ((rd a2 x13588).Task)) ((rd a2 x13588).Call)))) J (fun w' h'=>Qi (Yj h' hb15648) ty43 J (X1 hc15651 0 J) J J) D6 (tz0 18 J D6 (xmI J) ?_))
         refine Wo 17 J ?_
         obtain ⟨t15653,ht15654,H⟩:=QO H
         replace S:St w15627 M15314 F [_,_,_,_]:=S.pk [3,1,0,2]
         refine Y2 fn30 (Q5.con ht15654 hs13595) (Γ1:=[_,_]) (Γ2:=[_,_]) S J J ?_
         rintro _ w15664 M15665 Γ' hM15666 E' S ⟨A15655,c15656,A15658,c15659,A15661,c15662,rfl,hs15663,rfl⟩
         replace HM:=Hp.le_trans HM hM15666
         replace LE15571:=Hp.le_trans LE15571 hM15666
         replace E:=E.trans E'
         replace S:St w15664 M15665 F [_,_,_,_,_]:=S
         refine QK (Yl ⟨.inr ⟨M15665,LE15571,(S.pk [3])⟩,?_⟩)
         refine tz0 19 J (⟨M15665,LE15571,(S.pk [3])⟩) (xb2 [(0,1),(1,1),(2,4),(6,1),(7,1)] #[vI ((rd a2 x13588).Task),vI ((rd a2 x13588).Call),vI t15653.1.Err,.bool t15653.1.Found,vS t15653.1.Value,.slice A15655 t15653.1.Pairs.length c15656,vI x13588,vI (-1)] Tryz.underlying74 ty74 J) ?_
         refine Wo 20 J ?_
         obtain ⟨M15667,hM15668,hf15669,S⟩:=S.row_freeze 0 J
         replace HM:=Hp.le_trans HM hM15668
         replace LE15571:=Hp.le_trans LE15571 hM15668
         replace hs15663:=SlR.mono hs15663 hM15668
         refine Xl S #[vI ((rd a2 x13588).Task),vI ((rd a2 x13588).Call),vI t15653.1.Err,.bool t15653.1.Found,vS t15653.1.Value,.slice A15655 t15653.1.Pairs.length c15656,vI x13588,vI (-1)] Tryz.underlying70 ty74 J J cz4 (by as_aux_lemma=>kernel_rfl) (by as_aux_lemma=>kernel_rfl) J (eE2 E ?_)
         intro b15670 w15671 E S
         replace S:=S.blk_row (r:=ZA) (l:=([(⟨((rd a2 x13588).Task),((rd a2 x13588).Call),⟨t15653.1.Err,t15653.1.Found,t15653.1.Value,t15653.1.Pairs⟩,x13588,(-1:Int)⟩:QQ)]:List QQ)) 0 J 1 (Nat.le_refl 1) J (Cells.cons (vs:=[vI ((rd a2 x13588).Task),vI ((rd a2 x13588).Call),vI t15653.1.Err,.bool t15653.1.Found,vS t15653.1.Value,.slice A15655 t15653.1.Pairs.length c15656,vI x13588,vI (-1)]) (⟨_,hf15669,J⟩) Cells.nil)
         obtain ⟨x15673,he15674,H⟩:=QO H
         replace he15674:=oi he15674
         try unfold B40 at S
         try unfold B69 at S
         rw [he15674] at S
         refine Eq.mpr (congrArg (fun z=>Wl _ _ _ _ _ _ (upd _ _ z) _) (show Value.slice (some ⟨b15670,0,none⟩) 1 1=Value.slice (some ⟨b15670,0,none⟩) x15673.length 1 from (by rw [← he15674];rfl))) ?_
         refine QK (Yl ⟨.inr ⟨M15667,LE15571,(S.pk [3])⟩,?_⟩)
         refine Wo 21 J ?_
         obtain ⟨p15675,H⟩:=Z8 H
         obtain ⟨src15676,hs15677,hC15678⟩:=XJ (P:=Tryz.prog) (ρ:=ZA) (l:=x15673) (S.row_read 0 J) (by decide)
         refine X0 S 4 J J J Tryz.underlying70 (.inl Tryz.underlying70) ty74 J (by decide) (by decide) hs15677 hC15678 J (by omega) J (eE2 E ?_)
         intro v15679 w15680 E S
         obtain ⟨A15681,c15682,rfl,_⟩:=(S.row_read 4 J).form
         refine QK (Yl ⟨.inr ⟨M15667,LE15571,(S.pk [3])⟩,?_⟩)
         refine tz0 22 J (⟨M15667,LE15571,(S.pk [3])⟩) (xaL J) ?_
         refine Wz ?_
         refine tn ?_
         exact ⟨(x13584++x15673),t15653.2,A15681,c15682,A15658,c15659,A15661,c15662,M15667,oi H,agP J,LE15571,E,S.pk [2,4,1,3],hs15663⟩
        refine QA (cB hb15572) (QX (tn ?_))
        exact ⟨x13584,x13589,A13585,c13586,A13590,c13591,A13593,c13594,M15314,oi H,agP J,(Hp.le_refl M15314),E,S.pk [1,2,3,0],hs13595⟩
      as_aux_lemma =>
      rintro ρ w15683 ⟨x15559,x15563,A15560,c15561,A15564,c15565,A15567,c15568,M15684,rfl,hρ,hM15685,E,S,hs15569⟩
      rw [QB hρ]
      replace HM:=Hp.le_trans HM hM15685
      replace hM15315:=Hp.le_trans hM15315 hM15685
      have H:=o15570H
      refine tn (wsQ (waI J (wnQ ?_)))
      obtain ⟨o16689,o16689h,o16689H⟩:=QO H
      refine Zr (fun ρ w'=>∃ (x16685:List QQ) (A16686:Option Addr) (c16687:Nat),(x16685)=o16689∧QV ρ [(1,.slice A1 a1.length c1),(2,.slice A2 a2.length c2),(8,pt b6689 0),(10,.slice A16686 x16685.length c16687),(11,vI x13588)]∧Ext w w'∧St w' M15684 F [Rw ZA 74 A16686 c16687 x16685,Rw QD 112 A15564 c15565 x15563.T,B69 b6689 x15563 A15564 c15565 A15567 c15568]) ?_ ?_
      ·refine Yr (fun n ρ w'=>∃ (x16352:List QQ) (x16356:Int) (A16353:Option Addr) (c16354:Nat),Zc a2 x13588 n x16352 x16356=some o16689∧QV ρ [(1,.slice A1 a1.length c1),(2,.slice A2 a2.length c2),(8,pt b6689 0),(10,.slice A16353 x16352.length c16354),(11,vI x13588),(12,pt b15331 0),(13,vI x16356)]∧Ext w w'∧St w' M15684 F [Rw ZA 74 A16353 c16354 x16352,Rw QD 112 A15564 c15565 x15563.T,B69 b6689 x15563 A15564 c15565 A15567 c15568,B40 b15331 (rd a2 x13588) A15327 c15328]) k ?_ ?_
       ·exact ⟨x15559,(0:Int),A15560,c15561,o16689h,agP J,E,S.pk [1,0,2,3]⟩
       ·intro n
        rintro ρ w16690 ⟨x16352,x16356,A16353,c16354,H,hρ,E,S⟩
        rw [QB hρ]
        cases n with
        | zero=>cases H
        | succ k =>
         rw [Zc.eq_2] at H
         refine QH (wsQ (wmI J (wmL J (W_v _ (Qm (n:=x16352.length) Tryz.underlying70 J) J (wiB J J (wmB J ?_))))))
         refine ZO 4 (fun ρ w'=>QV ρ [(1,.slice A1 a1.length c1),(2,.slice A2 a2.length c2),(8,pt b6689 0),(10,.slice A16353 x16352.length c16354),(11,vI x13588),(12,pt b15331 0),(13,vI x16356),(62,.bool ((decide (x16356<(x16352.length:Int)))&&((rd a2 x13588).What==(3:Int))))]∧w16690=w') ?_ ?_
         ·rcases Qy (decide (x16356<(x16352.length:Int))) with hb16691 | hb16691
          ·refine QZ (skT hb16691) J (QZ (skT hb16691) J (QZ (skT hb16691) J (wqB hb16691 J (QK ?_))))
           exact ⟨⟨J,J,J,J,J,J,J,(flB hb16691),trivial⟩,rfl⟩
          ·refine QN (cS hb16691) (wfA Tryz.underlying40 ty5 J (QN (cS hb16691) (wlA S 3 ty5 J (QN (cS hb16691) (wiB J J (wpB hb16691 J (QK ?_)))))))
           exact ⟨⟨J,J,J,J,J,J,J,(flB hb16691),trivial⟩,rfl⟩
         as_aux_lemma =>
         rintro ρ _ ⟨hρ,rfl⟩
         rw [QB hρ]
         refine wnQ ?_
         rcases Q3 H with ⟨hb16692,H⟩ | ⟨hb16692,H⟩
         ·refine QC (cB hb16692) ?_
          refine QX (tn (QH ?_))
          obtain ⟨o16857,o16857h,o16857H⟩:=QO H
          refine Yc (fun ρ w'=>∃ (x16853:List QQ) (A16854:Option Addr) (c16855:Nat),(x16853)=o16857∧QV ρ [(1,.slice A1 a1.length c1),(2,.slice A2 a2.length c2),(8,pt b6689 0),(10,.slice A16854 x16853.length c16855),(11,vI x13588),(12,pt b15331 0),(13,vI x16356)]∧Ext w w'∧St w' M15684 F [Rw ZA 74 A16854 c16855 x16853,Rw QD 112 A15564 c15565 x15563.T,B69 b6689 x15563 A15564 c15565 A15567 c15568,B40 b15331 (rd a2 x13588) A15327 c15328]) ?_ ?_
          ·as_aux_lemma =>
            clear o16857H
            have H:=o16857h
            refine ZW ?_
            refine QH ?_
            refine rgA S [0,1,2,3] [_,_,_,_] 18 mixed J (eE1 E ?_)
            intro w16904 E S D7
            refine tz0 0 J D7 (xmL J) (tz0 1 J D7 (xmI J) ?_)
            obtain ⟨⟨p16906,p16907⟩,H⟩:=Z8 H
            obtain ⟨b16908,o16909,cs16910,_,_,ee16915,hb16911,vs16912,hR16913,hc16914⟩:=SlW.at' (S.row_read 0 J) p16906 p16907
            obtain ⟨v16919,hs16918,rfl⟩:=hR16913
            obtain ⟨A16916,c16917,rfl,_⟩:=hs16918.form
            refine tz0 2 J D7 (QS Tryz.underlying70 ty74 (slA ee16915) J p16906 p16907) (tz0 3 J D7 (xfA Tryz.underlying74 ty3 J) (Wt 4 J J J (vI ((rd x16352 x16356).Task)) J (fun w' h'=>by obtain ⟨_,_,S'⟩:=h';obtain ⟨_,_,_,_,_,e',b',_,r',c'⟩:=SlW.at' (S'.row_read 0 J) p16906 p16907;obtain ⟨rfl,rfl⟩:=Uk (e'.symm.trans ee16915);obtain ⟨_,_,rfl⟩:=r';exact Z0 (Hp.of_get b') ty3 J (c' 0 _ J)) D7 (tz0 5 J D7 (xfA Tryz.underlying40 ty3 J) (tz1 6 J D7 (fun w' h'=>xlA h' 3 ty3 J) (tz0 7 J D7 (xiB J J) (tz0 8 J D7 (xmB J) ?_))))))
            obtain ⟨o16936,o16936h,o16936H⟩:=QO H
            refine YB (fun ρ w'=>∃ (x16935:Bool),(x16935)=o16936∧QV ρ [(1,.slice A1 a1.length c1),(2,.slice A2 a2.length c2),(8,pt b6689 0),(10,.slice A16353 x16352.length c16354),(11,vI x13588),(12,pt b15331 0),(13,vI x16356),(82,.bool x16935)]∧Ext w w'∧St w' M15684 F [Rw ZA 74 A16353 c16354 x16352,Rw QD 112 A15564 c15565 x15563.T,B69 b6689 x15563 A15564 c15565 A15567 c15568,B40 b15331 (rd a2 x13588) A15327 c15328]) 0 (Ls 18 [0,1,2,3,4,5,6,7,8,9,10,11,12,13,14,15,16,17]) ?_ ?_
            rotate_left
            ·intro hrest
             have H:=o16936h
             rcases Q3 H with ⟨hb16934,H⟩ | ⟨hb16934,H⟩
             ·have D8:∃ Mx,Hp.le M15684 Mx∧St _ Mx F [_,_,_,_]:=⟨_,Hp.le_refl _,S.pk [0,1,2,3]⟩
              refine tz2 9 J (cS hb16934) D8 (xmL J) (tz2 10 J (cS hb16934) D8 (xmI J) ?_)
              obtain ⟨⟨p16937,p16938⟩,H⟩:=Z8 H
              obtain ⟨b16939,o16940,cs16941,_,_,ee16946,hb16942,vs16943,hR16944,hc16945⟩:=SlW.at' (S.row_read 0 J) p16937 p16938
              obtain ⟨v16950,hs16949,rfl⟩:=hR16944
              obtain ⟨A16947,c16948,rfl,_⟩:=hs16949.form
              refine tz2 11 J (cS hb16934) D8 (QS Tryz.underlying70 ty74 (slA ee16946) J p16937 p16938) (tz2 12 J (cS hb16934) D8 (xfA Tryz.underlying74 ty3 J) (WtY 13 J J J (vI ((rd x16352 x16356).Call)) J (cS hb16934) (fun w' h'=>by obtain ⟨_,_,S'⟩:=h';obtain ⟨_,_,_,_,_,e',b',_,r',c'⟩:=SlW.at' (S'.row_read 0 J) p16937 p16938;obtain ⟨rfl,rfl⟩:=Uk (e'.symm.trans ee16946);obtain ⟨_,_,rfl⟩:=r';exact Z0 (Hp.of_get b') ty3 J (c' 1 _ J)) D8 (tz2 14 J (cS hb16934) D8 (xfA Tryz.underlying40 ty3 J) (tz3 15 J (cS hb16934) D8 (fun w' h'=>xlA h' 3 ty3 J) (tz2 16 J (cS hb16934) D8 (xiB J J) (tz0 17 J D8 (xpB hb16934 J) ?_))))))
              exact hrest _ _ ⟨((rd x16352 x16356).Call==(rd a2 x13588).Call),oi H,agP J,E,S.pk [0,1,2,3]⟩
             ·have D9:∃ Mx,Hp.le M15684 Mx∧St _ Mx F [_,_,_,_]:=⟨_,Hp.le_refl _,S.pk [0,1,2,3]⟩
              refine tz4 9 J (skT hb16934) D9 (tz4 10 J (skT hb16934) D9 (tz4 11 J (skT hb16934) D9 (tz4 12 J (skT hb16934) D9 (tz4 13 J (skT hb16934) D9 (tz4 14 J (skT hb16934) D9 (tz4 15 J (skT hb16934) D9 (tz4 16 J (skT hb16934) D9 (tz0 17 J D9 (xqB hb16934 J) ?_))))))))
              exact hrest _ _ ⟨false,oi H,agP J,E,S.pk [0,1,2,3]⟩
            rintro ρ w16951 ⟨x16935,rfl,hρ,E,S⟩
            rw [QB hρ]
            have H:=o16936H
            refine Wz ?_
            refine tn ?_
            obtain ⟨o16996,o16996h,o16996H⟩:=QO H
            refine Yc (fun ρ w'=>∃ (x16992:List QQ) (A16993:Option Addr) (c16994:Nat),(x16992)=o16996∧QV ρ [(1,.slice A1 a1.length c1),(2,.slice A2 a2.length c2),(8,pt b6689 0),(10,.slice A16993 x16992.length c16994),(11,vI x13588),(12,pt b15331 0),(13,vI x16356)]∧Ext w w'∧St w' M15684 F [Rw ZA 74 A16993 c16994 x16992,Rw QD 112 A15564 c15565 x15563.T,B69 b6689 x15563 A15564 c15565 A15567 c15568,B40 b15331 (rd a2 x13588) A15327 c15328]) ?_ ?_
            ·clear o16996H
             have H:=o16996h
             rcases Q3 H with ⟨hb16997,H⟩ | ⟨hb16997,H⟩
             ·refine QC (cB hb16997) ?_
              refine QJ (wmL J (wmI J (wmI J ?_)))
              obtain ⟨⟨p16998,p16999⟩,H⟩:=Z8 H
              obtain ⟨b17000,o17001,cs17002,_,_,ee17007,hb17003,vs17004,hR17005,hc17006⟩:=SlW.at' (S.row_read 0 J) p16998 p16999
              obtain ⟨v17011,hs17010,rfl⟩:=hR17005
              obtain ⟨A17008,c17009,rfl,_⟩:=hs17010.form
              refine W_v _ (QS Tryz.underlying70 ty74 (slA ee17007) J p16998 p16999) J (wfA Tryz.underlying74 ty3 J ?_)
              obtain ⟨x17013,he17014,H⟩:=QO H
              replace he17014:=oi he17014
              refine VQ S 0 J J ee17007 (by first | exact p16998 | simpa using p16998) (by first | exact p16999 | simpa using p16999) 7 ty3 rfl rfl [vI x13588] rfl rfl rfl rfl (⟨(rd x16352 x16356).Task,(rd x16352 x16356).Call,⟨(rd x16352 x16356).Answer.Err,(rd x16352 x16356).Answer.Found,(rd x16352 x16356).Answer.Value,(rd x16352 x16356).Answer.Pairs⟩,(rd x16352 x16356).Mark,x13588⟩:QQ) (by rintro _ ⟨_,h5,rfl⟩;exact ⟨_,h5,rfl⟩) he17014 (eE1 E ?_)
              intro w17012 E S
              have hs17015:Value.slice A16353 x16352.length c16354=Value.slice A16353 x17013.length c16354:=by rw [← he17014,List.length_set]
              try unfold B40 at S
              try unfold B69 at S
              try rw [hs17015] at S
              try rw [hs17015]
              have p17016:x16356<(x17013.length:Int):=by rw [← he17014,List.length_set];exact p16999
              refine wnQ ?_
              exact ⟨x17013,A16353,c16354,oi H,agP J,E,S.pk [0,1,2,3]⟩
             refine QA (cB hb16997) (QX (tn ?_))
             exact ⟨x16352,A16353,c16354,oi H,agP J,E,S.pk [0,1,2,3]⟩
            rintro ρ w17017 ⟨x16992,A16993,c16994,rfl,hρ,E,S⟩
            rw [QB hρ]
            have H:=o16996H
            refine bn (tn ?_)
            exact ⟨x16992,A16993,c16994,oi H,agP J,E,S.pk [0,1,2,3]⟩
          rintro ρ w17018 ⟨x16853,A16854,c16855,rfl,hρ,E,S⟩
          rw [QB hρ]
          have H:=o16857H
          refine tn (QJ (wmI J (wiI J J (waI J (wnQ ?_)))))
          exact ⟨k,Nat.lt_succ_self k,⟨x16853,(IntKind.i64.wrap (x16356+(1:Int))),A16854,c16855,H,agP J,E,S.pk [0,1,2,3]⟩⟩
         refine QA (cB hb16692) ?_
         refine YZ ?_
         refine tx (tx (bsm (?_)))
         refine tn ?_
         exact ⟨x16352,A16353,c16354,oi H,agP J,E,S.pk [0,1,2]⟩
      rintro ρ w17019 ⟨x16685,A16686,c16687,rfl,hρ,E,S⟩
      rw [QB hρ]
      have H:=o16689H
      refine bn (tn (QJ (wmI J (wiI J J (waI J (wnQ ?_))))))
      exact ⟨k,Nat.lt_succ_self k,⟨x16685,(IntKind.i64.wrap (x13588+(1:Int))),x15563,A16686,c16687,A15564,c15565,A15567,c15568,M15684,H,agP J,hM15315,E,S.pk [1,0,2],hs15569⟩⟩
     refine QA (cB hb15316) ?_
     refine YZ ?_
     refine tx (tx (bsm (?_)))
     refine tn ?_
     exact ⟨x13584,x13589,A13585,c13586,A13590,c13591,A13593,c13594,M15314,oi H,agP J,hM15315,E,S.pk [0,1,2],hs13595⟩
  rintro ρ w17020 ⟨x15300,x15304,A15301,c15302,A15305,c15306,A15308,c15309,M17021,rfl,hρ,hM17022,E,S,hs15310⟩
  rw [QB hρ]
  replace HM:=Hp.le_trans HM hM17022
  have H:=o15311H
  refine tn ?_
  as_aux_lemma =>
  refine wsQ (wmL J (wmP J (waL J (waP J (wnQ ?_)))))
  refine QT ?_
  obtain rfl:=oi H
  exact ⟨_,_,_,rsA (vs:=[_,_]) J,HM,E,S.pk [1,2,0],⟨A15301,c15302,b6689,A15305,c15306,A15308,c15309,J,hs15310,J⟩⟩
def Z6 (k:Nat) (a0:QI) (a1:(List (List QY))) (a2:(List QL)):Option ((Unit)⊕(Unit)⊕(Unit)⊕(QE)) :=
 (Option.bind (XW k a0 a1) (fun t4=>(if (!t4)=true then some (Sum.inr (Sum.inl ())) else (Option.bind (Xb k a0 a1 a2) (fun t8=>(if (!t8)=true then some (Sum.inr (Sum.inr (Sum.inl ()))) else (Option.bind (YG k a0 a1 a2) (fun t12=>(Sum.elim (fun t14=>some (Sum.inl ())) (fun t15=>some (Sum.inr (Sum.inr (Sum.inr t15.2))))) t12))))))))
theorem Z6.mono {k a0 a1 a2}: OLe (Z6 k a0 a1 a2) (Z6 (k+1) a0 a1 a2):=by
 unfold Z6
 have m1:=@XW.mono
 have m2:=@YG.mono
 have m3:=@Xb.mono
 exact mo
theorem Z6.con {k M} {a0:QI} {A1 c1} {a1:(List (List QY))} {A2 c2} {a2:(List QL)} {r:(Unit)⊕(Unit)⊕(Unit)⊕(QE)} (h:Z6 k a0 a1 a2=some r) (hr1:SlR (rSl Yk) M (.slice A1 a1.length c1) a1) (hr2:SlR Qs M (.slice A2 a2.length c2) a2): Con Tryz.prog 26 #[.agg (QF a0),.slice A1 a1.length c1,.slice A2 a2.length c2] M [] (fun v M' Γ'=>(Sum.elim (fun x=>v=.tuple #[.pointer none,vI 0]∧Γ'=[]) (Sum.elim (fun x=>v=.tuple cz21∧Γ'=[]) (Sum.elim (fun x=>v=.tuple cz22∧Γ'=[]) (fun x=>∃ (bq1:Nat) (Aq3:Option Addr) (cq4:Nat) (Aq6:Option Addr) (cq7:Nat),v=.tuple #[pt bq1 0,vI 0]∧SlR Qa M' (.slice Aq6 x.L.length cq7) x.L∧Γ'=[B69 bq1 x Aq3 cq4 Aq6 cq7,Rw QD 112 Aq3 cq4 x.T])))) r):=by
 refine cwA Tryz.func26 J Tryz.ntmps26 Tryz.results26 J h ?_
 intro w F rn S hrn E HM H
 unfold Z6 at H
 refine wsQ ?_
 refine Yz S (QF a0) J J J (eE2 E ?_)
 intro b1 w2 E S
 refine W_v (.pointer none) (Zm J) J (waI J (wnQ (QH (wsQ (W_v (.agg (QF a0)) (Qi (S.blk 0 J) ty23 J (QG J) J J) J (wmL J ?_))))))
 obtain ⟨t4,ht5,H⟩:=QO H
 refine ZR fn38 (XW.con ht5 hr1) S J J flN (eE4 E ?_)
 rintro _ w6 _ Γ' E S ⟨rfl,rfl⟩
 refine W_v _ (Xr (b:=t4) J) J (wnQ ?_)
 rcases Q3 H with ⟨hb7,H⟩ | ⟨hb7,H⟩
 ·refine QC (cB hb7) ?_
  refine wsQ (W_v (.pointer none) (Zm J) J (waI J (wnQ ?_)))
  refine QT ?_
  refine tr (?_)
  obtain rfl:=oi H
  exact ⟨_,_,_,rsA (vs:=[_,_]) J,HM,E,S.pk [],⟨J,J⟩⟩
 refine QA (cB hb7) (QX (tn (QH (wsQ (W_v (.agg (QF a0)) (Qi (S.blk 0 J) ty23 J (QG J) J J) J (wmL J (wmL J ?_)))))))
 obtain ⟨t8,ht9,H⟩:=QO H
 refine ZR fn39 (Xb.con ht9 hr1 hr2) S J J flN (eE4 E ?_)
 rintro _ w10 _ Γ' E S ⟨rfl,rfl⟩
 refine W_v _ (Xr (b:=t8) J) J (wnQ ?_)
 rcases Q3 H with ⟨hb11,H⟩ | ⟨hb11,H⟩
 ·refine QC (cB hb11) ?_
  refine wsQ (W_v (.pointer none) (Zm J) J (waI J (wnQ ?_)))
  refine QT ?_
  refine tr (?_)
  obtain rfl:=oi H
  exact ⟨_,_,_,rsA (vs:=[_,_]) J,HM,E,S.pk [],⟨J,J⟩⟩
 refine QA (cB hb11) (QX (tn ?_))
 as_aux_lemma =>
 refine wsQ (W_v (.agg (QF a0)) (Qi (S.blk 0 J) ty23 J (QG J) J J) J (wmL J (wmL J ?_)))
 obtain ⟨t12,ht13,H⟩:=QO H
 rcases t12 with t14 | t15
 ·replace H:=elimL H
  refine Y2 fn28 (YG.con ht13 hr1 hr2) (Γ1:=[]) (Γ2:=[_]) S J J ?_
  rintro _ w19 M20 Γ' hM21 E' S ⟨A16,c17,rfl,rfl⟩
  replace HM:=Hp.le_trans HM hM21
  replace E:=E.trans E'
  replace S:St w19 M20 F [_,_]:=S
  refine wmT J (W_v _ (QR J J) J (W_v _ (QR J J) J (waL J (W_v (.pointer none) (Zm J) J (wnQ (wsQ (W_v (.pointer none) (YW J) J (W_v (.pointer none) (Zm J) J (waI J (wnQ ?_))))))))))
  refine QT ?_
  obtain rfl:=oi H
  exact ⟨_,_,_,rsA (vs:=[_,_]) J,HM,E,S.pk [],⟨J,J⟩⟩
 ·replace H:=elimR H
  refine Y2 fn28 (YG.con ht13 hr1 hr2) (Γ1:=[]) (Γ2:=[_]) S J J ?_
  rintro _ w33 M34 Γ' hM35 E' S ⟨A22,c23,b25,A27,c28,A30,c31,rfl,hs32,rfl⟩
  replace HM:=Hp.le_trans HM hM35
  replace E:=E.trans E'
  replace S:St w33 M34 F [_,_,_,_]:=S
  refine wmT J (W_v _ (QR J J) J (W_v _ (QR J J) J (waL J (waP J (wnQ (wsQ (wmP J (waP J (waI J (wnQ ?_))))))))))
  refine QT ?_
  obtain rfl:=oi H
  exact ⟨_,_,_,rsA (vs:=[_,_]) J,HM,E,S.pk [1,2],⟨b25,A27,c28,A30,c31,J,hs32,J⟩⟩
def Q8 (a0:QE):Nat→Int→Int→Option ((Int))
 | 0,_,_=>none
 | k+1,x149,x150=>(if (decide (x150<(a0.L.length:Int)))=true then (Option.bind (α:=Int) (if 0≤x150∧x150<(a0.L.length:Int) then (if 0≤x150∧x150<(a0.L.length:Int) then (Option.bind (α:=Int) (if (rd a0.L x150).Has=true then some ((IntKind.i64.wrap ((IntKind.i64.wrap (x149+(((rd a0.L x150).L).length:Int)))+(1:Int)))) else some ((IntKind.i64.wrap (x149+(((rd a0.L x150).L).length:Int))))) (fun x293=>some (x293))) else none) else none) (fun x261=>Q8 a0 k x261 (IntKind.i64.wrap (x150+(1:Int))))) else some (x149))
theorem Q8.mono {a0}: ∀ {kl:Nat} {x0 x1},OLe (Q8 a0 kl x0 x1) (Q8 a0 (kl+1) x0 x1):=by
 intro kl
 induction kl with
 | zero=>intros;exact OLe.none
 | succ kl ih =>
  intros
  rw [Q8.eq_2,Q8.eq_2]
  exact mo
def Qj (k:Nat) (a0:QE):Option (Int) :=
 (Option.bind (Q8 a0 k (0:Int) (0:Int)) (fun x223=>some x223))
theorem Qj.mono {k a0}: OLe (Qj k a0) (Qj (k+1) a0):=by
 unfold Qj
 have m1:=@Q8.mono
 exact mo
theorem Qj.con {k M A0_8 c0_8 A0_9 c0_9} {a0:QE} {bo0} {r:Int} (h:Qj k a0=some r) (hr0_9:SlR Qa M (.slice A0_9 a0.L.length c0_9) a0.L): Con Tryz.prog 27 #[pt bo0 0] M [B69 bo0 a0 A0_8 c0_8 A0_9 c0_9,Rw QD 112 A0_8 c0_8 a0.T] (fun v M' Γ'=>v=vI r∧Γ'=[B69 bo0 a0 A0_8 c0_8 A0_9 c0_9,Rw QD 112 A0_8 c0_8 a0.T]):=by
 refine cwA Tryz.func27 J Tryz.ntmps27 Tryz.results27 J h ?_
 intro w F rn S hrn E HM H
 unfold Qj at H
 refine wsQ (waI J (wnQ (wsQ (waI J (wnQ (QH (wsQ (waI J (wnQ ?_)))))))))
 obtain ⟨o224,o224h,o224H⟩:=QO H
 refine Zr (fun ρ w'=>∃ (x223:Int),(x223)=o224∧QV ρ [(3,vI x223)]∧Ext w w'∧St w' M F [B69 bo0 a0 A0_8 c0_8 A0_9 c0_9,Rw QD 112 A0_8 c0_8 a0.T]) ?_ ?_
 ·refine Yr (fun n ρ w'=>∃ (x149:Int) (x150:Int),Q8 a0 n x149 x150=some o224∧QV ρ [(0,pt bo0 0),(3,vI x149),(4,vI x150)]∧Ext w w'∧St w' M F [B69 bo0 a0 A0_8 c0_8 A0_9 c0_9,Rw QD 112 A0_8 c0_8 a0.T]) k ?_ ?_
  ·exact ⟨(0:Int),(0:Int),o224h,agP J,E,S.pk [0,1]⟩
  ·intro n
   rintro ρ w225 ⟨x149,x150,H,hρ,E,S⟩
   rw [QB hρ]
   cases n with
   | zero=>cases H
   | succ k =>
    rw [Q8.eq_2] at H
    refine QH (wsQ (wmI J (wmP J (W_v _ (Qb J) J (wfA Tryz.underlying69 ty67 J (wlA S 0 ty67 J (W_v _ (Qm (n:=a0.L.length) Tryz.underlying67 J) J (wiB J J (wnQ ?_)))))))))
    rcases Q3 H with ⟨hb226,H⟩ | ⟨hb226,H⟩
    ·refine QC (cB hb226) ?_
     refine QX (tn (QH ?_))
     obtain ⟨o262,o262h,o262H⟩:=QO H
     refine Yc (fun ρ w'=>∃ (x261:Int),(x261)=o262∧QV ρ [(0,pt bo0 0),(3,vI x261),(4,vI x150)]∧Ext w w'∧St w' M F [B69 bo0 a0 A0_8 c0_8 A0_9 c0_9,Rw QD 112 A0_8 c0_8 a0.T]) ?_ ?_
     ·as_aux_lemma =>
       clear o262H
       have H:=o262h
       refine ZW ?_
       refine wsQ (wmI J (wmP J (W_v _ (Qb J) J (wfA Tryz.underlying69 ty67 J (wlA S 0 ty67 J (wmI J ?_))))))
       obtain ⟨⟨p263,p264⟩,H⟩:=Z8 H
       obtain ⟨b265,o266,cs267,_,_,ee272,hb268,vs269,hR270,hc271⟩:=SlW.at' hr0_9 p263 p264
       obtain ⟨v276,hs275,rfl⟩:=hR270
       obtain ⟨A273,c274,rfl,_⟩:=hs275.form
       refine W_v _ (QS Tryz.underlying67 ty110 (slA ee272) J p263 p264) J (wfA Tryz.underlying110 ty86 J (W_v _ (Z0 (S.frz hb268) ty86 J (hc271 1 _ J)) J (W_v _ (Qm (n:=((rd a0.L x150).L).length) Tryz.underlying86 J) J (wiI J J (waI J (wnQ (wsQ (wmP J (W_v _ (Qb J) J (wfA Tryz.underlying69 ty67 J (wlA S 0 ty67 J (wmI J ?_))))))))))))
       obtain ⟨⟨p277,p278⟩,H⟩:=Z8 H
       obtain ⟨b279,o280,cs281,_,_,ee286,hb282,vs283,hR284,hc285⟩:=SlW.at' hr0_9 p277 p278
       obtain ⟨v290,hs289,rfl⟩:=hR284
       obtain ⟨A287,c288,rfl,_⟩:=hs289.form
       refine W_v _ (QS Tryz.underlying67 ty110 (slA ee286) J p277 p278) J (wfA Tryz.underlying110 ty4 J (W_v _ (Z0 (S.frz hb282) ty4 J (hc285 2 _ J)) J (wnQ ?_)))
       obtain ⟨o294,o294h,o294H⟩:=QO H
       refine Yc (fun ρ w'=>∃ (x293:Int),(x293)=o294∧QV ρ [(0,pt bo0 0),(3,vI x293),(4,vI x150)]∧Ext w w'∧St w' M F [B69 bo0 a0 A0_8 c0_8 A0_9 c0_9,Rw QD 112 A0_8 c0_8 a0.T]) ?_ ?_
       ·clear o294H
        have H:=o294h
        rcases Q3 H with ⟨hb295,H⟩ | ⟨hb295,H⟩
        ·refine QC (cB hb295) ?_
         refine QJ (wmI J (wiI J J (waI J (wnQ ?_))))
         exact ⟨(IntKind.i64.wrap ((IntKind.i64.wrap (x149+(((rd a0.L x150).L).length:Int)))+(1:Int))),oi H,agP J,E,S.pk [0,1]⟩
        refine QA (cB hb295) (QX (tn ?_))
        exact ⟨(IntKind.i64.wrap (x149+(((rd a0.L x150).L).length:Int))),oi H,agP J,E,S.pk [0,1]⟩
       rintro ρ w296 ⟨x293,rfl,hρ,E,S⟩
       rw [QB hρ]
       have H:=o294H
       refine bn (tn ?_)
       exact ⟨x293,oi H,agP J,E,S.pk [0,1]⟩
     rintro ρ w297 ⟨x261,rfl,hρ,E,S⟩
     rw [QB hρ]
     have H:=o262H
     refine tn (QJ (wmI J (wiI J J (waI J (wnQ ?_)))))
     exact ⟨k,Nat.lt_succ_self k,⟨x261,(IntKind.i64.wrap (x150+(1:Int))),H,agP J,E,S.pk [0,1]⟩⟩
    refine QA (cB hb226) ?_
    refine YZ ?_
    refine tx (tx (bsm (?_)))
    refine tn ?_
    exact ⟨x149,oi H,agP J,E,S.pk [0,1]⟩
 rintro ρ w298 ⟨x223,rfl,hρ,E,S⟩
 rw [QB hρ]
 have H:=o224H
 refine tn ?_
 as_aux_lemma =>
 refine wsQ (wmI J (waI J (wnQ ?_)))
 refine QT ?_
 obtain rfl:=oi H
 exact ⟨_,_,_,rsA (vs:=[_]) J,HM,E,S.pk [0,1],⟨J,J⟩⟩
end Go.Proofs.YtkknoimjgifhlaaGreatDoor
