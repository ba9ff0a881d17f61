import Derived.Test.YtnjbjpaiepefoaaDoorGp2B
import Derived.Test.YtnjbjpaiepefoaaDoorGp2P0
import Derived.Test.YtnjbjpaiepefoaaDoorGp2P4
namespace Go.Proofs.YtnjbjpaiepefoaaDoor
open Go
set_option linter.unusedVariables false
set_option linter.unusedSimpArgs false
set_option maxHeartbeats 80000000
set_option maxRecDepth 100000
def Yw (a0:(List QG)):Nat → List QG → Int → Option ((List QG))
 | 0,_,_=>none
 | k + 1,x90,x94=>(if (decide (x94 < (a0.length:Int))) = true then (if 0 ≤ x94 ∧ x94 < (a0.length:Int) then (Option.bind (XT k (rd a0 x94)) (fun t162=>(if x90.length + ([t162]:List QG).length ≤ 1759218604441 then Yw a0 k (x90 ++ ([t162]:List QG)) (IntKind.i64.wrap (x94 + (1:Int))) else none))) else none) else some (x90))
theorem Yw.mono {a0:(List QG)}:∀ {kl:Nat} {x0 x1},OLe (Yw a0 kl x0 x1) (Yw a0 (kl + 1) x0 x1):=by
 intro kl
 induction kl with
 | zero=>intros; exact OLe.none
 | succ kl ih =>
  intros
  rw [Yw.eq_2,Yw.eq_2]
  have m1:=@XT.mono
  exact mo
def XJ (k:Nat) (a0:(List QG)):Option ((List QG)) :=
 (Option.bind (Yw a0 k ([]:List QG) (0:Int)) (fun x134=>some x134))
theorem XJ.mono {k:Nat} {a0:(List QG)}:OLe (XJ k a0) (XJ (k + 1) a0):=by
 unfold XJ
 have m1:=@Yw.mono
 exact mo
theorem XJ.con (k:Nat) (M:Hp) (A0:Option Addr) (c0:Nat) (a0:(List QG)) (r:(List QG))  (h:XJ k a0 = some r):Con Tryd.prog 51 #[.slice A0 a0.length c0] M [Row QK 55 (.slice A0 a0.length c0) a0] (fun v M' Γ'=>∃ (Aq1:Option Addr) (cq2:Nat),v = .slice Aq1 r.length cq2 ∧ Γ' = [Row QK 55 (.slice Aq1 r.length cq2) r,Row QK 55 (.slice A0 a0.length c0) a0]):=by
 refine Qa Tryd.func51 rfl Tryd.ntmps51 Tryd.results51 rfl ?_
 intro w F rn S hrn
 have E:=Ext.refl w
 have HM:=Hp.le_refl M
 have H:=h
 unfold XJ at H
 refine QE (QA (W_v (.slice none 0 0) (QD rfl) rfl (QB (tn (QE (QA (W_v (.slice none 0 0) (QD rfl) rfl (QB (tn (QE (QE (QA (W_v (.slice A0 a0.length c0) (QC rfl) rfl (W_v (vI (a0.length:Int)) (Qt (n:=a0.length) Tryd.underlying25 rfl) rfl (W_v (vI 0) (QC rfl) rfl ?_)))))))))))))))
 refine QB (tn ?_)
 obtain ⟨o138,o138h,o138H⟩:=QX H
 refine Ya (fun ρ w'=>∃ (x134:List QG) (A135:Option Addr) (c136:Nat) (Mj:Hp),(x134) = o138 ∧ Qs ρ [(3,.slice A135 x134.length c136)] ∧ M.le Mj ∧ Ext w w' ∧ St w' Mj F [Row QK 55 (.slice A135 x134.length c136) x134,Row QK 55 (.slice A0 a0.length c0) a0]) ?_ ?_
 ·skip
  refine Y0 (fun n ρ w'=>∃ (x90:List QG) (x94:Int) (A91:Option Addr) (c92:Nat) (Mj:Hp),Yw a0 n x90 x94 = some o138 ∧ Qs ρ [(3,.slice A91 x90.length c92),(6,.slice A0 a0.length c0),(7,vI (a0.length:Int)),(8,vI x94)] ∧ M.le Mj ∧ Ext w w' ∧ St w' Mj F [Row QK 55 (.slice A91 x90.length c92) x90,Row QK 55 (.slice A0 a0.length c0) a0]) k ?_ ?_
  ·skip
   replace S:=S.row_nil QK 55
   exact ⟨([]:List QG),(0:Int),none,0,M,o138h,⟨rfl,rfl,rfl,rfl,trivial⟩,(Hp.le_refl M),E,S.pick [0,1] (by decide)⟩
  ·intro n
   rintro ρ w140 ⟨x90,x94,A91,c92,M141,H,hρ,hM142,E,S⟩
   rw [QN hρ]
   replace HM:=Hp.le_trans HM hM142
   cases n with
   | zero=>cases H
   | succ k =>
    rw [Yw.eq_2] at H
    refine QE (QA (W_v (.bool (decide (x94 < (a0.length:Int)))) (QT rfl rfl rfl rfl) rfl (QB (tn (QE ?_)))))
    rcases Zh H with ⟨hb143,H⟩ | ⟨hb143,H⟩
    ·refine QL (congrArg Value.bool hb143) ?_
     refine Qg (tn (QE ?_))
     refine Z0 ?_
     refine QE (QA ?_)
     obtain ⟨⟨p144,p145⟩,H⟩:=Zt H
     obtain ⟨b146,o147,cs148,_,_,ee153,hb149,vs150,hR151,hc152⟩:=SlW.at' (S.row_read 1 rfl) p144 p145
     obtain ⟨v157,hs156,rfl⟩:=hR151
     obtain ⟨A154,c155,rfl,_⟩:=hs156.form
     refine W_v (.pointer (some ⟨b146,o147 + x94.toNat * 7,none⟩)) (Qe Tryd.underlying25 ty55 (slA ee153) rfl p144 p145) rfl (W_v (.agg #[vU ((rd a0 x94).What),vI ((rd a0 x94).Task),vI ((rd a0 x94).Call),vI ((rd a0 x94).Answer.Err),.bool ((rd a0 x94).Answer.Found),vS ((rd a0 x94).Answer.Value),.slice A154 ((rd a0 x94).Answer.Pairs).length c155]) (Qh (Hp.of_get hb149) ty55 rfl (XC hc152 0 rfl) rfl rfl) rfl ?_)
     refine Zu S cz5 ty55 rfl rfl ?_
     intro b158 w159 E' S
     replace E:=E.trans E'
     refine Q5 S 0 rfl ty55 rfl rfl [vU ((rd a0 x94).What),vI ((rd a0 x94).Task),vI ((rd a0 x94).Call),vI ((rd a0 x94).Answer.Err),.bool ((rd a0 x94).Answer.Found),vS ((rd a0 x94).Answer.Value),.slice A154 ((rd a0 x94).Answer.Pairs).length c155] rfl rfl rfl #[vU ((rd a0 x94).What),vI ((rd a0 x94).Task),vI ((rd a0 x94).Call),vI ((rd a0 x94).Answer.Err),.bool ((rd a0 x94).Answer.Found),vS ((rd a0 x94).Answer.Value),.slice A154 ((rd a0 x94).Answer.Pairs).length c155] (by as_aux_lemma=>kernel_rfl) rfl ?_
     intro w161 E' S
     replace E:=E.trans E'
     refine QB (tn (QA (W_v (.slice A91 x90.length c92) (QC rfl) rfl (W_v (.agg #[vU ((rd a0 x94).What),vI ((rd a0 x94).Task),vI ((rd a0 x94).Call),vI ((rd a0 x94).Answer.Err),.bool ((rd a0 x94).Answer.Found),vS ((rd a0 x94).Answer.Value),.slice A154 ((rd a0 x94).Answer.Pairs).length c155]) (Qh (S.blk 0 rfl) ty55 rfl (QI rfl) rfl rfl) rfl ?_))))
     obtain ⟨t162,ht163,H⟩:=QX H
     refine YJ fn68 (XT.con k M141 A154 c155 (rd a0 x94) t162 hs156 ht163) S rfl rfl (by rintro _ _ _ ⟨_,_,_,rfl⟩; exact (QS (Yb (fun _ _ _ _ h=>h)) Qd)) ?_
     rintro _ w167 _ Γ' E' S ⟨A164,c165,rfl,rfl⟩
     replace E:=E.trans E'
     obtain ⟨M168,hM169,hf170,S⟩:=S.row_freeze 0 rfl
     replace HM:=Hp.le_trans HM hM169
     replace hM142:=Hp.le_trans hM142 hM169
     refine Y6 S #[vU t162.What,vI t162.Task,vI t162.Call,vI t162.Answer.Err,.bool t162.Answer.Found,vS t162.Answer.Value,.slice A164 t162.Answer.Pairs.length c165] Tryd.underlying25 ty55 rfl rfl cz5 (by as_aux_lemma=>kernel_rfl) (by as_aux_lemma=>kernel_rfl) rfl ?_
     intro b171 w172 E' S
     replace E:=E.trans E'
     replace S:=S.blk_row (r:=QK) (l:=([t162]:List QG)) 0 rfl 1 (Nat.le_refl 1) rfl (Cells.cons (vs:=[vU t162.What,vI t162.Task,vI t162.Call,vI t162.Answer.Err,.bool t162.Answer.Found,vS t162.Answer.Value,.slice A164 t162.Answer.Pairs.length c165]) (⟨_,hf170,rfl⟩) Cells.nil)
     obtain ⟨p174,H⟩:=Zt H
     obtain ⟨src175,hs176,hC177⟩:=Yj (P:=Tryd.prog) (ρ:=QK) (l:=([t162]:List QG)) (S.row_read 0 rfl) (by decide)
     refine XN S 2 rfl rfl rfl Tryd.underlying25 (.inl Tryd.underlying25) ty55 rfl (by decide) (by decide) hs176 hC177 rfl (by omega) rfl ?_
     intro v178 w179 E' S
     replace E:=E.trans E'
     obtain ⟨A180,c181,rfl,_⟩:=(S.row_read 2 rfl).form
     refine W_v (.slice A180 (x90 ++ ([t162]:List QG)).length c181) (QD rfl) rfl (QB (bn (tn (QA (W_v (vI (IntKind.i64.wrap (x94 + (1:Int)))) (QT rfl rfl rfl rfl) rfl (W_v (vI (IntKind.i64.wrap (x94 + (1:Int)))) (QC rfl) rfl (QB (tn ?_))))))))
     exact ⟨k,Nat.lt_succ_self k,⟨(x90 ++ ([t162]:List QG)),(IntKind.i64.wrap (x94 + (1:Int))),A180,c181,M168,H,⟨rfl,rfl,rfl,rfl,trivial⟩,hM142,E,S.pick [2,3] (by decide)⟩⟩
    refine QJ (congrArg Value.bool hb143) ?_
    refine Yo ?_
    refine tx (tx (bsm (?_)))
    refine tn ?_
    exact ⟨x90,A91,c92,M141,Option.some.inj H,⟨rfl,trivial⟩,hM142,E,S.pick [0,1] (by decide)⟩
 rintro ρ w182 ⟨x134,A135,c136,M183,rfl,hρ,hM184,E,S⟩
 rw [QN hρ]
 replace HM:=Hp.le_trans HM hM184
 have H:=o138H
 refine tn ?_
 as_aux_lemma =>
 refine QE (QA (W_v (.slice A135 x134.length c136) (QC rfl) rfl (W_v (.slice A135 x134.length c136) (QD rfl) rfl (QB (tn ?_)))))
 refine QY ?_
 obtain rfl:=Option.some.inj H
 exact ⟨_,_,_,fun w1 e1=>QO (vs:=[.slice A135 x134.length c136]) (FA.cons (rfl) (FA.nil)),HM,E,S.pick [0,1] (by decide),⟨A135,c136,rfl,rfl⟩⟩
def XR (k:Nat) (a0:(List QG)):Option ((List QG)) :=
 (Option.bind (XJ k a0) (fun t1=>(Option.bind (Qn k t1) (fun t9=>some t9))))
theorem XR.mono {k:Nat} {a0:(List QG)}:OLe (XR k a0) (XR (k + 1) a0):=by
 unfold XR
 have m1:=@XJ.mono
 have m2:=@Qn.mono
 exact mo
theorem XR.con (k:Nat) (M:Hp) (A0:Option Addr) (c0:Nat) (a0:(List QG)) (r:(List QG))  (h:XR k a0 = some r):Con Tryd.prog 17 #[.slice A0 a0.length c0] M [Row QK 55 (.slice A0 a0.length c0) a0] (fun v M' Γ'=>∃ (Aq1:Option Addr) (cq2:Nat),v = .slice Aq1 r.length cq2 ∧ Γ' = [Row QK 55 (.slice Aq1 r.length cq2) r,Row QK 55 (.slice A0 a0.length c0) a0]):=by
 refine Qa Tryd.func17 rfl Tryd.ntmps17 Tryd.results17 rfl ?_
 intro w F rn S hrn
 have E:=Ext.refl w
 have HM:=Hp.le_refl M
 have H:=h
 unfold XR at H
 refine QE (QA (W_v (.slice none 0 0) (QD rfl) rfl (QB (tn (QE (QA (W_v (.slice A0 a0.length c0) (QC rfl) rfl ?_)))))))
 obtain ⟨t1,ht2,H⟩:=QX H
 refine ZZ fn51 (XJ.con k M A0 c0 a0 t1  ht2) (Γ1:=[_]) (Γ2:=[]) S rfl rfl ?_
 rintro _ w6 M7 Γ' hM8 E' S ⟨A3,c4,rfl,rfl⟩
 replace HM:=Hp.le_trans HM hM8
 replace E:=E.trans E'
 replace S:St w6 M7 F [_,_]:=S
 obtain ⟨t9,ht10,H⟩:=QX H
 refine ZZ fn50 (Qn.con k M7 A3 c4 t1 t9  ht10) (Γ1:=[_]) (Γ2:=[_]) S rfl rfl ?_
 rintro _ w14 M15 Γ' hM16 E' S ⟨A11,c12,rfl,rfl⟩
 replace HM:=Hp.le_trans HM hM16
 replace E:=E.trans E'
 replace S:St w14 M15 F [_,_]:=S
 refine W_v (.slice A11 t9.length c12) (QD rfl) rfl (QB (tn ?_))
 refine QY ?_
 obtain rfl:=Option.some.inj H
 exact ⟨_,_,_,fun w1 e1=>QO (vs:=[.slice A11 t9.length c12]) (FA.cons (rfl) (FA.nil)),HM,E,S.pick [0,1] (by decide),⟨A11,c12,rfl,rfl⟩⟩
def YZ (k:Nat) (a0:Qo) (a1:(List (List QW))) (a2:(List QG)) (a3:Int):Option (Bool) :=
 (Option.bind (ZP k ) (fun t4=>(Option.bind (α:=Bool) (if (!t4) = true then some (true) else (Option.bind (ZW k a1 a2) (fun t16=>some (t16)))) (fun x14=>(if x14 = true then (Option.bind (ZP k ) (fun t21=>some t21)) else (Option.bind (YQ k a0 a1 a2) (fun t24=>(Option.bind (Zi k a0 a1 t24) (fun t32=>(Option.bind (XR k t24) (fun t35=>(if (((t32.2 != (0:Int)) || (decide ((t35.length:Int) > (20:Int)))) || (decide (a0.Tasks > (4:Int)))) = true then some true else (Option.bind (YD k a0 a1 t35) (fun t46=>(if ((!t46.1) || (t46.2 != (0:Int))) = true then some false else (if ((t35.length:Int) == (0:Int)) = true then some true else (if 0 ≤ (IntKind.i64.wrap ((t35.length:Int) - (1:Int))) ∧ (IntKind.i64.wrap ((t35.length:Int) - (1:Int))) ≤ (t35.length:Int) then (Option.bind (YD k a0 a1 (List.take (IntKind.i64.wrap ((t35.length:Int) - (1:Int))).toNat t35)) (fun t63=>(if ((!t63.1) || (t63.2 != (0:Int))) = true then some false else (if (IntKind.u64.wrap (t35.length:Int)) ≠ 0 then (Option.bind (α:=Bool) (if (decide ((IntKind.i64.wrap ((IntKind.i64.wrap (Int.tmod (IntKind.u64.wrap a3) (IntKind.u64.wrap (t35.length:Int)))) + (1:Int))) ≥ (t35.length:Int))) = true then some (true) else (if 0 ≤ (IntKind.i64.wrap (Int.tmod (IntKind.u64.wrap a3) (IntKind.u64.wrap (t35.length:Int)))) ∧ (IntKind.i64.wrap (Int.tmod (IntKind.u64.wrap a3) (IntKind.u64.wrap (t35.length:Int)))) < (t35.length:Int) then (if 0 ≤ (IntKind.i64.wrap ((IntKind.i64.wrap (Int.tmod (IntKind.u64.wrap a3) (IntKind.u64.wrap (t35.length:Int)))) + (1:Int))) ∧ (IntKind.i64.wrap ((IntKind.i64.wrap (Int.tmod (IntKind.u64.wrap a3) (IntKind.u64.wrap (t35.length:Int)))) + (1:Int))) < (t35.length:Int) then some (((rd t35 (IntKind.i64.wrap (Int.tmod (IntKind.u64.wrap a3) (IntKind.u64.wrap (t35.length:Int))))).Task == (rd t35 (IntKind.i64.wrap ((IntKind.i64.wrap (Int.tmod (IntKind.u64.wrap a3) (IntKind.u64.wrap (t35.length:Int)))) + (1:Int)))).Task)) else none) else none)) (fun x160=>(if x160 = true then some true else (if 0 ≤ (IntKind.i64.wrap (Int.tmod (IntKind.u64.wrap a3) (IntKind.u64.wrap (t35.length:Int)))) ∧ (IntKind.i64.wrap (Int.tmod (IntKind.u64.wrap a3) (IntKind.u64.wrap (t35.length:Int)))) < (t35.length:Int) then (Option.bind (α:=Bool) (if ((rd t35 (IntKind.i64.wrap (Int.tmod (IntKind.u64.wrap a3) (IntKind.u64.wrap (t35.length:Int))))).What != (3:Int)) = true then (if 0 ≤ (IntKind.i64.wrap ((IntKind.i64.wrap (Int.tmod (IntKind.u64.wrap a3) (IntKind.u64.wrap (t35.length:Int)))) + (1:Int))) ∧ (IntKind.i64.wrap ((IntKind.i64.wrap (Int.tmod (IntKind.u64.wrap a3) (IntKind.u64.wrap (t35.length:Int)))) + (1:Int))) < (t35.length:Int) then some (((rd t35 (IntKind.i64.wrap ((IntKind.i64.wrap (Int.tmod (IntKind.u64.wrap a3) (IntKind.u64.wrap (t35.length:Int)))) + (1:Int)))).What != (1:Int))) else none) else some (false)) (fun x235=>(Option.bind (α:=Bool) (if x235 = true then some (true) else (if 0 ≤ (IntKind.i64.wrap (Int.tmod (IntKind.u64.wrap a3) (IntKind.u64.wrap (t35.length:Int)))) ∧ (IntKind.i64.wrap (Int.tmod (IntKind.u64.wrap a3) (IntKind.u64.wrap (t35.length:Int)))) < (t35.length:Int) then (Option.bind (α:=Bool) (if ((rd t35 (IntKind.i64.wrap (Int.tmod (IntKind.u64.wrap a3) (IntKind.u64.wrap (t35.length:Int))))).What == (1:Int)) = true then (if 0 ≤ (IntKind.i64.wrap ((IntKind.i64.wrap (Int.tmod (IntKind.u64.wrap a3) (IntKind.u64.wrap (t35.length:Int)))) + (1:Int))) ∧ (IntKind.i64.wrap ((IntKind.i64.wrap (Int.tmod (IntKind.u64.wrap a3) (IntKind.u64.wrap (t35.length:Int)))) + (1:Int))) < (t35.length:Int) then some (((rd t35 (IntKind.i64.wrap ((IntKind.i64.wrap (Int.tmod (IntKind.u64.wrap a3) (IntKind.u64.wrap (t35.length:Int)))) + (1:Int)))).What == (3:Int))) else none) else some (false)) (fun x418=>some (x418))) else none)) (fun x373=>(if x373 = true then some true else (if 0 ≤ (IntKind.i64.wrap ((IntKind.i64.wrap (Int.tmod (IntKind.u64.wrap a3) (IntKind.u64.wrap (t35.length:Int)))) + (1:Int))) ∧ (IntKind.i64.wrap ((IntKind.i64.wrap (Int.tmod (IntKind.u64.wrap a3) (IntKind.u64.wrap (t35.length:Int)))) + (1:Int))) < (t35.length:Int) then (if 0 ≤ (IntKind.i64.wrap (Int.tmod (IntKind.u64.wrap a3) (IntKind.u64.wrap (t35.length:Int)))) ∧ (IntKind.i64.wrap (Int.tmod (IntKind.u64.wrap a3) (IntKind.u64.wrap (t35.length:Int)))) < (t35.length:Int) then (Option.bind (α:=List Qu × List Qu) (some ((rd t35 (IntKind.i64.wrap ((IntKind.i64.wrap (Int.tmod (IntKind.u64.wrap a3) (IntKind.u64.wrap (t35.length:Int)))) + (1:Int)))).Answer.Pairs,(rd t35 (IntKind.i64.wrap (Int.tmod (IntKind.u64.wrap a3) (IntKind.u64.wrap (t35.length:Int))))).Answer.Pairs)) (fun ⟨x590,x594⟩=>(if 0 ≤ (IntKind.i64.wrap (Int.tmod (IntKind.u64.wrap a3) (IntKind.u64.wrap (t35.length:Int)))) ∧ (IntKind.i64.wrap (Int.tmod (IntKind.u64.wrap a3) (IntKind.u64.wrap (t35.length:Int)))) < (t35.length:Int) then (Option.bind (α:=List QG) (some (List.set t35 (IntKind.i64.wrap (Int.tmod (IntKind.u64.wrap a3) (IntKind.u64.wrap (t35.length:Int)))).toNat (⟨(rd t35 (IntKind.i64.wrap ((IntKind.i64.wrap (Int.tmod (IntKind.u64.wrap a3) (IntKind.u64.wrap (t35.length:Int)))) + (1:Int)))).What,(rd t35 (IntKind.i64.wrap ((IntKind.i64.wrap (Int.tmod (IntKind.u64.wrap a3) (IntKind.u64.wrap (t35.length:Int)))) + (1:Int)))).Task,(rd t35 (IntKind.i64.wrap ((IntKind.i64.wrap (Int.tmod (IntKind.u64.wrap a3) (IntKind.u64.wrap (t35.length:Int)))) + (1:Int)))).Call,⟨(rd t35 (IntKind.i64.wrap ((IntKind.i64.wrap (Int.tmod (IntKind.u64.wrap a3) (IntKind.u64.wrap (t35.length:Int)))) + (1:Int)))).Answer.Err,(rd t35 (IntKind.i64.wrap ((IntKind.i64.wrap (Int.tmod (IntKind.u64.wrap a3) (IntKind.u64.wrap (t35.length:Int)))) + (1:Int)))).Answer.Found,(rd t35 (IntKind.i64.wrap ((IntKind.i64.wrap (Int.tmod (IntKind.u64.wrap a3) (IntKind.u64.wrap (t35.length:Int)))) + (1:Int)))).Answer.Value,x590⟩⟩:QG))) (fun x645=>(if 0 ≤ (IntKind.i64.wrap ((IntKind.i64.wrap (Int.tmod (IntKind.u64.wrap a3) (IntKind.u64.wrap (t35.length:Int)))) + (1:Int))) ∧ (IntKind.i64.wrap ((IntKind.i64.wrap (Int.tmod (IntKind.u64.wrap a3) (IntKind.u64.wrap (t35.length:Int)))) + (1:Int))) < (x645.length:Int) then (Option.bind (α:=List QG) (some (List.set x645 (IntKind.i64.wrap ((IntKind.i64.wrap (Int.tmod (IntKind.u64.wrap a3) (IntKind.u64.wrap (t35.length:Int)))) + (1:Int))).toNat (⟨(rd t35 (IntKind.i64.wrap (Int.tmod (IntKind.u64.wrap a3) (IntKind.u64.wrap (t35.length:Int))))).What,(rd t35 (IntKind.i64.wrap (Int.tmod (IntKind.u64.wrap a3) (IntKind.u64.wrap (t35.length:Int))))).Task,(rd t35 (IntKind.i64.wrap (Int.tmod (IntKind.u64.wrap a3) (IntKind.u64.wrap (t35.length:Int))))).Call,⟨(rd t35 (IntKind.i64.wrap (Int.tmod (IntKind.u64.wrap a3) (IntKind.u64.wrap (t35.length:Int))))).Answer.Err,(rd t35 (IntKind.i64.wrap (Int.tmod (IntKind.u64.wrap a3) (IntKind.u64.wrap (t35.length:Int))))).Answer.Found,(rd t35 (IntKind.i64.wrap (Int.tmod (IntKind.u64.wrap a3) (IntKind.u64.wrap (t35.length:Int))))).Answer.Value,x594⟩⟩:QG))) (fun x664=>(Option.bind (YD k a0 a1 x664) (fun t669=>some (t669.1 && (t669.2 == (0:Int))))))) else none))) else none))) else none) else none)))))) else none)))) else none)))) else none)))))))))))))))))
theorem YZ.mono {k:Nat} {a0:Qo} {a1:(List (List QW))} {a2:(List QG)} {a3:Int}:OLe (YZ k a0 a1 a2 a3) (YZ (k + 1) a0 a1 a2 a3):=by
 unfold YZ
 have m1:=@XR.mono
 have m2:=@ZW.mono
 have m3:=@YQ.mono
 have m4:=@ZP.mono
 have m5:=@Zi.mono
 have m6:=@YD.mono
 exact mo
theorem YZ.con (k:Nat) (M:Hp) (a0:Qo) (A1:Option Addr) (c1:Nat) (a1:(List (List QW))) (A2:Option Addr) (c2:Nat) (a2:(List QG)) (a3:Int) (r:Bool) (hr1:SlR (rSl ZV) M (.slice A1 a1.length c1) a1) (hr2:SlR QK M (.slice A2 a2.length c2) a2) (hg0:∃ gt fr,M 0 = some (.cells cz1 gt fr)) (hg1:∃ gt fr,M 1 = some (.cells cz3 gt fr)) (h:YZ k a0 a1 a2 a3 = some r):Con Tryd.prog 5 #[.agg #[vI a0.Tasks,vI a0.Active,vI a0.Keys,vI a0.Depth,vI a0.TS,vI a0.KeyLen,vI a0.ValLen,vI a0.Fan],.slice A1 a1.length c1,.slice A2 a2.length c2,vI a3] M [] (fun v M' Γ'=>v = .bool r ∧ Γ' = []):=by
 refine Qa Tryd.func5 rfl Tryd.ntmps5 Tryd.results5 rfl ?_
 intro w F rn S hrn
 have E:=Ext.refl w
 have HM:=Hp.le_refl M
 have H:=h
 unfold YZ at H
 refine QE (QA ?_)
 refine YO S #[vI a0.Tasks,vI a0.Active,vI a0.Keys,vI a0.Depth,vI a0.TS,vI a0.KeyLen,vI a0.ValLen,vI a0.Fan] rfl rfl rfl ?_
 intro b1 w2 E' S
 replace E:=E.trans E'
 refine W_v (.bool false) (QD rfl) rfl (QB (tn (QE (QE (QA ?_)))))
 obtain ⟨t4,ht5,H⟩:=QX H
 refine YJ fn9 (ZP.con k M  t4 hg0 hg1 ht5) S rfl rfl (by rintro _ _ _ ⟨_,rfl⟩; exact Qd) ?_
 rintro _ w6 _ Γ' E' S ⟨rfl,rfl⟩
 replace E:=E.trans E'
 refine W_v (.bool (!t4)) (Yx (b:=t4) rfl) rfl (W_v (.bool (!t4)) (QC rfl) rfl ?_)
 obtain ⟨o15,o15h,o15H⟩:=QX H
 refine ZI 4 (fun ρ w'=>∃ (x14:Bool),(x14) = o15 ∧ Qs ρ [(1,.slice A1 a1.length c1),(2,.slice A2 a2.length c2),(3,vI a3),(4,pt b1 0),(22,.bool x14)] ∧ Ext w w' ∧ St w' M F [B23 b1 a0]) ?_ ?_
 ·have H:=o15h
  rcases Zh H with ⟨hb13,H⟩ | ⟨hb13,H⟩
  ·skip
   refine Qk (skF hb13) rfl (Qk (skF hb13) rfl (Qk (skF hb13) rfl (W_v (.bool true) (QZ (k:=true) (congrArg Value.bool hb13) rfl) rfl (QB ?_))))
   exact ⟨true,Option.some.inj H,⟨rfl,rfl,rfl,rfl,rfl,trivial⟩,E,S.pick [0] (by decide)⟩
  ·skip
   refine QU (congrArg some hb13) (W_v (.slice A1 a1.length c1) (QC rfl) rfl (QU (congrArg some hb13) (W_v (.slice A2 a2.length c2) (QC rfl) rfl (QU (congrArg some hb13) ?_))))
   obtain ⟨t16,ht17,H⟩:=QX H
   refine YJ fn8 (ZW.con k M A1 c1 a1 A2 c2 a2 t16 hr1 hr2 ht17) S rfl rfl (by rintro _ _ _ ⟨_,rfl⟩; exact Qd) ?_
   rintro _ w18 _ Γ' E' S ⟨rfl,rfl⟩
   replace E:=E.trans E'
   refine W_v (.bool t16) (QZ (k:=false) (congrArg Value.bool hb13) rfl) rfl (QB ?_)
   exact ⟨t16,Option.some.inj H,⟨rfl,rfl,rfl,rfl,rfl,trivial⟩,E,S.pick [0] (by decide)⟩
 as_aux_lemma =>
 rintro ρ w19 ⟨x14,rfl,hρ,E,S⟩
 rw [QN hρ]
 have H:=o15H
 refine QB (tn ?_)
 rcases Zh H with ⟨hb20,H⟩ | ⟨hb20,H⟩
 ·refine QL (congrArg Value.bool hb20) ?_
  refine QE (QA ?_)
  obtain ⟨t21,ht22,H⟩:=QX H
  refine YJ fn9 (ZP.con k M  t21 hg0 hg1 ht22) S rfl rfl (by rintro _ _ _ ⟨_,rfl⟩; exact Qd) ?_
  rintro _ w23 _ Γ' E' S ⟨rfl,rfl⟩
  replace E:=E.trans E'
  refine W_v (.bool t21) (QD rfl) rfl (QB (tn ?_))
  refine QY ?_
  refine tr (?_)
  obtain rfl:=Option.some.inj H
  exact ⟨_,_,_,fun w1 e1=>QO (vs:=[.bool t21]) (FA.cons (rfl) (FA.nil)),HM,E,S.pick [] (by decide),⟨rfl,rfl⟩⟩
 refine QJ (congrArg Value.bool hb20) (Qg (tn (QE (QA (W_v (.agg #[vI a0.Tasks,vI a0.Active,vI a0.Keys,vI a0.Depth,vI a0.TS,vI a0.KeyLen,vI a0.ValLen,vI a0.Fan]) (Qh (S.blk 0 rfl) ty23 rfl (QI rfl) rfl rfl) rfl (W_v (.slice A1 a1.length c1) (QC rfl) rfl (W_v (.slice A2 a2.length c2) (QC rfl) rfl ?_)))))))
 obtain ⟨t24,ht25,H⟩:=QX H
 refine ZZ fn19 (YQ.con k M a0 A1 c1 a1 A2 c2 a2 t24 hr1 hr2 hg0 hg1 ht25) (Γ1:=[]) (Γ2:=[_]) S rfl rfl ?_
 rintro _ w29 M30 Γ' hM31 E' S ⟨A26,c27,rfl,rfl⟩
 replace hg0:=gup hg0 hM31
 replace hg1:=gup hg1 hM31
 replace HM:=Hp.le_trans HM hM31
 replace hr1:=SlR.mono hr1 hM31
 replace E:=E.trans E'
 refine W_v (.slice A26 t24.length c27) (QD rfl) rfl (QB (tn (QE (QA (W_v (.agg #[vI a0.Tasks,vI a0.Active,vI a0.Keys,vI a0.Depth,vI a0.TS,vI a0.KeyLen,vI a0.ValLen,vI a0.Fan]) (Qh (S.blk 1 rfl) ty23 rfl (QI rfl) rfl rfl) rfl (W_v (.slice A1 a1.length c1) (QC rfl) rfl (W_v (.slice A26 t24.length c27) (QC rfl) rfl ?_)))))))
 obtain ⟨t32,ht33,H⟩:=QX H
 refine XX 1 fn20 (fun h9 hs9 hd9=>Zi.con k _ a0 A1 c1 a1 A26 c27 t24 t32 (SlR.mono hr1 (Hp.le_union_left _ _)) (Sats.row hs9 hd9 0 rfl) (let ⟨gt,fr,h8⟩:=hg0; ⟨gt,fr,Hp.le_union_left _ _ _ _ h8⟩) (let ⟨gt,fr,h8⟩:=hg1; ⟨gt,fr,Hp.le_union_left _ _ _ _ h8⟩) ht33) S rfl rfl (by rintro _ _ _ ⟨_,rfl⟩; exact Qd) ?_
 rintro _ w34 _ Γ' E' S ⟨rfl,rfl⟩
 replace E:=E.trans E'
 refine W_v (.tuple #[vI t32.1,vI t32.2]) (QC rfl) rfl (W_v (vI t32.1) (QQ rfl rfl) rfl (W_v (vI t32.2) (QQ rfl rfl) rfl (W_v (vI t32.1) (QD rfl) rfl (W_v (vI t32.2) (QD rfl) rfl (QB (tn ?_))))))
 as_aux_lemma =>
 refine QE (QA (W_v (.slice A26 t24.length c27) (QC rfl) rfl ?_))
 obtain ⟨t35,ht36,H⟩:=QX H
 refine ZZ fn17 (XR.con k M30 A26 c27 t24 t35  ht36) (Γ1:=[_]) (Γ2:=[_]) S rfl rfl ?_
 rintro _ w40 M41 Γ' hM42 E' S ⟨A37,c38,rfl,rfl⟩
 replace hg0:=gup hg0 hM42
 replace hg1:=gup hg1 hM42
 replace HM:=Hp.le_trans HM hM42
 replace hr1:=SlR.mono hr1 hM42
 replace E:=E.trans E'
 replace S:St w40 M41 F [_,_,_]:=S
 refine W_v (.slice A37 t35.length c38) (QD rfl) rfl (QB (tn (QE (QE (QA (W_v (vI t32.2) (QC rfl) rfl (W_v (.bool (t32.2 != (0:Int))) (QT rfl rfl rfl rfl) rfl (W_v (.bool (t32.2 != (0:Int))) (QC rfl) rfl ?_))))))))
 refine ZI 4 (fun ρ w'=>Qs ρ [(1,.slice A1 a1.length c1),(3,vI a3),(4,pt b1 0),(12,.slice A37 t35.length c38),(43,.bool ((t32.2 != (0:Int)) || (decide ((t35.length:Int) > (20:Int)))))] ∧ w40 = w') ?_ ?_
 ·rcases Qw (t32.2 != (0:Int)) with hb43 | hb43
  ·skip
   refine QU (congrArg some hb43) (W_v (.slice A37 t35.length c38) (QC rfl) rfl (QU (congrArg some hb43) (W_v (vI (t35.length:Int)) (Qt (n:=t35.length) Tryd.underlying25 rfl) rfl (QU (congrArg some hb43) (W_v (.bool (decide ((t35.length:Int) > (20:Int)))) (QT rfl rfl rfl rfl) rfl (W_v (.bool (decide ((t35.length:Int) > (20:Int)))) (QZ (k:=false) (congrArg Value.bool hb43) rfl) rfl (QB ?_)))))))
   exact ⟨⟨rfl,rfl,rfl,rfl,(by first | rfl | (rw [hb43]; rfl) | (simp only [hb43]; rfl)),trivial⟩,rfl⟩
  ·skip
   refine Qk (skF hb43) rfl (Qk (skF hb43) rfl (Qk (skF hb43) rfl (W_v (.bool true) (QZ (k:=true) (congrArg Value.bool hb43) rfl) rfl (QB ?_))))
   exact ⟨⟨rfl,rfl,rfl,rfl,(by first | rfl | (rw [hb43]; rfl) | (simp only [hb43]; rfl)),trivial⟩,rfl⟩
 as_aux_lemma =>
 rintro ρ _ ⟨hρ,rfl⟩
 rw [QN hρ]
 refine W_v (.bool ((t32.2 != (0:Int)) || (decide ((t35.length:Int) > (20:Int))))) (QC rfl) rfl ?_
 refine ZI 4 (fun ρ w'=>Qs ρ [(1,.slice A1 a1.length c1),(3,vI a3),(4,pt b1 0),(12,.slice A37 t35.length c38),(48,.bool (((t32.2 != (0:Int)) || (decide ((t35.length:Int) > (20:Int)))) || (decide (a0.Tasks > (4:Int)))))] ∧ w40 = w') ?_ ?_
 ·rcases Qw ((t32.2 != (0:Int)) || (decide ((t35.length:Int) > (20:Int)))) with hb44 | hb44
  ·skip
   refine QU (congrArg some hb44) (W_v (pt b1 0) (QF (o:=0) (off:=0) Tryd.underlying23 rfl ty3 rfl rfl) rfl (QU (congrArg some hb44) (W_v (vI a0.Tasks) (QR (S.blk 2 rfl) ty3 rfl rfl) rfl (QU (congrArg some hb44) (W_v (.bool (decide (a0.Tasks > (4:Int)))) (QT rfl rfl rfl rfl) rfl (W_v (.bool (decide (a0.Tasks > (4:Int)))) (QZ (k:=false) (congrArg Value.bool hb44) rfl) rfl (QB ?_)))))))
   exact ⟨⟨rfl,rfl,rfl,rfl,(by first | rfl | (rw [hb44]; rfl) | (simp only [hb44]; rfl)),trivial⟩,rfl⟩
  ·skip
   refine Qk (skF hb44) rfl (Qk (skF hb44) rfl (Qk (skF hb44) rfl (W_v (.bool true) (QZ (k:=true) (congrArg Value.bool hb44) rfl) rfl (QB ?_))))
   exact ⟨⟨rfl,rfl,rfl,rfl,(by first | rfl | (rw [hb44]; rfl) | (simp only [hb44]; rfl)),trivial⟩,rfl⟩
 as_aux_lemma =>
 rintro ρ _ ⟨hρ,rfl⟩
 rw [QN hρ]
 refine QB (tn ?_)
 rcases Zh H with ⟨hb45,H⟩ | ⟨hb45,H⟩
 ·refine QL (congrArg Value.bool hb45) ?_
  refine QE (QA (W_v (.bool true) (QD rfl) rfl (QB (tn ?_))))
  refine QY ?_
  refine tr (?_)
  obtain rfl:=Option.some.inj H
  exact ⟨_,_,_,fun w1 e1=>QO (vs:=[.bool true]) (FA.cons (rfl) (FA.nil)),HM,E,S.pick [] (by decide),⟨rfl,rfl⟩⟩
 refine QJ (congrArg Value.bool hb45) (Qg (tn (QE (QA (W_v (.agg #[vI a0.Tasks,vI a0.Active,vI a0.Keys,vI a0.Depth,vI a0.TS,vI a0.KeyLen,vI a0.ValLen,vI a0.Fan]) (Qh (S.blk 2 rfl) ty23 rfl (QI rfl) rfl rfl) rfl (W_v (.slice A1 a1.length c1) (QC rfl) rfl (W_v (.slice A37 t35.length c38) (QC rfl) rfl ?_)))))))
 obtain ⟨t46,ht47,H⟩:=QX H
 refine XX 1 fn10 (fun h9 hs9 hd9=>YD.con k _ a0 A1 c1 a1 A37 c38 t35 t46 (SlR.mono hr1 (Hp.le_union_left _ _)) (Sats.row hs9 hd9 0 rfl) (let ⟨gt,fr,h8⟩:=hg0; ⟨gt,fr,Hp.le_union_left _ _ _ _ h8⟩) (let ⟨gt,fr,h8⟩:=hg1; ⟨gt,fr,Hp.le_union_left _ _ _ _ h8⟩) ht47) S rfl rfl (by rintro _ _ _ ⟨_,rfl⟩; exact Qd) ?_
 rintro _ w48 _ Γ' E' S ⟨rfl,rfl⟩
 replace E:=E.trans E'
 refine W_v (.tuple #[.bool t46.1,vI t46.2]) (QC rfl) rfl (W_v (.bool t46.1) (QQ rfl rfl) rfl (W_v (vI t46.2) (QQ rfl rfl) rfl (W_v (.bool t46.1) (QD rfl) rfl (W_v (vI t46.2) (QD rfl) rfl (QB (tn (QE (QE (QA (W_v (.bool t46.1) (QC rfl) rfl (W_v (.bool (!t46.1)) (Yx (b:=t46.1) rfl) rfl (W_v (.bool (!t46.1)) (QC rfl) rfl ?_))))))))))))
 refine ZI 3 (fun ρ w'=>Qs ρ [(1,.slice A1 a1.length c1),(3,vI a3),(4,pt b1 0),(12,.slice A37 t35.length c38),(61,.bool ((!t46.1) || (t46.2 != (0:Int))))] ∧ w48 = w') ?_ ?_
 ·rcases Qw (!t46.1) with hb49 | hb49
  ·skip
   refine QU (congrArg some hb49) (W_v (vI t46.2) (QC rfl) rfl (QU (congrArg some hb49) (W_v (.bool (t46.2 != (0:Int))) (QT rfl rfl rfl rfl) rfl (W_v (.bool (t46.2 != (0:Int))) (QZ (k:=false) (congrArg Value.bool hb49) rfl) rfl (QB ?_)))))
   exact ⟨⟨rfl,rfl,rfl,rfl,(by first | rfl | (rw [hb49]; rfl) | (simp only [hb49]; rfl)),trivial⟩,rfl⟩
  ·skip
   refine Qk (skF hb49) rfl (Qk (skF hb49) rfl (W_v (.bool true) (QZ (k:=true) (congrArg Value.bool hb49) rfl) rfl (QB ?_)))
   exact ⟨⟨rfl,rfl,rfl,rfl,(by first | rfl | (rw [hb49]; rfl) | (simp only [hb49]; rfl)),trivial⟩,rfl⟩
 as_aux_lemma =>
 rintro ρ _ ⟨hρ,rfl⟩
 rw [QN hρ]
 refine QB (tn ?_)
 rcases Zh H with ⟨hb50,H⟩ | ⟨hb50,H⟩
 ·refine QL (congrArg Value.bool hb50) ?_
  refine QE (QA (W_v (.bool false) (QD rfl) rfl (QB (tn ?_))))
  refine QY ?_
  refine tr (?_)
  obtain rfl:=Option.some.inj H
  exact ⟨_,_,_,fun w1 e1=>QO (vs:=[.bool false]) (FA.cons (rfl) (FA.nil)),HM,E,S.pick [] (by decide),⟨rfl,rfl⟩⟩
 refine QJ (congrArg Value.bool hb50) (Qg (tn (QE (QE (QA (W_v (.slice A37 t35.length c38) (QC rfl) rfl (W_v (vI (t35.length:Int)) (Qt (n:=t35.length) Tryd.underlying25 rfl) rfl (W_v (.bool ((t35.length:Int) == (0:Int))) (QT rfl rfl rfl rfl) rfl (QB (tn ?_))))))))))
 rcases Zh H with ⟨hb51,H⟩ | ⟨hb51,H⟩
 ·refine QL (congrArg Value.bool hb51) ?_
  refine QE (QA (W_v (.bool true) (QD rfl) rfl (QB (tn ?_))))
  refine QY ?_
  refine tr (?_)
  obtain rfl:=Option.some.inj H
  exact ⟨_,_,_,fun w1 e1=>QO (vs:=[.bool true]) (FA.cons (rfl) (FA.nil)),HM,E,S.pick [] (by decide),⟨rfl,rfl⟩⟩
 refine QJ (congrArg Value.bool hb51) (Qg (tn (QE ?_)))
 refine Ql (S:=fun w'=>∃ Mx,M41.le Mx ∧ St w' Mx F [Row QK 55 (.slice A37 t35.length c38) t35,Row QK 55 (.slice A26 t24.length c27) t24,B23 b1 a0]) (L:=13) mixed ?_
 intro w58 hw59 E'
 replace S:=S.heap hw59
 replace E:=E.trans E'
 have D1:∃ Mx,Hp.le M41 Mx ∧ St _ Mx F [_,_,_]:=⟨_,Hp.le_refl _,S.pick [0,1,2] (by decide)⟩
 refine Wt 0 rfl rfl rfl (.agg #[vI a0.Tasks,vI a0.Active,vI a0.Keys,vI a0.Depth,vI a0.TS,vI a0.KeyLen,vI a0.ValLen,vI a0.Fan]) rfl (fun w' h'=>Qh (Qj h' 2 rfl) ty23 rfl (QI rfl) rfl rfl) D1 (Wt 1 rfl rfl rfl (.slice A1 a1.length c1) rfl (fun w' h'=>QC rfl) D1 (Wt 2 rfl rfl rfl (.slice A37 t35.length c38) rfl (fun w' h'=>QC rfl) D1 (Wt 3 rfl rfl rfl (.slice A37 t35.length c38) rfl (fun w' h'=>QC rfl) D1 (Wt 4 rfl rfl rfl (vI (t35.length:Int)) rfl (fun w' h'=>Qt (n:=t35.length) Tryd.underlying25 rfl) D1 (Wt 5 rfl rfl rfl (vI (IntKind.i64.wrap ((t35.length:Int) - (1:Int)))) rfl (fun w' h'=>QT rfl rfl rfl rfl) D1 ?_)))))
 obtain ⟨⟨p60,p61⟩,H⟩:=Zt H
 have hx62:=@V1 _ _ _ _ _ _ _ _ _ (S.row_read 0 rfl) p60 p61
 refine Wt 6 rfl rfl rfl (.slice A37 (List.take (IntKind.i64.wrap ((t35.length:Int) - (1:Int))).toNat t35).length c38) rfl (fun w' h'=>hx62 Tryd.underlying25 ty55 rfl rfl) D1 ?_
 refine Wo 7 rfl ?_
 obtain ⟨t63,ht64,H⟩:=QX H
 refine XX 1 fn10 (fun h9 hs9 hd9=>YD.con k _ a0 A1 c1 a1 A37 c38 (List.take (IntKind.i64.wrap ((t35.length:Int) - (1:Int))).toNat t35) t63 (SlR.mono hr1 (Hp.le_union_left _ _)) (Vp (Sats.row hs9 hd9 0 rfl) p60 p61) (let ⟨gt,fr,h8⟩:=hg0; ⟨gt,fr,Hp.le_union_left _ _ _ _ h8⟩) (let ⟨gt,fr,h8⟩:=hg1; ⟨gt,fr,Hp.le_union_left _ _ _ _ h8⟩) ht64) S rfl rfl (by rintro _ _ _ ⟨_,rfl⟩; exact Qd) ?_
 rintro _ w65 _ Γ' E' S ⟨rfl,rfl⟩
 replace E:=E.trans E'
 refine QB (YC ⟨.inr ⟨M41,Hp.le_refl M41,(S.pick [0,1,2] (by decide))⟩,?_⟩)
 have D2:∃ Mx,Hp.le M41 Mx ∧ St _ Mx F [_,_,_]:=⟨_,Hp.le_refl _,S.pick [0,1,2] (by decide)⟩
 refine Wt 8 rfl rfl rfl (.tuple #[.bool t63.1,vI t63.2]) rfl (fun w' h'=>QC rfl) D2 (Wt 9 rfl rfl rfl (.bool t63.1) rfl (fun w' h'=>QQ rfl rfl) D2 (Wt 10 rfl rfl rfl (vI t63.2) rfl (fun w' h'=>QQ rfl rfl) D2 (Wt 11 rfl rfl rfl (.bool t63.1) rfl (fun w' h'=>QD rfl) D2 (Wt 12 rfl rfl rfl (vI t63.2) rfl (fun w' h'=>QD rfl) D2 ?_))))
 refine Wz ?_
 refine tn ?_
 as_aux_lemma =>
 refine QE (QE (QA (W_v (.bool t63.1) (QC rfl) rfl (W_v (.bool (!t63.1)) (Yx (b:=t63.1) rfl) rfl (W_v (.bool (!t63.1)) (QC rfl) rfl ?_)))))
 refine ZI 3 (fun ρ w'=>Qs ρ [(1,.slice A1 a1.length c1),(3,vI a3),(4,pt b1 0),(12,.slice A37 t35.length c38),(81,.bool ((!t63.1) || (t63.2 != (0:Int))))] ∧ w65 = w') ?_ ?_
 ·rcases Qw (!t63.1) with hb66 | hb66
  ·skip
   refine QU (congrArg some hb66) (W_v (vI t63.2) (QC rfl) rfl (QU (congrArg some hb66) (W_v (.bool (t63.2 != (0:Int))) (QT rfl rfl rfl rfl) rfl (W_v (.bool (t63.2 != (0:Int))) (QZ (k:=false) (congrArg Value.bool hb66) rfl) rfl (QB ?_)))))
   exact ⟨⟨rfl,rfl,rfl,rfl,(by first | rfl | (rw [hb66]; rfl) | (simp only [hb66]; rfl)),trivial⟩,rfl⟩
  ·skip
   refine Qk (skF hb66) rfl (Qk (skF hb66) rfl (W_v (.bool true) (QZ (k:=true) (congrArg Value.bool hb66) rfl) rfl (QB ?_)))
   exact ⟨⟨rfl,rfl,rfl,rfl,(by first | rfl | (rw [hb66]; rfl) | (simp only [hb66]; rfl)),trivial⟩,rfl⟩
 as_aux_lemma =>
 rintro ρ _ ⟨hρ,rfl⟩
 rw [QN hρ]
 refine QB (tn ?_)
 rcases Zh H with ⟨hb67,H⟩ | ⟨hb67,H⟩
 ·refine QL (congrArg Value.bool hb67) ?_
  refine QE (QA (W_v (.bool false) (QD rfl) rfl (QB (tn ?_))))
  refine QY ?_
  refine tr (?_)
  obtain rfl:=Option.some.inj H
  exact ⟨_,_,_,fun w1 e1=>QO (vs:=[.bool false]) (FA.cons (rfl) (FA.nil)),HM,E,S.pick [] (by decide),⟨rfl,rfl⟩⟩
 refine QJ (congrArg Value.bool hb67) (Qg (tn (QE (QA (W_v (vI a3) (QC rfl) rfl (W_v (.int .u64 (IntKind.u64.wrap a3)) (XD Tryd.underlying3 Tryd.underlying43 rfl) rfl (W_v (.slice A37 t35.length c38) (QC rfl) rfl (W_v (vI (t35.length:Int)) (Qt (n:=t35.length) Tryd.underlying25 rfl) rfl (W_v (.int .u64 (IntKind.u64.wrap (t35.length:Int))) (XD Tryd.underlying3 Tryd.underlying43 rfl) rfl ?_)))))))))
 obtain ⟨p68,H⟩:=Zt H
 refine W_v (.int .u64 (Int.tmod (IntKind.u64.wrap a3) (IntKind.u64.wrap (t35.length:Int)))) (Je rfl rfl p68) rfl (W_v (vI (IntKind.i64.wrap (Int.tmod (IntKind.u64.wrap a3) (IntKind.u64.wrap (t35.length:Int))))) (XD Tryd.underlying43 Tryd.underlying3 rfl) rfl (W_v (vI (IntKind.i64.wrap (Int.tmod (IntKind.u64.wrap a3) (IntKind.u64.wrap (t35.length:Int))))) (QD rfl) rfl (QB (tn (QE (QE ?_))))))
 refine Ql (S:=fun w'=>∃ Mx,M41.le Mx ∧ St w' Mx F [Row QK 55 (.slice A37 t35.length c38) t35,Row QK 55 (.slice A26 t24.length c27) t24,B23 b1 a0]) (L:=19) mixed ?_
 intro w129 hw130 E'
 replace S:=S.heap hw130
 replace E:=E.trans E'
 have D3:∃ Mx,Hp.le M41 Mx ∧ St _ Mx F [_,_,_]:=⟨_,Hp.le_refl _,S.pick [0,1,2] (by decide)⟩
 refine Wt 0 rfl rfl rfl (vI (IntKind.i64.wrap (Int.tmod (IntKind.u64.wrap a3) (IntKind.u64.wrap (t35.length:Int))))) rfl (fun w' h'=>QC rfl) D3 (Wt 1 rfl rfl rfl (vI (IntKind.i64.wrap ((IntKind.i64.wrap (Int.tmod (IntKind.u64.wrap a3) (IntKind.u64.wrap (t35.length:Int)))) + (1:Int)))) rfl (fun w' h'=>QT rfl rfl rfl rfl) D3 (Wt 2 rfl rfl rfl (.slice A37 t35.length c38) rfl (fun w' h'=>QC rfl) D3 (Wt 3 rfl rfl rfl (vI (t35.length:Int)) rfl (fun w' h'=>Qt (n:=t35.length) Tryd.underlying25 rfl) D3 (Wt 4 rfl rfl rfl (.bool (decide ((IntKind.i64.wrap ((IntKind.i64.wrap (Int.tmod (IntKind.u64.wrap a3) (IntKind.u64.wrap (t35.length:Int)))) + (1:Int))) ≥ (t35.length:Int)))) rfl (fun w' h'=>QT rfl rfl rfl rfl) D3 (Wt 5 rfl rfl rfl (.bool (decide ((IntKind.i64.wrap ((IntKind.i64.wrap (Int.tmod (IntKind.u64.wrap a3) (IntKind.u64.wrap (t35.length:Int)))) + (1:Int))) ≥ (t35.length:Int)))) rfl (fun w' h'=>QC rfl) D3 ?_)))))
 obtain ⟨o161,o161h,o161H⟩:=QX H
 refine XK (fun ρ w'=>∃ (x160:Bool),(x160) = o161 ∧ Qs ρ [(1,.slice A1 a1.length c1),(4,pt b1 0),(12,.slice A37 t35.length c38),(15,vI (IntKind.i64.wrap (Int.tmod (IntKind.u64.wrap a3) (IntKind.u64.wrap (t35.length:Int))))),(107,.bool x160)] ∧ Ext w w' ∧ St w' M41 F [Row QK 55 (.slice A37 t35.length c38) t35,Row QK 55 (.slice A26 t24.length c27) t24,B23 b1 a0]) 0 (Ls 19 [0,1,2,3,4,5,6,7,8,9,10,11,12,13,14,15,16,17,18]) ?_ ?_
 rotate_left
 ·intro hrest
  have H:=o161h
  rcases Zh H with ⟨hb159,H⟩ | ⟨hb159,H⟩
  ·skip
   have D4:∃ Mx,Hp.le M41 Mx ∧ St _ Mx F [_,_,_]:=⟨_,Hp.le_refl _,S.pick [0,1,2] (by decide)⟩
   refine WtN 6 rfl rfl rfl rfl (skF hb159) D4 (WtN 7 rfl rfl rfl rfl (skF hb159) D4 (WtN 8 rfl rfl rfl rfl (skF hb159) D4 (WtN 9 rfl rfl rfl rfl (skF hb159) D4 (WtN 10 rfl rfl rfl rfl (skF hb159) D4 (WtN 11 rfl rfl rfl rfl (skF hb159) D4 (WtN 12 rfl rfl rfl rfl (skF hb159) D4 (WtN 13 rfl rfl rfl rfl (skF hb159) D4 (WtN 14 rfl rfl rfl rfl (skF hb159) D4 (WtN 15 rfl rfl rfl rfl (skF hb159) D4 (WtN 16 rfl rfl rfl rfl (skF hb159) D4 (WtN 17 rfl rfl rfl rfl (skF hb159) D4 (Wt 18 rfl rfl rfl (.bool true) rfl (fun w' h'=>QZ (k:=true) (congrArg Value.bool hb159) rfl) D4 ?_))))))))))))
   exact hrest _ _ ⟨true,Option.some.inj H,⟨rfl,rfl,rfl,rfl,rfl,trivial⟩,E,S.pick [0,1,2] (by decide)⟩
  ·skip
   have D5:∃ Mx,Hp.le M41 Mx ∧ St _ Mx F [_,_,_]:=⟨_,Hp.le_refl _,S.pick [0,1,2] (by decide)⟩
   refine WtY 6 rfl rfl rfl (.slice A37 t35.length c38) rfl (congrArg some hb159) (fun w' h'=>QC rfl) D5 (WtY 7 rfl rfl rfl (vI (IntKind.i64.wrap (Int.tmod (IntKind.u64.wrap a3) (IntKind.u64.wrap (t35.length:Int))))) rfl (congrArg some hb159) (fun w' h'=>QC rfl) D5 ?_)
   obtain ⟨⟨p162,p163⟩,H⟩:=Zt H
   obtain ⟨b164,o165,cs166,_,_,ee171,hb167,vs168,hR169,hc170⟩:=SlW.at' (S.row_read 0 rfl) p162 p163
   obtain ⟨v175,hs174,rfl⟩:=hR169
   obtain ⟨A172,c173,rfl,_⟩:=hs174.form
   refine WtY 8 rfl rfl rfl (.pointer (some ⟨b164,o165 + (IntKind.i64.wrap (Int.tmod (IntKind.u64.wrap a3) (IntKind.u64.wrap (t35.length:Int)))).toNat * 7,none⟩)) rfl (congrArg some hb159) (fun w' h'=>Qe Tryd.underlying25 ty55 (slA ee171) rfl p162 p163) D5 (WtY 9 rfl rfl rfl (.pointer (some ⟨b164,o165 + (IntKind.i64.wrap (Int.tmod (IntKind.u64.wrap a3) (IntKind.u64.wrap (t35.length:Int)))).toNat * 7 + 1,none⟩)) rfl (congrArg some hb159) (fun w' h'=>QF (o:=o165 + (IntKind.i64.wrap (Int.tmod (IntKind.u64.wrap a3) (IntKind.u64.wrap (t35.length:Int)))).toNat * 7) (off:=1) Tryd.underlying55 rfl ty3 rfl rfl) D5 (WtY 10 rfl rfl rfl (vI ((rd t35 (IntKind.i64.wrap (Int.tmod (IntKind.u64.wrap a3) (IntKind.u64.wrap (t35.length:Int))))).Task)) rfl (congrArg some hb159) (fun w' h'=>by obtain ⟨_,_,S'⟩:=h'; obtain ⟨_,_,_,_,_,e',b',_,r',c'⟩:=SlW.at' (S'.row_read 0 rfl) p162 p163; obtain ⟨rfl,rfl⟩:=addr_inj (e'.symm.trans ee171); obtain ⟨_,_,rfl⟩:=r'; exact QR (Hp.of_get b') ty3 rfl (c' 1 _ rfl)) D5 (WtY 11 rfl rfl rfl (.slice A37 t35.length c38) rfl (congrArg some hb159) (fun w' h'=>QC rfl) D5 (WtY 12 rfl rfl rfl (vI (IntKind.i64.wrap (Int.tmod (IntKind.u64.wrap a3) (IntKind.u64.wrap (t35.length:Int))))) rfl (congrArg some hb159) (fun w' h'=>QC rfl) D5 (WtY 13 rfl rfl rfl (vI (IntKind.i64.wrap ((IntKind.i64.wrap (Int.tmod (IntKind.u64.wrap a3) (IntKind.u64.wrap (t35.length:Int)))) + (1:Int)))) rfl (congrArg some hb159) (fun w' h'=>QT rfl rfl rfl rfl) D5 ?_)))))
   obtain ⟨⟨p176,p177⟩,H⟩:=Zt H
   obtain ⟨b178,o179,cs180,_,_,ee185,hb181,vs182,hR183,hc184⟩:=SlW.at' (S.row_read 0 rfl) p176 p177
   obtain ⟨v189,hs188,rfl⟩:=hR183
   obtain ⟨A186,c187,rfl,_⟩:=hs188.form
   refine WtY 14 rfl rfl rfl (.pointer (some ⟨b178,o179 + (IntKind.i64.wrap ((IntKind.i64.wrap (Int.tmod (IntKind.u64.wrap a3) (IntKind.u64.wrap (t35.length:Int)))) + (1:Int))).toNat * 7,none⟩)) rfl (congrArg some hb159) (fun w' h'=>Qe Tryd.underlying25 ty55 (slA ee185) rfl p176 p177) D5 (WtY 15 rfl rfl rfl (.pointer (some ⟨b178,o179 + (IntKind.i64.wrap ((IntKind.i64.wrap (Int.tmod (IntKind.u64.wrap a3) (IntKind.u64.wrap (t35.length:Int)))) + (1:Int))).toNat * 7 + 1,none⟩)) rfl (congrArg some hb159) (fun w' h'=>QF (o:=o179 + (IntKind.i64.wrap ((IntKind.i64.wrap (Int.tmod (IntKind.u64.wrap a3) (IntKind.u64.wrap (t35.length:Int)))) + (1:Int))).toNat * 7) (off:=1) Tryd.underlying55 rfl ty3 rfl rfl) D5 (WtY 16 rfl rfl rfl (vI ((rd t35 (IntKind.i64.wrap ((IntKind.i64.wrap (Int.tmod (IntKind.u64.wrap a3) (IntKind.u64.wrap (t35.length:Int)))) + (1:Int)))).Task)) rfl (congrArg some hb159) (fun w' h'=>by obtain ⟨_,_,S'⟩:=h'; obtain ⟨_,_,_,_,_,e',b',_,r',c'⟩:=SlW.at' (S'.row_read 0 rfl) p176 p177; obtain ⟨rfl,rfl⟩:=addr_inj (e'.symm.trans ee185); obtain ⟨_,_,rfl⟩:=r'; exact QR (Hp.of_get b') ty3 rfl (c' 1 _ rfl)) D5 (WtY 17 rfl rfl rfl (.bool ((rd t35 (IntKind.i64.wrap (Int.tmod (IntKind.u64.wrap a3) (IntKind.u64.wrap (t35.length:Int))))).Task == (rd t35 (IntKind.i64.wrap ((IntKind.i64.wrap (Int.tmod (IntKind.u64.wrap a3) (IntKind.u64.wrap (t35.length:Int)))) + (1:Int)))).Task)) rfl (congrArg some hb159) (fun w' h'=>QT rfl rfl rfl rfl) D5 (Wt 18 rfl rfl rfl (.bool ((rd t35 (IntKind.i64.wrap (Int.tmod (IntKind.u64.wrap a3) (IntKind.u64.wrap (t35.length:Int))))).Task == (rd t35 (IntKind.i64.wrap ((IntKind.i64.wrap (Int.tmod (IntKind.u64.wrap a3) (IntKind.u64.wrap (t35.length:Int)))) + (1:Int)))).Task)) rfl (fun w' h'=>QZ (k:=false) (congrArg Value.bool hb159) rfl) D5 ?_))))
   exact hrest _ _ ⟨((rd t35 (IntKind.i64.wrap (Int.tmod (IntKind.u64.wrap a3) (IntKind.u64.wrap (t35.length:Int))))).Task == (rd t35 (IntKind.i64.wrap ((IntKind.i64.wrap (Int.tmod (IntKind.u64.wrap a3) (IntKind.u64.wrap (t35.length:Int)))) + (1:Int)))).Task),Option.some.inj H,⟨rfl,rfl,rfl,rfl,rfl,trivial⟩,E,S.pick [0,1,2] (by decide)⟩
 rintro ρ w190 ⟨x160,rfl,hρ,E,S⟩
 rw [QN hρ]
 have H:=o161H
 refine Wz ?_
 refine tn ?_
 rcases Zh H with ⟨hb191,H⟩ | ⟨hb191,H⟩
 ·refine QL (congrArg Value.bool hb191) ?_
  refine QE (QA (W_v (.bool true) (QD rfl) rfl (QB (tn ?_))))
  refine QY ?_
  refine tr (?_)
  obtain rfl:=Option.some.inj H
  exact ⟨_,_,_,fun w1 e1=>QO (vs:=[.bool true]) (FA.cons (rfl) (FA.nil)),HM,E,S.pick [] (by decide),⟨rfl,rfl⟩⟩
 refine QJ (congrArg Value.bool hb191) (Qg (tn ?_))
 as_aux_lemma =>
 refine QE (QE (QA (W_v (.slice A37 t35.length c38) (QC rfl) rfl (W_v (vI (IntKind.i64.wrap (Int.tmod (IntKind.u64.wrap a3) (IntKind.u64.wrap (t35.length:Int))))) (QC rfl) rfl ?_))))
 obtain ⟨⟨p192,p193⟩,H⟩:=Zt H
 obtain ⟨b194,o195,cs196,_,_,ee201,hb197,vs198,hR199,hc200⟩:=SlW.at' (S.row_read 0 rfl) p192 p193
 obtain ⟨v205,hs204,rfl⟩:=hR199
 obtain ⟨A202,c203,rfl,_⟩:=hs204.form
 refine W_v (.pointer (some ⟨b194,o195 + (IntKind.i64.wrap (Int.tmod (IntKind.u64.wrap a3) (IntKind.u64.wrap (t35.length:Int)))).toNat * 7,none⟩)) (Qe Tryd.underlying25 ty55 (slA ee201) rfl p192 p193) rfl (W_v (.pointer (some ⟨b194,o195 + (IntKind.i64.wrap (Int.tmod (IntKind.u64.wrap a3) (IntKind.u64.wrap (t35.length:Int)))).toNat * 7,none⟩)) (QF (o:=o195 + (IntKind.i64.wrap (Int.tmod (IntKind.u64.wrap a3) (IntKind.u64.wrap (t35.length:Int)))).toNat * 7) (off:=0) Tryd.underlying55 rfl ty5 rfl rfl) rfl (W_v (vU ((rd t35 (IntKind.i64.wrap (Int.tmod (IntKind.u64.wrap a3) (IntKind.u64.wrap (t35.length:Int))))).What)) (QR (Hp.of_get hb197) ty5 rfl (hc200 0 _ rfl)) rfl (W_v (.bool ((rd t35 (IntKind.i64.wrap (Int.tmod (IntKind.u64.wrap a3) (IntKind.u64.wrap (t35.length:Int))))).What != (3:Int))) (QT rfl rfl rfl rfl) rfl (W_v (.bool ((rd t35 (IntKind.i64.wrap (Int.tmod (IntKind.u64.wrap a3) (IntKind.u64.wrap (t35.length:Int))))).What != (3:Int))) (QC rfl) rfl ?_))))
 obtain ⟨o236,o236h,o236H⟩:=QX H
 refine ZI 8 (fun ρ w'=>∃ (x235:Bool),(x235) = o236 ∧ Qs ρ [(1,.slice A1 a1.length c1),(4,pt b1 0),(12,.slice A37 t35.length c38),(15,vI (IntKind.i64.wrap (Int.tmod (IntKind.u64.wrap a3) (IntKind.u64.wrap (t35.length:Int))))),(122,.bool x235)] ∧ Ext w w' ∧ St w' M41 F [Row QK 55 (.slice A37 t35.length c38) t35,B23 b1 a0]) ?_ ?_
 ·have H:=o236h
  rcases Zh H with ⟨hb234,H⟩ | ⟨hb234,H⟩
  ·skip
   refine QU (congrArg some hb234) (W_v (.slice A37 t35.length c38) (QC rfl) rfl (QU (congrArg some hb234) (W_v (vI (IntKind.i64.wrap (Int.tmod (IntKind.u64.wrap a3) (IntKind.u64.wrap (t35.length:Int))))) (QC rfl) rfl (QU (congrArg some hb234) (W_v (vI (IntKind.i64.wrap ((IntKind.i64.wrap (Int.tmod (IntKind.u64.wrap a3) (IntKind.u64.wrap (t35.length:Int)))) + (1:Int)))) (QT rfl rfl rfl rfl) rfl (QU (congrArg some hb234) ?_))))))
   obtain ⟨⟨p237,p238⟩,H⟩:=Zt H
   obtain ⟨b239,o240,cs241,_,_,ee246,hb242,vs243,hR244,hc245⟩:=SlW.at' (S.row_read 0 rfl) p237 p238
   obtain ⟨v250,hs249,rfl⟩:=hR244
   obtain ⟨A247,c248,rfl,_⟩:=hs249.form
   refine W_v (.pointer (some ⟨b239,o240 + (IntKind.i64.wrap ((IntKind.i64.wrap (Int.tmod (IntKind.u64.wrap a3) (IntKind.u64.wrap (t35.length:Int)))) + (1:Int))).toNat * 7,none⟩)) (Qe Tryd.underlying25 ty55 (slA ee246) rfl p237 p238) rfl (QU (congrArg some hb234) (W_v (.pointer (some ⟨b239,o240 + (IntKind.i64.wrap ((IntKind.i64.wrap (Int.tmod (IntKind.u64.wrap a3) (IntKind.u64.wrap (t35.length:Int)))) + (1:Int))).toNat * 7,none⟩)) (QF (o:=o240 + (IntKind.i64.wrap ((IntKind.i64.wrap (Int.tmod (IntKind.u64.wrap a3) (IntKind.u64.wrap (t35.length:Int)))) + (1:Int))).toNat * 7) (off:=0) Tryd.underlying55 rfl ty5 rfl rfl) rfl (QU (congrArg some hb234) (W_v (vU ((rd t35 (IntKind.i64.wrap ((IntKind.i64.wrap (Int.tmod (IntKind.u64.wrap a3) (IntKind.u64.wrap (t35.length:Int)))) + (1:Int)))).What)) (QR (Hp.of_get hb242) ty5 rfl (hc245 0 _ rfl)) rfl (QU (congrArg some hb234) (W_v (.bool ((rd t35 (IntKind.i64.wrap ((IntKind.i64.wrap (Int.tmod (IntKind.u64.wrap a3) (IntKind.u64.wrap (t35.length:Int)))) + (1:Int)))).What != (1:Int))) (QT rfl rfl rfl rfl) rfl (W_v (.bool ((rd t35 (IntKind.i64.wrap ((IntKind.i64.wrap (Int.tmod (IntKind.u64.wrap a3) (IntKind.u64.wrap (t35.length:Int)))) + (1:Int)))).What != (1:Int))) (QZ (k:=true) (congrArg Value.bool hb234) rfl) rfl (QB ?_))))))))
   exact ⟨((rd t35 (IntKind.i64.wrap ((IntKind.i64.wrap (Int.tmod (IntKind.u64.wrap a3) (IntKind.u64.wrap (t35.length:Int)))) + (1:Int)))).What != (1:Int)),Option.some.inj H,⟨rfl,rfl,rfl,rfl,rfl,trivial⟩,E,S.pick [0,2] (by decide)⟩
  ·skip
   refine Qk (skT hb234) rfl (Qk (skT hb234) rfl (Qk (skT hb234) rfl (Qk (skT hb234) rfl (Qk (skT hb234) rfl (Qk (skT hb234) rfl (Qk (skT hb234) rfl (W_v (.bool false) (QZ (k:=false) (congrArg Value.bool hb234) rfl) rfl (QB ?_))))))))
   exact ⟨false,Option.some.inj H,⟨rfl,rfl,rfl,rfl,rfl,trivial⟩,E,S.pick [0,2] (by decide)⟩
 as_aux_lemma =>
 rintro ρ w251 ⟨x235,rfl,hρ,E,S⟩
 rw [QN hρ]
 have H:=o236H
 refine W_v (.bool x235) (QC rfl) rfl ?_
 obtain ⟨o374,o374h,o374H⟩:=QX H
 refine ZI 16 (fun ρ w'=>∃ (x373:Bool),(x373) = o374 ∧ Qs ρ [(1,.slice A1 a1.length c1),(4,pt b1 0),(12,.slice A37 t35.length c38),(15,vI (IntKind.i64.wrap (Int.tmod (IntKind.u64.wrap a3) (IntKind.u64.wrap (t35.length:Int))))),(139,.bool x373)] ∧ Ext w w' ∧ St w' M41 F [Row QK 55 (.slice A37 t35.length c38) t35,B23 b1 a0]) ?_ ?_
 ·as_aux_lemma =>
   have H:=o374h
   rcases Zh H with ⟨hb372,H⟩ | ⟨hb372,H⟩
   ·skip
    refine Qk (skF hb372) rfl (Qk (skF hb372) rfl (Qk (skF hb372) rfl (Qk (skF hb372) rfl (Qk (skF hb372) rfl (Qk (skF hb372) rfl (Qk (skF hb372) rfl (Qk (rfl) rfl (Qk (rfl) rfl (Qk (rfl) rfl (Qk (rfl) rfl (Qk (rfl) rfl (Qk (rfl) rfl (Qk (rfl) rfl (Qk (skF hb372) rfl (W_v (.bool true) (QZ (k:=true) (congrArg Value.bool hb372) rfl) rfl ?_)))))))))))))))
    refine QB ?_
    exact ⟨true,Option.some.inj H,⟨rfl,rfl,rfl,rfl,rfl,trivial⟩,E,S.pick [0,1] (by decide)⟩
   ·skip
    refine QU (congrArg some hb372) (W_v (.slice A37 t35.length c38) (QC rfl) rfl (QU (congrArg some hb372) (W_v (vI (IntKind.i64.wrap (Int.tmod (IntKind.u64.wrap a3) (IntKind.u64.wrap (t35.length:Int))))) (QC rfl) rfl (QU (congrArg some hb372) ?_))))
    obtain ⟨⟨p375,p376⟩,H⟩:=Zt H
    obtain ⟨b377,o378,cs379,_,_,ee384,hb380,vs381,hR382,hc383⟩:=SlW.at' (S.row_read 0 rfl) p375 p376
    obtain ⟨v388,hs387,rfl⟩:=hR382
    obtain ⟨A385,c386,rfl,_⟩:=hs387.form
    refine W_v (.pointer (some ⟨b377,o378 + (IntKind.i64.wrap (Int.tmod (IntKind.u64.wrap a3) (IntKind.u64.wrap (t35.length:Int)))).toNat * 7,none⟩)) (Qe Tryd.underlying25 ty55 (slA ee384) rfl p375 p376) rfl (QU (congrArg some hb372) (W_v (.pointer (some ⟨b377,o378 + (IntKind.i64.wrap (Int.tmod (IntKind.u64.wrap a3) (IntKind.u64.wrap (t35.length:Int)))).toNat * 7,none⟩)) (QF (o:=o378 + (IntKind.i64.wrap (Int.tmod (IntKind.u64.wrap a3) (IntKind.u64.wrap (t35.length:Int)))).toNat * 7) (off:=0) Tryd.underlying55 rfl ty5 rfl rfl) rfl (QU (congrArg some hb372) (W_v (vU ((rd t35 (IntKind.i64.wrap (Int.tmod (IntKind.u64.wrap a3) (IntKind.u64.wrap (t35.length:Int))))).What)) (QR (Hp.of_get hb380) ty5 rfl (hc383 0 _ rfl)) rfl (QU (congrArg some hb372) (W_v (.bool ((rd t35 (IntKind.i64.wrap (Int.tmod (IntKind.u64.wrap a3) (IntKind.u64.wrap (t35.length:Int))))).What == (1:Int))) (QT rfl rfl rfl rfl) rfl (QU (congrArg some hb372) (W_v (.bool ((rd t35 (IntKind.i64.wrap (Int.tmod (IntKind.u64.wrap a3) (IntKind.u64.wrap (t35.length:Int))))).What == (1:Int))) (QC rfl) rfl ?_))))))))
    obtain ⟨o419,o419h,o419H⟩:=QX H
    refine ZI 8 (fun ρ w'=>∃ (x418:Bool),(x418) = o419 ∧ Qs ρ [(1,.slice A1 a1.length c1),(4,pt b1 0),(12,.slice A37 t35.length c38),(15,vI (IntKind.i64.wrap (Int.tmod (IntKind.u64.wrap a3) (IntKind.u64.wrap (t35.length:Int))))),(123,.bool x235),(138,.bool x418)] ∧ Ext w w' ∧ St w' M41 F [Row QK 55 (.slice A37 t35.length c38) t35,B23 b1 a0]) ?_ ?_
    ·have H:=o419h
     rcases Zh H with ⟨hb417,H⟩ | ⟨hb417,H⟩
     ·skip
      refine QU (congrArg some hb417) (W_v (.slice A37 t35.length c38) (QC rfl) rfl (QU (congrArg some hb417) (W_v (vI (IntKind.i64.wrap (Int.tmod (IntKind.u64.wrap a3) (IntKind.u64.wrap (t35.length:Int))))) (QC rfl) rfl (QU (congrArg some hb417) (W_v (vI (IntKind.i64.wrap ((IntKind.i64.wrap (Int.tmod (IntKind.u64.wrap a3) (IntKind.u64.wrap (t35.length:Int)))) + (1:Int)))) (QT rfl rfl rfl rfl) rfl (QU (congrArg some hb417) ?_))))))
      obtain ⟨⟨p420,p421⟩,H⟩:=Zt H
      obtain ⟨b422,o423,cs424,_,_,ee429,hb425,vs426,hR427,hc428⟩:=SlW.at' (S.row_read 0 rfl) p420 p421
      obtain ⟨v433,hs432,rfl⟩:=hR427
      obtain ⟨A430,c431,rfl,_⟩:=hs432.form
      refine W_v (.pointer (some ⟨b422,o423 + (IntKind.i64.wrap ((IntKind.i64.wrap (Int.tmod (IntKind.u64.wrap a3) (IntKind.u64.wrap (t35.length:Int)))) + (1:Int))).toNat * 7,none⟩)) (Qe Tryd.underlying25 ty55 (slA ee429) rfl p420 p421) rfl (QU (congrArg some hb417) (W_v (.pointer (some ⟨b422,o423 + (IntKind.i64.wrap ((IntKind.i64.wrap (Int.tmod (IntKind.u64.wrap a3) (IntKind.u64.wrap (t35.length:Int)))) + (1:Int))).toNat * 7,none⟩)) (QF (o:=o423 + (IntKind.i64.wrap ((IntKind.i64.wrap (Int.tmod (IntKind.u64.wrap a3) (IntKind.u64.wrap (t35.length:Int)))) + (1:Int))).toNat * 7) (off:=0) Tryd.underlying55 rfl ty5 rfl rfl) rfl (QU (congrArg some hb417) (W_v (vU ((rd t35 (IntKind.i64.wrap ((IntKind.i64.wrap (Int.tmod (IntKind.u64.wrap a3) (IntKind.u64.wrap (t35.length:Int)))) + (1:Int)))).What)) (QR (Hp.of_get hb425) ty5 rfl (hc428 0 _ rfl)) rfl (QU (congrArg some hb417) (W_v (.bool ((rd t35 (IntKind.i64.wrap ((IntKind.i64.wrap (Int.tmod (IntKind.u64.wrap a3) (IntKind.u64.wrap (t35.length:Int)))) + (1:Int)))).What == (3:Int))) (QT rfl rfl rfl rfl) rfl (QU (congrArg some hb372) (W_v (.bool ((rd t35 (IntKind.i64.wrap ((IntKind.i64.wrap (Int.tmod (IntKind.u64.wrap a3) (IntKind.u64.wrap (t35.length:Int)))) + (1:Int)))).What == (3:Int))) (QZ (k:=true) (congrArg Value.bool hb417) rfl) rfl (QB ?_)))))))))
      exact ⟨((rd t35 (IntKind.i64.wrap ((IntKind.i64.wrap (Int.tmod (IntKind.u64.wrap a3) (IntKind.u64.wrap (t35.length:Int)))) + (1:Int)))).What == (3:Int)),Option.some.inj H,⟨rfl,rfl,rfl,rfl,rfl,rfl,trivial⟩,E,S.pick [0,1] (by decide)⟩
     ·skip
      refine Qk (skT hb417) rfl (Qk (skT hb417) rfl (Qk (skT hb417) rfl (Qk (skT hb417) rfl (Qk (skT hb417) rfl (Qk (skT hb417) rfl (Qk (skT hb417) rfl (QU (congrArg some hb372) (W_v (.bool false) (QZ (k:=false) (congrArg Value.bool hb417) rfl) rfl (QB ?_)))))))))
      exact ⟨false,Option.some.inj H,⟨rfl,rfl,rfl,rfl,rfl,rfl,trivial⟩,E,S.pick [0,1] (by decide)⟩
    rintro ρ w434 ⟨x418,rfl,hρ,E,S⟩
    rw [QN hρ]
    have H:=o419H
    refine W_v (.bool x418) (QZ (k:=false) (congrArg Value.bool hb372) rfl) rfl (QB ?_)
    exact ⟨x418,Option.some.inj H,⟨rfl,rfl,rfl,rfl,rfl,trivial⟩,E,S.pick [0,1] (by decide)⟩
 as_aux_lemma =>
 rintro ρ w435 ⟨x373,rfl,hρ,E,S⟩
 rw [QN hρ]
 have H:=o374H
 refine QB (tn ?_)
 rcases Zh H with ⟨hb436,H⟩ | ⟨hb436,H⟩
 ·refine QL (congrArg Value.bool hb436) ?_
  refine QE (QA (W_v (.bool true) (QD rfl) rfl (QB (tn ?_))))
  refine QY ?_
  refine tr (?_)
  obtain rfl:=Option.some.inj H
  exact ⟨_,_,_,fun w1 e1=>QO (vs:=[.bool true]) (FA.cons (rfl) (FA.nil)),HM,E,S.pick [] (by decide),⟨rfl,rfl⟩⟩
 refine QJ (congrArg Value.bool hb436) (Qg (tn (QE ?_)))
 refine Ql (S:=fun w'=>∃ Mx,M41.le Mx ∧ St w' Mx F [B23 b1 a0]) (L:=17) mixed ?_
 intro w552 hw553 E'
 replace S:=S.heap hw553
 replace E:=E.trans E'
 have D6:∃ Mx,Hp.le M41 Mx ∧ St _ Mx F [_]:=⟨_,Hp.le_refl _,S.pick [1] (by decide)⟩
 refine Wt 0 rfl rfl rfl (.slice A37 t35.length c38) rfl (fun w' h'=>QC rfl) D6 (Wt 1 rfl rfl rfl (vI (IntKind.i64.wrap (Int.tmod (IntKind.u64.wrap a3) (IntKind.u64.wrap (t35.length:Int))))) rfl (fun w' h'=>QC rfl) D6 (Wt 2 rfl rfl rfl (.slice A37 t35.length c38) rfl (fun w' h'=>QC rfl) D6 (Wt 3 rfl rfl rfl (vI (IntKind.i64.wrap (Int.tmod (IntKind.u64.wrap a3) (IntKind.u64.wrap (t35.length:Int))))) rfl (fun w' h'=>QC rfl) D6 (Wt 4 rfl rfl rfl (vI (IntKind.i64.wrap ((IntKind.i64.wrap (Int.tmod (IntKind.u64.wrap a3) (IntKind.u64.wrap (t35.length:Int)))) + (1:Int)))) rfl (fun w' h'=>QT rfl rfl rfl rfl) D6 (Wt 5 rfl rfl rfl (.slice A37 t35.length c38) rfl (fun w' h'=>QC rfl) D6 (Wt 6 rfl rfl rfl (vI (IntKind.i64.wrap (Int.tmod (IntKind.u64.wrap a3) (IntKind.u64.wrap (t35.length:Int))))) rfl (fun w' h'=>QC rfl) D6 (Wt 7 rfl rfl rfl (vI (IntKind.i64.wrap ((IntKind.i64.wrap (Int.tmod (IntKind.u64.wrap a3) (IntKind.u64.wrap (t35.length:Int)))) + (1:Int)))) rfl (fun w' h'=>QT rfl rfl rfl rfl) D6 ?_)))))))
 obtain ⟨⟨p554,p555⟩,H⟩:=Zt H
 obtain ⟨b556,o557,cs558,_,_,ee563,hb559,vs560,hR561,hc562⟩:=SlW.at' (S.row_read 0 rfl) p554 p555
 obtain ⟨v567,hs566,rfl⟩:=hR561
 obtain ⟨A564,c565,rfl,_⟩:=hs566.form
 refine Wt 8 rfl rfl rfl (.pointer (some ⟨b556,o557 + (IntKind.i64.wrap ((IntKind.i64.wrap (Int.tmod (IntKind.u64.wrap a3) (IntKind.u64.wrap (t35.length:Int)))) + (1:Int))).toNat * 7,none⟩)) rfl (fun w' h'=>Qe Tryd.underlying25 ty55 (slA ee563) rfl p554 p555) D6 (Wt 10 rfl rfl rfl (.slice A37 t35.length c38) rfl (fun w' h'=>QC rfl) D6 (Wt 11 rfl rfl rfl (vI (IntKind.i64.wrap (Int.tmod (IntKind.u64.wrap a3) (IntKind.u64.wrap (t35.length:Int))))) rfl (fun w' h'=>QC rfl) D6 ?_))
 obtain ⟨⟨p568,p569⟩,H⟩:=Zt H
 obtain ⟨b570,o571,cs572,_,_,ee577,hb573,vs574,hR575,hc576⟩:=SlW.at' (S.row_read 0 rfl) p568 p569
 obtain ⟨v581,hs580,rfl⟩:=hR575
 obtain ⟨A578,c579,rfl,_⟩:=hs580.form
 refine Wt 12 rfl rfl rfl (.pointer (some ⟨b570,o571 + (IntKind.i64.wrap (Int.tmod (IntKind.u64.wrap a3) (IntKind.u64.wrap (t35.length:Int)))).toNat * 7,none⟩)) rfl (fun w' h'=>Qe Tryd.underlying25 ty55 (slA ee577) rfl p568 p569) D6 ?_
 obtain ⟨o598,o598h,o598H⟩:=QX H
 refine XK (fun ρ w'=>∃ (x590:List Qu) (x594:List Qu) (A591:Option Addr) (c592:Nat) (A595:Option Addr) (c596:Nat),(x590,x594) = o598 ∧ Qs ρ [(1,.slice A1 a1.length c1),(4,pt b1 0),(12,.slice A37 t35.length c38),(140,.slice A37 t35.length c38),(141,vI (IntKind.i64.wrap (Int.tmod (IntKind.u64.wrap a3) (IntKind.u64.wrap (t35.length:Int))))),(142,.slice A37 t35.length c38),(144,vI (IntKind.i64.wrap ((IntKind.i64.wrap (Int.tmod (IntKind.u64.wrap a3) (IntKind.u64.wrap (t35.length:Int)))) + (1:Int)))),(149,.agg #[vU ((rd t35 (IntKind.i64.wrap ((IntKind.i64.wrap (Int.tmod (IntKind.u64.wrap a3) (IntKind.u64.wrap (t35.length:Int)))) + (1:Int)))).What),vI ((rd t35 (IntKind.i64.wrap ((IntKind.i64.wrap (Int.tmod (IntKind.u64.wrap a3) (IntKind.u64.wrap (t35.length:Int)))) + (1:Int)))).Task),vI ((rd t35 (IntKind.i64.wrap ((IntKind.i64.wrap (Int.tmod (IntKind.u64.wrap a3) (IntKind.u64.wrap (t35.length:Int)))) + (1:Int)))).Call),vI ((rd t35 (IntKind.i64.wrap ((IntKind.i64.wrap (Int.tmod (IntKind.u64.wrap a3) (IntKind.u64.wrap (t35.length:Int)))) + (1:Int)))).Answer.Err),.bool ((rd t35 (IntKind.i64.wrap ((IntKind.i64.wrap (Int.tmod (IntKind.u64.wrap a3) (IntKind.u64.wrap (t35.length:Int)))) + (1:Int)))).Answer.Found),vS ((rd t35 (IntKind.i64.wrap ((IntKind.i64.wrap (Int.tmod (IntKind.u64.wrap a3) (IntKind.u64.wrap (t35.length:Int)))) + (1:Int)))).Answer.Value),.slice A591 x590.length c592]),(153,.agg #[vU ((rd t35 (IntKind.i64.wrap (Int.tmod (IntKind.u64.wrap a3) (IntKind.u64.wrap (t35.length:Int))))).What),vI ((rd t35 (IntKind.i64.wrap (Int.tmod (IntKind.u64.wrap a3) (IntKind.u64.wrap (t35.length:Int))))).Task),vI ((rd t35 (IntKind.i64.wrap (Int.tmod (IntKind.u64.wrap a3) (IntKind.u64.wrap (t35.length:Int))))).Call),vI ((rd t35 (IntKind.i64.wrap (Int.tmod (IntKind.u64.wrap a3) (IntKind.u64.wrap (t35.length:Int))))).Answer.Err),.bool ((rd t35 (IntKind.i64.wrap (Int.tmod (IntKind.u64.wrap a3) (IntKind.u64.wrap (t35.length:Int))))).Answer.Found),vS ((rd t35 (IntKind.i64.wrap (Int.tmod (IntKind.u64.wrap a3) (IntKind.u64.wrap (t35.length:Int))))).Answer.Value),.slice A595 x594.length c596])] ∧ Ext w w' ∧ St w' M41 F [Row QK 55 (.slice A37 t35.length c38) t35,B23 b1 a0] ∧ SlR Qr M41 (.slice A591 x590.length c592) x590 ∧ SlR Qr M41 (.slice A595 x594.length c596) x594) 4 (Ls 18 [0,1,2,3,4,5,6,7,8,9,10,11,12,13]) ?_ ?_
 rotate_left
 ·intro hq602
  refine XK (fun ρ w'=>∃ (x586:List Qu) (A587:Option Addr) (c588:Nat),some ((rd t35 (IntKind.i64.wrap ((IntKind.i64.wrap (Int.tmod (IntKind.u64.wrap a3) (IntKind.u64.wrap (t35.length:Int)))) + (1:Int)))).Answer.Pairs,x586) = some o598 ∧ Qs ρ [(1,.slice A1 a1.length c1),(4,pt b1 0),(12,.slice A37 t35.length c38),(140,.slice A37 t35.length c38),(141,vI (IntKind.i64.wrap (Int.tmod (IntKind.u64.wrap a3) (IntKind.u64.wrap (t35.length:Int))))),(142,.slice A37 t35.length c38),(144,vI (IntKind.i64.wrap ((IntKind.i64.wrap (Int.tmod (IntKind.u64.wrap a3) (IntKind.u64.wrap (t35.length:Int)))) + (1:Int)))),(148,.pointer (some ⟨b556,o557 + (IntKind.i64.wrap ((IntKind.i64.wrap (Int.tmod (IntKind.u64.wrap a3) (IntKind.u64.wrap (t35.length:Int)))) + (1:Int))).toNat * 7,none⟩)),(153,.agg #[vU ((rd t35 (IntKind.i64.wrap (Int.tmod (IntKind.u64.wrap a3) (IntKind.u64.wrap (t35.length:Int))))).What),vI ((rd t35 (IntKind.i64.wrap (Int.tmod (IntKind.u64.wrap a3) (IntKind.u64.wrap (t35.length:Int))))).Task),vI ((rd t35 (IntKind.i64.wrap (Int.tmod (IntKind.u64.wrap a3) (IntKind.u64.wrap (t35.length:Int))))).Call),vI ((rd t35 (IntKind.i64.wrap (Int.tmod (IntKind.u64.wrap a3) (IntKind.u64.wrap (t35.length:Int))))).Answer.Err),.bool ((rd t35 (IntKind.i64.wrap (Int.tmod (IntKind.u64.wrap a3) (IntKind.u64.wrap (t35.length:Int))))).Answer.Found),vS ((rd t35 (IntKind.i64.wrap (Int.tmod (IntKind.u64.wrap a3) (IntKind.u64.wrap (t35.length:Int))))).Answer.Value),.slice A587 x586.length c588])] ∧ Ext w w' ∧ St w' M41 F [Row QK 55 (.slice A37 t35.length c38) t35,B23 b1 a0] ∧ SlR Qr M41 (.slice A587 x586.length c588) x586) 5 (Ls 18 [0,1,2,3,4,5,6,7,8,10,11,12,13]) ?_ ?_
  ·clear o598h
   rintro ρ w603 ⟨x586,A587,c588,H,hρ,E,S,hs589⟩
   rw [QN hρ]
   refine Wo 9 rfl ?_
   obtain ⟨b604,o605,cs606,_,_,ee611,hb607,vs608,hR609,hc610⟩:=SlW.at' (S.row_read 0 rfl) p554 p555
   obtain ⟨rfl,rfl⟩:b604 = b556 ∧ o605 = o557:=by simpa using ee611.symm.trans ee563
   obtain ⟨v615,hs614,rfl⟩:=hR609
   obtain ⟨A612,c613,rfl,_⟩:=hs614.form
   refine W_v (.agg #[vU ((rd t35 (IntKind.i64.wrap ((IntKind.i64.wrap (Int.tmod (IntKind.u64.wrap a3) (IntKind.u64.wrap (t35.length:Int)))) + (1:Int)))).What),vI ((rd t35 (IntKind.i64.wrap ((IntKind.i64.wrap (Int.tmod (IntKind.u64.wrap a3) (IntKind.u64.wrap (t35.length:Int)))) + (1:Int)))).Task),vI ((rd t35 (IntKind.i64.wrap ((IntKind.i64.wrap (Int.tmod (IntKind.u64.wrap a3) (IntKind.u64.wrap (t35.length:Int)))) + (1:Int)))).Call),vI ((rd t35 (IntKind.i64.wrap ((IntKind.i64.wrap (Int.tmod (IntKind.u64.wrap a3) (IntKind.u64.wrap (t35.length:Int)))) + (1:Int)))).Answer.Err),.bool ((rd t35 (IntKind.i64.wrap ((IntKind.i64.wrap (Int.tmod (IntKind.u64.wrap a3) (IntKind.u64.wrap (t35.length:Int)))) + (1:Int)))).Answer.Found),vS ((rd t35 (IntKind.i64.wrap ((IntKind.i64.wrap (Int.tmod (IntKind.u64.wrap a3) (IntKind.u64.wrap (t35.length:Int)))) + (1:Int)))).Answer.Value),.slice A612 ((rd t35 (IntKind.i64.wrap ((IntKind.i64.wrap (Int.tmod (IntKind.u64.wrap a3) (IntKind.u64.wrap (t35.length:Int)))) + (1:Int)))).Answer.Pairs).length c613]) (Qh (Hp.of_get hb607) ty55 rfl (XC hc610 0 rfl) rfl rfl) rfl ?_
   refine QB (YC ⟨.inr ⟨M41,Hp.le_refl M41,(S.pick [1] (by decide))⟩,?_⟩)
   exact hq602 _ _ ⟨((rd t35 (IntKind.i64.wrap ((IntKind.i64.wrap (Int.tmod (IntKind.u64.wrap a3) (IntKind.u64.wrap (t35.length:Int)))) + (1:Int)))).Answer.Pairs),x586,A612,c613,A587,c588,Option.some.inj H,⟨rfl,rfl,rfl,rfl,rfl,rfl,rfl,rfl,rfl,trivial⟩,E,S.pick [0,1] (by decide),hs614,hs589⟩
  intro hq601
  refine XK (fun ρ w'=>∃ (x582:List Qu) (A583:Option Addr) (c584:Nat),some (x582,(rd t35 (IntKind.i64.wrap (Int.tmod (IntKind.u64.wrap a3) (IntKind.u64.wrap (t35.length:Int))))).Answer.Pairs) = some o598 ∧ Qs ρ [(1,.slice A1 a1.length c1),(4,pt b1 0),(12,.slice A37 t35.length c38),(140,.slice A37 t35.length c38),(141,vI (IntKind.i64.wrap (Int.tmod (IntKind.u64.wrap a3) (IntKind.u64.wrap (t35.length:Int))))),(142,.slice A37 t35.length c38),(144,vI (IntKind.i64.wrap ((IntKind.i64.wrap (Int.tmod (IntKind.u64.wrap a3) (IntKind.u64.wrap (t35.length:Int)))) + (1:Int)))),(149,.agg #[vU ((rd t35 (IntKind.i64.wrap ((IntKind.i64.wrap (Int.tmod (IntKind.u64.wrap a3) (IntKind.u64.wrap (t35.length:Int)))) + (1:Int)))).What),vI ((rd t35 (IntKind.i64.wrap ((IntKind.i64.wrap (Int.tmod (IntKind.u64.wrap a3) (IntKind.u64.wrap (t35.length:Int)))) + (1:Int)))).Task),vI ((rd t35 (IntKind.i64.wrap ((IntKind.i64.wrap (Int.tmod (IntKind.u64.wrap a3) (IntKind.u64.wrap (t35.length:Int)))) + (1:Int)))).Call),vI ((rd t35 (IntKind.i64.wrap ((IntKind.i64.wrap (Int.tmod (IntKind.u64.wrap a3) (IntKind.u64.wrap (t35.length:Int)))) + (1:Int)))).Answer.Err),.bool ((rd t35 (IntKind.i64.wrap ((IntKind.i64.wrap (Int.tmod (IntKind.u64.wrap a3) (IntKind.u64.wrap (t35.length:Int)))) + (1:Int)))).Answer.Found),vS ((rd t35 (IntKind.i64.wrap ((IntKind.i64.wrap (Int.tmod (IntKind.u64.wrap a3) (IntKind.u64.wrap (t35.length:Int)))) + (1:Int)))).Answer.Value),.slice A583 x582.length c584]),(152,.pointer (some ⟨b570,o571 + (IntKind.i64.wrap (Int.tmod (IntKind.u64.wrap a3) (IntKind.u64.wrap (t35.length:Int)))).toNat * 7,none⟩))] ∧ Ext w w' ∧ St w' M41 F [Row QK 55 (.slice A37 t35.length c38) t35,B23 b1 a0] ∧ SlR Qr M41 (.slice A583 x582.length c584) x582) 5 (Ls 18 [0,1,2,3,4,5,6,7,8,9,10,11,12]) ?_ ?_
  ·clear o598h
   rintro ρ w616 ⟨x582,A583,c584,H,hρ,E,S,hs585⟩
   rw [QN hρ]
   refine Wo 13 rfl ?_
   obtain ⟨b617,o618,cs619,_,_,ee624,hb620,vs621,hR622,hc623⟩:=SlW.at' (S.row_read 0 rfl) p568 p569
   obtain ⟨rfl,rfl⟩:b617 = b570 ∧ o618 = o571:=by simpa using ee624.symm.trans ee577
   obtain ⟨v628,hs627,rfl⟩:=hR622
   obtain ⟨A625,c626,rfl,_⟩:=hs627.form
   refine W_v (.agg #[vU ((rd t35 (IntKind.i64.wrap (Int.tmod (IntKind.u64.wrap a3) (IntKind.u64.wrap (t35.length:Int))))).What),vI ((rd t35 (IntKind.i64.wrap (Int.tmod (IntKind.u64.wrap a3) (IntKind.u64.wrap (t35.length:Int))))).Task),vI ((rd t35 (IntKind.i64.wrap (Int.tmod (IntKind.u64.wrap a3) (IntKind.u64.wrap (t35.length:Int))))).Call),vI ((rd t35 (IntKind.i64.wrap (Int.tmod (IntKind.u64.wrap a3) (IntKind.u64.wrap (t35.length:Int))))).Answer.Err),.bool ((rd t35 (IntKind.i64.wrap (Int.tmod (IntKind.u64.wrap a3) (IntKind.u64.wrap (t35.length:Int))))).Answer.Found),vS ((rd t35 (IntKind.i64.wrap (Int.tmod (IntKind.u64.wrap a3) (IntKind.u64.wrap (t35.length:Int))))).Answer.Value),.slice A625 ((rd t35 (IntKind.i64.wrap (Int.tmod (IntKind.u64.wrap a3) (IntKind.u64.wrap (t35.length:Int))))).Answer.Pairs).length c626]) (Qh (Hp.of_get hb620) ty55 rfl (XC hc623 0 rfl) rfl rfl) rfl ?_
   refine QB (YC ⟨.inr ⟨M41,Hp.le_refl M41,(S.pick [1] (by decide))⟩,?_⟩)
   exact hq602 _ _ ⟨x582,((rd t35 (IntKind.i64.wrap (Int.tmod (IntKind.u64.wrap a3) (IntKind.u64.wrap (t35.length:Int))))).Answer.Pairs),A583,c584,A625,c626,Option.some.inj H,⟨rfl,rfl,rfl,rfl,rfl,rfl,rfl,rfl,rfl,trivial⟩,E,S.pick [0,1] (by decide),hs585,hs627⟩
  intro hq600
  have H:=o598h
  refine Vx (rs:=[9,13]) (by kernel_rfl) (by decide) ?_
  simp only [List.forall_mem_cons,List.not_mem_nil,false_implies,implies_true,and_true]
  refine ⟨?_,?_⟩
  ·refine ⟨_,rfl,?_⟩
   refine W_v (.agg #[vU ((rd t35 (IntKind.i64.wrap ((IntKind.i64.wrap (Int.tmod (IntKind.u64.wrap a3) (IntKind.u64.wrap (t35.length:Int)))) + (1:Int)))).What),vI ((rd t35 (IntKind.i64.wrap ((IntKind.i64.wrap (Int.tmod (IntKind.u64.wrap a3) (IntKind.u64.wrap (t35.length:Int)))) + (1:Int)))).Task),vI ((rd t35 (IntKind.i64.wrap ((IntKind.i64.wrap (Int.tmod (IntKind.u64.wrap a3) (IntKind.u64.wrap (t35.length:Int)))) + (1:Int)))).Call),vI ((rd t35 (IntKind.i64.wrap ((IntKind.i64.wrap (Int.tmod (IntKind.u64.wrap a3) (IntKind.u64.wrap (t35.length:Int)))) + (1:Int)))).Answer.Err),.bool ((rd t35 (IntKind.i64.wrap ((IntKind.i64.wrap (Int.tmod (IntKind.u64.wrap a3) (IntKind.u64.wrap (t35.length:Int)))) + (1:Int)))).Answer.Found),vS ((rd t35 (IntKind.i64.wrap ((IntKind.i64.wrap (Int.tmod (IntKind.u64.wrap a3) (IntKind.u64.wrap (t35.length:Int)))) + (1:Int)))).Answer.Value),.slice A564 ((rd t35 (IntKind.i64.wrap ((IntKind.i64.wrap (Int.tmod (IntKind.u64.wrap a3) (IntKind.u64.wrap (t35.length:Int)))) + (1:Int)))).Answer.Pairs).length c565]) (Qh (Hp.of_get hb559) ty55 rfl (XC hc562 0 rfl) rfl rfl) rfl ?_
   refine QB (YC ⟨.inr ⟨M41,Hp.le_refl M41,(S.pick [1] (by decide))⟩,?_⟩)
   exact hq600 _ _ ⟨((rd t35 (IntKind.i64.wrap ((IntKind.i64.wrap (Int.tmod (IntKind.u64.wrap a3) (IntKind.u64.wrap (t35.length:Int)))) + (1:Int)))).Answer.Pairs),A564,c565,H,⟨rfl,rfl,rfl,rfl,rfl,rfl,rfl,rfl,rfl,trivial⟩,E,S.pick [0,1] (by decide),hs566⟩
  ·refine ⟨_,rfl,?_⟩
   refine W_v (.agg #[vU ((rd t35 (IntKind.i64.wrap (Int.tmod (IntKind.u64.wrap a3) (IntKind.u64.wrap (t35.length:Int))))).What),vI ((rd t35 (IntKind.i64.wrap (Int.tmod (IntKind.u64.wrap a3) (IntKind.u64.wrap (t35.length:Int))))).Task),vI ((rd t35 (IntKind.i64.wrap (Int.tmod (IntKind.u64.wrap a3) (IntKind.u64.wrap (t35.length:Int))))).Call),vI ((rd t35 (IntKind.i64.wrap (Int.tmod (IntKind.u64.wrap a3) (IntKind.u64.wrap (t35.length:Int))))).Answer.Err),.bool ((rd t35 (IntKind.i64.wrap (Int.tmod (IntKind.u64.wrap a3) (IntKind.u64.wrap (t35.length:Int))))).Answer.Found),vS ((rd t35 (IntKind.i64.wrap (Int.tmod (IntKind.u64.wrap a3) (IntKind.u64.wrap (t35.length:Int))))).Answer.Value),.slice A578 ((rd t35 (IntKind.i64.wrap (Int.tmod (IntKind.u64.wrap a3) (IntKind.u64.wrap (t35.length:Int))))).Answer.Pairs).length c579]) (Qh (Hp.of_get hb573) ty55 rfl (XC hc576 0 rfl) rfl rfl) rfl ?_
   refine QB (YC ⟨.inr ⟨M41,Hp.le_refl M41,(S.pick [1] (by decide))⟩,?_⟩)
   exact hq601 _ _ ⟨((rd t35 (IntKind.i64.wrap (Int.tmod (IntKind.u64.wrap a3) (IntKind.u64.wrap (t35.length:Int))))).Answer.Pairs),A578,c579,H,⟨rfl,rfl,rfl,rfl,rfl,rfl,rfl,rfl,rfl,trivial⟩,E,S.pick [0,1] (by decide),hs580⟩
 rintro ρ w629 ⟨x590,x594,A591,c592,A595,c596,rfl,hρ,E,S,hs593,hs597⟩
 rw [QN hρ]
 have H:=o598H
 obtain ⟨⟨p630,p631⟩,H⟩:=Zt H
 obtain ⟨b632,o633,cs634,_,_,ee639,hb635,vs636,hR637,hc638⟩:=SlW.at' (S.row_read 0 rfl) p630 p631
 obtain ⟨v643,hs642,rfl⟩:=hR637
 obtain ⟨A640,c641,rfl,_⟩:=hs642.form
 refine Wt 14 rfl rfl rfl (.pointer (some ⟨b632,o633 + (IntKind.i64.wrap (Int.tmod (IntKind.u64.wrap a3) (IntKind.u64.wrap (t35.length:Int)))).toNat * 7,none⟩)) rfl (fun w' h'=>Qe Tryd.underlying25 ty55 (slA ee639) rfl p630 p631) (⟨M41,Hp.le_refl M41,(S.pick [1] (by decide))⟩) ?_
 refine Wo 15 rfl ?_
 obtain ⟨x645,he646,H⟩:=QX H
 replace he646:=Option.some.inj he646
 refine XE S 0 rfl rfl ee639 (by first | exact p630 | simpa using p630) (by first | exact p631 | simpa using p631) 0 ty55 rfl rfl [vU ((rd t35 (IntKind.i64.wrap ((IntKind.i64.wrap (Int.tmod (IntKind.u64.wrap a3) (IntKind.u64.wrap (t35.length:Int)))) + (1:Int)))).What),vI ((rd t35 (IntKind.i64.wrap ((IntKind.i64.wrap (Int.tmod (IntKind.u64.wrap a3) (IntKind.u64.wrap (t35.length:Int)))) + (1:Int)))).Task),vI ((rd t35 (IntKind.i64.wrap ((IntKind.i64.wrap (Int.tmod (IntKind.u64.wrap a3) (IntKind.u64.wrap (t35.length:Int)))) + (1:Int)))).Call),vI ((rd t35 (IntKind.i64.wrap ((IntKind.i64.wrap (Int.tmod (IntKind.u64.wrap a3) (IntKind.u64.wrap (t35.length:Int)))) + (1:Int)))).Answer.Err),.bool ((rd t35 (IntKind.i64.wrap ((IntKind.i64.wrap (Int.tmod (IntKind.u64.wrap a3) (IntKind.u64.wrap (t35.length:Int)))) + (1:Int)))).Answer.Found),vS ((rd t35 (IntKind.i64.wrap ((IntKind.i64.wrap (Int.tmod (IntKind.u64.wrap a3) (IntKind.u64.wrap (t35.length:Int)))) + (1:Int)))).Answer.Value),.slice A591 x590.length c592] rfl rfl rfl rfl (⟨(rd t35 (IntKind.i64.wrap ((IntKind.i64.wrap (Int.tmod (IntKind.u64.wrap a3) (IntKind.u64.wrap (t35.length:Int)))) + (1:Int)))).What,(rd t35 (IntKind.i64.wrap ((IntKind.i64.wrap (Int.tmod (IntKind.u64.wrap a3) (IntKind.u64.wrap (t35.length:Int)))) + (1:Int)))).Task,(rd t35 (IntKind.i64.wrap ((IntKind.i64.wrap (Int.tmod (IntKind.u64.wrap a3) (IntKind.u64.wrap (t35.length:Int)))) + (1:Int)))).Call,⟨(rd t35 (IntKind.i64.wrap ((IntKind.i64.wrap (Int.tmod (IntKind.u64.wrap a3) (IntKind.u64.wrap (t35.length:Int)))) + (1:Int)))).Answer.Err,(rd t35 (IntKind.i64.wrap ((IntKind.i64.wrap (Int.tmod (IntKind.u64.wrap a3) (IntKind.u64.wrap (t35.length:Int)))) + (1:Int)))).Answer.Found,(rd t35 (IntKind.i64.wrap ((IntKind.i64.wrap (Int.tmod (IntKind.u64.wrap a3) (IntKind.u64.wrap (t35.length:Int)))) + (1:Int)))).Answer.Value,x590⟩⟩:QG) (by rintro _ ⟨_,h6,rfl⟩; exact ⟨_,hs593,rfl⟩) he646 ?_
 intro w644 E' S
 replace E:=E.trans E'
 have hs647:Value.slice A37 t35.length c38 = Value.slice A37 x645.length c38:=by rw [← he646,List.length_set]
 try unfold B23 at S
 try rw [hs647] at S
 try rw [hs647]
 have p648:(IntKind.i64.wrap (Int.tmod (IntKind.u64.wrap a3) (IntKind.u64.wrap (t35.length:Int)))) < (x645.length:Int):=by rw [← he646,List.length_set]; exact p631
 refine QB (YC ⟨.inr ⟨M41,Hp.le_refl M41,(S.pick [1] (by decide))⟩,?_⟩)
 obtain ⟨⟨p649,p650⟩,H⟩:=Zt H
 obtain ⟨b651,o652,cs653,_,_,ee658,hb654,vs655,hR656,hc657⟩:=SlW.at' (S.row_read 0 rfl) p649 p650
 obtain ⟨v662,hs661,rfl⟩:=hR656
 obtain ⟨A659,c660,rfl,_⟩:=hs661.form
 refine Wt 16 rfl rfl rfl (.pointer (some ⟨b651,o652 + (IntKind.i64.wrap ((IntKind.i64.wrap (Int.tmod (IntKind.u64.wrap a3) (IntKind.u64.wrap (t35.length:Int)))) + (1:Int))).toNat * 7,none⟩)) rfl (fun w' h'=>Qe Tryd.underlying25 ty55 (slA ee658) rfl p649 p650) (⟨M41,Hp.le_refl M41,(S.pick [1] (by decide))⟩) ?_
 refine Wo 17 rfl ?_
 obtain ⟨x664,he665,H⟩:=QX H
 replace he665:=Option.some.inj he665
 refine XE S 0 rfl rfl ee658 (by first | exact p649 | simpa using p649) (by first | exact p650 | simpa using p650) 0 ty55 rfl rfl [vU ((rd t35 (IntKind.i64.wrap (Int.tmod (IntKind.u64.wrap a3) (IntKind.u64.wrap (t35.length:Int))))).What),vI ((rd t35 (IntKind.i64.wrap (Int.tmod (IntKind.u64.wrap a3) (IntKind.u64.wrap (t35.length:Int))))).Task),vI ((rd t35 (IntKind.i64.wrap (Int.tmod (IntKind.u64.wrap a3) (IntKind.u64.wrap (t35.length:Int))))).Call),vI ((rd t35 (IntKind.i64.wrap (Int.tmod (IntKind.u64.wrap a3) (IntKind.u64.wrap (t35.length:Int))))).Answer.Err),.bool ((rd t35 (IntKind.i64.wrap (Int.tmod (IntKind.u64.wrap a3) (IntKind.u64.wrap (t35.length:Int))))).Answer.Found),vS ((rd t35 (IntKind.i64.wrap (Int.tmod (IntKind.u64.wrap a3) (IntKind.u64.wrap (t35.length:Int))))).Answer.Value),.slice A595 x594.length c596] rfl rfl rfl rfl (⟨(rd t35 (IntKind.i64.wrap (Int.tmod (IntKind.u64.wrap a3) (IntKind.u64.wrap (t35.length:Int))))).What,(rd t35 (IntKind.i64.wrap (Int.tmod (IntKind.u64.wrap a3) (IntKind.u64.wrap (t35.length:Int))))).Task,(rd t35 (IntKind.i64.wrap (Int.tmod (IntKind.u64.wrap a3) (IntKind.u64.wrap (t35.length:Int))))).Call,⟨(rd t35 (IntKind.i64.wrap (Int.tmod (IntKind.u64.wrap a3) (IntKind.u64.wrap (t35.length:Int))))).Answer.Err,(rd t35 (IntKind.i64.wrap (Int.tmod (IntKind.u64.wrap a3) (IntKind.u64.wrap (t35.length:Int))))).Answer.Found,(rd t35 (IntKind.i64.wrap (Int.tmod (IntKind.u64.wrap a3) (IntKind.u64.wrap (t35.length:Int))))).Answer.Value,x594⟩⟩:QG) (by rintro _ ⟨_,h6,rfl⟩; exact ⟨_,hs597,rfl⟩) he665 ?_
 intro w663 E' S
 replace E:=E.trans E'
 have hs666:Value.slice A37 x645.length c38 = Value.slice A37 x664.length c38:=by rw [← he665,List.length_set]
 try unfold B23 at S
 try rw [hs666] at S
 try rw [hs666]
 have p667:(IntKind.i64.wrap (Int.tmod (IntKind.u64.wrap a3) (IntKind.u64.wrap (t35.length:Int)))) < (x664.length:Int):=by rw [← he665,List.length_set]; exact p648
 have p668:(IntKind.i64.wrap ((IntKind.i64.wrap (Int.tmod (IntKind.u64.wrap a3) (IntKind.u64.wrap (t35.length:Int)))) + (1:Int))) < (x664.length:Int):=by rw [← he665,List.length_set]; exact p650
 refine QB (YC ⟨.inl (by decide),?_⟩)
 refine Wz ?_
 refine tn ?_
 as_aux_lemma =>
 refine QE (QA (W_v (.agg #[vI a0.Tasks,vI a0.Active,vI a0.Keys,vI a0.Depth,vI a0.TS,vI a0.KeyLen,vI a0.ValLen,vI a0.Fan]) (Qh (S.blk 1 rfl) ty23 rfl (QI rfl) rfl rfl) rfl (W_v (.slice A1 a1.length c1) (QC rfl) rfl (W_v (.slice A37 x664.length c38) (QC rfl) rfl ?_))))
 obtain ⟨t669,ht670,H⟩:=QX H
 refine XX 1 fn10 (fun h9 hs9 hd9=>YD.con k _ a0 A1 c1 a1 A37 c38 x664 t669 (SlR.mono hr1 (Hp.le_union_left _ _)) (Sats.row hs9 hd9 0 rfl) (let ⟨gt,fr,h8⟩:=hg0; ⟨gt,fr,Hp.le_union_left _ _ _ _ h8⟩) (let ⟨gt,fr,h8⟩:=hg1; ⟨gt,fr,Hp.le_union_left _ _ _ _ h8⟩) ht670) S rfl rfl (by rintro _ _ _ ⟨_,rfl⟩; exact Qd) ?_
 rintro _ w671 _ Γ' E' S ⟨rfl,rfl⟩
 replace E:=E.trans E'
 refine W_v (.tuple #[.bool t669.1,vI t669.2]) (QC rfl) rfl (W_v (.bool t669.1) (QQ rfl rfl) rfl (W_v (vI t669.2) (QQ rfl rfl) rfl (W_v (.bool t669.1) (QD rfl) rfl (W_v (vI t669.2) (QD rfl) rfl (QB (tn (QE (QA (W_v (.bool t669.1) (QC rfl) rfl (W_v (.bool t669.1) (QC rfl) rfl ?_))))))))))
 refine ZI 3 (fun ρ w'=>Qs ρ [(167,.bool (t669.1 && (t669.2 == (0:Int))))] ∧ w671 = w') ?_ ?_
 ·rcases Qw t669.1 with hb672 | hb672
  ·skip
   refine Qk (skT hb672) rfl (Qk (skT hb672) rfl (W_v (.bool false) (QZ (k:=false) (congrArg Value.bool hb672) rfl) rfl (QB ?_)))
   exact ⟨⟨(by first | rfl | (rw [hb672]; rfl) | (simp only [hb672]; rfl)),trivial⟩,rfl⟩
  ·skip
   refine QU (congrArg some hb672) (W_v (vI t669.2) (QC rfl) rfl (QU (congrArg some hb672) (W_v (.bool (t669.2 == (0:Int))) (QT rfl rfl rfl rfl) rfl (W_v (.bool (t669.2 == (0:Int))) (QZ (k:=true) (congrArg Value.bool hb672) rfl) rfl (QB ?_)))))
   exact ⟨⟨(by first | rfl | (rw [hb672]; rfl) | (simp only [hb672]; rfl)),trivial⟩,rfl⟩
 rintro ρ _ ⟨hρ,rfl⟩
 rw [QN hρ]
 refine W_v (.bool (t669.1 && (t669.2 == (0:Int)))) (QD rfl) rfl (QB (tn ?_))
 refine QY ?_
 obtain rfl:=Option.some.inj H
 exact ⟨_,_,_,fun w1 e1=>QO (vs:=[.bool (t669.1 && (t669.2 == (0:Int)))]) (FA.cons (rfl) (FA.nil)),HM,E,S.pick [] (by decide),⟨rfl,rfl⟩⟩
end Go.Proofs.YtnjbjpaiepefoaaDoor
