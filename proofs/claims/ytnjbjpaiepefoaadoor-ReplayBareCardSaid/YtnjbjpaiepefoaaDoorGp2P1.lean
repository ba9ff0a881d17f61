import Derived.Test.YtnjbjpaiepefoaaDoorGp2B
import Derived.Test.YtnjbjpaiepefoaaDoorGp2P0
namespace Go.Proofs.YtnjbjpaiepefoaaDoor
open Go
set_option linter.unusedVariables false
set_option linter.unusedSimpArgs false
set_option maxHeartbeats 80000000
set_option maxRecDepth 100000
def XZ (k:Nat) (a0:Int):Option ((Unit) ⊕ (Qb)) :=
 (if ((decide (a0 < (1:Int))) || (decide (a0 > (6:Int)))) = true then some (Sum.inl ()) else (if 0 ≤ a0 ∧ a0 ≤ a0 ∧ a0 * 16 ≤ 140737488355328 ∧ a0 ≤ 9223372036854775807 then some (Sum.inr (⟨(List.replicate a0.toNat (⟨0,0⟩:Z3)),([]:List QG)⟩:Qb)) else none))
theorem XZ.mono {k:Nat} {a0:Int}:OLe (XZ k a0) (XZ (k + 1) a0):=by
 unfold XZ
 exact mo
theorem XZ.con (k:Nat) (M:Hp) (a0:Int) (r:(Unit) ⊕ (Qb))  (h:XZ k a0 = some r):Con Tryd.prog 54 #[vI a0] M [] (fun v M' Γ'=>(Sum.elim (fun x=>v = .tuple cz17 ∧ Γ' = []) (fun x=>∃ (bq1:Nat) (Aq3:Option Addr) (cq4:Nat) (Aq6:Option Addr) (cq7:Nat),v = .tuple #[pt bq1 0,vI 0] ∧ Γ' = [Blk bq1 (.cells #[.slice Aq3 x.tasks.length cq4,.slice Aq6 x.l.length cq7] 144 (0,0)),Row Qx 161 (.slice Aq3 x.tasks.length cq4) x.tasks,Row QK 55 (.slice Aq6 x.l.length cq7) x.l])) r):=by
 refine Qa Tryd.func54 rfl Tryd.ntmps54 Tryd.results54 rfl ?_
 intro w F rn S hrn
 have E:=Ext.refl w
 have HM:=Hp.le_refl M
 have H:=h
 unfold XZ at H
 refine QE (QA (W_v (.pointer none) (QD rfl) rfl (W_v (vI 0) (QD rfl) rfl (QB (tn (QE (QE (QA (W_v (vI a0) (QC rfl) rfl (W_v (.bool (decide (a0 < (1:Int)))) (QT rfl rfl rfl rfl) rfl (W_v (.bool (decide (a0 < (1:Int)))) (QC rfl) rfl ?_)))))))))))
 refine ZI 3 (fun ρ w'=>Qs ρ [(0,vI a0),(9,.bool ((decide (a0 < (1:Int))) || (decide (a0 > (6:Int)))))] ∧ w = w') ?_ ?_
 ·rcases Qw (decide (a0 < (1:Int))) with hb1 | hb1
  ·skip
   refine QU (congrArg some hb1) (W_v (vI a0) (QC rfl) rfl (QU (congrArg some hb1) (W_v (.bool (decide (a0 > (6:Int)))) (QT rfl rfl rfl rfl) rfl (W_v (.bool (decide (a0 > (6:Int)))) (QZ (k:=false) (congrArg Value.bool hb1) rfl) rfl (QB ?_)))))
   exact ⟨⟨rfl,(by first | rfl | (rw [hb1]; rfl) | (simp only [hb1]; rfl)),trivial⟩,rfl⟩
  ·skip
   refine Qk (skF hb1) rfl (Qk (skF hb1) rfl (W_v (.bool true) (QZ (k:=true) (congrArg Value.bool hb1) rfl) rfl (QB ?_)))
   exact ⟨⟨rfl,(by first | rfl | (rw [hb1]; rfl) | (simp only [hb1]; rfl)),trivial⟩,rfl⟩
 rintro ρ _ ⟨hρ,rfl⟩
 rw [QN hρ]
 refine QB (tn ?_)
 rcases Zh H with ⟨hb2,H⟩ | ⟨hb2,H⟩
 ·refine QL (congrArg Value.bool hb2) ?_
  refine QE (QA (W_v (.pointer none) (QD rfl) rfl (W_v (vI 1) (QD rfl) rfl (QB (tn ?_)))))
  refine QY ?_
  refine tr (?_)
  obtain rfl:=Option.some.inj H
  exact ⟨_,_,_,fun w1 e1=>QO (vs:=[.pointer none,vI 1]) (FA.cons (rfl) (FA.cons (rfl) (FA.nil))),HM,E,S.pick [] (by decide),⟨rfl,rfl⟩⟩
 refine QJ (congrArg Value.bool hb2) (Qg (tn ?_))
 as_aux_lemma =>
 refine QE (QA (W_v (vI a0) (QC rfl) rfl ?_))
 obtain ⟨⟨p3,p4,p5,p6⟩,H⟩:=Zt H
 refine Vn (r:=Qx) S (⟨0,0⟩:Z3) Tryd.underlying142 ty161 rfl (by decide) (fun _=>rfl) rfl rfl p3 p4 p5 p6 rfl ?_
 intro b7 w8 E' S
 replace E:=E.trans E'
 refine W_v (.agg #[.slice (some ⟨b7,0,none⟩) (List.replicate a0.toNat (⟨0,0⟩:Z3)).length a0.toNat,.slice none 0 0]) (ZN (pl:=[(0,1),(1,1)]) #[.slice (some ⟨b7,0,none⟩) (List.replicate a0.toNat (⟨0,0⟩:Z3)).length a0.toNat,.slice none 0 0] Tryd.underlying144 ty144 (by as_aux_lemma=>kernel_rfl) rfl (by as_aux_lemma=>kernel_rfl)) rfl ?_
 refine YO S #[.slice (some ⟨b7,0,none⟩) (List.replicate a0.toNat (⟨0,0⟩:Z3)).length a0.toNat,.slice none 0 0] rfl rfl rfl ?_
 intro b10 w11 E' S
 replace E:=E.trans E'
 refine W_v (pt b10 0) (QD rfl) rfl (W_v (vI 0) (QD rfl) rfl (QB (tn ?_)))
 refine QY ?_
 obtain rfl:=Option.some.inj H
 replace S:=S.row_nil QK 55
 exact ⟨_,_,_,fun w1 e1=>QO (vs:=[pt b10 0,vI 0]) (FA.cons (rfl) (FA.cons (rfl) (FA.nil))),HM,E,S.pick [1,2,0] (by decide),⟨b10,(some ⟨b7,0,none⟩),a0.toNat,none,0,rfl,rfl⟩⟩
def Yk (k:Nat) (a0:Qo):Option ((Unit) ⊕ (QM)) :=
 (Option.bind (Xc k a0) (fun t4=>(if (!t4) = true then some (Sum.inl ()) else some (Sum.inr (⟨⟨a0.Tasks,a0.Active,a0.Keys,a0.Depth,a0.TS,a0.KeyLen,a0.ValLen,a0.Fan⟩,([]:List (ZO × Int)),([]:List (Int × Int)),([]:List Zo),([]:List (Str × Q9)),(0:Int),(0:Int)⟩:QM)))))
theorem Yk.mono {k:Nat} {a0:Qo}:OLe (Yk k a0) (Yk (k + 1) a0):=by
 unfold Yk
 have m1:=@Xc.mono
 exact mo
theorem Yk.con (k:Nat) (M:Hp) (a0:Qo) (r:(Unit) ⊕ (QM))  (h:Yk k a0 = some r):Con Tryd.prog 13 #[.agg #[vI a0.Tasks,vI a0.Active,vI a0.Keys,vI a0.Depth,vI a0.TS,vI a0.KeyLen,vI a0.ValLen,vI a0.Fan]] M [] (fun v M' Γ'=>(Sum.elim (fun x=>v = .tuple cz17 ∧ Γ' = []) (fun x=>∃ (bq1:Nat) (Aq3:Option Addr) (cq4:Nat) (Aq6:Option Addr) (cq7:Nat) (Aq9:Option Addr) (cq10:Nat) (Aq12:Option Addr) (cq13:Nat) (vsq15:List (Str × Value)),v = .tuple #[pt bq1 0,vI 0] ∧ YP Qm M' x.rows vsq15 ∧ Γ' = [B95 bq1 x Aq3 Aq6 Aq9 cq10 Aq12,QV QH (Value.int .i64) Aq3 x.names,QV (Value.int .i64) (Value.int .i64) Aq6 x.many,Row QP 122 (.slice Aq9 x.txs.length cq10) x.txs,QV encS (fun v:Value=>v) Aq12 vsq15])) r):=by
 refine Qa Tryd.func13 rfl Tryd.ntmps13 Tryd.results13 rfl ?_
 intro w F rn S hrn
 have E:=Ext.refl w
 have HM:=Hp.le_refl M
 have H:=h
 unfold Yk at H
 refine QE (QA ?_)
 refine YO S #[vI a0.Tasks,vI a0.Active,vI a0.Keys,vI a0.Depth,vI a0.TS,vI a0.KeyLen,vI a0.ValLen,vI a0.Fan] rfl rfl rfl ?_
 intro b1 w2 E' S
 replace E:=E.trans E'
 refine W_v (.pointer none) (QD rfl) rfl (W_v (vI 0) (QD rfl) rfl (QB (tn (QE (QE (QA (W_v (.agg #[vI a0.Tasks,vI a0.Active,vI a0.Keys,vI a0.Depth,vI a0.TS,vI a0.KeyLen,vI a0.ValLen,vI a0.Fan]) (Qh (S.blk 0 rfl) ty23 rfl (QI rfl) rfl rfl) rfl ?_)))))))
 obtain ⟨t4,ht5,H⟩:=QX H
 refine YJ fn45 (Xc.con k M a0 t4  ht5) S rfl rfl (by rintro _ _ _ ⟨_,rfl⟩; exact Qd) ?_
 rintro _ w6 _ Γ' E' S ⟨rfl,rfl⟩
 replace E:=E.trans E'
 refine W_v (.bool (!t4)) (Yx (b:=t4) rfl) rfl (QB (tn ?_))
 rcases Zh H with ⟨hb7,H⟩ | ⟨hb7,H⟩
 ·refine QL (congrArg Value.bool hb7) ?_
  refine QE (QA (W_v (.pointer none) (QD rfl) rfl (W_v (vI 1) (QD rfl) rfl (QB (tn ?_)))))
  refine QY ?_
  refine tr (?_)
  obtain rfl:=Option.some.inj H
  exact ⟨_,_,_,fun w1 e1=>QO (vs:=[.pointer none,vI 1]) (FA.cons (rfl) (FA.cons (rfl) (FA.nil))),HM,E,S.pick [] (by decide),⟨rfl,rfl⟩⟩
 refine QJ (congrArg Value.bool hb7) (Qg (tn (QE (QA (W_v (.agg #[vI a0.Tasks,vI a0.Active,vI a0.Keys,vI a0.Depth,vI a0.TS,vI a0.KeyLen,vI a0.ValLen,vI a0.Fan]) (Qh (S.blk 0 rfl) ty23 rfl (QI rfl) rfl rfl) rfl ?_)))))
 refine V7 (κ:=ZO) (ν:=Int) QH (Value.int .i64) S rfl ?_
 intro b8 w9 E' S
 replace E:=E.trans E'
 replace S:St w9 M F [_,_]:=S
 refine V7 (κ:=Int) (ν:=Int) (Value.int .i64) (Value.int .i64) S rfl ?_
 intro b11 w12 E' S
 replace E:=E.trans E'
 replace S:St w12 M F [_,_,_]:=S
 refine V7 (κ:=Str) (ν:=Value) encS (fun v:Value=>v) S rfl ?_
 intro b14 w15 E' S
 replace E:=E.trans E'
 have hm17:YP Qm M ([]:List (Str × Q9)) ([]:List (Str × Value)):=YP.nil
 replace S:St w15 M F [_,_,_,_]:=S
 refine W_v (.agg #[vI a0.Tasks,vI a0.Active,vI a0.Keys,vI a0.Depth,vI a0.TS,vI a0.KeyLen,vI a0.ValLen,vI a0.Fan,.map (mb (some ⟨b8,0,none⟩)),.map (mb (some ⟨b11,0,none⟩)),.slice none 0 0,.map (mb (some ⟨b14,0,none⟩)),vI 0,vI 0]) (ZN (pl:=[(0,8),(8,1),(9,1),(10,1),(11,1),(12,1),(13,1)]) #[vI a0.Tasks,vI a0.Active,vI a0.Keys,vI a0.Depth,vI a0.TS,vI a0.KeyLen,vI a0.ValLen,vI a0.Fan,.map (mb (some ⟨b8,0,none⟩)),.map (mb (some ⟨b11,0,none⟩)),.slice none 0 0,.map (mb (some ⟨b14,0,none⟩)),vI 0,vI 0] Tryd.underlying95 ty95 (by as_aux_lemma=>kernel_rfl) rfl (by as_aux_lemma=>kernel_rfl)) rfl ?_
 refine YO S #[vI a0.Tasks,vI a0.Active,vI a0.Keys,vI a0.Depth,vI a0.TS,vI a0.KeyLen,vI a0.ValLen,vI a0.Fan,.map (mb (some ⟨b8,0,none⟩)),.map (mb (some ⟨b11,0,none⟩)),.slice none 0 0,.map (mb (some ⟨b14,0,none⟩)),vI 0,vI 0] rfl rfl rfl ?_
 intro b18 w19 E' S
 replace E:=E.trans E'
 refine W_v (pt b18 0) (QD rfl) rfl (W_v (vI 0) (QD rfl) rfl (QB (tn ?_)))
 refine QY ?_
 obtain rfl:=Option.some.inj H
 replace S:=S.row_nil QP 122
 exact ⟨_,_,_,fun w1 e1=>QO (vs:=[pt b18 0,vI 0]) (FA.cons (rfl) (FA.cons (rfl) (FA.nil))),HM,E,S.pick [1,4,3,0,2] (by decide),⟨b18,(some ⟨b8,0,none⟩),0,(some ⟨b11,0,none⟩),0,none,0,(some ⟨b14,0,none⟩),0,([]:List (Str × Value)),rfl,hm17,rfl⟩⟩
def ZH (k:Nat) (a0:Qo) (a1:(List (List QW))):Option ((Unit) ⊕ (ZX) ⊕ (ZX) ⊕ (ZX) ⊕ (ZX)) :=
 (Option.bind (XU k a0 a1) (fun t4=>(if (!t4) = true then some (Sum.inl ()) else (Option.bind (XZ k a0.Tasks) (fun t8=>(Sum.elim (fun t10=>(Option.bind (Yk k a0) (fun t15=>(Sum.elim (fun t17=>(if 0 ≤ a0.Tasks ∧ a0.Tasks ≤ a0.Tasks ∧ a0.Tasks * 8 ≤ 140737488355328 ∧ a0.Tasks ≤ 9223372036854775807 then some (Sum.inr (Sum.inr (Sum.inr (Sum.inl (⟨a1,(⟨[],[]⟩:Qb),(⟨⟨0,0,0,0,0,0,0,0⟩,[],[],[],[],0,0⟩:QM),([]:List ZL),(List.replicate a0.Tasks.toNat (0:Int))⟩:ZX))))) else none)) (fun t18=>(if 0 ≤ a0.Tasks ∧ a0.Tasks ≤ a0.Tasks ∧ a0.Tasks * 8 ≤ 140737488355328 ∧ a0.Tasks ≤ 9223372036854775807 then some (Sum.inr (Sum.inr (Sum.inl (⟨a1,(⟨[],[]⟩:Qb),t18,([]:List ZL),(List.replicate a0.Tasks.toNat (0:Int))⟩:ZX)))) else none))) t15))) (fun t11=>(Option.bind (Yk k a0) (fun t74=>(Sum.elim (fun t76=>(if 0 ≤ a0.Tasks ∧ a0.Tasks ≤ a0.Tasks ∧ a0.Tasks * 8 ≤ 140737488355328 ∧ a0.Tasks ≤ 9223372036854775807 then some (Sum.inr (Sum.inr (Sum.inr (Sum.inr (⟨a1,t11,(⟨⟨0,0,0,0,0,0,0,0⟩,[],[],[],[],0,0⟩:QM),([]:List ZL),(List.replicate a0.Tasks.toNat (0:Int))⟩:ZX))))) else none)) (fun t77=>(if 0 ≤ a0.Tasks ∧ a0.Tasks ≤ a0.Tasks ∧ a0.Tasks * 8 ≤ 140737488355328 ∧ a0.Tasks ≤ 9223372036854775807 then some (Sum.inr (Sum.inl (⟨a1,t11,t77,([]:List ZL),(List.replicate a0.Tasks.toNat (0:Int))⟩:ZX))) else none))) t74)))) t8)))))
theorem ZH.mono {k:Nat} {a0:Qo} {a1:(List (List QW))}:OLe (ZH k a0 a1) (ZH (k + 1) a0 a1):=by
 unfold ZH
 have m1:=@XZ.mono
 have m2:=@Yk.mono
 have m3:=@XU.mono
 exact mo
theorem ZH.con (k:Nat) (M:Hp) (a0:Qo) (A1:Option Addr) (c1:Nat) (a1:(List (List QW))) (r:(Unit) ⊕ (ZX) ⊕ (ZX) ⊕ (ZX) ⊕ (ZX)) (hr1:SlR (rSl ZV) M (.slice A1 a1.length c1) a1) (h:ZH k a0 a1 = some r):Con Tryd.prog 27 #[.agg #[vI a0.Tasks,vI a0.Active,vI a0.Keys,vI a0.Depth,vI a0.TS,vI a0.KeyLen,vI a0.ValLen,vI a0.Fan],.slice A1 a1.length c1] M [] (fun v M' Γ'=>(Sum.elim (fun x=>v = .tuple cz16 ∧ Γ' = []) (Sum.elim (fun x=>∃ (bq1:Nat) (Aq3:Option Addr) (cq4:Nat) (bq6:Nat) (Aq8:Option Addr) (cq9:Nat) (Aq11:Option Addr) (cq12:Nat) (bq14:Nat) (Aq16:Option Addr) (cq17:Nat) (Aq19:Option Addr) (cq20:Nat) (Aq22:Option Addr) (cq23:Nat) (Aq25:Option Addr) (cq26:Nat) (vsq28:List (Str × Value)) (Aq30:Option Addr) (cq31:Nat) (Aq33:Option Addr) (cq34:Nat),v = .tuple #[pt bq1 0,.bool true] ∧ SlR (rSl ZV) M' (.slice Aq3 x.programs.length cq4) x.programs ∧ YP Qm M' x.m.rows vsq28 ∧ Γ' = [B107 bq1 x Aq3 cq4 bq6 bq14 Aq30 cq31 Aq33 cq34,Blk bq6 (.cells #[.slice Aq8 x.r.tasks.length cq9,.slice Aq11 x.r.l.length cq12] 144 (0,0)),Row Qx 161 (.slice Aq8 x.r.tasks.length cq9) x.r.tasks,Row QK 55 (.slice Aq11 x.r.l.length cq12) x.r.l,B95 bq14 x.m Aq16 Aq19 Aq22 cq23 Aq25,QV QH (Value.int .i64) Aq16 x.m.names,QV (Value.int .i64) (Value.int .i64) Aq19 x.m.many,Row QP 122 (.slice Aq22 x.m.txs.length cq23) x.m.txs,QV encS (fun v:Value=>v) Aq25 vsq28,Row Q0 69 (.slice Aq30 x.done.length cq31) x.done,Row (rInt .i64) 3 (.slice Aq33 x.last.length cq34) x.last]) (Sum.elim (fun x=>∃ (bq1:Nat) (Aq3:Option Addr) (cq4:Nat) (bq6:Nat) (Aq8:Option Addr) (cq9:Nat) (Aq11:Option Addr) (cq12:Nat) (Aq14:Option Addr) (cq15:Nat) (Aq17:Option Addr) (cq18:Nat) (vsq20:List (Str × Value)) (Aq22:Option Addr) (cq23:Nat) (Aq25:Option Addr) (cq26:Nat),v = .tuple #[pt bq1 0,.bool false] ∧ SlR (rSl ZV) M' (.slice Aq3 x.programs.length cq4) x.programs ∧ YP Qm M' x.m.rows vsq20 ∧ Γ' = [Blk bq1 (.cells #[.slice Aq3 x.programs.length cq4,.pointer none,pt bq6 0,.slice Aq22 x.done.length cq23,.slice Aq25 x.last.length cq26] 107 (0,0)),B95 bq6 x.m Aq8 Aq11 Aq14 cq15 Aq17,QV QH (Value.int .i64) Aq8 x.m.names,QV (Value.int .i64) (Value.int .i64) Aq11 x.m.many,Row QP 122 (.slice Aq14 x.m.txs.length cq15) x.m.txs,QV encS (fun v:Value=>v) Aq17 vsq20,Row Q0 69 (.slice Aq22 x.done.length cq23) x.done,Row (rInt .i64) 3 (.slice Aq25 x.last.length cq26) x.last]) (Sum.elim (fun x=>∃ (bq1:Nat) (Aq3:Option Addr) (cq4:Nat) (Aq6:Option Addr) (cq7:Nat) (Aq9:Option Addr) (cq10:Nat),v = .tuple #[pt bq1 0,.bool false] ∧ SlR (rSl ZV) M' (.slice Aq3 x.programs.length cq4) x.programs ∧ Γ' = [Blk bq1 (.cells #[.slice Aq3 x.programs.length cq4,.pointer none,.pointer none,.slice Aq6 x.done.length cq7,.slice Aq9 x.last.length cq10] 107 (0,0)),Row Q0 69 (.slice Aq6 x.done.length cq7) x.done,Row (rInt .i64) 3 (.slice Aq9 x.last.length cq10) x.last]) (fun x=>∃ (bq1:Nat) (Aq3:Option Addr) (cq4:Nat) (bq6:Nat) (Aq8:Option Addr) (cq9:Nat) (Aq11:Option Addr) (cq12:Nat) (Aq14:Option Addr) (cq15:Nat) (Aq17:Option Addr) (cq18:Nat),v = .tuple #[pt bq1 0,.bool false] ∧ SlR (rSl ZV) M' (.slice Aq3 x.programs.length cq4) x.programs ∧ Γ' = [Blk bq1 (.cells #[.slice Aq3 x.programs.length cq4,pt bq6 0,.pointer none,.slice Aq14 x.done.length cq15,.slice Aq17 x.last.length cq18] 107 (0,0)),Blk bq6 (.cells #[.slice Aq8 x.r.tasks.length cq9,.slice Aq11 x.r.l.length cq12] 144 (0,0)),Row Qx 161 (.slice Aq8 x.r.tasks.length cq9) x.r.tasks,Row QK 55 (.slice Aq11 x.r.l.length cq12) x.r.l,Row Q0 69 (.slice Aq14 x.done.length cq15) x.done,Row (rInt .i64) 3 (.slice Aq17 x.last.length cq18) x.last]))))) r):=by
 refine Qa Tryd.func27 rfl Tryd.ntmps27 Tryd.results27 rfl ?_
 intro w F rn S hrn
 have E:=Ext.refl w
 have HM:=Hp.le_refl M
 have H:=h
 unfold ZH at H
 refine QE (QA ?_)
 refine YO S #[vI a0.Tasks,vI a0.Active,vI a0.Keys,vI a0.Depth,vI a0.TS,vI a0.KeyLen,vI a0.ValLen,vI a0.Fan] rfl rfl rfl ?_
 intro b1 w2 E' S
 replace E:=E.trans E'
 refine W_v (.pointer none) (QD rfl) rfl (W_v (.bool false) (QD rfl) rfl (QB (tn (QE (QE (QA (W_v (.agg #[vI a0.Tasks,vI a0.Active,vI a0.Keys,vI a0.Depth,vI a0.TS,vI a0.KeyLen,vI a0.ValLen,vI a0.Fan]) (Qh (S.blk 0 rfl) ty23 rfl (QI rfl) rfl rfl) rfl (W_v (.slice A1 a1.length c1) (QC rfl) rfl ?_))))))))
 obtain ⟨t4,ht5,H⟩:=QX H
 refine YJ fn14 (XU.con k M a0 A1 c1 a1 t4 hr1 ht5) S rfl rfl (by rintro _ _ _ ⟨_,rfl⟩; exact Qd) ?_
 rintro _ w6 _ Γ' E' S ⟨rfl,rfl⟩
 replace E:=E.trans E'
 refine W_v (.bool (!t4)) (Yx (b:=t4) rfl) rfl (QB (tn ?_))
 rcases Zh H with ⟨hb7,H⟩ | ⟨hb7,H⟩
 ·refine QL (congrArg Value.bool hb7) ?_
  refine QE (QA (W_v (.pointer none) (QD rfl) rfl (W_v (.bool false) (QD rfl) rfl (QB (tn ?_)))))
  refine QY ?_
  refine tr (?_)
  obtain rfl:=Option.some.inj H
  exact ⟨_,_,_,fun w1 e1=>QO (vs:=[.pointer none,.bool false]) (FA.cons (rfl) (FA.cons (rfl) (FA.nil))),HM,E,S.pick [] (by decide),⟨rfl,rfl⟩⟩
 refine QJ (congrArg Value.bool hb7) (Qg (tn (QE (QA (W_v (pt b1 0) (QF (o:=0) (off:=0) Tryd.underlying23 rfl ty3 rfl rfl) rfl (W_v (vI a0.Tasks) (QR (S.blk 0 rfl) ty3 rfl rfl) rfl ?_))))))
 obtain ⟨t8,ht9,H⟩:=QX H
 rcases t8 with t10 | t11
 ·skip
  replace H:=elimL H
  refine Z2 fn54 (XZ.con k M a0.Tasks (Sum.inl t10)  ht9) (Γ1:=[]) (Γ2:=[_]) S rfl rfl (by rintro _ _ _ ⟨rfl,rfl⟩; exact Qd) ?_
  rintro _ w12 _ Γ' E' S ⟨rfl,rfl⟩
  replace E:=E.trans E'
  replace S:St w12 M F [_]:=S
  refine W_v (.tuple cz17) (QC rfl) rfl (W_v (.pointer none) (QQ rfl rfl) rfl (W_v (vI 1) (QQ rfl rfl) rfl (W_v (.pointer none) (QD rfl) rfl (W_v (vI 1) (QD rfl) rfl (QB (tn (QE (QA (W_v (.agg #[vI a0.Tasks,vI a0.Active,vI a0.Keys,vI a0.Depth,vI a0.TS,vI a0.KeyLen,vI a0.ValLen,vI a0.Fan]) (Qh (S.blk 0 rfl) ty23 rfl (QI rfl) rfl rfl) rfl ?_)))))))))
  obtain ⟨t15,ht16,H⟩:=QX H
  rcases t15 with t17 | t18
  ·skip
   replace H:=elimL H
   refine Z2 fn13 (Yk.con k M a0 (Sum.inl t17)  ht16) (Γ1:=[]) (Γ2:=[_]) S rfl rfl (by rintro _ _ _ ⟨rfl,rfl⟩; exact Qd) ?_
   rintro _ w19 _ Γ' E' S ⟨rfl,rfl⟩
   replace E:=E.trans E'
   replace S:St w19 M F [_]:=S
   refine W_v (.tuple cz17) (QC rfl) rfl (W_v (.pointer none) (QQ rfl rfl) rfl (W_v (vI 1) (QQ rfl rfl) rfl (W_v (.pointer none) (QD rfl) rfl (W_v (vI 1) (QD rfl) rfl (QB (tn (QE (QA (W_v (.slice A1 a1.length c1) (QC rfl) rfl (W_v (.pointer none) (QC rfl) rfl (W_v (.pointer none) (QC rfl) rfl (W_v (pt b1 0) (QF (o:=0) (off:=0) Tryd.underlying23 rfl ty3 rfl rfl) rfl (W_v (vI a0.Tasks) (QR (S.blk 0 rfl) ty3 rfl rfl) rfl ?_)))))))))))))
   obtain ⟨⟨p22,p23,p24,p25⟩,H⟩:=Zt H
   refine Vn (r:=(rInt .i64)) S (0:Int) Tryd.underlying36 ty3 rfl (by decide) (fun _=>rfl) rfl rfl p22 p23 p24 p25 rfl ?_
   intro b26 w27 E' S
   replace E:=E.trans E'
   refine W_v (.agg #[.slice A1 a1.length c1,.pointer none,.pointer none,.slice none 0 0,.slice (some ⟨b26,0,none⟩) (List.replicate a0.Tasks.toNat (0:Int)).length a0.Tasks.toNat]) (ZN (pl:=[(0,1),(1,1),(2,1),(3,1),(4,1)]) #[.slice A1 a1.length c1,.pointer none,.pointer none,.slice none 0 0,.slice (some ⟨b26,0,none⟩) (List.replicate a0.Tasks.toNat (0:Int)).length a0.Tasks.toNat] Tryd.underlying107 ty107 (by as_aux_lemma=>kernel_rfl) rfl (by as_aux_lemma=>kernel_rfl)) rfl ?_
   refine YO S #[.slice A1 a1.length c1,.pointer none,.pointer none,.slice none 0 0,.slice (some ⟨b26,0,none⟩) (List.replicate a0.Tasks.toNat (0:Int)).length a0.Tasks.toNat] rfl rfl rfl ?_
   intro b29 w30 E' S
   replace E:=E.trans E'
   refine W_v (vI 1) (QC rfl) rfl (W_v (.bool false) (QT rfl rfl rfl rfl) rfl (W_v (.bool false) (QC rfl) rfl (Qk (rfl) rfl (Qk (rfl) rfl (W_v (.bool false) (QZ (k:=false) rfl rfl) rfl (W_v (pt b29 0) (QD rfl) rfl (W_v (.bool false) (QD rfl) rfl (QB (tn ?_)))))))))
   refine QY ?_
   obtain rfl:=Option.some.inj H
   replace S:=S.row_nil Q0 69
   exact ⟨_,_,_,fun w1 e1=>QO (vs:=[pt b29 0,.bool false]) (FA.cons (rfl) (FA.cons (rfl) (FA.nil))),HM,E,S.pick [1,0,2] (by decide),⟨b29,A1,c1,none,0,(some ⟨b26,0,none⟩),a0.Tasks.toNat,rfl,hr1,rfl⟩⟩
  ·skip
   replace H:=elimR H
   refine ZZ fn13 (Yk.con k M a0 (Sum.inr t18)  ht16) (Γ1:=[]) (Γ2:=[_]) S rfl rfl ?_
   rintro _ w49 M50 Γ' hM51 E' S ⟨b33,A35,c36,A38,c39,A41,c42,A44,c45,vs47,rfl,hm48,rfl⟩
   replace HM:=Hp.le_trans HM hM51
   replace hr1:=SlR.mono hr1 hM51
   replace E:=E.trans E'
   replace S:St w49 M50 F [_,_,_,_,_,_]:=S
   refine W_v (.tuple #[pt b33 0,vI 0]) (QC rfl) rfl (W_v (pt b33 0) (QQ rfl rfl) rfl (W_v (vI 0) (QQ rfl rfl) rfl (W_v (pt b33 0) (QD rfl) rfl (W_v (vI 0) (QD rfl) rfl (QB (tn (QE (QA (W_v (.slice A1 a1.length c1) (QC rfl) rfl (W_v (.pointer none) (QC rfl) rfl (W_v (pt b33 0) (QC rfl) rfl (W_v (pt b1 0) (QF (o:=0) (off:=0) Tryd.underlying23 rfl ty3 rfl rfl) rfl (W_v (vI a0.Tasks) (QR (S.blk 5 rfl) ty3 rfl rfl) rfl ?_)))))))))))))
   obtain ⟨⟨p52,p53,p54,p55⟩,H⟩:=Zt H
   refine Vn (r:=(rInt .i64)) S (0:Int) Tryd.underlying36 ty3 rfl (by decide) (fun _=>rfl) rfl rfl p52 p53 p54 p55 rfl ?_
   intro b56 w57 E' S
   replace E:=E.trans E'
   refine W_v (.agg #[.slice A1 a1.length c1,.pointer none,pt b33 0,.slice none 0 0,.slice (some ⟨b56,0,none⟩) (List.replicate a0.Tasks.toNat (0:Int)).length a0.Tasks.toNat]) (ZN (pl:=[(0,1),(1,1),(2,1),(3,1),(4,1)]) #[.slice A1 a1.length c1,.pointer none,pt b33 0,.slice none 0 0,.slice (some ⟨b56,0,none⟩) (List.replicate a0.Tasks.toNat (0:Int)).length a0.Tasks.toNat] Tryd.underlying107 ty107 (by as_aux_lemma=>kernel_rfl) rfl (by as_aux_lemma=>kernel_rfl)) rfl ?_
   refine YO S #[.slice A1 a1.length c1,.pointer none,pt b33 0,.slice none 0 0,.slice (some ⟨b56,0,none⟩) (List.replicate a0.Tasks.toNat (0:Int)).length a0.Tasks.toNat] rfl rfl rfl ?_
   intro b59 w60 E' S
   replace E:=E.trans E'
   refine W_v (vI 1) (QC rfl) rfl (W_v (.bool false) (QT rfl rfl rfl rfl) rfl (W_v (.bool false) (QC rfl) rfl (Qk (rfl) rfl (Qk (rfl) rfl (W_v (.bool false) (QZ (k:=false) rfl rfl) rfl (W_v (pt b59 0) (QD rfl) rfl (W_v (.bool false) (QD rfl) rfl (QB (tn ?_)))))))))
   refine QY ?_
   obtain rfl:=Option.some.inj H
   replace S:=S.row_nil Q0 69
   exact ⟨_,_,_,fun w1 e1=>QO (vs:=[pt b59 0,.bool false]) (FA.cons (rfl) (FA.cons (rfl) (FA.nil))),HM,E,S.pick [1,3,4,5,6,7,0,2] (by decide),⟨b59,A1,c1,b33,A35,c36,A38,c39,A41,c42,A44,c45,vs47,none,0,(some ⟨b56,0,none⟩),a0.Tasks.toNat,rfl,hr1,hm48,rfl⟩⟩
 ·skip
  replace H:=elimR H
  refine ZZ fn54 (XZ.con k M a0.Tasks (Sum.inr t11)  ht9) (Γ1:=[]) (Γ2:=[_]) S rfl rfl ?_
  rintro _ w71 M72 Γ' hM73 E' S ⟨b63,A65,c66,A68,c69,rfl,rfl⟩
  replace HM:=Hp.le_trans HM hM73
  replace hr1:=SlR.mono hr1 hM73
  replace E:=E.trans E'
  replace S:St w71 M72 F [_,_,_,_]:=S
  refine W_v (.tuple #[pt b63 0,vI 0]) (QC rfl) rfl (W_v (pt b63 0) (QQ rfl rfl) rfl (W_v (vI 0) (QQ rfl rfl) rfl (W_v (pt b63 0) (QD rfl) rfl (W_v (vI 0) (QD rfl) rfl (QB (tn (QE (QA (W_v (.agg #[vI a0.Tasks,vI a0.Active,vI a0.Keys,vI a0.Depth,vI a0.TS,vI a0.KeyLen,vI a0.ValLen,vI a0.Fan]) (Qh (S.blk 3 rfl) ty23 rfl (QI rfl) rfl rfl) rfl ?_)))))))))
  obtain ⟨t74,ht75,H⟩:=QX H
  rcases t74 with t76 | t77
  ·skip
   replace H:=elimL H
   refine Z2 fn13 (Yk.con k M72 a0 (Sum.inl t76)  ht75) (Γ1:=[]) (Γ2:=[_,_,_,_]) S rfl rfl (by rintro _ _ _ ⟨rfl,rfl⟩; exact Qd) ?_
   rintro _ w78 _ Γ' E' S ⟨rfl,rfl⟩
   replace E:=E.trans E'
   replace S:St w78 M72 F [_,_,_,_]:=S
   refine W_v (.tuple cz17) (QC rfl) rfl (W_v (.pointer none) (QQ rfl rfl) rfl (W_v (vI 1) (QQ rfl rfl) rfl (W_v (.pointer none) (QD rfl) rfl (W_v (vI 1) (QD rfl) rfl (QB (tn (QE (QA (W_v (.slice A1 a1.length c1) (QC rfl) rfl (W_v (pt b63 0) (QC rfl) rfl (W_v (.pointer none) (QC rfl) rfl (W_v (pt b1 0) (QF (o:=0) (off:=0) Tryd.underlying23 rfl ty3 rfl rfl) rfl (W_v (vI a0.Tasks) (QR (S.blk 3 rfl) ty3 rfl rfl) rfl ?_)))))))))))))
   obtain ⟨⟨p81,p82,p83,p84⟩,H⟩:=Zt H
   refine Vn (r:=(rInt .i64)) S (0:Int) Tryd.underlying36 ty3 rfl (by decide) (fun _=>rfl) rfl rfl p81 p82 p83 p84 rfl ?_
   intro b85 w86 E' S
   replace E:=E.trans E'
   refine W_v (.agg #[.slice A1 a1.length c1,pt b63 0,.pointer none,.slice none 0 0,.slice (some ⟨b85,0,none⟩) (List.replicate a0.Tasks.toNat (0:Int)).length a0.Tasks.toNat]) (ZN (pl:=[(0,1),(1,1),(2,1),(3,1),(4,1)]) #[.slice A1 a1.length c1,pt b63 0,.pointer none,.slice none 0 0,.slice (some ⟨b85,0,none⟩) (List.replicate a0.Tasks.toNat (0:Int)).length a0.Tasks.toNat] Tryd.underlying107 ty107 (by as_aux_lemma=>kernel_rfl) rfl (by as_aux_lemma=>kernel_rfl)) rfl ?_
   refine YO S #[.slice A1 a1.length c1,pt b63 0,.pointer none,.slice none 0 0,.slice (some ⟨b85,0,none⟩) (List.replicate a0.Tasks.toNat (0:Int)).length a0.Tasks.toNat] rfl rfl rfl ?_
   intro b88 w89 E' S
   replace E:=E.trans E'
   refine W_v (vI 0) (QC rfl) rfl (W_v (.bool true) (QT rfl rfl rfl rfl) rfl (W_v (.bool true) (QC rfl) rfl (QU (rfl) (W_v (vI 1) (QC rfl) rfl (QU (rfl) (W_v (.bool false) (QT rfl rfl rfl rfl) rfl (W_v (.bool false) (QZ (k:=true) rfl rfl) rfl (W_v (pt b88 0) (QD rfl) rfl (W_v (.bool false) (QD rfl) rfl (QB (tn ?_)))))))))))
   refine QY ?_
   obtain rfl:=Option.some.inj H
   replace S:=S.row_nil Q0 69
   exact ⟨_,_,_,fun w1 e1=>QO (vs:=[pt b88 0,.bool false]) (FA.cons (rfl) (FA.cons (rfl) (FA.nil))),HM,E,S.pick [1,3,4,5,0,2] (by decide),⟨b88,A1,c1,b63,A65,c66,A68,c69,none,0,(some ⟨b85,0,none⟩),a0.Tasks.toNat,rfl,hr1,rfl⟩⟩
  ·skip
   replace H:=elimR H
   refine ZZ fn13 (Yk.con k M72 a0 (Sum.inr t77)  ht75) (Γ1:=[]) (Γ2:=[_,_,_,_]) S rfl rfl ?_
   rintro _ w108 M109 Γ' hM110 E' S ⟨b92,A94,c95,A97,c98,A100,c101,A103,c104,vs106,rfl,hm107,rfl⟩
   replace HM:=Hp.le_trans HM hM110
   replace hr1:=SlR.mono hr1 hM110
   replace E:=E.trans E'
   replace S:St w108 M109 F [_,_,_,_,_,_,_,_,_]:=S
   refine W_v (.tuple #[pt b92 0,vI 0]) (QC rfl) rfl (W_v (pt b92 0) (QQ rfl rfl) rfl (W_v (vI 0) (QQ rfl rfl) rfl (W_v (pt b92 0) (QD rfl) rfl (W_v (vI 0) (QD rfl) rfl (QB (tn (QE (QA (W_v (.slice A1 a1.length c1) (QC rfl) rfl (W_v (pt b63 0) (QC rfl) rfl (W_v (pt b92 0) (QC rfl) rfl (W_v (pt b1 0) (QF (o:=0) (off:=0) Tryd.underlying23 rfl ty3 rfl rfl) rfl (W_v (vI a0.Tasks) (QR (S.blk 8 rfl) ty3 rfl rfl) rfl ?_)))))))))))))
   obtain ⟨⟨p111,p112,p113,p114⟩,H⟩:=Zt H
   refine Vn (r:=(rInt .i64)) S (0:Int) Tryd.underlying36 ty3 rfl (by decide) (fun _=>rfl) rfl rfl p111 p112 p113 p114 rfl ?_
   intro b115 w116 E' S
   replace E:=E.trans E'
   refine W_v (.agg #[.slice A1 a1.length c1,pt b63 0,pt b92 0,.slice none 0 0,.slice (some ⟨b115,0,none⟩) (List.replicate a0.Tasks.toNat (0:Int)).length a0.Tasks.toNat]) (ZN (pl:=[(0,1),(1,1),(2,1),(3,1),(4,1)]) #[.slice A1 a1.length c1,pt b63 0,pt b92 0,.slice none 0 0,.slice (some ⟨b115,0,none⟩) (List.replicate a0.Tasks.toNat (0:Int)).length a0.Tasks.toNat] Tryd.underlying107 ty107 (by as_aux_lemma=>kernel_rfl) rfl (by as_aux_lemma=>kernel_rfl)) rfl ?_
   refine YO S #[.slice A1 a1.length c1,pt b63 0,pt b92 0,.slice none 0 0,.slice (some ⟨b115,0,none⟩) (List.replicate a0.Tasks.toNat (0:Int)).length a0.Tasks.toNat] rfl rfl rfl ?_
   intro b118 w119 E' S
   replace E:=E.trans E'
   refine W_v (vI 0) (QC rfl) rfl (W_v (.bool true) (QT rfl rfl rfl rfl) rfl (W_v (.bool true) (QC rfl) rfl (QU (rfl) (W_v (vI 0) (QC rfl) rfl (QU (rfl) (W_v (.bool true) (QT rfl rfl rfl rfl) rfl (W_v (.bool true) (QZ (k:=true) rfl rfl) rfl (W_v (pt b118 0) (QD rfl) rfl (W_v (.bool true) (QD rfl) rfl (QB (tn ?_)))))))))))
   refine QY ?_
   obtain rfl:=Option.some.inj H
   replace S:=S.row_nil Q0 69
   exact ⟨_,_,_,fun w1 e1=>QO (vs:=[pt b118 0,.bool true]) (FA.cons (rfl) (FA.cons (rfl) (FA.nil))),HM,E,S.pick [1,8,9,10,3,4,5,6,7,0,2] (by decide),⟨b118,A1,c1,b63,A65,c66,A68,c69,b92,A94,c95,A97,c98,A100,c101,A103,c104,vs106,none,0,(some ⟨b115,0,none⟩),a0.Tasks.toNat,rfl,hr1,hm107,rfl⟩⟩
def Y9 (k:Nat) (a0:QG):Option (Bool) :=
 some (a0.What == (2:Int))
theorem Y9.mono {k:Nat} {a0:QG}:OLe (Y9 k a0) (Y9 (k + 1) a0):=by
 unfold Y9
 exact mo
theorem Y9.con (k:Nat) (M:Hp) (A0_0:Option Addr) (c0_0:Nat) (a0:QG) (r:Bool) (hr0_0:SlR Qr M (.slice A0_0 a0.Answer.Pairs.length c0_0) a0.Answer.Pairs) (h:Y9 k a0 = some r):Con Tryd.prog 29 #[.agg #[vU a0.What,vI a0.Task,vI a0.Call,vI a0.Answer.Err,.bool a0.Answer.Found,vS a0.Answer.Value,.slice A0_0 a0.Answer.Pairs.length c0_0]] M [] (fun v M' Γ'=>v = .bool r ∧ Γ' = []):=by
 refine Qa Tryd.func29 rfl Tryd.ntmps29 Tryd.results29 rfl ?_
 intro w F rn S hrn
 have E:=Ext.refl w
 have HM:=Hp.le_refl M
 have H:=h
 unfold Y9 at H
 refine QE (QA ?_)
 refine YO S #[vU a0.What,vI a0.Task,vI a0.Call,vI a0.Answer.Err,.bool a0.Answer.Found,vS a0.Answer.Value,.slice A0_0 a0.Answer.Pairs.length c0_0] rfl rfl rfl ?_
 intro b1 w2 E' S
 replace E:=E.trans E'
 refine W_v (.bool false) (QD rfl) rfl (QB (tn (QE (QA (W_v (pt b1 0) (QF (o:=0) (off:=0) Tryd.underlying55 rfl ty5 rfl rfl) rfl (W_v (vU a0.What) (QR (S.blk 0 rfl) ty5 rfl rfl) rfl (W_v (.bool (a0.What == (2:Int))) (QT rfl rfl rfl rfl) rfl (W_v (.bool (a0.What == (2:Int))) (QD rfl) rfl (QB (tn ?_))))))))))
 refine QY ?_
 obtain rfl:=Option.some.inj H
 exact ⟨_,_,_,fun w1 e1=>QO (vs:=[.bool (a0.What == (2:Int))]) (FA.cons (rfl) (FA.nil)),HM,E,S.pick [] (by decide),⟨rfl,rfl⟩⟩
def Q6 (a0:(List QG)):Nat → Int → Option ((Int) ⊕ (Unit))
 | 0,_=>none
 | k + 1,x45=>(if (decide (x45 < (a0.length:Int))) = true then (if 0 ≤ x45 ∧ x45 < (a0.length:Int) then (Option.bind (Y9 k (rd a0 x45)) (fun t84=>(if t84 = true then some (.inl x45) else Q6 a0 k (IntKind.i64.wrap (x45 + (1:Int)))))) else none) else some (.inr ()))
theorem Q6.mono {a0:(List QG)}:∀ {kl:Nat} {x0},OLe (Q6 a0 kl x0) (Q6 a0 (kl + 1) x0):=by
 intro kl
 induction kl with
 | zero=>intros; exact OLe.none
 | succ kl ih =>
  intros
  rw [Q6.eq_2,Q6.eq_2]
  have m1:=@Y9.mono
  exact mo
def ZC (k:Nat) (a0:(List QG)):Option (Int) :=
 (Option.bind (Q6 a0 k (0:Int)) (fun o67o=>Sum.elim (fun r'=>some r') (fun _=>some (-1:Int)) o67o))
theorem ZC.mono {k:Nat} {a0:(List QG)}:OLe (ZC k a0) (ZC (k + 1) a0):=by
 unfold ZC
 have m1:=@Q6.mono
 exact mo
theorem ZC.con (k:Nat) (M:Hp) (A0:Option Addr) (c0:Nat) (a0:(List QG)) (r:Int) (hr0:SlR QK M (.slice A0 a0.length c0) a0) (h:ZC k a0 = some r):Con Tryd.prog 33 #[.slice A0 a0.length c0,.func (.func 29) #[] #[]] M [] (fun v M' Γ'=>v = vI r ∧ Γ' = []):=by
 refine Qa Tryd.func33 rfl Tryd.ntmps33 Tryd.results33 rfl ?_
 intro w F rn S hrn
 have E:=Ext.refl w
 have HM:=Hp.le_refl M
 have H:=h
 unfold ZC at H
 refine QE (QA (W_v (vI 0) (QD rfl) rfl (QB (tn (QE (QE (QA (W_v (.slice A0 a0.length c0) (QC rfl) rfl (W_v (vI (a0.length:Int)) (Qt (n:=a0.length) Tryd.underlying25 rfl) rfl (W_v (vI 0) (QC rfl) rfl (QB (tn ?_))))))))))))
 obtain ⟨o67,o67h,o67H⟩:=QX H
 refine Ya (fun ρ w'=>.inr () = o67 ∧ Qs ρ [] ∧ Ext w w' ∧ St w' M F []) ?_ ?_
 ·skip
  refine Y0 (fun n ρ w'=>∃ (x45:Int),Q6 a0 n x45 = some o67 ∧ Qs ρ [(0,.slice A0 a0.length c0),(1,.func (.func 29) #[] #[]),(7,vI (a0.length:Int)),(8,vI x45)] ∧ Ext w w' ∧ St w' M F []) k ?_ ?_
  ·skip
   exact ⟨(0:Int),o67h,⟨rfl,rfl,rfl,rfl,trivial⟩,E,S.pick [] (by decide)⟩
  ·intro n
   rintro ρ w68 ⟨x45,H,hρ,E,S⟩
   rw [QN hρ]
   cases n with
   | zero=>cases H
   | succ k =>
    rw [Q6.eq_2] at H
    refine QE (QA (W_v (.bool (decide (x45 < (a0.length:Int)))) (QT rfl rfl rfl rfl) rfl (QB (tn (QE ?_)))))
    rcases Zh H with ⟨hb69,H⟩ | ⟨hb69,H⟩
    ·refine QL (congrArg Value.bool hb69) ?_
     refine Qg (tn (QE ?_))
     refine Z0 ?_
     refine QE (QA (W_v (vI x45) (QC rfl) rfl (W_v (vI x45) (QD rfl) rfl (QB (tn (QE (QA (W_v (.func (.func 29) #[] #[]) (QC rfl) rfl (W_v (.slice A0 a0.length c0) (QC rfl) rfl (W_v (vI x45) (QC rfl) rfl ?_))))))))))
     obtain ⟨⟨p70,p71⟩,H⟩:=Zt H
     obtain ⟨b72,o73,cs74,_,_,ee79,hb75,vs76,hR77,hc78⟩:=SlW.at' hr0 p70 p71
     obtain ⟨v83,hs82,rfl⟩:=hR77
     obtain ⟨A80,c81,rfl,_⟩:=hs82.form
     refine W_v (.pointer (some ⟨b72,o73 + x45.toNat * 7,none⟩)) (Qe Tryd.underlying25 ty55 (slA ee79) rfl p70 p71) rfl (W_v (.agg #[vU ((rd a0 x45).What),vI ((rd a0 x45).Task),vI ((rd a0 x45).Call),vI ((rd a0 x45).Answer.Err),.bool ((rd a0 x45).Answer.Found),vS ((rd a0 x45).Answer.Value),.slice A80 ((rd a0 x45).Answer.Pairs).length c81]) (Qh (S.frz hb75) ty55 rfl (XC hc78 0 rfl) rfl rfl) rfl ?_)
     obtain ⟨t84,ht85,H⟩:=QX H
     refine Xl (fs:=[]) (cap:=[]) fn29 rfl (Y9.con k M A80 c81 (rd a0 x45) t84 hs82 ht85) (Γ1:=[]) (Γ2:=[]) S rfl rfl (by rintro _ _ _ ⟨rfl,rfl⟩; exact Qd) ?_
     rintro _ w86 _ Γ' E' S ⟨rfl,rfl⟩
     replace E:=E.trans E'
     replace S:St w86 M F []:=S
     refine QB (tn ?_)
     rcases Zh H with ⟨hb89,H⟩ | ⟨hb89,H⟩
     ·refine QL (congrArg Value.bool hb89) ?_
      refine QE (QA (W_v (vI x45) (QC rfl) rfl (W_v (vI x45) (QD rfl) rfl (QB (tn ?_)))))
      refine QY ?_
      refine br (tr (tr (br (tr (tr (?_))))))
      obtain rfl:=Option.some.inj H
      have H:=o67H
      replace H:=elimL H
      obtain rfl:=Option.some.inj H
      exact ⟨_,_,_,fun w1 e1=>QO (vs:=[vI x45]) (FA.cons (rfl) (FA.nil)),HM,E,S.pick [] (by decide),⟨rfl,rfl⟩⟩
     refine QJ (congrArg Value.bool hb89) (Qg (bn (tn (QA (W_v (vI (IntKind.i64.wrap (x45 + (1:Int)))) (QT rfl rfl rfl rfl) rfl (W_v (vI (IntKind.i64.wrap (x45 + (1:Int)))) (QC rfl) rfl (QB (tn ?_))))))))
     exact ⟨k,Nat.lt_succ_self k,⟨(IntKind.i64.wrap (x45 + (1:Int))),H,⟨rfl,rfl,rfl,rfl,trivial⟩,E,S.pick [] (by decide)⟩⟩
    refine QJ (congrArg Value.bool hb69) ?_
    refine Yo ?_
    refine tx (tx (bsm (?_)))
    refine tn ?_
    exact ⟨Option.some.inj H,trivial,E,S.pick [] (by decide)⟩
 rintro ρ w90 ⟨rfl,hρ,E,S⟩
 rw [QN hρ]
 have H:=o67H
 replace H:=elimR H
 refine tn ?_
 as_aux_lemma =>
 refine QE (QA (W_v (vI (-1)) (QD rfl) rfl (QB (tn ?_))))
 refine QY ?_
 obtain rfl:=Option.some.inj H
 exact ⟨_,_,_,fun w1 e1=>QO (vs:=[vI (-1)]) (FA.cons (rfl) (FA.nil)),HM,E,S.pick [] (by decide),⟨rfl,rfl⟩⟩
def Q8 (k:Nat) (a0:(List QG)):Option (Bool) :=
 (Option.bind (ZC k a0) (fun t1=>some (decide (t1 ≥ (0:Int)))))
theorem Q8.mono {k:Nat} {a0:(List QG)}:OLe (Q8 k a0) (Q8 (k + 1) a0):=by
 unfold Q8
 have m1:=@ZC.mono
 exact mo
theorem Q8.con (k:Nat) (M:Hp) (A0:Option Addr) (c0:Nat) (a0:(List QG)) (r:Bool) (hr0:SlR QK M (.slice A0 a0.length c0) a0) (h:Q8 k a0 = some r):Con Tryd.prog 28 #[.slice A0 a0.length c0,.func (.func 29) #[] #[]] M [] (fun v M' Γ'=>v = .bool r ∧ Γ' = []):=by
 refine Qa Tryd.func28 rfl Tryd.ntmps28 Tryd.results28 rfl ?_
 intro w F rn S hrn
 have E:=Ext.refl w
 have HM:=Hp.le_refl M
 have H:=h
 unfold Q8 at H
 refine QE (QA (W_v (.bool false) (QD rfl) rfl (QB (tn (QE (QA (W_v (.slice A0 a0.length c0) (QC rfl) rfl (W_v (.func (.func 29) #[] #[]) (QC rfl) rfl ?_))))))))
 obtain ⟨t1,ht2,H⟩:=QX H
 refine Z2 fn33 (ZC.con k M A0 c0 a0 t1 hr0 ht2) (Γ1:=[]) (Γ2:=[]) S rfl rfl (by rintro _ _ _ ⟨rfl,rfl⟩; exact Qd) ?_
 rintro _ w3 _ Γ' E' S ⟨rfl,rfl⟩
 replace E:=E.trans E'
 replace S:St w3 M F []:=S
 refine W_v (.bool (decide (t1 ≥ (0:Int)))) (QT rfl rfl rfl rfl) rfl (W_v (.bool (decide (t1 ≥ (0:Int)))) (QD rfl) rfl (QB (tn ?_)))
 refine QY ?_
 obtain rfl:=Option.some.inj H
 exact ⟨_,_,_,fun w1 e1=>QO (vs:=[.bool (decide (t1 ≥ (0:Int)))]) (FA.cons (rfl) (FA.nil)),HM,E,S.pick [] (by decide),⟨rfl,rfl⟩⟩
def Zm (k:Nat) (a0:ZX) (a1:QG):Option (QW × Bool) :=
 (Option.bind (α:=Bool) (if (((decide (a1.Task < (0:Int))) || (decide (a1.Task ≥ (a0.programs.length:Int)))) || (decide (a1.Call < (0:Int)))) = true then some (true) else (if 0 ≤ a1.Task ∧ a1.Task < (a0.programs.length:Int) then some ((decide (a1.Call ≥ ((rd a0.programs a1.Task).length:Int)))) else none)) (fun x60=>(if x60 = true then some ((⟨(0:Int),(0:Int),([]:Str),([]:Str),([]:Str),(0:Int),(0:Int)⟩:QW),false) else (if 0 ≤ a1.Task ∧ a1.Task < (a0.programs.length:Int) then (if 0 ≤ a1.Call ∧ a1.Call < ((rd a0.programs a1.Task).length:Int) then some ((rd (rd a0.programs a1.Task) a1.Call),true) else none) else none))))
theorem Zm.mono {k:Nat} {a0:ZX} {a1:QG}:OLe (Zm k a0 a1) (Zm (k + 1) a0 a1):=by
 unfold Zm
 exact mo
theorem Zm.con (k:Nat) (M:Hp) (A0_0:Option Addr) (c0_0:Nat) (A0_1_0:Option Addr) (c0_1_0:Nat) (A0_1_1:Option Addr) (c0_1_1:Nat) (A0_2_8:Option Addr) (c0_2_8:Nat) (A0_2_9:Option Addr) (c0_2_9:Nat) (A0_2_10:Option Addr) (c0_2_10:Nat) (A0_2_11:Option Addr) (c0_2_11:Nat) (vs0_2_11:List (Str × Value)) (A0_3:Option Addr) (c0_3:Nat) (A0_4:Option Addr) (c0_4:Nat) (a0:ZX) (A1_0:Option Addr) (c1_0:Nat) (a1:QG) (bo0_1:Nat) (bo0_2:Nat) (bo0:Nat) (r:QW × Bool) (hr0_0:SlR (rSl ZV) M (.slice A0_0 a0.programs.length c0_0) a0.programs) (hm0_2_11:YP Qm M a0.m.rows vs0_2_11) (hr1_0:SlR Qr M (.slice A1_0 a1.Answer.Pairs.length c1_0) a1.Answer.Pairs) (h:Zm k a0 a1 = some r):Con Tryd.prog 69 #[pt bo0 0,.agg #[vU a1.What,vI a1.Task,vI a1.Call,vI a1.Answer.Err,.bool a1.Answer.Found,vS a1.Answer.Value,.slice A1_0 a1.Answer.Pairs.length c1_0]] M [B107 bo0 a0 A0_0 c0_0 bo0_1 bo0_2 A0_3 c0_3 A0_4 c0_4,Blk bo0_1 (.cells #[.slice A0_1_0 a0.r.tasks.length c0_1_0,.slice A0_1_1 a0.r.l.length c0_1_1] 144 (0,0)),Row Qx 161 (.slice A0_1_0 a0.r.tasks.length c0_1_0) a0.r.tasks,Row QK 55 (.slice A0_1_1 a0.r.l.length c0_1_1) a0.r.l,B95 bo0_2 a0.m A0_2_8 A0_2_9 A0_2_10 c0_2_10 A0_2_11,QV QH (Value.int .i64) A0_2_8 a0.m.names,QV (Value.int .i64) (Value.int .i64) A0_2_9 a0.m.many,Row QP 122 (.slice A0_2_10 a0.m.txs.length c0_2_10) a0.m.txs,QV encS (fun v:Value=>v) A0_2_11 vs0_2_11,Row Q0 69 (.slice A0_3 a0.done.length c0_3) a0.done,Row (rInt .i64) 3 (.slice A0_4 a0.last.length c0_4) a0.last] (fun v M' Γ'=>v = .tuple #[.agg #[vU r.1.Kind,vI r.1.Tx,vS r.1.Key,vS r.1.End,vS r.1.Value,vI r.1.Limit,vU r.1.Engine],.bool r.2] ∧ Γ' = [B107 bo0 a0 A0_0 c0_0 bo0_1 bo0_2 A0_3 c0_3 A0_4 c0_4,Blk bo0_1 (.cells #[.slice A0_1_0 a0.r.tasks.length c0_1_0,.slice A0_1_1 a0.r.l.length c0_1_1] 144 (0,0)),Row Qx 161 (.slice A0_1_0 a0.r.tasks.length c0_1_0) a0.r.tasks,Row QK 55 (.slice A0_1_1 a0.r.l.length c0_1_1) a0.r.l,B95 bo0_2 a0.m A0_2_8 A0_2_9 A0_2_10 c0_2_10 A0_2_11,QV QH (Value.int .i64) A0_2_8 a0.m.names,QV (Value.int .i64) (Value.int .i64) A0_2_9 a0.m.many,Row QP 122 (.slice A0_2_10 a0.m.txs.length c0_2_10) a0.m.txs,QV encS (fun v:Value=>v) A0_2_11 vs0_2_11,Row Q0 69 (.slice A0_3 a0.done.length c0_3) a0.done,Row (rInt .i64) 3 (.slice A0_4 a0.last.length c0_4) a0.last]):=by
 refine Qa Tryd.func69 rfl Tryd.ntmps69 Tryd.results69 rfl ?_
 intro w F rn S hrn
 have E:=Ext.refl w
 have HM:=Hp.le_refl M
 have H:=h
 unfold Zm at H
 refine QE (QA ?_)
 refine YO S #[vU a1.What,vI a1.Task,vI a1.Call,vI a1.Answer.Err,.bool a1.Answer.Found,vS a1.Answer.Value,.slice A1_0 a1.Answer.Pairs.length c1_0] rfl rfl rfl ?_
 intro b1 w2 E' S
 replace E:=E.trans E'
 refine Zu S cz4 ty47 rfl rfl ?_
 intro b4 w5 E' S
 replace E:=E.trans E'
 refine W_v (.bool false) (QD rfl) rfl (QB (tn (QE (QE ?_))))
 refine Ql (S:=fun w'=>∃ Mx,M.le Mx ∧ St w' Mx F [Blk b4 (.cells cz4 47 (0,0)),B55 b1 a1 A1_0 c1_0,B107 bo0 a0 A0_0 c0_0 bo0_1 bo0_2 A0_3 c0_3 A0_4 c0_4,Blk bo0_1 (.cells #[.slice A0_1_0 a0.r.tasks.length c0_1_0,.slice A0_1_1 a0.r.l.length c0_1_1] 144 (0,0)),Row Qx 161 (.slice A0_1_0 a0.r.tasks.length c0_1_0) a0.r.tasks,Row QK 55 (.slice A0_1_1 a0.r.l.length c0_1_1) a0.r.l,B95 bo0_2 a0.m A0_2_8 A0_2_9 A0_2_10 c0_2_10 A0_2_11,QV QH (Value.int .i64) A0_2_8 a0.m.names,QV (Value.int .i64) (Value.int .i64) A0_2_9 a0.m.many,Row QP 122 (.slice A0_2_10 a0.m.txs.length c0_2_10) a0.m.txs,QV encS (fun v:Value=>v) A0_2_11 vs0_2_11,Row Q0 69 (.slice A0_3 a0.done.length c0_3) a0.done,Row (rInt .i64) 3 (.slice A0_4 a0.last.length c0_4) a0.last]) (L:=32) mixed ?_
 intro w41 hw42 E'
 replace S:=S.heap hw42
 replace E:=E.trans E'
 have D1:∃ Mx,Hp.le M Mx ∧ St _ Mx F [_,_,_,_,_,_,_,_,_,_,_,_,_]:=⟨_,Hp.le_refl _,S.pick [0,1,2,3,4,5,6,7,8,9,10,11,12] (by decide)⟩
 refine Wt 0 rfl rfl rfl (pt b1 1) rfl (fun w' h'=>QF (o:=0) (off:=1) Tryd.underlying55 rfl ty3 rfl rfl) D1 (Wt 1 rfl rfl rfl (vI a1.Task) rfl (fun w' h'=>QR (Qj h' 1 rfl) ty3 rfl rfl) D1 (Wt 2 rfl rfl rfl (.bool (decide (a1.Task < (0:Int)))) rfl (fun w' h'=>QT rfl rfl rfl rfl) D1 (Wt 3 rfl rfl rfl (.bool (decide (a1.Task < (0:Int)))) rfl (fun w' h'=>QC rfl) D1 ?_)))
 refine XK (fun ρ w'=>Qs ρ [(0,pt bo0 0),(3,pt b1 0),(4,pt b4 0),(18,.bool ((decide (a1.Task < (0:Int))) || (decide (a1.Task ≥ (a0.programs.length:Int)))))] ∧ w41 = w') 19 (Ls 32 [0,1,2,3,4,5,6,7,8,9,10,11,12]) ?_ ?_
 rotate_left
 ·intro hrest
  rcases Qw (decide (a1.Task < (0:Int))) with hb43 | hb43
  ·skip
   have D2:∃ Mx,Hp.le M Mx ∧ St _ Mx F [_,_,_,_,_,_,_,_,_,_,_,_,_]:=⟨_,Hp.le_refl _,S.pick [0,1,2,3,4,5,6,7,8,9,10,11,12] (by decide)⟩
   refine WtY 4 rfl rfl rfl (pt b1 1) rfl (congrArg some hb43) (fun w' h'=>QF (o:=0) (off:=1) Tryd.underlying55 rfl ty3 rfl rfl) D2 (WtY 5 rfl rfl rfl (vI a1.Task) rfl (congrArg some hb43) (fun w' h'=>QR (Qj h' 1 rfl) ty3 rfl rfl) D2 (WtY 6 rfl rfl rfl (pt bo0 0) rfl (congrArg some hb43) (fun w' h'=>QC rfl) D2 (WtY 7 rfl rfl rfl (pt bo0 0) rfl (congrArg some hb43) (fun w' h'=>Qy rfl) D2 (WtY 8 rfl rfl rfl (pt bo0 0) rfl (congrArg some hb43) (fun w' h'=>QF (o:=0) (off:=0) Tryd.underlying107 rfl ty24 rfl rfl) D2 (WtY 9 rfl rfl rfl (.slice A0_0 a0.programs.length c0_0) rfl (congrArg some hb43) (fun w' h'=>QR (Qj h' 2 rfl) ty24 rfl rfl) D2 (WtY 10 rfl rfl rfl (vI (a0.programs.length:Int)) rfl (congrArg some hb43) (fun w' h'=>Qt (n:=a0.programs.length) Tryd.underlying24 rfl) D2 (WtY 11 rfl rfl rfl (.bool (decide (a1.Task ≥ (a0.programs.length:Int)))) rfl (congrArg some hb43) (fun w' h'=>QT rfl rfl rfl rfl) D2 (Wt 12 rfl rfl rfl (.bool (decide (a1.Task ≥ (a0.programs.length:Int)))) rfl (fun w' h'=>QZ (k:=false) (congrArg Value.bool hb43) rfl) D2 ?_))))))))
   exact hrest _ _ ⟨⟨rfl,rfl,rfl,(by first | rfl | (rw [hb43]; rfl) | (simp only [hb43]; rfl)),trivial⟩,rfl⟩
  ·skip
   have D3:∃ Mx,Hp.le M Mx ∧ St _ Mx F [_,_,_,_,_,_,_,_,_,_,_,_,_]:=⟨_,Hp.le_refl _,S.pick [0,1,2,3,4,5,6,7,8,9,10,11,12] (by decide)⟩
   refine WtN 4 rfl rfl rfl rfl (skF hb43) D3 (WtN 5 rfl rfl rfl rfl (skF hb43) D3 (WtN 6 rfl rfl rfl rfl (skF hb43) D3 (WtN 7 rfl rfl rfl rfl (skF hb43) D3 (WtN 8 rfl rfl rfl rfl (skF hb43) D3 (WtN 9 rfl rfl rfl rfl (skF hb43) D3 (WtN 10 rfl rfl rfl rfl (skF hb43) D3 (WtN 11 rfl rfl rfl rfl (skF hb43) D3 (Wt 12 rfl rfl rfl (.bool true) rfl (fun w' h'=>QZ (k:=true) (congrArg Value.bool hb43) rfl) D3 ?_))))))))
   exact hrest _ _ ⟨⟨rfl,rfl,rfl,(by first | rfl | (rw [hb43]; rfl) | (simp only [hb43]; rfl)),trivial⟩,rfl⟩
 rintro ρ _ ⟨hρ,rfl⟩
 rw [QN hρ]
 refine Wt 13 rfl rfl rfl (.bool ((decide (a1.Task < (0:Int))) || (decide (a1.Task ≥ (a0.programs.length:Int))))) rfl (fun w' h'=>QC rfl) (⟨M,Hp.le_refl M,(S.pick [0,1,2,3,4,5,6,7,8,9,10,11,12] (by decide))⟩) ?_
 refine XK (fun ρ w'=>Qs ρ [(0,pt bo0 0),(3,pt b1 0),(4,pt b4 0),(23,.bool (((decide (a1.Task < (0:Int))) || (decide (a1.Task ≥ (a0.programs.length:Int)))) || (decide (a1.Call < (0:Int)))))] ∧ w41 = w') 14 (Ls 32 [0,1,2,3,4,5,6,7,8,9,10,11,12,13,14,15,16,17]) ?_ ?_
 rotate_left
 ·intro hrest
  rcases Qw ((decide (a1.Task < (0:Int))) || (decide (a1.Task ≥ (a0.programs.length:Int)))) with hb44 | hb44
  ·skip
   have D5:∃ Mx,Hp.le M Mx ∧ St _ Mx F [_,_,_,_,_,_,_,_,_,_,_,_,_]:=⟨_,Hp.le_refl _,S.pick [0,1,2,3,4,5,6,7,8,9,10,11,12] (by decide)⟩
   refine WtY 14 rfl rfl rfl (pt b1 2) rfl (congrArg some hb44) (fun w' h'=>QF (o:=0) (off:=2) Tryd.underlying55 rfl ty3 rfl rfl) D5 (WtY 15 rfl rfl rfl (vI a1.Call) rfl (congrArg some hb44) (fun w' h'=>QR (Qj h' 1 rfl) ty3 rfl rfl) D5 (WtY 16 rfl rfl rfl (.bool (decide (a1.Call < (0:Int)))) rfl (congrArg some hb44) (fun w' h'=>QT rfl rfl rfl rfl) D5 (Wt 17 rfl rfl rfl (.bool (decide (a1.Call < (0:Int)))) rfl (fun w' h'=>QZ (k:=false) (congrArg Value.bool hb44) rfl) D5 ?_)))
   exact hrest _ _ ⟨⟨rfl,rfl,rfl,(by first | rfl | (rw [hb44]; rfl) | (simp only [hb44]; rfl)),trivial⟩,rfl⟩
  ·skip
   have D6:∃ Mx,Hp.le M Mx ∧ St _ Mx F [_,_,_,_,_,_,_,_,_,_,_,_,_]:=⟨_,Hp.le_refl _,S.pick [0,1,2,3,4,5,6,7,8,9,10,11,12] (by decide)⟩
   refine WtN 14 rfl rfl rfl rfl (skF hb44) D6 (WtN 15 rfl rfl rfl rfl (skF hb44) D6 (WtN 16 rfl rfl rfl rfl (skF hb44) D6 (Wt 17 rfl rfl rfl (.bool true) rfl (fun w' h'=>QZ (k:=true) (congrArg Value.bool hb44) rfl) D6 ?_)))
   exact hrest _ _ ⟨⟨rfl,rfl,rfl,(by first | rfl | (rw [hb44]; rfl) | (simp only [hb44]; rfl)),trivial⟩,rfl⟩
 rintro ρ _ ⟨hρ,rfl⟩
 rw [QN hρ]
 refine Wt 18 rfl rfl rfl (.bool (((decide (a1.Task < (0:Int))) || (decide (a1.Task ≥ (a0.programs.length:Int)))) || (decide (a1.Call < (0:Int))))) rfl (fun w' h'=>QC rfl) (⟨M,Hp.le_refl M,(S.pick [0,1,2,3,4,5,6,7,8,9,10,11,12] (by decide))⟩) ?_
 obtain ⟨o61,o61h,o61H⟩:=QX H
 refine XK (fun ρ w'=>∃ (x60:Bool),(x60) = o61 ∧ Qs ρ [(0,pt bo0 0),(3,pt b1 0),(4,pt b4 0),(37,.bool x60)] ∧ Ext w w' ∧ St w' M F [Blk b4 (.cells cz4 47 (0,0)),B55 b1 a1 A1_0 c1_0,B107 bo0 a0 A0_0 c0_0 bo0_1 bo0_2 A0_3 c0_3 A0_4 c0_4,Blk bo0_1 (.cells #[.slice A0_1_0 a0.r.tasks.length c0_1_0,.slice A0_1_1 a0.r.l.length c0_1_1] 144 (0,0)),Row Qx 161 (.slice A0_1_0 a0.r.tasks.length c0_1_0) a0.r.tasks,Row QK 55 (.slice A0_1_1 a0.r.l.length c0_1_1) a0.r.l,B95 bo0_2 a0.m A0_2_8 A0_2_9 A0_2_10 c0_2_10 A0_2_11,QV QH (Value.int .i64) A0_2_8 a0.m.names,QV (Value.int .i64) (Value.int .i64) A0_2_9 a0.m.many,Row QP 122 (.slice A0_2_10 a0.m.txs.length c0_2_10) a0.m.txs,QV encS (fun v:Value=>v) A0_2_11 vs0_2_11,Row Q0 69 (.slice A0_3 a0.done.length c0_3) a0.done,Row (rInt .i64) 3 (.slice A0_4 a0.last.length c0_4) a0.last]) 0 (Ls 32 [0,1,2,3,4,5,6,7,8,9,10,11,12,13,14,15,16,17,18,19,20,21,22,23,24,25,26,27,28,29,30,31]) ?_ ?_
 rotate_left
 ·intro hrest
  have H:=o61h
  rcases Zh H with ⟨hb59,H⟩ | ⟨hb59,H⟩
  ·skip
   have D8:∃ Mx,Hp.le M Mx ∧ St _ Mx F [_,_,_,_,_,_,_,_,_,_,_,_,_]:=⟨_,Hp.le_refl _,S.pick [0,1,2,3,4,5,6,7,8,9,10,11,12] (by decide)⟩
   refine WtN 19 rfl rfl rfl rfl (skF hb59) D8 (WtN 20 rfl rfl rfl rfl (skF hb59) D8 (WtN 21 rfl rfl rfl rfl (skF hb59) D8 (WtN 22 rfl rfl rfl rfl (skF hb59) D8 (WtN 23 rfl rfl rfl rfl (skF hb59) D8 (WtN 24 rfl rfl rfl rfl (skF hb59) D8 (WtN 25 rfl rfl rfl rfl (skF hb59) D8 (WtN 26 rfl rfl rfl rfl (skF hb59) D8 (WtN 27 rfl rfl rfl rfl (skF hb59) D8 (WtN 28 rfl rfl rfl rfl (skF hb59) D8 (WtN 29 rfl rfl rfl rfl (skF hb59) D8 (WtN 30 rfl rfl rfl rfl (skF hb59) D8 (Wt 31 rfl rfl rfl (.bool true) rfl (fun w' h'=>QZ (k:=true) (congrArg Value.bool hb59) rfl) D8 ?_))))))))))))
   exact hrest _ _ ⟨true,Option.some.inj H,⟨rfl,rfl,rfl,rfl,trivial⟩,E,S.pick [0,1,2,3,4,5,6,7,8,9,10,11,12] (by decide)⟩
  ·skip
   have D9:∃ Mx,Hp.le M Mx ∧ St _ Mx F [_,_,_,_,_,_,_,_,_,_,_,_,_]:=⟨_,Hp.le_refl _,S.pick [0,1,2,3,4,5,6,7,8,9,10,11,12] (by decide)⟩
   refine WtY 19 rfl rfl rfl (pt b1 2) rfl (congrArg some hb59) (fun w' h'=>QF (o:=0) (off:=2) Tryd.underlying55 rfl ty3 rfl rfl) D9 (WtY 20 rfl rfl rfl (vI a1.Call) rfl (congrArg some hb59) (fun w' h'=>QR (Qj h' 1 rfl) ty3 rfl rfl) D9 (WtY 21 rfl rfl rfl (pt bo0 0) rfl (congrArg some hb59) (fun w' h'=>QC rfl) D9 (WtY 22 rfl rfl rfl (pt bo0 0) rfl (congrArg some hb59) (fun w' h'=>Qy rfl) D9 (WtY 23 rfl rfl rfl (pt bo0 0) rfl (congrArg some hb59) (fun w' h'=>QF (o:=0) (off:=0) Tryd.underlying107 rfl ty24 rfl rfl) D9 (WtY 24 rfl rfl rfl (.slice A0_0 a0.programs.length c0_0) rfl (congrArg some hb59) (fun w' h'=>QR (Qj h' 2 rfl) ty24 rfl rfl) D9 (WtY 25 rfl rfl rfl (pt b1 1) rfl (congrArg some hb59) (fun w' h'=>QF (o:=0) (off:=1) Tryd.underlying55 rfl ty3 rfl rfl) D9 (WtY 26 rfl rfl rfl (vI a1.Task) rfl (congrArg some hb59) (fun w' h'=>QR (Qj h' 1 rfl) ty3 rfl rfl) D9 ?_)))))))
   obtain ⟨⟨p62,p63⟩,H⟩:=Zt H
   obtain ⟨b64,o65,cs66,_,_,ee71,hb67,vs68,hR69,hc70⟩:=SlW.at' hr0_0 p62 p63
   obtain ⟨v75,hs74,rfl⟩:=hR69
   obtain ⟨A72,c73,rfl,_⟩:=hs74.form
   refine WtY 27 rfl rfl rfl (.pointer (some ⟨b64,o65 + a1.Task.toNat * 1,none⟩)) rfl (congrArg some hb59) (fun w' h'=>Qe Tryd.underlying24 ty44 (slA ee71) rfl p62 p63) D9 (WtY 28 rfl rfl rfl (.slice A72 (rd a0.programs a1.Task).length c73) rfl (congrArg some hb59) (fun w' h'=>QR (Y5 h' hb67) ty44 rfl (hc70 0 _ rfl)) D9 (WtY 29 rfl rfl rfl (vI ((rd a0.programs a1.Task).length:Int)) rfl (congrArg some hb59) (fun w' h'=>Qt (n:=(rd a0.programs a1.Task).length) Tryd.underlying44 rfl) D9 (WtY 30 rfl rfl rfl (.bool (decide (a1.Call ≥ ((rd a0.programs a1.Task).length:Int)))) rfl (congrArg some hb59) (fun w' h'=>QT rfl rfl rfl rfl) D9 (Wt 31 rfl rfl rfl (.bool (decide (a1.Call ≥ ((rd a0.programs a1.Task).length:Int)))) rfl (fun w' h'=>QZ (k:=false) (congrArg Value.bool hb59) rfl) D9 ?_))))
   exact hrest _ _ ⟨(decide (a1.Call ≥ ((rd a0.programs a1.Task).length:Int))),Option.some.inj H,⟨rfl,rfl,rfl,rfl,trivial⟩,E,S.pick [0,1,2,3,4,5,6,7,8,9,10,11,12] (by decide)⟩
 rintro ρ w76 ⟨x60,rfl,hρ,E,S⟩
 rw [QN hρ]
 have H:=o61H
 refine Wz ?_
 refine tn ?_
 rcases Zh H with ⟨hb77,H⟩ | ⟨hb77,H⟩
 ·refine QL (congrArg Value.bool hb77) ?_
  refine QE (QA (W_v (.agg cz4) (ZN (pl:=[(0,1),(1,1),(2,1),(3,1),(4,1),(5,1),(6,1)]) cz4 Tryd.underlying47 ty47 (by as_aux_lemma=>kernel_rfl) rfl (by as_aux_lemma=>kernel_rfl)) rfl ?_))
  refine Q5 S 0 rfl ty47 rfl rfl [vU 0,vI 0,vS ([]:Str),vS ([]:Str),vS ([]:Str),vI 0,vU 0] rfl rfl rfl cz4 (by as_aux_lemma=>kernel_rfl) rfl ?_
  intro w78 E' S
  replace E:=E.trans E'
  refine W_v (.bool false) (QD rfl) rfl (QB (tn ?_))
  refine QY ?_
  refine tr (?_)
  obtain rfl:=Option.some.inj H
  exact ⟨_,_,_,fun w1 e1=>QO (vs:=[.agg cz4,.bool false]) (FA.cons (⟨_,rfl,Qv ty47 ((S.of_eq e1).blk 0 rfl) (QI rfl) rfl (by decide)⟩) (FA.cons (rfl) (FA.nil))),HM,E,S.pick [2,3,4,5,6,7,8,9,10,11,12] (by decide),⟨rfl,rfl⟩⟩
 refine QJ (congrArg Value.bool hb77) (Qg (tn ?_))
 as_aux_lemma =>
 refine QE ?_
 refine Ql (S:=fun w'=>∃ Mx,M.le Mx ∧ St w' Mx F [Blk b4 (.cells cz4 47 (0,0)),B55 b1 a1 A1_0 c1_0,B107 bo0 a0 A0_0 c0_0 bo0_1 bo0_2 A0_3 c0_3 A0_4 c0_4,Blk bo0_1 (.cells #[.slice A0_1_0 a0.r.tasks.length c0_1_0,.slice A0_1_1 a0.r.l.length c0_1_1] 144 (0,0)),Row Qx 161 (.slice A0_1_0 a0.r.tasks.length c0_1_0) a0.r.tasks,Row QK 55 (.slice A0_1_1 a0.r.l.length c0_1_1) a0.r.l,B95 bo0_2 a0.m A0_2_8 A0_2_9 A0_2_10 c0_2_10 A0_2_11,QV QH (Value.int .i64) A0_2_8 a0.m.names,QV (Value.int .i64) (Value.int .i64) A0_2_9 a0.m.many,Row QP 122 (.slice A0_2_10 a0.m.txs.length c0_2_10) a0.m.txs,QV encS (fun v:Value=>v) A0_2_11 vs0_2_11,Row Q0 69 (.slice A0_3 a0.done.length c0_3) a0.done,Row (rInt .i64) 3 (.slice A0_4 a0.last.length c0_4) a0.last]) (L:=12) mixed ?_
 intro w104 hw105 E'
 replace S:=S.heap hw105
 replace E:=E.trans E'
 have D10:∃ Mx,Hp.le M Mx ∧ St _ Mx F [_,_,_,_,_,_,_,_,_,_,_,_,_]:=⟨_,Hp.le_refl _,S.pick [0,1,2,3,4,5,6,7,8,9,10,11,12] (by decide)⟩
 refine Wt 0 rfl rfl rfl (pt bo0 0) rfl (fun w' h'=>QC rfl) D10 (Wt 1 rfl rfl rfl (pt bo0 0) rfl (fun w' h'=>Qy rfl) D10 (Wt 2 rfl rfl rfl (pt bo0 0) rfl (fun w' h'=>QF (o:=0) (off:=0) Tryd.underlying107 rfl ty24 rfl rfl) D10 (Wt 3 rfl rfl rfl (.slice A0_0 a0.programs.length c0_0) rfl (fun w' h'=>QR (Qj h' 2 rfl) ty24 rfl rfl) D10 (Wt 4 rfl rfl rfl (pt b1 1) rfl (fun w' h'=>QF (o:=0) (off:=1) Tryd.underlying55 rfl ty3 rfl rfl) D10 (Wt 5 rfl rfl rfl (vI a1.Task) rfl (fun w' h'=>QR (Qj h' 1 rfl) ty3 rfl rfl) D10 ?_)))))
 obtain ⟨⟨p106,p107⟩,H⟩:=Zt H
 obtain ⟨b108,o109,cs110,_,_,ee115,hb111,vs112,hR113,hc114⟩:=SlW.at' hr0_0 p106 p107
 obtain ⟨v119,hs118,rfl⟩:=hR113
 obtain ⟨A116,c117,rfl,_⟩:=hs118.form
 have hs118z:=hs118
 refine Wt 6 rfl rfl rfl (.pointer (some ⟨b108,o109 + a1.Task.toNat * 1,none⟩)) rfl (fun w' h'=>Qe Tryd.underlying24 ty44 (slA ee115) rfl p106 p107) D10 (Wt 7 rfl rfl rfl (.slice A116 (rd a0.programs a1.Task).length c117) rfl (fun w' h'=>QR (Y5 h' hb111) ty44 rfl (hc114 0 _ rfl)) D10 (Wt 8 rfl rfl rfl (pt b1 2) rfl (fun w' h'=>QF (o:=0) (off:=2) Tryd.underlying55 rfl ty3 rfl rfl) D10 (Wt 9 rfl rfl rfl (vI a1.Call) rfl (fun w' h'=>QR (Qj h' 1 rfl) ty3 rfl rfl) D10 ?_)))
 obtain ⟨⟨p120,p121⟩,H⟩:=Zt H
 obtain ⟨b122,o123,cs124,_,_,ee129,hb125,vs126,hR127,hc128⟩:=SlW.at' hs118z p120 p121
 obtain rfl:vs126 = _:=hR127
 refine Wt 10 rfl rfl rfl (.pointer (some ⟨b122,o123 + a1.Call.toNat * 7,none⟩)) rfl (fun w' h'=>Qe Tryd.underlying44 ty47 (slA ee129) rfl p120 p121) D10 (Wt 11 rfl rfl rfl (.agg #[vU ((rd (rd a0.programs a1.Task) a1.Call).Kind),vI ((rd (rd a0.programs a1.Task) a1.Call).Tx),vS ((rd (rd a0.programs a1.Task) a1.Call).Key),vS ((rd (rd a0.programs a1.Task) a1.Call).End),vS ((rd (rd a0.programs a1.Task) a1.Call).Value),vI ((rd (rd a0.programs a1.Task) a1.Call).Limit),vU ((rd (rd a0.programs a1.Task) a1.Call).Engine)]) rfl (fun w' h'=>Qh (Y5 h' hb125) ty47 rfl (XC hc128 0 rfl) rfl rfl) D10 ?_)
 refine Wo 12 rfl ?_
 refine Q5 S 0 rfl ty47 rfl rfl [vU ((rd (rd a0.programs a1.Task) a1.Call).Kind),vI ((rd (rd a0.programs a1.Task) a1.Call).Tx),vS ((rd (rd a0.programs a1.Task) a1.Call).Key),vS ((rd (rd a0.programs a1.Task) a1.Call).End),vS ((rd (rd a0.programs a1.Task) a1.Call).Value),vI ((rd (rd a0.programs a1.Task) a1.Call).Limit),vU ((rd (rd a0.programs a1.Task) a1.Call).Engine)] rfl rfl rfl #[vU ((rd (rd a0.programs a1.Task) a1.Call).Kind),vI ((rd (rd a0.programs a1.Task) a1.Call).Tx),vS ((rd (rd a0.programs a1.Task) a1.Call).Key),vS ((rd (rd a0.programs a1.Task) a1.Call).End),vS ((rd (rd a0.programs a1.Task) a1.Call).Value),vI ((rd (rd a0.programs a1.Task) a1.Call).Limit),vU ((rd (rd a0.programs a1.Task) a1.Call).Engine)] (by as_aux_lemma=>kernel_rfl) rfl ?_
 intro w130 E' S
 replace E:=E.trans E'
 refine QB (YC ⟨.inl (by decide),?_⟩)
 refine Wo 13 rfl ?_
 refine W_v (.bool true) (QD rfl) rfl ?_
 refine QB (YC ⟨.inl (by decide),?_⟩)
 refine Wz ?_
 refine tn ?_
 refine QY ?_
 obtain rfl:=Option.some.inj H
 exact ⟨_,_,_,fun w1 e1=>QO (vs:=[.agg #[vU ((rd (rd a0.programs a1.Task) a1.Call).Kind),vI ((rd (rd a0.programs a1.Task) a1.Call).Tx),vS ((rd (rd a0.programs a1.Task) a1.Call).Key),vS ((rd (rd a0.programs a1.Task) a1.Call).End),vS ((rd (rd a0.programs a1.Task) a1.Call).Value),vI ((rd (rd a0.programs a1.Task) a1.Call).Limit),vU ((rd (rd a0.programs a1.Task) a1.Call).Engine)],.bool true]) (FA.cons (⟨_,rfl,Qv ty47 ((S.of_eq e1).blk 0 rfl) (QI rfl) rfl (by decide)⟩) (FA.cons (rfl) (FA.nil))),HM,E,S.pick [2,3,4,5,6,7,8,9,10,11,12] (by decide),⟨rfl,rfl⟩⟩
def Zs (k:Nat) (a0:Qb) (a1:Int):Option (Int × Bool × Bool) :=
 (Option.bind (α:=Bool) (if ((decide (a1 < (0:Int))) || (decide (a1 ≥ (a0.tasks.length:Int)))) = true then some (true) else (if 0 ≤ a1 ∧ a1 < (a0.tasks.length:Int) then some (((rd a0.tasks a1).at_ == (0:Int))) else none)) (fun x23=>(if x23 = true then some ((0:Int),false,false) else (if 0 ≤ a1 ∧ a1 < (a0.tasks.length:Int) then some ((rd a0.tasks a1).calls,((rd a0.tasks a1).at_ == (2:Int)),true) else none))))
theorem Zs.mono {k:Nat} {a0:Qb} {a1:Int}:OLe (Zs k a0 a1) (Zs (k + 1) a0 a1):=by
 unfold Zs
 exact mo
theorem Zs.con (k:Nat) (M:Hp) (A0_0:Option Addr) (c0_0:Nat) (A0_1:Option Addr) (c0_1:Nat) (a0:Qb) (a1:Int) (bo0:Nat) (r:Int × Bool × Bool)  (h:Zs k a0 a1 = some r):Con Tryd.prog 70 #[pt bo0 0,vI a1] M [Blk bo0 (.cells #[.slice A0_0 a0.tasks.length c0_0,.slice A0_1 a0.l.length c0_1] 144 (0,0)),Row Qx 161 (.slice A0_0 a0.tasks.length c0_0) a0.tasks,Row QK 55 (.slice A0_1 a0.l.length c0_1) a0.l] (fun v M' Γ'=>v = .tuple #[vI r.1,.bool r.2.1,.bool r.2.2] ∧ Γ' = [Blk bo0 (.cells #[.slice A0_0 a0.tasks.length c0_0,.slice A0_1 a0.l.length c0_1] 144 (0,0)),Row Qx 161 (.slice A0_0 a0.tasks.length c0_0) a0.tasks,Row QK 55 (.slice A0_1 a0.l.length c0_1) a0.l]):=by
 refine Qa Tryd.func70 rfl Tryd.ntmps70 Tryd.results70 rfl ?_
 intro w F rn S hrn
 have E:=Ext.refl w
 have HM:=Hp.le_refl M
 have H:=h
 unfold Zs at H
 refine QE (QA (W_v (vI 0) (QD rfl) rfl (W_v (.bool false) (QD rfl) rfl (W_v (.bool false) (QD rfl) rfl (QB (tn (QE (QE (QA (W_v (pt bo0 0) (QC rfl) rfl (W_v (.bool false) (Xd (r:=false) rfl rfl (Xu Tryd.underlying105)) rfl (W_v (.bool false) (QC rfl) rfl (QU (rfl) (W_v (vI a1) (QC rfl) rfl (QU (rfl) ?_)))))))))))))))
 refine W_v (.bool (decide (a1 < (0:Int)))) (QT rfl rfl rfl rfl) rfl (W_v (.bool (decide (a1 < (0:Int)))) (QZ (k:=false) rfl rfl) rfl (W_v (.bool (decide (a1 < (0:Int)))) (QC rfl) rfl ?_))
 refine ZI 8 (fun ρ w'=>Qs ρ [(0,pt bo0 0),(1,vI a1),(22,.bool ((decide (a1 < (0:Int))) || (decide (a1 ≥ (a0.tasks.length:Int)))))] ∧ w = w') ?_ ?_
 ·rcases Qw (decide (a1 < (0:Int))) with hb1 | hb1
  ·skip
   refine QU (congrArg some hb1) (W_v (vI a1) (QC rfl) rfl (QU (congrArg some hb1) (W_v (pt bo0 0) (QC rfl) rfl (QU (congrArg some hb1) (W_v (pt bo0 0) (Qy rfl) rfl (QU (congrArg some hb1) (W_v (pt bo0 0) (QF (o:=0) (off:=0) Tryd.underlying144 rfl ty142 rfl rfl) rfl (QU (congrArg some hb1) (W_v (.slice A0_0 a0.tasks.length c0_0) (QR (S.blk 0 rfl) ty142 rfl rfl) rfl (QU (congrArg some hb1) (W_v (vI (a0.tasks.length:Int)) (Qt (n:=a0.tasks.length) Tryd.underlying142 rfl) rfl (QU (congrArg some hb1) (W_v (.bool (decide (a1 ≥ (a0.tasks.length:Int)))) (QT rfl rfl rfl rfl) rfl (W_v (.bool (decide (a1 ≥ (a0.tasks.length:Int)))) (QZ (k:=false) (congrArg Value.bool hb1) rfl) rfl (QB ?_)))))))))))))))
   exact ⟨⟨rfl,rfl,(by first | rfl | (rw [hb1]; rfl) | (simp only [hb1]; rfl)),trivial⟩,rfl⟩
  ·skip
   refine Qk (skF hb1) rfl (Qk (skF hb1) rfl (Qk (skF hb1) rfl (Qk (skF hb1) rfl (Qk (skF hb1) rfl (Qk (skF hb1) rfl (Qk (skF hb1) rfl (W_v (.bool true) (QZ (k:=true) (congrArg Value.bool hb1) rfl) rfl (QB ?_))))))))
   exact ⟨⟨rfl,rfl,(by first | rfl | (rw [hb1]; rfl) | (simp only [hb1]; rfl)),trivial⟩,rfl⟩
 as_aux_lemma =>
 rintro ρ _ ⟨hρ,rfl⟩
 rw [QN hρ]
 refine W_v (.bool ((decide (a1 < (0:Int))) || (decide (a1 ≥ (a0.tasks.length:Int))))) (QC rfl) rfl ?_
 obtain ⟨o24,o24h,o24H⟩:=QX H
 refine ZI 10 (fun ρ w'=>∃ (x23:Bool),(x23) = o24 ∧ Qs ρ [(0,pt bo0 0),(1,vI a1),(33,.bool x23)] ∧ Ext w w' ∧ St w' M F [Blk bo0 (.cells #[.slice A0_0 a0.tasks.length c0_0,.slice A0_1 a0.l.length c0_1] 144 (0,0)),Row Qx 161 (.slice A0_0 a0.tasks.length c0_0) a0.tasks,Row QK 55 (.slice A0_1 a0.l.length c0_1) a0.l]) ?_ ?_
 ·as_aux_lemma =>
   have H:=o24h
   rcases Zh H with ⟨hb22,H⟩ | ⟨hb22,H⟩
   ·skip
    refine Qk (skF hb22) rfl (Qk (skF hb22) rfl (Qk (skF hb22) rfl (Qk (skF hb22) rfl (Qk (skF hb22) rfl (Qk (skF hb22) rfl (Qk (skF hb22) rfl (Qk (skF hb22) rfl (Qk (skF hb22) rfl (W_v (.bool true) (QZ (k:=true) (congrArg Value.bool hb22) rfl) rfl (QB ?_))))))))))
    exact ⟨true,Option.some.inj H,⟨rfl,rfl,rfl,trivial⟩,E,S.pick [0,1,2] (by decide)⟩
   ·skip
    refine QU (congrArg some hb22) (W_v (pt bo0 0) (QC rfl) rfl (QU (congrArg some hb22) (W_v (pt bo0 0) (Qy rfl) rfl (QU (congrArg some hb22) (W_v (pt bo0 0) (QF (o:=0) (off:=0) Tryd.underlying144 rfl ty142 rfl rfl) rfl (QU (congrArg some hb22) (W_v (.slice A0_0 a0.tasks.length c0_0) (QR (S.blk 0 rfl) ty142 rfl rfl) rfl (QU (congrArg some hb22) (W_v (vI a1) (QC rfl) rfl (QU (congrArg some hb22) ?_))))))))))
    obtain ⟨⟨p25,p26⟩,H⟩:=Zt H
    obtain ⟨b27,o28,cs29,_,_,ee34,hb30,vs31,hR32,hc33⟩:=SlW.at' (S.row_read 1 rfl) p25 p26
    obtain rfl:vs31 = _:=hR32
    refine W_v (.pointer (some ⟨b27,o28 + a1.toNat * 2,none⟩)) (Qe Tryd.underlying142 ty161 (slA ee34) rfl p25 p26) rfl (QU (congrArg some hb22) (W_v (.pointer (some ⟨b27,o28 + a1.toNat * 2,none⟩)) (QF (o:=o28 + a1.toNat * 2) (off:=0) Tryd.underlying161 rfl ty3 rfl rfl) rfl (QU (congrArg some hb22) (W_v (vI ((rd a0.tasks a1).at_)) (QR (Hp.of_get hb30) ty3 rfl (hc33 0 _ rfl)) rfl (QU (congrArg some hb22) (W_v (.bool ((rd a0.tasks a1).at_ == (0:Int))) (QT rfl rfl rfl rfl) rfl (W_v (.bool ((rd a0.tasks a1).at_ == (0:Int))) (QZ (k:=false) (congrArg Value.bool hb22) rfl) rfl (QB ?_))))))))
    exact ⟨((rd a0.tasks a1).at_ == (0:Int)),Option.some.inj H,⟨rfl,rfl,rfl,trivial⟩,E,S.pick [0,1,2] (by decide)⟩
 as_aux_lemma =>
 rintro ρ w35 ⟨x23,rfl,hρ,E,S⟩
 rw [QN hρ]
 have H:=o24H
 refine QB (tn ?_)
 rcases Zh H with ⟨hb36,H⟩ | ⟨hb36,H⟩
 ·refine QL (congrArg Value.bool hb36) ?_
  refine QE (QA (W_v (vI 0) (QD rfl) rfl (W_v (.bool false) (QD rfl) rfl (W_v (.bool false) (QD rfl) rfl (QB (tn ?_))))))
  refine QY ?_
  refine tr (?_)
  obtain rfl:=Option.some.inj H
  exact ⟨_,_,_,fun w1 e1=>QO (vs:=[vI 0,.bool false,.bool false]) (FA.cons (rfl) (FA.cons (rfl) (FA.cons (rfl) (FA.nil)))),HM,E,S.pick [0,1,2] (by decide),⟨rfl,rfl⟩⟩
 refine QJ (congrArg Value.bool hb36) (Qg (tn (QE (QA (W_v (pt bo0 0) (QC rfl) rfl (W_v (pt bo0 0) (Qy rfl) rfl (W_v (pt bo0 0) (QF (o:=0) (off:=0) Tryd.underlying144 rfl ty142 rfl rfl) rfl (W_v (.slice A0_0 a0.tasks.length c0_0) (QR (S.blk 0 rfl) ty142 rfl rfl) rfl (W_v (vI a1) (QC rfl) rfl ?_)))))))))
 obtain ⟨⟨p37,p38⟩,H⟩:=Zt H
 obtain ⟨b39,o40,cs41,_,_,ee46,hb42,vs43,hR44,hc45⟩:=SlW.at' (S.row_read 1 rfl) p37 p38
 obtain rfl:vs43 = _:=hR44
 refine W_v (.pointer (some ⟨b39,o40 + a1.toNat * 2,none⟩)) (Qe Tryd.underlying142 ty161 (slA ee46) rfl p37 p38) rfl (W_v (.agg #[vI ((rd a0.tasks a1).at_),vI ((rd a0.tasks a1).calls)]) (Qh (Hp.of_get hb42) ty161 rfl (XC hc45 0 rfl) rfl rfl) rfl ?_)
 refine Zu S #[vI 0,vI 0] ty161 rfl rfl ?_
 intro b47 w48 E' S
 replace E:=E.trans E'
 refine Q5 S 0 rfl ty161 rfl rfl [vI ((rd a0.tasks a1).at_),vI ((rd a0.tasks a1).calls)] rfl rfl rfl #[vI ((rd a0.tasks a1).at_),vI ((rd a0.tasks a1).calls)] rfl rfl ?_
 intro w50 E' S
 replace E:=E.trans E'
 refine QB (tn (QE ?_))
 refine Ql (S:=fun w'=>∃ Mx,M.le Mx ∧ St w' Mx F [Blk b47 (.cells #[vI ((rd a0.tasks a1).at_),vI ((rd a0.tasks a1).calls)] 161 (0,0)),Blk bo0 (.cells #[.slice A0_0 a0.tasks.length c0_0,.slice A0_1 a0.l.length c0_1] 144 (0,0)),Row Qx 161 (.slice A0_0 a0.tasks.length c0_0) a0.tasks,Row QK 55 (.slice A0_1 a0.l.length c0_1) a0.l]) (L:=8) mixed ?_
 intro w51 hw52 E'
 replace S:=S.heap hw52
 replace E:=E.trans E'
 have D1:∃ Mx,Hp.le M Mx ∧ St _ Mx F [_,_,_,_]:=⟨_,Hp.le_refl _,S.pick [0,1,2,3] (by decide)⟩
 refine Wt 0 rfl rfl rfl (pt b47 1) rfl (fun w' h'=>QF (o:=0) (off:=1) Tryd.underlying161 rfl ty3 rfl rfl) D1 (Wt 1 rfl rfl rfl (vI ((rd a0.tasks a1).calls)) rfl (fun w' h'=>QR (Qj h' 0 rfl) ty3 rfl rfl) D1 (Wt 2 rfl rfl rfl (pt b47 0) rfl (fun w' h'=>QF (o:=0) (off:=0) Tryd.underlying161 rfl ty3 rfl rfl) D1 (Wt 3 rfl rfl rfl (vI ((rd a0.tasks a1).at_)) rfl (fun w' h'=>QR (Qj h' 0 rfl) ty3 rfl rfl) D1 (Wt 4 rfl rfl rfl (.bool ((rd a0.tasks a1).at_ == (2:Int))) rfl (fun w' h'=>QT rfl rfl rfl rfl) D1 (Wt 5 rfl rfl rfl (vI ((rd a0.tasks a1).calls)) rfl (fun w' h'=>QD rfl) D1 (Wt 6 rfl rfl rfl (.bool ((rd a0.tasks a1).at_ == (2:Int))) rfl (fun w' h'=>QD rfl) D1 (Wt 7 rfl rfl rfl (.bool true) rfl (fun w' h'=>QD rfl) D1 ?_)))))))
 refine Wz ?_
 refine tn ?_
 refine QY ?_
 obtain rfl:=Option.some.inj H
 exact ⟨_,_,_,fun w1 e1=>QO (vs:=[vI ((rd a0.tasks a1).calls),.bool ((rd a0.tasks a1).at_ == (2:Int)),.bool true]) (FA.cons (rfl) (FA.cons (rfl) (FA.cons (rfl) (FA.nil)))),HM,E,S.pick [1,2,3] (by decide),⟨rfl,rfl⟩⟩
def Ze (k:Nat) (a0:Qb) (a1:Int) (a2:Int) (a3:QG):Option (Int × Qb) :=
 (if ((decide (a1 < (0:Int))) || (decide (a1 ≥ (a0.tasks.length:Int)))) = true then some ((1:Int),a0) else (if 0 ≤ a1 ∧ a1 < (a0.tasks.length:Int) then (if ((rd a0.tasks a1).at_ != a2) = true then some ((7:Int),a0) else (if 0 ≤ a1 ∧ a1 < (a0.tasks.length:Int) then (Option.bind (XT k (⟨a3.What,a1,(rd a0.tasks a1).calls,⟨a3.Answer.Err,a3.Answer.Found,a3.Answer.Value,a3.Answer.Pairs⟩⟩:QG)) (fun t57=>(if a0.l.length + ([t57]:List QG).length ≤ 1759218604441 then (Option.bind (α:=List Z3) (some (List.set a0.tasks a1.toNat (⟨(IntKind.i64.wrap ((rd a0.tasks a1).at_ + (1:Int))),(rd a0.tasks a1).calls⟩:Z3))) (fun x79=>(Option.bind (α:=List Z3) (if (decide ((rd x79 a1).at_ > (2:Int))) = true then (Option.bind (α:=List Z3) (some (List.set x79 a1.toNat (⟨(0:Int),(rd x79 a1).calls⟩:Z3))) (fun x117=>(Option.bind (α:=List Z3) (some (List.set x117 a1.toNat (⟨(rd x117 a1).at_,(IntKind.i64.wrap ((rd x117 a1).calls + (1:Int)))⟩:Z3))) (fun x123=>some (x123))))) else some (x79)) (fun x110=>some ((0:Int),(⟨x110,(a0.l ++ ([t57]:List QG))⟩:Qb)))))) else none))) else none)) else none))
theorem Ze.mono {k:Nat} {a0:Qb} {a1:Int} {a2:Int} {a3:QG}:OLe (Ze k a0 a1 a2 a3) (Ze (k + 1) a0 a1 a2 a3):=by
 unfold Ze
 have m1:=@XT.mono
 exact mo
theorem Ze.con (k:Nat) (M:Hp) (A0_0:Option Addr) (c0_0:Nat) (A0_1:Option Addr) (c0_1:Nat) (a0:Qb) (a1:Int) (a2:Int) (A3_0:Option Addr) (c3_0:Nat) (a3:QG) (bo0:Nat) (r:Int × Qb) (hr3_0:SlR Qr M (.slice A3_0 a3.Answer.Pairs.length c3_0) a3.Answer.Pairs) (h:Ze k a0 a1 a2 a3 = some r):Con Tryd.prog 179 #[pt bo0 0,vI a1,vI a2,.agg #[vU a3.What,vI a3.Task,vI a3.Call,vI a3.Answer.Err,.bool a3.Answer.Found,vS a3.Answer.Value,.slice A3_0 a3.Answer.Pairs.length c3_0]] M [Blk bo0 (.cells #[.slice A0_0 a0.tasks.length c0_0,.slice A0_1 a0.l.length c0_1] 144 (0,0)),Row Qx 161 (.slice A0_0 a0.tasks.length c0_0) a0.tasks,Row QK 55 (.slice A0_1 a0.l.length c0_1) a0.l] (fun v M' Γ'=>∃ (Aq1:Option Addr) (cq2:Nat) (Aq4:Option Addr) (cq5:Nat),v = vI r.1 ∧ Γ' = [Blk bo0 (.cells #[.slice Aq1 r.2.tasks.length cq2,.slice Aq4 r.2.l.length cq5] 144 (0,0)),Row Qx 161 (.slice Aq1 r.2.tasks.length cq2) r.2.tasks,Row QK 55 (.slice Aq4 r.2.l.length cq5) r.2.l]):=by
 refine Qa Tryd.func179 rfl Tryd.ntmps179 Tryd.results179 rfl ?_
 intro w F rn S hrn
 have E:=Ext.refl w
 have HM:=Hp.le_refl M
 have H:=h
 unfold Ze at H
 refine QE (QA ?_)
 refine YO S #[vU a3.What,vI a3.Task,vI a3.Call,vI a3.Answer.Err,.bool a3.Answer.Found,vS a3.Answer.Value,.slice A3_0 a3.Answer.Pairs.length c3_0] rfl rfl rfl ?_
 intro b1 w2 E' S
 replace E:=E.trans E'
 refine W_v (vI 0) (QD rfl) rfl (QB (tn (QE ?_)))
 refine Z0 ?_
 refine QE (QA (W_v (pt bo0 0) (QC rfl) rfl (W_v (.bool false) (Xd (r:=false) rfl rfl (Xu Tryd.underlying105)) rfl (W_v (.bool false) (QD rfl) rfl (QB (tn (QJ rfl (QE (QA (W_v (vI a1) (QC rfl) rfl (W_v (.bool (decide (a1 < (0:Int)))) (QT rfl rfl rfl rfl) rfl (W_v (.bool (decide (a1 < (0:Int)))) (QC rfl) rfl ?_))))))))))))
 refine ZI 8 (fun ρ w'=>Qs ρ [(0,pt bo0 0),(1,vI a1),(2,vI a2),(7,pt b1 0),(24,.bool ((decide (a1 < (0:Int))) || (decide (a1 ≥ (a0.tasks.length:Int)))))] ∧ w2 = w') ?_ ?_
 ·rcases Qw (decide (a1 < (0:Int))) with hb4 | hb4
  ·skip
   refine QU (congrArg some hb4) (W_v (vI a1) (QC rfl) rfl (QU (congrArg some hb4) (W_v (pt bo0 0) (QC rfl) rfl (QU (congrArg some hb4) (W_v (pt bo0 0) (Qy rfl) rfl (QU (congrArg some hb4) (W_v (pt bo0 0) (QF (o:=0) (off:=0) Tryd.underlying144 rfl ty142 rfl rfl) rfl (QU (congrArg some hb4) (W_v (.slice A0_0 a0.tasks.length c0_0) (QR (S.blk 1 rfl) ty142 rfl rfl) rfl (QU (congrArg some hb4) (W_v (vI (a0.tasks.length:Int)) (Qt (n:=a0.tasks.length) Tryd.underlying142 rfl) rfl (QU (congrArg some hb4) (W_v (.bool (decide (a1 ≥ (a0.tasks.length:Int)))) (QT rfl rfl rfl rfl) rfl (W_v (.bool (decide (a1 ≥ (a0.tasks.length:Int)))) (QZ (k:=false) (congrArg Value.bool hb4) rfl) rfl (QB ?_)))))))))))))))
   exact ⟨⟨rfl,rfl,rfl,rfl,(by first | rfl | (rw [hb4]; rfl) | (simp only [hb4]; rfl)),trivial⟩,rfl⟩
  ·skip
   refine Qk (skF hb4) rfl (Qk (skF hb4) rfl (Qk (skF hb4) rfl (Qk (skF hb4) rfl (Qk (skF hb4) rfl (Qk (skF hb4) rfl (Qk (skF hb4) rfl (W_v (.bool true) (QZ (k:=true) (congrArg Value.bool hb4) rfl) rfl (QB ?_))))))))
   exact ⟨⟨rfl,rfl,rfl,rfl,(by first | rfl | (rw [hb4]; rfl) | (simp only [hb4]; rfl)),trivial⟩,rfl⟩
 as_aux_lemma =>
 rintro ρ _ ⟨hρ,rfl⟩
 rw [QN hρ]
 refine W_v (.bool ((decide (a1 < (0:Int))) || (decide (a1 ≥ (a0.tasks.length:Int))))) (QD rfl) rfl (QB (tn ?_))
 rcases Zh H with ⟨hb5,H⟩ | ⟨hb5,H⟩
 ·refine QL (congrArg Value.bool hb5) ?_
  refine QE (QA (W_v (vI 1) (QD rfl) rfl (QB (tn ?_))))
  refine QY ?_
  refine br (tr (?_))
  obtain rfl:=Option.some.inj H
  exact ⟨_,_,_,fun w1 e1=>QO (vs:=[vI 1]) (FA.cons (rfl) (FA.nil)),HM,E,S.pick [1,2,3] (by decide),⟨A0_0,c0_0,A0_1,c0_1,rfl,rfl⟩⟩
 refine QJ (congrArg Value.bool hb5) (QE (QA (W_v (pt bo0 0) (QC rfl) rfl (W_v (pt bo0 0) (Qy rfl) rfl (W_v (pt bo0 0) (QF (o:=0) (off:=0) Tryd.underlying144 rfl ty142 rfl rfl) rfl (W_v (.slice A0_0 a0.tasks.length c0_0) (QR (S.blk 1 rfl) ty142 rfl rfl) rfl (W_v (vI a1) (QC rfl) rfl ?_)))))))
 obtain ⟨⟨p6,p7⟩,H⟩:=Zt H
 obtain ⟨b8,o9,cs10,_,_,ee15,hb11,vs12,hR13,hc14⟩:=SlW.at' (S.row_read 2 rfl) p6 p7
 obtain rfl:vs12 = _:=hR13
 refine W_v (.pointer (some ⟨b8,o9 + a1.toNat * 2,none⟩)) (Qe Tryd.underlying142 ty161 (slA ee15) rfl p6 p7) rfl (W_v (.pointer (some ⟨b8,o9 + a1.toNat * 2,none⟩)) (QF (o:=o9 + a1.toNat * 2) (off:=0) Tryd.underlying161 rfl ty3 rfl rfl) rfl (W_v (vI ((rd a0.tasks a1).at_)) (QR (Hp.of_get hb11) ty3 rfl (hc14 0 _ rfl)) rfl (W_v (vI a2) (QC rfl) rfl (W_v (.bool ((rd a0.tasks a1).at_ != a2)) (QT rfl rfl rfl rfl) rfl (W_v (.bool ((rd a0.tasks a1).at_ != a2)) (QD rfl) rfl (QB (tn ?_)))))))
 rcases Zh H with ⟨hb16,H⟩ | ⟨hb16,H⟩
 ·refine QL (congrArg Value.bool hb16) ?_
  refine QE (QA (W_v (vI 7) (QD rfl) rfl (QB (tn ?_))))
  refine QY ?_
  refine br (tr (?_))
  obtain rfl:=Option.some.inj H
  exact ⟨_,_,_,fun w1 e1=>QO (vs:=[vI 7]) (FA.cons (rfl) (FA.nil)),HM,E,S.pick [1,2,3] (by decide),⟨A0_0,c0_0,A0_1,c0_1,rfl,rfl⟩⟩
 refine QJ (congrArg Value.bool hb16) (Qg (bn (tn ?_)))
 as_aux_lemma =>
 refine QE (QA (W_v (pt bo0 0) (QC rfl) rfl (W_v (pt bo0 0) (Qy rfl) rfl (W_v (pt bo0 0) (QF (o:=0) (off:=0) Tryd.underlying144 rfl ty142 rfl rfl) rfl (W_v (.slice A0_0 a0.tasks.length c0_0) (QR (S.blk 1 rfl) ty142 rfl rfl) rfl (W_v (vI a1) (QC rfl) rfl ?_))))))
 obtain ⟨⟨p17,p18⟩,H⟩:=Zt H
 obtain ⟨b19,o20,cs21,_,_,ee26,hb22,vs23,hR24,hc25⟩:=SlW.at' (S.row_read 2 rfl) p17 p18
 obtain rfl:vs23 = _:=hR24
 refine W_v (.pointer (some ⟨b19,o20 + a1.toNat * 2,none⟩)) (Qe Tryd.underlying142 ty161 (slA ee26) rfl p17 p18) rfl (W_v (.pointer (some ⟨b19,o20 + a1.toNat * 2,none⟩)) (QD rfl) rfl (QB (tn (QE ?_))))
 refine Ql (S:=fun w'=>∃ Mx,M.le Mx ∧ St w' Mx F [Blk bo0 (.cells #[.slice A0_0 a0.tasks.length c0_0,.slice A0_1 a0.l.length c0_1] 144 (0,0)),Row Qx 161 (.slice A0_0 a0.tasks.length c0_0) a0.tasks,Row QK 55 (.slice A0_1 a0.l.length c0_1) a0.l]) (L:=8) mixed ?_
 intro w29 hw30 E'
 replace S:=S.heap hw30
 replace E:=E.trans E'
 have D1:∃ Mx,Hp.le M Mx ∧ St _ Mx F [_,_,_]:=⟨_,Hp.le_refl _,S.pick [1,2,3] (by decide)⟩
 refine Wt 0 rfl rfl rfl (vI a1) rfl (fun w' h'=>QC rfl) D1 (Wt 1 rfl rfl rfl (.pointer (some ⟨b19,o20 + a1.toNat * 2,none⟩)) rfl (fun w' h'=>QC rfl) D1 (Wt 2 rfl rfl rfl (.pointer (some ⟨b19,o20 + a1.toNat * 2,none⟩)) rfl (fun w' h'=>Qy rfl) D1 (Wt 3 rfl rfl rfl (.pointer (some ⟨b19,o20 + a1.toNat * 2 + 1,none⟩)) rfl (fun w' h'=>QF (o:=o20 + a1.toNat * 2) (off:=1) Tryd.underlying161 rfl ty3 rfl rfl) D1 (Wt 4 rfl rfl rfl (vI ((rd a0.tasks a1).calls)) rfl (fun w' h'=>Xp h' 1 rfl ee26 p17 p18 1 (by rintro _ _ rfl; rfl) ty3 rfl) D1 (Wt 5 rfl rfl rfl (pt b1 1) rfl (fun w' h'=>QF (o:=0) (off:=1) Tryd.underlying55 rfl ty3 rfl rfl) D1 ?_)))))
 refine Wo 6 rfl ?_
 refine Q5 S 0 rfl ty3 rfl rfl [vI a1] rfl rfl rfl #[vU a3.What,vI a1,vI a3.Call,vI a3.Answer.Err,.bool a3.Answer.Found,vS a3.Answer.Value,.slice A3_0 a3.Answer.Pairs.length c3_0] rfl rfl ?_
 intro w31 E' S
 replace E:=E.trans E'
 refine QB (YC ⟨.inr ⟨M,Hp.le_refl M,(S.pick [1,2,3] (by decide))⟩,?_⟩)
 refine Wt 7 rfl rfl rfl (pt b1 2) rfl (fun w' h'=>QF (o:=0) (off:=2) Tryd.underlying55 rfl ty3 rfl rfl) (⟨M,Hp.le_refl M,(S.pick [1,2,3] (by decide))⟩) ?_
 refine Wo 8 rfl ?_
 refine Q5 S 0 rfl ty3 rfl rfl [vI ((rd a0.tasks a1).calls)] rfl rfl rfl #[vU a3.What,vI a1,vI ((rd a0.tasks a1).calls),vI a3.Answer.Err,.bool a3.Answer.Found,vS a3.Answer.Value,.slice A3_0 a3.Answer.Pairs.length c3_0] rfl rfl ?_
 intro w32 E' S
 replace E:=E.trans E'
 refine QB (YC ⟨.inl (by decide),?_⟩)
 refine Wz ?_
 refine tn (QE ?_)
 have LE54:=Hp.le_refl M
 refine Ql (S:=fun w'=>∃ Mx,M.le Mx ∧ St w' Mx F [Blk b1 (.cells #[vU a3.What,vI a1,vI ((rd a0.tasks a1).calls),vI a3.Answer.Err,.bool a3.Answer.Found,vS a3.Answer.Value,.slice A3_0 a3.Answer.Pairs.length c3_0] 55 (0,0)),Blk bo0 (.cells #[.slice A0_0 a0.tasks.length c0_0,.slice A0_1 a0.l.length c0_1] 144 (0,0)),Row Qx 161 (.slice A0_0 a0.tasks.length c0_0) a0.tasks]) (L:=11) mixed ?_
 intro w55 hw56 E'
 replace S:=S.heap hw56
 replace E:=E.trans E'
 have D3:∃ Mx,Hp.le M Mx ∧ St _ Mx F [_,_,_]:=⟨_,Hp.le_refl _,S.pick [0,1,2] (by decide)⟩
 refine Wt 0 rfl rfl rfl (pt bo0 0) rfl (fun w' h'=>QC rfl) D3 (Wt 1 rfl rfl rfl (pt bo0 0) rfl (fun w' h'=>QC rfl) D3 (Wt 2 rfl rfl rfl (pt bo0 0) rfl (fun w' h'=>Qy rfl) D3 (Wt 3 rfl rfl rfl (pt bo0 1) rfl (fun w' h'=>QF (o:=0) (off:=1) Tryd.underlying144 rfl ty25 rfl rfl) D3 (Wt 4 rfl rfl rfl (.slice A0_1 a0.l.length c0_1) rfl (fun w' h'=>QR (Qj h' 1 rfl) ty25 rfl rfl) D3 (Wt 5 rfl rfl rfl (.agg #[vU a3.What,vI a1,vI ((rd a0.tasks a1).calls),vI a3.Answer.Err,.bool a3.Answer.Found,vS a3.Answer.Value,.slice A3_0 a3.Answer.Pairs.length c3_0]) rfl (fun w' h'=>Qh (Qj h' 0 rfl) ty55 rfl (QI rfl) rfl rfl) D3 ?_)))))
 refine Wo 6 rfl ?_
 obtain ⟨t57,ht58,H⟩:=QX H
 refine YJ fn68 (XT.con k M A3_0 c3_0 (⟨a3.What,a1,(rd a0.tasks a1).calls,⟨a3.Answer.Err,a3.Answer.Found,a3.Answer.Value,a3.Answer.Pairs⟩⟩:QG) t57 hr3_0 ht58) S rfl rfl (by rintro _ _ _ ⟨_,_,_,rfl⟩; exact (QS (Yb (fun _ _ _ _ h=>h)) Qd)) ?_
 rintro _ w62 _ Γ' E' S ⟨A59,c60,rfl,rfl⟩
 replace E:=E.trans E'
 refine QB (YC ⟨.inr ⟨M,Hp.le_refl M,(S.pick [1,2,3] (by decide))⟩,?_⟩)
 refine Wo 7 rfl ?_
 obtain ⟨M63,hM64,hf65,S⟩:=S.row_freeze 0 rfl
 replace HM:=Hp.le_trans HM hM64
 replace LE54:=Hp.le_trans LE54 hM64
 refine Y6 S #[vU t57.What,vI t57.Task,vI t57.Call,vI t57.Answer.Err,.bool t57.Answer.Found,vS t57.Answer.Value,.slice A59 t57.Answer.Pairs.length c60] Tryd.underlying25 ty55 rfl rfl cz5 (by as_aux_lemma=>kernel_rfl) (by as_aux_lemma=>kernel_rfl) rfl ?_
 intro b66 w67 E' S
 replace E:=E.trans E'
 replace S:=S.blk_row (r:=QK) (l:=([t57]:List QG)) 0 rfl 1 (Nat.le_refl 1) rfl (Cells.cons (vs:=[vU t57.What,vI t57.Task,vI t57.Call,vI t57.Answer.Err,.bool t57.Answer.Found,vS t57.Answer.Value,.slice A59 t57.Answer.Pairs.length c60]) (⟨_,hf65,rfl⟩) Cells.nil)
 refine QB (YC ⟨.inr ⟨M63,LE54,(S.pick [1,2,3] (by decide))⟩,?_⟩)
 refine Wo 8 rfl ?_
 obtain ⟨p69,H⟩:=Zt H
 obtain ⟨src70,hs71,hC72⟩:=Yj (P:=Tryd.prog) (ρ:=QK) (l:=([t57]:List QG)) (S.row_read 0 rfl) (by decide)
 refine XN S 4 rfl rfl rfl Tryd.underlying25 (.inl Tryd.underlying25) ty55 rfl (by decide) (by decide) hs71 hC72 rfl (by omega) rfl ?_
 intro v73 w74 E' S
 replace E:=E.trans E'
 obtain ⟨A75,c76,rfl,_⟩:=(S.row_read 4 rfl).form
 refine QB (YC ⟨.inr ⟨M63,LE54,(S.pick [1,2,3] (by decide))⟩,?_⟩)
 refine Wt 9 rfl rfl rfl (pt bo0 0) rfl (fun w' h'=>Qy rfl) (⟨M63,LE54,(S.pick [1,2,3] (by decide))⟩) (Wt 10 rfl rfl rfl (pt bo0 1) rfl (fun w' h'=>QF (o:=0) (off:=1) Tryd.underlying144 rfl ty25 rfl rfl) (⟨M63,LE54,(S.pick [1,2,3] (by decide))⟩) ?_)
 refine Wo 11 rfl ?_
 refine Q5 S 2 rfl ty25 rfl rfl [.slice A75 (a0.l ++ ([t57]:List QG)).length c76] rfl rfl rfl #[.slice A0_0 a0.tasks.length c0_0,.slice A75 (a0.l ++ ([t57]:List QG)).length c76] rfl rfl ?_
 intro w77 E' S
 replace E:=E.trans E'
 refine QB (YC ⟨.inl (by decide),?_⟩)
 refine Wz ?_
 refine tn ?_
 as_aux_lemma =>
 refine QE (QE (QA (W_v (.pointer (some ⟨b19,o20 + a1.toNat * 2,none⟩)) (QC rfl) rfl (W_v (.pointer (some ⟨b19,o20 + a1.toNat * 2,none⟩)) (Qy rfl) rfl (W_v (.pointer (some ⟨b19,o20 + a1.toNat * 2,none⟩)) (QF (o:=o20 + a1.toNat * 2) (off:=0) Tryd.underlying161 rfl ty3 rfl rfl) rfl (W_v (vI ((rd a0.tasks a1).at_)) (Xp ⟨M63,Hp.le_refl _,S⟩ 3 rfl ee26 p17 p18 0 (by rintro _ _ rfl; rfl) ty3 rfl) rfl (W_v (vI (IntKind.i64.wrap ((rd a0.tasks a1).at_ + (1:Int)))) (QT rfl rfl rfl rfl) rfl (W_v (.pointer (some ⟨b19,o20 + a1.toNat * 2,none⟩)) (Qy rfl) rfl (W_v (.pointer (some ⟨b19,o20 + a1.toNat * 2,none⟩)) (QF (o:=o20 + a1.toNat * 2) (off:=0) Tryd.underlying161 rfl ty3 rfl rfl) rfl ?_)))))))))
 obtain ⟨x79,he80,H⟩:=QX H
 replace he80:=Option.some.inj he80
 refine XE S 3 rfl rfl ee26 (by first | exact p17 | simpa using p17) (by first | exact p18 | simpa using p18) 0 ty3 rfl rfl [vI (IntKind.i64.wrap ((rd a0.tasks a1).at_ + (1:Int)))] rfl rfl rfl rfl (⟨(IntKind.i64.wrap ((rd a0.tasks a1).at_ + (1:Int))),(rd a0.tasks a1).calls⟩:Z3) (by rintro _ rfl; rfl) he80 ?_
 intro w78 E' S
 replace E:=E.trans E'
 have hs81:Value.slice A0_0 a0.tasks.length c0_0 = Value.slice A0_0 x79.length c0_0:=by rw [← he80,List.length_set]
 try rw [hs81] at S
 try rw [hs81]
 have p82:a1 < (x79.length:Int):=by rw [← he80,List.length_set]; exact p7
 have p83:a1 < (x79.length:Int):=by rw [← he80,List.length_set]; exact p18
 refine QB (tn (QE (QA (W_v (.pointer (some ⟨b19,o20 + a1.toNat * 2,none⟩)) (QC rfl) rfl (W_v (.pointer (some ⟨b19,o20 + a1.toNat * 2,none⟩)) (Qy rfl) rfl (W_v (.pointer (some ⟨b19,o20 + a1.toNat * 2,none⟩)) (QF (o:=o20 + a1.toNat * 2) (off:=0) Tryd.underlying161 rfl ty3 rfl rfl) rfl (W_v (vI ((rd x79 a1).at_)) (Xp ⟨M63,Hp.le_refl _,S⟩ 3 rfl ee26 p17 p83 0 (by rintro _ _ rfl; rfl) ty3 rfl) rfl (W_v (.bool (decide ((rd x79 a1).at_ > (2:Int)))) (QT rfl rfl rfl rfl) rfl (QB (tn ?_))))))))))
 obtain ⟨o114,o114h,o114H⟩:=QX H
 refine Xg (fun ρ w'=>∃ (x110:List Z3) (A111:Option Addr) (c112:Nat),(x110) = o114 ∧ Qs ρ [] ∧ Ext w w' ∧ St w' M63 F [Row Qx 161 (.slice A111 x110.length c112) x110,Blk bo0 (.cells #[.slice A111 x110.length c112,.slice A75 (a0.l ++ ([t57]:List QG)).length c76] 144 (0,0)),Row QK 55 (.slice A75 (a0.l ++ ([t57]:List QG)).length c76) (a0.l ++ ([t57]:List QG))]) ?_ ?_
 ·as_aux_lemma =>
   clear o114H
   have H:=o114h
   rcases Zh H with ⟨hb115,H⟩ | ⟨hb115,H⟩
   ·refine QL (congrArg Value.bool hb115) ?_
    refine QE (QA (W_v (.pointer (some ⟨b19,o20 + a1.toNat * 2,none⟩)) (QC rfl) rfl (W_v (.pointer (some ⟨b19,o20 + a1.toNat * 2,none⟩)) (Qy rfl) rfl (W_v (.pointer (some ⟨b19,o20 + a1.toNat * 2,none⟩)) (QF (o:=o20 + a1.toNat * 2) (off:=0) Tryd.underlying161 rfl ty3 rfl rfl) rfl ?_))))
    obtain ⟨x117,he118,H⟩:=QX H
    replace he118:=Option.some.inj he118
    refine XE S 3 rfl rfl ee26 (by first | exact p17 | simpa using p17) (by first | exact p83 | simpa using p83) 0 ty3 rfl rfl [vI 0] rfl rfl rfl rfl (⟨(0:Int),(rd x79 a1).calls⟩:Z3) (by rintro _ rfl; rfl) he118 ?_
    intro w116 E' S
    replace E:=E.trans E'
    have hs119:Value.slice A0_0 x79.length c0_0 = Value.slice A0_0 x117.length c0_0:=by rw [← he118,List.length_set]
    try rw [hs119] at S
    try rw [hs119]
    have p120:a1 < (x117.length:Int):=by rw [← he118,List.length_set]; exact p82
    have p121:a1 < (x117.length:Int):=by rw [← he118,List.length_set]; exact p83
    refine QB (tn (QA (W_v (.pointer (some ⟨b19,o20 + a1.toNat * 2,none⟩)) (QC rfl) rfl (W_v (.pointer (some ⟨b19,o20 + a1.toNat * 2,none⟩)) (Qy rfl) rfl (W_v (.pointer (some ⟨b19,o20 + a1.toNat * 2 + 1,none⟩)) (QF (o:=o20 + a1.toNat * 2) (off:=1) Tryd.underlying161 rfl ty3 rfl rfl) rfl (W_v (vI ((rd x117 a1).calls)) (Xp ⟨M63,Hp.le_refl _,S⟩ 3 rfl ee26 p17 p121 1 (by rintro _ _ rfl; rfl) ty3 rfl) rfl (W_v (vI (IntKind.i64.wrap ((rd x117 a1).calls + (1:Int)))) (QT rfl rfl rfl rfl) rfl (W_v (.pointer (some ⟨b19,o20 + a1.toNat * 2,none⟩)) (Qy rfl) rfl (W_v (.pointer (some ⟨b19,o20 + a1.toNat * 2 + 1,none⟩)) (QF (o:=o20 + a1.toNat * 2) (off:=1) Tryd.underlying161 rfl ty3 rfl rfl) rfl ?_)))))))))
    obtain ⟨x123,he124,H⟩:=QX H
    replace he124:=Option.some.inj he124
    refine XE S 3 rfl rfl ee26 (by first | exact p17 | simpa using p17) (by first | exact p121 | simpa using p121) 1 ty3 rfl rfl [vI (IntKind.i64.wrap ((rd x117 a1).calls + (1:Int)))] rfl rfl rfl rfl (⟨(rd x117 a1).at_,(IntKind.i64.wrap ((rd x117 a1).calls + (1:Int)))⟩:Z3) (by rintro _ rfl; rfl) he124 ?_
    intro w122 E' S
    replace E:=E.trans E'
    have hs125:Value.slice A0_0 x117.length c0_0 = Value.slice A0_0 x123.length c0_0:=by rw [← he124,List.length_set]
    try rw [hs125] at S
    try rw [hs125]
    have p126:a1 < (x123.length:Int):=by rw [← he124,List.length_set]; exact p120
    have p127:a1 < (x123.length:Int):=by rw [← he124,List.length_set]; exact p121
    refine QB (tn ?_)
    exact ⟨x123,A0_0,c0_0,Option.some.inj H,trivial,E,S.pick [3,2,4] (by decide)⟩
   refine QJ (congrArg Value.bool hb115) (Qg (tn ?_))
   exact ⟨x79,A0_0,c0_0,Option.some.inj H,trivial,E,S.pick [3,2,4] (by decide)⟩
 rintro ρ w128 ⟨x110,A111,c112,rfl,hρ,E,S⟩
 rw [QN hρ]
 have H:=o114H
 refine tn ?_
 as_aux_lemma =>
 refine QE (QA (W_v (vI 0) (QD rfl) rfl (QB (tn ?_))))
 refine QY ?_
 obtain rfl:=Option.some.inj H
 exact ⟨_,_,_,fun w1 e1=>QO (vs:=[vI 0]) (FA.cons (rfl) (FA.nil)),HM,E,S.pick [1,0,2] (by decide),⟨A111,c112,A75,c76,rfl,rfl⟩⟩
def Z9 (k:Nat) (a0:Qb) (a1:Int):Option (Int × Qb) :=
 (Option.bind (Ze k a0 a1 (0:Int) (⟨(1:Int),(0:Int),(0:Int),⟨(0:Int),false,([]:Str),([]:(List Qu))⟩⟩:QG)) (fun t1=>some (t1.1,t1.2)))
theorem Z9.mono {k:Nat} {a0:Qb} {a1:Int}:OLe (Z9 k a0 a1) (Z9 (k + 1) a0 a1):=by
 unfold Z9
 have m1:=@Ze.mono
 exact mo
theorem Z9.con (k:Nat) (M:Hp) (A0_0:Option Addr) (c0_0:Nat) (A0_1:Option Addr) (c0_1:Nat) (a0:Qb) (a1:Int) (bo0:Nat) (r:Int × Qb)  (h:Z9 k a0 a1 = some r):Con Tryd.prog 174 #[pt bo0 0,vI a1] M [Blk bo0 (.cells #[.slice A0_0 a0.tasks.length c0_0,.slice A0_1 a0.l.length c0_1] 144 (0,0)),Row Qx 161 (.slice A0_0 a0.tasks.length c0_0) a0.tasks,Row QK 55 (.slice A0_1 a0.l.length c0_1) a0.l] (fun v M' Γ'=>∃ (Aq1:Option Addr) (cq2:Nat) (Aq4:Option Addr) (cq5:Nat),v = vI r.1 ∧ Γ' = [Blk bo0 (.cells #[.slice Aq1 r.2.tasks.length cq2,.slice Aq4 r.2.l.length cq5] 144 (0,0)),Row Qx 161 (.slice Aq1 r.2.tasks.length cq2) r.2.tasks,Row QK 55 (.slice Aq4 r.2.l.length cq5) r.2.l]):=by
 refine Qa Tryd.func174 rfl Tryd.ntmps174 Tryd.results174 rfl ?_
 intro w F rn S hrn
 have E:=Ext.refl w
 have HM:=Hp.le_refl M
 have H:=h
 unfold Z9 at H
 refine QE (QA (W_v (vI 0) (QD rfl) rfl (QB (tn (QE (QA (W_v (pt bo0 0) (QC rfl) rfl (W_v (vI a1) (QC rfl) rfl (W_v (.agg #[vU 1,vI 0,vI 0,vI 0,.bool false,vS ([]:Str),.slice none 0 0]) (ZN (pl:=[(0,1),(1,1),(2,1),(3,4)]) #[vU 1,vI 0,vI 0,vI 0,.bool false,vS ([]:Str),.slice none 0 0] Tryd.underlying55 ty55 (by as_aux_lemma=>kernel_rfl) rfl (by as_aux_lemma=>kernel_rfl)) rfl ?_)))))))))
 obtain ⟨t1,ht2,H⟩:=QX H
 refine ZZ fn179 (Ze.con k M A0_0 c0_0 A0_1 c0_1 a0 a1 (0:Int) none 0 (⟨(1:Int),(0:Int),(0:Int),⟨(0:Int),false,([]:Str),([]:(List Qu))⟩⟩:QG) bo0 t1 (SlW.nil _ _) ht2) (Γ1:=[_,_,_]) (Γ2:=[]) S rfl rfl ?_
 rintro _ w9 M10 Γ' hM11 E' S ⟨A3,c4,A6,c7,rfl,rfl⟩
 replace HM:=Hp.le_trans HM hM11
 replace E:=E.trans E'
 replace S:St w9 M10 F [_,_,_]:=S
 refine W_v (vI t1.1) (QD rfl) rfl (QB (tn ?_))
 refine QY ?_
 obtain rfl:=Option.some.inj H
 exact ⟨_,_,_,fun w1 e1=>QO (vs:=[vI t1.1]) (FA.cons (rfl) (FA.nil)),HM,E,S.pick [0,1,2] (by decide),⟨A3,c4,A6,c7,rfl,rfl⟩⟩
def Yr (k:Nat) (a0:Qb) (a1:QG):Option (Int × Qb) :=
 (Option.bind (Z9 k a0 a1.Task) (fun t4=>some (t4.1,t4.2)))
theorem Yr.mono {k:Nat} {a0:Qb} {a1:QG}:OLe (Yr k a0 a1) (Yr (k + 1) a0 a1):=by
 unfold Yr
 have m1:=@Z9.mono
 exact mo
theorem Yr.con (k:Nat) (M:Hp) (A0_0:Option Addr) (c0_0:Nat) (A0_1:Option Addr) (c0_1:Nat) (a0:Qb) (A1_0:Option Addr) (c1_0:Nat) (a1:QG) (bo0:Nat) (r:Int × Qb) (hr1_0:SlR Qr M (.slice A1_0 a1.Answer.Pairs.length c1_0) a1.Answer.Pairs) (h:Yr k a0 a1 = some r):Con Tryd.prog 173 #[pt bo0 0,.agg #[vU a1.What,vI a1.Task,vI a1.Call,vI a1.Answer.Err,.bool a1.Answer.Found,vS a1.Answer.Value,.slice A1_0 a1.Answer.Pairs.length c1_0]] M [Blk bo0 (.cells #[.slice A0_0 a0.tasks.length c0_0,.slice A0_1 a0.l.length c0_1] 144 (0,0)),Row Qx 161 (.slice A0_0 a0.tasks.length c0_0) a0.tasks,Row QK 55 (.slice A0_1 a0.l.length c0_1) a0.l] (fun v M' Γ'=>∃ (Aq1:Option Addr) (cq2:Nat) (Aq4:Option Addr) (cq5:Nat),v = vI r.1 ∧ Γ' = [Blk bo0 (.cells #[.slice Aq1 r.2.tasks.length cq2,.slice Aq4 r.2.l.length cq5] 144 (0,0)),Row Qx 161 (.slice Aq1 r.2.tasks.length cq2) r.2.tasks,Row QK 55 (.slice Aq4 r.2.l.length cq5) r.2.l]):=by
 refine Qa Tryd.func173 rfl Tryd.ntmps173 Tryd.results173 rfl ?_
 intro w F rn S hrn
 have E:=Ext.refl w
 have HM:=Hp.le_refl M
 have H:=h
 unfold Yr at H
 refine QE (QA ?_)
 refine YO S #[vU a1.What,vI a1.Task,vI a1.Call,vI a1.Answer.Err,.bool a1.Answer.Found,vS a1.Answer.Value,.slice A1_0 a1.Answer.Pairs.length c1_0] rfl rfl rfl ?_
 intro b1 w2 E' S
 replace E:=E.trans E'
 refine W_v (vI 0) (QD rfl) rfl (QB (tn (QE (QA (W_v (pt bo0 0) (QC rfl) rfl (W_v (pt b1 1) (QF (o:=0) (off:=1) Tryd.underlying55 rfl ty3 rfl rfl) rfl (W_v (vI a1.Task) (QR (S.blk 0 rfl) ty3 rfl rfl) rfl ?_)))))))
 obtain ⟨t4,ht5,H⟩:=QX H
 replace S:St w2 M F [_,_,_,_]:=S.pick [1,2,3,0] (by decide)
 refine ZZ fn174 (Z9.con k M A0_0 c0_0 A0_1 c0_1 a0 a1.Task bo0 t4  ht5) (Γ1:=[_,_,_]) (Γ2:=[_]) S rfl rfl ?_
 rintro _ w12 M13 Γ' hM14 E' S ⟨A6,c7,A9,c10,rfl,rfl⟩
 replace HM:=Hp.le_trans HM hM14
 replace E:=E.trans E'
 replace S:St w12 M13 F [_,_,_,_]:=S
 refine W_v (vI t4.1) (QD rfl) rfl (QB (tn ?_))
 refine QY ?_
 obtain rfl:=Option.some.inj H
 exact ⟨_,_,_,fun w1 e1=>QO (vs:=[vI t4.1]) (FA.cons (rfl) (FA.nil)),HM,E,S.pick [0,1,2] (by decide),⟨A6,c7,A9,c10,rfl,rfl⟩⟩
def YN (k:Nat) (a0:Qb) (a1:Int):Option (Int × Qb) :=
 (Option.bind (Ze k a0 a1 (1:Int) (⟨(2:Int),(0:Int),(0:Int),⟨(0:Int),false,([]:Str),([]:(List Qu))⟩⟩:QG)) (fun t1=>some (t1.1,t1.2)))
theorem YN.mono {k:Nat} {a0:Qb} {a1:Int}:OLe (YN k a0 a1) (YN (k + 1) a0 a1):=by
 unfold YN
 have m1:=@Ze.mono
 exact mo
theorem YN.con (k:Nat) (M:Hp) (A0_0:Option Addr) (c0_0:Nat) (A0_1:Option Addr) (c0_1:Nat) (a0:Qb) (a1:Int) (bo0:Nat) (r:Int × Qb)  (h:YN k a0 a1 = some r):Con Tryd.prog 176 #[pt bo0 0,vI a1] M [Blk bo0 (.cells #[.slice A0_0 a0.tasks.length c0_0,.slice A0_1 a0.l.length c0_1] 144 (0,0)),Row Qx 161 (.slice A0_0 a0.tasks.length c0_0) a0.tasks,Row QK 55 (.slice A0_1 a0.l.length c0_1) a0.l] (fun v M' Γ'=>∃ (Aq1:Option Addr) (cq2:Nat) (Aq4:Option Addr) (cq5:Nat),v = vI r.1 ∧ Γ' = [Blk bo0 (.cells #[.slice Aq1 r.2.tasks.length cq2,.slice Aq4 r.2.l.length cq5] 144 (0,0)),Row Qx 161 (.slice Aq1 r.2.tasks.length cq2) r.2.tasks,Row QK 55 (.slice Aq4 r.2.l.length cq5) r.2.l]):=by
 refine Qa Tryd.func176 rfl Tryd.ntmps176 Tryd.results176 rfl ?_
 intro w F rn S hrn
 have E:=Ext.refl w
 have HM:=Hp.le_refl M
 have H:=h
 unfold YN at H
 refine QE (QA (W_v (vI 0) (QD rfl) rfl (QB (tn (QE (QA (W_v (pt bo0 0) (QC rfl) rfl (W_v (vI a1) (QC rfl) rfl (W_v (.agg #[vU 2,vI 0,vI 0,vI 0,.bool false,vS ([]:Str),.slice none 0 0]) (ZN (pl:=[(0,1),(1,1),(2,1),(3,4)]) #[vU 2,vI 0,vI 0,vI 0,.bool false,vS ([]:Str),.slice none 0 0] Tryd.underlying55 ty55 (by as_aux_lemma=>kernel_rfl) rfl (by as_aux_lemma=>kernel_rfl)) rfl ?_)))))))))
 obtain ⟨t1,ht2,H⟩:=QX H
 refine ZZ fn179 (Ze.con k M A0_0 c0_0 A0_1 c0_1 a0 a1 (1:Int) none 0 (⟨(2:Int),(0:Int),(0:Int),⟨(0:Int),false,([]:Str),([]:(List Qu))⟩⟩:QG) bo0 t1 (SlW.nil _ _) ht2) (Γ1:=[_,_,_]) (Γ2:=[]) S rfl rfl ?_
 rintro _ w9 M10 Γ' hM11 E' S ⟨A3,c4,A6,c7,rfl,rfl⟩
 replace HM:=Hp.le_trans HM hM11
 replace E:=E.trans E'
 replace S:St w9 M10 F [_,_,_]:=S
 refine W_v (vI t1.1) (QD rfl) rfl (QB (tn ?_))
 refine QY ?_
 obtain rfl:=Option.some.inj H
 exact ⟨_,_,_,fun w1 e1=>QO (vs:=[vI t1.1]) (FA.cons (rfl) (FA.nil)),HM,E,S.pick [0,1,2] (by decide),⟨A3,c4,A6,c7,rfl,rfl⟩⟩
def Yq (k:Nat) (a0:Qb) (a1:QG):Option (Int × Qb) :=
 (Option.bind (YN k a0 a1.Task) (fun t4=>some (t4.1,t4.2)))
theorem Yq.mono {k:Nat} {a0:Qb} {a1:QG}:OLe (Yq k a0 a1) (Yq (k + 1) a0 a1):=by
 unfold Yq
 have m1:=@YN.mono
 exact mo
theorem Yq.con (k:Nat) (M:Hp) (A0_0:Option Addr) (c0_0:Nat) (A0_1:Option Addr) (c0_1:Nat) (a0:Qb) (A1_0:Option Addr) (c1_0:Nat) (a1:QG) (bo0:Nat) (r:Int × Qb) (hr1_0:SlR Qr M (.slice A1_0 a1.Answer.Pairs.length c1_0) a1.Answer.Pairs) (h:Yq k a0 a1 = some r):Con Tryd.prog 175 #[pt bo0 0,.agg #[vU a1.What,vI a1.Task,vI a1.Call,vI a1.Answer.Err,.bool a1.Answer.Found,vS a1.Answer.Value,.slice A1_0 a1.Answer.Pairs.length c1_0]] M [Blk bo0 (.cells #[.slice A0_0 a0.tasks.length c0_0,.slice A0_1 a0.l.length c0_1] 144 (0,0)),Row Qx 161 (.slice A0_0 a0.tasks.length c0_0) a0.tasks,Row QK 55 (.slice A0_1 a0.l.length c0_1) a0.l] (fun v M' Γ'=>∃ (Aq1:Option Addr) (cq2:Nat) (Aq4:Option Addr) (cq5:Nat),v = vI r.1 ∧ Γ' = [Blk bo0 (.cells #[.slice Aq1 r.2.tasks.length cq2,.slice Aq4 r.2.l.length cq5] 144 (0,0)),Row Qx 161 (.slice Aq1 r.2.tasks.length cq2) r.2.tasks,Row QK 55 (.slice Aq4 r.2.l.length cq5) r.2.l]):=by
 refine Qa Tryd.func175 rfl Tryd.ntmps175 Tryd.results175 rfl ?_
 intro w F rn S hrn
 have E:=Ext.refl w
 have HM:=Hp.le_refl M
 have H:=h
 unfold Yq at H
 refine QE (QA ?_)
 refine YO S #[vU a1.What,vI a1.Task,vI a1.Call,vI a1.Answer.Err,.bool a1.Answer.Found,vS a1.Answer.Value,.slice A1_0 a1.Answer.Pairs.length c1_0] rfl rfl rfl ?_
 intro b1 w2 E' S
 replace E:=E.trans E'
 refine W_v (vI 0) (QD rfl) rfl (QB (tn (QE (QA (W_v (pt bo0 0) (QC rfl) rfl (W_v (pt b1 1) (QF (o:=0) (off:=1) Tryd.underlying55 rfl ty3 rfl rfl) rfl (W_v (vI a1.Task) (QR (S.blk 0 rfl) ty3 rfl rfl) rfl ?_)))))))
 obtain ⟨t4,ht5,H⟩:=QX H
 replace S:St w2 M F [_,_,_,_]:=S.pick [1,2,3,0] (by decide)
 refine ZZ fn176 (YN.con k M A0_0 c0_0 A0_1 c0_1 a0 a1.Task bo0 t4  ht5) (Γ1:=[_,_,_]) (Γ2:=[_]) S rfl rfl ?_
 rintro _ w12 M13 Γ' hM14 E' S ⟨A6,c7,A9,c10,rfl,rfl⟩
 replace HM:=Hp.le_trans HM hM14
 replace E:=E.trans E'
 replace S:St w12 M13 F [_,_,_,_]:=S
 refine W_v (vI t4.1) (QD rfl) rfl (QB (tn ?_))
 refine QY ?_
 obtain rfl:=Option.some.inj H
 exact ⟨_,_,_,fun w1 e1=>QO (vs:=[vI t4.1]) (FA.cons (rfl) (FA.nil)),HM,E,S.pick [0,1,2] (by decide),⟨A6,c7,A9,c10,rfl,rfl⟩⟩
def Z8 (k:Nat) (a0:Qb) (a1:Int) (a2:Qf):Option (Int × Qb) :=
 (Option.bind (Ze k a0 a1 (2:Int) (⟨(3:Int),(0:Int),(0:Int),⟨a2.Err,a2.Found,a2.Value,a2.Pairs⟩⟩:QG)) (fun t4=>some (t4.1,t4.2)))
theorem Z8.mono {k:Nat} {a0:Qb} {a1:Int} {a2:Qf}:OLe (Z8 k a0 a1 a2) (Z8 (k + 1) a0 a1 a2):=by
 unfold Z8
 have m1:=@Ze.mono
 exact mo
theorem Z8.con (k:Nat) (M:Hp) (A0_0:Option Addr) (c0_0:Nat) (A0_1:Option Addr) (c0_1:Nat) (a0:Qb) (a1:Int) (A2_0:Option Addr) (c2_0:Nat) (a2:Qf) (bo0:Nat) (r:Int × Qb) (hr2_0:SlR Qr M (.slice A2_0 a2.Pairs.length c2_0) a2.Pairs) (h:Z8 k a0 a1 a2 = some r):Con Tryd.prog 178 #[pt bo0 0,vI a1,.agg #[vI a2.Err,.bool a2.Found,vS a2.Value,.slice A2_0 a2.Pairs.length c2_0]] M [Blk bo0 (.cells #[.slice A0_0 a0.tasks.length c0_0,.slice A0_1 a0.l.length c0_1] 144 (0,0)),Row Qx 161 (.slice A0_0 a0.tasks.length c0_0) a0.tasks,Row QK 55 (.slice A0_1 a0.l.length c0_1) a0.l] (fun v M' Γ'=>∃ (Aq1:Option Addr) (cq2:Nat) (Aq4:Option Addr) (cq5:Nat),v = vI r.1 ∧ Γ' = [Blk bo0 (.cells #[.slice Aq1 r.2.tasks.length cq2,.slice Aq4 r.2.l.length cq5] 144 (0,0)),Row Qx 161 (.slice Aq1 r.2.tasks.length cq2) r.2.tasks,Row QK 55 (.slice Aq4 r.2.l.length cq5) r.2.l]):=by
 refine Qa Tryd.func178 rfl Tryd.ntmps178 Tryd.results178 rfl ?_
 intro w F rn S hrn
 have E:=Ext.refl w
 have HM:=Hp.le_refl M
 have H:=h
 unfold Z8 at H
 refine QE (QA ?_)
 refine YO S #[vI a2.Err,.bool a2.Found,vS a2.Value,.slice A2_0 a2.Pairs.length c2_0] rfl rfl rfl ?_
 intro b1 w2 E' S
 replace E:=E.trans E'
 refine W_v (vI 0) (QD rfl) rfl (QB (tn (QE (QA (W_v (pt bo0 0) (QC rfl) rfl (W_v (vI a1) (QC rfl) rfl (W_v (.agg #[vI a2.Err,.bool a2.Found,vS a2.Value,.slice A2_0 a2.Pairs.length c2_0]) (Qh (S.blk 0 rfl) ty34 rfl (QI rfl) rfl rfl) rfl (W_v (.agg #[vU 3,vI 0,vI 0,vI a2.Err,.bool a2.Found,vS a2.Value,.slice A2_0 a2.Pairs.length c2_0]) (ZN (pl:=[(0,1),(1,1),(2,1),(3,4)]) #[vU 3,vI 0,vI 0,vI a2.Err,.bool a2.Found,vS a2.Value,.slice A2_0 a2.Pairs.length c2_0] Tryd.underlying55 ty55 (by as_aux_lemma=>kernel_rfl) rfl (by as_aux_lemma=>kernel_rfl)) rfl ?_))))))))
 obtain ⟨t4,ht5,H⟩:=QX H
 replace S:St w2 M F [_,_,_,_]:=S.pick [1,2,3,0] (by decide)
 refine ZZ fn179 (Ze.con k M A0_0 c0_0 A0_1 c0_1 a0 a1 (2:Int) A2_0 c2_0 (⟨(3:Int),(0:Int),(0:Int),⟨a2.Err,a2.Found,a2.Value,a2.Pairs⟩⟩:QG) bo0 t4 hr2_0 ht5) (Γ1:=[_,_,_]) (Γ2:=[_]) S rfl rfl ?_
 rintro _ w12 M13 Γ' hM14 E' S ⟨A6,c7,A9,c10,rfl,rfl⟩
 replace HM:=Hp.le_trans HM hM14
 replace E:=E.trans E'
 replace S:St w12 M13 F [_,_,_,_]:=S
 refine W_v (vI t4.1) (QD rfl) rfl (QB (tn ?_))
 refine QY ?_
 obtain rfl:=Option.some.inj H
 exact ⟨_,_,_,fun w1 e1=>QO (vs:=[vI t4.1]) (FA.cons (rfl) (FA.nil)),HM,E,S.pick [0,1,2] (by decide),⟨A6,c7,A9,c10,rfl,rfl⟩⟩
def Yp (k:Nat) (a0:Qb) (a1:QG):Option (Int × Qb) :=
 (Option.bind (Z8 k a0 a1.Task a1.Answer) (fun t4=>some (t4.1,t4.2)))
theorem Yp.mono {k:Nat} {a0:Qb} {a1:QG}:OLe (Yp k a0 a1) (Yp (k + 1) a0 a1):=by
 unfold Yp
 have m1:=@Z8.mono
 exact mo
theorem Yp.con (k:Nat) (M:Hp) (A0_0:Option Addr) (c0_0:Nat) (A0_1:Option Addr) (c0_1:Nat) (a0:Qb) (A1_0:Option Addr) (c1_0:Nat) (a1:QG) (bo0:Nat) (r:Int × Qb) (hr1_0:SlR Qr M (.slice A1_0 a1.Answer.Pairs.length c1_0) a1.Answer.Pairs) (h:Yp k a0 a1 = some r):Con Tryd.prog 177 #[pt bo0 0,.agg #[vU a1.What,vI a1.Task,vI a1.Call,vI a1.Answer.Err,.bool a1.Answer.Found,vS a1.Answer.Value,.slice A1_0 a1.Answer.Pairs.length c1_0]] M [Blk bo0 (.cells #[.slice A0_0 a0.tasks.length c0_0,.slice A0_1 a0.l.length c0_1] 144 (0,0)),Row Qx 161 (.slice A0_0 a0.tasks.length c0_0) a0.tasks,Row QK 55 (.slice A0_1 a0.l.length c0_1) a0.l] (fun v M' Γ'=>∃ (Aq1:Option Addr) (cq2:Nat) (Aq4:Option Addr) (cq5:Nat),v = vI r.1 ∧ Γ' = [Blk bo0 (.cells #[.slice Aq1 r.2.tasks.length cq2,.slice Aq4 r.2.l.length cq5] 144 (0,0)),Row Qx 161 (.slice Aq1 r.2.tasks.length cq2) r.2.tasks,Row QK 55 (.slice Aq4 r.2.l.length cq5) r.2.l]):=by
 refine Qa Tryd.func177 rfl Tryd.ntmps177 Tryd.results177 rfl ?_
 intro w F rn S hrn
 have E:=Ext.refl w
 have HM:=Hp.le_refl M
 have H:=h
 unfold Yp at H
 refine QE (QA ?_)
 refine YO S #[vU a1.What,vI a1.Task,vI a1.Call,vI a1.Answer.Err,.bool a1.Answer.Found,vS a1.Answer.Value,.slice A1_0 a1.Answer.Pairs.length c1_0] rfl rfl rfl ?_
 intro b1 w2 E' S
 replace E:=E.trans E'
 refine W_v (vI 0) (QD rfl) rfl (QB (tn (QE (QA (W_v (pt bo0 0) (QC rfl) rfl (W_v (pt b1 1) (QF (o:=0) (off:=1) Tryd.underlying55 rfl ty3 rfl rfl) rfl (W_v (vI a1.Task) (QR (S.blk 0 rfl) ty3 rfl rfl) rfl (W_v (pt b1 3) (QF (o:=0) (off:=3) Tryd.underlying55 rfl ty34 rfl rfl) rfl (W_v (.agg #[vI a1.Answer.Err,.bool a1.Answer.Found,vS a1.Answer.Value,.slice A1_0 a1.Answer.Pairs.length c1_0]) (Qh (S.blk 0 rfl) ty34 rfl (QI rfl) rfl rfl) rfl ?_)))))))))
 obtain ⟨t4,ht5,H⟩:=QX H
 replace S:St w2 M F [_,_,_,_]:=S.pick [1,2,3,0] (by decide)
 refine ZZ fn178 (Z8.con k M A0_0 c0_0 A0_1 c0_1 a0 a1.Task A1_0 c1_0 a1.Answer bo0 t4 hr1_0 ht5) (Γ1:=[_,_,_]) (Γ2:=[_]) S rfl rfl ?_
 rintro _ w12 M13 Γ' hM14 E' S ⟨A6,c7,A9,c10,rfl,rfl⟩
 replace HM:=Hp.le_trans HM hM14
 replace E:=E.trans E'
 replace S:St w12 M13 F [_,_,_,_]:=S
 refine W_v (vI t4.1) (QD rfl) rfl (QB (tn ?_))
 refine QY ?_
 obtain rfl:=Option.some.inj H
 exact ⟨_,_,_,fun w1 e1=>QO (vs:=[vI t4.1]) (FA.cons (rfl) (FA.nil)),HM,E,S.pick [0,1,2] (by decide),⟨A6,c7,A9,c10,rfl,rfl⟩⟩
def YB (k:Nat) (a0:QM) (a1:Int) (a2:Int):Option (Int × Int × Int) :=
 (if (!((mget a0.names (⟨a1,a2⟩:ZO)).isSome)) = true then some ((0:Int),(0:Int),(0:Int)) else (if 0 ≤ (IntKind.i64.wrap (((mget a0.names (⟨a1,a2⟩:ZO)).getD (0:Int)) - (1:Int))) ∧ (IntKind.i64.wrap (((mget a0.names (⟨a1,a2⟩:ZO)).getD (0:Int)) - (1:Int))) < (a0.txs.length:Int) then some (((mget a0.names (⟨a1,a2⟩:ZO)).getD (0:Int)),(rd a0.txs (IntKind.i64.wrap (((mget a0.names (⟨a1,a2⟩:ZO)).getD (0:Int)) - (1:Int)))).state,(rd a0.txs (IntKind.i64.wrap (((mget a0.names (⟨a1,a2⟩:ZO)).getD (0:Int)) - (1:Int)))).snapshot) else none))
theorem YB.mono {k:Nat} {a0:QM} {a1:Int} {a2:Int}:OLe (YB k a0 a1 a2) (YB (k + 1) a0 a1 a2):=by
 unfold YB
 exact mo
theorem YB.con (k:Nat) (M:Hp) (A0_8:Option Addr) (c0_8:Nat) (A0_9:Option Addr) (c0_9:Nat) (A0_10:Option Addr) (c0_10:Nat) (A0_11:Option Addr) (c0_11:Nat) (vs0_11:List (Str × Value)) (a0:QM) (a1:Int) (a2:Int) (bo0:Nat) (r:Int × Int × Int) (hm0_11:YP Qm M a0.rows vs0_11) (h:YB k a0 a1 a2 = some r):Con Tryd.prog 49 #[pt bo0 0,vI a1,vI a2] M [B95 bo0 a0 A0_8 A0_9 A0_10 c0_10 A0_11,QV QH (Value.int .i64) A0_8 a0.names,QV (Value.int .i64) (Value.int .i64) A0_9 a0.many,Row QP 122 (.slice A0_10 a0.txs.length c0_10) a0.txs,QV encS (fun v:Value=>v) A0_11 vs0_11] (fun v M' Γ'=>v = .tuple #[vI r.1,vU r.2.1,vI r.2.2] ∧ Γ' = [B95 bo0 a0 A0_8 A0_9 A0_10 c0_10 A0_11,QV QH (Value.int .i64) A0_8 a0.names,QV (Value.int .i64) (Value.int .i64) A0_9 a0.many,Row QP 122 (.slice A0_10 a0.txs.length c0_10) a0.txs,QV encS (fun v:Value=>v) A0_11 vs0_11]):=by
 refine Qa Tryd.func49 rfl Tryd.ntmps49 Tryd.results49 rfl ?_
 intro w F rn S hrn
 have E:=Ext.refl w
 have HM:=Hp.le_refl M
 have H:=h
 unfold YB at H
 refine QE (QA (W_v (vI 0) (QD rfl) rfl (W_v (vU 0) (QD rfl) rfl (W_v (vI 0) (QD rfl) rfl (QB (tn (QE (QE (QA (W_v (pt bo0 0) (QC rfl) rfl (W_v (.bool false) (Xd (r:=false) rfl rfl (Xu Tryd.underlying39)) rfl (QB (tn (QJ rfl (Qg ?_)))))))))))))))
 refine tn (QE (QA (W_v (pt bo0 0) (QC rfl) rfl (W_v (pt bo0 0) (Qy rfl) rfl (W_v (pt bo0 8) (QF (o:=0) (off:=8) Tryd.underlying95 rfl ty90 rfl rfl) rfl (W_v (.map (mb A0_8)) (QR (S.blk 0 rfl) ty90 rfl rfl) rfl (W_v (vI a1) (QC rfl) rfl (W_v (vI a2) (QC rfl) rfl (W_v (.agg #[vI a1,vI a2]) (ZN (pl:=[(0,1),(1,1)]) #[vI a1,vI a2] Tryd.underlying112 ty112 (by as_aux_lemma=>kernel_rfl) rfl (by as_aux_lemma=>kernel_rfl)) rfl (W_v (.tuple #[vI ((mget a0.names (⟨a1,a2⟩:ZO)).getD (0:Int)),.bool ((mget a0.names (⟨a1,a2⟩:ZO)).isSome)]) (JN S 1 rfl Tryd.underlying90 key112 (0:Int) (fun _=>ty3.zero) (⟨a1,a2⟩:ZO) rfl rfl) rfl (W_v (.tuple #[vI ((mget a0.names (⟨a1,a2⟩:ZO)).getD (0:Int)),.bool ((mget a0.names (⟨a1,a2⟩:ZO)).isSome)]) (QC rfl) rfl (W_v (vI ((mget a0.names (⟨a1,a2⟩:ZO)).getD (0:Int))) (QQ rfl rfl) rfl (W_v (.bool ((mget a0.names (⟨a1,a2⟩:ZO)).isSome)) (QQ rfl rfl) rfl (W_v (vI ((mget a0.names (⟨a1,a2⟩:ZO)).getD (0:Int))) (QD rfl) rfl (W_v (.bool ((mget a0.names (⟨a1,a2⟩:ZO)).isSome)) (QD rfl) rfl ?_)))))))))))))))
 refine QB (tn (QE (QE (QA (W_v (.bool ((mget a0.names (⟨a1,a2⟩:ZO)).isSome)) (QC rfl) rfl (W_v (.bool (!((mget a0.names (⟨a1,a2⟩:ZO)).isSome))) (Yx (b:=((mget a0.names (⟨a1,a2⟩:ZO)).isSome)) rfl) rfl (QB (tn ?_))))))))
 rcases Zh H with ⟨hb1,H⟩ | ⟨hb1,H⟩
 ·refine QL (congrArg Value.bool hb1) ?_
  refine QE (QA (W_v (vI 0) (QD rfl) rfl (W_v (vU 0) (QD rfl) rfl (W_v (vI 0) (QD rfl) rfl (QB (tn ?_))))))
  refine QY ?_
  refine tr (?_)
  obtain rfl:=Option.some.inj H
  exact ⟨_,_,_,fun w1 e1=>QO (vs:=[vI 0,vU 0,vI 0]) (FA.cons (rfl) (FA.cons (rfl) (FA.cons (rfl) (FA.nil)))),HM,E,S.pick [0,1,2,3,4] (by decide),⟨rfl,rfl⟩⟩
 refine QJ (congrArg Value.bool hb1) (Qg (tn ?_))
 as_aux_lemma =>
 refine QE (QA (W_v (pt bo0 0) (QC rfl) rfl (W_v (pt bo0 0) (Qy rfl) rfl (W_v (pt bo0 10) (QF (o:=0) (off:=10) Tryd.underlying95 rfl ty93 rfl rfl) rfl (W_v (.slice A0_10 a0.txs.length c0_10) (QR (S.blk 0 rfl) ty93 rfl rfl) rfl (W_v (vI ((mget a0.names (⟨a1,a2⟩:ZO)).getD (0:Int))) (QC rfl) rfl (W_v (vI (IntKind.i64.wrap (((mget a0.names (⟨a1,a2⟩:ZO)).getD (0:Int)) - (1:Int)))) (QT rfl rfl rfl rfl) rfl ?_)))))))
 obtain ⟨⟨p2,p3⟩,H⟩:=Zt H
 obtain ⟨b4,o5,cs6,_,_,ee11,hb7,vs8,hR9,hc10⟩:=SlW.at' (S.row_read 3 rfl) p2 p3
 obtain rfl:vs8 = _:=hR9
 refine W_v (.pointer (some ⟨b4,o5 + (IntKind.i64.wrap (((mget a0.names (⟨a1,a2⟩:ZO)).getD (0:Int)) - (1:Int))).toNat * 2,none⟩)) (Qe Tryd.underlying93 ty122 (slA ee11) rfl p2 p3) rfl (W_v (.agg #[vU ((rd a0.txs (IntKind.i64.wrap (((mget a0.names (⟨a1,a2⟩:ZO)).getD (0:Int)) - (1:Int)))).state),vI ((rd a0.txs (IntKind.i64.wrap (((mget a0.names (⟨a1,a2⟩:ZO)).getD (0:Int)) - (1:Int)))).snapshot)]) (Qh (Hp.of_get hb7) ty122 rfl (XC hc10 0 rfl) rfl rfl) rfl ?_)
 refine Zu S #[vU 0,vI 0] ty122 rfl rfl ?_
 intro b12 w13 E' S
 replace E:=E.trans E'
 refine Q5 S 0 rfl ty122 rfl rfl [vU ((rd a0.txs (IntKind.i64.wrap (((mget a0.names (⟨a1,a2⟩:ZO)).getD (0:Int)) - (1:Int)))).state),vI ((rd a0.txs (IntKind.i64.wrap (((mget a0.names (⟨a1,a2⟩:ZO)).getD (0:Int)) - (1:Int)))).snapshot)] rfl rfl rfl #[vU ((rd a0.txs (IntKind.i64.wrap (((mget a0.names (⟨a1,a2⟩:ZO)).getD (0:Int)) - (1:Int)))).state),vI ((rd a0.txs (IntKind.i64.wrap (((mget a0.names (⟨a1,a2⟩:ZO)).getD (0:Int)) - (1:Int)))).snapshot)] rfl rfl ?_
 intro w15 E' S
 replace E:=E.trans E'
 refine QB (tn (QE ?_))
 refine Ql (S:=fun w'=>∃ Mx,M.le Mx ∧ St w' Mx F [Blk b12 (.cells #[vU ((rd a0.txs (IntKind.i64.wrap (((mget a0.names (⟨a1,a2⟩:ZO)).getD (0:Int)) - (1:Int)))).state),vI ((rd a0.txs (IntKind.i64.wrap (((mget a0.names (⟨a1,a2⟩:ZO)).getD (0:Int)) - (1:Int)))).snapshot)] 122 (0,0)),B95 bo0 a0 A0_8 A0_9 A0_10 c0_10 A0_11,QV QH (Value.int .i64) A0_8 a0.names,QV (Value.int .i64) (Value.int .i64) A0_9 a0.many,Row QP 122 (.slice A0_10 a0.txs.length c0_10) a0.txs,QV encS (fun v:Value=>v) A0_11 vs0_11]) (L:=8) mixed ?_
 intro w16 hw17 E'
 replace S:=S.heap hw17
 replace E:=E.trans E'
 have D1:∃ Mx,Hp.le M Mx ∧ St _ Mx F [_,_,_,_,_,_]:=⟨_,Hp.le_refl _,S.pick [0,1,2,3,4,5] (by decide)⟩
 refine Wt 0 rfl rfl rfl (vI ((mget a0.names (⟨a1,a2⟩:ZO)).getD (0:Int))) rfl (fun w' h'=>QC rfl) D1 (Wt 1 rfl rfl rfl (pt b12 0) rfl (fun w' h'=>QF (o:=0) (off:=0) Tryd.underlying122 rfl ty5 rfl rfl) D1 (Wt 2 rfl rfl rfl (vU ((rd a0.txs (IntKind.i64.wrap (((mget a0.names (⟨a1,a2⟩:ZO)).getD (0:Int)) - (1:Int)))).state)) rfl (fun w' h'=>QR (Qj h' 0 rfl) ty5 rfl rfl) D1 (Wt 3 rfl rfl rfl (pt b12 1) rfl (fun w' h'=>QF (o:=0) (off:=1) Tryd.underlying122 rfl ty3 rfl rfl) D1 (Wt 4 rfl rfl rfl (vI ((rd a0.txs (IntKind.i64.wrap (((mget a0.names (⟨a1,a2⟩:ZO)).getD (0:Int)) - (1:Int)))).snapshot)) rfl (fun w' h'=>QR (Qj h' 0 rfl) ty3 rfl rfl) D1 (Wt 5 rfl rfl rfl (vI ((mget a0.names (⟨a1,a2⟩:ZO)).getD (0:Int))) rfl (fun w' h'=>QD rfl) D1 (Wt 6 rfl rfl rfl (vU ((rd a0.txs (IntKind.i64.wrap (((mget a0.names (⟨a1,a2⟩:ZO)).getD (0:Int)) - (1:Int)))).state)) rfl (fun w' h'=>QD rfl) D1 (Wt 7 rfl rfl rfl (vI ((rd a0.txs (IntKind.i64.wrap (((mget a0.names (⟨a1,a2⟩:ZO)).getD (0:Int)) - (1:Int)))).snapshot)) rfl (fun w' h'=>QD rfl) D1 ?_)))))))
 refine Wz ?_
 refine tn ?_
 refine QY ?_
 obtain rfl:=Option.some.inj H
 exact ⟨_,_,_,fun w1 e1=>QO (vs:=[vI ((mget a0.names (⟨a1,a2⟩:ZO)).getD (0:Int)),vU ((rd a0.txs (IntKind.i64.wrap (((mget a0.names (⟨a1,a2⟩:ZO)).getD (0:Int)) - (1:Int)))).state),vI ((rd a0.txs (IntKind.i64.wrap (((mget a0.names (⟨a1,a2⟩:ZO)).getD (0:Int)) - (1:Int)))).snapshot)]) (FA.cons (rfl) (FA.cons (rfl) (FA.cons (rfl) (FA.nil)))),HM,E,S.pick [1,2,3,4,5] (by decide),⟨rfl,rfl⟩⟩
def Z1 (k:Nat) (a0:QM) (a1:QW):Option (Bool) :=
 (Option.bind (α:=Bool) (if (a1.Kind == (2:Int)) = true then some ((a1.Kind == (2:Int))) else some ((a1.Kind == (4:Int)))) (fun x6=>(if x6 = true then (Option.bind (Xw k a0.c a1.Key) (fun t16=>some t16)) else (if (a1.Kind == (3:Int)) = true then (Option.bind (Xw k a0.c a1.Key) (fun t35=>(Option.bind (α:=Bool) (if t35 = true then (Option.bind (Xq k a0.c a1.Value) (fun t44=>some (t44))) else some (false)) (fun x42=>some x42)))) else (if (a1.Kind == (5:Int)) = true then (Option.bind (Xb k a0.c a1.Key) (fun t66=>(Option.bind (α:=Bool) (if t66 = true then (Option.bind (Xb k a0.c a1.End) (fun t75=>some (t75))) else some (false)) (fun x73=>some ((x73 && (decide (a1.Limit ≥ (0:Int)))) && (decide (a1.Limit ≤ (128:Int)))))))) else some true)))))
theorem Z1.mono {k:Nat} {a0:QM} {a1:QW}:OLe (Z1 k a0 a1) (Z1 (k + 1) a0 a1):=by
 unfold Z1
 have m1:=@Xb.mono
 have m2:=@Xw.mono
 have m3:=@Xq.mono
 exact mo
theorem Z1.con (k:Nat) (M:Hp) (A0_8:Option Addr) (c0_8:Nat) (A0_9:Option Addr) (c0_9:Nat) (A0_10:Option Addr) (c0_10:Nat) (A0_11:Option Addr) (c0_11:Nat) (vs0_11:List (Str × Value)) (a0:QM) (a1:QW) (bo0:Nat) (r:Bool) (hm0_11:YP Qm M a0.rows vs0_11) (h:Z1 k a0 a1 = some r):Con Tryd.prog 67 #[pt bo0 0,.agg #[vU a1.Kind,vI a1.Tx,vS a1.Key,vS a1.End,vS a1.Value,vI a1.Limit,vU a1.Engine]] M [B95 bo0 a0 A0_8 A0_9 A0_10 c0_10 A0_11,QV QH (Value.int .i64) A0_8 a0.names,QV (Value.int .i64) (Value.int .i64) A0_9 a0.many,Row QP 122 (.slice A0_10 a0.txs.length c0_10) a0.txs,QV encS (fun v:Value=>v) A0_11 vs0_11] (fun v M' Γ'=>v = .bool r ∧ Γ' = [B95 bo0 a0 A0_8 A0_9 A0_10 c0_10 A0_11,QV QH (Value.int .i64) A0_8 a0.names,QV (Value.int .i64) (Value.int .i64) A0_9 a0.many,Row QP 122 (.slice A0_10 a0.txs.length c0_10) a0.txs,QV encS (fun v:Value=>v) A0_11 vs0_11]):=by
 refine Qa Tryd.func67 rfl Tryd.ntmps67 Tryd.results67 rfl ?_
 intro w F rn S hrn
 have E:=Ext.refl w
 have HM:=Hp.le_refl M
 have H:=h
 unfold Z1 at H
 refine QE (QA ?_)
 refine YO S #[vU a1.Kind,vI a1.Tx,vS a1.Key,vS a1.End,vS a1.Value,vI a1.Limit,vU a1.Engine] rfl rfl rfl ?_
 intro b1 w2 E' S
 replace E:=E.trans E'
 refine W_v (.bool false) (QD rfl) rfl (QB (tn (QE (QE (QA (W_v (pt b1 0) (QF (o:=0) (off:=0) Tryd.underlying47 rfl ty5 rfl rfl) rfl (W_v (vU a1.Kind) (QR (S.blk 0 rfl) ty5 rfl rfl) rfl (QB (tn ?_)))))))))
 refine Z0 ?_
 refine QE (QE (QA (W_v (.bool (a1.Kind == (2:Int))) (QT rfl rfl rfl rfl) rfl (W_v (.bool (a1.Kind == (2:Int))) (QD rfl) rfl (QB (tn ?_))))))
 obtain ⟨o7,o7h,o7H⟩:=QX H
 refine Xg (fun ρ w'=>∃ (x6:Bool),(x6) = o7 ∧ Qs ρ [(0,pt bo0 0),(3,pt b1 0),(6,vU a1.Kind),(7,.bool x6)] ∧ Ext w w' ∧ St w' M F [B47 b1 a1,B95 bo0 a0 A0_8 A0_9 A0_10 c0_10 A0_11,QV QH (Value.int .i64) A0_8 a0.names,QV (Value.int .i64) (Value.int .i64) A0_9 a0.many,Row QP 122 (.slice A0_10 a0.txs.length c0_10) a0.txs,QV encS (fun v:Value=>v) A0_11 vs0_11]) ?_ ?_
 ·clear o7H
  have H:=o7h
  rcases Zh H with ⟨hb8,H⟩ | ⟨hb8,H⟩
  ·refine QL (congrArg Value.bool hb8) ?_
   refine Qg (tn ?_)
   exact ⟨(a1.Kind == (2:Int)),Option.some.inj H,⟨rfl,rfl,rfl,rfl,trivial⟩,E,S.pick [0,1,2,3,4,5] (by decide)⟩
  refine QJ (congrArg Value.bool hb8) (QA (W_v (.bool (a1.Kind == (4:Int))) (QT rfl rfl rfl rfl) rfl (W_v (.bool (a1.Kind == (4:Int))) (QD rfl) rfl (QB (tn ?_)))))
  exact ⟨(a1.Kind == (4:Int)),Option.some.inj H,⟨rfl,rfl,rfl,rfl,trivial⟩,E,S.pick [0,1,2,3,4,5] (by decide)⟩
 as_aux_lemma =>
 rintro ρ w9 ⟨x6,rfl,hρ,E,S⟩
 rw [QN hρ]
 have H:=o7H
 refine tn ?_
 rcases Zh H with ⟨hb10,H⟩ | ⟨hb10,H⟩
 ·refine QL (congrArg Value.bool hb10) ?_
  refine QE ?_
  refine Ql (S:=fun w'=>∃ Mx,M.le Mx ∧ St w' Mx F [B47 b1 a1,B95 bo0 a0 A0_8 A0_9 A0_10 c0_10 A0_11,QV QH (Value.int .i64) A0_8 a0.names,QV (Value.int .i64) (Value.int .i64) A0_9 a0.many,Row QP 122 (.slice A0_10 a0.txs.length c0_10) a0.txs,QV encS (fun v:Value=>v) A0_11 vs0_11]) (L:=8) mixed ?_
  intro w14 hw15 E'
  replace S:=S.heap hw15
  replace E:=E.trans E'
  have D1:∃ Mx,Hp.le M Mx ∧ St _ Mx F [_,_,_,_,_,_]:=⟨_,Hp.le_refl _,S.pick [0,1,2,3,4,5] (by decide)⟩
  refine Wt 0 rfl rfl rfl (pt bo0 0) rfl (fun w' h'=>QC rfl) D1 (Wt 1 rfl rfl rfl (pt bo0 0) rfl (fun w' h'=>Qy rfl) D1 (Wt 2 rfl rfl rfl (pt bo0 0) rfl (fun w' h'=>QF (o:=0) (off:=0) Tryd.underlying95 rfl ty23 rfl rfl) D1 (Wt 3 rfl rfl rfl (.agg #[vI a0.c.Tasks,vI a0.c.Active,vI a0.c.Keys,vI a0.c.Depth,vI a0.c.TS,vI a0.c.KeyLen,vI a0.c.ValLen,vI a0.c.Fan]) rfl (fun w' h'=>Qh (Qj h' 1 rfl) ty23 rfl (QI rfl) rfl rfl) D1 (Wt 4 rfl rfl rfl (pt b1 2) rfl (fun w' h'=>QF (o:=0) (off:=2) Tryd.underlying47 rfl ty9 rfl rfl) D1 (Wt 5 rfl rfl rfl (vS a1.Key) rfl (fun w' h'=>QR (Qj h' 0 rfl) ty9 rfl rfl) D1 ?_)))))
  refine Wo 6 rfl ?_
  obtain ⟨t16,ht17,H⟩:=QX H
  refine YJ fn77 (Xw.con k M a0.c a1.Key t16  ht17) S rfl rfl (by rintro _ _ _ ⟨_,rfl⟩; exact Qd) ?_
  rintro _ w18 _ Γ' E' S ⟨rfl,rfl⟩
  replace E:=E.trans E'
  refine QB (YC ⟨.inr ⟨M,Hp.le_refl M,(S.pick [0,1,2,3,4,5] (by decide))⟩,?_⟩)
  refine Wt 7 rfl rfl rfl (.bool t16) rfl (fun w' h'=>QD rfl) (⟨M,Hp.le_refl M,(S.pick [0,1,2,3,4,5] (by decide))⟩) ?_
  refine Wz ?_
  refine tn ?_
  refine QY ?_
  refine br (tr (?_))
  obtain rfl:=Option.some.inj H
  exact ⟨_,_,_,fun w1 e1=>QO (vs:=[.bool t16]) (FA.cons (rfl) (FA.nil)),HM,E,S.pick [1,2,3,4,5] (by decide),⟨rfl,rfl⟩⟩
 refine QJ (congrArg Value.bool hb10) (QE (QA (W_v (.bool (a1.Kind == (3:Int))) (QT rfl rfl rfl rfl) rfl (W_v (.bool (a1.Kind == (3:Int))) (QD rfl) rfl (QB (tn ?_))))))
 rcases Zh H with ⟨hb19,H⟩ | ⟨hb19,H⟩
 ·refine QL (congrArg Value.bool hb19) ?_
  refine QE ?_
  refine Ql (S:=fun w'=>∃ Mx,M.le Mx ∧ St w' Mx F [B47 b1 a1,B95 bo0 a0 A0_8 A0_9 A0_10 c0_10 A0_11,QV QH (Value.int .i64) A0_8 a0.names,QV (Value.int .i64) (Value.int .i64) A0_9 a0.many,Row QP 122 (.slice A0_10 a0.txs.length c0_10) a0.txs,QV encS (fun v:Value=>v) A0_11 vs0_11]) (L:=17) mixed ?_
  intro w33 hw34 E'
  replace S:=S.heap hw34
  replace E:=E.trans E'
  have D3:∃ Mx,Hp.le M Mx ∧ St _ Mx F [_,_,_,_,_,_]:=⟨_,Hp.le_refl _,S.pick [0,1,2,3,4,5] (by decide)⟩
  refine Wt 0 rfl rfl rfl (pt bo0 0) rfl (fun w' h'=>QC rfl) D3 (Wt 1 rfl rfl rfl (pt bo0 0) rfl (fun w' h'=>Qy rfl) D3 (Wt 2 rfl rfl rfl (pt bo0 0) rfl (fun w' h'=>QF (o:=0) (off:=0) Tryd.underlying95 rfl ty23 rfl rfl) D3 (Wt 3 rfl rfl rfl (.agg #[vI a0.c.Tasks,vI a0.c.Active,vI a0.c.Keys,vI a0.c.Depth,vI a0.c.TS,vI a0.c.KeyLen,vI a0.c.ValLen,vI a0.c.Fan]) rfl (fun w' h'=>Qh (Qj h' 1 rfl) ty23 rfl (QI rfl) rfl rfl) D3 (Wt 4 rfl rfl rfl (pt b1 2) rfl (fun w' h'=>QF (o:=0) (off:=2) Tryd.underlying47 rfl ty9 rfl rfl) D3 (Wt 5 rfl rfl rfl (vS a1.Key) rfl (fun w' h'=>QR (Qj h' 0 rfl) ty9 rfl rfl) D3 ?_)))))
  refine Wo 6 rfl ?_
  obtain ⟨t35,ht36,H⟩:=QX H
  refine YJ fn77 (Xw.con k M a0.c a1.Key t35  ht36) S rfl rfl (by rintro _ _ _ ⟨_,rfl⟩; exact Qd) ?_
  rintro _ w37 _ Γ' E' S ⟨rfl,rfl⟩
  replace E:=E.trans E'
  refine QB (YC ⟨.inr ⟨M,Hp.le_refl M,(S.pick [0,1,2,3,4,5] (by decide))⟩,?_⟩)
  refine Wt 7 rfl rfl rfl (.bool t35) rfl (fun w' h'=>QC rfl) (⟨M,Hp.le_refl M,(S.pick [0,1,2,3,4,5] (by decide))⟩) ?_
  obtain ⟨o43,o43h,o43H⟩:=QX H
  refine XK (fun ρ w'=>∃ (x42:Bool),(x42) = o43 ∧ Qs ρ [(34,.bool x42)] ∧ Ext w w' ∧ St w' M F [B47 b1 a1,B95 bo0 a0 A0_8 A0_9 A0_10 c0_10 A0_11,QV QH (Value.int .i64) A0_8 a0.names,QV (Value.int .i64) (Value.int .i64) A0_9 a0.many,Row QP 122 (.slice A0_10 a0.txs.length c0_10) a0.txs,QV encS (fun v:Value=>v) A0_11 vs0_11]) 1 (Ls 17 [0,1,2,3,4,5,6,7,8,9,10,11,12,13,14,15]) ?_ ?_
  rotate_left
  ·intro hrest
   have H:=o43h
   rcases Zh H with ⟨hb41,H⟩ | ⟨hb41,H⟩
   ·skip
    have D5:∃ Mx,Hp.le M Mx ∧ St _ Mx F [_,_,_,_,_,_]:=⟨_,Hp.le_refl _,S.pick [0,1,2,3,4,5] (by decide)⟩
    refine WtY 8 rfl rfl rfl (pt bo0 0) rfl (congrArg some hb41) (fun w' h'=>QC rfl) D5 (WtY 9 rfl rfl rfl (pt bo0 0) rfl (congrArg some hb41) (fun w' h'=>Qy rfl) D5 (WtY 10 rfl rfl rfl (pt bo0 0) rfl (congrArg some hb41) (fun w' h'=>QF (o:=0) (off:=0) Tryd.underlying95 rfl ty23 rfl rfl) D5 (WtY 11 rfl rfl rfl (.agg #[vI a0.c.Tasks,vI a0.c.Active,vI a0.c.Keys,vI a0.c.Depth,vI a0.c.TS,vI a0.c.KeyLen,vI a0.c.ValLen,vI a0.c.Fan]) rfl (congrArg some hb41) (fun w' h'=>Qh (Qj h' 1 rfl) ty23 rfl (QI rfl) rfl rfl) D5 (WtY 12 rfl rfl rfl (pt b1 4) rfl (congrArg some hb41) (fun w' h'=>QF (o:=0) (off:=4) Tryd.underlying47 rfl ty9 rfl rfl) D5 (WtY 13 rfl rfl rfl (vS a1.Value) rfl (congrArg some hb41) (fun w' h'=>QR (Qj h' 0 rfl) ty9 rfl rfl) D5 ?_)))))
    refine Wo 14 rfl ?_
    refine QU (congrArg some hb41) ?_
    obtain ⟨t44,ht45,H⟩:=QX H
    refine YJ fn78 (Xq.con k M a0.c a1.Value t44  ht45) S rfl rfl (by rintro _ _ _ ⟨_,rfl⟩; exact Qd) ?_
    rintro _ w46 _ Γ' E' S ⟨rfl,rfl⟩
    replace E:=E.trans E'
    refine QB (YC ⟨.inr ⟨M,Hp.le_refl M,(S.pick [0,1,2,3,4,5] (by decide))⟩,?_⟩)
    refine Wt 15 rfl rfl rfl (.bool t44) rfl (fun w' h'=>QZ (k:=true) (congrArg Value.bool hb41) rfl) (⟨M,Hp.le_refl M,(S.pick [0,1,2,3,4,5] (by decide))⟩) ?_
    exact hrest _ _ ⟨t44,Option.some.inj H,⟨rfl,trivial⟩,E,S.pick [0,1,2,3,4,5] (by decide)⟩
   ·skip
    have D7:∃ Mx,Hp.le M Mx ∧ St _ Mx F [_,_,_,_,_,_]:=⟨_,Hp.le_refl _,S.pick [0,1,2,3,4,5] (by decide)⟩
    refine WtN 8 rfl rfl rfl rfl (skT hb41) D7 (WtN 9 rfl rfl rfl rfl (skT hb41) D7 (WtN 10 rfl rfl rfl rfl (skT hb41) D7 (WtN 11 rfl rfl rfl rfl (skT hb41) D7 (WtN 12 rfl rfl rfl rfl (skT hb41) D7 (WtN 13 rfl rfl rfl rfl (skT hb41) D7 (WtN 14 rfl rfl rfl rfl (skT hb41) D7 (Wt 15 rfl rfl rfl (.bool false) rfl (fun w' h'=>QZ (k:=false) (congrArg Value.bool hb41) rfl) D7 ?_)))))))
    exact hrest _ _ ⟨false,Option.some.inj H,⟨rfl,trivial⟩,E,S.pick [0,1,2,3,4,5] (by decide)⟩
  rintro ρ w47 ⟨x42,rfl,hρ,E,S⟩
  rw [QN hρ]
  have H:=o43H
  refine Wt 16 rfl rfl rfl (.bool x42) rfl (fun w' h'=>QD rfl) (⟨M,Hp.le_refl M,(S.pick [0,1,2,3,4,5] (by decide))⟩) ?_
  refine Wz ?_
  refine tn ?_
  refine QY ?_
  refine br (tr (?_))
  obtain rfl:=Option.some.inj H
  exact ⟨_,_,_,fun w1 e1=>QO (vs:=[.bool x42]) (FA.cons (rfl) (FA.nil)),HM,E,S.pick [1,2,3,4,5] (by decide),⟨rfl,rfl⟩⟩
 refine QJ (congrArg Value.bool hb19) ?_
 as_aux_lemma =>
 refine QE (QA (W_v (.bool (a1.Kind == (5:Int))) (QT rfl rfl rfl rfl) rfl (W_v (.bool (a1.Kind == (5:Int))) (QD rfl) rfl (QB (tn ?_)))))
 rcases Zh H with ⟨hb48,H⟩ | ⟨hb48,H⟩
 ·refine QL (congrArg Value.bool hb48) ?_
  refine QE ?_
  refine Ql (S:=fun w'=>∃ Mx,M.le Mx ∧ St w' Mx F [B47 b1 a1,B95 bo0 a0 A0_8 A0_9 A0_10 c0_10 A0_11,QV QH (Value.int .i64) A0_8 a0.names,QV (Value.int .i64) (Value.int .i64) A0_9 a0.many,Row QP 122 (.slice A0_10 a0.txs.length c0_10) a0.txs,QV encS (fun v:Value=>v) A0_11 vs0_11]) (L:=27) mixed ?_
  intro w64 hw65 E'
  replace S:=S.heap hw65
  replace E:=E.trans E'
  have D9:∃ Mx,Hp.le M Mx ∧ St _ Mx F [_,_,_,_,_,_]:=⟨_,Hp.le_refl _,S.pick [0,1,2,3,4,5] (by decide)⟩
  refine Wt 0 rfl rfl rfl (pt bo0 0) rfl (fun w' h'=>QC rfl) D9 (Wt 1 rfl rfl rfl (pt bo0 0) rfl (fun w' h'=>Qy rfl) D9 (Wt 2 rfl rfl rfl (pt bo0 0) rfl (fun w' h'=>QF (o:=0) (off:=0) Tryd.underlying95 rfl ty23 rfl rfl) D9 (Wt 3 rfl rfl rfl (.agg #[vI a0.c.Tasks,vI a0.c.Active,vI a0.c.Keys,vI a0.c.Depth,vI a0.c.TS,vI a0.c.KeyLen,vI a0.c.ValLen,vI a0.c.Fan]) rfl (fun w' h'=>Qh (Qj h' 1 rfl) ty23 rfl (QI rfl) rfl rfl) D9 (Wt 4 rfl rfl rfl (pt b1 2) rfl (fun w' h'=>QF (o:=0) (off:=2) Tryd.underlying47 rfl ty9 rfl rfl) D9 (Wt 5 rfl rfl rfl (vS a1.Key) rfl (fun w' h'=>QR (Qj h' 0 rfl) ty9 rfl rfl) D9 ?_)))))
  refine Wo 6 rfl ?_
  obtain ⟨t66,ht67,H⟩:=QX H
  refine YJ fn79 (Xb.con k M a0.c a1.Key t66  ht67) S rfl rfl (by rintro _ _ _ ⟨_,rfl⟩; exact Qd) ?_
  rintro _ w68 _ Γ' E' S ⟨rfl,rfl⟩
  replace E:=E.trans E'
  refine QB (YC ⟨.inr ⟨M,Hp.le_refl M,(S.pick [0,1,2,3,4,5] (by decide))⟩,?_⟩)
  refine Wt 7 rfl rfl rfl (.bool t66) rfl (fun w' h'=>QC rfl) (⟨M,Hp.le_refl M,(S.pick [0,1,2,3,4,5] (by decide))⟩) ?_
  obtain ⟨o74,o74h,o74H⟩:=QX H
  refine XK (fun ρ w'=>∃ (x73:Bool),(x73) = o74 ∧ Qs ρ [(3,pt b1 0),(52,.bool x73)] ∧ Ext w w' ∧ St w' M F [B47 b1 a1,B95 bo0 a0 A0_8 A0_9 A0_10 c0_10 A0_11,QV QH (Value.int .i64) A0_8 a0.names,QV (Value.int .i64) (Value.int .i64) A0_9 a0.many,Row QP 122 (.slice A0_10 a0.txs.length c0_10) a0.txs,QV encS (fun v:Value=>v) A0_11 vs0_11]) 11 (Ls 27 [0,1,2,3,4,5,6,7,8,9,10,11,12,13,14,15]) ?_ ?_
  rotate_left
  ·intro hrest
   have H:=o74h
   rcases Zh H with ⟨hb72,H⟩ | ⟨hb72,H⟩
   ·skip
    have D11:∃ Mx,Hp.le M Mx ∧ St _ Mx F [_,_,_,_,_,_]:=⟨_,Hp.le_refl _,S.pick [0,1,2,3,4,5] (by decide)⟩
    refine WtY 8 rfl rfl rfl (pt bo0 0) rfl (congrArg some hb72) (fun w' h'=>QC rfl) D11 (WtY 9 rfl rfl rfl (pt bo0 0) rfl (congrArg some hb72) (fun w' h'=>Qy rfl) D11 (WtY 10 rfl rfl rfl (pt bo0 0) rfl (congrArg some hb72) (fun w' h'=>QF (o:=0) (off:=0) Tryd.underlying95 rfl ty23 rfl rfl) D11 (WtY 11 rfl rfl rfl (.agg #[vI a0.c.Tasks,vI a0.c.Active,vI a0.c.Keys,vI a0.c.Depth,vI a0.c.TS,vI a0.c.KeyLen,vI a0.c.ValLen,vI a0.c.Fan]) rfl (congrArg some hb72) (fun w' h'=>Qh (Qj h' 1 rfl) ty23 rfl (QI rfl) rfl rfl) D11 (WtY 12 rfl rfl rfl (pt b1 3) rfl (congrArg some hb72) (fun w' h'=>QF (o:=0) (off:=3) Tryd.underlying47 rfl ty9 rfl rfl) D11 (WtY 13 rfl rfl rfl (vS a1.End) rfl (congrArg some hb72) (fun w' h'=>QR (Qj h' 0 rfl) ty9 rfl rfl) D11 ?_)))))
    refine Wo 14 rfl ?_
    refine QU (congrArg some hb72) ?_
    obtain ⟨t75,ht76,H⟩:=QX H
    refine YJ fn79 (Xb.con k M a0.c a1.End t75  ht76) S rfl rfl (by rintro _ _ _ ⟨_,rfl⟩; exact Qd) ?_
    rintro _ w77 _ Γ' E' S ⟨rfl,rfl⟩
    replace E:=E.trans E'
    refine QB (YC ⟨.inr ⟨M,Hp.le_refl M,(S.pick [0,1,2,3,4,5] (by decide))⟩,?_⟩)
    refine Wt 15 rfl rfl rfl (.bool t75) rfl (fun w' h'=>QZ (k:=true) (congrArg Value.bool hb72) rfl) (⟨M,Hp.le_refl M,(S.pick [0,1,2,3,4,5] (by decide))⟩) ?_
    exact hrest _ _ ⟨t75,Option.some.inj H,⟨rfl,rfl,trivial⟩,E,S.pick [0,1,2,3,4,5] (by decide)⟩
   ·skip
    have D13:∃ Mx,Hp.le M Mx ∧ St _ Mx F [_,_,_,_,_,_]:=⟨_,Hp.le_refl _,S.pick [0,1,2,3,4,5] (by decide)⟩
    refine WtN 8 rfl rfl rfl rfl (skT hb72) D13 (WtN 9 rfl rfl rfl rfl (skT hb72) D13 (WtN 10 rfl rfl rfl rfl (skT hb72) D13 (WtN 11 rfl rfl rfl rfl (skT hb72) D13 (WtN 12 rfl rfl rfl rfl (skT hb72) D13 (WtN 13 rfl rfl rfl rfl (skT hb72) D13 (WtN 14 rfl rfl rfl rfl (skT hb72) D13 (Wt 15 rfl rfl rfl (.bool false) rfl (fun w' h'=>QZ (k:=false) (congrArg Value.bool hb72) rfl) D13 ?_)))))))
    exact hrest _ _ ⟨false,Option.some.inj H,⟨rfl,rfl,trivial⟩,E,S.pick [0,1,2,3,4,5] (by decide)⟩
  rintro ρ w78 ⟨x73,rfl,hρ,E,S⟩
  rw [QN hρ]
  have H:=o74H
  refine Wt 16 rfl rfl rfl (.bool x73) rfl (fun w' h'=>QC rfl) (⟨M,Hp.le_refl M,(S.pick [0,1,2,3,4,5] (by decide))⟩) ?_
  refine XK (fun ρ w'=>Qs ρ [(3,pt b1 0),(57,.bool (x73 && (decide (a1.Limit ≥ (0:Int)))))] ∧ w78 = w') 6 (Ls 27 [0,1,2,3,4,5,6,7,8,9,10,11,12,13,14,15,16,17,18,19,20]) ?_ ?_
  rotate_left
  ·intro hrest
   rcases Qw x73 with hb79 | hb79
   ·skip
    have D15:∃ Mx,Hp.le M Mx ∧ St _ Mx F [_,_,_,_,_,_]:=⟨_,Hp.le_refl _,S.pick [0,1,2,3,4,5] (by decide)⟩
    refine WtN 17 rfl rfl rfl rfl (skT hb79) D15 (WtN 18 rfl rfl rfl rfl (skT hb79) D15 (WtN 19 rfl rfl rfl rfl (skT hb79) D15 (Wt 20 rfl rfl rfl (.bool false) rfl (fun w' h'=>QZ (k:=false) (congrArg Value.bool hb79) rfl) D15 ?_)))
    exact hrest _ _ ⟨⟨rfl,(by first | rfl | (rw [hb79]; rfl) | (simp only [hb79]; rfl)),trivial⟩,rfl⟩
   ·skip
    have D16:∃ Mx,Hp.le M Mx ∧ St _ Mx F [_,_,_,_,_,_]:=⟨_,Hp.le_refl _,S.pick [0,1,2,3,4,5] (by decide)⟩
    refine WtY 17 rfl rfl rfl (pt b1 5) rfl (congrArg some hb79) (fun w' h'=>QF (o:=0) (off:=5) Tryd.underlying47 rfl ty3 rfl rfl) D16 (WtY 18 rfl rfl rfl (vI a1.Limit) rfl (congrArg some hb79) (fun w' h'=>QR (Qj h' 0 rfl) ty3 rfl rfl) D16 (WtY 19 rfl rfl rfl (.bool (decide (a1.Limit ≥ (0:Int)))) rfl (congrArg some hb79) (fun w' h'=>QT rfl rfl rfl rfl) D16 (Wt 20 rfl rfl rfl (.bool (decide (a1.Limit ≥ (0:Int)))) rfl (fun w' h'=>QZ (k:=true) (congrArg Value.bool hb79) rfl) D16 ?_)))
    exact hrest _ _ ⟨⟨rfl,(by first | rfl | (rw [hb79]; rfl) | (simp only [hb79]; rfl)),trivial⟩,rfl⟩
  rintro ρ _ ⟨hρ,rfl⟩
  rw [QN hρ]
  refine Wt 21 rfl rfl rfl (.bool (x73 && (decide (a1.Limit ≥ (0:Int))))) rfl (fun w' h'=>QC rfl) (⟨M,Hp.le_refl M,(S.pick [0,1,2,3,4,5] (by decide))⟩) ?_
  refine XK (fun ρ w'=>Qs ρ [(62,.bool ((x73 && (decide (a1.Limit ≥ (0:Int)))) && (decide (a1.Limit ≤ (128:Int)))))] ∧ w78 = w') 1 (Ls 27 [0,1,2,3,4,5,6,7,8,9,10,11,12,13,14,15,16,17,18,19,20,21,22,23,24,25]) ?_ ?_
  rotate_left
  ·intro hrest
   rcases Qw (x73 && (decide (a1.Limit ≥ (0:Int)))) with hb80 | hb80
   ·skip
    have D18:∃ Mx,Hp.le M Mx ∧ St _ Mx F [_,_,_,_,_,_]:=⟨_,Hp.le_refl _,S.pick [0,1,2,3,4,5] (by decide)⟩
    refine WtN 22 rfl rfl rfl rfl (skT hb80) D18 (WtN 23 rfl rfl rfl rfl (skT hb80) D18 (WtN 24 rfl rfl rfl rfl (skT hb80) D18 (Wt 25 rfl rfl rfl (.bool false) rfl (fun w' h'=>QZ (k:=false) (congrArg Value.bool hb80) rfl) D18 ?_)))
    exact hrest _ _ ⟨⟨(by first | rfl | (rw [hb80]; rfl) | (simp only [hb80]; rfl)),trivial⟩,rfl⟩
   ·skip
    have D19:∃ Mx,Hp.le M Mx ∧ St _ Mx F [_,_,_,_,_,_]:=⟨_,Hp.le_refl _,S.pick [0,1,2,3,4,5] (by decide)⟩
    refine WtY 22 rfl rfl rfl (pt b1 5) rfl (congrArg some hb80) (fun w' h'=>QF (o:=0) (off:=5) Tryd.underlying47 rfl ty3 rfl rfl) D19 (WtY 23 rfl rfl rfl (vI a1.Limit) rfl (congrArg some hb80) (fun w' h'=>QR (Qj h' 0 rfl) ty3 rfl rfl) D19 (WtY 24 rfl rfl rfl (.bool (decide (a1.Limit ≤ (128:Int)))) rfl (congrArg some hb80) (fun w' h'=>QT rfl rfl rfl rfl) D19 (Wt 25 rfl rfl rfl (.bool (decide (a1.Limit ≤ (128:Int)))) rfl (fun w' h'=>QZ (k:=true) (congrArg Value.bool hb80) rfl) D19 ?_)))
    exact hrest _ _ ⟨⟨(by first | rfl | (rw [hb80]; rfl) | (simp only [hb80]; rfl)),trivial⟩,rfl⟩
  rintro ρ _ ⟨hρ,rfl⟩
  rw [QN hρ]
  refine Wt 26 rfl rfl rfl (.bool ((x73 && (decide (a1.Limit ≥ (0:Int)))) && (decide (a1.Limit ≤ (128:Int))))) rfl (fun w' h'=>QD rfl) (⟨M,Hp.le_refl M,(S.pick [0,1,2,3,4,5] (by decide))⟩) ?_
  refine Wz ?_
  refine tn ?_
  refine QY ?_
  refine br (tr (?_))
  obtain rfl:=Option.some.inj H
  exact ⟨_,_,_,fun w1 e1=>QO (vs:=[.bool ((x73 && (decide (a1.Limit ≥ (0:Int)))) && (decide (a1.Limit ≤ (128:Int))))]) (FA.cons (rfl) (FA.nil)),HM,E,S.pick [1,2,3,4,5] (by decide),⟨rfl,rfl⟩⟩
 refine QJ (congrArg Value.bool hb48) (Qg (bn (tn ?_)))
 as_aux_lemma =>
 refine QE (QA (W_v (.bool true) (QD rfl) rfl (QB (tn ?_))))
 refine QY ?_
 obtain rfl:=Option.some.inj H
 exact ⟨_,_,_,fun w1 e1=>QO (vs:=[.bool true]) (FA.cons (rfl) (FA.nil)),HM,E,S.pick [1,2,3,4,5] (by decide),⟨rfl,rfl⟩⟩
def Z7 (k:Nat) (a0:QM) (a1:Int) (a2:QW):Option (Int) :=
 (if ((((decide (a1 < (0:Int))) || (decide (a1 ≥ a0.c.Tasks))) || (decide (a2.Kind < (1:Int)))) || (decide (a2.Kind > (9:Int)))) = true then some (1:Int) else (if (((a2.Kind == (9:Int)) && (a2.Engine != (1:Int))) && (a2.Engine != (2:Int))) = true then some (1:Int) else (Option.bind (Xj k a2.Kind) (fun t11=>(if t11 = true then (Option.bind (YB k a0 a1 a2.Tx) (fun t15=>(if (t15.2.1 == (1:Int)) = true then (Option.bind (Z1 k a0 a2) (fun t21=>(if (!t21) = true then some (32:Int) else some (0:Int)))) else (if (t15.2.1 == (0:Int)) = true then some (30:Int) else some (31:Int))))) else (Option.bind (Z1 k a0 a2) (fun t28=>(if (!t28) = true then some (32:Int) else some (0:Int)))))))))
theorem Z7.mono {k:Nat} {a0:QM} {a1:Int} {a2:QW}:OLe (Z7 k a0 a1 a2) (Z7 (k + 1) a0 a1 a2):=by
 unfold Z7
 have m1:=@YB.mono
 have m2:=@Z1.mono
 have m3:=@Xj.mono
 exact mo
theorem Z7.con (k:Nat) (M:Hp) (A0_8:Option Addr) (c0_8:Nat) (A0_9:Option Addr) (c0_9:Nat) (A0_10:Option Addr) (c0_10:Nat) (A0_11:Option Addr) (c0_11:Nat) (vs0_11:List (Str × Value)) (a0:QM) (a1:Int) (a2:QW) (bo0:Nat) (r:Int) (hm0_11:YP Qm M a0.rows vs0_11) (h:Z7 k a0 a1 a2 = some r):Con Tryd.prog 48 #[pt bo0 0,vI a1,.agg #[vU a2.Kind,vI a2.Tx,vS a2.Key,vS a2.End,vS a2.Value,vI a2.Limit,vU a2.Engine]] M [B95 bo0 a0 A0_8 A0_9 A0_10 c0_10 A0_11,QV QH (Value.int .i64) A0_8 a0.names,QV (Value.int .i64) (Value.int .i64) A0_9 a0.many,Row QP 122 (.slice A0_10 a0.txs.length c0_10) a0.txs,QV encS (fun v:Value=>v) A0_11 vs0_11] (fun v M' Γ'=>v = vI r ∧ Γ' = [B95 bo0 a0 A0_8 A0_9 A0_10 c0_10 A0_11,QV QH (Value.int .i64) A0_8 a0.names,QV (Value.int .i64) (Value.int .i64) A0_9 a0.many,Row QP 122 (.slice A0_10 a0.txs.length c0_10) a0.txs,QV encS (fun v:Value=>v) A0_11 vs0_11]):=by
 refine Qa Tryd.func48 rfl Tryd.ntmps48 Tryd.results48 rfl ?_
 intro w F rn S hrn
 have E:=Ext.refl w
 have HM:=Hp.le_refl M
 have H:=h
 unfold Z7 at H
 refine QE (QA ?_)
 refine YO S #[vU a2.Kind,vI a2.Tx,vS a2.Key,vS a2.End,vS a2.Value,vI a2.Limit,vU a2.Engine] rfl rfl rfl ?_
 intro b1 w2 E' S
 replace E:=E.trans E'
 refine W_v (vI 0) (QD rfl) rfl (QB (tn (QE ?_)))
 refine Z0 ?_
 refine QE (QA (W_v (pt bo0 0) (QC rfl) rfl (W_v (.bool false) (Xd (r:=false) rfl rfl (Xu Tryd.underlying39)) rfl (W_v (.bool false) (QD rfl) rfl (QB (tn (QJ rfl (QE (QA (W_v (vI a1) (QC rfl) rfl (W_v (.bool (decide (a1 < (0:Int)))) (QT rfl rfl rfl rfl) rfl (W_v (.bool (decide (a1 < (0:Int)))) (QC rfl) rfl ?_))))))))))))
 refine ZI 8 (fun ρ w'=>Qs ρ [(0,pt bo0 0),(1,vI a1),(5,pt b1 0),(24,.bool ((decide (a1 < (0:Int))) || (decide (a1 ≥ a0.c.Tasks))))] ∧ w2 = w') ?_ ?_
 ·rcases Qw (decide (a1 < (0:Int))) with hb4 | hb4
  ·skip
   refine QU (congrArg some hb4) (W_v (vI a1) (QC rfl) rfl (QU (congrArg some hb4) (W_v (pt bo0 0) (QC rfl) rfl (QU (congrArg some hb4) (W_v (pt bo0 0) (Qy rfl) rfl (QU (congrArg some hb4) (W_v (pt bo0 0) (QF (o:=0) (off:=0) Tryd.underlying95 rfl ty23 rfl rfl) rfl (QU (congrArg some hb4) (W_v (pt bo0 0) (QF (o:=0) (off:=0) Tryd.underlying23 rfl ty3 rfl rfl) rfl (QU (congrArg some hb4) (W_v (vI a0.c.Tasks) (QR (S.blk 1 rfl) ty3 rfl rfl) rfl (QU (congrArg some hb4) (W_v (.bool (decide (a1 ≥ a0.c.Tasks))) (QT rfl rfl rfl rfl) rfl (W_v (.bool (decide (a1 ≥ a0.c.Tasks))) (QZ (k:=false) (congrArg Value.bool hb4) rfl) rfl (QB ?_)))))))))))))))
   exact ⟨⟨rfl,rfl,rfl,(by first | rfl | (rw [hb4]; rfl) | (simp only [hb4]; rfl)),trivial⟩,rfl⟩
  ·skip
   refine Qk (skF hb4) rfl (Qk (skF hb4) rfl (Qk (skF hb4) rfl (Qk (skF hb4) rfl (Qk (skF hb4) rfl (Qk (skF hb4) rfl (Qk (skF hb4) rfl (W_v (.bool true) (QZ (k:=true) (congrArg Value.bool hb4) rfl) rfl (QB ?_))))))))
   exact ⟨⟨rfl,rfl,rfl,(by first | rfl | (rw [hb4]; rfl) | (simp only [hb4]; rfl)),trivial⟩,rfl⟩
 as_aux_lemma =>
 rintro ρ _ ⟨hρ,rfl⟩
 rw [QN hρ]
 refine W_v (.bool ((decide (a1 < (0:Int))) || (decide (a1 ≥ a0.c.Tasks)))) (QC rfl) rfl ?_
 refine ZI 4 (fun ρ w'=>Qs ρ [(0,pt bo0 0),(1,vI a1),(5,pt b1 0),(29,.bool (((decide (a1 < (0:Int))) || (decide (a1 ≥ a0.c.Tasks))) || (decide (a2.Kind < (1:Int)))))] ∧ w2 = w') ?_ ?_
 ·rcases Qw ((decide (a1 < (0:Int))) || (decide (a1 ≥ a0.c.Tasks))) with hb5 | hb5
  ·skip
   refine QU (congrArg some hb5) (W_v (pt b1 0) (QF (o:=0) (off:=0) Tryd.underlying47 rfl ty5 rfl rfl) rfl (QU (congrArg some hb5) (W_v (vU a2.Kind) (QR (S.blk 0 rfl) ty5 rfl rfl) rfl (QU (congrArg some hb5) (W_v (.bool (decide (a2.Kind < (1:Int)))) (QT rfl rfl rfl rfl) rfl (W_v (.bool (decide (a2.Kind < (1:Int)))) (QZ (k:=false) (congrArg Value.bool hb5) rfl) rfl (QB ?_)))))))
   exact ⟨⟨rfl,rfl,rfl,(by first | rfl | (rw [hb5]; rfl) | (simp only [hb5]; rfl)),trivial⟩,rfl⟩
  ·skip
   refine Qk (skF hb5) rfl (Qk (skF hb5) rfl (Qk (skF hb5) rfl (W_v (.bool true) (QZ (k:=true) (congrArg Value.bool hb5) rfl) rfl (QB ?_))))
   exact ⟨⟨rfl,rfl,rfl,(by first | rfl | (rw [hb5]; rfl) | (simp only [hb5]; rfl)),trivial⟩,rfl⟩
 as_aux_lemma =>
 rintro ρ _ ⟨hρ,rfl⟩
 rw [QN hρ]
 refine W_v (.bool (((decide (a1 < (0:Int))) || (decide (a1 ≥ a0.c.Tasks))) || (decide (a2.Kind < (1:Int))))) (QC rfl) rfl ?_
 refine ZI 4 (fun ρ w'=>Qs ρ [(0,pt bo0 0),(1,vI a1),(5,pt b1 0),(34,.bool ((((decide (a1 < (0:Int))) || (decide (a1 ≥ a0.c.Tasks))) || (decide (a2.Kind < (1:Int)))) || (decide (a2.Kind > (9:Int)))))] ∧ w2 = w') ?_ ?_
 ·rcases Qw (((decide (a1 < (0:Int))) || (decide (a1 ≥ a0.c.Tasks))) || (decide (a2.Kind < (1:Int)))) with hb6 | hb6
  ·skip
   refine QU (congrArg some hb6) (W_v (pt b1 0) (QF (o:=0) (off:=0) Tryd.underlying47 rfl ty5 rfl rfl) rfl (QU (congrArg some hb6) (W_v (vU a2.Kind) (QR (S.blk 0 rfl) ty5 rfl rfl) rfl (QU (congrArg some hb6) (W_v (.bool (decide (a2.Kind > (9:Int)))) (QT rfl rfl rfl rfl) rfl (W_v (.bool (decide (a2.Kind > (9:Int)))) (QZ (k:=false) (congrArg Value.bool hb6) rfl) rfl (QB ?_)))))))
   exact ⟨⟨rfl,rfl,rfl,(by first | rfl | (rw [hb6]; rfl) | (simp only [hb6]; rfl)),trivial⟩,rfl⟩
  ·skip
   refine Qk (skF hb6) rfl (Qk (skF hb6) rfl (Qk (skF hb6) rfl (W_v (.bool true) (QZ (k:=true) (congrArg Value.bool hb6) rfl) rfl (QB ?_))))
   exact ⟨⟨rfl,rfl,rfl,(by first | rfl | (rw [hb6]; rfl) | (simp only [hb6]; rfl)),trivial⟩,rfl⟩
 as_aux_lemma =>
 rintro ρ _ ⟨hρ,rfl⟩
 rw [QN hρ]
 refine W_v (.bool ((((decide (a1 < (0:Int))) || (decide (a1 ≥ a0.c.Tasks))) || (decide (a2.Kind < (1:Int)))) || (decide (a2.Kind > (9:Int))))) (QD rfl) rfl (QB (tn ?_))
 rcases Zh H with ⟨hb7,H⟩ | ⟨hb7,H⟩
 ·refine QL (congrArg Value.bool hb7) ?_
  refine QE (QA (W_v (vI 1) (QD rfl) rfl (QB (tn ?_))))
  refine QY ?_
  refine br (tr (?_))
  obtain rfl:=Option.some.inj H
  exact ⟨_,_,_,fun w1 e1=>QO (vs:=[vI 1]) (FA.cons (rfl) (FA.nil)),HM,E,S.pick [1,2,3,4,5] (by decide),⟨rfl,rfl⟩⟩
 refine QJ (congrArg Value.bool hb7) (QE (QA (W_v (pt b1 0) (QF (o:=0) (off:=0) Tryd.underlying47 rfl ty5 rfl rfl) rfl (W_v (vU a2.Kind) (QR (S.blk 0 rfl) ty5 rfl rfl) rfl (W_v (.bool (a2.Kind == (9:Int))) (QT rfl rfl rfl rfl) rfl (W_v (.bool (a2.Kind == (9:Int))) (QC rfl) rfl ?_))))))
 refine ZI 4 (fun ρ w'=>Qs ρ [(0,pt bo0 0),(1,vI a1),(5,pt b1 0),(43,.bool ((a2.Kind == (9:Int)) && (a2.Engine != (1:Int))))] ∧ w2 = w') ?_ ?_
 ·rcases Qw (a2.Kind == (9:Int)) with hb8 | hb8
  ·skip
   refine Qk (skT hb8) rfl (Qk (skT hb8) rfl (Qk (skT hb8) rfl (W_v (.bool false) (QZ (k:=false) (congrArg Value.bool hb8) rfl) rfl (QB ?_))))
   exact ⟨⟨rfl,rfl,rfl,(by first | rfl | (rw [hb8]; rfl) | (simp only [hb8]; rfl)),trivial⟩,rfl⟩
  ·skip
   refine QU (congrArg some hb8) (W_v (pt b1 6) (QF (o:=0) (off:=6) Tryd.underlying47 rfl ty5 rfl rfl) rfl (QU (congrArg some hb8) (W_v (vU a2.Engine) (QR (S.blk 0 rfl) ty5 rfl rfl) rfl (QU (congrArg some hb8) (W_v (.bool (a2.Engine != (1:Int))) (QT rfl rfl rfl rfl) rfl (W_v (.bool (a2.Engine != (1:Int))) (QZ (k:=true) (congrArg Value.bool hb8) rfl) rfl (QB ?_)))))))
   exact ⟨⟨rfl,rfl,rfl,(by first | rfl | (rw [hb8]; rfl) | (simp only [hb8]; rfl)),trivial⟩,rfl⟩
 as_aux_lemma =>
 rintro ρ _ ⟨hρ,rfl⟩
 rw [QN hρ]
 refine W_v (.bool ((a2.Kind == (9:Int)) && (a2.Engine != (1:Int)))) (QC rfl) rfl ?_
 refine ZI 4 (fun ρ w'=>Qs ρ [(0,pt bo0 0),(1,vI a1),(5,pt b1 0),(48,.bool (((a2.Kind == (9:Int)) && (a2.Engine != (1:Int))) && (a2.Engine != (2:Int))))] ∧ w2 = w') ?_ ?_
 ·rcases Qw ((a2.Kind == (9:Int)) && (a2.Engine != (1:Int))) with hb9 | hb9
  ·skip
   refine Qk (skT hb9) rfl (Qk (skT hb9) rfl (Qk (skT hb9) rfl (W_v (.bool false) (QZ (k:=false) (congrArg Value.bool hb9) rfl) rfl (QB ?_))))
   exact ⟨⟨rfl,rfl,rfl,(by first | rfl | (rw [hb9]; rfl) | (simp only [hb9]; rfl)),trivial⟩,rfl⟩
  ·skip
   refine QU (congrArg some hb9) (W_v (pt b1 6) (QF (o:=0) (off:=6) Tryd.underlying47 rfl ty5 rfl rfl) rfl (QU (congrArg some hb9) (W_v (vU a2.Engine) (QR (S.blk 0 rfl) ty5 rfl rfl) rfl (QU (congrArg some hb9) (W_v (.bool (a2.Engine != (2:Int))) (QT rfl rfl rfl rfl) rfl (W_v (.bool (a2.Engine != (2:Int))) (QZ (k:=true) (congrArg Value.bool hb9) rfl) rfl (QB ?_)))))))
   exact ⟨⟨rfl,rfl,rfl,(by first | rfl | (rw [hb9]; rfl) | (simp only [hb9]; rfl)),trivial⟩,rfl⟩
 as_aux_lemma =>
 rintro ρ _ ⟨hρ,rfl⟩
 rw [QN hρ]
 refine W_v (.bool (((a2.Kind == (9:Int)) && (a2.Engine != (1:Int))) && (a2.Engine != (2:Int)))) (QD rfl) rfl (QB (tn ?_))
 rcases Zh H with ⟨hb10,H⟩ | ⟨hb10,H⟩
 ·refine QL (congrArg Value.bool hb10) ?_
  refine QE (QA (W_v (vI 1) (QD rfl) rfl (QB (tn ?_))))
  refine QY ?_
  refine br (tr (?_))
  obtain rfl:=Option.some.inj H
  exact ⟨_,_,_,fun w1 e1=>QO (vs:=[vI 1]) (FA.cons (rfl) (FA.nil)),HM,E,S.pick [1,2,3,4,5] (by decide),⟨rfl,rfl⟩⟩
 refine QJ (congrArg Value.bool hb10) (Qg (bn (tn (QE (QE (QA (W_v (pt b1 0) (QF (o:=0) (off:=0) Tryd.underlying47 rfl ty5 rfl rfl) rfl (W_v (vU a2.Kind) (QR (S.blk 0 rfl) ty5 rfl rfl) rfl ?_))))))))
 obtain ⟨t11,ht12,H⟩:=QX H
 refine YJ fn66 (Xj.con k M a2.Kind t11  ht12) S rfl rfl (by rintro _ _ _ ⟨_,rfl⟩; exact Qd) ?_
 rintro _ w13 _ Γ' E' S ⟨rfl,rfl⟩
 replace E:=E.trans E'
 refine QB (tn ?_)
 rcases Zh H with ⟨hb14,H⟩ | ⟨hb14,H⟩
 ·refine QL (congrArg Value.bool hb14) ?_
  refine QE (QA (W_v (pt bo0 0) (QC rfl) rfl (W_v (vI a1) (QC rfl) rfl (W_v (pt b1 1) (QF (o:=0) (off:=1) Tryd.underlying47 rfl ty3 rfl rfl) rfl (W_v (vI a2.Tx) (QR (S.blk 0 rfl) ty3 rfl rfl) rfl ?_)))))
  obtain ⟨t15,ht16,H⟩:=QX H
  replace S:St w13 M F [_,_,_,_,_,_]:=S.pick [1,2,3,4,5,0] (by decide)
  refine Z2 fn49 (YB.con k M A0_8 c0_8 A0_9 c0_9 A0_10 c0_10 A0_11 c0_11 vs0_11 a0 a1 a2.Tx bo0 t15 hm0_11 ht16) (Γ1:=[_,_,_,_,_]) (Γ2:=[_]) S rfl rfl (by rintro _ _ _ ⟨rfl,rfl⟩; exact (QS ZQ (QS ZS (QS ZS (QS (Yb (fun _ _ _ _ h=>h)) (QS ZS Qd)))))) ?_
  rintro _ w17 _ Γ' E' S ⟨rfl,rfl⟩
  replace E:=E.trans E'
  replace S:St w17 M F [_,_,_,_,_,_]:=S
  refine W_v (.tuple #[vI t15.1,vU t15.2.1,vI t15.2.2]) (QC rfl) rfl (W_v (vI t15.1) (QQ rfl rfl) rfl (W_v (vU t15.2.1) (QQ rfl rfl) rfl (W_v (vI t15.2.2) (QQ rfl rfl) rfl (W_v (vI t15.1) (QD rfl) rfl (W_v (vU t15.2.1) (QD rfl) rfl (W_v (vI t15.2.2) (QD rfl) rfl (QB (tn (QE (QA (W_v (vU t15.2.1) (QC rfl) rfl (QB (tn ?_)))))))))))))
  refine Z0 ?_
  refine QE (QA (W_v (.bool (t15.2.1 == (1:Int))) (QT rfl rfl rfl rfl) rfl (W_v (.bool (t15.2.1 == (1:Int))) (QD rfl) rfl (QB (tn ?_)))))
  rcases Zh H with ⟨hb20,H⟩ | ⟨hb20,H⟩
  ·refine QL (congrArg Value.bool hb20) ?_
   refine Qg (bn (tn (QE (QE (QA (W_v (pt bo0 0) (QC rfl) rfl (W_v (.agg #[vU a2.Kind,vI a2.Tx,vS a2.Key,vS a2.End,vS a2.Value,vI a2.Limit,vU a2.Engine]) (Qh (S.blk 5 rfl) ty47 rfl (QI rfl) rfl rfl) rfl ?_)))))))
   obtain ⟨t21,ht22,H⟩:=QX H
   refine Z2 fn67 (Z1.con k M A0_8 c0_8 A0_9 c0_9 A0_10 c0_10 A0_11 c0_11 vs0_11 a0 a2 bo0 t21 hm0_11 ht22) (Γ1:=[_,_,_,_,_]) (Γ2:=[_]) S rfl rfl (by rintro _ _ _ ⟨rfl,rfl⟩; exact (QS ZQ (QS ZS (QS ZS (QS (Yb (fun _ _ _ _ h=>h)) (QS ZS Qd)))))) ?_
   rintro _ w23 _ Γ' E' S ⟨rfl,rfl⟩
   replace E:=E.trans E'
   replace S:St w23 M F [_,_,_,_,_,_]:=S
   refine W_v (.bool (!t21)) (Yx (b:=t21) rfl) rfl (QB (tn ?_))
   rcases Zh H with ⟨hb26,H⟩ | ⟨hb26,H⟩
   ·refine QL (congrArg Value.bool hb26) ?_
    refine QE (QA (W_v (vI 32) (QD rfl) rfl (QB (tn ?_))))
    refine QY ?_
    refine tr (?_)
    obtain rfl:=Option.some.inj H
    exact ⟨_,_,_,fun w1 e1=>QO (vs:=[vI 32]) (FA.cons (rfl) (FA.nil)),HM,E,S.pick [0,1,2,3,4] (by decide),⟨rfl,rfl⟩⟩
   refine QJ (congrArg Value.bool hb26) (Qg (tn (QE (QA (W_v (vI 0) (QD rfl) rfl (QB (tn ?_)))))))
   refine QY ?_
   obtain rfl:=Option.some.inj H
   exact ⟨_,_,_,fun w1 e1=>QO (vs:=[vI 0]) (FA.cons (rfl) (FA.nil)),HM,E,S.pick [0,1,2,3,4] (by decide),⟨rfl,rfl⟩⟩
  refine QJ (congrArg Value.bool hb20) ?_
  as_aux_lemma =>
  refine QE (QA (W_v (.bool (t15.2.1 == (0:Int))) (QT rfl rfl rfl rfl) rfl (W_v (.bool (t15.2.1 == (0:Int))) (QD rfl) rfl (QB (tn ?_)))))
  rcases Zh H with ⟨hb27,H⟩ | ⟨hb27,H⟩
  ·refine QL (congrArg Value.bool hb27) ?_
   refine QE (QA (W_v (vI 30) (QD rfl) rfl (QB (tn ?_))))
   refine QY ?_
   refine br (tr (?_))
   obtain rfl:=Option.some.inj H
   exact ⟨_,_,_,fun w1 e1=>QO (vs:=[vI 30]) (FA.cons (rfl) (FA.nil)),HM,E,S.pick [0,1,2,3,4] (by decide),⟨rfl,rfl⟩⟩
  refine QJ (congrArg Value.bool hb27) (QE (QA (W_v (vI 31) (QD rfl) rfl (QB (tn ?_)))))
  refine QY ?_
  refine br (tr (?_))
  obtain rfl:=Option.some.inj H
  exact ⟨_,_,_,fun w1 e1=>QO (vs:=[vI 31]) (FA.cons (rfl) (FA.nil)),HM,E,S.pick [0,1,2,3,4] (by decide),⟨rfl,rfl⟩⟩
 refine QJ (congrArg Value.bool hb14) (Qg (tn ?_))
 as_aux_lemma =>
 refine QE (QE (QA (W_v (pt bo0 0) (QC rfl) rfl (W_v (.agg #[vU a2.Kind,vI a2.Tx,vS a2.Key,vS a2.End,vS a2.Value,vI a2.Limit,vU a2.Engine]) (Qh (S.blk 0 rfl) ty47 rfl (QI rfl) rfl rfl) rfl ?_))))
 obtain ⟨t28,ht29,H⟩:=QX H
 replace S:St w13 M F [_,_,_,_,_,_]:=S.pick [1,2,3,4,5,0] (by decide)
 refine Z2 fn67 (Z1.con k M A0_8 c0_8 A0_9 c0_9 A0_10 c0_10 A0_11 c0_11 vs0_11 a0 a2 bo0 t28 hm0_11 ht29) (Γ1:=[_,_,_,_,_]) (Γ2:=[_]) S rfl rfl (by rintro _ _ _ ⟨rfl,rfl⟩; exact (QS ZQ (QS ZS (QS ZS (QS (Yb (fun _ _ _ _ h=>h)) (QS ZS Qd)))))) ?_
 rintro _ w30 _ Γ' E' S ⟨rfl,rfl⟩
 replace E:=E.trans E'
 replace S:St w30 M F [_,_,_,_,_,_]:=S
 refine W_v (.bool (!t28)) (Yx (b:=t28) rfl) rfl (QB (tn ?_))
 rcases Zh H with ⟨hb33,H⟩ | ⟨hb33,H⟩
 ·refine QL (congrArg Value.bool hb33) ?_
  refine QE (QA (W_v (vI 32) (QD rfl) rfl (QB (tn ?_))))
  refine QY ?_
  refine tr (?_)
  obtain rfl:=Option.some.inj H
  exact ⟨_,_,_,fun w1 e1=>QO (vs:=[vI 32]) (FA.cons (rfl) (FA.nil)),HM,E,S.pick [0,1,2,3,4] (by decide),⟨rfl,rfl⟩⟩
 refine QJ (congrArg Value.bool hb33) (Qg (tn (QE (QA (W_v (vI 0) (QD rfl) rfl (QB (tn ?_)))))))
 refine QY ?_
 obtain rfl:=Option.some.inj H
 exact ⟨_,_,_,fun w1 e1=>QO (vs:=[vI 0]) (FA.cons (rfl) (FA.nil)),HM,E,S.pick [0,1,2,3,4] (by decide),⟨rfl,rfl⟩⟩
def Zx (a0:QM):Nat → Int → Int → Option ((Int))
 | 0,_,_=>none
 | k + 1,x93,x94=>(if (decide (x94 < (a0.txs.length:Int))) = true then (Option.bind (α:=Int) (if 0 ≤ x94 ∧ x94 < (a0.txs.length:Int) then (Option.bind (α:=Int) (if ((rd a0.txs x94).state == (1:Int)) = true then some ((IntKind.i64.wrap (x93 + (1:Int)))) else some (x93)) (fun x181=>some (x181))) else none) (fun x163=>Zx a0 k x163 (IntKind.i64.wrap (x94 + (1:Int))))) else some (x93))
theorem Zx.mono {a0:QM}:∀ {kl:Nat} {x0 x1},OLe (Zx a0 kl x0 x1) (Zx a0 (kl + 1) x0 x1):=by
 intro kl
 induction kl with
 | zero=>intros; exact OLe.none
 | succ kl ih =>
  intros
  rw [Zx.eq_2,Zx.eq_2]
  exact mo
def YH (k:Nat) (a0:QM):Option (Int) :=
 (Option.bind (Zx a0 k (0:Int) (0:Int)) (fun x139=>some x139))
theorem YH.mono {k:Nat} {a0:QM}:OLe (YH k a0) (YH (k + 1) a0):=by
 unfold YH
 have m1:=@Zx.mono
 exact mo
theorem YH.con (k:Nat) (M:Hp) (A0_8:Option Addr) (c0_8:Nat) (A0_9:Option Addr) (c0_9:Nat) (A0_10:Option Addr) (c0_10:Nat) (A0_11:Option Addr) (c0_11:Nat) (vs0_11:List (Str × Value)) (a0:QM) (bo0:Nat) (r:Int) (hm0_11:YP Qm M a0.rows vs0_11) (h:YH k a0 = some r):Con Tryd.prog 120 #[pt bo0 0] M [B95 bo0 a0 A0_8 A0_9 A0_10 c0_10 A0_11,QV QH (Value.int .i64) A0_8 a0.names,QV (Value.int .i64) (Value.int .i64) A0_9 a0.many,Row QP 122 (.slice A0_10 a0.txs.length c0_10) a0.txs,QV encS (fun v:Value=>v) A0_11 vs0_11] (fun v M' Γ'=>v = vI r ∧ Γ' = [B95 bo0 a0 A0_8 A0_9 A0_10 c0_10 A0_11,QV QH (Value.int .i64) A0_8 a0.names,QV (Value.int .i64) (Value.int .i64) A0_9 a0.many,Row QP 122 (.slice A0_10 a0.txs.length c0_10) a0.txs,QV encS (fun v:Value=>v) A0_11 vs0_11]):=by
 refine Qa Tryd.func120 rfl Tryd.ntmps120 Tryd.results120 rfl ?_
 intro w F rn S hrn
 have E:=Ext.refl w
 have HM:=Hp.le_refl M
 have H:=h
 unfold YH at H
 refine QE (QA (W_v (vI 0) (QD rfl) rfl (QB (tn (QE (QA (W_v (vI 0) (QD rfl) rfl (QB (tn (QE (QE (QA (W_v (pt bo0 0) (QC rfl) rfl (W_v (.bool false) (Xd (r:=false) rfl rfl (Xu Tryd.underlying39)) rfl (QB ?_)))))))))))))))
 refine tn (QJ rfl (Qg (tn (QE (QE (QA (W_v (pt bo0 0) (QC rfl) rfl (W_v (pt bo0 0) (Qy rfl) rfl (W_v (pt bo0 10) (QF (o:=0) (off:=10) Tryd.underlying95 rfl ty93 rfl rfl) rfl (W_v (.slice A0_10 a0.txs.length c0_10) (QR (S.blk 0 rfl) ty93 rfl rfl) rfl (W_v (vI (a0.txs.length:Int)) (Qt (n:=a0.txs.length) Tryd.underlying93 rfl) rfl (W_v (vI 0) (QC rfl) rfl (QB (tn ?_))))))))))))))
 obtain ⟨o140,o140h,o140H⟩:=QX H
 refine Ya (fun ρ w'=>∃ (x139:Int),(x139) = o140 ∧ Qs ρ [(3,vI x139)] ∧ Ext w w' ∧ St w' M F [B95 bo0 a0 A0_8 A0_9 A0_10 c0_10 A0_11,QV QH (Value.int .i64) A0_8 a0.names,QV (Value.int .i64) (Value.int .i64) A0_9 a0.many,Row QP 122 (.slice A0_10 a0.txs.length c0_10) a0.txs,QV encS (fun v:Value=>v) A0_11 vs0_11]) ?_ ?_
 ·skip
  refine Y0 (fun n ρ w'=>∃ (x93:Int) (x94:Int),Zx a0 n x93 x94 = some o140 ∧ Qs ρ [(3,vI x93),(12,.slice A0_10 a0.txs.length c0_10),(13,vI (a0.txs.length:Int)),(14,vI x94)] ∧ Ext w w' ∧ St w' M F [B95 bo0 a0 A0_8 A0_9 A0_10 c0_10 A0_11,QV QH (Value.int .i64) A0_8 a0.names,QV (Value.int .i64) (Value.int .i64) A0_9 a0.many,Row QP 122 (.slice A0_10 a0.txs.length c0_10) a0.txs,QV encS (fun v:Value=>v) A0_11 vs0_11]) k ?_ ?_
  ·skip
   exact ⟨(0:Int),(0:Int),o140h,⟨rfl,rfl,rfl,rfl,trivial⟩,E,S.pick [0,1,2,3,4] (by decide)⟩
  ·intro n
   rintro ρ w141 ⟨x93,x94,H,hρ,E,S⟩
   rw [QN hρ]
   cases n with
   | zero=>cases H
   | succ k =>
    rw [Zx.eq_2] at H
    refine QE (QA (W_v (.bool (decide (x94 < (a0.txs.length:Int)))) (QT rfl rfl rfl rfl) rfl (QB (tn (QE ?_)))))
    rcases Zh H with ⟨hb142,H⟩ | ⟨hb142,H⟩
    ·refine QL (congrArg Value.bool hb142) ?_
     refine Qg (tn (QE ?_))
     obtain ⟨o164,o164h,o164H⟩:=QX H
     refine Xg (fun ρ w'=>∃ (x163:Int),(x163) = o164 ∧ Qs ρ [(3,vI x163),(12,.slice A0_10 a0.txs.length c0_10),(13,vI (a0.txs.length:Int)),(14,vI x94)] ∧ Ext w w' ∧ St w' M F [B95 bo0 a0 A0_8 A0_9 A0_10 c0_10 A0_11,QV QH (Value.int .i64) A0_8 a0.names,QV (Value.int .i64) (Value.int .i64) A0_9 a0.many,Row QP 122 (.slice A0_10 a0.txs.length c0_10) a0.txs,QV encS (fun v:Value=>v) A0_11 vs0_11]) ?_ ?_
     ·as_aux_lemma =>
       clear o164H
       have H:=o164h
       refine Z0 ?_
       refine QE (QA ?_)
       obtain ⟨⟨p165,p166⟩,H⟩:=Zt H
       obtain ⟨b167,o168,cs169,_,_,ee174,hb170,vs171,hR172,hc173⟩:=SlW.at' (S.row_read 3 rfl) p165 p166
       obtain rfl:vs171 = _:=hR172
       refine W_v (.pointer (some ⟨b167,o168 + x94.toNat * 2,none⟩)) (Qe Tryd.underlying93 ty122 (slA ee174) rfl p165 p166) rfl (W_v (.agg #[vU ((rd a0.txs x94).state),vI ((rd a0.txs x94).snapshot)]) (Qh (Hp.of_get hb170) ty122 rfl (XC hc173 0 rfl) rfl rfl) rfl ?_)
       refine Zu S #[vU 0,vI 0] ty122 rfl rfl ?_
       intro b175 w176 E' S
       replace E:=E.trans E'
       refine Q5 S 0 rfl ty122 rfl rfl [vU ((rd a0.txs x94).state),vI ((rd a0.txs x94).snapshot)] rfl rfl rfl #[vU ((rd a0.txs x94).state),vI ((rd a0.txs x94).snapshot)] rfl rfl ?_
       intro w178 E' S
       replace E:=E.trans E'
       refine QB (tn (QE (QA (W_v (pt b175 0) (QF (o:=0) (off:=0) Tryd.underlying122 rfl ty5 rfl rfl) rfl (W_v (vU ((rd a0.txs x94).state)) (QR (S.blk 0 rfl) ty5 rfl rfl) rfl (W_v (.bool ((rd a0.txs x94).state == (1:Int))) (QT rfl rfl rfl rfl) rfl (QB (tn ?_))))))))
       obtain ⟨o182,o182h,o182H⟩:=QX H
       refine Xg (fun ρ w'=>∃ (x181:Int),(x181) = o182 ∧ Qs ρ [(3,vI x181),(12,.slice A0_10 a0.txs.length c0_10),(13,vI (a0.txs.length:Int)),(14,vI x94)] ∧ Ext w w' ∧ St w' M F [B95 bo0 a0 A0_8 A0_9 A0_10 c0_10 A0_11,QV QH (Value.int .i64) A0_8 a0.names,QV (Value.int .i64) (Value.int .i64) A0_9 a0.many,Row QP 122 (.slice A0_10 a0.txs.length c0_10) a0.txs,QV encS (fun v:Value=>v) A0_11 vs0_11]) ?_ ?_
       ·clear o182H
        have H:=o182h
        rcases Zh H with ⟨hb183,H⟩ | ⟨hb183,H⟩
        ·refine QL (congrArg Value.bool hb183) ?_
         refine QA (W_v (vI x93) (QC rfl) rfl (W_v (vI (IntKind.i64.wrap (x93 + (1:Int)))) (QT rfl rfl rfl rfl) rfl (W_v (vI (IntKind.i64.wrap (x93 + (1:Int)))) (QD rfl) rfl (QB (tn ?_)))))
         exact ⟨(IntKind.i64.wrap (x93 + (1:Int))),Option.some.inj H,⟨rfl,rfl,rfl,rfl,trivial⟩,E,S.pick [1,2,3,4,5] (by decide)⟩
        refine QJ (congrArg Value.bool hb183) (Qg (tn ?_))
        exact ⟨x93,Option.some.inj H,⟨rfl,rfl,rfl,rfl,trivial⟩,E,S.pick [1,2,3,4,5] (by decide)⟩
       rintro ρ w184 ⟨x181,rfl,hρ,E,S⟩
       rw [QN hρ]
       have H:=o182H
       refine bn (tn ?_)
       exact ⟨x181,Option.some.inj H,⟨rfl,rfl,rfl,rfl,trivial⟩,E,S.pick [0,1,2,3,4] (by decide)⟩
     rintro ρ w185 ⟨x163,rfl,hρ,E,S⟩
     rw [QN hρ]
     have H:=o164H
     refine tn (QA (W_v (vI (IntKind.i64.wrap (x94 + (1:Int)))) (QT rfl rfl rfl rfl) rfl (W_v (vI (IntKind.i64.wrap (x94 + (1:Int)))) (QC rfl) rfl (QB (tn ?_)))))
     exact ⟨k,Nat.lt_succ_self k,⟨x163,(IntKind.i64.wrap (x94 + (1:Int))),H,⟨rfl,rfl,rfl,rfl,trivial⟩,E,S.pick [0,1,2,3,4] (by decide)⟩⟩
    refine QJ (congrArg Value.bool hb142) ?_
    refine Yo ?_
    refine tx (tx (bsm (?_)))
    refine tn ?_
    exact ⟨x93,Option.some.inj H,⟨rfl,trivial⟩,E,S.pick [0,1,2,3,4] (by decide)⟩
 rintro ρ w186 ⟨x139,rfl,hρ,E,S⟩
 rw [QN hρ]
 have H:=o140H
 refine tn ?_
 as_aux_lemma =>
 refine QE (QA (W_v (vI x139) (QC rfl) rfl (W_v (vI x139) (QD rfl) rfl (QB (tn ?_)))))
 refine QY ?_
 obtain rfl:=Option.some.inj H
 exact ⟨_,_,_,fun w1 e1=>QO (vs:=[vI x139]) (FA.cons (rfl) (FA.nil)),HM,E,S.pick [0,1,2,3,4] (by decide),⟨rfl,rfl⟩⟩
def YL (k:Nat) (a0:QM) (a1:Int) (a2:Int) (a3:QW):Option (Qf × QM) :=
 (Option.bind (YH k a0) (fun t14=>(if (decide (t14 ≥ a0.c.Active)) = true then some ((⟨(34:Int),false,([]:Str),([]:List Qu)⟩:Qf),a0) else (if a0.txs.length + ([(⟨(1:Int),(a0.clock)⟩:Zo)]:List Zo).length ≤ 8796093022208 then (Option.bind (α:=List (Int × Int)) (some (mput a0.many a2 (IntKind.i64.wrap (((mget a0.many a2).getD (0:Int)) + (1:Int))))) (fun x49=>(Option.bind (α:=List (ZO × Int)) (some (mput a0.names (⟨a2,((mget x49 a2).getD (0:Int))⟩:ZO) ((a0.txs ++ ([(⟨(1:Int),(a0.clock)⟩:Zo)]:List Zo)).length:Int))) (fun x57=>some (cz8,(⟨⟨a0.c.Tasks,a0.c.Active,a0.c.Keys,a0.c.Depth,a0.c.TS,a0.c.KeyLen,a0.c.ValLen,a0.c.Fan⟩,x57,x49,(a0.txs ++ ([(⟨(1:Int),(a0.clock)⟩:Zo)]:List Zo)),a0.rows,a0.clock,a0.floor⟩:QM)))))) else none))))
theorem YL.mono {k:Nat} {a0:QM} {a1:Int} {a2:Int} {a3:QW}:OLe (YL k a0 a1 a2 a3) (YL (k + 1) a0 a1 a2 a3):=by
 unfold YL
 have m1:=@YH.mono
 exact mo
theorem YL.con (k:Nat) (M:Hp) (A0_8:Option Addr) (c0_8:Nat) (A0_9:Option Addr) (c0_9:Nat) (A0_10:Option Addr) (c0_10:Nat) (A0_11:Option Addr) (c0_11:Nat) (vs0_11:List (Str × Value)) (a0:QM) (a1:Int) (a2:Int) (a3:QW) (bo0:Nat) (r:Qf × QM) (hm0_11:YP Qm M a0.rows vs0_11) (h:YL k a0 a1 a2 a3 = some r):Con Tryd.prog 122 #[pt bo0 0,vI a1,vI a2,.agg #[vU a3.Kind,vI a3.Tx,vS a3.Key,vS a3.End,vS a3.Value,vI a3.Limit,vU a3.Engine]] M [B95 bo0 a0 A0_8 A0_9 A0_10 c0_10 A0_11,QV QH (Value.int .i64) A0_8 a0.names,QV (Value.int .i64) (Value.int .i64) A0_9 a0.many,Row QP 122 (.slice A0_10 a0.txs.length c0_10) a0.txs,QV encS (fun v:Value=>v) A0_11 vs0_11] (fun v M' Γ'=>∃ (Aq1:Option Addr) (cq2:Nat) (Aq4:Option Addr) (cq5:Nat) (Aq7:Option Addr) (cq8:Nat) (Aq10:Option Addr) (cq11:Nat) (Aq13:Option Addr) (cq14:Nat) (vsq16:List (Str × Value)),v = .agg #[vI r.1.Err,.bool r.1.Found,vS r.1.Value,.slice Aq1 r.1.Pairs.length cq2] ∧ YP Qm M' r.2.rows vsq16 ∧ Γ' = [Row Qr 72 (.slice Aq1 r.1.Pairs.length cq2) r.1.Pairs,B95 bo0 r.2 Aq4 Aq7 Aq10 cq11 Aq13,QV QH (Value.int .i64) Aq4 r.2.names,QV (Value.int .i64) (Value.int .i64) Aq7 r.2.many,Row QP 122 (.slice Aq10 r.2.txs.length cq11) r.2.txs,QV encS (fun v:Value=>v) Aq13 vsq16]):=by
 refine Qa Tryd.func122 rfl Tryd.ntmps122 Tryd.results122 rfl ?_
 intro w F rn S hrn
 have E:=Ext.refl w
 have HM:=Hp.le_refl M
 have H:=h
 unfold YL at H
 refine QE (QA ?_)
 refine YO S #[vU a3.Kind,vI a3.Tx,vS a3.Key,vS a3.End,vS a3.Value,vI a3.Limit,vU a3.Engine] rfl rfl rfl ?_
 intro b1 w2 E' S
 replace E:=E.trans E'
 refine Zu S cz13 ty34 rfl rfl ?_
 intro b4 w5 E' S
 replace E:=E.trans E'
 refine QB (tn (QE (QE ?_)))
 refine Ql (S:=fun w'=>∃ Mx,M.le Mx ∧ St w' Mx F [Blk b4 (.cells cz13 34 (0,0)),B47 b1 a3,B95 bo0 a0 A0_8 A0_9 A0_10 c0_10 A0_11,QV QH (Value.int .i64) A0_8 a0.names,QV (Value.int .i64) (Value.int .i64) A0_9 a0.many,Row QP 122 (.slice A0_10 a0.txs.length c0_10) a0.txs,QV encS (fun v:Value=>v) A0_11 vs0_11]) (L:=8) mixed ?_
 intro w12 hw13 E'
 replace S:=S.heap hw13
 replace E:=E.trans E'
 have D1:∃ Mx,Hp.le M Mx ∧ St _ Mx F [_,_,_,_,_,_,_]:=⟨_,Hp.le_refl _,S.pick [0,1,2,3,4,5,6] (by decide)⟩
 refine Wt 0 rfl rfl rfl (pt bo0 0) rfl (fun w' h'=>QC rfl) D1 (Wt 2 rfl rfl rfl (pt bo0 0) rfl (fun w' h'=>QC rfl) D1 (Wt 3 rfl rfl rfl (pt bo0 0) rfl (fun w' h'=>Qy rfl) D1 (Wt 4 rfl rfl rfl (pt bo0 0) rfl (fun w' h'=>QF (o:=0) (off:=0) Tryd.underlying95 rfl ty23 rfl rfl) D1 (Wt 5 rfl rfl rfl (pt bo0 1) rfl (fun w' h'=>QF (o:=0) (off:=1) Tryd.underlying23 rfl ty3 rfl rfl) D1 (Wt 6 rfl rfl rfl (vI a0.c.Active) rfl (fun w' h'=>QR (Qj h' 2 rfl) ty3 rfl rfl) D1 ?_)))))
 refine Wo 1 rfl ?_
 obtain ⟨t14,ht15,H⟩:=QX H
 replace S:St w12 M F [_,_,_,_,_,_,_]:=S.pick [2,3,4,5,6,0,1] (by decide)
 refine Z2 fn120 (YH.con k M A0_8 c0_8 A0_9 c0_9 A0_10 c0_10 A0_11 c0_11 vs0_11 a0 bo0 t14 hm0_11 ht15) (Γ1:=[_,_,_,_,_]) (Γ2:=[_,_]) S rfl rfl (by rintro _ _ _ ⟨rfl,rfl⟩; exact (QS ZQ (QS ZS (QS ZS (QS (Yb (fun _ _ _ _ h=>h)) (QS ZS Qd)))))) ?_
 rintro _ w16 _ Γ' E' S ⟨rfl,rfl⟩
 replace E:=E.trans E'
 replace S:St w16 M F [_,_,_,_,_,_,_]:=S
 refine QB (YC ⟨.inr ⟨M,Hp.le_refl M,(S.pick [5,6,0,1,2,3,4] (by decide))⟩,?_⟩)
 refine Wt 7 rfl rfl rfl (.bool (decide (t14 ≥ a0.c.Active))) rfl (fun w' h'=>QT rfl rfl rfl rfl) (⟨M,Hp.le_refl M,(S.pick [5,6,0,1,2,3,4] (by decide))⟩) ?_
 refine Wz ?_
 refine tn ?_
 rcases Zh H with ⟨hb19,H⟩ | ⟨hb19,H⟩
 ·refine QL (congrArg Value.bool hb19) ?_
  refine QE (QA (W_v (.agg cz10) (ZN (pl:=[(0,1),(1,1),(2,1),(3,1)]) cz10 Tryd.underlying34 ty34 (by as_aux_lemma=>kernel_rfl) rfl (by as_aux_lemma=>kernel_rfl)) rfl ?_))
  refine Q5 S 5 rfl ty34 rfl rfl [vI 34,.bool false,vS ([]:Str),.slice none 0 0] rfl rfl rfl cz10 rfl rfl ?_
  intro w20 E' S
  replace E:=E.trans E'
  refine QB (tn ?_)
  refine QY ?_
  refine tr (?_)
  obtain rfl:=Option.some.inj H
  replace S:=S.row_nil Qr 72
  exact ⟨_,_,_,fun w1 e1=>QO (vs:=[.agg #[vI 34,.bool false,vS ([]:Str),.slice none ([]:List Qu).length 0]]) (FA.cons (⟨_,rfl,Qv ty34 ((S.of_eq e1).blk 6 rfl) (QI rfl) rfl (by decide)⟩) (FA.nil)),HM,E,S.pick [0,1,2,3,4,5] (by decide),⟨none,0,A0_8,c0_8,A0_9,c0_9,A0_10,c0_10,A0_11,c0_11,vs0_11,rfl,hm0_11,rfl⟩⟩
 refine QJ (congrArg Value.bool hb19) (Qg (tn ?_))
 as_aux_lemma =>
 refine QE ?_
 refine Ql (S:=fun w'=>∃ Mx,M.le Mx ∧ St w' Mx F [B95 bo0 a0 A0_8 A0_9 A0_10 c0_10 A0_11,QV QH (Value.int .i64) A0_8 a0.names,QV (Value.int .i64) (Value.int .i64) A0_9 a0.many,QV encS (fun v:Value=>v) A0_11 vs0_11,Blk b4 (.cells cz13 34 (0,0)),B47 b1 a3]) (L:=14) mixed ?_
 intro w34 hw35 E'
 replace S:=S.heap hw35
 replace E:=E.trans E'
 have D3:∃ Mx,Hp.le M Mx ∧ St _ Mx F [_,_,_,_,_,_]:=⟨_,Hp.le_refl _,S.pick [0,1,2,4,5,6] (by decide)⟩
 refine Wt 0 rfl rfl rfl (pt bo0 0) rfl (fun w' h'=>QC rfl) D3 (Wt 1 rfl rfl rfl (pt bo0 0) rfl (fun w' h'=>QC rfl) D3 (Wt 2 rfl rfl rfl (pt bo0 0) rfl (fun w' h'=>Qy rfl) D3 (Wt 3 rfl rfl rfl (pt bo0 10) rfl (fun w' h'=>QF (o:=0) (off:=10) Tryd.underlying95 rfl ty93 rfl rfl) D3 (Wt 4 rfl rfl rfl (.slice A0_10 a0.txs.length c0_10) rfl (fun w' h'=>QR (Qj h' 0 rfl) ty93 rfl rfl) D3 (Wt 5 rfl rfl rfl (pt bo0 0) rfl (fun w' h'=>QC rfl) D3 (Wt 6 rfl rfl rfl (pt bo0 0) rfl (fun w' h'=>Qy rfl) D3 (Wt 7 rfl rfl rfl (pt bo0 12) rfl (fun w' h'=>QF (o:=0) (off:=12) Tryd.underlying95 rfl ty3 rfl rfl) D3 (Wt 8 rfl rfl rfl (vI a0.clock) rfl (fun w' h'=>QR (Qj h' 0 rfl) ty3 rfl rfl) D3 (Wt 9 rfl rfl rfl (.agg #[vU 1,vI (a0.clock)]) rfl (fun w' h'=>ZN (pl:=[(0,1),(1,1)]) #[vU 1,vI (a0.clock)] Tryd.underlying122 ty122 (by as_aux_lemma=>kernel_rfl) rfl (by as_aux_lemma=>kernel_rfl)) D3 ?_)))))))))
 refine Wo 10 rfl ?_
 refine Y6 S #[vU 1,vI (a0.clock)] Tryd.underlying93 ty122 rfl rfl #[vU 0,vI 0] (by as_aux_lemma=>kernel_rfl) (by as_aux_lemma=>kernel_rfl) rfl ?_
 intro b36 w37 E' S
 replace E:=E.trans E'
 replace S:=S.blk_row (r:=QP) (l:=([(⟨(1:Int),(a0.clock)⟩:Zo)]:List Zo)) 0 rfl 1 (Nat.le_refl 1) rfl (Cells.cons (vs:=[vU 1,vI (a0.clock)]) (rfl) Cells.nil)
 refine QB (YC ⟨.inr ⟨M,Hp.le_refl M,(S.pick [1,2,3,5,6,7] (by decide))⟩,?_⟩)
 refine Wo 11 rfl ?_
 obtain ⟨p39,H⟩:=Zt H
 obtain ⟨src40,hs41,hC42⟩:=Yj (P:=Tryd.prog) (ρ:=QP) (l:=([(⟨(1:Int),(a0.clock)⟩:Zo)]:List Zo)) (S.row_read 0 rfl) (by decide)
 refine XN S 4 rfl rfl rfl Tryd.underlying93 (.inl Tryd.underlying93) ty122 rfl (by decide) (by decide) hs41 hC42 rfl (by omega) rfl ?_
 intro v43 w44 E' S
 replace E:=E.trans E'
 obtain ⟨A45,c46,rfl,_⟩:=(S.row_read 4 rfl).form
 refine QB (YC ⟨.inr ⟨M,Hp.le_refl M,(S.pick [1,2,3,5,6,7] (by decide))⟩,?_⟩)
 have D4:∃ Mx,Hp.le M Mx ∧ St _ Mx F [_,_,_,_,_,_]:=⟨_,Hp.le_refl _,S.pick [1,2,3,5,6,7] (by decide)⟩
 refine Wt 12 rfl rfl rfl (pt bo0 0) rfl (fun w' h'=>Qy rfl) D4 (Wt 13 rfl rfl rfl (pt bo0 10) rfl (fun w' h'=>QF (o:=0) (off:=10) Tryd.underlying95 rfl ty93 rfl rfl) D4 ?_)
 refine Wo 14 rfl ?_
 refine Q5 S 1 rfl ty93 rfl rfl [.slice A45 (a0.txs ++ ([(⟨(1:Int),(a0.clock)⟩:Zo)]:List Zo)).length c46] rfl rfl rfl #[vI a0.c.Tasks,vI a0.c.Active,vI a0.c.Keys,vI a0.c.Depth,vI a0.c.TS,vI a0.c.KeyLen,vI a0.c.ValLen,vI a0.c.Fan,.map (mb A0_8),.map (mb A0_9),.slice A45 (a0.txs ++ ([(⟨(1:Int),(a0.clock)⟩:Zo)]:List Zo)).length c46,.map (mb A0_11),vI a0.clock,vI a0.floor] rfl rfl ?_
 intro w47 E' S
 replace E:=E.trans E'
 refine QB (YC ⟨.inl (by decide),?_⟩)
 refine Wz ?_
 refine tn (QE (QA (W_v (pt bo0 0) (QC rfl) rfl (W_v (pt bo0 0) (Qy rfl) rfl (W_v (pt bo0 9) (QF (o:=0) (off:=9) Tryd.underlying95 rfl ty91 rfl rfl) rfl (W_v (.map (mb A0_9)) (QR (S.blk 1 rfl) ty91 rfl rfl) rfl (W_v (vI a2) (QC rfl) rfl (W_v (vI ((mget a0.many a2).getD (0:Int))) (Vb S 3 rfl Tryd.underlying91 key3 (0:Int) (fun _=>ty3.zero) a2 rfl rfl) rfl (W_v (vI (IntKind.i64.wrap (((mget a0.many a2).getD (0:Int)) + (1:Int)))) (QT rfl rfl rfl rfl) rfl ?_)))))))))
 obtain ⟨x49,he50,H⟩:=QX H
 replace he50:=Option.some.inj he50
 refine Vh S 3 rfl Tryd.underlying91 key3 a2 (IntKind.i64.wrap (((mget a0.many a2).getD (0:Int)) + (1:Int))) he50 rfl rfl rfl ?_
 intro w48 E' S
 replace E:=E.trans E'
 replace S:St w48 M F [_,_,_,_,_,_,_,_]:=S
 refine QB (tn ?_)
 as_aux_lemma =>
 refine QE ?_
 refine Ql (S:=fun w'=>∃ Mx,M.le Mx ∧ St w' Mx F [Row QP 122 (.slice (some ⟨b36,0,none⟩) ([(⟨(1:Int),(a0.clock)⟩:Zo)]:List Zo).length 1) ([(⟨(1:Int),(a0.clock)⟩:Zo)]:List Zo),Blk bo0 (.cells #[vI a0.c.Tasks,vI a0.c.Active,vI a0.c.Keys,vI a0.c.Depth,vI a0.c.TS,vI a0.c.KeyLen,vI a0.c.ValLen,vI a0.c.Fan,.map (mb A0_8),.map (mb A0_9),.slice A45 (a0.txs ++ ([(⟨(1:Int),(a0.clock)⟩:Zo)]:List Zo)).length c46,.map (mb A0_11),vI a0.clock,vI a0.floor] 95 (0,0)),QV QH (Value.int .i64) A0_8 a0.names,QV (Value.int .i64) (Value.int .i64) A0_9 x49,Row QP 122 (.slice A45 (a0.txs ++ ([(⟨(1:Int),(a0.clock)⟩:Zo)]:List Zo)).length c46) (a0.txs ++ ([(⟨(1:Int),(a0.clock)⟩:Zo)]:List Zo)),QV encS (fun v:Value=>v) A0_11 vs0_11,Blk b4 (.cells cz13 34 (0,0)),B47 b1 a3]) (L:=17) mixed ?_
 intro w54 hw55 E'
 replace S:=S.heap hw55
 replace E:=E.trans E'
 have D5:∃ Mx,Hp.le M Mx ∧ St _ Mx F [_,_,_,_,_,_,_,_]:=⟨_,Hp.le_refl _,S.pick [0,1,2,3,4,5,6,7] (by decide)⟩
 refine Wt 0 rfl rfl rfl (pt bo0 0) rfl (fun w' h'=>QC rfl) D5 (Wt 1 rfl rfl rfl (pt bo0 0) rfl (fun w' h'=>Qy rfl) D5 (Wt 2 rfl rfl rfl (pt bo0 8) rfl (fun w' h'=>QF (o:=0) (off:=8) Tryd.underlying95 rfl ty90 rfl rfl) D5 (Wt 3 rfl rfl rfl (.map (mb A0_8)) rfl (fun w' h'=>QR (Qj h' 1 rfl) ty90 rfl rfl) D5 (Wt 4 rfl rfl rfl (vI a2) rfl (fun w' h'=>QC rfl) D5 (Wt 5 rfl rfl rfl (pt bo0 0) rfl (fun w' h'=>QC rfl) D5 (Wt 6 rfl rfl rfl (pt bo0 0) rfl (fun w' h'=>Qy rfl) D5 (Wt 7 rfl rfl rfl (pt bo0 9) rfl (fun w' h'=>QF (o:=0) (off:=9) Tryd.underlying95 rfl ty91 rfl rfl) D5 (Wt 8 rfl rfl rfl (.map (mb A0_9)) rfl (fun w' h'=>QR (Qj h' 1 rfl) ty91 rfl rfl) D5 (Wt 9 rfl rfl rfl (vI a2) rfl (fun w' h'=>QC rfl) D5 (Wt 10 rfl rfl rfl (vI ((mget x49 a2).getD (0:Int))) rfl (fun w' h'=>Exists.elim h' fun Mx h9=>Vb h9.2 3 rfl Tryd.underlying91 key3 (0:Int) (fun _=>ty3.zero) a2 rfl rfl) D5 (Wt 11 rfl rfl rfl (.agg #[vI a2,vI ((mget x49 a2).getD (0:Int))]) rfl (fun w' h'=>ZN (pl:=[(0,1),(1,1)]) #[vI a2,vI ((mget x49 a2).getD (0:Int))] Tryd.underlying112 ty112 (by as_aux_lemma=>kernel_rfl) rfl (by as_aux_lemma=>kernel_rfl)) D5 (Wt 12 rfl rfl rfl (pt bo0 0) rfl (fun w' h'=>QC rfl) D5 (Wt 13 rfl rfl rfl (pt bo0 0) rfl (fun w' h'=>Qy rfl) D5 (Wt 14 rfl rfl rfl (pt bo0 10) rfl (fun w' h'=>QF (o:=0) (off:=10) Tryd.underlying95 rfl ty93 rfl rfl) D5 (Wt 15 rfl rfl rfl (.slice A45 (a0.txs ++ ([(⟨(1:Int),(a0.clock)⟩:Zo)]:List Zo)).length c46) rfl (fun w' h'=>QR (Qj h' 1 rfl) ty93 rfl rfl) D5 ?_)))))))))))))))
 refine Wt 16 rfl rfl rfl (vI ((a0.txs ++ ([(⟨(1:Int),(a0.clock)⟩:Zo)]:List Zo)).length:Int)) rfl (fun w' h'=>Qt (n:=(a0.txs ++ ([(⟨(1:Int),(a0.clock)⟩:Zo)]:List Zo)).length) Tryd.underlying93 rfl) D5 ?_
 refine Wo 17 rfl ?_
 obtain ⟨x57,he58,H⟩:=QX H
 replace he58:=Option.some.inj he58
 refine Vh S 2 rfl Tryd.underlying90 key112 (⟨a2,((mget x49 a2).getD (0:Int))⟩:ZO) ((a0.txs ++ ([(⟨(1:Int),(a0.clock)⟩:Zo)]:List Zo)).length:Int) he58 rfl rfl rfl ?_
 intro w56 E' S
 replace E:=E.trans E'
 replace S:St w56 M F [_,_,_,_,_,_,_,_]:=S
 refine QB (YC ⟨.inl (by decide),?_⟩)
 refine Wz ?_
 refine tn (QE (QA (W_v (.agg cz13) (ZN (pl:=[(0,1),(1,1),(2,1),(3,1)]) cz13 Tryd.underlying34 ty34 (by as_aux_lemma=>kernel_rfl) rfl (by as_aux_lemma=>kernel_rfl)) rfl ?_)))
 refine Q5 S 6 rfl ty34 rfl rfl [vI 0,.bool false,vS ([]:Str),.slice none 0 0] rfl rfl rfl cz13 rfl rfl ?_
 intro w59 E' S
 replace E:=E.trans E'
 refine QB (tn ?_)
 refine QY ?_
 obtain rfl:=Option.some.inj H
 replace S:=S.row_nil Qr 72
 exact ⟨_,_,_,fun w1 e1=>QO (vs:=[.agg #[vI 0,.bool false,vS ([]:Str),.slice none ([]:List Qu).length 0]]) (FA.cons (⟨_,rfl,Qv ty34 ((S.of_eq e1).blk 7 rfl) (QI rfl) rfl (by decide)⟩) (FA.nil)),HM,E,S.pick [0,2,3,4,5,6] (by decide),⟨none,0,A0_8,c0_8,A0_9,c0_9,A45,c46,A0_11,c0_11,vs0_11,rfl,hm0_11,rfl⟩⟩
def Zg (k:Nat) (a0:QM) (a1:Int) (a2:Q9):Option (Str × Bool) :=
 (if (a2.intent.Writer == a1) = true then some (a2.intent.Value,(!a2.intent.Tomb)) else (if 0 ≤ (IntKind.i64.wrap (a1 - (1:Int))) ∧ (IntKind.i64.wrap (a1 - (1:Int))) < (a0.txs.length:Int) then (Option.bind (α:=Int × Int × Bool × Str × Bool) (Option.bind (Xm k a2.l ((rd a0.txs (IntKind.i64.wrap (a1 - (1:Int)))).snapshot)) (fun t110=>some (t110.1.Writer,t110.1.TS,t110.1.Tomb,t110.1.Value,t110.2))) (fun ⟨x105,x106,x107,x108,x109⟩=>some (x108,x109))) else none))
theorem Zg.mono {k:Nat} {a0:QM} {a1:Int} {a2:Q9}:OLe (Zg k a0 a1 a2) (Zg (k + 1) a0 a1 a2):=by
 unfold Zg
 have m1:=@Xm.mono
 exact mo
theorem Zg.con (k:Nat) (M:Hp) (A0_8:Option Addr) (c0_8:Nat) (A0_9:Option Addr) (c0_9:Nat) (A0_10:Option Addr) (c0_10:Nat) (A0_11:Option Addr) (c0_11:Nat) (vs0_11:List (Str × Value)) (a0:QM) (a1:Int) (A2_0:Option Addr) (c2_0:Nat) (a2:Q9) (bo0:Nat) (r:Str × Bool) (hm0_11:YP Qm M a0.rows vs0_11) (hr2_0:SlR YK M (.slice A2_0 a2.l.length c2_0) a2.l) (h:Zg k a0 a1 a2 = some r):Con Tryd.prog 131 #[pt bo0 0,vI a1,.agg #[.slice A2_0 a2.l.length c2_0,vI a2.intent.Writer,vI a2.intent.TS,.bool a2.intent.Tomb,vS a2.intent.Value]] M [B95 bo0 a0 A0_8 A0_9 A0_10 c0_10 A0_11,QV QH (Value.int .i64) A0_8 a0.names,QV (Value.int .i64) (Value.int .i64) A0_9 a0.many,Row QP 122 (.slice A0_10 a0.txs.length c0_10) a0.txs,QV encS (fun v:Value=>v) A0_11 vs0_11] (fun v M' Γ'=>v = .tuple #[vS r.1,.bool r.2] ∧ Γ' = [B95 bo0 a0 A0_8 A0_9 A0_10 c0_10 A0_11,QV QH (Value.int .i64) A0_8 a0.names,QV (Value.int .i64) (Value.int .i64) A0_9 a0.many,Row QP 122 (.slice A0_10 a0.txs.length c0_10) a0.txs,QV encS (fun v:Value=>v) A0_11 vs0_11]):=by
 refine Qa Tryd.func131 rfl Tryd.ntmps131 Tryd.results131 rfl ?_
 intro w F rn S hrn
 have E:=Ext.refl w
 have HM:=Hp.le_refl M
 have H:=h
 unfold Zg at H
 refine QE (QA ?_)
 refine YO S #[.slice A2_0 a2.l.length c2_0,vI a2.intent.Writer,vI a2.intent.TS,.bool a2.intent.Tomb,vS a2.intent.Value] rfl rfl rfl ?_
 intro b1 w2 E' S
 replace E:=E.trans E'
 refine W_v (vS ([]:Str)) (QD rfl) rfl (W_v (.bool false) (QD rfl) rfl (QB (tn (QE (QE (QA (W_v (pt b1 1) (QF (o:=0) (off:=1) Tryd.underlying119 rfl ty117 rfl rfl) rfl (W_v (pt b1 1) (QF (o:=1) (off:=0) Tryd.underlying117 rfl ty3 rfl rfl) rfl (W_v (vI a2.intent.Writer) (QR (S.blk 0 rfl) ty3 rfl rfl) rfl (W_v (vI a1) (QC rfl) rfl (W_v (.bool (a2.intent.Writer == a1)) (QT rfl rfl rfl rfl) rfl (QB (tn ?_)))))))))))))
 rcases Zh H with ⟨hb4,H⟩ | ⟨hb4,H⟩
 ·refine QL (congrArg Value.bool hb4) ?_
  refine QE ?_
  refine Ql (S:=fun w'=>∃ Mx,M.le Mx ∧ St w' Mx F [B119 b1 a2 A2_0 c2_0,B95 bo0 a0 A0_8 A0_9 A0_10 c0_10 A0_11,QV QH (Value.int .i64) A0_8 a0.names,QV (Value.int .i64) (Value.int .i64) A0_9 a0.many,Row QP 122 (.slice A0_10 a0.txs.length c0_10) a0.txs,QV encS (fun v:Value=>v) A0_11 vs0_11]) (L:=9) mixed ?_
  intro w5 hw6 E'
  replace S:=S.heap hw6
  replace E:=E.trans E'
  have D1:∃ Mx,Hp.le M Mx ∧ St _ Mx F [_,_,_,_,_,_]:=⟨_,Hp.le_refl _,S.pick [0,1,2,3,4,5] (by decide)⟩
  refine Wt 0 rfl rfl rfl (pt b1 1) rfl (fun w' h'=>QF (o:=0) (off:=1) Tryd.underlying119 rfl ty117 rfl rfl) D1 (Wt 1 rfl rfl rfl (pt b1 4) rfl (fun w' h'=>QF (o:=1) (off:=3) Tryd.underlying117 rfl ty9 rfl rfl) D1 (Wt 2 rfl rfl rfl (vS a2.intent.Value) rfl (fun w' h'=>QR (Qj h' 0 rfl) ty9 rfl rfl) D1 (Wt 3 rfl rfl rfl (pt b1 1) rfl (fun w' h'=>QF (o:=0) (off:=1) Tryd.underlying119 rfl ty117 rfl rfl) D1 (Wt 4 rfl rfl rfl (pt b1 3) rfl (fun w' h'=>QF (o:=1) (off:=2) Tryd.underlying117 rfl ty4 rfl rfl) D1 (Wt 5 rfl rfl rfl (.bool a2.intent.Tomb) rfl (fun w' h'=>QR (Qj h' 0 rfl) ty4 rfl rfl) D1 (Wt 6 rfl rfl rfl (.bool (!a2.intent.Tomb)) rfl (fun w' h'=>Yx (b:=a2.intent.Tomb) rfl) D1 (Wt 7 rfl rfl rfl (vS a2.intent.Value) rfl (fun w' h'=>QD rfl) D1 (Wt 8 rfl rfl rfl (.bool (!a2.intent.Tomb)) rfl (fun w' h'=>QD rfl) D1 ?_))))))))
  refine Wz ?_
  refine tn ?_
  refine QY ?_
  refine tr (?_)
  obtain rfl:=Option.some.inj H
  exact ⟨_,_,_,fun w1 e1=>QO (vs:=[vS a2.intent.Value,.bool (!a2.intent.Tomb)]) (FA.cons (rfl) (FA.cons (rfl) (FA.nil))),HM,E,S.pick [1,2,3,4,5] (by decide),⟨rfl,rfl⟩⟩
 refine QJ (congrArg Value.bool hb4) (Qg (tn ?_))
 as_aux_lemma =>
 refine QE ?_
 refine Ql (S:=fun w'=>∃ Mx,M.le Mx ∧ St w' Mx F [B119 b1 a2 A2_0 c2_0,B95 bo0 a0 A0_8 A0_9 A0_10 c0_10 A0_11,QV QH (Value.int .i64) A0_8 a0.names,QV (Value.int .i64) (Value.int .i64) A0_9 a0.many,Row QP 122 (.slice A0_10 a0.txs.length c0_10) a0.txs,QV encS (fun v:Value=>v) A0_11 vs0_11]) (L:=18) mixed ?_
 intro w77 hw78 E'
 replace S:=S.heap hw78
 replace E:=E.trans E'
 have D2:∃ Mx,Hp.le M Mx ∧ St _ Mx F [_,_,_,_,_,_]:=⟨_,Hp.le_refl _,S.pick [0,1,2,3,4,5] (by decide)⟩
 refine Wt 0 rfl rfl rfl (pt b1 0) rfl (fun w' h'=>QF (o:=0) (off:=0) Tryd.underlying119 rfl ty115 rfl rfl) D2 (Wt 1 rfl rfl rfl (.slice A2_0 a2.l.length c2_0) rfl (fun w' h'=>QR (Qj h' 0 rfl) ty115 rfl rfl) D2 (Wt 2 rfl rfl rfl (pt bo0 0) rfl (fun w' h'=>QC rfl) D2 (Wt 3 rfl rfl rfl (pt bo0 0) rfl (fun w' h'=>Qy rfl) D2 (Wt 4 rfl rfl rfl (pt bo0 10) rfl (fun w' h'=>QF (o:=0) (off:=10) Tryd.underlying95 rfl ty93 rfl rfl) D2 (Wt 5 rfl rfl rfl (.slice A0_10 a0.txs.length c0_10) rfl (fun w' h'=>QR (Qj h' 1 rfl) ty93 rfl rfl) D2 (Wt 6 rfl rfl rfl (vI a1) rfl (fun w' h'=>QC rfl) D2 (Wt 7 rfl rfl rfl (vI (IntKind.i64.wrap (a1 - (1:Int)))) rfl (fun w' h'=>QT rfl rfl rfl rfl) D2 ?_)))))))
 obtain ⟨⟨p79,p80⟩,H⟩:=Zt H
 obtain ⟨b81,o82,_,_,_,ee83,_⟩:=SlW.at' (S.row_read 4 rfl) p79 p80
 refine Wt 8 rfl rfl rfl (.pointer (some ⟨b81,o82 + (IntKind.i64.wrap (a1 - (1:Int))).toNat * 2,none⟩)) rfl (fun w' h'=>Qe Tryd.underlying93 ty122 (slA ee83) rfl p79 p80) D2 (Wt 9 rfl rfl rfl (.pointer (some ⟨b81,o82 + (IntKind.i64.wrap (a1 - (1:Int))).toNat * 2 + 1,none⟩)) rfl (fun w' h'=>QF (o:=o82 + (IntKind.i64.wrap (a1 - (1:Int))).toNat * 2) (off:=1) Tryd.underlying122 rfl ty3 rfl rfl) D2 (Wt 10 rfl rfl rfl (vI ((rd a0.txs (IntKind.i64.wrap (a1 - (1:Int)))).snapshot)) rfl (fun w' h'=>Xp h' 4 rfl ee83 p79 p80 1 (by rintro _ _ rfl; rfl) ty3 rfl) D2 ?_))
 obtain ⟨o128,o128h,o128H⟩:=QX H
 refine XK (fun ρ w'=>∃ (x105:Int) (x106:Int) (x107:Bool) (x108:Str) (x109:Bool) (b103:Nat),(x105,x106,x107,x108,x109) = o128 ∧ Qs ρ [(8,pt b103 0),(35,.agg #[vI x105,vI x106,.bool x107,vS x108]),(36,.bool x109)] ∧ Ext w w' ∧ St w' M F [Blk b103 (.cells cz14 117 (0,0)),B119 b1 a2 A2_0 c2_0,B95 bo0 a0 A0_8 A0_9 A0_10 c0_10 A0_11,QV QH (Value.int .i64) A0_8 a0.names,QV (Value.int .i64) (Value.int .i64) A0_9 a0.many,Row QP 122 (.slice A0_10 a0.txs.length c0_10) a0.txs,QV encS (fun v:Value=>v) A0_11 vs0_11]) 2 (Ls 18 [0,1,2,3,4,5,6,7,8,9,10,11,12,13,14,15]) ?_ ?_
 rotate_left
 ·intro hq132
  refine XK (fun ρ w'=>∃ (x95:Int) (x96:Int) (x97:Bool) (x98:Str) (x99:Bool),some (x95,x96,x97,x98,x99) = some o128 ∧ Qs ρ [(35,.agg #[vI x95,vI x96,.bool x97,vS x98]),(36,.bool x99)] ∧ Ext w w' ∧ St w' M F [B119 b1 a2 A2_0 c2_0,B95 bo0 a0 A0_8 A0_9 A0_10 c0_10 A0_11,QV QH (Value.int .i64) A0_8 a0.names,QV (Value.int .i64) (Value.int .i64) A0_9 a0.many,Row QP 122 (.slice A0_10 a0.txs.length c0_10) a0.txs,QV encS (fun v:Value=>v) A0_11 vs0_11]) 3 (Ls 18 [0,1,2,3,4,5,6,7,8,9,10,11,12,13,14]) ?_ ?_
  ·clear o128h
   rintro ρ w133 ⟨x95,x96,x97,x98,x99,H,hρ,E,S⟩
   rw [QN hρ]
   refine Wo 15 rfl ?_
   refine Zu S cz14 ty117 rfl rfl ?_
   intro b134 w135 E' S
   replace E:=E.trans E'
   refine QB (YC ⟨.inr ⟨M,Hp.le_refl M,(S.pick [1,2,3,4,5,6] (by decide))⟩,?_⟩)
   exact hq132 _ _ ⟨x95,x96,x97,x98,x99,b134,Option.some.inj H,⟨rfl,rfl,rfl,trivial⟩,E,S.pick [0,1,2,3,4,5,6] (by decide)⟩
  intro hq131
  refine XK (fun ρ w'=>∃ (b90:Nat),(Option.bind (Xm k a2.l ((rd a0.txs (IntKind.i64.wrap (a1 - (1:Int)))).snapshot)) (fun t122=>some (t122.1.Writer,t122.1.TS,t122.1.Tomb,t122.1.Value,t122.2))) = some o128 ∧ Qs ρ [(8,pt b90 0),(24,.slice A2_0 a2.l.length c2_0),(33,vI ((rd a0.txs (IntKind.i64.wrap (a1 - (1:Int)))).snapshot))] ∧ Ext w w' ∧ St w' M F [Blk b90 (.cells cz14 117 (0,0)),B119 b1 a2 A2_0 c2_0,B95 bo0 a0 A0_8 A0_9 A0_10 c0_10 A0_11,QV QH (Value.int .i64) A0_8 a0.names,QV (Value.int .i64) (Value.int .i64) A0_9 a0.many,Row QP 122 (.slice A0_10 a0.txs.length c0_10) a0.txs,QV encS (fun v:Value=>v) A0_11 vs0_11]) 6 (Ls 18 [0,1,2,3,4,5,6,7,8,9,10,15]) ?_ ?_
  ·clear o128h
   rintro ρ w137 ⟨b90,H,hρ,E,S⟩
   rw [QN hρ]
   refine Wo 11 rfl ?_
   obtain ⟨t138,ht139,H⟩:=QX H
   refine YJ fn139 (Xm.con k M A2_0 c2_0 a2.l ((rd a0.txs (IntKind.i64.wrap (a1 - (1:Int)))).snapshot) t138 hr2_0 ht139) S rfl rfl (by rintro _ _ _ ⟨_,rfl⟩; exact Qd) ?_
   rintro _ w140 _ Γ' E' S ⟨rfl,rfl⟩
   replace E:=E.trans E'
   refine QB (YC ⟨.inr ⟨M,Hp.le_refl M,(S.pick [1,2,3,4,5,6] (by decide))⟩,?_⟩)
   have D3:∃ Mx,Hp.le M Mx ∧ St _ Mx F [_,_,_,_,_,_]:=⟨_,Hp.le_refl _,S.pick [1,2,3,4,5,6] (by decide)⟩
   refine Wt 12 rfl rfl rfl (.tuple #[.agg #[vI t138.1.Writer,vI t138.1.TS,.bool t138.1.Tomb,vS t138.1.Value],.bool t138.2]) rfl (fun w' h'=>QC rfl) D3 (Wt 13 rfl rfl rfl (.agg #[vI t138.1.Writer,vI t138.1.TS,.bool t138.1.Tomb,vS t138.1.Value]) rfl (fun w' h'=>QQ rfl rfl) D3 (Wt 14 rfl rfl rfl (.bool t138.2) rfl (fun w' h'=>QQ rfl rfl) D3 ?_))
   exact hq132 _ _ ⟨t138.1.Writer,t138.1.TS,t138.1.Tomb,t138.1.Value,t138.2,b90,Option.some.inj H,⟨rfl,rfl,rfl,trivial⟩,E,S.pick [0,1,2,3,4,5,6] (by decide)⟩
  intro hq130
  have H:=o128h
  refine Vx (rs:=[11,15]) (by kernel_rfl) (by decide) ?_
  simp only [List.forall_mem_cons,List.not_mem_nil,false_implies,implies_true,and_true]
  refine ⟨?_,?_⟩
  ·refine ⟨_,rfl,?_⟩
   obtain ⟨t141,ht142,H⟩:=QX H
   refine YJ fn139 (Xm.con k M A2_0 c2_0 a2.l ((rd a0.txs (IntKind.i64.wrap (a1 - (1:Int)))).snapshot) t141 hr2_0 ht142) S rfl rfl (by rintro _ _ _ ⟨_,rfl⟩; exact Qd) ?_
   rintro _ w143 _ Γ' E' S ⟨rfl,rfl⟩
   replace E:=E.trans E'
   refine QB (YC ⟨.inr ⟨M,Hp.le_refl M,(S.pick [0,1,2,3,4,5] (by decide))⟩,?_⟩)
   have D4:∃ Mx,Hp.le M Mx ∧ St _ Mx F [_,_,_,_,_,_]:=⟨_,Hp.le_refl _,S.pick [0,1,2,3,4,5] (by decide)⟩
   refine Wt 12 rfl rfl rfl (.tuple #[.agg #[vI t141.1.Writer,vI t141.1.TS,.bool t141.1.Tomb,vS t141.1.Value],.bool t141.2]) rfl (fun w' h'=>QC rfl) D4 (Wt 13 rfl rfl rfl (.agg #[vI t141.1.Writer,vI t141.1.TS,.bool t141.1.Tomb,vS t141.1.Value]) rfl (fun w' h'=>QQ rfl rfl) D4 (Wt 14 rfl rfl rfl (.bool t141.2) rfl (fun w' h'=>QQ rfl rfl) D4 ?_))
   exact hq131 _ _ ⟨t141.1.Writer,t141.1.TS,t141.1.Tomb,t141.1.Value,t141.2,H,⟨rfl,rfl,trivial⟩,E,S.pick [0,1,2,3,4,5] (by decide)⟩
  ·refine ⟨_,rfl,?_⟩
   refine Zu S cz14 ty117 rfl rfl ?_
   intro b144 w145 E' S
   replace E:=E.trans E'
   refine QB (YC ⟨.inr ⟨M,Hp.le_refl M,(S.pick [1,2,3,4,5,6] (by decide))⟩,?_⟩)
   exact hq130 _ _ ⟨b144,H,⟨rfl,rfl,rfl,trivial⟩,E,S.pick [0,1,2,3,4,5,6] (by decide)⟩
 rintro ρ w147 ⟨x105,x106,x107,x108,x109,b103,rfl,hρ,E,S⟩
 rw [QN hρ]
 have H:=o128H
 refine Wo 16 rfl ?_
 refine Q5 S 0 rfl ty117 rfl rfl [vI x105,vI x106,.bool x107,vS x108] rfl rfl rfl #[vI x105,vI x106,.bool x107,vS x108] rfl rfl ?_
 intro w148 E' S
 replace E:=E.trans E'
 refine QB (YC ⟨.inr ⟨M,Hp.le_refl M,(S.pick [1,2,3,4,5,6] (by decide))⟩,?_⟩)
 refine Wt 17 rfl rfl rfl (.bool x109) rfl (fun w' h'=>QD rfl) (⟨M,Hp.le_refl M,(S.pick [1,2,3,4,5,6] (by decide))⟩) ?_
 refine Wz ?_
 refine tn ?_
 as_aux_lemma =>
 refine QE (QA (W_v (pt b103 3) (QF (o:=0) (off:=3) Tryd.underlying117 rfl ty9 rfl rfl) rfl (W_v (vS x108) (QR (S.blk 0 rfl) ty9 rfl rfl) rfl (W_v (.bool x109) (QC rfl) rfl (W_v (vS x108) (QD rfl) rfl (W_v (.bool x109) (QD rfl) rfl (QB (tn ?_))))))))
 refine QY ?_
 obtain rfl:=Option.some.inj H
 exact ⟨_,_,_,fun w1 e1=>QO (vs:=[vS x108,.bool x109]) (FA.cons (rfl) (FA.cons (rfl) (FA.nil))),HM,E,S.pick [2,3,4,5,6] (by decide),⟨rfl,rfl⟩⟩
end Go.Proofs.YtnjbjpaiepefoaaDoor
