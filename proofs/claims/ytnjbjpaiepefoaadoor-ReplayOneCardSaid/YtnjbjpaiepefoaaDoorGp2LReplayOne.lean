import Derived.Test.YtnjbjpaiepefoaaDoorGp2B
import Derived.Test.YtnjbjpaiepefoaaDoorGp2P0
import Derived.Test.YtnjbjpaiepefoaaDoorGp2P1
import Derived.Test.YtnjbjpaiepefoaaDoorGp2P3
import Derived.Test.YtnjbjpaiepefoaaDoorGp2P4
namespace Go.Proofs.YtnjbjpaiepefoaaDoor
open Go
set_option linter.unusedVariables false
set_option linter.unusedSimpArgs false
set_option maxHeartbeats 80000000
set_option maxRecDepth 100000
def YI (a0:Qf) (a1:Qf):Nat → Int → Option ((Bool) ⊕ (Unit))
 | 0,_=>none
 | k + 1,x101=>(if (decide (x101 < (a0.Pairs.length:Int))) = true then (if 0 ≤ x101 ∧ x101 < (a0.Pairs.length:Int) then (if 0 ≤ x101 ∧ x101 < (a1.Pairs.length:Int) then (if (!(((rd a0.Pairs x101).Key == (rd a1.Pairs x101).Key) && ((rd a0.Pairs x101).Value == (rd a1.Pairs x101).Value))) = true then some (.inl false) else YI a0 a1 k (IntKind.i64.wrap (x101 + (1:Int)))) else none) else none) else some (.inr ()))
theorem YI.mono {a0:Qf} {a1:Qf}:∀ {kl:Nat} {x0},OLe (YI a0 a1 kl x0) (YI a0 a1 (kl + 1) x0):=by
 intro kl
 induction kl with
 | zero=>intros; exact OLe.none
 | succ kl ih =>
  intros
  rw [YI.eq_2,YI.eq_2]
  exact mo
def Yh (k:Nat) (a0:Qf) (a1:Qf):Option (Bool) :=
 (if ((((a0.Err != a1.Err) || (!(a0.Found == a1.Found))) || (sbin .neq a0.Value a1.Value)) || ((a0.Pairs.length:Int) != (a1.Pairs.length:Int))) = true then some false else (Option.bind (YI a0 a1 k (0:Int)) (fun o146o=>Sum.elim (fun r'=>some r') (fun _=>some true) o146o)))
theorem Yh.mono {k:Nat} {a0:Qf} {a1:Qf}:OLe (Yh k a0 a1) (Yh (k + 1) a0 a1):=by
 unfold Yh
 have m1:=@YI.mono
 exact mo
theorem Yh.con (k:Nat) (M:Hp) (A0_0:Option Addr) (c0_0:Nat) (a0:Qf) (A1_0:Option Addr) (c1_0:Nat) (a1:Qf) (r:Bool) (hr0_0:SlR Qr M (.slice A0_0 a0.Pairs.length c0_0) a0.Pairs) (hr1_0:SlR Qr M (.slice A1_0 a1.Pairs.length c1_0) a1.Pairs) (h:Yh k a0 a1 = some r):Con Tryd.prog 16 #[.agg #[vI a0.Err,.bool a0.Found,vS a0.Value,.slice A0_0 a0.Pairs.length c0_0],.agg #[vI a1.Err,.bool a1.Found,vS a1.Value,.slice A1_0 a1.Pairs.length c1_0]] M [] (fun v M' Γ'=>v = .bool r ∧ Γ' = []):=by
 refine Qa Tryd.func16 rfl Tryd.ntmps16 Tryd.results16 rfl ?_
 intro w F rn S hrn
 have E:=Ext.refl w
 have HM:=Hp.le_refl M
 have H:=h
 unfold Yh at H
 refine QE (QA ?_)
 refine YO S #[vI a0.Err,.bool a0.Found,vS a0.Value,.slice A0_0 a0.Pairs.length c0_0] rfl rfl rfl ?_
 intro b1 w2 E' S
 replace E:=E.trans E'
 refine YO S #[vI a1.Err,.bool a1.Found,vS a1.Value,.slice A1_0 a1.Pairs.length c1_0] rfl rfl rfl ?_
 intro b4 w5 E' S
 replace E:=E.trans E'
 refine W_v (.bool false) (QD rfl) rfl (QB (tn (QE (QE (QA (W_v (pt b1 0) (QF (o:=0) (off:=0) Tryd.underlying34 rfl ty28 rfl rfl) rfl (W_v (vI a0.Err) (QR (S.blk 1 rfl) ty28 rfl rfl) rfl (W_v (pt b4 0) (QF (o:=0) (off:=0) Tryd.underlying34 rfl ty28 rfl rfl) rfl (W_v (vI a1.Err) (QR (S.blk 0 rfl) ty28 rfl rfl) rfl (W_v (.bool (a0.Err != a1.Err)) (QT rfl rfl rfl rfl) rfl (W_v (.bool (a0.Err != a1.Err)) (QC rfl) rfl ?_)))))))))))
 refine ZI 6 (fun ρ w'=>Qs ρ [(2,pt b1 0),(3,pt b4 0),(17,.bool ((a0.Err != a1.Err) || (!(a0.Found == a1.Found))))] ∧ w5 = w') ?_ ?_
 ·rcases Qw (a0.Err != a1.Err) with hb7 | hb7
  ·skip
   refine QU (congrArg some hb7) (W_v (pt b1 1) (QF (o:=0) (off:=1) Tryd.underlying34 rfl ty4 rfl rfl) rfl (QU (congrArg some hb7) (W_v (.bool a0.Found) (QR (S.blk 1 rfl) ty4 rfl rfl) rfl (QU (congrArg some hb7) (W_v (pt b4 1) (QF (o:=0) (off:=1) Tryd.underlying34 rfl ty4 rfl rfl) rfl (QU (congrArg some hb7) (W_v (.bool a1.Found) (QR (S.blk 0 rfl) ty4 rfl rfl) rfl (QU (congrArg some hb7) (W_v (.bool (!(a0.Found == a1.Found))) (x_bne Tryd.underlying4 rfl rfl) rfl (W_v (.bool (!(a0.Found == a1.Found))) (QZ (k:=false) (congrArg Value.bool hb7) rfl) rfl (QB ?_)))))))))))
   exact ⟨⟨rfl,rfl,(by first | rfl | (rw [hb7]; rfl) | (simp only [hb7]; rfl)),trivial⟩,rfl⟩
  ·skip
   refine Qk (skF hb7) rfl (Qk (skF hb7) rfl (Qk (skF hb7) rfl (Qk (skF hb7) rfl (Qk (skF hb7) rfl (W_v (.bool true) (QZ (k:=true) (congrArg Value.bool hb7) rfl) rfl (QB ?_))))))
   exact ⟨⟨rfl,rfl,(by first | rfl | (rw [hb7]; rfl) | (simp only [hb7]; rfl)),trivial⟩,rfl⟩
 as_aux_lemma =>
 rintro ρ _ ⟨hρ,rfl⟩
 rw [QN hρ]
 refine W_v (.bool ((a0.Err != a1.Err) || (!(a0.Found == a1.Found)))) (QC rfl) rfl ?_
 refine ZI 6 (fun ρ w'=>Qs ρ [(2,pt b1 0),(3,pt b4 0),(24,.bool (((a0.Err != a1.Err) || (!(a0.Found == a1.Found))) || (sbin .neq a0.Value a1.Value)))] ∧ w5 = w') ?_ ?_
 ·rcases Qw ((a0.Err != a1.Err) || (!(a0.Found == a1.Found))) with hb8 | hb8
  ·skip
   refine QU (congrArg some hb8) (W_v (pt b1 2) (QF (o:=0) (off:=2) Tryd.underlying34 rfl ty9 rfl rfl) rfl (QU (congrArg some hb8) (W_v (vS a0.Value) (QR (S.blk 1 rfl) ty9 rfl rfl) rfl (QU (congrArg some hb8) (W_v (pt b4 2) (QF (o:=0) (off:=2) Tryd.underlying34 rfl ty9 rfl rfl) rfl (QU (congrArg some hb8) (W_v (vS a1.Value) (QR (S.blk 0 rfl) ty9 rfl rfl) rfl (QU (congrArg some hb8) (W_v (.bool (sbin .neq a0.Value a1.Value)) (UJ rfl rfl rfl) rfl (W_v (.bool (sbin .neq a0.Value a1.Value)) (QZ (k:=false) (congrArg Value.bool hb8) rfl) rfl (QB ?_)))))))))))
   exact ⟨⟨rfl,rfl,(by first | rfl | (rw [hb8]; rfl) | (simp only [hb8]; rfl)),trivial⟩,rfl⟩
  ·skip
   refine Qk (skF hb8) rfl (Qk (skF hb8) rfl (Qk (skF hb8) rfl (Qk (skF hb8) rfl (Qk (skF hb8) rfl (W_v (.bool true) (QZ (k:=true) (congrArg Value.bool hb8) rfl) rfl (QB ?_))))))
   exact ⟨⟨rfl,rfl,(by first | rfl | (rw [hb8]; rfl) | (simp only [hb8]; rfl)),trivial⟩,rfl⟩
 as_aux_lemma =>
 rintro ρ _ ⟨hρ,rfl⟩
 rw [QN hρ]
 refine W_v (.bool (((a0.Err != a1.Err) || (!(a0.Found == a1.Found))) || (sbin .neq a0.Value a1.Value))) (QC rfl) rfl ?_
 refine ZI 8 (fun ρ w'=>Qs ρ [(2,pt b1 0),(3,pt b4 0),(33,.bool ((((a0.Err != a1.Err) || (!(a0.Found == a1.Found))) || (sbin .neq a0.Value a1.Value)) || ((a0.Pairs.length:Int) != (a1.Pairs.length:Int))))] ∧ w5 = w') ?_ ?_
 ·rcases Qw (((a0.Err != a1.Err) || (!(a0.Found == a1.Found))) || (sbin .neq a0.Value a1.Value)) with hb9 | hb9
  ·skip
   refine QU (congrArg some hb9) (W_v (pt b1 3) (QF (o:=0) (off:=3) Tryd.underlying34 rfl ty32 rfl rfl) rfl (QU (congrArg some hb9) (W_v (.slice A0_0 a0.Pairs.length c0_0) (QR (S.blk 1 rfl) ty32 rfl rfl) rfl (QU (congrArg some hb9) (W_v (vI (a0.Pairs.length:Int)) (Qt (n:=a0.Pairs.length) Tryd.underlying32 rfl) rfl (QU (congrArg some hb9) (W_v (pt b4 3) (QF (o:=0) (off:=3) Tryd.underlying34 rfl ty32 rfl rfl) rfl (QU (congrArg some hb9) (W_v (.slice A1_0 a1.Pairs.length c1_0) (QR (S.blk 0 rfl) ty32 rfl rfl) rfl (QU (congrArg some hb9) (W_v (vI (a1.Pairs.length:Int)) (Qt (n:=a1.Pairs.length) Tryd.underlying32 rfl) rfl (QU (congrArg some hb9) (W_v (.bool ((a0.Pairs.length:Int) != (a1.Pairs.length:Int))) (QT rfl rfl rfl rfl) rfl (W_v (.bool ((a0.Pairs.length:Int) != (a1.Pairs.length:Int))) (QZ (k:=false) (congrArg Value.bool hb9) rfl) rfl (QB ?_)))))))))))))))
   exact ⟨⟨rfl,rfl,(by first | rfl | (rw [hb9]; rfl) | (simp only [hb9]; rfl)),trivial⟩,rfl⟩
  ·skip
   refine Qk (skF hb9) rfl (Qk (skF hb9) rfl (Qk (skF hb9) rfl (Qk (skF hb9) rfl (Qk (skF hb9) rfl (Qk (skF hb9) rfl (Qk (skF hb9) rfl (W_v (.bool true) (QZ (k:=true) (congrArg Value.bool hb9) rfl) rfl (QB ?_))))))))
   exact ⟨⟨rfl,rfl,(by first | rfl | (rw [hb9]; rfl) | (simp only [hb9]; rfl)),trivial⟩,rfl⟩
 as_aux_lemma =>
 rintro ρ _ ⟨hρ,rfl⟩
 rw [QN hρ]
 refine QB (tn ?_)
 rcases Zh H with ⟨hb10,H⟩ | ⟨hb10,H⟩
 ·refine QL (congrArg Value.bool hb10) ?_
  refine QE (QA (W_v (.bool false) (QD rfl) rfl (QB (tn ?_))))
  refine QY ?_
  refine tr (?_)
  obtain rfl:=Option.some.inj H
  exact ⟨_,_,_,fun w1 e1=>QO (vs:=[.bool false]) (FA.cons (rfl) (FA.nil)),HM,E,S.pick [] (by decide),⟨rfl,rfl⟩⟩
 refine QJ (congrArg Value.bool hb10) (Qg (tn (QE (QE (QA (W_v (vI 0) (QD rfl) rfl (QB (tn ?_))))))))
 obtain ⟨o146,o146h,o146H⟩:=QX H
 refine Ya (fun ρ w'=>.inr () = o146 ∧ Qs ρ [] ∧ Ext w w' ∧ St w' M F []) ?_ ?_
 ·skip
  refine Y0 (fun n ρ w'=>∃ (x101:Int),YI a0 a1 n x101 = some o146 ∧ Qs ρ [(2,pt b1 0),(3,pt b4 0),(5,vI x101)] ∧ Ext w w' ∧ St w' M F [B34 b4 a1 A1_0 c1_0,B34 b1 a0 A0_0 c0_0]) k ?_ ?_
  ·skip
   exact ⟨(0:Int),o146h,⟨rfl,rfl,rfl,trivial⟩,E,S.pick [0,1] (by decide)⟩
  ·intro n
   rintro ρ w147 ⟨x101,H,hρ,E,S⟩
   rw [QN hρ]
   cases n with
   | zero=>cases H
   | succ k =>
    rw [YI.eq_2] at H
    refine QE (QE (QA (W_v (vI x101) (QC rfl) rfl (W_v (pt b1 3) (QF (o:=0) (off:=3) Tryd.underlying34 rfl ty32 rfl rfl) rfl (W_v (.slice A0_0 a0.Pairs.length c0_0) (QR (S.blk 1 rfl) ty32 rfl rfl) rfl (W_v (vI (a0.Pairs.length:Int)) (Qt (n:=a0.Pairs.length) Tryd.underlying32 rfl) rfl (W_v (.bool (decide (x101 < (a0.Pairs.length:Int)))) (QT rfl rfl rfl rfl) rfl (QB (tn ?_)))))))))
    rcases Zh H with ⟨hb148,H⟩ | ⟨hb148,H⟩
    ·refine QL (congrArg Value.bool hb148) ?_
     refine Qg (tn (QE ?_))
     refine Z0 ?_
     refine QE ?_
     refine Ql (S:=fun w'=>∃ Mx,M.le Mx ∧ St w' Mx F [B34 b4 a1 A1_0 c1_0,B34 b1 a0 A0_0 c0_0]) (L:=11) mixed ?_
     intro w169 hw170 E'
     replace S:=S.heap hw170
     replace E:=E.trans E'
     have D1:∃ Mx,Hp.le M Mx ∧ St _ Mx F [_,_]:=⟨_,Hp.le_refl _,S.pick [0,1] (by decide)⟩
     refine Wt 0 rfl rfl rfl (pt b1 3) rfl (fun w' h'=>QF (o:=0) (off:=3) Tryd.underlying34 rfl ty32 rfl rfl) D1 (Wt 1 rfl rfl rfl (.slice A0_0 a0.Pairs.length c0_0) rfl (fun w' h'=>QR (Qj h' 1 rfl) ty32 rfl rfl) D1 (Wt 2 rfl rfl rfl (vI x101) rfl (fun w' h'=>QC rfl) D1 ?_))
     obtain ⟨⟨p171,p172⟩,H⟩:=Zt H
     obtain ⟨b173,o174,cs175,_,_,ee180,hb176,vs177,hR178,hc179⟩:=SlW.at' hr0_0 p171 p172
     obtain rfl:vs177 = _:=hR178
     refine Wt 3 rfl rfl rfl (.pointer (some ⟨b173,o174 + x101.toNat * 2,none⟩)) rfl (fun w' h'=>Qe Tryd.underlying32 ty72 (slA ee180) rfl p171 p172) D1 (Wt 4 rfl rfl rfl (.agg #[vS ((rd a0.Pairs x101).Key),vS ((rd a0.Pairs x101).Value)]) rfl (fun w' h'=>Qh (Y5 h' hb176) ty72 rfl (XC hc179 0 rfl) rfl rfl) D1 (Wt 5 rfl rfl rfl (pt b4 3) rfl (fun w' h'=>QF (o:=0) (off:=3) Tryd.underlying34 rfl ty32 rfl rfl) D1 (Wt 6 rfl rfl rfl (.slice A1_0 a1.Pairs.length c1_0) rfl (fun w' h'=>QR (Qj h' 0 rfl) ty32 rfl rfl) D1 (Wt 7 rfl rfl rfl (vI x101) rfl (fun w' h'=>QC rfl) D1 ?_))))
     obtain ⟨⟨p181,p182⟩,H⟩:=Zt H
     obtain ⟨b183,o184,cs185,_,_,ee190,hb186,vs187,hR188,hc189⟩:=SlW.at' hr1_0 p181 p182
     obtain rfl:vs187 = _:=hR188
     refine Wt 8 rfl rfl rfl (.pointer (some ⟨b183,o184 + x101.toNat * 2,none⟩)) rfl (fun w' h'=>Qe Tryd.underlying32 ty72 (slA ee190) rfl p181 p182) D1 (Wt 9 rfl rfl rfl (.agg #[vS ((rd a1.Pairs x101).Key),vS ((rd a1.Pairs x101).Value)]) rfl (fun w' h'=>Qh (Y5 h' hb186) ty72 rfl (XC hc189 0 rfl) rfl rfl) D1 (Wt 10 rfl rfl rfl (.bool (!(((rd a0.Pairs x101).Key == (rd a1.Pairs x101).Key) && ((rd a0.Pairs x101).Value == (rd a1.Pairs x101).Value)))) rfl (fun w' h'=>Uq (en72 _ _ _ _) rfl (eq72 _ ((rd a0.Pairs x101).Key) ((rd a0.Pairs x101).Value) ((rd a1.Pairs x101).Key) ((rd a1.Pairs x101).Value))) D1 ?_))
     refine Wz ?_
     refine tn ?_
     rcases Zh H with ⟨hb191,H⟩ | ⟨hb191,H⟩
     ·refine QL (congrArg Value.bool hb191) ?_
      refine QE (QA (W_v (.bool false) (QD rfl) rfl (QB (tn ?_))))
      refine QY ?_
      refine br (tr (tr (br (tr (tr (?_))))))
      obtain rfl:=Option.some.inj H
      have H:=o146H
      replace H:=elimL H
      obtain rfl:=Option.some.inj H
      exact ⟨_,_,_,fun w1 e1=>QO (vs:=[.bool false]) (FA.cons (rfl) (FA.nil)),HM,E,S.pick [] (by decide),⟨rfl,rfl⟩⟩
     refine QJ (congrArg Value.bool hb191) (Qg (bn (tn (QA (W_v (vI x101) (QC rfl) rfl (W_v (vI (IntKind.i64.wrap (x101 + (1:Int)))) (QT rfl rfl rfl rfl) rfl (W_v (vI (IntKind.i64.wrap (x101 + (1:Int)))) (QD rfl) rfl (QB (tn ?_)))))))))
     exact ⟨k,Nat.lt_succ_self k,⟨(IntKind.i64.wrap (x101 + (1:Int))),H,⟨rfl,rfl,rfl,trivial⟩,E,S.pick [0,1] (by decide)⟩⟩
    refine QJ (congrArg Value.bool hb148) ?_
    refine Yo ?_
    refine tx (tx (bsm (?_)))
    refine tn ?_
    exact ⟨Option.some.inj H,trivial,E,S.pick [] (by decide)⟩
 rintro ρ w192 ⟨rfl,hρ,E,S⟩
 rw [QN hρ]
 have H:=o146H
 replace H:=elimR H
 refine tn ?_
 as_aux_lemma =>
 refine QE (QA (W_v (.bool true) (QD rfl) rfl (QB (tn ?_))))
 refine QY ?_
 obtain rfl:=Option.some.inj H
 exact ⟨_,_,_,fun w1 e1=>QO (vs:=[.bool true]) (FA.cons (rfl) (FA.nil)),HM,E,S.pick [] (by decide),⟨rfl,rfl⟩⟩
def Zz (a1:(List (List QW))) (a2:(List Int)) (a3:(List Qf)) (a4:Int):Nat → List Int → List QG → Bool → Int → QM → Option ((List QG × Bool))
 | 0,_,_,_,_,_=>none
 | k + 1,x3425,x3429,x3433,x3434,x3435=>(if (decide (x3434 < (a2.length:Int))) = true then (Option.bind (α:=List Int × List QG × Bool × QM) (if 0 ≤ x3434 ∧ x3434 < (a2.length:Int) then (if (IntKind.u64.wrap (a1.length:Int)) ≠ 0 then (if 0 ≤ (IntKind.i64.wrap (Int.tmod (IntKind.u64.wrap (rd a2 x3434)) (IntKind.u64.wrap (a1.length:Int)))) ∧ (IntKind.i64.wrap (Int.tmod (IntKind.u64.wrap (rd a2 x3434)) (IntKind.u64.wrap (a1.length:Int)))) < (x3425.length:Int) then (if 0 ≤ (IntKind.i64.wrap (Int.tmod (IntKind.u64.wrap (rd a2 x3434)) (IntKind.u64.wrap (a1.length:Int)))) ∧ (IntKind.i64.wrap (Int.tmod (IntKind.u64.wrap (rd a2 x3434)) (IntKind.u64.wrap (a1.length:Int)))) < (a1.length:Int) then (if (decide ((rd x3425 (IntKind.i64.wrap (Int.tmod (IntKind.u64.wrap (rd a2 x3434)) (IntKind.u64.wrap (a1.length:Int))))) ≥ ((rd a1 (IntKind.i64.wrap (Int.tmod (IntKind.u64.wrap (rd a2 x3434)) (IntKind.u64.wrap (a1.length:Int))))).length:Int))) = true then some (x3425,x3429,x3433,x3435) else (if 0 ≤ (IntKind.i64.wrap (Int.tmod (IntKind.u64.wrap (rd a2 x3434)) (IntKind.u64.wrap (a1.length:Int)))) ∧ (IntKind.i64.wrap (Int.tmod (IntKind.u64.wrap (rd a2 x3434)) (IntKind.u64.wrap (a1.length:Int)))) < (a1.length:Int) then (if 0 ≤ (IntKind.i64.wrap (Int.tmod (IntKind.u64.wrap (rd a2 x3434)) (IntKind.u64.wrap (a1.length:Int)))) ∧ (IntKind.i64.wrap (Int.tmod (IntKind.u64.wrap (rd a2 x3434)) (IntKind.u64.wrap (a1.length:Int)))) < (x3425.length:Int) then (if 0 ≤ (rd x3425 (IntKind.i64.wrap (Int.tmod (IntKind.u64.wrap (rd a2 x3434)) (IntKind.u64.wrap (a1.length:Int))))) ∧ (rd x3425 (IntKind.i64.wrap (Int.tmod (IntKind.u64.wrap (rd a2 x3434)) (IntKind.u64.wrap (a1.length:Int))))) < ((rd a1 (IntKind.i64.wrap (Int.tmod (IntKind.u64.wrap (rd a2 x3434)) (IntKind.u64.wrap (a1.length:Int))))).length:Int) then (Option.bind (α:=Int × Bool × Str × List Qu × QM) (Option.bind (Zb k x3435 (IntKind.i64.wrap (Int.tmod (IntKind.u64.wrap (rd a2 x3434)) (IntKind.u64.wrap (a1.length:Int)))) (rd (rd a1 (IntKind.i64.wrap (Int.tmod (IntKind.u64.wrap (rd a2 x3434)) (IntKind.u64.wrap (a1.length:Int))))) (rd x3425 (IntKind.i64.wrap (Int.tmod (IntKind.u64.wrap (rd a2 x3434)) (IntKind.u64.wrap (a1.length:Int))))))) (fun t6421=>some (t6421.1.Err,t6421.1.Found,t6421.1.Value,t6421.1.Pairs,t6421.2))) (fun ⟨x6399,x6400,x6401,x6402,x6406⟩=>(Option.bind (α:=Bool) (if ((decide (x3434 < (a3.length:Int))) && (decide (x3434 < (64:Int)))) = true then (if 0 ≤ (IntKind.u64.wrap x3434) then some (((iand .u64 (ishr .u64 a4 (IntKind.u64.wrap x3434)) (1:Int)) == (0:Int))) else none) else some (false)) (fun x6573=>(Option.bind (α:=Int × Bool × Str × List Qu) (if x6573 = true then (if 0 ≤ x3434 ∧ x3434 < (a3.length:Int) then some ((rd a3 x3434).Err,(rd a3 x3434).Found,(rd a3 x3434).Value,(rd a3 x3434).Pairs) else none) else some (x6399,x6400,x6401,x6402)) (fun ⟨x6651,x6652,x6653,x6654⟩=>(Option.bind (α:=Bool) (if x3433 = true then (Option.bind (Yh k (⟨x6399,x6400,x6401,x6402⟩:Qf) (⟨x6651,x6652,x6653,x6654⟩:Qf)) (fun t6685=>some (t6685))) else some (false)) (fun x6683=>(if 0 ≤ (IntKind.i64.wrap (Int.tmod (IntKind.u64.wrap (rd a2 x3434)) (IntKind.u64.wrap (a1.length:Int)))) ∧ (IntKind.i64.wrap (Int.tmod (IntKind.u64.wrap (rd a2 x3434)) (IntKind.u64.wrap (a1.length:Int)))) < (x3425.length:Int) then (Option.bind (Zd k (IntKind.i64.wrap (Int.tmod (IntKind.u64.wrap (rd a2 x3434)) (IntKind.u64.wrap (a1.length:Int)))) (rd x3425 (IntKind.i64.wrap (Int.tmod (IntKind.u64.wrap (rd a2 x3434)) (IntKind.u64.wrap (a1.length:Int))))) (⟨x6651,x6652,x6653,x6654⟩:Qf)) (fun t6729=>(Option.bind (XW k t6729) (fun t6740=>(if x3429.length + t6740.length ≤ 1759218604441 then (if 0 ≤ (IntKind.i64.wrap (Int.tmod (IntKind.u64.wrap (rd a2 x3434)) (IntKind.u64.wrap (a1.length:Int)))) ∧ (IntKind.i64.wrap (Int.tmod (IntKind.u64.wrap (rd a2 x3434)) (IntKind.u64.wrap (a1.length:Int)))) < (x3425.length:Int) then (if 0 ≤ (IntKind.i64.wrap (Int.tmod (IntKind.u64.wrap (rd a2 x3434)) (IntKind.u64.wrap (a1.length:Int)))) ∧ (IntKind.i64.wrap (Int.tmod (IntKind.u64.wrap (rd a2 x3434)) (IntKind.u64.wrap (a1.length:Int)))) < (x3425.length:Int) then (Option.bind (α:=List Int) (some (List.set x3425 (IntKind.i64.wrap (Int.tmod (IntKind.u64.wrap (rd a2 x3434)) (IntKind.u64.wrap (a1.length:Int)))).toNat (IntKind.i64.wrap ((rd x3425 (IntKind.i64.wrap (Int.tmod (IntKind.u64.wrap (rd a2 x3434)) (IntKind.u64.wrap (a1.length:Int))))) + (1:Int))))) (fun x6777=>some (x6777,(x3429 ++ t6740),x6683,x6406))) else none) else none) else none))))) else none))))))))) else none) else none) else none)) else none) else none) else none) else none) (fun ⟨x5941,x5945,x5949,x5950⟩=>Zz a1 a2 a3 a4 k x5941 x5945 x5949 (IntKind.i64.wrap (x3434 + (1:Int))) x5950)) else some (x3429,x3433))
theorem Zz.mono {a1:(List (List QW))} {a2:(List Int)} {a3:(List Qf)} {a4:Int}:∀ {kl:Nat} {x0 x1 x2 x3 x4},OLe (Zz a1 a2 a3 a4 kl x0 x1 x2 x3 x4) (Zz a1 a2 a3 a4 (kl + 1) x0 x1 x2 x3 x4):=by
 intro kl
 induction kl with
 | zero=>intros; exact OLe.none
 | succ kl ih =>
  intros
  rw [Zz.eq_2,Zz.eq_2]
  have m1:=@XW.mono
  have m2:=@Zd.mono
  have m3:=@Yh.mono
  have m4:=@Zb.mono
  exact mo
def Yc (k:Nat) (a0:Qo) (a1:(List (List QW))) (a2:(List Int)) (a3:(List Qf)) (a4:Int):Option (Bool) :=
 (Option.bind (ZP k ) (fun t4=>(Option.bind (α:=Bool) (if (!t4) = true then some (true) else (Option.bind (ZW k a1 ([]:(List QG))) (fun t16=>some (t16)))) (fun x14=>(if ((x14 || (decide ((a2.length:Int) > (12:Int)))) || (decide ((a3.length:Int) > (20:Int)))) = true then (Option.bind (ZP k ) (fun t23=>some t23)) else (Option.bind (Yk k a0) (fun t26=>(Sum.elim (fun t28=>some true) (fun t29=>(Option.bind (XU k a0 a1) (fun t52=>(if ((!t52) || ((a1.length:Int) == (0:Int))) = true then some true else (if 0 ≤ (a1.length:Int) ∧ (a1.length:Int) ≤ (a1.length:Int) ∧ (a1.length:Int) * 8 ≤ 140737488355328 ∧ (a1.length:Int) ≤ 9223372036854775807 then (Option.bind (Zz a1 a2 a3 a4 k (List.replicate (a1.length:Int).toNat (0:Int)) ([]:List QG) true (0:Int) t29) (fun ⟨x5113,x5117⟩=>(Option.bind (ZW k ([]:(List (List QW))) x5113) (fun t6789=>(if t6789 = true then some true else (Option.bind (YD k a0 a1 x5113) (fun t6793=>some ((t6793.2 == (0:Int)) && (t6793.1 == x5117))))))))) else none)))))) t26)))))))
theorem Yc.mono {k:Nat} {a0:Qo} {a1:(List (List QW))} {a2:(List Int)} {a3:(List Qf)} {a4:Int}:OLe (Yc k a0 a1 a2 a3 a4) (Yc (k + 1) a0 a1 a2 a3 a4):=by
 unfold Yc
 have m1:=@Zz.mono
 have m2:=@ZW.mono
 have m3:=@ZP.mono
 have m4:=@Yk.mono
 have m5:=@YD.mono
 have m6:=@XU.mono
 exact mo
theorem Yc.con (k:Nat) (M:Hp) (a0:Qo) (A1:Option Addr) (c1:Nat) (a1:(List (List QW))) (A2:Option Addr) (c2:Nat) (a2:(List Int)) (A3:Option Addr) (c3:Nat) (a3:(List Qf)) (a4:Int) (r:Bool) (hr1:SlR (rSl ZV) M (.slice A1 a1.length c1) a1) (hr2:SlR (rInt .i64) M (.slice A2 a2.length c2) a2) (hr3:SlR Vu M (.slice A3 a3.length c3) a3) (hg0:∃ gt fr,M 0 = some (.cells cz1 gt fr)) (hg1:∃ gt fr,M 1 = some (.cells cz3 gt fr)) (h:Yc k a0 a1 a2 a3 a4 = some r):Con Tryd.prog 4 #[.agg #[vI a0.Tasks,vI a0.Active,vI a0.Keys,vI a0.Depth,vI a0.TS,vI a0.KeyLen,vI a0.ValLen,vI a0.Fan],.slice A1 a1.length c1,.slice A2 a2.length c2,.slice A3 a3.length c3,.int .u64 a4] M [] (fun v M' Γ'=>v = .bool r ∧ Γ' = []):=by
 refine Qa Tryd.func4 rfl Tryd.ntmps4 Tryd.results4 rfl ?_
 intro w F rn S hrn
 have E:=Ext.refl w
 have HM:=Hp.le_refl M
 have H:=h
 unfold Yc at H
 refine QE (QA ?_)
 refine YO S #[vI a0.Tasks,vI a0.Active,vI a0.Keys,vI a0.Depth,vI a0.TS,vI a0.KeyLen,vI a0.ValLen,vI a0.Fan] rfl rfl rfl ?_
 intro b1 w2 E' S
 replace E:=E.trans E'
 refine W_v (.bool false) (QD rfl) rfl (QB (tn (QE (QE (QA ?_)))))
 obtain ⟨t4,ht5,H⟩:=QX H
 refine YJ fn9 (ZP.con k M  t4 hg0 hg1 ht5) S rfl rfl (by rintro _ _ _ ⟨_,rfl⟩; exact Qd) ?_
 rintro _ w6 _ Γ' E' S ⟨rfl,rfl⟩
 replace E:=E.trans E'
 refine W_v (.bool (!t4)) (Yx (b:=t4) rfl) rfl (W_v (.bool (!t4)) (QC rfl) rfl ?_)
 obtain ⟨o15,o15h,o15H⟩:=QX H
 refine ZI 3 (fun ρ w'=>∃ (x14:Bool),(x14) = o15 ∧ Qs ρ [(1,.slice A1 a1.length c1),(2,.slice A2 a2.length c2),(3,.slice A3 a3.length c3),(4,.int .u64 a4),(5,pt b1 0),(27,.bool x14)] ∧ Ext w w' ∧ St w' M F [B23 b1 a0]) ?_ ?_
 ·have H:=o15h
  rcases Zh H with ⟨hb13,H⟩ | ⟨hb13,H⟩
  ·skip
   refine Qk (skF hb13) rfl (Qk (skF hb13) rfl (W_v (.bool true) (QZ (k:=true) (congrArg Value.bool hb13) rfl) rfl (QB ?_)))
   exact ⟨true,Option.some.inj H,⟨rfl,rfl,rfl,rfl,rfl,rfl,trivial⟩,E,S.pick [0] (by decide)⟩
  ·skip
   refine QU (congrArg some hb13) (W_v (.slice A1 a1.length c1) (QC rfl) rfl (QU (congrArg some hb13) ?_))
   obtain ⟨t16,ht17,H⟩:=QX H
   refine YJ fn8 (ZW.con k M A1 c1 a1 none 0 ([]:(List QG)) t16 hr1 (SlW.nil _ _) ht17) S rfl rfl (by rintro _ _ _ ⟨_,rfl⟩; exact Qd) ?_
   rintro _ w18 _ Γ' E' S ⟨rfl,rfl⟩
   replace E:=E.trans E'
   refine W_v (.bool t16) (QZ (k:=false) (congrArg Value.bool hb13) rfl) rfl (QB ?_)
   exact ⟨t16,Option.some.inj H,⟨rfl,rfl,rfl,rfl,rfl,rfl,trivial⟩,E,S.pick [0] (by decide)⟩
 as_aux_lemma =>
 rintro ρ w19 ⟨x14,rfl,hρ,E,S⟩
 rw [QN hρ]
 have H:=o15H
 refine W_v (.bool x14) (QC rfl) rfl ?_
 refine ZI 4 (fun ρ w'=>Qs ρ [(1,.slice A1 a1.length c1),(2,.slice A2 a2.length c2),(3,.slice A3 a3.length c3),(4,.int .u64 a4),(5,pt b1 0),(32,.bool (x14 || (decide ((a2.length:Int) > (12:Int)))))] ∧ w19 = w') ?_ ?_
 ·rcases Qw x14 with hb20 | hb20
  ·skip
   refine QU (congrArg some hb20) (W_v (.slice A2 a2.length c2) (QC rfl) rfl (QU (congrArg some hb20) (W_v (vI (a2.length:Int)) (Qt (n:=a2.length) Tryd.underlying36 rfl) rfl (QU (congrArg some hb20) (W_v (.bool (decide ((a2.length:Int) > (12:Int)))) (QT rfl rfl rfl rfl) rfl (W_v (.bool (decide ((a2.length:Int) > (12:Int)))) (QZ (k:=false) (congrArg Value.bool hb20) rfl) rfl (QB ?_)))))))
   exact ⟨⟨rfl,rfl,rfl,rfl,rfl,(by first | rfl | (rw [hb20]; rfl) | (simp only [hb20]; rfl)),trivial⟩,rfl⟩
  ·skip
   refine Qk (skF hb20) rfl (Qk (skF hb20) rfl (Qk (skF hb20) rfl (W_v (.bool true) (QZ (k:=true) (congrArg Value.bool hb20) rfl) rfl (QB ?_))))
   exact ⟨⟨rfl,rfl,rfl,rfl,rfl,(by first | rfl | (rw [hb20]; rfl) | (simp only [hb20]; rfl)),trivial⟩,rfl⟩
 as_aux_lemma =>
 rintro ρ _ ⟨hρ,rfl⟩
 rw [QN hρ]
 refine W_v (.bool (x14 || (decide ((a2.length:Int) > (12:Int))))) (QC rfl) rfl ?_
 refine ZI 4 (fun ρ w'=>Qs ρ [(1,.slice A1 a1.length c1),(2,.slice A2 a2.length c2),(3,.slice A3 a3.length c3),(4,.int .u64 a4),(5,pt b1 0),(37,.bool ((x14 || (decide ((a2.length:Int) > (12:Int)))) || (decide ((a3.length:Int) > (20:Int)))))] ∧ w19 = w') ?_ ?_
 ·rcases Qw (x14 || (decide ((a2.length:Int) > (12:Int)))) with hb21 | hb21
  ·skip
   refine QU (congrArg some hb21) (W_v (.slice A3 a3.length c3) (QC rfl) rfl (QU (congrArg some hb21) (W_v (vI (a3.length:Int)) (Qt (n:=a3.length) Tryd.underlying37 rfl) rfl (QU (congrArg some hb21) (W_v (.bool (decide ((a3.length:Int) > (20:Int)))) (QT rfl rfl rfl rfl) rfl (W_v (.bool (decide ((a3.length:Int) > (20:Int)))) (QZ (k:=false) (congrArg Value.bool hb21) rfl) rfl (QB ?_)))))))
   exact ⟨⟨rfl,rfl,rfl,rfl,rfl,(by first | rfl | (rw [hb21]; rfl) | (simp only [hb21]; rfl)),trivial⟩,rfl⟩
  ·skip
   refine Qk (skF hb21) rfl (Qk (skF hb21) rfl (Qk (skF hb21) rfl (W_v (.bool true) (QZ (k:=true) (congrArg Value.bool hb21) rfl) rfl (QB ?_))))
   exact ⟨⟨rfl,rfl,rfl,rfl,rfl,(by first | rfl | (rw [hb21]; rfl) | (simp only [hb21]; rfl)),trivial⟩,rfl⟩
 as_aux_lemma =>
 rintro ρ _ ⟨hρ,rfl⟩
 rw [QN hρ]
 refine QB (tn ?_)
 rcases Zh H with ⟨hb22,H⟩ | ⟨hb22,H⟩
 ·refine QL (congrArg Value.bool hb22) ?_
  refine QE (QA ?_)
  obtain ⟨t23,ht24,H⟩:=QX H
  refine YJ fn9 (ZP.con k M  t23 hg0 hg1 ht24) S rfl rfl (by rintro _ _ _ ⟨_,rfl⟩; exact Qd) ?_
  rintro _ w25 _ Γ' E' S ⟨rfl,rfl⟩
  replace E:=E.trans E'
  refine W_v (.bool t23) (QD rfl) rfl (QB (tn ?_))
  refine QY ?_
  refine tr (?_)
  obtain rfl:=Option.some.inj H
  exact ⟨_,_,_,fun w1 e1=>QO (vs:=[.bool t23]) (FA.cons (rfl) (FA.nil)),HM,E,S.pick [] (by decide),⟨rfl,rfl⟩⟩
 refine QJ (congrArg Value.bool hb22) (Qg (tn (QE (QA (W_v (.agg #[vI a0.Tasks,vI a0.Active,vI a0.Keys,vI a0.Depth,vI a0.TS,vI a0.KeyLen,vI a0.ValLen,vI a0.Fan]) (Qh (S.blk 0 rfl) ty23 rfl (QI rfl) rfl rfl) rfl ?_)))))
 obtain ⟨t26,ht27,H⟩:=QX H
 rcases t26 with t28 | t29
 ·skip
  replace H:=elimL H
  refine Z2 fn13 (Yk.con k M a0 (Sum.inl t28)  ht27) (Γ1:=[]) (Γ2:=[_]) S rfl rfl (by rintro _ _ _ ⟨rfl,rfl⟩; exact Qd) ?_
  rintro _ w30 _ Γ' E' S ⟨rfl,rfl⟩
  replace E:=E.trans E'
  replace S:St w30 M F [_]:=S
  refine W_v (.tuple cz17) (QC rfl) rfl (W_v (.pointer none) (QQ rfl rfl) rfl (W_v (vI 1) (QQ rfl rfl) rfl (W_v (.pointer none) (QD rfl) rfl (W_v (vI 1) (QD rfl) rfl (QB (tn (QE (QE (QA (W_v (vI 1) (QC rfl) rfl (W_v (.bool true) (QT rfl rfl rfl rfl) rfl (W_v (.bool true) (QC rfl) rfl (Qk (rfl) rfl (Qk (rfl) rfl (Qk (rfl) rfl ?_)))))))))))))))
  refine Qk (rfl) rfl (W_v (.bool true) (QZ (k:=true) rfl rfl) rfl (W_v (.bool true) (QC rfl) rfl (Qk (rfl) rfl (Qk (rfl) rfl (Qk (rfl) rfl (W_v (.bool true) (QZ (k:=true) rfl rfl) rfl (QB (tn (QL rfl (QE (QA (W_v (.bool true) (QD rfl) rfl (QB (tn ?_))))))))))))))
  refine QY ?_
  refine tr (?_)
  obtain rfl:=Option.some.inj H
  exact ⟨_,_,_,fun w1 e1=>QO (vs:=[.bool true]) (FA.cons (rfl) (FA.nil)),HM,E,S.pick [] (by decide),⟨rfl,rfl⟩⟩
 ·skip
  replace H:=elimR H
  refine ZZ fn13 (Yk.con k M a0 (Sum.inr t29)  ht27) (Γ1:=[]) (Γ2:=[_]) S rfl rfl ?_
  rintro _ w49 M50 Γ' hM51 E' S ⟨b33,A35,c36,A38,c39,A41,c42,A44,c45,vs47,rfl,hm48,rfl⟩
  replace hg0:=gup hg0 hM51
  replace hg1:=gup hg1 hM51
  replace HM:=Hp.le_trans HM hM51
  replace hr1:=SlR.mono hr1 hM51
  replace hr2:=SlR.mono hr2 hM51
  replace hr3:=SlR.mono hr3 hM51
  replace E:=E.trans E'
  replace S:St w49 M50 F [_,_,_,_,_,_]:=S
  refine W_v (.tuple #[pt b33 0,vI 0]) (QC rfl) rfl (W_v (pt b33 0) (QQ rfl rfl) rfl (W_v (vI 0) (QQ rfl rfl) rfl (W_v (pt b33 0) (QD rfl) rfl (W_v (vI 0) (QD rfl) rfl (QB (tn (QE (QE (QA (W_v (vI 0) (QC rfl) rfl (W_v (.bool false) (QT rfl rfl rfl rfl) rfl (W_v (.bool false) (QC rfl) rfl (QU (rfl) (W_v (.agg #[vI a0.Tasks,vI a0.Active,vI a0.Keys,vI a0.Depth,vI a0.TS,vI a0.KeyLen,vI a0.ValLen,vI a0.Fan]) (Qh (S.blk 5 rfl) ty23 rfl (QI rfl) rfl rfl) rfl (QU (rfl) ?_)))))))))))))))
  refine W_v (.slice A1 a1.length c1) (QC rfl) rfl (QU (rfl) ?_)
  obtain ⟨t52,ht53,H⟩:=QX H
  refine YJ fn14 (XU.con k M50 a0 A1 c1 a1 t52 hr1 ht53) S rfl rfl (by rintro _ _ _ ⟨_,rfl⟩; exact Qd) ?_
  rintro _ w54 _ Γ' E' S ⟨rfl,rfl⟩
  replace E:=E.trans E'
  refine QU (rfl) (W_v (.bool (!t52)) (Yx (b:=t52) rfl) rfl (W_v (.bool (!t52)) (QZ (k:=false) rfl rfl) rfl (W_v (.bool (!t52)) (QC rfl) rfl ?_)))
  refine ZI 4 (fun ρ w'=>Qs ρ [(1,.slice A1 a1.length c1),(2,.slice A2 a2.length c2),(3,.slice A3 a3.length c3),(4,.int .u64 a4),(5,pt b1 0),(11,pt b33 0),(56,.bool ((!t52) || ((a1.length:Int) == (0:Int))))] ∧ w54 = w') ?_ ?_
  ·rcases Qw (!t52) with hb55 | hb55
   ·skip
    refine QU (congrArg some hb55) (W_v (.slice A1 a1.length c1) (QC rfl) rfl (QU (congrArg some hb55) (W_v (vI (a1.length:Int)) (Qt (n:=a1.length) Tryd.underlying24 rfl) rfl (QU (congrArg some hb55) (W_v (.bool ((a1.length:Int) == (0:Int))) (QT rfl rfl rfl rfl) rfl (W_v (.bool ((a1.length:Int) == (0:Int))) (QZ (k:=false) (congrArg Value.bool hb55) rfl) rfl (QB ?_)))))))
    exact ⟨⟨rfl,rfl,rfl,rfl,rfl,rfl,(by first | rfl | (rw [hb55]; rfl) | (simp only [hb55]; rfl)),trivial⟩,rfl⟩
   ·skip
    refine Qk (skF hb55) rfl (Qk (skF hb55) rfl (Qk (skF hb55) rfl (W_v (.bool true) (QZ (k:=true) (congrArg Value.bool hb55) rfl) rfl (QB ?_))))
    exact ⟨⟨rfl,rfl,rfl,rfl,rfl,rfl,(by first | rfl | (rw [hb55]; rfl) | (simp only [hb55]; rfl)),trivial⟩,rfl⟩
  as_aux_lemma =>
  rintro ρ _ ⟨hρ,rfl⟩
  rw [QN hρ]
  refine QB (tn ?_)
  rcases Zh H with ⟨hb56,H⟩ | ⟨hb56,H⟩
  ·refine QL (congrArg Value.bool hb56) ?_
   refine QE (QA (W_v (.bool true) (QD rfl) rfl (QB (tn ?_))))
   refine QY ?_
   refine tr (?_)
   obtain rfl:=Option.some.inj H
   exact ⟨_,_,_,fun w1 e1=>QO (vs:=[.bool true]) (FA.cons (rfl) (FA.nil)),HM,E,S.pick [] (by decide),⟨rfl,rfl⟩⟩
  refine QJ (congrArg Value.bool hb56) (Qg (tn (QE (QA (W_v (.slice A1 a1.length c1) (QC rfl) rfl (W_v (vI (a1.length:Int)) (Qt (n:=a1.length) Tryd.underlying24 rfl) rfl ?_))))))
  obtain ⟨⟨p57,p58,p59,p60⟩,H⟩:=Zt H
  refine Vn (r:=(rInt .i64)) S (0:Int) Tryd.underlying36 ty3 rfl (by decide) (fun _=>rfl) rfl rfl p57 p58 p59 p60 rfl ?_
  intro b61 w62 E' S
  replace E:=E.trans E'
  refine W_v (.slice (some ⟨b61,0,none⟩) (List.replicate (a1.length:Int).toNat (0:Int)).length ((a1.length:Int).toNat)) (QD rfl) rfl (QB (tn (QE (QA (W_v (.slice none 0 0) (QD rfl) rfl (QB (tn (QE (QA (W_v (.bool true) (QD rfl) rfl (QB (tn (QE (QE (QA ?_)))))))))))))))
  refine W_v (vI 0) (QD rfl) rfl (QB (tn ?_))
  obtain ⟨o5118,o5118h,o5118H⟩:=QX H
  refine Ya (fun ρ w'=>∃ (x5113:List QG) (x5117:Bool) (A5114:Option Addr) (c5115:Nat) (Mj:Hp),(x5113,x5117) = o5118 ∧ Qs ρ [(1,.slice A1 a1.length c1),(5,pt b1 0),(14,.slice A5114 x5113.length c5115),(15,.bool x5117)] ∧ M50.le Mj ∧ Ext w w' ∧ St w' Mj F [Row QK 55 (.slice A5114 x5113.length c5115) x5113,B23 b1 a0]) ?_ ?_
  ·skip
   refine Y0 (fun n ρ w'=>∃ (x3425:List Int) (x3429:List QG) (x3433:Bool) (x3434:Int) (x3435:QM) (A3426:Option Addr) (c3427:Nat) (A3430:Option Addr) (c3431:Nat) (A3436:Option Addr) (c3437:Nat) (A3439:Option Addr) (c3440:Nat) (A3442:Option Addr) (c3443:Nat) (A3445:Option Addr) (c3446:Nat) (vs3448:List (Str × Value)) (Mj:Hp),Zz a1 a2 a3 a4 n x3425 x3429 x3433 x3434 x3435 = some o5118 ∧ Qs ρ [(1,.slice A1 a1.length c1),(2,.slice A2 a2.length c2),(3,.slice A3 a3.length c3),(4,.int .u64 a4),(5,pt b1 0),(11,pt b33 0),(13,.slice A3426 x3425.length c3427),(14,.slice A3430 x3429.length c3431),(15,.bool x3433),(16,vI x3434)] ∧ M50.le Mj ∧ Ext w w' ∧ St w' Mj F [QV encS (fun v:Value=>v) A3445 vs3448,Row QP 122 (.slice A3442 x3435.txs.length c3443) x3435.txs,QV (Value.int .i64) (Value.int .i64) A3439 x3435.many,QV QH (Value.int .i64) A3436 x3435.names,Row QK 55 (.slice A3430 x3429.length c3431) x3429,Row (rInt .i64) 3 (.slice A3426 x3425.length c3427) x3425,B95 b33 x3435 A3436 A3439 A3442 c3443 A3445,B23 b1 a0] ∧ YP Qm Mj x3435.rows vs3448) k ?_ ?_
   ·skip
    replace S:=S.row_nil QK 55
    exact ⟨(List.replicate (a1.length:Int).toNat (0:Int)),([]:List QG),true,(0:Int),t29,(some ⟨b61,0,none⟩),((a1.length:Int).toNat),none,0,A35,c36,A38,c39,A41,c42,A44,c45,vs47,M50,o5118h,⟨rfl,rfl,rfl,rfl,rfl,rfl,rfl,rfl,rfl,rfl,trivial⟩,(Hp.le_refl M50),E,S.pick [6,5,4,3,0,1,2,7] (by decide),hm48⟩
   ·intro n
    rintro ρ w5120 ⟨x3425,x3429,x3433,x3434,x3435,A3426,c3427,A3430,c3431,A3436,c3437,A3439,c3440,A3442,c3443,A3445,c3446,vs3448,M5121,H,hρ,hM5122,E,S,hm3449⟩
    rw [QN hρ]
    replace hg0:=gup hg0 hM5122
    replace hg1:=gup hg1 hM5122
    replace HM:=Hp.le_trans HM hM5122
    replace hr1:=SlR.mono hr1 hM5122
    replace hr2:=SlR.mono hr2 hM5122
    replace hr3:=SlR.mono hr3 hM5122
    cases n with
    | zero=>cases H
    | succ k =>
     rw [Zz.eq_2] at H
     refine QE (QE (QA (W_v (vI x3434) (QC rfl) rfl (W_v (.slice A2 a2.length c2) (QC rfl) rfl (W_v (vI (a2.length:Int)) (Qt (n:=a2.length) Tryd.underlying36 rfl) rfl (W_v (.bool (decide (x3434 < (a2.length:Int)))) (QT rfl rfl rfl rfl) rfl (QB (tn ?_))))))))
     rcases Zh H with ⟨hb5123,H⟩ | ⟨hb5123,H⟩
     ·refine QL (congrArg Value.bool hb5123) ?_
      refine Qg (tn (QE ?_))
      obtain ⟨o5965,o5965h,o5965H⟩:=QX H
      refine Xg (fun ρ w'=>∃ (x5941:List Int) (x5945:List QG) (x5949:Bool) (x5950:QM) (A5942:Option Addr) (c5943:Nat) (A5946:Option Addr) (c5947:Nat) (A5951:Option Addr) (c5952:Nat) (A5954:Option Addr) (c5955:Nat) (A5957:Option Addr) (c5958:Nat) (A5960:Option Addr) (c5961:Nat) (vs5963:List (Str × Value)) (Mj:Hp),(x5941,x5945,x5949,x5950) = o5965 ∧ Qs ρ [(1,.slice A1 a1.length c1),(2,.slice A2 a2.length c2),(3,.slice A3 a3.length c3),(4,.int .u64 a4),(5,pt b1 0),(11,pt b33 0),(13,.slice A5942 x5941.length c5943),(14,.slice A5946 x5945.length c5947),(15,.bool x5949),(16,vI x3434)] ∧ M5121.le Mj ∧ Ext w w' ∧ St w' Mj F [QV encS (fun v:Value=>v) A5960 vs5963,Row QP 122 (.slice A5957 x5950.txs.length c5958) x5950.txs,QV (Value.int .i64) (Value.int .i64) A5954 x5950.many,QV QH (Value.int .i64) A5951 x5950.names,Row QK 55 (.slice A5946 x5945.length c5947) x5945,Row (rInt .i64) 3 (.slice A5942 x5941.length c5943) x5941,B95 b33 x5950 A5951 A5954 A5957 c5958 A5960,B23 b1 a0] ∧ YP Qm Mj x5950.rows vs5963) ?_ ?_
      ·as_aux_lemma =>
        clear o5965H
        have H:=o5965h
        have LE5966:=Hp.le_refl M5121
        refine Z0 ?_
        refine QE (QA (W_v (.slice A2 a2.length c2) (QC rfl) rfl (W_v (vI x3434) (QC rfl) rfl ?_)))
        obtain ⟨⟨p5967,p5968⟩,H⟩:=Zt H
        obtain ⟨b5969,o5970,cs5971,_,_,ee5976,hb5972,vs5973,hR5974,hc5975⟩:=SlW.at' hr2 p5967 p5968
        obtain rfl:vs5973 = _:=hR5974
        refine W_v (.pointer (some ⟨b5969,o5970 + x3434.toNat * 1,none⟩)) (Qe Tryd.underlying36 ty3 (slA ee5976) rfl p5967 p5968) rfl (W_v (vI (rd a2 x3434)) (QR (S.frz hb5972) ty3 rfl (hc5975 0 _ rfl)) rfl (W_v (.int .u64 (IntKind.u64.wrap (rd a2 x3434))) (XD Tryd.underlying3 Tryd.underlying43 rfl) rfl (W_v (.slice A1 a1.length c1) (QC rfl) rfl (W_v (vI (a1.length:Int)) (Qt (n:=a1.length) Tryd.underlying24 rfl) rfl (W_v (.int .u64 (IntKind.u64.wrap (a1.length:Int))) (XD Tryd.underlying3 Tryd.underlying43 rfl) rfl ?_)))))
        obtain ⟨p5977,H⟩:=Zt H
        refine W_v (.int .u64 (Int.tmod (IntKind.u64.wrap (rd a2 x3434)) (IntKind.u64.wrap (a1.length:Int)))) (Je rfl rfl p5977) rfl (W_v (vI (IntKind.i64.wrap (Int.tmod (IntKind.u64.wrap (rd a2 x3434)) (IntKind.u64.wrap (a1.length:Int))))) (XD Tryd.underlying43 Tryd.underlying3 rfl) rfl (W_v (vI (IntKind.i64.wrap (Int.tmod (IntKind.u64.wrap (rd a2 x3434)) (IntKind.u64.wrap (a1.length:Int))))) (QD rfl) rfl (QB (tn (QE (QE ?_))))))
        refine Ql (S:=fun w'=>∃ Mx,M5121.le Mx ∧ St w' Mx F [QV encS (fun v:Value=>v) A3445 vs3448,Row QP 122 (.slice A3442 x3435.txs.length c3443) x3435.txs,QV (Value.int .i64) (Value.int .i64) A3439 x3435.many,QV QH (Value.int .i64) A3436 x3435.names,Row QK 55 (.slice A3430 x3429.length c3431) x3429,Row (rInt .i64) 3 (.slice A3426 x3425.length c3427) x3425,B95 b33 x3435 A3436 A3439 A3442 c3443 A3445,B23 b1 a0]) (L:=10) mixed ?_
        intro w5997 hw5998 E'
        replace S:=S.heap hw5998
        replace E:=E.trans E'
        have D1:∃ Mx,Hp.le M5121 Mx ∧ St _ Mx F [_,_,_,_,_,_,_,_]:=⟨_,Hp.le_refl _,S.pick [0,1,2,3,4,5,6,7] (by decide)⟩
        refine Wt 0 rfl rfl rfl (.slice A3426 x3425.length c3427) rfl (fun w' h'=>QC rfl) D1 (Wt 1 rfl rfl rfl (vI (IntKind.i64.wrap (Int.tmod (IntKind.u64.wrap (rd a2 x3434)) (IntKind.u64.wrap (a1.length:Int))))) rfl (fun w' h'=>QC rfl) D1 ?_)
        obtain ⟨⟨p5999,p6000⟩,H⟩:=Zt H
        obtain ⟨b6001,o6002,_,_,_,ee6003,_⟩:=SlW.at' (S.row_read 5 rfl) p5999 p6000
        refine Wt 2 rfl rfl rfl (.pointer (some ⟨b6001,o6002 + (IntKind.i64.wrap (Int.tmod (IntKind.u64.wrap (rd a2 x3434)) (IntKind.u64.wrap (a1.length:Int)))).toNat * 1,none⟩)) rfl (fun w' h'=>Qe Tryd.underlying36 ty3 (slA ee6003) rfl p5999 p6000) D1 (Wt 3 rfl rfl rfl (vI (rd x3425 (IntKind.i64.wrap (Int.tmod (IntKind.u64.wrap (rd a2 x3434)) (IntKind.u64.wrap (a1.length:Int)))))) rfl (fun w' h'=>Xp h' 5 rfl ee6003 p5999 p6000 0 (by rintro _ _ rfl; rfl) ty3 rfl) D1 (Wt 4 rfl rfl rfl (.slice A1 a1.length c1) rfl (fun w' h'=>QC rfl) D1 (Wt 5 rfl rfl rfl (vI (IntKind.i64.wrap (Int.tmod (IntKind.u64.wrap (rd a2 x3434)) (IntKind.u64.wrap (a1.length:Int))))) rfl (fun w' h'=>QC rfl) D1 ?_)))
        obtain ⟨⟨p6004,p6005⟩,H⟩:=Zt H
        obtain ⟨b6006,o6007,cs6008,_,_,ee6013,hb6009,vs6010,hR6011,hc6012⟩:=SlW.at' hr1 p6004 p6005
        obtain ⟨v6017,hs6016,rfl⟩:=hR6011
        obtain ⟨A6014,c6015,rfl,_⟩:=hs6016.form
        refine Wt 6 rfl rfl rfl (.pointer (some ⟨b6006,o6007 + (IntKind.i64.wrap (Int.tmod (IntKind.u64.wrap (rd a2 x3434)) (IntKind.u64.wrap (a1.length:Int)))).toNat * 1,none⟩)) rfl (fun w' h'=>Qe Tryd.underlying24 ty44 (slA ee6013) rfl p6004 p6005) D1 (Wt 7 rfl rfl rfl (.slice A6014 (rd a1 (IntKind.i64.wrap (Int.tmod (IntKind.u64.wrap (rd a2 x3434)) (IntKind.u64.wrap (a1.length:Int))))).length c6015) rfl (fun w' h'=>QR (Y5 h' hb6009) ty44 rfl (hc6012 0 _ rfl)) D1 (Wt 8 rfl rfl rfl (vI ((rd a1 (IntKind.i64.wrap (Int.tmod (IntKind.u64.wrap (rd a2 x3434)) (IntKind.u64.wrap (a1.length:Int))))).length:Int)) rfl (fun w' h'=>Qt (n:=(rd a1 (IntKind.i64.wrap (Int.tmod (IntKind.u64.wrap (rd a2 x3434)) (IntKind.u64.wrap (a1.length:Int))))).length) Tryd.underlying44 rfl) D1 (Wt 9 rfl rfl rfl (.bool (decide ((rd x3425 (IntKind.i64.wrap (Int.tmod (IntKind.u64.wrap (rd a2 x3434)) (IntKind.u64.wrap (a1.length:Int))))) ≥ ((rd a1 (IntKind.i64.wrap (Int.tmod (IntKind.u64.wrap (rd a2 x3434)) (IntKind.u64.wrap (a1.length:Int))))).length:Int)))) rfl (fun w' h'=>QT rfl rfl rfl rfl) D1 ?_)))
        refine Wz ?_
        refine tn ?_
        rcases Zh H with ⟨hb6018,H⟩ | ⟨hb6018,H⟩
        ·refine QL (congrArg Value.bool hb6018) ?_
         refine Yo ?_
         refine tx (bsm (?_))
         refine tn ?_
         exact ⟨x3425,x3429,x3433,x3435,A3426,c3427,A3430,c3431,A3436,c3437,A3439,c3440,A3442,c3443,A3445,c3446,vs3448,M5121,Option.some.inj H,⟨rfl,rfl,rfl,rfl,rfl,rfl,rfl,rfl,rfl,rfl,trivial⟩,(Hp.le_refl M5121),E,S.pick [0,1,2,3,4,5,6,7] (by decide),hm3449⟩
        refine QJ (congrArg Value.bool hb6018) (Qg (tn ?_))
        as_aux_lemma =>
        refine QE ?_
        refine Ql (S:=fun w'=>∃ Mx,M5121.le Mx ∧ St w' Mx F [Row QK 55 (.slice A3430 x3429.length c3431) x3429,Row (rInt .i64) 3 (.slice A3426 x3425.length c3427) x3425,B23 b1 a0]) (L:=14) mixed ?_
        intro w6291 hw6292 E'
        replace S:=S.heap hw6292
        replace E:=E.trans E'
        have hr1z:=hr1
        have D2:∃ Mx,Hp.le M5121 Mx ∧ St _ Mx F [_,_,_]:=⟨_,Hp.le_refl _,S.pick [4,5,7] (by decide)⟩
        refine Wt 0 rfl rfl rfl (pt b33 0) rfl (fun w' h'=>QC rfl) D2 (Wt 1 rfl rfl rfl (vI (IntKind.i64.wrap (Int.tmod (IntKind.u64.wrap (rd a2 x3434)) (IntKind.u64.wrap (a1.length:Int))))) rfl (fun w' h'=>QC rfl) D2 (Wt 2 rfl rfl rfl (.slice A1 a1.length c1) rfl (fun w' h'=>QC rfl) D2 (Wt 3 rfl rfl rfl (vI (IntKind.i64.wrap (Int.tmod (IntKind.u64.wrap (rd a2 x3434)) (IntKind.u64.wrap (a1.length:Int))))) rfl (fun w' h'=>QC rfl) D2 ?_)))
        obtain ⟨⟨p6293,p6294⟩,H⟩:=Zt H
        obtain ⟨b6295,o6296,cs6297,_,_,ee6302,hb6298,vs6299,hR6300,hc6301⟩:=SlW.at' hr1z p6293 p6294
        obtain ⟨v6306,hs6305,rfl⟩:=hR6300
        obtain ⟨A6303,c6304,rfl,_⟩:=hs6305.form
        have hs6305z:=hs6305
        refine Wt 4 rfl rfl rfl (.pointer (some ⟨b6295,o6296 + (IntKind.i64.wrap (Int.tmod (IntKind.u64.wrap (rd a2 x3434)) (IntKind.u64.wrap (a1.length:Int)))).toNat * 1,none⟩)) rfl (fun w' h'=>Qe Tryd.underlying24 ty44 (slA ee6302) rfl p6293 p6294) D2 (Wt 5 rfl rfl rfl (.slice A6303 (rd a1 (IntKind.i64.wrap (Int.tmod (IntKind.u64.wrap (rd a2 x3434)) (IntKind.u64.wrap (a1.length:Int))))).length c6304) rfl (fun w' h'=>QR (Y5 h' hb6298) ty44 rfl (hc6301 0 _ rfl)) D2 (Wt 6 rfl rfl rfl (.slice A3426 x3425.length c3427) rfl (fun w' h'=>QC rfl) D2 (Wt 7 rfl rfl rfl (vI (IntKind.i64.wrap (Int.tmod (IntKind.u64.wrap (rd a2 x3434)) (IntKind.u64.wrap (a1.length:Int))))) rfl (fun w' h'=>QC rfl) D2 ?_)))
        obtain ⟨⟨p6307,p6308⟩,H⟩:=Zt H
        obtain ⟨b6309,o6310,_,_,_,ee6311,_⟩:=SlW.at' (S.row_read 5 rfl) p6307 p6308
        refine Wt 8 rfl rfl rfl (.pointer (some ⟨b6309,o6310 + (IntKind.i64.wrap (Int.tmod (IntKind.u64.wrap (rd a2 x3434)) (IntKind.u64.wrap (a1.length:Int)))).toNat * 1,none⟩)) rfl (fun w' h'=>Qe Tryd.underlying36 ty3 (slA ee6311) rfl p6307 p6308) D2 (Wt 9 rfl rfl rfl (vI (rd x3425 (IntKind.i64.wrap (Int.tmod (IntKind.u64.wrap (rd a2 x3434)) (IntKind.u64.wrap (a1.length:Int)))))) rfl (fun w' h'=>Xp h' 1 rfl ee6311 p6307 p6308 0 (by rintro _ _ rfl; rfl) ty3 rfl) D2 ?_)
        obtain ⟨⟨p6312,p6313⟩,H⟩:=Zt H
        obtain ⟨b6314,o6315,cs6316,_,_,ee6321,hb6317,vs6318,hR6319,hc6320⟩:=SlW.at' hs6305z p6312 p6313
        obtain rfl:vs6318 = _:=hR6319
        refine Wt 10 rfl rfl rfl (.pointer (some ⟨b6314,o6315 + (rd x3425 (IntKind.i64.wrap (Int.tmod (IntKind.u64.wrap (rd a2 x3434)) (IntKind.u64.wrap (a1.length:Int))))).toNat * 7,none⟩)) rfl (fun w' h'=>Qe Tryd.underlying44 ty47 (slA ee6321) rfl p6312 p6313) D2 (Wt 11 rfl rfl rfl (.agg #[vU ((rd (rd a1 (IntKind.i64.wrap (Int.tmod (IntKind.u64.wrap (rd a2 x3434)) (IntKind.u64.wrap (a1.length:Int))))) (rd x3425 (IntKind.i64.wrap (Int.tmod (IntKind.u64.wrap (rd a2 x3434)) (IntKind.u64.wrap (a1.length:Int)))))).Kind),vI ((rd (rd a1 (IntKind.i64.wrap (Int.tmod (IntKind.u64.wrap (rd a2 x3434)) (IntKind.u64.wrap (a1.length:Int))))) (rd x3425 (IntKind.i64.wrap (Int.tmod (IntKind.u64.wrap (rd a2 x3434)) (IntKind.u64.wrap (a1.length:Int)))))).Tx),vS ((rd (rd a1 (IntKind.i64.wrap (Int.tmod (IntKind.u64.wrap (rd a2 x3434)) (IntKind.u64.wrap (a1.length:Int))))) (rd x3425 (IntKind.i64.wrap (Int.tmod (IntKind.u64.wrap (rd a2 x3434)) (IntKind.u64.wrap (a1.length:Int)))))).Key),vS ((rd (rd a1 (IntKind.i64.wrap (Int.tmod (IntKind.u64.wrap (rd a2 x3434)) (IntKind.u64.wrap (a1.length:Int))))) (rd x3425 (IntKind.i64.wrap (Int.tmod (IntKind.u64.wrap (rd a2 x3434)) (IntKind.u64.wrap (a1.length:Int)))))).End),vS ((rd (rd a1 (IntKind.i64.wrap (Int.tmod (IntKind.u64.wrap (rd a2 x3434)) (IntKind.u64.wrap (a1.length:Int))))) (rd x3425 (IntKind.i64.wrap (Int.tmod (IntKind.u64.wrap (rd a2 x3434)) (IntKind.u64.wrap (a1.length:Int)))))).Value),vI ((rd (rd a1 (IntKind.i64.wrap (Int.tmod (IntKind.u64.wrap (rd a2 x3434)) (IntKind.u64.wrap (a1.length:Int))))) (rd x3425 (IntKind.i64.wrap (Int.tmod (IntKind.u64.wrap (rd a2 x3434)) (IntKind.u64.wrap (a1.length:Int)))))).Limit),vU ((rd (rd a1 (IntKind.i64.wrap (Int.tmod (IntKind.u64.wrap (rd a2 x3434)) (IntKind.u64.wrap (a1.length:Int))))) (rd x3425 (IntKind.i64.wrap (Int.tmod (IntKind.u64.wrap (rd a2 x3434)) (IntKind.u64.wrap (a1.length:Int)))))).Engine)]) rfl (fun w' h'=>Qh (Y5 h' hb6317) ty47 rfl (XC hc6320 0 rfl) rfl rfl) D2 ?_)
        obtain ⟨o6498,o6498h,o6498H⟩:=QX H
        refine XK (fun ρ w'=>∃ (x6399:Int) (x6400:Bool) (x6401:Str) (x6402:List Qu) (x6406:QM) (A6403:Option Addr) (c6404:Nat) (A6407:Option Addr) (c6408:Nat) (A6410:Option Addr) (c6411:Nat) (A6413:Option Addr) (c6414:Nat) (A6416:Option Addr) (c6417:Nat) (vs6419:List (Str × Value)) (b6397:Nat) (Mj:Hp),(x6399,x6400,x6401,x6402,x6406) = o6498 ∧ Qs ρ [(1,.slice A1 a1.length c1),(2,.slice A2 a2.length c2),(3,.slice A3 a3.length c3),(4,.int .u64 a4),(5,pt b1 0),(11,pt b33 0),(13,.slice A3426 x3425.length c3427),(14,.slice A3430 x3429.length c3431),(15,.bool x3433),(16,vI x3434),(17,vI (IntKind.i64.wrap (Int.tmod (IntKind.u64.wrap (rd a2 x3434)) (IntKind.u64.wrap (a1.length:Int))))),(18,pt b6397 0),(98,.agg #[vI x6399,.bool x6400,vS x6401,.slice A6403 x6402.length c6404])] ∧ M5121.le Mj ∧ Ext w w' ∧ St w' Mj F [Blk b6397 (.cells cz13 34 (0,0)),QV encS (fun v:Value=>v) A6416 vs6419,Row QP 122 (.slice A6413 x6406.txs.length c6414) x6406.txs,QV (Value.int .i64) (Value.int .i64) A6410 x6406.many,QV QH (Value.int .i64) A6407 x6406.names,Row Qr 72 (.slice A6403 x6402.length c6404) x6402,B95 b33 x6406 A6407 A6410 A6413 c6414 A6416,Row QK 55 (.slice A3430 x3429.length c3431) x3429,Row (rInt .i64) 3 (.slice A3426 x3425.length c3427) x3425,B23 b1 a0] ∧ YP Qm Mj x6406.rows vs6419) 1 (Ls 15 [0,1,2,3,4,5,6,7,8,9,10,11,12,13]) ?_ ?_
        rotate_left
        ·intro hq6502
         refine XK (fun ρ w'=>∃ (b6373:Nat) (Mj:Hp),(Option.bind (Zb k x3435 (IntKind.i64.wrap (Int.tmod (IntKind.u64.wrap (rd a2 x3434)) (IntKind.u64.wrap (a1.length:Int)))) (rd (rd a1 (IntKind.i64.wrap (Int.tmod (IntKind.u64.wrap (rd a2 x3434)) (IntKind.u64.wrap (a1.length:Int))))) (rd x3425 (IntKind.i64.wrap (Int.tmod (IntKind.u64.wrap (rd a2 x3434)) (IntKind.u64.wrap (a1.length:Int))))))) (fun t6476=>some (t6476.1.Err,t6476.1.Found,t6476.1.Value,t6476.1.Pairs,t6476.2))) = some o6498 ∧ Qs ρ [(1,.slice A1 a1.length c1),(2,.slice A2 a2.length c2),(3,.slice A3 a3.length c3),(4,.int .u64 a4),(5,pt b1 0),(11,pt b33 0),(13,.slice A3426 x3425.length c3427),(14,.slice A3430 x3429.length c3431),(15,.bool x3433),(16,vI x3434),(17,vI (IntKind.i64.wrap (Int.tmod (IntKind.u64.wrap (rd a2 x3434)) (IntKind.u64.wrap (a1.length:Int))))),(18,pt b6373 0),(86,pt b33 0),(87,vI (IntKind.i64.wrap (Int.tmod (IntKind.u64.wrap (rd a2 x3434)) (IntKind.u64.wrap (a1.length:Int))))),(97,.agg #[vU ((rd (rd a1 (IntKind.i64.wrap (Int.tmod (IntKind.u64.wrap (rd a2 x3434)) (IntKind.u64.wrap (a1.length:Int))))) (rd x3425 (IntKind.i64.wrap (Int.tmod (IntKind.u64.wrap (rd a2 x3434)) (IntKind.u64.wrap (a1.length:Int)))))).Kind),vI ((rd (rd a1 (IntKind.i64.wrap (Int.tmod (IntKind.u64.wrap (rd a2 x3434)) (IntKind.u64.wrap (a1.length:Int))))) (rd x3425 (IntKind.i64.wrap (Int.tmod (IntKind.u64.wrap (rd a2 x3434)) (IntKind.u64.wrap (a1.length:Int)))))).Tx),vS ((rd (rd a1 (IntKind.i64.wrap (Int.tmod (IntKind.u64.wrap (rd a2 x3434)) (IntKind.u64.wrap (a1.length:Int))))) (rd x3425 (IntKind.i64.wrap (Int.tmod (IntKind.u64.wrap (rd a2 x3434)) (IntKind.u64.wrap (a1.length:Int)))))).Key),vS ((rd (rd a1 (IntKind.i64.wrap (Int.tmod (IntKind.u64.wrap (rd a2 x3434)) (IntKind.u64.wrap (a1.length:Int))))) (rd x3425 (IntKind.i64.wrap (Int.tmod (IntKind.u64.wrap (rd a2 x3434)) (IntKind.u64.wrap (a1.length:Int)))))).End),vS ((rd (rd a1 (IntKind.i64.wrap (Int.tmod (IntKind.u64.wrap (rd a2 x3434)) (IntKind.u64.wrap (a1.length:Int))))) (rd x3425 (IntKind.i64.wrap (Int.tmod (IntKind.u64.wrap (rd a2 x3434)) (IntKind.u64.wrap (a1.length:Int)))))).Value),vI ((rd (rd a1 (IntKind.i64.wrap (Int.tmod (IntKind.u64.wrap (rd a2 x3434)) (IntKind.u64.wrap (a1.length:Int))))) (rd x3425 (IntKind.i64.wrap (Int.tmod (IntKind.u64.wrap (rd a2 x3434)) (IntKind.u64.wrap (a1.length:Int)))))).Limit),vU ((rd (rd a1 (IntKind.i64.wrap (Int.tmod (IntKind.u64.wrap (rd a2 x3434)) (IntKind.u64.wrap (a1.length:Int))))) (rd x3425 (IntKind.i64.wrap (Int.tmod (IntKind.u64.wrap (rd a2 x3434)) (IntKind.u64.wrap (a1.length:Int)))))).Engine)])] ∧ M5121.le Mj ∧ Ext w w' ∧ St w' Mj F [Blk b6373 (.cells cz13 34 (0,0)),QV encS (fun v:Value=>v) A3445 vs3448,Row QP 122 (.slice A3442 x3435.txs.length c3443) x3435.txs,QV (Value.int .i64) (Value.int .i64) A3439 x3435.many,QV QH (Value.int .i64) A3436 x3435.names,Row QK 55 (.slice A3430 x3429.length c3431) x3429,Row (rInt .i64) 3 (.slice A3426 x3425.length c3427) x3425,B95 b33 x3435 A3436 A3439 A3442 c3443 A3445,B23 b1 a0]) 2 (Ls 15 [0,1,2,3,4,5,6,7,8,9,10,11,13]) ?_ ?_
         ·clear o6498h
          rintro ρ w6503 ⟨b6373,M6504,H,hρ,hM6505,E,S⟩
          rw [QN hρ]
          replace hg0:=gup hg0 hM6505
          replace hg1:=gup hg1 hM6505
          replace HM:=Hp.le_trans HM hM6505
          replace hm3449:=YP.mono hm3449 hM6505
          refine Wo 12 rfl ?_
          obtain ⟨t6507,ht6508,H⟩:=QX H
          replace S:St w6503 M6504 F [_,_,_,_,_,_,_,_,_]:=S.pick [7,4,3,2,1,0,5,6,8] (by decide)
          refine ZZ fn15 (Zb.con k M6504 A3436 c3437 A3439 c3440 A3442 c3443 A3445 c3446 vs3448 x3435 (IntKind.i64.wrap (Int.tmod (IntKind.u64.wrap (rd a2 x3434)) (IntKind.u64.wrap (a1.length:Int)))) (rd (rd a1 (IntKind.i64.wrap (Int.tmod (IntKind.u64.wrap (rd a2 x3434)) (IntKind.u64.wrap (a1.length:Int))))) (rd x3425 (IntKind.i64.wrap (Int.tmod (IntKind.u64.wrap (rd a2 x3434)) (IntKind.u64.wrap (a1.length:Int)))))) b33 t6507 hm3449 hg0 hg1 ht6508) (Γ1:=[_,_,_,_,_]) (Γ2:=[_,_,_,_]) S rfl rfl ?_
          rintro _ w6526 M6527 Γ' hM6528 E' S ⟨A6509,c6510,A6512,c6513,A6515,c6516,A6518,c6519,A6521,c6522,vs6524,rfl,hm6525,rfl⟩
          replace HM:=Hp.le_trans HM hM6528
          replace hM6505:=Hp.le_trans hM6505 hM6528
          replace E:=E.trans E'
          replace S:St w6526 M6527 F [_,_,_,_,_,_,_,_,_,_]:=S
          refine QB (YC ⟨.inr ⟨M6527,hM6505,(S.pick [7,8,9] (by decide))⟩,?_⟩)
          exact hq6502 _ _ ⟨t6507.1.Err,t6507.1.Found,t6507.1.Value,t6507.1.Pairs,t6507.2,A6509,c6510,A6512,c6513,A6515,c6516,A6518,c6519,A6521,c6522,vs6524,b6373,M6527,Option.some.inj H,⟨rfl,rfl,rfl,rfl,rfl,rfl,rfl,rfl,rfl,rfl,rfl,rfl,rfl,trivial⟩,hM6505,E,S.pick [6,5,4,3,2,0,1,7,8,9] (by decide),hm6525⟩
         intro hq6501
         refine XK (fun ρ w'=>∃ (x6347:Int) (x6348:Bool) (x6349:Str) (x6350:List Qu) (x6354:QM) (A6351:Option Addr) (c6352:Nat) (A6355:Option Addr) (c6356:Nat) (A6358:Option Addr) (c6359:Nat) (A6361:Option Addr) (c6362:Nat) (A6364:Option Addr) (c6365:Nat) (vs6367:List (Str × Value)) (Mj:Hp),some (x6347,x6348,x6349,x6350,x6354) = some o6498 ∧ Qs ρ [(1,.slice A1 a1.length c1),(2,.slice A2 a2.length c2),(3,.slice A3 a3.length c3),(4,.int .u64 a4),(5,pt b1 0),(11,pt b33 0),(13,.slice A3426 x3425.length c3427),(14,.slice A3430 x3429.length c3431),(15,.bool x3433),(16,vI x3434),(17,vI (IntKind.i64.wrap (Int.tmod (IntKind.u64.wrap (rd a2 x3434)) (IntKind.u64.wrap (a1.length:Int))))),(98,.agg #[vI x6347,.bool x6348,vS x6349,.slice A6351 x6350.length c6352])] ∧ M5121.le Mj ∧ Ext w w' ∧ St w' Mj F [QV encS (fun v:Value=>v) A6364 vs6367,Row QP 122 (.slice A6361 x6354.txs.length c6362) x6354.txs,QV (Value.int .i64) (Value.int .i64) A6358 x6354.many,QV QH (Value.int .i64) A6355 x6354.names,Row Qr 72 (.slice A6351 x6350.length c6352) x6350,B95 b33 x6354 A6355 A6358 A6361 c6362 A6364,Row QK 55 (.slice A3430 x3429.length c3431) x3429,Row (rInt .i64) 3 (.slice A3426 x3425.length c3427) x3425,B23 b1 a0] ∧ YP Qm Mj x6354.rows vs6367) 2 (Ls 15 [0,1,2,3,4,5,6,7,8,9,10,11,12]) ?_ ?_
         ·clear o6498h
          rintro ρ w6529 ⟨x6347,x6348,x6349,x6350,x6354,A6351,c6352,A6355,c6356,A6358,c6359,A6361,c6362,A6364,c6365,vs6367,M6530,H,hρ,hM6531,E,S,hm6368⟩
          rw [QN hρ]
          replace HM:=Hp.le_trans HM hM6531
          refine Wo 13 rfl ?_
          refine Zu S cz13 ty34 rfl rfl ?_
          intro b6533 w6534 E' S
          replace E:=E.trans E'
          refine QB (YC ⟨.inr ⟨M6530,hM6531,(S.pick [7,8,9] (by decide))⟩,?_⟩)
          exact hq6502 _ _ ⟨x6347,x6348,x6349,x6350,x6354,A6351,c6352,A6355,c6356,A6358,c6359,A6361,c6362,A6364,c6365,vs6367,b6533,M6530,Option.some.inj H,⟨rfl,rfl,rfl,rfl,rfl,rfl,rfl,rfl,rfl,rfl,rfl,rfl,rfl,trivial⟩,hM6531,E,S.pick [0,1,2,3,4,5,6,7,8,9] (by decide),hm6368⟩
         intro hq6500
         have H:=o6498h
         refine Vx (rs:=[12,13]) (by kernel_rfl) (by decide) ?_
         simp only [List.forall_mem_cons,List.not_mem_nil,false_implies,implies_true,and_true]
         refine ⟨?_,?_⟩
         ·refine ⟨_,rfl,?_⟩
          obtain ⟨t6536,ht6537,H⟩:=QX H
          replace S:St w6291 M5121 F [_,_,_,_,_,_,_,_]:=S.pick [6,3,2,1,0,4,5,7] (by decide)
          refine ZZ fn15 (Zb.con k M5121 A3436 c3437 A3439 c3440 A3442 c3443 A3445 c3446 vs3448 x3435 (IntKind.i64.wrap (Int.tmod (IntKind.u64.wrap (rd a2 x3434)) (IntKind.u64.wrap (a1.length:Int)))) (rd (rd a1 (IntKind.i64.wrap (Int.tmod (IntKind.u64.wrap (rd a2 x3434)) (IntKind.u64.wrap (a1.length:Int))))) (rd x3425 (IntKind.i64.wrap (Int.tmod (IntKind.u64.wrap (rd a2 x3434)) (IntKind.u64.wrap (a1.length:Int)))))) b33 t6536 hm3449 hg0 hg1 ht6537) (Γ1:=[_,_,_,_,_]) (Γ2:=[_,_,_]) S rfl rfl ?_
          rintro _ w6555 M6556 Γ' hM6557 E' S ⟨A6538,c6539,A6541,c6542,A6544,c6545,A6547,c6548,A6550,c6551,vs6553,rfl,hm6554,rfl⟩
          replace HM:=Hp.le_trans HM hM6557
          replace LE5966:=Hp.le_trans LE5966 hM6557
          replace E:=E.trans E'
          replace S:St w6555 M6556 F [_,_,_,_,_,_,_,_,_]:=S
          refine QB (YC ⟨.inr ⟨M6556,LE5966,(S.pick [6,7,8] (by decide))⟩,?_⟩)
          exact hq6500 _ _ ⟨t6536.1.Err,t6536.1.Found,t6536.1.Value,t6536.1.Pairs,t6536.2,A6538,c6539,A6541,c6542,A6544,c6545,A6547,c6548,A6550,c6551,vs6553,M6556,H,⟨rfl,rfl,rfl,rfl,rfl,rfl,rfl,rfl,rfl,rfl,rfl,rfl,trivial⟩,LE5966,E,S.pick [5,4,3,2,0,1,6,7,8] (by decide),hm6554⟩
         ·refine ⟨_,rfl,?_⟩
          refine Zu S cz13 ty34 rfl rfl ?_
          intro b6558 w6559 E' S
          replace E:=E.trans E'
          refine QB (YC ⟨.inr ⟨M5121,Hp.le_refl M5121,(S.pick [5,6,8] (by decide))⟩,?_⟩)
          exact hq6501 _ _ ⟨b6558,M5121,H,⟨rfl,rfl,rfl,rfl,rfl,rfl,rfl,rfl,rfl,rfl,rfl,rfl,rfl,rfl,rfl,trivial⟩,(Hp.le_refl M5121),E,S.pick [0,1,2,3,4,5,6,7,8] (by decide)⟩
        rintro ρ w6561 ⟨x6399,x6400,x6401,x6402,x6406,A6403,c6404,A6407,c6408,A6410,c6411,A6413,c6414,A6416,c6417,vs6419,b6397,M6562,rfl,hρ,hM6563,E,S,hm6420⟩
        rw [QN hρ]
        replace HM:=Hp.le_trans HM hM6563
        replace hr3:=SlR.mono hr3 hM6563
        have H:=o6498H
        refine Wo 14 rfl ?_
        refine Q5 S 0 rfl ty34 rfl rfl [vI x6399,.bool x6400,vS x6401,.slice A6403 x6402.length c6404] rfl rfl rfl #[vI x6399,.bool x6400,vS x6401,.slice A6403 x6402.length c6404] rfl rfl ?_
        intro w6564 E' S
        replace E:=E.trans E'
        refine QB (YC ⟨.inl (by decide),?_⟩)
        refine Wz ?_
        refine tn ?_
        as_aux_lemma =>
        refine QE (QA (W_v (.agg #[vI x6399,.bool x6400,vS x6401,.slice A6403 x6402.length c6404]) (Qh (S.blk 0 rfl) ty34 rfl (QI rfl) rfl rfl) rfl ?_))
        refine Zu S cz13 ty34 rfl rfl ?_
        intro b6565 w6566 E' S
        replace E:=E.trans E'
        refine Q5 S 0 rfl ty34 rfl rfl [vI x6399,.bool x6400,vS x6401,.slice A6403 x6402.length c6404] rfl rfl rfl #[vI x6399,.bool x6400,vS x6401,.slice A6403 x6402.length c6404] rfl rfl ?_
        intro w6568 E' S
        replace E:=E.trans E'
        refine QB (tn (QE (QE (QA (W_v (vI x3434) (QC rfl) rfl (W_v (.slice A3 a3.length c3) (QC rfl) rfl (W_v (vI (a3.length:Int)) (Qt (n:=a3.length) Tryd.underlying37 rfl) rfl (W_v (.bool (decide (x3434 < (a3.length:Int)))) (QT rfl rfl rfl rfl) rfl (W_v (.bool (decide (x3434 < (a3.length:Int)))) (QC rfl) rfl ?_)))))))))
        refine ZI 3 (fun ρ w'=>Qs ρ [(1,.slice A1 a1.length c1),(2,.slice A2 a2.length c2),(3,.slice A3 a3.length c3),(4,.int .u64 a4),(5,pt b1 0),(11,pt b33 0),(13,.slice A3426 x3425.length c3427),(14,.slice A3430 x3429.length c3431),(15,.bool x3433),(16,vI x3434),(17,vI (IntKind.i64.wrap (Int.tmod (IntKind.u64.wrap (rd a2 x3434)) (IntKind.u64.wrap (a1.length:Int))))),(18,pt b6397 0),(19,pt b6565 0),(107,.bool ((decide (x3434 < (a3.length:Int))) && (decide (x3434 < (64:Int)))))] ∧ w6568 = w') ?_ ?_
        ·rcases Qw (decide (x3434 < (a3.length:Int))) with hb6569 | hb6569
         ·skip
          refine Qk (skT hb6569) rfl (Qk (skT hb6569) rfl (W_v (.bool false) (QZ (k:=false) (congrArg Value.bool hb6569) rfl) rfl (QB ?_)))
          exact ⟨⟨rfl,rfl,rfl,rfl,rfl,rfl,rfl,rfl,rfl,rfl,rfl,rfl,rfl,(by first | rfl | (rw [hb6569]; rfl) | (simp only [hb6569]; rfl)),trivial⟩,rfl⟩
         ·skip
          refine QU (congrArg some hb6569) (W_v (vI x3434) (QC rfl) rfl (QU (congrArg some hb6569) (W_v (.bool (decide (x3434 < (64:Int)))) (QT rfl rfl rfl rfl) rfl (W_v (.bool (decide (x3434 < (64:Int)))) (QZ (k:=true) (congrArg Value.bool hb6569) rfl) rfl (QB ?_)))))
          exact ⟨⟨rfl,rfl,rfl,rfl,rfl,rfl,rfl,rfl,rfl,rfl,rfl,rfl,rfl,(by first | rfl | (rw [hb6569]; rfl) | (simp only [hb6569]; rfl)),trivial⟩,rfl⟩
        as_aux_lemma =>
        rintro ρ _ ⟨hρ,rfl⟩
        rw [QN hρ]
        refine W_v (.bool ((decide (x3434 < (a3.length:Int))) && (decide (x3434 < (64:Int))))) (QC rfl) rfl ?_
        obtain ⟨o6574,o6574h,o6574H⟩:=QX H
        refine ZI 7 (fun ρ w'=>∃ (x6573:Bool),(x6573) = o6574 ∧ Qs ρ [(1,.slice A1 a1.length c1),(2,.slice A2 a2.length c2),(3,.slice A3 a3.length c3),(4,.int .u64 a4),(5,pt b1 0),(11,pt b33 0),(13,.slice A3426 x3425.length c3427),(14,.slice A3430 x3429.length c3431),(15,.bool x3433),(16,vI x3434),(17,vI (IntKind.i64.wrap (Int.tmod (IntKind.u64.wrap (rd a2 x3434)) (IntKind.u64.wrap (a1.length:Int))))),(18,pt b6397 0),(19,pt b6565 0),(115,.bool x6573)] ∧ Ext w w' ∧ St w' M6562 F [Blk b6565 (.cells #[vI x6399,.bool x6400,vS x6401,.slice A6403 x6402.length c6404] 34 (0,0)),Blk b6397 (.cells #[vI x6399,.bool x6400,vS x6401,.slice A6403 x6402.length c6404] 34 (0,0)),QV encS (fun v:Value=>v) A6416 vs6419,Row QP 122 (.slice A6413 x6406.txs.length c6414) x6406.txs,QV (Value.int .i64) (Value.int .i64) A6410 x6406.many,QV QH (Value.int .i64) A6407 x6406.names,Row Qr 72 (.slice A6403 x6402.length c6404) x6402,B95 b33 x6406 A6407 A6410 A6413 c6414 A6416,Row QK 55 (.slice A3430 x3429.length c3431) x3429,Row (rInt .i64) 3 (.slice A3426 x3425.length c3427) x3425,B23 b1 a0]) ?_ ?_
        ·have H:=o6574h
         rcases Zh H with ⟨hb6572,H⟩ | ⟨hb6572,H⟩
         ·skip
          refine QU (congrArg some hb6572) (W_v (.int .u64 a4) (QC rfl) rfl (QU (congrArg some hb6572) (W_v (vI x3434) (QC rfl) rfl (QU (congrArg some hb6572) (W_v (.int .u64 (IntKind.u64.wrap x3434)) (XD Tryd.underlying3 Tryd.underlying43 rfl) rfl (QU (congrArg some hb6572) ?_))))))
          obtain ⟨p6575,H⟩:=Zt H
          refine W_v (.int .u64 (ishr .u64 a4 (IntKind.u64.wrap x3434))) (Ug rfl rfl p6575) rfl (QU (congrArg some hb6572) (W_v (.int .u64 (iand .u64 (ishr .u64 a4 (IntKind.u64.wrap x3434)) (1:Int))) (Jg rfl rfl) rfl (QU (congrArg some hb6572) (W_v (.bool ((iand .u64 (ishr .u64 a4 (IntKind.u64.wrap x3434)) (1:Int)) == (0:Int))) (QT rfl rfl rfl rfl) rfl (W_v (.bool ((iand .u64 (ishr .u64 a4 (IntKind.u64.wrap x3434)) (1:Int)) == (0:Int))) (QZ (k:=true) (congrArg Value.bool hb6572) rfl) rfl (QB ?_))))))
          exact ⟨((iand .u64 (ishr .u64 a4 (IntKind.u64.wrap x3434)) (1:Int)) == (0:Int)),Option.some.inj H,⟨rfl,rfl,rfl,rfl,rfl,rfl,rfl,rfl,rfl,rfl,rfl,rfl,rfl,rfl,trivial⟩,E,S.pick [0,1,2,3,4,5,6,7,8,9,10] (by decide)⟩
         ·skip
          refine Qk (skT hb6572) rfl (Qk (skT hb6572) rfl (Qk (skT hb6572) rfl (Qk (skT hb6572) rfl (Qk (skT hb6572) rfl (Qk (skT hb6572) rfl (W_v (.bool false) (QZ (k:=false) (congrArg Value.bool hb6572) rfl) rfl (QB ?_)))))))
          exact ⟨false,Option.some.inj H,⟨rfl,rfl,rfl,rfl,rfl,rfl,rfl,rfl,rfl,rfl,rfl,rfl,rfl,rfl,trivial⟩,E,S.pick [0,1,2,3,4,5,6,7,8,9,10] (by decide)⟩
        as_aux_lemma =>
        rintro ρ w6576 ⟨x6573,rfl,hρ,E,S⟩
        rw [QN hρ]
        have H:=o6574H
        refine QB (tn ?_)
        obtain ⟨M6616,hM6617,hf6618,S⟩:=S.row_freeze 6 rfl
        replace HM:=Hp.le_trans HM hM6617
        replace hM6563:=Hp.le_trans hM6563 hM6617
        replace hr3:=SlR.mono hr3 hM6617
        replace hm6420:=YP.mono hm6420 hM6617
        obtain ⟨o6658,o6658h,o6658H⟩:=QX H
        refine Xg (fun ρ w'=>∃ (x6651:Int) (x6652:Bool) (x6653:Str) (x6654:List Qu) (A6655:Option Addr) (c6656:Nat),(x6651,x6652,x6653,x6654) = o6658 ∧ Qs ρ [(1,.slice A1 a1.length c1),(2,.slice A2 a2.length c2),(3,.slice A3 a3.length c3),(4,.int .u64 a4),(5,pt b1 0),(11,pt b33 0),(13,.slice A3426 x3425.length c3427),(14,.slice A3430 x3429.length c3431),(15,.bool x3433),(16,vI x3434),(17,vI (IntKind.i64.wrap (Int.tmod (IntKind.u64.wrap (rd a2 x3434)) (IntKind.u64.wrap (a1.length:Int))))),(18,pt b6397 0),(19,pt b6565 0)] ∧ Ext w w' ∧ St w' M6616 F [Blk b6565 (.cells #[vI x6651,.bool x6652,vS x6653,.slice A6655 x6654.length c6656] 34 (0,0)),Blk b6397 (.cells #[vI x6399,.bool x6400,vS x6401,.slice A6403 x6402.length c6404] 34 (0,0)),QV encS (fun v:Value=>v) A6416 vs6419,Row QP 122 (.slice A6413 x6406.txs.length c6414) x6406.txs,QV (Value.int .i64) (Value.int .i64) A6410 x6406.many,QV QH (Value.int .i64) A6407 x6406.names,B95 b33 x6406 A6407 A6410 A6413 c6414 A6416,Row QK 55 (.slice A3430 x3429.length c3431) x3429,Row (rInt .i64) 3 (.slice A3426 x3425.length c3427) x3425,B23 b1 a0] ∧ SlR Qr M6616 (.slice A6655 x6654.length c6656) x6654) ?_ ?_
        ·clear o6658H
         have H:=o6658h
         rcases Zh H with ⟨hb6659,H⟩ | ⟨hb6659,H⟩
         ·refine QL (congrArg Value.bool hb6659) ?_
          refine QA (W_v (.slice A3 a3.length c3) (QC rfl) rfl (W_v (vI x3434) (QC rfl) rfl ?_))
          obtain ⟨⟨p6660,p6661⟩,H⟩:=Zt H
          obtain ⟨b6662,o6663,cs6664,_,_,ee6669,hb6665,vs6666,hR6667,hc6668⟩:=SlW.at' hr3 p6660 p6661
          obtain ⟨v6673,hs6672,rfl⟩:=hR6667
          obtain ⟨A6670,c6671,rfl,_⟩:=hs6672.form
          refine W_v (.pointer (some ⟨b6662,o6663 + x3434.toNat * 4,none⟩)) (Qe Tryd.underlying37 ty34 (slA ee6669) rfl p6660 p6661) rfl (W_v (.agg #[vI ((rd a3 x3434).Err),.bool ((rd a3 x3434).Found),vS ((rd a3 x3434).Value),.slice A6670 ((rd a3 x3434).Pairs).length c6671]) (Qh (S.frz hb6665) ty34 rfl (XC hc6668 0 rfl) rfl rfl) rfl ?_)
          refine Q5 S 0 rfl ty34 rfl rfl [vI ((rd a3 x3434).Err),.bool ((rd a3 x3434).Found),vS ((rd a3 x3434).Value),.slice A6670 ((rd a3 x3434).Pairs).length c6671] rfl rfl rfl #[vI ((rd a3 x3434).Err),.bool ((rd a3 x3434).Found),vS ((rd a3 x3434).Value),.slice A6670 ((rd a3 x3434).Pairs).length c6671] rfl rfl ?_
          intro w6674 E' S
          replace E:=E.trans E'
          refine QB (tn ?_)
          exact ⟨((rd a3 x3434).Err),((rd a3 x3434).Found),((rd a3 x3434).Value),((rd a3 x3434).Pairs),A6670,c6671,Option.some.inj H,⟨rfl,rfl,rfl,rfl,rfl,rfl,rfl,rfl,rfl,rfl,rfl,rfl,rfl,trivial⟩,E,S.pick [0,1,2,3,4,5,6,7,8,9] (by decide),hs6672⟩
         refine QJ (congrArg Value.bool hb6659) (Qg (tn ?_))
         exact ⟨x6399,x6400,x6401,x6402,A6403,c6404,Option.some.inj H,⟨rfl,rfl,rfl,rfl,rfl,rfl,rfl,rfl,rfl,rfl,rfl,rfl,rfl,trivial⟩,E,S.pick [0,1,2,3,4,5,6,7,8,9] (by decide),hf6618⟩
        as_aux_lemma =>
        rintro ρ w6675 ⟨x6651,x6652,x6653,x6654,A6655,c6656,rfl,hρ,E,S,hs6657⟩
        rw [QN hρ]
        have H:=o6658H
        refine tn (QE (QA (W_v (.bool x3433) (QC rfl) rfl (W_v (.bool x3433) (QC rfl) rfl ?_))))
        obtain ⟨o6684,o6684h,o6684H⟩:=QX H
        refine ZI 4 (fun ρ w'=>∃ (x6683:Bool),(x6683) = o6684 ∧ Qs ρ [(1,.slice A1 a1.length c1),(2,.slice A2 a2.length c2),(3,.slice A3 a3.length c3),(4,.int .u64 a4),(5,pt b1 0),(11,pt b33 0),(13,.slice A3426 x3425.length c3427),(14,.slice A3430 x3429.length c3431),(16,vI x3434),(17,vI (IntKind.i64.wrap (Int.tmod (IntKind.u64.wrap (rd a2 x3434)) (IntKind.u64.wrap (a1.length:Int))))),(19,pt b6565 0),(125,.bool x6683)] ∧ Ext w w' ∧ St w' M6616 F [Blk b6565 (.cells #[vI x6651,.bool x6652,vS x6653,.slice A6655 x6654.length c6656] 34 (0,0)),QV encS (fun v:Value=>v) A6416 vs6419,Row QP 122 (.slice A6413 x6406.txs.length c6414) x6406.txs,QV (Value.int .i64) (Value.int .i64) A6410 x6406.many,QV QH (Value.int .i64) A6407 x6406.names,B95 b33 x6406 A6407 A6410 A6413 c6414 A6416,Row QK 55 (.slice A3430 x3429.length c3431) x3429,Row (rInt .i64) 3 (.slice A3426 x3425.length c3427) x3425,B23 b1 a0]) ?_ ?_
        ·have H:=o6684h
         rcases Zh H with ⟨hb6682,H⟩ | ⟨hb6682,H⟩
         ·skip
          refine QU (congrArg some hb6682) (W_v (.agg #[vI x6399,.bool x6400,vS x6401,.slice A6403 x6402.length c6404]) (Qh (S.blk 1 rfl) ty34 rfl (QI rfl) rfl rfl) rfl (QU (congrArg some hb6682) (W_v (.agg #[vI x6651,.bool x6652,vS x6653,.slice A6655 x6654.length c6656]) (Qh (S.blk 0 rfl) ty34 rfl (QI rfl) rfl rfl) rfl (QU (congrArg some hb6682) ?_))))
          obtain ⟨t6685,ht6686,H⟩:=QX H
          refine YJ fn16 (Yh.con k M6616 A6403 c6404 (⟨x6399,x6400,x6401,x6402⟩:Qf) A6655 c6656 (⟨x6651,x6652,x6653,x6654⟩:Qf) t6685 hf6618 hs6657 ht6686) S rfl rfl (by rintro _ _ _ ⟨_,rfl⟩; exact Qd) ?_
          rintro _ w6687 _ Γ' E' S ⟨rfl,rfl⟩
          replace E:=E.trans E'
          refine W_v (.bool t6685) (QZ (k:=true) (congrArg Value.bool hb6682) rfl) rfl (QB ?_)
          exact ⟨t6685,Option.some.inj H,⟨rfl,rfl,rfl,rfl,rfl,rfl,rfl,rfl,rfl,rfl,rfl,rfl,trivial⟩,E,S.pick [0,2,3,4,5,6,7,8,9] (by decide)⟩
         ·skip
          refine Qk (skT hb6682) rfl (Qk (skT hb6682) rfl (Qk (skT hb6682) rfl (W_v (.bool false) (QZ (k:=false) (congrArg Value.bool hb6682) rfl) rfl (QB ?_))))
          exact ⟨false,Option.some.inj H,⟨rfl,rfl,rfl,rfl,rfl,rfl,rfl,rfl,rfl,rfl,rfl,rfl,trivial⟩,E,S.pick [0,2,3,4,5,6,7,8,9] (by decide)⟩
        as_aux_lemma =>
        rintro ρ w6688 ⟨x6683,rfl,hρ,E,S⟩
        rw [QN hρ]
        have H:=o6684H
        refine W_v (.bool x6683) (QD rfl) rfl (QB (tn (QE ?_)))
        have LE6721:=Hp.le_refl M6616
        refine Ql (S:=fun w'=>∃ Mx,M6616.le Mx ∧ St w' Mx F [Blk b6565 (.cells #[vI x6651,.bool x6652,vS x6653,.slice A6655 x6654.length c6656] 34 (0,0)),QV encS (fun v:Value=>v) A6416 vs6419,Row QP 122 (.slice A6413 x6406.txs.length c6414) x6406.txs,QV (Value.int .i64) (Value.int .i64) A6410 x6406.many,QV QH (Value.int .i64) A6407 x6406.names,B95 b33 x6406 A6407 A6410 A6413 c6414 A6416,Row (rInt .i64) 3 (.slice A3426 x3425.length c3427) x3425,B23 b1 a0]) (L:=11) mixed ?_
        intro w6722 hw6723 E'
        replace S:=S.heap hw6723
        replace E:=E.trans E'
        have D3:∃ Mx,Hp.le M6616 Mx ∧ St _ Mx F [_,_,_,_,_,_,_,_]:=⟨_,Hp.le_refl _,S.pick [0,1,2,3,4,5,7,8] (by decide)⟩
        refine Wt 0 rfl rfl rfl (.slice A3430 x3429.length c3431) rfl (fun w' h'=>QC rfl) D3 (Wt 1 rfl rfl rfl (vI (IntKind.i64.wrap (Int.tmod (IntKind.u64.wrap (rd a2 x3434)) (IntKind.u64.wrap (a1.length:Int))))) rfl (fun w' h'=>QC rfl) D3 (Wt 2 rfl rfl rfl (.slice A3426 x3425.length c3427) rfl (fun w' h'=>QC rfl) D3 (Wt 3 rfl rfl rfl (vI (IntKind.i64.wrap (Int.tmod (IntKind.u64.wrap (rd a2 x3434)) (IntKind.u64.wrap (a1.length:Int))))) rfl (fun w' h'=>QC rfl) D3 ?_)))
        obtain ⟨⟨p6724,p6725⟩,H⟩:=Zt H
        obtain ⟨b6726,o6727,_,_,_,ee6728,_⟩:=SlW.at' (S.row_read 7 rfl) p6724 p6725
        refine Wt 4 rfl rfl rfl (.pointer (some ⟨b6726,o6727 + (IntKind.i64.wrap (Int.tmod (IntKind.u64.wrap (rd a2 x3434)) (IntKind.u64.wrap (a1.length:Int)))).toNat * 1,none⟩)) rfl (fun w' h'=>Qe Tryd.underlying36 ty3 (slA ee6728) rfl p6724 p6725) D3 (Wt 5 rfl rfl rfl (vI (rd x3425 (IntKind.i64.wrap (Int.tmod (IntKind.u64.wrap (rd a2 x3434)) (IntKind.u64.wrap (a1.length:Int)))))) rfl (fun w' h'=>Xp h' 6 rfl ee6728 p6724 p6725 0 (by rintro _ _ rfl; rfl) ty3 rfl) D3 (Wt 6 rfl rfl rfl (.agg #[vI x6651,.bool x6652,vS x6653,.slice A6655 x6654.length c6656]) rfl (fun w' h'=>Qh (Qj h' 0 rfl) ty34 rfl (QI rfl) rfl rfl) D3 ?_))
        refine Wo 7 rfl ?_
        obtain ⟨t6729,ht6730,H⟩:=QX H
        refine ZZ fn18 (Zd.con k M6616 (IntKind.i64.wrap (Int.tmod (IntKind.u64.wrap (rd a2 x3434)) (IntKind.u64.wrap (a1.length:Int)))) (rd x3425 (IntKind.i64.wrap (Int.tmod (IntKind.u64.wrap (rd a2 x3434)) (IntKind.u64.wrap (a1.length:Int))))) A6655 c6656 (⟨x6651,x6652,x6653,x6654⟩:Qf) t6729 hs6657 ht6730) (Γ1:=[]) (Γ2:=[_,_,_,_,_,_,_,_,_]) S rfl rfl ?_
        rintro _ w6734 M6735 Γ' hM6736 E' S ⟨A6731,c6732,rfl,rfl⟩
        replace HM:=Hp.le_trans HM hM6736
        replace hM6563:=Hp.le_trans hM6563 hM6736
        replace LE6721:=Hp.le_trans LE6721 hM6736
        replace hm6420:=YP.mono hm6420 hM6736
        replace E:=E.trans E'
        refine QB (YC ⟨.inr ⟨M6735,LE6721,(S.pick [1,2,3,4,5,6,8,9] (by decide))⟩,?_⟩)
        refine Wo 8 rfl ?_
        obtain ⟨M6737,hM6738,hf6739,S⟩:=S.row_freeze 0 rfl
        replace HM:=Hp.le_trans HM hM6738
        replace hM6563:=Hp.le_trans hM6563 hM6738
        replace LE6721:=Hp.le_trans LE6721 hM6738
        replace hm6420:=YP.mono hm6420 hM6738
        obtain ⟨t6740,ht6741,H⟩:=QX H
        refine ZZ fn17 (XW.con k M6737 A6731 c6732 t6729 t6740 hf6739 ht6741) (Γ1:=[]) (Γ2:=[_,_,_,_,_,_,_,_,_]) S rfl rfl ?_
        rintro _ w6745 M6746 Γ' hM6747 E' S ⟨A6742,c6743,rfl,rfl⟩
        replace HM:=Hp.le_trans HM hM6747
        replace hM6563:=Hp.le_trans hM6563 hM6747
        replace LE6721:=Hp.le_trans LE6721 hM6747
        replace hm6420:=YP.mono hm6420 hM6747
        replace E:=E.trans E'
        refine QB (YC ⟨.inr ⟨M6746,LE6721,(S.pick [1,2,3,4,5,6,8,9] (by decide))⟩,?_⟩)
        refine Wo 9 rfl ?_
        obtain ⟨p6748,H⟩:=Zt H
        obtain ⟨src6749,hs6750,hC6751⟩:=Yj (P:=Tryd.prog) (ρ:=QK) (l:=t6740) (S.row_read 0 rfl) (by decide)
        refine XN S 7 rfl rfl rfl Tryd.underlying25 (.inl Tryd.underlying25) ty55 rfl (by decide) (by decide) hs6750 hC6751 rfl (by omega) rfl ?_
        intro v6752 w6753 E' S
        replace E:=E.trans E'
        obtain ⟨A6754,c6755,rfl,_⟩:=(S.row_read 7 rfl).form
        refine QB (YC ⟨.inr ⟨M6746,LE6721,(S.pick [1,2,3,4,5,6,8,9] (by decide))⟩,?_⟩)
        refine Wt 10 rfl rfl rfl (.slice A6754 (x3429 ++ t6740).length c6755) rfl (fun w' h'=>QD rfl) (⟨M6746,LE6721,(S.pick [1,2,3,4,5,6,8,9] (by decide))⟩) ?_
        refine Wz ?_
        refine tn (QA (W_v (.slice A3426 x3425.length c3427) (QC rfl) rfl (W_v (vI (IntKind.i64.wrap (Int.tmod (IntKind.u64.wrap (rd a2 x3434)) (IntKind.u64.wrap (a1.length:Int))))) (QC rfl) rfl ?_)))
        obtain ⟨⟨p6756,p6757⟩,H⟩:=Zt H
        obtain ⟨b6758,o6759,cs6760,_,_,ee6765,hb6761,vs6762,hR6763,hc6764⟩:=SlW.at' (S.row_read 8 rfl) p6756 p6757
        obtain rfl:vs6762 = _:=hR6763
        refine W_v (.pointer (some ⟨b6758,o6759 + (IntKind.i64.wrap (Int.tmod (IntKind.u64.wrap (rd a2 x3434)) (IntKind.u64.wrap (a1.length:Int)))).toNat * 1,none⟩)) (Qe Tryd.underlying36 ty3 (slA ee6765) rfl p6756 p6757) rfl (W_v (vI (rd x3425 (IntKind.i64.wrap (Int.tmod (IntKind.u64.wrap (rd a2 x3434)) (IntKind.u64.wrap (a1.length:Int)))))) (QR (Hp.of_get hb6761) ty3 rfl (hc6764 0 _ rfl)) rfl (W_v (vI (IntKind.i64.wrap ((rd x3425 (IntKind.i64.wrap (Int.tmod (IntKind.u64.wrap (rd a2 x3434)) (IntKind.u64.wrap (a1.length:Int))))) + (1:Int)))) (QT rfl rfl rfl rfl) rfl ?_))
        obtain ⟨⟨p6766,p6767⟩,H⟩:=Zt H
        obtain ⟨b6768,o6769,cs6770,_,_,ee6775,hb6771,vs6772,hR6773,hc6774⟩:=SlW.at' (S.row_read 8 rfl) p6766 p6767
        obtain rfl:vs6772 = _:=hR6773
        refine W_v (.pointer (some ⟨b6768,o6769 + (IntKind.i64.wrap (Int.tmod (IntKind.u64.wrap (rd a2 x3434)) (IntKind.u64.wrap (a1.length:Int)))).toNat * 1,none⟩)) (Qe Tryd.underlying36 ty3 (slA ee6775) rfl p6766 p6767) rfl ?_
        obtain ⟨x6777,he6778,H⟩:=QX H
        replace he6778:=Option.some.inj he6778
        refine XE S 8 rfl rfl ee6775 (by first | exact p6766 | simpa using p6766) (by first | exact p6767 | simpa using p6767) 0 ty3 rfl rfl [vI (IntKind.i64.wrap ((rd x3425 (IntKind.i64.wrap (Int.tmod (IntKind.u64.wrap (rd a2 x3434)) (IntKind.u64.wrap (a1.length:Int))))) + (1:Int)))] rfl rfl rfl rfl (IntKind.i64.wrap ((rd x3425 (IntKind.i64.wrap (Int.tmod (IntKind.u64.wrap (rd a2 x3434)) (IntKind.u64.wrap (a1.length:Int))))) + (1:Int))) (by rintro _ rfl; rfl) he6778 ?_
        intro w6776 E' S
        replace E:=E.trans E'
        have hs6779:Value.slice A3426 x3425.length c3427 = Value.slice A3426 x6777.length c3427:=by rw [← he6778,List.length_set]
        try unfold B23 at S
        try unfold B95 at S
        try rw [hs6779] at S
        try rw [hs6779]
        have p6780:(IntKind.i64.wrap (Int.tmod (IntKind.u64.wrap (rd a2 x3434)) (IntKind.u64.wrap (a1.length:Int)))) < (x6777.length:Int):=by rw [← he6778,List.length_set]; exact p6725
        have p6781:(IntKind.i64.wrap (Int.tmod (IntKind.u64.wrap (rd a2 x3434)) (IntKind.u64.wrap (a1.length:Int)))) < (x6777.length:Int):=by rw [← he6778,List.length_set]; exact p6757
        have p6782:(IntKind.i64.wrap (Int.tmod (IntKind.u64.wrap (rd a2 x3434)) (IntKind.u64.wrap (a1.length:Int)))) < (x6777.length:Int):=by rw [← he6778,List.length_set]; exact p6767
        refine QB (bn (tn ?_))
        exact ⟨x6777,(x3429 ++ t6740),x6683,x6406,A3426,c3427,A6754,c6755,A6407,c6408,A6410,c6411,A6413,c6414,A6416,c6417,vs6419,M6746,Option.some.inj H,⟨rfl,rfl,rfl,rfl,rfl,rfl,rfl,rfl,rfl,rfl,trivial⟩,hM6563,E,S.pick [2,3,4,5,7,8,6,9] (by decide),hm6420⟩
      rintro ρ w6783 ⟨x5941,x5945,x5949,x5950,A5942,c5943,A5946,c5947,A5951,c5952,A5954,c5955,A5957,c5958,A5960,c5961,vs5963,M6784,rfl,hρ,hM6785,E,S,hm5964⟩
      rw [QN hρ]
      replace HM:=Hp.le_trans HM hM6785
      replace hM5122:=Hp.le_trans hM5122 hM6785
      have H:=o5965H
      refine tn (QA (W_v (vI x3434) (QC rfl) rfl (W_v (vI (IntKind.i64.wrap (x3434 + (1:Int)))) (QT rfl rfl rfl rfl) rfl (W_v (vI (IntKind.i64.wrap (x3434 + (1:Int)))) (QD rfl) rfl (QB (tn ?_))))))
      exact ⟨k,Nat.lt_succ_self k,⟨x5941,x5945,x5949,(IntKind.i64.wrap (x3434 + (1:Int))),x5950,A5942,c5943,A5946,c5947,A5951,c5952,A5954,c5955,A5957,c5958,A5960,c5961,vs5963,M6784,H,⟨rfl,rfl,rfl,rfl,rfl,rfl,rfl,rfl,rfl,rfl,trivial⟩,hM5122,E,S.pick [0,1,2,3,4,5,6,7] (by decide),hm5964⟩⟩
     refine QJ (congrArg Value.bool hb5123) ?_
     refine Yo ?_
     refine tx (tx (bsm (?_)))
     refine tn ?_
     exact ⟨x3429,x3433,A3430,c3431,M5121,Option.some.inj H,⟨rfl,rfl,rfl,rfl,trivial⟩,hM5122,E,S.pick [4,7] (by decide)⟩
  rintro ρ w6786 ⟨x5113,x5117,A5114,c5115,M6787,rfl,hρ,hM6788,E,S⟩
  rw [QN hρ]
  replace hg0:=gup hg0 hM6788
  replace hg1:=gup hg1 hM6788
  replace HM:=Hp.le_trans HM hM6788
  replace hr1:=SlR.mono hr1 hM6788
  have H:=o5118H
  refine tn ?_
  as_aux_lemma =>
  refine QE (QE (QA (W_v (.slice A5114 x5113.length c5115) (QC rfl) rfl ?_)))
  obtain ⟨t6789,ht6790,H⟩:=QX H
  refine XX 1 fn8 (fun h9 hs9 hd9=>ZW.con k _ none 0 ([]:(List (List QW))) A5114 c5115 x5113 t6789 (SlW.nil _ _) (Sats.row hs9 hd9 0 rfl) ht6790) S rfl rfl (by rintro _ _ _ ⟨_,rfl⟩; exact Qd) ?_
  rintro _ w6791 _ Γ' E' S ⟨rfl,rfl⟩
  replace E:=E.trans E'
  refine QB (tn ?_)
  rcases Zh H with ⟨hb6792,H⟩ | ⟨hb6792,H⟩
  ·refine QL (congrArg Value.bool hb6792) ?_
   refine QE (QA (W_v (.bool true) (QD rfl) rfl (QB (tn ?_))))
   refine QY ?_
   refine tr (?_)
   obtain rfl:=Option.some.inj H
   exact ⟨_,_,_,fun w1 e1=>QO (vs:=[.bool true]) (FA.cons (rfl) (FA.nil)),HM,E,S.pick [] (by decide),⟨rfl,rfl⟩⟩
  refine QJ (congrArg Value.bool hb6792) (Qg (tn (QE (QA (W_v (.agg #[vI a0.Tasks,vI a0.Active,vI a0.Keys,vI a0.Depth,vI a0.TS,vI a0.KeyLen,vI a0.ValLen,vI a0.Fan]) (Qh (S.blk 1 rfl) ty23 rfl (QI rfl) rfl rfl) rfl (W_v (.slice A1 a1.length c1) (QC rfl) rfl (W_v (.slice A5114 x5113.length c5115) (QC rfl) rfl ?_)))))))
  obtain ⟨t6793,ht6794,H⟩:=QX H
  refine XX 1 fn10 (fun h9 hs9 hd9=>YD.con k _ a0 A1 c1 a1 A5114 c5115 x5113 t6793 (SlR.mono hr1 (Hp.le_union_left _ _)) (Sats.row hs9 hd9 0 rfl) (let ⟨gt,fr,h8⟩:=hg0; ⟨gt,fr,Hp.le_union_left _ _ _ _ h8⟩) (let ⟨gt,fr,h8⟩:=hg1; ⟨gt,fr,Hp.le_union_left _ _ _ _ h8⟩) ht6794) S rfl rfl (by rintro _ _ _ ⟨_,rfl⟩; exact Qd) ?_
  rintro _ w6795 _ Γ' E' S ⟨rfl,rfl⟩
  replace E:=E.trans E'
  refine W_v (.tuple #[.bool t6793.1,vI t6793.2]) (QC rfl) rfl (W_v (.bool t6793.1) (QQ rfl rfl) rfl (W_v (vI t6793.2) (QQ rfl rfl) rfl (W_v (.bool t6793.1) (QD rfl) rfl (W_v (vI t6793.2) (QD rfl) rfl (QB (tn (QE (QA (W_v (vI t6793.2) (QC rfl) rfl (W_v (.bool (t6793.2 == (0:Int))) (QT rfl rfl rfl rfl) rfl (W_v (.bool (t6793.2 == (0:Int))) (QC rfl) rfl ?_)))))))))))
  refine ZI 4 (fun ρ w'=>Qs ρ [(157,.bool ((t6793.2 == (0:Int)) && (t6793.1 == x5117)))] ∧ w6795 = w') ?_ ?_
  ·rcases Qw (t6793.2 == (0:Int)) with hb6796 | hb6796
   ·skip
    refine Qk (skT hb6796) rfl (Qk (skT hb6796) rfl (Qk (skT hb6796) rfl (W_v (.bool false) (QZ (k:=false) (congrArg Value.bool hb6796) rfl) rfl (QB ?_))))
    exact ⟨⟨(by first | rfl | (rw [hb6796]; rfl) | (simp only [hb6796]; rfl)),trivial⟩,rfl⟩
   ·skip
    refine QU (congrArg some hb6796) (W_v (.bool t6793.1) (QC rfl) rfl (QU (congrArg some hb6796) (W_v (.bool x5117) (QC rfl) rfl (QU (congrArg some hb6796) (W_v (.bool (t6793.1 == x5117)) (Jf Tryd.underlying4 rfl rfl) rfl (W_v (.bool (t6793.1 == x5117)) (QZ (k:=true) (congrArg Value.bool hb6796) rfl) rfl (QB ?_)))))))
    exact ⟨⟨(by first | rfl | (rw [hb6796]; rfl) | (simp only [hb6796]; rfl)),trivial⟩,rfl⟩
  rintro ρ _ ⟨hρ,rfl⟩
  rw [QN hρ]
  refine W_v (.bool ((t6793.2 == (0:Int)) && (t6793.1 == x5117))) (QD rfl) rfl (QB (tn ?_))
  refine QY ?_
  obtain rfl:=Option.some.inj H
  exact ⟨_,_,_,fun w1 e1=>QO (vs:=[.bool ((t6793.2 == (0:Int)) && (t6793.1 == x5117))]) (FA.cons (rfl) (FA.nil)),HM,E,S.pick [] (by decide),⟨rfl,rfl⟩⟩
end Go.Proofs.YtnjbjpaiepefoaaDoor
