import Derived.Test.YtcngjjlhdlbogaaDoorGm4B
import Derived.Test.YtcngjjlhdlbogaaDoorGm4P0
import Derived.Test.YtcngjjlhdlbogaaDoorGm4P2
import Derived.Test.YtcngjjlhdlbogaaDoorGm4P3
import Derived.Test.YtcngjjlhdlbogaaDoorGm4P4
namespace Go.Proofs.YtcngjjlhdlbogaaDoor
open Go
set_option linter.unusedVariables false
set_option linter.unusedSimpArgs false
def ferrymanref06_Answers_l0 (a0:api_Answer) (a1:api_Answer):Nat→Int→Option ((Bool)⊕(Unit))
 | 0,_=>none
 | k+1,x101=>(if (decide (x101<(a0.Pairs.length:Int)))=true then (if 0≤x101∧x101<(a0.Pairs.length:Int) then (if 0≤x101∧x101<(a1.Pairs.length:Int) then (if (!(((rd a0.Pairs x101).Key==(rd a1.Pairs x101).Key)&&((rd a0.Pairs x101).Value==(rd a1.Pairs x101).Value)))=true then some (.inl false) else ferrymanref06_Answers_l0 a0 a1 k (IntKind.i64.wrap (x101+(1:Int)))) else none) else none) else some (.inr ()))
set_option maxHeartbeats 2000000 in
theorem ferrymanref06_Answers_l0.mono {a0:api_Answer} {a1:api_Answer}:∀ {kl:Nat} {x0},OLe (ferrymanref06_Answers_l0 a0 a1 kl x0) (ferrymanref06_Answers_l0 a0 a1 (kl+1) x0):=by
 intro kl
 induction kl with
 | zero=>intros;exact OLe.none
 | succ kl ih =>
  intros
  rw [ferrymanref06_Answers_l0.eq_2,ferrymanref06_Answers_l0.eq_2]
  repeat' (first | with_reducible exact OLe.none | with_reducible exact OLe.some | with_reducible refine OLe.ite ?_ ?_ | with_reducible refine OLe.bind ?_ (fun _=>?_) | exact ih | refine OLe.bind ?_ (fun _=>?_) | refine OLe.ite ?_ ?_ | refine OLe.elim (fun _=>?_) (fun _=>?_) | split)
def ferrymanref06_Answers (k:Nat) (a0:api_Answer) (a1:api_Answer):Option (Bool) :=
 (if ((((a0.Err != a1.Err)||(!(a0.Found==a1.Found)))||(sbin .neq a0.Value a1.Value))||((a0.Pairs.length:Int) != (a1.Pairs.length:Int)))=true then some false else (Option.bind (ferrymanref06_Answers_l0 a0 a1 k (0:Int)) (fun o146o=>Sum.elim (fun r'=>some r') (fun _=>some true) o146o)))
set_option maxHeartbeats 2000000 in
theorem ferrymanref06_Answers.mono {k:Nat} {a0:api_Answer} {a1:api_Answer}:OLe (ferrymanref06_Answers k a0 a1) (ferrymanref06_Answers (k+1) a0 a1):=by
 unfold ferrymanref06_Answers
 repeat' (first | with_reducible exact OLe.none | with_reducible exact OLe.some | with_reducible refine OLe.ite ?_ ?_ | with_reducible refine OLe.bind ?_ (fun _=>?_) | with_reducible exact ferrymanref06_Answers_l0.mono | refine OLe.bind ?_ (fun _=>?_) | refine OLe.ite ?_ ?_ | refine OLe.elim (fun _=>?_) (fun _=>?_) | split)
set_option maxHeartbeats 1000000 in
set_option maxRecDepth 100000 in
theorem ferrymanref06_Answers.con (k:Nat) (M:Hp) (A0_0:Option Addr) (c0_0:Nat) (a0:api_Answer) (A1_0:Option Addr) (c1_0:Nat) (a1:api_Answer) (r:Bool) (hr0_0:SlR r_api_Pair M (.slice A0_0 a0.Pairs.length c0_0) a0.Pairs) (hr1_0:SlR r_api_Pair M (.slice A1_0 a1.Pairs.length c1_0) a1.Pairs) (h:ferrymanref06_Answers k a0 a1=some r):Con Tryd.prog 20 #[.agg #[.int .i64 a0.Err,.bool a0.Found,.string (bs a0.Value),.slice A0_0 a0.Pairs.length c0_0],.agg #[.int .i64 a1.Err,.bool a1.Found,.string (bs a1.Value),.slice A1_0 a1.Pairs.length c1_0]] M [] (fun v M' Γ'=>v=.bool r∧Γ'=[]):=by
 refine con_of_wp Tryd.func20 rfl Tryd.ntmps20 Tryd.results20 rfl ?_
 intro w F rn S hrn
 have E:=Ext.refl w
 have HM:=Hp.le_refl M
 have H:=h
 unfold ferrymanref06_Answers at H
 refine Wp_seq (Wp_region_lit ?_)
 refine W_box S #[.int .i64 a0.Err,.bool a0.Found,.string (bs a0.Value),.slice A0_0 a0.Pairs.length c0_0] rfl rfl rfl ?_
 intro b1 w2 E' S
 replace E:=E.trans E'
 refine W_box S #[.int .i64 a1.Err,.bool a1.Found,.string (bs a1.Value),.slice A1_0 a1.Pairs.length c1_0] rfl rfl rfl ?_
 intro b4 w5 E' S
 replace E:=E.trans E'
 refine W_v (.bool false) (x_assign rfl) rfl (Wl_nil (tn (Wp_seq (Wp_seq (Wp_region_lit (W_v (pt b1 0) (x_fieldAddr (o:=0) (off:=0) Tryd.underlying43 rfl ty28 rfl rfl) rfl (W_v (.int .i64 a0.Err) (x_load (S.blk 1 rfl) ty28 rfl rfl) rfl (W_v (pt b4 0) (x_fieldAddr (o:=0) (off:=0) Tryd.underlying43 rfl ty28 rfl rfl) rfl (W_v (.int .i64 a1.Err) (x_load (S.blk 0 rfl) ty28 rfl rfl) rfl (W_v (.bool (a0.Err != a1.Err)) (x_ibin rfl rfl rfl rfl) rfl (W_v (.bool (a0.Err != a1.Err)) (x_move rfl) rfl ?_)))))))))))
 refine Wl_cutN 6 (fun ρ w'=>Agree ρ [(2,pt b1 0),(3,pt b4 0),(17,.bool ((a0.Err != a1.Err)||(!(a0.Found==a1.Found))))]∧w5=w') ?_ ?_
 ·rcases boolCases (a0.Err != a1.Err) with hb7 | hb7
  ·skip
   refine W_yes (congrArg some hb7) (W_v (pt b1 1) (x_fieldAddr (o:=0) (off:=1) Tryd.underlying43 rfl ty4 rfl rfl) rfl (W_yes (congrArg some hb7) (W_v (.bool a0.Found) (x_load (S.blk 1 rfl) ty4 rfl rfl) rfl (W_yes (congrArg some hb7) (W_v (pt b4 1) (x_fieldAddr (o:=0) (off:=1) Tryd.underlying43 rfl ty4 rfl rfl) rfl (W_yes (congrArg some hb7) (W_v (.bool a1.Found) (x_load (S.blk 0 rfl) ty4 rfl rfl) rfl (W_yes (congrArg some hb7) (W_v (.bool (!(a0.Found==a1.Found))) (x_bne Tryd.underlying4 rfl rfl) rfl (W_v (.bool (!(a0.Found==a1.Found))) (x_pick (k:=false) (congrArg Value.bool hb7) rfl) rfl (Wl_nil ?_)))))))))))
   exact ⟨⟨rfl,rfl,(by first | rfl | (rw [hb7];rfl) | (simp only [hb7];rfl)),trivial⟩,rfl⟩
  ·skip
   refine W_no (skF hb7) rfl (W_no (skF hb7) rfl (W_no (skF hb7) rfl (W_no (skF hb7) rfl (W_no (skF hb7) rfl (W_v (.bool true) (x_pick (k:=true) (congrArg Value.bool hb7) rfl) rfl (Wl_nil ?_))))))
   exact ⟨⟨rfl,rfl,(by first | rfl | (rw [hb7];rfl) | (simp only [hb7];rfl)),trivial⟩,rfl⟩
 as_aux_lemma =>
 rintro ρ _ ⟨hρ,rfl⟩
 rw [agree_eta hρ]
 refine W_v (.bool ((a0.Err != a1.Err)||(!(a0.Found==a1.Found)))) (x_move rfl) rfl ?_
 refine Wl_cutN 6 (fun ρ w'=>Agree ρ [(2,pt b1 0),(3,pt b4 0),(24,.bool (((a0.Err != a1.Err)||(!(a0.Found==a1.Found)))||(sbin .neq a0.Value a1.Value)))]∧w5=w') ?_ ?_
 ·rcases boolCases ((a0.Err != a1.Err)||(!(a0.Found==a1.Found))) with hb8 | hb8
  ·skip
   refine W_yes (congrArg some hb8) (W_v (pt b1 2) (x_fieldAddr (o:=0) (off:=2) Tryd.underlying43 rfl ty9 rfl rfl) rfl (W_yes (congrArg some hb8) (W_v (.string (bs a0.Value)) (x_load (S.blk 1 rfl) ty9 rfl rfl) rfl (W_yes (congrArg some hb8) (W_v (pt b4 2) (x_fieldAddr (o:=0) (off:=2) Tryd.underlying43 rfl ty9 rfl rfl) rfl (W_yes (congrArg some hb8) (W_v (.string (bs a1.Value)) (x_load (S.blk 0 rfl) ty9 rfl rfl) rfl (W_yes (congrArg some hb8) (W_v (.bool (sbin .neq a0.Value a1.Value)) (x_sbin rfl rfl rfl) rfl (W_v (.bool (sbin .neq a0.Value a1.Value)) (x_pick (k:=false) (congrArg Value.bool hb8) rfl) rfl (Wl_nil ?_)))))))))))
   exact ⟨⟨rfl,rfl,(by first | rfl | (rw [hb8];rfl) | (simp only [hb8];rfl)),trivial⟩,rfl⟩
  ·skip
   refine W_no (skF hb8) rfl (W_no (skF hb8) rfl (W_no (skF hb8) rfl (W_no (skF hb8) rfl (W_no (skF hb8) rfl (W_v (.bool true) (x_pick (k:=true) (congrArg Value.bool hb8) rfl) rfl (Wl_nil ?_))))))
   exact ⟨⟨rfl,rfl,(by first | rfl | (rw [hb8];rfl) | (simp only [hb8];rfl)),trivial⟩,rfl⟩
 as_aux_lemma =>
 rintro ρ _ ⟨hρ,rfl⟩
 rw [agree_eta hρ]
 refine W_v (.bool (((a0.Err != a1.Err)||(!(a0.Found==a1.Found)))||(sbin .neq a0.Value a1.Value))) (x_move rfl) rfl ?_
 refine Wl_cutN 8 (fun ρ w'=>Agree ρ [(2,pt b1 0),(3,pt b4 0),(33,.bool ((((a0.Err != a1.Err)||(!(a0.Found==a1.Found)))||(sbin .neq a0.Value a1.Value))||((a0.Pairs.length:Int) != (a1.Pairs.length:Int))))]∧w5=w') ?_ ?_
 ·rcases boolCases (((a0.Err != a1.Err)||(!(a0.Found==a1.Found)))||(sbin .neq a0.Value a1.Value)) with hb9 | hb9
  ·skip
   refine W_yes (congrArg some hb9) (W_v (pt b1 3) (x_fieldAddr (o:=0) (off:=3) Tryd.underlying43 rfl ty41 rfl rfl) rfl (W_yes (congrArg some hb9) (W_v (.slice A0_0 a0.Pairs.length c0_0) (x_load (S.blk 1 rfl) ty41 rfl rfl) rfl (W_yes (congrArg some hb9) (W_v (.int .i64 (a0.Pairs.length:Int)) (x_len_slice (n:=a0.Pairs.length) Tryd.underlying41 rfl) rfl (W_yes (congrArg some hb9) (W_v (pt b4 3) (x_fieldAddr (o:=0) (off:=3) Tryd.underlying43 rfl ty41 rfl rfl) rfl (W_yes (congrArg some hb9) (W_v (.slice A1_0 a1.Pairs.length c1_0) (x_load (S.blk 0 rfl) ty41 rfl rfl) rfl (W_yes (congrArg some hb9) (W_v (.int .i64 (a1.Pairs.length:Int)) (x_len_slice (n:=a1.Pairs.length) Tryd.underlying41 rfl) rfl (W_yes (congrArg some hb9) (W_v (.bool ((a0.Pairs.length:Int) != (a1.Pairs.length:Int))) (x_ibin rfl rfl rfl rfl) rfl (W_v (.bool ((a0.Pairs.length:Int) != (a1.Pairs.length:Int))) (x_pick (k:=false) (congrArg Value.bool hb9) rfl) rfl (Wl_nil ?_)))))))))))))))
   exact ⟨⟨rfl,rfl,(by first | rfl | (rw [hb9];rfl) | (simp only [hb9];rfl)),trivial⟩,rfl⟩
  ·skip
   refine W_no (skF hb9) rfl (W_no (skF hb9) rfl (W_no (skF hb9) rfl (W_no (skF hb9) rfl (W_no (skF hb9) rfl (W_no (skF hb9) rfl (W_no (skF hb9) rfl (W_v (.bool true) (x_pick (k:=true) (congrArg Value.bool hb9) rfl) rfl (Wl_nil ?_))))))))
   exact ⟨⟨rfl,rfl,(by first | rfl | (rw [hb9];rfl) | (simp only [hb9];rfl)),trivial⟩,rfl⟩
 as_aux_lemma =>
 rintro ρ _ ⟨hρ,rfl⟩
 rw [agree_eta hρ]
 refine Wl_nil (tn ?_)
 rcases iteS H with ⟨hb10,H⟩ | ⟨hb10,H⟩
 ·refine Wp_cond_true (congrArg Value.bool hb10) ?_
  refine Wp_seq (Wp_region_lit (W_v (.bool false) (x_assign rfl) rfl (Wl_nil (tn ?_))))
  refine Wp_ret ?_
  refine tr (?_)
  obtain rfl:=Option.some.inj H
  exact ⟨_,_,_,fun w1 e1=>run_resR (vs:=[.bool false]) (FA.cons (rfl) (FA.nil)),HM,E,S.pick [] (by decide),⟨rfl,rfl⟩⟩
 refine Wp_cond_false (congrArg Value.bool hb10) (Wp_skip (tn (Wp_seq (Wp_seq (Wp_region_lit (W_v (.int .i64 0) (x_assign rfl) rfl (Wl_nil (tn ?_))))))))
 obtain ⟨o146,o146h,o146H⟩:=bindS H
 refine Wp_blockJ (fun ρ w'=>.inr ()=o146∧Agree ρ []∧Ext w w'∧St w' M F []) ?_ ?_
 ·skip
  refine Wp_loop (fun n ρ w'=>∃ (x101:Int),ferrymanref06_Answers_l0 a0 a1 n x101=some o146∧Agree ρ [(2,pt b1 0),(3,pt b4 0),(5,.int .i64 x101)]∧Ext w w'∧St w' M F [B43 b4 a1 A1_0 c1_0,B43 b1 a0 A0_0 c0_0]) k ?_ ?_
  ·skip
   exact ⟨(0:Int),o146h,⟨rfl,rfl,rfl,trivial⟩,E,S.pick [0,1] (by decide)⟩
  ·intro n
   rintro ρ w147 ⟨x101,H,hρ,E,S⟩
   rw [agree_eta hρ]
   cases n with
   | zero=>cases H
   | succ k =>
    rw [ferrymanref06_Answers_l0.eq_2] at H
    refine Wp_seq (Wp_seq (Wp_region_lit (W_v (.int .i64 x101) (x_move rfl) rfl (W_v (pt b1 3) (x_fieldAddr (o:=0) (off:=3) Tryd.underlying43 rfl ty41 rfl rfl) rfl (W_v (.slice A0_0 a0.Pairs.length c0_0) (x_load (S.blk 1 rfl) ty41 rfl rfl) rfl (W_v (.int .i64 (a0.Pairs.length:Int)) (x_len_slice (n:=a0.Pairs.length) Tryd.underlying41 rfl) rfl (W_v (.bool (decide (x101<(a0.Pairs.length:Int)))) (x_ibin rfl rfl rfl rfl) rfl (Wl_nil (tn ?_)))))))))
    rcases iteS H with ⟨hb148,H⟩ | ⟨hb148,H⟩
    ·refine Wp_cond_true (congrArg Value.bool hb148) ?_
     refine Wp_skip (tn (Wp_seq ?_))
     refine Wp_block ?_
     refine Wp_seq ?_
     refine Wp_region_any (S:=fun w'=>∃ Mx,M.le Mx∧St w' Mx F [B43 b4 a1 A1_0 c1_0,B43 b1 a0 A0_0 c0_0]) (L:=11) mixed ?_
     intro w169 hw170 E'
     replace S:=S.heap hw170
     replace E:=E.trans E'
     have D1:∃ Mx,Hp.le M Mx∧St _ Mx F [_,_]:=⟨_,Hp.le_refl _,S.pick [0,1] (by decide)⟩
     refine Wa_take (i:=0) rfl (by kernel_rfl) rfl rfl (pt b1 3) rfl (fun w' h'=>x_fieldAddr (o:=0) (off:=3) Tryd.underlying43 rfl ty41 rfl rfl) D1 (Wa_take (i:=1) rfl (by kernel_rfl) rfl rfl (.slice A0_0 a0.Pairs.length c0_0) rfl (fun w' h'=>x_load (cls_blk h' 1 rfl) ty41 rfl rfl) D1 (Wa_take (i:=2) rfl (by kernel_rfl) rfl rfl (.int .i64 x101) rfl (fun w' h'=>x_move rfl) D1 ?_))
     obtain ⟨⟨p171,p172⟩,H⟩:=chkS H
     obtain ⟨b173,o174,cs175,_,_,ee180,hb176,vs177,hR178,hc179⟩:=SlW.at' hr0_0 p171 p172
     obtain rfl:vs177=_:=hR178
     refine Wa_take (i:=3) rfl (by kernel_rfl) rfl rfl (.pointer (some ⟨b173,o174+x101.toNat*2,none⟩)) rfl (fun w' h'=>x_indexAddr Tryd.underlying41 ty87 (slA ee180) rfl p171 p172) D1 (Wa_take (i:=4) rfl (by kernel_rfl) rfl rfl (.agg #[.string (bs ((rd a0.Pairs x101).Key)),.string (bs ((rd a0.Pairs x101).Value))]) rfl (fun w' h'=>x_loadA (cls_frz h' hb176) ty87 rfl (sub_el hc179 0 rfl) rfl rfl) D1 (Wa_take (i:=5) rfl (by kernel_rfl) rfl rfl (pt b4 3) rfl (fun w' h'=>x_fieldAddr (o:=0) (off:=3) Tryd.underlying43 rfl ty41 rfl rfl) D1 (Wa_take (i:=6) rfl (by kernel_rfl) rfl rfl (.slice A1_0 a1.Pairs.length c1_0) rfl (fun w' h'=>x_load (cls_blk h' 0 rfl) ty41 rfl rfl) D1 (Wa_take (i:=7) rfl (by kernel_rfl) rfl rfl (.int .i64 x101) rfl (fun w' h'=>x_move rfl) D1 ?_))))
     obtain ⟨⟨p181,p182⟩,H⟩:=chkS H
     obtain ⟨b183,o184,cs185,_,_,ee190,hb186,vs187,hR188,hc189⟩:=SlW.at' hr1_0 p181 p182
     obtain rfl:vs187=_:=hR188
     refine Wa_take (i:=8) rfl (by kernel_rfl) rfl rfl (.pointer (some ⟨b183,o184+x101.toNat*2,none⟩)) rfl (fun w' h'=>x_indexAddr Tryd.underlying41 ty87 (slA ee190) rfl p181 p182) D1 (Wa_take (i:=9) rfl (by kernel_rfl) rfl rfl (.agg #[.string (bs ((rd a1.Pairs x101).Key)),.string (bs ((rd a1.Pairs x101).Value))]) rfl (fun w' h'=>x_loadA (cls_frz h' hb186) ty87 rfl (sub_el hc189 0 rfl) rfl rfl) D1 (Wa_take (i:=10) rfl (by kernel_rfl) rfl rfl (.bool (!(((rd a0.Pairs x101).Key==(rd a1.Pairs x101).Key)&&((rd a0.Pairs x101).Value==(rd a1.Pairs x101).Value)))) rfl (fun w' h'=>x_ne_of (en87 _ _ _ _) rfl (eq87 _ ((rd a0.Pairs x101).Key) ((rd a0.Pairs x101).Value) ((rd a1.Pairs x101).Key) ((rd a1.Pairs x101).Value))) D1 ?_))
     refine Wa_done (by kernel_rfl) ?_
     refine tn ?_
     rcases iteS H with ⟨hb191,H⟩ | ⟨hb191,H⟩
     ·refine Wp_cond_true (congrArg Value.bool hb191) ?_
      refine Wp_seq (Wp_region_lit (W_v (.bool false) (x_assign rfl) rfl (Wl_nil (tn ?_))))
      refine Wp_ret ?_
      refine br (tr (tr (br (tr (tr (?_))))))
      obtain rfl:=Option.some.inj H
      have H:=o146H
      replace H:=elimL H
      obtain rfl:=Option.some.inj H
      exact ⟨_,_,_,fun w1 e1=>run_resR (vs:=[.bool false]) (FA.cons (rfl) (FA.nil)),HM,E,S.pick [] (by decide),⟨rfl,rfl⟩⟩
     refine Wp_cond_false (congrArg Value.bool hb191) (Wp_skip (bn (tn (Wp_region_lit (W_v (.int .i64 x101) (x_move rfl) rfl (W_v (.int .i64 (IntKind.i64.wrap (x101+(1:Int)))) (x_ibin rfl rfl rfl rfl) rfl (W_v (.int .i64 (IntKind.i64.wrap (x101+(1:Int)))) (x_assign rfl) rfl (Wl_nil (tn ?_)))))))))
     exact ⟨k,Nat.lt_succ_self k,⟨(IntKind.i64.wrap (x101+(1:Int))),H,⟨rfl,rfl,rfl,trivial⟩,E,S.pick [0,1] (by decide)⟩⟩
    refine Wp_cond_false (congrArg Value.bool hb148) ?_
    refine Wp_exit ?_
    refine tx (tx (bsm (?_)))
    refine tn ?_
    exact ⟨Option.some.inj H,trivial,E,S.pick [] (by decide)⟩
 rintro ρ w192 ⟨rfl,hρ,E,S⟩
 rw [agree_eta hρ]
 have H:=o146H
 replace H:=elimR H
 refine tn ?_
 as_aux_lemma =>
 refine Wp_seq (Wp_region_lit (W_v (.bool true) (x_assign rfl) rfl (Wl_nil (tn ?_))))
 refine Wp_ret ?_
 obtain rfl:=Option.some.inj H
 exact ⟨_,_,_,fun w1 e1=>run_resR (vs:=[.bool true]) (FA.cons (rfl) (FA.nil)),HM,E,S.pick [] (by decide),⟨rfl,rfl⟩⟩
def ferrymanref02_Compare_l0 (a0:Str) (a1:Str):Nat→Int→Option ((Int)⊕(Unit))
 | 0,_=>none
 | k+1,x51=>(if ((decide (x51<(a0.length:Int)))&&(decide (x51<(a1.length:Int))))=true then (if 0≤x51∧x51<(a0.length:Int) then (if 0≤x51∧x51<(a1.length:Int) then (if (decide ((((a0).getD (x51).toNat 0).toNat:Int)<(((a1).getD (x51).toNat 0).toNat:Int)))=true then some (.inl (-1:Int)) else (if 0≤x51∧x51<(a0.length:Int) then (if 0≤x51∧x51<(a1.length:Int) then (if (decide ((((a0).getD (x51).toNat 0).toNat:Int)>(((a1).getD (x51).toNat 0).toNat:Int)))=true then some (.inl (1:Int)) else ferrymanref02_Compare_l0 a0 a1 k (IntKind.i64.wrap (x51+(1:Int)))) else none) else none)) else none) else none) else some (.inr ()))
set_option maxHeartbeats 2000000 in
theorem ferrymanref02_Compare_l0.mono {a0:Str} {a1:Str}:∀ {kl:Nat} {x0},OLe (ferrymanref02_Compare_l0 a0 a1 kl x0) (ferrymanref02_Compare_l0 a0 a1 (kl+1) x0):=by
 intro kl
 induction kl with
 | zero=>intros;exact OLe.none
 | succ kl ih =>
  intros
  rw [ferrymanref02_Compare_l0.eq_2,ferrymanref02_Compare_l0.eq_2]
  repeat' (first | with_reducible exact OLe.none | with_reducible exact OLe.some | with_reducible refine OLe.ite ?_ ?_ | with_reducible refine OLe.bind ?_ (fun _=>?_) | exact ih | refine OLe.bind ?_ (fun _=>?_) | refine OLe.ite ?_ ?_ | refine OLe.elim (fun _=>?_) (fun _=>?_) | split)
def ferrymanref02_Compare (k:Nat) (a0:Str) (a1:Str):Option (Int) :=
 (Option.bind (ferrymanref02_Compare_l0 a0 a1 k (0:Int)) (fun o76o=>Sum.elim (fun r'=>some r') (fun _=>(if (decide ((a0.length:Int)<(a1.length:Int)))=true then some (-1:Int) else (if (decide ((a0.length:Int)>(a1.length:Int)))=true then some (1:Int) else some (0:Int)))) o76o))
set_option maxHeartbeats 2000000 in
theorem ferrymanref02_Compare.mono {k:Nat} {a0:Str} {a1:Str}:OLe (ferrymanref02_Compare k a0 a1) (ferrymanref02_Compare (k+1) a0 a1):=by
 unfold ferrymanref02_Compare
 repeat' (first | with_reducible exact OLe.none | with_reducible exact OLe.some | with_reducible refine OLe.ite ?_ ?_ | with_reducible refine OLe.bind ?_ (fun _=>?_) | with_reducible exact ferrymanref02_Compare_l0.mono | refine OLe.bind ?_ (fun _=>?_) | refine OLe.ite ?_ ?_ | refine OLe.elim (fun _=>?_) (fun _=>?_) | split)
set_option maxHeartbeats 1000000 in
set_option maxRecDepth 100000 in
theorem ferrymanref02_Compare.con (k:Nat) (M:Hp) (a0:Str) (a1:Str) (r:Int)  (h:ferrymanref02_Compare k a0 a1=some r):Con Tryd.prog 69 #[.string (bs a0),.string (bs a1)] M [] (fun v M' Γ'=>v=.int .i64 r∧Γ'=[]):=by
 refine con_of_wp Tryd.func69 rfl Tryd.ntmps69 Tryd.results69 rfl ?_
 intro w F rn S hrn
 have E:=Ext.refl w
 have HM:=Hp.le_refl M
 have H:=h
 unfold ferrymanref02_Compare at H
 refine Wp_seq (Wp_region_lit (W_v (.int .i64 0) (x_assign rfl) rfl (Wl_nil (tn (Wp_seq (Wp_seq (Wp_region_lit (W_v (.int .i64 0) (x_assign rfl) rfl (Wl_nil (tn ?_))))))))))
 obtain ⟨o76,o76h,o76H⟩:=bindS H
 refine Wp_blockJ (fun ρ w'=>.inr ()=o76∧Agree ρ [(0,.string (bs a0)),(1,.string (bs a1))]∧Ext w w'∧St w' M F []) ?_ ?_
 ·skip
  refine Wp_loop (fun n ρ w'=>∃ (x51:Int),ferrymanref02_Compare_l0 a0 a1 n x51=some o76∧Agree ρ [(0,.string (bs a0)),(1,.string (bs a1)),(5,.int .i64 x51)]∧Ext w w'∧St w' M F []) k ?_ ?_
  ·skip
   exact ⟨(0:Int),o76h,⟨rfl,rfl,rfl,trivial⟩,E,S.pick [] (by decide)⟩
  ·intro n
   rintro ρ w77 ⟨x51,H,hρ,E,S⟩
   rw [agree_eta hρ]
   cases n with
   | zero=>cases H
   | succ k =>
    rw [ferrymanref02_Compare_l0.eq_2] at H
    refine Wp_seq (Wp_seq (Wp_region_lit (W_v (.int .i64 x51) (x_move rfl) rfl (W_v (.string (bs a0)) (x_move rfl) rfl (W_v (.int .i64 (a0.length:Int)) (x_len_str Tryd.underlying9 rfl) rfl (W_v (.bool (decide (x51<(a0.length:Int)))) (x_ibin rfl rfl rfl rfl) rfl (W_v (.bool (decide (x51<(a0.length:Int)))) (x_move rfl) rfl ?_)))))))
    refine Wl_cutN 5 (fun ρ w'=>Agree ρ [(0,.string (bs a0)),(1,.string (bs a1)),(5,.int .i64 x51),(15,.bool ((decide (x51<(a0.length:Int)))&&(decide (x51<(a1.length:Int)))))]∧w77=w') ?_ ?_
    ·rcases boolCases (decide (x51<(a0.length:Int))) with hb78 | hb78
     ·skip
      refine W_no (skT hb78) rfl (W_no (skT hb78) rfl (W_no (skT hb78) rfl (W_no (skT hb78) rfl (W_v (.bool false) (x_pick (k:=false) (congrArg Value.bool hb78) rfl) rfl (Wl_nil ?_)))))
      exact ⟨⟨rfl,rfl,rfl,(by first | rfl | (rw [hb78];rfl) | (simp only [hb78];rfl)),trivial⟩,rfl⟩
     ·skip
      refine W_yes (congrArg some hb78) (W_v (.int .i64 x51) (x_move rfl) rfl (W_yes (congrArg some hb78) (W_v (.string (bs a1)) (x_move rfl) rfl (W_yes (congrArg some hb78) (W_v (.int .i64 (a1.length:Int)) (x_len_str Tryd.underlying9 rfl) rfl (W_yes (congrArg some hb78) (W_v (.bool (decide (x51<(a1.length:Int)))) (x_ibin rfl rfl rfl rfl) rfl (W_v (.bool (decide (x51<(a1.length:Int)))) (x_pick (k:=true) (congrArg Value.bool hb78) rfl) rfl (Wl_nil ?_)))))))))
      exact ⟨⟨rfl,rfl,rfl,(by first | rfl | (rw [hb78];rfl) | (simp only [hb78];rfl)),trivial⟩,rfl⟩
    as_aux_lemma =>
    rintro ρ _ ⟨hρ,rfl⟩
    rw [agree_eta hρ]
    refine Wl_nil (tn ?_)
    rcases iteS H with ⟨hb79,H⟩ | ⟨hb79,H⟩
    ·refine Wp_cond_true (congrArg Value.bool hb79) ?_
     refine Wp_skip (tn (Wp_seq ?_))
     refine Wp_block ?_
     refine Wp_seq (Wp_seq ?_)
     refine Wp_region_any (S:=fun w'=>∃ Mx,M.le Mx∧St w' Mx F []) (L:=7) mixed ?_
     intro w84 hw85 E'
     replace S:=S.heap hw85
     replace E:=E.trans E'
     have D1:∃ Mx,Hp.le M Mx∧St _ Mx F []:=⟨_,Hp.le_refl _,S.pick [] (by decide)⟩
     refine Wa_take (i:=0) rfl (by kernel_rfl) rfl rfl (.string (bs a0)) rfl (fun w' h'=>x_move rfl) D1 (Wa_take (i:=1) rfl (by kernel_rfl) rfl rfl (.int .i64 x51) rfl (fun w' h'=>x_move rfl) D1 ?_)
     obtain ⟨⟨p86,p87⟩,H⟩:=chkS H
     refine Wa_take (i:=2) rfl (by kernel_rfl) rfl rfl (.int .u8 (((a0).getD (x51).toNat 0).toNat:Int)) rfl (fun w' h'=>x_indexStr Tryd.underlying9 rfl rfl p86 p87) D1 (Wa_take (i:=3) rfl (by kernel_rfl) rfl rfl (.string (bs a1)) rfl (fun w' h'=>x_move rfl) D1 (Wa_take (i:=4) rfl (by kernel_rfl) rfl rfl (.int .i64 x51) rfl (fun w' h'=>x_move rfl) D1 ?_))
     obtain ⟨⟨p88,p89⟩,H⟩:=chkS H
     refine Wa_take (i:=5) rfl (by kernel_rfl) rfl rfl (.int .u8 (((a1).getD (x51).toNat 0).toNat:Int)) rfl (fun w' h'=>x_indexStr Tryd.underlying9 rfl rfl p88 p89) D1 (Wa_take (i:=6) rfl (by kernel_rfl) rfl rfl (.bool (decide ((((a0).getD (x51).toNat 0).toNat:Int)<(((a1).getD (x51).toNat 0).toNat:Int)))) rfl (fun w' h'=>x_ibin rfl rfl rfl rfl) D1 ?_)
     refine Wa_done (by kernel_rfl) ?_
     refine tn ?_
     rcases iteS H with ⟨hb90,H⟩ | ⟨hb90,H⟩
     ·refine Wp_cond_true (congrArg Value.bool hb90) ?_
      refine Wp_seq (Wp_region_lit (W_v (.int .i64 (-1)) (x_assign rfl) rfl (Wl_nil (tn ?_))))
      refine Wp_ret ?_
      refine tr (br (tr (tr (br (tr (tr (?_)))))))
      obtain rfl:=Option.some.inj H
      have H:=o76H
      replace H:=elimL H
      obtain rfl:=Option.some.inj H
      exact ⟨_,_,_,fun w1 e1=>run_resR (vs:=[.int .i64 (-1)]) (FA.cons (rfl) (FA.nil)),HM,E,S.pick [] (by decide),⟨rfl,rfl⟩⟩
     refine Wp_cond_false (congrArg Value.bool hb90) (Wp_skip (tn (Wp_seq ?_)))
     refine Wp_region_any (S:=fun w'=>∃ Mx,M.le Mx∧St w' Mx F []) (L:=7) mixed ?_
     intro w95 hw96 E'
     replace S:=S.heap hw96
     replace E:=E.trans E'
     have D2:∃ Mx,Hp.le M Mx∧St _ Mx F []:=⟨_,Hp.le_refl _,S.pick [] (by decide)⟩
     refine Wa_take (i:=0) rfl (by kernel_rfl) rfl rfl (.string (bs a0)) rfl (fun w' h'=>x_move rfl) D2 (Wa_take (i:=1) rfl (by kernel_rfl) rfl rfl (.int .i64 x51) rfl (fun w' h'=>x_move rfl) D2 ?_)
     obtain ⟨⟨p97,p98⟩,H⟩:=chkS H
     refine Wa_take (i:=2) rfl (by kernel_rfl) rfl rfl (.int .u8 (((a0).getD (x51).toNat 0).toNat:Int)) rfl (fun w' h'=>x_indexStr Tryd.underlying9 rfl rfl p97 p98) D2 (Wa_take (i:=3) rfl (by kernel_rfl) rfl rfl (.string (bs a1)) rfl (fun w' h'=>x_move rfl) D2 (Wa_take (i:=4) rfl (by kernel_rfl) rfl rfl (.int .i64 x51) rfl (fun w' h'=>x_move rfl) D2 ?_))
     obtain ⟨⟨p99,p100⟩,H⟩:=chkS H
     refine Wa_take (i:=5) rfl (by kernel_rfl) rfl rfl (.int .u8 (((a1).getD (x51).toNat 0).toNat:Int)) rfl (fun w' h'=>x_indexStr Tryd.underlying9 rfl rfl p99 p100) D2 (Wa_take (i:=6) rfl (by kernel_rfl) rfl rfl (.bool (decide ((((a0).getD (x51).toNat 0).toNat:Int)>(((a1).getD (x51).toNat 0).toNat:Int)))) rfl (fun w' h'=>x_ibin rfl rfl rfl rfl) D2 ?_)
     refine Wa_done (by kernel_rfl) ?_
     refine tn ?_
     rcases iteS H with ⟨hb101,H⟩ | ⟨hb101,H⟩
     ·refine Wp_cond_true (congrArg Value.bool hb101) ?_
      refine Wp_seq (Wp_region_lit (W_v (.int .i64 1) (x_assign rfl) rfl (Wl_nil (tn ?_))))
      refine Wp_ret ?_
      refine br (tr (tr (br (tr (tr (?_))))))
      obtain rfl:=Option.some.inj H
      have H:=o76H
      replace H:=elimL H
      obtain rfl:=Option.some.inj H
      exact ⟨_,_,_,fun w1 e1=>run_resR (vs:=[.int .i64 1]) (FA.cons (rfl) (FA.nil)),HM,E,S.pick [] (by decide),⟨rfl,rfl⟩⟩
     refine Wp_cond_false (congrArg Value.bool hb101) (Wp_skip (bn (tn (Wp_region_lit (W_v (.int .i64 x51) (x_move rfl) rfl (W_v (.int .i64 (IntKind.i64.wrap (x51+(1:Int)))) (x_ibin rfl rfl rfl rfl) rfl (W_v (.int .i64 (IntKind.i64.wrap (x51+(1:Int)))) (x_assign rfl) rfl (Wl_nil (tn ?_)))))))))
     exact ⟨k,Nat.lt_succ_self k,⟨(IntKind.i64.wrap (x51+(1:Int))),H,⟨rfl,rfl,rfl,trivial⟩,E,S.pick [] (by decide)⟩⟩
    refine Wp_cond_false (congrArg Value.bool hb79) ?_
    refine Wp_exit ?_
    refine tx (tx (bsm (?_)))
    refine tn ?_
    exact ⟨Option.some.inj H,⟨rfl,rfl,trivial⟩,E,S.pick [] (by decide)⟩
 rintro ρ w102 ⟨rfl,hρ,E,S⟩
 rw [agree_eta hρ]
 have H:=o76H
 replace H:=elimR H
 refine tn ?_
 as_aux_lemma =>
 refine Wp_seq (Wp_seq (Wp_region_lit (W_v (.string (bs a0)) (x_move rfl) rfl (W_v (.int .i64 (a0.length:Int)) (x_len_str Tryd.underlying9 rfl) rfl (W_v (.string (bs a1)) (x_move rfl) rfl (W_v (.int .i64 (a1.length:Int)) (x_len_str Tryd.underlying9 rfl) rfl (W_v (.bool (decide ((a0.length:Int)<(a1.length:Int)))) (x_ibin rfl rfl rfl rfl) rfl (Wl_nil (tn ?_)))))))))
 rcases iteS H with ⟨hb103,H⟩ | ⟨hb103,H⟩
 ·refine Wp_cond_true (congrArg Value.bool hb103) ?_
  refine Wp_seq (Wp_region_lit (W_v (.int .i64 (-1)) (x_assign rfl) rfl (Wl_nil (tn ?_))))
  refine Wp_ret ?_
  refine tr (?_)
  obtain rfl:=Option.some.inj H
  exact ⟨_,_,_,fun w1 e1=>run_resR (vs:=[.int .i64 (-1)]) (FA.cons (rfl) (FA.nil)),HM,E,S.pick [] (by decide),⟨rfl,rfl⟩⟩
 refine Wp_cond_false (congrArg Value.bool hb103) (Wp_skip (tn (Wp_seq (Wp_seq (Wp_region_lit (W_v (.string (bs a0)) (x_move rfl) rfl (W_v (.int .i64 (a0.length:Int)) (x_len_str Tryd.underlying9 rfl) rfl (W_v (.string (bs a1)) (x_move rfl) rfl (W_v (.int .i64 (a1.length:Int)) (x_len_str Tryd.underlying9 rfl) rfl (W_v (.bool (decide ((a0.length:Int)>(a1.length:Int)))) (x_ibin rfl rfl rfl rfl) rfl (Wl_nil (tn ?_))))))))))))
 rcases iteS H with ⟨hb104,H⟩ | ⟨hb104,H⟩
 ·refine Wp_cond_true (congrArg Value.bool hb104) ?_
  refine Wp_seq (Wp_region_lit (W_v (.int .i64 1) (x_assign rfl) rfl (Wl_nil (tn ?_))))
  refine Wp_ret ?_
  refine tr (?_)
  obtain rfl:=Option.some.inj H
  exact ⟨_,_,_,fun w1 e1=>run_resR (vs:=[.int .i64 1]) (FA.cons (rfl) (FA.nil)),HM,E,S.pick [] (by decide),⟨rfl,rfl⟩⟩
 refine Wp_cond_false (congrArg Value.bool hb104) (Wp_skip (tn ?_))
 as_aux_lemma =>
 refine Wp_seq (Wp_region_lit (W_v (.int .i64 0) (x_assign rfl) rfl (Wl_nil (tn ?_))))
 refine Wp_ret ?_
 obtain rfl:=Option.some.inj H
 exact ⟨_,_,_,fun w1 e1=>run_resR (vs:=[.int .i64 0]) (FA.cons (rfl) (FA.nil)),HM,E,S.pick [] (by decide),⟨rfl,rfl⟩⟩
def ferrymanref02_Within (k:Nat) (a0:Str) (a1:Str) (a2:Str):Option (Bool) :=
 (Option.bind (ferrymanref02_Compare k a1 a0) (fun t1=>(Option.bind (α:=Bool) (if (decide (t1≤(0:Int)))=true then (Option.bind (α:=Bool) (if (sbin .eql a2 ([]:Str))=true then some (true) else (Option.bind (ferrymanref02_Compare k a0 a2) (fun t42=>some ((decide (t42<(0:Int))))))) (fun x40=>some (x40))) else some (false)) (fun x31=>some x31))))
set_option maxHeartbeats 2000000 in
theorem ferrymanref02_Within.mono {k:Nat} {a0:Str} {a1:Str} {a2:Str}:OLe (ferrymanref02_Within k a0 a1 a2) (ferrymanref02_Within (k+1) a0 a1 a2):=by
 unfold ferrymanref02_Within
 repeat' (first | with_reducible exact OLe.none | with_reducible exact OLe.some | with_reducible refine OLe.ite ?_ ?_ | with_reducible refine OLe.bind ?_ (fun _=>?_) | with_reducible exact ferrymanref02_Compare.mono | refine OLe.bind ?_ (fun _=>?_) | refine OLe.ite ?_ ?_ | refine OLe.elim (fun _=>?_) (fun _=>?_) | split)
set_option maxHeartbeats 1000000 in
set_option maxRecDepth 100000 in
theorem ferrymanref02_Within.con (k:Nat) (M:Hp) (a0:Str) (a1:Str) (a2:Str) (r:Bool)  (h:ferrymanref02_Within k a0 a1 a2=some r):Con Tryd.prog 42 #[.string (bs a0),.string (bs a1),.string (bs a2)] M [] (fun v M' Γ'=>v=.bool r∧Γ'=[]):=by
 refine con_of_wp Tryd.func42 rfl Tryd.ntmps42 Tryd.results42 rfl ?_
 intro w F rn S hrn
 have E:=Ext.refl w
 have HM:=Hp.le_refl M
 have H:=h
 unfold ferrymanref02_Within at H
 refine Wp_seq (Wp_region_lit (W_v (.bool false) (x_assign rfl) rfl (Wl_nil (tn (Wp_seq (Wp_region_lit (W_v (.string (bs a1)) (x_move rfl) rfl (W_v (.string (bs a0)) (x_move rfl) rfl ?_))))))))
 obtain ⟨t1,ht2,H⟩:=bindS H
 refine W_callF fn69 (ferrymanref02_Compare.con k M a1 a0 t1  ht2) S rfl rfl (by rintro _ _ _ ⟨_,rfl⟩;exact flat_nil) ?_
 rintro _ w3 _ Γ' E' S ⟨rfl,rfl⟩
 replace E:=E.trans E'
 refine W_v (.bool (decide (t1≤(0:Int)))) (x_ibin rfl rfl rfl rfl) rfl (W_v (.bool (decide (t1≤(0:Int)))) (x_move rfl) rfl ?_)
 obtain ⟨o32,o32h,o32H⟩:=bindS H
 refine Wl_cutN 9 (fun ρ w'=>∃ (x31:Bool),(x31)=o32∧Agree ρ [(20,.bool x31)]∧Ext w w'∧St w' M F []) ?_ ?_
 ·as_aux_lemma =>
   have H:=o32h
   rcases iteS H with ⟨hb30,H⟩ | ⟨hb30,H⟩
   ·skip
    refine W_yes (congrArg some hb30) (W_v (.string (bs a2)) (x_move rfl) rfl (W_yes (congrArg some hb30) (W_v (.bool (sbin .eql a2 ([]:Str))) (x_sbin rfl rfl rfl) rfl (W_yes (congrArg some hb30) (W_v (.bool (sbin .eql a2 ([]:Str))) (x_move rfl) rfl ?_)))))
    obtain ⟨o41,o41h,o41H⟩:=bindS H
    refine Wl_cutN 5 (fun ρ w'=>∃ (x40:Bool),(x40)=o41∧Agree ρ [(11,.bool (decide (t1≤(0:Int)))),(19,.bool x40)]∧Ext w w'∧St w' M F []) ?_ ?_
    ·have H:=o41h
     rcases iteS H with ⟨hb39,H⟩ | ⟨hb39,H⟩
     ·skip
      refine W_no (skF hb39) rfl (W_no (skF hb39) rfl (W_no (skF hb39) rfl (W_no (skF hb39) rfl (W_yes (congrArg some hb30) (W_v (.bool true) (x_pick (k:=true) (congrArg Value.bool hb39) rfl) rfl (Wl_nil ?_))))))
      exact ⟨true,Option.some.inj H,⟨rfl,rfl,trivial⟩,E,S.pick [] (by decide)⟩
     ·skip
      refine W_yes (congrArg some hb39) (W_v (.string (bs a0)) (x_move rfl) rfl (W_yes (congrArg some hb39) (W_v (.string (bs a2)) (x_move rfl) rfl (W_yes (congrArg some hb39) ?_))))
      obtain ⟨t42,ht43,H⟩:=bindS H
      refine W_callF fn69 (ferrymanref02_Compare.con k M a0 a2 t42  ht43) S rfl rfl (by rintro _ _ _ ⟨_,rfl⟩;exact flat_nil) ?_
      rintro _ w44 _ Γ' E' S ⟨rfl,rfl⟩
      replace E:=E.trans E'
      refine W_yes (congrArg some hb39) (W_v (.bool (decide (t42<(0:Int)))) (x_ibin rfl rfl rfl rfl) rfl (W_yes (congrArg some hb30) (W_v (.bool (decide (t42<(0:Int)))) (x_pick (k:=false) (congrArg Value.bool hb39) rfl) rfl (Wl_nil ?_))))
      exact ⟨(decide (t42<(0:Int))),Option.some.inj H,⟨rfl,rfl,trivial⟩,E,S.pick [] (by decide)⟩
    rintro ρ w45 ⟨x40,rfl,hρ,E,S⟩
    rw [agree_eta hρ]
    have H:=o41H
    refine W_v (.bool x40) (x_pick (k:=true) (congrArg Value.bool hb30) rfl) rfl (Wl_nil ?_)
    exact ⟨x40,Option.some.inj H,⟨rfl,trivial⟩,E,S.pick [] (by decide)⟩
   ·skip
    refine W_no (skT hb30) rfl (W_no (skT hb30) rfl (W_no (skT hb30) rfl (W_no (rfl) rfl (W_no (rfl) rfl (W_no (rfl) rfl (W_no (rfl) rfl (W_no (skT hb30) rfl (W_v (.bool false) (x_pick (k:=false) (congrArg Value.bool hb30) rfl) rfl (Wl_nil ?_)))))))))
    exact ⟨false,Option.some.inj H,⟨rfl,trivial⟩,E,S.pick [] (by decide)⟩
 rintro ρ w46 ⟨x31,rfl,hρ,E,S⟩
 rw [agree_eta hρ]
 have H:=o32H
 refine W_v (.bool x31) (x_assign rfl) rfl (Wl_nil (tn ?_))
 refine Wp_ret ?_
 obtain rfl:=Option.some.inj H
 exact ⟨_,_,_,fun w1 e1=>run_resR (vs:=[.bool x31]) (FA.cons (rfl) (FA.nil)),HM,E,S.pick [] (by decide),⟨rfl,rfl⟩⟩
def ferrymanlaw16_log_reads_POO_l1 (a0:ferrymanlaw16_log) (a1:Int) (a2:Str):Nat→Int→Int→Str→Bool→Str→Option ((Int×Str×Bool×Str))
 | 0,_,_,_,_,_=>none
 | k+1,x487,x488,x489,x490,x491=>(if (decide (x487<(a0.facts.length:Int)))=true then (Option.bind (α:=Int×Str×Bool×Str) (if 0≤x487∧x487<(a0.facts.length:Int) then (Option.bind (α:=Int×Str×Bool×Str) (if (((sbin .eql ((rd a0.facts x487).key) a2)&&(decide ((rd a0.facts x487).ts≤(rd a0.lives a1).snapshot)))&&(decide ((rd a0.facts x487).ts>x488)))=true then some ((rd a0.facts x487).ts,(rd a0.facts x487).key,(rd a0.facts x487).tomb,(rd a0.facts x487).value) else some (x488,x489,x490,x491)) (fun ⟨x671,x672,x673,x674⟩=>some (x671,x672,x673,x674))) else none) (fun ⟨x632,x633,x634,x635⟩=>ferrymanlaw16_log_reads_POO_l1 a0 a1 a2 k (IntKind.i64.wrap (x487+(1:Int))) x632 x633 x634 x635)) else some (x488,x489,x490,x491))
set_option maxHeartbeats 2000000 in
theorem ferrymanlaw16_log_reads_POO_l1.mono {a0:ferrymanlaw16_log} {a1:Int} {a2:Str}:∀ {kl:Nat} {x0 x1 x2 x3 x4},OLe (ferrymanlaw16_log_reads_POO_l1 a0 a1 a2 kl x0 x1 x2 x3 x4) (ferrymanlaw16_log_reads_POO_l1 a0 a1 a2 (kl+1) x0 x1 x2 x3 x4):=by
 intro kl
 induction kl with
 | zero=>intros;exact OLe.none
 | succ kl ih =>
  intros
  rw [ferrymanlaw16_log_reads_POO_l1.eq_2,ferrymanlaw16_log_reads_POO_l1.eq_2]
  repeat' (first | with_reducible exact OLe.none | with_reducible exact OLe.some | with_reducible refine OLe.ite ?_ ?_ | with_reducible refine OLe.bind ?_ (fun _=>?_) | exact ih | refine OLe.bind ?_ (fun _=>?_) | refine OLe.ite ?_ ?_ | refine OLe.elim (fun _=>?_) (fun _=>?_) | split)
def ferrymanlaw16_log_reads_POO_l0 (a0:ferrymanlaw16_log) (a1:Int) (a2:Str):Nat→Int→Option ((Str×Bool)⊕(Unit))
 | 0,_=>none
 | k+1,x155=>(if (decide (x155≥(0:Int)))=true then (if 0≤x155∧x155<(((rd a0.lives a1).writes).length:Int) then (if (sbin .eql ((rd ((rd a0.lives a1).writes) x155).key) a2)=true then (if 0≤x155∧x155<(((rd a0.lives a1).writes).length:Int) then (if 0≤x155∧x155<(((rd a0.lives a1).writes).length:Int) then some (.inl ((rd ((rd a0.lives a1).writes) x155).value,(!((rd ((rd a0.lives a1).writes) x155).tomb)))) else none) else none) else ferrymanlaw16_log_reads_POO_l0 a0 a1 a2 k (IntKind.i64.wrap (x155-(1:Int)))) else none) else some (.inr ()))
set_option maxHeartbeats 2000000 in
theorem ferrymanlaw16_log_reads_POO_l0.mono {a0:ferrymanlaw16_log} {a1:Int} {a2:Str}:∀ {kl:Nat} {x0},OLe (ferrymanlaw16_log_reads_POO_l0 a0 a1 a2 kl x0) (ferrymanlaw16_log_reads_POO_l0 a0 a1 a2 (kl+1) x0):=by
 intro kl
 induction kl with
 | zero=>intros;exact OLe.none
 | succ kl ih =>
  intros
  rw [ferrymanlaw16_log_reads_POO_l0.eq_2,ferrymanlaw16_log_reads_POO_l0.eq_2]
  repeat' (first | with_reducible exact OLe.none | with_reducible exact OLe.some | with_reducible refine OLe.ite ?_ ?_ | with_reducible refine OLe.bind ?_ (fun _=>?_) | exact ih | refine OLe.bind ?_ (fun _=>?_) | refine OLe.ite ?_ ?_ | refine OLe.elim (fun _=>?_) (fun _=>?_) | split)
def ferrymanlaw16_log_reads_POO (k:Nat) (a0:ferrymanlaw16_log) (a1:Int) (a2:Str):Option (Str×Bool) :=
 (if 0≤a1∧a1<(a0.lives.length:Int) then (Option.bind (ferrymanlaw16_log_reads_POO_l0 a0 a1 a2 k (IntKind.i64.wrap ((((rd a0.lives a1).writes).length:Int)-(1:Int)))) (fun o222o=>Sum.elim (fun r'=>some r') (fun _=>(Option.bind (ferrymanlaw16_log_reads_POO_l1 a0 a1 a2 k (0:Int) (0:Int) ([]:Str) true ([]:Str)) (fun ⟨x583,x584,x585,x586⟩=>some (x586,(!x585))))) o222o)) else none)
set_option maxHeartbeats 2000000 in
theorem ferrymanlaw16_log_reads_POO.mono {k:Nat} {a0:ferrymanlaw16_log} {a1:Int} {a2:Str}:OLe (ferrymanlaw16_log_reads_POO k a0 a1 a2) (ferrymanlaw16_log_reads_POO (k+1) a0 a1 a2):=by
 unfold ferrymanlaw16_log_reads_POO
 repeat' (first | with_reducible exact OLe.none | with_reducible exact OLe.some | with_reducible refine OLe.ite ?_ ?_ | with_reducible refine OLe.bind ?_ (fun _=>?_) | with_reducible exact ferrymanlaw16_log_reads_POO_l0.mono | with_reducible exact ferrymanlaw16_log_reads_POO_l1.mono | refine OLe.bind ?_ (fun _=>?_) | refine OLe.ite ?_ ?_ | refine OLe.elim (fun _=>?_) (fun _=>?_) | split)
set_option maxHeartbeats 4000000 in
set_option maxRecDepth 100000 in
theorem ferrymanlaw16_log_reads_POO.con (k:Nat) (M:Hp) (A0_1:Option Addr) (c0_1:Nat) (A0_2:Option Addr) (c0_2:Nat) (a0:ferrymanlaw16_log) (a1:Int) (a2:Str) (bo0:Nat) (r:Str×Bool)  (h:ferrymanlaw16_log_reads_POO k a0 a1 a2=some r):Con Tryd.prog 16 #[pt bo0 0,.int .i64 a1,.string (bs a2)] M [Blk bo0 (.cells #[.int .i64 a0.time,.slice A0_1 a0.facts.length c0_1,.slice A0_2 a0.lives.length c0_2] 35 (0,0)),Row r_ferrymanlaw16_fact 54 (.slice A0_1 a0.facts.length c0_1) a0.facts,Stk n_ferrymanlaw16_life 52 (.slice A0_2 a0.lives.length c0_2) a0.lives] (fun v M' Γ'=>v=.tuple #[.string (bs r.1),.bool r.2]∧Γ'=[Blk bo0 (.cells #[.int .i64 a0.time,.slice A0_1 a0.facts.length c0_1,.slice A0_2 a0.lives.length c0_2] 35 (0,0)),Row r_ferrymanlaw16_fact 54 (.slice A0_1 a0.facts.length c0_1) a0.facts,Stk n_ferrymanlaw16_life 52 (.slice A0_2 a0.lives.length c0_2) a0.lives]):=by
 refine con_of_wp Tryd.func16 rfl Tryd.ntmps16 Tryd.results16 rfl ?_
 intro w F rn S hrn
 have E:=Ext.refl w
 have HM:=Hp.le_refl M
 have H:=h
 unfold ferrymanlaw16_log_reads_POO at H
 refine Wp_seq (Wp_region_lit (W_v (.string (bs ([]:Str))) (x_assign rfl) rfl (W_v (.bool false) (x_assign rfl) rfl (Wl_nil (tn (Wp_seq ?_))))))
 obtain ⟨⟨p10,p11⟩,H⟩:=chkS H
 obtain ⟨A12,c13,S⟩:=S.stk_out 2 rfl (rd_some p10 p11)
 obtain ⟨b14,ee15⟩:=S.stkx_at 3 rfl
 replace S:St w M F [_,_,_,_]:=S
 refine Wp_region_lit (W_v (pt bo0 0) (x_move rfl) rfl (W_v (pt bo0 0) (x_nilptr rfl) rfl (W_v (pt bo0 2) (x_fieldAddr (o:=0) (off:=2) Tryd.underlying35 rfl ty33 rfl rfl) rfl (W_v (.slice A0_2 a0.lives.length c0_2) (x_load (S.blk 1 rfl) ty33 rfl rfl) rfl (W_v (.int .i64 a1) (x_move rfl) rfl (W_v (.pointer (some ⟨b14,0+a1.toNat*6,none⟩)) (x_indexAddr Tryd.underlying33 ty52 (slA ee15) rfl p10 p11) rfl (W_v (.agg #[.int .i64 ((rd a0.lives a1).task),.int .i64 ((rd a0.lives a1).n),.int .i64 ((rd a0.lives a1).snapshot),.slice A12 ((rd a0.lives a1).writes).length c13,.int .i64 ((rd a0.lives a1).begun),.int .i64 ((rd a0.lives a1).over)]) (x_loadA_stk ⟨M,Hp.le_refl _,S⟩ 3 rfl ee15 0 rfl ty52 rfl rfl rfl) rfl ?_)))))))
 refine W_alloc S #[.int .i64 0,.int .i64 0,.int .i64 0,.slice none 0 0,.int .i64 0,.int .i64 0] ty52 rfl rfl ?_
 intro b17 w18 E' S
 replace E:=E.trans E'
 refine W_store S 0 rfl ty52 rfl rfl [.int .i64 ((rd a0.lives a1).task),.int .i64 ((rd a0.lives a1).n),.int .i64 ((rd a0.lives a1).snapshot),.slice A12 ((rd a0.lives a1).writes).length c13,.int .i64 ((rd a0.lives a1).begun),.int .i64 ((rd a0.lives a1).over)] rfl rfl rfl #[.int .i64 ((rd a0.lives a1).task),.int .i64 ((rd a0.lives a1).n),.int .i64 ((rd a0.lives a1).snapshot),.slice A12 ((rd a0.lives a1).writes).length c13,.int .i64 ((rd a0.lives a1).begun),.int .i64 ((rd a0.lives a1).over)] (by as_aux_lemma=>kernel_rfl) rfl ?_
 intro w20 E' S
 replace E:=E.trans E'
 refine Wl_nil (tn (Wp_seq (Wp_seq (Wp_region_lit (W_v (pt b17 3) (x_fieldAddr (o:=0) (off:=3) Tryd.underlying52 rfl ty32 rfl rfl) rfl (W_v (.slice A12 ((rd a0.lives a1).writes).length c13) (x_load (S.blk 0 rfl) ty32 rfl rfl) rfl (W_v (.int .i64 (((rd a0.lives a1).writes).length:Int)) (x_len_slice (n:=((rd a0.lives a1).writes).length) Tryd.underlying32 rfl) rfl (W_v (.int .i64 (IntKind.i64.wrap ((((rd a0.lives a1).writes).length:Int)-(1:Int)))) (x_ibin rfl rfl rfl rfl) rfl (W_v (.int .i64 (IntKind.i64.wrap ((((rd a0.lives a1).writes).length:Int)-(1:Int)))) (x_assign rfl) rfl (Wl_nil (tn ?_)))))))))))
 obtain ⟨o222,o222h,o222H⟩:=bindS H
 refine Wp_blockJ (fun ρ w'=>.inr ()=o222∧Agree ρ [(0,pt bo0 0),(2,.string (bs a2)),(8,pt b17 0)]∧Ext w w'∧St w' M F [B52 b17 (rd a0.lives a1) A12 c13,Row r_ferrymanlaw16_fact 54 (.slice A12 ((rd a0.lives a1).writes).length c13) ((rd a0.lives a1).writes),Blk bo0 (.cells #[.int .i64 a0.time,.slice A0_1 a0.facts.length c0_1,.slice A0_2 a0.lives.length c0_2] 35 (0,0)),Row r_ferrymanlaw16_fact 54 (.slice A0_1 a0.facts.length c0_1) a0.facts,StkX n_ferrymanlaw16_life 52 (.slice A0_2 a0.lives.length c0_2) a0.lives a1.toNat (rd a0.lives a1) (A12,c13)]) ?_ ?_
 ·skip
  refine Wp_loop (fun n ρ w'=>∃ (x155:Int),ferrymanlaw16_log_reads_POO_l0 a0 a1 a2 n x155=some o222∧Agree ρ [(0,pt bo0 0),(2,.string (bs a2)),(8,pt b17 0),(9,.int .i64 x155)]∧Ext w w'∧St w' M F [B52 b17 (rd a0.lives a1) A12 c13,Row r_ferrymanlaw16_fact 54 (.slice A12 ((rd a0.lives a1).writes).length c13) ((rd a0.lives a1).writes),Blk bo0 (.cells #[.int .i64 a0.time,.slice A0_1 a0.facts.length c0_1,.slice A0_2 a0.lives.length c0_2] 35 (0,0)),Row r_ferrymanlaw16_fact 54 (.slice A0_1 a0.facts.length c0_1) a0.facts,StkX n_ferrymanlaw16_life 52 (.slice A0_2 a0.lives.length c0_2) a0.lives a1.toNat (rd a0.lives a1) (A12,c13)]) k ?_ ?_
  ·skip
   exact ⟨(IntKind.i64.wrap ((((rd a0.lives a1).writes).length:Int)-(1:Int))),o222h,⟨rfl,rfl,rfl,rfl,trivial⟩,E,S.pick [0,1,2,3,4] (by decide)⟩
  ·intro n
   rintro ρ w223 ⟨x155,H,hρ,E,S⟩
   rw [agree_eta hρ]
   cases n with
   | zero=>cases H
   | succ k =>
    rw [ferrymanlaw16_log_reads_POO_l0.eq_2] at H
    refine Wp_seq (Wp_seq (Wp_region_lit (W_v (.int .i64 x155) (x_move rfl) rfl (W_v (.bool (decide (x155≥(0:Int)))) (x_ibin rfl rfl rfl rfl) rfl (Wl_nil (tn ?_))))))
    rcases iteS H with ⟨hb224,H⟩ | ⟨hb224,H⟩
    ·refine Wp_cond_true (congrArg Value.bool hb224) ?_
     refine Wp_skip (tn (Wp_seq ?_))
     refine Wp_block ?_
     refine Wp_seq (Wp_region_lit (W_v (pt b17 3) (x_fieldAddr (o:=0) (off:=3) Tryd.underlying52 rfl ty32 rfl rfl) rfl (W_v (.slice A12 ((rd a0.lives a1).writes).length c13) (x_load (S.blk 0 rfl) ty32 rfl rfl) rfl (W_v (.int .i64 x155) (x_move rfl) rfl ?_))))
     obtain ⟨⟨p235,p236⟩,H⟩:=chkS H
     obtain ⟨b237,o238,cs239,_,_,ee244,hb240,vs241,hR242,hc243⟩:=SlW.at' (S.row_read 1 rfl) p235 p236
     obtain rfl:vs241=_:=hR242
     refine W_v (.pointer (some ⟨b237,o238+x155.toNat*4,none⟩)) (x_indexAddr Tryd.underlying32 ty54 (slA ee244) rfl p235 p236) rfl (W_v (.pointer (some ⟨b237,o238+x155.toNat*4+1,none⟩)) (x_fieldAddr (o:=o238+x155.toNat*4) (off:=1) Tryd.underlying54 rfl ty9 rfl rfl) rfl (W_v (.string (bs ((rd ((rd a0.lives a1).writes) x155).key))) (x_load (Hp.of_get hb240) ty9 rfl (hc243 1 _ rfl)) rfl (W_v (.string (bs a2)) (x_move rfl) rfl (W_v (.bool (sbin .eql ((rd ((rd a0.lives a1).writes) x155).key) a2)) (x_sbin rfl rfl rfl) rfl (Wl_nil (tn ?_))))))
     rcases iteS H with ⟨hb245,H⟩ | ⟨hb245,H⟩
     ·refine Wp_cond_true (congrArg Value.bool hb245) ?_
      refine Wp_seq ?_
      refine Wp_region_any (S:=fun w'=>∃ Mx,M.le Mx∧St w' Mx F [B52 b17 (rd a0.lives a1) A12 c13,Row r_ferrymanlaw16_fact 54 (.slice A12 ((rd a0.lives a1).writes).length c13) ((rd a0.lives a1).writes),Blk bo0 (.cells #[.int .i64 a0.time,.slice A0_1 a0.facts.length c0_1,.slice A0_2 a0.lives.length c0_2] 35 (0,0)),Row r_ferrymanlaw16_fact 54 (.slice A0_1 a0.facts.length c0_1) a0.facts,StkX n_ferrymanlaw16_life 52 (.slice A0_2 a0.lives.length c0_2) a0.lives a1.toNat (rd a0.lives a1) (A12,c13)]) (L:=15) mixed ?_
      intro w278 hw279 E'
      replace S:=S.heap hw279
      replace E:=E.trans E'
      have D1:∃ Mx,Hp.le M Mx∧St _ Mx F [_,_,_,_,_]:=⟨_,Hp.le_refl _,S.pick [0,1,2,3,4] (by decide)⟩
      refine Wa_take (i:=0) rfl (by kernel_rfl) rfl rfl (pt b17 3) rfl (fun w' h'=>x_fieldAddr (o:=0) (off:=3) Tryd.underlying52 rfl ty32 rfl rfl) D1 (Wa_take (i:=1) rfl (by kernel_rfl) rfl rfl (.slice A12 ((rd a0.lives a1).writes).length c13) rfl (fun w' h'=>x_load (cls_blk h' 0 rfl) ty32 rfl rfl) D1 (Wa_take (i:=2) rfl (by kernel_rfl) rfl rfl (.int .i64 x155) rfl (fun w' h'=>x_move rfl) D1 ?_))
      obtain ⟨⟨p280,p281⟩,H⟩:=chkS H
      obtain ⟨b282,o283,_,_,_,ee284,_⟩:=SlW.at' (S.row_read 1 rfl) p280 p281
      refine Wa_take (i:=3) rfl (by kernel_rfl) rfl rfl (.pointer (some ⟨b282,o283+x155.toNat*4,none⟩)) rfl (fun w' h'=>x_indexAddr Tryd.underlying32 ty54 (slA ee284) rfl p280 p281) D1 (Wa_take (i:=4) rfl (by kernel_rfl) rfl rfl (.pointer (some ⟨b282,o283+x155.toNat*4+3,none⟩)) rfl (fun w' h'=>x_fieldAddr (o:=o283+x155.toNat*4) (off:=3) Tryd.underlying54 rfl ty9 rfl rfl) D1 (Wa_take (i:=5) rfl (by kernel_rfl) rfl rfl (.string (bs ((rd ((rd a0.lives a1).writes) x155).value))) rfl (fun w' h'=>x_load_cls h' 1 rfl ee284 p280 p281 3 (by rintro _ _ rfl;rfl) ty9 rfl) D1 (Wa_take (i:=6) rfl (by kernel_rfl) rfl rfl (pt b17 3) rfl (fun w' h'=>x_fieldAddr (o:=0) (off:=3) Tryd.underlying52 rfl ty32 rfl rfl) D1 (Wa_take (i:=7) rfl (by kernel_rfl) rfl rfl (.slice A12 ((rd a0.lives a1).writes).length c13) rfl (fun w' h'=>x_load (cls_blk h' 0 rfl) ty32 rfl rfl) D1 (Wa_take (i:=8) rfl (by kernel_rfl) rfl rfl (.int .i64 x155) rfl (fun w' h'=>x_move rfl) D1 ?_)))))
      obtain ⟨⟨p285,p286⟩,H⟩:=chkS H
      obtain ⟨b287,o288,_,_,_,ee289,_⟩:=SlW.at' (S.row_read 1 rfl) p285 p286
      refine Wa_take (i:=9) rfl (by kernel_rfl) rfl rfl (.pointer (some ⟨b287,o288+x155.toNat*4,none⟩)) rfl (fun w' h'=>x_indexAddr Tryd.underlying32 ty54 (slA ee289) rfl p285 p286) D1 (Wa_take (i:=10) rfl (by kernel_rfl) rfl rfl (.pointer (some ⟨b287,o288+x155.toNat*4+2,none⟩)) rfl (fun w' h'=>x_fieldAddr (o:=o288+x155.toNat*4) (off:=2) Tryd.underlying54 rfl ty4 rfl rfl) D1 (Wa_take (i:=11) rfl (by kernel_rfl) rfl rfl (.bool ((rd ((rd a0.lives a1).writes) x155).tomb)) rfl (fun w' h'=>x_load_cls h' 1 rfl ee289 p285 p286 2 (by rintro _ _ rfl;rfl) ty4 rfl) D1 (Wa_take (i:=12) rfl (by kernel_rfl) rfl rfl (.bool (!((rd ((rd a0.lives a1).writes) x155).tomb))) rfl (fun w' h'=>x_not (b:=((rd ((rd a0.lives a1).writes) x155).tomb)) rfl) D1 (Wa_take (i:=13) rfl (by kernel_rfl) rfl rfl (.string (bs ((rd ((rd a0.lives a1).writes) x155).value))) rfl (fun w' h'=>x_assign rfl) D1 (Wa_take (i:=14) rfl (by kernel_rfl) rfl rfl (.bool (!((rd ((rd a0.lives a1).writes) x155).tomb))) rfl (fun w' h'=>x_assign rfl) D1 ?_)))))
      refine Wa_done (by kernel_rfl) ?_
      refine tn ?_
      refine Wp_ret ?_
      refine br (tr (tr (br (tr (tr (?_))))))
      obtain rfl:=Option.some.inj H
      have H:=o222H
      replace H:=elimL H
      replace S:=S.stk_in 4 rfl 1 rfl
      replace S:St w278 M F [_,_,_,_]:=S
      obtain rfl:=Option.some.inj H
      exact ⟨_,_,_,fun w1 e1=>run_resR (vs:=[.string (bs ((rd ((rd a0.lives a1).writes) x155).value)),.bool (!((rd ((rd a0.lives a1).writes) x155).tomb))]) (FA.cons (rfl) (FA.cons (rfl) (FA.nil))),HM,E,S.pick [2,3,0] (by decide),⟨rfl,rfl⟩⟩
     refine Wp_cond_false (congrArg Value.bool hb245) (Wp_skip (bn (tn (Wp_region_lit (W_v (.int .i64 x155) (x_move rfl) rfl (W_v (.int .i64 (IntKind.i64.wrap (x155-(1:Int)))) (x_ibin rfl rfl rfl rfl) rfl (W_v (.int .i64 (IntKind.i64.wrap (x155-(1:Int)))) (x_assign rfl) rfl (Wl_nil (tn ?_)))))))))
     exact ⟨k,Nat.lt_succ_self k,⟨(IntKind.i64.wrap (x155-(1:Int))),H,⟨rfl,rfl,rfl,rfl,trivial⟩,E,S.pick [0,1,2,3,4] (by decide)⟩⟩
    refine Wp_cond_false (congrArg Value.bool hb224) ?_
    refine Wp_exit ?_
    refine tx (tx (bsm (?_)))
    refine tn ?_
    exact ⟨Option.some.inj H,⟨rfl,rfl,rfl,trivial⟩,E,S.pick [0,1,2,3,4] (by decide)⟩
 rintro ρ w290 ⟨rfl,hρ,E,S⟩
 rw [agree_eta hρ]
 have H:=o222H
 replace H:=elimR H
 refine tn ?_
 as_aux_lemma =>
 refine Wp_seq (Wp_region_lit (W_v (.agg #[.int .i64 0,.string (bs ([]:Str)),.bool true,.string (bs ([]:Str))]) (x_build2 (pl:=[(0,1),(1,1),(2,1),(3,1)]) #[.int .i64 0,.string (bs ([]:Str)),.bool true,.string (bs ([]:Str))] Tryd.underlying54 ty54 (by as_aux_lemma=>kernel_rfl) rfl (by as_aux_lemma=>kernel_rfl)) rfl ?_))
 refine W_alloc S #[.int .i64 0,.string (bs ([]:Str)),.bool false,.string (bs ([]:Str))] ty54 rfl rfl ?_
 intro b291 w292 E' S
 replace E:=E.trans E'
 refine W_store S 0 rfl ty54 rfl rfl [.int .i64 0,.string (bs ([]:Str)),.bool true,.string (bs ([]:Str))] rfl rfl rfl #[.int .i64 0,.string (bs ([]:Str)),.bool true,.string (bs ([]:Str))] rfl rfl ?_
 intro w294 E' S
 replace E:=E.trans E'
 refine Wl_nil (tn (Wp_seq (Wp_seq (Wp_region_lit (W_v (.int .i64 0) (x_assign rfl) rfl (Wl_nil (tn ?_)))))))
 obtain ⟨o587,o587h,o587H⟩:=bindS H
 refine Wp_blockJ (fun ρ w'=>∃ (x583:Int) (x584:Str) (x585:Bool) (x586:Str),(x583,x584,x585,x586)=o587∧Agree ρ [(10,pt b291 0)]∧Ext w w'∧St w' M F [Blk b291 (.cells #[.int .i64 x583,.string (bs x584),.bool x585,.string (bs x586)] 54 (0,0)),Row r_ferrymanlaw16_fact 54 (.slice A12 ((rd a0.lives a1).writes).length c13) ((rd a0.lives a1).writes),Blk bo0 (.cells #[.int .i64 a0.time,.slice A0_1 a0.facts.length c0_1,.slice A0_2 a0.lives.length c0_2] 35 (0,0)),Row r_ferrymanlaw16_fact 54 (.slice A0_1 a0.facts.length c0_1) a0.facts,StkX n_ferrymanlaw16_life 52 (.slice A0_2 a0.lives.length c0_2) a0.lives a1.toNat (rd a0.lives a1) (A12,c13)]) ?_ ?_
 ·skip
  refine Wp_loop (fun n ρ w'=>∃ (x487:Int) (x488:Int) (x489:Str) (x490:Bool) (x491:Str),ferrymanlaw16_log_reads_POO_l1 a0 a1 a2 n x487 x488 x489 x490 x491=some o587∧Agree ρ [(0,pt bo0 0),(2,.string (bs a2)),(8,pt b17 0),(10,pt b291 0),(11,.int .i64 x487)]∧Ext w w'∧St w' M F [Blk b291 (.cells #[.int .i64 x488,.string (bs x489),.bool x490,.string (bs x491)] 54 (0,0)),B52 b17 (rd a0.lives a1) A12 c13,Row r_ferrymanlaw16_fact 54 (.slice A12 ((rd a0.lives a1).writes).length c13) ((rd a0.lives a1).writes),Blk bo0 (.cells #[.int .i64 a0.time,.slice A0_1 a0.facts.length c0_1,.slice A0_2 a0.lives.length c0_2] 35 (0,0)),Row r_ferrymanlaw16_fact 54 (.slice A0_1 a0.facts.length c0_1) a0.facts,StkX n_ferrymanlaw16_life 52 (.slice A0_2 a0.lives.length c0_2) a0.lives a1.toNat (rd a0.lives a1) (A12,c13)]) k ?_ ?_
  ·skip
   exact ⟨(0:Int),(0:Int),([]:Str),true,([]:Str),o587h,⟨rfl,rfl,rfl,rfl,rfl,trivial⟩,E,S.pick [0,1,2,3,4,5] (by decide)⟩
  ·intro n
   rintro ρ w588 ⟨x487,x488,x489,x490,x491,H,hρ,E,S⟩
   rw [agree_eta hρ]
   cases n with
   | zero=>cases H
   | succ k =>
    rw [ferrymanlaw16_log_reads_POO_l1.eq_2] at H
    refine Wp_seq (Wp_seq (Wp_region_lit (W_v (.int .i64 x487) (x_move rfl) rfl (W_v (pt bo0 0) (x_move rfl) rfl (W_v (pt bo0 0) (x_nilptr rfl) rfl (W_v (pt bo0 1) (x_fieldAddr (o:=0) (off:=1) Tryd.underlying35 rfl ty32 rfl rfl) rfl (W_v (.slice A0_1 a0.facts.length c0_1) (x_load (S.blk 3 rfl) ty32 rfl rfl) rfl (W_v (.int .i64 (a0.facts.length:Int)) (x_len_slice (n:=a0.facts.length) Tryd.underlying32 rfl) rfl (W_v (.bool (decide (x487<(a0.facts.length:Int)))) (x_ibin rfl rfl rfl rfl) rfl (Wl_nil (tn ?_)))))))))))
    rcases iteS H with ⟨hb589,H⟩ | ⟨hb589,H⟩
    ·refine Wp_cond_true (congrArg Value.bool hb589) ?_
     refine Wp_skip (tn (Wp_seq ?_))
     obtain ⟨o636,o636h,o636H⟩:=bindS H
     refine Wp_cut (fun ρ w'=>∃ (x632:Int) (x633:Str) (x634:Bool) (x635:Str),(x632,x633,x634,x635)=o636∧Agree ρ [(0,pt bo0 0),(2,.string (bs a2)),(8,pt b17 0),(10,pt b291 0),(11,.int .i64 x487)]∧Ext w w'∧St w' M F [Blk b291 (.cells #[.int .i64 x632,.string (bs x633),.bool x634,.string (bs x635)] 54 (0,0)),B52 b17 (rd a0.lives a1) A12 c13,Row r_ferrymanlaw16_fact 54 (.slice A12 ((rd a0.lives a1).writes).length c13) ((rd a0.lives a1).writes),Blk bo0 (.cells #[.int .i64 a0.time,.slice A0_1 a0.facts.length c0_1,.slice A0_2 a0.lives.length c0_2] 35 (0,0)),Row r_ferrymanlaw16_fact 54 (.slice A0_1 a0.facts.length c0_1) a0.facts,StkX n_ferrymanlaw16_life 52 (.slice A0_2 a0.lives.length c0_2) a0.lives a1.toNat (rd a0.lives a1) (A12,c13)]) ?_ ?_
     ·as_aux_lemma =>
       clear o636H
       have H:=o636h
       refine Wp_block ?_
       refine Wp_seq (Wp_region_lit (W_v (pt bo0 0) (x_move rfl) rfl (W_v (pt bo0 0) (x_nilptr rfl) rfl (W_v (pt bo0 1) (x_fieldAddr (o:=0) (off:=1) Tryd.underlying35 rfl ty32 rfl rfl) rfl (W_v (.slice A0_1 a0.facts.length c0_1) (x_load (S.blk 3 rfl) ty32 rfl rfl) rfl (W_v (.int .i64 x487) (x_move rfl) rfl ?_))))))
       obtain ⟨⟨p651,p652⟩,H⟩:=chkS H
       obtain ⟨b653,o654,cs655,_,_,ee660,hb656,vs657,hR658,hc659⟩:=SlW.at' (S.row_read 4 rfl) p651 p652
       obtain rfl:vs657=_:=hR658
       refine W_v (.pointer (some ⟨b653,o654+x487.toNat*4,none⟩)) (x_indexAddr Tryd.underlying32 ty54 (slA ee660) rfl p651 p652) rfl (W_v (.agg #[.int .i64 ((rd a0.facts x487).ts),.string (bs ((rd a0.facts x487).key)),.bool ((rd a0.facts x487).tomb),.string (bs ((rd a0.facts x487).value))]) (x_loadA (Hp.of_get hb656) ty54 rfl (sub_el hc659 0 rfl) rfl rfl) rfl ?_)
       refine W_alloc S #[.int .i64 0,.string (bs ([]:Str)),.bool false,.string (bs ([]:Str))] ty54 rfl rfl ?_
       intro b661 w662 E' S
       replace E:=E.trans E'
       refine W_store S 0 rfl ty54 rfl rfl [.int .i64 ((rd a0.facts x487).ts),.string (bs ((rd a0.facts x487).key)),.bool ((rd a0.facts x487).tomb),.string (bs ((rd a0.facts x487).value))] rfl rfl rfl #[.int .i64 ((rd a0.facts x487).ts),.string (bs ((rd a0.facts x487).key)),.bool ((rd a0.facts x487).tomb),.string (bs ((rd a0.facts x487).value))] rfl rfl ?_
       intro w664 E' S
       replace E:=E.trans E'
       refine Wl_nil (tn (Wp_seq (Wp_region_lit (W_v (pt b661 1) (x_fieldAddr (o:=0) (off:=1) Tryd.underlying54 rfl ty9 rfl rfl) rfl (W_v (.string (bs ((rd a0.facts x487).key))) (x_load (S.blk 0 rfl) ty9 rfl rfl) rfl (W_v (.string (bs a2)) (x_move rfl) rfl (W_v (.bool (sbin .eql ((rd a0.facts x487).key) a2)) (x_sbin rfl rfl rfl) rfl (W_v (.bool (sbin .eql ((rd a0.facts x487).key) a2)) (x_move rfl) rfl ?_))))))))
       refine Wl_cutN 6 (fun ρ w'=>Agree ρ [(0,pt bo0 0),(2,.string (bs a2)),(8,pt b17 0),(10,pt b291 0),(11,.int .i64 x487),(12,pt b661 0),(76,.bool ((sbin .eql ((rd a0.facts x487).key) a2)&&(decide ((rd a0.facts x487).ts≤(rd a0.lives a1).snapshot))))]∧w664=w') ?_ ?_
       ·rcases boolCases (sbin .eql ((rd a0.facts x487).key) a2) with hb665 | hb665
        ·skip
         refine W_no (skT hb665) rfl (W_no (skT hb665) rfl (W_no (skT hb665) rfl (W_no (skT hb665) rfl (W_no (skT hb665) rfl (W_v (.bool false) (x_pick (k:=false) (congrArg Value.bool hb665) rfl) rfl (Wl_nil ?_))))))
         exact ⟨⟨rfl,rfl,rfl,rfl,rfl,rfl,(by first | rfl | (rw [hb665];rfl) | (simp only [hb665];rfl)),trivial⟩,rfl⟩
        ·skip
         refine W_yes (congrArg some hb665) (W_v (pt b661 0) (x_fieldAddr (o:=0) (off:=0) Tryd.underlying54 rfl ty3 rfl rfl) rfl (W_yes (congrArg some hb665) (W_v (.int .i64 ((rd a0.facts x487).ts)) (x_load (S.blk 0 rfl) ty3 rfl rfl) rfl (W_yes (congrArg some hb665) (W_v (pt b17 2) (x_fieldAddr (o:=0) (off:=2) Tryd.underlying52 rfl ty3 rfl rfl) rfl (W_yes (congrArg some hb665) (W_v (.int .i64 ((rd a0.lives a1).snapshot)) (x_load (S.blk 2 rfl) ty3 rfl rfl) rfl (W_yes (congrArg some hb665) (W_v (.bool (decide ((rd a0.facts x487).ts≤(rd a0.lives a1).snapshot))) (x_ibin rfl rfl rfl rfl) rfl (W_v (.bool (decide ((rd a0.facts x487).ts≤(rd a0.lives a1).snapshot))) (x_pick (k:=true) (congrArg Value.bool hb665) rfl) rfl (Wl_nil ?_)))))))))))
         exact ⟨⟨rfl,rfl,rfl,rfl,rfl,rfl,(by first | rfl | (rw [hb665];rfl) | (simp only [hb665];rfl)),trivial⟩,rfl⟩
       as_aux_lemma =>
       rintro ρ _ ⟨hρ,rfl⟩
       rw [agree_eta hρ]
       refine W_v (.bool ((sbin .eql ((rd a0.facts x487).key) a2)&&(decide ((rd a0.facts x487).ts≤(rd a0.lives a1).snapshot)))) (x_move rfl) rfl ?_
       refine Wl_cutN 6 (fun ρ w'=>Agree ρ [(0,pt bo0 0),(2,.string (bs a2)),(8,pt b17 0),(10,pt b291 0),(11,.int .i64 x487),(12,pt b661 0),(83,.bool (((sbin .eql ((rd a0.facts x487).key) a2)&&(decide ((rd a0.facts x487).ts≤(rd a0.lives a1).snapshot)))&&(decide ((rd a0.facts x487).ts>x488))))]∧w664=w') ?_ ?_
       ·rcases boolCases ((sbin .eql ((rd a0.facts x487).key) a2)&&(decide ((rd a0.facts x487).ts≤(rd a0.lives a1).snapshot))) with hb666 | hb666
        ·skip
         refine W_no (skT hb666) rfl (W_no (skT hb666) rfl (W_no (skT hb666) rfl (W_no (skT hb666) rfl (W_no (skT hb666) rfl (W_v (.bool false) (x_pick (k:=false) (congrArg Value.bool hb666) rfl) rfl (Wl_nil ?_))))))
         exact ⟨⟨rfl,rfl,rfl,rfl,rfl,rfl,(by first | rfl | (rw [hb666];rfl) | (simp only [hb666];rfl)),trivial⟩,rfl⟩
        ·skip
         refine W_yes (congrArg some hb666) (W_v (pt b661 0) (x_fieldAddr (o:=0) (off:=0) Tryd.underlying54 rfl ty3 rfl rfl) rfl (W_yes (congrArg some hb666) (W_v (.int .i64 ((rd a0.facts x487).ts)) (x_load (S.blk 0 rfl) ty3 rfl rfl) rfl (W_yes (congrArg some hb666) (W_v (pt b291 0) (x_fieldAddr (o:=0) (off:=0) Tryd.underlying54 rfl ty3 rfl rfl) rfl (W_yes (congrArg some hb666) (W_v (.int .i64 x488) (x_load (S.blk 1 rfl) ty3 rfl rfl) rfl (W_yes (congrArg some hb666) (W_v (.bool (decide ((rd a0.facts x487).ts>x488))) (x_ibin rfl rfl rfl rfl) rfl (W_v (.bool (decide ((rd a0.facts x487).ts>x488))) (x_pick (k:=true) (congrArg Value.bool hb666) rfl) rfl (Wl_nil ?_)))))))))))
         exact ⟨⟨rfl,rfl,rfl,rfl,rfl,rfl,(by first | rfl | (rw [hb666];rfl) | (simp only [hb666];rfl)),trivial⟩,rfl⟩
       rintro ρ _ ⟨hρ,rfl⟩
       rw [agree_eta hρ]
       refine Wl_nil (tn ?_)
       obtain ⟨o675,o675h,o675H⟩:=bindS H
       refine Wp_cut (fun ρ w'=>∃ (x671:Int) (x672:Str) (x673:Bool) (x674:Str),(x671,x672,x673,x674)=o675∧Agree ρ [(0,pt bo0 0),(2,.string (bs a2)),(8,pt b17 0),(10,pt b291 0),(11,.int .i64 x487)]∧Ext w w'∧St w' M F [Blk b291 (.cells #[.int .i64 x671,.string (bs x672),.bool x673,.string (bs x674)] 54 (0,0)),B52 b17 (rd a0.lives a1) A12 c13,Row r_ferrymanlaw16_fact 54 (.slice A12 ((rd a0.lives a1).writes).length c13) ((rd a0.lives a1).writes),Blk bo0 (.cells #[.int .i64 a0.time,.slice A0_1 a0.facts.length c0_1,.slice A0_2 a0.lives.length c0_2] 35 (0,0)),Row r_ferrymanlaw16_fact 54 (.slice A0_1 a0.facts.length c0_1) a0.facts,StkX n_ferrymanlaw16_life 52 (.slice A0_2 a0.lives.length c0_2) a0.lives a1.toNat (rd a0.lives a1) (A12,c13)]) ?_ ?_
       ·clear o675H
        have H:=o675h
        rcases iteS H with ⟨hb676,H⟩ | ⟨hb676,H⟩
        ·refine Wp_cond_true (congrArg Value.bool hb676) ?_
         refine Wp_region_lit (W_v (.agg #[.int .i64 ((rd a0.facts x487).ts),.string (bs ((rd a0.facts x487).key)),.bool ((rd a0.facts x487).tomb),.string (bs ((rd a0.facts x487).value))]) (x_loadA (S.blk 0 rfl) ty54 rfl (sub_of_extract rfl) rfl rfl) rfl ?_)
         refine W_store S 1 rfl ty54 rfl rfl [.int .i64 ((rd a0.facts x487).ts),.string (bs ((rd a0.facts x487).key)),.bool ((rd a0.facts x487).tomb),.string (bs ((rd a0.facts x487).value))] rfl rfl rfl #[.int .i64 ((rd a0.facts x487).ts),.string (bs ((rd a0.facts x487).key)),.bool ((rd a0.facts x487).tomb),.string (bs ((rd a0.facts x487).value))] rfl rfl ?_
         intro w677 E' S
         replace E:=E.trans E'
         refine Wl_nil (tn ?_)
         exact ⟨((rd a0.facts x487).ts),((rd a0.facts x487).key),((rd a0.facts x487).tomb),((rd a0.facts x487).value),Option.some.inj H,⟨rfl,rfl,rfl,rfl,rfl,trivial⟩,E,S.pick [1,2,3,4,5,6] (by decide)⟩
        refine Wp_cond_false (congrArg Value.bool hb676) (Wp_skip (tn ?_))
        exact ⟨x488,x489,x490,x491,Option.some.inj H,⟨rfl,rfl,rfl,rfl,rfl,trivial⟩,E,S.pick [1,2,3,4,5,6] (by decide)⟩
       rintro ρ w678 ⟨x671,x672,x673,x674,rfl,hρ,E,S⟩
       rw [agree_eta hρ]
       have H:=o675H
       refine bn (tn ?_)
       exact ⟨x671,x672,x673,x674,Option.some.inj H,⟨rfl,rfl,rfl,rfl,rfl,trivial⟩,E,S.pick [0,1,2,3,4,5] (by decide)⟩
     rintro ρ w679 ⟨x632,x633,x634,x635,rfl,hρ,E,S⟩
     rw [agree_eta hρ]
     have H:=o636H
     refine tn (Wp_region_lit (W_v (.int .i64 x487) (x_move rfl) rfl (W_v (.int .i64 (IntKind.i64.wrap (x487+(1:Int)))) (x_ibin rfl rfl rfl rfl) rfl (W_v (.int .i64 (IntKind.i64.wrap (x487+(1:Int)))) (x_assign rfl) rfl (Wl_nil (tn ?_))))))
     exact ⟨k,Nat.lt_succ_self k,⟨(IntKind.i64.wrap (x487+(1:Int))),x632,x633,x634,x635,H,⟨rfl,rfl,rfl,rfl,rfl,trivial⟩,E,S.pick [0,1,2,3,4,5] (by decide)⟩⟩
    refine Wp_cond_false (congrArg Value.bool hb589) ?_
    refine Wp_exit ?_
    refine tx (tx (bsm (?_)))
    refine tn ?_
    exact ⟨x488,x489,x490,x491,Option.some.inj H,⟨rfl,trivial⟩,E,S.pick [0,2,3,4,5] (by decide)⟩
 rintro ρ w680 ⟨x583,x584,x585,x586,rfl,hρ,E,S⟩
 rw [agree_eta hρ]
 have H:=o587H
 refine tn ?_
 as_aux_lemma =>
 refine Wp_seq ?_
 refine Wp_region_any (S:=fun w'=>∃ Mx,M.le Mx∧St w' Mx F [Blk b291 (.cells #[.int .i64 x583,.string (bs x584),.bool x585,.string (bs x586)] 54 (0,0)),Row r_ferrymanlaw16_fact 54 (.slice A12 ((rd a0.lives a1).writes).length c13) ((rd a0.lives a1).writes),Blk bo0 (.cells #[.int .i64 a0.time,.slice A0_1 a0.facts.length c0_1,.slice A0_2 a0.lives.length c0_2] 35 (0,0)),Row r_ferrymanlaw16_fact 54 (.slice A0_1 a0.facts.length c0_1) a0.facts,StkX n_ferrymanlaw16_life 52 (.slice A0_2 a0.lives.length c0_2) a0.lives a1.toNat (rd a0.lives a1) (A12,c13)]) (L:=7) mixed ?_
 intro w681 hw682 E'
 replace S:=S.heap hw682
 replace E:=E.trans E'
 have D2:∃ Mx,Hp.le M Mx∧St _ Mx F [_,_,_,_,_]:=⟨_,Hp.le_refl _,S.pick [0,1,2,3,4] (by decide)⟩
 refine Wa_take (i:=0) rfl (by kernel_rfl) rfl rfl (pt b291 3) rfl (fun w' h'=>x_fieldAddr (o:=0) (off:=3) Tryd.underlying54 rfl ty9 rfl rfl) D2 (Wa_take (i:=1) rfl (by kernel_rfl) rfl rfl (.string (bs x586)) rfl (fun w' h'=>x_load (cls_blk h' 0 rfl) ty9 rfl rfl) D2 (Wa_take (i:=2) rfl (by kernel_rfl) rfl rfl (pt b291 2) rfl (fun w' h'=>x_fieldAddr (o:=0) (off:=2) Tryd.underlying54 rfl ty4 rfl rfl) D2 (Wa_take (i:=3) rfl (by kernel_rfl) rfl rfl (.bool x585) rfl (fun w' h'=>x_load (cls_blk h' 0 rfl) ty4 rfl rfl) D2 (Wa_take (i:=4) rfl (by kernel_rfl) rfl rfl (.bool (!x585)) rfl (fun w' h'=>x_not (b:=x585) rfl) D2 (Wa_take (i:=5) rfl (by kernel_rfl) rfl rfl (.string (bs x586)) rfl (fun w' h'=>x_assign rfl) D2 (Wa_take (i:=6) rfl (by kernel_rfl) rfl rfl (.bool (!x585)) rfl (fun w' h'=>x_assign rfl) D2 ?_))))))
 refine Wa_done (by kernel_rfl) ?_
 refine tn ?_
 refine Wp_ret ?_
 replace S:=S.stk_in 4 rfl 1 rfl
 replace S:St w681 M F [_,_,_,_]:=S
 obtain rfl:=Option.some.inj H
 exact ⟨_,_,_,fun w1 e1=>run_resR (vs:=[.string (bs x586),.bool (!x585)]) (FA.cons (rfl) (FA.cons (rfl) (FA.nil))),HM,E,S.pick [2,3,0] (by decide),⟨rfl,rfl⟩⟩
def ferrymanlaw16_log_scans_POO_l8 (a4:(List ferrymanlaw16_Turn)) (x1087:List api_Pair) (x1091:Int):Nat→Int→Option ((Int))
 | 0,_=>none
 | k+1,x2602=>(Option.bind (α:=Bool) (if (decide (x2602<(x1087.length:Int)))=true then (if 0≤x2602∧x2602<(x1087.length:Int) then some ((sbin .lss ((rd x1087 x2602).Key) ((rd a4 x1091).Call.Key))) else none) else some (false)) (fun x2730=>(if x2730=true then ferrymanlaw16_log_scans_POO_l8 a4 x1087 x1091 k (IntKind.i64.wrap (x2602+(1:Int))) else some (x2602))))
set_option maxHeartbeats 2000000 in
theorem ferrymanlaw16_log_scans_POO_l8.mono {a4:(List ferrymanlaw16_Turn)} {x1087:List api_Pair} {x1091:Int}:∀ {kl:Nat} {x0},OLe (ferrymanlaw16_log_scans_POO_l8 a4 x1087 x1091 kl x0) (ferrymanlaw16_log_scans_POO_l8 a4 x1087 x1091 (kl+1) x0):=by
 intro kl
 induction kl with
 | zero=>intros;exact OLe.none
 | succ kl ih =>
  intros
  rw [ferrymanlaw16_log_scans_POO_l8.eq_2,ferrymanlaw16_log_scans_POO_l8.eq_2]
  repeat' (first | with_reducible exact OLe.none | with_reducible exact OLe.some | with_reducible refine OLe.ite ?_ ?_ | with_reducible refine OLe.bind ?_ (fun _=>?_) | exact ih | refine OLe.bind ?_ (fun _=>?_) | refine OLe.ite ?_ ?_ | refine OLe.elim (fun _=>?_) (fun _=>?_) | split)
def ferrymanlaw16_log_scans_POO_l4 (a0:ferrymanlaw16_log) (a1:Int) (a2:api_Call) (a4:(List ferrymanlaw16_Turn)):Nat→List api_Pair→Int→Option ((List api_Pair))
 | 0,_,_=>none
 | k+1,x1087,x1091=>(if (decide (x1091<(a4.length:Int)))=true then (Option.bind (α:=List api_Pair) (if 0≤x1091∧x1091<(a4.length:Int) then (Option.bind (ferrymanlaw16_log_reads_POO k a0 a1 ((rd a4 x1091).Call.Key)) (fun t2443=>(Option.bind (α:=Bool) (if (!t2443.2)=true then some (true) else (Option.bind (ferrymanref02_Within k ((rd a4 x1091).Call.Key) a2.Key a2.End) (fun t2457=>some ((!t2457))))) (fun x2455=>(if x2455=true then some (x1087) else (Option.bind (ferrymanlaw16_log_scans_POO_l8 a4 x1087 x1091 k (0:Int)) (fun x2672=>(Option.bind (α:=Bool) (if (decide (x2672<(x1087.length:Int)))=true then (if 0≤x2672∧x2672<(x1087.length:Int) then some ((sbin .eql ((rd x1087 x2672).Key) ((rd a4 x1091).Call.Key))) else none) else some (false)) (fun x2800=>(if x2800=true then some (x1087) else (if 0≤x2672∧x2672≤(x1087.length:Int) then (if ([]:List api_Pair).length+(List.drop x2672.toNat x1087).length≤4398046511104 then (if 0≤x2672∧x2672≤(x1087.length:Int) then (if (List.take x2672.toNat x1087).length+([(⟨((rd a4 x1091).Call.Key),t2443.1⟩:api_Pair)]:List api_Pair).length≤4398046511104∧0<([(⟨((rd a4 x1091).Call.Key),t2443.1⟩:api_Pair)]:List api_Pair).length then (if ((List.take x2672.toNat x1087)++([(⟨((rd a4 x1091).Call.Key),t2443.1⟩:api_Pair)]:List api_Pair)).length+(([]:List api_Pair)++(List.drop x2672.toNat x1087)).length≤4398046511104 then some ((((List.take x2672.toNat x1087)++([(⟨((rd a4 x1091).Call.Key),t2443.1⟩:api_Pair)]:List api_Pair))++(([]:List api_Pair)++(List.drop x2672.toNat x1087)))) else none) else none) else none) else none) else none))))))))))) else none) (fun x2417=>ferrymanlaw16_log_scans_POO_l4 a0 a1 a2 a4 k x2417 (IntKind.i64.wrap (x1091+(1:Int))))) else some (x1087))
set_option maxHeartbeats 2000000 in
theorem ferrymanlaw16_log_scans_POO_l4.mono {a0:ferrymanlaw16_log} {a1:Int} {a2:api_Call} {a4:(List ferrymanlaw16_Turn)}:∀ {kl:Nat} {x0 x1},OLe (ferrymanlaw16_log_scans_POO_l4 a0 a1 a2 a4 kl x0 x1) (ferrymanlaw16_log_scans_POO_l4 a0 a1 a2 a4 (kl+1) x0 x1):=by
 intro kl
 induction kl with
 | zero=>intros;exact OLe.none
 | succ kl ih =>
  intros
  rw [ferrymanlaw16_log_scans_POO_l4.eq_2,ferrymanlaw16_log_scans_POO_l4.eq_2]
  repeat' (first | with_reducible exact OLe.none | with_reducible exact OLe.some | with_reducible refine OLe.ite ?_ ?_ | with_reducible refine OLe.bind ?_ (fun _=>?_) | with_reducible exact ferrymanlaw16_log_reads_POO.mono | with_reducible exact ferrymanlaw16_log_scans_POO_l8.mono | with_reducible exact ferrymanref02_Within.mono | exact ih | refine OLe.bind ?_ (fun _=>?_) | refine OLe.ite ?_ ?_ | refine OLe.elim (fun _=>?_) (fun _=>?_) | split)
def ferrymanlaw16_log_scans_POO (k:Nat) (a0:ferrymanlaw16_log) (a1:Int) (a2:api_Call) (a3:(List api_Pair)) (a4:(List ferrymanlaw16_Turn)):Option (Bool) :=
 (Option.bind (ferrymanlaw16_log_scans_POO_l4 a0 a1 a2 a4 k ([]:List api_Pair) (0:Int)) (fun x1972=>(if 0≤(imin (x1972.length:Int) a2.Limit)∧(imin (x1972.length:Int) a2.Limit)≤(x1972.length:Int) then (Option.bind (ferrymanref06_Answers k (⟨(0:Int),false,([]:Str),a3⟩:api_Answer) (⟨(0:Int),false,([]:Str),(List.take (imin (x1972.length:Int) a2.Limit).toNat x1972)⟩:api_Answer)) (fun t2867=>some t2867)) else none)))
set_option maxHeartbeats 2000000 in
theorem ferrymanlaw16_log_scans_POO.mono {k:Nat} {a0:ferrymanlaw16_log} {a1:Int} {a2:api_Call} {a3:(List api_Pair)} {a4:(List ferrymanlaw16_Turn)}:OLe (ferrymanlaw16_log_scans_POO k a0 a1 a2 a3 a4) (ferrymanlaw16_log_scans_POO (k+1) a0 a1 a2 a3 a4):=by
 unfold ferrymanlaw16_log_scans_POO
 repeat' (first | with_reducible exact OLe.none | with_reducible exact OLe.some | with_reducible refine OLe.ite ?_ ?_ | with_reducible refine OLe.bind ?_ (fun _=>?_) | with_reducible exact ferrymanlaw16_log_scans_POO_l4.mono | with_reducible exact ferrymanref06_Answers.mono | refine OLe.bind ?_ (fun _=>?_) | refine OLe.ite ?_ ?_ | refine OLe.elim (fun _=>?_) (fun _=>?_) | split)
set_option maxHeartbeats 4000000 in
set_option maxRecDepth 100000 in
theorem ferrymanlaw16_log_scans_POO.con (k:Nat) (M:Hp) (A0_1:Option Addr) (c0_1:Nat) (A0_2:Option Addr) (c0_2:Nat) (a0:ferrymanlaw16_log) (a1:Int) (a2:api_Call) (A3:Option Addr) (c3:Nat) (a3:(List api_Pair)) (A4:Option Addr) (c4:Nat) (a4:(List ferrymanlaw16_Turn)) (bo0:Nat) (r:Bool) (hr3:SlR r_api_Pair M (.slice A3 a3.length c3) a3) (hr4:SlR r_ferrymanlaw16_Turn M (.slice A4 a4.length c4) a4) (h:ferrymanlaw16_log_scans_POO k a0 a1 a2 a3 a4=some r):Con Tryd.prog 17 #[pt bo0 0,.int .i64 a1,.agg #[.int .u8 a2.Kind,.int .i64 a2.Tx,.string (bs a2.Key),.string (bs a2.End),.string (bs a2.Value),.int .i64 a2.Limit,.int .u8 a2.Engine],.slice A3 a3.length c3,.slice A4 a4.length c4] M [Blk bo0 (.cells #[.int .i64 a0.time,.slice A0_1 a0.facts.length c0_1,.slice A0_2 a0.lives.length c0_2] 35 (0,0)),Row r_ferrymanlaw16_fact 54 (.slice A0_1 a0.facts.length c0_1) a0.facts,Stk n_ferrymanlaw16_life 52 (.slice A0_2 a0.lives.length c0_2) a0.lives] (fun v M' Γ'=>v=.bool r∧Γ'=[Blk bo0 (.cells #[.int .i64 a0.time,.slice A0_1 a0.facts.length c0_1,.slice A0_2 a0.lives.length c0_2] 35 (0,0)),Row r_ferrymanlaw16_fact 54 (.slice A0_1 a0.facts.length c0_1) a0.facts,Stk n_ferrymanlaw16_life 52 (.slice A0_2 a0.lives.length c0_2) a0.lives]):=by
 refine con_of_wp Tryd.func17 rfl Tryd.ntmps17 Tryd.results17 rfl ?_
 intro w F rn S hrn
 have E:=Ext.refl w
 have HM:=Hp.le_refl M
 have H:=h
 unfold ferrymanlaw16_log_scans_POO at H
 refine Wp_seq (Wp_region_lit ?_)
 refine W_box S #[.int .u8 a2.Kind,.int .i64 a2.Tx,.string (bs a2.Key),.string (bs a2.End),.string (bs a2.Value),.int .i64 a2.Limit,.int .u8 a2.Engine] rfl rfl rfl ?_
 intro b1 w2 E' S
 replace E:=E.trans E'
 refine W_v (.bool false) (x_assign rfl) rfl (Wl_nil (tn (Wp_seq (Wp_region_lit (W_v (.slice none 0 0) (x_assign rfl) rfl (Wl_nil (tn (Wp_seq (Wp_seq (Wp_region_lit (W_v (.int .i64 0) (x_assign rfl) rfl (Wl_nil (tn ?_)))))))))))))
 obtain ⟨o1976,o1976h,o1976H⟩:=bindS H
 refine Wp_blockJ (fun ρ w'=>∃ (x1972:List api_Pair) (A1973:Option Addr) (c1974:Nat) (Mj:Hp),(x1972)=o1976∧Agree ρ [(3,.slice A3 a3.length c3),(7,pt b1 0),(11,.slice A1973 x1972.length c1974)]∧M.le Mj∧Ext w w'∧St w' Mj F [Row r_api_Pair 87 (.slice A1973 x1972.length c1974) x1972,B37 b1 a2,Blk bo0 (.cells #[.int .i64 a0.time,.slice A0_1 a0.facts.length c0_1,.slice A0_2 a0.lives.length c0_2] 35 (0,0)),Row r_ferrymanlaw16_fact 54 (.slice A0_1 a0.facts.length c0_1) a0.facts,Stk n_ferrymanlaw16_life 52 (.slice A0_2 a0.lives.length c0_2) a0.lives]) ?_ ?_
 ·skip
  refine Wp_loop (fun n ρ w'=>∃ (x1087:List api_Pair) (x1091:Int) (A1088:Option Addr) (c1089:Nat) (Mj:Hp),ferrymanlaw16_log_scans_POO_l4 a0 a1 a2 a4 n x1087 x1091=some o1976∧Agree ρ [(0,pt bo0 0),(1,.int .i64 a1),(3,.slice A3 a3.length c3),(4,.slice A4 a4.length c4),(7,pt b1 0),(11,.slice A1088 x1087.length c1089),(12,.int .i64 x1091)]∧M.le Mj∧Ext w w'∧St w' Mj F [Row r_api_Pair 87 (.slice A1088 x1087.length c1089) x1087,B37 b1 a2,Blk bo0 (.cells #[.int .i64 a0.time,.slice A0_1 a0.facts.length c0_1,.slice A0_2 a0.lives.length c0_2] 35 (0,0)),Row r_ferrymanlaw16_fact 54 (.slice A0_1 a0.facts.length c0_1) a0.facts,Stk n_ferrymanlaw16_life 52 (.slice A0_2 a0.lives.length c0_2) a0.lives]) k ?_ ?_
  ·skip
   replace S:=S.row_nil r_api_Pair 87
   exact ⟨([]:List api_Pair),(0:Int),none,0,M,o1976h,⟨rfl,rfl,rfl,rfl,rfl,rfl,rfl,trivial⟩,(Hp.le_refl M),E,S.pick [0,1,2,3,4] (by decide)⟩
  ·intro n
   rintro ρ w1978 ⟨x1087,x1091,A1088,c1089,M1979,H,hρ,hM1980,E,S⟩
   rw [agree_eta hρ]
   replace HM:=Hp.le_trans HM hM1980
   replace hr3:=SlR.mono hr3 hM1980
   replace hr4:=SlR.mono hr4 hM1980
   cases n with
   | zero=>cases H
   | succ k =>
    rw [ferrymanlaw16_log_scans_POO_l4.eq_2] at H
    refine Wp_seq (Wp_seq (Wp_region_lit (W_v (.int .i64 x1091) (x_move rfl) rfl (W_v (.slice A4 a4.length c4) (x_move rfl) rfl (W_v (.int .i64 (a4.length:Int)) (x_len_slice (n:=a4.length) Tryd.underlying24 rfl) rfl (W_v (.bool (decide (x1091<(a4.length:Int)))) (x_ibin rfl rfl rfl rfl) rfl (Wl_nil (tn ?_))))))))
    rcases iteS H with ⟨hb1981,H⟩ | ⟨hb1981,H⟩
    ·refine Wp_cond_true (congrArg Value.bool hb1981) ?_
     refine Wp_skip (tn (Wp_seq ?_))
     obtain ⟨o2421,o2421h,o2421H⟩:=bindS H
     refine Wp_cut (fun ρ w'=>∃ (x2417:List api_Pair) (A2418:Option Addr) (c2419:Nat) (Mj:Hp),(x2417)=o2421∧Agree ρ [(0,pt bo0 0),(1,.int .i64 a1),(3,.slice A3 a3.length c3),(4,.slice A4 a4.length c4),(7,pt b1 0),(11,.slice A2418 x2417.length c2419),(12,.int .i64 x1091)]∧M1979.le Mj∧Ext w w'∧St w' Mj F [Row r_api_Pair 87 (.slice A2418 x2417.length c2419) x2417,Blk bo0 (.cells #[.int .i64 a0.time,.slice A0_1 a0.facts.length c0_1,.slice A0_2 a0.lives.length c0_2] 35 (0,0)),Row r_ferrymanlaw16_fact 54 (.slice A0_1 a0.facts.length c0_1) a0.facts,Stk n_ferrymanlaw16_life 52 (.slice A0_2 a0.lives.length c0_2) a0.lives,B37 b1 a2]) ?_ ?_
     ·as_aux_lemma =>
       clear o2421H
       have H:=o2421h
       have LE2422:=Hp.le_refl M1979
       refine Wp_block ?_
       refine Wp_seq (Wp_region_lit (W_v (.slice A4 a4.length c4) (x_move rfl) rfl (W_v (.int .i64 x1091) (x_move rfl) rfl ?_)))
       obtain ⟨⟨p2433,p2434⟩,H⟩:=chkS H
       obtain ⟨b2435,o2436,cs2437,_,_,ee2442,hb2438,vs2439,hR2440,hc2441⟩:=SlW.at' hr4 p2433 p2434
       obtain rfl:vs2439=_:=hR2440
       refine W_v (.pointer (some ⟨b2435,o2436+x1091.toNat*8,none⟩)) (x_indexAddr Tryd.underlying24 ty39 (slA ee2442) rfl p2433 p2434) rfl (W_v (.pointer (some ⟨b2435,o2436+x1091.toNat*8+1,none⟩)) (x_fieldAddr (o:=o2436+x1091.toNat*8) (off:=1) Tryd.underlying39 rfl ty37 rfl rfl) rfl (W_v (.pointer (some ⟨b2435,o2436+x1091.toNat*8+1+2,none⟩)) (x_fieldAddr (o:=o2436+x1091.toNat*8+1) (off:=2) Tryd.underlying37 rfl ty9 rfl rfl) rfl (W_v (.string (bs ((rd a4 x1091).Call.Key))) (x_load (S.frz hb2438) ty9 rfl (hc2441 3 _ rfl)) rfl (W_v (.string (bs ((rd a4 x1091).Call.Key))) (x_assign rfl) rfl (Wl_nil (tn (Wp_seq (Wp_region_lit (W_v (pt bo0 0) (x_move rfl) rfl (W_v (.int .i64 a1) (x_move rfl) rfl (W_v (.string (bs ((rd a4 x1091).Call.Key))) (x_move rfl) rfl ?_)))))))))))
       obtain ⟨t2443,ht2444,H⟩:=bindS H
       replace S:St w1978 M1979 F [_,_,_,_,_]:=S.pick [2,3,4,0,1] (by decide)
       refine W_call fn16 (ferrymanlaw16_log_reads_POO.con k M1979 A0_1 c0_1 A0_2 c0_2 a0 a1 ((rd a4 x1091).Call.Key) bo0 t2443  ht2444) (Γ1:=[_,_,_]) (Γ2:=[_,_]) S rfl rfl ?_
       rintro _ w2445 M2446 Γ' hM2447 E' S ⟨rfl,rfl⟩
       replace HM:=Hp.le_trans HM hM2447
       replace hM1980:=Hp.le_trans hM1980 hM2447
       replace LE2422:=Hp.le_trans LE2422 hM2447
       replace hr3:=SlR.mono hr3 hM2447
       replace hr4:=SlR.mono hr4 hM2447
       replace hb2438:=hM2447 _ _ hb2438
       replace E:=E.trans E'
       replace S:St w2445 M2446 F [_,_,_,_,_]:=S
       refine W_v (.tuple #[.string (bs t2443.1),.bool t2443.2]) (x_move rfl) rfl (W_v (.string (bs t2443.1)) (x_extract rfl rfl) rfl (W_v (.bool t2443.2) (x_extract rfl rfl) rfl (W_v (.string (bs t2443.1)) (x_assign rfl) rfl (W_v (.bool t2443.2) (x_assign rfl) rfl (Wl_nil (tn (Wp_seq (Wp_seq (Wp_region_lit (W_v (.bool t2443.2) (x_move rfl) rfl (W_v (.bool (!t2443.2)) (x_not (b:=t2443.2) rfl) rfl (W_v (.bool (!t2443.2)) (x_move rfl) rfl ?_))))))))))))
       obtain ⟨o2456,o2456h,o2456H⟩:=bindS H
       refine Wl_cutN 8 (fun ρ w'=>∃ (x2455:Bool),(x2455)=o2456∧Agree ρ [(0,pt bo0 0),(1,.int .i64 a1),(3,.slice A3 a3.length c3),(4,.slice A4 a4.length c4),(7,pt b1 0),(11,.slice A1088 x1087.length c1089),(12,.int .i64 x1091),(13,.string (bs ((rd a4 x1091).Call.Key))),(14,.string (bs t2443.1)),(47,.bool x2455)]∧Ext w w'∧St w' M2446 F [Blk bo0 (.cells #[.int .i64 a0.time,.slice A0_1 a0.facts.length c0_1,.slice A0_2 a0.lives.length c0_2] 35 (0,0)),Row r_ferrymanlaw16_fact 54 (.slice A0_1 a0.facts.length c0_1) a0.facts,Stk n_ferrymanlaw16_life 52 (.slice A0_2 a0.lives.length c0_2) a0.lives,Row r_api_Pair 87 (.slice A1088 x1087.length c1089) x1087,B37 b1 a2]) ?_ ?_
       ·have H:=o2456h
        rcases iteS H with ⟨hb2454,H⟩ | ⟨hb2454,H⟩
        ·skip
         refine W_no (skF hb2454) rfl (W_no (skF hb2454) rfl (W_no (skF hb2454) rfl (W_no (skF hb2454) rfl (W_no (skF hb2454) rfl (W_no (skF hb2454) rfl (W_no (skF hb2454) rfl (W_v (.bool true) (x_pick (k:=true) (congrArg Value.bool hb2454) rfl) rfl (Wl_nil ?_))))))))
         exact ⟨true,Option.some.inj H,⟨rfl,rfl,rfl,rfl,rfl,rfl,rfl,rfl,rfl,rfl,trivial⟩,E,S.pick [0,1,2,3,4] (by decide)⟩
        ·skip
         refine W_yes (congrArg some hb2454) (W_v (.string (bs ((rd a4 x1091).Call.Key))) (x_move rfl) rfl (W_yes (congrArg some hb2454) (W_v (pt b1 2) (x_fieldAddr (o:=0) (off:=2) Tryd.underlying37 rfl ty9 rfl rfl) rfl (W_yes (congrArg some hb2454) (W_v (.string (bs a2.Key)) (x_load (S.blk 4 rfl) ty9 rfl rfl) rfl (W_yes (congrArg some hb2454) (W_v (pt b1 3) (x_fieldAddr (o:=0) (off:=3) Tryd.underlying37 rfl ty9 rfl rfl) rfl (W_yes (congrArg some hb2454) (W_v (.string (bs a2.End)) (x_load (S.blk 4 rfl) ty9 rfl rfl) rfl (W_yes (congrArg some hb2454) ?_))))))))))
         obtain ⟨t2457,ht2458,H⟩:=bindS H
         refine W_callF fn42 (ferrymanref02_Within.con k M2446 ((rd a4 x1091).Call.Key) a2.Key a2.End t2457  ht2458) S rfl rfl (by rintro _ _ _ ⟨_,rfl⟩;exact flat_nil) ?_
         rintro _ w2459 _ Γ' E' S ⟨rfl,rfl⟩
         replace E:=E.trans E'
         refine W_yes (congrArg some hb2454) (W_v (.bool (!t2457)) (x_not (b:=t2457) rfl) rfl (W_v (.bool (!t2457)) (x_pick (k:=false) (congrArg Value.bool hb2454) rfl) rfl (Wl_nil ?_)))
         exact ⟨(!t2457),Option.some.inj H,⟨rfl,rfl,rfl,rfl,rfl,rfl,rfl,rfl,rfl,rfl,trivial⟩,E,S.pick [0,1,2,3,4] (by decide)⟩
       as_aux_lemma =>
       rintro ρ w2460 ⟨x2455,rfl,hρ,E,S⟩
       rw [agree_eta hρ]
       have H:=o2456H
       refine Wl_nil (tn ?_)
       rcases iteS H with ⟨hb2461,H⟩ | ⟨hb2461,H⟩
       ·refine Wp_cond_true (congrArg Value.bool hb2461) ?_
        refine Wp_exit ?_
        refine tx (bsm (?_))
        refine tn ?_
        exact ⟨x1087,A1088,c1089,M2446,Option.some.inj H,⟨rfl,rfl,rfl,rfl,rfl,rfl,rfl,trivial⟩,LE2422,E,S.pick [3,0,1,2,4] (by decide)⟩
       refine Wp_cond_false (congrArg Value.bool hb2461) (Wp_skip (tn (Wp_seq (Wp_region_lit (W_v (.int .i64 0) (x_assign rfl) rfl (Wl_nil (tn (Wp_seq ?_))))))))
       obtain ⟨o2673,o2673h,o2673H⟩:=bindS H
       refine Wp_blockJ (fun ρ w'=>∃ (x2672:Int),(x2672)=o2673∧Agree ρ [(0,pt bo0 0),(1,.int .i64 a1),(3,.slice A3 a3.length c3),(4,.slice A4 a4.length c4),(7,pt b1 0),(11,.slice A1088 x1087.length c1089),(12,.int .i64 x1091),(13,.string (bs ((rd a4 x1091).Call.Key))),(14,.string (bs t2443.1)),(16,.int .i64 x2672)]∧Ext w w'∧St w' M2446 F [Blk bo0 (.cells #[.int .i64 a0.time,.slice A0_1 a0.facts.length c0_1,.slice A0_2 a0.lives.length c0_2] 35 (0,0)),Row r_ferrymanlaw16_fact 54 (.slice A0_1 a0.facts.length c0_1) a0.facts,Stk n_ferrymanlaw16_life 52 (.slice A0_2 a0.lives.length c0_2) a0.lives,Row r_api_Pair 87 (.slice A1088 x1087.length c1089) x1087,B37 b1 a2]) ?_ ?_
       ·skip
        refine Wp_loop (fun n ρ w'=>∃ (x2602:Int),ferrymanlaw16_log_scans_POO_l8 a4 x1087 x1091 n x2602=some o2673∧Agree ρ [(0,pt bo0 0),(1,.int .i64 a1),(3,.slice A3 a3.length c3),(4,.slice A4 a4.length c4),(7,pt b1 0),(11,.slice A1088 x1087.length c1089),(12,.int .i64 x1091),(13,.string (bs ((rd a4 x1091).Call.Key))),(14,.string (bs t2443.1)),(16,.int .i64 x2602)]∧Ext w w'∧St w' M2446 F [Blk bo0 (.cells #[.int .i64 a0.time,.slice A0_1 a0.facts.length c0_1,.slice A0_2 a0.lives.length c0_2] 35 (0,0)),Row r_ferrymanlaw16_fact 54 (.slice A0_1 a0.facts.length c0_1) a0.facts,Stk n_ferrymanlaw16_life 52 (.slice A0_2 a0.lives.length c0_2) a0.lives,Row r_api_Pair 87 (.slice A1088 x1087.length c1089) x1087,B37 b1 a2]) k ?_ ?_
        ·skip
         exact ⟨(0:Int),o2673h,⟨rfl,rfl,rfl,rfl,rfl,rfl,rfl,rfl,rfl,rfl,trivial⟩,E,S.pick [0,1,2,3,4] (by decide)⟩
        ·intro n
         rintro ρ w2674 ⟨x2602,H,hρ,E,S⟩
         rw [agree_eta hρ]
         cases n with
         | zero=>cases H
         | succ k =>
          rw [ferrymanlaw16_log_scans_POO_l8.eq_2] at H
          refine Wp_seq (Wp_seq (Wp_region_lit (W_v (.int .i64 x2602) (x_move rfl) rfl (W_v (.slice A1088 x1087.length c1089) (x_move rfl) rfl (W_v (.int .i64 (x1087.length:Int)) (x_len_slice (n:=x1087.length) Tryd.underlying41 rfl) rfl (W_v (.bool (decide (x2602<(x1087.length:Int)))) (x_ibin rfl rfl rfl rfl) rfl (W_v (.bool (decide (x2602<(x1087.length:Int)))) (x_move rfl) rfl ?_)))))))
          obtain ⟨o2731,o2731h,o2731H⟩:=bindS H
          refine Wl_cutN 8 (fun ρ w'=>∃ (x2730:Bool),(x2730)=o2731∧Agree ρ [(0,pt bo0 0),(1,.int .i64 a1),(3,.slice A3 a3.length c3),(4,.slice A4 a4.length c4),(7,pt b1 0),(11,.slice A1088 x1087.length c1089),(12,.int .i64 x1091),(13,.string (bs ((rd a4 x1091).Call.Key))),(14,.string (bs t2443.1)),(16,.int .i64 x2602),(60,.bool x2730)]∧Ext w w'∧St w' M2446 F [Blk bo0 (.cells #[.int .i64 a0.time,.slice A0_1 a0.facts.length c0_1,.slice A0_2 a0.lives.length c0_2] 35 (0,0)),Row r_ferrymanlaw16_fact 54 (.slice A0_1 a0.facts.length c0_1) a0.facts,Stk n_ferrymanlaw16_life 52 (.slice A0_2 a0.lives.length c0_2) a0.lives,Row r_api_Pair 87 (.slice A1088 x1087.length c1089) x1087,B37 b1 a2]) ?_ ?_
          ·have H:=o2731h
           rcases iteS H with ⟨hb2729,H⟩ | ⟨hb2729,H⟩
           ·skip
            refine W_yes (congrArg some hb2729) (W_v (.slice A1088 x1087.length c1089) (x_move rfl) rfl (W_yes (congrArg some hb2729) (W_v (.int .i64 x2602) (x_move rfl) rfl (W_yes (congrArg some hb2729) ?_))))
            obtain ⟨⟨p2732,p2733⟩,H⟩:=chkS H
            obtain ⟨b2734,o2735,cs2736,_,_,ee2741,hb2737,vs2738,hR2739,hc2740⟩:=SlW.at' (S.row_read 3 rfl) p2732 p2733
            obtain rfl:vs2738=_:=hR2739
            refine W_v (.pointer (some ⟨b2734,o2735+x2602.toNat*2,none⟩)) (x_indexAddr Tryd.underlying41 ty87 (slA ee2741) rfl p2732 p2733) rfl (W_yes (congrArg some hb2729) (W_v (.pointer (some ⟨b2734,o2735+x2602.toNat*2,none⟩)) (x_fieldAddr (o:=o2735+x2602.toNat*2) (off:=0) Tryd.underlying87 rfl ty9 rfl rfl) rfl (W_yes (congrArg some hb2729) (W_v (.string (bs ((rd x1087 x2602).Key))) (x_load (Hp.of_get hb2737) ty9 rfl (hc2740 0 _ rfl)) rfl (W_yes (congrArg some hb2729) (W_v (.string (bs ((rd a4 x1091).Call.Key))) (x_move rfl) rfl (W_yes (congrArg some hb2729) (W_v (.bool (sbin .lss ((rd x1087 x2602).Key) ((rd a4 x1091).Call.Key))) (x_sbin rfl rfl rfl) rfl (W_v (.bool (sbin .lss ((rd x1087 x2602).Key) ((rd a4 x1091).Call.Key))) (x_pick (k:=true) (congrArg Value.bool hb2729) rfl) rfl (Wl_nil ?_))))))))))
            exact ⟨(sbin .lss ((rd x1087 x2602).Key) ((rd a4 x1091).Call.Key)),Option.some.inj H,⟨rfl,rfl,rfl,rfl,rfl,rfl,rfl,rfl,rfl,rfl,rfl,trivial⟩,E,S.pick [0,1,2,3,4] (by decide)⟩
           ·skip
            refine W_no (skT hb2729) rfl (W_no (skT hb2729) rfl (W_no (skT hb2729) rfl (W_no (skT hb2729) rfl (W_no (skT hb2729) rfl (W_no (skT hb2729) rfl (W_no (skT hb2729) rfl (W_v (.bool false) (x_pick (k:=false) (congrArg Value.bool hb2729) rfl) rfl (Wl_nil ?_))))))))
            exact ⟨false,Option.some.inj H,⟨rfl,rfl,rfl,rfl,rfl,rfl,rfl,rfl,rfl,rfl,rfl,trivial⟩,E,S.pick [0,1,2,3,4] (by decide)⟩
          rintro ρ w2742 ⟨x2730,rfl,hρ,E,S⟩
          rw [agree_eta hρ]
          have H:=o2731H
          refine Wl_nil (tn ?_)
          rcases iteS H with ⟨hb2743,H⟩ | ⟨hb2743,H⟩
          ·refine Wp_cond_true (congrArg Value.bool hb2743) ?_
           refine Wp_skip (tn ?_)
           refine Wp_block ?_
           refine Wp_region_lit (W_v (.int .i64 x2602) (x_move rfl) rfl (W_v (.int .i64 (IntKind.i64.wrap (x2602+(1:Int)))) (x_ibin rfl rfl rfl rfl) rfl (W_v (.int .i64 (IntKind.i64.wrap (x2602+(1:Int)))) (x_assign rfl) rfl (Wl_nil (bn (tn ?_))))))
           exact ⟨k,Nat.lt_succ_self k,⟨(IntKind.i64.wrap (x2602+(1:Int))),H,⟨rfl,rfl,rfl,rfl,rfl,rfl,rfl,rfl,rfl,rfl,trivial⟩,E,S.pick [0,1,2,3,4] (by decide)⟩⟩
          refine Wp_cond_false (congrArg Value.bool hb2743) ?_
          refine Wp_exit ?_
          refine tx (tx (bsm (?_)))
          refine tn ?_
          exact ⟨x2602,Option.some.inj H,⟨rfl,rfl,rfl,rfl,rfl,rfl,rfl,rfl,rfl,rfl,trivial⟩,E,S.pick [0,1,2,3,4] (by decide)⟩
       rintro ρ w2744 ⟨x2672,rfl,hρ,E,S⟩
       rw [agree_eta hρ]
       have H:=o2673H
       refine tn ?_
       as_aux_lemma =>
       refine Wp_seq (Wp_seq (Wp_region_lit (W_v (.int .i64 x2672) (x_move rfl) rfl (W_v (.slice A1088 x1087.length c1089) (x_move rfl) rfl (W_v (.int .i64 (x1087.length:Int)) (x_len_slice (n:=x1087.length) Tryd.underlying41 rfl) rfl (W_v (.bool (decide (x2672<(x1087.length:Int)))) (x_ibin rfl rfl rfl rfl) rfl (W_v (.bool (decide (x2672<(x1087.length:Int)))) (x_move rfl) rfl ?_)))))))
       obtain ⟨o2801,o2801h,o2801H⟩:=bindS H
       refine Wl_cutN 8 (fun ρ w'=>∃ (x2800:Bool),(x2800)=o2801∧Agree ρ [(0,pt bo0 0),(1,.int .i64 a1),(3,.slice A3 a3.length c3),(4,.slice A4 a4.length c4),(7,pt b1 0),(11,.slice A1088 x1087.length c1089),(12,.int .i64 x1091),(13,.string (bs ((rd a4 x1091).Call.Key))),(14,.string (bs t2443.1)),(16,.int .i64 x2672),(75,.bool x2800)]∧Ext w w'∧St w' M2446 F [Blk bo0 (.cells #[.int .i64 a0.time,.slice A0_1 a0.facts.length c0_1,.slice A0_2 a0.lives.length c0_2] 35 (0,0)),Row r_ferrymanlaw16_fact 54 (.slice A0_1 a0.facts.length c0_1) a0.facts,Stk n_ferrymanlaw16_life 52 (.slice A0_2 a0.lives.length c0_2) a0.lives,Row r_api_Pair 87 (.slice A1088 x1087.length c1089) x1087,B37 b1 a2]) ?_ ?_
       ·have H:=o2801h
        rcases iteS H with ⟨hb2799,H⟩ | ⟨hb2799,H⟩
        ·skip
         refine W_yes (congrArg some hb2799) (W_v (.slice A1088 x1087.length c1089) (x_move rfl) rfl (W_yes (congrArg some hb2799) (W_v (.int .i64 x2672) (x_move rfl) rfl (W_yes (congrArg some hb2799) ?_))))
         obtain ⟨⟨p2802,p2803⟩,H⟩:=chkS H
         obtain ⟨b2804,o2805,cs2806,_,_,ee2811,hb2807,vs2808,hR2809,hc2810⟩:=SlW.at' (S.row_read 3 rfl) p2802 p2803
         obtain rfl:vs2808=_:=hR2809
         refine W_v (.pointer (some ⟨b2804,o2805+x2672.toNat*2,none⟩)) (x_indexAddr Tryd.underlying41 ty87 (slA ee2811) rfl p2802 p2803) rfl (W_yes (congrArg some hb2799) (W_v (.pointer (some ⟨b2804,o2805+x2672.toNat*2,none⟩)) (x_fieldAddr (o:=o2805+x2672.toNat*2) (off:=0) Tryd.underlying87 rfl ty9 rfl rfl) rfl (W_yes (congrArg some hb2799) (W_v (.string (bs ((rd x1087 x2672).Key))) (x_load (Hp.of_get hb2807) ty9 rfl (hc2810 0 _ rfl)) rfl (W_yes (congrArg some hb2799) (W_v (.string (bs ((rd a4 x1091).Call.Key))) (x_move rfl) rfl (W_yes (congrArg some hb2799) (W_v (.bool (sbin .eql ((rd x1087 x2672).Key) ((rd a4 x1091).Call.Key))) (x_sbin rfl rfl rfl) rfl (W_v (.bool (sbin .eql ((rd x1087 x2672).Key) ((rd a4 x1091).Call.Key))) (x_pick (k:=true) (congrArg Value.bool hb2799) rfl) rfl (Wl_nil ?_))))))))))
         exact ⟨(sbin .eql ((rd x1087 x2672).Key) ((rd a4 x1091).Call.Key)),Option.some.inj H,⟨rfl,rfl,rfl,rfl,rfl,rfl,rfl,rfl,rfl,rfl,rfl,trivial⟩,E,S.pick [0,1,2,3,4] (by decide)⟩
        ·skip
         refine W_no (skT hb2799) rfl (W_no (skT hb2799) rfl (W_no (skT hb2799) rfl (W_no (skT hb2799) rfl (W_no (skT hb2799) rfl (W_no (skT hb2799) rfl (W_no (skT hb2799) rfl (W_v (.bool false) (x_pick (k:=false) (congrArg Value.bool hb2799) rfl) rfl (Wl_nil ?_))))))))
         exact ⟨false,Option.some.inj H,⟨rfl,rfl,rfl,rfl,rfl,rfl,rfl,rfl,rfl,rfl,rfl,trivial⟩,E,S.pick [0,1,2,3,4] (by decide)⟩
       as_aux_lemma =>
       rintro ρ w2812 ⟨x2800,rfl,hρ,E,S⟩
       rw [agree_eta hρ]
       have H:=o2801H
       refine Wl_nil (tn ?_)
       rcases iteS H with ⟨hb2813,H⟩ | ⟨hb2813,H⟩
       ·refine Wp_cond_true (congrArg Value.bool hb2813) ?_
        refine Wp_exit ?_
        refine tx (bsm (?_))
        refine tn ?_
        exact ⟨x1087,A1088,c1089,M2446,Option.some.inj H,⟨rfl,rfl,rfl,rfl,rfl,rfl,rfl,trivial⟩,LE2422,E,S.pick [3,0,1,2,4] (by decide)⟩
       refine Wp_cond_false (congrArg Value.bool hb2813) (Wp_skip (tn (Wp_seq (Wp_region_lit ?_))))
       refine W_bslice S #[] Tryd.underlying41 ty87 rfl rfl #[] (by as_aux_lemma=>kernel_rfl) (by as_aux_lemma=>kernel_rfl) rfl ?_
       intro b2814 w2815 E' S
       replace E:=E.trans E'
       replace S:=S.blk_row (r:=r_api_Pair) (l:=([]:List api_Pair)) 0 rfl 0 (Nat.le_refl 0) rfl Cells.nil
       refine W_v (.slice A1088 x1087.length c1089) (x_move rfl) rfl (W_v (.int .i64 x2672) (x_move rfl) rfl ?_)
       obtain ⟨M2817,hM2818,hf2819,S⟩:=S.row_freeze 4 rfl
       replace HM:=Hp.le_trans HM hM2818
       replace hM1980:=Hp.le_trans hM1980 hM2818
       replace LE2422:=Hp.le_trans LE2422 hM2818
       replace hr3:=SlR.mono hr3 hM2818
       replace hr4:=SlR.mono hr4 hM2818
       replace hb2438:=hM2818 _ _ hb2438
       obtain ⟨⟨p2820,p2821⟩,H⟩:=chkS H
       obtain ⟨A2822,c2823,hs2824,hx2825⟩:=sl_lo hf2819 p2820 p2821
       refine W_v (.slice A2822 (List.drop x2672.toNat x1087).length c2823) (hx2825 Tryd.underlying41 ty87 rfl rfl) rfl ?_
       obtain ⟨p2826,H⟩:=chkS H
       obtain ⟨src2827,hs2828,hC2829⟩:=src_of_read (P:=Tryd.prog) (ρ:=r_api_Pair) (l:=(List.drop x2672.toNat x1087)) (SlR.world hs2824 S) (by decide)
       refine W_append S 0 rfl rfl rfl Tryd.underlying41 (.inl Tryd.underlying41) ty87 rfl (by decide) (by decide) hs2828 hC2829 rfl (by omega) rfl ?_
       intro v2830 w2831 E' S
       replace E:=E.trans E'
       obtain ⟨A2832,c2833,rfl,_⟩:=(S.row_read 0 rfl).form
       refine W_v (.slice A2832 (([]:List api_Pair)++(List.drop x2672.toNat x1087)).length c2833) (x_assign rfl) rfl (Wl_nil (tn (Wp_region_lit (W_v (.slice A1088 x1087.length c1089) (x_move rfl) rfl (W_v (.int .i64 x2672) (x_move rfl) rfl (W_v (.int .i64 x2672) (x_move rfl) rfl ?_))))))
       obtain ⟨⟨p2834,p2835⟩,H⟩:=chkS H
       obtain ⟨hs2836,hx2837⟩:=sl_hm hf2819 p2834 (Int.le_refl _) p2835
       refine W_v (.slice A1088 (List.take x2672.toNat x1087).length x2672.toNat) (hx2837 Tryd.underlying41 ty87 rfl rfl rfl) rfl (W_v (.string (bs ((rd a4 x1091).Call.Key))) (x_move rfl) rfl (W_v (.string (bs t2443.1)) (x_move rfl) rfl (W_v (.agg #[.string (bs ((rd a4 x1091).Call.Key)),.string (bs t2443.1)]) (x_build2 (pl:=[(0,1),(1,1)]) #[.string (bs ((rd a4 x1091).Call.Key)),.string (bs t2443.1)] Tryd.underlying87 ty87 (by as_aux_lemma=>kernel_rfl) rfl (by as_aux_lemma=>kernel_rfl)) rfl ?_)))
       refine W_bslice S #[.string (bs ((rd a4 x1091).Call.Key)),.string (bs t2443.1)] Tryd.underlying41 ty87 rfl rfl #[.string (bs ([]:Str)),.string (bs ([]:Str))] (by as_aux_lemma=>kernel_rfl) (by as_aux_lemma=>kernel_rfl) rfl ?_
       intro b2838 w2839 E' S
       replace E:=E.trans E'
       replace S:=S.blk_row (r:=r_api_Pair) (l:=([(⟨((rd a4 x1091).Call.Key),t2443.1⟩:api_Pair)]:List api_Pair)) 0 rfl 1 (Nat.le_refl 1) rfl (Cells.cons (vs:=[.string (bs ((rd a4 x1091).Call.Key)),.string (bs t2443.1)]) (rfl) Cells.nil)
       obtain ⟨⟨p2841,p2842⟩,H⟩:=chkS H
       obtain ⟨src2843,hs2844,hC2845⟩:=src_of_read (P:=Tryd.prog) (ρ:=r_api_Pair) (l:=([(⟨((rd a4 x1091).Call.Key),t2443.1⟩:api_Pair)]:List api_Pair)) (S.row_read 0 rfl) (by decide)
       refine W_appendNew S (SlR.world hs2836 S) rfl rfl Tryd.underlying41 Tryd.underlying41 ty87 rfl (by decide) (by decide) hs2844 hC2845 rfl (by have:=p2835;have:=p2842;simp only [List.length_take];omega) (by omega) rfl ?_
       intro A2846 c2847 w2848 E' S
       replace E:=E.trans E'
       refine W_v (.slice A2832 (([]:List api_Pair)++(List.drop x2672.toNat x1087)).length c2833) (x_move rfl) rfl ?_
       obtain ⟨p2850,H⟩:=chkS H
       obtain ⟨src2851,hs2852,hC2853⟩:=src_of_read (P:=Tryd.prog) (ρ:=r_api_Pair) (l:=(([]:List api_Pair)++(List.drop x2672.toNat x1087))) (S.row_read 2 rfl) (by decide)
       refine W_append S 0 rfl rfl rfl Tryd.underlying41 (.inl Tryd.underlying41) ty87 rfl (by decide) (by decide) hs2852 hC2853 rfl (by omega) rfl ?_
       intro v2854 w2855 E' S
       replace E:=E.trans E'
       obtain ⟨A2856,c2857,rfl,_⟩:=(S.row_read 0 rfl).form
       refine W_v (.slice A2856 (((List.take x2672.toNat x1087)++([(⟨((rd a4 x1091).Call.Key),t2443.1⟩:api_Pair)]:List api_Pair))++(([]:List api_Pair)++(List.drop x2672.toNat x1087))).length c2857) (x_assign rfl) rfl (Wl_nil (bn (tn ?_)))
       exact ⟨(((List.take x2672.toNat x1087)++([(⟨((rd a4 x1091).Call.Key),t2443.1⟩:api_Pair)]:List api_Pair))++(([]:List api_Pair)++(List.drop x2672.toNat x1087))),A2856,c2857,M2817,Option.some.inj H,⟨rfl,rfl,rfl,rfl,rfl,rfl,rfl,trivial⟩,LE2422,E,S.pick [0,3,4,5,6] (by decide)⟩
     rintro ρ w2858 ⟨x2417,A2418,c2419,M2859,rfl,hρ,hM2860,E,S⟩
     rw [agree_eta hρ]
     replace HM:=Hp.le_trans HM hM2860
     replace hM1980:=Hp.le_trans hM1980 hM2860
     replace hr3:=SlR.mono hr3 hM2860
     replace hr4:=SlR.mono hr4 hM2860
     have H:=o2421H
     refine tn (Wp_region_lit (W_v (.int .i64 x1091) (x_move rfl) rfl (W_v (.int .i64 (IntKind.i64.wrap (x1091+(1:Int)))) (x_ibin rfl rfl rfl rfl) rfl (W_v (.int .i64 (IntKind.i64.wrap (x1091+(1:Int)))) (x_assign rfl) rfl (Wl_nil (tn ?_))))))
     exact ⟨k,Nat.lt_succ_self k,⟨x2417,(IntKind.i64.wrap (x1091+(1:Int))),A2418,c2419,M2859,H,⟨rfl,rfl,rfl,rfl,rfl,rfl,rfl,trivial⟩,hM1980,E,S.pick [0,4,1,2,3] (by decide)⟩⟩
    refine Wp_cond_false (congrArg Value.bool hb1981) ?_
    refine Wp_exit ?_
    refine tx (tx (bsm (?_)))
    refine tn ?_
    exact ⟨x1087,A1088,c1089,M1979,Option.some.inj H,⟨rfl,rfl,rfl,trivial⟩,hM1980,E,S.pick [0,1,2,3,4] (by decide)⟩
 rintro ρ w2861 ⟨x1972,A1973,c1974,M2862,rfl,hρ,hM2863,E,S⟩
 rw [agree_eta hρ]
 replace HM:=Hp.le_trans HM hM2863
 replace hr3:=SlR.mono hr3 hM2863
 replace hr4:=SlR.mono hr4 hM2863
 have H:=o1976H
 refine tn ?_
 as_aux_lemma =>
 refine Wp_seq (Wp_region_lit (W_v (.slice A3 a3.length c3) (x_move rfl) rfl (W_v (.agg #[.int .i64 0,.bool false,.string (bs ([]:Str)),.slice A3 a3.length c3]) (x_build2 (pl:=[(0,1),(1,1),(2,1),(3,1)]) #[.int .i64 0,.bool false,.string (bs ([]:Str)),.slice A3 a3.length c3] Tryd.underlying43 ty43 (by as_aux_lemma=>kernel_rfl) rfl (by as_aux_lemma=>kernel_rfl)) rfl (W_v (.slice A1973 x1972.length c1974) (x_move rfl) rfl (W_v (.slice A1973 x1972.length c1974) (x_move rfl) rfl (W_v (.int .i64 (x1972.length:Int)) (x_len_slice (n:=x1972.length) Tryd.underlying41 rfl) rfl (W_v (pt b1 5) (x_fieldAddr (o:=0) (off:=5) Tryd.underlying37 rfl ty3 rfl rfl) rfl (W_v (.int .i64 a2.Limit) (x_load (S.blk 1 rfl) ty3 rfl rfl) rfl (W_v (.int .i64 (imin (x1972.length:Int) a2.Limit)) (x_min2 rfl rfl) rfl ?_)))))))))
 obtain ⟨⟨p2864,p2865⟩,H⟩:=chkS H
 have hx2866:=@slW_hi _ _ _ _ _ _ _ _ _ (S.row_read 0 rfl) p2864 p2865
 replace S:=S.row_take 0 rfl (imin (x1972.length:Int) a2.Limit).toNat (by omega)
 replace S:St w2861 M2862 F [_,_,_,_,_]:=S
 refine W_v (.slice A1973 (List.take (imin (x1972.length:Int) a2.Limit).toNat x1972).length c1974) (hx2866 Tryd.underlying41 ty87 rfl rfl) rfl (W_v (.agg #[.int .i64 0,.bool false,.string (bs ([]:Str)),.slice A1973 (List.take (imin (x1972.length:Int) a2.Limit).toNat x1972).length c1974]) (x_build2 (pl:=[(0,1),(1,1),(2,1),(3,1)]) #[.int .i64 0,.bool false,.string (bs ([]:Str)),.slice A1973 (List.take (imin (x1972.length:Int) a2.Limit).toNat x1972).length c1974] Tryd.underlying43 ty43 (by as_aux_lemma=>kernel_rfl) rfl (by as_aux_lemma=>kernel_rfl)) rfl ?_)
 obtain ⟨t2867,ht2868,H⟩:=bindS H
 refine W_callN 1 fn20 (fun h9 hs9 hd9=>ferrymanref06_Answers.con k _ A3 c3 (⟨(0:Int),false,([]:Str),a3⟩:api_Answer) A1973 c1974 (⟨(0:Int),false,([]:Str),(List.take (imin (x1972.length:Int) a2.Limit).toNat x1972)⟩:api_Answer) t2867 (SlR.mono hr3 (Hp.le_union_left _ _)) (Sats.row hs9 hd9 0 rfl) ht2868) S rfl rfl (by rintro _ _ _ ⟨_,rfl⟩;exact flat_nil) ?_
 rintro _ w2869 _ Γ' E' S ⟨rfl,rfl⟩
 replace E:=E.trans E'
 refine W_v (.bool t2867) (x_assign rfl) rfl (Wl_nil (tn ?_))
 refine Wp_ret ?_
 obtain rfl:=Option.some.inj H
 exact ⟨_,_,_,fun w1 e1=>run_resR (vs:=[.bool t2867]) (FA.cons (rfl) (FA.nil)),HM,E,S.pick [2,3,4] (by decide),⟨rfl,rfl⟩⟩
def ferrymanlaw16_ModelSnapshot_l0 (a1:(List ferrymanlaw16_Turn)):Nat→Int→Int→List ferrymanlaw16_fact→List ferrymanlaw16_life→model_Model→Option ((Bool)⊕(Unit))
 | 0,_,_,_,_,_=>none
 | k+1,x441,x442,x443,x447,x451=>(if (decide (x441<(a1.length:Int)))=true then (if 0≤x441∧x441<(a1.length:Int) then (Option.bind (ferrymanlaw16_log_find_POO k (⟨x442,x443,x447⟩:ferrymanlaw16_log) ((rd a1 x441).Task) ((rd a1 x441).Call.Tx)) (fun t676=>(Option.bind (model_Model_Do_POOOO k x451 ((rd a1 x441).Task) ((rd a1 x441).Call)) (fun t681=>(if ((decide (t676≥(0:Int)))&&(t681.1.Err==(0:Int)))=true then (Option.bind (ferrymanlaw16_log_reads_POO k (⟨x442,x443,x447⟩:ferrymanlaw16_log) t676 ((rd a1 x441).Call.Key)) (fun t709=>(if ((((rd a1 x441).Call.Kind==(2:Int))&&((!(t681.1.Found==t709.2))||(t709.2&&(sbin .neq t681.1.Value t709.1))))||(((rd a1 x441).Call.Kind==(4:Int))&&(!(t681.1.Found==t709.2))))=true then some (.inl false) else (Option.bind (α:=Bool×List api_Pair) (if ((rd a1 x441).Call.Kind==(5:Int))=true then (Option.bind (ferrymanlaw16_log_scans_POO k (⟨x442,x443,x447⟩:ferrymanlaw16_log) t676 ((rd a1 x441).Call) t681.1.Pairs a1) (fun t759=>some ((!t759),t681.1.Pairs))) else some (false,t681.1.Pairs)) (fun ⟨x749,x750⟩=>(if x749=true then some (.inl false) else (Option.bind (ferrymanlaw16_log_note_POO k (⟨x442,x443,x447⟩:ferrymanlaw16_log) (IntKind.i64.wrap (x441+(1:Int))) (rd a1 x441) (⟨t681.1.Err,t681.1.Found,t681.1.Value,x750⟩:api_Answer)) (fun t771=>(Option.bind (model_Model_Clock_POOOO k t681.2) (fun t789=>(if (t789 != t771.time)=true then some (.inl false) else ferrymanlaw16_ModelSnapshot_l0 a1 k (IntKind.i64.wrap (x441+(1:Int))) t771.time t771.facts t771.lives t681.2))))))))))) else (Option.bind (ferrymanlaw16_log_note_POO k (⟨x442,x443,x447⟩:ferrymanlaw16_log) (IntKind.i64.wrap (x441+(1:Int))) (rd a1 x441) t681.1) (fun t798=>(Option.bind (model_Model_Clock_POOOO k t681.2) (fun t816=>(if (t816 != t798.time)=true then some (.inl false) else ferrymanlaw16_ModelSnapshot_l0 a1 k (IntKind.i64.wrap (x441+(1:Int))) t798.time t798.facts t798.lives t681.2)))))))))) else none) else some (.inr ()))
set_option maxHeartbeats 2000000 in
theorem ferrymanlaw16_ModelSnapshot_l0.mono {a1:(List ferrymanlaw16_Turn)}:∀ {kl:Nat} {x0 x1 x2 x3 x4},OLe (ferrymanlaw16_ModelSnapshot_l0 a1 kl x0 x1 x2 x3 x4) (ferrymanlaw16_ModelSnapshot_l0 a1 (kl+1) x0 x1 x2 x3 x4):=by
 intro kl
 induction kl with
 | zero=>intros;exact OLe.none
 | succ kl ih =>
  intros
  rw [ferrymanlaw16_ModelSnapshot_l0.eq_2,ferrymanlaw16_ModelSnapshot_l0.eq_2]
  repeat' (first | with_reducible exact OLe.none | with_reducible exact OLe.some | with_reducible refine OLe.ite ?_ ?_ | with_reducible refine OLe.bind ?_ (fun _=>?_) | with_reducible exact ferrymanlaw16_log_find_POO.mono | with_reducible exact ferrymanlaw16_log_note_POO.mono | with_reducible exact ferrymanlaw16_log_reads_POO.mono | with_reducible exact ferrymanlaw16_log_scans_POO.mono | with_reducible exact model_Model_Clock_POOOO.mono | with_reducible exact model_Model_Do_POOOO.mono | exact ih | refine OLe.bind ?_ (fun _=>?_) | refine OLe.ite ?_ ?_ | refine OLe.elim (fun _=>?_) (fun _=>?_) | split)
def ferrymanlaw16_ModelSnapshot (k:Nat) (a0:api_Config) (a1:(List ferrymanlaw16_Turn)):Option (Bool) :=
 (Option.bind (ferrymanlaw16_works k ) (fun t4=>(Option.bind (α:=Bool) (if (!t4)=true then some (true) else (Option.bind (ferrymanlaw16_large k a1) (fun t16=>some (t16)))) (fun x14=>(if x14=true then (Option.bind (ferrymanlaw16_works k ) (fun t21=>some t21)) else (Option.bind (model_New_v k a0) (fun t24=>(Sum.elim (fun t26=>some true) (fun t27=>(Option.bind (ferrymanlaw16_ModelSnapshot_l0 a1 k (0:Int) (0:Int) ([]:List ferrymanlaw16_fact) ([]:List ferrymanlaw16_life) t27) (fun o641o=>Sum.elim (fun r'=>some r') (fun _=>some true) o641o)))) t24)))))))
set_option maxHeartbeats 2000000 in
theorem ferrymanlaw16_ModelSnapshot.mono {k:Nat} {a0:api_Config} {a1:(List ferrymanlaw16_Turn)}:OLe (ferrymanlaw16_ModelSnapshot k a0 a1) (ferrymanlaw16_ModelSnapshot (k+1) a0 a1):=by
 unfold ferrymanlaw16_ModelSnapshot
 repeat' (first | with_reducible exact OLe.none | with_reducible exact OLe.some | with_reducible refine OLe.ite ?_ ?_ | with_reducible refine OLe.bind ?_ (fun _=>?_) | with_reducible exact ferrymanlaw16_ModelSnapshot_l0.mono | with_reducible exact ferrymanlaw16_large.mono | with_reducible exact ferrymanlaw16_works.mono | with_reducible exact model_New_v.mono | refine OLe.bind ?_ (fun _=>?_) | refine OLe.ite ?_ ?_ | refine OLe.elim (fun _=>?_) (fun _=>?_) | split)
set_option maxHeartbeats 8000000 in
set_option maxRecDepth 100000 in
theorem ferrymanlaw16_ModelSnapshot.con (k:Nat) (M:Hp) (a0:api_Config) (A1:Option Addr) (c1:Nat) (a1:(List ferrymanlaw16_Turn)) (r:Bool) (hr1:SlR r_ferrymanlaw16_Turn M (.slice A1 a1.length c1) a1) (hg0:∃ gt fr,M 0=some (.cells #[.nilFunc,.func (.func 124) #[] #[],.func (.func 125) #[] #[],.func (.func 126) #[] #[],.func (.func 127) #[] #[],.func (.func 128) #[] #[],.func (.func 129) #[] #[],.func (.func 130) #[] #[],.func (.func 131) #[] #[],.func (.func 132) #[] #[]] gt fr)) (h:ferrymanlaw16_ModelSnapshot k a0 a1=some r):Con Tryd.prog 3 #[.agg #[.int .i64 a0.Tasks,.int .i64 a0.Active,.int .i64 a0.Keys,.int .i64 a0.Depth,.int .i64 a0.TS,.int .i64 a0.KeyLen,.int .i64 a0.ValLen,.int .i64 a0.Fan],.slice A1 a1.length c1] M [] (fun v M' Γ'=>v=.bool r∧Γ'=[]):=by
 refine con_of_wp Tryd.func3 rfl Tryd.ntmps3 Tryd.results3 rfl ?_
 intro w F rn S hrn
 have E:=Ext.refl w
 have HM:=Hp.le_refl M
 have H:=h
 unfold ferrymanlaw16_ModelSnapshot at H
 refine Wp_seq (Wp_region_lit ?_)
 refine W_box S #[.int .i64 a0.Tasks,.int .i64 a0.Active,.int .i64 a0.Keys,.int .i64 a0.Depth,.int .i64 a0.TS,.int .i64 a0.KeyLen,.int .i64 a0.ValLen,.int .i64 a0.Fan] rfl rfl rfl ?_
 intro b1 w2 E' S
 replace E:=E.trans E'
 refine W_v (.bool false) (x_assign rfl) rfl (Wl_nil (tn (Wp_seq (Wp_seq (Wp_region_lit ?_)))))
 obtain ⟨t4,ht5,H⟩:=bindS H
 refine W_callF fn11 (ferrymanlaw16_works.con k M  t4 hg0 ht5) S rfl rfl (by rintro _ _ _ ⟨_,rfl⟩;exact flat_nil) ?_
 rintro _ w6 _ Γ' E' S ⟨rfl,rfl⟩
 replace E:=E.trans E'
 refine W_v (.bool (!t4)) (x_not (b:=t4) rfl) rfl (W_v (.bool (!t4)) (x_move rfl) rfl ?_)
 obtain ⟨o15,o15h,o15H⟩:=bindS H
 refine Wl_cutN 3 (fun ρ w'=>∃ (x14:Bool),(x14)=o15∧Agree ρ [(1,.slice A1 a1.length c1),(2,pt b1 0),(19,.bool x14)]∧Ext w w'∧St w' M F [B23 b1 a0]) ?_ ?_
 ·have H:=o15h
  rcases iteS H with ⟨hb13,H⟩ | ⟨hb13,H⟩
  ·skip
   refine W_no (skF hb13) rfl (W_no (skF hb13) rfl (W_v (.bool true) (x_pick (k:=true) (congrArg Value.bool hb13) rfl) rfl (Wl_nil ?_)))
   exact ⟨true,Option.some.inj H,⟨rfl,rfl,rfl,trivial⟩,E,S.pick [0] (by decide)⟩
  ·skip
   refine W_yes (congrArg some hb13) (W_v (.slice A1 a1.length c1) (x_move rfl) rfl (W_yes (congrArg some hb13) ?_))
   obtain ⟨t16,ht17,H⟩:=bindS H
   refine W_callF fn12 (ferrymanlaw16_large.con k M A1 c1 a1 t16 hr1 ht17) S rfl rfl (by rintro _ _ _ ⟨_,rfl⟩;exact flat_nil) ?_
   rintro _ w18 _ Γ' E' S ⟨rfl,rfl⟩
   replace E:=E.trans E'
   refine W_v (.bool t16) (x_pick (k:=false) (congrArg Value.bool hb13) rfl) rfl (Wl_nil ?_)
   exact ⟨t16,Option.some.inj H,⟨rfl,rfl,rfl,trivial⟩,E,S.pick [0] (by decide)⟩
 as_aux_lemma =>
 rintro ρ w19 ⟨x14,rfl,hρ,E,S⟩
 rw [agree_eta hρ]
 have H:=o15H
 refine Wl_nil (tn ?_)
 rcases iteS H with ⟨hb20,H⟩ | ⟨hb20,H⟩
 ·refine Wp_cond_true (congrArg Value.bool hb20) ?_
  refine Wp_seq (Wp_region_lit ?_)
  obtain ⟨t21,ht22,H⟩:=bindS H
  refine W_callF fn11 (ferrymanlaw16_works.con k M  t21 hg0 ht22) S rfl rfl (by rintro _ _ _ ⟨_,rfl⟩;exact flat_nil) ?_
  rintro _ w23 _ Γ' E' S ⟨rfl,rfl⟩
  replace E:=E.trans E'
  refine W_v (.bool t21) (x_assign rfl) rfl (Wl_nil (tn ?_))
  refine Wp_ret ?_
  refine tr (?_)
  obtain rfl:=Option.some.inj H
  exact ⟨_,_,_,fun w1 e1=>run_resR (vs:=[.bool t21]) (FA.cons (rfl) (FA.nil)),HM,E,S.pick [] (by decide),⟨rfl,rfl⟩⟩
 refine Wp_cond_false (congrArg Value.bool hb20) (Wp_skip (tn (Wp_seq (Wp_region_lit (W_v (.agg #[.int .i64 a0.Tasks,.int .i64 a0.Active,.int .i64 a0.Keys,.int .i64 a0.Depth,.int .i64 a0.TS,.int .i64 a0.KeyLen,.int .i64 a0.ValLen,.int .i64 a0.Fan]) (x_loadA (S.blk 0 rfl) ty23 rfl (sub_of_extract rfl) rfl rfl) rfl ?_)))))
 obtain ⟨t24,ht25,H⟩:=bindS H
 rcases t24 with t26 | t27
 ·skip
  replace H:=elimL H
  refine W_callF2 fn13 (model_New_v.con k M a0 (Sum.inl t26)  ht25) (Γ1:=[]) (Γ2:=[_]) S rfl rfl (by rintro _ _ _ ⟨rfl,rfl⟩;exact flat_nil) ?_
  rintro _ w28 _ Γ' E' S ⟨rfl,rfl⟩
  replace E:=E.trans E'
  replace S:St w28 M F [_]:=S
  refine W_v (.tuple #[.pointer none,.int .i64 1]) (x_move rfl) rfl (W_v (.pointer none) (x_extract rfl rfl) rfl (W_v (.int .i64 1) (x_extract rfl rfl) rfl (W_v (.pointer none) (x_assign rfl) rfl (W_v (.int .i64 1) (x_assign rfl) rfl (Wl_nil (tn (Wp_seq (Wp_seq (Wp_region_lit (W_v (.int .i64 1) (x_move rfl) rfl (W_v (.bool true) (x_ibin rfl rfl rfl rfl) rfl (Wl_nil (tn (Wp_cond_true rfl (Wp_seq ?_)))))))))))))))
  refine Wp_region_lit (W_v (.bool true) (x_assign rfl) rfl (Wl_nil (tn ?_)))
  refine Wp_ret ?_
  refine tr (?_)
  obtain rfl:=Option.some.inj H
  exact ⟨_,_,_,fun w1 e1=>run_resR (vs:=[.bool true]) (FA.cons (rfl) (FA.nil)),HM,E,S.pick [] (by decide),⟨rfl,rfl⟩⟩
 ·skip
  replace H:=elimR H
  refine W_call fn13 (model_New_v.con k M a0 (Sum.inr t27)  ht25) (Γ1:=[]) (Γ2:=[_]) S rfl rfl ?_
  rintro _ w47 M48 Γ' hM49 E' S ⟨b31,A33,c34,A36,c37,A39,c40,A42,c43,vs45,rfl,hm46,rfl⟩
  replace hg0:∃ gt fr,_:=(let ⟨gt,fr,h8⟩:=hg0;⟨gt,fr,hM49 _ _ h8⟩)
  replace HM:=Hp.le_trans HM hM49
  replace hr1:=SlR.mono hr1 hM49
  replace E:=E.trans E'
  replace S:St w47 M48 F [_,_,_,_,_,_]:=S
  refine W_v (.tuple #[pt b31 0,.int .i64 0]) (x_move rfl) rfl (W_v (pt b31 0) (x_extract rfl rfl) rfl (W_v (.int .i64 0) (x_extract rfl rfl) rfl (W_v (pt b31 0) (x_assign rfl) rfl (W_v (.int .i64 0) (x_assign rfl) rfl (Wl_nil (tn (Wp_seq (Wp_seq (Wp_region_lit (W_v (.int .i64 0) (x_move rfl) rfl (W_v (.bool false) (x_ibin rfl rfl rfl rfl) rfl (Wl_nil (tn (Wp_cond_false rfl (Wp_skip ?_)))))))))))))))
  refine tn (Wp_seq (Wp_region_lit (W_v (.agg #[.int .i64 0,.slice none 0 0,.slice none 0 0]) (x_build2 (pl:=[(0,1),(1,1),(2,1)]) #[.int .i64 0,.slice none 0 0,.slice none 0 0] Tryd.underlying35 ty35 (by as_aux_lemma=>kernel_rfl) rfl (by as_aux_lemma=>kernel_rfl)) rfl ?_)))
  refine W_box S #[.int .i64 0,.slice none 0 0,.slice none 0 0] rfl rfl rfl ?_
  intro b50 w51 E' S
  replace E:=E.trans E'
  refine W_v (pt b50 0) (x_assign rfl) rfl (Wl_nil (tn (Wp_seq (Wp_seq (Wp_region_lit (W_v (.int .i64 0) (x_assign rfl) rfl (Wl_nil (tn ?_))))))))
  obtain ⟨o641,o641h,o641H⟩:=bindS H
  refine Wp_blockJ (fun ρ w'=>∃ (Mj:Hp),.inr ()=o641∧Agree ρ []∧M48.le Mj∧Ext w w'∧St w' Mj F []) ?_ ?_
  ·skip
   refine Wp_loop (fun n ρ w'=>∃ (x441:Int) (x442:Int) (x443:List ferrymanlaw16_fact) (x447:List ferrymanlaw16_life) (x451:model_Model) (A444:Option Addr) (c445:Nat) (A448:Option Addr) (c449:Nat) (A452:Option Addr) (c453:Nat) (A455:Option Addr) (c456:Nat) (A458:Option Addr) (c459:Nat) (A461:Option Addr) (c462:Nat) (vs464:List (Str×Value)) (Mj:Hp),ferrymanlaw16_ModelSnapshot_l0 a1 n x441 x442 x443 x447 x451=some o641∧Agree ρ [(1,.slice A1 a1.length c1),(5,pt b31 0),(7,pt b50 0),(8,.int .i64 x441)]∧M48.le Mj∧Ext w w'∧St w' Mj F [MapC encS (fun v:Value=>v) A461 vs464,Row r_model_tx 99 (.slice A458 x451.txs.length c459) x451.txs,MapC (Value.int .i64) (Value.int .i64) A455 x451.many,MapC enc_model_name (Value.int .i64) A452 x451.names,Stk n_ferrymanlaw16_life 52 (.slice A448 x447.length c449) x447,Row r_ferrymanlaw16_fact 54 (.slice A444 x443.length c445) x443,Blk b50 (.cells #[.int .i64 x442,.slice A444 x443.length c445,.slice A448 x447.length c449] 35 (0,0)),B94 b31 x451 A452 A455 A458 c459 A461]∧MRel r_model_row Mj x451.rows vs464) k ?_ ?_
   ·skip
    replace S:=S.row_nil r_ferrymanlaw16_fact 54
    replace S:=S.stk_nil n_ferrymanlaw16_life 52
    exact ⟨(0:Int),(0:Int),([]:List ferrymanlaw16_fact),([]:List ferrymanlaw16_life),t27,none,0,none,0,A33,c34,A36,c37,A39,c40,A42,c43,vs45,M48,o641h,⟨rfl,rfl,rfl,rfl,trivial⟩,(Hp.le_refl M48),E,S.pick [7,6,5,4,0,1,2,3] (by decide),hm46⟩
   ·intro n
    rintro ρ w644 ⟨x441,x442,x443,x447,x451,A444,c445,A448,c449,A452,c453,A455,c456,A458,c459,A461,c462,vs464,M645,H,hρ,hM646,E,S,hm465⟩
    rw [agree_eta hρ]
    replace hg0:∃ gt fr,_:=(let ⟨gt,fr,h8⟩:=hg0;⟨gt,fr,hM646 _ _ h8⟩)
    replace HM:=Hp.le_trans HM hM646
    replace hr1:=SlR.mono hr1 hM646
    replace hm46:=MRel.mono hm46 hM646
    cases n with
    | zero=>cases H
    | succ k =>
     rw [ferrymanlaw16_ModelSnapshot_l0.eq_2] at H
     refine Wp_seq (Wp_seq (Wp_region_lit (W_v (.int .i64 x441) (x_move rfl) rfl (W_v (.slice A1 a1.length c1) (x_move rfl) rfl (W_v (.int .i64 (a1.length:Int)) (x_len_slice (n:=a1.length) Tryd.underlying24 rfl) rfl (W_v (.bool (decide (x441<(a1.length:Int)))) (x_ibin rfl rfl rfl rfl) rfl (Wl_nil (tn ?_))))))))
     rcases iteS H with ⟨hb647,H⟩ | ⟨hb647,H⟩
     ·refine Wp_cond_true (congrArg Value.bool hb647) ?_
      refine Wp_skip (tn (Wp_seq ?_))
      refine Wp_block ?_
      refine Wp_seq (Wp_region_lit (W_v (.slice A1 a1.length c1) (x_move rfl) rfl (W_v (.int .i64 x441) (x_move rfl) rfl ?_)))
      obtain ⟨⟨p662,p663⟩,H⟩:=chkS H
      obtain ⟨b664,o665,cs666,_,_,ee671,hb667,vs668,hR669,hc670⟩:=SlW.at' hr1 p662 p663
      obtain rfl:vs668=_:=hR669
      refine W_v (.pointer (some ⟨b664,o665+x441.toNat*8,none⟩)) (x_indexAddr Tryd.underlying24 ty39 (slA ee671) rfl p662 p663) rfl (W_v (.agg #[.int .i64 ((rd a1 x441).Task),.int .u8 ((rd a1 x441).Call.Kind),.int .i64 ((rd a1 x441).Call.Tx),.string (bs ((rd a1 x441).Call.Key)),.string (bs ((rd a1 x441).Call.End)),.string (bs ((rd a1 x441).Call.Value)),.int .i64 ((rd a1 x441).Call.Limit),.int .u8 ((rd a1 x441).Call.Engine)]) (x_loadA (S.frz hb667) ty39 rfl (sub_el hc670 0 rfl) rfl rfl) rfl ?_)
      refine W_alloc S #[.int .i64 0,.int .u8 0,.int .i64 0,.string (bs ([]:Str)),.string (bs ([]:Str)),.string (bs ([]:Str)),.int .i64 0,.int .u8 0] ty39 rfl rfl ?_
      intro b672 w673 E' S
      replace E:=E.trans E'
      refine W_store S 0 rfl ty39 rfl rfl [.int .i64 ((rd a1 x441).Task),.int .u8 ((rd a1 x441).Call.Kind),.int .i64 ((rd a1 x441).Call.Tx),.string (bs ((rd a1 x441).Call.Key)),.string (bs ((rd a1 x441).Call.End)),.string (bs ((rd a1 x441).Call.Value)),.int .i64 ((rd a1 x441).Call.Limit),.int .u8 ((rd a1 x441).Call.Engine)] rfl rfl rfl #[.int .i64 ((rd a1 x441).Task),.int .u8 ((rd a1 x441).Call.Kind),.int .i64 ((rd a1 x441).Call.Tx),.string (bs ((rd a1 x441).Call.Key)),.string (bs ((rd a1 x441).Call.End)),.string (bs ((rd a1 x441).Call.Value)),.int .i64 ((rd a1 x441).Call.Limit),.int .u8 ((rd a1 x441).Call.Engine)] (by as_aux_lemma=>kernel_rfl) rfl ?_
      intro w675 E' S
      replace E:=E.trans E'
      refine Wl_nil (tn (Wp_seq (Wp_region_lit (W_v (pt b50 0) (x_move rfl) rfl (W_v (pt b672 0) (x_fieldAddr (o:=0) (off:=0) Tryd.underlying39 rfl ty3 rfl rfl) rfl (W_v (.int .i64 ((rd a1 x441).Task)) (x_load (S.blk 0 rfl) ty3 rfl rfl) rfl (W_v (pt b672 1) (x_fieldAddr (o:=0) (off:=1) Tryd.underlying39 rfl ty37 rfl rfl) rfl (W_v (pt b672 2) (x_fieldAddr (o:=1) (off:=1) Tryd.underlying37 rfl ty3 rfl rfl) rfl (W_v (.int .i64 ((rd a1 x441).Call.Tx)) (x_load (S.blk 0 rfl) ty3 rfl rfl) rfl ?_)))))))))
      obtain ⟨t676,ht677,H⟩:=bindS H
      replace S:St w675 M645 F [_,_,_,_,_,_,_,_,_]:=S.pick [7,6,5,0,1,2,3,4,8] (by decide)
      refine W_call fn14 (ferrymanlaw16_log_find_POO.con k M645 A444 c445 A448 c449 (⟨x442,x443,x447⟩:ferrymanlaw16_log) ((rd a1 x441).Task) ((rd a1 x441).Call.Tx) b50 t676  ht677) (Γ1:=[_,_,_]) (Γ2:=[_,_,_,_,_,_]) S rfl rfl ?_
      rintro _ w678 M679 Γ' hM680 E' S ⟨rfl,rfl⟩
      replace hg0:∃ gt fr,_:=(let ⟨gt,fr,h8⟩:=hg0;⟨gt,fr,hM680 _ _ h8⟩)
      replace HM:=Hp.le_trans HM hM680
      replace hM646:=Hp.le_trans hM646 hM680
      replace hr1:=SlR.mono hr1 hM680
      replace hm46:=MRel.mono hm46 hM680
      replace hm465:=MRel.mono hm465 hM680
      replace hb667:=hM680 _ _ hb667
      replace E:=E.trans E'
      replace S:St w678 M679 F [_,_,_,_,_,_,_,_,_]:=S
      refine W_v (.int .i64 t676) (x_assign rfl) rfl (Wl_nil (tn (Wp_seq (Wp_region_lit (W_v (pt b31 0) (x_move rfl) rfl (W_v (pt b672 0) (x_fieldAddr (o:=0) (off:=0) Tryd.underlying39 rfl ty3 rfl rfl) rfl (W_v (.int .i64 ((rd a1 x441).Task)) (x_load (S.blk 3 rfl) ty3 rfl rfl) rfl (W_v (pt b672 1) (x_fieldAddr (o:=0) (off:=1) Tryd.underlying39 rfl ty37 rfl rfl) rfl (W_v (.agg #[.int .u8 ((rd a1 x441).Call.Kind),.int .i64 ((rd a1 x441).Call.Tx),.string (bs ((rd a1 x441).Call.Key)),.string (bs ((rd a1 x441).Call.End)),.string (bs ((rd a1 x441).Call.Value)),.int .i64 ((rd a1 x441).Call.Limit),.int .u8 ((rd a1 x441).Call.Engine)]) (x_loadA (S.blk 3 rfl) ty37 rfl (sub_of_extract rfl) rfl rfl) rfl ?_)))))))))
      obtain ⟨t681,ht682,H⟩:=bindS H
      replace S:St w678 M679 F [_,_,_,_,_,_,_,_,_]:=S.pick [8,7,6,5,4,0,1,2,3] (by decide)
      refine W_call fn15 (model_Model_Do_POOOO.con k M679 A452 c453 A455 c456 A458 c459 A461 c462 vs464 x451 ((rd a1 x441).Task) ((rd a1 x441).Call) b31 t681 hm465 hg0 ht682) (Γ1:=[_,_,_,_,_]) (Γ2:=[_,_,_,_]) S rfl rfl ?_
      rintro _ w700 M701 Γ' hM702 E' S ⟨A683,c684,A686,c687,A689,c690,A692,c693,A695,c696,vs698,rfl,hm699,rfl⟩
      replace hg0:∃ gt fr,_:=(let ⟨gt,fr,h8⟩:=hg0;⟨gt,fr,hM702 _ _ h8⟩)
      replace HM:=Hp.le_trans HM hM702
      replace hM646:=Hp.le_trans hM646 hM702
      replace hr1:=SlR.mono hr1 hM702
      replace hm46:=MRel.mono hm46 hM702
      replace hm465:=MRel.mono hm465 hM702
      replace hb667:=hM702 _ _ hb667
      replace E:=E.trans E'
      replace S:St w700 M701 F [_,_,_,_,_,_,_,_,_,_]:=S
      refine W_alloc S #[.int .i64 0,.bool false,.string (bs ([]:Str)),.slice none 0 0] ty43 rfl rfl ?_
      intro b703 w704 E' S
      replace E:=E.trans E'
      refine W_store S 0 rfl ty43 rfl rfl [.int .i64 t681.1.Err,.bool t681.1.Found,.string (bs t681.1.Value),.slice A683 t681.1.Pairs.length c684] rfl rfl rfl #[.int .i64 t681.1.Err,.bool t681.1.Found,.string (bs t681.1.Value),.slice A683 t681.1.Pairs.length c684] rfl rfl ?_
      intro w706 E' S
      replace E:=E.trans E'
      refine Wl_nil (tn ?_)
      as_aux_lemma =>
      refine Wp_seq (Wp_seq (Wp_region_lit (W_v (.int .i64 t676) (x_move rfl) rfl (W_v (.bool (decide (t676≥(0:Int)))) (x_ibin rfl rfl rfl rfl) rfl (W_v (.bool (decide (t676≥(0:Int)))) (x_move rfl) rfl ?_)))))
      refine Wl_cutN 4 (fun ρ w'=>Agree ρ [(1,.slice A1 a1.length c1),(5,pt b31 0),(7,pt b50 0),(8,.int .i64 x441),(9,pt b672 0),(10,.int .i64 t676),(11,pt b703 0),(59,.bool ((decide (t676≥(0:Int)))&&(t681.1.Err==(0:Int))))]∧w706=w') ?_ ?_
      ·rcases boolCases (decide (t676≥(0:Int))) with hb707 | hb707
       ·skip
        refine W_no (skT hb707) rfl (W_no (skT hb707) rfl (W_no (skT hb707) rfl (W_v (.bool false) (x_pick (k:=false) (congrArg Value.bool hb707) rfl) rfl (Wl_nil ?_))))
        exact ⟨⟨rfl,rfl,rfl,rfl,rfl,rfl,rfl,(by first | rfl | (rw [hb707];rfl) | (simp only [hb707];rfl)),trivial⟩,rfl⟩
       ·skip
        refine W_yes (congrArg some hb707) (W_v (pt b703 0) (x_fieldAddr (o:=0) (off:=0) Tryd.underlying43 rfl ty28 rfl rfl) rfl (W_yes (congrArg some hb707) (W_v (.int .i64 t681.1.Err) (x_load (S.blk 0 rfl) ty28 rfl rfl) rfl (W_yes (congrArg some hb707) (W_v (.bool (t681.1.Err==(0:Int))) (x_ibin rfl rfl rfl rfl) rfl (W_v (.bool (t681.1.Err==(0:Int))) (x_pick (k:=true) (congrArg Value.bool hb707) rfl) rfl (Wl_nil ?_)))))))
        exact ⟨⟨rfl,rfl,rfl,rfl,rfl,rfl,rfl,(by first | rfl | (rw [hb707];rfl) | (simp only [hb707];rfl)),trivial⟩,rfl⟩
      as_aux_lemma =>
      rintro ρ _ ⟨hρ,rfl⟩
      rw [agree_eta hρ]
      refine Wl_nil (tn ?_)
      rcases iteS H with ⟨hb708,H⟩ | ⟨hb708,H⟩
      ·refine Wp_cond_true (congrArg Value.bool hb708) ?_
       refine Wp_seq (Wp_region_lit (W_v (pt b50 0) (x_move rfl) rfl (W_v (.int .i64 t676) (x_move rfl) rfl (W_v (pt b672 1) (x_fieldAddr (o:=0) (off:=1) Tryd.underlying39 rfl ty37 rfl rfl) rfl (W_v (pt b672 3) (x_fieldAddr (o:=1) (off:=2) Tryd.underlying37 rfl ty9 rfl rfl) rfl (W_v (.string (bs ((rd a1 x441).Call.Key))) (x_load (S.blk 10 rfl) ty9 rfl rfl) rfl ?_))))))
       obtain ⟨t709,ht710,H⟩:=bindS H
       replace S:St w706 M701 F [_,_,_,_,_,_,_,_,_,_,_]:=S.pick [7,8,9,0,1,2,3,4,5,6,10] (by decide)
       refine W_call fn16 (ferrymanlaw16_log_reads_POO.con k M701 A444 c445 A448 c449 (⟨x442,x443,x447⟩:ferrymanlaw16_log) t676 ((rd a1 x441).Call.Key) b50 t709  ht710) (Γ1:=[_,_,_]) (Γ2:=[_,_,_,_,_,_,_,_]) S rfl rfl ?_
       rintro _ w711 M712 Γ' hM713 E' S ⟨rfl,rfl⟩
       replace hg0:∃ gt fr,_:=(let ⟨gt,fr,h8⟩:=hg0;⟨gt,fr,hM713 _ _ h8⟩)
       replace HM:=Hp.le_trans HM hM713
       replace hM646:=Hp.le_trans hM646 hM713
       replace hr1:=SlR.mono hr1 hM713
       replace hm46:=MRel.mono hm46 hM713
       replace hm465:=MRel.mono hm465 hM713
       replace hb667:=hM713 _ _ hb667
       replace hm699:=MRel.mono hm699 hM713
       replace E:=E.trans E'
       replace S:St w711 M712 F [_,_,_,_,_,_,_,_,_,_,_]:=S
       refine W_v (.tuple #[.string (bs t709.1),.bool t709.2]) (x_move rfl) rfl (W_v (.string (bs t709.1)) (x_extract rfl rfl) rfl (W_v (.bool t709.2) (x_extract rfl rfl) rfl (W_v (.string (bs t709.1)) (x_assign rfl) rfl (W_v (.bool t709.2) (x_assign rfl) rfl (Wl_nil (tn (Wp_seq (Wp_seq (Wp_region_lit (W_v (pt b672 1) (x_fieldAddr (o:=0) (off:=1) Tryd.underlying39 rfl ty37 rfl rfl) rfl (W_v (pt b672 1) (x_fieldAddr (o:=1) (off:=0) Tryd.underlying37 rfl ty5 rfl rfl) rfl (W_v (.int .u8 ((rd a1 x441).Call.Kind)) (x_load (S.blk 10 rfl) ty5 rfl rfl) rfl (W_v (.bool ((rd a1 x441).Call.Kind==(2:Int))) (x_ibin rfl rfl rfl rfl) rfl (W_v (.bool ((rd a1 x441).Call.Kind==(2:Int))) (x_move rfl) rfl ?_))))))))))))))
       refine Wl_cutN 14 (fun ρ w'=>Agree ρ [(1,.slice A1 a1.length c1),(5,pt b31 0),(7,pt b50 0),(8,.int .i64 x441),(9,pt b672 0),(10,.int .i64 t676),(11,pt b703 0),(13,.bool t709.2),(87,.bool (((rd a1 x441).Call.Kind==(2:Int))&&((!(t681.1.Found==t709.2))||(t709.2&&(sbin .neq t681.1.Value t709.1)))))]∧w711=w') ?_ ?_
       ·as_aux_lemma =>
         rcases boolCases ((rd a1 x441).Call.Kind==(2:Int)) with hb722 | hb722
         ·skip
          refine W_no (skT hb722) rfl (W_no (skT hb722) rfl (W_no (skT hb722) rfl (W_no (skT hb722) rfl (W_no (skT hb722) rfl (W_no (rfl) rfl (W_no (rfl) rfl (W_no (rfl) rfl (W_no (rfl) rfl (W_no (rfl) rfl (W_no (rfl) rfl (W_no (rfl) rfl (W_no (skT hb722) rfl (W_v (.bool false) (x_pick (k:=false) (congrArg Value.bool hb722) rfl) rfl (Wl_nil ?_))))))))))))))
          exact ⟨⟨rfl,rfl,rfl,rfl,rfl,rfl,rfl,rfl,(by first | rfl | (rw [hb722];rfl) | (simp only [hb722];rfl)),trivial⟩,rfl⟩
         ·skip
          refine W_yes (congrArg some hb722) (W_v (pt b703 1) (x_fieldAddr (o:=0) (off:=1) Tryd.underlying43 rfl ty4 rfl rfl) rfl (W_yes (congrArg some hb722) (W_v (.bool t681.1.Found) (x_load (S.blk 3 rfl) ty4 rfl rfl) rfl (W_yes (congrArg some hb722) (W_v (.bool t709.2) (x_move rfl) rfl (W_yes (congrArg some hb722) (W_v (.bool (!(t681.1.Found==t709.2))) (x_bne Tryd.underlying4 rfl rfl) rfl (W_yes (congrArg some hb722) (W_v (.bool (!(t681.1.Found==t709.2))) (x_move rfl) rfl ?_)))))))))
          refine Wl_cutN 8 (fun ρ w'=>Agree ρ [(1,.slice A1 a1.length c1),(5,pt b31 0),(7,pt b50 0),(8,.int .i64 x441),(9,pt b672 0),(10,.int .i64 t676),(11,pt b703 0),(13,.bool t709.2),(73,.bool ((rd a1 x441).Call.Kind==(2:Int))),(74,pt b703 1),(75,.bool t681.1.Found),(76,.bool t709.2),(77,.bool (!(t681.1.Found==t709.2))),(78,.bool (!(t681.1.Found==t709.2))),(86,.bool ((!(t681.1.Found==t709.2))||(t709.2&&(sbin .neq t681.1.Value t709.1))))]∧w711=w') ?_ ?_
          ·as_aux_lemma =>
            rcases boolCases (!(t681.1.Found==t709.2)) with hb725 | hb725
            ·skip
             refine W_yes (congrArg some hb725) (W_v (.bool t709.2) (x_move rfl) rfl (W_yes (congrArg some hb725) (W_v (.bool t709.2) (x_move rfl) rfl ?_)))
             refine Wl_cutN 5 (fun ρ w'=>Agree ρ [(1,.slice A1 a1.length c1),(5,pt b31 0),(7,pt b50 0),(8,.int .i64 x441),(9,pt b672 0),(10,.int .i64 t676),(11,pt b703 0),(13,.bool t709.2),(73,.bool ((rd a1 x441).Call.Kind==(2:Int))),(74,pt b703 1),(75,.bool t681.1.Found),(76,.bool t709.2),(77,.bool (!(t681.1.Found==t709.2))),(78,.bool (!(t681.1.Found==t709.2))),(79,.bool t709.2),(80,.bool t709.2),(85,.bool (t709.2&&(sbin .neq t681.1.Value t709.1)))]∧w711=w') ?_ ?_
             ·rcases boolCases t709.2 with hb726 | hb726
              ·skip
               refine W_no (skT hb726) rfl (W_no (skT hb726) rfl (W_no (skT hb726) rfl (W_no (skT hb726) rfl (W_yes (congrArg some hb725) (W_v (.bool false) (x_pick (k:=false) (congrArg Value.bool hb726) rfl) rfl (Wl_nil ?_))))))
               exact ⟨⟨rfl,rfl,rfl,rfl,rfl,rfl,rfl,rfl,rfl,rfl,rfl,rfl,rfl,rfl,rfl,rfl,(by first | rfl | (rw [hb726];rfl) | (simp only [hb726];rfl)),trivial⟩,rfl⟩
              ·skip
               refine W_yes (congrArg some hb726) (W_v (pt b703 2) (x_fieldAddr (o:=0) (off:=2) Tryd.underlying43 rfl ty9 rfl rfl) rfl (W_yes (congrArg some hb726) (W_v (.string (bs t681.1.Value)) (x_load (S.blk 3 rfl) ty9 rfl rfl) rfl (W_yes (congrArg some hb726) (W_v (.string (bs t709.1)) (x_move rfl) rfl (W_yes (congrArg some hb726) (W_v (.bool (sbin .neq t681.1.Value t709.1)) (x_sbin rfl rfl rfl) rfl (W_yes (congrArg some hb725) (W_v (.bool (sbin .neq t681.1.Value t709.1)) (x_pick (k:=true) (congrArg Value.bool hb726) rfl) rfl (Wl_nil ?_))))))))))
               exact ⟨⟨rfl,rfl,rfl,rfl,rfl,rfl,rfl,rfl,rfl,rfl,rfl,rfl,rfl,rfl,rfl,rfl,(by first | rfl | (rw [hb726];rfl) | (simp only [hb726];rfl)),trivial⟩,rfl⟩
             rintro ρ _ ⟨hρ,rfl⟩
             rw [agree_eta hρ]
             refine W_yes (congrArg some hb722) (W_v (.bool (t709.2&&(sbin .neq t681.1.Value t709.1))) (x_pick (k:=false) (congrArg Value.bool hb725) rfl) rfl (Wl_nil ?_))
             exact ⟨⟨rfl,rfl,rfl,rfl,rfl,rfl,rfl,rfl,rfl,rfl,rfl,rfl,rfl,rfl,(by first | rfl | (rw [hb725];rfl) | (simp only [hb725];rfl)),trivial⟩,rfl⟩
            ·skip
             refine W_no (skF hb725) rfl (W_no (skF hb725) rfl (W_no (rfl) rfl (W_no (rfl) rfl (W_no (rfl) rfl (W_no (rfl) rfl (W_no (skF hb725) rfl (W_yes (congrArg some hb722) (W_v (.bool true) (x_pick (k:=true) (congrArg Value.bool hb725) rfl) rfl (Wl_nil ?_)))))))))
             exact ⟨⟨rfl,rfl,rfl,rfl,rfl,rfl,rfl,rfl,rfl,rfl,rfl,rfl,rfl,rfl,(by first | rfl | (rw [hb725];rfl) | (simp only [hb725];rfl)),trivial⟩,rfl⟩
          rintro ρ _ ⟨hρ,rfl⟩
          rw [agree_eta hρ]
          refine W_v (.bool ((!(t681.1.Found==t709.2))||(t709.2&&(sbin .neq t681.1.Value t709.1)))) (x_pick (k:=true) (congrArg Value.bool hb722) rfl) rfl (Wl_nil ?_)
          exact ⟨⟨rfl,rfl,rfl,rfl,rfl,rfl,rfl,rfl,(by first | rfl | (rw [hb722];rfl) | (simp only [hb722];rfl)),trivial⟩,rfl⟩
       as_aux_lemma =>
       rintro ρ _ ⟨hρ,rfl⟩
       rw [agree_eta hρ]
       refine W_v (.bool (((rd a1 x441).Call.Kind==(2:Int))&&((!(t681.1.Found==t709.2))||(t709.2&&(sbin .neq t681.1.Value t709.1))))) (x_move rfl) rfl ?_
       refine Wl_cutN 11 (fun ρ w'=>Agree ρ [(1,.slice A1 a1.length c1),(5,pt b31 0),(7,pt b50 0),(8,.int .i64 x441),(9,pt b672 0),(10,.int .i64 t676),(11,pt b703 0),(99,.bool ((((rd a1 x441).Call.Kind==(2:Int))&&((!(t681.1.Found==t709.2))||(t709.2&&(sbin .neq t681.1.Value t709.1))))||(((rd a1 x441).Call.Kind==(4:Int))&&(!(t681.1.Found==t709.2)))))]∧w711=w') ?_ ?_
       ·as_aux_lemma =>
         rcases boolCases (((rd a1 x441).Call.Kind==(2:Int))&&((!(t681.1.Found==t709.2))||(t709.2&&(sbin .neq t681.1.Value t709.1)))) with hb729 | hb729
         ·skip
          refine W_yes (congrArg some hb729) (W_v (pt b672 1) (x_fieldAddr (o:=0) (off:=1) Tryd.underlying39 rfl ty37 rfl rfl) rfl (W_yes (congrArg some hb729) (W_v (pt b672 1) (x_fieldAddr (o:=1) (off:=0) Tryd.underlying37 rfl ty5 rfl rfl) rfl (W_yes (congrArg some hb729) (W_v (.int .u8 ((rd a1 x441).Call.Kind)) (x_load (S.blk 10 rfl) ty5 rfl rfl) rfl (W_yes (congrArg some hb729) (W_v (.bool ((rd a1 x441).Call.Kind==(4:Int))) (x_ibin rfl rfl rfl rfl) rfl (W_yes (congrArg some hb729) (W_v (.bool ((rd a1 x441).Call.Kind==(4:Int))) (x_move rfl) rfl ?_)))))))))
          refine Wl_cutN 5 (fun ρ w'=>Agree ρ [(1,.slice A1 a1.length c1),(5,pt b31 0),(7,pt b50 0),(8,.int .i64 x441),(9,pt b672 0),(10,.int .i64 t676),(11,pt b703 0),(88,.bool (((rd a1 x441).Call.Kind==(2:Int))&&((!(t681.1.Found==t709.2))||(t709.2&&(sbin .neq t681.1.Value t709.1))))),(89,pt b672 1),(90,pt b672 1),(91,.int .u8 ((rd a1 x441).Call.Kind)),(92,.bool ((rd a1 x441).Call.Kind==(4:Int))),(93,.bool ((rd a1 x441).Call.Kind==(4:Int))),(98,.bool (((rd a1 x441).Call.Kind==(4:Int))&&(!(t681.1.Found==t709.2))))]∧w711=w') ?_ ?_
          ·rcases boolCases ((rd a1 x441).Call.Kind==(4:Int)) with hb730 | hb730
           ·skip
            refine W_no (skT hb730) rfl (W_no (skT hb730) rfl (W_no (skT hb730) rfl (W_no (skT hb730) rfl (W_yes (congrArg some hb729) (W_v (.bool false) (x_pick (k:=false) (congrArg Value.bool hb730) rfl) rfl (Wl_nil ?_))))))
            exact ⟨⟨rfl,rfl,rfl,rfl,rfl,rfl,rfl,rfl,rfl,rfl,rfl,rfl,rfl,(by first | rfl | (rw [hb730];rfl) | (simp only [hb730];rfl)),trivial⟩,rfl⟩
           ·skip
            refine W_yes (congrArg some hb730) (W_v (pt b703 1) (x_fieldAddr (o:=0) (off:=1) Tryd.underlying43 rfl ty4 rfl rfl) rfl (W_yes (congrArg some hb730) (W_v (.bool t681.1.Found) (x_load (S.blk 3 rfl) ty4 rfl rfl) rfl (W_yes (congrArg some hb730) (W_v (.bool t709.2) (x_move rfl) rfl (W_yes (congrArg some hb730) (W_v (.bool (!(t681.1.Found==t709.2))) (x_bne Tryd.underlying4 rfl rfl) rfl (W_yes (congrArg some hb729) (W_v (.bool (!(t681.1.Found==t709.2))) (x_pick (k:=true) (congrArg Value.bool hb730) rfl) rfl (Wl_nil ?_))))))))))
            exact ⟨⟨rfl,rfl,rfl,rfl,rfl,rfl,rfl,rfl,rfl,rfl,rfl,rfl,rfl,(by first | rfl | (rw [hb730];rfl) | (simp only [hb730];rfl)),trivial⟩,rfl⟩
          rintro ρ _ ⟨hρ,rfl⟩
          rw [agree_eta hρ]
          refine W_v (.bool (((rd a1 x441).Call.Kind==(4:Int))&&(!(t681.1.Found==t709.2)))) (x_pick (k:=false) (congrArg Value.bool hb729) rfl) rfl (Wl_nil ?_)
          exact ⟨⟨rfl,rfl,rfl,rfl,rfl,rfl,rfl,(by first | rfl | (rw [hb729];rfl) | (simp only [hb729];rfl)),trivial⟩,rfl⟩
         ·skip
          refine W_no (skF hb729) rfl (W_no (skF hb729) rfl (W_no (skF hb729) rfl (W_no (skF hb729) rfl (W_no (skF hb729) rfl (W_no (rfl) rfl (W_no (rfl) rfl (W_no (rfl) rfl (W_no (rfl) rfl (W_no (skF hb729) rfl (W_v (.bool true) (x_pick (k:=true) (congrArg Value.bool hb729) rfl) rfl (Wl_nil ?_)))))))))))
          exact ⟨⟨rfl,rfl,rfl,rfl,rfl,rfl,rfl,(by first | rfl | (rw [hb729];rfl) | (simp only [hb729];rfl)),trivial⟩,rfl⟩
       as_aux_lemma =>
       rintro ρ _ ⟨hρ,rfl⟩
       rw [agree_eta hρ]
       refine Wl_nil (tn ?_)
       rcases iteS H with ⟨hb731,H⟩ | ⟨hb731,H⟩
       ·refine Wp_cond_true (congrArg Value.bool hb731) ?_
        refine Wp_seq (Wp_region_lit (W_v (.bool false) (x_assign rfl) rfl (Wl_nil (tn ?_))))
        refine Wp_ret ?_
        refine tr (tr (br (tr (tr (br (tr (tr (?_))))))))
        obtain rfl:=Option.some.inj H
        have H:=o641H
        replace H:=elimL H
        obtain rfl:=Option.some.inj H
        exact ⟨_,_,_,fun w1 e1=>run_resR (vs:=[.bool false]) (FA.cons (rfl) (FA.nil)),HM,E,S.pick [] (by decide),⟨rfl,rfl⟩⟩
       refine Wp_cond_false (congrArg Value.bool hb731) (Wp_skip (tn (Wp_seq (Wp_region_lit (W_v (pt b672 1) (x_fieldAddr (o:=0) (off:=1) Tryd.underlying39 rfl ty37 rfl rfl) rfl (W_v (pt b672 1) (x_fieldAddr (o:=1) (off:=0) Tryd.underlying37 rfl ty5 rfl rfl) rfl (W_v (.int .u8 ((rd a1 x441).Call.Kind)) (x_load (S.blk 10 rfl) ty5 rfl rfl) rfl (W_v (.bool ((rd a1 x441).Call.Kind==(5:Int))) (x_ibin rfl rfl rfl rfl) rfl (W_v (.bool ((rd a1 x441).Call.Kind==(5:Int))) (x_move rfl) rfl ?_)))))))))
       obtain ⟨o754,o754h,o754H⟩:=bindS H
       refine Wl_cutN 10 (fun ρ w'=>∃ (x749:Bool) (x750:List api_Pair) (A751:Option Addr) (c752:Nat) (Mj:Hp),(x749,x750)=o754∧Agree ρ [(1,.slice A1 a1.length c1),(5,pt b31 0),(7,pt b50 0),(8,.int .i64 x441),(9,pt b672 0),(11,pt b703 0),(114,.bool x749)]∧M712.le Mj∧Ext w w'∧St w' Mj F [Blk b50 (.cells #[.int .i64 x442,.slice A444 x443.length c445,.slice A448 x447.length c449] 35 (0,0)),Row r_ferrymanlaw16_fact 54 (.slice A444 x443.length c445) x443,Stk n_ferrymanlaw16_life 52 (.slice A448 x447.length c449) x447,Blk b703 (.cells #[.int .i64 t681.1.Err,.bool t681.1.Found,.string (bs t681.1.Value),.slice A751 x750.length c752] 43 (0,0)),B94 b31 t681.2 A686 A689 A692 c693 A695,MapC enc_model_name (Value.int .i64) A686 t681.2.names,MapC (Value.int .i64) (Value.int .i64) A689 t681.2.many,Row r_model_tx 99 (.slice A692 t681.2.txs.length c693) t681.2.txs,MapC encS (fun v:Value=>v) A695 vs698,B39 b672 (rd a1 x441)]∧SlR r_api_Pair Mj (.slice A751 x750.length c752) x750) ?_ ?_
       ·as_aux_lemma =>
         have H:=o754h
         have LE755:=Hp.le_refl M712
         rcases iteS H with ⟨hb748,H⟩ | ⟨hb748,H⟩
         ·skip
          refine W_yes (congrArg some hb748) (W_v (pt b50 0) (x_move rfl) rfl (W_yes (congrArg some hb748) (W_v (.int .i64 t676) (x_move rfl) rfl (W_yes (congrArg some hb748) (W_v (pt b672 1) (x_fieldAddr (o:=0) (off:=1) Tryd.underlying39 rfl ty37 rfl rfl) rfl (W_yes (congrArg some hb748) (W_v (.agg #[.int .u8 ((rd a1 x441).Call.Kind),.int .i64 ((rd a1 x441).Call.Tx),.string (bs ((rd a1 x441).Call.Key)),.string (bs ((rd a1 x441).Call.End)),.string (bs ((rd a1 x441).Call.Value)),.int .i64 ((rd a1 x441).Call.Limit),.int .u8 ((rd a1 x441).Call.Engine)]) (x_loadA (S.blk 10 rfl) ty37 rfl (sub_of_extract rfl) rfl rfl) rfl (W_yes (congrArg some hb748) (W_v (pt b703 3) (x_fieldAddr (o:=0) (off:=3) Tryd.underlying43 rfl ty41 rfl rfl) rfl (W_yes (congrArg some hb748) (W_v (.slice A683 t681.1.Pairs.length c684) (x_load (S.blk 3 rfl) ty41 rfl rfl) rfl (W_yes (congrArg some hb748) (W_v (.slice A1 a1.length c1) (x_move rfl) rfl (W_yes (congrArg some hb748) ?_))))))))))))))
          obtain ⟨M756,hM757,hf758,S⟩:=S.row_freeze 4 rfl
          replace hg0:∃ gt fr,_:=(let ⟨gt,fr,h8⟩:=hg0;⟨gt,fr,hM757 _ _ h8⟩)
          replace HM:=Hp.le_trans HM hM757
          replace hM646:=Hp.le_trans hM646 hM757
          replace LE755:=Hp.le_trans LE755 hM757
          replace hr1:=SlR.mono hr1 hM757
          replace hm46:=MRel.mono hm46 hM757
          replace hm465:=MRel.mono hm465 hM757
          replace hb667:=hM757 _ _ hb667
          replace hm699:=MRel.mono hm699 hM757
          obtain ⟨t759,ht760,H⟩:=bindS H
          refine W_call fn17 (ferrymanlaw16_log_scans_POO.con k M756 A444 c445 A448 c449 (⟨x442,x443,x447⟩:ferrymanlaw16_log) t676 ((rd a1 x441).Call) A683 c684 t681.1.Pairs A1 c1 a1 b50 t759 hf758 hr1 ht760) (Γ1:=[_,_,_]) (Γ2:=[_,_,_,_,_,_,_]) S rfl rfl ?_
          rintro _ w761 M762 Γ' hM763 E' S ⟨rfl,rfl⟩
          replace hg0:∃ gt fr,_:=(let ⟨gt,fr,h8⟩:=hg0;⟨gt,fr,hM763 _ _ h8⟩)
          replace HM:=Hp.le_trans HM hM763
          replace hM646:=Hp.le_trans hM646 hM763
          replace LE755:=Hp.le_trans LE755 hM763
          replace hr1:=SlR.mono hr1 hM763
          replace hm46:=MRel.mono hm46 hM763
          replace hm465:=MRel.mono hm465 hM763
          replace hb667:=hM763 _ _ hb667
          replace hm699:=MRel.mono hm699 hM763
          replace hf758:=SlR.mono hf758 hM763
          replace E:=E.trans E'
          replace S:St w761 M762 F [_,_,_,_,_,_,_,_,_,_]:=S
          refine W_yes (congrArg some hb748) (W_v (.bool (!t759)) (x_not (b:=t759) rfl) rfl (W_v (.bool (!t759)) (x_pick (k:=true) (congrArg Value.bool hb748) rfl) rfl (Wl_nil ?_)))
          exact ⟨(!t759),t681.1.Pairs,A683,c684,M762,Option.some.inj H,⟨rfl,rfl,rfl,rfl,rfl,rfl,rfl,trivial⟩,LE755,E,S.pick [0,1,2,3,4,5,6,7,8,9] (by decide),hf758⟩
         ·skip
          refine W_no (skT hb748) rfl (W_no (skT hb748) rfl (W_no (skT hb748) rfl (W_no (skT hb748) rfl (W_no (skT hb748) rfl (W_no (skT hb748) rfl (W_no (skT hb748) rfl (W_no (skT hb748) rfl (W_no (skT hb748) rfl (W_v (.bool false) (x_pick (k:=false) (congrArg Value.bool hb748) rfl) rfl (Wl_nil ?_))))))))))
          obtain ⟨M764,hM765,hf766,S⟩:=S.row_freeze 4 rfl
          replace hg0:∃ gt fr,_:=(let ⟨gt,fr,h8⟩:=hg0;⟨gt,fr,hM765 _ _ h8⟩)
          replace HM:=Hp.le_trans HM hM765
          replace hM646:=Hp.le_trans hM646 hM765
          replace LE755:=Hp.le_trans LE755 hM765
          replace hr1:=SlR.mono hr1 hM765
          replace hm46:=MRel.mono hm46 hM765
          replace hm465:=MRel.mono hm465 hM765
          replace hb667:=hM765 _ _ hb667
          replace hm699:=MRel.mono hm699 hM765
          exact ⟨false,t681.1.Pairs,A683,c684,M764,Option.some.inj H,⟨rfl,rfl,rfl,rfl,rfl,rfl,rfl,trivial⟩,LE755,E,S.pick [0,1,2,3,4,5,6,7,8,9] (by decide),hf766⟩
       as_aux_lemma =>
       rintro ρ w767 ⟨x749,x750,A751,c752,M768,rfl,hρ,hM769,E,S,hs753⟩
       rw [agree_eta hρ]
       replace hg0:∃ gt fr,_:=(let ⟨gt,fr,h8⟩:=hg0;⟨gt,fr,hM769 _ _ h8⟩)
       replace HM:=Hp.le_trans HM hM769
       replace hM646:=Hp.le_trans hM646 hM769
       replace hr1:=SlR.mono hr1 hM769
       replace hm46:=MRel.mono hm46 hM769
       replace hm465:=MRel.mono hm465 hM769
       replace hb667:=hM769 _ _ hb667
       replace hm699:=MRel.mono hm699 hM769
       have H:=o754H
       refine Wl_nil (tn ?_)
       rcases iteS H with ⟨hb770,H⟩ | ⟨hb770,H⟩
       ·refine Wp_cond_true (congrArg Value.bool hb770) ?_
        refine Wp_seq (Wp_region_lit (W_v (.bool false) (x_assign rfl) rfl (Wl_nil (tn ?_))))
        refine Wp_ret ?_
        refine tr (br (tr (tr (br (tr (tr (?_)))))))
        obtain rfl:=Option.some.inj H
        have H:=o641H
        replace H:=elimL H
        obtain rfl:=Option.some.inj H
        exact ⟨_,_,_,fun w1 e1=>run_resR (vs:=[.bool false]) (FA.cons (rfl) (FA.nil)),HM,E,S.pick [] (by decide),⟨rfl,rfl⟩⟩
       refine Wp_cond_false (congrArg Value.bool hb770) (Wp_skip (tn (Wp_seq (Wp_region_lit (W_v (pt b50 0) (x_move rfl) rfl (W_v (.int .i64 x441) (x_move rfl) rfl (W_v (.int .i64 (IntKind.i64.wrap (x441+(1:Int)))) (x_ibin rfl rfl rfl rfl) rfl (W_v (.agg #[.int .i64 ((rd a1 x441).Task),.int .u8 ((rd a1 x441).Call.Kind),.int .i64 ((rd a1 x441).Call.Tx),.string (bs ((rd a1 x441).Call.Key)),.string (bs ((rd a1 x441).Call.End)),.string (bs ((rd a1 x441).Call.Value)),.int .i64 ((rd a1 x441).Call.Limit),.int .u8 ((rd a1 x441).Call.Engine)]) (x_loadA (S.blk 9 rfl) ty39 rfl (sub_of_extract rfl) rfl rfl) rfl (W_v (.agg #[.int .i64 t681.1.Err,.bool t681.1.Found,.string (bs t681.1.Value),.slice A751 x750.length c752]) (x_loadA (S.blk 3 rfl) ty43 rfl (sub_of_extract rfl) rfl rfl) rfl ?_)))))))))
       obtain ⟨t771,ht772,H⟩:=bindS H
       refine W_call fn18 (ferrymanlaw16_log_note_POO.con k M768 A444 c445 A448 c449 (⟨x442,x443,x447⟩:ferrymanlaw16_log) (IntKind.i64.wrap (x441+(1:Int))) (rd a1 x441) A751 c752 (⟨t681.1.Err,t681.1.Found,t681.1.Value,x750⟩:api_Answer) b50 t771 hs753 ht772) (Γ1:=[_,_,_]) (Γ2:=[_,_,_,_,_,_,_]) S rfl rfl ?_
       rintro _ w779 M780 Γ' hM781 E' S ⟨A773,c774,A776,c777,rfl,rfl⟩
       replace hg0:∃ gt fr,_:=(let ⟨gt,fr,h8⟩:=hg0;⟨gt,fr,hM781 _ _ h8⟩)
       replace HM:=Hp.le_trans HM hM781
       replace hM646:=Hp.le_trans hM646 hM781
       replace hM769:=Hp.le_trans hM769 hM781
       replace hr1:=SlR.mono hr1 hM781
       replace hm46:=MRel.mono hm46 hM781
       replace hm465:=MRel.mono hm465 hM781
       replace hb667:=hM781 _ _ hb667
       replace hm699:=MRel.mono hm699 hM781
       replace hs753:=SlR.mono hs753 hM781
       replace E:=E.trans E'
       replace S:St w779 M780 F [_,_,_,_,_,_,_,_,_,_]:=S
       refine Wl_nil (tn ?_)
       as_aux_lemma =>
       refine Wp_seq ?_
       refine Wp_region_any (S:=fun w'=>∃ Mx,M780.le Mx∧St w' Mx F [Blk b50 (.cells #[.int .i64 t771.time,.slice A773 t771.facts.length c774,.slice A776 t771.lives.length c777] 35 (0,0)),Row r_ferrymanlaw16_fact 54 (.slice A773 t771.facts.length c774) t771.facts,Stk n_ferrymanlaw16_life 52 (.slice A776 t771.lives.length c777) t771.lives,Blk b703 (.cells #[.int .i64 t681.1.Err,.bool t681.1.Found,.string (bs t681.1.Value),.slice A751 x750.length c752] 43 (0,0)),B94 b31 t681.2 A686 A689 A692 c693 A695,MapC enc_model_name (Value.int .i64) A686 t681.2.names,MapC (Value.int .i64) (Value.int .i64) A689 t681.2.many,Row r_model_tx 99 (.slice A692 t681.2.txs.length c693) t681.2.txs,MapC encS (fun v:Value=>v) A695 vs698,B39 b672 (rd a1 x441)]) (L:=7) mixed ?_
       intro w787 hw788 E'
       replace S:=S.heap hw788
       replace E:=E.trans E'
       have D1:∃ Mx,Hp.le M780 Mx∧St _ Mx F [_,_,_,_,_,_,_,_,_,_]:=⟨_,Hp.le_refl _,S.pick [0,1,2,3,4,5,6,7,8,9] (by decide)⟩
       refine Wa_take (i:=0) rfl (by kernel_rfl) rfl rfl (pt b31 0) rfl (fun w' h'=>x_move rfl) D1 (Wa_take (i:=2) rfl (by kernel_rfl) rfl rfl (pt b50 0) rfl (fun w' h'=>x_move rfl) D1 (Wa_take (i:=3) rfl (by kernel_rfl) rfl rfl (pt b50 0) rfl (fun w' h'=>x_nilptr rfl) D1 (Wa_take (i:=4) rfl (by kernel_rfl) rfl rfl (pt b50 0) rfl (fun w' h'=>x_fieldAddr (o:=0) (off:=0) Tryd.underlying35 rfl ty3 rfl rfl) D1 (Wa_take (i:=5) rfl (by kernel_rfl) rfl rfl (.int .i64 t771.time) rfl (fun w' h'=>x_load (cls_blk h' 0 rfl) ty3 rfl rfl) D1 ?_))))
       refine Wa_solo (i:=1) rfl (by kernel_rfl) ?_
       obtain ⟨t789,ht790,H⟩:=bindS H
       replace S:St w787 M780 F [_,_,_,_,_,_,_,_,_,_]:=S.pick [4,5,6,7,8,0,1,2,3,9] (by decide)
       refine W_callF2 fn19 (model_Model_Clock_POOOO.con k M780 A686 c687 A689 c690 A692 c693 A695 c696 vs698 t681.2 b31 t789 hm699 ht790) (Γ1:=[_,_,_,_,_]) (Γ2:=[_,_,_,_,_]) S rfl rfl (by rintro _ _ _ ⟨rfl,rfl⟩;exact (flat_cons flat_blk (flat_cons flat_map (flat_cons flat_map (flat_cons (flat_row (fun _ _ _ _ h=>h)) (flat_cons flat_map flat_nil)))))) ?_
       rintro _ w791 _ Γ' E' S ⟨rfl,rfl⟩
       replace E:=E.trans E'
       replace S:St w791 M780 F [_,_,_,_,_,_,_,_,_,_]:=S
       refine Wl_nil (on_n ⟨.inr ⟨M780,Hp.le_refl M780,(S.pick [5,6,7,8,0,1,2,3,4,9] (by decide))⟩,?_⟩)
       refine Wa_take (i:=6) rfl (by kernel_rfl) rfl rfl (.bool (t789 != t771.time)) rfl (fun w' h'=>x_ibin rfl rfl rfl rfl) (⟨M780,Hp.le_refl M780,(S.pick [5,6,7,8,0,1,2,3,4,9] (by decide))⟩) ?_
       refine Wa_done (by kernel_rfl) ?_
       refine tn ?_
       rcases iteS H with ⟨hb794,H⟩ | ⟨hb794,H⟩
       ·refine Wp_cond_true (congrArg Value.bool hb794) ?_
        refine Wp_seq (Wp_region_lit (W_v (.bool false) (x_assign rfl) rfl (Wl_nil (tn ?_))))
        refine Wp_ret ?_
        refine br (tr (tr (br (tr (tr (?_))))))
        obtain rfl:=Option.some.inj H
        have H:=o641H
        replace H:=elimL H
        obtain rfl:=Option.some.inj H
        exact ⟨_,_,_,fun w1 e1=>run_resR (vs:=[.bool false]) (FA.cons (rfl) (FA.nil)),HM,E,S.pick [] (by decide),⟨rfl,rfl⟩⟩
       refine Wp_cond_false (congrArg Value.bool hb794) (Wp_skip (bn (tn (Wp_region_lit (W_v (.int .i64 x441) (x_move rfl) rfl (W_v (.int .i64 (IntKind.i64.wrap (x441+(1:Int)))) (x_ibin rfl rfl rfl rfl) rfl (W_v (.int .i64 (IntKind.i64.wrap (x441+(1:Int)))) (x_assign rfl) rfl (Wl_nil (tn ?_)))))))))
       exact ⟨k,Nat.lt_succ_self k,⟨(IntKind.i64.wrap (x441+(1:Int))),t771.time,t771.facts,t771.lives,t681.2,A773,c774,A776,c777,A686,c687,A689,c690,A692,c693,A695,c696,vs698,M780,H,⟨rfl,rfl,rfl,rfl,trivial⟩,hM646,E,S.pick [4,3,2,1,7,6,5,0] (by decide),hm699⟩⟩
      refine Wp_cond_false (congrArg Value.bool hb708) (Wp_skip (tn ?_))
      as_aux_lemma =>
      refine Wp_seq (Wp_region_lit (W_v (pt b50 0) (x_move rfl) rfl (W_v (.int .i64 x441) (x_move rfl) rfl (W_v (.int .i64 (IntKind.i64.wrap (x441+(1:Int)))) (x_ibin rfl rfl rfl rfl) rfl (W_v (.agg #[.int .i64 ((rd a1 x441).Task),.int .u8 ((rd a1 x441).Call.Kind),.int .i64 ((rd a1 x441).Call.Tx),.string (bs ((rd a1 x441).Call.Key)),.string (bs ((rd a1 x441).Call.End)),.string (bs ((rd a1 x441).Call.Value)),.int .i64 ((rd a1 x441).Call.Limit),.int .u8 ((rd a1 x441).Call.Engine)]) (x_loadA (S.blk 10 rfl) ty39 rfl (sub_of_extract rfl) rfl rfl) rfl (W_v (.agg #[.int .i64 t681.1.Err,.bool t681.1.Found,.string (bs t681.1.Value),.slice A683 t681.1.Pairs.length c684]) (x_loadA (S.blk 0 rfl) ty43 rfl (sub_of_extract rfl) rfl rfl) rfl ?_))))))
      obtain ⟨M795,hM796,hf797,S⟩:=S.row_freeze 1 rfl
      replace hg0:∃ gt fr,_:=(let ⟨gt,fr,h8⟩:=hg0;⟨gt,fr,hM796 _ _ h8⟩)
      replace HM:=Hp.le_trans HM hM796
      replace hM646:=Hp.le_trans hM646 hM796
      replace hr1:=SlR.mono hr1 hM796
      replace hm46:=MRel.mono hm46 hM796
      replace hm465:=MRel.mono hm465 hM796
      replace hb667:=hM796 _ _ hb667
      replace hm699:=MRel.mono hm699 hM796
      obtain ⟨t798,ht799,H⟩:=bindS H
      replace S:St w706 M795 F [_,_,_,_,_,_,_,_,_,_]:=S.pick [6,7,8,0,1,2,3,4,5,9] (by decide)
      refine W_call fn18 (ferrymanlaw16_log_note_POO.con k M795 A444 c445 A448 c449 (⟨x442,x443,x447⟩:ferrymanlaw16_log) (IntKind.i64.wrap (x441+(1:Int))) (rd a1 x441) A683 c684 t681.1 b50 t798 hf797 ht799) (Γ1:=[_,_,_]) (Γ2:=[_,_,_,_,_,_,_]) S rfl rfl ?_
      rintro _ w806 M807 Γ' hM808 E' S ⟨A800,c801,A803,c804,rfl,rfl⟩
      replace hg0:∃ gt fr,_:=(let ⟨gt,fr,h8⟩:=hg0;⟨gt,fr,hM808 _ _ h8⟩)
      replace HM:=Hp.le_trans HM hM808
      replace hM646:=Hp.le_trans hM646 hM808
      replace hr1:=SlR.mono hr1 hM808
      replace hm46:=MRel.mono hm46 hM808
      replace hm465:=MRel.mono hm465 hM808
      replace hb667:=hM808 _ _ hb667
      replace hm699:=MRel.mono hm699 hM808
      replace hf797:=SlR.mono hf797 hM808
      replace E:=E.trans E'
      replace S:St w806 M807 F [_,_,_,_,_,_,_,_,_,_]:=S
      refine Wl_nil (tn (Wp_seq ?_))
      refine Wp_region_any (S:=fun w'=>∃ Mx,M807.le Mx∧St w' Mx F [Blk b50 (.cells #[.int .i64 t798.time,.slice A800 t798.facts.length c801,.slice A803 t798.lives.length c804] 35 (0,0)),Row r_ferrymanlaw16_fact 54 (.slice A800 t798.facts.length c801) t798.facts,Stk n_ferrymanlaw16_life 52 (.slice A803 t798.lives.length c804) t798.lives,B43 b703 t681.1 A683 c684,B94 b31 t681.2 A686 A689 A692 c693 A695,MapC enc_model_name (Value.int .i64) A686 t681.2.names,MapC (Value.int .i64) (Value.int .i64) A689 t681.2.many,Row r_model_tx 99 (.slice A692 t681.2.txs.length c693) t681.2.txs,MapC encS (fun v:Value=>v) A695 vs698,B39 b672 (rd a1 x441)]) (L:=7) mixed ?_
      intro w814 hw815 E'
      replace S:=S.heap hw815
      replace E:=E.trans E'
      have D3:∃ Mx,Hp.le M807 Mx∧St _ Mx F [_,_,_,_,_,_,_,_,_,_]:=⟨_,Hp.le_refl _,S.pick [0,1,2,3,4,5,6,7,8,9] (by decide)⟩
      refine Wa_take (i:=0) rfl (by kernel_rfl) rfl rfl (pt b31 0) rfl (fun w' h'=>x_move rfl) D3 (Wa_take (i:=2) rfl (by kernel_rfl) rfl rfl (pt b50 0) rfl (fun w' h'=>x_move rfl) D3 (Wa_take (i:=3) rfl (by kernel_rfl) rfl rfl (pt b50 0) rfl (fun w' h'=>x_nilptr rfl) D3 (Wa_take (i:=4) rfl (by kernel_rfl) rfl rfl (pt b50 0) rfl (fun w' h'=>x_fieldAddr (o:=0) (off:=0) Tryd.underlying35 rfl ty3 rfl rfl) D3 (Wa_take (i:=5) rfl (by kernel_rfl) rfl rfl (.int .i64 t798.time) rfl (fun w' h'=>x_load (cls_blk h' 0 rfl) ty3 rfl rfl) D3 ?_))))
      refine Wa_solo (i:=1) rfl (by kernel_rfl) ?_
      obtain ⟨t816,ht817,H⟩:=bindS H
      replace S:St w814 M807 F [_,_,_,_,_,_,_,_,_,_]:=S.pick [4,5,6,7,8,0,1,2,3,9] (by decide)
      refine W_callF2 fn19 (model_Model_Clock_POOOO.con k M807 A686 c687 A689 c690 A692 c693 A695 c696 vs698 t681.2 b31 t816 hm699 ht817) (Γ1:=[_,_,_,_,_]) (Γ2:=[_,_,_,_,_]) S rfl rfl (by rintro _ _ _ ⟨rfl,rfl⟩;exact (flat_cons flat_blk (flat_cons flat_map (flat_cons flat_map (flat_cons (flat_row (fun _ _ _ _ h=>h)) (flat_cons flat_map flat_nil)))))) ?_
      rintro _ w818 _ Γ' E' S ⟨rfl,rfl⟩
      replace E:=E.trans E'
      replace S:St w818 M807 F [_,_,_,_,_,_,_,_,_,_]:=S
      refine Wl_nil (on_n ⟨.inr ⟨M807,Hp.le_refl M807,(S.pick [5,6,7,8,0,1,2,3,4,9] (by decide))⟩,?_⟩)
      refine Wa_take (i:=6) rfl (by kernel_rfl) rfl rfl (.bool (t816 != t798.time)) rfl (fun w' h'=>x_ibin rfl rfl rfl rfl) (⟨M807,Hp.le_refl M807,(S.pick [5,6,7,8,0,1,2,3,4,9] (by decide))⟩) ?_
      refine Wa_done (by kernel_rfl) ?_
      refine tn ?_
      rcases iteS H with ⟨hb821,H⟩ | ⟨hb821,H⟩
      ·refine Wp_cond_true (congrArg Value.bool hb821) ?_
       refine Wp_seq (Wp_region_lit (W_v (.bool false) (x_assign rfl) rfl (Wl_nil (tn ?_))))
       refine Wp_ret ?_
       refine br (tr (tr (br (tr (tr (?_))))))
       obtain rfl:=Option.some.inj H
       have H:=o641H
       replace H:=elimL H
       obtain rfl:=Option.some.inj H
       exact ⟨_,_,_,fun w1 e1=>run_resR (vs:=[.bool false]) (FA.cons (rfl) (FA.nil)),HM,E,S.pick [] (by decide),⟨rfl,rfl⟩⟩
      refine Wp_cond_false (congrArg Value.bool hb821) (Wp_skip (bn (tn (Wp_region_lit (W_v (.int .i64 x441) (x_move rfl) rfl (W_v (.int .i64 (IntKind.i64.wrap (x441+(1:Int)))) (x_ibin rfl rfl rfl rfl) rfl (W_v (.int .i64 (IntKind.i64.wrap (x441+(1:Int)))) (x_assign rfl) rfl (Wl_nil (tn ?_)))))))))
      exact ⟨k,Nat.lt_succ_self k,⟨(IntKind.i64.wrap (x441+(1:Int))),t798.time,t798.facts,t798.lives,t681.2,A800,c801,A803,c804,A686,c687,A689,c690,A692,c693,A695,c696,vs698,M807,H,⟨rfl,rfl,rfl,rfl,trivial⟩,hM646,E,S.pick [4,3,2,1,7,6,5,0] (by decide),hm699⟩⟩
     refine Wp_cond_false (congrArg Value.bool hb647) ?_
     refine Wp_exit ?_
     refine tx (tx (bsm (?_)))
     refine tn ?_
     exact ⟨M645,Option.some.inj H,trivial,hM646,E,S.pick [] (by decide)⟩
  rintro ρ w822 ⟨M823,rfl,hρ,hM824,E,S⟩
  rw [agree_eta hρ]
  replace hg0:∃ gt fr,_:=(let ⟨gt,fr,h8⟩:=hg0;⟨gt,fr,hM824 _ _ h8⟩)
  replace HM:=Hp.le_trans HM hM824
  replace hr1:=SlR.mono hr1 hM824
  replace hm46:=MRel.mono hm46 hM824
  have H:=o641H
  replace H:=elimR H
  refine tn ?_
  as_aux_lemma =>
  refine Wp_seq (Wp_region_lit (W_v (.bool true) (x_assign rfl) rfl (Wl_nil (tn ?_))))
  refine Wp_ret ?_
  obtain rfl:=Option.some.inj H
  exact ⟨_,_,_,fun w1 e1=>run_resR (vs:=[.bool true]) (FA.cons (rfl) (FA.nil)),HM,E,S.pick [] (by decide),⟨rfl,rfl⟩⟩
end Go.Proofs.YtcngjjlhdlbogaaDoor
