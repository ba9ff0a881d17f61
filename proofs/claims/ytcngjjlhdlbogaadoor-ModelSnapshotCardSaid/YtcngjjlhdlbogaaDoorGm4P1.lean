import Derived.Test.YtcngjjlhdlbogaaDoorGm4B
import Derived.Test.YtcngjjlhdlbogaaDoorGm4P0
namespace Go.Proofs.YtcngjjlhdlbogaaDoor
open Go
set_option linter.unusedVariables false
set_option linter.unusedSimpArgs false
def model_Model_see_POOOO (k:Nat) (a0:model_Model) (a1:Int) (a2:model_row):Option (Str×Bool) :=
 (if (a2.intent.Writer==a1)=true then some (a2.intent.Value,(!a2.intent.Tomb)) else (if 0≤(IntKind.i64.wrap (a1-(1:Int)))∧(IntKind.i64.wrap (a1-(1:Int)))<(a0.txs.length:Int) then (Option.bind (α:=Int×Int×Bool×Str×Bool) (Option.bind (keep_Seen k a2.l ((rd a0.txs (IntKind.i64.wrap (a1-(1:Int)))).snapshot)) (fun t110=>some (t110.1.Writer,t110.1.TS,t110.1.Tomb,t110.1.Value,t110.2))) (fun ⟨x105,x106,x107,x108,x109⟩=>some (x108,x109))) else none))
set_option maxHeartbeats 2000000 in
theorem model_Model_see_POOOO.mono {k:Nat} {a0:model_Model} {a1:Int} {a2:model_row}:OLe (model_Model_see_POOOO k a0 a1 a2) (model_Model_see_POOOO (k+1) a0 a1 a2):=by
 unfold model_Model_see_POOOO
 repeat' (first | with_reducible exact OLe.none | with_reducible exact OLe.some | with_reducible refine OLe.ite ?_ ?_ | with_reducible refine OLe.bind ?_ (fun _=>?_) | with_reducible exact keep_Seen.mono | refine OLe.bind ?_ (fun _=>?_) | refine OLe.ite ?_ ?_ | refine OLe.elim (fun _=>?_) (fun _=>?_) | split)
set_option maxHeartbeats 4000000 in
set_option maxRecDepth 100000 in
theorem model_Model_see_POOOO.con (k:Nat) (M:Hp) (A0_8:Option Addr) (c0_8:Nat) (A0_9:Option Addr) (c0_9:Nat) (A0_10:Option Addr) (c0_10:Nat) (A0_11:Option Addr) (c0_11:Nat) (vs0_11:List (Str×Value)) (a0:model_Model) (a1:Int) (A2_0:Option Addr) (c2_0:Nat) (a2:model_row) (bo0:Nat) (r:Str×Bool) (hm0_11:MRel r_model_row M a0.rows vs0_11) (hr2_0:SlR r_api_Version M (.slice A2_0 a2.l.length c2_0) a2.l) (h:model_Model_see_POOOO k a0 a1 a2=some r):Con Tryd.prog 133 #[pt bo0 0,.int .i64 a1,.agg #[.slice A2_0 a2.l.length c2_0,.int .i64 a2.intent.Writer,.int .i64 a2.intent.TS,.bool a2.intent.Tomb,.string (bs a2.intent.Value)]] M [B94 bo0 a0 A0_8 A0_9 A0_10 c0_10 A0_11,MapC enc_model_name (Value.int .i64) A0_8 a0.names,MapC (Value.int .i64) (Value.int .i64) A0_9 a0.many,Row r_model_tx 99 (.slice A0_10 a0.txs.length c0_10) a0.txs,MapC encS (fun v:Value=>v) A0_11 vs0_11] (fun v M' Γ'=>v=.tuple #[.string (bs r.1),.bool r.2]∧Γ'=[B94 bo0 a0 A0_8 A0_9 A0_10 c0_10 A0_11,MapC enc_model_name (Value.int .i64) A0_8 a0.names,MapC (Value.int .i64) (Value.int .i64) A0_9 a0.many,Row r_model_tx 99 (.slice A0_10 a0.txs.length c0_10) a0.txs,MapC encS (fun v:Value=>v) A0_11 vs0_11]):=by
 refine con_of_wp Tryd.func133 rfl Tryd.ntmps133 Tryd.results133 rfl ?_
 intro w F rn S hrn
 have E:=Ext.refl w
 have HM:=Hp.le_refl M
 have H:=h
 unfold model_Model_see_POOOO at H
 refine Wp_seq (Wp_region_lit ?_)
 refine W_box S #[.slice A2_0 a2.l.length c2_0,.int .i64 a2.intent.Writer,.int .i64 a2.intent.TS,.bool a2.intent.Tomb,.string (bs a2.intent.Value)] rfl rfl rfl ?_
 intro b1 w2 E' S
 replace E:=E.trans E'
 refine W_v (.string (bs ([]:Str))) (x_assign rfl) rfl (W_v (.bool false) (x_assign rfl) rfl (Wl_nil (tn (Wp_seq (Wp_seq (Wp_region_lit (W_v (pt b1 1) (x_fieldAddr (o:=0) (off:=1) Tryd.underlying101 rfl ty61 rfl rfl) rfl (W_v (pt b1 1) (x_fieldAddr (o:=1) (off:=0) Tryd.underlying61 rfl ty3 rfl rfl) rfl (W_v (.int .i64 a2.intent.Writer) (x_load (S.blk 0 rfl) ty3 rfl rfl) rfl (W_v (.int .i64 a1) (x_move rfl) rfl (W_v (.bool (a2.intent.Writer==a1)) (x_ibin rfl rfl rfl rfl) rfl (Wl_nil (tn ?_)))))))))))))
 rcases iteS H with ⟨hb4,H⟩ | ⟨hb4,H⟩
 ·refine Wp_cond_true (congrArg Value.bool hb4) ?_
  refine Wp_seq ?_
  refine Wp_region_any (S:=fun w'=>∃ Mx,M.le Mx∧St w' Mx F [B101 b1 a2 A2_0 c2_0,B94 bo0 a0 A0_8 A0_9 A0_10 c0_10 A0_11,MapC enc_model_name (Value.int .i64) A0_8 a0.names,MapC (Value.int .i64) (Value.int .i64) A0_9 a0.many,Row r_model_tx 99 (.slice A0_10 a0.txs.length c0_10) a0.txs,MapC encS (fun v:Value=>v) A0_11 vs0_11]) (L:=9) mixed ?_
  intro w5 hw6 E'
  replace S:=S.heap hw6
  replace E:=E.trans E'
  have D1:∃ Mx,Hp.le M Mx∧St _ Mx F [_,_,_,_,_,_]:=⟨_,Hp.le_refl _,S.pick [0,1,2,3,4,5] (by decide)⟩
  refine Wa_take (i:=0) rfl (by kernel_rfl) rfl rfl (pt b1 1) rfl (fun w' h'=>x_fieldAddr (o:=0) (off:=1) Tryd.underlying101 rfl ty61 rfl rfl) D1 (Wa_take (i:=1) rfl (by kernel_rfl) rfl rfl (pt b1 4) rfl (fun w' h'=>x_fieldAddr (o:=1) (off:=3) Tryd.underlying61 rfl ty9 rfl rfl) D1 (Wa_take (i:=2) rfl (by kernel_rfl) rfl rfl (.string (bs a2.intent.Value)) rfl (fun w' h'=>x_load (cls_blk h' 0 rfl) ty9 rfl rfl) D1 (Wa_take (i:=3) rfl (by kernel_rfl) rfl rfl (pt b1 1) rfl (fun w' h'=>x_fieldAddr (o:=0) (off:=1) Tryd.underlying101 rfl ty61 rfl rfl) D1 (Wa_take (i:=4) rfl (by kernel_rfl) rfl rfl (pt b1 3) rfl (fun w' h'=>x_fieldAddr (o:=1) (off:=2) Tryd.underlying61 rfl ty4 rfl rfl) D1 (Wa_take (i:=5) rfl (by kernel_rfl) rfl rfl (.bool a2.intent.Tomb) rfl (fun w' h'=>x_load (cls_blk h' 0 rfl) ty4 rfl rfl) D1 (Wa_take (i:=6) rfl (by kernel_rfl) rfl rfl (.bool (!a2.intent.Tomb)) rfl (fun w' h'=>x_not (b:=a2.intent.Tomb) rfl) D1 (Wa_take (i:=7) rfl (by kernel_rfl) rfl rfl (.string (bs a2.intent.Value)) rfl (fun w' h'=>x_assign rfl) D1 (Wa_take (i:=8) rfl (by kernel_rfl) rfl rfl (.bool (!a2.intent.Tomb)) rfl (fun w' h'=>x_assign rfl) D1 ?_))))))))
  refine Wa_done (by kernel_rfl) ?_
  refine tn ?_
  refine Wp_ret ?_
  refine tr (?_)
  obtain rfl:=Option.some.inj H
  exact ⟨_,_,_,fun w1 e1=>run_resR (vs:=[.string (bs a2.intent.Value),.bool (!a2.intent.Tomb)]) (FA.cons (rfl) (FA.cons (rfl) (FA.nil))),HM,E,S.pick [1,2,3,4,5] (by decide),⟨rfl,rfl⟩⟩
 refine Wp_cond_false (congrArg Value.bool hb4) (Wp_skip (tn ?_))
 as_aux_lemma =>
 refine Wp_seq ?_
 refine Wp_region_any (S:=fun w'=>∃ Mx,M.le Mx∧St w' Mx F [B101 b1 a2 A2_0 c2_0,B94 bo0 a0 A0_8 A0_9 A0_10 c0_10 A0_11,MapC enc_model_name (Value.int .i64) A0_8 a0.names,MapC (Value.int .i64) (Value.int .i64) A0_9 a0.many,Row r_model_tx 99 (.slice A0_10 a0.txs.length c0_10) a0.txs,MapC encS (fun v:Value=>v) A0_11 vs0_11]) (L:=18) mixed ?_
 intro w77 hw78 E'
 replace S:=S.heap hw78
 replace E:=E.trans E'
 have D2:∃ Mx,Hp.le M Mx∧St _ Mx F [_,_,_,_,_,_]:=⟨_,Hp.le_refl _,S.pick [0,1,2,3,4,5] (by decide)⟩
 refine Wa_take (i:=0) rfl (by kernel_rfl) rfl rfl (pt b1 0) rfl (fun w' h'=>x_fieldAddr (o:=0) (off:=0) Tryd.underlying101 rfl ty65 rfl rfl) D2 (Wa_take (i:=1) rfl (by kernel_rfl) rfl rfl (.slice A2_0 a2.l.length c2_0) rfl (fun w' h'=>x_load (cls_blk h' 0 rfl) ty65 rfl rfl) D2 (Wa_take (i:=2) rfl (by kernel_rfl) rfl rfl (pt bo0 0) rfl (fun w' h'=>x_move rfl) D2 (Wa_take (i:=3) rfl (by kernel_rfl) rfl rfl (pt bo0 0) rfl (fun w' h'=>x_nilptr rfl) D2 (Wa_take (i:=4) rfl (by kernel_rfl) rfl rfl (pt bo0 10) rfl (fun w' h'=>x_fieldAddr (o:=0) (off:=10) Tryd.underlying94 rfl ty92 rfl rfl) D2 (Wa_take (i:=5) rfl (by kernel_rfl) rfl rfl (.slice A0_10 a0.txs.length c0_10) rfl (fun w' h'=>x_load (cls_blk h' 1 rfl) ty92 rfl rfl) D2 (Wa_take (i:=6) rfl (by kernel_rfl) rfl rfl (.int .i64 a1) rfl (fun w' h'=>x_move rfl) D2 (Wa_take (i:=7) rfl (by kernel_rfl) rfl rfl (.int .i64 (IntKind.i64.wrap (a1-(1:Int)))) rfl (fun w' h'=>x_ibin rfl rfl rfl rfl) D2 ?_)))))))
 obtain ⟨⟨p79,p80⟩,H⟩:=chkS H
 obtain ⟨b81,o82,_,_,_,ee83,_⟩:=SlW.at' (S.row_read 4 rfl) p79 p80
 refine Wa_take (i:=8) rfl (by kernel_rfl) rfl rfl (.pointer (some ⟨b81,o82+(IntKind.i64.wrap (a1-(1:Int))).toNat*2,none⟩)) rfl (fun w' h'=>x_indexAddr Tryd.underlying92 ty99 (slA ee83) rfl p79 p80) D2 (Wa_take (i:=9) rfl (by kernel_rfl) rfl rfl (.pointer (some ⟨b81,o82+(IntKind.i64.wrap (a1-(1:Int))).toNat*2+1,none⟩)) rfl (fun w' h'=>x_fieldAddr (o:=o82+(IntKind.i64.wrap (a1-(1:Int))).toNat*2) (off:=1) Tryd.underlying99 rfl ty3 rfl rfl) D2 (Wa_take (i:=10) rfl (by kernel_rfl) rfl rfl (.int .i64 ((rd a0.txs (IntKind.i64.wrap (a1-(1:Int)))).snapshot)) rfl (fun w' h'=>x_load_cls h' 4 rfl ee83 p79 p80 1 (by rintro _ _ rfl;rfl) ty3 rfl) D2 ?_))
 obtain ⟨o128,o128h,o128H⟩:=bindS H
 refine Wa_join (fun ρ w'=>∃ (x105:Int) (x106:Int) (x107:Bool) (x108:Str) (x109:Bool) (b103:Nat),(x105,x106,x107,x108,x109)=o128∧Agree ρ [(8,pt b103 0),(35,.agg #[.int .i64 x105,.int .i64 x106,.bool x107,.string (bs x108)]),(36,.bool x109)]∧Ext w w'∧St w' M F [Blk b103 (.cells #[.int .i64 0,.int .i64 0,.bool false,.string (bs ([]:Str))] 61 (0,0)),B101 b1 a2 A2_0 c2_0,B94 bo0 a0 A0_8 A0_9 A0_10 c0_10 A0_11,MapC enc_model_name (Value.int .i64) A0_8 a0.names,MapC (Value.int .i64) (Value.int .i64) A0_9 a0.many,Row r_model_tx 99 (.slice A0_10 a0.txs.length c0_10) a0.txs,MapC encS (fun v:Value=>v) A0_11 vs0_11]) 2 (Ls 18 [0,1,2,3,4,5,6,7,8,9,10,11,12,13,14,15]) ?_ ?_
 rotate_left
 ·intro hq132
  refine Wa_join (fun ρ w'=>∃ (x95:Int) (x96:Int) (x97:Bool) (x98:Str) (x99:Bool),some (x95,x96,x97,x98,x99)=some o128∧Agree ρ [(35,.agg #[.int .i64 x95,.int .i64 x96,.bool x97,.string (bs x98)]),(36,.bool x99)]∧Ext w w'∧St w' M F [B101 b1 a2 A2_0 c2_0,B94 bo0 a0 A0_8 A0_9 A0_10 c0_10 A0_11,MapC enc_model_name (Value.int .i64) A0_8 a0.names,MapC (Value.int .i64) (Value.int .i64) A0_9 a0.many,Row r_model_tx 99 (.slice A0_10 a0.txs.length c0_10) a0.txs,MapC encS (fun v:Value=>v) A0_11 vs0_11]) 3 (Ls 18 [0,1,2,3,4,5,6,7,8,9,10,11,12,13,14]) ?_ ?_
  ·clear o128h
   rintro ρ w133 ⟨x95,x96,x97,x98,x99,H,hρ,E,S⟩
   rw [agree_eta hρ]
   refine Wa_solo (i:=15) rfl (by kernel_rfl) ?_
   refine W_alloc S #[.int .i64 0,.int .i64 0,.bool false,.string (bs ([]:Str))] ty61 rfl rfl ?_
   intro b134 w135 E' S
   replace E:=E.trans E'
   refine Wl_nil (on_n ⟨.inr ⟨M,Hp.le_refl M,(S.pick [1,2,3,4,5,6] (by decide))⟩,?_⟩)
   exact hq132 _ _ ⟨x95,x96,x97,x98,x99,b134,Option.some.inj H,⟨rfl,rfl,rfl,trivial⟩,E,S.pick [0,1,2,3,4,5,6] (by decide)⟩
  intro hq131
  refine Wa_join (fun ρ w'=>∃ (b90:Nat),(Option.bind (keep_Seen k a2.l ((rd a0.txs (IntKind.i64.wrap (a1-(1:Int)))).snapshot)) (fun t122=>some (t122.1.Writer,t122.1.TS,t122.1.Tomb,t122.1.Value,t122.2)))=some o128∧Agree ρ [(8,pt b90 0),(24,.slice A2_0 a2.l.length c2_0),(33,.int .i64 ((rd a0.txs (IntKind.i64.wrap (a1-(1:Int)))).snapshot))]∧Ext w w'∧St w' M F [Blk b90 (.cells #[.int .i64 0,.int .i64 0,.bool false,.string (bs ([]:Str))] 61 (0,0)),B101 b1 a2 A2_0 c2_0,B94 bo0 a0 A0_8 A0_9 A0_10 c0_10 A0_11,MapC enc_model_name (Value.int .i64) A0_8 a0.names,MapC (Value.int .i64) (Value.int .i64) A0_9 a0.many,Row r_model_tx 99 (.slice A0_10 a0.txs.length c0_10) a0.txs,MapC encS (fun v:Value=>v) A0_11 vs0_11]) 6 (Ls 18 [0,1,2,3,4,5,6,7,8,9,10,15]) ?_ ?_
  ·clear o128h
   rintro ρ w137 ⟨b90,H,hρ,E,S⟩
   rw [agree_eta hρ]
   refine Wa_solo (i:=11) rfl (by kernel_rfl) ?_
   obtain ⟨t138,ht139,H⟩:=bindS H
   refine W_callF fn140 (keep_Seen.con k M A2_0 c2_0 a2.l ((rd a0.txs (IntKind.i64.wrap (a1-(1:Int)))).snapshot) t138 hr2_0 ht139) S rfl rfl (by rintro _ _ _ ⟨_,rfl⟩;exact flat_nil) ?_
   rintro _ w140 _ Γ' E' S ⟨rfl,rfl⟩
   replace E:=E.trans E'
   refine Wl_nil (on_n ⟨.inr ⟨M,Hp.le_refl M,(S.pick [1,2,3,4,5,6] (by decide))⟩,?_⟩)
   have D3:∃ Mx,Hp.le M Mx∧St _ Mx F [_,_,_,_,_,_]:=⟨_,Hp.le_refl _,S.pick [1,2,3,4,5,6] (by decide)⟩
   refine Wa_take (i:=12) rfl (by kernel_rfl) rfl rfl (.tuple #[.agg #[.int .i64 t138.1.Writer,.int .i64 t138.1.TS,.bool t138.1.Tomb,.string (bs t138.1.Value)],.bool t138.2]) rfl (fun w' h'=>x_move rfl) D3 (Wa_take (i:=13) rfl (by kernel_rfl) rfl rfl (.agg #[.int .i64 t138.1.Writer,.int .i64 t138.1.TS,.bool t138.1.Tomb,.string (bs t138.1.Value)]) rfl (fun w' h'=>x_extract rfl rfl) D3 (Wa_take (i:=14) rfl (by kernel_rfl) rfl rfl (.bool t138.2) rfl (fun w' h'=>x_extract rfl rfl) D3 ?_))
   exact hq132 _ _ ⟨t138.1.Writer,t138.1.TS,t138.1.Tomb,t138.1.Value,t138.2,b90,Option.some.inj H,⟨rfl,rfl,rfl,trivial⟩,E,S.pick [0,1,2,3,4,5,6] (by decide)⟩
  intro hq130
  have H:=o128h
  refine Wa_oneOf (rs:=[11,15]) (by kernel_rfl) (by decide) ?_
  simp only [List.forall_mem_cons,List.not_mem_nil,false_implies,implies_true,and_true]
  refine ⟨?_,?_⟩
  ·refine ⟨_,rfl,?_⟩
   obtain ⟨t141,ht142,H⟩:=bindS H
   refine W_callF fn140 (keep_Seen.con k M A2_0 c2_0 a2.l ((rd a0.txs (IntKind.i64.wrap (a1-(1:Int)))).snapshot) t141 hr2_0 ht142) S rfl rfl (by rintro _ _ _ ⟨_,rfl⟩;exact flat_nil) ?_
   rintro _ w143 _ Γ' E' S ⟨rfl,rfl⟩
   replace E:=E.trans E'
   refine Wl_nil (on_n ⟨.inr ⟨M,Hp.le_refl M,(S.pick [0,1,2,3,4,5] (by decide))⟩,?_⟩)
   have D4:∃ Mx,Hp.le M Mx∧St _ Mx F [_,_,_,_,_,_]:=⟨_,Hp.le_refl _,S.pick [0,1,2,3,4,5] (by decide)⟩
   refine Wa_take (i:=12) rfl (by kernel_rfl) rfl rfl (.tuple #[.agg #[.int .i64 t141.1.Writer,.int .i64 t141.1.TS,.bool t141.1.Tomb,.string (bs t141.1.Value)],.bool t141.2]) rfl (fun w' h'=>x_move rfl) D4 (Wa_take (i:=13) rfl (by kernel_rfl) rfl rfl (.agg #[.int .i64 t141.1.Writer,.int .i64 t141.1.TS,.bool t141.1.Tomb,.string (bs t141.1.Value)]) rfl (fun w' h'=>x_extract rfl rfl) D4 (Wa_take (i:=14) rfl (by kernel_rfl) rfl rfl (.bool t141.2) rfl (fun w' h'=>x_extract rfl rfl) D4 ?_))
   exact hq131 _ _ ⟨t141.1.Writer,t141.1.TS,t141.1.Tomb,t141.1.Value,t141.2,H,⟨rfl,rfl,trivial⟩,E,S.pick [0,1,2,3,4,5] (by decide)⟩
  ·refine ⟨_,rfl,?_⟩
   refine W_alloc S #[.int .i64 0,.int .i64 0,.bool false,.string (bs ([]:Str))] ty61 rfl rfl ?_
   intro b144 w145 E' S
   replace E:=E.trans E'
   refine Wl_nil (on_n ⟨.inr ⟨M,Hp.le_refl M,(S.pick [1,2,3,4,5,6] (by decide))⟩,?_⟩)
   exact hq130 _ _ ⟨b144,H,⟨rfl,rfl,rfl,trivial⟩,E,S.pick [0,1,2,3,4,5,6] (by decide)⟩
 rintro ρ w147 ⟨x105,x106,x107,x108,x109,b103,rfl,hρ,E,S⟩
 rw [agree_eta hρ]
 have H:=o128H
 refine Wa_solo (i:=16) rfl (by kernel_rfl) ?_
 refine W_store S 0 rfl ty61 rfl rfl [.int .i64 x105,.int .i64 x106,.bool x107,.string (bs x108)] rfl rfl rfl #[.int .i64 x105,.int .i64 x106,.bool x107,.string (bs x108)] rfl rfl ?_
 intro w148 E' S
 replace E:=E.trans E'
 refine Wl_nil (on_n ⟨.inr ⟨M,Hp.le_refl M,(S.pick [1,2,3,4,5,6] (by decide))⟩,?_⟩)
 refine Wa_take (i:=17) rfl (by kernel_rfl) rfl rfl (.bool x109) rfl (fun w' h'=>x_assign rfl) (⟨M,Hp.le_refl M,(S.pick [1,2,3,4,5,6] (by decide))⟩) ?_
 refine Wa_done (by kernel_rfl) ?_
 refine tn ?_
 as_aux_lemma =>
 refine Wp_seq (Wp_region_lit (W_v (pt b103 3) (x_fieldAddr (o:=0) (off:=3) Tryd.underlying61 rfl ty9 rfl rfl) rfl (W_v (.string (bs x108)) (x_load (S.blk 0 rfl) ty9 rfl rfl) rfl (W_v (.bool x109) (x_move rfl) rfl (W_v (.string (bs x108)) (x_assign rfl) rfl (W_v (.bool x109) (x_assign rfl) rfl (Wl_nil (tn ?_))))))))
 refine Wp_ret ?_
 obtain rfl:=Option.some.inj H
 exact ⟨_,_,_,fun w1 e1=>run_resR (vs:=[.string (bs x108),.bool x109]) (FA.cons (rfl) (FA.cons (rfl) (FA.nil))),HM,E,S.pick [2,3,4,5,6] (by decide),⟨rfl,rfl⟩⟩
def model_Model_get_POOOO (k:Nat) (a0:model_Model) (a1:Int) (a2:Int) (a3:api_Call):Option (api_Answer) :=
 (Option.bind (model_Model_see_POOOO k a0 a1 ((mget a0.rows a3.Key).getD (⟨[],⟨0,0,false,[]⟩⟩:model_row))) (fun t28=>(if (!t28.2)=true then some (⟨(0:Int),false,([]:Str),([]:List api_Pair)⟩:api_Answer) else some (⟨(0:Int),true,t28.1,([]:List api_Pair)⟩:api_Answer))))
set_option maxHeartbeats 2000000 in
theorem model_Model_get_POOOO.mono {k:Nat} {a0:model_Model} {a1:Int} {a2:Int} {a3:api_Call}:OLe (model_Model_get_POOOO k a0 a1 a2 a3) (model_Model_get_POOOO (k+1) a0 a1 a2 a3):=by
 unfold model_Model_get_POOOO
 repeat' (first | with_reducible exact OLe.none | with_reducible exact OLe.some | with_reducible refine OLe.ite ?_ ?_ | with_reducible refine OLe.bind ?_ (fun _=>?_) | with_reducible exact model_Model_see_POOOO.mono | refine OLe.bind ?_ (fun _=>?_) | refine OLe.ite ?_ ?_ | refine OLe.elim (fun _=>?_) (fun _=>?_) | split)
set_option maxHeartbeats 4000000 in
set_option maxRecDepth 100000 in
theorem model_Model_get_POOOO.con (k:Nat) (M:Hp) (A0_8:Option Addr) (c0_8:Nat) (A0_9:Option Addr) (c0_9:Nat) (A0_10:Option Addr) (c0_10:Nat) (A0_11:Option Addr) (c0_11:Nat) (vs0_11:List (Str×Value)) (a0:model_Model) (a1:Int) (a2:Int) (a3:api_Call) (bo0:Nat) (r:api_Answer) (hm0_11:MRel r_model_row M a0.rows vs0_11) (h:model_Model_get_POOOO k a0 a1 a2 a3=some r):Con Tryd.prog 125 #[pt bo0 0,.int .i64 a1,.int .i64 a2,.agg #[.int .u8 a3.Kind,.int .i64 a3.Tx,.string (bs a3.Key),.string (bs a3.End),.string (bs a3.Value),.int .i64 a3.Limit,.int .u8 a3.Engine]] M [B94 bo0 a0 A0_8 A0_9 A0_10 c0_10 A0_11,MapC enc_model_name (Value.int .i64) A0_8 a0.names,MapC (Value.int .i64) (Value.int .i64) A0_9 a0.many,Row r_model_tx 99 (.slice A0_10 a0.txs.length c0_10) a0.txs,MapC encS (fun v:Value=>v) A0_11 vs0_11] (fun v M' Γ'=>∃ (Aq1:Option Addr) (cq2:Nat),v=.agg #[.int .i64 r.Err,.bool r.Found,.string (bs r.Value),.slice Aq1 r.Pairs.length cq2]∧Γ'=[Row r_api_Pair 87 (.slice Aq1 r.Pairs.length cq2) r.Pairs,B94 bo0 a0 A0_8 A0_9 A0_10 c0_10 A0_11,MapC enc_model_name (Value.int .i64) A0_8 a0.names,MapC (Value.int .i64) (Value.int .i64) A0_9 a0.many,Row r_model_tx 99 (.slice A0_10 a0.txs.length c0_10) a0.txs,MapC encS (fun v:Value=>v) A0_11 vs0_11]):=by
 refine con_of_wp Tryd.func125 rfl Tryd.ntmps125 Tryd.results125 rfl ?_
 intro w F rn S hrn
 have E:=Ext.refl w
 have HM:=Hp.le_refl M
 have H:=h
 unfold model_Model_get_POOOO at H
 refine Wp_seq (Wp_region_lit ?_)
 refine W_box S #[.int .u8 a3.Kind,.int .i64 a3.Tx,.string (bs a3.Key),.string (bs a3.End),.string (bs a3.Value),.int .i64 a3.Limit,.int .u8 a3.Engine] rfl rfl rfl ?_
 intro b1 w2 E' S
 replace E:=E.trans E'
 refine W_alloc S #[.int .i64 0,.bool false,.string (bs ([]:Str)),.slice none 0 0] ty43 rfl rfl ?_
 intro b4 w5 E' S
 replace E:=E.trans E'
 refine Wl_nil (tn (Wp_seq ?_))
 refine Wp_region_any (S:=fun w'=>∃ Mx,M.le Mx∧St w' Mx F [Blk b4 (.cells #[.int .i64 0,.bool false,.string (bs ([]:Str)),.slice none 0 0] 43 (0,0)),B37 b1 a3,B94 bo0 a0 A0_8 A0_9 A0_10 c0_10 A0_11,MapC enc_model_name (Value.int .i64) A0_8 a0.names,MapC (Value.int .i64) (Value.int .i64) A0_9 a0.many,Row r_model_tx 99 (.slice A0_10 a0.txs.length c0_10) a0.txs,MapC encS (fun v:Value=>v) A0_11 vs0_11]) (L:=15) mixed ?_
 intro w19 hw20 E'
 replace S:=S.heap hw20
 replace E:=E.trans E'
 have D1:∃ Mx,Hp.le M Mx∧St _ Mx F [_,_,_,_,_,_,_]:=⟨_,Hp.le_refl _,S.pick [0,1,2,3,4,5,6] (by decide)⟩
 refine Wa_take (i:=0) rfl (by kernel_rfl) rfl rfl (pt bo0 0) rfl (fun w' h'=>x_move rfl) D1 (Wa_take (i:=1) rfl (by kernel_rfl) rfl rfl (.int .i64 a1) rfl (fun w' h'=>x_move rfl) D1 (Wa_take (i:=2) rfl (by kernel_rfl) rfl rfl (pt bo0 0) rfl (fun w' h'=>x_move rfl) D1 (Wa_take (i:=3) rfl (by kernel_rfl) rfl rfl (pt bo0 0) rfl (fun w' h'=>x_nilptr rfl) D1 (Wa_take (i:=4) rfl (by kernel_rfl) rfl rfl (pt bo0 11) rfl (fun w' h'=>x_fieldAddr (o:=0) (off:=11) Tryd.underlying94 rfl ty91 rfl rfl) D1 (Wa_take (i:=5) rfl (by kernel_rfl) rfl rfl (.map (mb A0_11)) rfl (fun w' h'=>x_load (cls_blk h' 2 rfl) ty91 rfl rfl) D1 (Wa_take (i:=6) rfl (by kernel_rfl) rfl rfl (pt b1 2) rfl (fun w' h'=>x_fieldAddr (o:=0) (off:=2) Tryd.underlying37 rfl ty9 rfl rfl) D1 (Wa_take (i:=7) rfl (by kernel_rfl) rfl rfl (.string (bs a3.Key)) rfl (fun w' h'=>x_load (cls_blk h' 1 rfl) ty9 rfl rfl) D1 ?_)))))))
 obtain ⟨cs21,hR22,he23⟩:=hm0_11.get a3.Key (z:=(⟨[],⟨0,0,false,[]⟩⟩:model_row)) (zc:=[.slice none 0 0,.int .i64 0,.int .i64 0,.bool false,.string (bs ([]:Str))]) ⟨_,SlW.nil _ _,rfl⟩
 obtain ⟨v27,hs26,rfl⟩:=hR22
 obtain ⟨A24,c25,rfl,_⟩:=hs26.form
 refine Wa_take (i:=8) rfl (by kernel_rfl) rfl rfl (.agg #[.slice A24 (((mget a0.rows a3.Key).getD (⟨[],⟨0,0,false,[]⟩⟩:model_row)).l).length c25,.int .i64 (((mget a0.rows a3.Key).getD (⟨[],⟨0,0,false,[]⟩⟩:model_row)).intent.Writer),.int .i64 (((mget a0.rows a3.Key).getD (⟨[],⟨0,0,false,[]⟩⟩:model_row)).intent.TS),.bool (((mget a0.rows a3.Key).getD (⟨[],⟨0,0,false,[]⟩⟩:model_row)).intent.Tomb),.string (bs (((mget a0.rows a3.Key).getD (⟨[],⟨0,0,false,[]⟩⟩:model_row)).intent.Value))]) rfl (fun w' h'=>Exists.elim h' fun Mx h9=>(Eq.trans (x_lookup h9.2 6 rfl Tryd.underlying91 key9 (Value.agg #[.slice none 0 0,.int .i64 0,.int .i64 0,.bool false,.string (bs ([]:Str))]) (fun _=>ty101.zero) a3.Key rfl rfl) (by rw [show (mget vs0_11 a3.Key).getD (Value.agg #[.slice none 0 0,.int .i64 0,.int .i64 0,.bool false,.string (bs ([]:Str))])=_ from he23]))) D1 ?_
 refine Wa_solo (i:=9) rfl (by kernel_rfl) ?_
 obtain ⟨t28,ht29,H⟩:=bindS H
 replace S:St w19 M F [_,_,_,_,_,_,_]:=S.pick [2,3,4,5,6,0,1] (by decide)
 refine W_callF2 fn133 (model_Model_see_POOOO.con k M A0_8 c0_8 A0_9 c0_9 A0_10 c0_10 A0_11 c0_11 vs0_11 a0 a1 A24 c25 ((mget a0.rows a3.Key).getD (⟨[],⟨0,0,false,[]⟩⟩:model_row)) bo0 t28 hm0_11 hs26 ht29) (Γ1:=[_,_,_,_,_]) (Γ2:=[_,_]) S rfl rfl (by rintro _ _ _ ⟨rfl,rfl⟩;exact (flat_cons flat_blk (flat_cons flat_map (flat_cons flat_map (flat_cons (flat_row (fun _ _ _ _ h=>h)) (flat_cons flat_map flat_nil)))))) ?_
 rintro _ w30 _ Γ' E' S ⟨rfl,rfl⟩
 replace E:=E.trans E'
 replace S:St w30 M F [_,_,_,_,_,_,_]:=S
 refine Wl_nil (on_n ⟨.inr ⟨M,Hp.le_refl M,(S.pick [5,6,0,1,2,3,4] (by decide))⟩,?_⟩)
 have D2:∃ Mx,Hp.le M Mx∧St _ Mx F [_,_,_,_,_,_,_]:=⟨_,Hp.le_refl _,S.pick [5,6,0,1,2,3,4] (by decide)⟩
 refine Wa_take (i:=10) rfl (by kernel_rfl) rfl rfl (.tuple #[.string (bs t28.1),.bool t28.2]) rfl (fun w' h'=>x_move rfl) D2 (Wa_take (i:=11) rfl (by kernel_rfl) rfl rfl (.string (bs t28.1)) rfl (fun w' h'=>x_extract rfl rfl) D2 (Wa_take (i:=12) rfl (by kernel_rfl) rfl rfl (.bool t28.2) rfl (fun w' h'=>x_extract rfl rfl) D2 (Wa_take (i:=13) rfl (by kernel_rfl) rfl rfl (.string (bs t28.1)) rfl (fun w' h'=>x_assign rfl) D2 (Wa_take (i:=14) rfl (by kernel_rfl) rfl rfl (.bool t28.2) rfl (fun w' h'=>x_assign rfl) D2 ?_))))
 refine Wa_done (by kernel_rfl) ?_
 refine tn (Wp_seq ?_)
 as_aux_lemma =>
 refine Wp_seq (Wp_region_lit (W_v (.bool t28.2) (x_move rfl) rfl (W_v (.bool (!t28.2)) (x_not (b:=t28.2) rfl) rfl (Wl_nil (tn ?_)))))
 rcases iteS H with ⟨hb33,H⟩ | ⟨hb33,H⟩
 ·refine Wp_cond_true (congrArg Value.bool hb33) ?_
  refine Wp_seq (Wp_region_lit (W_v (.agg #[.int .i64 0,.bool false,.string (bs ([]:Str)),.slice none 0 0]) (x_build2 (pl:=[(0,1),(1,1),(2,1),(3,1)]) #[.int .i64 0,.bool false,.string (bs ([]:Str)),.slice none 0 0] Tryd.underlying43 ty43 (by as_aux_lemma=>kernel_rfl) rfl (by as_aux_lemma=>kernel_rfl)) rfl ?_))
  refine W_store S 5 rfl ty43 rfl rfl [.int .i64 0,.bool false,.string (bs ([]:Str)),.slice none 0 0] rfl rfl rfl #[.int .i64 0,.bool false,.string (bs ([]:Str)),.slice none 0 0] rfl rfl ?_
  intro w34 E' S
  replace E:=E.trans E'
  refine Wl_nil (tn ?_)
  refine Wp_ret ?_
  refine tr (?_)
  obtain rfl:=Option.some.inj H
  replace S:=S.row_nil r_api_Pair 87
  exact ⟨_,_,_,fun w1 e1=>run_resR (vs:=[.agg #[.int .i64 0,.bool false,.string (bs ([]:Str)),.slice none ([]:List api_Pair).length 0]]) (FA.cons (⟨_,rfl,run_loadVar_agg ty43 ((S.of_eq e1).blk 6 rfl) (sub_of_extract rfl) rfl (by decide)⟩) (FA.nil)),HM,E,S.pick [0,1,2,3,4,5] (by decide),⟨none,0,rfl,rfl⟩⟩
 refine Wp_cond_false (congrArg Value.bool hb33) (Wp_skip (tn (Wp_seq (Wp_region_lit (W_v (.string (bs t28.1)) (x_move rfl) rfl (W_v (.agg #[.int .i64 0,.bool true,.string (bs t28.1),.slice none 0 0]) (x_build2 (pl:=[(0,1),(1,1),(2,1),(3,1)]) #[.int .i64 0,.bool true,.string (bs t28.1),.slice none 0 0] Tryd.underlying43 ty43 (by as_aux_lemma=>kernel_rfl) rfl (by as_aux_lemma=>kernel_rfl)) rfl ?_))))))
 refine W_store S 5 rfl ty43 rfl rfl [.int .i64 0,.bool true,.string (bs t28.1),.slice none 0 0] rfl rfl rfl #[.int .i64 0,.bool true,.string (bs t28.1),.slice none 0 0] rfl rfl ?_
 intro w36 E' S
 replace E:=E.trans E'
 refine Wl_nil (tn ?_)
 refine Wp_ret ?_
 obtain rfl:=Option.some.inj H
 replace S:=S.row_nil r_api_Pair 87
 exact ⟨_,_,_,fun w1 e1=>run_resR (vs:=[.agg #[.int .i64 0,.bool true,.string (bs t28.1),.slice none ([]:List api_Pair).length 0]]) (FA.cons (⟨_,rfl,run_loadVar_agg ty43 ((S.of_eq e1).blk 6 rfl) (sub_of_extract rfl) rfl (by decide)⟩) (FA.nil)),HM,E,S.pick [0,1,2,3,4,5] (by decide),⟨none,0,rfl,rfl⟩⟩
def model_Model_write_POOOO (k:Nat) (a0:model_Model) (a1:Str) (a2:api_Version):Option (api_Answer×model_Model) :=
 (Option.bind (α:=Bool) (if ((!(((mget a0.rows a1).getD (⟨[],⟨0,0,false,[]⟩⟩:model_row)).intent.Writer==a2.Writer))&&(!(((mget a0.rows a1).getD (⟨[],⟨0,0,false,[]⟩⟩:model_row)).intent.Writer==(0:Int))))=true then some (true) else (if 0≤(IntKind.i64.wrap (a2.Writer-(1:Int)))∧(IntKind.i64.wrap (a2.Writer-(1:Int)))<(a0.txs.length:Int) then (Option.bind (keep_Clash k (((mget a0.rows a1).getD (⟨[],⟨0,0,false,[]⟩⟩:model_row)).l) ((rd a0.txs (IntKind.i64.wrap (a2.Writer-(1:Int)))).snapshot)) (fun t60=>some (t60))) else none)) (fun x53=>(if x53=true then some ((⟨(33:Int),false,([]:Str),([]:List api_Pair)⟩:api_Answer),a0) else (Option.bind (model_Model_see_POOOO k a0 a2.Writer ((mget a0.rows a1).getD (⟨[],⟨0,0,false,[]⟩⟩:model_row))) (fun t67=>(if (a2.Tomb&&(!t67.2))=true then some ((⟨(0:Int),false,([]:Str),([]:List api_Pair)⟩:api_Answer),a0) else (if ((((mget a0.rows a1).getD (⟨[],⟨0,0,false,[]⟩⟩:model_row)).intent.Writer==(0:Int))&&(((((((mget a0.rows a1).getD (⟨[],⟨0,0,false,[]⟩⟩:model_row)).l).length:Int)==(0:Int))&&(decide ((a0.rows.length:Int)≥a0.c.Keys)))||(decide (((((mget a0.rows a1).getD (⟨[],⟨0,0,false,[]⟩⟩:model_row)).l).length:Int)≥a0.c.Depth))))=true then some ((⟨(34:Int),false,([]:Str),([]:List api_Pair)⟩:api_Answer),a0) else (Option.bind (α:=List (Str×model_row)) (some (mput a0.rows a1 (⟨((mget a0.rows a1).getD (⟨[],⟨0,0,false,[]⟩⟩:model_row)).l,⟨a2.Writer,a2.TS,a2.Tomb,a2.Value⟩⟩:model_row))) (fun x101=>some ((⟨(0:Int),(a2.Tomb),([]:Str),([]:List api_Pair)⟩:api_Answer),(⟨⟨a0.c.Tasks,a0.c.Active,a0.c.Keys,a0.c.Depth,a0.c.TS,a0.c.KeyLen,a0.c.ValLen,a0.c.Fan⟩,a0.names,a0.many,a0.txs,x101,a0.clock,a0.floor⟩:model_Model)))))))))))
set_option maxHeartbeats 2000000 in
theorem model_Model_write_POOOO.mono {k:Nat} {a0:model_Model} {a1:Str} {a2:api_Version}:OLe (model_Model_write_POOOO k a0 a1 a2) (model_Model_write_POOOO (k+1) a0 a1 a2):=by
 unfold model_Model_write_POOOO
 repeat' (first | with_reducible exact OLe.none | with_reducible exact OLe.some | with_reducible refine OLe.ite ?_ ?_ | with_reducible refine OLe.bind ?_ (fun _=>?_) | with_reducible exact keep_Clash.mono | with_reducible exact model_Model_see_POOOO.mono | refine OLe.bind ?_ (fun _=>?_) | refine OLe.ite ?_ ?_ | refine OLe.elim (fun _=>?_) (fun _=>?_) | split)
set_option maxHeartbeats 4000000 in
set_option maxRecDepth 100000 in
theorem model_Model_write_POOOO.con (k:Nat) (M:Hp) (A0_8:Option Addr) (c0_8:Nat) (A0_9:Option Addr) (c0_9:Nat) (A0_10:Option Addr) (c0_10:Nat) (A0_11:Option Addr) (c0_11:Nat) (vs0_11:List (Str×Value)) (a0:model_Model) (a1:Str) (a2:api_Version) (bo0:Nat) (r:api_Answer×model_Model) (hm0_11:MRel r_model_row M a0.rows vs0_11) (h:model_Model_write_POOOO k a0 a1 a2=some r):Con Tryd.prog 134 #[pt bo0 0,.string (bs a1),.agg #[.int .i64 a2.Writer,.int .i64 a2.TS,.bool a2.Tomb,.string (bs a2.Value)]] M [B94 bo0 a0 A0_8 A0_9 A0_10 c0_10 A0_11,MapC enc_model_name (Value.int .i64) A0_8 a0.names,MapC (Value.int .i64) (Value.int .i64) A0_9 a0.many,Row r_model_tx 99 (.slice A0_10 a0.txs.length c0_10) a0.txs,MapC encS (fun v:Value=>v) A0_11 vs0_11] (fun v M' Γ'=>∃ (Aq1:Option Addr) (cq2:Nat) (Aq4:Option Addr) (cq5:Nat) (Aq7:Option Addr) (cq8:Nat) (Aq10:Option Addr) (cq11:Nat) (Aq13:Option Addr) (cq14:Nat) (vsq16:List (Str×Value)),v=.agg #[.int .i64 r.1.Err,.bool r.1.Found,.string (bs r.1.Value),.slice Aq1 r.1.Pairs.length cq2]∧MRel r_model_row M' r.2.rows vsq16∧Γ'=[Row r_api_Pair 87 (.slice Aq1 r.1.Pairs.length cq2) r.1.Pairs,B94 bo0 r.2 Aq4 Aq7 Aq10 cq11 Aq13,MapC enc_model_name (Value.int .i64) Aq4 r.2.names,MapC (Value.int .i64) (Value.int .i64) Aq7 r.2.many,Row r_model_tx 99 (.slice Aq10 r.2.txs.length cq11) r.2.txs,MapC encS (fun v:Value=>v) Aq13 vsq16]):=by
 refine con_of_wp Tryd.func134 rfl Tryd.ntmps134 Tryd.results134 rfl ?_
 intro w F rn S hrn
 have E:=Ext.refl w
 have HM:=Hp.le_refl M
 have H:=h
 unfold model_Model_write_POOOO at H
 refine Wp_seq (Wp_region_lit ?_)
 refine W_box S #[.int .i64 a2.Writer,.int .i64 a2.TS,.bool a2.Tomb,.string (bs a2.Value)] rfl rfl rfl ?_
 intro b1 w2 E' S
 replace E:=E.trans E'
 refine W_alloc S #[.int .i64 0,.bool false,.string (bs ([]:Str)),.slice none 0 0] ty43 rfl rfl ?_
 intro b4 w5 E' S
 replace E:=E.trans E'
 refine Wl_nil (tn (Wp_seq (Wp_region_lit (W_v (pt bo0 0) (x_move rfl) rfl (W_v (pt bo0 0) (x_nilptr rfl) rfl (W_v (pt bo0 11) (x_fieldAddr (o:=0) (off:=11) Tryd.underlying94 rfl ty91 rfl rfl) rfl (W_v (.map (mb A0_11)) (x_load (S.blk 2 rfl) ty91 rfl rfl) rfl (W_v (.string (bs a1)) (x_move rfl) rfl ?_))))))))
 obtain ⟨cs7,hR8,he9⟩:=hm0_11.get a1 (z:=(⟨[],⟨0,0,false,[]⟩⟩:model_row)) (zc:=[.slice none 0 0,.int .i64 0,.int .i64 0,.bool false,.string (bs ([]:Str))]) ⟨_,SlW.nil _ _,rfl⟩
 obtain ⟨v13,hs12,rfl⟩:=hR8
 obtain ⟨A10,c11,rfl,_⟩:=hs12.form
 refine W_v (.agg #[.slice A10 (((mget a0.rows a1).getD (⟨[],⟨0,0,false,[]⟩⟩:model_row)).l).length c11,.int .i64 (((mget a0.rows a1).getD (⟨[],⟨0,0,false,[]⟩⟩:model_row)).intent.Writer),.int .i64 (((mget a0.rows a1).getD (⟨[],⟨0,0,false,[]⟩⟩:model_row)).intent.TS),.bool (((mget a0.rows a1).getD (⟨[],⟨0,0,false,[]⟩⟩:model_row)).intent.Tomb),.string (bs (((mget a0.rows a1).getD (⟨[],⟨0,0,false,[]⟩⟩:model_row)).intent.Value))]) ((Eq.trans (x_lookup S 6 rfl Tryd.underlying91 key9 (Value.agg #[.slice none 0 0,.int .i64 0,.int .i64 0,.bool false,.string (bs ([]:Str))]) (fun _=>ty101.zero) a1 rfl rfl) (by rw [show (mget vs0_11 a1).getD (Value.agg #[.slice none 0 0,.int .i64 0,.int .i64 0,.bool false,.string (bs ([]:Str))])=_ from he9]))) rfl ?_
 refine W_alloc S #[.slice none 0 0,.int .i64 0,.int .i64 0,.bool false,.string (bs ([]:Str))] ty101 rfl rfl ?_
 intro b14 w15 E' S
 replace E:=E.trans E'
 refine W_store S 0 rfl ty101 rfl rfl [.slice A10 (((mget a0.rows a1).getD (⟨[],⟨0,0,false,[]⟩⟩:model_row)).l).length c11,.int .i64 (((mget a0.rows a1).getD (⟨[],⟨0,0,false,[]⟩⟩:model_row)).intent.Writer),.int .i64 (((mget a0.rows a1).getD (⟨[],⟨0,0,false,[]⟩⟩:model_row)).intent.TS),.bool (((mget a0.rows a1).getD (⟨[],⟨0,0,false,[]⟩⟩:model_row)).intent.Tomb),.string (bs (((mget a0.rows a1).getD (⟨[],⟨0,0,false,[]⟩⟩:model_row)).intent.Value))] rfl rfl rfl #[.slice A10 (((mget a0.rows a1).getD (⟨[],⟨0,0,false,[]⟩⟩:model_row)).l).length c11,.int .i64 (((mget a0.rows a1).getD (⟨[],⟨0,0,false,[]⟩⟩:model_row)).intent.Writer),.int .i64 (((mget a0.rows a1).getD (⟨[],⟨0,0,false,[]⟩⟩:model_row)).intent.TS),.bool (((mget a0.rows a1).getD (⟨[],⟨0,0,false,[]⟩⟩:model_row)).intent.Tomb),.string (bs (((mget a0.rows a1).getD (⟨[],⟨0,0,false,[]⟩⟩:model_row)).intent.Value))] rfl rfl ?_
 intro w17 E' S
 replace E:=E.trans E'
 refine Wl_nil (tn (Wp_seq ?_))
 refine Wp_region_any (S:=fun w'=>∃ Mx,M.le Mx∧St w' Mx F [B101 b14 ((mget a0.rows a1).getD (⟨[],⟨0,0,false,[]⟩⟩:model_row)) A10 c11,Blk b4 (.cells #[.int .i64 0,.bool false,.string (bs ([]:Str)),.slice none 0 0] 43 (0,0)),B61 b1 a2,B94 bo0 a0 A0_8 A0_9 A0_10 c0_10 A0_11,MapC enc_model_name (Value.int .i64) A0_8 a0.names,MapC (Value.int .i64) (Value.int .i64) A0_9 a0.many,Row r_model_tx 99 (.slice A0_10 a0.txs.length c0_10) a0.txs,MapC encS (fun v:Value=>v) A0_11 vs0_11]) (L:=12) mixed ?_
 intro w18 hw19 E'
 replace S:=S.heap hw19
 replace E:=E.trans E'
 have D1:∃ Mx,Hp.le M Mx∧St _ Mx F [_,_,_,_,_,_,_,_]:=⟨_,Hp.le_refl _,S.pick [0,1,2,3,4,5,6,7] (by decide)⟩
 refine Wa_take (i:=0) rfl (by kernel_rfl) rfl rfl (pt b14 1) rfl (fun w' h'=>x_fieldAddr (o:=0) (off:=1) Tryd.underlying101 rfl ty61 rfl rfl) D1 (Wa_take (i:=1) rfl (by kernel_rfl) rfl rfl (pt b14 1) rfl (fun w' h'=>x_fieldAddr (o:=1) (off:=0) Tryd.underlying61 rfl ty3 rfl rfl) D1 (Wa_take (i:=2) rfl (by kernel_rfl) rfl rfl (.int .i64 (((mget a0.rows a1).getD (⟨[],⟨0,0,false,[]⟩⟩:model_row)).intent.Writer)) rfl (fun w' h'=>x_load (cls_blk h' 0 rfl) ty3 rfl rfl) D1 (Wa_take (i:=3) rfl (by kernel_rfl) rfl rfl (pt b1 0) rfl (fun w' h'=>x_fieldAddr (o:=0) (off:=0) Tryd.underlying61 rfl ty3 rfl rfl) D1 (Wa_take (i:=4) rfl (by kernel_rfl) rfl rfl (.int .i64 a2.Writer) rfl (fun w' h'=>x_load (cls_blk h' 2 rfl) ty3 rfl rfl) D1 (Wa_take (i:=5) rfl (by kernel_rfl) rfl rfl (.bool (((mget a0.rows a1).getD (⟨[],⟨0,0,false,[]⟩⟩:model_row)).intent.Writer==a2.Writer)) rfl (fun w' h'=>x_ibin rfl rfl rfl rfl) D1 (Wa_take (i:=6) rfl (by kernel_rfl) rfl rfl (pt b14 1) rfl (fun w' h'=>x_fieldAddr (o:=0) (off:=1) Tryd.underlying101 rfl ty61 rfl rfl) D1 (Wa_take (i:=7) rfl (by kernel_rfl) rfl rfl (pt b14 1) rfl (fun w' h'=>x_fieldAddr (o:=1) (off:=0) Tryd.underlying61 rfl ty3 rfl rfl) D1 (Wa_take (i:=8) rfl (by kernel_rfl) rfl rfl (.int .i64 (((mget a0.rows a1).getD (⟨[],⟨0,0,false,[]⟩⟩:model_row)).intent.Writer)) rfl (fun w' h'=>x_load (cls_blk h' 0 rfl) ty3 rfl rfl) D1 (Wa_take (i:=9) rfl (by kernel_rfl) rfl rfl (.bool (((mget a0.rows a1).getD (⟨[],⟨0,0,false,[]⟩⟩:model_row)).intent.Writer==(0:Int))) rfl (fun w' h'=>x_ibin rfl rfl rfl rfl) D1 (Wa_take (i:=10) rfl (by kernel_rfl) rfl rfl (.bool (((mget a0.rows a1).getD (⟨[],⟨0,0,false,[]⟩⟩:model_row)).intent.Writer==a2.Writer)) rfl (fun w' h'=>x_assign rfl) D1 (Wa_take (i:=11) rfl (by kernel_rfl) rfl rfl (.bool (((mget a0.rows a1).getD (⟨[],⟨0,0,false,[]⟩⟩:model_row)).intent.Writer==(0:Int))) rfl (fun w' h'=>x_assign rfl) D1 ?_)))))))))))
 refine Wa_done (by kernel_rfl) ?_
 refine tn ?_
 as_aux_lemma =>
 refine Wp_seq (Wp_seq ?_)
 refine Wp_region_any (S:=fun w'=>∃ Mx,M.le Mx∧St w' Mx F [B101 b14 ((mget a0.rows a1).getD (⟨[],⟨0,0,false,[]⟩⟩:model_row)) A10 c11,Blk b4 (.cells #[.int .i64 0,.bool false,.string (bs ([]:Str)),.slice none 0 0] 43 (0,0)),B61 b1 a2,B94 bo0 a0 A0_8 A0_9 A0_10 c0_10 A0_11,MapC enc_model_name (Value.int .i64) A0_8 a0.names,MapC (Value.int .i64) (Value.int .i64) A0_9 a0.many,Row r_model_tx 99 (.slice A0_10 a0.txs.length c0_10) a0.txs,MapC encS (fun v:Value=>v) A0_11 vs0_11]) (L:=21) mixed ?_
 intro w41 hw42 E'
 replace S:=S.heap hw42
 replace E:=E.trans E'
 have D2:∃ Mx,Hp.le M Mx∧St _ Mx F [_,_,_,_,_,_,_,_]:=⟨_,Hp.le_refl _,S.pick [0,1,2,3,4,5,6,7] (by decide)⟩
 refine Wa_take (i:=0) rfl (by kernel_rfl) rfl rfl (.bool (((mget a0.rows a1).getD (⟨[],⟨0,0,false,[]⟩⟩:model_row)).intent.Writer==a2.Writer)) rfl (fun w' h'=>x_move rfl) D2 (Wa_take (i:=1) rfl (by kernel_rfl) rfl rfl (.bool (!(((mget a0.rows a1).getD (⟨[],⟨0,0,false,[]⟩⟩:model_row)).intent.Writer==a2.Writer))) rfl (fun w' h'=>x_not (b:=(((mget a0.rows a1).getD (⟨[],⟨0,0,false,[]⟩⟩:model_row)).intent.Writer==a2.Writer)) rfl) D2 (Wa_take (i:=2) rfl (by kernel_rfl) rfl rfl (.bool (!(((mget a0.rows a1).getD (⟨[],⟨0,0,false,[]⟩⟩:model_row)).intent.Writer==a2.Writer))) rfl (fun w' h'=>x_move rfl) D2 ?_))
 refine Wa_join (fun ρ w'=>Agree ρ [(0,pt bo0 0),(1,.string (bs a1)),(5,pt b1 0),(6,pt b4 0),(7,pt b14 0),(9,.bool (((mget a0.rows a1).getD (⟨[],⟨0,0,false,[]⟩⟩:model_row)).intent.Writer==(0:Int))),(33,.bool ((!(((mget a0.rows a1).getD (⟨[],⟨0,0,false,[]⟩⟩:model_row)).intent.Writer==a2.Writer))&&(!(((mget a0.rows a1).getD (⟨[],⟨0,0,false,[]⟩⟩:model_row)).intent.Writer==(0:Int)))))]∧w41=w') 15 (Ls 21 [0,1,2,3,4,5]) ?_ ?_
 rotate_left
 ·intro hrest
  rcases boolCases (!(((mget a0.rows a1).getD (⟨[],⟨0,0,false,[]⟩⟩:model_row)).intent.Writer==a2.Writer)) with hb43 | hb43
  ·skip
   have D3:∃ Mx,Hp.le M Mx∧St _ Mx F [_,_,_,_,_,_,_,_]:=⟨_,Hp.le_refl _,S.pick [0,1,2,3,4,5,6,7] (by decide)⟩
   refine Wa_takeN (i:=3) rfl (by kernel_rfl) rfl rfl rfl (skT hb43) D3 (Wa_takeN (i:=4) rfl (by kernel_rfl) rfl rfl rfl (skT hb43) D3 (Wa_take (i:=5) rfl (by kernel_rfl) rfl rfl (.bool false) rfl (fun w' h'=>x_pick (k:=false) (congrArg Value.bool hb43) rfl) D3 ?_))
   exact hrest _ _ ⟨⟨rfl,rfl,rfl,rfl,rfl,rfl,(by first | rfl | (rw [hb43];rfl) | (simp only [hb43];rfl)),trivial⟩,rfl⟩
  ·skip
   have D4:∃ Mx,Hp.le M Mx∧St _ Mx F [_,_,_,_,_,_,_,_]:=⟨_,Hp.le_refl _,S.pick [0,1,2,3,4,5,6,7] (by decide)⟩
   refine Wa_takeY (i:=3) rfl (by kernel_rfl) rfl rfl (.bool (((mget a0.rows a1).getD (⟨[],⟨0,0,false,[]⟩⟩:model_row)).intent.Writer==(0:Int))) rfl (congrArg some hb43) (fun w' h'=>x_move rfl) D4 (Wa_takeY (i:=4) rfl (by kernel_rfl) rfl rfl (.bool (!(((mget a0.rows a1).getD (⟨[],⟨0,0,false,[]⟩⟩:model_row)).intent.Writer==(0:Int)))) rfl (congrArg some hb43) (fun w' h'=>x_not (b:=(((mget a0.rows a1).getD (⟨[],⟨0,0,false,[]⟩⟩:model_row)).intent.Writer==(0:Int))) rfl) D4 (Wa_take (i:=5) rfl (by kernel_rfl) rfl rfl (.bool (!(((mget a0.rows a1).getD (⟨[],⟨0,0,false,[]⟩⟩:model_row)).intent.Writer==(0:Int)))) rfl (fun w' h'=>x_pick (k:=true) (congrArg Value.bool hb43) rfl) D4 ?_))
   exact hrest _ _ ⟨⟨rfl,rfl,rfl,rfl,rfl,rfl,(by first | rfl | (rw [hb43];rfl) | (simp only [hb43];rfl)),trivial⟩,rfl⟩
 rintro ρ _ ⟨hρ,rfl⟩
 rw [agree_eta hρ]
 refine Wa_take (i:=6) rfl (by kernel_rfl) rfl rfl (.bool ((!(((mget a0.rows a1).getD (⟨[],⟨0,0,false,[]⟩⟩:model_row)).intent.Writer==a2.Writer))&&(!(((mget a0.rows a1).getD (⟨[],⟨0,0,false,[]⟩⟩:model_row)).intent.Writer==(0:Int))))) rfl (fun w' h'=>x_move rfl) (⟨M,Hp.le_refl M,(S.pick [0,1,2,3,4,5,6,7] (by decide))⟩) ?_
 obtain ⟨o54,o54h,o54H⟩:=bindS H
 refine Wa_join (fun ρ w'=>∃ (x53:Bool),(x53)=o54∧Agree ρ [(0,pt bo0 0),(1,.string (bs a1)),(5,pt b1 0),(6,pt b4 0),(7,pt b14 0),(9,.bool (((mget a0.rows a1).getD (⟨[],⟨0,0,false,[]⟩⟩:model_row)).intent.Writer==(0:Int))),(48,.bool x53)]∧Ext w w'∧St w' M F [B101 b14 ((mget a0.rows a1).getD (⟨[],⟨0,0,false,[]⟩⟩:model_row)) A10 c11,Blk b4 (.cells #[.int .i64 0,.bool false,.string (bs ([]:Str)),.slice none 0 0] 43 (0,0)),B61 b1 a2,B94 bo0 a0 A0_8 A0_9 A0_10 c0_10 A0_11,MapC enc_model_name (Value.int .i64) A0_8 a0.names,MapC (Value.int .i64) (Value.int .i64) A0_9 a0.many,Row r_model_tx 99 (.slice A0_10 a0.txs.length c0_10) a0.txs,MapC encS (fun v:Value=>v) A0_11 vs0_11]) 0 (Ls 21 [0,1,2,3,4,5,6,7,8,9,10,11,12,13,14,15,16,17,18,19,20]) ?_ ?_
 rotate_left
 ·intro hrest
  have H:=o54h
  rcases iteS H with ⟨hb52,H⟩ | ⟨hb52,H⟩
  ·skip
   have D6:∃ Mx,Hp.le M Mx∧St _ Mx F [_,_,_,_,_,_,_,_]:=⟨_,Hp.le_refl _,S.pick [0,1,2,3,4,5,6,7] (by decide)⟩
   refine Wa_takeN (i:=7) rfl (by kernel_rfl) rfl rfl rfl (skF hb52) D6 (Wa_takeN (i:=8) rfl (by kernel_rfl) rfl rfl rfl (skF hb52) D6 (Wa_takeN (i:=9) rfl (by kernel_rfl) rfl rfl rfl (skF hb52) D6 (Wa_takeN (i:=10) rfl (by kernel_rfl) rfl rfl rfl (skF hb52) D6 (Wa_takeN (i:=11) rfl (by kernel_rfl) rfl rfl rfl (skF hb52) D6 (Wa_takeN (i:=12) rfl (by kernel_rfl) rfl rfl rfl (skF hb52) D6 (Wa_takeN (i:=13) rfl (by kernel_rfl) rfl rfl rfl (skF hb52) D6 (Wa_takeN (i:=14) rfl (by kernel_rfl) rfl rfl rfl (skF hb52) D6 (Wa_takeN (i:=15) rfl (by kernel_rfl) rfl rfl rfl (skF hb52) D6 (Wa_takeN (i:=16) rfl (by kernel_rfl) rfl rfl rfl (skF hb52) D6 (Wa_takeN (i:=17) rfl (by kernel_rfl) rfl rfl rfl (skF hb52) D6 (Wa_takeN (i:=18) rfl (by kernel_rfl) rfl rfl rfl (skF hb52) D6 (Wa_takeN (i:=19) rfl (by kernel_rfl) rfl rfl rfl (skF hb52) D6 (Wa_take (i:=20) rfl (by kernel_rfl) rfl rfl (.bool true) rfl (fun w' h'=>x_pick (k:=true) (congrArg Value.bool hb52) rfl) D6 ?_)))))))))))))
   exact hrest _ _ ⟨true,Option.some.inj H,⟨rfl,rfl,rfl,rfl,rfl,rfl,rfl,trivial⟩,E,S.pick [0,1,2,3,4,5,6,7] (by decide)⟩
  ·skip
   have D7:∃ Mx,Hp.le M Mx∧St _ Mx F [_,_,_,_,_,_,_,_]:=⟨_,Hp.le_refl _,S.pick [0,1,2,3,4,5,6,7] (by decide)⟩
   refine Wa_takeY (i:=7) rfl (by kernel_rfl) rfl rfl (pt b14 0) rfl (congrArg some hb52) (fun w' h'=>x_fieldAddr (o:=0) (off:=0) Tryd.underlying101 rfl ty65 rfl rfl) D7 (Wa_takeY (i:=8) rfl (by kernel_rfl) rfl rfl (.slice A10 (((mget a0.rows a1).getD (⟨[],⟨0,0,false,[]⟩⟩:model_row)).l).length c11) rfl (congrArg some hb52) (fun w' h'=>x_load (cls_blk h' 0 rfl) ty65 rfl rfl) D7 (Wa_takeY (i:=9) rfl (by kernel_rfl) rfl rfl (pt bo0 0) rfl (congrArg some hb52) (fun w' h'=>x_move rfl) D7 (Wa_takeY (i:=10) rfl (by kernel_rfl) rfl rfl (pt bo0 0) rfl (congrArg some hb52) (fun w' h'=>x_nilptr rfl) D7 (Wa_takeY (i:=11) rfl (by kernel_rfl) rfl rfl (pt bo0 10) rfl (congrArg some hb52) (fun w' h'=>x_fieldAddr (o:=0) (off:=10) Tryd.underlying94 rfl ty92 rfl rfl) D7 (Wa_takeY (i:=12) rfl (by kernel_rfl) rfl rfl (.slice A0_10 a0.txs.length c0_10) rfl (congrArg some hb52) (fun w' h'=>x_load (cls_blk h' 3 rfl) ty92 rfl rfl) D7 (Wa_takeY (i:=13) rfl (by kernel_rfl) rfl rfl (pt b1 0) rfl (congrArg some hb52) (fun w' h'=>x_fieldAddr (o:=0) (off:=0) Tryd.underlying61 rfl ty3 rfl rfl) D7 (Wa_takeY (i:=14) rfl (by kernel_rfl) rfl rfl (.int .i64 a2.Writer) rfl (congrArg some hb52) (fun w' h'=>x_load (cls_blk h' 2 rfl) ty3 rfl rfl) D7 (Wa_takeY (i:=15) rfl (by kernel_rfl) rfl rfl (.int .i64 (IntKind.i64.wrap (a2.Writer-(1:Int)))) rfl (congrArg some hb52) (fun w' h'=>x_ibin rfl rfl rfl rfl) D7 ?_))))))))
   obtain ⟨⟨p55,p56⟩,H⟩:=chkS H
   obtain ⟨b57,o58,_,_,_,ee59,_⟩:=SlW.at' (S.row_read 6 rfl) p55 p56
   refine Wa_takeY (i:=16) rfl (by kernel_rfl) rfl rfl (.pointer (some ⟨b57,o58+(IntKind.i64.wrap (a2.Writer-(1:Int))).toNat*2,none⟩)) rfl (congrArg some hb52) (fun w' h'=>x_indexAddr Tryd.underlying92 ty99 (slA ee59) rfl p55 p56) D7 (Wa_takeY (i:=17) rfl (by kernel_rfl) rfl rfl (.pointer (some ⟨b57,o58+(IntKind.i64.wrap (a2.Writer-(1:Int))).toNat*2+1,none⟩)) rfl (congrArg some hb52) (fun w' h'=>x_fieldAddr (o:=o58+(IntKind.i64.wrap (a2.Writer-(1:Int))).toNat*2) (off:=1) Tryd.underlying99 rfl ty3 rfl rfl) D7 (Wa_takeY (i:=18) rfl (by kernel_rfl) rfl rfl (.int .i64 ((rd a0.txs (IntKind.i64.wrap (a2.Writer-(1:Int)))).snapshot)) rfl (congrArg some hb52) (fun w' h'=>x_load_cls h' 6 rfl ee59 p55 p56 1 (by rintro _ _ rfl;rfl) ty3 rfl) D7 ?_))
   refine Wa_solo (i:=19) rfl (by kernel_rfl) ?_
   refine W_yes (congrArg some hb52) ?_
   obtain ⟨t60,ht61,H⟩:=bindS H
   refine W_callF fn141 (keep_Clash.con k M A10 c11 (((mget a0.rows a1).getD (⟨[],⟨0,0,false,[]⟩⟩:model_row)).l) ((rd a0.txs (IntKind.i64.wrap (a2.Writer-(1:Int)))).snapshot) t60 hs12 ht61) S rfl rfl (by rintro _ _ _ ⟨_,rfl⟩;exact flat_nil) ?_
   rintro _ w62 _ Γ' E' S ⟨rfl,rfl⟩
   replace E:=E.trans E'
   refine Wl_nil (on_n ⟨.inr ⟨M,Hp.le_refl M,(S.pick [0,1,2,3,4,5,6,7] (by decide))⟩,?_⟩)
   refine Wa_take (i:=20) rfl (by kernel_rfl) rfl rfl (.bool t60) rfl (fun w' h'=>x_pick (k:=false) (congrArg Value.bool hb52) rfl) (⟨M,Hp.le_refl M,(S.pick [0,1,2,3,4,5,6,7] (by decide))⟩) ?_
   exact hrest _ _ ⟨t60,Option.some.inj H,⟨rfl,rfl,rfl,rfl,rfl,rfl,rfl,trivial⟩,E,S.pick [0,1,2,3,4,5,6,7] (by decide)⟩
 rintro ρ w63 ⟨x53,rfl,hρ,E,S⟩
 rw [agree_eta hρ]
 have H:=o54H
 refine Wa_done (by kernel_rfl) ?_
 refine tn ?_
 rcases iteS H with ⟨hb64,H⟩ | ⟨hb64,H⟩
 ·refine Wp_cond_true (congrArg Value.bool hb64) ?_
  refine Wp_seq (Wp_region_lit (W_v (.agg #[.int .i64 33,.bool false,.string (bs ([]:Str)),.slice none 0 0]) (x_build2 (pl:=[(0,1),(1,1),(2,1),(3,1)]) #[.int .i64 33,.bool false,.string (bs ([]:Str)),.slice none 0 0] Tryd.underlying43 ty43 (by as_aux_lemma=>kernel_rfl) rfl (by as_aux_lemma=>kernel_rfl)) rfl ?_))
  refine W_store S 1 rfl ty43 rfl rfl [.int .i64 33,.bool false,.string (bs ([]:Str)),.slice none 0 0] rfl rfl rfl #[.int .i64 33,.bool false,.string (bs ([]:Str)),.slice none 0 0] rfl rfl ?_
  intro w65 E' S
  replace E:=E.trans E'
  refine Wl_nil (tn ?_)
  refine Wp_ret ?_
  refine tr (?_)
  obtain rfl:=Option.some.inj H
  replace S:=S.row_nil r_api_Pair 87
  exact ⟨_,_,_,fun w1 e1=>run_resR (vs:=[.agg #[.int .i64 33,.bool false,.string (bs ([]:Str)),.slice none ([]:List api_Pair).length 0]]) (FA.cons (⟨_,rfl,run_loadVar_agg ty43 ((S.of_eq e1).blk 2 rfl) (sub_of_extract rfl) rfl (by decide)⟩) (FA.nil)),HM,E,S.pick [0,4,5,6,7,8] (by decide),⟨none,0,A0_8,c0_8,A0_9,c0_9,A0_10,c0_10,A0_11,c0_11,vs0_11,rfl,hm0_11,rfl⟩⟩
 refine Wp_cond_false (congrArg Value.bool hb64) (Wp_skip (tn ?_))
 as_aux_lemma =>
 refine Wp_seq (Wp_seq (Wp_region_lit (W_v (pt bo0 0) (x_move rfl) rfl (W_v (pt b1 0) (x_fieldAddr (o:=0) (off:=0) Tryd.underlying61 rfl ty3 rfl rfl) rfl (W_v (.int .i64 a2.Writer) (x_load (S.blk 2 rfl) ty3 rfl rfl) rfl (W_v (.agg #[.slice A10 (((mget a0.rows a1).getD (⟨[],⟨0,0,false,[]⟩⟩:model_row)).l).length c11,.int .i64 (((mget a0.rows a1).getD (⟨[],⟨0,0,false,[]⟩⟩:model_row)).intent.Writer),.int .i64 (((mget a0.rows a1).getD (⟨[],⟨0,0,false,[]⟩⟩:model_row)).intent.TS),.bool (((mget a0.rows a1).getD (⟨[],⟨0,0,false,[]⟩⟩:model_row)).intent.Tomb),.string (bs (((mget a0.rows a1).getD (⟨[],⟨0,0,false,[]⟩⟩:model_row)).intent.Value))]) (x_loadA (S.blk 0 rfl) ty101 rfl (sub_of_extract rfl) rfl rfl) rfl ?_))))))
 obtain ⟨t67,ht68,H⟩:=bindS H
 replace S:St w63 M F [_,_,_,_,_,_,_,_]:=S.pick [3,4,5,6,7,0,1,2] (by decide)
 refine W_callF2 fn133 (model_Model_see_POOOO.con k M A0_8 c0_8 A0_9 c0_9 A0_10 c0_10 A0_11 c0_11 vs0_11 a0 a2.Writer A10 c11 ((mget a0.rows a1).getD (⟨[],⟨0,0,false,[]⟩⟩:model_row)) bo0 t67 hm0_11 hs12 ht68) (Γ1:=[_,_,_,_,_]) (Γ2:=[_,_,_]) S rfl rfl (by rintro _ _ _ ⟨rfl,rfl⟩;exact (flat_cons flat_blk (flat_cons flat_map (flat_cons flat_map (flat_cons (flat_row (fun _ _ _ _ h=>h)) (flat_cons flat_map flat_nil)))))) ?_
 rintro _ w69 _ Γ' E' S ⟨rfl,rfl⟩
 replace E:=E.trans E'
 replace S:St w69 M F [_,_,_,_,_,_,_,_]:=S
 refine W_v (.tuple #[.string (bs t67.1),.bool t67.2]) (x_move rfl) rfl (W_v (.string (bs t67.1)) (x_extract rfl rfl) rfl (W_v (.bool t67.2) (x_extract rfl rfl) rfl (W_v (.string (bs t67.1)) (x_assign rfl) rfl (W_v (.bool t67.2) (x_assign rfl) rfl (Wl_nil (tn (Wp_seq (Wp_region_lit (W_v (pt b1 2) (x_fieldAddr (o:=0) (off:=2) Tryd.underlying61 rfl ty4 rfl rfl) rfl (W_v (.bool a2.Tomb) (x_load (S.blk 7 rfl) ty4 rfl rfl) rfl (W_v (.bool a2.Tomb) (x_move rfl) rfl ?_)))))))))))
 refine Wl_cutN 3 (fun ρ w'=>Agree ρ [(0,pt bo0 0),(1,.string (bs a1)),(5,pt b1 0),(6,pt b4 0),(7,pt b14 0),(9,.bool (((mget a0.rows a1).getD (⟨[],⟨0,0,false,[]⟩⟩:model_row)).intent.Writer==(0:Int))),(63,.bool (a2.Tomb&&(!t67.2)))]∧w69=w') ?_ ?_
 ·rcases boolCases a2.Tomb with hb72 | hb72
  ·skip
   refine W_no (skT hb72) rfl (W_no (skT hb72) rfl (W_v (.bool false) (x_pick (k:=false) (congrArg Value.bool hb72) rfl) rfl (Wl_nil ?_)))
   exact ⟨⟨rfl,rfl,rfl,rfl,rfl,rfl,(by first | rfl | (rw [hb72];rfl) | (simp only [hb72];rfl)),trivial⟩,rfl⟩
  ·skip
   refine W_yes (congrArg some hb72) (W_v (.bool t67.2) (x_move rfl) rfl (W_yes (congrArg some hb72) (W_v (.bool (!t67.2)) (x_not (b:=t67.2) rfl) rfl (W_v (.bool (!t67.2)) (x_pick (k:=true) (congrArg Value.bool hb72) rfl) rfl (Wl_nil ?_)))))
   exact ⟨⟨rfl,rfl,rfl,rfl,rfl,rfl,(by first | rfl | (rw [hb72];rfl) | (simp only [hb72];rfl)),trivial⟩,rfl⟩
 as_aux_lemma =>
 rintro ρ _ ⟨hρ,rfl⟩
 rw [agree_eta hρ]
 refine Wl_nil (tn ?_)
 rcases iteS H with ⟨hb73,H⟩ | ⟨hb73,H⟩
 ·refine Wp_cond_true (congrArg Value.bool hb73) ?_
  refine Wp_seq (Wp_region_lit (W_v (.agg #[.int .i64 0,.bool false,.string (bs ([]:Str)),.slice none 0 0]) (x_build2 (pl:=[(0,1),(1,1),(2,1),(3,1)]) #[.int .i64 0,.bool false,.string (bs ([]:Str)),.slice none 0 0] Tryd.underlying43 ty43 (by as_aux_lemma=>kernel_rfl) rfl (by as_aux_lemma=>kernel_rfl)) rfl ?_))
  refine W_store S 6 rfl ty43 rfl rfl [.int .i64 0,.bool false,.string (bs ([]:Str)),.slice none 0 0] rfl rfl rfl #[.int .i64 0,.bool false,.string (bs ([]:Str)),.slice none 0 0] rfl rfl ?_
  intro w74 E' S
  replace E:=E.trans E'
  refine Wl_nil (tn ?_)
  refine Wp_ret ?_
  refine tr (?_)
  obtain rfl:=Option.some.inj H
  replace S:=S.row_nil r_api_Pair 87
  exact ⟨_,_,_,fun w1 e1=>run_resR (vs:=[.agg #[.int .i64 0,.bool false,.string (bs ([]:Str)),.slice none ([]:List api_Pair).length 0]]) (FA.cons (⟨_,rfl,run_loadVar_agg ty43 ((S.of_eq e1).blk 7 rfl) (sub_of_extract rfl) rfl (by decide)⟩) (FA.nil)),HM,E,S.pick [0,1,2,3,4,5] (by decide),⟨none,0,A0_8,c0_8,A0_9,c0_9,A0_10,c0_10,A0_11,c0_11,vs0_11,rfl,hm0_11,rfl⟩⟩
 refine Wp_cond_false (congrArg Value.bool hb73) (Wp_skip (tn (Wp_seq (Wp_seq ?_))))
 refine Wp_region_any (S:=fun w'=>∃ Mx,M.le Mx∧St w' Mx F [B94 bo0 a0 A0_8 A0_9 A0_10 c0_10 A0_11,MapC enc_model_name (Value.int .i64) A0_8 a0.names,MapC (Value.int .i64) (Value.int .i64) A0_9 a0.many,Row r_model_tx 99 (.slice A0_10 a0.txs.length c0_10) a0.txs,MapC encS (fun v:Value=>v) A0_11 vs0_11,B101 b14 ((mget a0.rows a1).getD (⟨[],⟨0,0,false,[]⟩⟩:model_row)) A10 c11,Blk b4 (.cells #[.int .i64 0,.bool false,.string (bs ([]:Str)),.slice none 0 0] 43 (0,0)),B61 b1 a2]) (L:=31) mixed ?_
 intro w81 hw82 E'
 replace S:=S.heap hw82
 replace E:=E.trans E'
 have D9:∃ Mx,Hp.le M Mx∧St _ Mx F [_,_,_,_,_,_,_,_]:=⟨_,Hp.le_refl _,S.pick [0,1,2,3,4,5,6,7] (by decide)⟩
 refine Wa_take (i:=0) rfl (by kernel_rfl) rfl rfl (.bool (((mget a0.rows a1).getD (⟨[],⟨0,0,false,[]⟩⟩:model_row)).intent.Writer==(0:Int))) rfl (fun w' h'=>x_move rfl) D9 (Wa_take (i:=1) rfl (by kernel_rfl) rfl rfl (.bool (((mget a0.rows a1).getD (⟨[],⟨0,0,false,[]⟩⟩:model_row)).intent.Writer==(0:Int))) rfl (fun w' h'=>x_move rfl) D9 ?_)
 refine Wa_join (fun ρ w'=>Agree ρ [(0,pt bo0 0),(1,.string (bs a1)),(5,pt b1 0),(6,pt b4 0),(7,pt b14 0),(95,.bool ((((mget a0.rows a1).getD (⟨[],⟨0,0,false,[]⟩⟩:model_row)).intent.Writer==(0:Int))&&(((((((mget a0.rows a1).getD (⟨[],⟨0,0,false,[]⟩⟩:model_row)).l).length:Int)==(0:Int))&&(decide ((a0.rows.length:Int)≥a0.c.Keys)))||(decide (((((mget a0.rows a1).getD (⟨[],⟨0,0,false,[]⟩⟩:model_row)).l).length:Int)≥a0.c.Depth)))))]∧w81=w') 0 (Ls 31 [0,1,2,3,4,5,6,7,8,9,10,11,12,13,14,15,16,17,18,19,20,21,22,23,24,25,26,27,28,29,30]) ?_ ?_
 rotate_left
 ·intro hrest
  rcases boolCases (((mget a0.rows a1).getD (⟨[],⟨0,0,false,[]⟩⟩:model_row)).intent.Writer==(0:Int)) with hb85 | hb85
  ·skip
   have D10:∃ Mx,Hp.le M Mx∧St _ Mx F [_,_,_,_,_,_,_,_]:=⟨_,Hp.le_refl _,S.pick [0,1,2,3,4,5,6,7] (by decide)⟩
   refine Wa_takeN (i:=2) rfl (by kernel_rfl) rfl rfl rfl (skT hb85) D10 (Wa_takeN (i:=3) rfl (by kernel_rfl) rfl rfl rfl (skT hb85) D10 (Wa_takeN (i:=4) rfl (by kernel_rfl) rfl rfl rfl (skT hb85) D10 (Wa_takeN (i:=5) rfl (by kernel_rfl) rfl rfl rfl (skT hb85) D10 (Wa_takeN (i:=6) rfl (by kernel_rfl) rfl rfl rfl (skT hb85) D10 (Wa_takeN (i:=7) rfl (by kernel_rfl) rfl rfl rfl (rfl) D10 (Wa_takeN (i:=8) rfl (by kernel_rfl) rfl rfl rfl (rfl) D10 (Wa_takeN (i:=9) rfl (by kernel_rfl) rfl rfl rfl (rfl) D10 (Wa_takeN (i:=10) rfl (by kernel_rfl) rfl rfl rfl (rfl) D10 (Wa_takeN (i:=11) rfl (by kernel_rfl) rfl rfl rfl (rfl) D10 (Wa_takeN (i:=12) rfl (by kernel_rfl) rfl rfl rfl (rfl) D10 (Wa_takeN (i:=13) rfl (by kernel_rfl) rfl rfl rfl (rfl) D10 (Wa_takeN (i:=14) rfl (by kernel_rfl) rfl rfl rfl (rfl) D10 (Wa_takeN (i:=15) rfl (by kernel_rfl) rfl rfl rfl (rfl) D10 (Wa_takeN (i:=16) rfl (by kernel_rfl) rfl rfl rfl (rfl) D10 (Wa_takeN (i:=17) rfl (by kernel_rfl) rfl rfl rfl (rfl) D10 ?_)))))))))))))))
   refine Wa_takeN (i:=18) rfl (by kernel_rfl) rfl rfl rfl (skT hb85) D10 (Wa_takeN (i:=19) rfl (by kernel_rfl) rfl rfl rfl (skT hb85) D10 (Wa_takeN (i:=20) rfl (by kernel_rfl) rfl rfl rfl (rfl) D10 (Wa_takeN (i:=21) rfl (by kernel_rfl) rfl rfl rfl (rfl) D10 (Wa_takeN (i:=22) rfl (by kernel_rfl) rfl rfl rfl (rfl) D10 (Wa_takeN (i:=23) rfl (by kernel_rfl) rfl rfl rfl (rfl) D10 (Wa_takeN (i:=24) rfl (by kernel_rfl) rfl rfl rfl (rfl) D10 (Wa_takeN (i:=25) rfl (by kernel_rfl) rfl rfl rfl (rfl) D10 (Wa_takeN (i:=26) rfl (by kernel_rfl) rfl rfl rfl (rfl) D10 (Wa_takeN (i:=27) rfl (by kernel_rfl) rfl rfl rfl (rfl) D10 (Wa_takeN (i:=28) rfl (by kernel_rfl) rfl rfl rfl (rfl) D10 (Wa_takeN (i:=29) rfl (by kernel_rfl) rfl rfl rfl (skT hb85) D10 (Wa_take (i:=30) rfl (by kernel_rfl) rfl rfl (.bool false) rfl (fun w' h'=>x_pick (k:=false) (congrArg Value.bool hb85) rfl) D10 ?_))))))))))))
   exact hrest _ _ ⟨⟨rfl,rfl,rfl,rfl,rfl,(by first | rfl | (rw [hb85];rfl) | (simp only [hb85];rfl)),trivial⟩,rfl⟩
  ·skip
   have D11:∃ Mx,Hp.le M Mx∧St _ Mx F [_,_,_,_,_,_,_,_]:=⟨_,Hp.le_refl _,S.pick [0,1,2,3,4,5,6,7] (by decide)⟩
   refine Wa_takeY (i:=2) rfl (by kernel_rfl) rfl rfl (pt b14 0) rfl (congrArg some hb85) (fun w' h'=>x_fieldAddr (o:=0) (off:=0) Tryd.underlying101 rfl ty65 rfl rfl) D11 (Wa_takeY (i:=3) rfl (by kernel_rfl) rfl rfl (.slice A10 (((mget a0.rows a1).getD (⟨[],⟨0,0,false,[]⟩⟩:model_row)).l).length c11) rfl (congrArg some hb85) (fun w' h'=>x_load (cls_blk h' 5 rfl) ty65 rfl rfl) D11 (Wa_takeY (i:=4) rfl (by kernel_rfl) rfl rfl (.int .i64 ((((mget a0.rows a1).getD (⟨[],⟨0,0,false,[]⟩⟩:model_row)).l).length:Int)) rfl (congrArg some hb85) (fun w' h'=>x_len_slice (n:=(((mget a0.rows a1).getD (⟨[],⟨0,0,false,[]⟩⟩:model_row)).l).length) Tryd.underlying65 rfl) D11 (Wa_takeY (i:=5) rfl (by kernel_rfl) rfl rfl (.bool (((((mget a0.rows a1).getD (⟨[],⟨0,0,false,[]⟩⟩:model_row)).l).length:Int)==(0:Int))) rfl (congrArg some hb85) (fun w' h'=>x_ibin rfl rfl rfl rfl) D11 (Wa_takeY (i:=6) rfl (by kernel_rfl) rfl rfl (.bool (((((mget a0.rows a1).getD (⟨[],⟨0,0,false,[]⟩⟩:model_row)).l).length:Int)==(0:Int))) rfl (congrArg some hb85) (fun w' h'=>x_move rfl) D11 ?_))))
   refine Wa_join (fun ρ w'=>Agree ρ [(0,pt bo0 0),(1,.string (bs a1)),(5,pt b1 0),(6,pt b4 0),(7,pt b14 0),(66,.bool (((mget a0.rows a1).getD (⟨[],⟨0,0,false,[]⟩⟩:model_row)).intent.Writer==(0:Int))),(83,.bool ((((((mget a0.rows a1).getD (⟨[],⟨0,0,false,[]⟩⟩:model_row)).l).length:Int)==(0:Int))&&(decide ((a0.rows.length:Int)≥a0.c.Keys))))]∧w81=w') 12 (Ls 31 [0,1,2,3,4,5,6,7,8,9,10,11,12,13,14,15,16,17,18]) ?_ ?_
   rotate_left
   ·intro hrest
    rcases boolCases (((((mget a0.rows a1).getD (⟨[],⟨0,0,false,[]⟩⟩:model_row)).l).length:Int)==(0:Int)) with hb86 | hb86
    ·skip
     have D12:∃ Mx,Hp.le M Mx∧St _ Mx F [_,_,_,_,_,_,_,_]:=⟨_,Hp.le_refl _,S.pick [0,1,2,3,4,5,6,7] (by decide)⟩
     refine Wa_takeN (i:=7) rfl (by kernel_rfl) rfl rfl rfl (skT hb86) D12 (Wa_takeN (i:=8) rfl (by kernel_rfl) rfl rfl rfl (skT hb86) D12 (Wa_takeN (i:=9) rfl (by kernel_rfl) rfl rfl rfl (skT hb86) D12 (Wa_takeN (i:=10) rfl (by kernel_rfl) rfl rfl rfl (skT hb86) D12 (Wa_takeN (i:=11) rfl (by kernel_rfl) rfl rfl rfl (skT hb86) D12 (Wa_takeN (i:=12) rfl (by kernel_rfl) rfl rfl rfl (skT hb86) D12 (Wa_takeN (i:=13) rfl (by kernel_rfl) rfl rfl rfl (skT hb86) D12 (Wa_takeN (i:=14) rfl (by kernel_rfl) rfl rfl rfl (skT hb86) D12 (Wa_takeN (i:=15) rfl (by kernel_rfl) rfl rfl rfl (skT hb86) D12 (Wa_takeN (i:=16) rfl (by kernel_rfl) rfl rfl rfl (skT hb86) D12 (Wa_takeN (i:=17) rfl (by kernel_rfl) rfl rfl rfl (skT hb86) D12 (Wa_takeY (i:=18) rfl (by kernel_rfl) rfl rfl (.bool false) rfl (congrArg some hb85) (fun w' h'=>x_pick (k:=false) (congrArg Value.bool hb86) rfl) D12 ?_)))))))))))
     exact hrest _ _ ⟨⟨rfl,rfl,rfl,rfl,rfl,rfl,(by first | rfl | (rw [hb86];rfl) | (simp only [hb86];rfl)),trivial⟩,rfl⟩
    ·skip
     have D13:∃ Mx,Hp.le M Mx∧St _ Mx F [_,_,_,_,_,_,_,_]:=⟨_,Hp.le_refl _,S.pick [0,1,2,3,4,5,6,7] (by decide)⟩
     refine Wa_takeY (i:=7) rfl (by kernel_rfl) rfl rfl (pt bo0 0) rfl (congrArg some hb86) (fun w' h'=>x_move rfl) D13 (Wa_takeY (i:=8) rfl (by kernel_rfl) rfl rfl (pt bo0 0) rfl (congrArg some hb86) (fun w' h'=>x_nilptr rfl) D13 (Wa_takeY (i:=9) rfl (by kernel_rfl) rfl rfl (pt bo0 11) rfl (congrArg some hb86) (fun w' h'=>x_fieldAddr (o:=0) (off:=11) Tryd.underlying94 rfl ty91 rfl rfl) D13 (Wa_takeY (i:=10) rfl (by kernel_rfl) rfl rfl (.map (mb A0_11)) rfl (congrArg some hb86) (fun w' h'=>x_load (cls_blk h' 0 rfl) ty91 rfl rfl) D13 (Wa_takeY (i:=11) rfl (by kernel_rfl) rfl rfl (.int .i64 (a0.rows.length:Int)) rfl (congrArg some hb86) (fun w' h'=>Exists.elim h' fun Mx h9=>(Eq.trans (x_len_map h9.2 4 rfl Tryd.underlying91 rfl) (by rw [hm0_11.length]))) D13 (Wa_takeY (i:=12) rfl (by kernel_rfl) rfl rfl (pt bo0 0) rfl (congrArg some hb86) (fun w' h'=>x_move rfl) D13 (Wa_takeY (i:=13) rfl (by kernel_rfl) rfl rfl (pt bo0 0) rfl (congrArg some hb86) (fun w' h'=>x_nilptr rfl) D13 (Wa_takeY (i:=14) rfl (by kernel_rfl) rfl rfl (pt bo0 0) rfl (congrArg some hb86) (fun w' h'=>x_fieldAddr (o:=0) (off:=0) Tryd.underlying94 rfl ty23 rfl rfl) D13 (Wa_takeY (i:=15) rfl (by kernel_rfl) rfl rfl (pt bo0 2) rfl (congrArg some hb86) (fun w' h'=>x_fieldAddr (o:=0) (off:=2) Tryd.underlying23 rfl ty3 rfl rfl) D13 (Wa_takeY (i:=16) rfl (by kernel_rfl) rfl rfl (.int .i64 a0.c.Keys) rfl (congrArg some hb86) (fun w' h'=>x_load (cls_blk h' 0 rfl) ty3 rfl rfl) D13 (Wa_takeY (i:=17) rfl (by kernel_rfl) rfl rfl (.bool (decide ((a0.rows.length:Int)≥a0.c.Keys))) rfl (congrArg some hb86) (fun w' h'=>x_ibin rfl rfl rfl rfl) D13 (Wa_takeY (i:=18) rfl (by kernel_rfl) rfl rfl (.bool (decide ((a0.rows.length:Int)≥a0.c.Keys))) rfl (congrArg some hb85) (fun w' h'=>x_pick (k:=true) (congrArg Value.bool hb86) rfl) D13 ?_)))))))))))
     exact hrest _ _ ⟨⟨rfl,rfl,rfl,rfl,rfl,rfl,(by first | rfl | (rw [hb86];rfl) | (simp only [hb86];rfl)),trivial⟩,rfl⟩
   rintro ρ _ ⟨hρ,rfl⟩
   rw [agree_eta hρ]
   refine Wa_takeY (i:=19) rfl (by kernel_rfl) rfl rfl (.bool ((((((mget a0.rows a1).getD (⟨[],⟨0,0,false,[]⟩⟩:model_row)).l).length:Int)==(0:Int))&&(decide ((a0.rows.length:Int)≥a0.c.Keys)))) rfl (congrArg some hb85) (fun w' h'=>x_move rfl) (⟨M,Hp.le_refl M,(S.pick [0,1,2,3,4,5,6,7] (by decide))⟩) ?_
   refine Wa_join (fun ρ w'=>Agree ρ [(0,pt bo0 0),(1,.string (bs a1)),(5,pt b1 0),(6,pt b4 0),(7,pt b14 0),(66,.bool (((mget a0.rows a1).getD (⟨[],⟨0,0,false,[]⟩⟩:model_row)).intent.Writer==(0:Int))),(94,.bool (((((((mget a0.rows a1).getD (⟨[],⟨0,0,false,[]⟩⟩:model_row)).l).length:Int)==(0:Int))&&(decide ((a0.rows.length:Int)≥a0.c.Keys)))||(decide (((((mget a0.rows a1).getD (⟨[],⟨0,0,false,[]⟩⟩:model_row)).l).length:Int)≥a0.c.Depth))))]∧w81=w') 1 (Ls 31 [0,1,2,3,4,5,6,7,8,9,10,11,12,13,14,15,16,17,18,19,20,21,22,23,24,25,26,27,28,29]) ?_ ?_
   rotate_left
   ·intro hrest
    rcases boolCases ((((((mget a0.rows a1).getD (⟨[],⟨0,0,false,[]⟩⟩:model_row)).l).length:Int)==(0:Int))&&(decide ((a0.rows.length:Int)≥a0.c.Keys))) with hb87 | hb87
    ·skip
     have D15:∃ Mx,Hp.le M Mx∧St _ Mx F [_,_,_,_,_,_,_,_]:=⟨_,Hp.le_refl _,S.pick [0,1,2,3,4,5,6,7] (by decide)⟩
     refine Wa_takeY (i:=20) rfl (by kernel_rfl) rfl rfl (pt b14 0) rfl (congrArg some hb87) (fun w' h'=>x_fieldAddr (o:=0) (off:=0) Tryd.underlying101 rfl ty65 rfl rfl) D15 (Wa_takeY (i:=21) rfl (by kernel_rfl) rfl rfl (.slice A10 (((mget a0.rows a1).getD (⟨[],⟨0,0,false,[]⟩⟩:model_row)).l).length c11) rfl (congrArg some hb87) (fun w' h'=>x_load (cls_blk h' 5 rfl) ty65 rfl rfl) D15 (Wa_takeY (i:=22) rfl (by kernel_rfl) rfl rfl (.int .i64 ((((mget a0.rows a1).getD (⟨[],⟨0,0,false,[]⟩⟩:model_row)).l).length:Int)) rfl (congrArg some hb87) (fun w' h'=>x_len_slice (n:=(((mget a0.rows a1).getD (⟨[],⟨0,0,false,[]⟩⟩:model_row)).l).length) Tryd.underlying65 rfl) D15 (Wa_takeY (i:=23) rfl (by kernel_rfl) rfl rfl (pt bo0 0) rfl (congrArg some hb87) (fun w' h'=>x_move rfl) D15 (Wa_takeY (i:=24) rfl (by kernel_rfl) rfl rfl (pt bo0 0) rfl (congrArg some hb87) (fun w' h'=>x_nilptr rfl) D15 (Wa_takeY (i:=25) rfl (by kernel_rfl) rfl rfl (pt bo0 0) rfl (congrArg some hb87) (fun w' h'=>x_fieldAddr (o:=0) (off:=0) Tryd.underlying94 rfl ty23 rfl rfl) D15 (Wa_takeY (i:=26) rfl (by kernel_rfl) rfl rfl (pt bo0 3) rfl (congrArg some hb87) (fun w' h'=>x_fieldAddr (o:=0) (off:=3) Tryd.underlying23 rfl ty3 rfl rfl) D15 (Wa_takeY (i:=27) rfl (by kernel_rfl) rfl rfl (.int .i64 a0.c.Depth) rfl (congrArg some hb87) (fun w' h'=>x_load (cls_blk h' 0 rfl) ty3 rfl rfl) D15 (Wa_takeY (i:=28) rfl (by kernel_rfl) rfl rfl (.bool (decide (((((mget a0.rows a1).getD (⟨[],⟨0,0,false,[]⟩⟩:model_row)).l).length:Int)≥a0.c.Depth))) rfl (congrArg some hb87) (fun w' h'=>x_ibin rfl rfl rfl rfl) D15 (Wa_takeY (i:=29) rfl (by kernel_rfl) rfl rfl (.bool (decide (((((mget a0.rows a1).getD (⟨[],⟨0,0,false,[]⟩⟩:model_row)).l).length:Int)≥a0.c.Depth))) rfl (congrArg some hb85) (fun w' h'=>x_pick (k:=false) (congrArg Value.bool hb87) rfl) D15 ?_)))))))))
     exact hrest _ _ ⟨⟨rfl,rfl,rfl,rfl,rfl,rfl,(by first | rfl | (rw [hb87];rfl) | (simp only [hb87];rfl)),trivial⟩,rfl⟩
    ·skip
     have D16:∃ Mx,Hp.le M Mx∧St _ Mx F [_,_,_,_,_,_,_,_]:=⟨_,Hp.le_refl _,S.pick [0,1,2,3,4,5,6,7] (by decide)⟩
     refine Wa_takeN (i:=20) rfl (by kernel_rfl) rfl rfl rfl (skF hb87) D16 (Wa_takeN (i:=21) rfl (by kernel_rfl) rfl rfl rfl (skF hb87) D16 (Wa_takeN (i:=22) rfl (by kernel_rfl) rfl rfl rfl (skF hb87) D16 (Wa_takeN (i:=23) rfl (by kernel_rfl) rfl rfl rfl (skF hb87) D16 (Wa_takeN (i:=24) rfl (by kernel_rfl) rfl rfl rfl (skF hb87) D16 (Wa_takeN (i:=25) rfl (by kernel_rfl) rfl rfl rfl (skF hb87) D16 (Wa_takeN (i:=26) rfl (by kernel_rfl) rfl rfl rfl (skF hb87) D16 (Wa_takeN (i:=27) rfl (by kernel_rfl) rfl rfl rfl (skF hb87) D16 (Wa_takeN (i:=28) rfl (by kernel_rfl) rfl rfl rfl (skF hb87) D16 (Wa_takeY (i:=29) rfl (by kernel_rfl) rfl rfl (.bool true) rfl (congrArg some hb85) (fun w' h'=>x_pick (k:=true) (congrArg Value.bool hb87) rfl) D16 ?_)))))))))
     exact hrest _ _ ⟨⟨rfl,rfl,rfl,rfl,rfl,rfl,(by first | rfl | (rw [hb87];rfl) | (simp only [hb87];rfl)),trivial⟩,rfl⟩
   rintro ρ _ ⟨hρ,rfl⟩
   rw [agree_eta hρ]
   refine Wa_take (i:=30) rfl (by kernel_rfl) rfl rfl (.bool (((((((mget a0.rows a1).getD (⟨[],⟨0,0,false,[]⟩⟩:model_row)).l).length:Int)==(0:Int))&&(decide ((a0.rows.length:Int)≥a0.c.Keys)))||(decide (((((mget a0.rows a1).getD (⟨[],⟨0,0,false,[]⟩⟩:model_row)).l).length:Int)≥a0.c.Depth)))) rfl (fun w' h'=>x_pick (k:=true) (congrArg Value.bool hb85) rfl) (⟨M,Hp.le_refl M,(S.pick [0,1,2,3,4,5,6,7] (by decide))⟩) ?_
   exact hrest _ _ ⟨⟨rfl,rfl,rfl,rfl,rfl,(by first | rfl | (rw [hb85];rfl) | (simp only [hb85];rfl)),trivial⟩,rfl⟩
 rintro ρ _ ⟨hρ,rfl⟩
 rw [agree_eta hρ]
 refine Wa_done (by kernel_rfl) ?_
 refine tn ?_
 rcases iteS H with ⟨hb88,H⟩ | ⟨hb88,H⟩
 ·refine Wp_cond_true (congrArg Value.bool hb88) ?_
  refine Wp_seq (Wp_region_lit (W_v (.agg #[.int .i64 34,.bool false,.string (bs ([]:Str)),.slice none 0 0]) (x_build2 (pl:=[(0,1),(1,1),(2,1),(3,1)]) #[.int .i64 34,.bool false,.string (bs ([]:Str)),.slice none 0 0] Tryd.underlying43 ty43 (by as_aux_lemma=>kernel_rfl) rfl (by as_aux_lemma=>kernel_rfl)) rfl ?_))
  refine W_store S 6 rfl ty43 rfl rfl [.int .i64 34,.bool false,.string (bs ([]:Str)),.slice none 0 0] rfl rfl rfl #[.int .i64 34,.bool false,.string (bs ([]:Str)),.slice none 0 0] rfl rfl ?_
  intro w89 E' S
  replace E:=E.trans E'
  refine Wl_nil (tn ?_)
  refine Wp_ret ?_
  refine tr (?_)
  obtain rfl:=Option.some.inj H
  replace S:=S.row_nil r_api_Pair 87
  exact ⟨_,_,_,fun w1 e1=>run_resR (vs:=[.agg #[.int .i64 34,.bool false,.string (bs ([]:Str)),.slice none ([]:List api_Pair).length 0]]) (FA.cons (⟨_,rfl,run_loadVar_agg ty43 ((S.of_eq e1).blk 7 rfl) (sub_of_extract rfl) rfl (by decide)⟩) (FA.nil)),HM,E,S.pick [0,1,2,3,4,5] (by decide),⟨none,0,A0_8,c0_8,A0_9,c0_9,A0_10,c0_10,A0_11,c0_11,vs0_11,rfl,hm0_11,rfl⟩⟩
 refine Wp_cond_false (congrArg Value.bool hb88) (Wp_skip (tn ?_))
 as_aux_lemma =>
 refine Wp_seq (Wp_region_lit (W_v (.agg #[.int .i64 a2.Writer,.int .i64 a2.TS,.bool a2.Tomb,.string (bs a2.Value)]) (x_loadA (S.blk 7 rfl) ty61 rfl (sub_of_extract rfl) rfl rfl) rfl (W_v (pt b14 1) (x_fieldAddr (o:=0) (off:=1) Tryd.underlying101 rfl ty61 rfl rfl) rfl ?_)))
 refine W_store S 5 rfl ty61 rfl rfl [.int .i64 a2.Writer,.int .i64 a2.TS,.bool a2.Tomb,.string (bs a2.Value)] rfl rfl rfl #[.slice A10 (((mget a0.rows a1).getD (⟨[],⟨0,0,false,[]⟩⟩:model_row)).l).length c11,.int .i64 a2.Writer,.int .i64 a2.TS,.bool a2.Tomb,.string (bs a2.Value)] rfl rfl ?_
 intro w91 E' S
 replace E:=E.trans E'
 refine Wl_nil (tn (Wp_seq ?_))
 refine Wp_region_any (S:=fun w'=>∃ Mx,M.le Mx∧St w' Mx F [B94 bo0 a0 A0_8 A0_9 A0_10 c0_10 A0_11,MapC enc_model_name (Value.int .i64) A0_8 a0.names,MapC (Value.int .i64) (Value.int .i64) A0_9 a0.many,Row r_model_tx 99 (.slice A0_10 a0.txs.length c0_10) a0.txs,MapC encS (fun v:Value=>v) A0_11 vs0_11,Blk b14 (.cells #[.slice A10 (((mget a0.rows a1).getD (⟨[],⟨0,0,false,[]⟩⟩:model_row)).l).length c11,.int .i64 a2.Writer,.int .i64 a2.TS,.bool a2.Tomb,.string (bs a2.Value)] 101 (0,0)),Blk b4 (.cells #[.int .i64 0,.bool false,.string (bs ([]:Str)),.slice none 0 0] 43 (0,0)),B61 b1 a2]) (L:=6) mixed ?_
 intro w98 hw99 E'
 replace S:=S.heap hw99
 replace E:=E.trans E'
 have D18:∃ Mx,Hp.le M Mx∧St _ Mx F [_,_,_,_,_,_,_,_]:=⟨_,Hp.le_refl _,S.pick [0,1,2,3,4,5,6,7] (by decide)⟩
 refine Wa_take (i:=0) rfl (by kernel_rfl) rfl rfl (pt bo0 0) rfl (fun w' h'=>x_move rfl) D18 (Wa_take (i:=1) rfl (by kernel_rfl) rfl rfl (pt bo0 0) rfl (fun w' h'=>x_nilptr rfl) D18 (Wa_take (i:=2) rfl (by kernel_rfl) rfl rfl (pt bo0 11) rfl (fun w' h'=>x_fieldAddr (o:=0) (off:=11) Tryd.underlying94 rfl ty91 rfl rfl) D18 (Wa_take (i:=3) rfl (by kernel_rfl) rfl rfl (.map (mb A0_11)) rfl (fun w' h'=>x_load (cls_blk h' 0 rfl) ty91 rfl rfl) D18 (Wa_take (i:=4) rfl (by kernel_rfl) rfl rfl (.string (bs a1)) rfl (fun w' h'=>x_move rfl) D18 (Wa_take (i:=5) rfl (by kernel_rfl) rfl rfl (.agg #[.slice A10 (((mget a0.rows a1).getD (⟨[],⟨0,0,false,[]⟩⟩:model_row)).l).length c11,.int .i64 a2.Writer,.int .i64 a2.TS,.bool a2.Tomb,.string (bs a2.Value)]) rfl (fun w' h'=>x_loadA (cls_blk h' 5 rfl) ty101 rfl (sub_of_extract rfl) rfl rfl) D18 ?_)))))
 refine Wa_solo (i:=6) rfl (by kernel_rfl) ?_
 obtain ⟨x101,he102,H⟩:=bindS H
 replace he102:=Option.some.inj he102
 obtain ⟨vs103,hv104⟩:∃ z:List (Str×Value),mput vs0_11 a1 (.agg #[.slice A10 (((mget a0.rows a1).getD (⟨[],⟨0,0,false,[]⟩⟩:model_row)).l).length c11,.int .i64 a2.Writer,.int .i64 a2.TS,.bool a2.Tomb,.string (bs a2.Value)])=z:=⟨_,rfl⟩
 have hm105:MRel r_model_row M x101 vs103:=by rw [← he102,← hv104];exact hm0_11.put a1 (cs:=[.slice A10 (((mget a0.rows a1).getD (⟨[],⟨0,0,false,[]⟩⟩:model_row)).l).length c11,.int .i64 a2.Writer,.int .i64 a2.TS,.bool a2.Tomb,.string (bs a2.Value)]) ⟨_,hs12,rfl⟩
 refine W_mapUpdate S 4 rfl Tryd.underlying91 key9 a1 (.agg #[.slice A10 (((mget a0.rows a1).getD (⟨[],⟨0,0,false,[]⟩⟩:model_row)).l).length c11,.int .i64 a2.Writer,.int .i64 a2.TS,.bool a2.Tomb,.string (bs a2.Value)]) hv104 rfl rfl rfl ?_
 intro w100 E' S
 replace E:=E.trans E'
 replace S:St w100 M F [_,_,_,_,_,_,_,_]:=S
 refine Wl_nil (on_n ⟨.inl (by decide),?_⟩)
 refine Wa_done (by kernel_rfl) ?_
 refine tn (Wp_seq (Wp_region_lit (W_v (pt b1 2) (x_fieldAddr (o:=0) (off:=2) Tryd.underlying61 rfl ty4 rfl rfl) rfl (W_v (.bool a2.Tomb) (x_load (S.blk 7 rfl) ty4 rfl rfl) rfl (W_v (.agg #[.int .i64 0,.bool (a2.Tomb),.string (bs ([]:Str)),.slice none 0 0]) (x_build2 (pl:=[(0,1),(1,1),(2,1),(3,1)]) #[.int .i64 0,.bool (a2.Tomb),.string (bs ([]:Str)),.slice none 0 0] Tryd.underlying43 ty43 (by as_aux_lemma=>kernel_rfl) rfl (by as_aux_lemma=>kernel_rfl)) rfl ?_)))))
 refine W_store S 6 rfl ty43 rfl rfl [.int .i64 0,.bool (a2.Tomb),.string (bs ([]:Str)),.slice none 0 0] rfl rfl rfl #[.int .i64 0,.bool (a2.Tomb),.string (bs ([]:Str)),.slice none 0 0] rfl rfl ?_
 intro w106 E' S
 replace E:=E.trans E'
 refine Wl_nil (tn ?_)
 refine Wp_ret ?_
 obtain rfl:=Option.some.inj H
 replace S:=S.row_nil r_api_Pair 87
 exact ⟨_,_,_,fun w1 e1=>run_resR (vs:=[.agg #[.int .i64 0,.bool (a2.Tomb),.string (bs ([]:Str)),.slice none ([]:List api_Pair).length 0]]) (FA.cons (⟨_,rfl,run_loadVar_agg ty43 ((S.of_eq e1).blk 7 rfl) (sub_of_extract rfl) rfl (by decide)⟩) (FA.nil)),HM,E,S.pick [0,1,2,3,4,5] (by decide),⟨none,0,A0_8,c0_8,A0_9,c0_9,A0_10,c0_10,A0_11,c0_11,vs103,rfl,hm105,rfl⟩⟩
def model_Model_put_POOOO (k:Nat) (a0:model_Model) (a1:Int) (a2:Int) (a3:api_Call):Option (api_Answer×model_Model) :=
 (Option.bind (model_Model_write_POOOO k a0 a3.Key (⟨a1,(0:Int),false,(a3.Value)⟩:api_Version)) (fun t7=>some (t7.1,t7.2)))
set_option maxHeartbeats 2000000 in
theorem model_Model_put_POOOO.mono {k:Nat} {a0:model_Model} {a1:Int} {a2:Int} {a3:api_Call}:OLe (model_Model_put_POOOO k a0 a1 a2 a3) (model_Model_put_POOOO (k+1) a0 a1 a2 a3):=by
 unfold model_Model_put_POOOO
 repeat' (first | with_reducible exact OLe.none | with_reducible exact OLe.some | with_reducible refine OLe.ite ?_ ?_ | with_reducible refine OLe.bind ?_ (fun _=>?_) | with_reducible exact model_Model_write_POOOO.mono | refine OLe.bind ?_ (fun _=>?_) | refine OLe.ite ?_ ?_ | refine OLe.elim (fun _=>?_) (fun _=>?_) | split)
set_option maxHeartbeats 4000000 in
set_option maxRecDepth 100000 in
theorem model_Model_put_POOOO.con (k:Nat) (M:Hp) (A0_8:Option Addr) (c0_8:Nat) (A0_9:Option Addr) (c0_9:Nat) (A0_10:Option Addr) (c0_10:Nat) (A0_11:Option Addr) (c0_11:Nat) (vs0_11:List (Str×Value)) (a0:model_Model) (a1:Int) (a2:Int) (a3:api_Call) (bo0:Nat) (r:api_Answer×model_Model) (hm0_11:MRel r_model_row M a0.rows vs0_11) (h:model_Model_put_POOOO k a0 a1 a2 a3=some r):Con Tryd.prog 126 #[pt bo0 0,.int .i64 a1,.int .i64 a2,.agg #[.int .u8 a3.Kind,.int .i64 a3.Tx,.string (bs a3.Key),.string (bs a3.End),.string (bs a3.Value),.int .i64 a3.Limit,.int .u8 a3.Engine]] M [B94 bo0 a0 A0_8 A0_9 A0_10 c0_10 A0_11,MapC enc_model_name (Value.int .i64) A0_8 a0.names,MapC (Value.int .i64) (Value.int .i64) A0_9 a0.many,Row r_model_tx 99 (.slice A0_10 a0.txs.length c0_10) a0.txs,MapC encS (fun v:Value=>v) A0_11 vs0_11] (fun v M' Γ'=>∃ (Aq1:Option Addr) (cq2:Nat) (Aq4:Option Addr) (cq5:Nat) (Aq7:Option Addr) (cq8:Nat) (Aq10:Option Addr) (cq11:Nat) (Aq13:Option Addr) (cq14:Nat) (vsq16:List (Str×Value)),v=.agg #[.int .i64 r.1.Err,.bool r.1.Found,.string (bs r.1.Value),.slice Aq1 r.1.Pairs.length cq2]∧MRel r_model_row M' r.2.rows vsq16∧Γ'=[Row r_api_Pair 87 (.slice Aq1 r.1.Pairs.length cq2) r.1.Pairs,B94 bo0 r.2 Aq4 Aq7 Aq10 cq11 Aq13,MapC enc_model_name (Value.int .i64) Aq4 r.2.names,MapC (Value.int .i64) (Value.int .i64) Aq7 r.2.many,Row r_model_tx 99 (.slice Aq10 r.2.txs.length cq11) r.2.txs,MapC encS (fun v:Value=>v) Aq13 vsq16]):=by
 refine con_of_wp Tryd.func126 rfl Tryd.ntmps126 Tryd.results126 rfl ?_
 intro w F rn S hrn
 have E:=Ext.refl w
 have HM:=Hp.le_refl M
 have H:=h
 unfold model_Model_put_POOOO at H
 refine Wp_seq (Wp_region_lit ?_)
 refine W_box S #[.int .u8 a3.Kind,.int .i64 a3.Tx,.string (bs a3.Key),.string (bs a3.End),.string (bs a3.Value),.int .i64 a3.Limit,.int .u8 a3.Engine] rfl rfl rfl ?_
 intro b1 w2 E' S
 replace E:=E.trans E'
 refine W_alloc S #[.int .i64 0,.bool false,.string (bs ([]:Str)),.slice none 0 0] ty43 rfl rfl ?_
 intro b4 w5 E' S
 replace E:=E.trans E'
 refine Wl_nil (tn (Wp_seq (Wp_region_lit (W_v (pt bo0 0) (x_move rfl) rfl (W_v (pt b1 2) (x_fieldAddr (o:=0) (off:=2) Tryd.underlying37 rfl ty9 rfl rfl) rfl (W_v (.string (bs a3.Key)) (x_load (S.blk 1 rfl) ty9 rfl rfl) rfl (W_v (.int .i64 a1) (x_move rfl) rfl (W_v (pt b1 4) (x_fieldAddr (o:=0) (off:=4) Tryd.underlying37 rfl ty9 rfl rfl) rfl (W_v (.string (bs a3.Value)) (x_load (S.blk 1 rfl) ty9 rfl rfl) rfl (W_v (.agg #[.int .i64 a1,.int .i64 0,.bool false,.string (bs (a3.Value))]) (x_build2 (pl:=[(0,1),(1,1),(2,1),(3,1)]) #[.int .i64 a1,.int .i64 0,.bool false,.string (bs (a3.Value))] Tryd.underlying61 ty61 (by as_aux_lemma=>kernel_rfl) rfl (by as_aux_lemma=>kernel_rfl)) rfl ?_))))))))))
 obtain ⟨t7,ht8,H⟩:=bindS H
 replace S:St w5 M F [_,_,_,_,_,_,_]:=S.pick [2,3,4,5,6,0,1] (by decide)
 refine W_call fn134 (model_Model_write_POOOO.con k M A0_8 c0_8 A0_9 c0_9 A0_10 c0_10 A0_11 c0_11 vs0_11 a0 a3.Key (⟨a1,(0:Int),false,(a3.Value)⟩:api_Version) bo0 t7 hm0_11 ht8) (Γ1:=[_,_,_,_,_]) (Γ2:=[_,_]) S rfl rfl ?_
 rintro _ w26 M27 Γ' hM28 E' S ⟨A9,c10,A12,c13,A15,c16,A18,c19,A21,c22,vs24,rfl,hm25,rfl⟩
 replace HM:=Hp.le_trans HM hM28
 replace hm0_11:=MRel.mono hm0_11 hM28
 replace E:=E.trans E'
 replace S:St w26 M27 F [_,_,_,_,_,_,_,_]:=S
 refine W_store S 6 rfl ty43 rfl rfl [.int .i64 t7.1.Err,.bool t7.1.Found,.string (bs t7.1.Value),.slice A9 t7.1.Pairs.length c10] rfl rfl rfl #[.int .i64 t7.1.Err,.bool t7.1.Found,.string (bs t7.1.Value),.slice A9 t7.1.Pairs.length c10] rfl rfl ?_
 intro w29 E' S
 replace E:=E.trans E'
 refine Wl_nil (tn ?_)
 refine Wp_ret ?_
 obtain rfl:=Option.some.inj H
 exact ⟨_,_,_,fun w1 e1=>run_resR (vs:=[.agg #[.int .i64 t7.1.Err,.bool t7.1.Found,.string (bs t7.1.Value),.slice A9 t7.1.Pairs.length c10]]) (FA.cons (⟨_,rfl,run_loadVar_agg ty43 ((S.of_eq e1).blk 6 rfl) (sub_of_extract rfl) rfl (by decide)⟩) (FA.nil)),HM,E,S.pick [0,1,2,3,4,5] (by decide),⟨A9,c10,A12,c13,A15,c16,A18,c19,A21,c22,vs24,rfl,hm25,rfl⟩⟩
def model_Model_del_POOOO (k:Nat) (a0:model_Model) (a1:Int) (a2:Int) (a3:api_Call):Option (api_Answer×model_Model) :=
 (Option.bind (model_Model_write_POOOO k a0 a3.Key (⟨a1,(0:Int),true,([]:Str)⟩:api_Version)) (fun t7=>some (t7.1,t7.2)))
set_option maxHeartbeats 2000000 in
theorem model_Model_del_POOOO.mono {k:Nat} {a0:model_Model} {a1:Int} {a2:Int} {a3:api_Call}:OLe (model_Model_del_POOOO k a0 a1 a2 a3) (model_Model_del_POOOO (k+1) a0 a1 a2 a3):=by
 unfold model_Model_del_POOOO
 repeat' (first | with_reducible exact OLe.none | with_reducible exact OLe.some | with_reducible refine OLe.ite ?_ ?_ | with_reducible refine OLe.bind ?_ (fun _=>?_) | with_reducible exact model_Model_write_POOOO.mono | refine OLe.bind ?_ (fun _=>?_) | refine OLe.ite ?_ ?_ | refine OLe.elim (fun _=>?_) (fun _=>?_) | split)
set_option maxHeartbeats 4000000 in
set_option maxRecDepth 100000 in
theorem model_Model_del_POOOO.con (k:Nat) (M:Hp) (A0_8:Option Addr) (c0_8:Nat) (A0_9:Option Addr) (c0_9:Nat) (A0_10:Option Addr) (c0_10:Nat) (A0_11:Option Addr) (c0_11:Nat) (vs0_11:List (Str×Value)) (a0:model_Model) (a1:Int) (a2:Int) (a3:api_Call) (bo0:Nat) (r:api_Answer×model_Model) (hm0_11:MRel r_model_row M a0.rows vs0_11) (h:model_Model_del_POOOO k a0 a1 a2 a3=some r):Con Tryd.prog 127 #[pt bo0 0,.int .i64 a1,.int .i64 a2,.agg #[.int .u8 a3.Kind,.int .i64 a3.Tx,.string (bs a3.Key),.string (bs a3.End),.string (bs a3.Value),.int .i64 a3.Limit,.int .u8 a3.Engine]] M [B94 bo0 a0 A0_8 A0_9 A0_10 c0_10 A0_11,MapC enc_model_name (Value.int .i64) A0_8 a0.names,MapC (Value.int .i64) (Value.int .i64) A0_9 a0.many,Row r_model_tx 99 (.slice A0_10 a0.txs.length c0_10) a0.txs,MapC encS (fun v:Value=>v) A0_11 vs0_11] (fun v M' Γ'=>∃ (Aq1:Option Addr) (cq2:Nat) (Aq4:Option Addr) (cq5:Nat) (Aq7:Option Addr) (cq8:Nat) (Aq10:Option Addr) (cq11:Nat) (Aq13:Option Addr) (cq14:Nat) (vsq16:List (Str×Value)),v=.agg #[.int .i64 r.1.Err,.bool r.1.Found,.string (bs r.1.Value),.slice Aq1 r.1.Pairs.length cq2]∧MRel r_model_row M' r.2.rows vsq16∧Γ'=[Row r_api_Pair 87 (.slice Aq1 r.1.Pairs.length cq2) r.1.Pairs,B94 bo0 r.2 Aq4 Aq7 Aq10 cq11 Aq13,MapC enc_model_name (Value.int .i64) Aq4 r.2.names,MapC (Value.int .i64) (Value.int .i64) Aq7 r.2.many,Row r_model_tx 99 (.slice Aq10 r.2.txs.length cq11) r.2.txs,MapC encS (fun v:Value=>v) Aq13 vsq16]):=by
 refine con_of_wp Tryd.func127 rfl Tryd.ntmps127 Tryd.results127 rfl ?_
 intro w F rn S hrn
 have E:=Ext.refl w
 have HM:=Hp.le_refl M
 have H:=h
 unfold model_Model_del_POOOO at H
 refine Wp_seq (Wp_region_lit ?_)
 refine W_box S #[.int .u8 a3.Kind,.int .i64 a3.Tx,.string (bs a3.Key),.string (bs a3.End),.string (bs a3.Value),.int .i64 a3.Limit,.int .u8 a3.Engine] rfl rfl rfl ?_
 intro b1 w2 E' S
 replace E:=E.trans E'
 refine W_alloc S #[.int .i64 0,.bool false,.string (bs ([]:Str)),.slice none 0 0] ty43 rfl rfl ?_
 intro b4 w5 E' S
 replace E:=E.trans E'
 refine Wl_nil (tn (Wp_seq (Wp_region_lit (W_v (pt bo0 0) (x_move rfl) rfl (W_v (pt b1 2) (x_fieldAddr (o:=0) (off:=2) Tryd.underlying37 rfl ty9 rfl rfl) rfl (W_v (.string (bs a3.Key)) (x_load (S.blk 1 rfl) ty9 rfl rfl) rfl (W_v (.int .i64 a1) (x_move rfl) rfl (W_v (.agg #[.int .i64 a1,.int .i64 0,.bool true,.string (bs ([]:Str))]) (x_build2 (pl:=[(0,1),(1,1),(2,1),(3,1)]) #[.int .i64 a1,.int .i64 0,.bool true,.string (bs ([]:Str))] Tryd.underlying61 ty61 (by as_aux_lemma=>kernel_rfl) rfl (by as_aux_lemma=>kernel_rfl)) rfl ?_))))))))
 obtain ⟨t7,ht8,H⟩:=bindS H
 replace S:St w5 M F [_,_,_,_,_,_,_]:=S.pick [2,3,4,5,6,0,1] (by decide)
 refine W_call fn134 (model_Model_write_POOOO.con k M A0_8 c0_8 A0_9 c0_9 A0_10 c0_10 A0_11 c0_11 vs0_11 a0 a3.Key (⟨a1,(0:Int),true,([]:Str)⟩:api_Version) bo0 t7 hm0_11 ht8) (Γ1:=[_,_,_,_,_]) (Γ2:=[_,_]) S rfl rfl ?_
 rintro _ w26 M27 Γ' hM28 E' S ⟨A9,c10,A12,c13,A15,c16,A18,c19,A21,c22,vs24,rfl,hm25,rfl⟩
 replace HM:=Hp.le_trans HM hM28
 replace hm0_11:=MRel.mono hm0_11 hM28
 replace E:=E.trans E'
 replace S:St w26 M27 F [_,_,_,_,_,_,_,_]:=S
 refine W_store S 6 rfl ty43 rfl rfl [.int .i64 t7.1.Err,.bool t7.1.Found,.string (bs t7.1.Value),.slice A9 t7.1.Pairs.length c10] rfl rfl rfl #[.int .i64 t7.1.Err,.bool t7.1.Found,.string (bs t7.1.Value),.slice A9 t7.1.Pairs.length c10] rfl rfl ?_
 intro w29 E' S
 replace E:=E.trans E'
 refine Wl_nil (tn ?_)
 refine Wp_ret ?_
 obtain rfl:=Option.some.inj H
 exact ⟨_,_,_,fun w1 e1=>run_resR (vs:=[.agg #[.int .i64 t7.1.Err,.bool t7.1.Found,.string (bs t7.1.Value),.slice A9 t7.1.Pairs.length c10]]) (FA.cons (⟨_,rfl,run_loadVar_agg ty43 ((S.of_eq e1).blk 6 rfl) (sub_of_extract rfl) rfl (by decide)⟩) (FA.nil)),HM,E,S.pick [0,1,2,3,4,5] (by decide),⟨A9,c10,A12,c13,A15,c16,A18,c19,A21,c22,vs24,rfl,hm25,rfl⟩⟩
def maps_Keys_map_string_model_row_string_model_row_K (k:Nat) (a0:(List (Str×model_row))):Option (Unit) :=
 some ()
set_option maxHeartbeats 2000000 in
theorem maps_Keys_map_string_model_row_string_model_row_K.mono {k:Nat} {a0:(List (Str×model_row))}:OLe (maps_Keys_map_string_model_row_string_model_row_K k a0) (maps_Keys_map_string_model_row_string_model_row_K (k+1) a0):=by
 unfold maps_Keys_map_string_model_row_string_model_row_K
 repeat' (first | with_reducible exact OLe.none | with_reducible exact OLe.some | with_reducible refine OLe.ite ?_ ?_ | with_reducible refine OLe.bind ?_ (fun _=>?_) | refine OLe.bind ?_ (fun _=>?_) | refine OLe.ite ?_ ?_ | refine OLe.elim (fun _=>?_) (fun _=>?_) | split)
set_option maxHeartbeats 4000000 in
set_option maxRecDepth 100000 in
theorem maps_Keys_map_string_model_row_string_model_row_K.con (k:Nat) (M:Hp) (A0:Option Addr) (vs0:List (Str×Value)) (a0:(List (Str×model_row))) (r:Unit) (hm0:MRel r_model_row M a0 vs0) (h:maps_Keys_map_string_model_row_string_model_row_K k a0=some r):Con Tryd.prog 47 #[.map (mb A0)] M [MapC encS (fun v:Value=>v) A0 vs0] (fun v M' Γ'=>∃ (bq1:Nat),v=.func (.func 75) #[] #[pt bq1 0]∧Γ'=[Blk bq1 (.cells #[.map (mb A0)] 91 (0,0)),MapC encS (fun v:Value=>v) A0 vs0]):=by
 refine con_of_wp Tryd.func47 rfl Tryd.ntmps47 Tryd.results47 rfl ?_
 intro w F rn S hrn
 have E:=Ext.refl w
 have HM:=Hp.le_refl M
 have H:=h
 unfold maps_Keys_map_string_model_row_string_model_row_K at H
 refine Wp_seq (Wp_region_lit ?_)
 refine W_box S #[.map (mb A0)] rfl rfl rfl ?_
 intro b1 w2 E' S
 replace E:=E.trans E'
 refine W_v (.nilFunc) (x_assign rfl) rfl (Wl_nil (tn (Wp_seq (Wp_region_lit (W_v (.func (.func 75) #[] #[pt b1 0]) (x_makeFunc rfl) rfl (W_v (.func (.func 75) #[] #[pt b1 0]) (x_assign rfl) rfl (Wl_nil (tn ?_))))))))
 refine Wp_ret ?_
 obtain rfl:=Option.some.inj H
 exact ⟨_,_,_,fun w1 e1=>run_resR (vs:=[.func (.func 75) #[] #[pt b1 0]]) (FA.cons (rfl) (FA.nil)),HM,E,S.pick [0,1] (by decide),⟨b1,rfl,rfl⟩⟩
theorem it75_con (M:Hp) (b0:Nat) (A0:Option Addr) (vs:List (Str×Value)) (hn:(vs.map fun x:Str×Value=>x.1).Nodup) (hl:vs.length≤1000000000):Iter Tryd.prog 75 [pt b0 0] M (fun _ (x:Str) (ws:List Value)=>ws=[.string (bs x)]) (fun x s=>if s.length≤1000000000 then some (.inl (insl ltS x s):List Str⊕Unit) else none) [] (.inl (isort ltS (vs.map fun x:Str×Value=>x.1))) [Blk b0 (.cells #[.map (mb A0)] 91 (0,0)),MapC encS (fun v:Value=>v) A0 vs] (fun M' Γ'=>Γ'=[Blk b0 (.cells #[.map (mb A0)] 91 (0,0)),MapC encS (fun v:Value=>v) A0 vs]):=by
 intro lp B hY
 refine con_of_wp Tryd.func75 rfl Tryd.ntmps75 Tryd.results75 rfl ?_
 intro w F rn S hrn
 have E:=Ext.refl w
 have HM:=Hp.le_refl M
 refine Wp_seq (Wp_region_lit (W_v (.map (mb A0)) (x_load (S.blk 1 rfl) ty91 rfl rfl) rfl ?_))
 refine W_rangeM S 2 rfl Tryd.underlying91 hn rfl rfl ?_
 intro bi w1 E' S
 replace E:=E.trans E'
 refine Wl_nil (tn ?_)
 replace S:St w1 M F [_,_,_]:=S
 refine Wp_blockJ (fun ρ w'=>∃ (Mj:Hp),M.le Mj∧Ext w w'∧St w' Mj F [B (.inl (isort ltS (vs.map fun x:Str×Value=>x.1))),Blk b0 (.cells #[.map (mb A0)] 91 (0,0)),MapC encS (fun v:Value=>v) A0 vs]) ?_ ?_
 ·refine Wp_loop (fun n ρ w'=>∃ (todo dn:List Str) (Mj:Hp),todo.length=n∧(dn++todo).Perm (vs.map fun x:Str×Value=>x.1)∧Agree ρ [(0,.func (.yield lp) #[] #[]),(5,pt bi 0)]∧M.le Mj∧Ext w w'∧St w' Mj F [B (.inl (isort ltS dn)),Blk b0 (.cells #[.map (mb A0)] 91 (0,0)),RangeM encS (fun v:Value=>v) A0 bi vs todo none]) (vs.map fun x:Str×Value=>x.1).length ?_ ?_
  ·exact ⟨(vs.map fun x:Str×Value=>x.1),[],M,rfl,List.Perm.refl _,⟨rfl,rfl,trivial⟩,HM,E,S⟩
  ·intro n
   rintro ρ w2 ⟨todo,dn,Mj,hlen,hp,hρ,HM,E,S⟩
   rw [agree_eta hρ]
   refine Wp_seq (Wp_region_lit ?_)
   refine W_nextM S 2 rfl rfl rfl ?_ ?_
   ·intro y v w3 hy hv E' S
    replace E:=E.trans E'
    refine W_v (.bool true) (x_extract rfl rfl) rfl (Wl_nil (tn (Wp_seq (Wp_cond_true rfl (Wp_skip (tn ?_))))))
    refine Wp_block ?_
    refine Wp_seq (Wp_region_lit (W_v (.tuple #[encS y,v]) (x_entryM S 2 rfl hv rfl) rfl (W_v (.string (bs y)) (x_extract rfl rfl) rfl ?_)))
    replace S:=S.rangeM_seen 2 rfl
    refine W_v (.string (bs y)) (x_assign rfl) rfl (Wl_nil (tn (Wp_seq (Wp_region_lit (W_v (.func (.yield lp) #[] #[]) (x_move rfl) rfl (W_v (.string (bs y)) (x_move rfl) rfl ?_))))))
    have hlim:(isort ltS dn).length≤1000000000:=by
     have h1:=hp.length_eq
     rw [(isort_perm _).length_eq]
     simp only [List.length_append,List.length_map] at h1
     omega
    refine W_yield rfl (hY _ y _ (isort ltS dn) (.inl (insl ltS y (isort ltS dn))) HM rfl (if_pos hlim)) S rfl rfl ?_
    rintro _ w4 M4 _ hM4 E' S ⟨rfl,rfl⟩
    replace E:=E.trans E'
    refine W_v (.bool (!(isNorm (.inl (insl ltS y (isort ltS dn)):List Str⊕Unit)))) (x_not rfl) rfl (Wl_nil (tn (Wp_cond_false rfl (Wp_skip (bn (tn ?_))))))
    have hlt:(er todo y).length<n:=by
     rw [← hlen,er_len hy]
     have:=List.length_pos_of_mem hy
     omega
    have hp2:((y::dn)++er todo y).Perm (vs.map fun x:Str×Value=>x.1):=by
     refine List.Perm.trans ?_ hp
     refine List.Perm.trans ?_ ((permE hy).symm.append_left dn)
     exact (List.perm_middle (a:=y) (l₁:=dn) (l₂:=er todo y)).symm
    have e8:isort ltS (y::dn)=insl ltS y (isort ltS dn):=rfl
    rw [← e8] at S
    replace S:St w4 M4 F [_,_,_]:=S
    exact ⟨(er todo y).length,hlt,er todo y,y::dn,M4,rfl,hp2,⟨rfl,rfl,trivial⟩,Hp.le_trans HM hM4,E,S⟩
   ·intro w3 ht E' S
    replace E:=E.trans E'
    subst ht
    refine W_v (.bool false) (x_extract rfl rfl) rfl (Wl_nil (tn (Wp_seq (Wp_cond_false rfl ?_))))
    refine Wp_exit ?_
    refine tx (tx (bsm ?_))
    refine tn ?_
    rw [List.append_nil] at hp
    have e9:isort ltS dn=isort ltS (vs.map fun x:Str×Value=>x.1):=sorted_eq cfS_total ((isort_perm _).trans (hp.trans (isort_perm _).symm)) (isort_sorted cfS_swo _) (isort_sorted cfS_swo _)
    rw [e9] at S
    exact ⟨Mj,HM,E,S.rangeM_end 2 rfl⟩
 rintro ρ w2 ⟨Mj,HM,E,S⟩
 exact ⟨_,_,_,fun w1 e1=>run_resR (vs:=[]) FA.nil,HM,E,S.pick [0,1,2] (by decide),⟨_,rfl,rfl⟩⟩
theorem as84_con (M:Hp) (b0:Nat) (A0:Option Addr) (vs:List (Str×Value)) (hn:(vs.map fun x:Str×Value=>x.1).Nodup) (hl:vs.length≤1000000000):Con Tryd.prog 84 #[.slice none 0 0,.func (.func 75) #[] #[pt b0 0]] M [Blk b0 (.cells #[.map (mb A0)] 91 (0,0)),MapC encS (fun v:Value=>v) A0 vs] (fun v M' Γ'=>∃ (A:Option Addr) (c:Nat) (l:List Str),l.Perm (vs.map fun x:Str×Value=>x.1)∧v=.slice A l.length c∧Γ'=[Row rStr 9 (.slice A l.length c) l,Blk b0 (.cells #[.map (mb A0)] 91 (0,0)),MapC encS (fun v:Value=>v) A0 vs]):=by
 refine con_of_wp Tryd.func84 rfl Tryd.ntmps84 Tryd.results84 rfl ?_
 intro w F rn S hrn
 have E:=Ext.refl w
 have HM:=Hp.le_refl M
 refine Wp_seq (Wp_region_lit ?_)
 refine W_box S #[.slice none 0 0] rfl rfl rfl ?_
 intro b2 w1 E' S
 replace E:=E.trans E'
 refine W_v (.slice none 0 0) (x_assign rfl) rfl (Wl_nil (tn (Wp_seq (Wp_seq (Wp_region_lit (W_v (.func (.func 75) #[] #[pt b0 0]) (x_move rfl) rfl (Wl_nil (tn ?_))))))))
 refine Wp_block ?_
 replace S:=S.row_nil rStr 9
 refine Wp_rangeFunc (σ:=List Str) (ε:=Unit) (Γi:=[Blk b0 (.cells #[.map (mb A0)] 91 (0,0)),MapC encS (fun v:Value=>v) A0 vs]) (Γr:=[]) (Sum.elim (fun s=>AE (ι:=List Str×Option Addr×Nat) (fun ⟨l,A,c⟩=>[Row rStr 9 (.slice A l.length c) l,Blk b2 (.cells #[.slice A l.length c] 67 (0,0))]) (fun _ ⟨l,A,c⟩=>l.Perm s) (by rintro _ _ ⟨l,A,c⟩ _ h;exact h)) (fun _=>Star [])) (fun _=>Code.ret) fn75 rfl
  (St.close_ex (φ:=fun (_:Hp) (⟨l,A,c⟩:List Str×Option Addr×Nat)=>l.Perm ([]:List Str)) (hφ:=by rintro _ _ ⟨l,A,c⟩ _ h;exact h) (([]:List Str),(none:Option Addr),0) (List.Perm.refl _) (S.pick [0,1,2,3] (by decide))) (by rintro _ _ _ rfl;rfl) (by decide) (it75_con M b0 A0 vs hn hl) ?_ ?_
 ·intro nn lp M1 F y ws ss tt w hM1 henc hbd S
  obtain rfl:=henc
  replace S:St w M1 F (AE (ι:=List Str×Option Addr×Nat) (fun ⟨l,A,c⟩=>[Row rStr 9 (.slice A l.length c) l,Blk b2 (.cells #[.slice A l.length c] 67 (0,0))]) (fun _ ⟨l,A,c⟩=>l.Perm ss) (by rintro _ _ ⟨l,A,c⟩ _ h;exact h)::[]):=S
  obtain ⟨⟨l,A,c⟩,hls,S⟩:=S.open_ex
  replace S:St w M1 F [_,_]:=S
  replace hls:l.Perm ss:=hls
  have hb9:ss.length≤1000000000∧tt=.inl (insl ltS y ss):=by
   by_cases h:ss.length≤1000000000
   ·rw [if_pos h] at hbd;exact ⟨h,(Option.some.inj hbd).symm⟩
   ·rw [if_neg h] at hbd;cases hbd
  obtain ⟨hb8,rfl⟩:=hb9
  have E:=Ext.refl w
  refine Wp_region_lit (W_v (.string (bs y)) (x_assign rfl) rfl (Wl_nil ?_))
  refine on_n ⟨_,_,Hp.le_refl _,E,S,?_⟩
  intro w F E3 S
  have E:=Ext.refl w
  refine Wp_block ?_
  refine Wp_region_lit (W_v (.slice A l.length c) (x_load (S.blk 1 rfl) ty67 rfl rfl) rfl (W_v (.string (bs y)) (x_move rfl) rfl ?_))
  refine W_bslice S #[.string (bs y)] Tryd.underlying67 ty9 rfl rfl #[.string ⟨#[]⟩] (by kernel_rfl) (by kernel_rfl) rfl ?_
  intro b3 w3 E' S
  replace E:=E.trans E'
  replace S:=S.blk_row (r:=rStr) (l:=[y]) 0 rfl 1 (Nat.le_refl 1) rfl (Cells.cons (vs:=[.string (bs y)]) (rfl) Cells.nil)
  obtain ⟨src,hs,hC⟩:=src_of_read (P:=Tryd.prog) (ρ:=rStr) (l:=[y]) (S.row_read 0 rfl) (by decide)
  refine W_append S 1 rfl rfl rfl Tryd.underlying67 (.inl Tryd.underlying67) ty9 rfl (by decide) (by decide) hs hC rfl (by rw [hls.length_eq];simp only [List.length_cons,List.length_nil];omega) rfl ?_
  intro v7 w7 E' S
  replace E:=E.trans E'
  obtain ⟨A7,c7,rfl,_⟩:=(S.row_read 1 rfl).form
  refine W_store S 2 rfl ty67 rfl rfl [.slice A7 (l++[y]).length c7] rfl rfl rfl #[.slice A7 (l++[y]).length c7] rfl rfl ?_
  intro w8 E' S
  replace E:=E.trans E'
  refine Wl_nil (bn ?_)
  have hp7:(l++[y]).Perm (insl ltS y ss):=((List.perm_append_comm (l₁:=l) (l₂:=[y])).trans (hls.cons y)).trans (insl_perm y ss).symm
  exact endB_mk trivial (Hp.le_refl _) E (St.close_ex (φ:=fun (_:Hp) (⟨l,A,c⟩:List Str×Option Addr×Nat)=>l.Perm (insl ltS y ss)) (hφ:=by rintro _ _ ⟨l,A,c⟩ _ h;exact h) (l++[y],A7,c7) hp7 (S.pick [1,2] (by decide)))
 intro w9 M9 Γ' h9 E' hΨ S
 obtain rfl:Γ'=_:=hΨ
 replace E:=E.trans E'
 refine afterR_l ?_
 replace S:St w9 M9 F (AE (ι:=List Str×Option Addr×Nat) (fun ⟨l,A,c⟩=>[Row rStr 9 (.slice A l.length c) l,Blk b2 (.cells #[.slice A l.length c] 67 (0,0))]) (fun _ ⟨l,A,c⟩=>l.Perm (isort ltS (vs.map fun x:Str×Value=>x.1))) (by rintro _ _ ⟨l,A,c⟩ _ h;exact h)::[Blk b0 (.cells #[.map (mb A0)] 91 (0,0)),MapC encS (fun v:Value=>v) A0 vs]):=S
 obtain ⟨⟨l,A,c⟩,hls,S⟩:=S.open_ex
 replace S:St w9 M9 F [_,_,_,_]:=S
 replace hls:l.Perm (isort ltS (vs.map fun x:Str×Value=>x.1)):=hls
 refine bn (tn ?_)
 as_aux_lemma =>
 refine Wp_seq (Wp_region_lit (W_v (.slice A l.length c) (x_load (S.blk 1 rfl) ty67 rfl rfl) rfl (W_v (.slice A l.length c) (x_assign rfl) rfl (Wl_nil (tn ?_)))))
 refine Wp_ret ?_
 exact ⟨_,_,_,fun w1 e1=>run_resR (vs:=[.slice A l.length c]) (FA.cons (rfl) (FA.nil)),h9,E,S.pick [0,2,3] (by decide),⟨A,c,l,hls.trans (isort_perm _),rfl,rfl⟩⟩
theorem co73_con (M:Hp) (b0:Nat) (A0:Option Addr) (vs:List (Str×Value)) (hn:(vs.map fun x:Str×Value=>x.1).Nodup) (hl:vs.length≤1000000000):Con Tryd.prog 73 #[.func (.func 75) #[] #[pt b0 0]] M [Blk b0 (.cells #[.map (mb A0)] 91 (0,0)),MapC encS (fun v:Value=>v) A0 vs] (fun v M' Γ'=>∃ (A:Option Addr) (c:Nat) (l:List Str),l.Perm (vs.map fun x:Str×Value=>x.1)∧v=.slice A l.length c∧Γ'=[Row rStr 9 (.slice A l.length c) l,Blk b0 (.cells #[.map (mb A0)] 91 (0,0)),MapC encS (fun v:Value=>v) A0 vs]):=by
 refine con_of_wp Tryd.func73 rfl Tryd.ntmps73 Tryd.results73 rfl ?_
 intro w F rn S hrn
 have E:=Ext.refl w
 have HM:=Hp.le_refl M
 refine Wp_seq (Wp_region_lit (W_v (.slice none 0 0) (x_assign rfl) rfl (Wl_nil (tn (Wp_seq (Wp_region_lit (W_v (.func (.func 75) #[] #[pt b0 0]) (x_move rfl) rfl ?_)))))))
 refine W_call fn84 (as84_con M b0 A0 vs hn hl) (Γ2:=[]) S rfl rfl ?_
 rintro _ w2 M2 Γ' hM2 E' S ⟨A,c,l,hp,rfl,rfl⟩
 replace E:=E.trans E'
 refine W_v (.slice A l.length c) (x_assign rfl) rfl (Wl_nil (tn ?_))
 refine Wp_ret ?_
 exact ⟨_,_,_,fun w1 e1=>run_resR (vs:=[.slice A l.length c]) (FA.cons (rfl) (FA.nil)),hM2,E,S.pick [0,1,2] (by decide),⟨A,c,l,hp,rfl,rfl⟩⟩
theorem cmp48_con (M:Hp) (x y:Str):Con Tryd.prog 48 #[encS x,encS y] M [] (fun v _ _=>v=.int .i64 (cfS x y)):=(text_Compare.con 9 M x y (cfS x y) rfl).mono fun v M' Γ' _ h=>h.1
def slices_SortedFunc_string_Keys_map_string_model_row_string_model_row_1_K_Compare (k:Nat) (a0_0:List (Str×model_row)):Option (List Str):=if (a0_0.map fun p:Str×model_row=>p.1).Nodup∧a0_0.length≤1000000000 then some (isort ltS (a0_0.map fun p:Str×model_row=>p.1)) else none
theorem slices_SortedFunc_string_Keys_map_string_model_row_string_model_row_1_K_Compare.mono {k:Nat} {a0_0:List (Str×model_row)}:OLe (slices_SortedFunc_string_Keys_map_string_model_row_string_model_row_1_K_Compare k a0_0) (slices_SortedFunc_string_Keys_map_string_model_row_string_model_row_1_K_Compare (k+1) a0_0):=fun r h=>h
theorem slices_SortedFunc_string_Keys_map_string_model_row_string_model_row_1_K_Compare.con (k:Nat) (M:Hp) (A0_0:Option Addr) (vs0_0:List (Str×Value)) (a0_0:(List (Str×model_row))) (b0_0:Nat) (r:(List Str)) (hm0_0:MRel r_model_row M a0_0 vs0_0) (h:slices_SortedFunc_string_Keys_map_string_model_row_string_model_row_1_K_Compare k a0_0=some r):Con Tryd.prog 46 #[.func (.func 75) #[] #[pt b0_0 0],.func (.func 48) #[] #[]] M [Blk b0_0 (.cells #[.map (mb A0_0)] 91 (0,0)),MapC encS (fun v:Value=>v) A0_0 vs0_0] (fun v M' Γ'=>∃ (Aq1:Option Addr) (cq2:Nat),v=.slice Aq1 r.length cq2∧Γ'=[Row rStr 9 (.slice Aq1 r.length cq2) r,Blk b0_0 (.cells #[.map (mb A0_0)] 91 (0,0)),MapC encS (fun v:Value=>v) A0_0 vs0_0]):=by
 refine con_of_wp Tryd.func46 rfl Tryd.ntmps46 Tryd.results46 rfl ?_
 intro w F rn S hrn
 have E:=Ext.refl w
 have H:=h
 unfold slices_SortedFunc_string_Keys_map_string_model_row_string_model_row_1_K_Compare at H
 obtain ⟨⟨hnd,hlim⟩,H⟩:=chkS H
 have hk:=hm0_0.keys
 refine Wp_seq (Wp_region_lit (W_v (.slice none 0 0) (x_assign rfl) rfl (Wl_nil (tn (Wp_seq (Wp_region_lit (W_v (.func (.func 75) #[] #[pt b0_0 0]) (x_move rfl) rfl ?_)))))))
 refine W_call fn73 (co73_con M b0_0 A0_0 vs0_0 (by rw [hk];exact hnd) (by rw [hm0_0.length];exact hlim)) (Γ2:=[]) S rfl rfl ?_
 rintro _ w2 M2 Γ' hM2 E' S ⟨A,c,l,hp,rfl,rfl⟩
 replace E:=E.trans E'
 rw [hk] at hp
 refine W_v (.slice A l.length c) (x_assign rfl) rfl (Wl_nil (tn (Wp_seq (Wp_region_lit (W_v (.slice A l.length c) (x_move rfl) rfl (W_v (.func (.func 48) #[] #[]) (x_move rfl) rfl ?_))))))
 have hl8:l.length<4611686018427387904:=by
  have h1:=hp.length_eq
  simp only [List.length_map] at h1
  omega
 obtain ⟨fn9,hf9,hb9,hn9⟩:=fn74.ex
 have hcs:=sort_row1 S 0 rfl Go.Proofs.Tryd.sortStr encS rfl (fun x=>rfl) (fun _ _ _=>Iff.rfl) cfS cfS_swo cfS_total 48 fn48 cmp48_con hl8
 refine Wl_call (f:=74) (args:=#[.slice A l.length c,.func (.func 48) #[] #[]]) (R:=fun v w'=>v=.tuple #[]∧Ext w2 w'∧St w' M2 F _) rfl (x_call hf9 hb9 hn9) (fun _ _ ⟨_,h,_⟩=>h) (Calls.mono hcs fun e w' ⟨he,h⟩=>⟨_,he,rfl,h⟩) rfl ?_
 rintro v9 w9 ⟨rfl,E',S⟩
 replace E:=E.trans E'
 rw [merge_isort cfS_swo cfS_total hp] at S
 obtain rfl:=Option.some.inj H
 have hle:l.length=(isort ltS (a0_0.map fun p:Str×model_row=>p.1)).length:=by rw [(isort_perm _).length_eq,hp.length_eq]
 rw [hle] at S
 rw [hle]
 refine Wl_nil (tn (Wp_seq (Wp_region_lit (W_v (.slice A (isort ltS (a0_0.map fun p:Str×model_row=>p.1)).length c) (x_move rfl) rfl (W_v (.slice A (isort ltS (a0_0.map fun p:Str×model_row=>p.1)).length c) (x_assign rfl) rfl (Wl_nil (tn ?_)))))))
 refine Wp_ret ?_
 exact ⟨_,_,_,fun w1 e1=>run_resR (vs:=[.slice A (isort ltS (a0_0.map fun p:Str×model_row=>p.1)).length c]) (FA.cons (rfl) (FA.nil)),hM2,E,S.pick [0,1,2] (by decide),⟨A,c,rfl,rfl⟩⟩
def model_Model_Keys_POOOO (k:Nat) (a0:model_Model):Option ((List Str)) :=
 (Option.bind (maps_Keys_map_string_model_row_string_model_row_K k a0.rows) (fun t1=>(Option.bind (slices_SortedFunc_string_Keys_map_string_model_row_string_model_row_1_K_Compare k a0.rows) (fun t8=>some t8))))
set_option maxHeartbeats 2000000 in
theorem model_Model_Keys_POOOO.mono {k:Nat} {a0:model_Model}:OLe (model_Model_Keys_POOOO k a0) (model_Model_Keys_POOOO (k+1) a0):=by
 unfold model_Model_Keys_POOOO
 repeat' (first | with_reducible exact OLe.none | with_reducible exact OLe.some | with_reducible refine OLe.ite ?_ ?_ | with_reducible refine OLe.bind ?_ (fun _=>?_) | with_reducible exact maps_Keys_map_string_model_row_string_model_row_K.mono | with_reducible exact slices_SortedFunc_string_Keys_map_string_model_row_string_model_row_1_K_Compare.mono | refine OLe.bind ?_ (fun _=>?_) | refine OLe.ite ?_ ?_ | refine OLe.elim (fun _=>?_) (fun _=>?_) | split)
set_option maxHeartbeats 4000000 in
set_option maxRecDepth 100000 in
theorem model_Model_Keys_POOOO.con (k:Nat) (M:Hp) (A0_8:Option Addr) (c0_8:Nat) (A0_9:Option Addr) (c0_9:Nat) (A0_10:Option Addr) (c0_10:Nat) (A0_11:Option Addr) (c0_11:Nat) (vs0_11:List (Str×Value)) (a0:model_Model) (bo0:Nat) (r:(List Str)) (hm0_11:MRel r_model_row M a0.rows vs0_11) (h:model_Model_Keys_POOOO k a0=some r):Con Tryd.prog 27 #[pt bo0 0] M [B94 bo0 a0 A0_8 A0_9 A0_10 c0_10 A0_11,MapC enc_model_name (Value.int .i64) A0_8 a0.names,MapC (Value.int .i64) (Value.int .i64) A0_9 a0.many,Row r_model_tx 99 (.slice A0_10 a0.txs.length c0_10) a0.txs,MapC encS (fun v:Value=>v) A0_11 vs0_11] (fun v M' Γ'=>∃ (Aq1:Option Addr) (cq2:Nat),v=.slice Aq1 r.length cq2∧Γ'=[Row rStr 9 (.slice Aq1 r.length cq2) r,B94 bo0 a0 A0_8 A0_9 A0_10 c0_10 A0_11,MapC enc_model_name (Value.int .i64) A0_8 a0.names,MapC (Value.int .i64) (Value.int .i64) A0_9 a0.many,Row r_model_tx 99 (.slice A0_10 a0.txs.length c0_10) a0.txs,MapC encS (fun v:Value=>v) A0_11 vs0_11]):=by
 refine con_of_wp Tryd.func27 rfl Tryd.ntmps27 Tryd.results27 rfl ?_
 intro w F rn S hrn
 have E:=Ext.refl w
 have HM:=Hp.le_refl M
 have H:=h
 unfold model_Model_Keys_POOOO at H
 refine Wp_seq (Wp_region_lit (W_v (.slice none 0 0) (x_assign rfl) rfl (Wl_nil (tn (Wp_seq (Wp_seq (Wp_region_lit (W_v (pt bo0 0) (x_move rfl) rfl (W_v (.bool false) (x_eq_of (r:=false) rfl rfl (run_eq_ptrsn Tryd.underlying27)) rfl (Wl_nil (tn (Wp_cond_false rfl (Wp_skip (tn (Wp_seq ?_)))))))))))))))
 refine Wp_region_lit (W_v (pt bo0 0) (x_move rfl) rfl (W_v (pt bo0 0) (x_nilptr rfl) rfl (W_v (pt bo0 11) (x_fieldAddr (o:=0) (off:=11) Tryd.underlying94 rfl ty91 rfl rfl) rfl (W_v (.map (mb A0_11)) (x_load (S.blk 0 rfl) ty91 rfl rfl) rfl ?_))))
 obtain ⟨t1,ht2,H⟩:=bindS H
 replace S:St w M F [_,_,_,_,_]:=S.pick [4,0,1,2,3] (by decide)
 refine W_callF2 fn47 (maps_Keys_map_string_model_row_string_model_row_K.con k M A0_11 vs0_11 a0.rows t1 hm0_11 ht2) (Γ1:=[_]) (Γ2:=[_,_,_,_]) S rfl rfl (by rintro _ _ _ ⟨_,rfl,rfl⟩;exact (flat_cons flat_blk (flat_cons flat_map flat_nil))) ?_
 rintro _ w5 _ Γ' E' S ⟨b3,rfl,rfl⟩
 replace E:=E.trans E'
 replace S:St w5 M F [_,_,_,_,_,_]:=S
 obtain ⟨t8,ht9,H⟩:=bindS H
 refine W_callF2 fn46 (slices_SortedFunc_string_Keys_map_string_model_row_string_model_row_1_K_Compare.con k M A0_11 vs0_11 a0.rows b3 t8 hm0_11 ht9) (Γ1:=[_,_]) (Γ2:=[_,_,_,_]) S rfl rfl (by rintro _ _ _ ⟨_,_,rfl,rfl⟩;exact (flat_cons (flat_row (fun _ _ _ _ h=>h)) (flat_cons flat_blk (flat_cons flat_map flat_nil)))) ?_
 rintro _ w13 _ Γ' E' S ⟨A10,c11,rfl,rfl⟩
 replace E:=E.trans E'
 replace S:St w13 M F [_,_,_,_,_,_,_]:=S
 refine W_v (.slice A10 t8.length c11) (x_assign rfl) rfl (Wl_nil (tn ?_))
 refine Wp_ret ?_
 obtain rfl:=Option.some.inj H
 exact ⟨_,_,_,fun w1 e1=>run_resR (vs:=[.slice A10 t8.length c11]) (FA.cons (rfl) (FA.nil)),HM,E,S.pick [0,3,4,5,6,2] (by decide),⟨A10,c11,rfl,rfl⟩⟩
def model_Model_scan_POOOO_l0 (a0:model_Model) (a1:Int) (a3:api_Call) (t7:(List Str)):Nat→List api_Pair→Int→Option ((List api_Pair))
 | 0,_,_=>none
 | k+1,x187,x191=>(if (decide (x191<(t7.length:Int)))=true then (if 0≤x191∧x191<(t7.length:Int) then (if ((x187.length:Int)==a3.Limit)=true then some (x187) else (Option.bind (model_Model_see_POOOO k a0 a1 ((mget a0.rows (rd t7 x191)).getD (⟨[],⟨0,0,false,[]⟩⟩:model_row))) (fun t297=>(Option.bind (α:=Bool) (if t297.2=true then (Option.bind (text_Within k (rd t7 x191) a3.Key a3.End) (fun t311=>some (t311))) else some (false)) (fun x309=>(Option.bind (α:=List api_Pair) (if x309=true then (if x187.length+([(⟨(rd t7 x191),t297.1⟩:api_Pair)]:List api_Pair).length≤4398046511104 then some ((x187++([(⟨(rd t7 x191),t297.1⟩:api_Pair)]:List api_Pair))) else none) else some (x187)) (fun x339=>model_Model_scan_POOOO_l0 a0 a1 a3 t7 k x339 (IntKind.i64.wrap (x191+(1:Int)))))))))) else none) else some (x187))
set_option maxHeartbeats 2000000 in
theorem model_Model_scan_POOOO_l0.mono {a0:model_Model} {a1:Int} {a3:api_Call} {t7:(List Str)}:∀ {kl:Nat} {x0 x1},OLe (model_Model_scan_POOOO_l0 a0 a1 a3 t7 kl x0 x1) (model_Model_scan_POOOO_l0 a0 a1 a3 t7 (kl+1) x0 x1):=by
 intro kl
 induction kl with
 | zero=>intros;exact OLe.none
 | succ kl ih =>
  intros
  rw [model_Model_scan_POOOO_l0.eq_2,model_Model_scan_POOOO_l0.eq_2]
  repeat' (first | with_reducible exact OLe.none | with_reducible exact OLe.some | with_reducible refine OLe.ite ?_ ?_ | with_reducible refine OLe.bind ?_ (fun _=>?_) | with_reducible exact model_Model_see_POOOO.mono | with_reducible exact text_Within.mono | exact ih | refine OLe.bind ?_ (fun _=>?_) | refine OLe.ite ?_ ?_ | refine OLe.elim (fun _=>?_) (fun _=>?_) | split)
def model_Model_scan_POOOO (k:Nat) (a0:model_Model) (a1:Int) (a2:Int) (a3:api_Call):Option (api_Answer) :=
 (Option.bind (model_Model_Keys_POOOO k a0) (fun t7=>(Option.bind (model_Model_scan_POOOO_l0 a0 a1 a3 t7 k ([]:List api_Pair) (0:Int)) (fun x271=>some (⟨(0:Int),false,([]:Str),x271⟩:api_Answer)))))
set_option maxHeartbeats 2000000 in
theorem model_Model_scan_POOOO.mono {k:Nat} {a0:model_Model} {a1:Int} {a2:Int} {a3:api_Call}:OLe (model_Model_scan_POOOO k a0 a1 a2 a3) (model_Model_scan_POOOO (k+1) a0 a1 a2 a3):=by
 unfold model_Model_scan_POOOO
 repeat' (first | with_reducible exact OLe.none | with_reducible exact OLe.some | with_reducible refine OLe.ite ?_ ?_ | with_reducible refine OLe.bind ?_ (fun _=>?_) | with_reducible exact model_Model_Keys_POOOO.mono | with_reducible exact model_Model_scan_POOOO_l0.mono | refine OLe.bind ?_ (fun _=>?_) | refine OLe.ite ?_ ?_ | refine OLe.elim (fun _=>?_) (fun _=>?_) | split)
set_option maxHeartbeats 4000000 in
set_option maxRecDepth 100000 in
theorem model_Model_scan_POOOO.con (k:Nat) (M:Hp) (A0_8:Option Addr) (c0_8:Nat) (A0_9:Option Addr) (c0_9:Nat) (A0_10:Option Addr) (c0_10:Nat) (A0_11:Option Addr) (c0_11:Nat) (vs0_11:List (Str×Value)) (a0:model_Model) (a1:Int) (a2:Int) (a3:api_Call) (bo0:Nat) (r:api_Answer) (hm0_11:MRel r_model_row M a0.rows vs0_11) (h:model_Model_scan_POOOO k a0 a1 a2 a3=some r):Con Tryd.prog 128 #[pt bo0 0,.int .i64 a1,.int .i64 a2,.agg #[.int .u8 a3.Kind,.int .i64 a3.Tx,.string (bs a3.Key),.string (bs a3.End),.string (bs a3.Value),.int .i64 a3.Limit,.int .u8 a3.Engine]] M [B94 bo0 a0 A0_8 A0_9 A0_10 c0_10 A0_11,MapC enc_model_name (Value.int .i64) A0_8 a0.names,MapC (Value.int .i64) (Value.int .i64) A0_9 a0.many,Row r_model_tx 99 (.slice A0_10 a0.txs.length c0_10) a0.txs,MapC encS (fun v:Value=>v) A0_11 vs0_11] (fun v M' Γ'=>∃ (Aq1:Option Addr) (cq2:Nat),v=.agg #[.int .i64 r.Err,.bool r.Found,.string (bs r.Value),.slice Aq1 r.Pairs.length cq2]∧Γ'=[Row r_api_Pair 87 (.slice Aq1 r.Pairs.length cq2) r.Pairs,B94 bo0 a0 A0_8 A0_9 A0_10 c0_10 A0_11,MapC enc_model_name (Value.int .i64) A0_8 a0.names,MapC (Value.int .i64) (Value.int .i64) A0_9 a0.many,Row r_model_tx 99 (.slice A0_10 a0.txs.length c0_10) a0.txs,MapC encS (fun v:Value=>v) A0_11 vs0_11]):=by
 refine con_of_wp Tryd.func128 rfl Tryd.ntmps128 Tryd.results128 rfl ?_
 intro w F rn S hrn
 have E:=Ext.refl w
 have HM:=Hp.le_refl M
 have H:=h
 unfold model_Model_scan_POOOO at H
 refine Wp_seq (Wp_region_lit ?_)
 refine W_box S #[.int .u8 a3.Kind,.int .i64 a3.Tx,.string (bs a3.Key),.string (bs a3.End),.string (bs a3.Value),.int .i64 a3.Limit,.int .u8 a3.Engine] rfl rfl rfl ?_
 intro b1 w2 E' S
 replace E:=E.trans E'
 refine W_alloc S #[.int .i64 0,.bool false,.string (bs ([]:Str)),.slice none 0 0] ty43 rfl rfl ?_
 intro b4 w5 E' S
 replace E:=E.trans E'
 refine Wl_nil (tn (Wp_seq (Wp_region_lit (W_v (.slice none 0 0) (x_assign rfl) rfl (Wl_nil (tn (Wp_seq (Wp_seq (Wp_region_lit (W_v (pt bo0 0) (x_move rfl) rfl ?_))))))))))
 obtain ⟨t7,ht8,H⟩:=bindS H
 replace S:St w5 M F [_,_,_,_,_,_,_]:=S.pick [2,3,4,5,6,0,1] (by decide)
 refine W_callF2 fn27 (model_Model_Keys_POOOO.con k M A0_8 c0_8 A0_9 c0_9 A0_10 c0_10 A0_11 c0_11 vs0_11 a0 bo0 t7 hm0_11 ht8) (Γ1:=[_,_,_,_,_]) (Γ2:=[_,_]) S rfl rfl (by rintro _ _ _ ⟨_,_,rfl,rfl⟩;exact (flat_cons (flat_row (fun _ _ _ _ h=>h)) (flat_cons flat_blk (flat_cons flat_map (flat_cons flat_map (flat_cons (flat_row (fun _ _ _ _ h=>h)) (flat_cons flat_map flat_nil))))))) ?_
 rintro _ w12 _ Γ' E' S ⟨A9,c10,rfl,rfl⟩
 replace E:=E.trans E'
 replace S:St w12 M F [_,_,_,_,_,_,_,_]:=S
 refine W_v (.int .i64 (t7.length:Int)) (x_len_slice (n:=t7.length) Tryd.underlying67 rfl) rfl (W_v (.int .i64 0) (x_move rfl) rfl (Wl_nil (tn ?_)))
 obtain ⟨o275,o275h,o275H⟩:=bindS H
 refine Wp_blockJ (fun ρ w'=>∃ (x271:List api_Pair) (A272:Option Addr) (c273:Nat),(x271)=o275∧Agree ρ [(8,pt b4 0),(9,.slice A272 x271.length c273)]∧Ext w w'∧St w' M F [Row r_api_Pair 87 (.slice A272 x271.length c273) x271,B94 bo0 a0 A0_8 A0_9 A0_10 c0_10 A0_11,MapC enc_model_name (Value.int .i64) A0_8 a0.names,MapC (Value.int .i64) (Value.int .i64) A0_9 a0.many,Row r_model_tx 99 (.slice A0_10 a0.txs.length c0_10) a0.txs,MapC encS (fun v:Value=>v) A0_11 vs0_11,Blk b4 (.cells #[.int .i64 0,.bool false,.string (bs ([]:Str)),.slice none 0 0] 43 (0,0))]) ?_ ?_
 ·skip
  refine Wp_loop (fun n ρ w'=>∃ (x187:List api_Pair) (x191:Int) (A188:Option Addr) (c189:Nat),model_Model_scan_POOOO_l0 a0 a1 a3 t7 n x187 x191=some o275∧Agree ρ [(0,pt bo0 0),(1,.int .i64 a1),(7,pt b1 0),(8,pt b4 0),(9,.slice A188 x187.length c189),(15,.slice A9 t7.length c10),(16,.int .i64 (t7.length:Int)),(17,.int .i64 x191)]∧Ext w w'∧St w' M F [Row r_api_Pair 87 (.slice A188 x187.length c189) x187,Row rStr 9 (.slice A9 t7.length c10) t7,B94 bo0 a0 A0_8 A0_9 A0_10 c0_10 A0_11,MapC enc_model_name (Value.int .i64) A0_8 a0.names,MapC (Value.int .i64) (Value.int .i64) A0_9 a0.many,Row r_model_tx 99 (.slice A0_10 a0.txs.length c0_10) a0.txs,MapC encS (fun v:Value=>v) A0_11 vs0_11,Blk b4 (.cells #[.int .i64 0,.bool false,.string (bs ([]:Str)),.slice none 0 0] 43 (0,0)),B37 b1 a3]) k ?_ ?_
  ·skip
   replace S:=S.row_nil r_api_Pair 87
   exact ⟨([]:List api_Pair),(0:Int),none,0,o275h,⟨rfl,rfl,rfl,rfl,rfl,rfl,rfl,rfl,trivial⟩,E,S.pick [0,1,2,3,4,5,6,7,8] (by decide)⟩
  ·intro n
   rintro ρ w277 ⟨x187,x191,A188,c189,H,hρ,E,S⟩
   rw [agree_eta hρ]
   cases n with
   | zero=>cases H
   | succ k =>
    rw [model_Model_scan_POOOO_l0.eq_2] at H
    refine Wp_seq (Wp_region_lit (W_v (.bool (decide (x191<(t7.length:Int)))) (x_ibin rfl rfl rfl rfl) rfl (Wl_nil (tn (Wp_seq ?_)))))
    rcases iteS H with ⟨hb278,H⟩ | ⟨hb278,H⟩
    ·refine Wp_cond_true (congrArg Value.bool hb278) ?_
     refine Wp_skip (tn (Wp_seq ?_))
     refine Wp_block ?_
     refine Wp_seq (Wp_region_lit ?_)
     obtain ⟨⟨p279,p280⟩,H⟩:=chkS H
     obtain ⟨b281,o282,cs283,_,_,ee288,hb284,vs285,hR286,hc287⟩:=SlW.at' (S.row_read 1 rfl) p279 p280
     obtain rfl:vs285=_:=hR286
     refine W_v (.pointer (some ⟨b281,o282+x191.toNat*1,none⟩)) (x_indexAddr Tryd.underlying67 ty9 (slA ee288) rfl p279 p280) rfl (W_v (.string (bs (rd t7 x191))) (x_load (Hp.of_get hb284) ty9 rfl (hc287 0 _ rfl)) rfl (W_v (.string (bs (rd t7 x191))) (x_assign rfl) rfl (Wl_nil (tn (Wp_seq (Wp_seq (Wp_region_lit (W_v (.slice A188 x187.length c189) (x_move rfl) rfl (W_v (.int .i64 (x187.length:Int)) (x_len_slice (n:=x187.length) Tryd.underlying41 rfl) rfl (W_v (pt b1 5) (x_fieldAddr (o:=0) (off:=5) Tryd.underlying37 rfl ty3 rfl rfl) rfl (W_v (.int .i64 a3.Limit) (x_load (S.blk 8 rfl) ty3 rfl rfl) rfl (W_v (.bool ((x187.length:Int)==a3.Limit)) (x_ibin rfl rfl rfl rfl) rfl (Wl_nil (tn ?_))))))))))))))
     rcases iteS H with ⟨hb289,H⟩ | ⟨hb289,H⟩
     ·refine Wp_cond_true (congrArg Value.bool hb289) ?_
      refine Wp_exit ?_
      refine tx (bx rfl (tx (tx (bsm (?_)))))
      refine tn ?_
      exact ⟨x187,A188,c189,Option.some.inj H,⟨rfl,rfl,trivial⟩,E,S.pick [0,2,3,4,5,6,7] (by decide)⟩
     refine Wp_cond_false (congrArg Value.bool hb289) (Wp_skip (tn (Wp_seq (Wp_region_lit (W_v (pt bo0 0) (x_move rfl) rfl (W_v (.int .i64 a1) (x_move rfl) rfl (W_v (pt bo0 0) (x_move rfl) rfl (W_v (pt bo0 0) (x_nilptr rfl) rfl (W_v (pt bo0 11) (x_fieldAddr (o:=0) (off:=11) Tryd.underlying94 rfl ty91 rfl rfl) rfl (W_v (.map (mb A0_11)) (x_load (S.blk 2 rfl) ty91 rfl rfl) rfl (W_v (.string (bs (rd t7 x191))) (x_move rfl) rfl ?_)))))))))))
     obtain ⟨cs290,hR291,he292⟩:=hm0_11.get (rd t7 x191) (z:=(⟨[],⟨0,0,false,[]⟩⟩:model_row)) (zc:=[.slice none 0 0,.int .i64 0,.int .i64 0,.bool false,.string (bs ([]:Str))]) ⟨_,SlW.nil _ _,rfl⟩
     obtain ⟨v296,hs295,rfl⟩:=hR291
     obtain ⟨A293,c294,rfl,_⟩:=hs295.form
     refine W_v (.agg #[.slice A293 (((mget a0.rows (rd t7 x191)).getD (⟨[],⟨0,0,false,[]⟩⟩:model_row)).l).length c294,.int .i64 (((mget a0.rows (rd t7 x191)).getD (⟨[],⟨0,0,false,[]⟩⟩:model_row)).intent.Writer),.int .i64 (((mget a0.rows (rd t7 x191)).getD (⟨[],⟨0,0,false,[]⟩⟩:model_row)).intent.TS),.bool (((mget a0.rows (rd t7 x191)).getD (⟨[],⟨0,0,false,[]⟩⟩:model_row)).intent.Tomb),.string (bs (((mget a0.rows (rd t7 x191)).getD (⟨[],⟨0,0,false,[]⟩⟩:model_row)).intent.Value))]) ((Eq.trans (x_lookup S 6 rfl Tryd.underlying91 key9 (Value.agg #[.slice none 0 0,.int .i64 0,.int .i64 0,.bool false,.string (bs ([]:Str))]) (fun _=>ty101.zero) (rd t7 x191) rfl rfl) (by rw [show (mget vs0_11 (rd t7 x191)).getD (Value.agg #[.slice none 0 0,.int .i64 0,.int .i64 0,.bool false,.string (bs ([]:Str))])=_ from he292]))) rfl ?_
     obtain ⟨t297,ht298,H⟩:=bindS H
     replace S:St w277 M F [_,_,_,_,_,_,_,_,_]:=S.pick [2,3,4,5,6,0,1,7,8] (by decide)
     refine W_callF2 fn133 (model_Model_see_POOOO.con k M A0_8 c0_8 A0_9 c0_9 A0_10 c0_10 A0_11 c0_11 vs0_11 a0 a1 A293 c294 ((mget a0.rows (rd t7 x191)).getD (⟨[],⟨0,0,false,[]⟩⟩:model_row)) bo0 t297 hm0_11 hs295 ht298) (Γ1:=[_,_,_,_,_]) (Γ2:=[_,_,_,_]) S rfl rfl (by rintro _ _ _ ⟨rfl,rfl⟩;exact (flat_cons flat_blk (flat_cons flat_map (flat_cons flat_map (flat_cons (flat_row (fun _ _ _ _ h=>h)) (flat_cons flat_map flat_nil)))))) ?_
     rintro _ w299 _ Γ' E' S ⟨rfl,rfl⟩
     replace E:=E.trans E'
     replace S:St w299 M F [_,_,_,_,_,_,_,_,_]:=S
     refine W_v (.tuple #[.string (bs t297.1),.bool t297.2]) (x_move rfl) rfl (W_v (.string (bs t297.1)) (x_extract rfl rfl) rfl (W_v (.bool t297.2) (x_extract rfl rfl) rfl (W_v (.string (bs t297.1)) (x_assign rfl) rfl (W_v (.bool t297.2) (x_assign rfl) rfl (Wl_nil (tn ?_))))))
     as_aux_lemma =>
     refine Wp_seq (Wp_region_lit (W_v (.bool t297.2) (x_move rfl) rfl (W_v (.bool t297.2) (x_move rfl) rfl ?_)))
     obtain ⟨o310,o310h,o310H⟩:=bindS H
     refine Wl_cutN 7 (fun ρ w'=>∃ (x309:Bool),(x309)=o310∧Agree ρ [(0,pt bo0 0),(1,.int .i64 a1),(7,pt b1 0),(8,pt b4 0),(9,.slice A188 x187.length c189),(11,.string (bs (rd t7 x191))),(12,.string (bs t297.1)),(15,.slice A9 t7.length c10),(16,.int .i64 (t7.length:Int)),(17,.int .i64 x191),(46,.bool x309)]∧Ext w w'∧St w' M F [B94 bo0 a0 A0_8 A0_9 A0_10 c0_10 A0_11,MapC enc_model_name (Value.int .i64) A0_8 a0.names,MapC (Value.int .i64) (Value.int .i64) A0_9 a0.many,Row r_model_tx 99 (.slice A0_10 a0.txs.length c0_10) a0.txs,MapC encS (fun v:Value=>v) A0_11 vs0_11,Row r_api_Pair 87 (.slice A188 x187.length c189) x187,Row rStr 9 (.slice A9 t7.length c10) t7,Blk b4 (.cells #[.int .i64 0,.bool false,.string (bs ([]:Str)),.slice none 0 0] 43 (0,0)),B37 b1 a3]) ?_ ?_
     ·have H:=o310h
      rcases iteS H with ⟨hb308,H⟩ | ⟨hb308,H⟩
      ·skip
       refine W_yes (congrArg some hb308) (W_v (.string (bs (rd t7 x191))) (x_move rfl) rfl (W_yes (congrArg some hb308) (W_v (pt b1 2) (x_fieldAddr (o:=0) (off:=2) Tryd.underlying37 rfl ty9 rfl rfl) rfl (W_yes (congrArg some hb308) (W_v (.string (bs a3.Key)) (x_load (S.blk 8 rfl) ty9 rfl rfl) rfl (W_yes (congrArg some hb308) (W_v (pt b1 3) (x_fieldAddr (o:=0) (off:=3) Tryd.underlying37 rfl ty9 rfl rfl) rfl (W_yes (congrArg some hb308) (W_v (.string (bs a3.End)) (x_load (S.blk 8 rfl) ty9 rfl rfl) rfl (W_yes (congrArg some hb308) ?_))))))))))
       obtain ⟨t311,ht312,H⟩:=bindS H
       refine W_callF fn135 (text_Within.con k M (rd t7 x191) a3.Key a3.End t311  ht312) S rfl rfl (by rintro _ _ _ ⟨_,rfl⟩;exact flat_nil) ?_
       rintro _ w313 _ Γ' E' S ⟨rfl,rfl⟩
       replace E:=E.trans E'
       refine W_v (.bool t311) (x_pick (k:=true) (congrArg Value.bool hb308) rfl) rfl (Wl_nil ?_)
       exact ⟨t311,Option.some.inj H,⟨rfl,rfl,rfl,rfl,rfl,rfl,rfl,rfl,rfl,rfl,rfl,trivial⟩,E,S.pick [0,1,2,3,4,5,6,7,8] (by decide)⟩
      ·skip
       refine W_no (skT hb308) rfl (W_no (skT hb308) rfl (W_no (skT hb308) rfl (W_no (skT hb308) rfl (W_no (skT hb308) rfl (W_no (skT hb308) rfl (W_v (.bool false) (x_pick (k:=false) (congrArg Value.bool hb308) rfl) rfl (Wl_nil ?_)))))))
       exact ⟨false,Option.some.inj H,⟨rfl,rfl,rfl,rfl,rfl,rfl,rfl,rfl,rfl,rfl,rfl,trivial⟩,E,S.pick [0,1,2,3,4,5,6,7,8] (by decide)⟩
     as_aux_lemma =>
     rintro ρ w314 ⟨x309,rfl,hρ,E,S⟩
     rw [agree_eta hρ]
     have H:=o310H
     refine Wl_nil (tn ?_)
     obtain ⟨o343,o343h,o343H⟩:=bindS H
     refine Wp_cut (fun ρ w'=>∃ (x339:List api_Pair) (A340:Option Addr) (c341:Nat),(x339)=o343∧Agree ρ [(0,pt bo0 0),(1,.int .i64 a1),(7,pt b1 0),(8,pt b4 0),(9,.slice A340 x339.length c341),(15,.slice A9 t7.length c10),(16,.int .i64 (t7.length:Int)),(17,.int .i64 x191)]∧Ext w w'∧St w' M F [Row r_api_Pair 87 (.slice A340 x339.length c341) x339,B94 bo0 a0 A0_8 A0_9 A0_10 c0_10 A0_11,MapC enc_model_name (Value.int .i64) A0_8 a0.names,MapC (Value.int .i64) (Value.int .i64) A0_9 a0.many,Row r_model_tx 99 (.slice A0_10 a0.txs.length c0_10) a0.txs,MapC encS (fun v:Value=>v) A0_11 vs0_11,Row rStr 9 (.slice A9 t7.length c10) t7,Blk b4 (.cells #[.int .i64 0,.bool false,.string (bs ([]:Str)),.slice none 0 0] 43 (0,0)),B37 b1 a3]) ?_ ?_
     ·clear o343H
      have H:=o343h
      rcases iteS H with ⟨hb344,H⟩ | ⟨hb344,H⟩
      ·refine Wp_cond_true (congrArg Value.bool hb344) ?_
       refine Wp_region_lit (W_v (.slice A188 x187.length c189) (x_move rfl) rfl (W_v (.string (bs (rd t7 x191))) (x_move rfl) rfl (W_v (.string (bs t297.1)) (x_move rfl) rfl (W_v (.agg #[.string (bs (rd t7 x191)),.string (bs t297.1)]) (x_build2 (pl:=[(0,1),(1,1)]) #[.string (bs (rd t7 x191)),.string (bs t297.1)] Tryd.underlying87 ty87 (by as_aux_lemma=>kernel_rfl) rfl (by as_aux_lemma=>kernel_rfl)) rfl ?_))))
       refine W_bslice S #[.string (bs (rd t7 x191)),.string (bs t297.1)] Tryd.underlying41 ty87 rfl rfl #[.string (bs ([]:Str)),.string (bs ([]:Str))] (by as_aux_lemma=>kernel_rfl) (by as_aux_lemma=>kernel_rfl) rfl ?_
       intro b345 w346 E' S
       replace E:=E.trans E'
       replace S:=S.blk_row (r:=r_api_Pair) (l:=([(⟨(rd t7 x191),t297.1⟩:api_Pair)]:List api_Pair)) 0 rfl 1 (Nat.le_refl 1) rfl (Cells.cons (vs:=[.string (bs (rd t7 x191)),.string (bs t297.1)]) (rfl) Cells.nil)
       obtain ⟨p348,H⟩:=chkS H
       obtain ⟨src349,hs350,hC351⟩:=src_of_read (P:=Tryd.prog) (ρ:=r_api_Pair) (l:=([(⟨(rd t7 x191),t297.1⟩:api_Pair)]:List api_Pair)) (S.row_read 0 rfl) (by decide)
       refine W_append S 6 rfl rfl rfl Tryd.underlying41 (.inl Tryd.underlying41) ty87 rfl (by decide) (by decide) hs350 hC351 rfl (by omega) rfl ?_
       intro v352 w353 E' S
       replace E:=E.trans E'
       obtain ⟨A354,c355,rfl,_⟩:=(S.row_read 6 rfl).form
       refine W_v (.slice A354 (x187++([(⟨(rd t7 x191),t297.1⟩:api_Pair)]:List api_Pair)).length c355) (x_assign rfl) rfl (Wl_nil (tn ?_))
       exact ⟨(x187++([(⟨(rd t7 x191),t297.1⟩:api_Pair)]:List api_Pair)),A354,c355,Option.some.inj H,⟨rfl,rfl,rfl,rfl,rfl,rfl,rfl,rfl,trivial⟩,E,S.pick [6,1,2,3,4,5,7,8,9] (by decide)⟩
      refine Wp_cond_false (congrArg Value.bool hb344) (Wp_skip (tn ?_))
      exact ⟨x187,A188,c189,Option.some.inj H,⟨rfl,rfl,rfl,rfl,rfl,rfl,rfl,rfl,trivial⟩,E,S.pick [5,0,1,2,3,4,6,7,8] (by decide)⟩
     rintro ρ w356 ⟨x339,A340,c341,rfl,hρ,E,S⟩
     rw [agree_eta hρ]
     have H:=o343H
     refine bn (tn (Wp_region_lit (W_v (.int .i64 (IntKind.i64.wrap (x191+(1:Int)))) (x_ibin rfl rfl rfl rfl) rfl (W_v (.int .i64 (IntKind.i64.wrap (x191+(1:Int)))) (x_move rfl) rfl (Wl_nil (tn ?_))))))
     exact ⟨k,Nat.lt_succ_self k,⟨x339,(IntKind.i64.wrap (x191+(1:Int))),A340,c341,H,⟨rfl,rfl,rfl,rfl,rfl,rfl,rfl,rfl,trivial⟩,E,S.pick [0,6,1,2,3,4,5,7,8] (by decide)⟩⟩
    refine Wp_cond_false (congrArg Value.bool hb278) ?_
    refine Wp_exit ?_
    refine tx (tx (bsm (?_)))
    refine tn ?_
    exact ⟨x187,A188,c189,Option.some.inj H,⟨rfl,rfl,trivial⟩,E,S.pick [0,2,3,4,5,6,7] (by decide)⟩
 rintro ρ w357 ⟨x271,A272,c273,rfl,hρ,E,S⟩
 rw [agree_eta hρ]
 have H:=o275H
 refine tn ?_
 as_aux_lemma =>
 refine Wp_seq (Wp_region_lit (W_v (.slice A272 x271.length c273) (x_move rfl) rfl (W_v (.agg #[.int .i64 0,.bool false,.string (bs ([]:Str)),.slice A272 x271.length c273]) (x_build2 (pl:=[(0,1),(1,1),(2,1),(3,1)]) #[.int .i64 0,.bool false,.string (bs ([]:Str)),.slice A272 x271.length c273] Tryd.underlying43 ty43 (by as_aux_lemma=>kernel_rfl) rfl (by as_aux_lemma=>kernel_rfl)) rfl ?_)))
 refine W_store S 6 rfl ty43 rfl rfl [.int .i64 0,.bool false,.string (bs ([]:Str)),.slice A272 x271.length c273] rfl rfl rfl #[.int .i64 0,.bool false,.string (bs ([]:Str)),.slice A272 x271.length c273] rfl rfl ?_
 intro w358 E' S
 replace E:=E.trans E'
 refine Wl_nil (tn ?_)
 refine Wp_ret ?_
 obtain rfl:=Option.some.inj H
 exact ⟨_,_,_,fun w1 e1=>run_resR (vs:=[.agg #[.int .i64 0,.bool false,.string (bs ([]:Str)),.slice A272 x271.length c273]]) (FA.cons (⟨_,rfl,run_loadVar_agg ty43 ((S.of_eq e1).blk 6 rfl) (sub_of_extract rfl) rfl (by decide)⟩) (FA.nil)),HM,E,S.pick [0,1,2,3,4,5] (by decide),⟨A272,c273,rfl,rfl⟩⟩
def model_Model_end_1 (k:Nat) (a0:model_row) (ac_0:Int) (ac_1:Int):Option (model_row) :=
 (if (a0.intent.Writer != ac_0)=true then some a0 else (Option.bind (α:=List api_Version) (if (decide (ac_1>(0:Int)))=true then (if ([(⟨a0.intent.Writer,ac_1,a0.intent.Tomb,a0.intent.Value⟩:api_Version)]:List api_Version).length+a0.l.length≤3518437208883 then some ((([(⟨a0.intent.Writer,ac_1,a0.intent.Tomb,a0.intent.Value⟩:api_Version)]:List api_Version)++a0.l)) else none) else some (a0.l)) (fun x42=>some (⟨x42,⟨(0:Int),(0:Int),false,([]:Str)⟩⟩:model_row))))
set_option maxHeartbeats 2000000 in
theorem model_Model_end_1.mono {k:Nat} {a0:model_row} {ac_0:Int} {ac_1:Int}:OLe (model_Model_end_1 k a0 ac_0 ac_1) (model_Model_end_1 (k+1) a0 ac_0 ac_1):=by
 unfold model_Model_end_1
 repeat' (first | with_reducible exact OLe.none | with_reducible exact OLe.some | with_reducible refine OLe.ite ?_ ?_ | with_reducible refine OLe.bind ?_ (fun _=>?_) | refine OLe.bind ?_ (fun _=>?_) | refine OLe.ite ?_ ?_ | refine OLe.elim (fun _=>?_) (fun _=>?_) | split)
set_option maxHeartbeats 4000000 in
set_option maxRecDepth 100000 in
theorem model_Model_end_1.con (k:Nat) (M:Hp) (A0_0:Option Addr) (c0_0:Nat) (a0:model_row) (ac_0:Int) (ac_1:Int) (bc_0:Nat) (bc_1:Nat) (r:model_row) (hr0_0:SlR r_api_Version M (.slice A0_0 a0.l.length c0_0) a0.l) (h:model_Model_end_1 k a0 ac_0 ac_1=some r):Con Tryd.prog 142 #[.agg #[.slice A0_0 a0.l.length c0_0,.int .i64 a0.intent.Writer,.int .i64 a0.intent.TS,.bool a0.intent.Tomb,.string (bs a0.intent.Value)],pt bc_0 0,pt bc_1 0] M [Blk bc_0 (.cells #[.int .i64 ac_0] 3 (0,0)),Blk bc_1 (.cells #[.int .i64 ac_1] 3 (0,0))] (fun v M' Γ'=>∃ (Aq1:Option Addr) (cq2:Nat),v=.agg #[.slice Aq1 r.l.length cq2,.int .i64 r.intent.Writer,.int .i64 r.intent.TS,.bool r.intent.Tomb,.string (bs r.intent.Value)]∧SlR r_api_Version M' (.slice Aq1 r.l.length cq2) r.l∧Γ'=[Blk bc_0 (.cells #[.int .i64 ac_0] 3 (0,0)),Blk bc_1 (.cells #[.int .i64 ac_1] 3 (0,0))]):=by
 refine con_of_wp Tryd.func142 rfl Tryd.ntmps142 Tryd.results142 rfl ?_
 intro w F rn S hrn
 have E:=Ext.refl w
 have HM:=Hp.le_refl M
 have H:=h
 unfold model_Model_end_1 at H
 refine Wp_seq (Wp_region_lit ?_)
 refine W_box S #[.slice A0_0 a0.l.length c0_0,.int .i64 a0.intent.Writer,.int .i64 a0.intent.TS,.bool a0.intent.Tomb,.string (bs a0.intent.Value)] rfl rfl rfl ?_
 intro b1 w2 E' S
 replace E:=E.trans E'
 refine W_alloc S #[.slice none 0 0,.int .i64 0,.int .i64 0,.bool false,.string (bs ([]:Str))] ty101 rfl rfl ?_
 intro b4 w5 E' S
 replace E:=E.trans E'
 refine Wl_nil (tn (Wp_seq (Wp_seq (Wp_region_lit (W_v (pt b1 1) (x_fieldAddr (o:=0) (off:=1) Tryd.underlying101 rfl ty61 rfl rfl) rfl (W_v (pt b1 1) (x_fieldAddr (o:=1) (off:=0) Tryd.underlying61 rfl ty3 rfl rfl) rfl (W_v (.int .i64 a0.intent.Writer) (x_load (S.blk 1 rfl) ty3 rfl rfl) rfl (W_v (.int .i64 ac_0) (x_load (S.blk 2 rfl) ty3 rfl rfl) rfl (W_v (.bool (a0.intent.Writer != ac_0)) (x_ibin rfl rfl rfl rfl) rfl (Wl_nil (tn ?_)))))))))))
 rcases iteS H with ⟨hb7,H⟩ | ⟨hb7,H⟩
 ·refine Wp_cond_true (congrArg Value.bool hb7) ?_
  refine Wp_seq (Wp_region_lit (W_v (.agg #[.slice A0_0 a0.l.length c0_0,.int .i64 a0.intent.Writer,.int .i64 a0.intent.TS,.bool a0.intent.Tomb,.string (bs a0.intent.Value)]) (x_loadA (S.blk 1 rfl) ty101 rfl (sub_of_extract rfl) rfl rfl) rfl ?_))
  refine W_store S 0 rfl ty101 rfl rfl [.slice A0_0 a0.l.length c0_0,.int .i64 a0.intent.Writer,.int .i64 a0.intent.TS,.bool a0.intent.Tomb,.string (bs a0.intent.Value)] rfl rfl rfl #[.slice A0_0 a0.l.length c0_0,.int .i64 a0.intent.Writer,.int .i64 a0.intent.TS,.bool a0.intent.Tomb,.string (bs a0.intent.Value)] rfl rfl ?_
  intro w8 E' S
  replace E:=E.trans E'
  refine Wl_nil (tn ?_)
  refine Wp_ret ?_
  refine tr (?_)
  obtain rfl:=Option.some.inj H
  exact ⟨_,_,_,fun w1 e1=>run_resR (vs:=[.agg #[.slice A0_0 a0.l.length c0_0,.int .i64 a0.intent.Writer,.int .i64 a0.intent.TS,.bool a0.intent.Tomb,.string (bs a0.intent.Value)]]) (FA.cons (⟨_,rfl,run_loadVar_agg ty101 ((S.of_eq e1).blk 0 rfl) (sub_of_extract rfl) rfl (by decide)⟩) (FA.nil)),HM,E,S.pick [2,3] (by decide),⟨A0_0,c0_0,rfl,hr0_0,rfl⟩⟩
 refine Wp_cond_false (congrArg Value.bool hb7) (Wp_skip (tn (Wp_seq (Wp_seq (Wp_region_lit (W_v (pt b1 1) (x_fieldAddr (o:=0) (off:=1) Tryd.underlying101 rfl ty61 rfl rfl) rfl (W_v (.agg #[.int .i64 a0.intent.Writer,.int .i64 a0.intent.TS,.bool a0.intent.Tomb,.string (bs a0.intent.Value)]) (x_loadA (S.blk 1 rfl) ty61 rfl (sub_of_extract rfl) rfl rfl) rfl ?_)))))))
 refine W_alloc S #[.int .i64 0,.int .i64 0,.bool false,.string (bs ([]:Str))] ty61 rfl rfl ?_
 intro b9 w10 E' S
 replace E:=E.trans E'
 refine W_store S 0 rfl ty61 rfl rfl [.int .i64 a0.intent.Writer,.int .i64 a0.intent.TS,.bool a0.intent.Tomb,.string (bs a0.intent.Value)] rfl rfl rfl #[.int .i64 a0.intent.Writer,.int .i64 a0.intent.TS,.bool a0.intent.Tomb,.string (bs a0.intent.Value)] rfl rfl ?_
 intro w12 E' S
 replace E:=E.trans E'
 refine Wl_nil (tn ?_)
 as_aux_lemma =>
 refine Wp_seq (Wp_region_lit (W_v (.int .i64 ac_1) (x_load (S.blk 4 rfl) ty3 rfl rfl) rfl (W_v (.bool (decide (ac_1>(0:Int)))) (x_ibin rfl rfl rfl rfl) rfl (Wl_nil (tn ?_)))))
 obtain ⟨o46,o46h,o46H⟩:=bindS H
 refine Wp_cut (fun ρ w'=>∃ (x42:List api_Version) (A43:Option Addr) (c44:Nat) (Mj:Hp),(x42)=o46∧Agree ρ [(3,pt b1 0),(4,pt b4 0)]∧M.le Mj∧Ext w w'∧St w' Mj F [Blk b4 (.cells #[.slice none 0 0,.int .i64 0,.int .i64 0,.bool false,.string (bs ([]:Str))] 101 (0,0)),Blk b1 (.cells #[.slice A43 x42.length c44,.int .i64 a0.intent.Writer,.int .i64 a0.intent.TS,.bool a0.intent.Tomb,.string (bs a0.intent.Value)] 101 (0,0)),Blk bc_0 (.cells #[.int .i64 ac_0] 3 (0,0)),Blk bc_1 (.cells #[.int .i64 ac_1] 3 (0,0))]∧SlR r_api_Version Mj (.slice A43 x42.length c44) x42) ?_ ?_
 ·as_aux_lemma =>
   clear o46H
   have H:=o46h
   have LE47:=Hp.le_refl M
   rcases iteS H with ⟨hb48,H⟩ | ⟨hb48,H⟩
   ·refine Wp_cond_true (congrArg Value.bool hb48) ?_
    refine Wp_seq (Wp_region_lit (W_v (.int .i64 ac_1) (x_load (S.blk 4 rfl) ty3 rfl rfl) rfl (W_v (pt b9 1) (x_fieldAddr (o:=0) (off:=1) Tryd.underlying61 rfl ty3 rfl rfl) rfl ?_)))
    refine W_store S 0 rfl ty3 rfl rfl [.int .i64 ac_1] rfl rfl rfl #[.int .i64 a0.intent.Writer,.int .i64 ac_1,.bool a0.intent.Tomb,.string (bs a0.intent.Value)] rfl rfl ?_
    intro w49 E' S
    replace E:=E.trans E'
    refine Wl_nil (tn (Wp_region_lit (W_v (.agg #[.int .i64 a0.intent.Writer,.int .i64 ac_1,.bool a0.intent.Tomb,.string (bs a0.intent.Value)]) (x_loadA (S.blk 0 rfl) ty61 rfl (sub_of_extract rfl) rfl rfl) rfl ?_)))
    refine W_bslice S #[.int .i64 a0.intent.Writer,.int .i64 ac_1,.bool a0.intent.Tomb,.string (bs a0.intent.Value)] Tryd.underlying65 ty61 rfl rfl #[.int .i64 0,.int .i64 0,.bool false,.string (bs ([]:Str))] (by as_aux_lemma=>kernel_rfl) (by as_aux_lemma=>kernel_rfl) rfl ?_
    intro b50 w51 E' S
    replace E:=E.trans E'
    replace S:=S.blk_row (r:=r_api_Version) (l:=([(⟨a0.intent.Writer,ac_1,a0.intent.Tomb,a0.intent.Value⟩:api_Version)]:List api_Version)) 0 rfl 1 (Nat.le_refl 1) rfl (Cells.cons (vs:=[.int .i64 a0.intent.Writer,.int .i64 ac_1,.bool a0.intent.Tomb,.string (bs a0.intent.Value)]) (rfl) Cells.nil)
    refine W_v (pt b1 0) (x_fieldAddr (o:=0) (off:=0) Tryd.underlying101 rfl ty65 rfl rfl) rfl (W_v (.slice A0_0 a0.l.length c0_0) (x_load (S.blk 3 rfl) ty65 rfl rfl) rfl ?_)
    obtain ⟨p53,H⟩:=chkS H
    obtain ⟨src54,hs55,hC56⟩:=src_of_read (P:=Tryd.prog) (ρ:=r_api_Version) (l:=a0.l) (SlR.world hr0_0 S) (by decide)
    refine W_append S 0 rfl rfl rfl Tryd.underlying65 (.inl Tryd.underlying65) ty61 rfl (by decide) (by decide) hs55 hC56 rfl (by omega) rfl ?_
    intro v57 w58 E' S
    replace E:=E.trans E'
    obtain ⟨A59,c60,rfl,_⟩:=(S.row_read 0 rfl).form
    refine W_v (pt b1 0) (x_fieldAddr (o:=0) (off:=0) Tryd.underlying101 rfl ty65 rfl rfl) rfl ?_
    refine W_store S 3 rfl ty65 rfl rfl [.slice A59 (([(⟨a0.intent.Writer,ac_1,a0.intent.Tomb,a0.intent.Value⟩:api_Version)]:List api_Version)++a0.l).length c60] rfl rfl rfl #[.slice A59 (([(⟨a0.intent.Writer,ac_1,a0.intent.Tomb,a0.intent.Value⟩:api_Version)]:List api_Version)++a0.l).length c60,.int .i64 a0.intent.Writer,.int .i64 a0.intent.TS,.bool a0.intent.Tomb,.string (bs a0.intent.Value)] rfl rfl ?_
    intro w61 E' S
    replace E:=E.trans E'
    refine Wl_nil (tn ?_)
    obtain ⟨M62,hM63,hf64,S⟩:=S.row_freeze 0 rfl
    replace HM:=Hp.le_trans HM hM63
    replace LE47:=Hp.le_trans LE47 hM63
    replace hr0_0:=SlR.mono hr0_0 hM63
    exact ⟨(([(⟨a0.intent.Writer,ac_1,a0.intent.Tomb,a0.intent.Value⟩:api_Version)]:List api_Version)++a0.l),A59,c60,M62,Option.some.inj H,⟨rfl,rfl,trivial⟩,LE47,E,S.pick [1,2,3,4] (by decide),hf64⟩
   refine Wp_cond_false (congrArg Value.bool hb48) (Wp_skip (tn ?_))
   exact ⟨a0.l,A0_0,c0_0,M,Option.some.inj H,⟨rfl,rfl,trivial⟩,(Hp.le_refl M),E,S.pick [1,2,3,4] (by decide),hr0_0⟩
 rintro ρ w65 ⟨x42,A43,c44,M66,rfl,hρ,hM67,E,S,hs45⟩
 rw [agree_eta hρ]
 replace HM:=Hp.le_trans HM hM67
 replace hr0_0:=SlR.mono hr0_0 hM67
 have H:=o46H
 refine tn ?_
 as_aux_lemma =>
 refine Wp_seq (Wp_region_lit (W_v (.agg #[.int .i64 0,.int .i64 0,.bool false,.string (bs ([]:Str))]) (x_build2 (pl:=[(0,1),(1,1),(2,1),(3,1)]) #[.int .i64 0,.int .i64 0,.bool false,.string (bs ([]:Str))] Tryd.underlying61 ty61 (by as_aux_lemma=>kernel_rfl) rfl (by as_aux_lemma=>kernel_rfl)) rfl (W_v (pt b1 1) (x_fieldAddr (o:=0) (off:=1) Tryd.underlying101 rfl ty61 rfl rfl) rfl ?_)))
 refine W_store S 1 rfl ty61 rfl rfl [.int .i64 0,.int .i64 0,.bool false,.string (bs ([]:Str))] rfl rfl rfl #[.slice A43 x42.length c44,.int .i64 0,.int .i64 0,.bool false,.string (bs ([]:Str))] rfl rfl ?_
 intro w68 E' S
 replace E:=E.trans E'
 refine Wl_nil (tn (Wp_seq (Wp_region_lit (W_v (.agg #[.slice A43 x42.length c44,.int .i64 0,.int .i64 0,.bool false,.string (bs ([]:Str))]) (x_loadA (S.blk 1 rfl) ty101 rfl (sub_of_extract rfl) rfl rfl) rfl ?_))))
 refine W_store S 0 rfl ty101 rfl rfl [.slice A43 x42.length c44,.int .i64 0,.int .i64 0,.bool false,.string (bs ([]:Str))] rfl rfl rfl #[.slice A43 x42.length c44,.int .i64 0,.int .i64 0,.bool false,.string (bs ([]:Str))] rfl rfl ?_
 intro w69 E' S
 replace E:=E.trans E'
 refine Wl_nil (tn ?_)
 refine Wp_ret ?_
 obtain rfl:=Option.some.inj H
 exact ⟨_,_,_,fun w1 e1=>run_resR (vs:=[.agg #[.slice A43 x42.length c44,.int .i64 0,.int .i64 0,.bool false,.string (bs ([]:Str))]]) (FA.cons (⟨_,rfl,run_loadVar_agg ty101 ((S.of_eq e1).blk 0 rfl) (sub_of_extract rfl) rfl (by decide)⟩) (FA.nil)),HM,E,S.pick [2,3] (by decide),⟨A43,c44,rfl,hs45,rfl⟩⟩
def model_Model_each_POOOO_Model_end_1_l0 (k:Nat) (a1_0:Int) (a1_1:Int):Nat→List (Str×model_row)→List Str→Option (((List (Str×model_row))))
 | 0,_,_=>none
 | kl+1,x320,x326=>(onList x326 (some (x320)) (fun y489 todo496=>(Option.bind (α:=(List (Str×model_row))) (Option.bind (model_Model_end_1 k ((mget x320 y489).getD (⟨[],⟨0,0,false,[]⟩⟩:model_row)) a1_0 a1_1) (fun t578=>(if y489∈x320.map (fun p=>p.1) then (Option.bind (α:=List (Str×model_row)) (some (mput x320 y489 t578)) (fun x598=>(Option.bind (α:=(List (Str×model_row))) (if (((t578.l.length:Int)==(0:Int))&&(t578.intent.Writer==(0:Int)))=true then (if y489 ∉ todo496 then (Option.bind (α:=List (Str×model_row)) (some (mdel x598 y489)) (fun x630=>some (x630))) else none) else some (x598)) (fun x620=>some (x620))))) else none))) (fun x566=>model_Model_each_POOOO_Model_end_1_l0 k a1_0 a1_1 kl x566 todo496))))
set_option maxHeartbeats 2000000 in
theorem model_Model_each_POOOO_Model_end_1_l0.mono {k:Nat} {a1_0:Int} {a1_1:Int}:∀ {kl:Nat} {x0 x1},OLe (model_Model_each_POOOO_Model_end_1_l0 k a1_0 a1_1 kl x0 x1) (model_Model_each_POOOO_Model_end_1_l0 (k+1) a1_0 a1_1 (kl+1) x0 x1):=by
 intro kl
 induction kl with
 | zero=>intros;exact OLe.none
 | succ kl ih =>
  intros
  rw [model_Model_each_POOOO_Model_end_1_l0.eq_2,model_Model_each_POOOO_Model_end_1_l0.eq_2]
  repeat' (first | with_reducible exact OLe.none | with_reducible exact OLe.some | with_reducible refine OLe.ite ?_ ?_ | with_reducible refine OLe.bind ?_ (fun _=>?_) | with_reducible exact model_Model_end_1.mono | exact ih | refine OLe.bind ?_ (fun _=>?_) | refine OLe.ite ?_ ?_ | refine OLe.elim (fun _=>?_) (fun _=>?_) | refine OLe.onList ?_ (fun _ _=>?_) | split)
theorem model_Model_each_POOOO_Model_end_1_l0.perm {k:Nat} {a1_0:Int} {a1_1:Int} {kl:Nat} {x320:List (Str×model_row)} {x326:List Str} {x326':List Str}  (hp:x326.Perm x326') (hn:x326.Nodup) (hl:(x320.map (·.1)).Nodup) (hs:∀ y∈x326,y∈x320.map (·.1)):model_Model_each_POOOO_Model_end_1_l0 k a1_0 a1_1 kl x320 x326=model_Model_each_POOOO_Model_end_1_l0 k a1_0 a1_1 kl x320 x326':=by
 exact perm_each (z0:=(⟨[],⟨0,0,false,[]⟩⟩:model_row)) (one:=fun s r=>model_Model_end_1 k r a1_0 a1_1) (dead:=fun r=>((r.l.length:Int)==(0:Int))&&(r.intent.Writer==(0:Int))) (fun kl s t=>model_Model_each_POOOO_Model_end_1_l0 k a1_0 a1_1 kl s t) _ (fun _ _ _=>rfl) (fun _ _=>rfl) (fun _ _ _=>rfl) hp hn kl _ hl hs
def model_Model_each_POOOO_Model_end_1 (k:Nat) (a0:model_Model) (a1_0:Int) (a1_1:Int):Option (model_Model) :=
 (if (a0.rows.map fun p:Str×model_row=>p.1).Nodup then (Option.bind (model_Model_each_POOOO_Model_end_1_l0 k a1_0 a1_1 k a0.rows (a0.rows.map fun p:Str×model_row=>p.1)) (fun x478=>some (⟨⟨a0.c.Tasks,a0.c.Active,a0.c.Keys,a0.c.Depth,a0.c.TS,a0.c.KeyLen,a0.c.ValLen,a0.c.Fan⟩,a0.names,a0.many,a0.txs,x478,a0.clock,a0.floor⟩:model_Model))) else none)
set_option maxHeartbeats 2000000 in
theorem model_Model_each_POOOO_Model_end_1.mono {k:Nat} {a0:model_Model} {a1_0:Int} {a1_1:Int}:OLe (model_Model_each_POOOO_Model_end_1 k a0 a1_0 a1_1) (model_Model_each_POOOO_Model_end_1 (k+1) a0 a1_0 a1_1):=by
 unfold model_Model_each_POOOO_Model_end_1
 repeat' (first | with_reducible exact OLe.none | with_reducible exact OLe.some | with_reducible refine OLe.ite ?_ ?_ | with_reducible refine OLe.bind ?_ (fun _=>?_) | with_reducible exact model_Model_each_POOOO_Model_end_1_l0.mono | refine OLe.bind ?_ (fun _=>?_) | refine OLe.ite ?_ ?_ | refine OLe.elim (fun _=>?_) (fun _=>?_) | split)
set_option maxHeartbeats 4000000 in
set_option maxRecDepth 100000 in
theorem model_Model_each_POOOO_Model_end_1.con (k:Nat) (M:Hp) (A0_8:Option Addr) (c0_8:Nat) (A0_9:Option Addr) (c0_9:Nat) (A0_10:Option Addr) (c0_10:Nat) (A0_11:Option Addr) (c0_11:Nat) (vs0_11:List (Str×Value)) (a0:model_Model) (a1_0:Int) (a1_1:Int) (bo0:Nat) (b1_0:Nat) (b1_1:Nat) (r:model_Model) (hm0_11:MRel r_model_row M a0.rows vs0_11) (h:model_Model_each_POOOO_Model_end_1 k a0 a1_0 a1_1=some r):Con Tryd.prog 137 #[pt bo0 0,.func (.func 142) #[] #[pt b1_0 0,pt b1_1 0]] M [B94 bo0 a0 A0_8 A0_9 A0_10 c0_10 A0_11,MapC enc_model_name (Value.int .i64) A0_8 a0.names,MapC (Value.int .i64) (Value.int .i64) A0_9 a0.many,Row r_model_tx 99 (.slice A0_10 a0.txs.length c0_10) a0.txs,MapC encS (fun v:Value=>v) A0_11 vs0_11,Blk b1_0 (.cells #[.int .i64 a1_0] 3 (0,0)),Blk b1_1 (.cells #[.int .i64 a1_1] 3 (0,0))] (fun v M' Γ'=>∃ (Aq1:Option Addr) (cq2:Nat) (Aq4:Option Addr) (cq5:Nat) (Aq7:Option Addr) (cq8:Nat) (Aq10:Option Addr) (cq11:Nat) (vsq13:List (Str×Value)),v=.tuple #[]∧MRel r_model_row M' r.rows vsq13∧Γ'=[B94 bo0 r Aq1 Aq4 Aq7 cq8 Aq10,MapC enc_model_name (Value.int .i64) Aq1 r.names,MapC (Value.int .i64) (Value.int .i64) Aq4 r.many,Row r_model_tx 99 (.slice Aq7 r.txs.length cq8) r.txs,MapC encS (fun v:Value=>v) Aq10 vsq13,Blk b1_0 (.cells #[.int .i64 a1_0] 3 (0,0)),Blk b1_1 (.cells #[.int .i64 a1_1] 3 (0,0))]):=by
 refine con_of_wp Tryd.func137 rfl Tryd.ntmps137 Tryd.results137 rfl ?_
 intro w F rn S hrn
 have E:=Ext.refl w
 have HM:=Hp.le_refl M
 have H:=h
 unfold model_Model_each_POOOO_Model_end_1 at H
 refine Wp_seq (Wp_region_lit (W_v (pt bo0 0) (x_move rfl) rfl (W_v (pt bo0 0) (x_nilptr rfl) rfl (W_v (pt bo0 11) (x_fieldAddr (o:=0) (off:=11) Tryd.underlying94 rfl ty91 rfl rfl) rfl (W_v (.map (mb A0_11)) (x_load (S.blk 0 rfl) ty91 rfl rfl) rfl ?_)))))
 obtain ⟨hn1,H⟩:=chkS H
 refine W_rangeM S 4 rfl Tryd.underlying91 (by rw [hm0_11.keys];exact hn1) rfl rfl ?_
 intro b2 w3 E' S
 replace E:=E.trans E'
 rw [hm0_11.keys] at S
 replace S:St w3 M F [_,_,_,_,_,_,_]:=S
 refine Wl_nil (tn ?_)
 obtain ⟨o484,o484h,o484H⟩:=bindS H
 refine Wp_blockJ (fun ρ w'=>∃ (x478:List (Str×model_row)) (A479:Option Addr) (c480:Nat) (vs482:List (Str×Value)) (Mj:Hp),(x478)=o484∧Agree ρ []∧M.le Mj∧Ext w w'∧St w' Mj F [MapC encS (fun v:Value=>v) A479 vs482,Blk bo0 (.cells #[.int .i64 a0.c.Tasks,.int .i64 a0.c.Active,.int .i64 a0.c.Keys,.int .i64 a0.c.Depth,.int .i64 a0.c.TS,.int .i64 a0.c.KeyLen,.int .i64 a0.c.ValLen,.int .i64 a0.c.Fan,.map (mb A0_8),.map (mb A0_9),.slice A0_10 a0.txs.length c0_10,.map (mb A479),.int .i64 a0.clock,.int .i64 a0.floor] 94 (0,0)),MapC enc_model_name (Value.int .i64) A0_8 a0.names,MapC (Value.int .i64) (Value.int .i64) A0_9 a0.many,Row r_model_tx 99 (.slice A0_10 a0.txs.length c0_10) a0.txs,Blk b1_0 (.cells #[.int .i64 a1_0] 3 (0,0)),Blk b1_1 (.cells #[.int .i64 a1_1] 3 (0,0))]∧MRel r_model_row Mj x478 vs482) ?_ ?_
 ·skip
  refine Wp_loop (fun n ρ w'=>∃ (x320:List (Str×model_row)) (x326:List Str) (A321:Option Addr) (c322:Nat) (vs324:List (Str×Value)) (Mj:Hp),model_Model_each_POOOO_Model_end_1_l0 k a1_0 a1_1 n x320 x326=some o484∧Agree ρ [(0,pt bo0 0),(1,.func (.func 142) #[] #[pt b1_0 0,pt b1_1 0]),(10,pt b2 0)]∧M.le Mj∧Ext w w'∧St w' Mj F [RangeM encS (fun v:Value=>v) A321 b2 vs324 x326 none,Blk bo0 (.cells #[.int .i64 a0.c.Tasks,.int .i64 a0.c.Active,.int .i64 a0.c.Keys,.int .i64 a0.c.Depth,.int .i64 a0.c.TS,.int .i64 a0.c.KeyLen,.int .i64 a0.c.ValLen,.int .i64 a0.c.Fan,.map (mb A0_8),.map (mb A0_9),.slice A0_10 a0.txs.length c0_10,.map (mb A321),.int .i64 a0.clock,.int .i64 a0.floor] 94 (0,0)),MapC enc_model_name (Value.int .i64) A0_8 a0.names,MapC (Value.int .i64) (Value.int .i64) A0_9 a0.many,Row r_model_tx 99 (.slice A0_10 a0.txs.length c0_10) a0.txs,Blk b1_0 (.cells #[.int .i64 a1_0] 3 (0,0)),Blk b1_1 (.cells #[.int .i64 a1_1] 3 (0,0))]∧MRel r_model_row Mj x320 vs324) k ?_ ?_
  ·skip
   exact ⟨a0.rows,(a0.rows.map fun p:Str×model_row=>p.1),A0_11,c0_11,vs0_11,M,o484h,⟨rfl,rfl,rfl,trivial⟩,(Hp.le_refl M),E,S.pick [4,0,1,2,3,5,6] (by decide),hm0_11⟩
  ·intro n
   rintro ρ w485 ⟨x320,x326,A321,c322,vs324,M486,H,hρ,hM487,E,S,hm325⟩
   rw [agree_eta hρ]
   replace HM:=Hp.le_trans HM hM487
   replace hm0_11:=MRel.mono hm0_11 hM487
   cases n with
   | zero=>cases H
   | succ kl =>
    refine Wp_seq (Wp_region_lit ?_)
    obtain ⟨hn488a,hn488b,hn488c⟩:=S.rangeM_facts 0 rfl
    rw [hm325.keys] at hn488b hn488c
    refine W_nextM S 0 rfl rfl rfl ?_ ?_
    ·intro y489 v490 w491 hy493 hv494 E' S
     replace E:=E.trans E'
     rw [model_Model_each_POOOO_Model_end_1_l0.perm (permE hy493) hn488a hn488b hn488c,model_Model_each_POOOO_Model_end_1_l0.eq_2,onList_cons] at H
     obtain ⟨cs497,hR498,he499⟩:=hm325.get y489 (z:=(⟨[],⟨0,0,false,[]⟩⟩:model_row)) (zc:=[.slice none 0 0,.int .i64 0,.int .i64 0,.bool false,.string (bs ([]:Str))]) ⟨_,SlW.nil _ _,rfl⟩
     rw [hv494] at he499
     obtain rfl:v490=_:=he499
     obtain ⟨v503,hs502,rfl⟩:=hR498
     obtain ⟨A500,c501,rfl,_⟩:=hs502.form
     replace S:St w491 M486 F [_,_,_,_,_,_,_]:=S
     refine W_v (.bool true) (x_extract rfl rfl) rfl (Wl_nil (tn (Wp_seq (Wp_cond_true rfl (Wp_skip (tn ?_))))))
     obtain ⟨o572,o572h,o572H⟩:=bindS H
     refine Wp_cut (fun ρ w'=>∃ (x566:List (Str×model_row)) (A567:Option Addr) (c568:Nat) (vs570:List (Str×Value)) (Mj:Hp),(x566)=o572∧Agree ρ [(0,pt bo0 0),(1,.func (.func 142) #[] #[pt b1_0 0,pt b1_1 0]),(10,pt b2 0)]∧M486.le Mj∧Ext w w'∧St w' Mj F [RangeM encS (fun v:Value=>v) A567 b2 vs570 (er x326 y489) none,Blk b1_0 (.cells #[.int .i64 a1_0] 3 (0,0)),Blk b1_1 (.cells #[.int .i64 a1_1] 3 (0,0)),Blk bo0 (.cells #[.int .i64 a0.c.Tasks,.int .i64 a0.c.Active,.int .i64 a0.c.Keys,.int .i64 a0.c.Depth,.int .i64 a0.c.TS,.int .i64 a0.c.KeyLen,.int .i64 a0.c.ValLen,.int .i64 a0.c.Fan,.map (mb A0_8),.map (mb A0_9),.slice A0_10 a0.txs.length c0_10,.map (mb A567),.int .i64 a0.clock,.int .i64 a0.floor] 94 (0,0)),MapC enc_model_name (Value.int .i64) A0_8 a0.names,MapC (Value.int .i64) (Value.int .i64) A0_9 a0.many,Row r_model_tx 99 (.slice A0_10 a0.txs.length c0_10) a0.txs]∧MRel r_model_row Mj x566 vs570) ?_ ?_
     ·as_aux_lemma =>
       clear o572H
       have H:=o572h
       have LE573:=Hp.le_refl M486
       refine Wp_block ?_
       refine Wp_seq (Wp_region_lit (W_v (.tuple #[encS y489,.agg #[.slice A500 (((mget x320 y489).getD (⟨[],⟨0,0,false,[]⟩⟩:model_row)).l).length c501,.int .i64 (((mget x320 y489).getD (⟨[],⟨0,0,false,[]⟩⟩:model_row)).intent.Writer),.int .i64 (((mget x320 y489).getD (⟨[],⟨0,0,false,[]⟩⟩:model_row)).intent.TS),.bool (((mget x320 y489).getD (⟨[],⟨0,0,false,[]⟩⟩:model_row)).intent.Tomb),.string (bs (((mget x320 y489).getD (⟨[],⟨0,0,false,[]⟩⟩:model_row)).intent.Value))]]) (x_entryM (encv:=(fun v:Value=>v)) S 0 rfl hv494 rfl) rfl ?_))
       replace S:=S.rangeM_seen 0 rfl
       replace S:St w491 M486 F [_,_,_,_,_,_,_]:=S
       refine W_v (.string (bs y489)) (x_extract rfl rfl) rfl (W_v (.agg #[.slice A500 (((mget x320 y489).getD (⟨[],⟨0,0,false,[]⟩⟩:model_row)).l).length c501,.int .i64 (((mget x320 y489).getD (⟨[],⟨0,0,false,[]⟩⟩:model_row)).intent.Writer),.int .i64 (((mget x320 y489).getD (⟨[],⟨0,0,false,[]⟩⟩:model_row)).intent.TS),.bool (((mget x320 y489).getD (⟨[],⟨0,0,false,[]⟩⟩:model_row)).intent.Tomb),.string (bs (((mget x320 y489).getD (⟨[],⟨0,0,false,[]⟩⟩:model_row)).intent.Value))]) (x_extract rfl rfl) rfl ?_)
       refine W_alloc S #[.slice none 0 0,.int .i64 0,.int .i64 0,.bool false,.string (bs ([]:Str))] ty101 rfl rfl ?_
       intro b574 w575 E' S
       replace E:=E.trans E'
       refine W_v (.string (bs y489)) (x_assign rfl) rfl ?_
       refine W_store S 0 rfl ty101 rfl rfl [.slice A500 (((mget x320 y489).getD (⟨[],⟨0,0,false,[]⟩⟩:model_row)).l).length c501,.int .i64 (((mget x320 y489).getD (⟨[],⟨0,0,false,[]⟩⟩:model_row)).intent.Writer),.int .i64 (((mget x320 y489).getD (⟨[],⟨0,0,false,[]⟩⟩:model_row)).intent.TS),.bool (((mget x320 y489).getD (⟨[],⟨0,0,false,[]⟩⟩:model_row)).intent.Tomb),.string (bs (((mget x320 y489).getD (⟨[],⟨0,0,false,[]⟩⟩:model_row)).intent.Value))] rfl rfl rfl #[.slice A500 (((mget x320 y489).getD (⟨[],⟨0,0,false,[]⟩⟩:model_row)).l).length c501,.int .i64 (((mget x320 y489).getD (⟨[],⟨0,0,false,[]⟩⟩:model_row)).intent.Writer),.int .i64 (((mget x320 y489).getD (⟨[],⟨0,0,false,[]⟩⟩:model_row)).intent.TS),.bool (((mget x320 y489).getD (⟨[],⟨0,0,false,[]⟩⟩:model_row)).intent.Tomb),.string (bs (((mget x320 y489).getD (⟨[],⟨0,0,false,[]⟩⟩:model_row)).intent.Value))] rfl rfl ?_
       intro w577 E' S
       replace E:=E.trans E'
       refine Wl_nil (tn (Wp_seq (Wp_region_lit (W_v (.func (.func 142) #[] #[pt b1_0 0,pt b1_1 0]) (x_move rfl) rfl (W_v (.agg #[.slice A500 (((mget x320 y489).getD (⟨[],⟨0,0,false,[]⟩⟩:model_row)).l).length c501,.int .i64 (((mget x320 y489).getD (⟨[],⟨0,0,false,[]⟩⟩:model_row)).intent.Writer),.int .i64 (((mget x320 y489).getD (⟨[],⟨0,0,false,[]⟩⟩:model_row)).intent.TS),.bool (((mget x320 y489).getD (⟨[],⟨0,0,false,[]⟩⟩:model_row)).intent.Tomb),.string (bs (((mget x320 y489).getD (⟨[],⟨0,0,false,[]⟩⟩:model_row)).intent.Value))]) (x_loadA (S.blk 0 rfl) ty101 rfl (sub_of_extract rfl) rfl rfl) rfl ?_)))))
       obtain ⟨t578,ht579,H⟩:=bindS H
       replace S:St w577 M486 F [_,_,_,_,_,_,_,_]:=S.pick [6,7,0,1,2,3,4,5] (by decide)
       refine W_callv (fs:=[]) (cap:=[pt b1_0 0,pt b1_1 0]) fn142 rfl (model_Model_end_1.con k M486 A500 c501 ((mget x320 y489).getD (⟨[],⟨0,0,false,[]⟩⟩:model_row)) a1_0 a1_1 b1_0 b1_1 t578 hs502 ht579) (Γ1:=[_,_]) (Γ2:=[_,_,_,_,_,_]) S rfl rfl ?_
       rintro _ w583 M584 Γ' hM585 E' S ⟨A580,c581,rfl,hs582,rfl⟩
       replace HM:=Hp.le_trans HM hM585
       replace hM487:=Hp.le_trans hM487 hM585
       replace LE573:=Hp.le_trans LE573 hM585
       replace hm0_11:=MRel.mono hm0_11 hM585
       replace hm325:=MRel.mono hm325 hM585
       replace hs502:=SlR.mono hs502 hM585
       replace E:=E.trans E'
       replace S:St w583 M584 F [_,_,_,_,_,_,_,_]:=S
       refine W_store S 2 rfl ty101 rfl rfl [.slice A580 t578.l.length c581,.int .i64 t578.intent.Writer,.int .i64 t578.intent.TS,.bool t578.intent.Tomb,.string (bs t578.intent.Value)] rfl rfl rfl #[.slice A580 t578.l.length c581,.int .i64 t578.intent.Writer,.int .i64 t578.intent.TS,.bool t578.intent.Tomb,.string (bs t578.intent.Value)] rfl rfl ?_
       intro w586 E' S
       replace E:=E.trans E'
       refine Wl_nil (tn (Wp_seq ?_))
       refine Wp_region_any (S:=fun w'=>∃ Mx,M584.le Mx∧St w' Mx F [Blk b1_0 (.cells #[.int .i64 a1_0] 3 (0,0)),Blk b1_1 (.cells #[.int .i64 a1_1] 3 (0,0)),B101 b574 t578 A580 c581,RangeM encS (fun v:Value=>v) A321 b2 vs324 (er x326 y489) none,Blk bo0 (.cells #[.int .i64 a0.c.Tasks,.int .i64 a0.c.Active,.int .i64 a0.c.Keys,.int .i64 a0.c.Depth,.int .i64 a0.c.TS,.int .i64 a0.c.KeyLen,.int .i64 a0.c.ValLen,.int .i64 a0.c.Fan,.map (mb A0_8),.map (mb A0_9),.slice A0_10 a0.txs.length c0_10,.map (mb A321),.int .i64 a0.clock,.int .i64 a0.floor] 94 (0,0)),MapC enc_model_name (Value.int .i64) A0_8 a0.names,MapC (Value.int .i64) (Value.int .i64) A0_9 a0.many,Row r_model_tx 99 (.slice A0_10 a0.txs.length c0_10) a0.txs]) (L:=6) mixed ?_
       intro w594 hw595 E'
       replace S:=S.heap hw595
       replace E:=E.trans E'
       have D1:∃ Mx,Hp.le M584 Mx∧St _ Mx F [_,_,_,_,_,_,_,_]:=⟨_,Hp.le_refl _,S.pick [0,1,2,3,4,5,6,7] (by decide)⟩
       refine Wa_take (i:=0) rfl (by kernel_rfl) rfl rfl (pt bo0 0) rfl (fun w' h'=>x_move rfl) D1 (Wa_take (i:=1) rfl (by kernel_rfl) rfl rfl (pt bo0 0) rfl (fun w' h'=>x_nilptr rfl) D1 (Wa_take (i:=2) rfl (by kernel_rfl) rfl rfl (pt bo0 11) rfl (fun w' h'=>x_fieldAddr (o:=0) (off:=11) Tryd.underlying94 rfl ty91 rfl rfl) D1 (Wa_take (i:=3) rfl (by kernel_rfl) rfl rfl (.map (mb A321)) rfl (fun w' h'=>x_load (cls_blk h' 4 rfl) ty91 rfl rfl) D1 (Wa_take (i:=4) rfl (by kernel_rfl) rfl rfl (.string (bs y489)) rfl (fun w' h'=>x_move rfl) D1 (Wa_take (i:=5) rfl (by kernel_rfl) rfl rfl (.agg #[.slice A580 t578.l.length c581,.int .i64 t578.intent.Writer,.int .i64 t578.intent.TS,.bool t578.intent.Tomb,.string (bs t578.intent.Value)]) rfl (fun w' h'=>x_loadA (cls_blk h' 2 rfl) ty101 rfl (sub_of_extract rfl) rfl rfl) D1 ?_)))))
       refine Wa_solo (i:=6) rfl (by kernel_rfl) ?_
       obtain ⟨p596,H⟩:=chkS H
       obtain ⟨x598,he599,H⟩:=bindS H
       replace he599:=Option.some.inj he599
       obtain ⟨vs600,hv601⟩:∃ z:List (Str×Value),mput vs324 y489 (.agg #[.slice A580 t578.l.length c581,.int .i64 t578.intent.Writer,.int .i64 t578.intent.TS,.bool t578.intent.Tomb,.string (bs t578.intent.Value)])=z:=⟨_,rfl⟩
       have hm602:MRel r_model_row M584 x598 vs600:=by rw [← he599,← hv601];exact hm325.put y489 (cs:=[.slice A580 t578.l.length c581,.int .i64 t578.intent.Writer,.int .i64 t578.intent.TS,.bool t578.intent.Tomb,.string (bs t578.intent.Value)]) ⟨_,hs582,rfl⟩
       refine W_mapUpdateM S 3 rfl Tryd.underlying91 key9 y489 (.agg #[.slice A580 t578.l.length c581,.int .i64 t578.intent.Writer,.int .i64 t578.intent.TS,.bool t578.intent.Tomb,.string (bs t578.intent.Value)]) (by rw [hm325.keys];exact p596) hv601 rfl rfl rfl ?_
       intro w597 E' S
       replace E:=E.trans E'
       replace S:St w597 M584 F [_,_,_,_,_,_,_,_]:=S
       refine Wl_nil (on_n ⟨.inl (by decide),?_⟩)
       refine Wa_done (by kernel_rfl) ?_
       refine tn ?_
       as_aux_lemma =>
       refine Wp_seq (Wp_region_lit (W_v (pt b574 0) (x_fieldAddr (o:=0) (off:=0) Tryd.underlying101 rfl ty65 rfl rfl) rfl (W_v (.slice A580 t578.l.length c581) (x_load (S.blk 2 rfl) ty65 rfl rfl) rfl (W_v (.int .i64 (t578.l.length:Int)) (x_len_slice (n:=t578.l.length) Tryd.underlying65 rfl) rfl (W_v (.bool ((t578.l.length:Int)==(0:Int))) (x_ibin rfl rfl rfl rfl) rfl (W_v (.bool ((t578.l.length:Int)==(0:Int))) (x_move rfl) rfl ?_))))))
       refine Wl_cutN 5 (fun ρ w'=>Agree ρ [(0,pt bo0 0),(1,.func (.func 142) #[] #[pt b1_0 0,pt b1_1 0]),(4,.string (bs y489)),(10,pt b2 0),(34,.bool (((t578.l.length:Int)==(0:Int))&&(t578.intent.Writer==(0:Int))))]∧w597=w') ?_ ?_
       ·rcases boolCases ((t578.l.length:Int)==(0:Int)) with hb603 | hb603
        ·skip
         refine W_no (skT hb603) rfl (W_no (skT hb603) rfl (W_no (skT hb603) rfl (W_no (skT hb603) rfl (W_v (.bool false) (x_pick (k:=false) (congrArg Value.bool hb603) rfl) rfl (Wl_nil ?_)))))
         exact ⟨⟨rfl,rfl,rfl,rfl,(by first | rfl | (rw [hb603];rfl) | (simp only [hb603];rfl)),trivial⟩,rfl⟩
        ·skip
         refine W_yes (congrArg some hb603) (W_v (pt b574 1) (x_fieldAddr (o:=0) (off:=1) Tryd.underlying101 rfl ty61 rfl rfl) rfl (W_yes (congrArg some hb603) (W_v (pt b574 1) (x_fieldAddr (o:=1) (off:=0) Tryd.underlying61 rfl ty3 rfl rfl) rfl (W_yes (congrArg some hb603) (W_v (.int .i64 t578.intent.Writer) (x_load (S.blk 2 rfl) ty3 rfl rfl) rfl (W_yes (congrArg some hb603) (W_v (.bool (t578.intent.Writer==(0:Int))) (x_ibin rfl rfl rfl rfl) rfl (W_v (.bool (t578.intent.Writer==(0:Int))) (x_pick (k:=true) (congrArg Value.bool hb603) rfl) rfl (Wl_nil ?_)))))))))
         exact ⟨⟨rfl,rfl,rfl,rfl,(by first | rfl | (rw [hb603];rfl) | (simp only [hb603];rfl)),trivial⟩,rfl⟩
       rintro ρ _ ⟨hρ,rfl⟩
       rw [agree_eta hρ]
       refine Wl_nil (tn ?_)
       obtain ⟨o626,o626h,o626H⟩:=bindS H
       refine Wp_cut (fun ρ w'=>∃ (x620:List (Str×model_row)) (A621:Option Addr) (c622:Nat) (vs624:List (Str×Value)),(x620)=o626∧Agree ρ [(0,pt bo0 0),(1,.func (.func 142) #[] #[pt b1_0 0,pt b1_1 0]),(10,pt b2 0)]∧Ext w w'∧St w' M584 F [RangeM encS (fun v:Value=>v) A621 b2 vs624 (er x326 y489) none,Blk b1_0 (.cells #[.int .i64 a1_0] 3 (0,0)),Blk b1_1 (.cells #[.int .i64 a1_1] 3 (0,0)),Blk bo0 (.cells #[.int .i64 a0.c.Tasks,.int .i64 a0.c.Active,.int .i64 a0.c.Keys,.int .i64 a0.c.Depth,.int .i64 a0.c.TS,.int .i64 a0.c.KeyLen,.int .i64 a0.c.ValLen,.int .i64 a0.c.Fan,.map (mb A0_8),.map (mb A0_9),.slice A0_10 a0.txs.length c0_10,.map (mb A621),.int .i64 a0.clock,.int .i64 a0.floor] 94 (0,0)),MapC enc_model_name (Value.int .i64) A0_8 a0.names,MapC (Value.int .i64) (Value.int .i64) A0_9 a0.many,Row r_model_tx 99 (.slice A0_10 a0.txs.length c0_10) a0.txs]∧MRel r_model_row M584 x620 vs624) ?_ ?_
       ·clear o626H
        have H:=o626h
        rcases iteS H with ⟨hb627,H⟩ | ⟨hb627,H⟩
        ·refine Wp_cond_true (congrArg Value.bool hb627) ?_
         refine Wp_region_lit (W_v (pt bo0 0) (x_move rfl) rfl (W_v (pt bo0 0) (x_nilptr rfl) rfl (W_v (pt bo0 11) (x_fieldAddr (o:=0) (off:=11) Tryd.underlying94 rfl ty91 rfl rfl) rfl (W_v (.map (mb A321)) (x_load (S.blk 4 rfl) ty91 rfl rfl) rfl (W_v (.string (bs y489)) (x_move rfl) rfl ?_)))))
         obtain ⟨p628,H⟩:=chkS H
         obtain ⟨x630,he631,H⟩:=bindS H
         replace he631:=Option.some.inj he631
         obtain ⟨vs632,hv633⟩:∃ z:List (Str×Value),mdel vs600 y489=z:=⟨_,rfl⟩
         have hm634:MRel r_model_row M584 x630 vs632:=by rw [← he631,← hv633];exact hm602.del y489
         refine W_deleteM0 S 3 rfl Tryd.underlying91 key9 y489 p628 hv633 rfl rfl ?_
         intro w629 E' S
         replace E:=E.trans E'
         replace S:St w629 M584 F [_,_,_,_,_,_,_,_]:=S
         refine Wl_nil (tn ?_)
         exact ⟨x630,A321,c322,vs632,Option.some.inj H,⟨rfl,rfl,rfl,trivial⟩,E,S.pick [3,0,1,4,5,6,7] (by decide),hm634⟩
        refine Wp_cond_false (congrArg Value.bool hb627) (Wp_skip (tn ?_))
        exact ⟨x598,A321,c322,vs600,Option.some.inj H,⟨rfl,rfl,rfl,trivial⟩,E,S.pick [3,0,1,4,5,6,7] (by decide),hm602⟩
       rintro ρ w635 ⟨x620,A621,c622,vs624,rfl,hρ,E,S,hm625⟩
       rw [agree_eta hρ]
       have H:=o626H
       refine bn (tn ?_)
       exact ⟨x620,A621,c622,vs624,M584,Option.some.inj H,⟨rfl,rfl,rfl,trivial⟩,LE573,E,S.pick [0,1,2,3,4,5,6] (by decide),hm625⟩
     rintro ρ w636 ⟨x566,A567,c568,vs570,M637,rfl,hρ,hM638,E,S,hm571⟩
     rw [agree_eta hρ]
     replace HM:=Hp.le_trans HM hM638
     replace hM487:=Hp.le_trans hM487 hM638
     replace hm0_11:=MRel.mono hm0_11 hM638
     replace hm325:=MRel.mono hm325 hM638
     replace hs502:=SlR.mono hs502 hM638
     have H:=o572H
     refine tn ?_
     exact ⟨kl,Nat.lt_succ_self kl,⟨x566,(er x326 y489),A567,c568,vs570,M637,H,⟨rfl,rfl,rfl,trivial⟩,hM487,E,S.pick [0,3,4,5,6,1,2] (by decide),hm571⟩⟩
    ·intro w492 ht495 E' S
     replace E:=E.trans E'
     rw [ht495,model_Model_each_POOOO_Model_end_1_l0.eq_2,onList_nil] at H
     replace S:=S.rangeM_end 0 rfl
     replace S:St w492 M486 F [_,_,_,_,_,_,_]:=S
     refine W_v (.bool false) (x_extract rfl rfl) rfl (Wl_nil (tn (Wp_seq (Wp_cond_false rfl ?_))))
     refine Wp_exit ?_
     refine tx (tx (bsm (?_)))
     refine tn ?_
     exact ⟨x320,A321,c322,vs324,M486,Option.some.inj H,trivial,hM487,E,S.pick [0,1,2,3,4,5,6] (by decide),hm325⟩
 rintro ρ w639 ⟨x478,A479,c480,vs482,M640,rfl,hρ,hM641,E,S,hm483⟩
 rw [agree_eta hρ]
 replace HM:=Hp.le_trans HM hM641
 replace hm0_11:=MRel.mono hm0_11 hM641
 have H:=o484H
 obtain rfl:=Option.some.inj H
 exact ⟨_,_,_,fun w1 e1=>run_resR (vs:=[]) (FA.nil),HM,E,S.pick [1,2,3,4,0,5,6] (by decide),⟨A0_8,c0_8,A0_9,c0_9,A0_10,c0_10,A479,c480,vs482,rfl,hm483,rfl⟩⟩
def model_Model_end_POOOO (k:Nat) (a0:model_Model) (a1:Int) (a2:Int) (a3:Int):Option (api_Answer×model_Model) :=
 (if 0≤(IntKind.i64.wrap (a1-(1:Int)))∧(IntKind.i64.wrap (a1-(1:Int)))<(a0.txs.length:Int) then (Option.bind (α:=List model_tx) (some (List.set a0.txs (IntKind.i64.wrap (a1-(1:Int))).toNat (⟨a2,(rd a0.txs (IntKind.i64.wrap (a1-(1:Int)))).snapshot⟩:model_tx))) (fun x30=>(Option.bind (model_Model_each_POOOO_Model_end_1 k (⟨⟨a0.c.Tasks,a0.c.Active,a0.c.Keys,a0.c.Depth,a0.c.TS,a0.c.KeyLen,a0.c.ValLen,a0.c.Fan⟩,a0.names,a0.many,x30,a0.rows,a0.clock,a0.floor⟩:model_Model) a1 a3) (fun t34=>some ((⟨(0:Int),false,([]:Str),([]:List api_Pair)⟩:api_Answer),t34))))) else none)
set_option maxHeartbeats 2000000 in
theorem model_Model_end_POOOO.mono {k:Nat} {a0:model_Model} {a1:Int} {a2:Int} {a3:Int}:OLe (model_Model_end_POOOO k a0 a1 a2 a3) (model_Model_end_POOOO (k+1) a0 a1 a2 a3):=by
 unfold model_Model_end_POOOO
 repeat' (first | with_reducible exact OLe.none | with_reducible exact OLe.some | with_reducible refine OLe.ite ?_ ?_ | with_reducible refine OLe.bind ?_ (fun _=>?_) | with_reducible exact model_Model_each_POOOO_Model_end_1.mono | refine OLe.bind ?_ (fun _=>?_) | refine OLe.ite ?_ ?_ | refine OLe.elim (fun _=>?_) (fun _=>?_) | split)
set_option maxHeartbeats 4000000 in
set_option maxRecDepth 100000 in
theorem model_Model_end_POOOO.con (k:Nat) (M:Hp) (A0_8:Option Addr) (c0_8:Nat) (A0_9:Option Addr) (c0_9:Nat) (A0_10:Option Addr) (c0_10:Nat) (A0_11:Option Addr) (c0_11:Nat) (vs0_11:List (Str×Value)) (a0:model_Model) (a1:Int) (a2:Int) (a3:Int) (bo0:Nat) (r:api_Answer×model_Model) (hm0_11:MRel r_model_row M a0.rows vs0_11) (h:model_Model_end_POOOO k a0 a1 a2 a3=some r):Con Tryd.prog 136 #[pt bo0 0,.int .i64 a1,.int .u8 a2,.int .i64 a3] M [B94 bo0 a0 A0_8 A0_9 A0_10 c0_10 A0_11,MapC enc_model_name (Value.int .i64) A0_8 a0.names,MapC (Value.int .i64) (Value.int .i64) A0_9 a0.many,Row r_model_tx 99 (.slice A0_10 a0.txs.length c0_10) a0.txs,MapC encS (fun v:Value=>v) A0_11 vs0_11] (fun v M' Γ'=>∃ (Aq1:Option Addr) (cq2:Nat) (Aq4:Option Addr) (cq5:Nat) (Aq7:Option Addr) (cq8:Nat) (Aq10:Option Addr) (cq11:Nat) (Aq13:Option Addr) (cq14:Nat) (vsq16:List (Str×Value)),v=.agg #[.int .i64 r.1.Err,.bool r.1.Found,.string (bs r.1.Value),.slice Aq1 r.1.Pairs.length cq2]∧MRel r_model_row M' r.2.rows vsq16∧Γ'=[Row r_api_Pair 87 (.slice Aq1 r.1.Pairs.length cq2) r.1.Pairs,B94 bo0 r.2 Aq4 Aq7 Aq10 cq11 Aq13,MapC enc_model_name (Value.int .i64) Aq4 r.2.names,MapC (Value.int .i64) (Value.int .i64) Aq7 r.2.many,Row r_model_tx 99 (.slice Aq10 r.2.txs.length cq11) r.2.txs,MapC encS (fun v:Value=>v) Aq13 vsq16]):=by
 refine con_of_wp Tryd.func136 rfl Tryd.ntmps136 Tryd.results136 rfl ?_
 intro w F rn S hrn
 have E:=Ext.refl w
 have HM:=Hp.le_refl M
 have H:=h
 unfold model_Model_end_POOOO at H
 refine Wp_seq (Wp_region_lit ?_)
 refine W_box S #[.int .i64 a1] rfl rfl rfl ?_
 intro b1 w2 E' S
 replace E:=E.trans E'
 refine W_box S #[.int .i64 a3] rfl rfl rfl ?_
 intro b4 w5 E' S
 replace E:=E.trans E'
 refine W_alloc S #[.int .i64 0,.bool false,.string (bs ([]:Str)),.slice none 0 0] ty43 rfl rfl ?_
 intro b7 w8 E' S
 replace E:=E.trans E'
 refine Wl_nil (tn (Wp_seq ?_))
 refine Wp_region_any (S:=fun w'=>∃ Mx,M.le Mx∧St w' Mx F [Blk b7 (.cells #[.int .i64 0,.bool false,.string (bs ([]:Str)),.slice none 0 0] 43 (0,0)),Blk b4 (.cells #[.int .i64 a3] 3 (0,0)),Blk b1 (.cells #[.int .i64 a1] 3 (0,0)),B94 bo0 a0 A0_8 A0_9 A0_10 c0_10 A0_11,MapC enc_model_name (Value.int .i64) A0_8 a0.names,MapC (Value.int .i64) (Value.int .i64) A0_9 a0.many,Row r_model_tx 99 (.slice A0_10 a0.txs.length c0_10) a0.txs,MapC encS (fun v:Value=>v) A0_11 vs0_11]) (L:=9) mixed ?_
 intro w21 hw22 E'
 replace S:=S.heap hw22
 replace E:=E.trans E'
 have D1:∃ Mx,Hp.le M Mx∧St _ Mx F [_,_,_,_,_,_,_,_]:=⟨_,Hp.le_refl _,S.pick [0,1,2,3,4,5,6,7] (by decide)⟩
 refine Wa_take (i:=0) rfl (by kernel_rfl) rfl rfl (pt bo0 0) rfl (fun w' h'=>x_move rfl) D1 (Wa_take (i:=1) rfl (by kernel_rfl) rfl rfl (pt bo0 0) rfl (fun w' h'=>x_nilptr rfl) D1 (Wa_take (i:=2) rfl (by kernel_rfl) rfl rfl (pt bo0 10) rfl (fun w' h'=>x_fieldAddr (o:=0) (off:=10) Tryd.underlying94 rfl ty92 rfl rfl) D1 (Wa_take (i:=3) rfl (by kernel_rfl) rfl rfl (.slice A0_10 a0.txs.length c0_10) rfl (fun w' h'=>x_load (cls_blk h' 3 rfl) ty92 rfl rfl) D1 (Wa_take (i:=4) rfl (by kernel_rfl) rfl rfl (.int .i64 a1) rfl (fun w' h'=>x_load (cls_blk h' 2 rfl) ty3 rfl rfl) D1 (Wa_take (i:=5) rfl (by kernel_rfl) rfl rfl (.int .i64 (IntKind.i64.wrap (a1-(1:Int)))) rfl (fun w' h'=>x_ibin rfl rfl rfl rfl) D1 (Wa_take (i:=6) rfl (by kernel_rfl) rfl rfl (.int .u8 a2) rfl (fun w' h'=>x_move rfl) D1 ?_))))))
 obtain ⟨⟨p23,p24⟩,H⟩:=chkS H
 obtain ⟨b25,o26,_,_,_,ee27,_⟩:=SlW.at' (S.row_read 6 rfl) p23 p24
 refine Wa_take (i:=7) rfl (by kernel_rfl) rfl rfl (.pointer (some ⟨b25,o26+(IntKind.i64.wrap (a1-(1:Int))).toNat*2,none⟩)) rfl (fun w' h'=>x_indexAddr Tryd.underlying92 ty99 (slA ee27) rfl p23 p24) D1 (Wa_take (i:=8) rfl (by kernel_rfl) rfl rfl (.pointer (some ⟨b25,o26+(IntKind.i64.wrap (a1-(1:Int))).toNat*2,none⟩)) rfl (fun w' h'=>x_fieldAddr (o:=o26+(IntKind.i64.wrap (a1-(1:Int))).toNat*2) (off:=0) Tryd.underlying99 rfl ty5 rfl rfl) D1 ?_)
 refine Wa_solo (i:=9) rfl (by kernel_rfl) ?_
 obtain ⟨x30,he31,H⟩:=bindS H
 replace he31:=Option.some.inj he31
 refine W_rowstore S 6 rfl rfl ee27 (by first | exact p23 | simpa using p23) (by first | exact p24 | simpa using p24) 0 ty5 rfl rfl [.int .u8 a2] rfl rfl rfl rfl (⟨a2,(rd a0.txs (IntKind.i64.wrap (a1-(1:Int)))).snapshot⟩:model_tx) (by rintro _ rfl;rfl) he31 ?_
 intro w29 E' S
 replace E:=E.trans E'
 have hs32:Value.slice A0_10 a0.txs.length c0_10=Value.slice A0_10 x30.length c0_10:=by rw [← he31,List.length_set]
 try unfold B94 at S
 try rw [hs32] at S
 try rw [hs32]
 have p33:(IntKind.i64.wrap (a1-(1:Int)))<(x30.length:Int):=by rw [← he31,List.length_set];exact p24
 refine Wl_nil (on_n ⟨.inl (by decide),?_⟩)
 refine Wa_done (by kernel_rfl) ?_
 refine tn (Wp_seq (Wp_region_lit (W_v (pt bo0 0) (x_move rfl) rfl (W_v (.func (.func 142) #[] #[pt b1 0,pt b4 0]) (x_makeFunc rfl) rfl ?_))))
 obtain ⟨t34,ht35,H⟩:=bindS H
 replace S:St w29 M F [_,_,_,_,_,_,_,_]:=S.pick [3,4,5,6,7,2,1,0] (by decide)
 refine W_call fn137 (model_Model_each_POOOO_Model_end_1.con k M A0_8 c0_8 A0_9 c0_9 A0_10 c0_10 A0_11 c0_11 vs0_11 (⟨⟨a0.c.Tasks,a0.c.Active,a0.c.Keys,a0.c.Depth,a0.c.TS,a0.c.KeyLen,a0.c.ValLen,a0.c.Fan⟩,a0.names,a0.many,x30,a0.rows,a0.clock,a0.floor⟩:model_Model) a1 a3 bo0 b1 b4 t34 hm0_11 ht35) (Γ1:=[_,_,_,_,_,_,_]) (Γ2:=[_]) S rfl rfl ?_
 rintro _ w50 M51 Γ' hM52 E' S ⟨A36,c37,A39,c40,A42,c43,A45,c46,vs48,rfl,hm49,rfl⟩
 replace HM:=Hp.le_trans HM hM52
 replace hm0_11:=MRel.mono hm0_11 hM52
 replace E:=E.trans E'
 replace S:St w50 M51 F [_,_,_,_,_,_,_,_]:=S
 refine Wl_nil (tn ?_)
 as_aux_lemma =>
 refine Wp_seq (Wp_region_lit (W_v (.agg #[.int .i64 0,.bool false,.string (bs ([]:Str)),.slice none 0 0]) (x_build2 (pl:=[(0,1),(1,1),(2,1),(3,1)]) #[.int .i64 0,.bool false,.string (bs ([]:Str)),.slice none 0 0] Tryd.underlying43 ty43 (by as_aux_lemma=>kernel_rfl) rfl (by as_aux_lemma=>kernel_rfl)) rfl ?_))
 refine W_store S 7 rfl ty43 rfl rfl [.int .i64 0,.bool false,.string (bs ([]:Str)),.slice none 0 0] rfl rfl rfl #[.int .i64 0,.bool false,.string (bs ([]:Str)),.slice none 0 0] rfl rfl ?_
 intro w53 E' S
 replace E:=E.trans E'
 refine Wl_nil (tn ?_)
 refine Wp_ret ?_
 obtain rfl:=Option.some.inj H
 replace S:=S.row_nil r_api_Pair 87
 exact ⟨_,_,_,fun w1 e1=>run_resR (vs:=[.agg #[.int .i64 0,.bool false,.string (bs ([]:Str)),.slice none ([]:List api_Pair).length 0]]) (FA.cons (⟨_,rfl,run_loadVar_agg ty43 ((S.of_eq e1).blk 8 rfl) (sub_of_extract rfl) rfl (by decide)⟩) (FA.nil)),HM,E,S.pick [0,1,2,3,4,5] (by decide),⟨none,0,A36,c37,A39,c40,A42,c43,A45,c46,vs48,rfl,hm49,rfl⟩⟩
def model_Model_commit_POOOO_l0 (k:Nat) (a0:model_Model) (a1:Int):Nat→Bool→List Str→Option ((Bool))
 | 0,_,_=>none
 | kl+1,x55,x56=>(onList x56 (some (x55)) (fun y82 todo89=>model_Model_commit_POOOO_l0 k a0 a1 kl (x55||(((mget a0.rows y82).getD (⟨[],⟨0,0,false,[]⟩⟩:model_row)).intent.Writer==a1)) todo89))
set_option maxHeartbeats 2000000 in
theorem model_Model_commit_POOOO_l0.mono {k:Nat} {a0:model_Model} {a1:Int}:∀ {kl:Nat} {x0 x1},OLe (model_Model_commit_POOOO_l0 k a0 a1 kl x0 x1) (model_Model_commit_POOOO_l0 (k+1) a0 a1 (kl+1) x0 x1):=by
 intro kl
 induction kl with
 | zero=>intros;exact OLe.none
 | succ kl ih =>
  intros
  rw [model_Model_commit_POOOO_l0.eq_2,model_Model_commit_POOOO_l0.eq_2]
  repeat' (first | with_reducible exact OLe.none | with_reducible exact OLe.some | with_reducible refine OLe.ite ?_ ?_ | with_reducible refine OLe.bind ?_ (fun _=>?_) | exact ih | refine OLe.bind ?_ (fun _=>?_) | refine OLe.ite ?_ ?_ | refine OLe.elim (fun _=>?_) (fun _=>?_) | refine OLe.onList ?_ (fun _ _=>?_) | split)
theorem model_Model_commit_POOOO_l0.perm {k:Nat} {a0:model_Model} {a1:Int} {kl:Nat} {x55:Bool} {x56:List Str} {x56':List Str} {lq:List (Str×model_row)} (hp:x56.Perm x56') (hn:x56.Nodup) (hl:(lq.map (·.1)).Nodup) (hs:∀ y∈x56,y∈lq.map (·.1)):model_Model_commit_POOOO_l0 k a0 a1 kl x55 x56=model_Model_commit_POOOO_l0 k a0 a1 kl x55 x56':=by
 refine perm_fold (fun kl s t=>model_Model_commit_POOOO_l0 k a0 a1 kl s t) _ (fun y s=>some (s||(((mget a0.rows y).getD (⟨[],⟨0,0,false,[]⟩⟩:model_row)).intent.Writer==a1))) (fun _ _=>rfl) (fun _ _ _=>rfl) (fun y z s=>?_) hp kl _
 simp only [Option.bind_some,Bool.or_assoc]
 rw [Bool.or_comm (_==a1)]
def model_Model_commit_POOOO (k:Nat) (a0:model_Model) (a1:Int) (a2:Int) (a3:api_Call):Option (api_Answer×model_Model) :=
 (if (a0.rows.map fun p:Str×model_row=>p.1).Nodup then (Option.bind (model_Model_commit_POOOO_l0 k a0 a1 k false (a0.rows.map fun p:Str×model_row=>p.1)) (fun x78=>(if (!x78)=true then (Option.bind (model_Model_end_POOOO k a0 a1 (3:Int) (0:Int)) (fun t104=>some (t104.1,t104.2))) else (if (a0.clock==a0.c.TS)=true then (Option.bind (model_Model_end_POOOO k a0 a1 (4:Int) (0:Int)) (fun t130=>some ((⟨(35:Int),false,([]:Str),([]:List api_Pair)⟩:api_Answer),t130.2))) else (Option.bind (model_Model_end_POOOO k (⟨⟨a0.c.Tasks,a0.c.Active,a0.c.Keys,a0.c.Depth,a0.c.TS,a0.c.KeyLen,a0.c.ValLen,a0.c.Fan⟩,a0.names,a0.many,a0.txs,a0.rows,(IntKind.i64.wrap (a0.clock+(1:Int))),a0.floor⟩:model_Model) a1 (3:Int) (IntKind.i64.wrap (a0.clock+(1:Int)))) (fun t155=>some (t155.1,t155.2))))))) else none)
set_option maxHeartbeats 2000000 in
theorem model_Model_commit_POOOO.mono {k:Nat} {a0:model_Model} {a1:Int} {a2:Int} {a3:api_Call}:OLe (model_Model_commit_POOOO k a0 a1 a2 a3) (model_Model_commit_POOOO (k+1) a0 a1 a2 a3):=by
 unfold model_Model_commit_POOOO
 repeat' (first | with_reducible exact OLe.none | with_reducible exact OLe.some | with_reducible refine OLe.ite ?_ ?_ | with_reducible refine OLe.bind ?_ (fun _=>?_) | with_reducible exact model_Model_commit_POOOO_l0.mono | with_reducible exact model_Model_end_POOOO.mono | refine OLe.bind ?_ (fun _=>?_) | refine OLe.ite ?_ ?_ | refine OLe.elim (fun _=>?_) (fun _=>?_) | split)
set_option maxHeartbeats 4000000 in
set_option maxRecDepth 100000 in
theorem model_Model_commit_POOOO.con (k:Nat) (M:Hp) (A0_8:Option Addr) (c0_8:Nat) (A0_9:Option Addr) (c0_9:Nat) (A0_10:Option Addr) (c0_10:Nat) (A0_11:Option Addr) (c0_11:Nat) (vs0_11:List (Str×Value)) (a0:model_Model) (a1:Int) (a2:Int) (a3:api_Call) (bo0:Nat) (r:api_Answer×model_Model) (hm0_11:MRel r_model_row M a0.rows vs0_11) (h:model_Model_commit_POOOO k a0 a1 a2 a3=some r):Con Tryd.prog 129 #[pt bo0 0,.int .i64 a1,.int .i64 a2,.agg #[.int .u8 a3.Kind,.int .i64 a3.Tx,.string (bs a3.Key),.string (bs a3.End),.string (bs a3.Value),.int .i64 a3.Limit,.int .u8 a3.Engine]] M [B94 bo0 a0 A0_8 A0_9 A0_10 c0_10 A0_11,MapC enc_model_name (Value.int .i64) A0_8 a0.names,MapC (Value.int .i64) (Value.int .i64) A0_9 a0.many,Row r_model_tx 99 (.slice A0_10 a0.txs.length c0_10) a0.txs,MapC encS (fun v:Value=>v) A0_11 vs0_11] (fun v M' Γ'=>∃ (Aq1:Option Addr) (cq2:Nat) (Aq4:Option Addr) (cq5:Nat) (Aq7:Option Addr) (cq8:Nat) (Aq10:Option Addr) (cq11:Nat) (Aq13:Option Addr) (cq14:Nat) (vsq16:List (Str×Value)),v=.agg #[.int .i64 r.1.Err,.bool r.1.Found,.string (bs r.1.Value),.slice Aq1 r.1.Pairs.length cq2]∧MRel r_model_row M' r.2.rows vsq16∧Γ'=[Row r_api_Pair 87 (.slice Aq1 r.1.Pairs.length cq2) r.1.Pairs,B94 bo0 r.2 Aq4 Aq7 Aq10 cq11 Aq13,MapC enc_model_name (Value.int .i64) Aq4 r.2.names,MapC (Value.int .i64) (Value.int .i64) Aq7 r.2.many,Row r_model_tx 99 (.slice Aq10 r.2.txs.length cq11) r.2.txs,MapC encS (fun v:Value=>v) Aq13 vsq16]):=by
 refine con_of_wp Tryd.func129 rfl Tryd.ntmps129 Tryd.results129 rfl ?_
 intro w F rn S hrn
 have E:=Ext.refl w
 have HM:=Hp.le_refl M
 have H:=h
 unfold model_Model_commit_POOOO at H
 refine Wp_seq (Wp_region_lit ?_)
 refine W_box S #[.int .u8 a3.Kind,.int .i64 a3.Tx,.string (bs a3.Key),.string (bs a3.End),.string (bs a3.Value),.int .i64 a3.Limit,.int .u8 a3.Engine] rfl rfl rfl ?_
 intro b1 w2 E' S
 replace E:=E.trans E'
 refine W_alloc S #[.int .i64 0,.bool false,.string (bs ([]:Str)),.slice none 0 0] ty43 rfl rfl ?_
 intro b4 w5 E' S
 replace E:=E.trans E'
 refine Wl_nil (tn (Wp_seq (Wp_region_lit (W_v (.bool false) (x_assign rfl) rfl (Wl_nil (tn (Wp_seq (Wp_seq (Wp_region_lit (W_v (pt bo0 0) (x_move rfl) rfl (W_v (pt bo0 0) (x_nilptr rfl) rfl (W_v (pt bo0 11) (x_fieldAddr (o:=0) (off:=11) Tryd.underlying94 rfl ty91 rfl rfl) rfl (W_v (.map (mb A0_11)) (x_load (S.blk 2 rfl) ty91 rfl rfl) rfl ?_)))))))))))))
 obtain ⟨hn7,H⟩:=chkS H
 refine W_rangeM S 6 rfl Tryd.underlying91 (by rw [hm0_11.keys];exact hn7) rfl rfl ?_
 intro b8 w9 E' S
 replace E:=E.trans E'
 rw [hm0_11.keys] at S
 replace S:St w9 M F [_,_,_,_,_,_,_]:=S
 refine Wl_nil (tn ?_)
 obtain ⟨o79,o79h,o79H⟩:=bindS H
 refine Wp_blockJ (fun ρ w'=>∃ (x78:Bool),(x78)=o79∧Agree ρ [(0,pt bo0 0),(1,.int .i64 a1),(8,pt b4 0),(9,.bool x78)]∧Ext w w'∧St w' M F [Blk b4 (.cells #[.int .i64 0,.bool false,.string (bs ([]:Str)),.slice none 0 0] 43 (0,0)),B94 bo0 a0 A0_8 A0_9 A0_10 c0_10 A0_11,MapC enc_model_name (Value.int .i64) A0_8 a0.names,MapC (Value.int .i64) (Value.int .i64) A0_9 a0.many,Row r_model_tx 99 (.slice A0_10 a0.txs.length c0_10) a0.txs,MapC encS (fun v:Value=>v) A0_11 vs0_11]) ?_ ?_
 ·skip
  refine Wp_loop (fun n ρ w'=>∃ (x55:Bool) (x56:List Str),model_Model_commit_POOOO_l0 k a0 a1 n x55 x56=some o79∧Agree ρ [(0,pt bo0 0),(1,.int .i64 a1),(8,pt b4 0),(9,.bool x55),(16,pt b8 0)]∧Ext w w'∧St w' M F [Blk b4 (.cells #[.int .i64 0,.bool false,.string (bs ([]:Str)),.slice none 0 0] 43 (0,0)),B94 bo0 a0 A0_8 A0_9 A0_10 c0_10 A0_11,MapC enc_model_name (Value.int .i64) A0_8 a0.names,MapC (Value.int .i64) (Value.int .i64) A0_9 a0.many,Row r_model_tx 99 (.slice A0_10 a0.txs.length c0_10) a0.txs,RangeM encS (fun v:Value=>v) A0_11 b8 vs0_11 x56 none]) k ?_ ?_
  ·skip
   exact ⟨false,(a0.rows.map fun p:Str×model_row=>p.1),o79h,⟨rfl,rfl,rfl,rfl,rfl,trivial⟩,E,S.pick [0,2,3,4,5,6] (by decide)⟩
  ·intro n
   rintro ρ w80 ⟨x55,x56,H,hρ,E,S⟩
   rw [agree_eta hρ]
   cases n with
   | zero=>cases H
   | succ kl =>
    refine Wp_seq (Wp_region_lit ?_)
    obtain ⟨hn81a,hn81b,hn81c⟩:=S.rangeM_facts 5 rfl
    rw [hm0_11.keys] at hn81b hn81c
    refine W_nextM S 5 rfl rfl rfl ?_ ?_
    ·intro y82 v83 w84 hy86 hv87 E' S
     replace E:=E.trans E'
     rw [model_Model_commit_POOOO_l0.perm (permE hy86) hn81a hn81b hn81c,model_Model_commit_POOOO_l0.eq_2,onList_cons] at H
     obtain ⟨cs90,hR91,he92⟩:=hm0_11.get y82 (z:=(⟨[],⟨0,0,false,[]⟩⟩:model_row)) (zc:=[.slice none 0 0,.int .i64 0,.int .i64 0,.bool false,.string (bs ([]:Str))]) ⟨_,SlW.nil _ _,rfl⟩
     rw [hv87] at he92
     obtain rfl:v83=_:=he92
     obtain ⟨v96,hs95,rfl⟩:=hR91
     obtain ⟨A93,c94,rfl,_⟩:=hs95.form
     replace S:St w84 M F [_,_,_,_,_,_]:=S
     refine W_v (.bool true) (x_extract rfl rfl) rfl (Wl_nil (tn (Wp_seq (Wp_cond_true rfl (Wp_skip (tn ?_))))))
     refine Wp_block ?_
     refine Wp_seq (Wp_region_lit (W_v (.tuple #[encS y82,.agg #[.slice A93 (((mget a0.rows y82).getD (⟨[],⟨0,0,false,[]⟩⟩:model_row)).l).length c94,.int .i64 (((mget a0.rows y82).getD (⟨[],⟨0,0,false,[]⟩⟩:model_row)).intent.Writer),.int .i64 (((mget a0.rows y82).getD (⟨[],⟨0,0,false,[]⟩⟩:model_row)).intent.TS),.bool (((mget a0.rows y82).getD (⟨[],⟨0,0,false,[]⟩⟩:model_row)).intent.Tomb),.string (bs (((mget a0.rows y82).getD (⟨[],⟨0,0,false,[]⟩⟩:model_row)).intent.Value))]]) (x_entryM (encv:=(fun v:Value=>v)) S 5 rfl hv87 rfl) rfl ?_))
     replace S:=S.rangeM_seen 5 rfl
     replace S:St w84 M F [_,_,_,_,_,_]:=S
     refine W_v (.agg #[.slice A93 (((mget a0.rows y82).getD (⟨[],⟨0,0,false,[]⟩⟩:model_row)).l).length c94,.int .i64 (((mget a0.rows y82).getD (⟨[],⟨0,0,false,[]⟩⟩:model_row)).intent.Writer),.int .i64 (((mget a0.rows y82).getD (⟨[],⟨0,0,false,[]⟩⟩:model_row)).intent.TS),.bool (((mget a0.rows y82).getD (⟨[],⟨0,0,false,[]⟩⟩:model_row)).intent.Tomb),.string (bs (((mget a0.rows y82).getD (⟨[],⟨0,0,false,[]⟩⟩:model_row)).intent.Value))]) (x_extract rfl rfl) rfl ?_
     refine W_alloc S #[.slice none 0 0,.int .i64 0,.int .i64 0,.bool false,.string (bs ([]:Str))] ty101 rfl rfl ?_
     intro b97 w98 E' S
     replace E:=E.trans E'
     refine W_store S 0 rfl ty101 rfl rfl [.slice A93 (((mget a0.rows y82).getD (⟨[],⟨0,0,false,[]⟩⟩:model_row)).l).length c94,.int .i64 (((mget a0.rows y82).getD (⟨[],⟨0,0,false,[]⟩⟩:model_row)).intent.Writer),.int .i64 (((mget a0.rows y82).getD (⟨[],⟨0,0,false,[]⟩⟩:model_row)).intent.TS),.bool (((mget a0.rows y82).getD (⟨[],⟨0,0,false,[]⟩⟩:model_row)).intent.Tomb),.string (bs (((mget a0.rows y82).getD (⟨[],⟨0,0,false,[]⟩⟩:model_row)).intent.Value))] rfl rfl rfl #[.slice A93 (((mget a0.rows y82).getD (⟨[],⟨0,0,false,[]⟩⟩:model_row)).l).length c94,.int .i64 (((mget a0.rows y82).getD (⟨[],⟨0,0,false,[]⟩⟩:model_row)).intent.Writer),.int .i64 (((mget a0.rows y82).getD (⟨[],⟨0,0,false,[]⟩⟩:model_row)).intent.TS),.bool (((mget a0.rows y82).getD (⟨[],⟨0,0,false,[]⟩⟩:model_row)).intent.Tomb),.string (bs (((mget a0.rows y82).getD (⟨[],⟨0,0,false,[]⟩⟩:model_row)).intent.Value))] rfl rfl ?_
     intro w100 E' S
     replace E:=E.trans E'
     refine Wl_nil (tn (Wp_region_lit (W_v (.bool x55) (x_move rfl) rfl (W_v (.bool x55) (x_move rfl) rfl ?_))))
     refine Wl_cutN 6 (fun ρ w'=>Agree ρ [(0,pt bo0 0),(1,.int .i64 a1),(8,pt b4 0),(16,pt b8 0),(28,.bool (x55||(((mget a0.rows y82).getD (⟨[],⟨0,0,false,[]⟩⟩:model_row)).intent.Writer==a1)))]∧w100=w') ?_ ?_
     ·rcases boolCases x55 with hb101 | hb101
      ·skip
       refine W_yes (congrArg some hb101) (W_v (pt b97 1) (x_fieldAddr (o:=0) (off:=1) Tryd.underlying101 rfl ty61 rfl rfl) rfl (W_yes (congrArg some hb101) (W_v (pt b97 1) (x_fieldAddr (o:=1) (off:=0) Tryd.underlying61 rfl ty3 rfl rfl) rfl (W_yes (congrArg some hb101) (W_v (.int .i64 (((mget a0.rows y82).getD (⟨[],⟨0,0,false,[]⟩⟩:model_row)).intent.Writer)) (x_load (S.blk 0 rfl) ty3 rfl rfl) rfl (W_yes (congrArg some hb101) (W_v (.int .i64 a1) (x_move rfl) rfl (W_yes (congrArg some hb101) (W_v (.bool (((mget a0.rows y82).getD (⟨[],⟨0,0,false,[]⟩⟩:model_row)).intent.Writer==a1)) (x_ibin rfl rfl rfl rfl) rfl (W_v (.bool (((mget a0.rows y82).getD (⟨[],⟨0,0,false,[]⟩⟩:model_row)).intent.Writer==a1)) (x_pick (k:=false) (congrArg Value.bool hb101) rfl) rfl (Wl_nil ?_)))))))))))
       exact ⟨⟨rfl,rfl,rfl,rfl,(by first | rfl | (rw [hb101];rfl) | (simp only [hb101];rfl)),trivial⟩,rfl⟩
      ·skip
       refine W_no (skF hb101) rfl (W_no (skF hb101) rfl (W_no (skF hb101) rfl (W_no (skF hb101) rfl (W_no (skF hb101) rfl (W_v (.bool true) (x_pick (k:=true) (congrArg Value.bool hb101) rfl) rfl (Wl_nil ?_))))))
       exact ⟨⟨rfl,rfl,rfl,rfl,(by first | rfl | (rw [hb101];rfl) | (simp only [hb101];rfl)),trivial⟩,rfl⟩
     rintro ρ _ ⟨hρ,rfl⟩
     rw [agree_eta hρ]
     refine W_v (.bool (x55||(((mget a0.rows y82).getD (⟨[],⟨0,0,false,[]⟩⟩:model_row)).intent.Writer==a1))) (x_assign rfl) rfl (Wl_nil (bn (tn ?_)))
     exact ⟨kl,Nat.lt_succ_self kl,⟨(x55||(((mget a0.rows y82).getD (⟨[],⟨0,0,false,[]⟩⟩:model_row)).intent.Writer==a1)),(er x56 y82),H,⟨rfl,rfl,rfl,rfl,rfl,trivial⟩,E,S.pick [1,2,3,4,5,6] (by decide)⟩⟩
    ·intro w85 ht88 E' S
     replace E:=E.trans E'
     rw [ht88,model_Model_commit_POOOO_l0.eq_2,onList_nil] at H
     replace S:=S.rangeM_end 5 rfl
     replace S:St w85 M F [_,_,_,_,_,_]:=S
     refine W_v (.bool false) (x_extract rfl rfl) rfl (Wl_nil (tn (Wp_seq (Wp_cond_false rfl ?_))))
     refine Wp_exit ?_
     refine tx (tx (bsm (?_)))
     refine tn ?_
     exact ⟨x55,Option.some.inj H,⟨rfl,rfl,rfl,rfl,trivial⟩,E,S.pick [0,1,2,3,4,5] (by decide)⟩
 rintro ρ w102 ⟨x78,rfl,hρ,E,S⟩
 rw [agree_eta hρ]
 have H:=o79H
 refine tn ?_
 as_aux_lemma =>
 refine Wp_seq ?_
 refine Wp_block ?_
 refine Wp_seq (Wp_region_lit (W_v (.bool x78) (x_move rfl) rfl (W_v (.bool (!x78)) (x_not (b:=x78) rfl) rfl (W_v (.bool (!x78)) (x_assign rfl) rfl (Wl_nil (tn ?_))))))
 rcases iteS H with ⟨hb103,H⟩ | ⟨hb103,H⟩
 ·refine Wp_cond_true (congrArg Value.bool hb103) ?_
  refine Wp_seq (Wp_region_lit (W_v (pt bo0 0) (x_move rfl) rfl (W_v (.int .i64 a1) (x_move rfl) rfl ?_)))
  obtain ⟨t104,ht105,H⟩:=bindS H
  replace S:St w102 M F [_,_,_,_,_,_]:=S.pick [1,2,3,4,5,0] (by decide)
  refine W_call fn136 (model_Model_end_POOOO.con k M A0_8 c0_8 A0_9 c0_9 A0_10 c0_10 A0_11 c0_11 vs0_11 a0 a1 (3:Int) (0:Int) bo0 t104 hm0_11 ht105) (Γ1:=[_,_,_,_,_]) (Γ2:=[_]) S rfl rfl ?_
  rintro _ w123 M124 Γ' hM125 E' S ⟨A106,c107,A109,c110,A112,c113,A115,c116,A118,c119,vs121,rfl,hm122,rfl⟩
  replace HM:=Hp.le_trans HM hM125
  replace hm0_11:=MRel.mono hm0_11 hM125
  replace E:=E.trans E'
  replace S:St w123 M124 F [_,_,_,_,_,_,_]:=S
  refine W_store S 6 rfl ty43 rfl rfl [.int .i64 t104.1.Err,.bool t104.1.Found,.string (bs t104.1.Value),.slice A106 t104.1.Pairs.length c107] rfl rfl rfl #[.int .i64 t104.1.Err,.bool t104.1.Found,.string (bs t104.1.Value),.slice A106 t104.1.Pairs.length c107] rfl rfl ?_
  intro w126 E' S
  replace E:=E.trans E'
  refine Wl_nil (tn ?_)
  refine Wp_ret ?_
  refine br (tr (?_))
  obtain rfl:=Option.some.inj H
  exact ⟨_,_,_,fun w1 e1=>run_resR (vs:=[.agg #[.int .i64 t104.1.Err,.bool t104.1.Found,.string (bs t104.1.Value),.slice A106 t104.1.Pairs.length c107]]) (FA.cons (⟨_,rfl,run_loadVar_agg ty43 ((S.of_eq e1).blk 6 rfl) (sub_of_extract rfl) rfl (by decide)⟩) (FA.nil)),HM,E,S.pick [0,1,2,3,4,5] (by decide),⟨A106,c107,A109,c110,A112,c113,A115,c116,A118,c119,vs121,rfl,hm122,rfl⟩⟩
 refine Wp_cond_false (congrArg Value.bool hb103) (Wp_seq ?_)
 refine Wp_region_any (S:=fun w'=>∃ Mx,M.le Mx∧St w' Mx F [Blk b4 (.cells #[.int .i64 0,.bool false,.string (bs ([]:Str)),.slice none 0 0] 43 (0,0)),B94 bo0 a0 A0_8 A0_9 A0_10 c0_10 A0_11,MapC enc_model_name (Value.int .i64) A0_8 a0.names,MapC (Value.int .i64) (Value.int .i64) A0_9 a0.many,Row r_model_tx 99 (.slice A0_10 a0.txs.length c0_10) a0.txs,MapC encS (fun v:Value=>v) A0_11 vs0_11]) (L:=11) mixed ?_
 intro w127 hw128 E'
 replace S:=S.heap hw128
 replace E:=E.trans E'
 have D1:∃ Mx,Hp.le M Mx∧St _ Mx F [_,_,_,_,_,_]:=⟨_,Hp.le_refl _,S.pick [0,1,2,3,4,5] (by decide)⟩
 refine Wa_take (i:=0) rfl (by kernel_rfl) rfl rfl (pt bo0 0) rfl (fun w' h'=>x_move rfl) D1 (Wa_take (i:=1) rfl (by kernel_rfl) rfl rfl (pt bo0 0) rfl (fun w' h'=>x_nilptr rfl) D1 (Wa_take (i:=2) rfl (by kernel_rfl) rfl rfl (pt bo0 12) rfl (fun w' h'=>x_fieldAddr (o:=0) (off:=12) Tryd.underlying94 rfl ty3 rfl rfl) D1 (Wa_take (i:=3) rfl (by kernel_rfl) rfl rfl (.int .i64 a0.clock) rfl (fun w' h'=>x_load (cls_blk h' 1 rfl) ty3 rfl rfl) D1 (Wa_take (i:=4) rfl (by kernel_rfl) rfl rfl (pt bo0 0) rfl (fun w' h'=>x_move rfl) D1 (Wa_take (i:=5) rfl (by kernel_rfl) rfl rfl (pt bo0 0) rfl (fun w' h'=>x_nilptr rfl) D1 (Wa_take (i:=6) rfl (by kernel_rfl) rfl rfl (pt bo0 0) rfl (fun w' h'=>x_fieldAddr (o:=0) (off:=0) Tryd.underlying94 rfl ty23 rfl rfl) D1 (Wa_take (i:=7) rfl (by kernel_rfl) rfl rfl (pt bo0 4) rfl (fun w' h'=>x_fieldAddr (o:=0) (off:=4) Tryd.underlying23 rfl ty3 rfl rfl) D1 (Wa_take (i:=8) rfl (by kernel_rfl) rfl rfl (.int .i64 a0.c.TS) rfl (fun w' h'=>x_load (cls_blk h' 1 rfl) ty3 rfl rfl) D1 (Wa_take (i:=9) rfl (by kernel_rfl) rfl rfl (.bool (a0.clock==a0.c.TS)) rfl (fun w' h'=>x_ibin rfl rfl rfl rfl) D1 (Wa_take (i:=10) rfl (by kernel_rfl) rfl rfl (.bool (a0.clock==a0.c.TS)) rfl (fun w' h'=>x_assign rfl) D1 ?_))))))))))
 refine Wa_done (by kernel_rfl) ?_
 refine tn ?_
 rcases iteS H with ⟨hb129,H⟩ | ⟨hb129,H⟩
 ·refine Wp_cond_true (congrArg Value.bool hb129) ?_
  refine Wp_seq (Wp_region_lit (W_v (pt bo0 0) (x_move rfl) rfl (W_v (.int .i64 a1) (x_move rfl) rfl ?_)))
  obtain ⟨t130,ht131,H⟩:=bindS H
  replace S:St w127 M F [_,_,_,_,_,_]:=S.pick [1,2,3,4,5,0] (by decide)
  refine W_call fn136 (model_Model_end_POOOO.con k M A0_8 c0_8 A0_9 c0_9 A0_10 c0_10 A0_11 c0_11 vs0_11 a0 a1 (4:Int) (0:Int) bo0 t130 hm0_11 ht131) (Γ1:=[_,_,_,_,_]) (Γ2:=[_]) S rfl rfl ?_
  rintro _ w149 M150 Γ' hM151 E' S ⟨A132,c133,A135,c136,A138,c139,A141,c142,A144,c145,vs147,rfl,hm148,rfl⟩
  replace HM:=Hp.le_trans HM hM151
  replace hm0_11:=MRel.mono hm0_11 hM151
  replace E:=E.trans E'
  replace S:St w149 M150 F [_,_,_,_,_,_,_]:=S
  refine Wl_nil (tn (Wp_seq (Wp_region_lit (W_v (.agg #[.int .i64 35,.bool false,.string (bs ([]:Str)),.slice none 0 0]) (x_build2 (pl:=[(0,1),(1,1),(2,1),(3,1)]) #[.int .i64 35,.bool false,.string (bs ([]:Str)),.slice none 0 0] Tryd.underlying43 ty43 (by as_aux_lemma=>kernel_rfl) rfl (by as_aux_lemma=>kernel_rfl)) rfl ?_))))
  refine W_store S 6 rfl ty43 rfl rfl [.int .i64 35,.bool false,.string (bs ([]:Str)),.slice none 0 0] rfl rfl rfl #[.int .i64 35,.bool false,.string (bs ([]:Str)),.slice none 0 0] rfl rfl ?_
  intro w152 E' S
  replace E:=E.trans E'
  refine Wl_nil (tn ?_)
  refine Wp_ret ?_
  refine br (tr (?_))
  obtain rfl:=Option.some.inj H
  replace S:=S.row_nil r_api_Pair 87
  exact ⟨_,_,_,fun w1 e1=>run_resR (vs:=[.agg #[.int .i64 35,.bool false,.string (bs ([]:Str)),.slice none ([]:List api_Pair).length 0]]) (FA.cons (⟨_,rfl,run_loadVar_agg ty43 ((S.of_eq e1).blk 7 rfl) (sub_of_extract rfl) rfl (by decide)⟩) (FA.nil)),HM,E,S.pick [0,2,3,4,5,6] (by decide),⟨none,0,A135,c136,A138,c139,A141,c142,A144,c145,vs147,rfl,hm148,rfl⟩⟩
 refine Wp_cond_false (congrArg Value.bool hb129) (Wp_skip (bn (tn ?_)))
 as_aux_lemma =>
 refine Wp_seq (Wp_region_lit (W_v (pt bo0 0) (x_move rfl) rfl (W_v (pt bo0 0) (x_nilptr rfl) rfl (W_v (pt bo0 12) (x_fieldAddr (o:=0) (off:=12) Tryd.underlying94 rfl ty3 rfl rfl) rfl (W_v (.int .i64 a0.clock) (x_load (S.blk 1 rfl) ty3 rfl rfl) rfl (W_v (.int .i64 (IntKind.i64.wrap (a0.clock+(1:Int)))) (x_ibin rfl rfl rfl rfl) rfl (W_v (pt bo0 0) (x_nilptr rfl) rfl (W_v (pt bo0 12) (x_fieldAddr (o:=0) (off:=12) Tryd.underlying94 rfl ty3 rfl rfl) rfl ?_))))))))
 refine W_store S 1 rfl ty3 rfl rfl [.int .i64 (IntKind.i64.wrap (a0.clock+(1:Int)))] rfl rfl rfl #[.int .i64 a0.c.Tasks,.int .i64 a0.c.Active,.int .i64 a0.c.Keys,.int .i64 a0.c.Depth,.int .i64 a0.c.TS,.int .i64 a0.c.KeyLen,.int .i64 a0.c.ValLen,.int .i64 a0.c.Fan,.map (mb A0_8),.map (mb A0_9),.slice A0_10 a0.txs.length c0_10,.map (mb A0_11),.int .i64 (IntKind.i64.wrap (a0.clock+(1:Int))),.int .i64 a0.floor] rfl rfl ?_
 intro w154 E' S
 replace E:=E.trans E'
 refine Wl_nil (tn (Wp_seq (Wp_region_lit (W_v (pt bo0 0) (x_move rfl) rfl (W_v (.int .i64 a1) (x_move rfl) rfl (W_v (pt bo0 0) (x_move rfl) rfl (W_v (pt bo0 0) (x_nilptr rfl) rfl (W_v (pt bo0 12) (x_fieldAddr (o:=0) (off:=12) Tryd.underlying94 rfl ty3 rfl rfl) rfl (W_v (.int .i64 (IntKind.i64.wrap (a0.clock+(1:Int)))) (x_load (S.blk 1 rfl) ty3 rfl rfl) rfl ?_)))))))))
 obtain ⟨t155,ht156,H⟩:=bindS H
 replace S:St w154 M F [_,_,_,_,_,_]:=S.pick [1,2,3,4,5,0] (by decide)
 refine W_call fn136 (model_Model_end_POOOO.con k M A0_8 c0_8 A0_9 c0_9 A0_10 c0_10 A0_11 c0_11 vs0_11 (⟨⟨a0.c.Tasks,a0.c.Active,a0.c.Keys,a0.c.Depth,a0.c.TS,a0.c.KeyLen,a0.c.ValLen,a0.c.Fan⟩,a0.names,a0.many,a0.txs,a0.rows,(IntKind.i64.wrap (a0.clock+(1:Int))),a0.floor⟩:model_Model) a1 (3:Int) (IntKind.i64.wrap (a0.clock+(1:Int))) bo0 t155 hm0_11 ht156) (Γ1:=[_,_,_,_,_]) (Γ2:=[_]) S rfl rfl ?_
 rintro _ w174 M175 Γ' hM176 E' S ⟨A157,c158,A160,c161,A163,c164,A166,c167,A169,c170,vs172,rfl,hm173,rfl⟩
 replace HM:=Hp.le_trans HM hM176
 replace hm0_11:=MRel.mono hm0_11 hM176
 replace E:=E.trans E'
 replace S:St w174 M175 F [_,_,_,_,_,_,_]:=S
 refine W_store S 6 rfl ty43 rfl rfl [.int .i64 t155.1.Err,.bool t155.1.Found,.string (bs t155.1.Value),.slice A157 t155.1.Pairs.length c158] rfl rfl rfl #[.int .i64 t155.1.Err,.bool t155.1.Found,.string (bs t155.1.Value),.slice A157 t155.1.Pairs.length c158] rfl rfl ?_
 intro w177 E' S
 replace E:=E.trans E'
 refine Wl_nil (tn ?_)
 refine Wp_ret ?_
 obtain rfl:=Option.some.inj H
 exact ⟨_,_,_,fun w1 e1=>run_resR (vs:=[.agg #[.int .i64 t155.1.Err,.bool t155.1.Found,.string (bs t155.1.Value),.slice A157 t155.1.Pairs.length c158]]) (FA.cons (⟨_,rfl,run_loadVar_agg ty43 ((S.of_eq e1).blk 6 rfl) (sub_of_extract rfl) rfl (by decide)⟩) (FA.nil)),HM,E,S.pick [0,1,2,3,4,5] (by decide),⟨A157,c158,A160,c161,A163,c164,A166,c167,A169,c170,vs172,rfl,hm173,rfl⟩⟩
end Go.Proofs.YtcngjjlhdlbogaaDoor
