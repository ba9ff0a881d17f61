import Derived.Test.YtcngjjlhdlbogaaDoorGm4B
import Derived.Test.YtcngjjlhdlbogaaDoorGm4P0
import Derived.Test.YtcngjjlhdlbogaaDoorGm4P1
namespace Go.Proofs.YtcngjjlhdlbogaaDoor
open Go
set_option linter.unusedVariables false
set_option linter.unusedSimpArgs false
def model_Model_abort_POOOO (k:Nat) (a0:model_Model) (a1:Int) (a2:Int) (a3:api_Call):Option (api_Answer×model_Model) :=
 (Option.bind (model_Model_end_POOOO k a0 a1 (4:Int) (0:Int)) (fun t7=>some (t7.1,t7.2)))
set_option maxHeartbeats 2000000 in
theorem model_Model_abort_POOOO.mono {k:Nat} {a0:model_Model} {a1:Int} {a2:Int} {a3:api_Call}:OLe (model_Model_abort_POOOO k a0 a1 a2 a3) (model_Model_abort_POOOO (k+1) a0 a1 a2 a3):=by
 unfold model_Model_abort_POOOO
 repeat' (first | with_reducible exact OLe.none | with_reducible exact OLe.some | with_reducible refine OLe.ite ?_ ?_ | with_reducible refine OLe.bind ?_ (fun _=>?_) | with_reducible exact model_Model_end_POOOO.mono | refine OLe.bind ?_ (fun _=>?_) | refine OLe.ite ?_ ?_ | refine OLe.elim (fun _=>?_) (fun _=>?_) | split)
set_option maxHeartbeats 4000000 in
set_option maxRecDepth 100000 in
theorem model_Model_abort_POOOO.con (k:Nat) (M:Hp) (A0_8:Option Addr) (c0_8:Nat) (A0_9:Option Addr) (c0_9:Nat) (A0_10:Option Addr) (c0_10:Nat) (A0_11:Option Addr) (c0_11:Nat) (vs0_11:List (Str×Value)) (a0:model_Model) (a1:Int) (a2:Int) (a3:api_Call) (bo0:Nat) (r:api_Answer×model_Model) (hm0_11:MRel r_model_row M a0.rows vs0_11) (h:model_Model_abort_POOOO k a0 a1 a2 a3=some r):Con Tryd.prog 130 #[pt bo0 0,.int .i64 a1,.int .i64 a2,.agg #[.int .u8 a3.Kind,.int .i64 a3.Tx,.string (bs a3.Key),.string (bs a3.End),.string (bs a3.Value),.int .i64 a3.Limit,.int .u8 a3.Engine]] M [B94 bo0 a0 A0_8 A0_9 A0_10 c0_10 A0_11,MapC enc_model_name (Value.int .i64) A0_8 a0.names,MapC (Value.int .i64) (Value.int .i64) A0_9 a0.many,Row r_model_tx 99 (.slice A0_10 a0.txs.length c0_10) a0.txs,MapC encS (fun v:Value=>v) A0_11 vs0_11] (fun v M' Γ'=>∃ (Aq1:Option Addr) (cq2:Nat) (Aq4:Option Addr) (cq5:Nat) (Aq7:Option Addr) (cq8:Nat) (Aq10:Option Addr) (cq11:Nat) (Aq13:Option Addr) (cq14:Nat) (vsq16:List (Str×Value)),v=.agg #[.int .i64 r.1.Err,.bool r.1.Found,.string (bs r.1.Value),.slice Aq1 r.1.Pairs.length cq2]∧MRel r_model_row M' r.2.rows vsq16∧Γ'=[Row r_api_Pair 87 (.slice Aq1 r.1.Pairs.length cq2) r.1.Pairs,B94 bo0 r.2 Aq4 Aq7 Aq10 cq11 Aq13,MapC enc_model_name (Value.int .i64) Aq4 r.2.names,MapC (Value.int .i64) (Value.int .i64) Aq7 r.2.many,Row r_model_tx 99 (.slice Aq10 r.2.txs.length cq11) r.2.txs,MapC encS (fun v:Value=>v) Aq13 vsq16]):=by
 refine con_of_wp Tryd.func130 rfl Tryd.ntmps130 Tryd.results130 rfl ?_
 intro w F rn S hrn
 have E:=Ext.refl w
 have HM:=Hp.le_refl M
 have H:=h
 unfold model_Model_abort_POOOO at H
 refine Wp_seq (Wp_region_lit ?_)
 refine W_box S #[.int .u8 a3.Kind,.int .i64 a3.Tx,.string (bs a3.Key),.string (bs a3.End),.string (bs a3.Value),.int .i64 a3.Limit,.int .u8 a3.Engine] rfl rfl rfl ?_
 intro b1 w2 E' S
 replace E:=E.trans E'
 refine W_alloc S #[.int .i64 0,.bool false,.string (bs ([]:Str)),.slice none 0 0] ty43 rfl rfl ?_
 intro b4 w5 E' S
 replace E:=E.trans E'
 refine Wl_nil (tn (Wp_seq (Wp_region_lit (W_v (pt bo0 0) (x_move rfl) rfl (W_v (.int .i64 a1) (x_move rfl) rfl ?_)))))
 obtain ⟨t7,ht8,H⟩:=bindS H
 replace S:St w5 M F [_,_,_,_,_,_,_]:=S.pick [2,3,4,5,6,0,1] (by decide)
 refine W_call fn136 (model_Model_end_POOOO.con k M A0_8 c0_8 A0_9 c0_9 A0_10 c0_10 A0_11 c0_11 vs0_11 a0 a1 (4:Int) (0:Int) bo0 t7 hm0_11 ht8) (Γ1:=[_,_,_,_,_]) (Γ2:=[_,_]) S rfl rfl ?_
 rintro _ w26 M27 Γ' hM28 E' S ⟨A9,c10,A12,c13,A15,c16,A18,c19,A21,c22,vs24,rfl,hm25,rfl⟩
 replace HM:=Hp.le_trans HM hM28
 replace hm0_11:=MRel.mono hm0_11 hM28
 replace E:=E.trans E'
 replace S:St w26 M27 F [_,_,_,_,_,_,_,_]:=S
 refine W_store S 6 rfl ty43 rfl rfl [.int .i64 t7.1.Err,.bool t7.1.Found,.string (bs t7.1.Value),.slice A9 t7.1.Pairs.length c10] rfl rfl rfl #[.int .i64 t7.1.Err,.bool t7.1.Found,.string (bs t7.1.Value),.slice A9 t7.1.Pairs.length c10] rfl rfl ?_
 intro w29 E' S
 replace E:=E.trans E'
 refine Wl_nil (tn ?_)
 refine Wp_ret ?_
 obtain rfl:=Option.some.inj H
 exact ⟨_,_,_,fun w1 e1=>run_resR (vs:=[.agg #[.int .i64 t7.1.Err,.bool t7.1.Found,.string (bs t7.1.Value),.slice A9 t7.1.Pairs.length c10]]) (FA.cons (⟨_,rfl,run_loadVar_agg ty43 ((S.of_eq e1).blk 6 rfl) (sub_of_extract rfl) rfl (by decide)⟩) (FA.nil)),HM,E,S.pick [0,1,2,3,4,5] (by decide),⟨A9,c10,A12,c13,A15,c16,A18,c19,A21,c22,vs24,rfl,hm25,rfl⟩⟩
def model_Model_vacuum_1_POOOX (k:Nat) (a0:model_row) (ac_0:model_Model):Option (model_row) :=
 (Option.bind (keep_Kept k a0.l ac_0.floor) (fun t16=>some (⟨t16,⟨a0.intent.Writer,a0.intent.TS,a0.intent.Tomb,a0.intent.Value⟩⟩:model_row)))
set_option maxHeartbeats 2000000 in
theorem model_Model_vacuum_1_POOOX.mono {k:Nat} {a0:model_row} {ac_0:model_Model}:OLe (model_Model_vacuum_1_POOOX k a0 ac_0) (model_Model_vacuum_1_POOOX (k+1) a0 ac_0):=by
 unfold model_Model_vacuum_1_POOOX
 repeat' (first | with_reducible exact OLe.none | with_reducible exact OLe.some | with_reducible refine OLe.ite ?_ ?_ | with_reducible refine OLe.bind ?_ (fun _=>?_) | with_reducible exact keep_Kept.mono | refine OLe.bind ?_ (fun _=>?_) | refine OLe.ite ?_ ?_ | refine OLe.elim (fun _=>?_) (fun _=>?_) | split)
set_option maxHeartbeats 4000000 in
set_option maxRecDepth 100000 in
theorem model_Model_vacuum_1_POOOX.con (k:Nat) (M:Hp) (A0_0:Option Addr) (c0_0:Nat) (a0:model_row) (Ac_0_8:Option Addr) (cc_0_8:Nat) (Ac_0_9:Option Addr) (cc_0_9:Nat) (Ac_0_10:Option Addr) (cc_0_10:Nat) (Ac_0_11:Option Addr) (cc_0_11:Nat) (ac_0:model_Model) (bc_0:Nat) (boc_0:Nat) (r:model_row) (hr0_0:SlR r_api_Version M (.slice A0_0 a0.l.length c0_0) a0.l) (h:model_Model_vacuum_1_POOOX k a0 ac_0=some r):Con Tryd.prog 138 #[.agg #[.slice A0_0 a0.l.length c0_0,.int .i64 a0.intent.Writer,.int .i64 a0.intent.TS,.bool a0.intent.Tomb,.string (bs a0.intent.Value)],pt bc_0 0] M [Blk bc_0 (.cells #[pt boc_0 0] 27 (0,0)),B94 boc_0 ac_0 Ac_0_8 Ac_0_9 Ac_0_10 cc_0_10 Ac_0_11,MapC enc_model_name (Value.int .i64) Ac_0_8 ac_0.names,MapC (Value.int .i64) (Value.int .i64) Ac_0_9 ac_0.many,Row r_model_tx 99 (.slice Ac_0_10 ac_0.txs.length cc_0_10) ac_0.txs] (fun v M' Γ'=>∃ (Aq1:Option Addr) (cq2:Nat),v=.agg #[.slice Aq1 r.l.length cq2,.int .i64 r.intent.Writer,.int .i64 r.intent.TS,.bool r.intent.Tomb,.string (bs r.intent.Value)]∧Γ'=[Row r_api_Version 61 (.slice Aq1 r.l.length cq2) r.l,Blk bc_0 (.cells #[pt boc_0 0] 27 (0,0)),B94 boc_0 ac_0 Ac_0_8 Ac_0_9 Ac_0_10 cc_0_10 Ac_0_11,MapC enc_model_name (Value.int .i64) Ac_0_8 ac_0.names,MapC (Value.int .i64) (Value.int .i64) Ac_0_9 ac_0.many,Row r_model_tx 99 (.slice Ac_0_10 ac_0.txs.length cc_0_10) ac_0.txs]):=by
 refine con_of_wp Tryd.func138 rfl Tryd.ntmps138 Tryd.results138 rfl ?_
 intro w F rn S hrn
 have E:=Ext.refl w
 have HM:=Hp.le_refl M
 have H:=h
 unfold model_Model_vacuum_1_POOOX at H
 refine Wp_seq (Wp_region_lit ?_)
 refine W_box S #[.slice A0_0 a0.l.length c0_0,.int .i64 a0.intent.Writer,.int .i64 a0.intent.TS,.bool a0.intent.Tomb,.string (bs a0.intent.Value)] rfl rfl rfl ?_
 intro b1 w2 E' S
 replace E:=E.trans E'
 refine W_alloc S #[.slice none 0 0,.int .i64 0,.int .i64 0,.bool false,.string (bs ([]:Str))] ty101 rfl rfl ?_
 intro b4 w5 E' S
 replace E:=E.trans E'
 refine Wl_nil (tn (Wp_seq ?_))
 refine Wp_region_any (S:=fun w'=>∃ Mx,M.le Mx∧St w' Mx F [Blk b4 (.cells #[.slice none 0 0,.int .i64 0,.int .i64 0,.bool false,.string (bs ([]:Str))] 101 (0,0)),B101 b1 a0 A0_0 c0_0,Blk bc_0 (.cells #[pt boc_0 0] 27 (0,0)),B94 boc_0 ac_0 Ac_0_8 Ac_0_9 Ac_0_10 cc_0_10 Ac_0_11,MapC enc_model_name (Value.int .i64) Ac_0_8 ac_0.names,MapC (Value.int .i64) (Value.int .i64) Ac_0_9 ac_0.many,Row r_model_tx 99 (.slice Ac_0_10 ac_0.txs.length cc_0_10) ac_0.txs]) (L:=10) mixed ?_
 intro w14 hw15 E'
 replace S:=S.heap hw15
 replace E:=E.trans E'
 have D1:∃ Mx,Hp.le M Mx∧St _ Mx F [_,_,_,_,_,_,_]:=⟨_,Hp.le_refl _,S.pick [0,1,2,3,4,5,6] (by decide)⟩
 refine Wa_take (i:=0) rfl (by kernel_rfl) rfl rfl (pt b1 0) rfl (fun w' h'=>x_fieldAddr (o:=0) (off:=0) Tryd.underlying101 rfl ty65 rfl rfl) D1 (Wa_take (i:=1) rfl (by kernel_rfl) rfl rfl (.slice A0_0 a0.l.length c0_0) rfl (fun w' h'=>x_load (cls_blk h' 1 rfl) ty65 rfl rfl) D1 (Wa_take (i:=2) rfl (by kernel_rfl) rfl rfl (pt boc_0 0) rfl (fun w' h'=>x_load (cls_blk h' 2 rfl) ty27 rfl rfl) D1 (Wa_take (i:=3) rfl (by kernel_rfl) rfl rfl (pt boc_0 0) rfl (fun w' h'=>x_nilptr rfl) D1 (Wa_take (i:=4) rfl (by kernel_rfl) rfl rfl (pt boc_0 13) rfl (fun w' h'=>x_fieldAddr (o:=0) (off:=13) Tryd.underlying94 rfl ty3 rfl rfl) D1 (Wa_take (i:=5) rfl (by kernel_rfl) rfl rfl (.int .i64 ac_0.floor) rfl (fun w' h'=>x_load (cls_blk h' 3 rfl) ty3 rfl rfl) D1 (Wa_take (i:=7) rfl (by kernel_rfl) rfl rfl (pt b1 1) rfl (fun w' h'=>x_fieldAddr (o:=0) (off:=1) Tryd.underlying101 rfl ty61 rfl rfl) D1 (Wa_take (i:=8) rfl (by kernel_rfl) rfl rfl (.agg #[.int .i64 a0.intent.Writer,.int .i64 a0.intent.TS,.bool a0.intent.Tomb,.string (bs a0.intent.Value)]) rfl (fun w' h'=>x_loadA (cls_blk h' 1 rfl) ty61 rfl (sub_of_extract rfl) rfl rfl) D1 ?_)))))))
 refine Wa_solo (i:=6) rfl (by kernel_rfl) ?_
 obtain ⟨t16,ht17,H⟩:=bindS H
 refine W_callF fn139 (keep_Kept.con k M A0_0 c0_0 a0.l ac_0.floor t16 hr0_0 ht17) S rfl rfl (by rintro _ _ _ ⟨_,_,_,rfl⟩;exact (flat_cons (flat_row (fun _ _ _ _ h=>h)) flat_nil)) ?_
 rintro _ w21 _ Γ' E' S ⟨A18,c19,rfl,rfl⟩
 replace E:=E.trans E'
 refine Wl_nil (on_n ⟨.inr ⟨M,Hp.le_refl M,(S.pick [1,2,3,4,5,6,7] (by decide))⟩,?_⟩)
 refine Wa_take (i:=9) rfl (by kernel_rfl) rfl rfl (.agg #[.slice A18 t16.length c19,.int .i64 a0.intent.Writer,.int .i64 a0.intent.TS,.bool a0.intent.Tomb,.string (bs a0.intent.Value)]) rfl (fun w' h'=>x_build2 (pl:=[(0,1),(1,4)]) #[.slice A18 t16.length c19,.int .i64 a0.intent.Writer,.int .i64 a0.intent.TS,.bool a0.intent.Tomb,.string (bs a0.intent.Value)] Tryd.underlying101 ty101 (by as_aux_lemma=>kernel_rfl) rfl (by as_aux_lemma=>kernel_rfl)) (⟨M,Hp.le_refl M,(S.pick [1,2,3,4,5,6,7] (by decide))⟩) ?_
 refine Wa_solo (i:=10) rfl (by kernel_rfl) ?_
 refine W_store S 1 rfl ty101 rfl rfl [.slice A18 t16.length c19,.int .i64 a0.intent.Writer,.int .i64 a0.intent.TS,.bool a0.intent.Tomb,.string (bs a0.intent.Value)] rfl rfl rfl #[.slice A18 t16.length c19,.int .i64 a0.intent.Writer,.int .i64 a0.intent.TS,.bool a0.intent.Tomb,.string (bs a0.intent.Value)] rfl rfl ?_
 intro w22 E' S
 replace E:=E.trans E'
 refine Wl_nil (on_n ⟨.inl (by decide),?_⟩)
 refine Wa_done (by kernel_rfl) ?_
 refine tn ?_
 refine Wp_ret ?_
 obtain rfl:=Option.some.inj H
 exact ⟨_,_,_,fun w1 e1=>run_resR (vs:=[.agg #[.slice A18 t16.length c19,.int .i64 a0.intent.Writer,.int .i64 a0.intent.TS,.bool a0.intent.Tomb,.string (bs a0.intent.Value)]]) (FA.cons (⟨_,rfl,run_loadVar_agg ty101 ((S.of_eq e1).blk 1 rfl) (sub_of_extract rfl) rfl (by decide)⟩) (FA.nil)),HM,E,S.pick [0,3,4,5,6,7] (by decide),⟨A18,c19,rfl,rfl⟩⟩
def model_Model_each_POOOO_Model_vacuum_1_Q_l0 (k:Nat) (a0:model_Model):Nat→List (Str×model_row)→List Str→Option (((List (Str×model_row))))
 | 0,_,_=>none
 | kl+1,x372,x378=>(onList x378 (some (x372)) (fun y567 todo574=>(Option.bind (α:=(List (Str×model_row))) (Option.bind (model_Model_vacuum_1_POOOX k ((mget x372 y567).getD (⟨[],⟨0,0,false,[]⟩⟩:model_row)) (⟨⟨a0.c.Tasks,a0.c.Active,a0.c.Keys,a0.c.Depth,a0.c.TS,a0.c.KeyLen,a0.c.ValLen,a0.c.Fan⟩,a0.names,a0.many,a0.txs,x372,a0.clock,a0.floor⟩:model_Model)) (fun t669=>(if y567∈x372.map (fun p=>p.1) then (Option.bind (α:=List (Str×model_row)) (some (mput x372 y567 t669)) (fun x702=>(Option.bind (α:=(List (Str×model_row))) (if (((t669.l.length:Int)==(0:Int))&&(t669.intent.Writer==(0:Int)))=true then (if y567 ∉ todo574 then (Option.bind (α:=List (Str×model_row)) (some (mdel x702 y567)) (fun x734=>some (x734))) else none) else some (x702)) (fun x724=>some (x724))))) else none))) (fun x657=>model_Model_each_POOOO_Model_vacuum_1_Q_l0 k a0 kl x657 todo574))))
set_option maxHeartbeats 2000000 in
theorem model_Model_each_POOOO_Model_vacuum_1_Q_l0.mono {k:Nat} {a0:model_Model}:∀ {kl:Nat} {x0 x1},OLe (model_Model_each_POOOO_Model_vacuum_1_Q_l0 k a0 kl x0 x1) (model_Model_each_POOOO_Model_vacuum_1_Q_l0 (k+1) a0 (kl+1) x0 x1):=by
 intro kl
 induction kl with
 | zero=>intros;exact OLe.none
 | succ kl ih =>
  intros
  rw [model_Model_each_POOOO_Model_vacuum_1_Q_l0.eq_2,model_Model_each_POOOO_Model_vacuum_1_Q_l0.eq_2]
  repeat' (first | with_reducible exact OLe.none | with_reducible exact OLe.some | with_reducible refine OLe.ite ?_ ?_ | with_reducible refine OLe.bind ?_ (fun _=>?_) | with_reducible exact model_Model_vacuum_1_POOOX.mono | exact ih | refine OLe.bind ?_ (fun _=>?_) | refine OLe.ite ?_ ?_ | refine OLe.elim (fun _=>?_) (fun _=>?_) | refine OLe.onList ?_ (fun _ _=>?_) | split)
theorem model_Model_each_POOOO_Model_vacuum_1_Q_l0.perm {k:Nat} {a0:model_Model} {kl:Nat} {x372:List (Str×model_row)} {x378:List Str} {x378':List Str}  (hp:x378.Perm x378') (hn:x378.Nodup) (hl:(x372.map (·.1)).Nodup) (hs:∀ y∈x378,y∈x372.map (·.1)):model_Model_each_POOOO_Model_vacuum_1_Q_l0 k a0 kl x372 x378=model_Model_each_POOOO_Model_vacuum_1_Q_l0 k a0 kl x372 x378':=by
 exact perm_each (z0:=(⟨[],⟨0,0,false,[]⟩⟩:model_row)) (one:=fun s r=>model_Model_vacuum_1_POOOX k r (⟨⟨a0.c.Tasks,a0.c.Active,a0.c.Keys,a0.c.Depth,a0.c.TS,a0.c.KeyLen,a0.c.ValLen,a0.c.Fan⟩,a0.names,a0.many,a0.txs,s,a0.clock,a0.floor⟩:model_Model)) (dead:=fun r=>((r.l.length:Int)==(0:Int))&&(r.intent.Writer==(0:Int))) (fun kl s t=>model_Model_each_POOOO_Model_vacuum_1_Q_l0 k a0 kl s t) _ (fun _ _ _=>rfl) (fun _ _=>rfl) (fun _ _ _=>rfl) hp hn kl _ hl hs
def model_Model_each_POOOO_Model_vacuum_1_Q (k:Nat) (a0:model_Model):Option (model_Model) :=
 (if (a0.rows.map fun p:Str×model_row=>p.1).Nodup then (Option.bind (model_Model_each_POOOO_Model_vacuum_1_Q_l0 k a0 k a0.rows (a0.rows.map fun p:Str×model_row=>p.1)) (fun x556=>some (⟨⟨a0.c.Tasks,a0.c.Active,a0.c.Keys,a0.c.Depth,a0.c.TS,a0.c.KeyLen,a0.c.ValLen,a0.c.Fan⟩,a0.names,a0.many,a0.txs,x556,a0.clock,a0.floor⟩:model_Model))) else none)
set_option maxHeartbeats 2000000 in
theorem model_Model_each_POOOO_Model_vacuum_1_Q.mono {k:Nat} {a0:model_Model}:OLe (model_Model_each_POOOO_Model_vacuum_1_Q k a0) (model_Model_each_POOOO_Model_vacuum_1_Q (k+1) a0):=by
 unfold model_Model_each_POOOO_Model_vacuum_1_Q
 repeat' (first | with_reducible exact OLe.none | with_reducible exact OLe.some | with_reducible refine OLe.ite ?_ ?_ | with_reducible refine OLe.bind ?_ (fun _=>?_) | with_reducible exact model_Model_each_POOOO_Model_vacuum_1_Q_l0.mono | refine OLe.bind ?_ (fun _=>?_) | refine OLe.ite ?_ ?_ | refine OLe.elim (fun _=>?_) (fun _=>?_) | split)
set_option maxHeartbeats 4000000 in
set_option maxRecDepth 100000 in
theorem model_Model_each_POOOO_Model_vacuum_1_Q.con (k:Nat) (M:Hp) (A0_8:Option Addr) (c0_8:Nat) (A0_9:Option Addr) (c0_9:Nat) (A0_10:Option Addr) (c0_10:Nat) (A0_11:Option Addr) (c0_11:Nat) (vs0_11:List (Str×Value)) (a0:model_Model) (bo0:Nat) (b1_0:Nat) (r:model_Model) (hm0_11:MRel r_model_row M a0.rows vs0_11) (h:model_Model_each_POOOO_Model_vacuum_1_Q k a0=some r):Con Tryd.prog 137 #[pt bo0 0,.func (.func 138) #[] #[pt b1_0 0]] M [B94 bo0 a0 A0_8 A0_9 A0_10 c0_10 A0_11,MapC enc_model_name (Value.int .i64) A0_8 a0.names,MapC (Value.int .i64) (Value.int .i64) A0_9 a0.many,Row r_model_tx 99 (.slice A0_10 a0.txs.length c0_10) a0.txs,MapC encS (fun v:Value=>v) A0_11 vs0_11,Blk b1_0 (.cells #[pt bo0 0] 27 (0,0))] (fun v M' Γ'=>∃ (Aq1:Option Addr) (cq2:Nat) (Aq4:Option Addr) (cq5:Nat) (Aq7:Option Addr) (cq8:Nat) (Aq10:Option Addr) (cq11:Nat) (vsq13:List (Str×Value)),v=.tuple #[]∧MRel r_model_row M' r.rows vsq13∧Γ'=[B94 bo0 r Aq1 Aq4 Aq7 cq8 Aq10,MapC enc_model_name (Value.int .i64) Aq1 r.names,MapC (Value.int .i64) (Value.int .i64) Aq4 r.many,Row r_model_tx 99 (.slice Aq7 r.txs.length cq8) r.txs,MapC encS (fun v:Value=>v) Aq10 vsq13,Blk b1_0 (.cells #[pt bo0 0] 27 (0,0))]):=by
 refine con_of_wp Tryd.func137 rfl Tryd.ntmps137 Tryd.results137 rfl ?_
 intro w F rn S hrn
 have E:=Ext.refl w
 have HM:=Hp.le_refl M
 have H:=h
 unfold model_Model_each_POOOO_Model_vacuum_1_Q at H
 refine Wp_seq (Wp_region_lit (W_v (pt bo0 0) (x_move rfl) rfl (W_v (pt bo0 0) (x_nilptr rfl) rfl (W_v (pt bo0 11) (x_fieldAddr (o:=0) (off:=11) Tryd.underlying94 rfl ty91 rfl rfl) rfl (W_v (.map (mb A0_11)) (x_load (S.blk 0 rfl) ty91 rfl rfl) rfl ?_)))))
 obtain ⟨hn1,H⟩:=chkS H
 refine W_rangeM S 4 rfl Tryd.underlying91 (by rw [hm0_11.keys];exact hn1) rfl rfl ?_
 intro b2 w3 E' S
 replace E:=E.trans E'
 rw [hm0_11.keys] at S
 replace S:St w3 M F [_,_,_,_,_,_]:=S
 refine Wl_nil (tn ?_)
 obtain ⟨o562,o562h,o562H⟩:=bindS H
 refine Wp_blockJ (fun ρ w'=>∃ (x556:List (Str×model_row)) (A557:Option Addr) (c558:Nat) (vs560:List (Str×Value)) (Mj:Hp),(x556)=o562∧Agree ρ []∧M.le Mj∧Ext w w'∧St w' Mj F [MapC encS (fun v:Value=>v) A557 vs560,Blk bo0 (.cells #[.int .i64 a0.c.Tasks,.int .i64 a0.c.Active,.int .i64 a0.c.Keys,.int .i64 a0.c.Depth,.int .i64 a0.c.TS,.int .i64 a0.c.KeyLen,.int .i64 a0.c.ValLen,.int .i64 a0.c.Fan,.map (mb A0_8),.map (mb A0_9),.slice A0_10 a0.txs.length c0_10,.map (mb A557),.int .i64 a0.clock,.int .i64 a0.floor] 94 (0,0)),MapC enc_model_name (Value.int .i64) A0_8 a0.names,MapC (Value.int .i64) (Value.int .i64) A0_9 a0.many,Row r_model_tx 99 (.slice A0_10 a0.txs.length c0_10) a0.txs,Blk b1_0 (.cells #[pt bo0 0] 27 (0,0))]∧MRel r_model_row Mj x556 vs560) ?_ ?_
 ·skip
  refine Wp_loop (fun n ρ w'=>∃ (x372:List (Str×model_row)) (x378:List Str) (A373:Option Addr) (c374:Nat) (vs376:List (Str×Value)) (Mj:Hp),model_Model_each_POOOO_Model_vacuum_1_Q_l0 k a0 n x372 x378=some o562∧Agree ρ [(0,pt bo0 0),(1,.func (.func 138) #[] #[pt b1_0 0]),(10,pt b2 0)]∧M.le Mj∧Ext w w'∧St w' Mj F [RangeM encS (fun v:Value=>v) A373 b2 vs376 x378 none,Blk bo0 (.cells #[.int .i64 a0.c.Tasks,.int .i64 a0.c.Active,.int .i64 a0.c.Keys,.int .i64 a0.c.Depth,.int .i64 a0.c.TS,.int .i64 a0.c.KeyLen,.int .i64 a0.c.ValLen,.int .i64 a0.c.Fan,.map (mb A0_8),.map (mb A0_9),.slice A0_10 a0.txs.length c0_10,.map (mb A373),.int .i64 a0.clock,.int .i64 a0.floor] 94 (0,0)),MapC enc_model_name (Value.int .i64) A0_8 a0.names,MapC (Value.int .i64) (Value.int .i64) A0_9 a0.many,Row r_model_tx 99 (.slice A0_10 a0.txs.length c0_10) a0.txs,Blk b1_0 (.cells #[pt bo0 0] 27 (0,0))]∧MRel r_model_row Mj x372 vs376) k ?_ ?_
  ·skip
   exact ⟨a0.rows,(a0.rows.map fun p:Str×model_row=>p.1),A0_11,c0_11,vs0_11,M,o562h,⟨rfl,rfl,rfl,trivial⟩,(Hp.le_refl M),E,S.pick [4,0,1,2,3,5] (by decide),hm0_11⟩
  ·intro n
   rintro ρ w563 ⟨x372,x378,A373,c374,vs376,M564,H,hρ,hM565,E,S,hm377⟩
   rw [agree_eta hρ]
   replace HM:=Hp.le_trans HM hM565
   replace hm0_11:=MRel.mono hm0_11 hM565
   cases n with
   | zero=>cases H
   | succ kl =>
    refine Wp_seq (Wp_region_lit ?_)
    obtain ⟨hn566a,hn566b,hn566c⟩:=S.rangeM_facts 0 rfl
    rw [hm377.keys] at hn566b hn566c
    refine W_nextM S 0 rfl rfl rfl ?_ ?_
    ·intro y567 v568 w569 hy571 hv572 E' S
     replace E:=E.trans E'
     rw [model_Model_each_POOOO_Model_vacuum_1_Q_l0.perm (permE hy571) hn566a hn566b hn566c,model_Model_each_POOOO_Model_vacuum_1_Q_l0.eq_2,onList_cons] at H
     obtain ⟨cs575,hR576,he577⟩:=hm377.get y567 (z:=(⟨[],⟨0,0,false,[]⟩⟩:model_row)) (zc:=[.slice none 0 0,.int .i64 0,.int .i64 0,.bool false,.string (bs ([]:Str))]) ⟨_,SlW.nil _ _,rfl⟩
     rw [hv572] at he577
     obtain rfl:v568=_:=he577
     obtain ⟨v581,hs580,rfl⟩:=hR576
     obtain ⟨A578,c579,rfl,_⟩:=hs580.form
     replace S:St w569 M564 F [_,_,_,_,_,_]:=S
     refine W_v (.bool true) (x_extract rfl rfl) rfl (Wl_nil (tn (Wp_seq (Wp_cond_true rfl (Wp_skip (tn ?_))))))
     obtain ⟨o663,o663h,o663H⟩:=bindS H
     refine Wp_cut (fun ρ w'=>∃ (x657:List (Str×model_row)) (A658:Option Addr) (c659:Nat) (vs661:List (Str×Value)) (Mj:Hp),(x657)=o663∧Agree ρ [(0,pt bo0 0),(1,.func (.func 138) #[] #[pt b1_0 0]),(10,pt b2 0)]∧M564.le Mj∧Ext w w'∧St w' Mj F [RangeM encS (fun v:Value=>v) A658 b2 vs661 (er x378 y567) none,Blk b1_0 (.cells #[pt bo0 0] 27 (0,0)),Blk bo0 (.cells #[.int .i64 a0.c.Tasks,.int .i64 a0.c.Active,.int .i64 a0.c.Keys,.int .i64 a0.c.Depth,.int .i64 a0.c.TS,.int .i64 a0.c.KeyLen,.int .i64 a0.c.ValLen,.int .i64 a0.c.Fan,.map (mb A0_8),.map (mb A0_9),.slice A0_10 a0.txs.length c0_10,.map (mb A658),.int .i64 a0.clock,.int .i64 a0.floor] 94 (0,0)),MapC enc_model_name (Value.int .i64) A0_8 a0.names,MapC (Value.int .i64) (Value.int .i64) A0_9 a0.many,Row r_model_tx 99 (.slice A0_10 a0.txs.length c0_10) a0.txs]∧MRel r_model_row Mj x657 vs661) ?_ ?_
     ·as_aux_lemma =>
       clear o663H
       have H:=o663h
       have LE664:=Hp.le_refl M564
       refine Wp_block ?_
       refine Wp_seq (Wp_region_lit (W_v (.tuple #[encS y567,.agg #[.slice A578 (((mget x372 y567).getD (⟨[],⟨0,0,false,[]⟩⟩:model_row)).l).length c579,.int .i64 (((mget x372 y567).getD (⟨[],⟨0,0,false,[]⟩⟩:model_row)).intent.Writer),.int .i64 (((mget x372 y567).getD (⟨[],⟨0,0,false,[]⟩⟩:model_row)).intent.TS),.bool (((mget x372 y567).getD (⟨[],⟨0,0,false,[]⟩⟩:model_row)).intent.Tomb),.string (bs (((mget x372 y567).getD (⟨[],⟨0,0,false,[]⟩⟩:model_row)).intent.Value))]]) (x_entryM (encv:=(fun v:Value=>v)) S 0 rfl hv572 rfl) rfl ?_))
       replace S:=S.rangeM_seen 0 rfl
       replace S:St w569 M564 F [_,_,_,_,_,_]:=S
       refine W_v (.string (bs y567)) (x_extract rfl rfl) rfl (W_v (.agg #[.slice A578 (((mget x372 y567).getD (⟨[],⟨0,0,false,[]⟩⟩:model_row)).l).length c579,.int .i64 (((mget x372 y567).getD (⟨[],⟨0,0,false,[]⟩⟩:model_row)).intent.Writer),.int .i64 (((mget x372 y567).getD (⟨[],⟨0,0,false,[]⟩⟩:model_row)).intent.TS),.bool (((mget x372 y567).getD (⟨[],⟨0,0,false,[]⟩⟩:model_row)).intent.Tomb),.string (bs (((mget x372 y567).getD (⟨[],⟨0,0,false,[]⟩⟩:model_row)).intent.Value))]) (x_extract rfl rfl) rfl ?_)
       refine W_alloc S #[.slice none 0 0,.int .i64 0,.int .i64 0,.bool false,.string (bs ([]:Str))] ty101 rfl rfl ?_
       intro b665 w666 E' S
       replace E:=E.trans E'
       refine W_v (.string (bs y567)) (x_assign rfl) rfl ?_
       refine W_store S 0 rfl ty101 rfl rfl [.slice A578 (((mget x372 y567).getD (⟨[],⟨0,0,false,[]⟩⟩:model_row)).l).length c579,.int .i64 (((mget x372 y567).getD (⟨[],⟨0,0,false,[]⟩⟩:model_row)).intent.Writer),.int .i64 (((mget x372 y567).getD (⟨[],⟨0,0,false,[]⟩⟩:model_row)).intent.TS),.bool (((mget x372 y567).getD (⟨[],⟨0,0,false,[]⟩⟩:model_row)).intent.Tomb),.string (bs (((mget x372 y567).getD (⟨[],⟨0,0,false,[]⟩⟩:model_row)).intent.Value))] rfl rfl rfl #[.slice A578 (((mget x372 y567).getD (⟨[],⟨0,0,false,[]⟩⟩:model_row)).l).length c579,.int .i64 (((mget x372 y567).getD (⟨[],⟨0,0,false,[]⟩⟩:model_row)).intent.Writer),.int .i64 (((mget x372 y567).getD (⟨[],⟨0,0,false,[]⟩⟩:model_row)).intent.TS),.bool (((mget x372 y567).getD (⟨[],⟨0,0,false,[]⟩⟩:model_row)).intent.Tomb),.string (bs (((mget x372 y567).getD (⟨[],⟨0,0,false,[]⟩⟩:model_row)).intent.Value))] rfl rfl ?_
       intro w668 E' S
       replace E:=E.trans E'
       refine Wl_nil (tn (Wp_seq (Wp_region_lit (W_v (.func (.func 138) #[] #[pt b1_0 0]) (x_move rfl) rfl (W_v (.agg #[.slice A578 (((mget x372 y567).getD (⟨[],⟨0,0,false,[]⟩⟩:model_row)).l).length c579,.int .i64 (((mget x372 y567).getD (⟨[],⟨0,0,false,[]⟩⟩:model_row)).intent.Writer),.int .i64 (((mget x372 y567).getD (⟨[],⟨0,0,false,[]⟩⟩:model_row)).intent.TS),.bool (((mget x372 y567).getD (⟨[],⟨0,0,false,[]⟩⟩:model_row)).intent.Tomb),.string (bs (((mget x372 y567).getD (⟨[],⟨0,0,false,[]⟩⟩:model_row)).intent.Value))]) (x_loadA (S.blk 0 rfl) ty101 rfl (sub_of_extract rfl) rfl rfl) rfl ?_)))))
       obtain ⟨t669,ht670,H⟩:=bindS H
       replace S:St w668 M564 F [_,_,_,_,_,_,_]:=S.pick [6,2,3,4,5,0,1] (by decide)
       refine W_callvF2 (fs:=[]) (cap:=[pt b1_0 0]) fn138 rfl (model_Model_vacuum_1_POOOX.con k M564 A578 c579 ((mget x372 y567).getD (⟨[],⟨0,0,false,[]⟩⟩:model_row)) A0_8 c0_8 A0_9 c0_9 A0_10 c0_10 A373 c374 (⟨⟨a0.c.Tasks,a0.c.Active,a0.c.Keys,a0.c.Depth,a0.c.TS,a0.c.KeyLen,a0.c.ValLen,a0.c.Fan⟩,a0.names,a0.many,a0.txs,x372,a0.clock,a0.floor⟩:model_Model) b1_0 bo0 t669 hs580 ht670) (Γ1:=[_,_,_,_,_]) (Γ2:=[_,_]) S rfl rfl (by rintro _ _ _ ⟨_,_,rfl,rfl⟩;exact (flat_cons (flat_row (fun _ _ _ _ h=>h)) (flat_cons flat_blk (flat_cons flat_blk (flat_cons flat_map (flat_cons flat_map (flat_cons (flat_row (fun _ _ _ _ h=>h)) flat_nil))))))) ?_
       rintro _ w674 _ Γ' E' S ⟨A671,c672,rfl,rfl⟩
       replace E:=E.trans E'
       replace S:St w674 M564 F [_,_,_,_,_,_,_,_]:=S
       refine W_store S 6 rfl ty101 rfl rfl [.slice A671 t669.l.length c672,.int .i64 t669.intent.Writer,.int .i64 t669.intent.TS,.bool t669.intent.Tomb,.string (bs t669.intent.Value)] rfl rfl rfl #[.slice A671 t669.l.length c672,.int .i64 t669.intent.Writer,.int .i64 t669.intent.TS,.bool t669.intent.Tomb,.string (bs t669.intent.Value)] rfl rfl ?_
       intro w677 E' S
       replace E:=E.trans E'
       refine Wl_nil (tn (Wp_seq ?_))
       obtain ⟨M688,hM689,hf690,S⟩:=S.row_freeze 0 rfl
       replace HM:=Hp.le_trans HM hM689
       replace hM565:=Hp.le_trans hM565 hM689
       replace LE664:=Hp.le_trans LE664 hM689
       replace hm0_11:=MRel.mono hm0_11 hM689
       replace hm377:=MRel.mono hm377 hM689
       replace hs580:=SlR.mono hs580 hM689
       refine Wp_region_any (S:=fun w'=>∃ Mx,M688.le Mx∧St w' Mx F [Blk b1_0 (.cells #[pt bo0 0] 27 (0,0)),Blk bo0 (.cells #[.int .i64 a0.c.Tasks,.int .i64 a0.c.Active,.int .i64 a0.c.Keys,.int .i64 a0.c.Depth,.int .i64 a0.c.TS,.int .i64 a0.c.KeyLen,.int .i64 a0.c.ValLen,.int .i64 a0.c.Fan,.map (mb A0_8),.map (mb A0_9),.slice A0_10 a0.txs.length c0_10,.map (mb A373),.int .i64 a0.clock,.int .i64 a0.floor] 94 (0,0)),MapC enc_model_name (Value.int .i64) A0_8 a0.names,MapC (Value.int .i64) (Value.int .i64) A0_9 a0.many,Row r_model_tx 99 (.slice A0_10 a0.txs.length c0_10) a0.txs,B101 b665 t669 A671 c672,RangeM encS (fun v:Value=>v) A373 b2 vs376 (er x378 y567) none]) (L:=6) mixed ?_
       intro w698 hw699 E'
       replace S:=S.heap hw699
       replace E:=E.trans E'
       have D1:∃ Mx,Hp.le M688 Mx∧St _ Mx F [_,_,_,_,_,_,_]:=⟨_,Hp.le_refl _,S.pick [0,1,2,3,4,5,6] (by decide)⟩
       refine Wa_take (i:=0) rfl (by kernel_rfl) rfl rfl (pt bo0 0) rfl (fun w' h'=>x_move rfl) D1 (Wa_take (i:=1) rfl (by kernel_rfl) rfl rfl (pt bo0 0) rfl (fun w' h'=>x_nilptr rfl) D1 (Wa_take (i:=2) rfl (by kernel_rfl) rfl rfl (pt bo0 11) rfl (fun w' h'=>x_fieldAddr (o:=0) (off:=11) Tryd.underlying94 rfl ty91 rfl rfl) D1 (Wa_take (i:=3) rfl (by kernel_rfl) rfl rfl (.map (mb A373)) rfl (fun w' h'=>x_load (cls_blk h' 1 rfl) ty91 rfl rfl) D1 (Wa_take (i:=4) rfl (by kernel_rfl) rfl rfl (.string (bs y567)) rfl (fun w' h'=>x_move rfl) D1 (Wa_take (i:=5) rfl (by kernel_rfl) rfl rfl (.agg #[.slice A671 t669.l.length c672,.int .i64 t669.intent.Writer,.int .i64 t669.intent.TS,.bool t669.intent.Tomb,.string (bs t669.intent.Value)]) rfl (fun w' h'=>x_loadA (cls_blk h' 5 rfl) ty101 rfl (sub_of_extract rfl) rfl rfl) D1 ?_)))))
       refine Wa_solo (i:=6) rfl (by kernel_rfl) ?_
       obtain ⟨p700,H⟩:=chkS H
       obtain ⟨x702,he703,H⟩:=bindS H
       replace he703:=Option.some.inj he703
       obtain ⟨vs704,hv705⟩:∃ z:List (Str×Value),mput vs376 y567 (.agg #[.slice A671 t669.l.length c672,.int .i64 t669.intent.Writer,.int .i64 t669.intent.TS,.bool t669.intent.Tomb,.string (bs t669.intent.Value)])=z:=⟨_,rfl⟩
       have hm706:MRel r_model_row M688 x702 vs704:=by rw [← he703,← hv705];exact hm377.put y567 (cs:=[.slice A671 t669.l.length c672,.int .i64 t669.intent.Writer,.int .i64 t669.intent.TS,.bool t669.intent.Tomb,.string (bs t669.intent.Value)]) ⟨_,hf690,rfl⟩
       refine W_mapUpdateM S 6 rfl Tryd.underlying91 key9 y567 (.agg #[.slice A671 t669.l.length c672,.int .i64 t669.intent.Writer,.int .i64 t669.intent.TS,.bool t669.intent.Tomb,.string (bs t669.intent.Value)]) (by rw [hm377.keys];exact p700) hv705 rfl rfl rfl ?_
       intro w701 E' S
       replace E:=E.trans E'
       replace S:St w701 M688 F [_,_,_,_,_,_,_]:=S
       refine Wl_nil (on_n ⟨.inl (by decide),?_⟩)
       refine Wa_done (by kernel_rfl) ?_
       refine tn ?_
       as_aux_lemma =>
       refine Wp_seq (Wp_region_lit (W_v (pt b665 0) (x_fieldAddr (o:=0) (off:=0) Tryd.underlying101 rfl ty65 rfl rfl) rfl (W_v (.slice A671 t669.l.length c672) (x_load (S.blk 5 rfl) ty65 rfl rfl) rfl (W_v (.int .i64 (t669.l.length:Int)) (x_len_slice (n:=t669.l.length) Tryd.underlying65 rfl) rfl (W_v (.bool ((t669.l.length:Int)==(0:Int))) (x_ibin rfl rfl rfl rfl) rfl (W_v (.bool ((t669.l.length:Int)==(0:Int))) (x_move rfl) rfl ?_))))))
       refine Wl_cutN 5 (fun ρ w'=>Agree ρ [(0,pt bo0 0),(1,.func (.func 138) #[] #[pt b1_0 0]),(4,.string (bs y567)),(10,pt b2 0),(34,.bool (((t669.l.length:Int)==(0:Int))&&(t669.intent.Writer==(0:Int))))]∧w701=w') ?_ ?_
       ·rcases boolCases ((t669.l.length:Int)==(0:Int)) with hb707 | hb707
        ·skip
         refine W_no (skT hb707) rfl (W_no (skT hb707) rfl (W_no (skT hb707) rfl (W_no (skT hb707) rfl (W_v (.bool false) (x_pick (k:=false) (congrArg Value.bool hb707) rfl) rfl (Wl_nil ?_)))))
         exact ⟨⟨rfl,rfl,rfl,rfl,(by first | rfl | (rw [hb707];rfl) | (simp only [hb707];rfl)),trivial⟩,rfl⟩
        ·skip
         refine W_yes (congrArg some hb707) (W_v (pt b665 1) (x_fieldAddr (o:=0) (off:=1) Tryd.underlying101 rfl ty61 rfl rfl) rfl (W_yes (congrArg some hb707) (W_v (pt b665 1) (x_fieldAddr (o:=1) (off:=0) Tryd.underlying61 rfl ty3 rfl rfl) rfl (W_yes (congrArg some hb707) (W_v (.int .i64 t669.intent.Writer) (x_load (S.blk 5 rfl) ty3 rfl rfl) rfl (W_yes (congrArg some hb707) (W_v (.bool (t669.intent.Writer==(0:Int))) (x_ibin rfl rfl rfl rfl) rfl (W_v (.bool (t669.intent.Writer==(0:Int))) (x_pick (k:=true) (congrArg Value.bool hb707) rfl) rfl (Wl_nil ?_)))))))))
         exact ⟨⟨rfl,rfl,rfl,rfl,(by first | rfl | (rw [hb707];rfl) | (simp only [hb707];rfl)),trivial⟩,rfl⟩
       rintro ρ _ ⟨hρ,rfl⟩
       rw [agree_eta hρ]
       refine Wl_nil (tn ?_)
       obtain ⟨o730,o730h,o730H⟩:=bindS H
       refine Wp_cut (fun ρ w'=>∃ (x724:List (Str×model_row)) (A725:Option Addr) (c726:Nat) (vs728:List (Str×Value)),(x724)=o730∧Agree ρ [(0,pt bo0 0),(1,.func (.func 138) #[] #[pt b1_0 0]),(10,pt b2 0)]∧Ext w w'∧St w' M688 F [RangeM encS (fun v:Value=>v) A725 b2 vs728 (er x378 y567) none,Blk b1_0 (.cells #[pt bo0 0] 27 (0,0)),Blk bo0 (.cells #[.int .i64 a0.c.Tasks,.int .i64 a0.c.Active,.int .i64 a0.c.Keys,.int .i64 a0.c.Depth,.int .i64 a0.c.TS,.int .i64 a0.c.KeyLen,.int .i64 a0.c.ValLen,.int .i64 a0.c.Fan,.map (mb A0_8),.map (mb A0_9),.slice A0_10 a0.txs.length c0_10,.map (mb A725),.int .i64 a0.clock,.int .i64 a0.floor] 94 (0,0)),MapC enc_model_name (Value.int .i64) A0_8 a0.names,MapC (Value.int .i64) (Value.int .i64) A0_9 a0.many,Row r_model_tx 99 (.slice A0_10 a0.txs.length c0_10) a0.txs]∧MRel r_model_row M688 x724 vs728) ?_ ?_
       ·clear o730H
        have H:=o730h
        rcases iteS H with ⟨hb731,H⟩ | ⟨hb731,H⟩
        ·refine Wp_cond_true (congrArg Value.bool hb731) ?_
         refine Wp_region_lit (W_v (pt bo0 0) (x_move rfl) rfl (W_v (pt bo0 0) (x_nilptr rfl) rfl (W_v (pt bo0 11) (x_fieldAddr (o:=0) (off:=11) Tryd.underlying94 rfl ty91 rfl rfl) rfl (W_v (.map (mb A373)) (x_load (S.blk 1 rfl) ty91 rfl rfl) rfl (W_v (.string (bs y567)) (x_move rfl) rfl ?_)))))
         obtain ⟨p732,H⟩:=chkS H
         obtain ⟨x734,he735,H⟩:=bindS H
         replace he735:=Option.some.inj he735
         obtain ⟨vs736,hv737⟩:∃ z:List (Str×Value),mdel vs704 y567=z:=⟨_,rfl⟩
         have hm738:MRel r_model_row M688 x734 vs736:=by rw [← he735,← hv737];exact hm706.del y567
         refine W_deleteM0 S 6 rfl Tryd.underlying91 key9 y567 p732 hv737 rfl rfl ?_
         intro w733 E' S
         replace E:=E.trans E'
         replace S:St w733 M688 F [_,_,_,_,_,_,_]:=S
         refine Wl_nil (tn ?_)
         exact ⟨x734,A373,c374,vs736,Option.some.inj H,⟨rfl,rfl,rfl,trivial⟩,E,S.pick [6,0,1,2,3,4] (by decide),hm738⟩
        refine Wp_cond_false (congrArg Value.bool hb731) (Wp_skip (tn ?_))
        exact ⟨x702,A373,c374,vs704,Option.some.inj H,⟨rfl,rfl,rfl,trivial⟩,E,S.pick [6,0,1,2,3,4] (by decide),hm706⟩
       rintro ρ w739 ⟨x724,A725,c726,vs728,rfl,hρ,E,S,hm729⟩
       rw [agree_eta hρ]
       have H:=o730H
       refine bn (tn ?_)
       exact ⟨x724,A725,c726,vs728,M688,Option.some.inj H,⟨rfl,rfl,rfl,trivial⟩,LE664,E,S.pick [0,1,2,3,4,5] (by decide),hm729⟩
     rintro ρ w740 ⟨x657,A658,c659,vs661,M741,rfl,hρ,hM742,E,S,hm662⟩
     rw [agree_eta hρ]
     replace HM:=Hp.le_trans HM hM742
     replace hM565:=Hp.le_trans hM565 hM742
     replace hm0_11:=MRel.mono hm0_11 hM742
     replace hm377:=MRel.mono hm377 hM742
     replace hs580:=SlR.mono hs580 hM742
     have H:=o663H
     refine tn ?_
     exact ⟨kl,Nat.lt_succ_self kl,⟨x657,(er x378 y567),A658,c659,vs661,M741,H,⟨rfl,rfl,rfl,trivial⟩,hM565,E,S.pick [0,2,3,4,5,1] (by decide),hm662⟩⟩
    ·intro w570 ht573 E' S
     replace E:=E.trans E'
     rw [ht573,model_Model_each_POOOO_Model_vacuum_1_Q_l0.eq_2,onList_nil] at H
     replace S:=S.rangeM_end 0 rfl
     replace S:St w570 M564 F [_,_,_,_,_,_]:=S
     refine W_v (.bool false) (x_extract rfl rfl) rfl (Wl_nil (tn (Wp_seq (Wp_cond_false rfl ?_))))
     refine Wp_exit ?_
     refine tx (tx (bsm (?_)))
     refine tn ?_
     exact ⟨x372,A373,c374,vs376,M564,Option.some.inj H,trivial,hM565,E,S.pick [0,1,2,3,4,5] (by decide),hm377⟩
 rintro ρ w743 ⟨x556,A557,c558,vs560,M744,rfl,hρ,hM745,E,S,hm561⟩
 rw [agree_eta hρ]
 replace HM:=Hp.le_trans HM hM745
 replace hm0_11:=MRel.mono hm0_11 hM745
 have H:=o562H
 obtain rfl:=Option.some.inj H
 exact ⟨_,_,_,fun w1 e1=>run_resR (vs:=[]) (FA.nil),HM,E,S.pick [1,2,3,4,0,5] (by decide),⟨A0_8,c0_8,A0_9,c0_9,A0_10,c0_10,A557,c558,vs560,rfl,hm561,rfl⟩⟩
def model_Model_vacuum_POOOO_l0 (a0:model_Model):Nat→Int→Int→Option ((Int))
 | 0,_,_=>none
 | k+1,x154,x155=>(if (decide (x154<(a0.txs.length:Int)))=true then (Option.bind (α:=Int) (if 0≤x154∧x154<(a0.txs.length:Int) then (Option.bind (α:=Int) (if ((rd a0.txs x154).state==(1:Int))=true then some ((imin x155 ((rd a0.txs x154).snapshot))) else some (x155)) (fun x286=>some (x286))) else none) (fun x260=>model_Model_vacuum_POOOO_l0 a0 k (IntKind.i64.wrap (x154+(1:Int))) x260)) else some (x155))
set_option maxHeartbeats 2000000 in
theorem model_Model_vacuum_POOOO_l0.mono {a0:model_Model}:∀ {kl:Nat} {x0 x1},OLe (model_Model_vacuum_POOOO_l0 a0 kl x0 x1) (model_Model_vacuum_POOOO_l0 a0 (kl+1) x0 x1):=by
 intro kl
 induction kl with
 | zero=>intros;exact OLe.none
 | succ kl ih =>
  intros
  rw [model_Model_vacuum_POOOO_l0.eq_2,model_Model_vacuum_POOOO_l0.eq_2]
  repeat' (first | with_reducible exact OLe.none | with_reducible exact OLe.some | with_reducible refine OLe.ite ?_ ?_ | with_reducible refine OLe.bind ?_ (fun _=>?_) | exact ih | refine OLe.bind ?_ (fun _=>?_) | refine OLe.ite ?_ ?_ | refine OLe.elim (fun _=>?_) (fun _=>?_) | split)
def model_Model_vacuum_POOOO (k:Nat) (a0:model_Model) (a1:Int) (a2:Int) (a3:api_Call):Option (api_Answer×model_Model) :=
 (Option.bind (model_Model_vacuum_POOOO_l0 a0 k (0:Int) a0.clock) (fun x224=>(Option.bind (model_Model_each_POOOO_Model_vacuum_1_Q k (⟨⟨a0.c.Tasks,a0.c.Active,a0.c.Keys,a0.c.Depth,a0.c.TS,a0.c.KeyLen,a0.c.ValLen,a0.c.Fan⟩,a0.names,a0.many,a0.txs,a0.rows,a0.clock,x224⟩:model_Model)) (fun t296=>some ((⟨(0:Int),false,([]:Str),([]:List api_Pair)⟩:api_Answer),t296)))))
set_option maxHeartbeats 2000000 in
theorem model_Model_vacuum_POOOO.mono {k:Nat} {a0:model_Model} {a1:Int} {a2:Int} {a3:api_Call}:OLe (model_Model_vacuum_POOOO k a0 a1 a2 a3) (model_Model_vacuum_POOOO (k+1) a0 a1 a2 a3):=by
 unfold model_Model_vacuum_POOOO
 repeat' (first | with_reducible exact OLe.none | with_reducible exact OLe.some | with_reducible refine OLe.ite ?_ ?_ | with_reducible refine OLe.bind ?_ (fun _=>?_) | with_reducible exact model_Model_each_POOOO_Model_vacuum_1_Q.mono | with_reducible exact model_Model_vacuum_POOOO_l0.mono | refine OLe.bind ?_ (fun _=>?_) | refine OLe.ite ?_ ?_ | refine OLe.elim (fun _=>?_) (fun _=>?_) | split)
set_option maxHeartbeats 4000000 in
set_option maxRecDepth 100000 in
theorem model_Model_vacuum_POOOO.con (k:Nat) (M:Hp) (A0_8:Option Addr) (c0_8:Nat) (A0_9:Option Addr) (c0_9:Nat) (A0_10:Option Addr) (c0_10:Nat) (A0_11:Option Addr) (c0_11:Nat) (vs0_11:List (Str×Value)) (a0:model_Model) (a1:Int) (a2:Int) (a3:api_Call) (bo0:Nat) (r:api_Answer×model_Model) (hm0_11:MRel r_model_row M a0.rows vs0_11) (h:model_Model_vacuum_POOOO k a0 a1 a2 a3=some r):Con Tryd.prog 131 #[pt bo0 0,.int .i64 a1,.int .i64 a2,.agg #[.int .u8 a3.Kind,.int .i64 a3.Tx,.string (bs a3.Key),.string (bs a3.End),.string (bs a3.Value),.int .i64 a3.Limit,.int .u8 a3.Engine]] M [B94 bo0 a0 A0_8 A0_9 A0_10 c0_10 A0_11,MapC enc_model_name (Value.int .i64) A0_8 a0.names,MapC (Value.int .i64) (Value.int .i64) A0_9 a0.many,Row r_model_tx 99 (.slice A0_10 a0.txs.length c0_10) a0.txs,MapC encS (fun v:Value=>v) A0_11 vs0_11] (fun v M' Γ'=>∃ (Aq1:Option Addr) (cq2:Nat) (Aq4:Option Addr) (cq5:Nat) (Aq7:Option Addr) (cq8:Nat) (Aq10:Option Addr) (cq11:Nat) (Aq13:Option Addr) (cq14:Nat) (vsq16:List (Str×Value)),v=.agg #[.int .i64 r.1.Err,.bool r.1.Found,.string (bs r.1.Value),.slice Aq1 r.1.Pairs.length cq2]∧MRel r_model_row M' r.2.rows vsq16∧Γ'=[Row r_api_Pair 87 (.slice Aq1 r.1.Pairs.length cq2) r.1.Pairs,B94 bo0 r.2 Aq4 Aq7 Aq10 cq11 Aq13,MapC enc_model_name (Value.int .i64) Aq4 r.2.names,MapC (Value.int .i64) (Value.int .i64) Aq7 r.2.many,Row r_model_tx 99 (.slice Aq10 r.2.txs.length cq11) r.2.txs,MapC encS (fun v:Value=>v) Aq13 vsq16]):=by
 refine con_of_wp Tryd.func131 rfl Tryd.ntmps131 Tryd.results131 rfl ?_
 intro w F rn S hrn
 have E:=Ext.refl w
 have HM:=Hp.le_refl M
 have H:=h
 unfold model_Model_vacuum_POOOO at H
 refine Wp_seq (Wp_region_lit ?_)
 refine W_box S #[pt bo0 0] rfl rfl rfl ?_
 intro b1 w2 E' S
 replace E:=E.trans E'
 refine W_box S #[.int .u8 a3.Kind,.int .i64 a3.Tx,.string (bs a3.Key),.string (bs a3.End),.string (bs a3.Value),.int .i64 a3.Limit,.int .u8 a3.Engine] rfl rfl rfl ?_
 intro b4 w5 E' S
 replace E:=E.trans E'
 refine W_alloc S #[.int .i64 0,.bool false,.string (bs ([]:Str)),.slice none 0 0] ty43 rfl rfl ?_
 intro b7 w8 E' S
 replace E:=E.trans E'
 refine Wl_nil (tn (Wp_seq ?_))
 refine Wp_region_any (S:=fun w'=>∃ Mx,M.le Mx∧St w' Mx F [Blk b7 (.cells #[.int .i64 0,.bool false,.string (bs ([]:Str)),.slice none 0 0] 43 (0,0)),B37 b4 a3,Blk b1 (.cells #[pt bo0 0] 27 (0,0)),B94 bo0 a0 A0_8 A0_9 A0_10 c0_10 A0_11,MapC enc_model_name (Value.int .i64) A0_8 a0.names,MapC (Value.int .i64) (Value.int .i64) A0_9 a0.many,Row r_model_tx 99 (.slice A0_10 a0.txs.length c0_10) a0.txs,MapC encS (fun v:Value=>v) A0_11 vs0_11]) (L:=7) mixed ?_
 intro w11 hw12 E'
 replace S:=S.heap hw12
 replace E:=E.trans E'
 have D1:∃ Mx,Hp.le M Mx∧St _ Mx F [_,_,_,_,_,_,_,_]:=⟨_,Hp.le_refl _,S.pick [0,1,2,3,4,5,6,7] (by decide)⟩
 refine Wa_take (i:=0) rfl (by kernel_rfl) rfl rfl (pt bo0 0) rfl (fun w' h'=>x_load (cls_blk h' 2 rfl) ty27 rfl rfl) D1 (Wa_take (i:=1) rfl (by kernel_rfl) rfl rfl (pt bo0 0) rfl (fun w' h'=>x_load (cls_blk h' 2 rfl) ty27 rfl rfl) D1 (Wa_take (i:=2) rfl (by kernel_rfl) rfl rfl (pt bo0 0) rfl (fun w' h'=>x_nilptr rfl) D1 (Wa_take (i:=3) rfl (by kernel_rfl) rfl rfl (pt bo0 12) rfl (fun w' h'=>x_fieldAddr (o:=0) (off:=12) Tryd.underlying94 rfl ty3 rfl rfl) D1 (Wa_take (i:=4) rfl (by kernel_rfl) rfl rfl (.int .i64 a0.clock) rfl (fun w' h'=>x_load (cls_blk h' 3 rfl) ty3 rfl rfl) D1 (Wa_take (i:=5) rfl (by kernel_rfl) rfl rfl (pt bo0 0) rfl (fun w' h'=>x_nilptr rfl) D1 (Wa_take (i:=6) rfl (by kernel_rfl) rfl rfl (pt bo0 13) rfl (fun w' h'=>x_fieldAddr (o:=0) (off:=13) Tryd.underlying94 rfl ty3 rfl rfl) D1 ?_))))))
 refine Wa_solo (i:=7) rfl (by kernel_rfl) ?_
 refine W_store S 3 rfl ty3 rfl rfl [.int .i64 a0.clock] rfl rfl rfl #[.int .i64 a0.c.Tasks,.int .i64 a0.c.Active,.int .i64 a0.c.Keys,.int .i64 a0.c.Depth,.int .i64 a0.c.TS,.int .i64 a0.c.KeyLen,.int .i64 a0.c.ValLen,.int .i64 a0.c.Fan,.map (mb A0_8),.map (mb A0_9),.slice A0_10 a0.txs.length c0_10,.map (mb A0_11),.int .i64 a0.clock,.int .i64 a0.clock] rfl rfl ?_
 intro w13 E' S
 replace E:=E.trans E'
 refine Wl_nil (on_n ⟨.inl (by decide),?_⟩)
 refine Wa_done (by kernel_rfl) ?_
 refine tn (Wp_seq (Wp_seq (Wp_region_lit (W_v (pt bo0 0) (x_load (S.blk 2 rfl) ty27 rfl rfl) rfl (W_v (pt bo0 0) (x_nilptr rfl) rfl (W_v (pt bo0 10) (x_fieldAddr (o:=0) (off:=10) Tryd.underlying94 rfl ty92 rfl rfl) rfl (W_v (.slice A0_10 a0.txs.length c0_10) (x_load (S.blk 3 rfl) ty92 rfl rfl) rfl (W_v (.int .i64 (a0.txs.length:Int)) (x_len_slice (n:=a0.txs.length) Tryd.underlying92 rfl) rfl (W_v (.int .i64 0) (x_move rfl) rfl (Wl_nil (tn ?_)))))))))))
 obtain ⟨o225,o225h,o225H⟩:=bindS H
 refine Wp_blockJ (fun ρ w'=>∃ (x224:Int),(x224)=o225∧Agree ρ [(4,pt b1 0),(8,pt b7 0)]∧Ext w w'∧St w' M F [Blk b7 (.cells #[.int .i64 0,.bool false,.string (bs ([]:Str)),.slice none 0 0] 43 (0,0)),Blk b1 (.cells #[pt bo0 0] 27 (0,0)),Blk bo0 (.cells #[.int .i64 a0.c.Tasks,.int .i64 a0.c.Active,.int .i64 a0.c.Keys,.int .i64 a0.c.Depth,.int .i64 a0.c.TS,.int .i64 a0.c.KeyLen,.int .i64 a0.c.ValLen,.int .i64 a0.c.Fan,.map (mb A0_8),.map (mb A0_9),.slice A0_10 a0.txs.length c0_10,.map (mb A0_11),.int .i64 a0.clock,.int .i64 x224] 94 (0,0)),MapC enc_model_name (Value.int .i64) A0_8 a0.names,MapC (Value.int .i64) (Value.int .i64) A0_9 a0.many,Row r_model_tx 99 (.slice A0_10 a0.txs.length c0_10) a0.txs,MapC encS (fun v:Value=>v) A0_11 vs0_11]) ?_ ?_
 ·skip
  refine Wp_loop (fun n ρ w'=>∃ (x154:Int) (x155:Int),model_Model_vacuum_POOOO_l0 a0 n x154 x155=some o225∧Agree ρ [(4,pt b1 0),(8,pt b7 0),(21,.slice A0_10 a0.txs.length c0_10),(22,.int .i64 (a0.txs.length:Int)),(23,.int .i64 x154)]∧Ext w w'∧St w' M F [Blk b7 (.cells #[.int .i64 0,.bool false,.string (bs ([]:Str)),.slice none 0 0] 43 (0,0)),Blk b1 (.cells #[pt bo0 0] 27 (0,0)),Blk bo0 (.cells #[.int .i64 a0.c.Tasks,.int .i64 a0.c.Active,.int .i64 a0.c.Keys,.int .i64 a0.c.Depth,.int .i64 a0.c.TS,.int .i64 a0.c.KeyLen,.int .i64 a0.c.ValLen,.int .i64 a0.c.Fan,.map (mb A0_8),.map (mb A0_9),.slice A0_10 a0.txs.length c0_10,.map (mb A0_11),.int .i64 a0.clock,.int .i64 x155] 94 (0,0)),MapC enc_model_name (Value.int .i64) A0_8 a0.names,MapC (Value.int .i64) (Value.int .i64) A0_9 a0.many,Row r_model_tx 99 (.slice A0_10 a0.txs.length c0_10) a0.txs,MapC encS (fun v:Value=>v) A0_11 vs0_11]) k ?_ ?_
  ·skip
   exact ⟨(0:Int),a0.clock,o225h,⟨rfl,rfl,rfl,rfl,rfl,trivial⟩,E,S.pick [0,2,3,4,5,6,7] (by decide)⟩
  ·intro n
   rintro ρ w226 ⟨x154,x155,H,hρ,E,S⟩
   rw [agree_eta hρ]
   cases n with
   | zero=>cases H
   | succ k =>
    rw [model_Model_vacuum_POOOO_l0.eq_2] at H
    refine Wp_seq (Wp_region_lit (W_v (.bool (decide (x154<(a0.txs.length:Int)))) (x_ibin rfl rfl rfl rfl) rfl (Wl_nil (tn (Wp_seq ?_)))))
    rcases iteS H with ⟨hb227,H⟩ | ⟨hb227,H⟩
    ·refine Wp_cond_true (congrArg Value.bool hb227) ?_
     refine Wp_skip (tn (Wp_seq ?_))
     obtain ⟨o261,o261h,o261H⟩:=bindS H
     refine Wp_cut (fun ρ w'=>∃ (x260:Int),(x260)=o261∧Agree ρ [(4,pt b1 0),(8,pt b7 0),(21,.slice A0_10 a0.txs.length c0_10),(22,.int .i64 (a0.txs.length:Int)),(23,.int .i64 x154)]∧Ext w w'∧St w' M F [Blk b7 (.cells #[.int .i64 0,.bool false,.string (bs ([]:Str)),.slice none 0 0] 43 (0,0)),Blk b1 (.cells #[pt bo0 0] 27 (0,0)),Blk bo0 (.cells #[.int .i64 a0.c.Tasks,.int .i64 a0.c.Active,.int .i64 a0.c.Keys,.int .i64 a0.c.Depth,.int .i64 a0.c.TS,.int .i64 a0.c.KeyLen,.int .i64 a0.c.ValLen,.int .i64 a0.c.Fan,.map (mb A0_8),.map (mb A0_9),.slice A0_10 a0.txs.length c0_10,.map (mb A0_11),.int .i64 a0.clock,.int .i64 x260] 94 (0,0)),MapC enc_model_name (Value.int .i64) A0_8 a0.names,MapC (Value.int .i64) (Value.int .i64) A0_9 a0.many,Row r_model_tx 99 (.slice A0_10 a0.txs.length c0_10) a0.txs,MapC encS (fun v:Value=>v) A0_11 vs0_11]) ?_ ?_
     ·as_aux_lemma =>
       clear o261H
       have H:=o261h
       refine Wp_block ?_
       refine Wp_seq (Wp_region_lit ?_)
       obtain ⟨⟨p262,p263⟩,H⟩:=chkS H
       obtain ⟨b264,o265,cs266,_,_,ee271,hb267,vs268,hR269,hc270⟩:=SlW.at' (S.row_read 5 rfl) p262 p263
       obtain rfl:vs268=_:=hR269
       refine W_v (.pointer (some ⟨b264,o265+x154.toNat*2,none⟩)) (x_indexAddr Tryd.underlying92 ty99 (slA ee271) rfl p262 p263) rfl (W_v (.agg #[.int .u8 ((rd a0.txs x154).state),.int .i64 ((rd a0.txs x154).snapshot)]) (x_loadA (Hp.of_get hb267) ty99 rfl (sub_el hc270 0 rfl) rfl rfl) rfl ?_)
       refine W_alloc S #[.int .u8 0,.int .i64 0] ty99 rfl rfl ?_
       intro b272 w273 E' S
       replace E:=E.trans E'
       refine W_store S 0 rfl ty99 rfl rfl [.int .u8 ((rd a0.txs x154).state),.int .i64 ((rd a0.txs x154).snapshot)] rfl rfl rfl #[.int .u8 ((rd a0.txs x154).state),.int .i64 ((rd a0.txs x154).snapshot)] rfl rfl ?_
       intro w275 E' S
       replace E:=E.trans E'
       refine Wl_nil (tn (Wp_seq (Wp_region_lit (W_v (pt b272 0) (x_fieldAddr (o:=0) (off:=0) Tryd.underlying99 rfl ty5 rfl rfl) rfl (W_v (.int .u8 ((rd a0.txs x154).state)) (x_load (S.blk 0 rfl) ty5 rfl rfl) rfl (W_v (.bool ((rd a0.txs x154).state==(1:Int))) (x_ibin rfl rfl rfl rfl) rfl (Wl_nil (tn ?_))))))))
       obtain ⟨o287,o287h,o287H⟩:=bindS H
       refine Wp_cut (fun ρ w'=>∃ (x286:Int),(x286)=o287∧Agree ρ [(4,pt b1 0),(8,pt b7 0),(21,.slice A0_10 a0.txs.length c0_10),(22,.int .i64 (a0.txs.length:Int)),(23,.int .i64 x154)]∧Ext w w'∧St w' M F [Blk b7 (.cells #[.int .i64 0,.bool false,.string (bs ([]:Str)),.slice none 0 0] 43 (0,0)),Blk b1 (.cells #[pt bo0 0] 27 (0,0)),Blk bo0 (.cells #[.int .i64 a0.c.Tasks,.int .i64 a0.c.Active,.int .i64 a0.c.Keys,.int .i64 a0.c.Depth,.int .i64 a0.c.TS,.int .i64 a0.c.KeyLen,.int .i64 a0.c.ValLen,.int .i64 a0.c.Fan,.map (mb A0_8),.map (mb A0_9),.slice A0_10 a0.txs.length c0_10,.map (mb A0_11),.int .i64 a0.clock,.int .i64 x286] 94 (0,0)),MapC enc_model_name (Value.int .i64) A0_8 a0.names,MapC (Value.int .i64) (Value.int .i64) A0_9 a0.many,Row r_model_tx 99 (.slice A0_10 a0.txs.length c0_10) a0.txs,MapC encS (fun v:Value=>v) A0_11 vs0_11]) ?_ ?_
       ·clear o287H
        have H:=o287h
        rcases iteS H with ⟨hb288,H⟩ | ⟨hb288,H⟩
        ·refine Wp_cond_true (congrArg Value.bool hb288) ?_
         refine Wp_region_any (S:=fun w'=>∃ Mx,M.le Mx∧St w' Mx F [Blk b272 (.cells #[.int .u8 ((rd a0.txs x154).state),.int .i64 ((rd a0.txs x154).snapshot)] 99 (0,0)),Blk b7 (.cells #[.int .i64 0,.bool false,.string (bs ([]:Str)),.slice none 0 0] 43 (0,0)),Blk b1 (.cells #[pt bo0 0] 27 (0,0)),Blk bo0 (.cells #[.int .i64 a0.c.Tasks,.int .i64 a0.c.Active,.int .i64 a0.c.Keys,.int .i64 a0.c.Depth,.int .i64 a0.c.TS,.int .i64 a0.c.KeyLen,.int .i64 a0.c.ValLen,.int .i64 a0.c.Fan,.map (mb A0_8),.map (mb A0_9),.slice A0_10 a0.txs.length c0_10,.map (mb A0_11),.int .i64 a0.clock,.int .i64 x155] 94 (0,0)),MapC enc_model_name (Value.int .i64) A0_8 a0.names,MapC (Value.int .i64) (Value.int .i64) A0_9 a0.many,Row r_model_tx 99 (.slice A0_10 a0.txs.length c0_10) a0.txs,MapC encS (fun v:Value=>v) A0_11 vs0_11]) (L:=10) mixed ?_
         intro w290 hw291 E'
         replace S:=S.heap hw291
         replace E:=E.trans E'
         have D2:∃ Mx,Hp.le M Mx∧St _ Mx F [_,_,_,_,_,_,_,_]:=⟨_,Hp.le_refl _,S.pick [0,1,2,3,4,5,6,7] (by decide)⟩
         refine Wa_take (i:=0) rfl (by kernel_rfl) rfl rfl (pt bo0 0) rfl (fun w' h'=>x_load (cls_blk h' 2 rfl) ty27 rfl rfl) D2 (Wa_take (i:=1) rfl (by kernel_rfl) rfl rfl (pt bo0 0) rfl (fun w' h'=>x_load (cls_blk h' 2 rfl) ty27 rfl rfl) D2 (Wa_take (i:=2) rfl (by kernel_rfl) rfl rfl (pt bo0 0) rfl (fun w' h'=>x_nilptr rfl) D2 (Wa_take (i:=3) rfl (by kernel_rfl) rfl rfl (pt bo0 13) rfl (fun w' h'=>x_fieldAddr (o:=0) (off:=13) Tryd.underlying94 rfl ty3 rfl rfl) D2 (Wa_take (i:=4) rfl (by kernel_rfl) rfl rfl (.int .i64 x155) rfl (fun w' h'=>x_load (cls_blk h' 3 rfl) ty3 rfl rfl) D2 (Wa_take (i:=5) rfl (by kernel_rfl) rfl rfl (pt b272 1) rfl (fun w' h'=>x_fieldAddr (o:=0) (off:=1) Tryd.underlying99 rfl ty3 rfl rfl) D2 (Wa_take (i:=6) rfl (by kernel_rfl) rfl rfl (.int .i64 ((rd a0.txs x154).snapshot)) rfl (fun w' h'=>x_load (cls_blk h' 0 rfl) ty3 rfl rfl) D2 (Wa_take (i:=7) rfl (by kernel_rfl) rfl rfl (.int .i64 (imin x155 ((rd a0.txs x154).snapshot))) rfl (fun w' h'=>x_min2 rfl rfl) D2 (Wa_take (i:=8) rfl (by kernel_rfl) rfl rfl (pt bo0 0) rfl (fun w' h'=>x_nilptr rfl) D2 (Wa_take (i:=9) rfl (by kernel_rfl) rfl rfl (pt bo0 13) rfl (fun w' h'=>x_fieldAddr (o:=0) (off:=13) Tryd.underlying94 rfl ty3 rfl rfl) D2 ?_)))))))))
         refine Wa_solo (i:=10) rfl (by kernel_rfl) ?_
         refine W_store S 3 rfl ty3 rfl rfl [.int .i64 (imin x155 ((rd a0.txs x154).snapshot))] rfl rfl rfl #[.int .i64 a0.c.Tasks,.int .i64 a0.c.Active,.int .i64 a0.c.Keys,.int .i64 a0.c.Depth,.int .i64 a0.c.TS,.int .i64 a0.c.KeyLen,.int .i64 a0.c.ValLen,.int .i64 a0.c.Fan,.map (mb A0_8),.map (mb A0_9),.slice A0_10 a0.txs.length c0_10,.map (mb A0_11),.int .i64 a0.clock,.int .i64 (imin x155 ((rd a0.txs x154).snapshot))] rfl rfl ?_
         intro w292 E' S
         replace E:=E.trans E'
         refine Wl_nil (on_n ⟨.inl (by decide),?_⟩)
         refine Wa_done (by kernel_rfl) ?_
         refine tn ?_
         exact ⟨(imin x155 ((rd a0.txs x154).snapshot)),Option.some.inj H,⟨rfl,rfl,rfl,rfl,rfl,trivial⟩,E,S.pick [1,2,3,4,5,6,7] (by decide)⟩
        refine Wp_cond_false (congrArg Value.bool hb288) (Wp_skip (tn ?_))
        exact ⟨x155,Option.some.inj H,⟨rfl,rfl,rfl,rfl,rfl,trivial⟩,E,S.pick [1,2,3,4,5,6,7] (by decide)⟩
       rintro ρ w293 ⟨x286,rfl,hρ,E,S⟩
       rw [agree_eta hρ]
       have H:=o287H
       refine bn (tn ?_)
       exact ⟨x286,Option.some.inj H,⟨rfl,rfl,rfl,rfl,rfl,trivial⟩,E,S.pick [0,1,2,3,4,5,6] (by decide)⟩
     rintro ρ w294 ⟨x260,rfl,hρ,E,S⟩
     rw [agree_eta hρ]
     have H:=o261H
     refine tn (Wp_region_lit (W_v (.int .i64 (IntKind.i64.wrap (x154+(1:Int)))) (x_ibin rfl rfl rfl rfl) rfl (W_v (.int .i64 (IntKind.i64.wrap (x154+(1:Int)))) (x_move rfl) rfl (Wl_nil (tn ?_)))))
     exact ⟨k,Nat.lt_succ_self k,⟨(IntKind.i64.wrap (x154+(1:Int))),x260,H,⟨rfl,rfl,rfl,rfl,rfl,trivial⟩,E,S.pick [0,1,2,3,4,5,6] (by decide)⟩⟩
    refine Wp_cond_false (congrArg Value.bool hb227) ?_
    refine Wp_exit ?_
    refine tx (tx (bsm (?_)))
    refine tn ?_
    exact ⟨x155,Option.some.inj H,⟨rfl,rfl,trivial⟩,E,S.pick [0,1,2,3,4,5,6] (by decide)⟩
 rintro ρ w295 ⟨x224,rfl,hρ,E,S⟩
 rw [agree_eta hρ]
 have H:=o225H
 refine tn ?_
 as_aux_lemma =>
 refine Wp_seq (Wp_region_lit (W_v (pt bo0 0) (x_load (S.blk 1 rfl) ty27 rfl rfl) rfl (W_v (.func (.func 138) #[] #[pt b1 0]) (x_makeFunc rfl) rfl ?_)))
 obtain ⟨t296,ht297,H⟩:=bindS H
 replace S:St w295 M F [_,_,_,_,_,_,_]:=S.pick [2,3,4,5,6,1,0] (by decide)
 refine W_call fn137 (model_Model_each_POOOO_Model_vacuum_1_Q.con k M A0_8 c0_8 A0_9 c0_9 A0_10 c0_10 A0_11 c0_11 vs0_11 (⟨⟨a0.c.Tasks,a0.c.Active,a0.c.Keys,a0.c.Depth,a0.c.TS,a0.c.KeyLen,a0.c.ValLen,a0.c.Fan⟩,a0.names,a0.many,a0.txs,a0.rows,a0.clock,x224⟩:model_Model) bo0 b1 t296 hm0_11 ht297) (Γ1:=[_,_,_,_,_,_]) (Γ2:=[_]) S rfl rfl ?_
 rintro _ w312 M313 Γ' hM314 E' S ⟨A298,c299,A301,c302,A304,c305,A307,c308,vs310,rfl,hm311,rfl⟩
 replace HM:=Hp.le_trans HM hM314
 replace hm0_11:=MRel.mono hm0_11 hM314
 replace E:=E.trans E'
 replace S:St w312 M313 F [_,_,_,_,_,_,_]:=S
 refine Wl_nil (tn (Wp_seq (Wp_region_lit (W_v (.agg #[.int .i64 0,.bool false,.string (bs ([]:Str)),.slice none 0 0]) (x_build2 (pl:=[(0,1),(1,1),(2,1),(3,1)]) #[.int .i64 0,.bool false,.string (bs ([]:Str)),.slice none 0 0] Tryd.underlying43 ty43 (by as_aux_lemma=>kernel_rfl) rfl (by as_aux_lemma=>kernel_rfl)) rfl ?_))))
 refine W_store S 6 rfl ty43 rfl rfl [.int .i64 0,.bool false,.string (bs ([]:Str)),.slice none 0 0] rfl rfl rfl #[.int .i64 0,.bool false,.string (bs ([]:Str)),.slice none 0 0] rfl rfl ?_
 intro w315 E' S
 replace E:=E.trans E'
 refine Wl_nil (tn ?_)
 refine Wp_ret ?_
 obtain rfl:=Option.some.inj H
 replace S:=S.row_nil r_api_Pair 87
 exact ⟨_,_,_,fun w1 e1=>run_resR (vs:=[.agg #[.int .i64 0,.bool false,.string (bs ([]:Str)),.slice none ([]:List api_Pair).length 0]]) (FA.cons (⟨_,rfl,run_loadVar_agg ty43 ((S.of_eq e1).blk 7 rfl) (sub_of_extract rfl) rfl (by decide)⟩) (FA.nil)),HM,E,S.pick [0,1,2,3,4,5] (by decide),⟨none,0,A298,c299,A301,c302,A304,c305,A307,c308,vs310,rfl,hm311,rfl⟩⟩
def model_Model_migrate_POOOO (k:Nat) (a0:model_Model) (a1:Int) (a2:Int) (a3:api_Call):Option (api_Answer) :=
 some (⟨(0:Int),false,([]:Str),([]:List api_Pair)⟩:api_Answer)
set_option maxHeartbeats 2000000 in
theorem model_Model_migrate_POOOO.mono {k:Nat} {a0:model_Model} {a1:Int} {a2:Int} {a3:api_Call}:OLe (model_Model_migrate_POOOO k a0 a1 a2 a3) (model_Model_migrate_POOOO (k+1) a0 a1 a2 a3):=by
 unfold model_Model_migrate_POOOO
 repeat' (first | with_reducible exact OLe.none | with_reducible exact OLe.some | with_reducible refine OLe.ite ?_ ?_ | with_reducible refine OLe.bind ?_ (fun _=>?_) | refine OLe.bind ?_ (fun _=>?_) | refine OLe.ite ?_ ?_ | refine OLe.elim (fun _=>?_) (fun _=>?_) | split)
set_option maxHeartbeats 4000000 in
set_option maxRecDepth 100000 in
theorem model_Model_migrate_POOOO.con (k:Nat) (M:Hp) (A0_8:Option Addr) (c0_8:Nat) (A0_9:Option Addr) (c0_9:Nat) (A0_10:Option Addr) (c0_10:Nat) (A0_11:Option Addr) (c0_11:Nat) (vs0_11:List (Str×Value)) (a0:model_Model) (a1:Int) (a2:Int) (a3:api_Call) (bo0:Nat) (r:api_Answer) (hm0_11:MRel r_model_row M a0.rows vs0_11) (h:model_Model_migrate_POOOO k a0 a1 a2 a3=some r):Con Tryd.prog 132 #[pt bo0 0,.int .i64 a1,.int .i64 a2,.agg #[.int .u8 a3.Kind,.int .i64 a3.Tx,.string (bs a3.Key),.string (bs a3.End),.string (bs a3.Value),.int .i64 a3.Limit,.int .u8 a3.Engine]] M [B94 bo0 a0 A0_8 A0_9 A0_10 c0_10 A0_11,MapC enc_model_name (Value.int .i64) A0_8 a0.names,MapC (Value.int .i64) (Value.int .i64) A0_9 a0.many,Row r_model_tx 99 (.slice A0_10 a0.txs.length c0_10) a0.txs,MapC encS (fun v:Value=>v) A0_11 vs0_11] (fun v M' Γ'=>∃ (Aq1:Option Addr) (cq2:Nat),v=.agg #[.int .i64 r.Err,.bool r.Found,.string (bs r.Value),.slice Aq1 r.Pairs.length cq2]∧Γ'=[Row r_api_Pair 87 (.slice Aq1 r.Pairs.length cq2) r.Pairs,B94 bo0 a0 A0_8 A0_9 A0_10 c0_10 A0_11,MapC enc_model_name (Value.int .i64) A0_8 a0.names,MapC (Value.int .i64) (Value.int .i64) A0_9 a0.many,Row r_model_tx 99 (.slice A0_10 a0.txs.length c0_10) a0.txs,MapC encS (fun v:Value=>v) A0_11 vs0_11]):=by
 refine con_of_wp Tryd.func132 rfl Tryd.ntmps132 Tryd.results132 rfl ?_
 intro w F rn S hrn
 have E:=Ext.refl w
 have HM:=Hp.le_refl M
 have H:=h
 unfold model_Model_migrate_POOOO at H
 refine Wp_seq (Wp_region_lit ?_)
 refine W_box S #[.int .u8 a3.Kind,.int .i64 a3.Tx,.string (bs a3.Key),.string (bs a3.End),.string (bs a3.Value),.int .i64 a3.Limit,.int .u8 a3.Engine] rfl rfl rfl ?_
 intro b1 w2 E' S
 replace E:=E.trans E'
 refine W_alloc S #[.int .i64 0,.bool false,.string (bs ([]:Str)),.slice none 0 0] ty43 rfl rfl ?_
 intro b4 w5 E' S
 replace E:=E.trans E'
 refine Wl_nil (tn (Wp_seq (Wp_region_lit (W_v (.agg #[.int .i64 0,.bool false,.string (bs ([]:Str)),.slice none 0 0]) (x_build2 (pl:=[(0,1),(1,1),(2,1),(3,1)]) #[.int .i64 0,.bool false,.string (bs ([]:Str)),.slice none 0 0] Tryd.underlying43 ty43 (by as_aux_lemma=>kernel_rfl) rfl (by as_aux_lemma=>kernel_rfl)) rfl ?_))))
 refine W_store S 0 rfl ty43 rfl rfl [.int .i64 0,.bool false,.string (bs ([]:Str)),.slice none 0 0] rfl rfl rfl #[.int .i64 0,.bool false,.string (bs ([]:Str)),.slice none 0 0] rfl rfl ?_
 intro w7 E' S
 replace E:=E.trans E'
 refine Wl_nil (tn ?_)
 refine Wp_ret ?_
 obtain rfl:=Option.some.inj H
 replace S:=S.row_nil r_api_Pair 87
 exact ⟨_,_,_,fun w1 e1=>run_resR (vs:=[.agg #[.int .i64 0,.bool false,.string (bs ([]:Str)),.slice none ([]:List api_Pair).length 0]]) (FA.cons (⟨_,rfl,run_loadVar_agg ty43 ((S.of_eq e1).blk 1 rfl) (sub_of_extract rfl) rfl (by decide)⟩) (FA.nil)),HM,E,S.pick [0,3,4,5,6,7] (by decide),⟨none,0,rfl,rfl⟩⟩
def model_Model_Do_POOOO (k:Nat) (a0:model_Model) (a1:Int) (a2:api_Call):Option (api_Answer×model_Model) :=
 (Option.bind (model_Model_Refused_POOOO k a0 a1 a2) (fun t7=>(if (t7 != (0:Int))=true then some ((⟨t7,false,([]:Str),([]:List api_Pair)⟩:api_Answer),a0) else (Option.bind (model_Model_Tx_POOOO k a0 a1 a2.Tx) (fun t15=>(if 0≤a2.Kind∧a2.Kind<(10:Int) then (if (a2.Kind==(1:Int))=true then (Option.bind (model_Model_begin_POOOO k a0 t15.1 a1 a2) (fun t206=>some (t206.1,t206.2))) else (if (a2.Kind==(2:Int))=true then (Option.bind (model_Model_get_POOOO k a0 t15.1 a1 a2) (fun t230=>some (t230,a0))) else (if (a2.Kind==(3:Int))=true then (Option.bind (model_Model_put_POOOO k a0 t15.1 a1 a2) (fun t240=>some (t240.1,t240.2))) else (if (a2.Kind==(4:Int))=true then (Option.bind (model_Model_del_POOOO k a0 t15.1 a1 a2) (fun t264=>some (t264.1,t264.2))) else (if (a2.Kind==(5:Int))=true then (Option.bind (model_Model_scan_POOOO k a0 t15.1 a1 a2) (fun t288=>some (t288,a0))) else (if (a2.Kind==(6:Int))=true then (Option.bind (model_Model_commit_POOOO k a0 t15.1 a1 a2) (fun t298=>some (t298.1,t298.2))) else (if (a2.Kind==(7:Int))=true then (Option.bind (model_Model_abort_POOOO k a0 t15.1 a1 a2) (fun t322=>some (t322.1,t322.2))) else (if (a2.Kind==(8:Int))=true then (Option.bind (model_Model_vacuum_POOOO k a0 t15.1 a1 a2) (fun t346=>some (t346.1,t346.2))) else (if (a2.Kind==(9:Int))=true then (Option.bind (model_Model_migrate_POOOO k a0 t15.1 a1 a2) (fun t370=>some (t370,a0))) else none))))))))) else none))))))
set_option maxHeartbeats 2000000 in
theorem model_Model_Do_POOOO.mono {k:Nat} {a0:model_Model} {a1:Int} {a2:api_Call}:OLe (model_Model_Do_POOOO k a0 a1 a2) (model_Model_Do_POOOO (k+1) a0 a1 a2):=by
 unfold model_Model_Do_POOOO
 repeat' (first | with_reducible exact OLe.none | with_reducible exact OLe.some | with_reducible refine OLe.ite ?_ ?_ | with_reducible refine OLe.bind ?_ (fun _=>?_) | with_reducible exact model_Model_Refused_POOOO.mono | with_reducible exact model_Model_Tx_POOOO.mono | with_reducible exact model_Model_abort_POOOO.mono | with_reducible exact model_Model_begin_POOOO.mono | with_reducible exact model_Model_commit_POOOO.mono | with_reducible exact model_Model_del_POOOO.mono | with_reducible exact model_Model_get_POOOO.mono | with_reducible exact model_Model_migrate_POOOO.mono | with_reducible exact model_Model_put_POOOO.mono | with_reducible exact model_Model_scan_POOOO.mono | with_reducible exact model_Model_vacuum_POOOO.mono | refine OLe.bind ?_ (fun _=>?_) | refine OLe.ite ?_ ?_ | refine OLe.elim (fun _=>?_) (fun _=>?_) | split)
set_option maxHeartbeats 4000000 in
set_option maxRecDepth 100000 in
theorem model_Model_Do_POOOO.con (k:Nat) (M:Hp) (A0_8:Option Addr) (c0_8:Nat) (A0_9:Option Addr) (c0_9:Nat) (A0_10:Option Addr) (c0_10:Nat) (A0_11:Option Addr) (c0_11:Nat) (vs0_11:List (Str×Value)) (a0:model_Model) (a1:Int) (a2:api_Call) (bo0:Nat) (r:api_Answer×model_Model) (hm0_11:MRel r_model_row M a0.rows vs0_11) (hg0:∃ gt fr,M 0=some (.cells #[.nilFunc,.func (.func 124) #[] #[],.func (.func 125) #[] #[],.func (.func 126) #[] #[],.func (.func 127) #[] #[],.func (.func 128) #[] #[],.func (.func 129) #[] #[],.func (.func 130) #[] #[],.func (.func 131) #[] #[],.func (.func 132) #[] #[]] gt fr)) (h:model_Model_Do_POOOO k a0 a1 a2=some r):Con Tryd.prog 15 #[pt bo0 0,.int .i64 a1,.agg #[.int .u8 a2.Kind,.int .i64 a2.Tx,.string (bs a2.Key),.string (bs a2.End),.string (bs a2.Value),.int .i64 a2.Limit,.int .u8 a2.Engine]] M [B94 bo0 a0 A0_8 A0_9 A0_10 c0_10 A0_11,MapC enc_model_name (Value.int .i64) A0_8 a0.names,MapC (Value.int .i64) (Value.int .i64) A0_9 a0.many,Row r_model_tx 99 (.slice A0_10 a0.txs.length c0_10) a0.txs,MapC encS (fun v:Value=>v) A0_11 vs0_11] (fun v M' Γ'=>∃ (Aq1:Option Addr) (cq2:Nat) (Aq4:Option Addr) (cq5:Nat) (Aq7:Option Addr) (cq8:Nat) (Aq10:Option Addr) (cq11:Nat) (Aq13:Option Addr) (cq14:Nat) (vsq16:List (Str×Value)),v=.agg #[.int .i64 r.1.Err,.bool r.1.Found,.string (bs r.1.Value),.slice Aq1 r.1.Pairs.length cq2]∧MRel r_model_row M' r.2.rows vsq16∧Γ'=[Row r_api_Pair 87 (.slice Aq1 r.1.Pairs.length cq2) r.1.Pairs,B94 bo0 r.2 Aq4 Aq7 Aq10 cq11 Aq13,MapC enc_model_name (Value.int .i64) Aq4 r.2.names,MapC (Value.int .i64) (Value.int .i64) Aq7 r.2.many,Row r_model_tx 99 (.slice Aq10 r.2.txs.length cq11) r.2.txs,MapC encS (fun v:Value=>v) Aq13 vsq16]):=by
 refine con_of_wp Tryd.func15 rfl Tryd.ntmps15 Tryd.results15 rfl ?_
 intro w F rn S hrn
 have E:=Ext.refl w
 have HM:=Hp.le_refl M
 have H:=h
 unfold model_Model_Do_POOOO at H
 refine Wp_seq (Wp_region_lit ?_)
 refine W_box S #[.int .u8 a2.Kind,.int .i64 a2.Tx,.string (bs a2.Key),.string (bs a2.End),.string (bs a2.Value),.int .i64 a2.Limit,.int .u8 a2.Engine] rfl rfl rfl ?_
 intro b1 w2 E' S
 replace E:=E.trans E'
 refine W_alloc S #[.int .i64 0,.bool false,.string (bs ([]:Str)),.slice none 0 0] ty43 rfl rfl ?_
 intro b4 w5 E' S
 replace E:=E.trans E'
 refine Wl_nil (tn (Wp_seq (Wp_seq (Wp_region_lit (W_v (pt bo0 0) (x_move rfl) rfl (W_v (.int .i64 a1) (x_move rfl) rfl (W_v (.agg #[.int .u8 a2.Kind,.int .i64 a2.Tx,.string (bs a2.Key),.string (bs a2.End),.string (bs a2.Value),.int .i64 a2.Limit,.int .u8 a2.Engine]) (x_loadA (S.blk 1 rfl) ty37 rfl (sub_of_extract rfl) rfl rfl) rfl ?_)))))))
 obtain ⟨t7,ht8,H⟩:=bindS H
 replace S:St w5 M F [_,_,_,_,_,_,_]:=S.pick [2,3,4,5,6,0,1] (by decide)
 refine W_callF2 fn25 (model_Model_Refused_POOOO.con k M A0_8 c0_8 A0_9 c0_9 A0_10 c0_10 A0_11 c0_11 vs0_11 a0 a1 a2 bo0 t7 hm0_11 ht8) (Γ1:=[_,_,_,_,_]) (Γ2:=[_,_]) S rfl rfl (by rintro _ _ _ ⟨rfl,rfl⟩;exact (flat_cons flat_blk (flat_cons flat_map (flat_cons flat_map (flat_cons (flat_row (fun _ _ _ _ h=>h)) (flat_cons flat_map flat_nil)))))) ?_
 rintro _ w9 _ Γ' E' S ⟨rfl,rfl⟩
 replace E:=E.trans E'
 replace S:St w9 M F [_,_,_,_,_,_,_]:=S
 refine W_v (.int .i64 t7) (x_assign rfl) rfl (Wl_nil (tn (Wp_seq (Wp_region_lit (W_v (.int .i64 t7) (x_move rfl) rfl (W_v (.bool (t7 != (0:Int))) (x_ibin rfl rfl rfl rfl) rfl (Wl_nil (tn ?_))))))))
 rcases iteS H with ⟨hb12,H⟩ | ⟨hb12,H⟩
 ·refine Wp_cond_true (congrArg Value.bool hb12) ?_
  refine Wp_seq (Wp_region_lit (W_v (.int .i64 t7) (x_move rfl) rfl (W_v (.agg #[.int .i64 t7,.bool false,.string (bs ([]:Str)),.slice none 0 0]) (x_build2 (pl:=[(0,1),(1,1),(2,1),(3,1)]) #[.int .i64 t7,.bool false,.string (bs ([]:Str)),.slice none 0 0] Tryd.underlying43 ty43 (by as_aux_lemma=>kernel_rfl) rfl (by as_aux_lemma=>kernel_rfl)) rfl ?_)))
  refine W_store S 5 rfl ty43 rfl rfl [.int .i64 t7,.bool false,.string (bs ([]:Str)),.slice none 0 0] rfl rfl rfl #[.int .i64 t7,.bool false,.string (bs ([]:Str)),.slice none 0 0] rfl rfl ?_
  intro w13 E' S
  replace E:=E.trans E'
  refine Wl_nil (tn ?_)
  refine Wp_ret ?_
  refine tr (?_)
  obtain rfl:=Option.some.inj H
  replace S:=S.row_nil r_api_Pair 87
  exact ⟨_,_,_,fun w1 e1=>run_resR (vs:=[.agg #[.int .i64 t7,.bool false,.string (bs ([]:Str)),.slice none ([]:List api_Pair).length 0]]) (FA.cons (⟨_,rfl,run_loadVar_agg ty43 ((S.of_eq e1).blk 6 rfl) (sub_of_extract rfl) rfl (by decide)⟩) (FA.nil)),HM,E,S.pick [0,1,2,3,4,5] (by decide),⟨none,0,A0_8,c0_8,A0_9,c0_9,A0_10,c0_10,A0_11,c0_11,vs0_11,rfl,hm0_11,rfl⟩⟩
 refine Wp_cond_false (congrArg Value.bool hb12) (Wp_skip (tn ?_))
 as_aux_lemma =>
 refine Wp_seq (Wp_region_lit (W_v (pt bo0 0) (x_move rfl) rfl (W_v (.int .i64 a1) (x_move rfl) rfl (W_v (pt b1 1) (x_fieldAddr (o:=0) (off:=1) Tryd.underlying37 rfl ty3 rfl rfl) rfl (W_v (.int .i64 a2.Tx) (x_load (S.blk 6 rfl) ty3 rfl rfl) rfl ?_)))))
 obtain ⟨t15,ht16,H⟩:=bindS H
 refine W_callF2 fn23 (model_Model_Tx_POOOO.con k M A0_8 c0_8 A0_9 c0_9 A0_10 c0_10 A0_11 c0_11 vs0_11 a0 a1 a2.Tx bo0 t15 hm0_11 ht16) (Γ1:=[_,_,_,_,_]) (Γ2:=[_,_]) S rfl rfl (by rintro _ _ _ ⟨rfl,rfl⟩;exact (flat_cons flat_blk (flat_cons flat_map (flat_cons flat_map (flat_cons (flat_row (fun _ _ _ _ h=>h)) (flat_cons flat_map flat_nil)))))) ?_
 rintro _ w17 _ Γ' E' S ⟨rfl,rfl⟩
 replace E:=E.trans E'
 replace S:St w17 M F [_,_,_,_,_,_,_]:=S
 refine W_v (.tuple #[.int .i64 t15.1,.int .u8 t15.2.1,.int .i64 t15.2.2]) (x_move rfl) rfl (W_v (.int .i64 t15.1) (x_extract rfl rfl) rfl (W_v (.int .u8 t15.2.1) (x_extract rfl rfl) rfl (W_v (.int .i64 t15.2.2) (x_extract rfl rfl) rfl (W_v (.int .i64 t15.1) (x_assign rfl) rfl (W_v (.int .u8 t15.2.1) (x_assign rfl) rfl (W_v (.int .i64 t15.2.2) (x_assign rfl) rfl (Wl_nil (tn (Wp_seq ?_)))))))))
 have LE198:=Hp.le_refl M
 refine Wp_region_any (S:=fun w'=>∃ Mx,M.le Mx∧St w' Mx F [Blk b4 (.cells #[.int .i64 0,.bool false,.string (bs ([]:Str)),.slice none 0 0] 43 (0,0)),B37 b1 a2]) (L:=9) mixed ?_
 intro w199 hw200 E'
 replace S:=S.heap hw200
 replace E:=E.trans E'
 have D1:∃ Mx,Hp.le M Mx∧St _ Mx F [_,_]:=⟨_,Hp.le_refl _,S.pick [5,6] (by decide)⟩
 refine Wa_take (i:=0) rfl (by kernel_rfl) rfl rfl (pt b1 0) rfl (fun w' h'=>x_fieldAddr (o:=0) (off:=0) Tryd.underlying37 rfl ty5 rfl rfl) D1 (Wa_take (i:=1) rfl (by kernel_rfl) rfl rfl (.int .u8 a2.Kind) rfl (fun w' h'=>x_load (cls_blk h' 1 rfl) ty5 rfl rfl) D1 ?_)
 obtain ⟨⟨p201,p202⟩,H⟩:=chkS H
 refine Wa_take (i:=2) rfl (by kernel_rfl) rfl rfl (.pointer (some ⟨0,0+a2.Kind.toNat*1,none⟩)) rfl (fun w' h'=>x_indexArr Tryd.underlying96 ty95 rfl rfl p201 p202) D1 ?_
 obtain ⟨gtfr203,fr203,hgx204⟩:=hg0
 have hg0:∃ gt fr,_:=⟨gtfr203,fr203,hgx204⟩
 rcases iteS H with ⟨hb205,H⟩ | ⟨hb205,H⟩
 ·skip
  refine Wa_take (i:=3) rfl (by kernel_rfl) rfl rfl (.func (.func 124) #[] #[]) rfl (fun w' h'=>x_load (cls_frz h' hgx204) ty95 rfl (by rw [show a2.Kind=(1:Int) from eq_of_beq hb205];rfl)) D1 (Wa_take (i:=4) rfl (by kernel_rfl) rfl rfl (pt bo0 0) rfl (fun w' h'=>x_move rfl) D1 (Wa_take (i:=5) rfl (by kernel_rfl) rfl rfl (.int .i64 t15.1) rfl (fun w' h'=>x_move rfl) D1 (Wa_take (i:=6) rfl (by kernel_rfl) rfl rfl (.int .i64 a1) rfl (fun w' h'=>x_move rfl) D1 (Wa_take (i:=7) rfl (by kernel_rfl) rfl rfl (.agg #[.int .u8 a2.Kind,.int .i64 a2.Tx,.string (bs a2.Key),.string (bs a2.End),.string (bs a2.Value),.int .i64 a2.Limit,.int .u8 a2.Engine]) rfl (fun w' h'=>x_loadA (cls_blk h' 1 rfl) ty37 rfl (sub_of_extract rfl) rfl rfl) D1 ?_))))
  refine Wa_solo (i:=8) rfl (by kernel_rfl) ?_
  obtain ⟨t206,ht207,H⟩:=bindS H
  refine W_callv (fs:=[]) (cap:=[]) fn124 rfl (model_Model_begin_POOOO.con k M A0_8 c0_8 A0_9 c0_9 A0_10 c0_10 A0_11 c0_11 vs0_11 a0 t15.1 a1 a2 bo0 t206 hm0_11 ht207) (Γ1:=[_,_,_,_,_]) (Γ2:=[_,_]) S rfl rfl ?_
  rintro _ w225 M226 Γ' hM227 E' S ⟨A208,c209,A211,c212,A214,c215,A217,c218,A220,c221,vs223,rfl,hm224,rfl⟩
  replace hg0:∃ gt fr,_:=(let ⟨gt,fr,h8⟩:=hg0;⟨gt,fr,hM227 _ _ h8⟩)
  replace HM:=Hp.le_trans HM hM227
  replace LE198:=Hp.le_trans LE198 hM227
  replace hm0_11:=MRel.mono hm0_11 hM227
  replace E:=E.trans E'
  replace S:St w225 M226 F [_,_,_,_,_,_,_,_]:=S
  refine Wl_nil (on_n ⟨.inr ⟨M226,LE198,(S.pick [6,7] (by decide))⟩,?_⟩)
  refine Wa_solo (i:=9) rfl (by kernel_rfl) ?_
  refine W_store S 6 rfl ty43 rfl rfl [.int .i64 t206.1.Err,.bool t206.1.Found,.string (bs t206.1.Value),.slice A208 t206.1.Pairs.length c209] rfl rfl rfl #[.int .i64 t206.1.Err,.bool t206.1.Found,.string (bs t206.1.Value),.slice A208 t206.1.Pairs.length c209] rfl rfl ?_
  intro w228 E' S
  replace E:=E.trans E'
  refine Wl_nil (on_n ⟨.inl (by decide),?_⟩)
  refine Wa_done (by kernel_rfl) ?_
  refine tn ?_
  refine Wp_ret ?_
  obtain rfl:=Option.some.inj H
  exact ⟨_,_,_,fun w1 e1=>run_resR (vs:=[.agg #[.int .i64 t206.1.Err,.bool t206.1.Found,.string (bs t206.1.Value),.slice A208 t206.1.Pairs.length c209]]) (FA.cons (⟨_,rfl,run_loadVar_agg ty43 ((S.of_eq e1).blk 6 rfl) (sub_of_extract rfl) rfl (by decide)⟩) (FA.nil)),HM,E,S.pick [0,1,2,3,4,5] (by decide),⟨A208,c209,A211,c212,A214,c215,A217,c218,A220,c221,vs223,rfl,hm224,rfl⟩⟩
 rcases iteS H with ⟨hb229,H⟩ | ⟨hb229,H⟩
 ·skip
  have D2:∃ Mx,Hp.le M Mx∧St _ Mx F [_,_]:=⟨_,Hp.le_refl _,S.pick [5,6] (by decide)⟩
  refine Wa_take (i:=3) rfl (by kernel_rfl) rfl rfl (.func (.func 125) #[] #[]) rfl (fun w' h'=>x_load (cls_frz h' hgx204) ty95 rfl (by rw [show a2.Kind=(2:Int) from eq_of_beq hb229];rfl)) D2 (Wa_take (i:=4) rfl (by kernel_rfl) rfl rfl (pt bo0 0) rfl (fun w' h'=>x_move rfl) D2 (Wa_take (i:=5) rfl (by kernel_rfl) rfl rfl (.int .i64 t15.1) rfl (fun w' h'=>x_move rfl) D2 (Wa_take (i:=6) rfl (by kernel_rfl) rfl rfl (.int .i64 a1) rfl (fun w' h'=>x_move rfl) D2 (Wa_take (i:=7) rfl (by kernel_rfl) rfl rfl (.agg #[.int .u8 a2.Kind,.int .i64 a2.Tx,.string (bs a2.Key),.string (bs a2.End),.string (bs a2.Value),.int .i64 a2.Limit,.int .u8 a2.Engine]) rfl (fun w' h'=>x_loadA (cls_blk h' 1 rfl) ty37 rfl (sub_of_extract rfl) rfl rfl) D2 ?_))))
  refine Wa_solo (i:=8) rfl (by kernel_rfl) ?_
  obtain ⟨t230,ht231,H⟩:=bindS H
  refine W_callvF2 (fs:=[]) (cap:=[]) fn125 rfl (model_Model_get_POOOO.con k M A0_8 c0_8 A0_9 c0_9 A0_10 c0_10 A0_11 c0_11 vs0_11 a0 t15.1 a1 a2 bo0 t230 hm0_11 ht231) (Γ1:=[_,_,_,_,_]) (Γ2:=[_,_]) S rfl rfl (by rintro _ _ _ ⟨_,_,rfl,rfl⟩;exact (flat_cons (flat_row (fun _ _ _ _ h=>h)) (flat_cons flat_blk (flat_cons flat_map (flat_cons flat_map (flat_cons (flat_row (fun _ _ _ _ h=>h)) (flat_cons flat_map flat_nil))))))) ?_
  rintro _ w235 _ Γ' E' S ⟨A232,c233,rfl,rfl⟩
  replace E:=E.trans E'
  replace S:St w235 M F [_,_,_,_,_,_,_,_]:=S
  refine Wl_nil (on_n ⟨.inr ⟨M,Hp.le_refl M,(S.pick [6,7] (by decide))⟩,?_⟩)
  refine Wa_solo (i:=9) rfl (by kernel_rfl) ?_
  refine W_store S 6 rfl ty43 rfl rfl [.int .i64 t230.Err,.bool t230.Found,.string (bs t230.Value),.slice A232 t230.Pairs.length c233] rfl rfl rfl #[.int .i64 t230.Err,.bool t230.Found,.string (bs t230.Value),.slice A232 t230.Pairs.length c233] rfl rfl ?_
  intro w238 E' S
  replace E:=E.trans E'
  refine Wl_nil (on_n ⟨.inl (by decide),?_⟩)
  refine Wa_done (by kernel_rfl) ?_
  refine tn ?_
  refine Wp_ret ?_
  obtain rfl:=Option.some.inj H
  exact ⟨_,_,_,fun w1 e1=>run_resR (vs:=[.agg #[.int .i64 t230.Err,.bool t230.Found,.string (bs t230.Value),.slice A232 t230.Pairs.length c233]]) (FA.cons (⟨_,rfl,run_loadVar_agg ty43 ((S.of_eq e1).blk 6 rfl) (sub_of_extract rfl) rfl (by decide)⟩) (FA.nil)),HM,E,S.pick [0,1,2,3,4,5] (by decide),⟨A232,c233,A0_8,c0_8,A0_9,c0_9,A0_10,c0_10,A0_11,c0_11,vs0_11,rfl,hm0_11,rfl⟩⟩
 rcases iteS H with ⟨hb239,H⟩ | ⟨hb239,H⟩
 ·skip
  have D3:∃ Mx,Hp.le M Mx∧St _ Mx F [_,_]:=⟨_,Hp.le_refl _,S.pick [5,6] (by decide)⟩
  refine Wa_take (i:=3) rfl (by kernel_rfl) rfl rfl (.func (.func 126) #[] #[]) rfl (fun w' h'=>x_load (cls_frz h' hgx204) ty95 rfl (by rw [show a2.Kind=(3:Int) from eq_of_beq hb239];rfl)) D3 (Wa_take (i:=4) rfl (by kernel_rfl) rfl rfl (pt bo0 0) rfl (fun w' h'=>x_move rfl) D3 (Wa_take (i:=5) rfl (by kernel_rfl) rfl rfl (.int .i64 t15.1) rfl (fun w' h'=>x_move rfl) D3 (Wa_take (i:=6) rfl (by kernel_rfl) rfl rfl (.int .i64 a1) rfl (fun w' h'=>x_move rfl) D3 (Wa_take (i:=7) rfl (by kernel_rfl) rfl rfl (.agg #[.int .u8 a2.Kind,.int .i64 a2.Tx,.string (bs a2.Key),.string (bs a2.End),.string (bs a2.Value),.int .i64 a2.Limit,.int .u8 a2.Engine]) rfl (fun w' h'=>x_loadA (cls_blk h' 1 rfl) ty37 rfl (sub_of_extract rfl) rfl rfl) D3 ?_))))
  refine Wa_solo (i:=8) rfl (by kernel_rfl) ?_
  obtain ⟨t240,ht241,H⟩:=bindS H
  refine W_callv (fs:=[]) (cap:=[]) fn126 rfl (model_Model_put_POOOO.con k M A0_8 c0_8 A0_9 c0_9 A0_10 c0_10 A0_11 c0_11 vs0_11 a0 t15.1 a1 a2 bo0 t240 hm0_11 ht241) (Γ1:=[_,_,_,_,_]) (Γ2:=[_,_]) S rfl rfl ?_
  rintro _ w259 M260 Γ' hM261 E' S ⟨A242,c243,A245,c246,A248,c249,A251,c252,A254,c255,vs257,rfl,hm258,rfl⟩
  replace hg0:∃ gt fr,_:=(let ⟨gt,fr,h8⟩:=hg0;⟨gt,fr,hM261 _ _ h8⟩)
  replace HM:=Hp.le_trans HM hM261
  replace LE198:=Hp.le_trans LE198 hM261
  replace hm0_11:=MRel.mono hm0_11 hM261
  replace E:=E.trans E'
  replace S:St w259 M260 F [_,_,_,_,_,_,_,_]:=S
  refine Wl_nil (on_n ⟨.inr ⟨M260,LE198,(S.pick [6,7] (by decide))⟩,?_⟩)
  refine Wa_solo (i:=9) rfl (by kernel_rfl) ?_
  refine W_store S 6 rfl ty43 rfl rfl [.int .i64 t240.1.Err,.bool t240.1.Found,.string (bs t240.1.Value),.slice A242 t240.1.Pairs.length c243] rfl rfl rfl #[.int .i64 t240.1.Err,.bool t240.1.Found,.string (bs t240.1.Value),.slice A242 t240.1.Pairs.length c243] rfl rfl ?_
  intro w262 E' S
  replace E:=E.trans E'
  refine Wl_nil (on_n ⟨.inl (by decide),?_⟩)
  refine Wa_done (by kernel_rfl) ?_
  refine tn ?_
  refine Wp_ret ?_
  obtain rfl:=Option.some.inj H
  exact ⟨_,_,_,fun w1 e1=>run_resR (vs:=[.agg #[.int .i64 t240.1.Err,.bool t240.1.Found,.string (bs t240.1.Value),.slice A242 t240.1.Pairs.length c243]]) (FA.cons (⟨_,rfl,run_loadVar_agg ty43 ((S.of_eq e1).blk 6 rfl) (sub_of_extract rfl) rfl (by decide)⟩) (FA.nil)),HM,E,S.pick [0,1,2,3,4,5] (by decide),⟨A242,c243,A245,c246,A248,c249,A251,c252,A254,c255,vs257,rfl,hm258,rfl⟩⟩
 rcases iteS H with ⟨hb263,H⟩ | ⟨hb263,H⟩
 ·skip
  have D4:∃ Mx,Hp.le M Mx∧St _ Mx F [_,_]:=⟨_,Hp.le_refl _,S.pick [5,6] (by decide)⟩
  refine Wa_take (i:=3) rfl (by kernel_rfl) rfl rfl (.func (.func 127) #[] #[]) rfl (fun w' h'=>x_load (cls_frz h' hgx204) ty95 rfl (by rw [show a2.Kind=(4:Int) from eq_of_beq hb263];rfl)) D4 (Wa_take (i:=4) rfl (by kernel_rfl) rfl rfl (pt bo0 0) rfl (fun w' h'=>x_move rfl) D4 (Wa_take (i:=5) rfl (by kernel_rfl) rfl rfl (.int .i64 t15.1) rfl (fun w' h'=>x_move rfl) D4 (Wa_take (i:=6) rfl (by kernel_rfl) rfl rfl (.int .i64 a1) rfl (fun w' h'=>x_move rfl) D4 (Wa_take (i:=7) rfl (by kernel_rfl) rfl rfl (.agg #[.int .u8 a2.Kind,.int .i64 a2.Tx,.string (bs a2.Key),.string (bs a2.End),.string (bs a2.Value),.int .i64 a2.Limit,.int .u8 a2.Engine]) rfl (fun w' h'=>x_loadA (cls_blk h' 1 rfl) ty37 rfl (sub_of_extract rfl) rfl rfl) D4 ?_))))
  refine Wa_solo (i:=8) rfl (by kernel_rfl) ?_
  obtain ⟨t264,ht265,H⟩:=bindS H
  refine W_callv (fs:=[]) (cap:=[]) fn127 rfl (model_Model_del_POOOO.con k M A0_8 c0_8 A0_9 c0_9 A0_10 c0_10 A0_11 c0_11 vs0_11 a0 t15.1 a1 a2 bo0 t264 hm0_11 ht265) (Γ1:=[_,_,_,_,_]) (Γ2:=[_,_]) S rfl rfl ?_
  rintro _ w283 M284 Γ' hM285 E' S ⟨A266,c267,A269,c270,A272,c273,A275,c276,A278,c279,vs281,rfl,hm282,rfl⟩
  replace hg0:∃ gt fr,_:=(let ⟨gt,fr,h8⟩:=hg0;⟨gt,fr,hM285 _ _ h8⟩)
  replace HM:=Hp.le_trans HM hM285
  replace LE198:=Hp.le_trans LE198 hM285
  replace hm0_11:=MRel.mono hm0_11 hM285
  replace E:=E.trans E'
  replace S:St w283 M284 F [_,_,_,_,_,_,_,_]:=S
  refine Wl_nil (on_n ⟨.inr ⟨M284,LE198,(S.pick [6,7] (by decide))⟩,?_⟩)
  refine Wa_solo (i:=9) rfl (by kernel_rfl) ?_
  refine W_store S 6 rfl ty43 rfl rfl [.int .i64 t264.1.Err,.bool t264.1.Found,.string (bs t264.1.Value),.slice A266 t264.1.Pairs.length c267] rfl rfl rfl #[.int .i64 t264.1.Err,.bool t264.1.Found,.string (bs t264.1.Value),.slice A266 t264.1.Pairs.length c267] rfl rfl ?_
  intro w286 E' S
  replace E:=E.trans E'
  refine Wl_nil (on_n ⟨.inl (by decide),?_⟩)
  refine Wa_done (by kernel_rfl) ?_
  refine tn ?_
  refine Wp_ret ?_
  obtain rfl:=Option.some.inj H
  exact ⟨_,_,_,fun w1 e1=>run_resR (vs:=[.agg #[.int .i64 t264.1.Err,.bool t264.1.Found,.string (bs t264.1.Value),.slice A266 t264.1.Pairs.length c267]]) (FA.cons (⟨_,rfl,run_loadVar_agg ty43 ((S.of_eq e1).blk 6 rfl) (sub_of_extract rfl) rfl (by decide)⟩) (FA.nil)),HM,E,S.pick [0,1,2,3,4,5] (by decide),⟨A266,c267,A269,c270,A272,c273,A275,c276,A278,c279,vs281,rfl,hm282,rfl⟩⟩
 rcases iteS H with ⟨hb287,H⟩ | ⟨hb287,H⟩
 ·skip
  have D5:∃ Mx,Hp.le M Mx∧St _ Mx F [_,_]:=⟨_,Hp.le_refl _,S.pick [5,6] (by decide)⟩
  refine Wa_take (i:=3) rfl (by kernel_rfl) rfl rfl (.func (.func 128) #[] #[]) rfl (fun w' h'=>x_load (cls_frz h' hgx204) ty95 rfl (by rw [show a2.Kind=(5:Int) from eq_of_beq hb287];rfl)) D5 (Wa_take (i:=4) rfl (by kernel_rfl) rfl rfl (pt bo0 0) rfl (fun w' h'=>x_move rfl) D5 (Wa_take (i:=5) rfl (by kernel_rfl) rfl rfl (.int .i64 t15.1) rfl (fun w' h'=>x_move rfl) D5 (Wa_take (i:=6) rfl (by kernel_rfl) rfl rfl (.int .i64 a1) rfl (fun w' h'=>x_move rfl) D5 (Wa_take (i:=7) rfl (by kernel_rfl) rfl rfl (.agg #[.int .u8 a2.Kind,.int .i64 a2.Tx,.string (bs a2.Key),.string (bs a2.End),.string (bs a2.Value),.int .i64 a2.Limit,.int .u8 a2.Engine]) rfl (fun w' h'=>x_loadA (cls_blk h' 1 rfl) ty37 rfl (sub_of_extract rfl) rfl rfl) D5 ?_))))
  refine Wa_solo (i:=8) rfl (by kernel_rfl) ?_
  obtain ⟨t288,ht289,H⟩:=bindS H
  refine W_callvF2 (fs:=[]) (cap:=[]) fn128 rfl (model_Model_scan_POOOO.con k M A0_8 c0_8 A0_9 c0_9 A0_10 c0_10 A0_11 c0_11 vs0_11 a0 t15.1 a1 a2 bo0 t288 hm0_11 ht289) (Γ1:=[_,_,_,_,_]) (Γ2:=[_,_]) S rfl rfl (by rintro _ _ _ ⟨_,_,rfl,rfl⟩;exact (flat_cons (flat_row (fun _ _ _ _ h=>h)) (flat_cons flat_blk (flat_cons flat_map (flat_cons flat_map (flat_cons (flat_row (fun _ _ _ _ h=>h)) (flat_cons flat_map flat_nil))))))) ?_
  rintro _ w293 _ Γ' E' S ⟨A290,c291,rfl,rfl⟩
  replace E:=E.trans E'
  replace S:St w293 M F [_,_,_,_,_,_,_,_]:=S
  refine Wl_nil (on_n ⟨.inr ⟨M,Hp.le_refl M,(S.pick [6,7] (by decide))⟩,?_⟩)
  refine Wa_solo (i:=9) rfl (by kernel_rfl) ?_
  refine W_store S 6 rfl ty43 rfl rfl [.int .i64 t288.Err,.bool t288.Found,.string (bs t288.Value),.slice A290 t288.Pairs.length c291] rfl rfl rfl #[.int .i64 t288.Err,.bool t288.Found,.string (bs t288.Value),.slice A290 t288.Pairs.length c291] rfl rfl ?_
  intro w296 E' S
  replace E:=E.trans E'
  refine Wl_nil (on_n ⟨.inl (by decide),?_⟩)
  refine Wa_done (by kernel_rfl) ?_
  refine tn ?_
  refine Wp_ret ?_
  obtain rfl:=Option.some.inj H
  exact ⟨_,_,_,fun w1 e1=>run_resR (vs:=[.agg #[.int .i64 t288.Err,.bool t288.Found,.string (bs t288.Value),.slice A290 t288.Pairs.length c291]]) (FA.cons (⟨_,rfl,run_loadVar_agg ty43 ((S.of_eq e1).blk 6 rfl) (sub_of_extract rfl) rfl (by decide)⟩) (FA.nil)),HM,E,S.pick [0,1,2,3,4,5] (by decide),⟨A290,c291,A0_8,c0_8,A0_9,c0_9,A0_10,c0_10,A0_11,c0_11,vs0_11,rfl,hm0_11,rfl⟩⟩
 rcases iteS H with ⟨hb297,H⟩ | ⟨hb297,H⟩
 ·skip
  have D6:∃ Mx,Hp.le M Mx∧St _ Mx F [_,_]:=⟨_,Hp.le_refl _,S.pick [5,6] (by decide)⟩
  refine Wa_take (i:=3) rfl (by kernel_rfl) rfl rfl (.func (.func 129) #[] #[]) rfl (fun w' h'=>x_load (cls_frz h' hgx204) ty95 rfl (by rw [show a2.Kind=(6:Int) from eq_of_beq hb297];rfl)) D6 (Wa_take (i:=4) rfl (by kernel_rfl) rfl rfl (pt bo0 0) rfl (fun w' h'=>x_move rfl) D6 (Wa_take (i:=5) rfl (by kernel_rfl) rfl rfl (.int .i64 t15.1) rfl (fun w' h'=>x_move rfl) D6 (Wa_take (i:=6) rfl (by kernel_rfl) rfl rfl (.int .i64 a1) rfl (fun w' h'=>x_move rfl) D6 (Wa_take (i:=7) rfl (by kernel_rfl) rfl rfl (.agg #[.int .u8 a2.Kind,.int .i64 a2.Tx,.string (bs a2.Key),.string (bs a2.End),.string (bs a2.Value),.int .i64 a2.Limit,.int .u8 a2.Engine]) rfl (fun w' h'=>x_loadA (cls_blk h' 1 rfl) ty37 rfl (sub_of_extract rfl) rfl rfl) D6 ?_))))
  refine Wa_solo (i:=8) rfl (by kernel_rfl) ?_
  obtain ⟨t298,ht299,H⟩:=bindS H
  refine W_callv (fs:=[]) (cap:=[]) fn129 rfl (model_Model_commit_POOOO.con k M A0_8 c0_8 A0_9 c0_9 A0_10 c0_10 A0_11 c0_11 vs0_11 a0 t15.1 a1 a2 bo0 t298 hm0_11 ht299) (Γ1:=[_,_,_,_,_]) (Γ2:=[_,_]) S rfl rfl ?_
  rintro _ w317 M318 Γ' hM319 E' S ⟨A300,c301,A303,c304,A306,c307,A309,c310,A312,c313,vs315,rfl,hm316,rfl⟩
  replace hg0:∃ gt fr,_:=(let ⟨gt,fr,h8⟩:=hg0;⟨gt,fr,hM319 _ _ h8⟩)
  replace HM:=Hp.le_trans HM hM319
  replace LE198:=Hp.le_trans LE198 hM319
  replace hm0_11:=MRel.mono hm0_11 hM319
  replace E:=E.trans E'
  replace S:St w317 M318 F [_,_,_,_,_,_,_,_]:=S
  refine Wl_nil (on_n ⟨.inr ⟨M318,LE198,(S.pick [6,7] (by decide))⟩,?_⟩)
  refine Wa_solo (i:=9) rfl (by kernel_rfl) ?_
  refine W_store S 6 rfl ty43 rfl rfl [.int .i64 t298.1.Err,.bool t298.1.Found,.string (bs t298.1.Value),.slice A300 t298.1.Pairs.length c301] rfl rfl rfl #[.int .i64 t298.1.Err,.bool t298.1.Found,.string (bs t298.1.Value),.slice A300 t298.1.Pairs.length c301] rfl rfl ?_
  intro w320 E' S
  replace E:=E.trans E'
  refine Wl_nil (on_n ⟨.inl (by decide),?_⟩)
  refine Wa_done (by kernel_rfl) ?_
  refine tn ?_
  refine Wp_ret ?_
  obtain rfl:=Option.some.inj H
  exact ⟨_,_,_,fun w1 e1=>run_resR (vs:=[.agg #[.int .i64 t298.1.Err,.bool t298.1.Found,.string (bs t298.1.Value),.slice A300 t298.1.Pairs.length c301]]) (FA.cons (⟨_,rfl,run_loadVar_agg ty43 ((S.of_eq e1).blk 6 rfl) (sub_of_extract rfl) rfl (by decide)⟩) (FA.nil)),HM,E,S.pick [0,1,2,3,4,5] (by decide),⟨A300,c301,A303,c304,A306,c307,A309,c310,A312,c313,vs315,rfl,hm316,rfl⟩⟩
 rcases iteS H with ⟨hb321,H⟩ | ⟨hb321,H⟩
 ·skip
  have D7:∃ Mx,Hp.le M Mx∧St _ Mx F [_,_]:=⟨_,Hp.le_refl _,S.pick [5,6] (by decide)⟩
  refine Wa_take (i:=3) rfl (by kernel_rfl) rfl rfl (.func (.func 130) #[] #[]) rfl (fun w' h'=>x_load (cls_frz h' hgx204) ty95 rfl (by rw [show a2.Kind=(7:Int) from eq_of_beq hb321];rfl)) D7 (Wa_take (i:=4) rfl (by kernel_rfl) rfl rfl (pt bo0 0) rfl (fun w' h'=>x_move rfl) D7 (Wa_take (i:=5) rfl (by kernel_rfl) rfl rfl (.int .i64 t15.1) rfl (fun w' h'=>x_move rfl) D7 (Wa_take (i:=6) rfl (by kernel_rfl) rfl rfl (.int .i64 a1) rfl (fun w' h'=>x_move rfl) D7 (Wa_take (i:=7) rfl (by kernel_rfl) rfl rfl (.agg #[.int .u8 a2.Kind,.int .i64 a2.Tx,.string (bs a2.Key),.string (bs a2.End),.string (bs a2.Value),.int .i64 a2.Limit,.int .u8 a2.Engine]) rfl (fun w' h'=>x_loadA (cls_blk h' 1 rfl) ty37 rfl (sub_of_extract rfl) rfl rfl) D7 ?_))))
  refine Wa_solo (i:=8) rfl (by kernel_rfl) ?_
  obtain ⟨t322,ht323,H⟩:=bindS H
  refine W_callv (fs:=[]) (cap:=[]) fn130 rfl (model_Model_abort_POOOO.con k M A0_8 c0_8 A0_9 c0_9 A0_10 c0_10 A0_11 c0_11 vs0_11 a0 t15.1 a1 a2 bo0 t322 hm0_11 ht323) (Γ1:=[_,_,_,_,_]) (Γ2:=[_,_]) S rfl rfl ?_
  rintro _ w341 M342 Γ' hM343 E' S ⟨A324,c325,A327,c328,A330,c331,A333,c334,A336,c337,vs339,rfl,hm340,rfl⟩
  replace hg0:∃ gt fr,_:=(let ⟨gt,fr,h8⟩:=hg0;⟨gt,fr,hM343 _ _ h8⟩)
  replace HM:=Hp.le_trans HM hM343
  replace LE198:=Hp.le_trans LE198 hM343
  replace hm0_11:=MRel.mono hm0_11 hM343
  replace E:=E.trans E'
  replace S:St w341 M342 F [_,_,_,_,_,_,_,_]:=S
  refine Wl_nil (on_n ⟨.inr ⟨M342,LE198,(S.pick [6,7] (by decide))⟩,?_⟩)
  refine Wa_solo (i:=9) rfl (by kernel_rfl) ?_
  refine W_store S 6 rfl ty43 rfl rfl [.int .i64 t322.1.Err,.bool t322.1.Found,.string (bs t322.1.Value),.slice A324 t322.1.Pairs.length c325] rfl rfl rfl #[.int .i64 t322.1.Err,.bool t322.1.Found,.string (bs t322.1.Value),.slice A324 t322.1.Pairs.length c325] rfl rfl ?_
  intro w344 E' S
  replace E:=E.trans E'
  refine Wl_nil (on_n ⟨.inl (by decide),?_⟩)
  refine Wa_done (by kernel_rfl) ?_
  refine tn ?_
  refine Wp_ret ?_
  obtain rfl:=Option.some.inj H
  exact ⟨_,_,_,fun w1 e1=>run_resR (vs:=[.agg #[.int .i64 t322.1.Err,.bool t322.1.Found,.string (bs t322.1.Value),.slice A324 t322.1.Pairs.length c325]]) (FA.cons (⟨_,rfl,run_loadVar_agg ty43 ((S.of_eq e1).blk 6 rfl) (sub_of_extract rfl) rfl (by decide)⟩) (FA.nil)),HM,E,S.pick [0,1,2,3,4,5] (by decide),⟨A324,c325,A327,c328,A330,c331,A333,c334,A336,c337,vs339,rfl,hm340,rfl⟩⟩
 rcases iteS H with ⟨hb345,H⟩ | ⟨hb345,H⟩
 ·skip
  have D8:∃ Mx,Hp.le M Mx∧St _ Mx F [_,_]:=⟨_,Hp.le_refl _,S.pick [5,6] (by decide)⟩
  refine Wa_take (i:=3) rfl (by kernel_rfl) rfl rfl (.func (.func 131) #[] #[]) rfl (fun w' h'=>x_load (cls_frz h' hgx204) ty95 rfl (by rw [show a2.Kind=(8:Int) from eq_of_beq hb345];rfl)) D8 (Wa_take (i:=4) rfl (by kernel_rfl) rfl rfl (pt bo0 0) rfl (fun w' h'=>x_move rfl) D8 (Wa_take (i:=5) rfl (by kernel_rfl) rfl rfl (.int .i64 t15.1) rfl (fun w' h'=>x_move rfl) D8 (Wa_take (i:=6) rfl (by kernel_rfl) rfl rfl (.int .i64 a1) rfl (fun w' h'=>x_move rfl) D8 (Wa_take (i:=7) rfl (by kernel_rfl) rfl rfl (.agg #[.int .u8 a2.Kind,.int .i64 a2.Tx,.string (bs a2.Key),.string (bs a2.End),.string (bs a2.Value),.int .i64 a2.Limit,.int .u8 a2.Engine]) rfl (fun w' h'=>x_loadA (cls_blk h' 1 rfl) ty37 rfl (sub_of_extract rfl) rfl rfl) D8 ?_))))
  refine Wa_solo (i:=8) rfl (by kernel_rfl) ?_
  obtain ⟨t346,ht347,H⟩:=bindS H
  refine W_callv (fs:=[]) (cap:=[]) fn131 rfl (model_Model_vacuum_POOOO.con k M A0_8 c0_8 A0_9 c0_9 A0_10 c0_10 A0_11 c0_11 vs0_11 a0 t15.1 a1 a2 bo0 t346 hm0_11 ht347) (Γ1:=[_,_,_,_,_]) (Γ2:=[_,_]) S rfl rfl ?_
  rintro _ w365 M366 Γ' hM367 E' S ⟨A348,c349,A351,c352,A354,c355,A357,c358,A360,c361,vs363,rfl,hm364,rfl⟩
  replace hg0:∃ gt fr,_:=(let ⟨gt,fr,h8⟩:=hg0;⟨gt,fr,hM367 _ _ h8⟩)
  replace HM:=Hp.le_trans HM hM367
  replace LE198:=Hp.le_trans LE198 hM367
  replace hm0_11:=MRel.mono hm0_11 hM367
  replace E:=E.trans E'
  replace S:St w365 M366 F [_,_,_,_,_,_,_,_]:=S
  refine Wl_nil (on_n ⟨.inr ⟨M366,LE198,(S.pick [6,7] (by decide))⟩,?_⟩)
  refine Wa_solo (i:=9) rfl (by kernel_rfl) ?_
  refine W_store S 6 rfl ty43 rfl rfl [.int .i64 t346.1.Err,.bool t346.1.Found,.string (bs t346.1.Value),.slice A348 t346.1.Pairs.length c349] rfl rfl rfl #[.int .i64 t346.1.Err,.bool t346.1.Found,.string (bs t346.1.Value),.slice A348 t346.1.Pairs.length c349] rfl rfl ?_
  intro w368 E' S
  replace E:=E.trans E'
  refine Wl_nil (on_n ⟨.inl (by decide),?_⟩)
  refine Wa_done (by kernel_rfl) ?_
  refine tn ?_
  refine Wp_ret ?_
  obtain rfl:=Option.some.inj H
  exact ⟨_,_,_,fun w1 e1=>run_resR (vs:=[.agg #[.int .i64 t346.1.Err,.bool t346.1.Found,.string (bs t346.1.Value),.slice A348 t346.1.Pairs.length c349]]) (FA.cons (⟨_,rfl,run_loadVar_agg ty43 ((S.of_eq e1).blk 6 rfl) (sub_of_extract rfl) rfl (by decide)⟩) (FA.nil)),HM,E,S.pick [0,1,2,3,4,5] (by decide),⟨A348,c349,A351,c352,A354,c355,A357,c358,A360,c361,vs363,rfl,hm364,rfl⟩⟩
 rcases iteS H with ⟨hb369,H⟩ | ⟨hb369,H⟩
 ·skip
  have D9:∃ Mx,Hp.le M Mx∧St _ Mx F [_,_]:=⟨_,Hp.le_refl _,S.pick [5,6] (by decide)⟩
  refine Wa_take (i:=3) rfl (by kernel_rfl) rfl rfl (.func (.func 132) #[] #[]) rfl (fun w' h'=>x_load (cls_frz h' hgx204) ty95 rfl (by rw [show a2.Kind=(9:Int) from eq_of_beq hb369];rfl)) D9 (Wa_take (i:=4) rfl (by kernel_rfl) rfl rfl (pt bo0 0) rfl (fun w' h'=>x_move rfl) D9 (Wa_take (i:=5) rfl (by kernel_rfl) rfl rfl (.int .i64 t15.1) rfl (fun w' h'=>x_move rfl) D9 (Wa_take (i:=6) rfl (by kernel_rfl) rfl rfl (.int .i64 a1) rfl (fun w' h'=>x_move rfl) D9 (Wa_take (i:=7) rfl (by kernel_rfl) rfl rfl (.agg #[.int .u8 a2.Kind,.int .i64 a2.Tx,.string (bs a2.Key),.string (bs a2.End),.string (bs a2.Value),.int .i64 a2.Limit,.int .u8 a2.Engine]) rfl (fun w' h'=>x_loadA (cls_blk h' 1 rfl) ty37 rfl (sub_of_extract rfl) rfl rfl) D9 ?_))))
  refine Wa_solo (i:=8) rfl (by kernel_rfl) ?_
  obtain ⟨t370,ht371,H⟩:=bindS H
  refine W_callvF2 (fs:=[]) (cap:=[]) fn132 rfl (model_Model_migrate_POOOO.con k M A0_8 c0_8 A0_9 c0_9 A0_10 c0_10 A0_11 c0_11 vs0_11 a0 t15.1 a1 a2 bo0 t370 hm0_11 ht371) (Γ1:=[_,_,_,_,_]) (Γ2:=[_,_]) S rfl rfl (by rintro _ _ _ ⟨_,_,rfl,rfl⟩;exact (flat_cons (flat_row (fun _ _ _ _ h=>h)) (flat_cons flat_blk (flat_cons flat_map (flat_cons flat_map (flat_cons (flat_row (fun _ _ _ _ h=>h)) (flat_cons flat_map flat_nil))))))) ?_
  rintro _ w375 _ Γ' E' S ⟨A372,c373,rfl,rfl⟩
  replace E:=E.trans E'
  replace S:St w375 M F [_,_,_,_,_,_,_,_]:=S
  refine Wl_nil (on_n ⟨.inr ⟨M,Hp.le_refl M,(S.pick [6,7] (by decide))⟩,?_⟩)
  refine Wa_solo (i:=9) rfl (by kernel_rfl) ?_
  refine W_store S 6 rfl ty43 rfl rfl [.int .i64 t370.Err,.bool t370.Found,.string (bs t370.Value),.slice A372 t370.Pairs.length c373] rfl rfl rfl #[.int .i64 t370.Err,.bool t370.Found,.string (bs t370.Value),.slice A372 t370.Pairs.length c373] rfl rfl ?_
  intro w378 E' S
  replace E:=E.trans E'
  refine Wl_nil (on_n ⟨.inl (by decide),?_⟩)
  refine Wa_done (by kernel_rfl) ?_
  refine tn ?_
  refine Wp_ret ?_
  obtain rfl:=Option.some.inj H
  exact ⟨_,_,_,fun w1 e1=>run_resR (vs:=[.agg #[.int .i64 t370.Err,.bool t370.Found,.string (bs t370.Value),.slice A372 t370.Pairs.length c373]]) (FA.cons (⟨_,rfl,run_loadVar_agg ty43 ((S.of_eq e1).blk 6 rfl) (sub_of_extract rfl) rfl (by decide)⟩) (FA.nil)),HM,E,S.pick [0,1,2,3,4,5] (by decide),⟨A372,c373,A0_8,c0_8,A0_9,c0_9,A0_10,c0_10,A0_11,c0_11,vs0_11,rfl,hm0_11,rfl⟩⟩
 cases H
def ferrymanlaw16_is_POOOO (k:Nat) (a0:model_Model) (a1:Int) (a2:api_Call) (a3:Int) (a4:Bool) (a5:Str):Option (Bool×model_Model) :=
 (Option.bind (model_Model_Do_POOOO k a0 a1 a2) (fun t4=>some (((((t4.1.Err==a3)&&(t4.1.Found==a4))&&(sbin .eql t4.1.Value a5))&&((t4.1.Pairs.length:Int)==(0:Int))),t4.2)))
set_option maxHeartbeats 2000000 in
theorem ferrymanlaw16_is_POOOO.mono {k:Nat} {a0:model_Model} {a1:Int} {a2:api_Call} {a3:Int} {a4:Bool} {a5:Str}:OLe (ferrymanlaw16_is_POOOO k a0 a1 a2 a3 a4 a5) (ferrymanlaw16_is_POOOO (k+1) a0 a1 a2 a3 a4 a5):=by
 unfold ferrymanlaw16_is_POOOO
 repeat' (first | with_reducible exact OLe.none | with_reducible exact OLe.some | with_reducible refine OLe.ite ?_ ?_ | with_reducible refine OLe.bind ?_ (fun _=>?_) | with_reducible exact model_Model_Do_POOOO.mono | refine OLe.bind ?_ (fun _=>?_) | refine OLe.ite ?_ ?_ | refine OLe.elim (fun _=>?_) (fun _=>?_) | split)
set_option maxHeartbeats 4000000 in
set_option maxRecDepth 100000 in
theorem ferrymanlaw16_is_POOOO.con (k:Nat) (M:Hp) (A0_8:Option Addr) (c0_8:Nat) (A0_9:Option Addr) (c0_9:Nat) (A0_10:Option Addr) (c0_10:Nat) (A0_11:Option Addr) (c0_11:Nat) (vs0_11:List (Str×Value)) (a0:model_Model) (a1:Int) (a2:api_Call) (a3:Int) (a4:Bool) (a5:Str) (bo0:Nat) (r:Bool×model_Model) (hm0_11:MRel r_model_row M a0.rows vs0_11) (hg0:∃ gt fr,M 0=some (.cells #[.nilFunc,.func (.func 124) #[] #[],.func (.func 125) #[] #[],.func (.func 126) #[] #[],.func (.func 127) #[] #[],.func (.func 128) #[] #[],.func (.func 129) #[] #[],.func (.func 130) #[] #[],.func (.func 131) #[] #[],.func (.func 132) #[] #[]] gt fr)) (h:ferrymanlaw16_is_POOOO k a0 a1 a2 a3 a4 a5=some r):Con Tryd.prog 32 #[pt bo0 0,.int .i64 a1,.agg #[.int .u8 a2.Kind,.int .i64 a2.Tx,.string (bs a2.Key),.string (bs a2.End),.string (bs a2.Value),.int .i64 a2.Limit,.int .u8 a2.Engine],.int .i64 a3,.bool a4,.string (bs a5)] M [B94 bo0 a0 A0_8 A0_9 A0_10 c0_10 A0_11,MapC enc_model_name (Value.int .i64) A0_8 a0.names,MapC (Value.int .i64) (Value.int .i64) A0_9 a0.many,Row r_model_tx 99 (.slice A0_10 a0.txs.length c0_10) a0.txs,MapC encS (fun v:Value=>v) A0_11 vs0_11] (fun v M' Γ'=>∃ (Aq1:Option Addr) (cq2:Nat) (Aq4:Option Addr) (cq5:Nat) (Aq7:Option Addr) (cq8:Nat) (Aq10:Option Addr) (cq11:Nat) (vsq13:List (Str×Value)),v=.bool r.1∧MRel r_model_row M' r.2.rows vsq13∧Γ'=[B94 bo0 r.2 Aq1 Aq4 Aq7 cq8 Aq10,MapC enc_model_name (Value.int .i64) Aq1 r.2.names,MapC (Value.int .i64) (Value.int .i64) Aq4 r.2.many,Row r_model_tx 99 (.slice Aq7 r.2.txs.length cq8) r.2.txs,MapC encS (fun v:Value=>v) Aq10 vsq13]):=by
 refine con_of_wp Tryd.func32 rfl Tryd.ntmps32 Tryd.results32 rfl ?_
 intro w F rn S hrn
 have E:=Ext.refl w
 have HM:=Hp.le_refl M
 have H:=h
 unfold ferrymanlaw16_is_POOOO at H
 refine Wp_seq (Wp_region_lit ?_)
 refine W_box S #[.int .u8 a2.Kind,.int .i64 a2.Tx,.string (bs a2.Key),.string (bs a2.End),.string (bs a2.Value),.int .i64 a2.Limit,.int .u8 a2.Engine] rfl rfl rfl ?_
 intro b1 w2 E' S
 replace E:=E.trans E'
 refine W_v (.bool false) (x_assign rfl) rfl (Wl_nil (tn (Wp_seq (Wp_region_lit (W_v (pt bo0 0) (x_move rfl) rfl (W_v (.int .i64 a1) (x_move rfl) rfl (W_v (.agg #[.int .u8 a2.Kind,.int .i64 a2.Tx,.string (bs a2.Key),.string (bs a2.End),.string (bs a2.Value),.int .i64 a2.Limit,.int .u8 a2.Engine]) (x_loadA (S.blk 0 rfl) ty37 rfl (sub_of_extract rfl) rfl rfl) rfl ?_)))))))
 obtain ⟨t4,ht5,H⟩:=bindS H
 replace S:St w2 M F [_,_,_,_,_,_]:=S.pick [1,2,3,4,5,0] (by decide)
 refine W_call fn15 (model_Model_Do_POOOO.con k M A0_8 c0_8 A0_9 c0_9 A0_10 c0_10 A0_11 c0_11 vs0_11 a0 a1 a2 bo0 t4 hm0_11 hg0 ht5) (Γ1:=[_,_,_,_,_]) (Γ2:=[_]) S rfl rfl ?_
 rintro _ w23 M24 Γ' hM25 E' S ⟨A6,c7,A9,c10,A12,c13,A15,c16,A18,c19,vs21,rfl,hm22,rfl⟩
 replace hg0:∃ gt fr,_:=(let ⟨gt,fr,h8⟩:=hg0;⟨gt,fr,hM25 _ _ h8⟩)
 replace HM:=Hp.le_trans HM hM25
 replace hm0_11:=MRel.mono hm0_11 hM25
 replace E:=E.trans E'
 replace S:St w23 M24 F [_,_,_,_,_,_,_]:=S
 refine W_alloc S #[.int .i64 0,.bool false,.string (bs ([]:Str)),.slice none 0 0] ty43 rfl rfl ?_
 intro b26 w27 E' S
 replace E:=E.trans E'
 refine W_store S 0 rfl ty43 rfl rfl [.int .i64 t4.1.Err,.bool t4.1.Found,.string (bs t4.1.Value),.slice A6 t4.1.Pairs.length c7] rfl rfl rfl #[.int .i64 t4.1.Err,.bool t4.1.Found,.string (bs t4.1.Value),.slice A6 t4.1.Pairs.length c7] rfl rfl ?_
 intro w29 E' S
 replace E:=E.trans E'
 refine Wl_nil (tn (Wp_seq (Wp_region_lit (W_v (pt b26 0) (x_fieldAddr (o:=0) (off:=0) Tryd.underlying43 rfl ty28 rfl rfl) rfl (W_v (.int .i64 t4.1.Err) (x_load (S.blk 0 rfl) ty28 rfl rfl) rfl (W_v (.int .i64 a3) (x_move rfl) rfl (W_v (.bool (t4.1.Err==a3)) (x_ibin rfl rfl rfl rfl) rfl (W_v (.bool (t4.1.Err==a3)) (x_move rfl) rfl ?_))))))))
 refine Wl_cutN 5 (fun ρ w'=>Agree ρ [(5,.string (bs a5)),(13,pt b26 0),(27,.bool ((t4.1.Err==a3)&&(t4.1.Found==a4)))]∧w29=w') ?_ ?_
 ·rcases boolCases (t4.1.Err==a3) with hb30 | hb30
  ·skip
   refine W_no (skT hb30) rfl (W_no (skT hb30) rfl (W_no (skT hb30) rfl (W_no (skT hb30) rfl (W_v (.bool false) (x_pick (k:=false) (congrArg Value.bool hb30) rfl) rfl (Wl_nil ?_)))))
   exact ⟨⟨rfl,rfl,(by first | rfl | (rw [hb30];rfl) | (simp only [hb30];rfl)),trivial⟩,rfl⟩
  ·skip
   refine W_yes (congrArg some hb30) (W_v (pt b26 1) (x_fieldAddr (o:=0) (off:=1) Tryd.underlying43 rfl ty4 rfl rfl) rfl (W_yes (congrArg some hb30) (W_v (.bool t4.1.Found) (x_load (S.blk 0 rfl) ty4 rfl rfl) rfl (W_yes (congrArg some hb30) (W_v (.bool a4) (x_move rfl) rfl (W_yes (congrArg some hb30) (W_v (.bool (t4.1.Found==a4)) (x_beq Tryd.underlying4 rfl rfl) rfl (W_v (.bool (t4.1.Found==a4)) (x_pick (k:=true) (congrArg Value.bool hb30) rfl) rfl (Wl_nil ?_)))))))))
   exact ⟨⟨rfl,rfl,(by first | rfl | (rw [hb30];rfl) | (simp only [hb30];rfl)),trivial⟩,rfl⟩
 as_aux_lemma =>
 rintro ρ _ ⟨hρ,rfl⟩
 rw [agree_eta hρ]
 refine W_v (.bool ((t4.1.Err==a3)&&(t4.1.Found==a4))) (x_move rfl) rfl ?_
 refine Wl_cutN 5 (fun ρ w'=>Agree ρ [(13,pt b26 0),(33,.bool (((t4.1.Err==a3)&&(t4.1.Found==a4))&&(sbin .eql t4.1.Value a5)))]∧w29=w') ?_ ?_
 ·rcases boolCases ((t4.1.Err==a3)&&(t4.1.Found==a4)) with hb31 | hb31
  ·skip
   refine W_no (skT hb31) rfl (W_no (skT hb31) rfl (W_no (skT hb31) rfl (W_no (skT hb31) rfl (W_v (.bool false) (x_pick (k:=false) (congrArg Value.bool hb31) rfl) rfl (Wl_nil ?_)))))
   exact ⟨⟨rfl,(by first | rfl | (rw [hb31];rfl) | (simp only [hb31];rfl)),trivial⟩,rfl⟩
  ·skip
   refine W_yes (congrArg some hb31) (W_v (pt b26 2) (x_fieldAddr (o:=0) (off:=2) Tryd.underlying43 rfl ty9 rfl rfl) rfl (W_yes (congrArg some hb31) (W_v (.string (bs t4.1.Value)) (x_load (S.blk 0 rfl) ty9 rfl rfl) rfl (W_yes (congrArg some hb31) (W_v (.string (bs a5)) (x_move rfl) rfl (W_yes (congrArg some hb31) (W_v (.bool (sbin .eql t4.1.Value a5)) (x_sbin rfl rfl rfl) rfl (W_v (.bool (sbin .eql t4.1.Value a5)) (x_pick (k:=true) (congrArg Value.bool hb31) rfl) rfl (Wl_nil ?_)))))))))
   exact ⟨⟨rfl,(by first | rfl | (rw [hb31];rfl) | (simp only [hb31];rfl)),trivial⟩,rfl⟩
 rintro ρ _ ⟨hρ,rfl⟩
 rw [agree_eta hρ]
 refine W_v (.bool (((t4.1.Err==a3)&&(t4.1.Found==a4))&&(sbin .eql t4.1.Value a5))) (x_move rfl) rfl ?_
 refine Wl_cutN 5 (fun ρ w'=>Agree ρ [(39,.bool ((((t4.1.Err==a3)&&(t4.1.Found==a4))&&(sbin .eql t4.1.Value a5))&&((t4.1.Pairs.length:Int)==(0:Int))))]∧w29=w') ?_ ?_
 ·rcases boolCases (((t4.1.Err==a3)&&(t4.1.Found==a4))&&(sbin .eql t4.1.Value a5)) with hb32 | hb32
  ·skip
   refine W_no (skT hb32) rfl (W_no (skT hb32) rfl (W_no (skT hb32) rfl (W_no (skT hb32) rfl (W_v (.bool false) (x_pick (k:=false) (congrArg Value.bool hb32) rfl) rfl (Wl_nil ?_)))))
   exact ⟨⟨(by first | rfl | (rw [hb32];rfl) | (simp only [hb32];rfl)),trivial⟩,rfl⟩
  ·skip
   refine W_yes (congrArg some hb32) (W_v (pt b26 3) (x_fieldAddr (o:=0) (off:=3) Tryd.underlying43 rfl ty41 rfl rfl) rfl (W_yes (congrArg some hb32) (W_v (.slice A6 t4.1.Pairs.length c7) (x_load (S.blk 0 rfl) ty41 rfl rfl) rfl (W_yes (congrArg some hb32) (W_v (.int .i64 (t4.1.Pairs.length:Int)) (x_len_slice (n:=t4.1.Pairs.length) Tryd.underlying41 rfl) rfl (W_yes (congrArg some hb32) (W_v (.bool ((t4.1.Pairs.length:Int)==(0:Int))) (x_ibin rfl rfl rfl rfl) rfl (W_v (.bool ((t4.1.Pairs.length:Int)==(0:Int))) (x_pick (k:=true) (congrArg Value.bool hb32) rfl) rfl (Wl_nil ?_)))))))))
   exact ⟨⟨(by first | rfl | (rw [hb32];rfl) | (simp only [hb32];rfl)),trivial⟩,rfl⟩
 rintro ρ _ ⟨hρ,rfl⟩
 rw [agree_eta hρ]
 refine W_v (.bool ((((t4.1.Err==a3)&&(t4.1.Found==a4))&&(sbin .eql t4.1.Value a5))&&((t4.1.Pairs.length:Int)==(0:Int)))) (x_assign rfl) rfl (Wl_nil (tn ?_))
 refine Wp_ret ?_
 obtain rfl:=Option.some.inj H
 exact ⟨_,_,_,fun w1 e1=>run_resR (vs:=[.bool ((((t4.1.Err==a3)&&(t4.1.Found==a4))&&(sbin .eql t4.1.Value a5))&&((t4.1.Pairs.length:Int)==(0:Int)))]) (FA.cons (rfl) (FA.nil)),HM,E,S.pick [2,3,4,5,6] (by decide),⟨A9,c10,A12,c13,A15,c16,A18,c19,vs21,rfl,hm22,rfl⟩⟩
def model_Model_Clock_POOOO (k:Nat) (a0:model_Model):Option (Int) :=
 some a0.clock
set_option maxHeartbeats 2000000 in
theorem model_Model_Clock_POOOO.mono {k:Nat} {a0:model_Model}:OLe (model_Model_Clock_POOOO k a0) (model_Model_Clock_POOOO (k+1) a0):=by
 unfold model_Model_Clock_POOOO
 repeat' (first | with_reducible exact OLe.none | with_reducible exact OLe.some | with_reducible refine OLe.ite ?_ ?_ | with_reducible refine OLe.bind ?_ (fun _=>?_) | refine OLe.bind ?_ (fun _=>?_) | refine OLe.ite ?_ ?_ | refine OLe.elim (fun _=>?_) (fun _=>?_) | split)
set_option maxHeartbeats 4000000 in
set_option maxRecDepth 100000 in
theorem model_Model_Clock_POOOO.con (k:Nat) (M:Hp) (A0_8:Option Addr) (c0_8:Nat) (A0_9:Option Addr) (c0_9:Nat) (A0_10:Option Addr) (c0_10:Nat) (A0_11:Option Addr) (c0_11:Nat) (vs0_11:List (Str×Value)) (a0:model_Model) (bo0:Nat) (r:Int) (hm0_11:MRel r_model_row M a0.rows vs0_11) (h:model_Model_Clock_POOOO k a0=some r):Con Tryd.prog 19 #[pt bo0 0] M [B94 bo0 a0 A0_8 A0_9 A0_10 c0_10 A0_11,MapC enc_model_name (Value.int .i64) A0_8 a0.names,MapC (Value.int .i64) (Value.int .i64) A0_9 a0.many,Row r_model_tx 99 (.slice A0_10 a0.txs.length c0_10) a0.txs,MapC encS (fun v:Value=>v) A0_11 vs0_11] (fun v M' Γ'=>v=.int .i64 r∧Γ'=[B94 bo0 a0 A0_8 A0_9 A0_10 c0_10 A0_11,MapC enc_model_name (Value.int .i64) A0_8 a0.names,MapC (Value.int .i64) (Value.int .i64) A0_9 a0.many,Row r_model_tx 99 (.slice A0_10 a0.txs.length c0_10) a0.txs,MapC encS (fun v:Value=>v) A0_11 vs0_11]):=by
 refine con_of_wp Tryd.func19 rfl Tryd.ntmps19 Tryd.results19 rfl ?_
 intro w F rn S hrn
 have E:=Ext.refl w
 have HM:=Hp.le_refl M
 have H:=h
 unfold model_Model_Clock_POOOO at H
 refine Wp_seq (Wp_region_lit (W_v (.int .i64 0) (x_assign rfl) rfl (Wl_nil (tn (Wp_seq (Wp_seq (Wp_region_lit (W_v (pt bo0 0) (x_move rfl) rfl (W_v (.bool false) (x_eq_of (r:=false) rfl rfl (run_eq_ptrsn Tryd.underlying27)) rfl (Wl_nil (tn (Wp_cond_false rfl (Wp_skip (tn (Wp_seq ?_)))))))))))))))
 refine Wp_region_lit (W_v (pt bo0 0) (x_move rfl) rfl (W_v (pt bo0 0) (x_nilptr rfl) rfl (W_v (pt bo0 12) (x_fieldAddr (o:=0) (off:=12) Tryd.underlying94 rfl ty3 rfl rfl) rfl (W_v (.int .i64 a0.clock) (x_load (S.blk 0 rfl) ty3 rfl rfl) rfl (W_v (.int .i64 a0.clock) (x_assign rfl) rfl (Wl_nil (tn ?_)))))))
 refine Wp_ret ?_
 obtain rfl:=Option.some.inj H
 exact ⟨_,_,_,fun w1 e1=>run_resR (vs:=[.int .i64 a0.clock]) (FA.cons (rfl) (FA.nil)),HM,E,S.pick [0,1,2,3,4] (by decide),⟨rfl,rfl⟩⟩
def model_Model_Versions_POOOO (k:Nat) (a0:model_Model) (a1:Str):Option ((List api_Version)) :=
 (Option.bind (slices_Clone_api_Version_api_Version k (((mget a0.rows a1).getD (⟨[],⟨0,0,false,[]⟩⟩:model_row)).l)) (fun t8=>some t8))
set_option maxHeartbeats 2000000 in
theorem model_Model_Versions_POOOO.mono {k:Nat} {a0:model_Model} {a1:Str}:OLe (model_Model_Versions_POOOO k a0 a1) (model_Model_Versions_POOOO (k+1) a0 a1):=by
 unfold model_Model_Versions_POOOO
 repeat' (first | with_reducible exact OLe.none | with_reducible exact OLe.some | with_reducible refine OLe.ite ?_ ?_ | with_reducible refine OLe.bind ?_ (fun _=>?_) | with_reducible exact slices_Clone_api_Version_api_Version.mono | refine OLe.bind ?_ (fun _=>?_) | refine OLe.ite ?_ ?_ | refine OLe.elim (fun _=>?_) (fun _=>?_) | split)
set_option maxHeartbeats 4000000 in
set_option maxRecDepth 100000 in
theorem model_Model_Versions_POOOO.con (k:Nat) (M:Hp) (A0_8:Option Addr) (c0_8:Nat) (A0_9:Option Addr) (c0_9:Nat) (A0_10:Option Addr) (c0_10:Nat) (A0_11:Option Addr) (c0_11:Nat) (vs0_11:List (Str×Value)) (a0:model_Model) (a1:Str) (bo0:Nat) (r:(List api_Version)) (hm0_11:MRel r_model_row M a0.rows vs0_11) (h:model_Model_Versions_POOOO k a0 a1=some r):Con Tryd.prog 26 #[pt bo0 0,.string (bs a1)] M [B94 bo0 a0 A0_8 A0_9 A0_10 c0_10 A0_11,MapC enc_model_name (Value.int .i64) A0_8 a0.names,MapC (Value.int .i64) (Value.int .i64) A0_9 a0.many,Row r_model_tx 99 (.slice A0_10 a0.txs.length c0_10) a0.txs,MapC encS (fun v:Value=>v) A0_11 vs0_11] (fun v M' Γ'=>∃ (Aq1:Option Addr) (cq2:Nat),v=.slice Aq1 r.length cq2∧Γ'=[Row r_api_Version 61 (.slice Aq1 r.length cq2) r,B94 bo0 a0 A0_8 A0_9 A0_10 c0_10 A0_11,MapC enc_model_name (Value.int .i64) A0_8 a0.names,MapC (Value.int .i64) (Value.int .i64) A0_9 a0.many,Row r_model_tx 99 (.slice A0_10 a0.txs.length c0_10) a0.txs,MapC encS (fun v:Value=>v) A0_11 vs0_11]):=by
 refine con_of_wp Tryd.func26 rfl Tryd.ntmps26 Tryd.results26 rfl ?_
 intro w F rn S hrn
 have E:=Ext.refl w
 have HM:=Hp.le_refl M
 have H:=h
 unfold model_Model_Versions_POOOO at H
 refine Wp_seq (Wp_region_lit (W_v (.slice none 0 0) (x_assign rfl) rfl (Wl_nil (tn (Wp_seq (Wp_seq (Wp_region_lit (W_v (pt bo0 0) (x_move rfl) rfl (W_v (.bool false) (x_eq_of (r:=false) rfl rfl (run_eq_ptrsn Tryd.underlying27)) rfl (Wl_nil (tn (Wp_cond_false rfl (Wp_skip (tn (Wp_seq ?_)))))))))))))))
 refine Wp_region_lit (W_v (pt bo0 0) (x_move rfl) rfl (W_v (pt bo0 0) (x_nilptr rfl) rfl (W_v (pt bo0 11) (x_fieldAddr (o:=0) (off:=11) Tryd.underlying94 rfl ty91 rfl rfl) rfl (W_v (.map (mb A0_11)) (x_load (S.blk 0 rfl) ty91 rfl rfl) rfl (W_v (.string (bs a1)) (x_move rfl) rfl ?_)))))
 obtain ⟨cs1,hR2,he3⟩:=hm0_11.get a1 (z:=(⟨[],⟨0,0,false,[]⟩⟩:model_row)) (zc:=[.slice none 0 0,.int .i64 0,.int .i64 0,.bool false,.string (bs ([]:Str))]) ⟨_,SlW.nil _ _,rfl⟩
 obtain ⟨v7,hs6,rfl⟩:=hR2
 obtain ⟨A4,c5,rfl,_⟩:=hs6.form
 refine W_v (.agg #[.slice A4 (((mget a0.rows a1).getD (⟨[],⟨0,0,false,[]⟩⟩:model_row)).l).length c5,.int .i64 (((mget a0.rows a1).getD (⟨[],⟨0,0,false,[]⟩⟩:model_row)).intent.Writer),.int .i64 (((mget a0.rows a1).getD (⟨[],⟨0,0,false,[]⟩⟩:model_row)).intent.TS),.bool (((mget a0.rows a1).getD (⟨[],⟨0,0,false,[]⟩⟩:model_row)).intent.Tomb),.string (bs (((mget a0.rows a1).getD (⟨[],⟨0,0,false,[]⟩⟩:model_row)).intent.Value))]) ((Eq.trans (x_lookup S 4 rfl Tryd.underlying91 key9 (Value.agg #[.slice none 0 0,.int .i64 0,.int .i64 0,.bool false,.string (bs ([]:Str))]) (fun _=>ty101.zero) a1 rfl rfl) (by rw [show (mget vs0_11 a1).getD (Value.agg #[.slice none 0 0,.int .i64 0,.int .i64 0,.bool false,.string (bs ([]:Str))])=_ from he3]))) rfl (W_v (.slice A4 (((mget a0.rows a1).getD (⟨[],⟨0,0,false,[]⟩⟩:model_row)).l).length c5) (x_field Tryd.underlying101 rfl rfl ty65 rfl) rfl ?_)
 obtain ⟨t8,ht9,H⟩:=bindS H
 refine W_callF fn45 (slices_Clone_api_Version_api_Version.con k M A4 c5 (((mget a0.rows a1).getD (⟨[],⟨0,0,false,[]⟩⟩:model_row)).l) t8 hs6 ht9) S rfl rfl (by rintro _ _ _ ⟨_,_,_,rfl⟩;exact (flat_cons (flat_row (fun _ _ _ _ h=>h)) flat_nil)) ?_
 rintro _ w13 _ Γ' E' S ⟨A10,c11,rfl,rfl⟩
 replace E:=E.trans E'
 refine W_v (.slice A10 t8.length c11) (x_assign rfl) rfl (Wl_nil (tn ?_))
 refine Wp_ret ?_
 obtain rfl:=Option.some.inj H
 exact ⟨_,_,_,fun w1 e1=>run_resR (vs:=[.slice A10 t8.length c11]) (FA.cons (rfl) (FA.nil)),HM,E,S.pick [0,1,2,3,4,5] (by decide),⟨A10,c11,rfl,rfl⟩⟩
end Go.Proofs.YtcngjjlhdlbogaaDoor
