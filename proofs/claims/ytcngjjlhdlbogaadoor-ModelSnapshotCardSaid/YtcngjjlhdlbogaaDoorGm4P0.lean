import Derived.Test.YtcngjjlhdlbogaaDoorGm4B
namespace Go.Proofs.YtcngjjlhdlbogaaDoor
open Go
set_option linter.unusedVariables false
set_option linter.unusedSimpArgs false
def text_May_l0 (a0:api_Config):Nat→Int→Option ((Bool)⊕(Unit))
 | 0,_=>none
 | k+1,x23=>(if (decide (x23<(8:Int)))=true then (Option.bind (α:=List text_bound) (some ([(⟨(a0.Tasks),(1:Int),(6:Int)⟩:text_bound),(⟨(a0.Active),(1:Int),(8:Int)⟩:text_bound),(⟨(a0.Keys),(1:Int),(64:Int)⟩:text_bound),(⟨(a0.Depth),(2:Int),(8:Int)⟩:text_bound),(⟨(a0.TS),(1:Int),(1048576:Int)⟩:text_bound),(⟨(a0.KeyLen),(1:Int),(64:Int)⟩:text_bound),(⟨(a0.ValLen),(0:Int),(256:Int)⟩:text_bound),(⟨(a0.Fan),(3:Int),(8:Int)⟩:text_bound)]:List text_bound)) (fun x38=>(if 0≤x23∧x23<(8:Int) then (if ((decide ((rd x38 x23).n<(rd x38 x23).low))||(decide ((rd x38 x23).n>(rd x38 x23).high)))=true then some (.inl false) else text_May_l0 a0 k (IntKind.i64.wrap (x23+(1:Int)))) else none))) else some (.inr ()))
set_option maxHeartbeats 2000000 in
theorem text_May_l0.mono {a0:api_Config}:∀ {kl:Nat} {x0},OLe (text_May_l0 a0 kl x0) (text_May_l0 a0 (kl+1) x0):=by
 intro kl
 induction kl with
 | zero=>intros;exact OLe.none
 | succ kl ih =>
  intros
  rw [text_May_l0.eq_2,text_May_l0.eq_2]
  repeat' (first | with_reducible exact OLe.none | with_reducible exact OLe.some | with_reducible refine OLe.ite ?_ ?_ | with_reducible refine OLe.bind ?_ (fun _=>?_) | exact ih | refine OLe.bind ?_ (fun _=>?_) | refine OLe.ite ?_ ?_ | refine OLe.elim (fun _=>?_) (fun _=>?_) | split)
def text_May (k:Nat) (a0:api_Config):Option (Bool) :=
 (Option.bind (text_May_l0 a0 k (0:Int)) (fun o35o=>Sum.elim (fun r'=>some r') (fun _=>some true) o35o))
set_option maxHeartbeats 2000000 in
theorem text_May.mono {k:Nat} {a0:api_Config}:OLe (text_May k a0) (text_May (k+1) a0):=by
 unfold text_May
 repeat' (first | with_reducible exact OLe.none | with_reducible exact OLe.some | with_reducible refine OLe.ite ?_ ?_ | with_reducible refine OLe.bind ?_ (fun _=>?_) | with_reducible exact text_May_l0.mono | refine OLe.bind ?_ (fun _=>?_) | refine OLe.ite ?_ ?_ | refine OLe.elim (fun _=>?_) (fun _=>?_) | split)
set_option maxHeartbeats 1000000 in
set_option maxRecDepth 100000 in
theorem text_May.con (k:Nat) (M:Hp) (a0:api_Config) (r:Bool)  (h:text_May k a0=some r):Con Tryd.prog 41 #[.agg #[.int .i64 a0.Tasks,.int .i64 a0.Active,.int .i64 a0.Keys,.int .i64 a0.Depth,.int .i64 a0.TS,.int .i64 a0.KeyLen,.int .i64 a0.ValLen,.int .i64 a0.Fan]] M [] (fun v M' Γ'=>v=.bool r∧Γ'=[]):=by
 refine con_of_wp Tryd.func41 rfl Tryd.ntmps41 Tryd.results41 rfl ?_
 intro w F rn S hrn
 have E:=Ext.refl w
 have HM:=Hp.le_refl M
 have H:=h
 unfold text_May at H
 refine Wp_seq (Wp_region_lit ?_)
 refine W_box S #[.int .i64 a0.Tasks,.int .i64 a0.Active,.int .i64 a0.Keys,.int .i64 a0.Depth,.int .i64 a0.TS,.int .i64 a0.KeyLen,.int .i64 a0.ValLen,.int .i64 a0.Fan] rfl rfl rfl ?_
 intro b1 w2 E' S
 replace E:=E.trans E'
 refine W_v (.bool false) (x_assign rfl) rfl (Wl_nil (tn (Wp_seq (Wp_seq (Wp_region_lit (W_v (pt b1 0) (x_fieldAddr (o:=0) (off:=0) Tryd.underlying23 rfl ty3 rfl rfl) rfl (W_v (.int .i64 a0.Tasks) (x_load (S.blk 0 rfl) ty3 rfl rfl) rfl (W_v (.agg #[.int .i64 (a0.Tasks),.int .i64 1,.int .i64 6]) (x_build2 (pl:=[(0,1),(1,1),(2,1)]) #[.int .i64 (a0.Tasks),.int .i64 1,.int .i64 6] Tryd.underlying135 ty135 (by as_aux_lemma=>kernel_rfl) rfl (by as_aux_lemma=>kernel_rfl)) rfl (W_v (pt b1 1) (x_fieldAddr (o:=0) (off:=1) Tryd.underlying23 rfl ty3 rfl rfl) rfl (W_v (.int .i64 a0.Active) (x_load (S.blk 0 rfl) ty3 rfl rfl) rfl (W_v (.agg #[.int .i64 (a0.Active),.int .i64 1,.int .i64 8]) (x_build2 (pl:=[(0,1),(1,1),(2,1)]) #[.int .i64 (a0.Active),.int .i64 1,.int .i64 8] Tryd.underlying135 ty135 (by as_aux_lemma=>kernel_rfl) rfl (by as_aux_lemma=>kernel_rfl)) rfl (W_v (pt b1 2) (x_fieldAddr (o:=0) (off:=2) Tryd.underlying23 rfl ty3 rfl rfl) rfl (W_v (.int .i64 a0.Keys) (x_load (S.blk 0 rfl) ty3 rfl rfl) rfl (W_v (.agg #[.int .i64 (a0.Keys),.int .i64 1,.int .i64 64]) (x_build2 (pl:=[(0,1),(1,1),(2,1)]) #[.int .i64 (a0.Keys),.int .i64 1,.int .i64 64] Tryd.underlying135 ty135 (by as_aux_lemma=>kernel_rfl) rfl (by as_aux_lemma=>kernel_rfl)) rfl (W_v (pt b1 3) (x_fieldAddr (o:=0) (off:=3) Tryd.underlying23 rfl ty3 rfl rfl) rfl ?_)))))))))))))))
 refine W_v (.int .i64 a0.Depth) (x_load (S.blk 0 rfl) ty3 rfl rfl) rfl (W_v (.agg #[.int .i64 (a0.Depth),.int .i64 2,.int .i64 8]) (x_build2 (pl:=[(0,1),(1,1),(2,1)]) #[.int .i64 (a0.Depth),.int .i64 2,.int .i64 8] Tryd.underlying135 ty135 (by as_aux_lemma=>kernel_rfl) rfl (by as_aux_lemma=>kernel_rfl)) rfl (W_v (pt b1 4) (x_fieldAddr (o:=0) (off:=4) Tryd.underlying23 rfl ty3 rfl rfl) rfl (W_v (.int .i64 a0.TS) (x_load (S.blk 0 rfl) ty3 rfl rfl) rfl (W_v (.agg #[.int .i64 (a0.TS),.int .i64 1,.int .i64 1048576]) (x_build2 (pl:=[(0,1),(1,1),(2,1)]) #[.int .i64 (a0.TS),.int .i64 1,.int .i64 1048576] Tryd.underlying135 ty135 (by as_aux_lemma=>kernel_rfl) rfl (by as_aux_lemma=>kernel_rfl)) rfl (W_v (pt b1 5) (x_fieldAddr (o:=0) (off:=5) Tryd.underlying23 rfl ty3 rfl rfl) rfl (W_v (.int .i64 a0.KeyLen) (x_load (S.blk 0 rfl) ty3 rfl rfl) rfl (W_v (.agg #[.int .i64 (a0.KeyLen),.int .i64 1,.int .i64 64]) (x_build2 (pl:=[(0,1),(1,1),(2,1)]) #[.int .i64 (a0.KeyLen),.int .i64 1,.int .i64 64] Tryd.underlying135 ty135 (by as_aux_lemma=>kernel_rfl) rfl (by as_aux_lemma=>kernel_rfl)) rfl (W_v (pt b1 6) (x_fieldAddr (o:=0) (off:=6) Tryd.underlying23 rfl ty3 rfl rfl) rfl (W_v (.int .i64 a0.ValLen) (x_load (S.blk 0 rfl) ty3 rfl rfl) rfl (W_v (.agg #[.int .i64 (a0.ValLen),.int .i64 0,.int .i64 256]) (x_build2 (pl:=[(0,1),(1,1),(2,1)]) #[.int .i64 (a0.ValLen),.int .i64 0,.int .i64 256] Tryd.underlying135 ty135 (by as_aux_lemma=>kernel_rfl) rfl (by as_aux_lemma=>kernel_rfl)) rfl (W_v (pt b1 7) (x_fieldAddr (o:=0) (off:=7) Tryd.underlying23 rfl ty3 rfl rfl) rfl (W_v (.int .i64 a0.Fan) (x_load (S.blk 0 rfl) ty3 rfl rfl) rfl (W_v (.agg #[.int .i64 (a0.Fan),.int .i64 3,.int .i64 8]) (x_build2 (pl:=[(0,1),(1,1),(2,1)]) #[.int .i64 (a0.Fan),.int .i64 3,.int .i64 8] Tryd.underlying135 ty135 (by as_aux_lemma=>kernel_rfl) rfl (by as_aux_lemma=>kernel_rfl)) rfl (W_v (.agg #[.int .i64 (a0.Tasks),.int .i64 1,.int .i64 6,.int .i64 (a0.Active),.int .i64 1,.int .i64 8,.int .i64 (a0.Keys),.int .i64 1,.int .i64 64,.int .i64 (a0.Depth),.int .i64 2,.int .i64 8,.int .i64 (a0.TS),.int .i64 1,.int .i64 1048576,.int .i64 (a0.KeyLen),.int .i64 1,.int .i64 64,.int .i64 (a0.ValLen),.int .i64 0,.int .i64 256,.int .i64 (a0.Fan),.int .i64 3,.int .i64 8]) (x_buildArr #[.int .i64 (a0.Tasks),.int .i64 1,.int .i64 6,.int .i64 (a0.Active),.int .i64 1,.int .i64 8,.int .i64 (a0.Keys),.int .i64 1,.int .i64 64,.int .i64 (a0.Depth),.int .i64 2,.int .i64 8,.int .i64 (a0.TS),.int .i64 1,.int .i64 1048576,.int .i64 (a0.KeyLen),.int .i64 1,.int .i64 64,.int .i64 (a0.ValLen),.int .i64 0,.int .i64 256,.int .i64 (a0.Fan),.int .i64 3,.int .i64 8] Tryd.underlying136 ty136 ty135 rfl (by kernel_rfl)) rfl (W_v (.int .i64 0) (x_move rfl) rfl ?_)))))))))))))))
 refine Wl_nil (tn ?_)
 obtain ⟨o35,o35h,o35H⟩:=bindS H
 refine Wp_blockJ (fun ρ w'=>.inr ()=o35∧Agree ρ []∧Ext w w'∧St w' M F []) ?_ ?_
 ·skip
  refine Wp_loop (fun n ρ w'=>∃ (x23:Int),text_May_l0 a0 n x23=some o35∧Agree ρ [(29,.agg #[.int .i64 (a0.Tasks),.int .i64 1,.int .i64 6,.int .i64 (a0.Active),.int .i64 1,.int .i64 8,.int .i64 (a0.Keys),.int .i64 1,.int .i64 64,.int .i64 (a0.Depth),.int .i64 2,.int .i64 8,.int .i64 (a0.TS),.int .i64 1,.int .i64 1048576,.int .i64 (a0.KeyLen),.int .i64 1,.int .i64 64,.int .i64 (a0.ValLen),.int .i64 0,.int .i64 256,.int .i64 (a0.Fan),.int .i64 3,.int .i64 8]),(30,.int .i64 x23)]∧Ext w w'∧St w' M F []) k ?_ ?_
  ·skip
   exact ⟨(0:Int),o35h,⟨rfl,rfl,trivial⟩,E,S.pick [] (by decide)⟩
  ·intro n
   rintro ρ w36 ⟨x23,H,hρ,E,S⟩
   rw [agree_eta hρ]
   cases n with
   | zero=>cases H
   | succ k =>
    rw [text_May_l0.eq_2] at H
    refine Wp_seq (Wp_region_lit (W_v (.bool (decide (x23<(8:Int)))) (x_ibin rfl rfl rfl rfl) rfl (Wl_nil (tn (Wp_seq ?_)))))
    rcases iteS H with ⟨hb37,H⟩ | ⟨hb37,H⟩
    ·refine Wp_cond_true (congrArg Value.bool hb37) ?_
     refine Wp_skip (tn (Wp_seq ?_))
     refine Wp_block ?_
     refine Wp_seq (Wp_region_lit ?_)
     obtain ⟨x38,he39,H⟩:=bindS H
     replace he39:=Option.some.inj he39
     obtain ⟨⟨p40,p41⟩,H⟩:=chkS H
     refine W_v (.agg #[.int .i64 ((rd x38 x23).n),.int .i64 ((rd x38 x23).low),.int .i64 ((rd x38 x23).high)]) ((by rw [← he39];exact x_indexAgg Tryd.underlying136 ty135 rfl rfl p40 p41 (by obtain ⟨q,hq⟩:=Int.eq_ofNat_of_zero_le p40;have h9:q=0∨q=1∨q=2∨q=3∨q=4∨q=5∨q=6∨q=7:=(by omega);rcases h9 with rfl | rfl | rfl | rfl | rfl | rfl | rfl | rfl<;>(rw [hq]<;>rfl)))) rfl ?_
     refine W_alloc S #[.int .i64 0,.int .i64 0,.int .i64 0] ty135 rfl rfl ?_
     intro b42 w43 E' S
     replace E:=E.trans E'
     refine W_store S 0 rfl ty135 rfl rfl [.int .i64 ((rd x38 x23).n),.int .i64 ((rd x38 x23).low),.int .i64 ((rd x38 x23).high)] rfl rfl rfl #[.int .i64 ((rd x38 x23).n),.int .i64 ((rd x38 x23).low),.int .i64 ((rd x38 x23).high)] rfl rfl ?_
     intro w45 E' S
     replace E:=E.trans E'
     refine Wl_nil (tn (Wp_seq (Wp_region_lit (W_v (pt b42 0) (x_fieldAddr (o:=0) (off:=0) Tryd.underlying135 rfl ty3 rfl rfl) rfl (W_v (.int .i64 ((rd x38 x23).n)) (x_load (S.blk 0 rfl) ty3 rfl rfl) rfl (W_v (pt b42 1) (x_fieldAddr (o:=0) (off:=1) Tryd.underlying135 rfl ty3 rfl rfl) rfl (W_v (.int .i64 ((rd x38 x23).low)) (x_load (S.blk 0 rfl) ty3 rfl rfl) rfl (W_v (.bool (decide ((rd x38 x23).n<(rd x38 x23).low))) (x_ibin rfl rfl rfl rfl) rfl (W_v (.bool (decide ((rd x38 x23).n<(rd x38 x23).low))) (x_move rfl) rfl ?_)))))))))
     refine Wl_cutN 6 (fun ρ w'=>Agree ρ [(29,.agg #[.int .i64 (a0.Tasks),.int .i64 1,.int .i64 6,.int .i64 (a0.Active),.int .i64 1,.int .i64 8,.int .i64 (a0.Keys),.int .i64 1,.int .i64 64,.int .i64 (a0.Depth),.int .i64 2,.int .i64 8,.int .i64 (a0.TS),.int .i64 1,.int .i64 1048576,.int .i64 (a0.KeyLen),.int .i64 1,.int .i64 64,.int .i64 (a0.ValLen),.int .i64 0,.int .i64 256,.int .i64 (a0.Fan),.int .i64 3,.int .i64 8]),(30,.int .i64 x23),(44,.bool ((decide ((rd x38 x23).n<(rd x38 x23).low))||(decide ((rd x38 x23).n>(rd x38 x23).high))))]∧w45=w') ?_ ?_
     ·rcases boolCases (decide ((rd x38 x23).n<(rd x38 x23).low)) with hb46 | hb46
      ·skip
       refine W_yes (congrArg some hb46) (W_v (pt b42 0) (x_fieldAddr (o:=0) (off:=0) Tryd.underlying135 rfl ty3 rfl rfl) rfl (W_yes (congrArg some hb46) (W_v (.int .i64 ((rd x38 x23).n)) (x_load (S.blk 0 rfl) ty3 rfl rfl) rfl (W_yes (congrArg some hb46) (W_v (pt b42 2) (x_fieldAddr (o:=0) (off:=2) Tryd.underlying135 rfl ty3 rfl rfl) rfl (W_yes (congrArg some hb46) (W_v (.int .i64 ((rd x38 x23).high)) (x_load (S.blk 0 rfl) ty3 rfl rfl) rfl (W_yes (congrArg some hb46) (W_v (.bool (decide ((rd x38 x23).n>(rd x38 x23).high))) (x_ibin rfl rfl rfl rfl) rfl (W_v (.bool (decide ((rd x38 x23).n>(rd x38 x23).high))) (x_pick (k:=false) (congrArg Value.bool hb46) rfl) rfl (Wl_nil ?_)))))))))))
       exact ⟨⟨rfl,rfl,(by first | rfl | (rw [hb46];rfl) | (simp only [hb46];rfl)),trivial⟩,rfl⟩
      ·skip
       refine W_no (skF hb46) rfl (W_no (skF hb46) rfl (W_no (skF hb46) rfl (W_no (skF hb46) rfl (W_no (skF hb46) rfl (W_v (.bool true) (x_pick (k:=true) (congrArg Value.bool hb46) rfl) rfl (Wl_nil ?_))))))
       exact ⟨⟨rfl,rfl,(by first | rfl | (rw [hb46];rfl) | (simp only [hb46];rfl)),trivial⟩,rfl⟩
     rintro ρ _ ⟨hρ,rfl⟩
     rw [agree_eta hρ]
     refine Wl_nil (tn ?_)
     rcases iteS H with ⟨hb47,H⟩ | ⟨hb47,H⟩
     ·refine Wp_cond_true (congrArg Value.bool hb47) ?_
      refine Wp_seq (Wp_region_lit (W_v (.bool false) (x_assign rfl) rfl (Wl_nil (tn ?_))))
      refine Wp_ret ?_
      refine br (tr (tr (br (tr (tr (?_))))))
      obtain rfl:=Option.some.inj H
      have H:=o35H
      replace H:=elimL H
      obtain rfl:=Option.some.inj H
      exact ⟨_,_,_,fun w1 e1=>run_resR (vs:=[.bool false]) (FA.cons (rfl) (FA.nil)),HM,E,S.pick [] (by decide),⟨rfl,rfl⟩⟩
     refine Wp_cond_false (congrArg Value.bool hb47) (Wp_skip (bn (tn (Wp_region_lit (W_v (.int .i64 (IntKind.i64.wrap (x23+(1:Int)))) (x_ibin rfl rfl rfl rfl) rfl (W_v (.int .i64 (IntKind.i64.wrap (x23+(1:Int)))) (x_move rfl) rfl (Wl_nil (tn ?_))))))))
     exact ⟨k,Nat.lt_succ_self k,⟨(IntKind.i64.wrap (x23+(1:Int))),H,⟨rfl,rfl,trivial⟩,E,S.pick [] (by decide)⟩⟩
    refine Wp_cond_false (congrArg Value.bool hb37) ?_
    refine Wp_exit ?_
    refine tx (tx (bsm (?_)))
    refine tn ?_
    exact ⟨Option.some.inj H,trivial,E,S.pick [] (by decide)⟩
 rintro ρ w48 ⟨rfl,hρ,E,S⟩
 rw [agree_eta hρ]
 have H:=o35H
 replace H:=elimR H
 refine tn ?_
 as_aux_lemma =>
 refine Wp_seq (Wp_region_lit (W_v (.bool true) (x_assign rfl) rfl (Wl_nil (tn ?_))))
 refine Wp_ret ?_
 obtain rfl:=Option.some.inj H
 exact ⟨_,_,_,fun w1 e1=>run_resR (vs:=[.bool true]) (FA.cons (rfl) (FA.nil)),HM,E,S.pick [] (by decide),⟨rfl,rfl⟩⟩
def slices_Clone_api_Version_api_Version (k:Nat) (a0:List api_Version):Option (List api_Version) :=
 if ([]:List api_Version).length+a0.length≤3518437208883 then some (([]:List api_Version)++a0) else none
set_option maxHeartbeats 2000000 in
theorem slices_Clone_api_Version_api_Version.mono {k:Nat} {a0:List api_Version}:OLe (slices_Clone_api_Version_api_Version k a0) (slices_Clone_api_Version_api_Version (k+1) a0):=by
 unfold slices_Clone_api_Version_api_Version
 repeat' (first | with_reducible exact OLe.none | with_reducible exact OLe.some | with_reducible refine OLe.ite ?_ ?_ | with_reducible refine OLe.bind ?_ (fun _=>?_) | refine OLe.bind ?_ (fun _=>?_) | refine OLe.ite ?_ ?_ | refine OLe.elim (fun _=>?_) (fun _=>?_) | split)
set_option maxHeartbeats 1000000 in
set_option maxRecDepth 100000 in
theorem slices_Clone_api_Version_api_Version.con (k:Nat) (M:Hp) (A0:Option Addr) (c0:Nat) (a0:(List api_Version)) (r:(List api_Version)) (hr0:SlR r_api_Version M (.slice A0 a0.length c0) a0) (h:slices_Clone_api_Version_api_Version k a0=some r):Con Tryd.prog 45 #[.slice A0 a0.length c0] M [] (fun v M' Γ'=>∃ (A0:Option Addr) (c0:Nat),v=.slice A0 r.length c0∧Γ'=[Row r_api_Version 61 (.slice A0 r.length c0) r]):=by
 have H:=h
 unfold slices_Clone_api_Version_api_Version at H
 cases A0 with
 | none =>
  obtain ⟨_,H⟩:=chkS H
  obtain rfl:a0=[]:=SlW.none_nil hr0
  refine con_of_wp Tryd.func45 rfl Tryd.ntmps45 Tryd.results45 rfl ?_
  intro w F rn S hrn
  have E:=Ext.refl w
  have HM:=Hp.le_refl M
  refine Wp_seq (Wp_region_lit (W_v (.slice none 0 0) (x_assign rfl) rfl (Wl_nil (tn (Wp_seq (Wp_seq (Wp_region_lit (W_v (.slice none ([]:List api_Version).length c0) (x_move rfl) rfl (W_v (.bool true) (x_eq_of rfl rfl (run_equal_slice_nil _ _ _ _ _ _ Tryd.underlying65)) rfl (Wl_nil (tn (Wp_cond_true rfl (Wp_seq (Wp_region_lit (W_v (.slice none 0 0) (x_assign rfl) rfl ?_)))))))))))))))
  refine Wl_nil (tn ?_)
  refine Wp_ret ?_
  refine tr (?_)
  obtain rfl:=Option.some.inj H
  replace S:=S.row_nil r_api_Version 61
  exact ⟨_,_,_,fun w1 e1=>run_resR (vs:=[.slice none 0 0]) (FA.cons (rfl) (FA.nil)),HM,E,S.pick [0] (by decide),⟨none,0,rfl,rfl⟩⟩
 | some ad =>
  refine con_of_wp Tryd.func45 rfl Tryd.ntmps45 Tryd.results45 rfl ?_
  intro w F rn S hrn
  have E:=Ext.refl w
  have HM:=Hp.le_refl M
  refine Wp_seq (Wp_region_lit (W_v (.slice none 0 0) (x_assign rfl) rfl (Wl_nil (tn (Wp_seq (Wp_seq (Wp_region_lit (W_v (.slice (some ad) a0.length c0) (x_move rfl) rfl (W_v (.bool false) (x_eq_of rfl rfl (run_equal_slice_nil _ _ _ _ _ _ Tryd.underlying65)) rfl (Wl_nil (tn (Wp_cond_false rfl (Wp_skip (tn (Wp_seq ?_)))))))))))))))
  refine Wp_region_lit ?_
  refine W_bslice S #[] Tryd.underlying65 ty61 rfl rfl #[] (by as_aux_lemma=>kernel_rfl) (by as_aux_lemma=>kernel_rfl) rfl ?_
  intro b2 w3 E' S
  replace E:=E.trans E'
  replace S:=S.blk_row (r:=r_api_Version) (l:=([]:List api_Version)) 0 rfl 0 (Nat.le_refl 0) rfl Cells.nil
  refine W_v (.slice (some ad) a0.length c0) (x_move rfl) rfl ?_
  obtain ⟨p5,H⟩:=chkS H
  obtain ⟨src6,hs7,hC8⟩:=src_of_read (P:=Tryd.prog) (ρ:=r_api_Version) (l:=a0) (SlR.world hr0 S) (by decide)
  refine W_append S 0 rfl rfl rfl Tryd.underlying65 (.inl Tryd.underlying65) ty61 rfl (by decide) (by decide) hs7 hC8 rfl (by omega) rfl ?_
  intro v9 w10 E' S
  replace E:=E.trans E'
  obtain ⟨A11,c12,rfl,_⟩:=(S.row_read 0 rfl).form
  refine W_v (.slice A11 (([]:List api_Version)++a0).length c12) (x_assign rfl) rfl (Wl_nil (tn ?_))
  refine Wp_ret ?_
  obtain rfl:=Option.some.inj H
  exact ⟨_,_,_,fun w1 e1=>run_resR (vs:=[.slice A11 (([]:List api_Version)++a0).length c12]) (FA.cons (rfl) (FA.nil)),HM,E,S.pick [0] (by decide),⟨A11,c12,rfl,rfl⟩⟩
def internal_bytealg_CompareString (k:Nat) (a0:Str) (a1:Str):Option (Int) :=
 some (Lib.compareBytes a0 a1)
set_option maxHeartbeats 2000000 in
theorem internal_bytealg_CompareString.mono {k:Nat} {a0:Str} {a1:Str}:OLe (internal_bytealg_CompareString k a0 a1) (internal_bytealg_CompareString (k+1) a0 a1):=by
 unfold internal_bytealg_CompareString
 repeat' (first | with_reducible exact OLe.none | with_reducible exact OLe.some | with_reducible refine OLe.ite ?_ ?_ | with_reducible refine OLe.bind ?_ (fun _=>?_) | refine OLe.bind ?_ (fun _=>?_) | refine OLe.ite ?_ ?_ | refine OLe.elim (fun _=>?_) (fun _=>?_) | split)
set_option maxHeartbeats 1000000 in
set_option maxRecDepth 100000 in
theorem internal_bytealg_CompareString.con (k:Nat) (M:Hp) (a0:Str) (a1:Str) (r:Int)  (h:internal_bytealg_CompareString k a0 a1=some r):Con Tryd.prog 87 #[.string (bs a0),.string (bs a1)] M [] (fun v M' Γ'=>v=.int .i64 r∧Γ'=[]):=by
 refine con_of_wp Tryd.func87 rfl Tryd.ntmps87 Tryd.results87 rfl ?_
 intro w F rn S hrn
 have E:=Ext.refl w
 have HM:=Hp.le_refl M
 have H:=h
 unfold internal_bytealg_CompareString at H
 refine Wp_seq (Wp_region_lit (W_v (.int .i64 0) (x_assign rfl) rfl (Wl_nil (tn (Wp_seq (Wp_region_lit (W_v (.string (bs a0)) (x_move rfl) rfl (W_v (.string (bs a1)) (x_move rfl) rfl (W_v (.int .i64 (Lib.compareBytes a0 a1)) (x_cmp cmp100 rfl rfl) rfl (W_v (.int .i64 (Lib.compareBytes a0 a1)) (x_assign rfl) rfl (Wl_nil (tn ?_))))))))))))
 refine Wp_ret ?_
 obtain rfl:=Option.some.inj H
 exact ⟨_,_,_,fun w1 e1=>run_resR (vs:=[.int .i64 (Lib.compareBytes a0 a1)]) (FA.cons (rfl) (FA.nil)),HM,E,S.pick [] (by decide),⟨rfl,rfl⟩⟩
def strings_Compare (k:Nat) (a0:Str) (a1:Str):Option (Int) :=
 (Option.bind (internal_bytealg_CompareString k a0 a1) (fun t1=>some t1))
set_option maxHeartbeats 2000000 in
theorem strings_Compare.mono {k:Nat} {a0:Str} {a1:Str}:OLe (strings_Compare k a0 a1) (strings_Compare (k+1) a0 a1):=by
 unfold strings_Compare
 repeat' (first | with_reducible exact OLe.none | with_reducible exact OLe.some | with_reducible refine OLe.ite ?_ ?_ | with_reducible refine OLe.bind ?_ (fun _=>?_) | with_reducible exact internal_bytealg_CompareString.mono | refine OLe.bind ?_ (fun _=>?_) | refine OLe.ite ?_ ?_ | refine OLe.elim (fun _=>?_) (fun _=>?_) | split)
set_option maxHeartbeats 1000000 in
set_option maxRecDepth 100000 in
theorem strings_Compare.con (k:Nat) (M:Hp) (a0:Str) (a1:Str) (r:Int)  (h:strings_Compare k a0 a1=some r):Con Tryd.prog 76 #[.string (bs a0),.string (bs a1)] M [] (fun v M' Γ'=>v=.int .i64 r∧Γ'=[]):=by
 refine con_of_wp Tryd.func76 rfl Tryd.ntmps76 Tryd.results76 rfl ?_
 intro w F rn S hrn
 have E:=Ext.refl w
 have HM:=Hp.le_refl M
 have H:=h
 unfold strings_Compare at H
 refine Wp_seq (Wp_region_lit (W_v (.int .i64 0) (x_assign rfl) rfl (Wl_nil (tn (Wp_seq (Wp_region_lit (W_v (.string (bs a0)) (x_move rfl) rfl (W_v (.string (bs a1)) (x_move rfl) rfl ?_))))))))
 obtain ⟨t1,ht2,H⟩:=bindS H
 refine W_callF fn87 (internal_bytealg_CompareString.con k M a0 a1 t1  ht2) S rfl rfl (by rintro _ _ _ ⟨_,rfl⟩;exact flat_nil) ?_
 rintro _ w3 _ Γ' E' S ⟨rfl,rfl⟩
 replace E:=E.trans E'
 refine W_v (.int .i64 t1) (x_assign rfl) rfl (Wl_nil (tn ?_))
 refine Wp_ret ?_
 obtain rfl:=Option.some.inj H
 exact ⟨_,_,_,fun w1 e1=>run_resR (vs:=[.int .i64 t1]) (FA.cons (rfl) (FA.nil)),HM,E,S.pick [] (by decide),⟨rfl,rfl⟩⟩
def text_Compare (k:Nat) (a0:Str) (a1:Str):Option (Int) :=
 (Option.bind (strings_Compare k a0 a1) (fun t1=>some t1))
set_option maxHeartbeats 2000000 in
theorem text_Compare.mono {k:Nat} {a0:Str} {a1:Str}:OLe (text_Compare k a0 a1) (text_Compare (k+1) a0 a1):=by
 unfold text_Compare
 repeat' (first | with_reducible exact OLe.none | with_reducible exact OLe.some | with_reducible refine OLe.ite ?_ ?_ | with_reducible refine OLe.bind ?_ (fun _=>?_) | with_reducible exact strings_Compare.mono | refine OLe.bind ?_ (fun _=>?_) | refine OLe.ite ?_ ?_ | refine OLe.elim (fun _=>?_) (fun _=>?_) | split)
set_option maxHeartbeats 1000000 in
set_option maxRecDepth 100000 in
theorem text_Compare.con (k:Nat) (M:Hp) (a0:Str) (a1:Str) (r:Int)  (h:text_Compare k a0 a1=some r):Con Tryd.prog 48 #[.string (bs a0),.string (bs a1)] M [] (fun v M' Γ'=>v=.int .i64 r∧Γ'=[]):=by
 refine con_of_wp Tryd.func48 rfl Tryd.ntmps48 Tryd.results48 rfl ?_
 intro w F rn S hrn
 have E:=Ext.refl w
 have HM:=Hp.le_refl M
 have H:=h
 unfold text_Compare at H
 refine Wp_seq (Wp_region_lit (W_v (.int .i64 0) (x_assign rfl) rfl (Wl_nil (tn (Wp_seq (Wp_region_lit (W_v (.string (bs a0)) (x_move rfl) rfl (W_v (.string (bs a1)) (x_move rfl) rfl ?_))))))))
 obtain ⟨t1,ht2,H⟩:=bindS H
 refine W_callF fn76 (strings_Compare.con k M a0 a1 t1  ht2) S rfl rfl (by rintro _ _ _ ⟨_,rfl⟩;exact flat_nil) ?_
 rintro _ w3 _ Γ' E' S ⟨rfl,rfl⟩
 replace E:=E.trans E'
 refine W_v (.int .i64 t1) (x_assign rfl) rfl (Wl_nil (tn ?_))
 refine Wp_ret ?_
 obtain rfl:=Option.some.inj H
 exact ⟨_,_,_,fun w1 e1=>run_resR (vs:=[.int .i64 t1]) (FA.cons (rfl) (FA.nil)),HM,E,S.pick [] (by decide),⟨rfl,rfl⟩⟩
def ferrymanlaw16_small (k:Nat) :Option (api_Config) :=
 some (⟨(2:Int),(2:Int),(2:Int),(2:Int),(2:Int),(2:Int),(2:Int),(3:Int)⟩:api_Config)
set_option maxHeartbeats 2000000 in
theorem ferrymanlaw16_small.mono {k:Nat} :OLe (ferrymanlaw16_small k ) (ferrymanlaw16_small (k+1) ):=by
 unfold ferrymanlaw16_small
 repeat' (first | with_reducible exact OLe.none | with_reducible exact OLe.some | with_reducible refine OLe.ite ?_ ?_ | with_reducible refine OLe.bind ?_ (fun _=>?_) | refine OLe.bind ?_ (fun _=>?_) | refine OLe.ite ?_ ?_ | refine OLe.elim (fun _=>?_) (fun _=>?_) | split)
set_option maxHeartbeats 1000000 in
set_option maxRecDepth 100000 in
theorem ferrymanlaw16_small.con (k:Nat) (M:Hp)  (r:api_Config)  (h:ferrymanlaw16_small k =some r):Con Tryd.prog 30 #[] M [] (fun v M' Γ'=>v=.agg #[.int .i64 r.Tasks,.int .i64 r.Active,.int .i64 r.Keys,.int .i64 r.Depth,.int .i64 r.TS,.int .i64 r.KeyLen,.int .i64 r.ValLen,.int .i64 r.Fan]∧Γ'=[]):=by
 refine con_of_wp Tryd.func30 rfl Tryd.ntmps30 Tryd.results30 rfl ?_
 intro w F rn S hrn
 have E:=Ext.refl w
 have HM:=Hp.le_refl M
 have H:=h
 unfold ferrymanlaw16_small at H
 refine Wp_seq (Wp_region_lit ?_)
 refine W_alloc S #[.int .i64 0,.int .i64 0,.int .i64 0,.int .i64 0,.int .i64 0,.int .i64 0,.int .i64 0,.int .i64 0] ty23 rfl rfl ?_
 intro b1 w2 E' S
 replace E:=E.trans E'
 refine Wl_nil (tn (Wp_seq (Wp_region_lit (W_v (.agg #[.int .i64 2,.int .i64 2,.int .i64 2,.int .i64 2,.int .i64 2,.int .i64 2,.int .i64 2,.int .i64 3]) (x_build2 (pl:=[(0,1),(1,1),(2,1),(3,1),(4,1),(5,1),(6,1),(7,1)]) #[.int .i64 2,.int .i64 2,.int .i64 2,.int .i64 2,.int .i64 2,.int .i64 2,.int .i64 2,.int .i64 3] Tryd.underlying23 ty23 (by as_aux_lemma=>kernel_rfl) rfl (by as_aux_lemma=>kernel_rfl)) rfl ?_))))
 refine W_store S 0 rfl ty23 rfl rfl [.int .i64 2,.int .i64 2,.int .i64 2,.int .i64 2,.int .i64 2,.int .i64 2,.int .i64 2,.int .i64 3] rfl rfl rfl #[.int .i64 2,.int .i64 2,.int .i64 2,.int .i64 2,.int .i64 2,.int .i64 2,.int .i64 2,.int .i64 3] (by as_aux_lemma=>kernel_rfl) rfl ?_
 intro w4 E' S
 replace E:=E.trans E'
 refine Wl_nil (tn ?_)
 refine Wp_ret ?_
 obtain rfl:=Option.some.inj H
 exact ⟨_,_,_,fun w1 e1=>run_resR (vs:=[.agg #[.int .i64 2,.int .i64 2,.int .i64 2,.int .i64 2,.int .i64 2,.int .i64 2,.int .i64 2,.int .i64 3]]) (FA.cons (⟨_,rfl,run_loadVar_agg ty23 ((S.of_eq e1).blk 0 rfl) (sub_of_extract rfl) rfl (by decide)⟩) (FA.nil)),HM,E,S.pick [] (by decide),⟨rfl,rfl⟩⟩
def ferrymanlaw16_on (k:Nat) (a0:Int) (a1:Int) (a2:Str) (a3:Str):Option (api_Call) :=
 some (⟨a0,a1,a2,([]:Str),a3,(0:Int),(0:Int)⟩:api_Call)
set_option maxHeartbeats 2000000 in
theorem ferrymanlaw16_on.mono {k:Nat} {a0:Int} {a1:Int} {a2:Str} {a3:Str}:OLe (ferrymanlaw16_on k a0 a1 a2 a3) (ferrymanlaw16_on (k+1) a0 a1 a2 a3):=by
 unfold ferrymanlaw16_on
 repeat' (first | with_reducible exact OLe.none | with_reducible exact OLe.some | with_reducible refine OLe.ite ?_ ?_ | with_reducible refine OLe.bind ?_ (fun _=>?_) | refine OLe.bind ?_ (fun _=>?_) | refine OLe.ite ?_ ?_ | refine OLe.elim (fun _=>?_) (fun _=>?_) | split)
set_option maxHeartbeats 1000000 in
set_option maxRecDepth 100000 in
theorem ferrymanlaw16_on.con (k:Nat) (M:Hp) (a0:Int) (a1:Int) (a2:Str) (a3:Str) (r:api_Call)  (h:ferrymanlaw16_on k a0 a1 a2 a3=some r):Con Tryd.prog 31 #[.int .u8 a0,.int .i64 a1,.string (bs a2),.string (bs a3)] M [] (fun v M' Γ'=>v=.agg #[.int .u8 r.Kind,.int .i64 r.Tx,.string (bs r.Key),.string (bs r.End),.string (bs r.Value),.int .i64 r.Limit,.int .u8 r.Engine]∧Γ'=[]):=by
 refine con_of_wp Tryd.func31 rfl Tryd.ntmps31 Tryd.results31 rfl ?_
 intro w F rn S hrn
 have E:=Ext.refl w
 have HM:=Hp.le_refl M
 have H:=h
 unfold ferrymanlaw16_on at H
 refine Wp_seq (Wp_region_lit ?_)
 refine W_alloc S #[.int .u8 0,.int .i64 0,.string (bs ([]:Str)),.string (bs ([]:Str)),.string (bs ([]:Str)),.int .i64 0,.int .u8 0] ty37 rfl rfl ?_
 intro b1 w2 E' S
 replace E:=E.trans E'
 refine Wl_nil (tn (Wp_seq (Wp_region_lit (W_v (.int .u8 a0) (x_move rfl) rfl (W_v (.int .i64 a1) (x_move rfl) rfl (W_v (.string (bs a2)) (x_move rfl) rfl (W_v (.string (bs a3)) (x_move rfl) rfl (W_v (.agg #[.int .u8 a0,.int .i64 a1,.string (bs a2),.string (bs ([]:Str)),.string (bs a3),.int .i64 0,.int .u8 0]) (x_build2 (pl:=[(0,1),(1,1),(2,1),(3,1),(4,1),(5,1),(6,1)]) #[.int .u8 a0,.int .i64 a1,.string (bs a2),.string (bs ([]:Str)),.string (bs a3),.int .i64 0,.int .u8 0] Tryd.underlying37 ty37 (by as_aux_lemma=>kernel_rfl) rfl (by as_aux_lemma=>kernel_rfl)) rfl ?_))))))))
 refine W_store S 0 rfl ty37 rfl rfl [.int .u8 a0,.int .i64 a1,.string (bs a2),.string (bs ([]:Str)),.string (bs a3),.int .i64 0,.int .u8 0] rfl rfl rfl #[.int .u8 a0,.int .i64 a1,.string (bs a2),.string (bs ([]:Str)),.string (bs a3),.int .i64 0,.int .u8 0] (by as_aux_lemma=>kernel_rfl) rfl ?_
 intro w4 E' S
 replace E:=E.trans E'
 refine Wl_nil (tn ?_)
 refine Wp_ret ?_
 obtain rfl:=Option.some.inj H
 exact ⟨_,_,_,fun w1 e1=>run_resR (vs:=[.agg #[.int .u8 a0,.int .i64 a1,.string (bs a2),.string (bs ([]:Str)),.string (bs a3),.int .i64 0,.int .u8 0]]) (FA.cons (⟨_,rfl,run_loadVar_agg ty37 ((S.of_eq e1).blk 0 rfl) (sub_of_extract rfl) rfl (by decide)⟩) (FA.nil)),HM,E,S.pick [] (by decide),⟨rfl,rfl⟩⟩
def model_needs (k:Nat) (a0:Int):Option (Bool) :=
 some (((a0 != (1:Int))&&(a0 != (8:Int)))&&(a0 != (9:Int)))
set_option maxHeartbeats 2000000 in
theorem model_needs.mono {k:Nat} {a0:Int}:OLe (model_needs k a0) (model_needs (k+1) a0):=by
 unfold model_needs
 repeat' (first | with_reducible exact OLe.none | with_reducible exact OLe.some | with_reducible refine OLe.ite ?_ ?_ | with_reducible refine OLe.bind ?_ (fun _=>?_) | refine OLe.bind ?_ (fun _=>?_) | refine OLe.ite ?_ ?_ | refine OLe.elim (fun _=>?_) (fun _=>?_) | split)
set_option maxHeartbeats 1000000 in
set_option maxRecDepth 100000 in
theorem model_needs.con (k:Nat) (M:Hp) (a0:Int) (r:Bool)  (h:model_needs k a0=some r):Con Tryd.prog 43 #[.int .u8 a0] M [] (fun v M' Γ'=>v=.bool r∧Γ'=[]):=by
 refine con_of_wp Tryd.func43 rfl Tryd.ntmps43 Tryd.results43 rfl ?_
 intro w F rn S hrn
 have E:=Ext.refl w
 have HM:=Hp.le_refl M
 have H:=h
 unfold model_needs at H
 refine Wp_seq (Wp_region_lit (W_v (.bool false) (x_assign rfl) rfl (Wl_nil (tn (Wp_seq (Wp_region_lit (W_v (.int .u8 a0) (x_move rfl) rfl (W_v (.bool (a0 != (1:Int))) (x_ibin rfl rfl rfl rfl) rfl (W_v (.bool (a0 != (1:Int))) (x_move rfl) rfl ?_)))))))))
 refine Wl_cutN 3 (fun ρ w'=>Agree ρ [(0,.int .u8 a0),(8,.bool ((a0 != (1:Int))&&(a0 != (8:Int))))]∧w=w') ?_ ?_
 ·rcases boolCases (a0 != (1:Int)) with hb1 | hb1
  ·skip
   refine W_no (skT hb1) rfl (W_no (skT hb1) rfl (W_v (.bool false) (x_pick (k:=false) (congrArg Value.bool hb1) rfl) rfl (Wl_nil ?_)))
   exact ⟨⟨rfl,(by first | rfl | (rw [hb1];rfl) | (simp only [hb1];rfl)),trivial⟩,rfl⟩
  ·skip
   refine W_yes (congrArg some hb1) (W_v (.int .u8 a0) (x_move rfl) rfl (W_yes (congrArg some hb1) (W_v (.bool (a0 != (8:Int))) (x_ibin rfl rfl rfl rfl) rfl (W_v (.bool (a0 != (8:Int))) (x_pick (k:=true) (congrArg Value.bool hb1) rfl) rfl (Wl_nil ?_)))))
   exact ⟨⟨rfl,(by first | rfl | (rw [hb1];rfl) | (simp only [hb1];rfl)),trivial⟩,rfl⟩
 rintro ρ _ ⟨hρ,rfl⟩
 rw [agree_eta hρ]
 refine W_v (.bool ((a0 != (1:Int))&&(a0 != (8:Int)))) (x_move rfl) rfl ?_
 refine Wl_cutN 3 (fun ρ w'=>Agree ρ [(12,.bool (((a0 != (1:Int))&&(a0 != (8:Int)))&&(a0 != (9:Int))))]∧w=w') ?_ ?_
 ·rcases boolCases ((a0 != (1:Int))&&(a0 != (8:Int))) with hb2 | hb2
  ·skip
   refine W_no (skT hb2) rfl (W_no (skT hb2) rfl (W_v (.bool false) (x_pick (k:=false) (congrArg Value.bool hb2) rfl) rfl (Wl_nil ?_)))
   exact ⟨⟨(by first | rfl | (rw [hb2];rfl) | (simp only [hb2];rfl)),trivial⟩,rfl⟩
  ·skip
   refine W_yes (congrArg some hb2) (W_v (.int .u8 a0) (x_move rfl) rfl (W_yes (congrArg some hb2) (W_v (.bool (a0 != (9:Int))) (x_ibin rfl rfl rfl rfl) rfl (W_v (.bool (a0 != (9:Int))) (x_pick (k:=true) (congrArg Value.bool hb2) rfl) rfl (Wl_nil ?_)))))
   exact ⟨⟨(by first | rfl | (rw [hb2];rfl) | (simp only [hb2];rfl)),trivial⟩,rfl⟩
 rintro ρ _ ⟨hρ,rfl⟩
 rw [agree_eta hρ]
 refine W_v (.bool (((a0 != (1:Int))&&(a0 != (8:Int)))&&(a0 != (9:Int)))) (x_assign rfl) rfl (Wl_nil (tn ?_))
 refine Wp_ret ?_
 obtain rfl:=Option.some.inj H
 exact ⟨_,_,_,fun w1 e1=>run_resR (vs:=[.bool (((a0 != (1:Int))&&(a0 != (8:Int)))&&(a0 != (9:Int)))]) (FA.cons (rfl) (FA.nil)),HM,E,S.pick [] (by decide),⟨rfl,rfl⟩⟩
def text_length_v (k:Nat) (a0:api_Config) (a1:Int) (a2:Int):Option (Unit) :=
 some ()
set_option maxHeartbeats 2000000 in
theorem text_length_v.mono {k:Nat} {a0:api_Config} {a1:Int} {a2:Int}:OLe (text_length_v k a0 a1 a2) (text_length_v (k+1) a0 a1 a2):=by
 unfold text_length_v
 repeat' (first | with_reducible exact OLe.none | with_reducible exact OLe.some | with_reducible refine OLe.ite ?_ ?_ | with_reducible refine OLe.bind ?_ (fun _=>?_) | refine OLe.bind ?_ (fun _=>?_) | refine OLe.ite ?_ ?_ | refine OLe.elim (fun _=>?_) (fun _=>?_) | split)
set_option maxHeartbeats 4000000 in
set_option maxRecDepth 100000 in
theorem text_length_v.con (k:Nat) (M:Hp) (a0:api_Config) (a1:Int) (a2:Int) (r:Unit)  (h:text_length_v k a0 a1 a2=some r):Con Tryd.prog 83 #[.agg #[.int .i64 a0.Tasks,.int .i64 a0.Active,.int .i64 a0.Keys,.int .i64 a0.Depth,.int .i64 a0.TS,.int .i64 a0.KeyLen,.int .i64 a0.ValLen,.int .i64 a0.Fan],.int .i64 a1,.int .i64 a2] M [] (fun v M' Γ'=>∃ (bq1:Nat) (bq3:Nat) (bq5:Nat),v=.func (.func 89) #[] #[pt bq1 0,pt bq3 0,pt bq5 0]∧Γ'=[B23 bq1 a0,Blk bq3 (.cells #[.int .i64 a1] 3 (0,0)),Blk bq5 (.cells #[.int .i64 a2] 3 (0,0))]):=by
 refine con_of_wp Tryd.func83 rfl Tryd.ntmps83 Tryd.results83 rfl ?_
 intro w F rn S hrn
 have E:=Ext.refl w
 have HM:=Hp.le_refl M
 have H:=h
 unfold text_length_v at H
 refine Wp_seq (Wp_region_lit ?_)
 refine W_box S #[.int .i64 a0.Tasks,.int .i64 a0.Active,.int .i64 a0.Keys,.int .i64 a0.Depth,.int .i64 a0.TS,.int .i64 a0.KeyLen,.int .i64 a0.ValLen,.int .i64 a0.Fan] rfl rfl rfl ?_
 intro b1 w2 E' S
 replace E:=E.trans E'
 refine W_box S #[.int .i64 a1] rfl rfl rfl ?_
 intro b4 w5 E' S
 replace E:=E.trans E'
 refine W_box S #[.int .i64 a2] rfl rfl rfl ?_
 intro b7 w8 E' S
 replace E:=E.trans E'
 refine W_v (.nilFunc) (x_assign rfl) rfl (Wl_nil (tn (Wp_seq (Wp_region_lit (W_v (.func (.func 89) #[] #[pt b1 0,pt b4 0,pt b7 0]) (x_makeFunc rfl) rfl (W_v (.func (.func 89) #[] #[pt b1 0,pt b4 0,pt b7 0]) (x_assign rfl) rfl (Wl_nil (tn ?_))))))))
 refine Wp_ret ?_
 obtain rfl:=Option.some.inj H
 exact ⟨_,_,_,fun w1 e1=>run_resR (vs:=[.func (.func 89) #[] #[pt b1 0,pt b4 0,pt b7 0]]) (FA.cons (rfl) (FA.nil)),HM,E,S.pick [2,1,0] (by decide),⟨b1,b4,b7,rfl,rfl⟩⟩
def text_length_1 (k:Nat) (a0:Str) (ac_0:api_Config) (ac_1:Int) (ac_2:Int):Option (Bool) :=
 (Option.bind (text_May k ac_0) (fun t1=>some ((t1&&(decide ((a0.length:Int)≥ac_1)))&&(decide ((a0.length:Int)≤ac_2)))))
set_option maxHeartbeats 2000000 in
theorem text_length_1.mono {k:Nat} {a0:Str} {ac_0:api_Config} {ac_1:Int} {ac_2:Int}:OLe (text_length_1 k a0 ac_0 ac_1 ac_2) (text_length_1 (k+1) a0 ac_0 ac_1 ac_2):=by
 unfold text_length_1
 repeat' (first | with_reducible exact OLe.none | with_reducible exact OLe.some | with_reducible refine OLe.ite ?_ ?_ | with_reducible refine OLe.bind ?_ (fun _=>?_) | with_reducible exact text_May.mono | refine OLe.bind ?_ (fun _=>?_) | refine OLe.ite ?_ ?_ | refine OLe.elim (fun _=>?_) (fun _=>?_) | split)
set_option maxHeartbeats 4000000 in
set_option maxRecDepth 100000 in
theorem text_length_1.con (k:Nat) (M:Hp) (a0:Str) (ac_0:api_Config) (ac_1:Int) (ac_2:Int) (bc_0:Nat) (bc_1:Nat) (bc_2:Nat) (r:Bool)  (h:text_length_1 k a0 ac_0 ac_1 ac_2=some r):Con Tryd.prog 89 #[.string (bs a0),pt bc_0 0,pt bc_1 0,pt bc_2 0] M [B23 bc_0 ac_0,Blk bc_1 (.cells #[.int .i64 ac_1] 3 (0,0)),Blk bc_2 (.cells #[.int .i64 ac_2] 3 (0,0))] (fun v M' Γ'=>v=.bool r∧Γ'=[B23 bc_0 ac_0,Blk bc_1 (.cells #[.int .i64 ac_1] 3 (0,0)),Blk bc_2 (.cells #[.int .i64 ac_2] 3 (0,0))]):=by
 refine con_of_wp Tryd.func89 rfl Tryd.ntmps89 Tryd.results89 rfl ?_
 intro w F rn S hrn
 have E:=Ext.refl w
 have HM:=Hp.le_refl M
 have H:=h
 unfold text_length_1 at H
 refine Wp_seq (Wp_region_lit (W_v (.bool false) (x_assign rfl) rfl (Wl_nil (tn (Wp_seq (Wp_region_lit (W_v (.agg #[.int .i64 ac_0.Tasks,.int .i64 ac_0.Active,.int .i64 ac_0.Keys,.int .i64 ac_0.Depth,.int .i64 ac_0.TS,.int .i64 ac_0.KeyLen,.int .i64 ac_0.ValLen,.int .i64 ac_0.Fan]) (x_loadA (S.blk 0 rfl) ty23 rfl (sub_of_extract rfl) rfl rfl) rfl ?_)))))))
 obtain ⟨t1,ht2,H⟩:=bindS H
 refine W_callF fn41 (text_May.con k M ac_0 t1  ht2) S rfl rfl (by rintro _ _ _ ⟨_,rfl⟩;exact flat_nil) ?_
 rintro _ w3 _ Γ' E' S ⟨rfl,rfl⟩
 replace E:=E.trans E'
 refine W_v (.bool t1) (x_move rfl) rfl ?_
 refine Wl_cutN 5 (fun ρ w'=>Agree ρ [(0,.string (bs a0)),(3,pt bc_2 0),(13,.bool (t1&&(decide ((a0.length:Int)≥ac_1))))]∧w3=w') ?_ ?_
 ·rcases boolCases t1 with hb4 | hb4
  ·skip
   refine W_no (skT hb4) rfl (W_no (skT hb4) rfl (W_no (skT hb4) rfl (W_no (skT hb4) rfl (W_v (.bool false) (x_pick (k:=false) (congrArg Value.bool hb4) rfl) rfl (Wl_nil ?_)))))
   exact ⟨⟨rfl,rfl,(by first | rfl | (rw [hb4];rfl) | (simp only [hb4];rfl)),trivial⟩,rfl⟩
  ·skip
   refine W_yes (congrArg some hb4) (W_v (.string (bs a0)) (x_move rfl) rfl (W_yes (congrArg some hb4) (W_v (.int .i64 (a0.length:Int)) (x_len_str Tryd.underlying9 rfl) rfl (W_yes (congrArg some hb4) (W_v (.int .i64 ac_1) (x_load (S.blk 1 rfl) ty3 rfl rfl) rfl (W_yes (congrArg some hb4) (W_v (.bool (decide ((a0.length:Int)≥ac_1))) (x_ibin rfl rfl rfl rfl) rfl (W_v (.bool (decide ((a0.length:Int)≥ac_1))) (x_pick (k:=true) (congrArg Value.bool hb4) rfl) rfl (Wl_nil ?_)))))))))
   exact ⟨⟨rfl,rfl,(by first | rfl | (rw [hb4];rfl) | (simp only [hb4];rfl)),trivial⟩,rfl⟩
 rintro ρ _ ⟨hρ,rfl⟩
 rw [agree_eta hρ]
 refine W_v (.bool (t1&&(decide ((a0.length:Int)≥ac_1)))) (x_move rfl) rfl ?_
 refine Wl_cutN 5 (fun ρ w'=>Agree ρ [(19,.bool ((t1&&(decide ((a0.length:Int)≥ac_1)))&&(decide ((a0.length:Int)≤ac_2))))]∧w3=w') ?_ ?_
 ·rcases boolCases (t1&&(decide ((a0.length:Int)≥ac_1))) with hb5 | hb5
  ·skip
   refine W_no (skT hb5) rfl (W_no (skT hb5) rfl (W_no (skT hb5) rfl (W_no (skT hb5) rfl (W_v (.bool false) (x_pick (k:=false) (congrArg Value.bool hb5) rfl) rfl (Wl_nil ?_)))))
   exact ⟨⟨(by first | rfl | (rw [hb5];rfl) | (simp only [hb5];rfl)),trivial⟩,rfl⟩
  ·skip
   refine W_yes (congrArg some hb5) (W_v (.string (bs a0)) (x_move rfl) rfl (W_yes (congrArg some hb5) (W_v (.int .i64 (a0.length:Int)) (x_len_str Tryd.underlying9 rfl) rfl (W_yes (congrArg some hb5) (W_v (.int .i64 ac_2) (x_load (S.blk 2 rfl) ty3 rfl rfl) rfl (W_yes (congrArg some hb5) (W_v (.bool (decide ((a0.length:Int)≤ac_2))) (x_ibin rfl rfl rfl rfl) rfl (W_v (.bool (decide ((a0.length:Int)≤ac_2))) (x_pick (k:=true) (congrArg Value.bool hb5) rfl) rfl (Wl_nil ?_)))))))))
   exact ⟨⟨(by first | rfl | (rw [hb5];rfl) | (simp only [hb5];rfl)),trivial⟩,rfl⟩
 rintro ρ _ ⟨hρ,rfl⟩
 rw [agree_eta hρ]
 refine W_v (.bool ((t1&&(decide ((a0.length:Int)≥ac_1)))&&(decide ((a0.length:Int)≤ac_2)))) (x_assign rfl) rfl (Wl_nil (tn ?_))
 refine Wp_ret ?_
 obtain rfl:=Option.some.inj H
 exact ⟨_,_,_,fun w1 e1=>run_resR (vs:=[.bool ((t1&&(decide ((a0.length:Int)≥ac_1)))&&(decide ((a0.length:Int)≤ac_2)))]) (FA.cons (rfl) (FA.nil)),HM,E,S.pick [0,1,2] (by decide),⟨rfl,rfl⟩⟩
def text_Key (k:Nat) (a0:api_Config) (a1:Str):Option (Bool) :=
 (Option.bind (text_length_v k a0 (1:Int) a0.KeyLen) (fun t4=>(Option.bind (text_length_1 k a1 a0 (1:Int) a0.KeyLen) (fun t15=>some t15))))
set_option maxHeartbeats 2000000 in
theorem text_Key.mono {k:Nat} {a0:api_Config} {a1:Str}:OLe (text_Key k a0 a1) (text_Key (k+1) a0 a1):=by
 unfold text_Key
 repeat' (first | with_reducible exact OLe.none | with_reducible exact OLe.some | with_reducible refine OLe.ite ?_ ?_ | with_reducible refine OLe.bind ?_ (fun _=>?_) | with_reducible exact text_length_1.mono | with_reducible exact text_length_v.mono | refine OLe.bind ?_ (fun _=>?_) | refine OLe.ite ?_ ?_ | refine OLe.elim (fun _=>?_) (fun _=>?_) | split)
set_option maxHeartbeats 1000000 in
set_option maxRecDepth 100000 in
theorem text_Key.con (k:Nat) (M:Hp) (a0:api_Config) (a1:Str) (r:Bool)  (h:text_Key k a0 a1=some r):Con Tryd.prog 70 #[.agg #[.int .i64 a0.Tasks,.int .i64 a0.Active,.int .i64 a0.Keys,.int .i64 a0.Depth,.int .i64 a0.TS,.int .i64 a0.KeyLen,.int .i64 a0.ValLen,.int .i64 a0.Fan],.string (bs a1)] M [] (fun v M' Γ'=>v=.bool r∧Γ'=[]):=by
 refine con_of_wp Tryd.func70 rfl Tryd.ntmps70 Tryd.results70 rfl ?_
 intro w F rn S hrn
 have E:=Ext.refl w
 have HM:=Hp.le_refl M
 have H:=h
 unfold text_Key at H
 refine Wp_seq (Wp_region_lit ?_)
 refine W_box S #[.int .i64 a0.Tasks,.int .i64 a0.Active,.int .i64 a0.Keys,.int .i64 a0.Depth,.int .i64 a0.TS,.int .i64 a0.KeyLen,.int .i64 a0.ValLen,.int .i64 a0.Fan] rfl rfl rfl ?_
 intro b1 w2 E' S
 replace E:=E.trans E'
 refine W_v (.bool false) (x_assign rfl) rfl (Wl_nil (tn (Wp_seq (Wp_region_lit (W_v (.agg #[.int .i64 a0.Tasks,.int .i64 a0.Active,.int .i64 a0.Keys,.int .i64 a0.Depth,.int .i64 a0.TS,.int .i64 a0.KeyLen,.int .i64 a0.ValLen,.int .i64 a0.Fan]) (x_loadA (S.blk 0 rfl) ty23 rfl (sub_of_extract rfl) rfl rfl) rfl (W_v (pt b1 5) (x_fieldAddr (o:=0) (off:=5) Tryd.underlying23 rfl ty3 rfl rfl) rfl (W_v (.int .i64 a0.KeyLen) (x_load (S.blk 0 rfl) ty3 rfl rfl) rfl ?_)))))))
 obtain ⟨t4,ht5,H⟩:=bindS H
 refine W_callF2 fn83 (text_length_v.con k M a0 (1:Int) a0.KeyLen t4  ht5) (Γ1:=[]) (Γ2:=[_]) S rfl rfl (by rintro _ _ _ ⟨_,_,_,rfl,rfl⟩;exact (flat_cons flat_blk (flat_cons flat_blk (flat_cons flat_blk flat_nil)))) ?_
 rintro _ w12 _ Γ' E' S ⟨b6,b8,b10,rfl,rfl⟩
 replace E:=E.trans E'
 replace S:St w12 M F [_,_,_,_]:=S
 refine W_v (.string (bs a1)) (x_move rfl) rfl ?_
 obtain ⟨t15,ht16,H⟩:=bindS H
 refine W_callvF2 (fs:=[]) (cap:=[pt b6 0,pt b8 0,pt b10 0]) fn89 rfl (text_length_1.con k M a1 a0 (1:Int) a0.KeyLen b6 b8 b10 t15  ht16) (Γ1:=[_,_,_]) (Γ2:=[_]) S rfl rfl (by rintro _ _ _ ⟨rfl,rfl⟩;exact (flat_cons flat_blk (flat_cons flat_blk (flat_cons flat_blk flat_nil)))) ?_
 rintro _ w17 _ Γ' E' S ⟨rfl,rfl⟩
 replace E:=E.trans E'
 replace S:St w17 M F [_,_,_,_]:=S
 refine W_v (.bool t15) (x_assign rfl) rfl (Wl_nil (tn ?_))
 refine Wp_ret ?_
 obtain rfl:=Option.some.inj H
 exact ⟨_,_,_,fun w1 e1=>run_resR (vs:=[.bool t15]) (FA.cons (rfl) (FA.nil)),HM,E,S.pick [] (by decide),⟨rfl,rfl⟩⟩
def text_Value (k:Nat) (a0:api_Config) (a1:Str):Option (Bool) :=
 (Option.bind (text_length_v k a0 (0:Int) a0.ValLen) (fun t4=>(Option.bind (text_length_1 k a1 a0 (0:Int) a0.ValLen) (fun t15=>some t15))))
set_option maxHeartbeats 2000000 in
theorem text_Value.mono {k:Nat} {a0:api_Config} {a1:Str}:OLe (text_Value k a0 a1) (text_Value (k+1) a0 a1):=by
 unfold text_Value
 repeat' (first | with_reducible exact OLe.none | with_reducible exact OLe.some | with_reducible refine OLe.ite ?_ ?_ | with_reducible refine OLe.bind ?_ (fun _=>?_) | with_reducible exact text_length_1.mono | with_reducible exact text_length_v.mono | refine OLe.bind ?_ (fun _=>?_) | refine OLe.ite ?_ ?_ | refine OLe.elim (fun _=>?_) (fun _=>?_) | split)
set_option maxHeartbeats 1000000 in
set_option maxRecDepth 100000 in
theorem text_Value.con (k:Nat) (M:Hp) (a0:api_Config) (a1:Str) (r:Bool)  (h:text_Value k a0 a1=some r):Con Tryd.prog 71 #[.agg #[.int .i64 a0.Tasks,.int .i64 a0.Active,.int .i64 a0.Keys,.int .i64 a0.Depth,.int .i64 a0.TS,.int .i64 a0.KeyLen,.int .i64 a0.ValLen,.int .i64 a0.Fan],.string (bs a1)] M [] (fun v M' Γ'=>v=.bool r∧Γ'=[]):=by
 refine con_of_wp Tryd.func71 rfl Tryd.ntmps71 Tryd.results71 rfl ?_
 intro w F rn S hrn
 have E:=Ext.refl w
 have HM:=Hp.le_refl M
 have H:=h
 unfold text_Value at H
 refine Wp_seq (Wp_region_lit ?_)
 refine W_box S #[.int .i64 a0.Tasks,.int .i64 a0.Active,.int .i64 a0.Keys,.int .i64 a0.Depth,.int .i64 a0.TS,.int .i64 a0.KeyLen,.int .i64 a0.ValLen,.int .i64 a0.Fan] rfl rfl rfl ?_
 intro b1 w2 E' S
 replace E:=E.trans E'
 refine W_v (.bool false) (x_assign rfl) rfl (Wl_nil (tn (Wp_seq (Wp_region_lit (W_v (.agg #[.int .i64 a0.Tasks,.int .i64 a0.Active,.int .i64 a0.Keys,.int .i64 a0.Depth,.int .i64 a0.TS,.int .i64 a0.KeyLen,.int .i64 a0.ValLen,.int .i64 a0.Fan]) (x_loadA (S.blk 0 rfl) ty23 rfl (sub_of_extract rfl) rfl rfl) rfl (W_v (pt b1 6) (x_fieldAddr (o:=0) (off:=6) Tryd.underlying23 rfl ty3 rfl rfl) rfl (W_v (.int .i64 a0.ValLen) (x_load (S.blk 0 rfl) ty3 rfl rfl) rfl ?_)))))))
 obtain ⟨t4,ht5,H⟩:=bindS H
 refine W_callF2 fn83 (text_length_v.con k M a0 (0:Int) a0.ValLen t4  ht5) (Γ1:=[]) (Γ2:=[_]) S rfl rfl (by rintro _ _ _ ⟨_,_,_,rfl,rfl⟩;exact (flat_cons flat_blk (flat_cons flat_blk (flat_cons flat_blk flat_nil)))) ?_
 rintro _ w12 _ Γ' E' S ⟨b6,b8,b10,rfl,rfl⟩
 replace E:=E.trans E'
 replace S:St w12 M F [_,_,_,_]:=S
 refine W_v (.string (bs a1)) (x_move rfl) rfl ?_
 obtain ⟨t15,ht16,H⟩:=bindS H
 refine W_callvF2 (fs:=[]) (cap:=[pt b6 0,pt b8 0,pt b10 0]) fn89 rfl (text_length_1.con k M a1 a0 (0:Int) a0.ValLen b6 b8 b10 t15  ht16) (Γ1:=[_,_,_]) (Γ2:=[_]) S rfl rfl (by rintro _ _ _ ⟨rfl,rfl⟩;exact (flat_cons flat_blk (flat_cons flat_blk (flat_cons flat_blk flat_nil)))) ?_
 rintro _ w17 _ Γ' E' S ⟨rfl,rfl⟩
 replace E:=E.trans E'
 replace S:St w17 M F [_,_,_,_]:=S
 refine W_v (.bool t15) (x_assign rfl) rfl (Wl_nil (tn ?_))
 refine Wp_ret ?_
 obtain rfl:=Option.some.inj H
 exact ⟨_,_,_,fun w1 e1=>run_resR (vs:=[.bool t15]) (FA.cons (rfl) (FA.nil)),HM,E,S.pick [] (by decide),⟨rfl,rfl⟩⟩
def text_Bound (k:Nat) (a0:api_Config) (a1:Str):Option (Bool) :=
 (Option.bind (text_length_v k a0 (0:Int) a0.KeyLen) (fun t4=>(Option.bind (text_length_1 k a1 a0 (0:Int) a0.KeyLen) (fun t15=>some t15))))
set_option maxHeartbeats 2000000 in
theorem text_Bound.mono {k:Nat} {a0:api_Config} {a1:Str}:OLe (text_Bound k a0 a1) (text_Bound (k+1) a0 a1):=by
 unfold text_Bound
 repeat' (first | with_reducible exact OLe.none | with_reducible exact OLe.some | with_reducible refine OLe.ite ?_ ?_ | with_reducible refine OLe.bind ?_ (fun _=>?_) | with_reducible exact text_length_1.mono | with_reducible exact text_length_v.mono | refine OLe.bind ?_ (fun _=>?_) | refine OLe.ite ?_ ?_ | refine OLe.elim (fun _=>?_) (fun _=>?_) | split)
set_option maxHeartbeats 1000000 in
set_option maxRecDepth 100000 in
theorem text_Bound.con (k:Nat) (M:Hp) (a0:api_Config) (a1:Str) (r:Bool)  (h:text_Bound k a0 a1=some r):Con Tryd.prog 72 #[.agg #[.int .i64 a0.Tasks,.int .i64 a0.Active,.int .i64 a0.Keys,.int .i64 a0.Depth,.int .i64 a0.TS,.int .i64 a0.KeyLen,.int .i64 a0.ValLen,.int .i64 a0.Fan],.string (bs a1)] M [] (fun v M' Γ'=>v=.bool r∧Γ'=[]):=by
 refine con_of_wp Tryd.func72 rfl Tryd.ntmps72 Tryd.results72 rfl ?_
 intro w F rn S hrn
 have E:=Ext.refl w
 have HM:=Hp.le_refl M
 have H:=h
 unfold text_Bound at H
 refine Wp_seq (Wp_region_lit ?_)
 refine W_box S #[.int .i64 a0.Tasks,.int .i64 a0.Active,.int .i64 a0.Keys,.int .i64 a0.Depth,.int .i64 a0.TS,.int .i64 a0.KeyLen,.int .i64 a0.ValLen,.int .i64 a0.Fan] rfl rfl rfl ?_
 intro b1 w2 E' S
 replace E:=E.trans E'
 refine W_v (.bool false) (x_assign rfl) rfl (Wl_nil (tn (Wp_seq (Wp_region_lit (W_v (.agg #[.int .i64 a0.Tasks,.int .i64 a0.Active,.int .i64 a0.Keys,.int .i64 a0.Depth,.int .i64 a0.TS,.int .i64 a0.KeyLen,.int .i64 a0.ValLen,.int .i64 a0.Fan]) (x_loadA (S.blk 0 rfl) ty23 rfl (sub_of_extract rfl) rfl rfl) rfl (W_v (pt b1 5) (x_fieldAddr (o:=0) (off:=5) Tryd.underlying23 rfl ty3 rfl rfl) rfl (W_v (.int .i64 a0.KeyLen) (x_load (S.blk 0 rfl) ty3 rfl rfl) rfl ?_)))))))
 obtain ⟨t4,ht5,H⟩:=bindS H
 refine W_callF2 fn83 (text_length_v.con k M a0 (0:Int) a0.KeyLen t4  ht5) (Γ1:=[]) (Γ2:=[_]) S rfl rfl (by rintro _ _ _ ⟨_,_,_,rfl,rfl⟩;exact (flat_cons flat_blk (flat_cons flat_blk (flat_cons flat_blk flat_nil)))) ?_
 rintro _ w12 _ Γ' E' S ⟨b6,b8,b10,rfl,rfl⟩
 replace E:=E.trans E'
 replace S:St w12 M F [_,_,_,_]:=S
 refine W_v (.string (bs a1)) (x_move rfl) rfl ?_
 obtain ⟨t15,ht16,H⟩:=bindS H
 refine W_callvF2 (fs:=[]) (cap:=[pt b6 0,pt b8 0,pt b10 0]) fn89 rfl (text_length_1.con k M a1 a0 (0:Int) a0.KeyLen b6 b8 b10 t15  ht16) (Γ1:=[_,_,_]) (Γ2:=[_]) S rfl rfl (by rintro _ _ _ ⟨rfl,rfl⟩;exact (flat_cons flat_blk (flat_cons flat_blk (flat_cons flat_blk flat_nil)))) ?_
 rintro _ w17 _ Γ' E' S ⟨rfl,rfl⟩
 replace E:=E.trans E'
 replace S:St w17 M F [_,_,_,_]:=S
 refine W_v (.bool t15) (x_assign rfl) rfl (Wl_nil (tn ?_))
 refine Wp_ret ?_
 obtain rfl:=Option.some.inj H
 exact ⟨_,_,_,fun w1 e1=>run_resR (vs:=[.bool t15]) (FA.cons (rfl) (FA.nil)),HM,E,S.pick [] (by decide),⟨rfl,rfl⟩⟩
def keep_till_v (k:Nat) (a0:(List api_Version)) (a1:Int):Option (Unit) :=
 some ()
set_option maxHeartbeats 2000000 in
theorem keep_till_v.mono {k:Nat} {a0:(List api_Version)} {a1:Int}:OLe (keep_till_v k a0 a1) (keep_till_v (k+1) a0 a1):=by
 unfold keep_till_v
 repeat' (first | with_reducible exact OLe.none | with_reducible exact OLe.some | with_reducible refine OLe.ite ?_ ?_ | with_reducible refine OLe.bind ?_ (fun _=>?_) | refine OLe.bind ?_ (fun _=>?_) | refine OLe.ite ?_ ?_ | refine OLe.elim (fun _=>?_) (fun _=>?_) | split)
set_option maxHeartbeats 4000000 in
set_option maxRecDepth 100000 in
theorem keep_till_v.con (k:Nat) (M:Hp) (A0:Option Addr) (c0:Nat) (a0:(List api_Version)) (a1:Int) (r:Unit) (hr0:SlR r_api_Version M (.slice A0 a0.length c0) a0) (h:keep_till_v k a0 a1=some r):Con Tryd.prog 143 #[.slice A0 a0.length c0,.int .i64 a1] M [] (fun v M' Γ'=>∃ (bq1:Nat) (bq3:Nat),v=.func (.func 144) #[] #[pt bq1 0,pt bq3 0]∧Γ'=[Blk bq1 (.cells #[.slice A0 a0.length c0] 65 (0,0)),Blk bq3 (.cells #[.int .i64 a1] 3 (0,0))]):=by
 refine con_of_wp Tryd.func143 rfl Tryd.ntmps143 Tryd.results143 rfl ?_
 intro w F rn S hrn
 have E:=Ext.refl w
 have HM:=Hp.le_refl M
 have H:=h
 unfold keep_till_v at H
 refine Wp_seq (Wp_region_lit ?_)
 refine W_box S #[.slice A0 a0.length c0] rfl rfl rfl ?_
 intro b1 w2 E' S
 replace E:=E.trans E'
 refine W_box S #[.int .i64 a1] rfl rfl rfl ?_
 intro b4 w5 E' S
 replace E:=E.trans E'
 refine W_v (.nilFunc) (x_assign rfl) rfl (Wl_nil (tn (Wp_seq (Wp_region_lit (W_v (.func (.func 144) #[] #[pt b1 0,pt b4 0]) (x_makeFunc rfl) rfl (W_v (.func (.func 144) #[] #[pt b1 0,pt b4 0]) (x_assign rfl) rfl (Wl_nil (tn ?_))))))))
 refine Wp_ret ?_
 obtain rfl:=Option.some.inj H
 exact ⟨_,_,_,fun w1 e1=>run_resR (vs:=[.func (.func 144) #[] #[pt b1 0,pt b4 0]]) (FA.cons (rfl) (FA.nil)),HM,E,S.pick [1,0] (by decide),⟨b1,b4,rfl,rfl⟩⟩
def keep_till_1_l0 {σ ε:Type} (a_0:(List api_Version)) (a_1:Int) (bd:Int×Bool→σ→Option (σ⊕ε)):Nat→Int→σ⊕ε→Option ((σ⊕ε)⊕((σ⊕ε)))
 | 0,_,_=>none
 | k+1,x53,x54=>(if (decide (x53<(a_0.length:Int)))=true then (if 0≤x53∧x53<(a_0.length:Int) then (Option.bind (toL x54) (fun s99=>Option.bind (bd (x53,(decide ((rd a_0 x53).TS≤a_1))) s99) (fun t101=>(if ((!(isNorm t101))||(decide ((rd a_0 x53).TS≤a_1)))=true then some (.inl t101) else keep_till_1_l0 a_0 a_1 bd k (IntKind.i64.wrap (x53+(1:Int))) t101)))) else none) else some (.inr (x54)))
set_option maxHeartbeats 2000000 in
theorem keep_till_1_l0.mono {σ ε:Type} {a_0:(List api_Version)} {a_1:Int} {bd bd':Int×Bool→σ→Option (σ⊕ε)} (hbd:∀ x s,OLe (bd x s) (bd' x s)):∀ {kl:Nat} {x0 x1},OLe (keep_till_1_l0 a_0 a_1 bd kl x0 x1) (keep_till_1_l0 a_0 a_1 bd' (kl+1) x0 x1):=by
 intro kl
 induction kl with
 | zero=>intros;exact OLe.none
 | succ kl ih =>
  intros
  rw [keep_till_1_l0.eq_2,keep_till_1_l0.eq_2]
  repeat' (first | with_reducible exact OLe.none | with_reducible exact OLe.some | with_reducible refine OLe.ite ?_ ?_ | with_reducible refine OLe.bind ?_ (fun _=>?_) | exact OLe.toL | exact hbd _ _ | exact ih | refine OLe.bind ?_ (fun _=>?_) | refine OLe.ite ?_ ?_ | refine OLe.elim (fun _=>?_) (fun _=>?_) | split)
def keep_till_1 {σ ε:Type} (k:Nat) (a_0:(List api_Version)) (a_1:Int) (bd:Int×Bool→σ→Option (σ⊕ε)) (s0:σ):Option (σ⊕ε) :=
 (Option.bind (keep_till_1_l0 a_0 a_1 bd k (0:Int) (.inl s0)) (fun o80o=>Sum.elim (fun r'=>some r') (fun x79=>some x79) o80o))
set_option maxHeartbeats 2000000 in
theorem keep_till_1.mono {σ ε:Type} {k:Nat} {a_0:(List api_Version)} {a_1:Int} {bd bd':Int×Bool→σ→Option (σ⊕ε)} (hbd:∀ x s,OLe (bd x s) (bd' x s)) {s0:σ}:OLe (keep_till_1 k a_0 a_1 bd s0) (keep_till_1 (k+1) a_0 a_1 bd' s0):=by
 unfold keep_till_1
 repeat' (first | with_reducible exact OLe.none | with_reducible exact OLe.some | with_reducible refine OLe.ite ?_ ?_ | with_reducible refine OLe.bind ?_ (fun _=>?_) | with_reducible exact keep_till_1_l0.mono hbd | exact OLe.toL | exact hbd _ _ | refine OLe.bind ?_ (fun _=>?_) | refine OLe.ite ?_ ?_ | refine OLe.elim (fun _=>?_) (fun _=>?_) | split)
set_option maxHeartbeats 2000000 in
set_option maxRecDepth 100000 in
theorem keep_till_1.con {σ ε:Type} (k:Nat) (M:Hp) (A_0:Option Addr) (c_0:Nat) (a_0:(List api_Version)) (a_1:Int) (b_0:Nat) (b_1:Nat) (bd:Int×Bool→σ→Option (σ⊕ε)) (s0:σ) (r:σ⊕ε) (hr_0:SlR r_api_Version M (.slice A_0 a_0.length c_0) a_0) (h:keep_till_1 k a_0 a_1 bd s0=some r):Iter Tryd.prog 144 [pt b_0 0,pt b_1 0] M (fun (M:Hp) (x:Int×Bool) (vs:List Value)=>vs=[.int .i64 x.1,.bool x.2]) bd s0 r [Blk b_0 (.cells #[.slice A_0 a_0.length c_0] 65 (0,0)),Blk b_1 (.cells #[.int .i64 a_1] 3 (0,0))] (fun M' Γ'=>Γ'=[Blk b_0 (.cells #[.slice A_0 a_0.length c_0] 65 (0,0)),Blk b_1 (.cells #[.int .i64 a_1] 3 (0,0))]):=by
 intro lp B hY
 refine con_of_wp Tryd.func144 rfl Tryd.ntmps144 Tryd.results144 rfl ?_
 intro w F rn S hrn
 have E:=Ext.refl w
 have HM:=Hp.le_refl M
 have H:=h
 unfold keep_till_1 at H
 refine Wp_seq (Wp_region_lit (W_v (.slice A_0 a_0.length c_0) (x_load (S.blk 1 rfl) ty65 rfl rfl) rfl (W_v (.int .i64 (a_0.length:Int)) (x_len_slice (n:=a_0.length) Tryd.underlying65 rfl) rfl (W_v (.int .i64 0) (x_move rfl) rfl (Wl_nil (tn ?_))))))
 obtain ⟨o80,o80h,o80H⟩:=bindS H
 refine Wp_blockJ (fun ρ w'=>∃ (x79:σ⊕ε) (Mj:Hp),.inr (x79)=o80∧Agree ρ []∧M.le Mj∧Ext w w'∧St w' Mj F [Blk b_0 (.cells #[.slice A_0 a_0.length c_0] 65 (0,0)),Blk b_1 (.cells #[.int .i64 a_1] 3 (0,0)),B x79]) ?_ ?_
 ·skip
  refine Wp_loop (fun n ρ w'=>∃ (x53:Int) (x54:σ⊕ε) (Mj:Hp),keep_till_1_l0 a_0 a_1 bd n x53 x54=some o80∧Agree ρ [(0,.func (.yield lp) #[] #[]),(2,pt b_1 0),(6,.slice A_0 a_0.length c_0),(7,.int .i64 (a_0.length:Int)),(8,.int .i64 x53)]∧M.le Mj∧Ext w w'∧St w' Mj F [Blk b_0 (.cells #[.slice A_0 a_0.length c_0] 65 (0,0)),Blk b_1 (.cells #[.int .i64 a_1] 3 (0,0)),B x54]) k ?_ ?_
  ·skip
   exact ⟨(0:Int),(.inl s0),M,o80h,⟨rfl,rfl,rfl,rfl,rfl,trivial⟩,(Hp.le_refl M),E,S.pick [1,2,0] (by decide)⟩
  ·intro n
   rintro ρ w81 ⟨x53,x54,M82,H,hρ,hM83,E,S⟩
   rw [agree_eta hρ]
   replace HM:=Hp.le_trans HM hM83
   replace hr_0:=SlR.mono hr_0 hM83
   cases n with
   | zero=>cases H
   | succ k =>
    rw [keep_till_1_l0.eq_2] at H
    refine Wp_seq (Wp_region_lit (W_v (.bool (decide (x53<(a_0.length:Int)))) (x_ibin rfl rfl rfl rfl) rfl (Wl_nil (tn (Wp_seq ?_)))))
    rcases iteS H with ⟨hb84,H⟩ | ⟨hb84,H⟩
    ·refine Wp_cond_true (congrArg Value.bool hb84) ?_
     refine Wp_skip (tn (Wp_seq ?_))
     refine Wp_block ?_
     refine Wp_seq (Wp_region_lit (W_v (.int .i64 x53) (x_move rfl) rfl ?_))
     obtain ⟨⟨p85,p86⟩,H⟩:=chkS H
     obtain ⟨b87,o88,cs89,_,_,ee94,hb90,vs91,hR92,hc93⟩:=SlW.at' hr_0 p85 p86
     obtain rfl:vs91=_:=hR92
     refine W_v (.pointer (some ⟨b87,o88+x53.toNat*4,none⟩)) (x_indexAddr Tryd.underlying65 ty61 (slA ee94) rfl p85 p86) rfl (W_v (.agg #[.int .i64 ((rd a_0 x53).Writer),.int .i64 ((rd a_0 x53).TS),.bool ((rd a_0 x53).Tomb),.string (bs ((rd a_0 x53).Value))]) (x_loadA (S.frz hb90) ty61 rfl (sub_el hc93 0 rfl) rfl rfl) rfl ?_)
     refine W_alloc S #[.int .i64 0,.int .i64 0,.bool false,.string (bs ([]:Str))] ty61 rfl rfl ?_
     intro b95 w96 E' S
     replace E:=E.trans E'
     refine W_v (.int .i64 x53) (x_assign rfl) rfl ?_
     refine W_store S 0 rfl ty61 rfl rfl [.int .i64 ((rd a_0 x53).Writer),.int .i64 ((rd a_0 x53).TS),.bool ((rd a_0 x53).Tomb),.string (bs ((rd a_0 x53).Value))] rfl rfl rfl #[.int .i64 ((rd a_0 x53).Writer),.int .i64 ((rd a_0 x53).TS),.bool ((rd a_0 x53).Tomb),.string (bs ((rd a_0 x53).Value))] rfl rfl ?_
     intro w98 E' S
     replace E:=E.trans E'
     refine Wl_nil (tn (Wp_seq (Wp_region_lit (W_v (.func (.yield lp) #[] #[]) (x_move rfl) rfl (W_v (.int .i64 x53) (x_move rfl) rfl (W_v (pt b95 1) (x_fieldAddr (o:=0) (off:=1) Tryd.underlying61 rfl ty3 rfl rfl) rfl (W_v (.int .i64 ((rd a_0 x53).TS)) (x_load (S.blk 0 rfl) ty3 rfl rfl) rfl (W_v (.int .i64 a_1) (x_load (S.blk 2 rfl) ty3 rfl rfl) rfl (W_v (.bool (decide ((rd a_0 x53).TS≤a_1))) (x_ibin rfl rfl rfl rfl) rfl ?_)))))))))
     obtain ⟨s99,hs100,H⟩:=bindS H
     obtain ⟨t101,ht102,H⟩:=bindS H
     rw [toL_eq hs100] at S
     replace S:St w98 M82 F [_,_,_,_]:=S.pick [3,0,1,2] (by decide)
     refine W_yield rfl (hY _ (x53,(decide ((rd a_0 x53).TS≤a_1))) _ s99 t101 HM (rfl) ht102) S rfl rfl ?_
     rintro _ w103 M104 _ hM105 E' S ⟨rfl,rfl⟩
     replace HM:=Hp.le_trans HM hM105
     replace hM83:=Hp.le_trans hM83 hM105
     replace hr_0:=SlR.mono hr_0 hM105
     replace hb90:=hM105 _ _ hb90
     replace E:=E.trans E'
     refine W_v (.bool (!(isNorm t101))) (x_not (b:=(isNorm t101)) rfl) rfl (W_v (.bool (!(isNorm t101))) (x_move rfl) rfl ?_)
     refine Wl_cutN 5 (fun ρ w'=>Agree ρ [(0,.func (.yield lp) #[] #[]),(2,pt b_1 0),(6,.slice A_0 a_0.length c_0),(7,.int .i64 (a_0.length:Int)),(8,.int .i64 x53),(26,.bool ((!(isNorm t101))||(decide ((rd a_0 x53).TS≤a_1))))]∧w103=w') ?_ ?_
     ·rcases boolCases (!(isNorm t101)) with hb106 | hb106
      ·skip
       refine W_yes (congrArg some hb106) (W_v (pt b95 1) (x_fieldAddr (o:=0) (off:=1) Tryd.underlying61 rfl ty3 rfl rfl) rfl (W_yes (congrArg some hb106) (W_v (.int .i64 ((rd a_0 x53).TS)) (x_load (S.blk 1 rfl) ty3 rfl rfl) rfl (W_yes (congrArg some hb106) (W_v (.int .i64 a_1) (x_load (S.blk 3 rfl) ty3 rfl rfl) rfl (W_yes (congrArg some hb106) (W_v (.bool (decide ((rd a_0 x53).TS≤a_1))) (x_ibin rfl rfl rfl rfl) rfl (W_v (.bool (decide ((rd a_0 x53).TS≤a_1))) (x_pick (k:=false) (congrArg Value.bool hb106) rfl) rfl (Wl_nil ?_)))))))))
       exact ⟨⟨rfl,rfl,rfl,rfl,rfl,(by first | rfl | (rw [hb106];rfl) | (simp only [hb106];rfl)),trivial⟩,rfl⟩
      ·skip
       refine W_no (skF hb106) rfl (W_no (skF hb106) rfl (W_no (skF hb106) rfl (W_no (skF hb106) rfl (W_v (.bool true) (x_pick (k:=true) (congrArg Value.bool hb106) rfl) rfl (Wl_nil ?_)))))
       exact ⟨⟨rfl,rfl,rfl,rfl,rfl,(by first | rfl | (rw [hb106];rfl) | (simp only [hb106];rfl)),trivial⟩,rfl⟩
     rintro ρ _ ⟨hρ,rfl⟩
     rw [agree_eta hρ]
     refine Wl_nil (tn ?_)
     rcases iteS H with ⟨hb107,H⟩ | ⟨hb107,H⟩
     ·refine Wp_cond_true (congrArg Value.bool hb107) ?_
      refine Wp_ret ?_
      refine br (tr (tr (br (tr (?_)))))
      obtain rfl:=Option.some.inj H
      have H:=o80H
      replace H:=elimL H
      obtain rfl:=Option.some.inj H
      exact ⟨_,_,_,fun w1 e1=>run_resR (vs:=[]) FA.nil,HM,E,S.pick [0,2,3] (by decide),⟨_,rfl,rfl⟩⟩
     refine Wp_cond_false (congrArg Value.bool hb107) (Wp_skip (bn (tn (Wp_region_lit (W_v (.int .i64 (IntKind.i64.wrap (x53+(1:Int)))) (x_ibin rfl rfl rfl rfl) rfl (W_v (.int .i64 (IntKind.i64.wrap (x53+(1:Int)))) (x_move rfl) rfl (Wl_nil (tn ?_))))))))
     exact ⟨k,Nat.lt_succ_self k,⟨(IntKind.i64.wrap (x53+(1:Int))),t101,M104,H,⟨rfl,rfl,rfl,rfl,rfl,trivial⟩,hM83,E,S.pick [2,3,0] (by decide)⟩⟩
    refine Wp_cond_false (congrArg Value.bool hb84) ?_
    refine Wp_exit ?_
    refine tx (tx (bsm (?_)))
    refine tn ?_
    exact ⟨x54,M82,Option.some.inj H,trivial,hM83,E,S.pick [0,1,2] (by decide)⟩
 rintro ρ w108 ⟨x79,M109,rfl,hρ,hM110,E,S⟩
 rw [agree_eta hρ]
 replace HM:=Hp.le_trans HM hM110
 replace hr_0:=SlR.mono hr_0 hM110
 have H:=o80H
 replace H:=elimR H
 obtain rfl:=Option.some.inj H
 exact ⟨_,_,_,fun w1 e1=>run_resR (vs:=[]) FA.nil,HM,E,S.pick [2,0,1] (by decide),⟨_,rfl,rfl⟩⟩
def keep_Seen_b0 (a0:(List api_Version)) (k:Nat):(Int×Bool)→Unit→Option ((Unit)⊕(api_Version))
 | (y170,y171),_=>(Option.bind (α:=Bool) (if y171=true then (if 0≤y170∧y170<(a0.length:Int) then some ((!((rd a0 y170).Tomb))) else none) else some (false)) (fun x195=>(if x195=true then (if 0≤y170∧y170<(a0.length:Int) then some (.inr (rd a0 y170)) else none) else some (.inl ()))))
set_option maxHeartbeats 2000000 in
theorem keep_Seen_b0.mono {a0:(List api_Version)} {k:Nat}:∀ x s,OLe (keep_Seen_b0 a0 k x s) (keep_Seen_b0 a0 (k+1) x s):=by
 intro x s
 unfold keep_Seen_b0
 repeat' (first | with_reducible exact OLe.none | with_reducible exact OLe.some | with_reducible refine OLe.ite ?_ ?_ | with_reducible refine OLe.bind ?_ (fun _=>?_) | refine OLe.bind ?_ (fun _=>?_) | refine OLe.ite ?_ ?_ | refine OLe.elim (fun _=>?_) (fun _=>?_) | split)
def keep_Seen (k:Nat) (a0:(List api_Version)) (a1:Int):Option (api_Version×Bool) :=
 (Option.bind (keep_till_v k a0 a1) (fun t10=>(Option.bind (keep_till_1 k a0 a1 (keep_Seen_b0 a0 k) ()) (fun o167o=>Sum.elim (fun _=>some ((⟨(0:Int),(0:Int),false,([]:Str)⟩:api_Version),false)) (fun x166=>some (x166,true)) o167o))))
set_option maxHeartbeats 2000000 in
theorem keep_Seen.mono {k:Nat} {a0:(List api_Version)} {a1:Int}:OLe (keep_Seen k a0 a1) (keep_Seen (k+1) a0 a1):=by
 unfold keep_Seen
 repeat' (first | with_reducible exact OLe.none | with_reducible exact OLe.some | with_reducible refine OLe.ite ?_ ?_ | with_reducible refine OLe.bind ?_ (fun _=>?_) | with_reducible exact keep_Seen_b0.mono | exact keep_till_1.mono (fun _ _=>by first | exact keep_Seen_b0.mono _ _) | with_reducible exact keep_till_v.mono | refine OLe.bind ?_ (fun _=>?_) | refine OLe.ite ?_ ?_ | refine OLe.elim (fun _=>?_) (fun _=>?_) | split)
set_option maxHeartbeats 1000000 in
set_option maxRecDepth 100000 in
theorem keep_Seen.con (k:Nat) (M:Hp) (A0:Option Addr) (c0:Nat) (a0:(List api_Version)) (a1:Int) (r:api_Version×Bool) (hr0:SlR r_api_Version M (.slice A0 a0.length c0) a0) (h:keep_Seen k a0 a1=some r):Con Tryd.prog 140 #[.slice A0 a0.length c0,.int .i64 a1] M [] (fun v M' Γ'=>v=.tuple #[.agg #[.int .i64 r.1.Writer,.int .i64 r.1.TS,.bool r.1.Tomb,.string (bs r.1.Value)],.bool r.2]∧Γ'=[]):=by
 refine con_of_wp Tryd.func140 rfl Tryd.ntmps140 Tryd.results140 rfl ?_
 intro w F rn S hrn
 have E:=Ext.refl w
 have HM:=Hp.le_refl M
 have H:=h
 unfold keep_Seen at H
 refine Wp_seq (Wp_region_lit ?_)
 refine W_box S #[.slice A0 a0.length c0] rfl rfl rfl ?_
 intro b1 w2 E' S
 replace E:=E.trans E'
 refine W_alloc S #[.int .i64 0,.int .i64 0,.bool false,.string (bs ([]:Str))] ty61 rfl rfl ?_
 intro b4 w5 E' S
 replace E:=E.trans E'
 refine W_alloc S #[.bool false] ty4 rfl rfl ?_
 intro b7 w8 E' S
 replace E:=E.trans E'
 refine Wl_nil (tn (Wp_seq (Wp_seq (Wp_region_lit (W_v (.slice A0 a0.length c0) (x_load (S.blk 2 rfl) ty65 rfl rfl) rfl (W_v (.int .i64 a1) (x_move rfl) rfl ?_))))))
 obtain ⟨t10,ht11,H⟩:=bindS H
 refine W_callF2 fn143 (keep_till_v.con k M A0 c0 a0 a1 t10 hr0 ht11) (Γ1:=[]) (Γ2:=[_,_,_]) S rfl rfl (by rintro _ _ _ ⟨_,_,rfl,rfl⟩;exact (flat_cons flat_blk (flat_cons flat_blk flat_nil))) ?_
 rintro _ w16 _ Γ' E' S ⟨b12,b14,rfl,rfl⟩
 replace E:=E.trans E'
 replace S:St w16 M F [_,_,_,_,_]:=S
 refine Wl_nil (tn ?_)
 refine Wp_block ?_
 obtain ⟨o167,o167h,o167H⟩:=bindS H
 refine Wp_rangeFunc (σ:=Unit) (ε:=api_Version) (Γi:=[Blk b12 (.cells #[.slice A0 a0.length c0] 65 (0,0)),Blk b14 (.cells #[.int .i64 a1] 3 (0,0))]) (Γr:=[]) (Sum.elim (fun _=>AE (ι:=Unit) (fun (i:Unit)=>[Blk b7 (.cells #[.bool false] 4 (0,0)),Blk b4 (.cells #[.int .i64 0,.int .i64 0,.bool false,.string (bs ([]:Str))] 61 (0,0)),Blk b1 (.cells #[.slice A0 a0.length c0] 65 (0,0))]) (fun _ _=>True) (fun _ _ _ _ _=>trivial)) (fun x166=>AE (ι:=Unit) (fun (i:Unit)=>[Blk b7 (.cells #[.bool true] 4 (0,0)),B61 b4 x166]) (fun _ _=>True) (fun _ _ _ _ _=>trivial))) (fun _=>Code.ret) fn144 rfl (St.close_ex (φ:=(fun _ _=>True)) (hφ:=(fun _ _ _ _ _=>trivial)) () trivial (S.pick [2,3,4,0,1] (by decide))) (by rintro _ _ _ rfl;rfl) (by decide) (keep_till_1.con k M A0 c0 a0 a1 b12 b14 (keep_Seen_b0 a0 k) () o167 hr0 o167h) ?_ ?_
 ·intro nn lp M168 F yy vs ss tt w hM169 henc hbd S
  obtain ⟨y170,y171⟩:=yy
  obtain rfl:=henc
  replace HM:=Hp.le_trans HM hM169
  replace hr0:=SlR.mono hr0 hM169
  replace S:St w M168 F (AE (ι:=Unit) (fun (i:Unit)=>[Blk b7 (.cells #[.bool false] 4 (0,0)),Blk b4 (.cells #[.int .i64 0,.int .i64 0,.bool false,.string (bs ([]:Str))] 61 (0,0)),Blk b1 (.cells #[.slice A0 a0.length c0] 65 (0,0))]) (fun _ _=>True) (fun _ _ _ _ _=>trivial)::[]):=S
  obtain ⟨_,_,S⟩:=S.open_ex
  replace S:St w M168 F [_,_,_]:=S
  have E:=Ext.refl w
  have LE172:=Hp.le_refl M168
  have H:=hbd
  rw [keep_Seen_b0.eq_1] at H
  refine Wp_seq (Wp_region_lit (W_v (.int .i64 y170) (x_assign rfl) rfl (Wl_nil (tn (Wp_region_lit (W_v (.bool y171) (x_assign rfl) rfl (Wl_nil ?_)))))))
  refine on_n ⟨_,_,LE172,E,S,?_⟩
  intro w F E3 S
  have E:=Ext.refl w
  have LE173:=Hp.le_refl M168
  refine Wp_block ?_
  refine Wp_seq (Wp_region_lit (W_v (.bool y171) (x_move rfl) rfl (W_v (.bool y171) (x_move rfl) rfl ?_)))
  obtain ⟨o196,o196h,o196H⟩:=bindS H
  refine Wl_cutN 7 (fun ρ w'=>∃ (x195:Bool),(x195)=o196∧Agree ρ [(2,pt b1 0),(4,pt b4 0),(5,pt b7 0),(6,.int .i64 y170),(21,.bool x195)]∧Ext w w'∧St w' M168 F [Blk b7 (.cells #[.bool false] 4 (0,0)),Blk b4 (.cells #[.int .i64 0,.int .i64 0,.bool false,.string (bs ([]:Str))] 61 (0,0)),Blk b1 (.cells #[.slice A0 a0.length c0] 65 (0,0))]) ?_ ?_
  ·have H:=o196h
   rcases iteS H with ⟨hb194,H⟩ | ⟨hb194,H⟩
   ·skip
    refine W_yes (congrArg some hb194) (W_v (.slice A0 a0.length c0) (x_load (S.blk 2 rfl) ty65 rfl rfl) rfl (W_yes (congrArg some hb194) (W_v (.int .i64 y170) (x_move rfl) rfl (W_yes (congrArg some hb194) ?_))))
    obtain ⟨⟨p197,p198⟩,H⟩:=chkS H
    obtain ⟨b199,o200,cs201,_,_,ee206,hb202,vs203,hR204,hc205⟩:=SlW.at' hr0 p197 p198
    obtain rfl:vs203=_:=hR204
    refine W_v (.pointer (some ⟨b199,o200+y170.toNat*4,none⟩)) (x_indexAddr Tryd.underlying65 ty61 (slA ee206) rfl p197 p198) rfl (W_yes (congrArg some hb194) (W_v (.pointer (some ⟨b199,o200+y170.toNat*4+2,none⟩)) (x_fieldAddr (o:=o200+y170.toNat*4) (off:=2) Tryd.underlying61 rfl ty4 rfl rfl) rfl (W_yes (congrArg some hb194) (W_v (.bool ((rd a0 y170).Tomb)) (x_load (S.frz hb202) ty4 rfl (hc205 2 _ rfl)) rfl (W_yes (congrArg some hb194) (W_v (.bool (!((rd a0 y170).Tomb))) (x_not (b:=((rd a0 y170).Tomb)) rfl) rfl (W_v (.bool (!((rd a0 y170).Tomb))) (x_pick (k:=true) (congrArg Value.bool hb194) rfl) rfl (Wl_nil ?_))))))))
    exact ⟨(!((rd a0 y170).Tomb)),Option.some.inj H,⟨rfl,rfl,rfl,rfl,rfl,trivial⟩,E,S.pick [0,1,2] (by decide)⟩
   ·skip
    refine W_no (skT hb194) rfl (W_no (skT hb194) rfl (W_no (skT hb194) rfl (W_no (skT hb194) rfl (W_no (skT hb194) rfl (W_no (skT hb194) rfl (W_v (.bool false) (x_pick (k:=false) (congrArg Value.bool hb194) rfl) rfl (Wl_nil ?_)))))))
    exact ⟨false,Option.some.inj H,⟨rfl,rfl,rfl,rfl,rfl,trivial⟩,E,S.pick [0,1,2] (by decide)⟩
  rintro ρ w207 ⟨x195,rfl,hρ,E,S⟩
  rw [agree_eta hρ]
  have H:=o196H
  refine Wl_nil (tn ?_)
  rcases iteS H with ⟨hb208,H⟩ | ⟨hb208,H⟩
  ·refine Wp_cond_true (congrArg Value.bool hb208) ?_
   refine Wp_seq (Wp_region_lit (W_v (.slice A0 a0.length c0) (x_load (S.blk 2 rfl) ty65 rfl rfl) rfl (W_v (.int .i64 y170) (x_move rfl) rfl ?_)))
   obtain ⟨⟨p209,p210⟩,H⟩:=chkS H
   obtain ⟨b211,o212,cs213,_,_,ee218,hb214,vs215,hR216,hc217⟩:=SlW.at' hr0 p209 p210
   obtain rfl:vs215=_:=hR216
   refine W_v (.pointer (some ⟨b211,o212+y170.toNat*4,none⟩)) (x_indexAddr Tryd.underlying65 ty61 (slA ee218) rfl p209 p210) rfl (W_v (.agg #[.int .i64 ((rd a0 y170).Writer),.int .i64 ((rd a0 y170).TS),.bool ((rd a0 y170).Tomb),.string (bs ((rd a0 y170).Value))]) (x_loadA (S.frz hb214) ty61 rfl (sub_el hc217 0 rfl) rfl rfl) rfl ?_)
   refine W_store S 1 rfl ty61 rfl rfl [.int .i64 ((rd a0 y170).Writer),.int .i64 ((rd a0 y170).TS),.bool ((rd a0 y170).Tomb),.string (bs ((rd a0 y170).Value))] rfl rfl rfl #[.int .i64 ((rd a0 y170).Writer),.int .i64 ((rd a0 y170).TS),.bool ((rd a0 y170).Tomb),.string (bs ((rd a0 y170).Value))] rfl rfl ?_
   intro w219 E' S
   replace E:=E.trans E'
   refine W_store S 0 rfl ty4 rfl rfl [.bool true] rfl rfl rfl #[.bool true] rfl rfl ?_
   intro w220 E' S
   replace E:=E.trans E'
   refine Wl_nil (tn ?_)
   refine Wp_ret ?_
   refine br (?_)
   obtain rfl:=Option.some.inj H
   exact endB_mk rfl LE173 E (St.close_ex (φ:=(fun _ _=>True)) (hφ:=(fun _ _ _ _ _=>trivial)) () trivial (S.pick [0,1] (by decide)))
  refine Wp_cond_false (congrArg Value.bool hb208) (Wp_skip (bn ?_))
  obtain rfl:=Option.some.inj H
  exact endB_mk trivial LE173 E (St.close_ex (φ:=(fun _ _=>True)) (hφ:=(fun _ _ _ _ _=>trivial)) () trivial (S.pick [0,1,2] (by decide)))
 intro w221 M222 Γ' hM223 E' hΨ S
 obtain rfl:Γ'=_:=hΨ
 replace E:=E.trans E'
 replace HM:=Hp.le_trans HM hM223
 replace hr0:=SlR.mono hr0 hM223
 have H:=o167H
 rcases o167 with _ | x166
 ·replace H:=elimL H
  refine afterR_l ?_
  replace S:St w221 M222 F (AE (ι:=Unit) (fun (i:Unit)=>[Blk b7 (.cells #[.bool false] 4 (0,0)),Blk b4 (.cells #[.int .i64 0,.int .i64 0,.bool false,.string (bs ([]:Str))] 61 (0,0)),Blk b1 (.cells #[.slice A0 a0.length c0] 65 (0,0))]) (fun _ _=>True) (fun _ _ _ _ _=>trivial)::[Blk b12 (.cells #[.slice A0 a0.length c0] 65 (0,0)),Blk b14 (.cells #[.int .i64 a1] 3 (0,0))]):=S
  obtain ⟨_,_,S⟩:=S.open_ex
  replace S:St w221 M222 F [_,_,_,_,_]:=S
  refine bn (tn (Wp_seq (Wp_region_lit (W_v (.agg #[.int .i64 0,.int .i64 0,.bool false,.string (bs ([]:Str))]) (x_build2 (pl:=[(0,1),(1,1),(2,1),(3,1)]) #[.int .i64 0,.int .i64 0,.bool false,.string (bs ([]:Str))] Tryd.underlying61 ty61 (by as_aux_lemma=>kernel_rfl) rfl (by as_aux_lemma=>kernel_rfl)) rfl ?_))))
  refine W_store S 1 rfl ty61 rfl rfl [.int .i64 0,.int .i64 0,.bool false,.string (bs ([]:Str))] rfl rfl rfl #[.int .i64 0,.int .i64 0,.bool false,.string (bs ([]:Str))] rfl rfl ?_
  intro w224 E' S
  replace E:=E.trans E'
  refine W_store S 0 rfl ty4 rfl rfl [.bool false] rfl rfl rfl #[.bool false] rfl rfl ?_
  intro w225 E' S
  replace E:=E.trans E'
  refine Wl_nil (tn ?_)
  refine Wp_ret ?_
  obtain rfl:=Option.some.inj H
  exact ⟨_,_,_,fun w1 e1=>run_resR (vs:=[.agg #[.int .i64 0,.int .i64 0,.bool false,.string (bs ([]:Str))],.bool false]) (FA.cons (⟨_,rfl,run_loadVar_agg ty61 ((S.of_eq e1).blk 1 rfl) (sub_of_extract rfl) rfl (by decide)⟩) (FA.cons (⟨_,rfl,run_loadVar_one ty4 ((S.of_eq e1).blk 0 rfl) rfl⟩) (FA.nil))),HM,E,S.pick [] (by decide),⟨rfl,rfl⟩⟩
 ·replace H:=elimR H
  refine afterR_r ?_
  replace S:St w221 M222 F (AE (ι:=Unit) (fun (i:Unit)=>[Blk b7 (.cells #[.bool true] 4 (0,0)),B61 b4 x166]) (fun _ _=>True) (fun _ _ _ _ _=>trivial)::[Blk b12 (.cells #[.slice A0 a0.length c0] 65 (0,0)),Blk b14 (.cells #[.int .i64 a1] 3 (0,0))]):=S
  obtain ⟨_,_,S⟩:=S.open_ex
  replace S:St w221 M222 F [_,_,_,_]:=S
  refine Wp_ret ?_
  refine br (tr (?_))
  obtain rfl:=Option.some.inj H
  exact ⟨_,_,_,fun w1 e1=>run_resR (vs:=[.agg #[.int .i64 x166.Writer,.int .i64 x166.TS,.bool x166.Tomb,.string (bs x166.Value)],.bool true]) (FA.cons (⟨_,rfl,run_loadVar_agg ty61 ((S.of_eq e1).blk 1 rfl) (sub_of_extract rfl) rfl (by decide)⟩) (FA.cons (⟨_,rfl,run_loadVar_one ty4 ((S.of_eq e1).blk 0 rfl) rfl⟩) (FA.nil))),HM,E,S.pick [] (by decide),⟨rfl,rfl⟩⟩
def keep_Clash (k:Nat) (a0:(List api_Version)) (a1:Int):Option (Bool) :=
 (Option.bind (α:=Bool) (if (decide ((a0.length:Int)>(0:Int)))=true then (if 0≤(0:Int)∧(0:Int)<(a0.length:Int) then some ((decide ((rd a0 (0:Int)).TS>a1))) else none) else some (false)) (fun x22=>some x22))
set_option maxHeartbeats 2000000 in
theorem keep_Clash.mono {k:Nat} {a0:(List api_Version)} {a1:Int}:OLe (keep_Clash k a0 a1) (keep_Clash (k+1) a0 a1):=by
 unfold keep_Clash
 repeat' (first | with_reducible exact OLe.none | with_reducible exact OLe.some | with_reducible refine OLe.ite ?_ ?_ | with_reducible refine OLe.bind ?_ (fun _=>?_) | refine OLe.bind ?_ (fun _=>?_) | refine OLe.ite ?_ ?_ | refine OLe.elim (fun _=>?_) (fun _=>?_) | split)
set_option maxHeartbeats 1000000 in
set_option maxRecDepth 100000 in
theorem keep_Clash.con (k:Nat) (M:Hp) (A0:Option Addr) (c0:Nat) (a0:(List api_Version)) (a1:Int) (r:Bool) (hr0:SlR r_api_Version M (.slice A0 a0.length c0) a0) (h:keep_Clash k a0 a1=some r):Con Tryd.prog 141 #[.slice A0 a0.length c0,.int .i64 a1] M [] (fun v M' Γ'=>v=.bool r∧Γ'=[]):=by
 refine con_of_wp Tryd.func141 rfl Tryd.ntmps141 Tryd.results141 rfl ?_
 intro w F rn S hrn
 have E:=Ext.refl w
 have HM:=Hp.le_refl M
 have H:=h
 unfold keep_Clash at H
 refine Wp_seq (Wp_region_lit (W_v (.bool false) (x_assign rfl) rfl (Wl_nil (tn (Wp_seq (Wp_region_lit (W_v (.slice A0 a0.length c0) (x_move rfl) rfl (W_v (.int .i64 (a0.length:Int)) (x_len_slice (n:=a0.length) Tryd.underlying65 rfl) rfl (W_v (.bool (decide ((a0.length:Int)>(0:Int)))) (x_ibin rfl rfl rfl rfl) rfl (W_v (.bool (decide ((a0.length:Int)>(0:Int)))) (x_move rfl) rfl ?_))))))))))
 obtain ⟨o23,o23h,o23H⟩:=bindS H
 refine Wl_cutN 7 (fun ρ w'=>∃ (x22:Bool),(x22)=o23∧Agree ρ [(15,.bool x22)]∧Ext w w'∧St w' M F []) ?_ ?_
 ·have H:=o23h
  rcases iteS H with ⟨hb21,H⟩ | ⟨hb21,H⟩
  ·skip
   refine W_yes (congrArg some hb21) (W_v (.slice A0 a0.length c0) (x_move rfl) rfl (W_yes (congrArg some hb21) ?_))
   obtain ⟨⟨p24,p25⟩,H⟩:=chkS H
   obtain ⟨b26,o27,cs28,_,_,ee33,hb29,vs30,hR31,hc32⟩:=SlW.at' hr0 p24 p25
   obtain rfl:vs30=_:=hR31
   refine W_v (.pointer (some ⟨b26,o27+(0:Int).toNat*4,none⟩)) (x_indexAddr Tryd.underlying65 ty61 (slA ee33) rfl p24 p25) rfl (W_yes (congrArg some hb21) (W_v (.pointer (some ⟨b26,o27+(0:Int).toNat*4+1,none⟩)) (x_fieldAddr (o:=o27+(0:Int).toNat*4) (off:=1) Tryd.underlying61 rfl ty3 rfl rfl) rfl (W_yes (congrArg some hb21) (W_v (.int .i64 ((rd a0 (0:Int)).TS)) (x_load (S.frz hb29) ty3 rfl (hc32 1 _ rfl)) rfl (W_yes (congrArg some hb21) (W_v (.int .i64 a1) (x_move rfl) rfl (W_yes (congrArg some hb21) (W_v (.bool (decide ((rd a0 (0:Int)).TS>a1))) (x_ibin rfl rfl rfl rfl) rfl (W_v (.bool (decide ((rd a0 (0:Int)).TS>a1))) (x_pick (k:=true) (congrArg Value.bool hb21) rfl) rfl (Wl_nil ?_))))))))))
   exact ⟨(decide ((rd a0 (0:Int)).TS>a1)),Option.some.inj H,⟨rfl,trivial⟩,E,S.pick [] (by decide)⟩
  ·skip
   refine W_no (skT hb21) rfl (W_no (skT hb21) rfl (W_no (skT hb21) rfl (W_no (skT hb21) rfl (W_no (skT hb21) rfl (W_no (skT hb21) rfl (W_v (.bool false) (x_pick (k:=false) (congrArg Value.bool hb21) rfl) rfl (Wl_nil ?_)))))))
   exact ⟨false,Option.some.inj H,⟨rfl,trivial⟩,E,S.pick [] (by decide)⟩
 rintro ρ w34 ⟨x22,rfl,hρ,E,S⟩
 rw [agree_eta hρ]
 have H:=o23H
 refine W_v (.bool x22) (x_assign rfl) rfl (Wl_nil (tn ?_))
 refine Wp_ret ?_
 obtain rfl:=Option.some.inj H
 exact ⟨_,_,_,fun w1 e1=>run_resR (vs:=[.bool x22]) (FA.cons (rfl) (FA.nil)),HM,E,S.pick [] (by decide),⟨rfl,rfl⟩⟩
def text_Within (k:Nat) (a0:Str) (a1:Str) (a2:Str):Option (Bool) :=
 some ((sbin .leq a1 a0)&&((sbin .eql a2 ([]:Str))||(sbin .lss a0 a2)))
set_option maxHeartbeats 2000000 in
theorem text_Within.mono {k:Nat} {a0:Str} {a1:Str} {a2:Str}:OLe (text_Within k a0 a1 a2) (text_Within (k+1) a0 a1 a2):=by
 unfold text_Within
 repeat' (first | with_reducible exact OLe.none | with_reducible exact OLe.some | with_reducible refine OLe.ite ?_ ?_ | with_reducible refine OLe.bind ?_ (fun _=>?_) | refine OLe.bind ?_ (fun _=>?_) | refine OLe.ite ?_ ?_ | refine OLe.elim (fun _=>?_) (fun _=>?_) | split)
set_option maxHeartbeats 1000000 in
set_option maxRecDepth 100000 in
theorem text_Within.con (k:Nat) (M:Hp) (a0:Str) (a1:Str) (a2:Str) (r:Bool)  (h:text_Within k a0 a1 a2=some r):Con Tryd.prog 135 #[.string (bs a0),.string (bs a1),.string (bs a2)] M [] (fun v M' Γ'=>v=.bool r∧Γ'=[]):=by
 refine con_of_wp Tryd.func135 rfl Tryd.ntmps135 Tryd.results135 rfl ?_
 intro w F rn S hrn
 have E:=Ext.refl w
 have HM:=Hp.le_refl M
 have H:=h
 unfold text_Within at H
 refine Wp_seq (Wp_region_lit (W_v (.bool false) (x_assign rfl) rfl (Wl_nil (tn (Wp_seq (Wp_region_lit (W_v (.string (bs a1)) (x_move rfl) rfl (W_v (.string (bs a0)) (x_move rfl) rfl (W_v (.bool (sbin .leq a1 a0)) (x_sbin rfl rfl rfl) rfl (W_v (.bool (sbin .leq a1 a0)) (x_move rfl) rfl ?_))))))))))
 refine Wl_cutN 8 (fun ρ w'=>Agree ρ [(18,.bool ((sbin .leq a1 a0)&&((sbin .eql a2 ([]:Str))||(sbin .lss a0 a2))))]∧w=w') ?_ ?_
 ·as_aux_lemma =>
   rcases boolCases (sbin .leq a1 a0) with hb3 | hb3
   ·skip
    refine W_no (skT hb3) rfl (W_no (skT hb3) rfl (W_no (skT hb3) rfl (W_no (rfl) rfl (W_no (rfl) rfl (W_no (rfl) rfl (W_no (skT hb3) rfl (W_v (.bool false) (x_pick (k:=false) (congrArg Value.bool hb3) rfl) rfl (Wl_nil ?_))))))))
    exact ⟨⟨(by first | rfl | (rw [hb3];rfl) | (simp only [hb3];rfl)),trivial⟩,rfl⟩
   ·skip
    refine W_yes (congrArg some hb3) (W_v (.string (bs a2)) (x_move rfl) rfl (W_yes (congrArg some hb3) (W_v (.bool (sbin .eql a2 ([]:Str))) (x_sbin rfl rfl rfl) rfl (W_yes (congrArg some hb3) (W_v (.bool (sbin .eql a2 ([]:Str))) (x_move rfl) rfl ?_)))))
    refine Wl_cutN 4 (fun ρ w'=>Agree ρ [(10,.bool (sbin .leq a1 a0)),(17,.bool ((sbin .eql a2 ([]:Str))||(sbin .lss a0 a2)))]∧w=w') ?_ ?_
    ·rcases boolCases (sbin .eql a2 ([]:Str)) with hb4 | hb4
     ·skip
      refine W_yes (congrArg some hb4) (W_v (.string (bs a0)) (x_move rfl) rfl (W_yes (congrArg some hb4) (W_v (.string (bs a2)) (x_move rfl) rfl (W_yes (congrArg some hb4) (W_v (.bool (sbin .lss a0 a2)) (x_sbin rfl rfl rfl) rfl (W_yes (congrArg some hb3) (W_v (.bool (sbin .lss a0 a2)) (x_pick (k:=false) (congrArg Value.bool hb4) rfl) rfl (Wl_nil ?_))))))))
      exact ⟨⟨rfl,(by first | rfl | (rw [hb4];rfl) | (simp only [hb4];rfl)),trivial⟩,rfl⟩
     ·skip
      refine W_no (skF hb4) rfl (W_no (skF hb4) rfl (W_no (skF hb4) rfl (W_yes (congrArg some hb3) (W_v (.bool true) (x_pick (k:=true) (congrArg Value.bool hb4) rfl) rfl (Wl_nil ?_)))))
      exact ⟨⟨rfl,(by first | rfl | (rw [hb4];rfl) | (simp only [hb4];rfl)),trivial⟩,rfl⟩
    rintro ρ _ ⟨hρ,rfl⟩
    rw [agree_eta hρ]
    refine W_v (.bool ((sbin .eql a2 ([]:Str))||(sbin .lss a0 a2))) (x_pick (k:=true) (congrArg Value.bool hb3) rfl) rfl (Wl_nil ?_)
    exact ⟨⟨(by first | rfl | (rw [hb3];rfl) | (simp only [hb3];rfl)),trivial⟩,rfl⟩
 rintro ρ _ ⟨hρ,rfl⟩
 rw [agree_eta hρ]
 refine W_v (.bool ((sbin .leq a1 a0)&&((sbin .eql a2 ([]:Str))||(sbin .lss a0 a2)))) (x_assign rfl) rfl (Wl_nil (tn ?_))
 refine Wp_ret ?_
 obtain rfl:=Option.some.inj H
 exact ⟨_,_,_,fun w1 e1=>run_resR (vs:=[.bool ((sbin .leq a1 a0)&&((sbin .eql a2 ([]:Str))||(sbin .lss a0 a2)))]) (FA.cons (rfl) (FA.nil)),HM,E,S.pick [] (by decide),⟨rfl,rfl⟩⟩
def keep_Kept_b0 (a0:(List api_Version)) (k:Nat):(Int×Bool)→Int→Option ((Int)⊕(Unit))
 | (y164,y165),x113=>(Option.bind (α:=Int) (if (!y165)=true then some (x113) else (if 0≤y164∧y164<(a0.length:Int) then (Option.bind (α:=Int) (if (!((rd a0 y164).Tomb))=true then some ((IntKind.i64.wrap (y164+(1:Int)))) else some (y164)) (fun x207=>some (x207))) else none)) (fun x189=>some (.inl x189)))
set_option maxHeartbeats 2000000 in
theorem keep_Kept_b0.mono {a0:(List api_Version)} {k:Nat}:∀ x s,OLe (keep_Kept_b0 a0 k x s) (keep_Kept_b0 a0 (k+1) x s):=by
 intro x s
 unfold keep_Kept_b0
 repeat' (first | with_reducible exact OLe.none | with_reducible exact OLe.some | with_reducible refine OLe.ite ?_ ?_ | with_reducible refine OLe.bind ?_ (fun _=>?_) | refine OLe.bind ?_ (fun _=>?_) | refine OLe.ite ?_ ?_ | refine OLe.elim (fun _=>?_) (fun _=>?_) | split)
def keep_Kept (k:Nat) (a0:(List api_Version)) (a1:Int):Option ((List api_Version)) :=
 (Option.bind (keep_till_v k a0 a1) (fun t8=>(Option.bind (keep_till_1 k a0 a1 (keep_Kept_b0 a0 k) (a0.length:Int)) (fun o161o=>Sum.elim (fun x113=>(if 0≤x113∧x113≤(a0.length:Int) then (Option.bind (slices_Clone_api_Version_api_Version k (List.take x113.toNat a0)) (fun t220=>some t220)) else none)) (fun _=>none) o161o))))
set_option maxHeartbeats 2000000 in
theorem keep_Kept.mono {k:Nat} {a0:(List api_Version)} {a1:Int}:OLe (keep_Kept k a0 a1) (keep_Kept (k+1) a0 a1):=by
 unfold keep_Kept
 repeat' (first | with_reducible exact OLe.none | with_reducible exact OLe.some | with_reducible refine OLe.ite ?_ ?_ | with_reducible refine OLe.bind ?_ (fun _=>?_) | with_reducible exact keep_Kept_b0.mono | exact keep_till_1.mono (fun _ _=>by first | exact keep_Kept_b0.mono _ _) | with_reducible exact keep_till_v.mono | with_reducible exact slices_Clone_api_Version_api_Version.mono | refine OLe.bind ?_ (fun _=>?_) | refine OLe.ite ?_ ?_ | refine OLe.elim (fun _=>?_) (fun _=>?_) | split)
set_option maxHeartbeats 1000000 in
set_option maxRecDepth 100000 in
theorem keep_Kept.con (k:Nat) (M:Hp) (A0:Option Addr) (c0:Nat) (a0:(List api_Version)) (a1:Int) (r:(List api_Version)) (hr0:SlR r_api_Version M (.slice A0 a0.length c0) a0) (h:keep_Kept k a0 a1=some r):Con Tryd.prog 139 #[.slice A0 a0.length c0,.int .i64 a1] M [] (fun v M' Γ'=>∃ (A0:Option Addr) (c0:Nat),v=.slice A0 r.length c0∧Γ'=[Row r_api_Version 61 (.slice A0 r.length c0) r]):=by
 refine con_of_wp Tryd.func139 rfl Tryd.ntmps139 Tryd.results139 rfl ?_
 intro w F rn S hrn
 have E:=Ext.refl w
 have HM:=Hp.le_refl M
 have H:=h
 unfold keep_Kept at H
 refine Wp_seq (Wp_region_lit ?_)
 refine W_box S #[.slice A0 a0.length c0] rfl rfl rfl ?_
 intro b1 w2 E' S
 replace E:=E.trans E'
 refine W_v (.slice none 0 0) (x_assign rfl) rfl (Wl_nil (tn (Wp_seq (Wp_region_lit (W_v (.slice A0 a0.length c0) (x_load (S.blk 0 rfl) ty65 rfl rfl) rfl (W_v (.int .i64 (a0.length:Int)) (x_len_slice (n:=a0.length) Tryd.underlying65 rfl) rfl ?_))))))
 refine W_alloc S #[.int .i64 0] ty3 rfl rfl ?_
 intro b4 w5 E' S
 replace E:=E.trans E'
 refine W_store S 0 rfl ty3 rfl rfl [.int .i64 (a0.length:Int)] rfl rfl rfl #[.int .i64 (a0.length:Int)] rfl rfl ?_
 intro w7 E' S
 replace E:=E.trans E'
 refine Wl_nil (tn (Wp_seq (Wp_seq (Wp_region_lit (W_v (.slice A0 a0.length c0) (x_load (S.blk 1 rfl) ty65 rfl rfl) rfl (W_v (.int .i64 a1) (x_move rfl) rfl ?_))))))
 obtain ⟨t8,ht9,H⟩:=bindS H
 refine W_callF2 fn143 (keep_till_v.con k M A0 c0 a0 a1 t8 hr0 ht9) (Γ1:=[]) (Γ2:=[_,_]) S rfl rfl (by rintro _ _ _ ⟨_,_,rfl,rfl⟩;exact (flat_cons flat_blk (flat_cons flat_blk flat_nil))) ?_
 rintro _ w14 _ Γ' E' S ⟨b10,b12,rfl,rfl⟩
 replace E:=E.trans E'
 replace S:St w14 M F [_,_,_,_]:=S
 refine Wl_nil (tn ?_)
 refine Wp_block ?_
 obtain ⟨o161,o161h,o161H⟩:=bindS H
 refine Wp_rangeFunc (σ:=Int) (ε:=Unit) (Γi:=[Blk b10 (.cells #[.slice A0 a0.length c0] 65 (0,0)),Blk b12 (.cells #[.int .i64 a1] 3 (0,0))]) (Γr:=[]) (Sum.elim (fun x113=>AE (ι:=Unit) (fun (i:Unit)=>[Blk b4 (.cells #[.int .i64 x113] 3 (0,0)),Blk b1 (.cells #[.slice A0 a0.length c0] 65 (0,0))]) (fun _ _=>True) (fun _ _ _ _ _=>trivial)) (fun _=>Star [])) (fun _=>Code.ret) fn144 rfl (St.close_ex (φ:=(fun _ _=>True)) (hφ:=(fun _ _ _ _ _=>trivial)) () trivial (S.pick [2,3,0,1] (by decide))) (by rintro _ _ _ rfl;rfl) (by decide) (keep_till_1.con k M A0 c0 a0 a1 b10 b12 (keep_Kept_b0 a0 k) (a0.length:Int) o161 hr0 o161h) ?_ ?_
 ·intro nn lp M162 F yy vs x113 tt w hM163 henc hbd S
  obtain ⟨y164,y165⟩:=yy
  obtain rfl:=henc
  replace HM:=Hp.le_trans HM hM163
  replace hr0:=SlR.mono hr0 hM163
  replace S:St w M162 F (AE (ι:=Unit) (fun (i:Unit)=>[Blk b4 (.cells #[.int .i64 x113] 3 (0,0)),Blk b1 (.cells #[.slice A0 a0.length c0] 65 (0,0))]) (fun _ _=>True) (fun _ _ _ _ _=>trivial)::[]):=S
  obtain ⟨_,_,S⟩:=S.open_ex
  replace S:St w M162 F [_,_]:=S
  have E:=Ext.refl w
  have LE166:=Hp.le_refl M162
  have H:=hbd
  rw [keep_Kept_b0.eq_1] at H
  refine Wp_seq (Wp_region_lit (W_v (.int .i64 y164) (x_assign rfl) rfl (Wl_nil (tn (Wp_region_lit (W_v (.bool y165) (x_assign rfl) rfl (Wl_nil ?_)))))))
  refine on_n ⟨_,_,LE166,E,S,?_⟩
  intro w F E3 S
  have E:=Ext.refl w
  have LE167:=Hp.le_refl M162
  obtain ⟨o190,o190h,o190H⟩:=bindS H
  refine Wp_cut (fun ρ w'=>∃ (x189:Int),(x189)=o190∧Agree ρ [(2,pt b1 0),(4,.slice none 0 0),(5,pt b4 0)]∧Ext w w'∧St w' M162 F [Blk b4 (.cells #[.int .i64 x189] 3 (0,0)),Blk b1 (.cells #[.slice A0 a0.length c0] 65 (0,0))]) ?_ ?_
  ·as_aux_lemma =>
    clear o190H
    have H:=o190h
    refine Wp_block ?_
    refine Wp_seq (Wp_seq (Wp_region_lit (W_v (.bool y165) (x_move rfl) rfl (W_v (.bool (!y165)) (x_not (b:=y165) rfl) rfl (Wl_nil (tn ?_))))))
    rcases iteS H with ⟨hb191,H⟩ | ⟨hb191,H⟩
    ·refine Wp_cond_true (congrArg Value.bool hb191) ?_
     refine Wp_exit ?_
     refine tx (bsm (?_))
     refine tn ?_
     exact ⟨x113,Option.some.inj H,⟨rfl,rfl,rfl,trivial⟩,E,S.pick [0,1] (by decide)⟩
    refine Wp_cond_false (congrArg Value.bool hb191) (Wp_skip (tn (Wp_seq (Wp_region_lit (W_v (.int .i64 y164) (x_move rfl) rfl ?_)))))
    refine W_store S 0 rfl ty3 rfl rfl [.int .i64 y164] rfl rfl rfl #[.int .i64 y164] rfl rfl ?_
    intro w192 E' S
    replace E:=E.trans E'
    refine Wl_nil (tn (Wp_seq (Wp_region_lit (W_v (.slice A0 a0.length c0) (x_load (S.blk 1 rfl) ty65 rfl rfl) rfl (W_v (.int .i64 y164) (x_move rfl) rfl ?_)))))
    obtain ⟨⟨p193,p194⟩,H⟩:=chkS H
    obtain ⟨b195,o196,cs197,_,_,ee202,hb198,vs199,hR200,hc201⟩:=SlW.at' hr0 p193 p194
    obtain rfl:vs199=_:=hR200
    refine W_v (.pointer (some ⟨b195,o196+y164.toNat*4,none⟩)) (x_indexAddr Tryd.underlying65 ty61 (slA ee202) rfl p193 p194) rfl (W_v (.pointer (some ⟨b195,o196+y164.toNat*4+2,none⟩)) (x_fieldAddr (o:=o196+y164.toNat*4) (off:=2) Tryd.underlying61 rfl ty4 rfl rfl) rfl (W_v (.bool ((rd a0 y164).Tomb)) (x_load (S.frz hb198) ty4 rfl (hc201 2 _ rfl)) rfl (W_v (.bool (!((rd a0 y164).Tomb))) (x_not (b:=((rd a0 y164).Tomb)) rfl) rfl (Wl_nil (tn ?_)))))
    obtain ⟨o208,o208h,o208H⟩:=bindS H
    refine Wp_cut (fun ρ w'=>∃ (x207:Int),(x207)=o208∧Agree ρ [(2,pt b1 0),(4,.slice none 0 0),(5,pt b4 0)]∧Ext w w'∧St w' M162 F [Blk b4 (.cells #[.int .i64 x207] 3 (0,0)),Blk b1 (.cells #[.slice A0 a0.length c0] 65 (0,0))]) ?_ ?_
    ·clear o208H
     have H:=o208h
     rcases iteS H with ⟨hb209,H⟩ | ⟨hb209,H⟩
     ·refine Wp_cond_true (congrArg Value.bool hb209) ?_
      refine Wp_region_lit (W_v (.int .i64 y164) (x_move rfl) rfl (W_v (.int .i64 (IntKind.i64.wrap (y164+(1:Int)))) (x_ibin rfl rfl rfl rfl) rfl ?_))
      refine W_store S 0 rfl ty3 rfl rfl [.int .i64 (IntKind.i64.wrap (y164+(1:Int)))] rfl rfl rfl #[.int .i64 (IntKind.i64.wrap (y164+(1:Int)))] rfl rfl ?_
      intro w210 E' S
      replace E:=E.trans E'
      refine Wl_nil (tn ?_)
      exact ⟨(IntKind.i64.wrap (y164+(1:Int))),Option.some.inj H,⟨rfl,rfl,rfl,trivial⟩,E,S.pick [0,1] (by decide)⟩
     refine Wp_cond_false (congrArg Value.bool hb209) (Wp_skip (tn ?_))
     exact ⟨y164,Option.some.inj H,⟨rfl,rfl,rfl,trivial⟩,E,S.pick [0,1] (by decide)⟩
    rintro ρ w211 ⟨x207,rfl,hρ,E,S⟩
    rw [agree_eta hρ]
    have H:=o208H
    refine bn (tn ?_)
    exact ⟨x207,Option.some.inj H,⟨rfl,rfl,rfl,trivial⟩,E,S.pick [0,1] (by decide)⟩
  rintro ρ w212 ⟨x189,rfl,hρ,E,S⟩
  rw [agree_eta hρ]
  have H:=o190H
  obtain rfl:=Option.some.inj H
  exact endB_mk trivial LE167 E (St.close_ex (φ:=(fun _ _=>True)) (hφ:=(fun _ _ _ _ _=>trivial)) () trivial (S.pick [0,1] (by decide)))
 intro w213 M214 Γ' hM215 E' hΨ S
 obtain rfl:Γ'=_:=hΨ
 replace E:=E.trans E'
 replace HM:=Hp.le_trans HM hM215
 replace hr0:=SlR.mono hr0 hM215
 have H:=o161H
 rcases o161 with x113 | _
 ·replace H:=elimL H
  refine afterR_l ?_
  replace S:St w213 M214 F (AE (ι:=Unit) (fun (i:Unit)=>[Blk b4 (.cells #[.int .i64 x113] 3 (0,0)),Blk b1 (.cells #[.slice A0 a0.length c0] 65 (0,0))]) (fun _ _=>True) (fun _ _ _ _ _=>trivial)::[Blk b10 (.cells #[.slice A0 a0.length c0] 65 (0,0)),Blk b12 (.cells #[.int .i64 a1] 3 (0,0))]):=S
  obtain ⟨_,_,S⟩:=S.open_ex
  replace S:St w213 M214 F [_,_,_,_]:=S
  refine bn (tn (Wp_seq (Wp_region_lit (W_v (.slice A0 a0.length c0) (x_load (S.blk 1 rfl) ty65 rfl rfl) rfl (W_v (.int .i64 x113) (x_load (S.blk 0 rfl) ty3 rfl rfl) rfl (W_v (.int .i64 x113) (x_load (S.blk 0 rfl) ty3 rfl rfl) rfl ?_))))))
  obtain ⟨⟨p216,p217⟩,H⟩:=chkS H
  obtain ⟨hs218,hx219⟩:=sl_hm hr0 p216 (Int.le_refl _) p217
  refine W_v (.slice A0 (List.take x113.toNat a0).length x113.toNat) (hx219 Tryd.underlying65 ty61 rfl rfl rfl) rfl ?_
  obtain ⟨t220,ht221,H⟩:=bindS H
  refine W_callF fn45 (slices_Clone_api_Version_api_Version.con k M214 A0 x113.toNat (List.take x113.toNat a0) t220 hs218 ht221) S rfl rfl (by rintro _ _ _ ⟨_,_,_,rfl⟩;exact (flat_cons (flat_row (fun _ _ _ _ h=>h)) flat_nil)) ?_
  rintro _ w225 _ Γ' E' S ⟨A222,c223,rfl,rfl⟩
  replace E:=E.trans E'
  refine W_v (.slice A222 t220.length c223) (x_assign rfl) rfl (Wl_nil (tn ?_))
  refine Wp_ret ?_
  obtain rfl:=Option.some.inj H
  exact ⟨_,_,_,fun w1 e1=>run_resR (vs:=[.slice A222 t220.length c223]) (FA.cons (rfl) (FA.nil)),HM,E,S.pick [0] (by decide),⟨A222,c223,rfl,rfl⟩⟩
 ·cases H
def model_New_v (k:Nat) (a0:api_Config):Option ((Unit)⊕(model_Model)) :=
 (Option.bind (text_May k a0) (fun t4=>(if (!t4)=true then some (Sum.inl ()) else some (Sum.inr (⟨⟨a0.Tasks,a0.Active,a0.Keys,a0.Depth,a0.TS,a0.KeyLen,a0.ValLen,a0.Fan⟩,([]:List (model_name×Int)),([]:List (Int×Int)),([]:List model_tx),([]:List (Str×model_row)),(0:Int),(0:Int)⟩:model_Model)))))
set_option maxHeartbeats 2000000 in
theorem model_New_v.mono {k:Nat} {a0:api_Config}:OLe (model_New_v k a0) (model_New_v (k+1) a0):=by
 unfold model_New_v
 repeat' (first | with_reducible exact OLe.none | with_reducible exact OLe.some | with_reducible refine OLe.ite ?_ ?_ | with_reducible refine OLe.bind ?_ (fun _=>?_) | with_reducible exact text_May.mono | refine OLe.bind ?_ (fun _=>?_) | refine OLe.ite ?_ ?_ | refine OLe.elim (fun _=>?_) (fun _=>?_) | split)
set_option maxHeartbeats 4000000 in
set_option maxRecDepth 100000 in
theorem model_New_v.con (k:Nat) (M:Hp) (a0:api_Config) (r:(Unit)⊕(model_Model))  (h:model_New_v k a0=some r):Con Tryd.prog 13 #[.agg #[.int .i64 a0.Tasks,.int .i64 a0.Active,.int .i64 a0.Keys,.int .i64 a0.Depth,.int .i64 a0.TS,.int .i64 a0.KeyLen,.int .i64 a0.ValLen,.int .i64 a0.Fan]] M [] (fun v M' Γ'=>(Sum.elim (fun x=>v=.tuple #[.pointer none,.int .i64 1]∧Γ'=[]) (fun x=>∃ (bq1:Nat) (Aq3:Option Addr) (cq4:Nat) (Aq6:Option Addr) (cq7:Nat) (Aq9:Option Addr) (cq10:Nat) (Aq12:Option Addr) (cq13:Nat) (vsq15:List (Str×Value)),v=.tuple #[pt bq1 0,.int .i64 0]∧MRel r_model_row M' x.rows vsq15∧Γ'=[B94 bq1 x Aq3 Aq6 Aq9 cq10 Aq12,MapC enc_model_name (Value.int .i64) Aq3 x.names,MapC (Value.int .i64) (Value.int .i64) Aq6 x.many,Row r_model_tx 99 (.slice Aq9 x.txs.length cq10) x.txs,MapC encS (fun v:Value=>v) Aq12 vsq15])) r):=by
 refine con_of_wp Tryd.func13 rfl Tryd.ntmps13 Tryd.results13 rfl ?_
 intro w F rn S hrn
 have E:=Ext.refl w
 have HM:=Hp.le_refl M
 have H:=h
 unfold model_New_v at H
 refine Wp_seq (Wp_region_lit ?_)
 refine W_box S #[.int .i64 a0.Tasks,.int .i64 a0.Active,.int .i64 a0.Keys,.int .i64 a0.Depth,.int .i64 a0.TS,.int .i64 a0.KeyLen,.int .i64 a0.ValLen,.int .i64 a0.Fan] rfl rfl rfl ?_
 intro b1 w2 E' S
 replace E:=E.trans E'
 refine W_v (.pointer none) (x_assign rfl) rfl (W_v (.int .i64 0) (x_assign rfl) rfl (Wl_nil (tn (Wp_seq (Wp_seq (Wp_region_lit (W_v (.agg #[.int .i64 a0.Tasks,.int .i64 a0.Active,.int .i64 a0.Keys,.int .i64 a0.Depth,.int .i64 a0.TS,.int .i64 a0.KeyLen,.int .i64 a0.ValLen,.int .i64 a0.Fan]) (x_loadA (S.blk 0 rfl) ty23 rfl (sub_of_extract rfl) rfl rfl) rfl ?_)))))))
 obtain ⟨t4,ht5,H⟩:=bindS H
 refine W_callF fn41 (text_May.con k M a0 t4  ht5) S rfl rfl (by rintro _ _ _ ⟨_,rfl⟩;exact flat_nil) ?_
 rintro _ w6 _ Γ' E' S ⟨rfl,rfl⟩
 replace E:=E.trans E'
 refine W_v (.bool (!t4)) (x_not (b:=t4) rfl) rfl (Wl_nil (tn ?_))
 rcases iteS H with ⟨hb7,H⟩ | ⟨hb7,H⟩
 ·refine Wp_cond_true (congrArg Value.bool hb7) ?_
  refine Wp_seq (Wp_region_lit (W_v (.pointer none) (x_assign rfl) rfl (W_v (.int .i64 1) (x_assign rfl) rfl (Wl_nil (tn ?_)))))
  refine Wp_ret ?_
  refine tr (?_)
  obtain rfl:=Option.some.inj H
  exact ⟨_,_,_,fun w1 e1=>run_resR (vs:=[.pointer none,.int .i64 1]) (FA.cons (rfl) (FA.cons (rfl) (FA.nil))),HM,E,S.pick [] (by decide),⟨rfl,rfl⟩⟩
 refine Wp_cond_false (congrArg Value.bool hb7) (Wp_skip (tn (Wp_seq (Wp_region_lit (W_v (.agg #[.int .i64 a0.Tasks,.int .i64 a0.Active,.int .i64 a0.Keys,.int .i64 a0.Depth,.int .i64 a0.TS,.int .i64 a0.KeyLen,.int .i64 a0.ValLen,.int .i64 a0.Fan]) (x_loadA (S.blk 0 rfl) ty23 rfl (sub_of_extract rfl) rfl rfl) rfl ?_)))))
 refine W_makeMap (κ:=model_name) (ν:=Int) enc_model_name (Value.int .i64) S rfl ?_
 intro b8 w9 E' S
 replace E:=E.trans E'
 replace S:St w9 M F [_,_]:=S
 refine W_makeMap (κ:=Int) (ν:=Int) (Value.int .i64) (Value.int .i64) S rfl ?_
 intro b11 w12 E' S
 replace E:=E.trans E'
 replace S:St w12 M F [_,_,_]:=S
 refine W_makeMap (κ:=Str) (ν:=Value) encS (fun v:Value=>v) S rfl ?_
 intro b14 w15 E' S
 replace E:=E.trans E'
 have hm17:MRel r_model_row M ([]:List (Str×model_row)) ([]:List (Str×Value)):=MRel.nil
 replace S:St w15 M F [_,_,_,_]:=S
 refine W_v (.agg #[.int .i64 a0.Tasks,.int .i64 a0.Active,.int .i64 a0.Keys,.int .i64 a0.Depth,.int .i64 a0.TS,.int .i64 a0.KeyLen,.int .i64 a0.ValLen,.int .i64 a0.Fan,.map (mb (some ⟨b8,0,none⟩)),.map (mb (some ⟨b11,0,none⟩)),.slice none 0 0,.map (mb (some ⟨b14,0,none⟩)),.int .i64 0,.int .i64 0]) (x_build2 (pl:=[(0,8),(8,1),(9,1),(10,1),(11,1),(12,1),(13,1)]) #[.int .i64 a0.Tasks,.int .i64 a0.Active,.int .i64 a0.Keys,.int .i64 a0.Depth,.int .i64 a0.TS,.int .i64 a0.KeyLen,.int .i64 a0.ValLen,.int .i64 a0.Fan,.map (mb (some ⟨b8,0,none⟩)),.map (mb (some ⟨b11,0,none⟩)),.slice none 0 0,.map (mb (some ⟨b14,0,none⟩)),.int .i64 0,.int .i64 0] Tryd.underlying94 ty94 (by as_aux_lemma=>kernel_rfl) rfl (by as_aux_lemma=>kernel_rfl)) rfl ?_
 refine W_box S #[.int .i64 a0.Tasks,.int .i64 a0.Active,.int .i64 a0.Keys,.int .i64 a0.Depth,.int .i64 a0.TS,.int .i64 a0.KeyLen,.int .i64 a0.ValLen,.int .i64 a0.Fan,.map (mb (some ⟨b8,0,none⟩)),.map (mb (some ⟨b11,0,none⟩)),.slice none 0 0,.map (mb (some ⟨b14,0,none⟩)),.int .i64 0,.int .i64 0] rfl rfl rfl ?_
 intro b18 w19 E' S
 replace E:=E.trans E'
 refine W_v (pt b18 0) (x_assign rfl) rfl (W_v (.int .i64 0) (x_assign rfl) rfl (Wl_nil (tn ?_)))
 refine Wp_ret ?_
 obtain rfl:=Option.some.inj H
 replace S:=S.row_nil r_model_tx 99
 exact ⟨_,_,_,fun w1 e1=>run_resR (vs:=[pt b18 0,.int .i64 0]) (FA.cons (rfl) (FA.cons (rfl) (FA.nil))),HM,E,S.pick [1,4,3,0,2] (by decide),⟨b18,(some ⟨b8,0,none⟩),0,(some ⟨b11,0,none⟩),0,none,0,(some ⟨b14,0,none⟩),0,([]:List (Str×Value)),rfl,hm17,rfl⟩⟩
def model_Model_Tx_POOOO (k:Nat) (a0:model_Model) (a1:Int) (a2:Int):Option (Int×Int×Int) :=
 (if (!((mget a0.names (⟨a1,a2⟩:model_name)).isSome))=true then some ((0:Int),(0:Int),(0:Int)) else (if 0≤(IntKind.i64.wrap (((mget a0.names (⟨a1,a2⟩:model_name)).getD (0:Int))-(1:Int)))∧(IntKind.i64.wrap (((mget a0.names (⟨a1,a2⟩:model_name)).getD (0:Int))-(1:Int)))<(a0.txs.length:Int) then some (((mget a0.names (⟨a1,a2⟩:model_name)).getD (0:Int)),(rd a0.txs (IntKind.i64.wrap (((mget a0.names (⟨a1,a2⟩:model_name)).getD (0:Int))-(1:Int)))).state,(rd a0.txs (IntKind.i64.wrap (((mget a0.names (⟨a1,a2⟩:model_name)).getD (0:Int))-(1:Int)))).snapshot) else none))
set_option maxHeartbeats 2000000 in
theorem model_Model_Tx_POOOO.mono {k:Nat} {a0:model_Model} {a1:Int} {a2:Int}:OLe (model_Model_Tx_POOOO k a0 a1 a2) (model_Model_Tx_POOOO (k+1) a0 a1 a2):=by
 unfold model_Model_Tx_POOOO
 repeat' (first | with_reducible exact OLe.none | with_reducible exact OLe.some | with_reducible refine OLe.ite ?_ ?_ | with_reducible refine OLe.bind ?_ (fun _=>?_) | refine OLe.bind ?_ (fun _=>?_) | refine OLe.ite ?_ ?_ | refine OLe.elim (fun _=>?_) (fun _=>?_) | split)
set_option maxHeartbeats 4000000 in
set_option maxRecDepth 100000 in
theorem model_Model_Tx_POOOO.con (k:Nat) (M:Hp) (A0_8:Option Addr) (c0_8:Nat) (A0_9:Option Addr) (c0_9:Nat) (A0_10:Option Addr) (c0_10:Nat) (A0_11:Option Addr) (c0_11:Nat) (vs0_11:List (Str×Value)) (a0:model_Model) (a1:Int) (a2:Int) (bo0:Nat) (r:Int×Int×Int) (hm0_11:MRel r_model_row M a0.rows vs0_11) (h:model_Model_Tx_POOOO k a0 a1 a2=some r):Con Tryd.prog 23 #[pt bo0 0,.int .i64 a1,.int .i64 a2] M [B94 bo0 a0 A0_8 A0_9 A0_10 c0_10 A0_11,MapC enc_model_name (Value.int .i64) A0_8 a0.names,MapC (Value.int .i64) (Value.int .i64) A0_9 a0.many,Row r_model_tx 99 (.slice A0_10 a0.txs.length c0_10) a0.txs,MapC encS (fun v:Value=>v) A0_11 vs0_11] (fun v M' Γ'=>v=.tuple #[.int .i64 r.1,.int .u8 r.2.1,.int .i64 r.2.2]∧Γ'=[B94 bo0 a0 A0_8 A0_9 A0_10 c0_10 A0_11,MapC enc_model_name (Value.int .i64) A0_8 a0.names,MapC (Value.int .i64) (Value.int .i64) A0_9 a0.many,Row r_model_tx 99 (.slice A0_10 a0.txs.length c0_10) a0.txs,MapC encS (fun v:Value=>v) A0_11 vs0_11]):=by
 refine con_of_wp Tryd.func23 rfl Tryd.ntmps23 Tryd.results23 rfl ?_
 intro w F rn S hrn
 have E:=Ext.refl w
 have HM:=Hp.le_refl M
 have H:=h
 unfold model_Model_Tx_POOOO at H
 refine Wp_seq (Wp_region_lit (W_v (.int .i64 0) (x_assign rfl) rfl (W_v (.int .u8 0) (x_assign rfl) rfl (W_v (.int .i64 0) (x_assign rfl) rfl (Wl_nil (tn (Wp_seq (Wp_seq (Wp_region_lit (W_v (pt bo0 0) (x_move rfl) rfl (W_v (.bool false) (x_eq_of (r:=false) rfl rfl (run_eq_ptrsn Tryd.underlying27)) rfl (Wl_nil (tn (Wp_cond_false rfl (Wp_skip ?_)))))))))))))))
 refine tn (Wp_seq (Wp_region_lit (W_v (pt bo0 0) (x_move rfl) rfl (W_v (pt bo0 0) (x_nilptr rfl) rfl (W_v (pt bo0 8) (x_fieldAddr (o:=0) (off:=8) Tryd.underlying94 rfl ty89 rfl rfl) rfl (W_v (.map (mb A0_8)) (x_load (S.blk 0 rfl) ty89 rfl rfl) rfl (W_v (.int .i64 a1) (x_move rfl) rfl (W_v (.int .i64 a2) (x_move rfl) rfl (W_v (.agg #[.int .i64 a1,.int .i64 a2]) (x_build2 (pl:=[(0,1),(1,1)]) #[.int .i64 a1,.int .i64 a2] Tryd.underlying104 ty104 (by as_aux_lemma=>kernel_rfl) rfl (by as_aux_lemma=>kernel_rfl)) rfl (W_v (.tuple #[.int .i64 ((mget a0.names (⟨a1,a2⟩:model_name)).getD (0:Int)),.bool ((mget a0.names (⟨a1,a2⟩:model_name)).isSome)]) (x_lookupOk S 1 rfl Tryd.underlying89 key104 (0:Int) (fun _=>ty3.zero) (⟨a1,a2⟩:model_name) rfl rfl) rfl (W_v (.tuple #[.int .i64 ((mget a0.names (⟨a1,a2⟩:model_name)).getD (0:Int)),.bool ((mget a0.names (⟨a1,a2⟩:model_name)).isSome)]) (x_move rfl) rfl (W_v (.int .i64 ((mget a0.names (⟨a1,a2⟩:model_name)).getD (0:Int))) (x_extract rfl rfl) rfl (W_v (.bool ((mget a0.names (⟨a1,a2⟩:model_name)).isSome)) (x_extract rfl rfl) rfl (W_v (.int .i64 ((mget a0.names (⟨a1,a2⟩:model_name)).getD (0:Int))) (x_assign rfl) rfl (W_v (.bool ((mget a0.names (⟨a1,a2⟩:model_name)).isSome)) (x_assign rfl) rfl ?_)))))))))))))))
 refine Wl_nil (tn (Wp_seq (Wp_seq (Wp_region_lit (W_v (.bool ((mget a0.names (⟨a1,a2⟩:model_name)).isSome)) (x_move rfl) rfl (W_v (.bool (!((mget a0.names (⟨a1,a2⟩:model_name)).isSome))) (x_not (b:=((mget a0.names (⟨a1,a2⟩:model_name)).isSome)) rfl) rfl (Wl_nil (tn ?_))))))))
 rcases iteS H with ⟨hb1,H⟩ | ⟨hb1,H⟩
 ·refine Wp_cond_true (congrArg Value.bool hb1) ?_
  refine Wp_seq (Wp_region_lit (W_v (.int .i64 0) (x_assign rfl) rfl (W_v (.int .u8 0) (x_assign rfl) rfl (W_v (.int .i64 0) (x_assign rfl) rfl (Wl_nil (tn ?_))))))
  refine Wp_ret ?_
  refine tr (?_)
  obtain rfl:=Option.some.inj H
  exact ⟨_,_,_,fun w1 e1=>run_resR (vs:=[.int .i64 0,.int .u8 0,.int .i64 0]) (FA.cons (rfl) (FA.cons (rfl) (FA.cons (rfl) (FA.nil)))),HM,E,S.pick [0,1,2,3,4] (by decide),⟨rfl,rfl⟩⟩
 refine Wp_cond_false (congrArg Value.bool hb1) (Wp_skip (tn ?_))
 as_aux_lemma =>
 refine Wp_seq (Wp_region_lit (W_v (pt bo0 0) (x_move rfl) rfl (W_v (pt bo0 0) (x_nilptr rfl) rfl (W_v (pt bo0 10) (x_fieldAddr (o:=0) (off:=10) Tryd.underlying94 rfl ty92 rfl rfl) rfl (W_v (.slice A0_10 a0.txs.length c0_10) (x_load (S.blk 0 rfl) ty92 rfl rfl) rfl (W_v (.int .i64 ((mget a0.names (⟨a1,a2⟩:model_name)).getD (0:Int))) (x_move rfl) rfl (W_v (.int .i64 (IntKind.i64.wrap (((mget a0.names (⟨a1,a2⟩:model_name)).getD (0:Int))-(1:Int)))) (x_ibin rfl rfl rfl rfl) rfl ?_)))))))
 obtain ⟨⟨p2,p3⟩,H⟩:=chkS H
 obtain ⟨b4,o5,cs6,_,_,ee11,hb7,vs8,hR9,hc10⟩:=SlW.at' (S.row_read 3 rfl) p2 p3
 obtain rfl:vs8=_:=hR9
 refine W_v (.pointer (some ⟨b4,o5+(IntKind.i64.wrap (((mget a0.names (⟨a1,a2⟩:model_name)).getD (0:Int))-(1:Int))).toNat*2,none⟩)) (x_indexAddr Tryd.underlying92 ty99 (slA ee11) rfl p2 p3) rfl (W_v (.agg #[.int .u8 ((rd a0.txs (IntKind.i64.wrap (((mget a0.names (⟨a1,a2⟩:model_name)).getD (0:Int))-(1:Int)))).state),.int .i64 ((rd a0.txs (IntKind.i64.wrap (((mget a0.names (⟨a1,a2⟩:model_name)).getD (0:Int))-(1:Int)))).snapshot)]) (x_loadA (Hp.of_get hb7) ty99 rfl (sub_el hc10 0 rfl) rfl rfl) rfl ?_)
 refine W_alloc S #[.int .u8 0,.int .i64 0] ty99 rfl rfl ?_
 intro b12 w13 E' S
 replace E:=E.trans E'
 refine W_store S 0 rfl ty99 rfl rfl [.int .u8 ((rd a0.txs (IntKind.i64.wrap (((mget a0.names (⟨a1,a2⟩:model_name)).getD (0:Int))-(1:Int)))).state),.int .i64 ((rd a0.txs (IntKind.i64.wrap (((mget a0.names (⟨a1,a2⟩:model_name)).getD (0:Int))-(1:Int)))).snapshot)] rfl rfl rfl #[.int .u8 ((rd a0.txs (IntKind.i64.wrap (((mget a0.names (⟨a1,a2⟩:model_name)).getD (0:Int))-(1:Int)))).state),.int .i64 ((rd a0.txs (IntKind.i64.wrap (((mget a0.names (⟨a1,a2⟩:model_name)).getD (0:Int))-(1:Int)))).snapshot)] rfl rfl ?_
 intro w15 E' S
 replace E:=E.trans E'
 refine Wl_nil (tn (Wp_seq ?_))
 refine Wp_region_any (S:=fun w'=>∃ Mx,M.le Mx∧St w' Mx F [Blk b12 (.cells #[.int .u8 ((rd a0.txs (IntKind.i64.wrap (((mget a0.names (⟨a1,a2⟩:model_name)).getD (0:Int))-(1:Int)))).state),.int .i64 ((rd a0.txs (IntKind.i64.wrap (((mget a0.names (⟨a1,a2⟩:model_name)).getD (0:Int))-(1:Int)))).snapshot)] 99 (0,0)),B94 bo0 a0 A0_8 A0_9 A0_10 c0_10 A0_11,MapC enc_model_name (Value.int .i64) A0_8 a0.names,MapC (Value.int .i64) (Value.int .i64) A0_9 a0.many,Row r_model_tx 99 (.slice A0_10 a0.txs.length c0_10) a0.txs,MapC encS (fun v:Value=>v) A0_11 vs0_11]) (L:=8) mixed ?_
 intro w16 hw17 E'
 replace S:=S.heap hw17
 replace E:=E.trans E'
 have D1:∃ Mx,Hp.le M Mx∧St _ Mx F [_,_,_,_,_,_]:=⟨_,Hp.le_refl _,S.pick [0,1,2,3,4,5] (by decide)⟩
 refine Wa_take (i:=0) rfl (by kernel_rfl) rfl rfl (.int .i64 ((mget a0.names (⟨a1,a2⟩:model_name)).getD (0:Int))) rfl (fun w' h'=>x_move rfl) D1 (Wa_take (i:=1) rfl (by kernel_rfl) rfl rfl (pt b12 0) rfl (fun w' h'=>x_fieldAddr (o:=0) (off:=0) Tryd.underlying99 rfl ty5 rfl rfl) D1 (Wa_take (i:=2) rfl (by kernel_rfl) rfl rfl (.int .u8 ((rd a0.txs (IntKind.i64.wrap (((mget a0.names (⟨a1,a2⟩:model_name)).getD (0:Int))-(1:Int)))).state)) rfl (fun w' h'=>x_load (cls_blk h' 0 rfl) ty5 rfl rfl) D1 (Wa_take (i:=3) rfl (by kernel_rfl) rfl rfl (pt b12 1) rfl (fun w' h'=>x_fieldAddr (o:=0) (off:=1) Tryd.underlying99 rfl ty3 rfl rfl) D1 (Wa_take (i:=4) rfl (by kernel_rfl) rfl rfl (.int .i64 ((rd a0.txs (IntKind.i64.wrap (((mget a0.names (⟨a1,a2⟩:model_name)).getD (0:Int))-(1:Int)))).snapshot)) rfl (fun w' h'=>x_load (cls_blk h' 0 rfl) ty3 rfl rfl) D1 (Wa_take (i:=5) rfl (by kernel_rfl) rfl rfl (.int .i64 ((mget a0.names (⟨a1,a2⟩:model_name)).getD (0:Int))) rfl (fun w' h'=>x_assign rfl) D1 (Wa_take (i:=6) rfl (by kernel_rfl) rfl rfl (.int .u8 ((rd a0.txs (IntKind.i64.wrap (((mget a0.names (⟨a1,a2⟩:model_name)).getD (0:Int))-(1:Int)))).state)) rfl (fun w' h'=>x_assign rfl) D1 (Wa_take (i:=7) rfl (by kernel_rfl) rfl rfl (.int .i64 ((rd a0.txs (IntKind.i64.wrap (((mget a0.names (⟨a1,a2⟩:model_name)).getD (0:Int))-(1:Int)))).snapshot)) rfl (fun w' h'=>x_assign rfl) D1 ?_)))))))
 refine Wa_done (by kernel_rfl) ?_
 refine tn ?_
 refine Wp_ret ?_
 obtain rfl:=Option.some.inj H
 exact ⟨_,_,_,fun w1 e1=>run_resR (vs:=[.int .i64 ((mget a0.names (⟨a1,a2⟩:model_name)).getD (0:Int)),.int .u8 ((rd a0.txs (IntKind.i64.wrap (((mget a0.names (⟨a1,a2⟩:model_name)).getD (0:Int))-(1:Int)))).state),.int .i64 ((rd a0.txs (IntKind.i64.wrap (((mget a0.names (⟨a1,a2⟩:model_name)).getD (0:Int))-(1:Int)))).snapshot)]) (FA.cons (rfl) (FA.cons (rfl) (FA.cons (rfl) (FA.nil)))),HM,E,S.pick [1,2,3,4,5] (by decide),⟨rfl,rfl⟩⟩
def model_Model_fits_POOOO (k:Nat) (a0:model_Model) (a1:api_Call):Option (Bool) :=
 (Option.bind (α:=Bool) (if (a1.Kind==(2:Int))=true then some ((a1.Kind==(2:Int))) else some ((a1.Kind==(4:Int)))) (fun x6=>(if x6=true then (Option.bind (text_Key k a0.c a1.Key) (fun t16=>some t16)) else (if (a1.Kind==(3:Int))=true then (Option.bind (text_Key k a0.c a1.Key) (fun t35=>(Option.bind (α:=Bool) (if t35=true then (Option.bind (text_Value k a0.c a1.Value) (fun t44=>some (t44))) else some (false)) (fun x42=>some x42)))) else (if (a1.Kind==(5:Int))=true then (Option.bind (text_Bound k a0.c a1.Key) (fun t66=>(Option.bind (α:=Bool) (if t66=true then (Option.bind (text_Bound k a0.c a1.End) (fun t75=>some (t75))) else some (false)) (fun x73=>some ((x73&&(decide (a1.Limit≥(0:Int))))&&(decide (a1.Limit≤(128:Int)))))))) else some true)))))
set_option maxHeartbeats 2000000 in
theorem model_Model_fits_POOOO.mono {k:Nat} {a0:model_Model} {a1:api_Call}:OLe (model_Model_fits_POOOO k a0 a1) (model_Model_fits_POOOO (k+1) a0 a1):=by
 unfold model_Model_fits_POOOO
 repeat' (first | with_reducible exact OLe.none | with_reducible exact OLe.some | with_reducible refine OLe.ite ?_ ?_ | with_reducible refine OLe.bind ?_ (fun _=>?_) | with_reducible exact text_Bound.mono | with_reducible exact text_Key.mono | with_reducible exact text_Value.mono | refine OLe.bind ?_ (fun _=>?_) | refine OLe.ite ?_ ?_ | refine OLe.elim (fun _=>?_) (fun _=>?_) | split)
set_option maxHeartbeats 4000000 in
set_option maxRecDepth 100000 in
theorem model_Model_fits_POOOO.con (k:Nat) (M:Hp) (A0_8:Option Addr) (c0_8:Nat) (A0_9:Option Addr) (c0_9:Nat) (A0_10:Option Addr) (c0_10:Nat) (A0_11:Option Addr) (c0_11:Nat) (vs0_11:List (Str×Value)) (a0:model_Model) (a1:api_Call) (bo0:Nat) (r:Bool) (hm0_11:MRel r_model_row M a0.rows vs0_11) (h:model_Model_fits_POOOO k a0 a1=some r):Con Tryd.prog 44 #[pt bo0 0,.agg #[.int .u8 a1.Kind,.int .i64 a1.Tx,.string (bs a1.Key),.string (bs a1.End),.string (bs a1.Value),.int .i64 a1.Limit,.int .u8 a1.Engine]] M [B94 bo0 a0 A0_8 A0_9 A0_10 c0_10 A0_11,MapC enc_model_name (Value.int .i64) A0_8 a0.names,MapC (Value.int .i64) (Value.int .i64) A0_9 a0.many,Row r_model_tx 99 (.slice A0_10 a0.txs.length c0_10) a0.txs,MapC encS (fun v:Value=>v) A0_11 vs0_11] (fun v M' Γ'=>v=.bool r∧Γ'=[B94 bo0 a0 A0_8 A0_9 A0_10 c0_10 A0_11,MapC enc_model_name (Value.int .i64) A0_8 a0.names,MapC (Value.int .i64) (Value.int .i64) A0_9 a0.many,Row r_model_tx 99 (.slice A0_10 a0.txs.length c0_10) a0.txs,MapC encS (fun v:Value=>v) A0_11 vs0_11]):=by
 refine con_of_wp Tryd.func44 rfl Tryd.ntmps44 Tryd.results44 rfl ?_
 intro w F rn S hrn
 have E:=Ext.refl w
 have HM:=Hp.le_refl M
 have H:=h
 unfold model_Model_fits_POOOO at H
 refine Wp_seq (Wp_region_lit ?_)
 refine W_box S #[.int .u8 a1.Kind,.int .i64 a1.Tx,.string (bs a1.Key),.string (bs a1.End),.string (bs a1.Value),.int .i64 a1.Limit,.int .u8 a1.Engine] rfl rfl rfl ?_
 intro b1 w2 E' S
 replace E:=E.trans E'
 refine W_v (.bool false) (x_assign rfl) rfl (Wl_nil (tn (Wp_seq (Wp_seq (Wp_region_lit (W_v (pt b1 0) (x_fieldAddr (o:=0) (off:=0) Tryd.underlying37 rfl ty5 rfl rfl) rfl (W_v (.int .u8 a1.Kind) (x_load (S.blk 0 rfl) ty5 rfl rfl) rfl (Wl_nil (tn ?_)))))))))
 refine Wp_block ?_
 refine Wp_seq (Wp_seq (Wp_region_lit (W_v (.bool (a1.Kind==(2:Int))) (x_ibin rfl rfl rfl rfl) rfl (W_v (.bool (a1.Kind==(2:Int))) (x_assign rfl) rfl (Wl_nil (tn ?_))))))
 obtain ⟨o7,o7h,o7H⟩:=bindS H
 refine Wp_cut (fun ρ w'=>∃ (x6:Bool),(x6)=o7∧Agree ρ [(0,pt bo0 0),(3,pt b1 0),(6,.int .u8 a1.Kind),(7,.bool x6)]∧Ext w w'∧St w' M F [B37 b1 a1,B94 bo0 a0 A0_8 A0_9 A0_10 c0_10 A0_11,MapC enc_model_name (Value.int .i64) A0_8 a0.names,MapC (Value.int .i64) (Value.int .i64) A0_9 a0.many,Row r_model_tx 99 (.slice A0_10 a0.txs.length c0_10) a0.txs,MapC encS (fun v:Value=>v) A0_11 vs0_11]) ?_ ?_
 ·clear o7H
  have H:=o7h
  rcases iteS H with ⟨hb8,H⟩ | ⟨hb8,H⟩
  ·refine Wp_cond_true (congrArg Value.bool hb8) ?_
   refine Wp_skip (tn ?_)
   exact ⟨(a1.Kind==(2:Int)),Option.some.inj H,⟨rfl,rfl,rfl,rfl,trivial⟩,E,S.pick [0,1,2,3,4,5] (by decide)⟩
  refine Wp_cond_false (congrArg Value.bool hb8) (Wp_region_lit (W_v (.bool (a1.Kind==(4:Int))) (x_ibin rfl rfl rfl rfl) rfl (W_v (.bool (a1.Kind==(4:Int))) (x_assign rfl) rfl (Wl_nil (tn ?_)))))
  exact ⟨(a1.Kind==(4:Int)),Option.some.inj H,⟨rfl,rfl,rfl,rfl,trivial⟩,E,S.pick [0,1,2,3,4,5] (by decide)⟩
 as_aux_lemma =>
 rintro ρ w9 ⟨x6,rfl,hρ,E,S⟩
 rw [agree_eta hρ]
 have H:=o7H
 refine tn ?_
 rcases iteS H with ⟨hb10,H⟩ | ⟨hb10,H⟩
 ·refine Wp_cond_true (congrArg Value.bool hb10) ?_
  refine Wp_seq ?_
  refine Wp_region_any (S:=fun w'=>∃ Mx,M.le Mx∧St w' Mx F [B37 b1 a1,B94 bo0 a0 A0_8 A0_9 A0_10 c0_10 A0_11,MapC enc_model_name (Value.int .i64) A0_8 a0.names,MapC (Value.int .i64) (Value.int .i64) A0_9 a0.many,Row r_model_tx 99 (.slice A0_10 a0.txs.length c0_10) a0.txs,MapC encS (fun v:Value=>v) A0_11 vs0_11]) (L:=8) mixed ?_
  intro w14 hw15 E'
  replace S:=S.heap hw15
  replace E:=E.trans E'
  have D1:∃ Mx,Hp.le M Mx∧St _ Mx F [_,_,_,_,_,_]:=⟨_,Hp.le_refl _,S.pick [0,1,2,3,4,5] (by decide)⟩
  refine Wa_take (i:=0) rfl (by kernel_rfl) rfl rfl (pt bo0 0) rfl (fun w' h'=>x_move rfl) D1 (Wa_take (i:=1) rfl (by kernel_rfl) rfl rfl (pt bo0 0) rfl (fun w' h'=>x_nilptr rfl) D1 (Wa_take (i:=2) rfl (by kernel_rfl) rfl rfl (pt bo0 0) rfl (fun w' h'=>x_fieldAddr (o:=0) (off:=0) Tryd.underlying94 rfl ty23 rfl rfl) D1 (Wa_take (i:=3) rfl (by kernel_rfl) rfl rfl (.agg #[.int .i64 a0.c.Tasks,.int .i64 a0.c.Active,.int .i64 a0.c.Keys,.int .i64 a0.c.Depth,.int .i64 a0.c.TS,.int .i64 a0.c.KeyLen,.int .i64 a0.c.ValLen,.int .i64 a0.c.Fan]) rfl (fun w' h'=>x_loadA (cls_blk h' 1 rfl) ty23 rfl (sub_of_extract rfl) rfl rfl) D1 (Wa_take (i:=4) rfl (by kernel_rfl) rfl rfl (pt b1 2) rfl (fun w' h'=>x_fieldAddr (o:=0) (off:=2) Tryd.underlying37 rfl ty9 rfl rfl) D1 (Wa_take (i:=5) rfl (by kernel_rfl) rfl rfl (.string (bs a1.Key)) rfl (fun w' h'=>x_load (cls_blk h' 0 rfl) ty9 rfl rfl) D1 ?_)))))
  refine Wa_solo (i:=6) rfl (by kernel_rfl) ?_
  obtain ⟨t16,ht17,H⟩:=bindS H
  refine W_callF fn70 (text_Key.con k M a0.c a1.Key t16  ht17) S rfl rfl (by rintro _ _ _ ⟨_,rfl⟩;exact flat_nil) ?_
  rintro _ w18 _ Γ' E' S ⟨rfl,rfl⟩
  replace E:=E.trans E'
  refine Wl_nil (on_n ⟨.inr ⟨M,Hp.le_refl M,(S.pick [0,1,2,3,4,5] (by decide))⟩,?_⟩)
  refine Wa_take (i:=7) rfl (by kernel_rfl) rfl rfl (.bool t16) rfl (fun w' h'=>x_assign rfl) (⟨M,Hp.le_refl M,(S.pick [0,1,2,3,4,5] (by decide))⟩) ?_
  refine Wa_done (by kernel_rfl) ?_
  refine tn ?_
  refine Wp_ret ?_
  refine br (tr (?_))
  obtain rfl:=Option.some.inj H
  exact ⟨_,_,_,fun w1 e1=>run_resR (vs:=[.bool t16]) (FA.cons (rfl) (FA.nil)),HM,E,S.pick [1,2,3,4,5] (by decide),⟨rfl,rfl⟩⟩
 refine Wp_cond_false (congrArg Value.bool hb10) (Wp_seq (Wp_region_lit (W_v (.bool (a1.Kind==(3:Int))) (x_ibin rfl rfl rfl rfl) rfl (W_v (.bool (a1.Kind==(3:Int))) (x_assign rfl) rfl (Wl_nil (tn ?_))))))
 rcases iteS H with ⟨hb19,H⟩ | ⟨hb19,H⟩
 ·refine Wp_cond_true (congrArg Value.bool hb19) ?_
  refine Wp_seq ?_
  refine Wp_region_any (S:=fun w'=>∃ Mx,M.le Mx∧St w' Mx F [B37 b1 a1,B94 bo0 a0 A0_8 A0_9 A0_10 c0_10 A0_11,MapC enc_model_name (Value.int .i64) A0_8 a0.names,MapC (Value.int .i64) (Value.int .i64) A0_9 a0.many,Row r_model_tx 99 (.slice A0_10 a0.txs.length c0_10) a0.txs,MapC encS (fun v:Value=>v) A0_11 vs0_11]) (L:=17) mixed ?_
  intro w33 hw34 E'
  replace S:=S.heap hw34
  replace E:=E.trans E'
  have D3:∃ Mx,Hp.le M Mx∧St _ Mx F [_,_,_,_,_,_]:=⟨_,Hp.le_refl _,S.pick [0,1,2,3,4,5] (by decide)⟩
  refine Wa_take (i:=0) rfl (by kernel_rfl) rfl rfl (pt bo0 0) rfl (fun w' h'=>x_move rfl) D3 (Wa_take (i:=1) rfl (by kernel_rfl) rfl rfl (pt bo0 0) rfl (fun w' h'=>x_nilptr rfl) D3 (Wa_take (i:=2) rfl (by kernel_rfl) rfl rfl (pt bo0 0) rfl (fun w' h'=>x_fieldAddr (o:=0) (off:=0) Tryd.underlying94 rfl ty23 rfl rfl) D3 (Wa_take (i:=3) rfl (by kernel_rfl) rfl rfl (.agg #[.int .i64 a0.c.Tasks,.int .i64 a0.c.Active,.int .i64 a0.c.Keys,.int .i64 a0.c.Depth,.int .i64 a0.c.TS,.int .i64 a0.c.KeyLen,.int .i64 a0.c.ValLen,.int .i64 a0.c.Fan]) rfl (fun w' h'=>x_loadA (cls_blk h' 1 rfl) ty23 rfl (sub_of_extract rfl) rfl rfl) D3 (Wa_take (i:=4) rfl (by kernel_rfl) rfl rfl (pt b1 2) rfl (fun w' h'=>x_fieldAddr (o:=0) (off:=2) Tryd.underlying37 rfl ty9 rfl rfl) D3 (Wa_take (i:=5) rfl (by kernel_rfl) rfl rfl (.string (bs a1.Key)) rfl (fun w' h'=>x_load (cls_blk h' 0 rfl) ty9 rfl rfl) D3 ?_)))))
  refine Wa_solo (i:=6) rfl (by kernel_rfl) ?_
  obtain ⟨t35,ht36,H⟩:=bindS H
  refine W_callF fn70 (text_Key.con k M a0.c a1.Key t35  ht36) S rfl rfl (by rintro _ _ _ ⟨_,rfl⟩;exact flat_nil) ?_
  rintro _ w37 _ Γ' E' S ⟨rfl,rfl⟩
  replace E:=E.trans E'
  refine Wl_nil (on_n ⟨.inr ⟨M,Hp.le_refl M,(S.pick [0,1,2,3,4,5] (by decide))⟩,?_⟩)
  refine Wa_take (i:=7) rfl (by kernel_rfl) rfl rfl (.bool t35) rfl (fun w' h'=>x_move rfl) (⟨M,Hp.le_refl M,(S.pick [0,1,2,3,4,5] (by decide))⟩) ?_
  obtain ⟨o43,o43h,o43H⟩:=bindS H
  refine Wa_join (fun ρ w'=>∃ (x42:Bool),(x42)=o43∧Agree ρ [(34,.bool x42)]∧Ext w w'∧St w' M F [B37 b1 a1,B94 bo0 a0 A0_8 A0_9 A0_10 c0_10 A0_11,MapC enc_model_name (Value.int .i64) A0_8 a0.names,MapC (Value.int .i64) (Value.int .i64) A0_9 a0.many,Row r_model_tx 99 (.slice A0_10 a0.txs.length c0_10) a0.txs,MapC encS (fun v:Value=>v) A0_11 vs0_11]) 1 (Ls 17 [0,1,2,3,4,5,6,7,8,9,10,11,12,13,14,15]) ?_ ?_
  rotate_left
  ·intro hrest
   have H:=o43h
   rcases iteS H with ⟨hb41,H⟩ | ⟨hb41,H⟩
   ·skip
    have D5:∃ Mx,Hp.le M Mx∧St _ Mx F [_,_,_,_,_,_]:=⟨_,Hp.le_refl _,S.pick [0,1,2,3,4,5] (by decide)⟩
    refine Wa_takeY (i:=8) rfl (by kernel_rfl) rfl rfl (pt bo0 0) rfl (congrArg some hb41) (fun w' h'=>x_move rfl) D5 (Wa_takeY (i:=9) rfl (by kernel_rfl) rfl rfl (pt bo0 0) rfl (congrArg some hb41) (fun w' h'=>x_nilptr rfl) D5 (Wa_takeY (i:=10) rfl (by kernel_rfl) rfl rfl (pt bo0 0) rfl (congrArg some hb41) (fun w' h'=>x_fieldAddr (o:=0) (off:=0) Tryd.underlying94 rfl ty23 rfl rfl) D5 (Wa_takeY (i:=11) rfl (by kernel_rfl) rfl rfl (.agg #[.int .i64 a0.c.Tasks,.int .i64 a0.c.Active,.int .i64 a0.c.Keys,.int .i64 a0.c.Depth,.int .i64 a0.c.TS,.int .i64 a0.c.KeyLen,.int .i64 a0.c.ValLen,.int .i64 a0.c.Fan]) rfl (congrArg some hb41) (fun w' h'=>x_loadA (cls_blk h' 1 rfl) ty23 rfl (sub_of_extract rfl) rfl rfl) D5 (Wa_takeY (i:=12) rfl (by kernel_rfl) rfl rfl (pt b1 4) rfl (congrArg some hb41) (fun w' h'=>x_fieldAddr (o:=0) (off:=4) Tryd.underlying37 rfl ty9 rfl rfl) D5 (Wa_takeY (i:=13) rfl (by kernel_rfl) rfl rfl (.string (bs a1.Value)) rfl (congrArg some hb41) (fun w' h'=>x_load (cls_blk h' 0 rfl) ty9 rfl rfl) D5 ?_)))))
    refine Wa_solo (i:=14) rfl (by kernel_rfl) ?_
    refine W_yes (congrArg some hb41) ?_
    obtain ⟨t44,ht45,H⟩:=bindS H
    refine W_callF fn71 (text_Value.con k M a0.c a1.Value t44  ht45) S rfl rfl (by rintro _ _ _ ⟨_,rfl⟩;exact flat_nil) ?_
    rintro _ w46 _ Γ' E' S ⟨rfl,rfl⟩
    replace E:=E.trans E'
    refine Wl_nil (on_n ⟨.inr ⟨M,Hp.le_refl M,(S.pick [0,1,2,3,4,5] (by decide))⟩,?_⟩)
    refine Wa_take (i:=15) rfl (by kernel_rfl) rfl rfl (.bool t44) rfl (fun w' h'=>x_pick (k:=true) (congrArg Value.bool hb41) rfl) (⟨M,Hp.le_refl M,(S.pick [0,1,2,3,4,5] (by decide))⟩) ?_
    exact hrest _ _ ⟨t44,Option.some.inj H,⟨rfl,trivial⟩,E,S.pick [0,1,2,3,4,5] (by decide)⟩
   ·skip
    have D7:∃ Mx,Hp.le M Mx∧St _ Mx F [_,_,_,_,_,_]:=⟨_,Hp.le_refl _,S.pick [0,1,2,3,4,5] (by decide)⟩
    refine Wa_takeN (i:=8) rfl (by kernel_rfl) rfl rfl rfl (skT hb41) D7 (Wa_takeN (i:=9) rfl (by kernel_rfl) rfl rfl rfl (skT hb41) D7 (Wa_takeN (i:=10) rfl (by kernel_rfl) rfl rfl rfl (skT hb41) D7 (Wa_takeN (i:=11) rfl (by kernel_rfl) rfl rfl rfl (skT hb41) D7 (Wa_takeN (i:=12) rfl (by kernel_rfl) rfl rfl rfl (skT hb41) D7 (Wa_takeN (i:=13) rfl (by kernel_rfl) rfl rfl rfl (skT hb41) D7 (Wa_takeN (i:=14) rfl (by kernel_rfl) rfl rfl rfl (skT hb41) D7 (Wa_take (i:=15) rfl (by kernel_rfl) rfl rfl (.bool false) rfl (fun w' h'=>x_pick (k:=false) (congrArg Value.bool hb41) rfl) D7 ?_)))))))
    exact hrest _ _ ⟨false,Option.some.inj H,⟨rfl,trivial⟩,E,S.pick [0,1,2,3,4,5] (by decide)⟩
  rintro ρ w47 ⟨x42,rfl,hρ,E,S⟩
  rw [agree_eta hρ]
  have H:=o43H
  refine Wa_take (i:=16) rfl (by kernel_rfl) rfl rfl (.bool x42) rfl (fun w' h'=>x_assign rfl) (⟨M,Hp.le_refl M,(S.pick [0,1,2,3,4,5] (by decide))⟩) ?_
  refine Wa_done (by kernel_rfl) ?_
  refine tn ?_
  refine Wp_ret ?_
  refine br (tr (?_))
  obtain rfl:=Option.some.inj H
  exact ⟨_,_,_,fun w1 e1=>run_resR (vs:=[.bool x42]) (FA.cons (rfl) (FA.nil)),HM,E,S.pick [1,2,3,4,5] (by decide),⟨rfl,rfl⟩⟩
 refine Wp_cond_false (congrArg Value.bool hb19) ?_
 as_aux_lemma =>
 refine Wp_seq (Wp_region_lit (W_v (.bool (a1.Kind==(5:Int))) (x_ibin rfl rfl rfl rfl) rfl (W_v (.bool (a1.Kind==(5:Int))) (x_assign rfl) rfl (Wl_nil (tn ?_)))))
 rcases iteS H with ⟨hb48,H⟩ | ⟨hb48,H⟩
 ·refine Wp_cond_true (congrArg Value.bool hb48) ?_
  refine Wp_seq ?_
  refine Wp_region_any (S:=fun w'=>∃ Mx,M.le Mx∧St w' Mx F [B37 b1 a1,B94 bo0 a0 A0_8 A0_9 A0_10 c0_10 A0_11,MapC enc_model_name (Value.int .i64) A0_8 a0.names,MapC (Value.int .i64) (Value.int .i64) A0_9 a0.many,Row r_model_tx 99 (.slice A0_10 a0.txs.length c0_10) a0.txs,MapC encS (fun v:Value=>v) A0_11 vs0_11]) (L:=27) mixed ?_
  intro w64 hw65 E'
  replace S:=S.heap hw65
  replace E:=E.trans E'
  have D9:∃ Mx,Hp.le M Mx∧St _ Mx F [_,_,_,_,_,_]:=⟨_,Hp.le_refl _,S.pick [0,1,2,3,4,5] (by decide)⟩
  refine Wa_take (i:=0) rfl (by kernel_rfl) rfl rfl (pt bo0 0) rfl (fun w' h'=>x_move rfl) D9 (Wa_take (i:=1) rfl (by kernel_rfl) rfl rfl (pt bo0 0) rfl (fun w' h'=>x_nilptr rfl) D9 (Wa_take (i:=2) rfl (by kernel_rfl) rfl rfl (pt bo0 0) rfl (fun w' h'=>x_fieldAddr (o:=0) (off:=0) Tryd.underlying94 rfl ty23 rfl rfl) D9 (Wa_take (i:=3) rfl (by kernel_rfl) rfl rfl (.agg #[.int .i64 a0.c.Tasks,.int .i64 a0.c.Active,.int .i64 a0.c.Keys,.int .i64 a0.c.Depth,.int .i64 a0.c.TS,.int .i64 a0.c.KeyLen,.int .i64 a0.c.ValLen,.int .i64 a0.c.Fan]) rfl (fun w' h'=>x_loadA (cls_blk h' 1 rfl) ty23 rfl (sub_of_extract rfl) rfl rfl) D9 (Wa_take (i:=4) rfl (by kernel_rfl) rfl rfl (pt b1 2) rfl (fun w' h'=>x_fieldAddr (o:=0) (off:=2) Tryd.underlying37 rfl ty9 rfl rfl) D9 (Wa_take (i:=5) rfl (by kernel_rfl) rfl rfl (.string (bs a1.Key)) rfl (fun w' h'=>x_load (cls_blk h' 0 rfl) ty9 rfl rfl) D9 ?_)))))
  refine Wa_solo (i:=6) rfl (by kernel_rfl) ?_
  obtain ⟨t66,ht67,H⟩:=bindS H
  refine W_callF fn72 (text_Bound.con k M a0.c a1.Key t66  ht67) S rfl rfl (by rintro _ _ _ ⟨_,rfl⟩;exact flat_nil) ?_
  rintro _ w68 _ Γ' E' S ⟨rfl,rfl⟩
  replace E:=E.trans E'
  refine Wl_nil (on_n ⟨.inr ⟨M,Hp.le_refl M,(S.pick [0,1,2,3,4,5] (by decide))⟩,?_⟩)
  refine Wa_take (i:=7) rfl (by kernel_rfl) rfl rfl (.bool t66) rfl (fun w' h'=>x_move rfl) (⟨M,Hp.le_refl M,(S.pick [0,1,2,3,4,5] (by decide))⟩) ?_
  obtain ⟨o74,o74h,o74H⟩:=bindS H
  refine Wa_join (fun ρ w'=>∃ (x73:Bool),(x73)=o74∧Agree ρ [(3,pt b1 0),(52,.bool x73)]∧Ext w w'∧St w' M F [B37 b1 a1,B94 bo0 a0 A0_8 A0_9 A0_10 c0_10 A0_11,MapC enc_model_name (Value.int .i64) A0_8 a0.names,MapC (Value.int .i64) (Value.int .i64) A0_9 a0.many,Row r_model_tx 99 (.slice A0_10 a0.txs.length c0_10) a0.txs,MapC encS (fun v:Value=>v) A0_11 vs0_11]) 11 (Ls 27 [0,1,2,3,4,5,6,7,8,9,10,11,12,13,14,15]) ?_ ?_
  rotate_left
  ·intro hrest
   have H:=o74h
   rcases iteS H with ⟨hb72,H⟩ | ⟨hb72,H⟩
   ·skip
    have D11:∃ Mx,Hp.le M Mx∧St _ Mx F [_,_,_,_,_,_]:=⟨_,Hp.le_refl _,S.pick [0,1,2,3,4,5] (by decide)⟩
    refine Wa_takeY (i:=8) rfl (by kernel_rfl) rfl rfl (pt bo0 0) rfl (congrArg some hb72) (fun w' h'=>x_move rfl) D11 (Wa_takeY (i:=9) rfl (by kernel_rfl) rfl rfl (pt bo0 0) rfl (congrArg some hb72) (fun w' h'=>x_nilptr rfl) D11 (Wa_takeY (i:=10) rfl (by kernel_rfl) rfl rfl (pt bo0 0) rfl (congrArg some hb72) (fun w' h'=>x_fieldAddr (o:=0) (off:=0) Tryd.underlying94 rfl ty23 rfl rfl) D11 (Wa_takeY (i:=11) rfl (by kernel_rfl) rfl rfl (.agg #[.int .i64 a0.c.Tasks,.int .i64 a0.c.Active,.int .i64 a0.c.Keys,.int .i64 a0.c.Depth,.int .i64 a0.c.TS,.int .i64 a0.c.KeyLen,.int .i64 a0.c.ValLen,.int .i64 a0.c.Fan]) rfl (congrArg some hb72) (fun w' h'=>x_loadA (cls_blk h' 1 rfl) ty23 rfl (sub_of_extract rfl) rfl rfl) D11 (Wa_takeY (i:=12) rfl (by kernel_rfl) rfl rfl (pt b1 3) rfl (congrArg some hb72) (fun w' h'=>x_fieldAddr (o:=0) (off:=3) Tryd.underlying37 rfl ty9 rfl rfl) D11 (Wa_takeY (i:=13) rfl (by kernel_rfl) rfl rfl (.string (bs a1.End)) rfl (congrArg some hb72) (fun w' h'=>x_load (cls_blk h' 0 rfl) ty9 rfl rfl) D11 ?_)))))
    refine Wa_solo (i:=14) rfl (by kernel_rfl) ?_
    refine W_yes (congrArg some hb72) ?_
    obtain ⟨t75,ht76,H⟩:=bindS H
    refine W_callF fn72 (text_Bound.con k M a0.c a1.End t75  ht76) S rfl rfl (by rintro _ _ _ ⟨_,rfl⟩;exact flat_nil) ?_
    rintro _ w77 _ Γ' E' S ⟨rfl,rfl⟩
    replace E:=E.trans E'
    refine Wl_nil (on_n ⟨.inr ⟨M,Hp.le_refl M,(S.pick [0,1,2,3,4,5] (by decide))⟩,?_⟩)
    refine Wa_take (i:=15) rfl (by kernel_rfl) rfl rfl (.bool t75) rfl (fun w' h'=>x_pick (k:=true) (congrArg Value.bool hb72) rfl) (⟨M,Hp.le_refl M,(S.pick [0,1,2,3,4,5] (by decide))⟩) ?_
    exact hrest _ _ ⟨t75,Option.some.inj H,⟨rfl,rfl,trivial⟩,E,S.pick [0,1,2,3,4,5] (by decide)⟩
   ·skip
    have D13:∃ Mx,Hp.le M Mx∧St _ Mx F [_,_,_,_,_,_]:=⟨_,Hp.le_refl _,S.pick [0,1,2,3,4,5] (by decide)⟩
    refine Wa_takeN (i:=8) rfl (by kernel_rfl) rfl rfl rfl (skT hb72) D13 (Wa_takeN (i:=9) rfl (by kernel_rfl) rfl rfl rfl (skT hb72) D13 (Wa_takeN (i:=10) rfl (by kernel_rfl) rfl rfl rfl (skT hb72) D13 (Wa_takeN (i:=11) rfl (by kernel_rfl) rfl rfl rfl (skT hb72) D13 (Wa_takeN (i:=12) rfl (by kernel_rfl) rfl rfl rfl (skT hb72) D13 (Wa_takeN (i:=13) rfl (by kernel_rfl) rfl rfl rfl (skT hb72) D13 (Wa_takeN (i:=14) rfl (by kernel_rfl) rfl rfl rfl (skT hb72) D13 (Wa_take (i:=15) rfl (by kernel_rfl) rfl rfl (.bool false) rfl (fun w' h'=>x_pick (k:=false) (congrArg Value.bool hb72) rfl) D13 ?_)))))))
    exact hrest _ _ ⟨false,Option.some.inj H,⟨rfl,rfl,trivial⟩,E,S.pick [0,1,2,3,4,5] (by decide)⟩
  rintro ρ w78 ⟨x73,rfl,hρ,E,S⟩
  rw [agree_eta hρ]
  have H:=o74H
  refine Wa_take (i:=16) rfl (by kernel_rfl) rfl rfl (.bool x73) rfl (fun w' h'=>x_move rfl) (⟨M,Hp.le_refl M,(S.pick [0,1,2,3,4,5] (by decide))⟩) ?_
  refine Wa_join (fun ρ w'=>Agree ρ [(3,pt b1 0),(57,.bool (x73&&(decide (a1.Limit≥(0:Int)))))]∧w78=w') 6 (Ls 27 [0,1,2,3,4,5,6,7,8,9,10,11,12,13,14,15,16,17,18,19,20]) ?_ ?_
  rotate_left
  ·intro hrest
   rcases boolCases x73 with hb79 | hb79
   ·skip
    have D15:∃ Mx,Hp.le M Mx∧St _ Mx F [_,_,_,_,_,_]:=⟨_,Hp.le_refl _,S.pick [0,1,2,3,4,5] (by decide)⟩
    refine Wa_takeN (i:=17) rfl (by kernel_rfl) rfl rfl rfl (skT hb79) D15 (Wa_takeN (i:=18) rfl (by kernel_rfl) rfl rfl rfl (skT hb79) D15 (Wa_takeN (i:=19) rfl (by kernel_rfl) rfl rfl rfl (skT hb79) D15 (Wa_take (i:=20) rfl (by kernel_rfl) rfl rfl (.bool false) rfl (fun w' h'=>x_pick (k:=false) (congrArg Value.bool hb79) rfl) D15 ?_)))
    exact hrest _ _ ⟨⟨rfl,(by first | rfl | (rw [hb79];rfl) | (simp only [hb79];rfl)),trivial⟩,rfl⟩
   ·skip
    have D16:∃ Mx,Hp.le M Mx∧St _ Mx F [_,_,_,_,_,_]:=⟨_,Hp.le_refl _,S.pick [0,1,2,3,4,5] (by decide)⟩
    refine Wa_takeY (i:=17) rfl (by kernel_rfl) rfl rfl (pt b1 5) rfl (congrArg some hb79) (fun w' h'=>x_fieldAddr (o:=0) (off:=5) Tryd.underlying37 rfl ty3 rfl rfl) D16 (Wa_takeY (i:=18) rfl (by kernel_rfl) rfl rfl (.int .i64 a1.Limit) rfl (congrArg some hb79) (fun w' h'=>x_load (cls_blk h' 0 rfl) ty3 rfl rfl) D16 (Wa_takeY (i:=19) rfl (by kernel_rfl) rfl rfl (.bool (decide (a1.Limit≥(0:Int)))) rfl (congrArg some hb79) (fun w' h'=>x_ibin rfl rfl rfl rfl) D16 (Wa_take (i:=20) rfl (by kernel_rfl) rfl rfl (.bool (decide (a1.Limit≥(0:Int)))) rfl (fun w' h'=>x_pick (k:=true) (congrArg Value.bool hb79) rfl) D16 ?_)))
    exact hrest _ _ ⟨⟨rfl,(by first | rfl | (rw [hb79];rfl) | (simp only [hb79];rfl)),trivial⟩,rfl⟩
  rintro ρ _ ⟨hρ,rfl⟩
  rw [agree_eta hρ]
  refine Wa_take (i:=21) rfl (by kernel_rfl) rfl rfl (.bool (x73&&(decide (a1.Limit≥(0:Int))))) rfl (fun w' h'=>x_move rfl) (⟨M,Hp.le_refl M,(S.pick [0,1,2,3,4,5] (by decide))⟩) ?_
  refine Wa_join (fun ρ w'=>Agree ρ [(62,.bool ((x73&&(decide (a1.Limit≥(0:Int))))&&(decide (a1.Limit≤(128:Int)))))]∧w78=w') 1 (Ls 27 [0,1,2,3,4,5,6,7,8,9,10,11,12,13,14,15,16,17,18,19,20,21,22,23,24,25]) ?_ ?_
  rotate_left
  ·intro hrest
   rcases boolCases (x73&&(decide (a1.Limit≥(0:Int)))) with hb80 | hb80
   ·skip
    have D18:∃ Mx,Hp.le M Mx∧St _ Mx F [_,_,_,_,_,_]:=⟨_,Hp.le_refl _,S.pick [0,1,2,3,4,5] (by decide)⟩
    refine Wa_takeN (i:=22) rfl (by kernel_rfl) rfl rfl rfl (skT hb80) D18 (Wa_takeN (i:=23) rfl (by kernel_rfl) rfl rfl rfl (skT hb80) D18 (Wa_takeN (i:=24) rfl (by kernel_rfl) rfl rfl rfl (skT hb80) D18 (Wa_take (i:=25) rfl (by kernel_rfl) rfl rfl (.bool false) rfl (fun w' h'=>x_pick (k:=false) (congrArg Value.bool hb80) rfl) D18 ?_)))
    exact hrest _ _ ⟨⟨(by first | rfl | (rw [hb80];rfl) | (simp only [hb80];rfl)),trivial⟩,rfl⟩
   ·skip
    have D19:∃ Mx,Hp.le M Mx∧St _ Mx F [_,_,_,_,_,_]:=⟨_,Hp.le_refl _,S.pick [0,1,2,3,4,5] (by decide)⟩
    refine Wa_takeY (i:=22) rfl (by kernel_rfl) rfl rfl (pt b1 5) rfl (congrArg some hb80) (fun w' h'=>x_fieldAddr (o:=0) (off:=5) Tryd.underlying37 rfl ty3 rfl rfl) D19 (Wa_takeY (i:=23) rfl (by kernel_rfl) rfl rfl (.int .i64 a1.Limit) rfl (congrArg some hb80) (fun w' h'=>x_load (cls_blk h' 0 rfl) ty3 rfl rfl) D19 (Wa_takeY (i:=24) rfl (by kernel_rfl) rfl rfl (.bool (decide (a1.Limit≤(128:Int)))) rfl (congrArg some hb80) (fun w' h'=>x_ibin rfl rfl rfl rfl) D19 (Wa_take (i:=25) rfl (by kernel_rfl) rfl rfl (.bool (decide (a1.Limit≤(128:Int)))) rfl (fun w' h'=>x_pick (k:=true) (congrArg Value.bool hb80) rfl) D19 ?_)))
    exact hrest _ _ ⟨⟨(by first | rfl | (rw [hb80];rfl) | (simp only [hb80];rfl)),trivial⟩,rfl⟩
  rintro ρ _ ⟨hρ,rfl⟩
  rw [agree_eta hρ]
  refine Wa_take (i:=26) rfl (by kernel_rfl) rfl rfl (.bool ((x73&&(decide (a1.Limit≥(0:Int))))&&(decide (a1.Limit≤(128:Int))))) rfl (fun w' h'=>x_assign rfl) (⟨M,Hp.le_refl M,(S.pick [0,1,2,3,4,5] (by decide))⟩) ?_
  refine Wa_done (by kernel_rfl) ?_
  refine tn ?_
  refine Wp_ret ?_
  refine br (tr (?_))
  obtain rfl:=Option.some.inj H
  exact ⟨_,_,_,fun w1 e1=>run_resR (vs:=[.bool ((x73&&(decide (a1.Limit≥(0:Int))))&&(decide (a1.Limit≤(128:Int))))]) (FA.cons (rfl) (FA.nil)),HM,E,S.pick [1,2,3,4,5] (by decide),⟨rfl,rfl⟩⟩
 refine Wp_cond_false (congrArg Value.bool hb48) (Wp_skip (bn (tn ?_)))
 as_aux_lemma =>
 refine Wp_seq (Wp_region_lit (W_v (.bool true) (x_assign rfl) rfl (Wl_nil (tn ?_))))
 refine Wp_ret ?_
 obtain rfl:=Option.some.inj H
 exact ⟨_,_,_,fun w1 e1=>run_resR (vs:=[.bool true]) (FA.cons (rfl) (FA.nil)),HM,E,S.pick [1,2,3,4,5] (by decide),⟨rfl,rfl⟩⟩
def model_Model_Refused_POOOO (k:Nat) (a0:model_Model) (a1:Int) (a2:api_Call):Option (Int) :=
 (if ((((decide (a1<(0:Int)))||(decide (a1≥a0.c.Tasks)))||(decide (a2.Kind<(1:Int))))||(decide (a2.Kind>(9:Int))))=true then some (1:Int) else (if (((a2.Kind==(9:Int))&&(a2.Engine != (1:Int)))&&(a2.Engine != (2:Int)))=true then some (1:Int) else (Option.bind (model_needs k a2.Kind) (fun t11=>(if t11=true then (Option.bind (model_Model_Tx_POOOO k a0 a1 a2.Tx) (fun t15=>(if (t15.2.1==(1:Int))=true then (Option.bind (model_Model_fits_POOOO k a0 a2) (fun t21=>(if (!t21)=true then some (32:Int) else some (0:Int)))) else (if (t15.2.1==(0:Int))=true then some (30:Int) else some (31:Int))))) else (Option.bind (model_Model_fits_POOOO k a0 a2) (fun t28=>(if (!t28)=true then some (32:Int) else some (0:Int)))))))))
set_option maxHeartbeats 2000000 in
theorem model_Model_Refused_POOOO.mono {k:Nat} {a0:model_Model} {a1:Int} {a2:api_Call}:OLe (model_Model_Refused_POOOO k a0 a1 a2) (model_Model_Refused_POOOO (k+1) a0 a1 a2):=by
 unfold model_Model_Refused_POOOO
 repeat' (first | with_reducible exact OLe.none | with_reducible exact OLe.some | with_reducible refine OLe.ite ?_ ?_ | with_reducible refine OLe.bind ?_ (fun _=>?_) | with_reducible exact model_Model_Tx_POOOO.mono | with_reducible exact model_Model_fits_POOOO.mono | with_reducible exact model_needs.mono | refine OLe.bind ?_ (fun _=>?_) | refine OLe.ite ?_ ?_ | refine OLe.elim (fun _=>?_) (fun _=>?_) | split)
set_option maxHeartbeats 4000000 in
set_option maxRecDepth 100000 in
theorem model_Model_Refused_POOOO.con (k:Nat) (M:Hp) (A0_8:Option Addr) (c0_8:Nat) (A0_9:Option Addr) (c0_9:Nat) (A0_10:Option Addr) (c0_10:Nat) (A0_11:Option Addr) (c0_11:Nat) (vs0_11:List (Str×Value)) (a0:model_Model) (a1:Int) (a2:api_Call) (bo0:Nat) (r:Int) (hm0_11:MRel r_model_row M a0.rows vs0_11) (h:model_Model_Refused_POOOO k a0 a1 a2=some r):Con Tryd.prog 25 #[pt bo0 0,.int .i64 a1,.agg #[.int .u8 a2.Kind,.int .i64 a2.Tx,.string (bs a2.Key),.string (bs a2.End),.string (bs a2.Value),.int .i64 a2.Limit,.int .u8 a2.Engine]] M [B94 bo0 a0 A0_8 A0_9 A0_10 c0_10 A0_11,MapC enc_model_name (Value.int .i64) A0_8 a0.names,MapC (Value.int .i64) (Value.int .i64) A0_9 a0.many,Row r_model_tx 99 (.slice A0_10 a0.txs.length c0_10) a0.txs,MapC encS (fun v:Value=>v) A0_11 vs0_11] (fun v M' Γ'=>v=.int .i64 r∧Γ'=[B94 bo0 a0 A0_8 A0_9 A0_10 c0_10 A0_11,MapC enc_model_name (Value.int .i64) A0_8 a0.names,MapC (Value.int .i64) (Value.int .i64) A0_9 a0.many,Row r_model_tx 99 (.slice A0_10 a0.txs.length c0_10) a0.txs,MapC encS (fun v:Value=>v) A0_11 vs0_11]):=by
 refine con_of_wp Tryd.func25 rfl Tryd.ntmps25 Tryd.results25 rfl ?_
 intro w F rn S hrn
 have E:=Ext.refl w
 have HM:=Hp.le_refl M
 have H:=h
 unfold model_Model_Refused_POOOO at H
 refine Wp_seq (Wp_region_lit ?_)
 refine W_box S #[.int .u8 a2.Kind,.int .i64 a2.Tx,.string (bs a2.Key),.string (bs a2.End),.string (bs a2.Value),.int .i64 a2.Limit,.int .u8 a2.Engine] rfl rfl rfl ?_
 intro b1 w2 E' S
 replace E:=E.trans E'
 refine W_v (.int .i64 0) (x_assign rfl) rfl (Wl_nil (tn (Wp_seq ?_)))
 refine Wp_block ?_
 refine Wp_seq (Wp_region_lit (W_v (pt bo0 0) (x_move rfl) rfl (W_v (.bool false) (x_eq_of (r:=false) rfl rfl (run_eq_ptrsn Tryd.underlying27)) rfl (W_v (.bool false) (x_assign rfl) rfl (Wl_nil (tn (Wp_cond_false rfl (Wp_seq (Wp_region_lit (W_v (.int .i64 a1) (x_move rfl) rfl (W_v (.bool (decide (a1<(0:Int)))) (x_ibin rfl rfl rfl rfl) rfl (W_v (.bool (decide (a1<(0:Int)))) (x_move rfl) rfl ?_))))))))))))
 refine Wl_cutN 8 (fun ρ w'=>Agree ρ [(0,pt bo0 0),(1,.int .i64 a1),(5,pt b1 0),(24,.bool ((decide (a1<(0:Int)))||(decide (a1≥a0.c.Tasks))))]∧w2=w') ?_ ?_
 ·rcases boolCases (decide (a1<(0:Int))) with hb4 | hb4
  ·skip
   refine W_yes (congrArg some hb4) (W_v (.int .i64 a1) (x_move rfl) rfl (W_yes (congrArg some hb4) (W_v (pt bo0 0) (x_move rfl) rfl (W_yes (congrArg some hb4) (W_v (pt bo0 0) (x_nilptr rfl) rfl (W_yes (congrArg some hb4) (W_v (pt bo0 0) (x_fieldAddr (o:=0) (off:=0) Tryd.underlying94 rfl ty23 rfl rfl) rfl (W_yes (congrArg some hb4) (W_v (pt bo0 0) (x_fieldAddr (o:=0) (off:=0) Tryd.underlying23 rfl ty3 rfl rfl) rfl (W_yes (congrArg some hb4) (W_v (.int .i64 a0.c.Tasks) (x_load (S.blk 1 rfl) ty3 rfl rfl) rfl (W_yes (congrArg some hb4) (W_v (.bool (decide (a1≥a0.c.Tasks))) (x_ibin rfl rfl rfl rfl) rfl (W_v (.bool (decide (a1≥a0.c.Tasks))) (x_pick (k:=false) (congrArg Value.bool hb4) rfl) rfl (Wl_nil ?_)))))))))))))))
   exact ⟨⟨rfl,rfl,rfl,(by first | rfl | (rw [hb4];rfl) | (simp only [hb4];rfl)),trivial⟩,rfl⟩
  ·skip
   refine W_no (skF hb4) rfl (W_no (skF hb4) rfl (W_no (skF hb4) rfl (W_no (skF hb4) rfl (W_no (skF hb4) rfl (W_no (skF hb4) rfl (W_no (skF hb4) rfl (W_v (.bool true) (x_pick (k:=true) (congrArg Value.bool hb4) rfl) rfl (Wl_nil ?_))))))))
   exact ⟨⟨rfl,rfl,rfl,(by first | rfl | (rw [hb4];rfl) | (simp only [hb4];rfl)),trivial⟩,rfl⟩
 as_aux_lemma =>
 rintro ρ _ ⟨hρ,rfl⟩
 rw [agree_eta hρ]
 refine W_v (.bool ((decide (a1<(0:Int)))||(decide (a1≥a0.c.Tasks)))) (x_move rfl) rfl ?_
 refine Wl_cutN 4 (fun ρ w'=>Agree ρ [(0,pt bo0 0),(1,.int .i64 a1),(5,pt b1 0),(29,.bool (((decide (a1<(0:Int)))||(decide (a1≥a0.c.Tasks)))||(decide (a2.Kind<(1:Int)))))]∧w2=w') ?_ ?_
 ·rcases boolCases ((decide (a1<(0:Int)))||(decide (a1≥a0.c.Tasks))) with hb5 | hb5
  ·skip
   refine W_yes (congrArg some hb5) (W_v (pt b1 0) (x_fieldAddr (o:=0) (off:=0) Tryd.underlying37 rfl ty5 rfl rfl) rfl (W_yes (congrArg some hb5) (W_v (.int .u8 a2.Kind) (x_load (S.blk 0 rfl) ty5 rfl rfl) rfl (W_yes (congrArg some hb5) (W_v (.bool (decide (a2.Kind<(1:Int)))) (x_ibin rfl rfl rfl rfl) rfl (W_v (.bool (decide (a2.Kind<(1:Int)))) (x_pick (k:=false) (congrArg Value.bool hb5) rfl) rfl (Wl_nil ?_)))))))
   exact ⟨⟨rfl,rfl,rfl,(by first | rfl | (rw [hb5];rfl) | (simp only [hb5];rfl)),trivial⟩,rfl⟩
  ·skip
   refine W_no (skF hb5) rfl (W_no (skF hb5) rfl (W_no (skF hb5) rfl (W_v (.bool true) (x_pick (k:=true) (congrArg Value.bool hb5) rfl) rfl (Wl_nil ?_))))
   exact ⟨⟨rfl,rfl,rfl,(by first | rfl | (rw [hb5];rfl) | (simp only [hb5];rfl)),trivial⟩,rfl⟩
 as_aux_lemma =>
 rintro ρ _ ⟨hρ,rfl⟩
 rw [agree_eta hρ]
 refine W_v (.bool (((decide (a1<(0:Int)))||(decide (a1≥a0.c.Tasks)))||(decide (a2.Kind<(1:Int))))) (x_move rfl) rfl ?_
 refine Wl_cutN 4 (fun ρ w'=>Agree ρ [(0,pt bo0 0),(1,.int .i64 a1),(5,pt b1 0),(34,.bool ((((decide (a1<(0:Int)))||(decide (a1≥a0.c.Tasks)))||(decide (a2.Kind<(1:Int))))||(decide (a2.Kind>(9:Int)))))]∧w2=w') ?_ ?_
 ·rcases boolCases (((decide (a1<(0:Int)))||(decide (a1≥a0.c.Tasks)))||(decide (a2.Kind<(1:Int)))) with hb6 | hb6
  ·skip
   refine W_yes (congrArg some hb6) (W_v (pt b1 0) (x_fieldAddr (o:=0) (off:=0) Tryd.underlying37 rfl ty5 rfl rfl) rfl (W_yes (congrArg some hb6) (W_v (.int .u8 a2.Kind) (x_load (S.blk 0 rfl) ty5 rfl rfl) rfl (W_yes (congrArg some hb6) (W_v (.bool (decide (a2.Kind>(9:Int)))) (x_ibin rfl rfl rfl rfl) rfl (W_v (.bool (decide (a2.Kind>(9:Int)))) (x_pick (k:=false) (congrArg Value.bool hb6) rfl) rfl (Wl_nil ?_)))))))
   exact ⟨⟨rfl,rfl,rfl,(by first | rfl | (rw [hb6];rfl) | (simp only [hb6];rfl)),trivial⟩,rfl⟩
  ·skip
   refine W_no (skF hb6) rfl (W_no (skF hb6) rfl (W_no (skF hb6) rfl (W_v (.bool true) (x_pick (k:=true) (congrArg Value.bool hb6) rfl) rfl (Wl_nil ?_))))
   exact ⟨⟨rfl,rfl,rfl,(by first | rfl | (rw [hb6];rfl) | (simp only [hb6];rfl)),trivial⟩,rfl⟩
 as_aux_lemma =>
 rintro ρ _ ⟨hρ,rfl⟩
 rw [agree_eta hρ]
 refine W_v (.bool ((((decide (a1<(0:Int)))||(decide (a1≥a0.c.Tasks)))||(decide (a2.Kind<(1:Int))))||(decide (a2.Kind>(9:Int))))) (x_assign rfl) rfl (Wl_nil (tn ?_))
 rcases iteS H with ⟨hb7,H⟩ | ⟨hb7,H⟩
 ·refine Wp_cond_true (congrArg Value.bool hb7) ?_
  refine Wp_seq (Wp_region_lit (W_v (.int .i64 1) (x_assign rfl) rfl (Wl_nil (tn ?_))))
  refine Wp_ret ?_
  refine br (tr (?_))
  obtain rfl:=Option.some.inj H
  exact ⟨_,_,_,fun w1 e1=>run_resR (vs:=[.int .i64 1]) (FA.cons (rfl) (FA.nil)),HM,E,S.pick [1,2,3,4,5] (by decide),⟨rfl,rfl⟩⟩
 refine Wp_cond_false (congrArg Value.bool hb7) (Wp_seq (Wp_region_lit (W_v (pt b1 0) (x_fieldAddr (o:=0) (off:=0) Tryd.underlying37 rfl ty5 rfl rfl) rfl (W_v (.int .u8 a2.Kind) (x_load (S.blk 0 rfl) ty5 rfl rfl) rfl (W_v (.bool (a2.Kind==(9:Int))) (x_ibin rfl rfl rfl rfl) rfl (W_v (.bool (a2.Kind==(9:Int))) (x_move rfl) rfl ?_))))))
 refine Wl_cutN 4 (fun ρ w'=>Agree ρ [(0,pt bo0 0),(1,.int .i64 a1),(5,pt b1 0),(43,.bool ((a2.Kind==(9:Int))&&(a2.Engine != (1:Int))))]∧w2=w') ?_ ?_
 ·rcases boolCases (a2.Kind==(9:Int)) with hb8 | hb8
  ·skip
   refine W_no (skT hb8) rfl (W_no (skT hb8) rfl (W_no (skT hb8) rfl (W_v (.bool false) (x_pick (k:=false) (congrArg Value.bool hb8) rfl) rfl (Wl_nil ?_))))
   exact ⟨⟨rfl,rfl,rfl,(by first | rfl | (rw [hb8];rfl) | (simp only [hb8];rfl)),trivial⟩,rfl⟩
  ·skip
   refine W_yes (congrArg some hb8) (W_v (pt b1 6) (x_fieldAddr (o:=0) (off:=6) Tryd.underlying37 rfl ty5 rfl rfl) rfl (W_yes (congrArg some hb8) (W_v (.int .u8 a2.Engine) (x_load (S.blk 0 rfl) ty5 rfl rfl) rfl (W_yes (congrArg some hb8) (W_v (.bool (a2.Engine != (1:Int))) (x_ibin rfl rfl rfl rfl) rfl (W_v (.bool (a2.Engine != (1:Int))) (x_pick (k:=true) (congrArg Value.bool hb8) rfl) rfl (Wl_nil ?_)))))))
   exact ⟨⟨rfl,rfl,rfl,(by first | rfl | (rw [hb8];rfl) | (simp only [hb8];rfl)),trivial⟩,rfl⟩
 as_aux_lemma =>
 rintro ρ _ ⟨hρ,rfl⟩
 rw [agree_eta hρ]
 refine W_v (.bool ((a2.Kind==(9:Int))&&(a2.Engine != (1:Int)))) (x_move rfl) rfl ?_
 refine Wl_cutN 4 (fun ρ w'=>Agree ρ [(0,pt bo0 0),(1,.int .i64 a1),(5,pt b1 0),(48,.bool (((a2.Kind==(9:Int))&&(a2.Engine != (1:Int)))&&(a2.Engine != (2:Int))))]∧w2=w') ?_ ?_
 ·rcases boolCases ((a2.Kind==(9:Int))&&(a2.Engine != (1:Int))) with hb9 | hb9
  ·skip
   refine W_no (skT hb9) rfl (W_no (skT hb9) rfl (W_no (skT hb9) rfl (W_v (.bool false) (x_pick (k:=false) (congrArg Value.bool hb9) rfl) rfl (Wl_nil ?_))))
   exact ⟨⟨rfl,rfl,rfl,(by first | rfl | (rw [hb9];rfl) | (simp only [hb9];rfl)),trivial⟩,rfl⟩
  ·skip
   refine W_yes (congrArg some hb9) (W_v (pt b1 6) (x_fieldAddr (o:=0) (off:=6) Tryd.underlying37 rfl ty5 rfl rfl) rfl (W_yes (congrArg some hb9) (W_v (.int .u8 a2.Engine) (x_load (S.blk 0 rfl) ty5 rfl rfl) rfl (W_yes (congrArg some hb9) (W_v (.bool (a2.Engine != (2:Int))) (x_ibin rfl rfl rfl rfl) rfl (W_v (.bool (a2.Engine != (2:Int))) (x_pick (k:=true) (congrArg Value.bool hb9) rfl) rfl (Wl_nil ?_)))))))
   exact ⟨⟨rfl,rfl,rfl,(by first | rfl | (rw [hb9];rfl) | (simp only [hb9];rfl)),trivial⟩,rfl⟩
 as_aux_lemma =>
 rintro ρ _ ⟨hρ,rfl⟩
 rw [agree_eta hρ]
 refine W_v (.bool (((a2.Kind==(9:Int))&&(a2.Engine != (1:Int)))&&(a2.Engine != (2:Int)))) (x_assign rfl) rfl (Wl_nil (tn ?_))
 rcases iteS H with ⟨hb10,H⟩ | ⟨hb10,H⟩
 ·refine Wp_cond_true (congrArg Value.bool hb10) ?_
  refine Wp_seq (Wp_region_lit (W_v (.int .i64 1) (x_assign rfl) rfl (Wl_nil (tn ?_))))
  refine Wp_ret ?_
  refine br (tr (?_))
  obtain rfl:=Option.some.inj H
  exact ⟨_,_,_,fun w1 e1=>run_resR (vs:=[.int .i64 1]) (FA.cons (rfl) (FA.nil)),HM,E,S.pick [1,2,3,4,5] (by decide),⟨rfl,rfl⟩⟩
 refine Wp_cond_false (congrArg Value.bool hb10) (Wp_skip (bn (tn (Wp_seq (Wp_seq (Wp_region_lit (W_v (pt b1 0) (x_fieldAddr (o:=0) (off:=0) Tryd.underlying37 rfl ty5 rfl rfl) rfl (W_v (.int .u8 a2.Kind) (x_load (S.blk 0 rfl) ty5 rfl rfl) rfl ?_))))))))
 obtain ⟨t11,ht12,H⟩:=bindS H
 refine W_callF fn43 (model_needs.con k M a2.Kind t11  ht12) S rfl rfl (by rintro _ _ _ ⟨_,rfl⟩;exact flat_nil) ?_
 rintro _ w13 _ Γ' E' S ⟨rfl,rfl⟩
 replace E:=E.trans E'
 refine Wl_nil (tn ?_)
 rcases iteS H with ⟨hb14,H⟩ | ⟨hb14,H⟩
 ·refine Wp_cond_true (congrArg Value.bool hb14) ?_
  refine Wp_seq (Wp_region_lit (W_v (pt bo0 0) (x_move rfl) rfl (W_v (.int .i64 a1) (x_move rfl) rfl (W_v (pt b1 1) (x_fieldAddr (o:=0) (off:=1) Tryd.underlying37 rfl ty3 rfl rfl) rfl (W_v (.int .i64 a2.Tx) (x_load (S.blk 0 rfl) ty3 rfl rfl) rfl ?_)))))
  obtain ⟨t15,ht16,H⟩:=bindS H
  replace S:St w13 M F [_,_,_,_,_,_]:=S.pick [1,2,3,4,5,0] (by decide)
  refine W_callF2 fn23 (model_Model_Tx_POOOO.con k M A0_8 c0_8 A0_9 c0_9 A0_10 c0_10 A0_11 c0_11 vs0_11 a0 a1 a2.Tx bo0 t15 hm0_11 ht16) (Γ1:=[_,_,_,_,_]) (Γ2:=[_]) S rfl rfl (by rintro _ _ _ ⟨rfl,rfl⟩;exact (flat_cons flat_blk (flat_cons flat_map (flat_cons flat_map (flat_cons (flat_row (fun _ _ _ _ h=>h)) (flat_cons flat_map flat_nil)))))) ?_
  rintro _ w17 _ Γ' E' S ⟨rfl,rfl⟩
  replace E:=E.trans E'
  replace S:St w17 M F [_,_,_,_,_,_]:=S
  refine W_v (.tuple #[.int .i64 t15.1,.int .u8 t15.2.1,.int .i64 t15.2.2]) (x_move rfl) rfl (W_v (.int .i64 t15.1) (x_extract rfl rfl) rfl (W_v (.int .u8 t15.2.1) (x_extract rfl rfl) rfl (W_v (.int .i64 t15.2.2) (x_extract rfl rfl) rfl (W_v (.int .i64 t15.1) (x_assign rfl) rfl (W_v (.int .u8 t15.2.1) (x_assign rfl) rfl (W_v (.int .i64 t15.2.2) (x_assign rfl) rfl (Wl_nil (tn (Wp_seq (Wp_region_lit (W_v (.int .u8 t15.2.1) (x_move rfl) rfl (Wl_nil (tn ?_)))))))))))))
  refine Wp_block ?_
  refine Wp_seq (Wp_region_lit (W_v (.bool (t15.2.1==(1:Int))) (x_ibin rfl rfl rfl rfl) rfl (W_v (.bool (t15.2.1==(1:Int))) (x_assign rfl) rfl (Wl_nil (tn ?_)))))
  rcases iteS H with ⟨hb20,H⟩ | ⟨hb20,H⟩
  ·refine Wp_cond_true (congrArg Value.bool hb20) ?_
   refine Wp_skip (bn (tn (Wp_seq (Wp_seq (Wp_region_lit (W_v (pt bo0 0) (x_move rfl) rfl (W_v (.agg #[.int .u8 a2.Kind,.int .i64 a2.Tx,.string (bs a2.Key),.string (bs a2.End),.string (bs a2.Value),.int .i64 a2.Limit,.int .u8 a2.Engine]) (x_loadA (S.blk 5 rfl) ty37 rfl (sub_of_extract rfl) rfl rfl) rfl ?_)))))))
   obtain ⟨t21,ht22,H⟩:=bindS H
   refine W_callF2 fn44 (model_Model_fits_POOOO.con k M A0_8 c0_8 A0_9 c0_9 A0_10 c0_10 A0_11 c0_11 vs0_11 a0 a2 bo0 t21 hm0_11 ht22) (Γ1:=[_,_,_,_,_]) (Γ2:=[_]) S rfl rfl (by rintro _ _ _ ⟨rfl,rfl⟩;exact (flat_cons flat_blk (flat_cons flat_map (flat_cons flat_map (flat_cons (flat_row (fun _ _ _ _ h=>h)) (flat_cons flat_map flat_nil)))))) ?_
   rintro _ w23 _ Γ' E' S ⟨rfl,rfl⟩
   replace E:=E.trans E'
   replace S:St w23 M F [_,_,_,_,_,_]:=S
   refine W_v (.bool (!t21)) (x_not (b:=t21) rfl) rfl (Wl_nil (tn ?_))
   rcases iteS H with ⟨hb26,H⟩ | ⟨hb26,H⟩
   ·refine Wp_cond_true (congrArg Value.bool hb26) ?_
    refine Wp_seq (Wp_region_lit (W_v (.int .i64 32) (x_assign rfl) rfl (Wl_nil (tn ?_))))
    refine Wp_ret ?_
    refine tr (?_)
    obtain rfl:=Option.some.inj H
    exact ⟨_,_,_,fun w1 e1=>run_resR (vs:=[.int .i64 32]) (FA.cons (rfl) (FA.nil)),HM,E,S.pick [0,1,2,3,4] (by decide),⟨rfl,rfl⟩⟩
   refine Wp_cond_false (congrArg Value.bool hb26) (Wp_skip (tn (Wp_seq (Wp_region_lit (W_v (.int .i64 0) (x_assign rfl) rfl (Wl_nil (tn ?_)))))))
   refine Wp_ret ?_
   obtain rfl:=Option.some.inj H
   exact ⟨_,_,_,fun w1 e1=>run_resR (vs:=[.int .i64 0]) (FA.cons (rfl) (FA.nil)),HM,E,S.pick [0,1,2,3,4] (by decide),⟨rfl,rfl⟩⟩
  refine Wp_cond_false (congrArg Value.bool hb20) ?_
  as_aux_lemma =>
  refine Wp_seq (Wp_region_lit (W_v (.bool (t15.2.1==(0:Int))) (x_ibin rfl rfl rfl rfl) rfl (W_v (.bool (t15.2.1==(0:Int))) (x_assign rfl) rfl (Wl_nil (tn ?_)))))
  rcases iteS H with ⟨hb27,H⟩ | ⟨hb27,H⟩
  ·refine Wp_cond_true (congrArg Value.bool hb27) ?_
   refine Wp_seq (Wp_region_lit (W_v (.int .i64 30) (x_assign rfl) rfl (Wl_nil (tn ?_))))
   refine Wp_ret ?_
   refine br (tr (?_))
   obtain rfl:=Option.some.inj H
   exact ⟨_,_,_,fun w1 e1=>run_resR (vs:=[.int .i64 30]) (FA.cons (rfl) (FA.nil)),HM,E,S.pick [0,1,2,3,4] (by decide),⟨rfl,rfl⟩⟩
  refine Wp_cond_false (congrArg Value.bool hb27) (Wp_seq (Wp_region_lit (W_v (.int .i64 31) (x_assign rfl) rfl (Wl_nil (tn ?_)))))
  refine Wp_ret ?_
  refine br (tr (?_))
  obtain rfl:=Option.some.inj H
  exact ⟨_,_,_,fun w1 e1=>run_resR (vs:=[.int .i64 31]) (FA.cons (rfl) (FA.nil)),HM,E,S.pick [0,1,2,3,4] (by decide),⟨rfl,rfl⟩⟩
 refine Wp_cond_false (congrArg Value.bool hb14) (Wp_skip (tn ?_))
 as_aux_lemma =>
 refine Wp_seq (Wp_seq (Wp_region_lit (W_v (pt bo0 0) (x_move rfl) rfl (W_v (.agg #[.int .u8 a2.Kind,.int .i64 a2.Tx,.string (bs a2.Key),.string (bs a2.End),.string (bs a2.Value),.int .i64 a2.Limit,.int .u8 a2.Engine]) (x_loadA (S.blk 0 rfl) ty37 rfl (sub_of_extract rfl) rfl rfl) rfl ?_))))
 obtain ⟨t28,ht29,H⟩:=bindS H
 replace S:St w13 M F [_,_,_,_,_,_]:=S.pick [1,2,3,4,5,0] (by decide)
 refine W_callF2 fn44 (model_Model_fits_POOOO.con k M A0_8 c0_8 A0_9 c0_9 A0_10 c0_10 A0_11 c0_11 vs0_11 a0 a2 bo0 t28 hm0_11 ht29) (Γ1:=[_,_,_,_,_]) (Γ2:=[_]) S rfl rfl (by rintro _ _ _ ⟨rfl,rfl⟩;exact (flat_cons flat_blk (flat_cons flat_map (flat_cons flat_map (flat_cons (flat_row (fun _ _ _ _ h=>h)) (flat_cons flat_map flat_nil)))))) ?_
 rintro _ w30 _ Γ' E' S ⟨rfl,rfl⟩
 replace E:=E.trans E'
 replace S:St w30 M F [_,_,_,_,_,_]:=S
 refine W_v (.bool (!t28)) (x_not (b:=t28) rfl) rfl (Wl_nil (tn ?_))
 rcases iteS H with ⟨hb33,H⟩ | ⟨hb33,H⟩
 ·refine Wp_cond_true (congrArg Value.bool hb33) ?_
  refine Wp_seq (Wp_region_lit (W_v (.int .i64 32) (x_assign rfl) rfl (Wl_nil (tn ?_))))
  refine Wp_ret ?_
  refine tr (?_)
  obtain rfl:=Option.some.inj H
  exact ⟨_,_,_,fun w1 e1=>run_resR (vs:=[.int .i64 32]) (FA.cons (rfl) (FA.nil)),HM,E,S.pick [0,1,2,3,4] (by decide),⟨rfl,rfl⟩⟩
 refine Wp_cond_false (congrArg Value.bool hb33) (Wp_skip (tn (Wp_seq (Wp_region_lit (W_v (.int .i64 0) (x_assign rfl) rfl (Wl_nil (tn ?_)))))))
 refine Wp_ret ?_
 obtain rfl:=Option.some.inj H
 exact ⟨_,_,_,fun w1 e1=>run_resR (vs:=[.int .i64 0]) (FA.cons (rfl) (FA.nil)),HM,E,S.pick [0,1,2,3,4] (by decide),⟨rfl,rfl⟩⟩
def model_Model_Active_POOOO_l0 (a0:model_Model):Nat→Int→Int→Option ((Int))
 | 0,_,_=>none
 | k+1,x93,x94=>(if (decide (x94<(a0.txs.length:Int)))=true then (Option.bind (α:=Int) (if 0≤x94∧x94<(a0.txs.length:Int) then (Option.bind (α:=Int) (if ((rd a0.txs x94).state==(1:Int))=true then some ((IntKind.i64.wrap (x93+(1:Int)))) else some (x93)) (fun x181=>some (x181))) else none) (fun x163=>model_Model_Active_POOOO_l0 a0 k x163 (IntKind.i64.wrap (x94+(1:Int))))) else some (x93))
set_option maxHeartbeats 2000000 in
theorem model_Model_Active_POOOO_l0.mono {a0:model_Model}:∀ {kl:Nat} {x0 x1},OLe (model_Model_Active_POOOO_l0 a0 kl x0 x1) (model_Model_Active_POOOO_l0 a0 (kl+1) x0 x1):=by
 intro kl
 induction kl with
 | zero=>intros;exact OLe.none
 | succ kl ih =>
  intros
  rw [model_Model_Active_POOOO_l0.eq_2,model_Model_Active_POOOO_l0.eq_2]
  repeat' (first | with_reducible exact OLe.none | with_reducible exact OLe.some | with_reducible refine OLe.ite ?_ ?_ | with_reducible refine OLe.bind ?_ (fun _=>?_) | exact ih | refine OLe.bind ?_ (fun _=>?_) | refine OLe.ite ?_ ?_ | refine OLe.elim (fun _=>?_) (fun _=>?_) | split)
def model_Model_Active_POOOO (k:Nat) (a0:model_Model):Option (Int) :=
 (Option.bind (model_Model_Active_POOOO_l0 a0 k (0:Int) (0:Int)) (fun x139=>some x139))
set_option maxHeartbeats 2000000 in
theorem model_Model_Active_POOOO.mono {k:Nat} {a0:model_Model}:OLe (model_Model_Active_POOOO k a0) (model_Model_Active_POOOO (k+1) a0):=by
 unfold model_Model_Active_POOOO
 repeat' (first | with_reducible exact OLe.none | with_reducible exact OLe.some | with_reducible refine OLe.ite ?_ ?_ | with_reducible refine OLe.bind ?_ (fun _=>?_) | with_reducible exact model_Model_Active_POOOO_l0.mono | refine OLe.bind ?_ (fun _=>?_) | refine OLe.ite ?_ ?_ | refine OLe.elim (fun _=>?_) (fun _=>?_) | split)
set_option maxHeartbeats 4000000 in
set_option maxRecDepth 100000 in
theorem model_Model_Active_POOOO.con (k:Nat) (M:Hp) (A0_8:Option Addr) (c0_8:Nat) (A0_9:Option Addr) (c0_9:Nat) (A0_10:Option Addr) (c0_10:Nat) (A0_11:Option Addr) (c0_11:Nat) (vs0_11:List (Str×Value)) (a0:model_Model) (bo0:Nat) (r:Int) (hm0_11:MRel r_model_row M a0.rows vs0_11) (h:model_Model_Active_POOOO k a0=some r):Con Tryd.prog 21 #[pt bo0 0] M [B94 bo0 a0 A0_8 A0_9 A0_10 c0_10 A0_11,MapC enc_model_name (Value.int .i64) A0_8 a0.names,MapC (Value.int .i64) (Value.int .i64) A0_9 a0.many,Row r_model_tx 99 (.slice A0_10 a0.txs.length c0_10) a0.txs,MapC encS (fun v:Value=>v) A0_11 vs0_11] (fun v M' Γ'=>v=.int .i64 r∧Γ'=[B94 bo0 a0 A0_8 A0_9 A0_10 c0_10 A0_11,MapC enc_model_name (Value.int .i64) A0_8 a0.names,MapC (Value.int .i64) (Value.int .i64) A0_9 a0.many,Row r_model_tx 99 (.slice A0_10 a0.txs.length c0_10) a0.txs,MapC encS (fun v:Value=>v) A0_11 vs0_11]):=by
 refine con_of_wp Tryd.func21 rfl Tryd.ntmps21 Tryd.results21 rfl ?_
 intro w F rn S hrn
 have E:=Ext.refl w
 have HM:=Hp.le_refl M
 have H:=h
 unfold model_Model_Active_POOOO at H
 refine Wp_seq (Wp_region_lit (W_v (.int .i64 0) (x_assign rfl) rfl (Wl_nil (tn (Wp_seq (Wp_region_lit (W_v (.int .i64 0) (x_assign rfl) rfl (Wl_nil (tn (Wp_seq (Wp_seq (Wp_region_lit (W_v (pt bo0 0) (x_move rfl) rfl (W_v (.bool false) (x_eq_of (r:=false) rfl rfl (run_eq_ptrsn Tryd.underlying27)) rfl (Wl_nil ?_)))))))))))))))
 refine tn (Wp_cond_false rfl (Wp_skip (tn (Wp_seq (Wp_seq (Wp_region_lit (W_v (pt bo0 0) (x_move rfl) rfl (W_v (pt bo0 0) (x_nilptr rfl) rfl (W_v (pt bo0 10) (x_fieldAddr (o:=0) (off:=10) Tryd.underlying94 rfl ty92 rfl rfl) rfl (W_v (.slice A0_10 a0.txs.length c0_10) (x_load (S.blk 0 rfl) ty92 rfl rfl) rfl (W_v (.int .i64 (a0.txs.length:Int)) (x_len_slice (n:=a0.txs.length) Tryd.underlying92 rfl) rfl (W_v (.int .i64 0) (x_move rfl) rfl (Wl_nil (tn ?_))))))))))))))
 obtain ⟨o140,o140h,o140H⟩:=bindS H
 refine Wp_blockJ (fun ρ w'=>∃ (x139:Int),(x139)=o140∧Agree ρ [(3,.int .i64 x139)]∧Ext w w'∧St w' M F [B94 bo0 a0 A0_8 A0_9 A0_10 c0_10 A0_11,MapC enc_model_name (Value.int .i64) A0_8 a0.names,MapC (Value.int .i64) (Value.int .i64) A0_9 a0.many,Row r_model_tx 99 (.slice A0_10 a0.txs.length c0_10) a0.txs,MapC encS (fun v:Value=>v) A0_11 vs0_11]) ?_ ?_
 ·skip
  refine Wp_loop (fun n ρ w'=>∃ (x93:Int) (x94:Int),model_Model_Active_POOOO_l0 a0 n x93 x94=some o140∧Agree ρ [(3,.int .i64 x93),(12,.slice A0_10 a0.txs.length c0_10),(13,.int .i64 (a0.txs.length:Int)),(14,.int .i64 x94)]∧Ext w w'∧St w' M F [B94 bo0 a0 A0_8 A0_9 A0_10 c0_10 A0_11,MapC enc_model_name (Value.int .i64) A0_8 a0.names,MapC (Value.int .i64) (Value.int .i64) A0_9 a0.many,Row r_model_tx 99 (.slice A0_10 a0.txs.length c0_10) a0.txs,MapC encS (fun v:Value=>v) A0_11 vs0_11]) k ?_ ?_
  ·skip
   exact ⟨(0:Int),(0:Int),o140h,⟨rfl,rfl,rfl,rfl,trivial⟩,E,S.pick [0,1,2,3,4] (by decide)⟩
  ·intro n
   rintro ρ w141 ⟨x93,x94,H,hρ,E,S⟩
   rw [agree_eta hρ]
   cases n with
   | zero=>cases H
   | succ k =>
    rw [model_Model_Active_POOOO_l0.eq_2] at H
    refine Wp_seq (Wp_region_lit (W_v (.bool (decide (x94<(a0.txs.length:Int)))) (x_ibin rfl rfl rfl rfl) rfl (Wl_nil (tn (Wp_seq ?_)))))
    rcases iteS H with ⟨hb142,H⟩ | ⟨hb142,H⟩
    ·refine Wp_cond_true (congrArg Value.bool hb142) ?_
     refine Wp_skip (tn (Wp_seq ?_))
     obtain ⟨o164,o164h,o164H⟩:=bindS H
     refine Wp_cut (fun ρ w'=>∃ (x163:Int),(x163)=o164∧Agree ρ [(3,.int .i64 x163),(12,.slice A0_10 a0.txs.length c0_10),(13,.int .i64 (a0.txs.length:Int)),(14,.int .i64 x94)]∧Ext w w'∧St w' M F [B94 bo0 a0 A0_8 A0_9 A0_10 c0_10 A0_11,MapC enc_model_name (Value.int .i64) A0_8 a0.names,MapC (Value.int .i64) (Value.int .i64) A0_9 a0.many,Row r_model_tx 99 (.slice A0_10 a0.txs.length c0_10) a0.txs,MapC encS (fun v:Value=>v) A0_11 vs0_11]) ?_ ?_
     ·as_aux_lemma =>
       clear o164H
       have H:=o164h
       refine Wp_block ?_
       refine Wp_seq (Wp_region_lit ?_)
       obtain ⟨⟨p165,p166⟩,H⟩:=chkS H
       obtain ⟨b167,o168,cs169,_,_,ee174,hb170,vs171,hR172,hc173⟩:=SlW.at' (S.row_read 3 rfl) p165 p166
       obtain rfl:vs171=_:=hR172
       refine W_v (.pointer (some ⟨b167,o168+x94.toNat*2,none⟩)) (x_indexAddr Tryd.underlying92 ty99 (slA ee174) rfl p165 p166) rfl (W_v (.agg #[.int .u8 ((rd a0.txs x94).state),.int .i64 ((rd a0.txs x94).snapshot)]) (x_loadA (Hp.of_get hb170) ty99 rfl (sub_el hc173 0 rfl) rfl rfl) rfl ?_)
       refine W_alloc S #[.int .u8 0,.int .i64 0] ty99 rfl rfl ?_
       intro b175 w176 E' S
       replace E:=E.trans E'
       refine W_store S 0 rfl ty99 rfl rfl [.int .u8 ((rd a0.txs x94).state),.int .i64 ((rd a0.txs x94).snapshot)] rfl rfl rfl #[.int .u8 ((rd a0.txs x94).state),.int .i64 ((rd a0.txs x94).snapshot)] rfl rfl ?_
       intro w178 E' S
       replace E:=E.trans E'
       refine Wl_nil (tn (Wp_seq (Wp_region_lit (W_v (pt b175 0) (x_fieldAddr (o:=0) (off:=0) Tryd.underlying99 rfl ty5 rfl rfl) rfl (W_v (.int .u8 ((rd a0.txs x94).state)) (x_load (S.blk 0 rfl) ty5 rfl rfl) rfl (W_v (.bool ((rd a0.txs x94).state==(1:Int))) (x_ibin rfl rfl rfl rfl) rfl (Wl_nil (tn ?_))))))))
       obtain ⟨o182,o182h,o182H⟩:=bindS H
       refine Wp_cut (fun ρ w'=>∃ (x181:Int),(x181)=o182∧Agree ρ [(3,.int .i64 x181),(12,.slice A0_10 a0.txs.length c0_10),(13,.int .i64 (a0.txs.length:Int)),(14,.int .i64 x94)]∧Ext w w'∧St w' M F [B94 bo0 a0 A0_8 A0_9 A0_10 c0_10 A0_11,MapC enc_model_name (Value.int .i64) A0_8 a0.names,MapC (Value.int .i64) (Value.int .i64) A0_9 a0.many,Row r_model_tx 99 (.slice A0_10 a0.txs.length c0_10) a0.txs,MapC encS (fun v:Value=>v) A0_11 vs0_11]) ?_ ?_
       ·clear o182H
        have H:=o182h
        rcases iteS H with ⟨hb183,H⟩ | ⟨hb183,H⟩
        ·refine Wp_cond_true (congrArg Value.bool hb183) ?_
         refine Wp_region_lit (W_v (.int .i64 x93) (x_move rfl) rfl (W_v (.int .i64 (IntKind.i64.wrap (x93+(1:Int)))) (x_ibin rfl rfl rfl rfl) rfl (W_v (.int .i64 (IntKind.i64.wrap (x93+(1:Int)))) (x_assign rfl) rfl (Wl_nil (tn ?_)))))
         exact ⟨(IntKind.i64.wrap (x93+(1:Int))),Option.some.inj H,⟨rfl,rfl,rfl,rfl,trivial⟩,E,S.pick [1,2,3,4,5] (by decide)⟩
        refine Wp_cond_false (congrArg Value.bool hb183) (Wp_skip (tn ?_))
        exact ⟨x93,Option.some.inj H,⟨rfl,rfl,rfl,rfl,trivial⟩,E,S.pick [1,2,3,4,5] (by decide)⟩
       rintro ρ w184 ⟨x181,rfl,hρ,E,S⟩
       rw [agree_eta hρ]
       have H:=o182H
       refine bn (tn ?_)
       exact ⟨x181,Option.some.inj H,⟨rfl,rfl,rfl,rfl,trivial⟩,E,S.pick [0,1,2,3,4] (by decide)⟩
     rintro ρ w185 ⟨x163,rfl,hρ,E,S⟩
     rw [agree_eta hρ]
     have H:=o164H
     refine tn (Wp_region_lit (W_v (.int .i64 (IntKind.i64.wrap (x94+(1:Int)))) (x_ibin rfl rfl rfl rfl) rfl (W_v (.int .i64 (IntKind.i64.wrap (x94+(1:Int)))) (x_move rfl) rfl (Wl_nil (tn ?_)))))
     exact ⟨k,Nat.lt_succ_self k,⟨x163,(IntKind.i64.wrap (x94+(1:Int))),H,⟨rfl,rfl,rfl,rfl,trivial⟩,E,S.pick [0,1,2,3,4] (by decide)⟩⟩
    refine Wp_cond_false (congrArg Value.bool hb142) ?_
    refine Wp_exit ?_
    refine tx (tx (bsm (?_)))
    refine tn ?_
    exact ⟨x93,Option.some.inj H,⟨rfl,trivial⟩,E,S.pick [0,1,2,3,4] (by decide)⟩
 rintro ρ w186 ⟨x139,rfl,hρ,E,S⟩
 rw [agree_eta hρ]
 have H:=o140H
 refine tn ?_
 as_aux_lemma =>
 refine Wp_seq (Wp_region_lit (W_v (.int .i64 x139) (x_move rfl) rfl (W_v (.int .i64 x139) (x_assign rfl) rfl (Wl_nil (tn ?_)))))
 refine Wp_ret ?_
 obtain rfl:=Option.some.inj H
 exact ⟨_,_,_,fun w1 e1=>run_resR (vs:=[.int .i64 x139]) (FA.cons (rfl) (FA.nil)),HM,E,S.pick [0,1,2,3,4] (by decide),⟨rfl,rfl⟩⟩
def model_Model_begin_POOOO (k:Nat) (a0:model_Model) (a1:Int) (a2:Int) (a3:api_Call):Option (api_Answer×model_Model) :=
 (Option.bind (model_Model_Active_POOOO k a0) (fun t14=>(if (decide (t14≥a0.c.Active))=true then some ((⟨(34:Int),false,([]:Str),([]:List api_Pair)⟩:api_Answer),a0) else (if a0.txs.length+([(⟨(1:Int),(a0.clock)⟩:model_tx)]:List model_tx).length≤8796093022208 then (Option.bind (α:=List (Int×Int)) (some (mput a0.many a2 (IntKind.i64.wrap (((mget a0.many a2).getD (0:Int))+(1:Int))))) (fun x49=>(Option.bind (α:=List (model_name×Int)) (some (mput a0.names (⟨a2,((mget x49 a2).getD (0:Int))⟩:model_name) ((a0.txs++([(⟨(1:Int),(a0.clock)⟩:model_tx)]:List model_tx)).length:Int))) (fun x57=>some ((⟨(0:Int),false,([]:Str),([]:List api_Pair)⟩:api_Answer),(⟨⟨a0.c.Tasks,a0.c.Active,a0.c.Keys,a0.c.Depth,a0.c.TS,a0.c.KeyLen,a0.c.ValLen,a0.c.Fan⟩,x57,x49,(a0.txs++([(⟨(1:Int),(a0.clock)⟩:model_tx)]:List model_tx)),a0.rows,a0.clock,a0.floor⟩:model_Model)))))) else none))))
set_option maxHeartbeats 2000000 in
theorem model_Model_begin_POOOO.mono {k:Nat} {a0:model_Model} {a1:Int} {a2:Int} {a3:api_Call}:OLe (model_Model_begin_POOOO k a0 a1 a2 a3) (model_Model_begin_POOOO (k+1) a0 a1 a2 a3):=by
 unfold model_Model_begin_POOOO
 repeat' (first | with_reducible exact OLe.none | with_reducible exact OLe.some | with_reducible refine OLe.ite ?_ ?_ | with_reducible refine OLe.bind ?_ (fun _=>?_) | with_reducible exact model_Model_Active_POOOO.mono | refine OLe.bind ?_ (fun _=>?_) | refine OLe.ite ?_ ?_ | refine OLe.elim (fun _=>?_) (fun _=>?_) | split)
set_option maxHeartbeats 4000000 in
set_option maxRecDepth 100000 in
theorem model_Model_begin_POOOO.con (k:Nat) (M:Hp) (A0_8:Option Addr) (c0_8:Nat) (A0_9:Option Addr) (c0_9:Nat) (A0_10:Option Addr) (c0_10:Nat) (A0_11:Option Addr) (c0_11:Nat) (vs0_11:List (Str×Value)) (a0:model_Model) (a1:Int) (a2:Int) (a3:api_Call) (bo0:Nat) (r:api_Answer×model_Model) (hm0_11:MRel r_model_row M a0.rows vs0_11) (h:model_Model_begin_POOOO k a0 a1 a2 a3=some r):Con Tryd.prog 124 #[pt bo0 0,.int .i64 a1,.int .i64 a2,.agg #[.int .u8 a3.Kind,.int .i64 a3.Tx,.string (bs a3.Key),.string (bs a3.End),.string (bs a3.Value),.int .i64 a3.Limit,.int .u8 a3.Engine]] M [B94 bo0 a0 A0_8 A0_9 A0_10 c0_10 A0_11,MapC enc_model_name (Value.int .i64) A0_8 a0.names,MapC (Value.int .i64) (Value.int .i64) A0_9 a0.many,Row r_model_tx 99 (.slice A0_10 a0.txs.length c0_10) a0.txs,MapC encS (fun v:Value=>v) A0_11 vs0_11] (fun v M' Γ'=>∃ (Aq1:Option Addr) (cq2:Nat) (Aq4:Option Addr) (cq5:Nat) (Aq7:Option Addr) (cq8:Nat) (Aq10:Option Addr) (cq11:Nat) (Aq13:Option Addr) (cq14:Nat) (vsq16:List (Str×Value)),v=.agg #[.int .i64 r.1.Err,.bool r.1.Found,.string (bs r.1.Value),.slice Aq1 r.1.Pairs.length cq2]∧MRel r_model_row M' r.2.rows vsq16∧Γ'=[Row r_api_Pair 87 (.slice Aq1 r.1.Pairs.length cq2) r.1.Pairs,B94 bo0 r.2 Aq4 Aq7 Aq10 cq11 Aq13,MapC enc_model_name (Value.int .i64) Aq4 r.2.names,MapC (Value.int .i64) (Value.int .i64) Aq7 r.2.many,Row r_model_tx 99 (.slice Aq10 r.2.txs.length cq11) r.2.txs,MapC encS (fun v:Value=>v) Aq13 vsq16]):=by
 refine con_of_wp Tryd.func124 rfl Tryd.ntmps124 Tryd.results124 rfl ?_
 intro w F rn S hrn
 have E:=Ext.refl w
 have HM:=Hp.le_refl M
 have H:=h
 unfold model_Model_begin_POOOO at H
 refine Wp_seq (Wp_region_lit ?_)
 refine W_box S #[.int .u8 a3.Kind,.int .i64 a3.Tx,.string (bs a3.Key),.string (bs a3.End),.string (bs a3.Value),.int .i64 a3.Limit,.int .u8 a3.Engine] rfl rfl rfl ?_
 intro b1 w2 E' S
 replace E:=E.trans E'
 refine W_alloc S #[.int .i64 0,.bool false,.string (bs ([]:Str)),.slice none 0 0] ty43 rfl rfl ?_
 intro b4 w5 E' S
 replace E:=E.trans E'
 refine Wl_nil (tn (Wp_seq (Wp_seq ?_)))
 refine Wp_region_any (S:=fun w'=>∃ Mx,M.le Mx∧St w' Mx F [Blk b4 (.cells #[.int .i64 0,.bool false,.string (bs ([]:Str)),.slice none 0 0] 43 (0,0)),B37 b1 a3,B94 bo0 a0 A0_8 A0_9 A0_10 c0_10 A0_11,MapC enc_model_name (Value.int .i64) A0_8 a0.names,MapC (Value.int .i64) (Value.int .i64) A0_9 a0.many,Row r_model_tx 99 (.slice A0_10 a0.txs.length c0_10) a0.txs,MapC encS (fun v:Value=>v) A0_11 vs0_11]) (L:=8) mixed ?_
 intro w12 hw13 E'
 replace S:=S.heap hw13
 replace E:=E.trans E'
 have D1:∃ Mx,Hp.le M Mx∧St _ Mx F [_,_,_,_,_,_,_]:=⟨_,Hp.le_refl _,S.pick [0,1,2,3,4,5,6] (by decide)⟩
 refine Wa_take (i:=0) rfl (by kernel_rfl) rfl rfl (pt bo0 0) rfl (fun w' h'=>x_move rfl) D1 (Wa_take (i:=2) rfl (by kernel_rfl) rfl rfl (pt bo0 0) rfl (fun w' h'=>x_move rfl) D1 (Wa_take (i:=3) rfl (by kernel_rfl) rfl rfl (pt bo0 0) rfl (fun w' h'=>x_nilptr rfl) D1 (Wa_take (i:=4) rfl (by kernel_rfl) rfl rfl (pt bo0 0) rfl (fun w' h'=>x_fieldAddr (o:=0) (off:=0) Tryd.underlying94 rfl ty23 rfl rfl) D1 (Wa_take (i:=5) rfl (by kernel_rfl) rfl rfl (pt bo0 1) rfl (fun w' h'=>x_fieldAddr (o:=0) (off:=1) Tryd.underlying23 rfl ty3 rfl rfl) D1 (Wa_take (i:=6) rfl (by kernel_rfl) rfl rfl (.int .i64 a0.c.Active) rfl (fun w' h'=>x_load (cls_blk h' 2 rfl) ty3 rfl rfl) D1 ?_)))))
 refine Wa_solo (i:=1) rfl (by kernel_rfl) ?_
 obtain ⟨t14,ht15,H⟩:=bindS H
 replace S:St w12 M F [_,_,_,_,_,_,_]:=S.pick [2,3,4,5,6,0,1] (by decide)
 refine W_callF2 fn21 (model_Model_Active_POOOO.con k M A0_8 c0_8 A0_9 c0_9 A0_10 c0_10 A0_11 c0_11 vs0_11 a0 bo0 t14 hm0_11 ht15) (Γ1:=[_,_,_,_,_]) (Γ2:=[_,_]) S rfl rfl (by rintro _ _ _ ⟨rfl,rfl⟩;exact (flat_cons flat_blk (flat_cons flat_map (flat_cons flat_map (flat_cons (flat_row (fun _ _ _ _ h=>h)) (flat_cons flat_map flat_nil)))))) ?_
 rintro _ w16 _ Γ' E' S ⟨rfl,rfl⟩
 replace E:=E.trans E'
 replace S:St w16 M F [_,_,_,_,_,_,_]:=S
 refine Wl_nil (on_n ⟨.inr ⟨M,Hp.le_refl M,(S.pick [5,6,0,1,2,3,4] (by decide))⟩,?_⟩)
 refine Wa_take (i:=7) rfl (by kernel_rfl) rfl rfl (.bool (decide (t14≥a0.c.Active))) rfl (fun w' h'=>x_ibin rfl rfl rfl rfl) (⟨M,Hp.le_refl M,(S.pick [5,6,0,1,2,3,4] (by decide))⟩) ?_
 refine Wa_done (by kernel_rfl) ?_
 refine tn ?_
 rcases iteS H with ⟨hb19,H⟩ | ⟨hb19,H⟩
 ·refine Wp_cond_true (congrArg Value.bool hb19) ?_
  refine Wp_seq (Wp_region_lit (W_v (.agg #[.int .i64 34,.bool false,.string (bs ([]:Str)),.slice none 0 0]) (x_build2 (pl:=[(0,1),(1,1),(2,1),(3,1)]) #[.int .i64 34,.bool false,.string (bs ([]:Str)),.slice none 0 0] Tryd.underlying43 ty43 (by as_aux_lemma=>kernel_rfl) rfl (by as_aux_lemma=>kernel_rfl)) rfl ?_))
  refine W_store S 5 rfl ty43 rfl rfl [.int .i64 34,.bool false,.string (bs ([]:Str)),.slice none 0 0] rfl rfl rfl #[.int .i64 34,.bool false,.string (bs ([]:Str)),.slice none 0 0] rfl rfl ?_
  intro w20 E' S
  replace E:=E.trans E'
  refine Wl_nil (tn ?_)
  refine Wp_ret ?_
  refine tr (?_)
  obtain rfl:=Option.some.inj H
  replace S:=S.row_nil r_api_Pair 87
  exact ⟨_,_,_,fun w1 e1=>run_resR (vs:=[.agg #[.int .i64 34,.bool false,.string (bs ([]:Str)),.slice none ([]:List api_Pair).length 0]]) (FA.cons (⟨_,rfl,run_loadVar_agg ty43 ((S.of_eq e1).blk 6 rfl) (sub_of_extract rfl) rfl (by decide)⟩) (FA.nil)),HM,E,S.pick [0,1,2,3,4,5] (by decide),⟨none,0,A0_8,c0_8,A0_9,c0_9,A0_10,c0_10,A0_11,c0_11,vs0_11,rfl,hm0_11,rfl⟩⟩
 refine Wp_cond_false (congrArg Value.bool hb19) (Wp_skip (tn ?_))
 as_aux_lemma =>
 refine Wp_seq ?_
 refine Wp_region_any (S:=fun w'=>∃ Mx,M.le Mx∧St w' Mx F [B94 bo0 a0 A0_8 A0_9 A0_10 c0_10 A0_11,MapC enc_model_name (Value.int .i64) A0_8 a0.names,MapC (Value.int .i64) (Value.int .i64) A0_9 a0.many,MapC encS (fun v:Value=>v) A0_11 vs0_11,Blk b4 (.cells #[.int .i64 0,.bool false,.string (bs ([]:Str)),.slice none 0 0] 43 (0,0)),B37 b1 a3]) (L:=14) mixed ?_
 intro w34 hw35 E'
 replace S:=S.heap hw35
 replace E:=E.trans E'
 have D3:∃ Mx,Hp.le M Mx∧St _ Mx F [_,_,_,_,_,_]:=⟨_,Hp.le_refl _,S.pick [0,1,2,4,5,6] (by decide)⟩
 refine Wa_take (i:=0) rfl (by kernel_rfl) rfl rfl (pt bo0 0) rfl (fun w' h'=>x_move rfl) D3 (Wa_take (i:=1) rfl (by kernel_rfl) rfl rfl (pt bo0 0) rfl (fun w' h'=>x_move rfl) D3 (Wa_take (i:=2) rfl (by kernel_rfl) rfl rfl (pt bo0 0) rfl (fun w' h'=>x_nilptr rfl) D3 (Wa_take (i:=3) rfl (by kernel_rfl) rfl rfl (pt bo0 10) rfl (fun w' h'=>x_fieldAddr (o:=0) (off:=10) Tryd.underlying94 rfl ty92 rfl rfl) D3 (Wa_take (i:=4) rfl (by kernel_rfl) rfl rfl (.slice A0_10 a0.txs.length c0_10) rfl (fun w' h'=>x_load (cls_blk h' 0 rfl) ty92 rfl rfl) D3 (Wa_take (i:=5) rfl (by kernel_rfl) rfl rfl (pt bo0 0) rfl (fun w' h'=>x_move rfl) D3 (Wa_take (i:=6) rfl (by kernel_rfl) rfl rfl (pt bo0 0) rfl (fun w' h'=>x_nilptr rfl) D3 (Wa_take (i:=7) rfl (by kernel_rfl) rfl rfl (pt bo0 12) rfl (fun w' h'=>x_fieldAddr (o:=0) (off:=12) Tryd.underlying94 rfl ty3 rfl rfl) D3 (Wa_take (i:=8) rfl (by kernel_rfl) rfl rfl (.int .i64 a0.clock) rfl (fun w' h'=>x_load (cls_blk h' 0 rfl) ty3 rfl rfl) D3 (Wa_take (i:=9) rfl (by kernel_rfl) rfl rfl (.agg #[.int .u8 1,.int .i64 (a0.clock)]) rfl (fun w' h'=>x_build2 (pl:=[(0,1),(1,1)]) #[.int .u8 1,.int .i64 (a0.clock)] Tryd.underlying99 ty99 (by as_aux_lemma=>kernel_rfl) rfl (by as_aux_lemma=>kernel_rfl)) D3 ?_)))))))))
 refine Wa_solo (i:=10) rfl (by kernel_rfl) ?_
 refine W_bslice S #[.int .u8 1,.int .i64 (a0.clock)] Tryd.underlying92 ty99 rfl rfl #[.int .u8 0,.int .i64 0] (by as_aux_lemma=>kernel_rfl) (by as_aux_lemma=>kernel_rfl) rfl ?_
 intro b36 w37 E' S
 replace E:=E.trans E'
 replace S:=S.blk_row (r:=r_model_tx) (l:=([(⟨(1:Int),(a0.clock)⟩:model_tx)]:List model_tx)) 0 rfl 1 (Nat.le_refl 1) rfl (Cells.cons (vs:=[.int .u8 1,.int .i64 (a0.clock)]) (rfl) Cells.nil)
 refine Wl_nil (on_n ⟨.inr ⟨M,Hp.le_refl M,(S.pick [1,2,3,5,6,7] (by decide))⟩,?_⟩)
 refine Wa_solo (i:=11) rfl (by kernel_rfl) ?_
 obtain ⟨p39,H⟩:=chkS H
 obtain ⟨src40,hs41,hC42⟩:=src_of_read (P:=Tryd.prog) (ρ:=r_model_tx) (l:=([(⟨(1:Int),(a0.clock)⟩:model_tx)]:List model_tx)) (S.row_read 0 rfl) (by decide)
 refine W_append S 4 rfl rfl rfl Tryd.underlying92 (.inl Tryd.underlying92) ty99 rfl (by decide) (by decide) hs41 hC42 rfl (by omega) rfl ?_
 intro v43 w44 E' S
 replace E:=E.trans E'
 obtain ⟨A45,c46,rfl,_⟩:=(S.row_read 4 rfl).form
 refine Wl_nil (on_n ⟨.inr ⟨M,Hp.le_refl M,(S.pick [1,2,3,5,6,7] (by decide))⟩,?_⟩)
 have D4:∃ Mx,Hp.le M Mx∧St _ Mx F [_,_,_,_,_,_]:=⟨_,Hp.le_refl _,S.pick [1,2,3,5,6,7] (by decide)⟩
 refine Wa_take (i:=12) rfl (by kernel_rfl) rfl rfl (pt bo0 0) rfl (fun w' h'=>x_nilptr rfl) D4 (Wa_take (i:=13) rfl (by kernel_rfl) rfl rfl (pt bo0 10) rfl (fun w' h'=>x_fieldAddr (o:=0) (off:=10) Tryd.underlying94 rfl ty92 rfl rfl) D4 ?_)
 refine Wa_solo (i:=14) rfl (by kernel_rfl) ?_
 refine W_store S 1 rfl ty92 rfl rfl [.slice A45 (a0.txs++([(⟨(1:Int),(a0.clock)⟩:model_tx)]:List model_tx)).length c46] rfl rfl rfl #[.int .i64 a0.c.Tasks,.int .i64 a0.c.Active,.int .i64 a0.c.Keys,.int .i64 a0.c.Depth,.int .i64 a0.c.TS,.int .i64 a0.c.KeyLen,.int .i64 a0.c.ValLen,.int .i64 a0.c.Fan,.map (mb A0_8),.map (mb A0_9),.slice A45 (a0.txs++([(⟨(1:Int),(a0.clock)⟩:model_tx)]:List model_tx)).length c46,.map (mb A0_11),.int .i64 a0.clock,.int .i64 a0.floor] rfl rfl ?_
 intro w47 E' S
 replace E:=E.trans E'
 refine Wl_nil (on_n ⟨.inl (by decide),?_⟩)
 refine Wa_done (by kernel_rfl) ?_
 refine tn (Wp_seq (Wp_region_lit (W_v (pt bo0 0) (x_move rfl) rfl (W_v (pt bo0 0) (x_nilptr rfl) rfl (W_v (pt bo0 9) (x_fieldAddr (o:=0) (off:=9) Tryd.underlying94 rfl ty90 rfl rfl) rfl (W_v (.map (mb A0_9)) (x_load (S.blk 1 rfl) ty90 rfl rfl) rfl (W_v (.int .i64 a2) (x_move rfl) rfl (W_v (.int .i64 ((mget a0.many a2).getD (0:Int))) (x_lookup S 3 rfl Tryd.underlying90 key3 (0:Int) (fun _=>ty3.zero) a2 rfl rfl) rfl (W_v (.int .i64 (IntKind.i64.wrap (((mget a0.many a2).getD (0:Int))+(1:Int)))) (x_ibin rfl rfl rfl rfl) rfl ?_)))))))))
 obtain ⟨x49,he50,H⟩:=bindS H
 replace he50:=Option.some.inj he50
 refine W_mapUpdate S 3 rfl Tryd.underlying90 key3 a2 (IntKind.i64.wrap (((mget a0.many a2).getD (0:Int))+(1:Int))) he50 rfl rfl rfl ?_
 intro w48 E' S
 replace E:=E.trans E'
 replace S:St w48 M F [_,_,_,_,_,_,_,_]:=S
 refine Wl_nil (tn ?_)
 as_aux_lemma =>
 refine Wp_seq ?_
 refine Wp_region_any (S:=fun w'=>∃ Mx,M.le Mx∧St w' Mx F [Row r_model_tx 99 (.slice (some ⟨b36,0,none⟩) ([(⟨(1:Int),(a0.clock)⟩:model_tx)]:List model_tx).length 1) ([(⟨(1:Int),(a0.clock)⟩:model_tx)]:List model_tx),Blk bo0 (.cells #[.int .i64 a0.c.Tasks,.int .i64 a0.c.Active,.int .i64 a0.c.Keys,.int .i64 a0.c.Depth,.int .i64 a0.c.TS,.int .i64 a0.c.KeyLen,.int .i64 a0.c.ValLen,.int .i64 a0.c.Fan,.map (mb A0_8),.map (mb A0_9),.slice A45 (a0.txs++([(⟨(1:Int),(a0.clock)⟩:model_tx)]:List model_tx)).length c46,.map (mb A0_11),.int .i64 a0.clock,.int .i64 a0.floor] 94 (0,0)),MapC enc_model_name (Value.int .i64) A0_8 a0.names,MapC (Value.int .i64) (Value.int .i64) A0_9 x49,Row r_model_tx 99 (.slice A45 (a0.txs++([(⟨(1:Int),(a0.clock)⟩:model_tx)]:List model_tx)).length c46) (a0.txs++([(⟨(1:Int),(a0.clock)⟩:model_tx)]:List model_tx)),MapC encS (fun v:Value=>v) A0_11 vs0_11,Blk b4 (.cells #[.int .i64 0,.bool false,.string (bs ([]:Str)),.slice none 0 0] 43 (0,0)),B37 b1 a3]) (L:=17) mixed ?_
 intro w54 hw55 E'
 replace S:=S.heap hw55
 replace E:=E.trans E'
 have D5:∃ Mx,Hp.le M Mx∧St _ Mx F [_,_,_,_,_,_,_,_]:=⟨_,Hp.le_refl _,S.pick [0,1,2,3,4,5,6,7] (by decide)⟩
 refine Wa_take (i:=0) rfl (by kernel_rfl) rfl rfl (pt bo0 0) rfl (fun w' h'=>x_move rfl) D5 (Wa_take (i:=1) rfl (by kernel_rfl) rfl rfl (pt bo0 0) rfl (fun w' h'=>x_nilptr rfl) D5 (Wa_take (i:=2) rfl (by kernel_rfl) rfl rfl (pt bo0 8) rfl (fun w' h'=>x_fieldAddr (o:=0) (off:=8) Tryd.underlying94 rfl ty89 rfl rfl) D5 (Wa_take (i:=3) rfl (by kernel_rfl) rfl rfl (.map (mb A0_8)) rfl (fun w' h'=>x_load (cls_blk h' 1 rfl) ty89 rfl rfl) D5 (Wa_take (i:=4) rfl (by kernel_rfl) rfl rfl (.int .i64 a2) rfl (fun w' h'=>x_move rfl) D5 (Wa_take (i:=5) rfl (by kernel_rfl) rfl rfl (pt bo0 0) rfl (fun w' h'=>x_move rfl) D5 (Wa_take (i:=6) rfl (by kernel_rfl) rfl rfl (pt bo0 0) rfl (fun w' h'=>x_nilptr rfl) D5 (Wa_take (i:=7) rfl (by kernel_rfl) rfl rfl (pt bo0 9) rfl (fun w' h'=>x_fieldAddr (o:=0) (off:=9) Tryd.underlying94 rfl ty90 rfl rfl) D5 (Wa_take (i:=8) rfl (by kernel_rfl) rfl rfl (.map (mb A0_9)) rfl (fun w' h'=>x_load (cls_blk h' 1 rfl) ty90 rfl rfl) D5 (Wa_take (i:=9) rfl (by kernel_rfl) rfl rfl (.int .i64 a2) rfl (fun w' h'=>x_move rfl) D5 (Wa_take (i:=10) rfl (by kernel_rfl) rfl rfl (.int .i64 ((mget x49 a2).getD (0:Int))) rfl (fun w' h'=>Exists.elim h' fun Mx h9=>x_lookup h9.2 3 rfl Tryd.underlying90 key3 (0:Int) (fun _=>ty3.zero) a2 rfl rfl) D5 (Wa_take (i:=11) rfl (by kernel_rfl) rfl rfl (.agg #[.int .i64 a2,.int .i64 ((mget x49 a2).getD (0:Int))]) rfl (fun w' h'=>x_build2 (pl:=[(0,1),(1,1)]) #[.int .i64 a2,.int .i64 ((mget x49 a2).getD (0:Int))] Tryd.underlying104 ty104 (by as_aux_lemma=>kernel_rfl) rfl (by as_aux_lemma=>kernel_rfl)) D5 (Wa_take (i:=12) rfl (by kernel_rfl) rfl rfl (pt bo0 0) rfl (fun w' h'=>x_move rfl) D5 (Wa_take (i:=13) rfl (by kernel_rfl) rfl rfl (pt bo0 0) rfl (fun w' h'=>x_nilptr rfl) D5 (Wa_take (i:=14) rfl (by kernel_rfl) rfl rfl (pt bo0 10) rfl (fun w' h'=>x_fieldAddr (o:=0) (off:=10) Tryd.underlying94 rfl ty92 rfl rfl) D5 (Wa_take (i:=15) rfl (by kernel_rfl) rfl rfl (.slice A45 (a0.txs++([(⟨(1:Int),(a0.clock)⟩:model_tx)]:List model_tx)).length c46) rfl (fun w' h'=>x_load (cls_blk h' 1 rfl) ty92 rfl rfl) D5 ?_)))))))))))))))
 refine Wa_take (i:=16) rfl (by kernel_rfl) rfl rfl (.int .i64 ((a0.txs++([(⟨(1:Int),(a0.clock)⟩:model_tx)]:List model_tx)).length:Int)) rfl (fun w' h'=>x_len_slice (n:=(a0.txs++([(⟨(1:Int),(a0.clock)⟩:model_tx)]:List model_tx)).length) Tryd.underlying92 rfl) D5 ?_
 refine Wa_solo (i:=17) rfl (by kernel_rfl) ?_
 obtain ⟨x57,he58,H⟩:=bindS H
 replace he58:=Option.some.inj he58
 refine W_mapUpdate S 2 rfl Tryd.underlying89 key104 (⟨a2,((mget x49 a2).getD (0:Int))⟩:model_name) ((a0.txs++([(⟨(1:Int),(a0.clock)⟩:model_tx)]:List model_tx)).length:Int) he58 rfl rfl rfl ?_
 intro w56 E' S
 replace E:=E.trans E'
 replace S:St w56 M F [_,_,_,_,_,_,_,_]:=S
 refine Wl_nil (on_n ⟨.inl (by decide),?_⟩)
 refine Wa_done (by kernel_rfl) ?_
 refine tn (Wp_seq (Wp_region_lit (W_v (.agg #[.int .i64 0,.bool false,.string (bs ([]:Str)),.slice none 0 0]) (x_build2 (pl:=[(0,1),(1,1),(2,1),(3,1)]) #[.int .i64 0,.bool false,.string (bs ([]:Str)),.slice none 0 0] Tryd.underlying43 ty43 (by as_aux_lemma=>kernel_rfl) rfl (by as_aux_lemma=>kernel_rfl)) rfl ?_)))
 refine W_store S 6 rfl ty43 rfl rfl [.int .i64 0,.bool false,.string (bs ([]:Str)),.slice none 0 0] rfl rfl rfl #[.int .i64 0,.bool false,.string (bs ([]:Str)),.slice none 0 0] rfl rfl ?_
 intro w59 E' S
 replace E:=E.trans E'
 refine Wl_nil (tn ?_)
 refine Wp_ret ?_
 obtain rfl:=Option.some.inj H
 replace S:=S.row_nil r_api_Pair 87
 exact ⟨_,_,_,fun w1 e1=>run_resR (vs:=[.agg #[.int .i64 0,.bool false,.string (bs ([]:Str)),.slice none ([]:List api_Pair).length 0]]) (FA.cons (⟨_,rfl,run_loadVar_agg ty43 ((S.of_eq e1).blk 7 rfl) (sub_of_extract rfl) rfl (by decide)⟩) (FA.nil)),HM,E,S.pick [0,2,3,4,5,6] (by decide),⟨none,0,A0_8,c0_8,A0_9,c0_9,A45,c46,A0_11,c0_11,vs0_11,rfl,hm0_11,rfl⟩⟩
end Go.Proofs.YtcngjjlhdlbogaaDoor
