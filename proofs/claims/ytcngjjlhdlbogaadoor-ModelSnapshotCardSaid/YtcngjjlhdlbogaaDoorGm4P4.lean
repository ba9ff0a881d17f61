import Derived.Test.YtcngjjlhdlbogaaDoorGm4B
import Derived.Test.YtcngjjlhdlbogaaDoorGm4P3
namespace Go.Proofs.YtcngjjlhdlbogaaDoor
open Go
set_option linter.unusedVariables false
set_option linter.unusedSimpArgs false
def ferrymanlaw16_log_note_POO_l0 (a0:ferrymanlaw16_log) (a2:ferrymanlaw16_Turn):Nat→Int→Int→Option ((Int))
 | 0,_,_=>none
 | k+1,x118,x119=>(if (decide (x119<(a0.lives.length:Int)))=true then (Option.bind (α:=Int) (if 0≤x119∧x119<(a0.lives.length:Int) then (Option.bind (α:=Int) (if ((rd a0.lives x119).task==a2.Task)=true then some ((IntKind.i64.wrap (x118+(1:Int)))) else some (x118)) (fun x214=>some (x214))) else none) (fun x194=>ferrymanlaw16_log_note_POO_l0 a0 a2 k x194 (IntKind.i64.wrap (x119+(1:Int))))) else some (x118))
set_option maxHeartbeats 2000000 in
theorem ferrymanlaw16_log_note_POO_l0.mono {a0:ferrymanlaw16_log} {a2:ferrymanlaw16_Turn}:∀ {kl:Nat} {x0 x1},OLe (ferrymanlaw16_log_note_POO_l0 a0 a2 kl x0 x1) (ferrymanlaw16_log_note_POO_l0 a0 a2 (kl+1) x0 x1):=by
 intro kl
 induction kl with
 | zero=>intros;exact OLe.none
 | succ kl ih =>
  intros
  rw [ferrymanlaw16_log_note_POO_l0.eq_2,ferrymanlaw16_log_note_POO_l0.eq_2]
  repeat' (first | with_reducible exact OLe.none | with_reducible exact OLe.some | with_reducible refine OLe.ite ?_ ?_ | with_reducible refine OLe.bind ?_ (fun _=>?_) | exact ih | refine OLe.bind ?_ (fun _=>?_) | refine OLe.ite ?_ ?_ | refine OLe.elim (fun _=>?_) (fun _=>?_) | split)
def ferrymanlaw16_log_note_POO_l9 (t7:Int) (x590:List ferrymanlaw16_life) (x2472:Int):Nat→Bool→Int→Option ((Bool))
 | 0,_,_=>none
 | k+1,x4061,x4062=>(if 0≤t7∧t7<(x590.length:Int) then (if (decide (x4062<(((rd x590 t7).writes).length:Int)))=true then (if 0≤t7∧t7<(x590.length:Int) then (Option.bind (α:=Bool) (if x4061=true then (if 0≤x4062∧x4062<(((rd x590 t7).writes).length:Int) then some ((sbin .neq ((rd ((rd x590 t7).writes) x4062).key) ((rd ((rd x590 t7).writes) x2472).key))) else none) else some (false)) (fun x4228=>ferrymanlaw16_log_note_POO_l9 t7 x590 x2472 k x4228 (IntKind.i64.wrap (x4062+(1:Int))))) else none) else some (x4061)) else none)
set_option maxHeartbeats 2000000 in
theorem ferrymanlaw16_log_note_POO_l9.mono {t7:Int} {x590:List ferrymanlaw16_life} {x2472:Int}:∀ {kl:Nat} {x0 x1},OLe (ferrymanlaw16_log_note_POO_l9 t7 x590 x2472 kl x0 x1) (ferrymanlaw16_log_note_POO_l9 t7 x590 x2472 (kl+1) x0 x1):=by
 intro kl
 induction kl with
 | zero=>intros;exact OLe.none
 | succ kl ih =>
  intros
  rw [ferrymanlaw16_log_note_POO_l9.eq_2,ferrymanlaw16_log_note_POO_l9.eq_2]
  repeat' (first | with_reducible exact OLe.none | with_reducible exact OLe.some | with_reducible refine OLe.ite ?_ ?_ | with_reducible refine OLe.bind ?_ (fun _=>?_) | exact ih | refine OLe.bind ?_ (fun _=>?_) | refine OLe.ite ?_ ?_ | refine OLe.elim (fun _=>?_) (fun _=>?_) | split)
def ferrymanlaw16_log_note_POO_l5 (a0:ferrymanlaw16_log) (t7:Int) (x590:List ferrymanlaw16_life):Nat→Int→List ferrymanlaw16_fact→Option ((List ferrymanlaw16_fact))
 | 0,_,_=>none
 | k+1,x2472,x2473=>(if 0≤t7∧t7<(x590.length:Int) then (if (decide (x2472<(((rd x590 t7).writes).length:Int)))=true then (Option.bind (α:=List ferrymanlaw16_fact) (if 0≤t7∧t7<(x590.length:Int) then (if 0≤x2472∧x2472<(((rd x590 t7).writes).length:Int) then (Option.bind (ferrymanlaw16_log_note_POO_l9 t7 x590 x2472 k true (IntKind.i64.wrap (x2472+(1:Int)))) (fun x4148=>(Option.bind (α:=List ferrymanlaw16_fact) (if x4148=true then (Option.bind (α:=List ferrymanlaw16_fact) (some ([(⟨(IntKind.i64.wrap (a0.time+(1:Int))),(rd ((rd x590 t7).writes) x2472).key,(rd ((rd x590 t7).writes) x2472).tomb,(rd ((rd x590 t7).writes) x2472).value⟩:ferrymanlaw16_fact)]:List ferrymanlaw16_fact)) (fun x4324=>(if x2473.length+x4324.length≤2932031007402 then some ((x2473++x4324)) else none))) else some (x2473)) (fun x4299=>some (x4299))))) else none) else none) (fun x3877=>ferrymanlaw16_log_note_POO_l5 a0 t7 x590 k (IntKind.i64.wrap (x2472+(1:Int))) x3877)) else some (x2473)) else none)
set_option maxHeartbeats 2000000 in
theorem ferrymanlaw16_log_note_POO_l5.mono {a0:ferrymanlaw16_log} {t7:Int} {x590:List ferrymanlaw16_life}:∀ {kl:Nat} {x0 x1},OLe (ferrymanlaw16_log_note_POO_l5 a0 t7 x590 kl x0 x1) (ferrymanlaw16_log_note_POO_l5 a0 t7 x590 (kl+1) x0 x1):=by
 intro kl
 induction kl with
 | zero=>intros;exact OLe.none
 | succ kl ih =>
  intros
  rw [ferrymanlaw16_log_note_POO_l5.eq_2,ferrymanlaw16_log_note_POO_l5.eq_2]
  repeat' (first | with_reducible exact OLe.none | with_reducible exact OLe.some | with_reducible refine OLe.ite ?_ ?_ | with_reducible refine OLe.bind ?_ (fun _=>?_) | with_reducible exact ferrymanlaw16_log_note_POO_l9.mono | exact ih | refine OLe.bind ?_ (fun _=>?_) | refine OLe.ite ?_ ?_ | refine OLe.elim (fun _=>?_) (fun _=>?_) | split)
def ferrymanlaw16_log_note_POO (k:Nat) (a0:ferrymanlaw16_log) (a1:Int) (a2:ferrymanlaw16_Turn) (a3:api_Answer):Option (ferrymanlaw16_log) :=
 (Option.bind (ferrymanlaw16_log_find_POO k a0 a2.Task a2.Call.Tx) (fun t7=>(if ((a3.Err != (0:Int))||((a2.Call.Kind != (1:Int))&&(decide (t7<(0:Int)))))=true then some a0 else (if (a2.Call.Kind==(1:Int))=true then (Option.bind (ferrymanlaw16_log_note_POO_l0 a0 a2 k (1:Int) (0:Int)) (fun x168=>(if a0.lives.length+([(⟨(a2.Task),x168,(a0.time),([]:(List ferrymanlaw16_fact)),a1,(0:Int)⟩:ferrymanlaw16_life)]:List ferrymanlaw16_life).length≤2199023255552 then some (⟨a0.time,a0.facts,(a0.lives++([(⟨(a2.Task),x168,(a0.time),([]:(List ferrymanlaw16_fact)),a1,(0:Int)⟩:ferrymanlaw16_life)]:List ferrymanlaw16_life))⟩:ferrymanlaw16_log) else none))) else (if (a2.Call.Kind==(3:Int))=true then (if 0≤t7∧t7<(a0.lives.length:Int) then (if ((rd a0.lives t7).writes).length+([(⟨(0:Int),(a2.Call.Key),false,(a2.Call.Value)⟩:ferrymanlaw16_fact)]:List ferrymanlaw16_fact).length≤2932031007402 then (Option.bind (α:=List ferrymanlaw16_life) (some (List.set a0.lives t7.toNat (⟨(rd a0.lives t7).task,(rd a0.lives t7).n,(rd a0.lives t7).snapshot,((rd a0.lives t7).writes++([(⟨(0:Int),(a2.Call.Key),false,(a2.Call.Value)⟩:ferrymanlaw16_fact)]:List ferrymanlaw16_fact)),(rd a0.lives t7).begun,(rd a0.lives t7).over⟩:ferrymanlaw16_life))) (fun x317=>some (⟨a0.time,a0.facts,x317⟩:ferrymanlaw16_log))) else none) else none) else (if (a2.Call.Kind==(4:Int))=true then (Option.bind (α:=List ferrymanlaw16_life) (if a3.Found=true then (if 0≤t7∧t7<(a0.lives.length:Int) then (if ((rd a0.lives t7).writes).length+([(⟨(0:Int),(a2.Call.Key),true,([]:Str)⟩:ferrymanlaw16_fact)]:List ferrymanlaw16_fact).length≤2932031007402 then (Option.bind (α:=List ferrymanlaw16_life) (some (List.set a0.lives t7.toNat (⟨(rd a0.lives t7).task,(rd a0.lives t7).n,(rd a0.lives t7).snapshot,((rd a0.lives t7).writes++([(⟨(0:Int),(a2.Call.Key),true,([]:Str)⟩:ferrymanlaw16_fact)]:List ferrymanlaw16_fact)),(rd a0.lives t7).begun,(rd a0.lives t7).over⟩:ferrymanlaw16_life))) (fun x566=>some (x566))) else none) else none) else some (a0.lives)) (fun x484=>some (⟨a0.time,a0.facts,x484⟩:ferrymanlaw16_log))) else (if (a2.Call.Kind==(6:Int))=true then (if 0≤t7∧t7<(a0.lives.length:Int) then (Option.bind (α:=List ferrymanlaw16_life) (some (List.set a0.lives t7.toNat (⟨(rd a0.lives t7).task,(rd a0.lives t7).n,(rd a0.lives t7).snapshot,(rd a0.lives t7).writes,(rd a0.lives t7).begun,a1⟩:ferrymanlaw16_life))) (fun x590=>(if 0≤t7∧t7<(x590.length:Int) then (if ((((rd x590 t7).writes).length:Int)==(0:Int))=true then some (⟨a0.time,a0.facts,x590⟩:ferrymanlaw16_log) else (Option.bind (ferrymanlaw16_log_note_POO_l5 a0 t7 x590 k (0:Int) a0.facts) (fun x3404=>some (⟨(IntKind.i64.wrap (a0.time+(1:Int))),x3404,x590⟩:ferrymanlaw16_log)))) else none))) else none) else some a0)))))))
set_option maxHeartbeats 2000000 in
theorem ferrymanlaw16_log_note_POO.mono {k:Nat} {a0:ferrymanlaw16_log} {a1:Int} {a2:ferrymanlaw16_Turn} {a3:api_Answer}:OLe (ferrymanlaw16_log_note_POO k a0 a1 a2 a3) (ferrymanlaw16_log_note_POO (k+1) a0 a1 a2 a3):=by
 unfold ferrymanlaw16_log_note_POO
 repeat' (first | with_reducible exact OLe.none | with_reducible exact OLe.some | with_reducible refine OLe.ite ?_ ?_ | with_reducible refine OLe.bind ?_ (fun _=>?_) | with_reducible exact ferrymanlaw16_log_find_POO.mono | with_reducible exact ferrymanlaw16_log_note_POO_l0.mono | with_reducible exact ferrymanlaw16_log_note_POO_l5.mono | refine OLe.bind ?_ (fun _=>?_) | refine OLe.ite ?_ ?_ | refine OLe.elim (fun _=>?_) (fun _=>?_) | split)
set_option maxHeartbeats 8000000 in
set_option maxRecDepth 100000 in
theorem ferrymanlaw16_log_note_POO.con (k:Nat) (M:Hp) (A0_1:Option Addr) (c0_1:Nat) (A0_2:Option Addr) (c0_2:Nat) (a0:ferrymanlaw16_log) (a1:Int) (a2:ferrymanlaw16_Turn) (A3_0:Option Addr) (c3_0:Nat) (a3:api_Answer) (bo0:Nat) (r:ferrymanlaw16_log) (hr3_0:SlR r_api_Pair M (.slice A3_0 a3.Pairs.length c3_0) a3.Pairs) (h:ferrymanlaw16_log_note_POO k a0 a1 a2 a3=some r):Con Tryd.prog 18 #[pt bo0 0,.int .i64 a1,.agg #[.int .i64 a2.Task,.int .u8 a2.Call.Kind,.int .i64 a2.Call.Tx,.string (bs a2.Call.Key),.string (bs a2.Call.End),.string (bs a2.Call.Value),.int .i64 a2.Call.Limit,.int .u8 a2.Call.Engine],.agg #[.int .i64 a3.Err,.bool a3.Found,.string (bs a3.Value),.slice A3_0 a3.Pairs.length c3_0]] M [Blk bo0 (.cells #[.int .i64 a0.time,.slice A0_1 a0.facts.length c0_1,.slice A0_2 a0.lives.length c0_2] 35 (0,0)),Row r_ferrymanlaw16_fact 54 (.slice A0_1 a0.facts.length c0_1) a0.facts,Stk n_ferrymanlaw16_life 52 (.slice A0_2 a0.lives.length c0_2) a0.lives] (fun v M' Γ'=>∃ (Aq1:Option Addr) (cq2:Nat) (Aq4:Option Addr) (cq5:Nat),v=.tuple #[]∧Γ'=[Blk bo0 (.cells #[.int .i64 r.time,.slice Aq1 r.facts.length cq2,.slice Aq4 r.lives.length cq5] 35 (0,0)),Row r_ferrymanlaw16_fact 54 (.slice Aq1 r.facts.length cq2) r.facts,Stk n_ferrymanlaw16_life 52 (.slice Aq4 r.lives.length cq5) r.lives]):=by
 refine con_of_wp Tryd.func18 rfl Tryd.ntmps18 Tryd.results18 rfl ?_
 intro w F rn S hrn
 have E:=Ext.refl w
 have HM:=Hp.le_refl M
 have H:=h
 unfold ferrymanlaw16_log_note_POO at H
 refine Wp_seq (Wp_region_lit ?_)
 refine W_box S #[.int .i64 a2.Task,.int .u8 a2.Call.Kind,.int .i64 a2.Call.Tx,.string (bs a2.Call.Key),.string (bs a2.Call.End),.string (bs a2.Call.Value),.int .i64 a2.Call.Limit,.int .u8 a2.Call.Engine] rfl rfl rfl ?_
 intro b1 w2 E' S
 replace E:=E.trans E'
 refine W_box S #[.int .i64 a3.Err,.bool a3.Found,.string (bs a3.Value),.slice A3_0 a3.Pairs.length c3_0] rfl rfl rfl ?_
 intro b4 w5 E' S
 replace E:=E.trans E'
 refine Wl_nil (tn (Wp_seq (Wp_region_lit (W_v (pt bo0 0) (x_move rfl) rfl (W_v (pt b1 0) (x_fieldAddr (o:=0) (off:=0) Tryd.underlying39 rfl ty3 rfl rfl) rfl (W_v (.int .i64 a2.Task) (x_load (S.blk 1 rfl) ty3 rfl rfl) rfl (W_v (pt b1 1) (x_fieldAddr (o:=0) (off:=1) Tryd.underlying39 rfl ty37 rfl rfl) rfl (W_v (pt b1 2) (x_fieldAddr (o:=1) (off:=1) Tryd.underlying37 rfl ty3 rfl rfl) rfl (W_v (.int .i64 a2.Call.Tx) (x_load (S.blk 1 rfl) ty3 rfl rfl) rfl ?_)))))))))
 obtain ⟨t7,ht8,H⟩:=bindS H
 replace S:St w5 M F [_,_,_,_,_]:=S.pick [2,3,4,0,1] (by decide)
 refine W_call fn14 (ferrymanlaw16_log_find_POO.con k M A0_1 c0_1 A0_2 c0_2 a0 a2.Task a2.Call.Tx bo0 t7  ht8) (Γ1:=[_,_,_]) (Γ2:=[_,_]) S rfl rfl ?_
 rintro _ w9 M10 Γ' hM11 E' S ⟨rfl,rfl⟩
 replace HM:=Hp.le_trans HM hM11
 replace hr3_0:=SlR.mono hr3_0 hM11
 replace E:=E.trans E'
 replace S:St w9 M10 F [_,_,_,_,_]:=S
 refine W_v (.int .i64 t7) (x_assign rfl) rfl (Wl_nil (tn (Wp_seq (Wp_seq (Wp_region_lit (W_v (pt b4 0) (x_fieldAddr (o:=0) (off:=0) Tryd.underlying43 rfl ty28 rfl rfl) rfl (W_v (.int .i64 a3.Err) (x_load (S.blk 3 rfl) ty28 rfl rfl) rfl (W_v (.bool (a3.Err != (0:Int))) (x_ibin rfl rfl rfl rfl) rfl (W_v (.bool (a3.Err != (0:Int))) (x_move rfl) rfl ?_)))))))))
 refine Wl_cutN 9 (fun ρ w'=>Agree ρ [(0,pt bo0 0),(1,.int .i64 a1),(6,pt b1 0),(7,pt b4 0),(8,.int .i64 t7),(34,.bool ((a3.Err != (0:Int))||((a2.Call.Kind != (1:Int))&&(decide (t7<(0:Int))))))]∧w9=w') ?_ ?_
 ·as_aux_lemma =>
   rcases boolCases (a3.Err != (0:Int)) with hb14 | hb14
   ·skip
    refine W_yes (congrArg some hb14) (W_v (pt b1 1) (x_fieldAddr (o:=0) (off:=1) Tryd.underlying39 rfl ty37 rfl rfl) rfl (W_yes (congrArg some hb14) (W_v (pt b1 1) (x_fieldAddr (o:=1) (off:=0) Tryd.underlying37 rfl ty5 rfl rfl) rfl (W_yes (congrArg some hb14) (W_v (.int .u8 a2.Call.Kind) (x_load (S.blk 4 rfl) ty5 rfl rfl) rfl (W_yes (congrArg some hb14) (W_v (.bool (a2.Call.Kind != (1:Int))) (x_ibin rfl rfl rfl rfl) rfl (W_yes (congrArg some hb14) (W_v (.bool (a2.Call.Kind != (1:Int))) (x_move rfl) rfl ?_)))))))))
    refine Wl_cutN 3 (fun ρ w'=>Agree ρ [(0,pt bo0 0),(1,.int .i64 a1),(6,pt b1 0),(7,pt b4 0),(8,.int .i64 t7),(25,.bool (a3.Err != (0:Int))),(33,.bool ((a2.Call.Kind != (1:Int))&&(decide (t7<(0:Int)))))]∧w9=w') ?_ ?_
    ·rcases boolCases (a2.Call.Kind != (1:Int)) with hb15 | hb15
     ·skip
      refine W_no (skT hb15) rfl (W_no (skT hb15) rfl (W_yes (congrArg some hb14) (W_v (.bool false) (x_pick (k:=false) (congrArg Value.bool hb15) rfl) rfl (Wl_nil ?_))))
      exact ⟨⟨rfl,rfl,rfl,rfl,rfl,rfl,(by first | rfl | (rw [hb15];rfl) | (simp only [hb15];rfl)),trivial⟩,rfl⟩
     ·skip
      refine W_yes (congrArg some hb15) (W_v (.int .i64 t7) (x_move rfl) rfl (W_yes (congrArg some hb15) (W_v (.bool (decide (t7<(0:Int)))) (x_ibin rfl rfl rfl rfl) rfl (W_yes (congrArg some hb14) (W_v (.bool (decide (t7<(0:Int)))) (x_pick (k:=true) (congrArg Value.bool hb15) rfl) rfl (Wl_nil ?_))))))
      exact ⟨⟨rfl,rfl,rfl,rfl,rfl,rfl,(by first | rfl | (rw [hb15];rfl) | (simp only [hb15];rfl)),trivial⟩,rfl⟩
    rintro ρ _ ⟨hρ,rfl⟩
    rw [agree_eta hρ]
    refine W_v (.bool ((a2.Call.Kind != (1:Int))&&(decide (t7<(0:Int))))) (x_pick (k:=false) (congrArg Value.bool hb14) rfl) rfl (Wl_nil ?_)
    exact ⟨⟨rfl,rfl,rfl,rfl,rfl,(by first | rfl | (rw [hb14];rfl) | (simp only [hb14];rfl)),trivial⟩,rfl⟩
   ·skip
    refine W_no (skF hb14) rfl (W_no (skF hb14) rfl (W_no (skF hb14) rfl (W_no (skF hb14) rfl (W_no (skF hb14) rfl (W_no (rfl) rfl (W_no (rfl) rfl (W_no (skF hb14) rfl (W_v (.bool true) (x_pick (k:=true) (congrArg Value.bool hb14) rfl) rfl (Wl_nil ?_)))))))))
    exact ⟨⟨rfl,rfl,rfl,rfl,rfl,(by first | rfl | (rw [hb14];rfl) | (simp only [hb14];rfl)),trivial⟩,rfl⟩
 as_aux_lemma =>
 rintro ρ _ ⟨hρ,rfl⟩
 rw [agree_eta hρ]
 refine Wl_nil (tn ?_)
 rcases iteS H with ⟨hb16,H⟩ | ⟨hb16,H⟩
 ·refine Wp_cond_true (congrArg Value.bool hb16) ?_
  refine Wp_ret ?_
  refine tr (?_)
  obtain rfl:=Option.some.inj H
  exact ⟨_,_,_,fun w1 e1=>run_resR (vs:=[]) (FA.nil),HM,E,S.pick [0,1,2] (by decide),⟨A0_1,c0_1,A0_2,c0_2,rfl,rfl⟩⟩
 refine Wp_cond_false (congrArg Value.bool hb16) (Wp_skip (tn (Wp_seq (Wp_region_lit (W_v (pt b1 1) (x_fieldAddr (o:=0) (off:=1) Tryd.underlying39 rfl ty37 rfl rfl) rfl (W_v (pt b1 1) (x_fieldAddr (o:=1) (off:=0) Tryd.underlying37 rfl ty5 rfl rfl) rfl (W_v (.int .u8 a2.Call.Kind) (x_load (S.blk 4 rfl) ty5 rfl rfl) rfl (Wl_nil (tn ?_)))))))))
 refine Wp_block ?_
 refine Wp_seq (Wp_region_lit (W_v (.bool (a2.Call.Kind==(1:Int))) (x_ibin rfl rfl rfl rfl) rfl (W_v (.bool (a2.Call.Kind==(1:Int))) (x_assign rfl) rfl (Wl_nil (tn ?_)))))
 rcases iteS H with ⟨hb17,H⟩ | ⟨hb17,H⟩
 ·refine Wp_cond_true (congrArg Value.bool hb17) ?_
  refine Wp_seq (Wp_region_lit (W_v (.int .i64 1) (x_assign rfl) rfl (Wl_nil (tn (Wp_seq (Wp_seq (Wp_region_lit (W_v (.int .i64 0) (x_assign rfl) rfl (Wl_nil (tn ?_))))))))))
  obtain ⟨o169,o169h,o169H⟩:=bindS H
  refine Wp_blockJ (fun ρ w'=>∃ (x168:Int),(x168)=o169∧Agree ρ [(0,pt bo0 0),(1,.int .i64 a1),(6,pt b1 0),(9,.int .i64 x168)]∧Ext w w'∧St w' M10 F [Blk bo0 (.cells #[.int .i64 a0.time,.slice A0_1 a0.facts.length c0_1,.slice A0_2 a0.lives.length c0_2] 35 (0,0)),Row r_ferrymanlaw16_fact 54 (.slice A0_1 a0.facts.length c0_1) a0.facts,Stk n_ferrymanlaw16_life 52 (.slice A0_2 a0.lives.length c0_2) a0.lives,B43 b4 a3 A3_0 c3_0,B39 b1 a2]) ?_ ?_
  ·skip
   refine Wp_loop (fun n ρ w'=>∃ (x118:Int) (x119:Int),ferrymanlaw16_log_note_POO_l0 a0 a2 n x118 x119=some o169∧Agree ρ [(0,pt bo0 0),(1,.int .i64 a1),(6,pt b1 0),(9,.int .i64 x118),(10,.int .i64 x119)]∧Ext w w'∧St w' M10 F [Blk bo0 (.cells #[.int .i64 a0.time,.slice A0_1 a0.facts.length c0_1,.slice A0_2 a0.lives.length c0_2] 35 (0,0)),Row r_ferrymanlaw16_fact 54 (.slice A0_1 a0.facts.length c0_1) a0.facts,Stk n_ferrymanlaw16_life 52 (.slice A0_2 a0.lives.length c0_2) a0.lives,B43 b4 a3 A3_0 c3_0,B39 b1 a2]) k ?_ ?_
   ·skip
    exact ⟨(1:Int),(0:Int),o169h,⟨rfl,rfl,rfl,rfl,rfl,trivial⟩,E,S.pick [0,1,2,3,4] (by decide)⟩
   ·intro n
    rintro ρ w170 ⟨x118,x119,H,hρ,E,S⟩
    rw [agree_eta hρ]
    cases n with
    | zero=>cases H
    | succ k =>
     rw [ferrymanlaw16_log_note_POO_l0.eq_2] at H
     refine Wp_seq (Wp_seq (Wp_region_lit (W_v (.int .i64 x119) (x_move rfl) rfl (W_v (pt bo0 0) (x_move rfl) rfl (W_v (pt bo0 0) (x_nilptr rfl) rfl (W_v (pt bo0 2) (x_fieldAddr (o:=0) (off:=2) Tryd.underlying35 rfl ty33 rfl rfl) rfl (W_v (.slice A0_2 a0.lives.length c0_2) (x_load (S.blk 0 rfl) ty33 rfl rfl) rfl (W_v (.int .i64 (a0.lives.length:Int)) (x_len_slice (n:=a0.lives.length) Tryd.underlying33 rfl) rfl (W_v (.bool (decide (x119<(a0.lives.length:Int)))) (x_ibin rfl rfl rfl rfl) rfl (Wl_nil (tn ?_)))))))))))
     rcases iteS H with ⟨hb171,H⟩ | ⟨hb171,H⟩
     ·refine Wp_cond_true (congrArg Value.bool hb171) ?_
      refine Wp_skip (tn (Wp_seq ?_))
      obtain ⟨o195,o195h,o195H⟩:=bindS H
      refine Wp_cut (fun ρ w'=>∃ (x194:Int),(x194)=o195∧Agree ρ [(0,pt bo0 0),(1,.int .i64 a1),(6,pt b1 0),(9,.int .i64 x194),(10,.int .i64 x119)]∧Ext w w'∧St w' M10 F [Stk n_ferrymanlaw16_life 52 (.slice A0_2 a0.lives.length c0_2) a0.lives,Blk bo0 (.cells #[.int .i64 a0.time,.slice A0_1 a0.facts.length c0_1,.slice A0_2 a0.lives.length c0_2] 35 (0,0)),Row r_ferrymanlaw16_fact 54 (.slice A0_1 a0.facts.length c0_1) a0.facts,B43 b4 a3 A3_0 c3_0,B39 b1 a2]) ?_ ?_
      ·as_aux_lemma =>
        clear o195H
        have H:=o195h
        refine Wp_block ?_
        refine Wp_seq ?_
        obtain ⟨⟨p203,p204⟩,H⟩:=chkS H
        obtain ⟨A205,c206,S⟩:=S.stk_out 2 rfl (rd_some p203 p204)
        obtain ⟨b207,ee208⟩:=S.stkx_at 3 rfl
        replace S:St w170 M10 F [_,_,_,_,_,_]:=S
        refine Wp_region_any (S:=fun w'=>∃ Mx,M10.le Mx∧St w' Mx F [Row r_ferrymanlaw16_fact 54 (.slice A205 ((rd a0.lives x119).writes).length c206) ((rd a0.lives x119).writes),Blk bo0 (.cells #[.int .i64 a0.time,.slice A0_1 a0.facts.length c0_1,.slice A0_2 a0.lives.length c0_2] 35 (0,0)),Row r_ferrymanlaw16_fact 54 (.slice A0_1 a0.facts.length c0_1) a0.facts,StkX n_ferrymanlaw16_life 52 (.slice A0_2 a0.lives.length c0_2) a0.lives x119.toNat (rd a0.lives x119) (A205,c206),B43 b4 a3 A3_0 c3_0,B39 b1 a2]) (L:=11) mixed ?_
        intro w210 hw211 E'
        replace S:=S.heap hw211
        replace E:=E.trans E'
        have D1:∃ Mx,Hp.le M10 Mx∧St _ Mx F [_,_,_,_,_,_]:=⟨_,Hp.le_refl _,S.pick [0,1,2,3,4,5] (by decide)⟩
        refine Wa_take (i:=0) rfl (by kernel_rfl) rfl rfl (pt bo0 0) rfl (fun w' h'=>x_move rfl) D1 (Wa_take (i:=1) rfl (by kernel_rfl) rfl rfl (pt bo0 0) rfl (fun w' h'=>x_nilptr rfl) D1 (Wa_take (i:=2) rfl (by kernel_rfl) rfl rfl (pt bo0 2) rfl (fun w' h'=>x_fieldAddr (o:=0) (off:=2) Tryd.underlying35 rfl ty33 rfl rfl) D1 (Wa_take (i:=3) rfl (by kernel_rfl) rfl rfl (.slice A0_2 a0.lives.length c0_2) rfl (fun w' h'=>x_load (cls_blk h' 1 rfl) ty33 rfl rfl) D1 (Wa_take (i:=4) rfl (by kernel_rfl) rfl rfl (.int .i64 x119) rfl (fun w' h'=>x_move rfl) D1 (Wa_take (i:=5) rfl (by kernel_rfl) rfl rfl (.pointer (some ⟨b207,0+x119.toNat*6,none⟩)) rfl (fun w' h'=>x_indexAddr Tryd.underlying33 ty52 (slA ee208) rfl p203 p204) D1 (Wa_take (i:=6) rfl (by kernel_rfl) rfl rfl (.pointer (some ⟨b207,0+x119.toNat*6,none⟩)) rfl (fun w' h'=>x_fieldAddr (o:=0+x119.toNat*6) (off:=0) Tryd.underlying52 rfl ty3 rfl rfl) D1 (Wa_take (i:=7) rfl (by kernel_rfl) rfl rfl (.int .i64 ((rd a0.lives x119).task)) rfl (fun w' h'=>x_load_stk h' 3 rfl ee208 0 rfl ty3 rfl) D1 (Wa_take (i:=8) rfl (by kernel_rfl) rfl rfl (pt b1 0) rfl (fun w' h'=>x_fieldAddr (o:=0) (off:=0) Tryd.underlying39 rfl ty3 rfl rfl) D1 (Wa_take (i:=9) rfl (by kernel_rfl) rfl rfl (.int .i64 a2.Task) rfl (fun w' h'=>x_load (cls_blk h' 5 rfl) ty3 rfl rfl) D1 (Wa_take (i:=10) rfl (by kernel_rfl) rfl rfl (.bool ((rd a0.lives x119).task==a2.Task)) rfl (fun w' h'=>x_ibin rfl rfl rfl rfl) D1 ?_))))))))))
        refine Wa_done (by kernel_rfl) ?_
        replace S:=S.stk_in 3 rfl 0 rfl
        replace S:St w210 M10 F [_,_,_,_,_]:=S
        refine tn ?_
        obtain ⟨o215,o215h,o215H⟩:=bindS H
        refine Wp_cut (fun ρ w'=>∃ (x214:Int),(x214)=o215∧Agree ρ [(0,pt bo0 0),(1,.int .i64 a1),(6,pt b1 0),(9,.int .i64 x214),(10,.int .i64 x119)]∧Ext w w'∧St w' M10 F [Stk n_ferrymanlaw16_life 52 (.slice A0_2 a0.lives.length c0_2) a0.lives,Blk bo0 (.cells #[.int .i64 a0.time,.slice A0_1 a0.facts.length c0_1,.slice A0_2 a0.lives.length c0_2] 35 (0,0)),Row r_ferrymanlaw16_fact 54 (.slice A0_1 a0.facts.length c0_1) a0.facts,B43 b4 a3 A3_0 c3_0,B39 b1 a2]) ?_ ?_
        ·clear o215H
         have H:=o215h
         rcases iteS H with ⟨hb216,H⟩ | ⟨hb216,H⟩
         ·refine Wp_cond_true (congrArg Value.bool hb216) ?_
          refine Wp_region_lit (W_v (.int .i64 x118) (x_move rfl) rfl (W_v (.int .i64 (IntKind.i64.wrap (x118+(1:Int)))) (x_ibin rfl rfl rfl rfl) rfl (W_v (.int .i64 (IntKind.i64.wrap (x118+(1:Int)))) (x_assign rfl) rfl (Wl_nil (tn ?_)))))
          exact ⟨(IntKind.i64.wrap (x118+(1:Int))),Option.some.inj H,⟨rfl,rfl,rfl,rfl,rfl,trivial⟩,E,S.pick [0,1,2,3,4] (by decide)⟩
         refine Wp_cond_false (congrArg Value.bool hb216) (Wp_skip (tn ?_))
         exact ⟨x118,Option.some.inj H,⟨rfl,rfl,rfl,rfl,rfl,trivial⟩,E,S.pick [0,1,2,3,4] (by decide)⟩
        rintro ρ w217 ⟨x214,rfl,hρ,E,S⟩
        rw [agree_eta hρ]
        have H:=o215H
        refine bn (tn ?_)
        exact ⟨x214,Option.some.inj H,⟨rfl,rfl,rfl,rfl,rfl,trivial⟩,E,S.pick [0,1,2,3,4] (by decide)⟩
      rintro ρ w218 ⟨x194,rfl,hρ,E,S⟩
      rw [agree_eta hρ]
      have H:=o195H
      refine tn (Wp_region_lit (W_v (.int .i64 x119) (x_move rfl) rfl (W_v (.int .i64 (IntKind.i64.wrap (x119+(1:Int)))) (x_ibin rfl rfl rfl rfl) rfl (W_v (.int .i64 (IntKind.i64.wrap (x119+(1:Int)))) (x_assign rfl) rfl (Wl_nil (tn ?_))))))
      exact ⟨k,Nat.lt_succ_self k,⟨x194,(IntKind.i64.wrap (x119+(1:Int))),H,⟨rfl,rfl,rfl,rfl,rfl,trivial⟩,E,S.pick [1,2,0,3,4] (by decide)⟩⟩
     refine Wp_cond_false (congrArg Value.bool hb171) ?_
     refine Wp_exit ?_
     refine tx (tx (bsm (?_)))
     refine tn ?_
     exact ⟨x118,Option.some.inj H,⟨rfl,rfl,rfl,rfl,trivial⟩,E,S.pick [0,1,2,3,4] (by decide)⟩
  rintro ρ w219 ⟨x168,rfl,hρ,E,S⟩
  rw [agree_eta hρ]
  have H:=o169H
  refine tn ?_
  refine Wp_region_any (S:=fun w'=>∃ Mx,M10.le Mx∧St w' Mx F [Blk bo0 (.cells #[.int .i64 a0.time,.slice A0_1 a0.facts.length c0_1,.slice A0_2 a0.lives.length c0_2] 35 (0,0)),Row r_ferrymanlaw16_fact 54 (.slice A0_1 a0.facts.length c0_1) a0.facts,B43 b4 a3 A3_0 c3_0,B39 b1 a2]) (L:=18) mixed ?_
  intro w229 hw230 E'
  replace S:=S.heap hw230
  replace E:=E.trans E'
  have D2:∃ Mx,Hp.le M10 Mx∧St _ Mx F [_,_,_,_]:=⟨_,Hp.le_refl _,S.pick [0,1,3,4] (by decide)⟩
  refine Wa_take (i:=0) rfl (by kernel_rfl) rfl rfl (pt bo0 0) rfl (fun w' h'=>x_move rfl) D2 (Wa_take (i:=1) rfl (by kernel_rfl) rfl rfl (pt bo0 0) rfl (fun w' h'=>x_move rfl) D2 (Wa_take (i:=2) rfl (by kernel_rfl) rfl rfl (pt bo0 0) rfl (fun w' h'=>x_nilptr rfl) D2 (Wa_take (i:=3) rfl (by kernel_rfl) rfl rfl (pt bo0 2) rfl (fun w' h'=>x_fieldAddr (o:=0) (off:=2) Tryd.underlying35 rfl ty33 rfl rfl) D2 (Wa_take (i:=4) rfl (by kernel_rfl) rfl rfl (.slice A0_2 a0.lives.length c0_2) rfl (fun w' h'=>x_load (cls_blk h' 0 rfl) ty33 rfl rfl) D2 (Wa_take (i:=5) rfl (by kernel_rfl) rfl rfl (pt b1 0) rfl (fun w' h'=>x_fieldAddr (o:=0) (off:=0) Tryd.underlying39 rfl ty3 rfl rfl) D2 (Wa_take (i:=6) rfl (by kernel_rfl) rfl rfl (.int .i64 a2.Task) rfl (fun w' h'=>x_load (cls_blk h' 3 rfl) ty3 rfl rfl) D2 (Wa_take (i:=7) rfl (by kernel_rfl) rfl rfl (.int .i64 x168) rfl (fun w' h'=>x_move rfl) D2 (Wa_take (i:=8) rfl (by kernel_rfl) rfl rfl (pt bo0 0) rfl (fun w' h'=>x_move rfl) D2 (Wa_take (i:=9) rfl (by kernel_rfl) rfl rfl (pt bo0 0) rfl (fun w' h'=>x_nilptr rfl) D2 (Wa_take (i:=10) rfl (by kernel_rfl) rfl rfl (pt bo0 0) rfl (fun w' h'=>x_fieldAddr (o:=0) (off:=0) Tryd.underlying35 rfl ty3 rfl rfl) D2 (Wa_take (i:=11) rfl (by kernel_rfl) rfl rfl (.int .i64 a0.time) rfl (fun w' h'=>x_load (cls_blk h' 0 rfl) ty3 rfl rfl) D2 (Wa_take (i:=12) rfl (by kernel_rfl) rfl rfl (.int .i64 a1) rfl (fun w' h'=>x_move rfl) D2 (Wa_take (i:=13) rfl (by kernel_rfl) rfl rfl (.agg #[.int .i64 (a2.Task),.int .i64 x168,.int .i64 (a0.time),.slice none 0 0,.int .i64 a1,.int .i64 0]) rfl (fun w' h'=>x_build2 (pl:=[(0,1),(1,1),(2,1),(3,1),(4,1),(5,1)]) #[.int .i64 (a2.Task),.int .i64 x168,.int .i64 (a0.time),.slice none 0 0,.int .i64 a1,.int .i64 0] Tryd.underlying52 ty52 (by as_aux_lemma=>kernel_rfl) rfl (by as_aux_lemma=>kernel_rfl)) D2 ?_)))))))))))))
  refine Wa_solo (i:=14) rfl (by kernel_rfl) ?_
  refine W_bslice S #[.int .i64 (a2.Task),.int .i64 x168,.int .i64 (a0.time),.slice none 0 0,.int .i64 a1,.int .i64 0] Tryd.underlying33 ty52 rfl rfl #[.int .i64 0,.int .i64 0,.int .i64 0,.slice none 0 0,.int .i64 0,.int .i64 0] (by as_aux_lemma=>kernel_rfl) (by as_aux_lemma=>kernel_rfl) rfl ?_
  intro b231 w232 E' S
  replace E:=E.trans E'
  replace S:=S.stk_one (N:=n_ferrymanlaw16_life) 0 rfl (⟨(a2.Task),x168,(a0.time),([]:(List ferrymanlaw16_fact)),a1,(0:Int)⟩:ferrymanlaw16_life) rfl rfl
  refine Wl_nil (on_n ⟨.inr ⟨M10,Hp.le_refl M10,(S.pick [1,2,4,5] (by decide))⟩,?_⟩)
  refine Wa_solo (i:=15) rfl (by kernel_rfl) ?_
  obtain ⟨p234,H⟩:=chkS H
  refine W_stkappend S 2 rfl rfl rfl Tryd.underlying33 Tryd.underlying33 ty52 rfl (by decide) (by decide) (by omega) rfl ?_
  intro v235 w236 E' S
  replace E:=E.trans E'
  obtain ⟨A237,c238,rfl,_⟩:=S.stk_form 2 rfl
  refine Wl_nil (on_n ⟨.inr ⟨M10,Hp.le_refl M10,(S.pick [0,1,3,4] (by decide))⟩,?_⟩)
  have D3:∃ Mx,Hp.le M10 Mx∧St _ Mx F [_,_,_,_]:=⟨_,Hp.le_refl _,S.pick [0,1,3,4] (by decide)⟩
  refine Wa_take (i:=16) rfl (by kernel_rfl) rfl rfl (pt bo0 0) rfl (fun w' h'=>x_nilptr rfl) D3 (Wa_take (i:=17) rfl (by kernel_rfl) rfl rfl (pt bo0 2) rfl (fun w' h'=>x_fieldAddr (o:=0) (off:=2) Tryd.underlying35 rfl ty33 rfl rfl) D3 ?_)
  refine Wa_solo (i:=18) rfl (by kernel_rfl) ?_
  refine W_store S 0 rfl ty33 rfl rfl [.slice A237 (a0.lives++([(⟨(a2.Task),x168,(a0.time),([]:(List ferrymanlaw16_fact)),a1,(0:Int)⟩:ferrymanlaw16_life)]:List ferrymanlaw16_life)).length c238] rfl rfl rfl #[.int .i64 a0.time,.slice A0_1 a0.facts.length c0_1,.slice A237 (a0.lives++([(⟨(a2.Task),x168,(a0.time),([]:(List ferrymanlaw16_fact)),a1,(0:Int)⟩:ferrymanlaw16_life)]:List ferrymanlaw16_life)).length c238] rfl rfl ?_
  intro w239 E' S
  replace E:=E.trans E'
  refine Wl_nil (on_n ⟨.inl (by decide),?_⟩)
  refine Wa_done (by kernel_rfl) ?_
  refine bn ?_
  obtain rfl:=Option.some.inj H
  exact ⟨_,_,_,fun w1 e1=>run_resR (vs:=[]) (FA.nil),HM,E,S.pick [0,1,2] (by decide),⟨A0_1,c0_1,A237,c238,rfl,rfl⟩⟩
 refine Wp_cond_false (congrArg Value.bool hb17) ?_
 as_aux_lemma =>
 refine Wp_seq (Wp_region_lit (W_v (.bool (a2.Call.Kind==(3:Int))) (x_ibin rfl rfl rfl rfl) rfl (W_v (.bool (a2.Call.Kind==(3:Int))) (x_assign rfl) rfl (Wl_nil (tn ?_)))))
 rcases iteS H with ⟨hb240,H⟩ | ⟨hb240,H⟩
 ·refine Wp_cond_true (congrArg Value.bool hb240) ?_
  obtain ⟨⟨p280,p281⟩,H⟩:=chkS H
  obtain ⟨A282,c283,S⟩:=S.stk_out 2 rfl (rd_some p280 p281)
  obtain ⟨b284,ee285⟩:=S.stkx_at 3 rfl
  replace S:St w9 M10 F [_,_,_,_,_,_]:=S
  refine Wp_region_any (S:=fun w'=>∃ Mx,M10.le Mx∧St w' Mx F [Blk bo0 (.cells #[.int .i64 a0.time,.slice A0_1 a0.facts.length c0_1,.slice A0_2 a0.lives.length c0_2] 35 (0,0)),Row r_ferrymanlaw16_fact 54 (.slice A0_1 a0.facts.length c0_1) a0.facts,StkX n_ferrymanlaw16_life 52 (.slice A0_2 a0.lives.length c0_2) a0.lives t7.toNat (rd a0.lives t7) (A282,c283),B43 b4 a3 A3_0 c3_0,B39 b1 a2]) (L:=24) mixed ?_
  intro w303 hw304 E'
  replace S:=S.heap hw304
  replace E:=E.trans E'
  have D4:∃ Mx,Hp.le M10 Mx∧St _ Mx F [_,_,_,_,_]:=⟨_,Hp.le_refl _,S.pick [1,2,3,4,5] (by decide)⟩
  refine Wa_take (i:=0) rfl (by kernel_rfl) rfl rfl (pt bo0 0) rfl (fun w' h'=>x_move rfl) D4 (Wa_take (i:=1) rfl (by kernel_rfl) rfl rfl (pt bo0 0) rfl (fun w' h'=>x_nilptr rfl) D4 (Wa_take (i:=2) rfl (by kernel_rfl) rfl rfl (pt bo0 2) rfl (fun w' h'=>x_fieldAddr (o:=0) (off:=2) Tryd.underlying35 rfl ty33 rfl rfl) D4 (Wa_take (i:=3) rfl (by kernel_rfl) rfl rfl (.slice A0_2 a0.lives.length c0_2) rfl (fun w' h'=>x_load (cls_blk h' 0 rfl) ty33 rfl rfl) D4 (Wa_take (i:=4) rfl (by kernel_rfl) rfl rfl (.int .i64 t7) rfl (fun w' h'=>x_move rfl) D4 (Wa_take (i:=5) rfl (by kernel_rfl) rfl rfl (pt bo0 0) rfl (fun w' h'=>x_move rfl) D4 (Wa_take (i:=6) rfl (by kernel_rfl) rfl rfl (pt bo0 0) rfl (fun w' h'=>x_nilptr rfl) D4 (Wa_take (i:=7) rfl (by kernel_rfl) rfl rfl (pt bo0 2) rfl (fun w' h'=>x_fieldAddr (o:=0) (off:=2) Tryd.underlying35 rfl ty33 rfl rfl) D4 (Wa_take (i:=8) rfl (by kernel_rfl) rfl rfl (.slice A0_2 a0.lives.length c0_2) rfl (fun w' h'=>x_load (cls_blk h' 0 rfl) ty33 rfl rfl) D4 (Wa_take (i:=9) rfl (by kernel_rfl) rfl rfl (.int .i64 t7) rfl (fun w' h'=>x_move rfl) D4 (Wa_take (i:=10) rfl (by kernel_rfl) rfl rfl (.pointer (some ⟨b284,0+t7.toNat*6,none⟩)) rfl (fun w' h'=>x_indexAddr Tryd.underlying33 ty52 (slA ee285) rfl p280 p281) D4 (Wa_take (i:=11) rfl (by kernel_rfl) rfl rfl (.pointer (some ⟨b284,0+t7.toNat*6+3,none⟩)) rfl (fun w' h'=>x_fieldAddr (o:=0+t7.toNat*6) (off:=3) Tryd.underlying52 rfl ty32 rfl rfl) D4 (Wa_take (i:=12) rfl (by kernel_rfl) rfl rfl (.slice A282 ((rd a0.lives t7).writes).length c283) rfl (fun w' h'=>x_load_stk h' 2 rfl ee285 3 rfl ty32 rfl) D4 (Wa_take (i:=13) rfl (by kernel_rfl) rfl rfl (pt b1 1) rfl (fun w' h'=>x_fieldAddr (o:=0) (off:=1) Tryd.underlying39 rfl ty37 rfl rfl) D4 (Wa_take (i:=14) rfl (by kernel_rfl) rfl rfl (pt b1 3) rfl (fun w' h'=>x_fieldAddr (o:=1) (off:=2) Tryd.underlying37 rfl ty9 rfl rfl) D4 (Wa_take (i:=15) rfl (by kernel_rfl) rfl rfl (.string (bs a2.Call.Key)) rfl (fun w' h'=>x_load (cls_blk h' 4 rfl) ty9 rfl rfl) D4 ?_)))))))))))))))
  refine Wa_take (i:=16) rfl (by kernel_rfl) rfl rfl (pt b1 1) rfl (fun w' h'=>x_fieldAddr (o:=0) (off:=1) Tryd.underlying39 rfl ty37 rfl rfl) D4 (Wa_take (i:=17) rfl (by kernel_rfl) rfl rfl (pt b1 5) rfl (fun w' h'=>x_fieldAddr (o:=1) (off:=4) Tryd.underlying37 rfl ty9 rfl rfl) D4 (Wa_take (i:=18) rfl (by kernel_rfl) rfl rfl (.string (bs a2.Call.Value)) rfl (fun w' h'=>x_load (cls_blk h' 4 rfl) ty9 rfl rfl) D4 (Wa_take (i:=19) rfl (by kernel_rfl) rfl rfl (.agg #[.int .i64 0,.string (bs (a2.Call.Key)),.bool false,.string (bs (a2.Call.Value))]) rfl (fun w' h'=>x_build2 (pl:=[(0,1),(1,1),(2,1),(3,1)]) #[.int .i64 0,.string (bs (a2.Call.Key)),.bool false,.string (bs (a2.Call.Value))] Tryd.underlying54 ty54 (by as_aux_lemma=>kernel_rfl) rfl (by as_aux_lemma=>kernel_rfl)) D4 ?_)))
  refine Wa_solo (i:=20) rfl (by kernel_rfl) ?_
  refine W_bslice S #[.int .i64 0,.string (bs (a2.Call.Key)),.bool false,.string (bs (a2.Call.Value))] Tryd.underlying32 ty54 rfl rfl #[.int .i64 0,.string (bs ([]:Str)),.bool false,.string (bs ([]:Str))] (by as_aux_lemma=>kernel_rfl) (by as_aux_lemma=>kernel_rfl) rfl ?_
  intro b305 w306 E' S
  replace E:=E.trans E'
  replace S:=S.blk_row (r:=r_ferrymanlaw16_fact) (l:=([(⟨(0:Int),(a2.Call.Key),false,(a2.Call.Value)⟩:ferrymanlaw16_fact)]:List ferrymanlaw16_fact)) 0 rfl 1 (Nat.le_refl 1) rfl (Cells.cons (vs:=[.int .i64 0,.string (bs (a2.Call.Key)),.bool false,.string (bs (a2.Call.Value))]) (rfl) Cells.nil)
  refine Wl_nil (on_n ⟨.inr ⟨M10,Hp.le_refl M10,(S.pick [2,3,4,5,6] (by decide))⟩,?_⟩)
  refine Wa_solo (i:=21) rfl (by kernel_rfl) ?_
  obtain ⟨p308,H⟩:=chkS H
  obtain ⟨src309,hs310,hC311⟩:=src_of_read (P:=Tryd.prog) (ρ:=r_ferrymanlaw16_fact) (l:=([(⟨(0:Int),(a2.Call.Key),false,(a2.Call.Value)⟩:ferrymanlaw16_fact)]:List ferrymanlaw16_fact)) (S.row_read 0 rfl) (by decide)
  refine W_append S 1 rfl rfl rfl Tryd.underlying32 (.inl Tryd.underlying32) ty54 rfl (by decide) (by decide) hs310 hC311 rfl (Nat.le_trans (Nat.mul_le_mul_right 48 p308) (by decide)) rfl ?_
  intro v312 w313 E' S
  replace E:=E.trans E'
  obtain ⟨A314,c315,rfl,_⟩:=(S.row_read 1 rfl).form
  refine Wl_nil (on_n ⟨.inr ⟨M10,Hp.le_refl M10,(S.pick [2,3,4,5,6] (by decide))⟩,?_⟩)
  have D5:∃ Mx,Hp.le M10 Mx∧St _ Mx F [_,_,_,_,_]:=⟨_,Hp.le_refl _,S.pick [2,3,4,5,6] (by decide)⟩
  refine Wa_take (i:=22) rfl (by kernel_rfl) rfl rfl (.pointer (some ⟨b284,0+t7.toNat*6,none⟩)) rfl (fun w' h'=>x_indexAddr Tryd.underlying33 ty52 (slA ee285) rfl p280 p281) D5 (Wa_take (i:=23) rfl (by kernel_rfl) rfl rfl (.pointer (some ⟨b284,0+t7.toNat*6+3,none⟩)) rfl (fun w' h'=>x_fieldAddr (o:=0+t7.toNat*6) (off:=3) Tryd.underlying52 rfl ty32 rfl rfl) D5 ?_)
  refine Wa_solo (i:=24) rfl (by kernel_rfl) ?_
  obtain ⟨x317,he318,H⟩:=bindS H
  replace he318:=Option.some.inj he318
  refine W_stkset S 4 rfl ee285 3 ty32 rfl rfl [.slice A314 ((rd a0.lives t7).writes++([(⟨(0:Int),(a2.Call.Key),false,(a2.Call.Value)⟩:ferrymanlaw16_fact)]:List ferrymanlaw16_fact)).length c315] rfl rfl rfl rfl (⟨(rd a0.lives t7).task,(rd a0.lives t7).n,(rd a0.lives t7).snapshot,((rd a0.lives t7).writes++([(⟨(0:Int),(a2.Call.Key),false,(a2.Call.Value)⟩:ferrymanlaw16_fact)]:List ferrymanlaw16_fact)),(rd a0.lives t7).begun,(rd a0.lives t7).over⟩:ferrymanlaw16_life) (A314,c315) rfl he318 ?_
  intro w316 E' S
  replace E:=E.trans E'
  have p320:t7<(x317.length:Int):=by rw [← he318,List.length_set];exact p281
  have hs319:Value.slice A0_2 a0.lives.length c0_2=Value.slice A0_2 x317.length c0_2:=by rw [← he318,List.length_set]
  try unfold B39 at S
  try unfold B43 at S
  try rw [hs319] at S
  try rw [hs319]
  replace S:St w316 M10 F [_,_,_,_,_,_,_]:=S
  refine Wl_nil (on_n ⟨.inl (by decide),?_⟩)
  refine Wa_done (by kernel_rfl) ?_
  replace S:=S.stk_in 4 rfl 1 rfl
  replace S:St w316 M10 F [_,_,_,_,_,_]:=S
  refine bn ?_
  obtain rfl:=Option.some.inj H
  exact ⟨_,_,_,fun w1 e1=>run_resR (vs:=[]) (FA.nil),HM,E,S.pick [2,3,0] (by decide),⟨A0_1,c0_1,A0_2,c0_2,rfl,rfl⟩⟩
 refine Wp_cond_false (congrArg Value.bool hb240) ?_
 as_aux_lemma =>
 refine Wp_seq (Wp_region_lit (W_v (.bool (a2.Call.Kind==(4:Int))) (x_ibin rfl rfl rfl rfl) rfl (W_v (.bool (a2.Call.Kind==(4:Int))) (x_assign rfl) rfl (Wl_nil (tn ?_)))))
 rcases iteS H with ⟨hb321,H⟩ | ⟨hb321,H⟩
 ·refine Wp_cond_true (congrArg Value.bool hb321) ?_
  refine Wp_seq (Wp_region_lit (W_v (pt b4 1) (x_fieldAddr (o:=0) (off:=1) Tryd.underlying43 rfl ty4 rfl rfl) rfl (W_v (.bool a3.Found) (x_load (S.blk 3 rfl) ty4 rfl rfl) rfl (Wl_nil (tn ?_)))))
  obtain ⟨o488,o488h,o488H⟩:=bindS H
  refine Wp_cut (fun ρ w'=>∃ (x484:List ferrymanlaw16_life) (A485:Option Addr) (c486:Nat),(x484)=o488∧Agree ρ []∧Ext w w'∧St w' M10 F [Stk n_ferrymanlaw16_life 52 (.slice A485 x484.length c486) x484,Blk bo0 (.cells #[.int .i64 a0.time,.slice A0_1 a0.facts.length c0_1,.slice A485 x484.length c486] 35 (0,0)),Row r_ferrymanlaw16_fact 54 (.slice A0_1 a0.facts.length c0_1) a0.facts,B43 b4 a3 A3_0 c3_0,B39 b1 a2]) ?_ ?_
  ·as_aux_lemma =>
    clear o488H
    have H:=o488h
    rcases iteS H with ⟨hb489,H⟩ | ⟨hb489,H⟩
    ·refine Wp_cond_true (congrArg Value.bool hb489) ?_
     obtain ⟨⟨p529,p530⟩,H⟩:=chkS H
     obtain ⟨A531,c532,S⟩:=S.stk_out 2 rfl (rd_some p529 p530)
     obtain ⟨b533,ee534⟩:=S.stkx_at 3 rfl
     replace S:St w9 M10 F [_,_,_,_,_,_]:=S
     refine Wp_region_any (S:=fun w'=>∃ Mx,M10.le Mx∧St w' Mx F [Blk bo0 (.cells #[.int .i64 a0.time,.slice A0_1 a0.facts.length c0_1,.slice A0_2 a0.lives.length c0_2] 35 (0,0)),Row r_ferrymanlaw16_fact 54 (.slice A0_1 a0.facts.length c0_1) a0.facts,StkX n_ferrymanlaw16_life 52 (.slice A0_2 a0.lives.length c0_2) a0.lives t7.toNat (rd a0.lives t7) (A531,c532),B43 b4 a3 A3_0 c3_0,B39 b1 a2]) (L:=21) mixed ?_
     intro w552 hw553 E'
     replace S:=S.heap hw553
     replace E:=E.trans E'
     have D6:∃ Mx,Hp.le M10 Mx∧St _ Mx F [_,_,_,_,_]:=⟨_,Hp.le_refl _,S.pick [1,2,3,4,5] (by decide)⟩
     refine Wa_take (i:=0) rfl (by kernel_rfl) rfl rfl (pt bo0 0) rfl (fun w' h'=>x_move rfl) D6 (Wa_take (i:=1) rfl (by kernel_rfl) rfl rfl (pt bo0 0) rfl (fun w' h'=>x_nilptr rfl) D6 (Wa_take (i:=2) rfl (by kernel_rfl) rfl rfl (pt bo0 2) rfl (fun w' h'=>x_fieldAddr (o:=0) (off:=2) Tryd.underlying35 rfl ty33 rfl rfl) D6 (Wa_take (i:=3) rfl (by kernel_rfl) rfl rfl (.slice A0_2 a0.lives.length c0_2) rfl (fun w' h'=>x_load (cls_blk h' 0 rfl) ty33 rfl rfl) D6 (Wa_take (i:=4) rfl (by kernel_rfl) rfl rfl (.int .i64 t7) rfl (fun w' h'=>x_move rfl) D6 (Wa_take (i:=5) rfl (by kernel_rfl) rfl rfl (pt bo0 0) rfl (fun w' h'=>x_move rfl) D6 (Wa_take (i:=6) rfl (by kernel_rfl) rfl rfl (pt bo0 0) rfl (fun w' h'=>x_nilptr rfl) D6 (Wa_take (i:=7) rfl (by kernel_rfl) rfl rfl (pt bo0 2) rfl (fun w' h'=>x_fieldAddr (o:=0) (off:=2) Tryd.underlying35 rfl ty33 rfl rfl) D6 (Wa_take (i:=8) rfl (by kernel_rfl) rfl rfl (.slice A0_2 a0.lives.length c0_2) rfl (fun w' h'=>x_load (cls_blk h' 0 rfl) ty33 rfl rfl) D6 (Wa_take (i:=9) rfl (by kernel_rfl) rfl rfl (.int .i64 t7) rfl (fun w' h'=>x_move rfl) D6 (Wa_take (i:=10) rfl (by kernel_rfl) rfl rfl (.pointer (some ⟨b533,0+t7.toNat*6,none⟩)) rfl (fun w' h'=>x_indexAddr Tryd.underlying33 ty52 (slA ee534) rfl p529 p530) D6 (Wa_take (i:=11) rfl (by kernel_rfl) rfl rfl (.pointer (some ⟨b533,0+t7.toNat*6+3,none⟩)) rfl (fun w' h'=>x_fieldAddr (o:=0+t7.toNat*6) (off:=3) Tryd.underlying52 rfl ty32 rfl rfl) D6 (Wa_take (i:=12) rfl (by kernel_rfl) rfl rfl (.slice A531 ((rd a0.lives t7).writes).length c532) rfl (fun w' h'=>x_load_stk h' 2 rfl ee534 3 rfl ty32 rfl) D6 (Wa_take (i:=13) rfl (by kernel_rfl) rfl rfl (pt b1 1) rfl (fun w' h'=>x_fieldAddr (o:=0) (off:=1) Tryd.underlying39 rfl ty37 rfl rfl) D6 (Wa_take (i:=14) rfl (by kernel_rfl) rfl rfl (pt b1 3) rfl (fun w' h'=>x_fieldAddr (o:=1) (off:=2) Tryd.underlying37 rfl ty9 rfl rfl) D6 (Wa_take (i:=15) rfl (by kernel_rfl) rfl rfl (.string (bs a2.Call.Key)) rfl (fun w' h'=>x_load (cls_blk h' 4 rfl) ty9 rfl rfl) D6 ?_)))))))))))))))
     refine Wa_take (i:=16) rfl (by kernel_rfl) rfl rfl (.agg #[.int .i64 0,.string (bs (a2.Call.Key)),.bool true,.string (bs ([]:Str))]) rfl (fun w' h'=>x_build2 (pl:=[(0,1),(1,1),(2,1),(3,1)]) #[.int .i64 0,.string (bs (a2.Call.Key)),.bool true,.string (bs ([]:Str))] Tryd.underlying54 ty54 (by as_aux_lemma=>kernel_rfl) rfl (by as_aux_lemma=>kernel_rfl)) D6 ?_
     refine Wa_solo (i:=17) rfl (by kernel_rfl) ?_
     refine W_bslice S #[.int .i64 0,.string (bs (a2.Call.Key)),.bool true,.string (bs ([]:Str))] Tryd.underlying32 ty54 rfl rfl #[.int .i64 0,.string (bs ([]:Str)),.bool false,.string (bs ([]:Str))] (by as_aux_lemma=>kernel_rfl) (by as_aux_lemma=>kernel_rfl) rfl ?_
     intro b554 w555 E' S
     replace E:=E.trans E'
     replace S:=S.blk_row (r:=r_ferrymanlaw16_fact) (l:=([(⟨(0:Int),(a2.Call.Key),true,([]:Str)⟩:ferrymanlaw16_fact)]:List ferrymanlaw16_fact)) 0 rfl 1 (Nat.le_refl 1) rfl (Cells.cons (vs:=[.int .i64 0,.string (bs (a2.Call.Key)),.bool true,.string (bs ([]:Str))]) (rfl) Cells.nil)
     refine Wl_nil (on_n ⟨.inr ⟨M10,Hp.le_refl M10,(S.pick [2,3,4,5,6] (by decide))⟩,?_⟩)
     refine Wa_solo (i:=18) rfl (by kernel_rfl) ?_
     obtain ⟨p557,H⟩:=chkS H
     obtain ⟨src558,hs559,hC560⟩:=src_of_read (P:=Tryd.prog) (ρ:=r_ferrymanlaw16_fact) (l:=([(⟨(0:Int),(a2.Call.Key),true,([]:Str)⟩:ferrymanlaw16_fact)]:List ferrymanlaw16_fact)) (S.row_read 0 rfl) (by decide)
     refine W_append S 1 rfl rfl rfl Tryd.underlying32 (.inl Tryd.underlying32) ty54 rfl (by decide) (by decide) hs559 hC560 rfl (Nat.le_trans (Nat.mul_le_mul_right 48 p557) (by decide)) rfl ?_
     intro v561 w562 E' S
     replace E:=E.trans E'
     obtain ⟨A563,c564,rfl,_⟩:=(S.row_read 1 rfl).form
     refine Wl_nil (on_n ⟨.inr ⟨M10,Hp.le_refl M10,(S.pick [2,3,4,5,6] (by decide))⟩,?_⟩)
     have D7:∃ Mx,Hp.le M10 Mx∧St _ Mx F [_,_,_,_,_]:=⟨_,Hp.le_refl _,S.pick [2,3,4,5,6] (by decide)⟩
     refine Wa_take (i:=19) rfl (by kernel_rfl) rfl rfl (.pointer (some ⟨b533,0+t7.toNat*6,none⟩)) rfl (fun w' h'=>x_indexAddr Tryd.underlying33 ty52 (slA ee534) rfl p529 p530) D7 (Wa_take (i:=20) rfl (by kernel_rfl) rfl rfl (.pointer (some ⟨b533,0+t7.toNat*6+3,none⟩)) rfl (fun w' h'=>x_fieldAddr (o:=0+t7.toNat*6) (off:=3) Tryd.underlying52 rfl ty32 rfl rfl) D7 ?_)
     refine Wa_solo (i:=21) rfl (by kernel_rfl) ?_
     obtain ⟨x566,he567,H⟩:=bindS H
     replace he567:=Option.some.inj he567
     refine W_stkset S 4 rfl ee534 3 ty32 rfl rfl [.slice A563 ((rd a0.lives t7).writes++([(⟨(0:Int),(a2.Call.Key),true,([]:Str)⟩:ferrymanlaw16_fact)]:List ferrymanlaw16_fact)).length c564] rfl rfl rfl rfl (⟨(rd a0.lives t7).task,(rd a0.lives t7).n,(rd a0.lives t7).snapshot,((rd a0.lives t7).writes++([(⟨(0:Int),(a2.Call.Key),true,([]:Str)⟩:ferrymanlaw16_fact)]:List ferrymanlaw16_fact)),(rd a0.lives t7).begun,(rd a0.lives t7).over⟩:ferrymanlaw16_life) (A563,c564) rfl he567 ?_
     intro w565 E' S
     replace E:=E.trans E'
     have p569:t7<(x566.length:Int):=by rw [← he567,List.length_set];exact p530
     have hs568:Value.slice A0_2 a0.lives.length c0_2=Value.slice A0_2 x566.length c0_2:=by rw [← he567,List.length_set]
     try unfold B39 at S
     try unfold B43 at S
     try rw [hs568] at S
     try rw [hs568]
     replace S:St w565 M10 F [_,_,_,_,_,_,_]:=S
     refine Wl_nil (on_n ⟨.inl (by decide),?_⟩)
     refine Wa_done (by kernel_rfl) ?_
     replace S:=S.stk_in 4 rfl 1 rfl
     replace S:St w565 M10 F [_,_,_,_,_,_]:=S
     refine tn ?_
     exact ⟨x566,A0_2,c0_2,Option.some.inj H,trivial,E,S.pick [0,2,3,4,5] (by decide)⟩
    refine Wp_cond_false (congrArg Value.bool hb489) (Wp_skip (tn ?_))
    exact ⟨a0.lives,A0_2,c0_2,Option.some.inj H,trivial,E,S.pick [2,0,1,3,4] (by decide)⟩
  rintro ρ w570 ⟨x484,A485,c486,rfl,hρ,E,S⟩
  rw [agree_eta hρ]
  have H:=o488H
  refine bn ?_
  obtain rfl:=Option.some.inj H
  exact ⟨_,_,_,fun w1 e1=>run_resR (vs:=[]) (FA.nil),HM,E,S.pick [1,2,0] (by decide),⟨A0_1,c0_1,A485,c486,rfl,rfl⟩⟩
 refine Wp_cond_false (congrArg Value.bool hb321) ?_
 as_aux_lemma =>
 refine Wp_seq (Wp_region_lit (W_v (.bool (a2.Call.Kind==(6:Int))) (x_ibin rfl rfl rfl rfl) rfl (W_v (.bool (a2.Call.Kind==(6:Int))) (x_assign rfl) rfl (Wl_nil (tn ?_)))))
 rcases iteS H with ⟨hb571,H⟩ | ⟨hb571,H⟩
 ·refine Wp_cond_true (congrArg Value.bool hb571) ?_
  refine Wp_seq ?_
  obtain ⟨⟨p582,p583⟩,H⟩:=chkS H
  obtain ⟨A584,c585,S⟩:=S.stk_out 2 rfl (rd_some p582 p583)
  obtain ⟨b586,ee587⟩:=S.stkx_at 3 rfl
  replace S:St w9 M10 F [_,_,_,_,_,_]:=S
  refine Wp_region_lit (W_v (pt bo0 0) (x_move rfl) rfl (W_v (pt bo0 0) (x_nilptr rfl) rfl (W_v (pt bo0 2) (x_fieldAddr (o:=0) (off:=2) Tryd.underlying35 rfl ty33 rfl rfl) rfl (W_v (.slice A0_2 a0.lives.length c0_2) (x_load (S.blk 1 rfl) ty33 rfl rfl) rfl (W_v (.int .i64 t7) (x_move rfl) rfl (W_v (.int .i64 a1) (x_move rfl) rfl (W_v (.pointer (some ⟨b586,0+t7.toNat*6,none⟩)) (x_indexAddr Tryd.underlying33 ty52 (slA ee587) rfl p582 p583) rfl (W_v (.pointer (some ⟨b586,0+t7.toNat*6+5,none⟩)) (x_fieldAddr (o:=0+t7.toNat*6) (off:=5) Tryd.underlying52 rfl ty3 rfl rfl) rfl ?_))))))))
  obtain ⟨x590,he591,H⟩:=bindS H
  replace he591:=Option.some.inj he591
  refine W_stkset S 3 rfl ee587 5 ty3 rfl rfl [.int .i64 a1] rfl rfl rfl rfl (⟨(rd a0.lives t7).task,(rd a0.lives t7).n,(rd a0.lives t7).snapshot,(rd a0.lives t7).writes,(rd a0.lives t7).begun,a1⟩:ferrymanlaw16_life) (A584,c585) rfl he591 ?_
  intro w589 E' S
  replace E:=E.trans E'
  have p593:t7<(x590.length:Int):=by rw [← he591,List.length_set];exact p583
  have hs592:Value.slice A0_2 a0.lives.length c0_2=Value.slice A0_2 x590.length c0_2:=by rw [← he591,List.length_set]
  try unfold B39 at S
  try unfold B43 at S
  try rw [hs592] at S
  try rw [hs592]
  replace S:St w589 M10 F [_,_,_,_,_,_]:=S
  refine Wl_nil ?_
  replace S:=S.stk_in 3 rfl 0 rfl
  replace S:St w589 M10 F [_,_,_,_,_]:=S
  refine tn (Wp_seq (Wp_seq ?_))
  obtain ⟨⟨p599,p600⟩,H⟩:=chkS H
  obtain ⟨A601,c602,S⟩:=S.stk_out 0 rfl (rd_some p599 p600)
  obtain ⟨b603,ee604⟩:=S.stkx_at 1 rfl
  replace S:St w589 M10 F [_,_,_,_,_,_]:=S
  refine Wp_region_lit (W_v (pt bo0 0) (x_move rfl) rfl (W_v (pt bo0 0) (x_nilptr rfl) rfl (W_v (pt bo0 2) (x_fieldAddr (o:=0) (off:=2) Tryd.underlying35 rfl ty33 rfl rfl) rfl (W_v (.slice A0_2 x590.length c0_2) (x_load (S.blk 2 rfl) ty33 rfl rfl) rfl (W_v (.int .i64 t7) (x_move rfl) rfl (W_v (.pointer (some ⟨b603,0+t7.toNat*6,none⟩)) (x_indexAddr Tryd.underlying33 ty52 (slA ee604) rfl p599 p600) rfl (W_v (.pointer (some ⟨b603,0+t7.toNat*6+3,none⟩)) (x_fieldAddr (o:=0+t7.toNat*6) (off:=3) Tryd.underlying52 rfl ty32 rfl rfl) rfl (W_v (.slice A601 ((rd x590 t7).writes).length c602) (x_load_stk ⟨M10,Hp.le_refl _,S⟩ 1 rfl ee604 3 rfl ty32 rfl) rfl (W_v (.int .i64 (((rd x590 t7).writes).length:Int)) (x_len_slice (n:=((rd x590 t7).writes).length) Tryd.underlying32 rfl) rfl (W_v (.bool ((((rd x590 t7).writes).length:Int)==(0:Int))) (x_ibin rfl rfl rfl rfl) rfl (Wl_nil ?_)))))))))))
  replace S:=S.stk_in 1 rfl 0 rfl
  replace S:St w589 M10 F [_,_,_,_,_]:=S
  refine tn ?_
  rcases iteS H with ⟨hb606,H⟩ | ⟨hb606,H⟩
  ·refine Wp_cond_true (congrArg Value.bool hb606) ?_
   refine Wp_ret ?_
   refine tr (br (?_))
   obtain rfl:=Option.some.inj H
   exact ⟨_,_,_,fun w1 e1=>run_resR (vs:=[]) (FA.nil),HM,E,S.pick [1,2,0] (by decide),⟨A0_1,c0_1,A0_2,c0_2,rfl,rfl⟩⟩
  refine Wp_cond_false (congrArg Value.bool hb606) (Wp_skip (tn (Wp_seq (Wp_region_lit (W_v (pt bo0 0) (x_move rfl) rfl (W_v (pt bo0 0) (x_nilptr rfl) rfl (W_v (pt bo0 0) (x_fieldAddr (o:=0) (off:=0) Tryd.underlying35 rfl ty3 rfl rfl) rfl (W_v (.int .i64 a0.time) (x_load (S.blk 1 rfl) ty3 rfl rfl) rfl (W_v (.int .i64 (IntKind.i64.wrap (a0.time+(1:Int)))) (x_ibin rfl rfl rfl rfl) rfl (W_v (pt bo0 0) (x_nilptr rfl) rfl (W_v (pt bo0 0) (x_fieldAddr (o:=0) (off:=0) Tryd.underlying35 rfl ty3 rfl rfl) rfl ?_)))))))))))
  refine W_store S 1 rfl ty3 rfl rfl [.int .i64 (IntKind.i64.wrap (a0.time+(1:Int)))] rfl rfl rfl #[.int .i64 (IntKind.i64.wrap (a0.time+(1:Int))),.slice A0_1 a0.facts.length c0_1,.slice A0_2 x590.length c0_2] rfl rfl ?_
  intro w607 E' S
  replace E:=E.trans E'
  refine Wl_nil (tn (Wp_seq (Wp_region_lit (W_v (.int .i64 0) (x_assign rfl) rfl (Wl_nil (tn ?_))))))
  obtain ⟨o3408,o3408h,o3408H⟩:=bindS H
  refine Wp_blockJ (fun ρ w'=>∃ (x3404:List ferrymanlaw16_fact) (A3405:Option Addr) (c3406:Nat),(x3404)=o3408∧Agree ρ []∧Ext w w'∧St w' M10 F [Row r_ferrymanlaw16_fact 54 (.slice A3405 x3404.length c3406) x3404,Stk n_ferrymanlaw16_life 52 (.slice A0_2 x590.length c0_2) x590,Blk bo0 (.cells #[.int .i64 (IntKind.i64.wrap (a0.time+(1:Int))),.slice A3405 x3404.length c3406,.slice A0_2 x590.length c0_2] 35 (0,0)),B43 b4 a3 A3_0 c3_0,B39 b1 a2]) ?_ ?_
  ·skip
   refine Wp_loop (fun n ρ w'=>∃ (x2472:Int) (x2473:List ferrymanlaw16_fact) (A2474:Option Addr) (c2475:Nat),ferrymanlaw16_log_note_POO_l5 a0 t7 x590 n x2472 x2473=some o3408∧Agree ρ [(0,pt bo0 0),(8,.int .i64 t7),(11,.int .i64 x2472)]∧Ext w w'∧St w' M10 F [Row r_ferrymanlaw16_fact 54 (.slice A2474 x2473.length c2475) x2473,Stk n_ferrymanlaw16_life 52 (.slice A0_2 x590.length c0_2) x590,Blk bo0 (.cells #[.int .i64 (IntKind.i64.wrap (a0.time+(1:Int))),.slice A2474 x2473.length c2475,.slice A0_2 x590.length c0_2] 35 (0,0)),B43 b4 a3 A3_0 c3_0,B39 b1 a2]) k ?_ ?_
   ·skip
    exact ⟨(0:Int),a0.facts,A0_1,c0_1,o3408h,⟨rfl,rfl,rfl,trivial⟩,E,S.pick [2,0,1,3,4] (by decide)⟩
   ·intro n
    rintro ρ w3409 ⟨x2472,x2473,A2474,c2475,H,hρ,E,S⟩
    rw [agree_eta hρ]
    cases n with
    | zero=>cases H
    | succ k =>
     rw [ferrymanlaw16_log_note_POO_l5.eq_2] at H
     refine Wp_seq (Wp_seq ?_)
     obtain ⟨⟨p3415,p3416⟩,H⟩:=chkS H
     obtain ⟨A3417,c3418,S⟩:=S.stk_out 1 rfl (rd_some p3415 p3416)
     obtain ⟨b3419,ee3420⟩:=S.stkx_at 2 rfl
     replace S:St w3409 M10 F [_,_,_,_,_,_]:=S
     refine Wp_region_lit (W_v (.int .i64 x2472) (x_move rfl) rfl (W_v (pt bo0 0) (x_move rfl) rfl (W_v (pt bo0 0) (x_nilptr rfl) rfl (W_v (pt bo0 2) (x_fieldAddr (o:=0) (off:=2) Tryd.underlying35 rfl ty33 rfl rfl) rfl (W_v (.slice A0_2 x590.length c0_2) (x_load (S.blk 3 rfl) ty33 rfl rfl) rfl (W_v (.int .i64 t7) (x_move rfl) rfl (W_v (.pointer (some ⟨b3419,0+t7.toNat*6,none⟩)) (x_indexAddr Tryd.underlying33 ty52 (slA ee3420) rfl p3415 p3416) rfl (W_v (.pointer (some ⟨b3419,0+t7.toNat*6+3,none⟩)) (x_fieldAddr (o:=0+t7.toNat*6) (off:=3) Tryd.underlying52 rfl ty32 rfl rfl) rfl (W_v (.slice A3417 ((rd x590 t7).writes).length c3418) (x_load_stk ⟨M10,Hp.le_refl _,S⟩ 2 rfl ee3420 3 rfl ty32 rfl) rfl (W_v (.int .i64 (((rd x590 t7).writes).length:Int)) (x_len_slice (n:=((rd x590 t7).writes).length) Tryd.underlying32 rfl) rfl (W_v (.bool (decide (x2472<(((rd x590 t7).writes).length:Int)))) (x_ibin rfl rfl rfl rfl) rfl (Wl_nil ?_))))))))))))
     replace S:=S.stk_in 2 rfl 0 rfl
     replace S:St w3409 M10 F [_,_,_,_,_]:=S
     refine tn ?_
     rcases iteS H with ⟨hb3422,H⟩ | ⟨hb3422,H⟩
     ·refine Wp_cond_true (congrArg Value.bool hb3422) ?_
      refine Wp_skip (tn (Wp_seq ?_))
      obtain ⟨o3881,o3881h,o3881H⟩:=bindS H
      refine Wp_cut (fun ρ w'=>∃ (x3877:List ferrymanlaw16_fact) (A3878:Option Addr) (c3879:Nat),(x3877)=o3881∧Agree ρ [(0,pt bo0 0),(8,.int .i64 t7),(11,.int .i64 x2472)]∧Ext w w'∧St w' M10 F [Row r_ferrymanlaw16_fact 54 (.slice A3878 x3877.length c3879) x3877,Stk n_ferrymanlaw16_life 52 (.slice A0_2 x590.length c0_2) x590,Blk bo0 (.cells #[.int .i64 (IntKind.i64.wrap (a0.time+(1:Int))),.slice A3878 x3877.length c3879,.slice A0_2 x590.length c0_2] 35 (0,0)),B43 b4 a3 A3_0 c3_0,B39 b1 a2]) ?_ ?_
      ·as_aux_lemma =>
        clear o3881H
        have H:=o3881h
        refine Wp_block ?_
        refine Wp_seq ?_
        obtain ⟨⟨p3901,p3902⟩,H⟩:=chkS H
        obtain ⟨A3903,c3904,S⟩:=S.stk_out 0 rfl (rd_some p3901 p3902)
        obtain ⟨b3905,ee3906⟩:=S.stkx_at 1 rfl
        replace S:St w3409 M10 F [_,_,_,_,_,_]:=S
        refine Wp_region_lit (W_v (pt bo0 0) (x_move rfl) rfl (W_v (pt bo0 0) (x_nilptr rfl) rfl (W_v (pt bo0 2) (x_fieldAddr (o:=0) (off:=2) Tryd.underlying35 rfl ty33 rfl rfl) rfl (W_v (.slice A0_2 x590.length c0_2) (x_load (S.blk 3 rfl) ty33 rfl rfl) rfl (W_v (.int .i64 t7) (x_move rfl) rfl (W_v (.pointer (some ⟨b3905,0+t7.toNat*6,none⟩)) (x_indexAddr Tryd.underlying33 ty52 (slA ee3906) rfl p3901 p3902) rfl (W_v (.pointer (some ⟨b3905,0+t7.toNat*6+3,none⟩)) (x_fieldAddr (o:=0+t7.toNat*6) (off:=3) Tryd.underlying52 rfl ty32 rfl rfl) rfl (W_v (.slice A3903 ((rd x590 t7).writes).length c3904) (x_load_stk ⟨M10,Hp.le_refl _,S⟩ 1 rfl ee3906 3 rfl ty32 rfl) rfl (W_v (.int .i64 x2472) (x_move rfl) rfl ?_)))))))))
        obtain ⟨⟨p3908,p3909⟩,H⟩:=chkS H
        obtain ⟨b3910,o3911,cs3912,_,_,ee3917,hb3913,vs3914,hR3915,hc3916⟩:=SlW.at' (S.row_read 0 rfl) p3908 p3909
        obtain rfl:vs3914=_:=hR3915
        refine W_v (.pointer (some ⟨b3910,o3911+x2472.toNat*4,none⟩)) (x_indexAddr Tryd.underlying32 ty54 (slA ee3917) rfl p3908 p3909) rfl (W_v (.agg #[.int .i64 ((rd ((rd x590 t7).writes) x2472).ts),.string (bs ((rd ((rd x590 t7).writes) x2472).key)),.bool ((rd ((rd x590 t7).writes) x2472).tomb),.string (bs ((rd ((rd x590 t7).writes) x2472).value))]) (x_loadA (Hp.of_get hb3913) ty54 rfl (sub_el hc3916 0 rfl) rfl rfl) rfl ?_)
        refine W_alloc S #[.int .i64 0,.string (bs ([]:Str)),.bool false,.string (bs ([]:Str))] ty54 rfl rfl ?_
        intro b3918 w3919 E' S
        replace E:=E.trans E'
        refine W_store S 0 rfl ty54 rfl rfl [.int .i64 ((rd ((rd x590 t7).writes) x2472).ts),.string (bs ((rd ((rd x590 t7).writes) x2472).key)),.bool ((rd ((rd x590 t7).writes) x2472).tomb),.string (bs ((rd ((rd x590 t7).writes) x2472).value))] rfl rfl rfl #[.int .i64 ((rd ((rd x590 t7).writes) x2472).ts),.string (bs ((rd ((rd x590 t7).writes) x2472).key)),.bool ((rd ((rd x590 t7).writes) x2472).tomb),.string (bs ((rd ((rd x590 t7).writes) x2472).value))] rfl rfl ?_
        intro w3921 E' S
        replace E:=E.trans E'
        refine Wl_nil ?_
        replace S:=S.stk_in 2 rfl 1 rfl
        replace S:St w3921 M10 F [_,_,_,_,_,_]:=S
        refine tn (Wp_seq (Wp_region_lit (W_v (pt bo0 0) (x_move rfl) rfl (W_v (pt bo0 0) (x_nilptr rfl) rfl (W_v (pt bo0 0) (x_fieldAddr (o:=0) (off:=0) Tryd.underlying35 rfl ty3 rfl rfl) rfl (W_v (.int .i64 (IntKind.i64.wrap (a0.time+(1:Int)))) (x_load (S.blk 3 rfl) ty3 rfl rfl) rfl (W_v (pt b3918 0) (x_fieldAddr (o:=0) (off:=0) Tryd.underlying54 rfl ty3 rfl rfl) rfl ?_)))))))
        refine W_store S 1 rfl ty3 rfl rfl [.int .i64 (IntKind.i64.wrap (a0.time+(1:Int)))] rfl rfl rfl #[.int .i64 (IntKind.i64.wrap (a0.time+(1:Int))),.string (bs ((rd ((rd x590 t7).writes) x2472).key)),.bool ((rd ((rd x590 t7).writes) x2472).tomb),.string (bs ((rd ((rd x590 t7).writes) x2472).value))] rfl rfl ?_
        intro w3922 E' S
        replace E:=E.trans E'
        refine Wl_nil (tn (Wp_seq (Wp_region_lit (W_v (.bool true) (x_assign rfl) rfl (Wl_nil (tn ?_))))))
        as_aux_lemma =>
        refine Wp_seq (Wp_seq (Wp_region_lit (W_v (.int .i64 x2472) (x_move rfl) rfl (W_v (.int .i64 (IntKind.i64.wrap (x2472+(1:Int)))) (x_ibin rfl rfl rfl rfl) rfl (W_v (.int .i64 (IntKind.i64.wrap (x2472+(1:Int)))) (x_assign rfl) rfl (Wl_nil (tn ?_)))))))
        obtain ⟨o4149,o4149h,o4149H⟩:=bindS H
        refine Wp_blockJ (fun ρ w'=>∃ (x4148:Bool),(x4148)=o4149∧Agree ρ [(0,pt bo0 0),(8,.int .i64 t7),(11,.int .i64 x2472),(12,pt b3918 0),(13,.bool x4148)]∧Ext w w'∧St w' M10 F [Stk n_ferrymanlaw16_life 52 (.slice A0_2 x590.length c0_2) x590,Blk b3918 (.cells #[.int .i64 (IntKind.i64.wrap (a0.time+(1:Int))),.string (bs ((rd ((rd x590 t7).writes) x2472).key)),.bool ((rd ((rd x590 t7).writes) x2472).tomb),.string (bs ((rd ((rd x590 t7).writes) x2472).value))] 54 (0,0)),Row r_ferrymanlaw16_fact 54 (.slice A2474 x2473.length c2475) x2473,Blk bo0 (.cells #[.int .i64 (IntKind.i64.wrap (a0.time+(1:Int))),.slice A2474 x2473.length c2475,.slice A0_2 x590.length c0_2] 35 (0,0)),B43 b4 a3 A3_0 c3_0,B39 b1 a2]) ?_ ?_
        ·skip
         refine Wp_loop (fun n ρ w'=>∃ (x4061:Bool) (x4062:Int),ferrymanlaw16_log_note_POO_l9 t7 x590 x2472 n x4061 x4062=some o4149∧Agree ρ [(0,pt bo0 0),(8,.int .i64 t7),(11,.int .i64 x2472),(12,pt b3918 0),(13,.bool x4061),(14,.int .i64 x4062)]∧Ext w w'∧St w' M10 F [Stk n_ferrymanlaw16_life 52 (.slice A0_2 x590.length c0_2) x590,Blk b3918 (.cells #[.int .i64 (IntKind.i64.wrap (a0.time+(1:Int))),.string (bs ((rd ((rd x590 t7).writes) x2472).key)),.bool ((rd ((rd x590 t7).writes) x2472).tomb),.string (bs ((rd ((rd x590 t7).writes) x2472).value))] 54 (0,0)),Row r_ferrymanlaw16_fact 54 (.slice A2474 x2473.length c2475) x2473,Blk bo0 (.cells #[.int .i64 (IntKind.i64.wrap (a0.time+(1:Int))),.slice A2474 x2473.length c2475,.slice A0_2 x590.length c0_2] 35 (0,0)),B43 b4 a3 A3_0 c3_0,B39 b1 a2]) k ?_ ?_
         ·skip
          exact ⟨true,(IntKind.i64.wrap (x2472+(1:Int))),o4149h,⟨rfl,rfl,rfl,rfl,rfl,rfl,trivial⟩,E,S.pick [0,1,2,3,4,5] (by decide)⟩
         ·intro n
          rintro ρ w4150 ⟨x4061,x4062,H,hρ,E,S⟩
          rw [agree_eta hρ]
          cases n with
          | zero=>cases H
          | succ k =>
           rw [ferrymanlaw16_log_note_POO_l9.eq_2] at H
           refine Wp_seq (Wp_seq ?_)
           obtain ⟨⟨p4156,p4157⟩,H⟩:=chkS H
           obtain ⟨A4158,c4159,S⟩:=S.stk_out 0 rfl (rd_some p4156 p4157)
           obtain ⟨b4160,ee4161⟩:=S.stkx_at 1 rfl
           replace S:St w4150 M10 F [_,_,_,_,_,_,_]:=S
           refine Wp_region_lit (W_v (.int .i64 x4062) (x_move rfl) rfl (W_v (pt bo0 0) (x_move rfl) rfl (W_v (pt bo0 0) (x_nilptr rfl) rfl (W_v (pt bo0 2) (x_fieldAddr (o:=0) (off:=2) Tryd.underlying35 rfl ty33 rfl rfl) rfl (W_v (.slice A0_2 x590.length c0_2) (x_load (S.blk 4 rfl) ty33 rfl rfl) rfl (W_v (.int .i64 t7) (x_move rfl) rfl (W_v (.pointer (some ⟨b4160,0+t7.toNat*6,none⟩)) (x_indexAddr Tryd.underlying33 ty52 (slA ee4161) rfl p4156 p4157) rfl (W_v (.pointer (some ⟨b4160,0+t7.toNat*6+3,none⟩)) (x_fieldAddr (o:=0+t7.toNat*6) (off:=3) Tryd.underlying52 rfl ty32 rfl rfl) rfl (W_v (.slice A4158 ((rd x590 t7).writes).length c4159) (x_load_stk ⟨M10,Hp.le_refl _,S⟩ 1 rfl ee4161 3 rfl ty32 rfl) rfl (W_v (.int .i64 (((rd x590 t7).writes).length:Int)) (x_len_slice (n:=((rd x590 t7).writes).length) Tryd.underlying32 rfl) rfl (W_v (.bool (decide (x4062<(((rd x590 t7).writes).length:Int)))) (x_ibin rfl rfl rfl rfl) rfl (Wl_nil ?_))))))))))))
           replace S:=S.stk_in 1 rfl 0 rfl
           replace S:St w4150 M10 F [_,_,_,_,_,_]:=S
           refine tn ?_
           rcases iteS H with ⟨hb4163,H⟩ | ⟨hb4163,H⟩
           ·refine Wp_cond_true (congrArg Value.bool hb4163) ?_
            refine Wp_skip (tn (Wp_seq ?_))
            refine Wp_block ?_
            obtain ⟨⟨p4199,p4200⟩,H⟩:=chkS H
            obtain ⟨A4201,c4202,S⟩:=S.stk_out 0 rfl (rd_some p4199 p4200)
            obtain ⟨b4203,ee4204⟩:=S.stkx_at 1 rfl
            replace S:St w4150 M10 F [_,_,_,_,_,_,_]:=S
            refine Wp_region_any (S:=fun w'=>∃ Mx,M10.le Mx∧St w' Mx F [Row r_ferrymanlaw16_fact 54 (.slice A4201 ((rd x590 t7).writes).length c4202) ((rd x590 t7).writes),StkX n_ferrymanlaw16_life 52 (.slice A0_2 x590.length c0_2) x590 t7.toNat (rd x590 t7) (A4201,c4202),Blk b3918 (.cells #[.int .i64 (IntKind.i64.wrap (a0.time+(1:Int))),.string (bs ((rd ((rd x590 t7).writes) x2472).key)),.bool ((rd ((rd x590 t7).writes) x2472).tomb),.string (bs ((rd ((rd x590 t7).writes) x2472).value))] 54 (0,0)),Row r_ferrymanlaw16_fact 54 (.slice A2474 x2473.length c2475) x2473,Blk bo0 (.cells #[.int .i64 (IntKind.i64.wrap (a0.time+(1:Int))),.slice A2474 x2473.length c2475,.slice A0_2 x590.length c0_2] 35 (0,0)),B43 b4 a3 A3_0 c3_0,B39 b1 a2]) (L:=19) mixed ?_
            intro w4220 hw4221 E'
            replace S:=S.heap hw4221
            replace E:=E.trans E'
            have D8:∃ Mx,Hp.le M10 Mx∧St _ Mx F [_,_,_,_,_,_,_]:=⟨_,Hp.le_refl _,S.pick [0,1,2,3,4,5,6] (by decide)⟩
            refine Wa_take (i:=0) rfl (by kernel_rfl) rfl rfl (.bool x4061) rfl (fun w' h'=>x_move rfl) D8 (Wa_take (i:=1) rfl (by kernel_rfl) rfl rfl (.bool x4061) rfl (fun w' h'=>x_move rfl) D8 ?_)
            obtain ⟨o4229,o4229h,o4229H⟩:=bindS H
            refine Wa_join (fun ρ w'=>∃ (x4228:Bool),(x4228)=o4229∧Agree ρ [(0,pt bo0 0),(8,.int .i64 t7),(11,.int .i64 x2472),(12,pt b3918 0),(13,.bool x4061),(14,.int .i64 x4062),(219,.bool x4228)]∧Ext w w'∧St w' M10 F [Row r_ferrymanlaw16_fact 54 (.slice A4201 ((rd x590 t7).writes).length c4202) ((rd x590 t7).writes),StkX n_ferrymanlaw16_life 52 (.slice A0_2 x590.length c0_2) x590 t7.toNat (rd x590 t7) (A4201,c4202),Blk b3918 (.cells #[.int .i64 (IntKind.i64.wrap (a0.time+(1:Int))),.string (bs ((rd ((rd x590 t7).writes) x2472).key)),.bool ((rd ((rd x590 t7).writes) x2472).tomb),.string (bs ((rd ((rd x590 t7).writes) x2472).value))] 54 (0,0)),Row r_ferrymanlaw16_fact 54 (.slice A2474 x2473.length c2475) x2473,Blk bo0 (.cells #[.int .i64 (IntKind.i64.wrap (a0.time+(1:Int))),.slice A2474 x2473.length c2475,.slice A0_2 x590.length c0_2] 35 (0,0)),B43 b4 a3 A3_0 c3_0,B39 b1 a2]) 1 (Ls 19 [0,1,2,3,4,5,6,7,8,9,10,11,12,13,14,15,16,17]) ?_ ?_
            rotate_left
            ·intro hrest
             have H:=o4229h
             rcases iteS H with ⟨hb4227,H⟩ | ⟨hb4227,H⟩
             ·skip
              have D9:∃ Mx,Hp.le M10 Mx∧St _ Mx F [_,_,_,_,_,_,_]:=⟨_,Hp.le_refl _,S.pick [0,1,2,3,4,5,6] (by decide)⟩
              refine Wa_takeY (i:=2) rfl (by kernel_rfl) rfl rfl (pt bo0 0) rfl (congrArg some hb4227) (fun w' h'=>x_move rfl) D9 (Wa_takeY (i:=3) rfl (by kernel_rfl) rfl rfl (pt bo0 0) rfl (congrArg some hb4227) (fun w' h'=>x_nilptr rfl) D9 (Wa_takeY (i:=4) rfl (by kernel_rfl) rfl rfl (pt bo0 2) rfl (congrArg some hb4227) (fun w' h'=>x_fieldAddr (o:=0) (off:=2) Tryd.underlying35 rfl ty33 rfl rfl) D9 (Wa_takeY (i:=5) rfl (by kernel_rfl) rfl rfl (.slice A0_2 x590.length c0_2) rfl (congrArg some hb4227) (fun w' h'=>x_load (cls_blk h' 4 rfl) ty33 rfl rfl) D9 (Wa_takeY (i:=6) rfl (by kernel_rfl) rfl rfl (.int .i64 t7) rfl (congrArg some hb4227) (fun w' h'=>x_move rfl) D9 (Wa_takeY (i:=7) rfl (by kernel_rfl) rfl rfl (.pointer (some ⟨b4203,0+t7.toNat*6,none⟩)) rfl (congrArg some hb4227) (fun w' h'=>x_indexAddr Tryd.underlying33 ty52 (slA ee4204) rfl p4199 p4200) D9 (Wa_takeY (i:=8) rfl (by kernel_rfl) rfl rfl (.pointer (some ⟨b4203,0+t7.toNat*6+3,none⟩)) rfl (congrArg some hb4227) (fun w' h'=>x_fieldAddr (o:=0+t7.toNat*6) (off:=3) Tryd.underlying52 rfl ty32 rfl rfl) D9 (Wa_takeY (i:=9) rfl (by kernel_rfl) rfl rfl (.slice A4201 ((rd x590 t7).writes).length c4202) rfl (congrArg some hb4227) (fun w' h'=>x_load_stk h' 1 rfl ee4204 3 rfl ty32 rfl) D9 (Wa_takeY (i:=10) rfl (by kernel_rfl) rfl rfl (.int .i64 x4062) rfl (congrArg some hb4227) (fun w' h'=>x_move rfl) D9 ?_))))))))
              obtain ⟨⟨p4230,p4231⟩,H⟩:=chkS H
              obtain ⟨b4232,o4233,_,_,_,ee4234,_⟩:=SlW.at' (S.row_read 0 rfl) p4230 p4231
              refine Wa_takeY (i:=11) rfl (by kernel_rfl) rfl rfl (.pointer (some ⟨b4232,o4233+x4062.toNat*4,none⟩)) rfl (congrArg some hb4227) (fun w' h'=>x_indexAddr Tryd.underlying32 ty54 (slA ee4234) rfl p4230 p4231) D9 (Wa_takeY (i:=12) rfl (by kernel_rfl) rfl rfl (.pointer (some ⟨b4232,o4233+x4062.toNat*4+1,none⟩)) rfl (congrArg some hb4227) (fun w' h'=>x_fieldAddr (o:=o4233+x4062.toNat*4) (off:=1) Tryd.underlying54 rfl ty9 rfl rfl) D9 (Wa_takeY (i:=13) rfl (by kernel_rfl) rfl rfl (.string (bs ((rd ((rd x590 t7).writes) x4062).key))) rfl (congrArg some hb4227) (fun w' h'=>x_load_cls h' 0 rfl ee4234 p4230 p4231 1 (by rintro _ _ rfl;rfl) ty9 rfl) D9 (Wa_takeY (i:=14) rfl (by kernel_rfl) rfl rfl (pt b3918 1) rfl (congrArg some hb4227) (fun w' h'=>x_fieldAddr (o:=0) (off:=1) Tryd.underlying54 rfl ty9 rfl rfl) D9 (Wa_takeY (i:=15) rfl (by kernel_rfl) rfl rfl (.string (bs ((rd ((rd x590 t7).writes) x2472).key))) rfl (congrArg some hb4227) (fun w' h'=>x_load (cls_blk h' 2 rfl) ty9 rfl rfl) D9 (Wa_takeY (i:=16) rfl (by kernel_rfl) rfl rfl (.bool (sbin .neq ((rd ((rd x590 t7).writes) x4062).key) ((rd ((rd x590 t7).writes) x2472).key))) rfl (congrArg some hb4227) (fun w' h'=>x_sbin rfl rfl rfl) D9 (Wa_take (i:=17) rfl (by kernel_rfl) rfl rfl (.bool (sbin .neq ((rd ((rd x590 t7).writes) x4062).key) ((rd ((rd x590 t7).writes) x2472).key))) rfl (fun w' h'=>x_pick (k:=true) (congrArg Value.bool hb4227) rfl) D9 ?_))))))
              exact hrest _ _ ⟨(sbin .neq ((rd ((rd x590 t7).writes) x4062).key) ((rd ((rd x590 t7).writes) x2472).key)),Option.some.inj H,⟨rfl,rfl,rfl,rfl,rfl,rfl,rfl,trivial⟩,E,S.pick [0,1,2,3,4,5,6] (by decide)⟩
             ·skip
              have D10:∃ Mx,Hp.le M10 Mx∧St _ Mx F [_,_,_,_,_,_,_]:=⟨_,Hp.le_refl _,S.pick [0,1,2,3,4,5,6] (by decide)⟩
              refine Wa_takeN (i:=2) rfl (by kernel_rfl) rfl rfl rfl (skT hb4227) D10 (Wa_takeN (i:=3) rfl (by kernel_rfl) rfl rfl rfl (skT hb4227) D10 (Wa_takeN (i:=4) rfl (by kernel_rfl) rfl rfl rfl (skT hb4227) D10 (Wa_takeN (i:=5) rfl (by kernel_rfl) rfl rfl rfl (skT hb4227) D10 (Wa_takeN (i:=6) rfl (by kernel_rfl) rfl rfl rfl (skT hb4227) D10 (Wa_takeN (i:=7) rfl (by kernel_rfl) rfl rfl rfl (skT hb4227) D10 (Wa_takeN (i:=8) rfl (by kernel_rfl) rfl rfl rfl (skT hb4227) D10 (Wa_takeN (i:=9) rfl (by kernel_rfl) rfl rfl rfl (skT hb4227) D10 (Wa_takeN (i:=10) rfl (by kernel_rfl) rfl rfl rfl (skT hb4227) D10 (Wa_takeN (i:=11) rfl (by kernel_rfl) rfl rfl rfl (skT hb4227) D10 (Wa_takeN (i:=12) rfl (by kernel_rfl) rfl rfl rfl (skT hb4227) D10 (Wa_takeN (i:=13) rfl (by kernel_rfl) rfl rfl rfl (skT hb4227) D10 (Wa_takeN (i:=14) rfl (by kernel_rfl) rfl rfl rfl (skT hb4227) D10 (Wa_takeN (i:=15) rfl (by kernel_rfl) rfl rfl rfl (skT hb4227) D10 (Wa_takeN (i:=16) rfl (by kernel_rfl) rfl rfl rfl (skT hb4227) D10 (Wa_take (i:=17) rfl (by kernel_rfl) rfl rfl (.bool false) rfl (fun w' h'=>x_pick (k:=false) (congrArg Value.bool hb4227) rfl) D10 ?_)))))))))))))))
              exact hrest _ _ ⟨false,Option.some.inj H,⟨rfl,rfl,rfl,rfl,rfl,rfl,rfl,trivial⟩,E,S.pick [0,1,2,3,4,5,6] (by decide)⟩
            rintro ρ w4235 ⟨x4228,rfl,hρ,E,S⟩
            rw [agree_eta hρ]
            have H:=o4229H
            refine Wa_take (i:=18) rfl (by kernel_rfl) rfl rfl (.bool x4228) rfl (fun w' h'=>x_assign rfl) (⟨M10,Hp.le_refl M10,(S.pick [0,1,2,3,4,5,6] (by decide))⟩) ?_
            refine Wa_done (by kernel_rfl) ?_
            replace S:=S.stk_in 1 rfl 0 rfl
            replace S:St w4235 M10 F [_,_,_,_,_,_]:=S
            refine bn (tn (Wp_region_lit (W_v (.int .i64 x4062) (x_move rfl) rfl (W_v (.int .i64 (IntKind.i64.wrap (x4062+(1:Int)))) (x_ibin rfl rfl rfl rfl) rfl (W_v (.int .i64 (IntKind.i64.wrap (x4062+(1:Int)))) (x_assign rfl) rfl (Wl_nil (tn ?_)))))))
            exact ⟨k,Nat.lt_succ_self k,⟨x4228,(IntKind.i64.wrap (x4062+(1:Int))),H,⟨rfl,rfl,rfl,rfl,rfl,rfl,trivial⟩,E,S.pick [0,1,2,3,4,5] (by decide)⟩⟩
           refine Wp_cond_false (congrArg Value.bool hb4163) ?_
           refine Wp_exit ?_
           refine tx (tx (bsm (?_)))
           refine tn ?_
           exact ⟨x4061,Option.some.inj H,⟨rfl,rfl,rfl,rfl,rfl,trivial⟩,E,S.pick [0,1,2,3,4,5] (by decide)⟩
        rintro ρ w4236 ⟨x4148,rfl,hρ,E,S⟩
        rw [agree_eta hρ]
        have H:=o4149H
        refine tn ?_
        as_aux_lemma =>
        refine Wp_seq (Wp_region_lit (W_v (.bool x4148) (x_move rfl) rfl (Wl_nil (tn ?_))))
        obtain ⟨o4303,o4303h,o4303H⟩:=bindS H
        refine Wp_cut (fun ρ w'=>∃ (x4299:List ferrymanlaw16_fact) (A4300:Option Addr) (c4301:Nat),(x4299)=o4303∧Agree ρ [(0,pt bo0 0),(8,.int .i64 t7),(11,.int .i64 x2472)]∧Ext w w'∧St w' M10 F [Row r_ferrymanlaw16_fact 54 (.slice A4300 x4299.length c4301) x4299,Stk n_ferrymanlaw16_life 52 (.slice A0_2 x590.length c0_2) x590,Blk bo0 (.cells #[.int .i64 (IntKind.i64.wrap (a0.time+(1:Int))),.slice A4300 x4299.length c4301,.slice A0_2 x590.length c0_2] 35 (0,0)),B43 b4 a3 A3_0 c3_0,B39 b1 a2]) ?_ ?_
        ·as_aux_lemma =>
          clear o4303H
          have H:=o4303h
          rcases iteS H with ⟨hb4304,H⟩ | ⟨hb4304,H⟩
          ·refine Wp_cond_true (congrArg Value.bool hb4304) ?_
           refine Wp_region_any (S:=fun w'=>∃ Mx,M10.le Mx∧St w' Mx F [Stk n_ferrymanlaw16_life 52 (.slice A0_2 x590.length c0_2) x590,Blk b3918 (.cells #[.int .i64 (IntKind.i64.wrap (a0.time+(1:Int))),.string (bs ((rd ((rd x590 t7).writes) x2472).key)),.bool ((rd ((rd x590 t7).writes) x2472).tomb),.string (bs ((rd ((rd x590 t7).writes) x2472).value))] 54 (0,0)),Blk bo0 (.cells #[.int .i64 (IntKind.i64.wrap (a0.time+(1:Int))),.slice A2474 x2473.length c2475,.slice A0_2 x590.length c0_2] 35 (0,0)),B43 b4 a3 A3_0 c3_0,B39 b1 a2]) (L:=10) mixed ?_
           intro w4319 hw4320 E'
           replace S:=S.heap hw4320
           replace E:=E.trans E'
           have D12:∃ Mx,Hp.le M10 Mx∧St _ Mx F [_,_,_,_,_]:=⟨_,Hp.le_refl _,S.pick [0,1,3,4,5] (by decide)⟩
           refine Wa_take (i:=0) rfl (by kernel_rfl) rfl rfl (pt bo0 0) rfl (fun w' h'=>x_move rfl) D12 (Wa_take (i:=1) rfl (by kernel_rfl) rfl rfl (pt bo0 0) rfl (fun w' h'=>x_move rfl) D12 (Wa_take (i:=2) rfl (by kernel_rfl) rfl rfl (pt bo0 0) rfl (fun w' h'=>x_nilptr rfl) D12 (Wa_take (i:=3) rfl (by kernel_rfl) rfl rfl (pt bo0 1) rfl (fun w' h'=>x_fieldAddr (o:=0) (off:=1) Tryd.underlying35 rfl ty32 rfl rfl) D12 (Wa_take (i:=4) rfl (by kernel_rfl) rfl rfl (.slice A2474 x2473.length c2475) rfl (fun w' h'=>x_load (cls_blk h' 2 rfl) ty32 rfl rfl) D12 (Wa_take (i:=5) rfl (by kernel_rfl) rfl rfl (.agg #[.int .i64 (IntKind.i64.wrap (a0.time+(1:Int))),.string (bs ((rd ((rd x590 t7).writes) x2472).key)),.bool ((rd ((rd x590 t7).writes) x2472).tomb),.string (bs ((rd ((rd x590 t7).writes) x2472).value))]) rfl (fun w' h'=>x_loadA (cls_blk h' 1 rfl) ty54 rfl (sub_of_extract rfl) rfl rfl) D12 ?_)))))
           refine Wa_solo (i:=6) rfl (by kernel_rfl) ?_
           refine W_bslice S #[.int .i64 (IntKind.i64.wrap (a0.time+(1:Int))),.string (bs ((rd ((rd x590 t7).writes) x2472).key)),.bool ((rd ((rd x590 t7).writes) x2472).tomb),.string (bs ((rd ((rd x590 t7).writes) x2472).value))] Tryd.underlying32 ty54 rfl rfl #[.int .i64 0,.string (bs ([]:Str)),.bool false,.string (bs ([]:Str))] (by as_aux_lemma=>kernel_rfl) (by as_aux_lemma=>kernel_rfl) rfl ?_
           intro b4321 w4322 E' S
           replace E:=E.trans E'
           replace S:=S.blk_row (r:=r_ferrymanlaw16_fact) (l:=([(⟨(IntKind.i64.wrap (a0.time+(1:Int))),(rd ((rd x590 t7).writes) x2472).key,(rd ((rd x590 t7).writes) x2472).tomb,(rd ((rd x590 t7).writes) x2472).value⟩:ferrymanlaw16_fact)]:List ferrymanlaw16_fact)) 0 rfl 1 (Nat.le_refl 1) rfl (Cells.cons (vs:=[.int .i64 (IntKind.i64.wrap (a0.time+(1:Int))),.string (bs ((rd ((rd x590 t7).writes) x2472).key)),.bool ((rd ((rd x590 t7).writes) x2472).tomb),.string (bs ((rd ((rd x590 t7).writes) x2472).value))]) (rfl) Cells.nil)
           obtain ⟨x4324,he4325,H⟩:=bindS H
           replace he4325:=Option.some.inj he4325
           try unfold B39 at S
           try unfold B43 at S
           rw [he4325] at S
           refine Eq.mpr (congrArg (fun z=>Wl _ _ _ _ _ _ (upd _ _ z) _) (show Value.slice (some ⟨b4321,0,none⟩) 1 1=Value.slice (some ⟨b4321,0,none⟩) x4324.length 1 from (by rw [← he4325];rfl))) ?_
           refine Wl_nil (on_n ⟨.inr ⟨M10,Hp.le_refl M10,(S.pick [1,2,4,5,6] (by decide))⟩,?_⟩)
           refine Wa_solo (i:=7) rfl (by kernel_rfl) ?_
           obtain ⟨p4326,H⟩:=chkS H
           obtain ⟨src4327,hs4328,hC4329⟩:=src_of_read (P:=Tryd.prog) (ρ:=r_ferrymanlaw16_fact) (l:=x4324) (S.row_read 0 rfl) (by decide)
           refine W_append S 3 rfl rfl rfl Tryd.underlying32 (.inl Tryd.underlying32) ty54 rfl (by decide) (by decide) hs4328 hC4329 rfl (by omega) rfl ?_
           intro v4330 w4331 E' S
           replace E:=E.trans E'
           obtain ⟨A4332,c4333,rfl,_⟩:=(S.row_read 3 rfl).form
           refine Wl_nil (on_n ⟨.inr ⟨M10,Hp.le_refl M10,(S.pick [1,2,4,5,6] (by decide))⟩,?_⟩)
           have D13:∃ Mx,Hp.le M10 Mx∧St _ Mx F [_,_,_,_,_]:=⟨_,Hp.le_refl _,S.pick [1,2,4,5,6] (by decide)⟩
           refine Wa_take (i:=8) rfl (by kernel_rfl) rfl rfl (pt bo0 0) rfl (fun w' h'=>x_nilptr rfl) D13 (Wa_take (i:=9) rfl (by kernel_rfl) rfl rfl (pt bo0 1) rfl (fun w' h'=>x_fieldAddr (o:=0) (off:=1) Tryd.underlying35 rfl ty32 rfl rfl) D13 ?_)
           refine Wa_solo (i:=10) rfl (by kernel_rfl) ?_
           refine W_store S 4 rfl ty32 rfl rfl [.slice A4332 (x2473++x4324).length c4333] rfl rfl rfl #[.int .i64 (IntKind.i64.wrap (a0.time+(1:Int))),.slice A4332 (x2473++x4324).length c4333,.slice A0_2 x590.length c0_2] rfl rfl ?_
           intro w4334 E' S
           replace E:=E.trans E'
           refine Wl_nil (on_n ⟨.inl (by decide),?_⟩)
           refine Wa_done (by kernel_rfl) ?_
           refine tn ?_
           exact ⟨(x2473++x4324),A4332,c4333,Option.some.inj H,⟨rfl,rfl,rfl,trivial⟩,E,S.pick [3,1,4,5,6] (by decide)⟩
          refine Wp_cond_false (congrArg Value.bool hb4304) (Wp_skip (tn ?_))
          exact ⟨x2473,A2474,c2475,Option.some.inj H,⟨rfl,rfl,rfl,trivial⟩,E,S.pick [2,0,3,4,5] (by decide)⟩
        rintro ρ w4335 ⟨x4299,A4300,c4301,rfl,hρ,E,S⟩
        rw [agree_eta hρ]
        have H:=o4303H
        refine bn (tn ?_)
        exact ⟨x4299,A4300,c4301,Option.some.inj H,⟨rfl,rfl,rfl,trivial⟩,E,S.pick [0,1,2,3,4] (by decide)⟩
      rintro ρ w4336 ⟨x3877,A3878,c3879,rfl,hρ,E,S⟩
      rw [agree_eta hρ]
      have H:=o3881H
      refine tn (Wp_region_lit (W_v (.int .i64 x2472) (x_move rfl) rfl (W_v (.int .i64 (IntKind.i64.wrap (x2472+(1:Int)))) (x_ibin rfl rfl rfl rfl) rfl (W_v (.int .i64 (IntKind.i64.wrap (x2472+(1:Int)))) (x_assign rfl) rfl (Wl_nil (tn ?_))))))
      exact ⟨k,Nat.lt_succ_self k,⟨(IntKind.i64.wrap (x2472+(1:Int))),x3877,A3878,c3879,H,⟨rfl,rfl,rfl,trivial⟩,E,S.pick [0,1,2,3,4] (by decide)⟩⟩
     refine Wp_cond_false (congrArg Value.bool hb3422) ?_
     refine Wp_exit ?_
     refine tx (tx (bsm (?_)))
     refine tn ?_
     exact ⟨x2473,A2474,c2475,Option.some.inj H,trivial,E,S.pick [1,0,2,3,4] (by decide)⟩
  rintro ρ w4337 ⟨x3404,A3405,c3406,rfl,hρ,E,S⟩
  rw [agree_eta hρ]
  have H:=o3408H
  refine bn ?_
  obtain rfl:=Option.some.inj H
  exact ⟨_,_,_,fun w1 e1=>run_resR (vs:=[]) (FA.nil),HM,E,S.pick [2,0,1] (by decide),⟨A3405,c3406,A0_2,c0_2,rfl,rfl⟩⟩
 refine Wp_cond_false (congrArg Value.bool hb571) (Wp_skip (bn ?_))
 obtain rfl:=Option.some.inj H
 exact ⟨_,_,_,fun w1 e1=>run_resR (vs:=[]) (FA.nil),HM,E,S.pick [0,1,2] (by decide),⟨A0_1,c0_1,A0_2,c0_2,rfl,rfl⟩⟩
end Go.Proofs.YtcngjjlhdlbogaaDoor
