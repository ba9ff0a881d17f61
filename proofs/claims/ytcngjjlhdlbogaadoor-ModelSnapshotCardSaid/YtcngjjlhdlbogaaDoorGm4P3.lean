import Derived.Test.YtcngjjlhdlbogaaDoorGm4B
import Derived.Test.YtcngjjlhdlbogaaDoorGm4P0
import Derived.Test.YtcngjjlhdlbogaaDoorGm4P1
import Derived.Test.YtcngjjlhdlbogaaDoorGm4P2
namespace Go.Proofs.YtcngjjlhdlbogaaDoor
open Go
set_option linter.unusedVariables false
set_option linter.unusedSimpArgs false
def ferrymanlaw16_works (k:Nat) :Option (Bool) :=
 (Option.bind (ferrymanlaw16_small k ) (fun t1=>(Option.bind (model_New_v k t1) (fun t4=>(Sum.elim (fun t6=>some false) (fun t7=>(Option.bind (ferrymanlaw16_on k (1:Int) (0:Int) ([]:Str) ([]:Str)) (fun t30=>(Option.bind (ferrymanlaw16_is_POOOO k t7 (0:Int) t30 (0:Int) false ([]:Str)) (fun t33=>(Option.bind (α:=Bool×model_Model) (if (!t33.1)=true then some (true,t33.2) else (Option.bind (ferrymanlaw16_on k (3:Int) (1:Int) ([97]:Str) ([49]:Str)) (fun t115=>(Option.bind (ferrymanlaw16_is_POOOO k t33.2 (0:Int) t115 (0:Int) false ([]:Str)) (fun t118=>some ((!t118.1),t118.2)))))) (fun ⟨x97,x98⟩=>(Option.bind (α:=Bool×model_Model) (if x97=true then some (true,x98) else (Option.bind (ferrymanlaw16_on k (1:Int) (0:Int) ([]:Str) ([]:Str)) (fun t203=>(Option.bind (ferrymanlaw16_is_POOOO k x98 (1:Int) t203 (0:Int) false ([]:Str)) (fun t206=>some ((!t206.1),t206.2)))))) (fun ⟨x185,x186⟩=>(Option.bind (α:=Bool×model_Model) (if x185=true then some (true,x186) else (Option.bind (ferrymanlaw16_on k (2:Int) (1:Int) ([97]:Str) ([]:Str)) (fun t291=>(Option.bind (ferrymanlaw16_is_POOOO k x186 (1:Int) t291 (0:Int) false ([]:Str)) (fun t294=>some ((!t294.1),t294.2)))))) (fun ⟨x273,x274⟩=>(Option.bind (α:=Bool×model_Model) (if x273=true then some (true,x274) else (Option.bind (ferrymanlaw16_on k (3:Int) (1:Int) ([97]:Str) ([50]:Str)) (fun t379=>(Option.bind (ferrymanlaw16_is_POOOO k x274 (1:Int) t379 (33:Int) false ([]:Str)) (fun t382=>some ((!t382.1),t382.2)))))) (fun ⟨x361,x362⟩=>(if x361=true then some false else (Option.bind (ferrymanlaw16_on k (6:Int) (1:Int) ([]:Str) ([]:Str)) (fun t405=>(Option.bind (ferrymanlaw16_is_POOOO k x362 (0:Int) t405 (0:Int) false ([]:Str)) (fun t408=>(Option.bind (α:=Bool) (if (!t408.1)=true then some (true) else (Option.bind (model_Model_Clock_POOOO k t408.2) (fun t440=>some ((t440 != (1:Int)))))) (fun x438=>(Option.bind (α:=Bool×model_Model) (if x438=true then some (true,t408.2) else (Option.bind (ferrymanlaw16_on k (2:Int) (1:Int) ([97]:Str) ([]:Str)) (fun t509=>(Option.bind (ferrymanlaw16_is_POOOO k t408.2 (1:Int) t509 (0:Int) false ([]:Str)) (fun t512=>some ((!t512.1),t512.2)))))) (fun ⟨x491,x492⟩=>(Option.bind (α:=Bool×model_Model) (if x491=true then some (true,x492) else (Option.bind (ferrymanlaw16_on k (3:Int) (1:Int) ([97]:Str) ([50]:Str)) (fun t597=>(Option.bind (ferrymanlaw16_is_POOOO k x492 (1:Int) t597 (33:Int) false ([]:Str)) (fun t600=>some ((!t600.1),t600.2)))))) (fun ⟨x579,x580⟩=>(Option.bind (α:=Bool×model_Model) (if x579=true then some (true,x580) else (Option.bind (ferrymanlaw16_on k (7:Int) (1:Int) ([]:Str) ([]:Str)) (fun t685=>(Option.bind (ferrymanlaw16_is_POOOO k x580 (1:Int) t685 (0:Int) false ([]:Str)) (fun t688=>some ((!t688.1),t688.2)))))) (fun ⟨x667,x668⟩=>(Option.bind (α:=Bool×model_Model) (if x667=true then some (true,x668) else (Option.bind (ferrymanlaw16_on k (1:Int) (0:Int) ([]:Str) ([]:Str)) (fun t773=>(Option.bind (ferrymanlaw16_is_POOOO k x668 (1:Int) t773 (0:Int) false ([]:Str)) (fun t776=>some ((!t776.1),t776.2)))))) (fun ⟨x755,x756⟩=>(if x755=true then some false else (Option.bind (ferrymanlaw16_on k (2:Int) (2:Int) ([97]:Str) ([]:Str)) (fun t799=>(Option.bind (ferrymanlaw16_is_POOOO k x756 (1:Int) t799 (0:Int) true ([49]:Str)) (fun t802=>(Option.bind (α:=Bool×model_Model) (if (!t802.1)=true then some (true,t802.2) else (Option.bind (ferrymanlaw16_on k (4:Int) (2:Int) ([97]:Str) ([]:Str)) (fun t884=>(Option.bind (ferrymanlaw16_is_POOOO k t802.2 (1:Int) t884 (0:Int) true ([]:Str)) (fun t887=>some ((!t887.1),t887.2)))))) (fun ⟨x866,x867⟩=>(Option.bind (α:=Bool×model_Model) (if x866=true then some (true,x867) else (Option.bind (ferrymanlaw16_on k (2:Int) (2:Int) ([97]:Str) ([]:Str)) (fun t972=>(Option.bind (ferrymanlaw16_is_POOOO k x867 (1:Int) t972 (0:Int) false ([]:Str)) (fun t975=>some ((!t975.1),t975.2)))))) (fun ⟨x954,x955⟩=>(Option.bind (α:=Bool×model_Model) (if x954=true then some (true,x955) else (Option.bind (ferrymanlaw16_on k (6:Int) (2:Int) ([]:Str) ([]:Str)) (fun t1060=>(Option.bind (ferrymanlaw16_is_POOOO k x955 (1:Int) t1060 (0:Int) false ([]:Str)) (fun t1063=>some ((!t1063.1),t1063.2)))))) (fun ⟨x1042,x1043⟩=>(if x1042=true then some false else (Option.bind (model_Model_Versions_POOOO k x1043 ([97]:Str)) (fun t1086=>(Option.bind (α:=Bool) (if ((t1086.length:Int) != (2:Int))=true then some (true) else (if 0≤(0:Int)∧(0:Int)<(t1086.length:Int) then some ((!((rd t1086 (0:Int)).Tomb))) else none)) (fun x1115=>(Option.bind (α:=Bool) (if x1115=true then some (true) else (if 0≤(0:Int)∧(0:Int)<(t1086.length:Int) then some (((rd t1086 (0:Int)).TS != (2:Int))) else none)) (fun x1149=>(Option.bind (α:=Bool) (if x1149=true then some (true) else (if 0≤(1:Int)∧(1:Int)<(t1086.length:Int) then some ((sbin .neq ((rd t1086 (1:Int)).Value) ([49]:Str))) else none)) (fun x1183=>(Option.bind (α:=Bool) (if x1183=true then some (true) else (if 0≤(1:Int)∧(1:Int)<(t1086.length:Int) then some (((rd t1086 (1:Int)).TS != (1:Int))) else none)) (fun x1217=>(if x1217=true then some false else (Option.bind (ferrymanlaw16_on k (1:Int) (0:Int) ([]:Str) ([]:Str)) (fun t1231=>(Option.bind (ferrymanlaw16_is_POOOO k x1043 (0:Int) t1231 (0:Int) false ([]:Str)) (fun t1234=>(Option.bind (α:=Bool×model_Model) (if t1234.1=true then (Option.bind (ferrymanlaw16_on k (3:Int) (2:Int) ([98]:Str) ([]:Str)) (fun t1316=>(Option.bind (ferrymanlaw16_is_POOOO k t1234.2 (0:Int) t1316 (0:Int) false ([]:Str)) (fun t1319=>some (t1319.1,t1319.2))))) else some (false,t1234.2)) (fun ⟨x1298,x1299⟩=>(Option.bind (α:=Bool×model_Model) (if x1298=true then (Option.bind (ferrymanlaw16_on k (6:Int) (2:Int) ([]:Str) ([]:Str)) (fun t1404=>(Option.bind (ferrymanlaw16_is_POOOO k x1299 (0:Int) t1404 (35:Int) false ([]:Str)) (fun t1407=>some (t1407.1,t1407.2))))) else some (false,x1299)) (fun ⟨x1386,x1387⟩=>(Option.bind (α:=Bool×model_Model) (if x1386=true then (Option.bind (ferrymanlaw16_on k (8:Int) (0:Int) ([]:Str) ([]:Str)) (fun t1492=>(Option.bind (ferrymanlaw16_is_POOOO k x1387 (0:Int) t1492 (0:Int) false ([]:Str)) (fun t1495=>some (t1495.1,t1495.2))))) else some (false,x1387)) (fun ⟨x1474,x1475⟩=>(Option.bind (α:=Bool) (if x1474=true then (Option.bind (model_Model_Keys_POOOO k x1475) (fun t1536=>some (((t1536.length:Int)==(0:Int))))) else some (false)) (fun x1534=>some x1534)))))))))))))))))))))))))))))))))))))))))))))))))))))))))))))))) t4))))
set_option maxHeartbeats 2000000 in
theorem ferrymanlaw16_works.mono {k:Nat} :OLe (ferrymanlaw16_works k ) (ferrymanlaw16_works (k+1) ):=by
 unfold ferrymanlaw16_works
 repeat' (first | with_reducible exact OLe.none | with_reducible exact OLe.some | with_reducible refine OLe.ite ?_ ?_ | with_reducible refine OLe.bind ?_ (fun _=>?_) | with_reducible exact ferrymanlaw16_is_POOOO.mono | with_reducible exact ferrymanlaw16_on.mono | with_reducible exact ferrymanlaw16_small.mono | with_reducible exact model_Model_Clock_POOOO.mono | with_reducible exact model_Model_Keys_POOOO.mono | with_reducible exact model_Model_Versions_POOOO.mono | with_reducible exact model_New_v.mono | refine OLe.bind ?_ (fun _=>?_) | refine OLe.ite ?_ ?_ | refine OLe.elim (fun _=>?_) (fun _=>?_) | split)
set_option maxHeartbeats 8000000 in
set_option maxRecDepth 100000 in
theorem ferrymanlaw16_works.con (k:Nat) (M:Hp)  (r:Bool)  (hg0:∃ gt fr,M 0=some (.cells #[.nilFunc,.func (.func 124) #[] #[],.func (.func 125) #[] #[],.func (.func 126) #[] #[],.func (.func 127) #[] #[],.func (.func 128) #[] #[],.func (.func 129) #[] #[],.func (.func 130) #[] #[],.func (.func 131) #[] #[],.func (.func 132) #[] #[]] gt fr)) (h:ferrymanlaw16_works k =some r):Con Tryd.prog 11 #[] M [] (fun v M' Γ'=>v=.bool r∧Γ'=[]):=by
 refine con_of_wp Tryd.func11 rfl Tryd.ntmps11 Tryd.results11 rfl ?_
 intro w F rn S hrn
 have E:=Ext.refl w
 have HM:=Hp.le_refl M
 have H:=h
 unfold ferrymanlaw16_works at H
 refine Wp_seq (Wp_region_lit (W_v (.bool false) (x_assign rfl) rfl (Wl_nil (tn (Wp_seq (Wp_region_lit ?_))))))
 obtain ⟨t1,ht2,H⟩:=bindS H
 refine W_callF fn30 (ferrymanlaw16_small.con k M  t1  ht2) S rfl rfl (by rintro _ _ _ ⟨_,rfl⟩;exact flat_nil) ?_
 rintro _ w3 _ Γ' E' S ⟨rfl,rfl⟩
 replace E:=E.trans E'
 obtain ⟨t4,ht5,H⟩:=bindS H
 rcases t4 with t6 | t7
 ·skip
  replace H:=elimL H
  refine W_callF2 fn13 (model_New_v.con k M t1 (Sum.inl t6)  ht5) (Γ1:=[]) (Γ2:=[]) S rfl rfl (by rintro _ _ _ ⟨rfl,rfl⟩;exact flat_nil) ?_
  rintro _ w8 _ Γ' E' S ⟨rfl,rfl⟩
  replace E:=E.trans E'
  replace S:St w8 M F []:=S
  refine W_v (.tuple #[.pointer none,.int .i64 1]) (x_move rfl) rfl (W_v (.pointer none) (x_extract rfl rfl) rfl (W_v (.int .i64 1) (x_extract rfl rfl) rfl (W_v (.pointer none) (x_assign rfl) rfl (W_v (.int .i64 1) (x_assign rfl) rfl (Wl_nil (tn (Wp_seq (Wp_seq (Wp_region_lit (W_v (.int .i64 1) (x_move rfl) rfl (W_v (.bool true) (x_ibin rfl rfl rfl rfl) rfl (W_v (.bool true) (x_move rfl) rfl (W_no (rfl) rfl (W_no (rfl) rfl (W_no (rfl) rfl ?_)))))))))))))))
  refine W_no (rfl) rfl (W_v (.bool true) (x_pick (k:=true) rfl rfl) rfl (W_v (.bool true) (x_move rfl) rfl (W_no (rfl) rfl (W_no (rfl) rfl (W_no (rfl) rfl (W_no (rfl) rfl (W_v (.bool true) (x_pick (k:=true) rfl rfl) rfl (W_v (.bool true) (x_move rfl) rfl (W_no (rfl) rfl (W_no (rfl) rfl (W_no (rfl) rfl (W_no (rfl) rfl (W_v (.bool true) (x_pick (k:=true) rfl rfl) rfl (W_v (.bool true) (x_move rfl) rfl (W_no (rfl) rfl ?_)))))))))))))))
  refine W_no (rfl) rfl (W_no (rfl) rfl (W_no (rfl) rfl (W_v (.bool true) (x_pick (k:=true) rfl rfl) rfl (W_v (.bool true) (x_move rfl) rfl (W_no (rfl) rfl (W_no (rfl) rfl (W_no (rfl) rfl (W_no (rfl) rfl (W_v (.bool true) (x_pick (k:=true) rfl rfl) rfl (Wl_nil (tn (Wp_cond_true rfl (Wp_seq (Wp_region_lit (W_v (.bool false) (x_assign rfl) rfl ?_)))))))))))))))
  refine Wl_nil (tn ?_)
  refine Wp_ret ?_
  refine tr (?_)
  obtain rfl:=Option.some.inj H
  exact ⟨_,_,_,fun w1 e1=>run_resR (vs:=[.bool false]) (FA.cons (rfl) (FA.nil)),HM,E,S.pick [] (by decide),⟨rfl,rfl⟩⟩
 ·skip
  replace H:=elimR H
  refine W_call fn13 (model_New_v.con k M t1 (Sum.inr t7)  ht5) (Γ1:=[]) (Γ2:=[]) S rfl rfl ?_
  rintro _ w27 M28 Γ' hM29 E' S ⟨b11,A13,c14,A16,c17,A19,c20,A22,c23,vs25,rfl,hm26,rfl⟩
  replace hg0:∃ gt fr,_:=(let ⟨gt,fr,h8⟩:=hg0;⟨gt,fr,hM29 _ _ h8⟩)
  replace HM:=Hp.le_trans HM hM29
  replace E:=E.trans E'
  replace S:St w27 M28 F [_,_,_,_,_]:=S
  refine W_v (.tuple #[pt b11 0,.int .i64 0]) (x_move rfl) rfl (W_v (pt b11 0) (x_extract rfl rfl) rfl (W_v (.int .i64 0) (x_extract rfl rfl) rfl (W_v (pt b11 0) (x_assign rfl) rfl (W_v (.int .i64 0) (x_assign rfl) rfl (Wl_nil (tn (Wp_seq (Wp_seq (Wp_region_lit (W_v (.int .i64 0) (x_move rfl) rfl (W_v (.bool false) (x_ibin rfl rfl rfl rfl) rfl (W_v (.bool false) (x_move rfl) rfl (W_yes (rfl) (W_v (pt b11 0) (x_move rfl) rfl (W_yes (rfl) ?_)))))))))))))))
  obtain ⟨t30,ht31,H⟩:=bindS H
  refine W_callF fn31 (ferrymanlaw16_on.con k M28 (1:Int) (0:Int) ([]:Str) ([]:Str) t30  ht31) S rfl rfl (by rintro _ _ _ ⟨_,rfl⟩;exact flat_nil) ?_
  rintro _ w32 _ Γ' E' S ⟨rfl,rfl⟩
  replace E:=E.trans E'
  refine W_yes (rfl) ?_
  obtain ⟨t33,ht34,H⟩:=bindS H
  refine W_call fn32 (ferrymanlaw16_is_POOOO.con k M28 A13 c14 A16 c17 A19 c20 A22 c23 vs25 t7 (0:Int) t30 (0:Int) false ([]:Str) b11 t33 hm26 hg0 ht34) (Γ1:=[_,_,_,_,_]) (Γ2:=[]) S rfl rfl ?_
  rintro _ w49 M50 Γ' hM51 E' S ⟨A35,c36,A38,c39,A41,c42,A44,c45,vs47,rfl,hm48,rfl⟩
  replace hg0:∃ gt fr,_:=(let ⟨gt,fr,h8⟩:=hg0;⟨gt,fr,hM51 _ _ h8⟩)
  replace HM:=Hp.le_trans HM hM51
  replace hm26:=MRel.mono hm26 hM51
  replace E:=E.trans E'
  replace S:St w49 M50 F [_,_,_,_,_]:=S
  refine W_yes (rfl) (W_v (.bool (!t33.1)) (x_not (b:=t33.1) rfl) rfl (W_v (.bool (!t33.1)) (x_pick (k:=false) rfl rfl) rfl (W_v (.bool (!t33.1)) (x_move rfl) rfl ?_)))
  obtain ⟨o113,o113h,o113H⟩:=bindS H
  refine Wl_cutN 5 (fun ρ w'=>∃ (x97:Bool) (x98:model_Model) (A99:Option Addr) (c100:Nat) (A102:Option Addr) (c103:Nat) (A105:Option Addr) (c106:Nat) (A108:Option Addr) (c109:Nat) (vs111:List (Str×Value)) (Mj:Hp),(x97,x98)=o113∧Agree ρ [(1,pt b11 0),(22,.bool x97)]∧M50.le Mj∧Ext w w'∧St w' Mj F [MapC encS (fun v:Value=>v) A108 vs111,Row r_model_tx 99 (.slice A105 x98.txs.length c106) x98.txs,MapC (Value.int .i64) (Value.int .i64) A102 x98.many,MapC enc_model_name (Value.int .i64) A99 x98.names,B94 b11 x98 A99 A102 A105 c106 A108]∧MRel r_model_row Mj x98.rows vs111) ?_ ?_
  ·have H:=o113h
   have LE114:=Hp.le_refl M50
   rcases iteS H with ⟨hb96,H⟩ | ⟨hb96,H⟩
   ·skip
    refine W_no (skF hb96) rfl (W_no (skF hb96) rfl (W_no (skF hb96) rfl (W_no (skF hb96) rfl (W_v (.bool true) (x_pick (k:=true) (congrArg Value.bool hb96) rfl) rfl (Wl_nil ?_)))))
    exact ⟨true,t33.2,A35,c36,A38,c39,A41,c42,A44,c45,vs47,M50,Option.some.inj H,⟨rfl,rfl,trivial⟩,(Hp.le_refl M50),E,S.pick [4,3,2,1,0] (by decide),hm48⟩
   ·skip
    refine W_yes (congrArg some hb96) (W_v (pt b11 0) (x_move rfl) rfl (W_yes (congrArg some hb96) ?_))
    obtain ⟨t115,ht116,H⟩:=bindS H
    refine W_callF fn31 (ferrymanlaw16_on.con k M50 (3:Int) (1:Int) ([97]:Str) ([49]:Str) t115  ht116) S rfl rfl (by rintro _ _ _ ⟨_,rfl⟩;exact flat_nil) ?_
    rintro _ w117 _ Γ' E' S ⟨rfl,rfl⟩
    replace E:=E.trans E'
    refine W_yes (congrArg some hb96) ?_
    obtain ⟨t118,ht119,H⟩:=bindS H
    refine W_call fn32 (ferrymanlaw16_is_POOOO.con k M50 A35 c36 A38 c39 A41 c42 A44 c45 vs47 t33.2 (0:Int) t115 (0:Int) false ([]:Str) b11 t118 hm48 hg0 ht119) (Γ1:=[_,_,_,_,_]) (Γ2:=[]) S rfl rfl ?_
    rintro _ w134 M135 Γ' hM136 E' S ⟨A120,c121,A123,c124,A126,c127,A129,c130,vs132,rfl,hm133,rfl⟩
    replace hg0:∃ gt fr,_:=(let ⟨gt,fr,h8⟩:=hg0;⟨gt,fr,hM136 _ _ h8⟩)
    replace HM:=Hp.le_trans HM hM136
    replace LE114:=Hp.le_trans LE114 hM136
    replace hm26:=MRel.mono hm26 hM136
    replace hm48:=MRel.mono hm48 hM136
    replace E:=E.trans E'
    replace S:St w134 M135 F [_,_,_,_,_]:=S
    refine W_yes (congrArg some hb96) (W_v (.bool (!t118.1)) (x_not (b:=t118.1) rfl) rfl (W_v (.bool (!t118.1)) (x_pick (k:=false) (congrArg Value.bool hb96) rfl) rfl (Wl_nil ?_)))
    exact ⟨(!t118.1),t118.2,A120,c121,A123,c124,A126,c127,A129,c130,vs132,M135,Option.some.inj H,⟨rfl,rfl,trivial⟩,LE114,E,S.pick [4,3,2,1,0] (by decide),hm133⟩
  as_aux_lemma =>
  rintro ρ w137 ⟨x97,x98,A99,c100,A102,c103,A105,c106,A108,c109,vs111,M138,rfl,hρ,hM139,E,S,hm112⟩
  rw [agree_eta hρ]
  replace hg0:∃ gt fr,_:=(let ⟨gt,fr,h8⟩:=hg0;⟨gt,fr,hM139 _ _ h8⟩)
  replace HM:=Hp.le_trans HM hM139
  replace hm26:=MRel.mono hm26 hM139
  replace hm48:=MRel.mono hm48 hM139
  have H:=o113H
  refine W_v (.bool x97) (x_move rfl) rfl ?_
  obtain ⟨o201,o201h,o201H⟩:=bindS H
  refine Wl_cutN 5 (fun ρ w'=>∃ (x185:Bool) (x186:model_Model) (A187:Option Addr) (c188:Nat) (A190:Option Addr) (c191:Nat) (A193:Option Addr) (c194:Nat) (A196:Option Addr) (c197:Nat) (vs199:List (Str×Value)) (Mj:Hp),(x185,x186)=o201∧Agree ρ [(1,pt b11 0),(28,.bool x185)]∧M138.le Mj∧Ext w w'∧St w' Mj F [MapC encS (fun v:Value=>v) A196 vs199,Row r_model_tx 99 (.slice A193 x186.txs.length c194) x186.txs,MapC (Value.int .i64) (Value.int .i64) A190 x186.many,MapC enc_model_name (Value.int .i64) A187 x186.names,B94 b11 x186 A187 A190 A193 c194 A196]∧MRel r_model_row Mj x186.rows vs199) ?_ ?_
  ·have H:=o201h
   have LE202:=Hp.le_refl M138
   rcases iteS H with ⟨hb184,H⟩ | ⟨hb184,H⟩
   ·skip
    refine W_no (skF hb184) rfl (W_no (skF hb184) rfl (W_no (skF hb184) rfl (W_no (skF hb184) rfl (W_v (.bool true) (x_pick (k:=true) (congrArg Value.bool hb184) rfl) rfl (Wl_nil ?_)))))
    exact ⟨true,x98,A99,c100,A102,c103,A105,c106,A108,c109,vs111,M138,Option.some.inj H,⟨rfl,rfl,trivial⟩,(Hp.le_refl M138),E,S.pick [0,1,2,3,4] (by decide),hm112⟩
   ·skip
    refine W_yes (congrArg some hb184) (W_v (pt b11 0) (x_move rfl) rfl (W_yes (congrArg some hb184) ?_))
    obtain ⟨t203,ht204,H⟩:=bindS H
    refine W_callF fn31 (ferrymanlaw16_on.con k M138 (1:Int) (0:Int) ([]:Str) ([]:Str) t203  ht204) S rfl rfl (by rintro _ _ _ ⟨_,rfl⟩;exact flat_nil) ?_
    rintro _ w205 _ Γ' E' S ⟨rfl,rfl⟩
    replace E:=E.trans E'
    refine W_yes (congrArg some hb184) ?_
    obtain ⟨t206,ht207,H⟩:=bindS H
    replace S:St w205 M138 F [_,_,_,_,_]:=S.pick [4,3,2,1,0] (by decide)
    refine W_call fn32 (ferrymanlaw16_is_POOOO.con k M138 A99 c100 A102 c103 A105 c106 A108 c109 vs111 x98 (1:Int) t203 (0:Int) false ([]:Str) b11 t206 hm112 hg0 ht207) (Γ1:=[_,_,_,_,_]) (Γ2:=[]) S rfl rfl ?_
    rintro _ w222 M223 Γ' hM224 E' S ⟨A208,c209,A211,c212,A214,c215,A217,c218,vs220,rfl,hm221,rfl⟩
    replace hg0:∃ gt fr,_:=(let ⟨gt,fr,h8⟩:=hg0;⟨gt,fr,hM224 _ _ h8⟩)
    replace HM:=Hp.le_trans HM hM224
    replace hM139:=Hp.le_trans hM139 hM224
    replace LE202:=Hp.le_trans LE202 hM224
    replace hm26:=MRel.mono hm26 hM224
    replace hm48:=MRel.mono hm48 hM224
    replace hm112:=MRel.mono hm112 hM224
    replace E:=E.trans E'
    replace S:St w222 M223 F [_,_,_,_,_]:=S
    refine W_yes (congrArg some hb184) (W_v (.bool (!t206.1)) (x_not (b:=t206.1) rfl) rfl (W_v (.bool (!t206.1)) (x_pick (k:=false) (congrArg Value.bool hb184) rfl) rfl (Wl_nil ?_)))
    exact ⟨(!t206.1),t206.2,A208,c209,A211,c212,A214,c215,A217,c218,vs220,M223,Option.some.inj H,⟨rfl,rfl,trivial⟩,LE202,E,S.pick [4,3,2,1,0] (by decide),hm221⟩
  as_aux_lemma =>
  rintro ρ w225 ⟨x185,x186,A187,c188,A190,c191,A193,c194,A196,c197,vs199,M226,rfl,hρ,hM227,E,S,hm200⟩
  rw [agree_eta hρ]
  replace hg0:∃ gt fr,_:=(let ⟨gt,fr,h8⟩:=hg0;⟨gt,fr,hM227 _ _ h8⟩)
  replace HM:=Hp.le_trans HM hM227
  replace hM139:=Hp.le_trans hM139 hM227
  replace hm26:=MRel.mono hm26 hM227
  replace hm48:=MRel.mono hm48 hM227
  replace hm112:=MRel.mono hm112 hM227
  have H:=o201H
  refine W_v (.bool x185) (x_move rfl) rfl ?_
  obtain ⟨o289,o289h,o289H⟩:=bindS H
  refine Wl_cutN 5 (fun ρ w'=>∃ (x273:Bool) (x274:model_Model) (A275:Option Addr) (c276:Nat) (A278:Option Addr) (c279:Nat) (A281:Option Addr) (c282:Nat) (A284:Option Addr) (c285:Nat) (vs287:List (Str×Value)) (Mj:Hp),(x273,x274)=o289∧Agree ρ [(1,pt b11 0),(34,.bool x273)]∧M226.le Mj∧Ext w w'∧St w' Mj F [MapC encS (fun v:Value=>v) A284 vs287,Row r_model_tx 99 (.slice A281 x274.txs.length c282) x274.txs,MapC (Value.int .i64) (Value.int .i64) A278 x274.many,MapC enc_model_name (Value.int .i64) A275 x274.names,B94 b11 x274 A275 A278 A281 c282 A284]∧MRel r_model_row Mj x274.rows vs287) ?_ ?_
  ·as_aux_lemma =>
    have H:=o289h
    have LE290:=Hp.le_refl M226
    rcases iteS H with ⟨hb272,H⟩ | ⟨hb272,H⟩
    ·skip
     refine W_no (skF hb272) rfl (W_no (skF hb272) rfl (W_no (skF hb272) rfl (W_no (skF hb272) rfl (W_v (.bool true) (x_pick (k:=true) (congrArg Value.bool hb272) rfl) rfl (Wl_nil ?_)))))
     exact ⟨true,x186,A187,c188,A190,c191,A193,c194,A196,c197,vs199,M226,Option.some.inj H,⟨rfl,rfl,trivial⟩,(Hp.le_refl M226),E,S.pick [0,1,2,3,4] (by decide),hm200⟩
    ·skip
     refine W_yes (congrArg some hb272) (W_v (pt b11 0) (x_move rfl) rfl (W_yes (congrArg some hb272) ?_))
     obtain ⟨t291,ht292,H⟩:=bindS H
     refine W_callF fn31 (ferrymanlaw16_on.con k M226 (2:Int) (1:Int) ([97]:Str) ([]:Str) t291  ht292) S rfl rfl (by rintro _ _ _ ⟨_,rfl⟩;exact flat_nil) ?_
     rintro _ w293 _ Γ' E' S ⟨rfl,rfl⟩
     replace E:=E.trans E'
     refine W_yes (congrArg some hb272) ?_
     obtain ⟨t294,ht295,H⟩:=bindS H
     replace S:St w293 M226 F [_,_,_,_,_]:=S.pick [4,3,2,1,0] (by decide)
     refine W_call fn32 (ferrymanlaw16_is_POOOO.con k M226 A187 c188 A190 c191 A193 c194 A196 c197 vs199 x186 (1:Int) t291 (0:Int) false ([]:Str) b11 t294 hm200 hg0 ht295) (Γ1:=[_,_,_,_,_]) (Γ2:=[]) S rfl rfl ?_
     rintro _ w310 M311 Γ' hM312 E' S ⟨A296,c297,A299,c300,A302,c303,A305,c306,vs308,rfl,hm309,rfl⟩
     replace hg0:∃ gt fr,_:=(let ⟨gt,fr,h8⟩:=hg0;⟨gt,fr,hM312 _ _ h8⟩)
     replace HM:=Hp.le_trans HM hM312
     replace hM139:=Hp.le_trans hM139 hM312
     replace hM227:=Hp.le_trans hM227 hM312
     replace LE290:=Hp.le_trans LE290 hM312
     replace hm26:=MRel.mono hm26 hM312
     replace hm48:=MRel.mono hm48 hM312
     replace hm112:=MRel.mono hm112 hM312
     replace hm200:=MRel.mono hm200 hM312
     replace E:=E.trans E'
     replace S:St w310 M311 F [_,_,_,_,_]:=S
     refine W_yes (congrArg some hb272) (W_v (.bool (!t294.1)) (x_not (b:=t294.1) rfl) rfl (W_v (.bool (!t294.1)) (x_pick (k:=false) (congrArg Value.bool hb272) rfl) rfl (Wl_nil ?_)))
     exact ⟨(!t294.1),t294.2,A296,c297,A299,c300,A302,c303,A305,c306,vs308,M311,Option.some.inj H,⟨rfl,rfl,trivial⟩,LE290,E,S.pick [4,3,2,1,0] (by decide),hm309⟩
  as_aux_lemma =>
  rintro ρ w313 ⟨x273,x274,A275,c276,A278,c279,A281,c282,A284,c285,vs287,M314,rfl,hρ,hM315,E,S,hm288⟩
  rw [agree_eta hρ]
  replace hg0:∃ gt fr,_:=(let ⟨gt,fr,h8⟩:=hg0;⟨gt,fr,hM315 _ _ h8⟩)
  replace HM:=Hp.le_trans HM hM315
  replace hM139:=Hp.le_trans hM139 hM315
  replace hM227:=Hp.le_trans hM227 hM315
  replace hm26:=MRel.mono hm26 hM315
  replace hm48:=MRel.mono hm48 hM315
  replace hm112:=MRel.mono hm112 hM315
  replace hm200:=MRel.mono hm200 hM315
  have H:=o289H
  refine W_v (.bool x273) (x_move rfl) rfl ?_
  obtain ⟨o377,o377h,o377H⟩:=bindS H
  refine Wl_cutN 5 (fun ρ w'=>∃ (x361:Bool) (x362:model_Model) (A363:Option Addr) (c364:Nat) (A366:Option Addr) (c367:Nat) (A369:Option Addr) (c370:Nat) (A372:Option Addr) (c373:Nat) (vs375:List (Str×Value)) (Mj:Hp),(x361,x362)=o377∧Agree ρ [(1,pt b11 0),(40,.bool x361)]∧M314.le Mj∧Ext w w'∧St w' Mj F [MapC encS (fun v:Value=>v) A372 vs375,Row r_model_tx 99 (.slice A369 x362.txs.length c370) x362.txs,MapC (Value.int .i64) (Value.int .i64) A366 x362.many,MapC enc_model_name (Value.int .i64) A363 x362.names,B94 b11 x362 A363 A366 A369 c370 A372]∧MRel r_model_row Mj x362.rows vs375) ?_ ?_
  ·as_aux_lemma =>
    have H:=o377h
    have LE378:=Hp.le_refl M314
    rcases iteS H with ⟨hb360,H⟩ | ⟨hb360,H⟩
    ·skip
     refine W_no (skF hb360) rfl (W_no (skF hb360) rfl (W_no (skF hb360) rfl (W_no (skF hb360) rfl (W_v (.bool true) (x_pick (k:=true) (congrArg Value.bool hb360) rfl) rfl (Wl_nil ?_)))))
     exact ⟨true,x274,A275,c276,A278,c279,A281,c282,A284,c285,vs287,M314,Option.some.inj H,⟨rfl,rfl,trivial⟩,(Hp.le_refl M314),E,S.pick [0,1,2,3,4] (by decide),hm288⟩
    ·skip
     refine W_yes (congrArg some hb360) (W_v (pt b11 0) (x_move rfl) rfl (W_yes (congrArg some hb360) ?_))
     obtain ⟨t379,ht380,H⟩:=bindS H
     refine W_callF fn31 (ferrymanlaw16_on.con k M314 (3:Int) (1:Int) ([97]:Str) ([50]:Str) t379  ht380) S rfl rfl (by rintro _ _ _ ⟨_,rfl⟩;exact flat_nil) ?_
     rintro _ w381 _ Γ' E' S ⟨rfl,rfl⟩
     replace E:=E.trans E'
     refine W_yes (congrArg some hb360) ?_
     obtain ⟨t382,ht383,H⟩:=bindS H
     replace S:St w381 M314 F [_,_,_,_,_]:=S.pick [4,3,2,1,0] (by decide)
     refine W_call fn32 (ferrymanlaw16_is_POOOO.con k M314 A275 c276 A278 c279 A281 c282 A284 c285 vs287 x274 (1:Int) t379 (33:Int) false ([]:Str) b11 t382 hm288 hg0 ht383) (Γ1:=[_,_,_,_,_]) (Γ2:=[]) S rfl rfl ?_
     rintro _ w398 M399 Γ' hM400 E' S ⟨A384,c385,A387,c388,A390,c391,A393,c394,vs396,rfl,hm397,rfl⟩
     replace hg0:∃ gt fr,_:=(let ⟨gt,fr,h8⟩:=hg0;⟨gt,fr,hM400 _ _ h8⟩)
     replace HM:=Hp.le_trans HM hM400
     replace hM139:=Hp.le_trans hM139 hM400
     replace hM227:=Hp.le_trans hM227 hM400
     replace hM315:=Hp.le_trans hM315 hM400
     replace LE378:=Hp.le_trans LE378 hM400
     replace hm26:=MRel.mono hm26 hM400
     replace hm48:=MRel.mono hm48 hM400
     replace hm112:=MRel.mono hm112 hM400
     replace hm200:=MRel.mono hm200 hM400
     replace hm288:=MRel.mono hm288 hM400
     replace E:=E.trans E'
     replace S:St w398 M399 F [_,_,_,_,_]:=S
     refine W_yes (congrArg some hb360) (W_v (.bool (!t382.1)) (x_not (b:=t382.1) rfl) rfl (W_v (.bool (!t382.1)) (x_pick (k:=false) (congrArg Value.bool hb360) rfl) rfl (Wl_nil ?_)))
     exact ⟨(!t382.1),t382.2,A384,c385,A387,c388,A390,c391,A393,c394,vs396,M399,Option.some.inj H,⟨rfl,rfl,trivial⟩,LE378,E,S.pick [4,3,2,1,0] (by decide),hm397⟩
  as_aux_lemma =>
  rintro ρ w401 ⟨x361,x362,A363,c364,A366,c367,A369,c370,A372,c373,vs375,M402,rfl,hρ,hM403,E,S,hm376⟩
  rw [agree_eta hρ]
  replace hg0:∃ gt fr,_:=(let ⟨gt,fr,h8⟩:=hg0;⟨gt,fr,hM403 _ _ h8⟩)
  replace HM:=Hp.le_trans HM hM403
  replace hM139:=Hp.le_trans hM139 hM403
  replace hM227:=Hp.le_trans hM227 hM403
  replace hM315:=Hp.le_trans hM315 hM403
  replace hm26:=MRel.mono hm26 hM403
  replace hm48:=MRel.mono hm48 hM403
  replace hm112:=MRel.mono hm112 hM403
  replace hm200:=MRel.mono hm200 hM403
  replace hm288:=MRel.mono hm288 hM403
  have H:=o377H
  refine Wl_nil (tn ?_)
  rcases iteS H with ⟨hb404,H⟩ | ⟨hb404,H⟩
  ·refine Wp_cond_true (congrArg Value.bool hb404) ?_
   refine Wp_seq (Wp_region_lit (W_v (.bool false) (x_assign rfl) rfl (Wl_nil (tn ?_))))
   refine Wp_ret ?_
   refine tr (?_)
   obtain rfl:=Option.some.inj H
   exact ⟨_,_,_,fun w1 e1=>run_resR (vs:=[.bool false]) (FA.cons (rfl) (FA.nil)),HM,E,S.pick [] (by decide),⟨rfl,rfl⟩⟩
  refine Wp_cond_false (congrArg Value.bool hb404) (Wp_skip (tn (Wp_seq (Wp_seq (Wp_region_lit (W_v (pt b11 0) (x_move rfl) rfl ?_))))))
  obtain ⟨t405,ht406,H⟩:=bindS H
  refine W_callF fn31 (ferrymanlaw16_on.con k M402 (6:Int) (1:Int) ([]:Str) ([]:Str) t405  ht406) S rfl rfl (by rintro _ _ _ ⟨_,rfl⟩;exact flat_nil) ?_
  rintro _ w407 _ Γ' E' S ⟨rfl,rfl⟩
  replace E:=E.trans E'
  obtain ⟨t408,ht409,H⟩:=bindS H
  replace S:St w407 M402 F [_,_,_,_,_]:=S.pick [4,3,2,1,0] (by decide)
  refine W_call fn32 (ferrymanlaw16_is_POOOO.con k M402 A363 c364 A366 c367 A369 c370 A372 c373 vs375 x362 (0:Int) t405 (0:Int) false ([]:Str) b11 t408 hm376 hg0 ht409) (Γ1:=[_,_,_,_,_]) (Γ2:=[]) S rfl rfl ?_
  rintro _ w424 M425 Γ' hM426 E' S ⟨A410,c411,A413,c414,A416,c417,A419,c420,vs422,rfl,hm423,rfl⟩
  replace hg0:∃ gt fr,_:=(let ⟨gt,fr,h8⟩:=hg0;⟨gt,fr,hM426 _ _ h8⟩)
  replace HM:=Hp.le_trans HM hM426
  replace hM139:=Hp.le_trans hM139 hM426
  replace hM227:=Hp.le_trans hM227 hM426
  replace hM315:=Hp.le_trans hM315 hM426
  replace hM403:=Hp.le_trans hM403 hM426
  replace hm26:=MRel.mono hm26 hM426
  replace hm48:=MRel.mono hm48 hM426
  replace hm112:=MRel.mono hm112 hM426
  replace hm200:=MRel.mono hm200 hM426
  replace hm288:=MRel.mono hm288 hM426
  replace hm376:=MRel.mono hm376 hM426
  replace E:=E.trans E'
  replace S:St w424 M425 F [_,_,_,_,_]:=S
  refine W_v (.bool (!t408.1)) (x_not (b:=t408.1) rfl) rfl (W_v (.bool (!t408.1)) (x_move rfl) rfl ?_)
  obtain ⟨o439,o439h,o439H⟩:=bindS H
  refine Wl_cutN 4 (fun ρ w'=>∃ (x438:Bool),(x438)=o439∧Agree ρ [(1,pt b11 0),(49,.bool x438)]∧Ext w w'∧St w' M425 F [B94 b11 t408.2 A410 A413 A416 c417 A419,MapC enc_model_name (Value.int .i64) A410 t408.2.names,MapC (Value.int .i64) (Value.int .i64) A413 t408.2.many,Row r_model_tx 99 (.slice A416 t408.2.txs.length c417) t408.2.txs,MapC encS (fun v:Value=>v) A419 vs422]) ?_ ?_
  ·have H:=o439h
   rcases iteS H with ⟨hb437,H⟩ | ⟨hb437,H⟩
   ·skip
    refine W_no (skF hb437) rfl (W_no (skF hb437) rfl (W_no (skF hb437) rfl (W_v (.bool true) (x_pick (k:=true) (congrArg Value.bool hb437) rfl) rfl (Wl_nil ?_))))
    exact ⟨true,Option.some.inj H,⟨rfl,rfl,trivial⟩,E,S.pick [0,1,2,3,4] (by decide)⟩
   ·skip
    refine W_yes (congrArg some hb437) (W_v (pt b11 0) (x_move rfl) rfl (W_yes (congrArg some hb437) ?_))
    obtain ⟨t440,ht441,H⟩:=bindS H
    refine W_callF2 fn19 (model_Model_Clock_POOOO.con k M425 A410 c411 A413 c414 A416 c417 A419 c420 vs422 t408.2 b11 t440 hm423 ht441) (Γ1:=[_,_,_,_,_]) (Γ2:=[]) S rfl rfl (by rintro _ _ _ ⟨rfl,rfl⟩;exact (flat_cons flat_blk (flat_cons flat_map (flat_cons flat_map (flat_cons (flat_row (fun _ _ _ _ h=>h)) (flat_cons flat_map flat_nil)))))) ?_
    rintro _ w442 _ Γ' E' S ⟨rfl,rfl⟩
    replace E:=E.trans E'
    replace S:St w442 M425 F [_,_,_,_,_]:=S
    refine W_yes (congrArg some hb437) (W_v (.bool (t440 != (1:Int))) (x_ibin rfl rfl rfl rfl) rfl (W_v (.bool (t440 != (1:Int))) (x_pick (k:=false) (congrArg Value.bool hb437) rfl) rfl (Wl_nil ?_)))
    exact ⟨(t440 != (1:Int)),Option.some.inj H,⟨rfl,rfl,trivial⟩,E,S.pick [0,1,2,3,4] (by decide)⟩
  as_aux_lemma =>
  rintro ρ w445 ⟨x438,rfl,hρ,E,S⟩
  rw [agree_eta hρ]
  have H:=o439H
  refine W_v (.bool x438) (x_move rfl) rfl ?_
  obtain ⟨o507,o507h,o507H⟩:=bindS H
  refine Wl_cutN 5 (fun ρ w'=>∃ (x491:Bool) (x492:model_Model) (A493:Option Addr) (c494:Nat) (A496:Option Addr) (c497:Nat) (A499:Option Addr) (c500:Nat) (A502:Option Addr) (c503:Nat) (vs505:List (Str×Value)) (Mj:Hp),(x491,x492)=o507∧Agree ρ [(1,pt b11 0),(55,.bool x491)]∧M425.le Mj∧Ext w w'∧St w' Mj F [MapC encS (fun v:Value=>v) A502 vs505,Row r_model_tx 99 (.slice A499 x492.txs.length c500) x492.txs,MapC (Value.int .i64) (Value.int .i64) A496 x492.many,MapC enc_model_name (Value.int .i64) A493 x492.names,B94 b11 x492 A493 A496 A499 c500 A502]∧MRel r_model_row Mj x492.rows vs505) ?_ ?_
  ·as_aux_lemma =>
    have H:=o507h
    have LE508:=Hp.le_refl M425
    rcases iteS H with ⟨hb490,H⟩ | ⟨hb490,H⟩
    ·skip
     refine W_no (skF hb490) rfl (W_no (skF hb490) rfl (W_no (skF hb490) rfl (W_no (skF hb490) rfl (W_v (.bool true) (x_pick (k:=true) (congrArg Value.bool hb490) rfl) rfl (Wl_nil ?_)))))
     exact ⟨true,t408.2,A410,c411,A413,c414,A416,c417,A419,c420,vs422,M425,Option.some.inj H,⟨rfl,rfl,trivial⟩,(Hp.le_refl M425),E,S.pick [4,3,2,1,0] (by decide),hm423⟩
    ·skip
     refine W_yes (congrArg some hb490) (W_v (pt b11 0) (x_move rfl) rfl (W_yes (congrArg some hb490) ?_))
     obtain ⟨t509,ht510,H⟩:=bindS H
     refine W_callF fn31 (ferrymanlaw16_on.con k M425 (2:Int) (1:Int) ([97]:Str) ([]:Str) t509  ht510) S rfl rfl (by rintro _ _ _ ⟨_,rfl⟩;exact flat_nil) ?_
     rintro _ w511 _ Γ' E' S ⟨rfl,rfl⟩
     replace E:=E.trans E'
     refine W_yes (congrArg some hb490) ?_
     obtain ⟨t512,ht513,H⟩:=bindS H
     refine W_call fn32 (ferrymanlaw16_is_POOOO.con k M425 A410 c411 A413 c414 A416 c417 A419 c420 vs422 t408.2 (1:Int) t509 (0:Int) false ([]:Str) b11 t512 hm423 hg0 ht513) (Γ1:=[_,_,_,_,_]) (Γ2:=[]) S rfl rfl ?_
     rintro _ w528 M529 Γ' hM530 E' S ⟨A514,c515,A517,c518,A520,c521,A523,c524,vs526,rfl,hm527,rfl⟩
     replace hg0:∃ gt fr,_:=(let ⟨gt,fr,h8⟩:=hg0;⟨gt,fr,hM530 _ _ h8⟩)
     replace HM:=Hp.le_trans HM hM530
     replace hM139:=Hp.le_trans hM139 hM530
     replace hM227:=Hp.le_trans hM227 hM530
     replace hM315:=Hp.le_trans hM315 hM530
     replace hM403:=Hp.le_trans hM403 hM530
     replace LE508:=Hp.le_trans LE508 hM530
     replace hm26:=MRel.mono hm26 hM530
     replace hm48:=MRel.mono hm48 hM530
     replace hm112:=MRel.mono hm112 hM530
     replace hm200:=MRel.mono hm200 hM530
     replace hm288:=MRel.mono hm288 hM530
     replace hm376:=MRel.mono hm376 hM530
     replace hm423:=MRel.mono hm423 hM530
     replace E:=E.trans E'
     replace S:St w528 M529 F [_,_,_,_,_]:=S
     refine W_yes (congrArg some hb490) (W_v (.bool (!t512.1)) (x_not (b:=t512.1) rfl) rfl (W_v (.bool (!t512.1)) (x_pick (k:=false) (congrArg Value.bool hb490) rfl) rfl (Wl_nil ?_)))
     exact ⟨(!t512.1),t512.2,A514,c515,A517,c518,A520,c521,A523,c524,vs526,M529,Option.some.inj H,⟨rfl,rfl,trivial⟩,LE508,E,S.pick [4,3,2,1,0] (by decide),hm527⟩
  as_aux_lemma =>
  rintro ρ w531 ⟨x491,x492,A493,c494,A496,c497,A499,c500,A502,c503,vs505,M532,rfl,hρ,hM533,E,S,hm506⟩
  rw [agree_eta hρ]
  replace hg0:∃ gt fr,_:=(let ⟨gt,fr,h8⟩:=hg0;⟨gt,fr,hM533 _ _ h8⟩)
  replace HM:=Hp.le_trans HM hM533
  replace hM139:=Hp.le_trans hM139 hM533
  replace hM227:=Hp.le_trans hM227 hM533
  replace hM315:=Hp.le_trans hM315 hM533
  replace hM403:=Hp.le_trans hM403 hM533
  replace hm26:=MRel.mono hm26 hM533
  replace hm48:=MRel.mono hm48 hM533
  replace hm112:=MRel.mono hm112 hM533
  replace hm200:=MRel.mono hm200 hM533
  replace hm288:=MRel.mono hm288 hM533
  replace hm376:=MRel.mono hm376 hM533
  replace hm423:=MRel.mono hm423 hM533
  have H:=o507H
  refine W_v (.bool x491) (x_move rfl) rfl ?_
  obtain ⟨o595,o595h,o595H⟩:=bindS H
  refine Wl_cutN 5 (fun ρ w'=>∃ (x579:Bool) (x580:model_Model) (A581:Option Addr) (c582:Nat) (A584:Option Addr) (c585:Nat) (A587:Option Addr) (c588:Nat) (A590:Option Addr) (c591:Nat) (vs593:List (Str×Value)) (Mj:Hp),(x579,x580)=o595∧Agree ρ [(1,pt b11 0),(61,.bool x579)]∧M532.le Mj∧Ext w w'∧St w' Mj F [MapC encS (fun v:Value=>v) A590 vs593,Row r_model_tx 99 (.slice A587 x580.txs.length c588) x580.txs,MapC (Value.int .i64) (Value.int .i64) A584 x580.many,MapC enc_model_name (Value.int .i64) A581 x580.names,B94 b11 x580 A581 A584 A587 c588 A590]∧MRel r_model_row Mj x580.rows vs593) ?_ ?_
  ·as_aux_lemma =>
    have H:=o595h
    have LE596:=Hp.le_refl M532
    rcases iteS H with ⟨hb578,H⟩ | ⟨hb578,H⟩
    ·skip
     refine W_no (skF hb578) rfl (W_no (skF hb578) rfl (W_no (skF hb578) rfl (W_no (skF hb578) rfl (W_v (.bool true) (x_pick (k:=true) (congrArg Value.bool hb578) rfl) rfl (Wl_nil ?_)))))
     exact ⟨true,x492,A493,c494,A496,c497,A499,c500,A502,c503,vs505,M532,Option.some.inj H,⟨rfl,rfl,trivial⟩,(Hp.le_refl M532),E,S.pick [0,1,2,3,4] (by decide),hm506⟩
    ·skip
     refine W_yes (congrArg some hb578) (W_v (pt b11 0) (x_move rfl) rfl (W_yes (congrArg some hb578) ?_))
     obtain ⟨t597,ht598,H⟩:=bindS H
     refine W_callF fn31 (ferrymanlaw16_on.con k M532 (3:Int) (1:Int) ([97]:Str) ([50]:Str) t597  ht598) S rfl rfl (by rintro _ _ _ ⟨_,rfl⟩;exact flat_nil) ?_
     rintro _ w599 _ Γ' E' S ⟨rfl,rfl⟩
     replace E:=E.trans E'
     refine W_yes (congrArg some hb578) ?_
     obtain ⟨t600,ht601,H⟩:=bindS H
     replace S:St w599 M532 F [_,_,_,_,_]:=S.pick [4,3,2,1,0] (by decide)
     refine W_call fn32 (ferrymanlaw16_is_POOOO.con k M532 A493 c494 A496 c497 A499 c500 A502 c503 vs505 x492 (1:Int) t597 (33:Int) false ([]:Str) b11 t600 hm506 hg0 ht601) (Γ1:=[_,_,_,_,_]) (Γ2:=[]) S rfl rfl ?_
     rintro _ w616 M617 Γ' hM618 E' S ⟨A602,c603,A605,c606,A608,c609,A611,c612,vs614,rfl,hm615,rfl⟩
     replace hg0:∃ gt fr,_:=(let ⟨gt,fr,h8⟩:=hg0;⟨gt,fr,hM618 _ _ h8⟩)
     replace HM:=Hp.le_trans HM hM618
     replace hM139:=Hp.le_trans hM139 hM618
     replace hM227:=Hp.le_trans hM227 hM618
     replace hM315:=Hp.le_trans hM315 hM618
     replace hM403:=Hp.le_trans hM403 hM618
     replace hM533:=Hp.le_trans hM533 hM618
     replace LE596:=Hp.le_trans LE596 hM618
     replace hm26:=MRel.mono hm26 hM618
     replace hm48:=MRel.mono hm48 hM618
     replace hm112:=MRel.mono hm112 hM618
     replace hm200:=MRel.mono hm200 hM618
     replace hm288:=MRel.mono hm288 hM618
     replace hm376:=MRel.mono hm376 hM618
     replace hm423:=MRel.mono hm423 hM618
     replace hm506:=MRel.mono hm506 hM618
     replace E:=E.trans E'
     replace S:St w616 M617 F [_,_,_,_,_]:=S
     refine W_yes (congrArg some hb578) (W_v (.bool (!t600.1)) (x_not (b:=t600.1) rfl) rfl (W_v (.bool (!t600.1)) (x_pick (k:=false) (congrArg Value.bool hb578) rfl) rfl (Wl_nil ?_)))
     exact ⟨(!t600.1),t600.2,A602,c603,A605,c606,A608,c609,A611,c612,vs614,M617,Option.some.inj H,⟨rfl,rfl,trivial⟩,LE596,E,S.pick [4,3,2,1,0] (by decide),hm615⟩
  as_aux_lemma =>
  rintro ρ w619 ⟨x579,x580,A581,c582,A584,c585,A587,c588,A590,c591,vs593,M620,rfl,hρ,hM621,E,S,hm594⟩
  rw [agree_eta hρ]
  replace hg0:∃ gt fr,_:=(let ⟨gt,fr,h8⟩:=hg0;⟨gt,fr,hM621 _ _ h8⟩)
  replace HM:=Hp.le_trans HM hM621
  replace hM139:=Hp.le_trans hM139 hM621
  replace hM227:=Hp.le_trans hM227 hM621
  replace hM315:=Hp.le_trans hM315 hM621
  replace hM403:=Hp.le_trans hM403 hM621
  replace hM533:=Hp.le_trans hM533 hM621
  replace hm26:=MRel.mono hm26 hM621
  replace hm48:=MRel.mono hm48 hM621
  replace hm112:=MRel.mono hm112 hM621
  replace hm200:=MRel.mono hm200 hM621
  replace hm288:=MRel.mono hm288 hM621
  replace hm376:=MRel.mono hm376 hM621
  replace hm423:=MRel.mono hm423 hM621
  replace hm506:=MRel.mono hm506 hM621
  have H:=o595H
  refine W_v (.bool x579) (x_move rfl) rfl ?_
  obtain ⟨o683,o683h,o683H⟩:=bindS H
  refine Wl_cutN 5 (fun ρ w'=>∃ (x667:Bool) (x668:model_Model) (A669:Option Addr) (c670:Nat) (A672:Option Addr) (c673:Nat) (A675:Option Addr) (c676:Nat) (A678:Option Addr) (c679:Nat) (vs681:List (Str×Value)) (Mj:Hp),(x667,x668)=o683∧Agree ρ [(1,pt b11 0),(67,.bool x667)]∧M620.le Mj∧Ext w w'∧St w' Mj F [MapC encS (fun v:Value=>v) A678 vs681,Row r_model_tx 99 (.slice A675 x668.txs.length c676) x668.txs,MapC (Value.int .i64) (Value.int .i64) A672 x668.many,MapC enc_model_name (Value.int .i64) A669 x668.names,B94 b11 x668 A669 A672 A675 c676 A678]∧MRel r_model_row Mj x668.rows vs681) ?_ ?_
  ·as_aux_lemma =>
    have H:=o683h
    have LE684:=Hp.le_refl M620
    rcases iteS H with ⟨hb666,H⟩ | ⟨hb666,H⟩
    ·skip
     refine W_no (skF hb666) rfl (W_no (skF hb666) rfl (W_no (skF hb666) rfl (W_no (skF hb666) rfl (W_v (.bool true) (x_pick (k:=true) (congrArg Value.bool hb666) rfl) rfl (Wl_nil ?_)))))
     exact ⟨true,x580,A581,c582,A584,c585,A587,c588,A590,c591,vs593,M620,Option.some.inj H,⟨rfl,rfl,trivial⟩,(Hp.le_refl M620),E,S.pick [0,1,2,3,4] (by decide),hm594⟩
    ·skip
     refine W_yes (congrArg some hb666) (W_v (pt b11 0) (x_move rfl) rfl (W_yes (congrArg some hb666) ?_))
     obtain ⟨t685,ht686,H⟩:=bindS H
     refine W_callF fn31 (ferrymanlaw16_on.con k M620 (7:Int) (1:Int) ([]:Str) ([]:Str) t685  ht686) S rfl rfl (by rintro _ _ _ ⟨_,rfl⟩;exact flat_nil) ?_
     rintro _ w687 _ Γ' E' S ⟨rfl,rfl⟩
     replace E:=E.trans E'
     refine W_yes (congrArg some hb666) ?_
     obtain ⟨t688,ht689,H⟩:=bindS H
     replace S:St w687 M620 F [_,_,_,_,_]:=S.pick [4,3,2,1,0] (by decide)
     refine W_call fn32 (ferrymanlaw16_is_POOOO.con k M620 A581 c582 A584 c585 A587 c588 A590 c591 vs593 x580 (1:Int) t685 (0:Int) false ([]:Str) b11 t688 hm594 hg0 ht689) (Γ1:=[_,_,_,_,_]) (Γ2:=[]) S rfl rfl ?_
     rintro _ w704 M705 Γ' hM706 E' S ⟨A690,c691,A693,c694,A696,c697,A699,c700,vs702,rfl,hm703,rfl⟩
     replace hg0:∃ gt fr,_:=(let ⟨gt,fr,h8⟩:=hg0;⟨gt,fr,hM706 _ _ h8⟩)
     replace HM:=Hp.le_trans HM hM706
     replace hM139:=Hp.le_trans hM139 hM706
     replace hM227:=Hp.le_trans hM227 hM706
     replace hM315:=Hp.le_trans hM315 hM706
     replace hM403:=Hp.le_trans hM403 hM706
     replace hM533:=Hp.le_trans hM533 hM706
     replace hM621:=Hp.le_trans hM621 hM706
     replace LE684:=Hp.le_trans LE684 hM706
     replace hm26:=MRel.mono hm26 hM706
     replace hm48:=MRel.mono hm48 hM706
     replace hm112:=MRel.mono hm112 hM706
     replace hm200:=MRel.mono hm200 hM706
     replace hm288:=MRel.mono hm288 hM706
     replace hm376:=MRel.mono hm376 hM706
     replace hm423:=MRel.mono hm423 hM706
     replace hm506:=MRel.mono hm506 hM706
     replace hm594:=MRel.mono hm594 hM706
     replace E:=E.trans E'
     replace S:St w704 M705 F [_,_,_,_,_]:=S
     refine W_yes (congrArg some hb666) (W_v (.bool (!t688.1)) (x_not (b:=t688.1) rfl) rfl (W_v (.bool (!t688.1)) (x_pick (k:=false) (congrArg Value.bool hb666) rfl) rfl (Wl_nil ?_)))
     exact ⟨(!t688.1),t688.2,A690,c691,A693,c694,A696,c697,A699,c700,vs702,M705,Option.some.inj H,⟨rfl,rfl,trivial⟩,LE684,E,S.pick [4,3,2,1,0] (by decide),hm703⟩
  as_aux_lemma =>
  rintro ρ w707 ⟨x667,x668,A669,c670,A672,c673,A675,c676,A678,c679,vs681,M708,rfl,hρ,hM709,E,S,hm682⟩
  rw [agree_eta hρ]
  replace hg0:∃ gt fr,_:=(let ⟨gt,fr,h8⟩:=hg0;⟨gt,fr,hM709 _ _ h8⟩)
  replace HM:=Hp.le_trans HM hM709
  replace hM139:=Hp.le_trans hM139 hM709
  replace hM227:=Hp.le_trans hM227 hM709
  replace hM315:=Hp.le_trans hM315 hM709
  replace hM403:=Hp.le_trans hM403 hM709
  replace hM533:=Hp.le_trans hM533 hM709
  replace hM621:=Hp.le_trans hM621 hM709
  replace hm26:=MRel.mono hm26 hM709
  replace hm48:=MRel.mono hm48 hM709
  replace hm112:=MRel.mono hm112 hM709
  replace hm200:=MRel.mono hm200 hM709
  replace hm288:=MRel.mono hm288 hM709
  replace hm376:=MRel.mono hm376 hM709
  replace hm423:=MRel.mono hm423 hM709
  replace hm506:=MRel.mono hm506 hM709
  replace hm594:=MRel.mono hm594 hM709
  have H:=o683H
  refine W_v (.bool x667) (x_move rfl) rfl ?_
  obtain ⟨o771,o771h,o771H⟩:=bindS H
  refine Wl_cutN 5 (fun ρ w'=>∃ (x755:Bool) (x756:model_Model) (A757:Option Addr) (c758:Nat) (A760:Option Addr) (c761:Nat) (A763:Option Addr) (c764:Nat) (A766:Option Addr) (c767:Nat) (vs769:List (Str×Value)) (Mj:Hp),(x755,x756)=o771∧Agree ρ [(1,pt b11 0),(73,.bool x755)]∧M708.le Mj∧Ext w w'∧St w' Mj F [MapC encS (fun v:Value=>v) A766 vs769,Row r_model_tx 99 (.slice A763 x756.txs.length c764) x756.txs,MapC (Value.int .i64) (Value.int .i64) A760 x756.many,MapC enc_model_name (Value.int .i64) A757 x756.names,B94 b11 x756 A757 A760 A763 c764 A766]∧MRel r_model_row Mj x756.rows vs769) ?_ ?_
  ·as_aux_lemma =>
    have H:=o771h
    have LE772:=Hp.le_refl M708
    rcases iteS H with ⟨hb754,H⟩ | ⟨hb754,H⟩
    ·skip
     refine W_no (skF hb754) rfl (W_no (skF hb754) rfl (W_no (skF hb754) rfl (W_no (skF hb754) rfl (W_v (.bool true) (x_pick (k:=true) (congrArg Value.bool hb754) rfl) rfl (Wl_nil ?_)))))
     exact ⟨true,x668,A669,c670,A672,c673,A675,c676,A678,c679,vs681,M708,Option.some.inj H,⟨rfl,rfl,trivial⟩,(Hp.le_refl M708),E,S.pick [0,1,2,3,4] (by decide),hm682⟩
    ·skip
     refine W_yes (congrArg some hb754) (W_v (pt b11 0) (x_move rfl) rfl (W_yes (congrArg some hb754) ?_))
     obtain ⟨t773,ht774,H⟩:=bindS H
     refine W_callF fn31 (ferrymanlaw16_on.con k M708 (1:Int) (0:Int) ([]:Str) ([]:Str) t773  ht774) S rfl rfl (by rintro _ _ _ ⟨_,rfl⟩;exact flat_nil) ?_
     rintro _ w775 _ Γ' E' S ⟨rfl,rfl⟩
     replace E:=E.trans E'
     refine W_yes (congrArg some hb754) ?_
     obtain ⟨t776,ht777,H⟩:=bindS H
     replace S:St w775 M708 F [_,_,_,_,_]:=S.pick [4,3,2,1,0] (by decide)
     refine W_call fn32 (ferrymanlaw16_is_POOOO.con k M708 A669 c670 A672 c673 A675 c676 A678 c679 vs681 x668 (1:Int) t773 (0:Int) false ([]:Str) b11 t776 hm682 hg0 ht777) (Γ1:=[_,_,_,_,_]) (Γ2:=[]) S rfl rfl ?_
     rintro _ w792 M793 Γ' hM794 E' S ⟨A778,c779,A781,c782,A784,c785,A787,c788,vs790,rfl,hm791,rfl⟩
     replace hg0:∃ gt fr,_:=(let ⟨gt,fr,h8⟩:=hg0;⟨gt,fr,hM794 _ _ h8⟩)
     replace HM:=Hp.le_trans HM hM794
     replace hM139:=Hp.le_trans hM139 hM794
     replace hM227:=Hp.le_trans hM227 hM794
     replace hM315:=Hp.le_trans hM315 hM794
     replace hM403:=Hp.le_trans hM403 hM794
     replace hM533:=Hp.le_trans hM533 hM794
     replace hM621:=Hp.le_trans hM621 hM794
     replace hM709:=Hp.le_trans hM709 hM794
     replace LE772:=Hp.le_trans LE772 hM794
     replace hm26:=MRel.mono hm26 hM794
     replace hm48:=MRel.mono hm48 hM794
     replace hm112:=MRel.mono hm112 hM794
     replace hm200:=MRel.mono hm200 hM794
     replace hm288:=MRel.mono hm288 hM794
     replace hm376:=MRel.mono hm376 hM794
     replace hm423:=MRel.mono hm423 hM794
     replace hm506:=MRel.mono hm506 hM794
     replace hm594:=MRel.mono hm594 hM794
     replace hm682:=MRel.mono hm682 hM794
     replace E:=E.trans E'
     replace S:St w792 M793 F [_,_,_,_,_]:=S
     refine W_yes (congrArg some hb754) (W_v (.bool (!t776.1)) (x_not (b:=t776.1) rfl) rfl (W_v (.bool (!t776.1)) (x_pick (k:=false) (congrArg Value.bool hb754) rfl) rfl (Wl_nil ?_)))
     exact ⟨(!t776.1),t776.2,A778,c779,A781,c782,A784,c785,A787,c788,vs790,M793,Option.some.inj H,⟨rfl,rfl,trivial⟩,LE772,E,S.pick [4,3,2,1,0] (by decide),hm791⟩
  as_aux_lemma =>
  rintro ρ w795 ⟨x755,x756,A757,c758,A760,c761,A763,c764,A766,c767,vs769,M796,rfl,hρ,hM797,E,S,hm770⟩
  rw [agree_eta hρ]
  replace hg0:∃ gt fr,_:=(let ⟨gt,fr,h8⟩:=hg0;⟨gt,fr,hM797 _ _ h8⟩)
  replace HM:=Hp.le_trans HM hM797
  replace hM139:=Hp.le_trans hM139 hM797
  replace hM227:=Hp.le_trans hM227 hM797
  replace hM315:=Hp.le_trans hM315 hM797
  replace hM403:=Hp.le_trans hM403 hM797
  replace hM533:=Hp.le_trans hM533 hM797
  replace hM621:=Hp.le_trans hM621 hM797
  replace hM709:=Hp.le_trans hM709 hM797
  replace hm26:=MRel.mono hm26 hM797
  replace hm48:=MRel.mono hm48 hM797
  replace hm112:=MRel.mono hm112 hM797
  replace hm200:=MRel.mono hm200 hM797
  replace hm288:=MRel.mono hm288 hM797
  replace hm376:=MRel.mono hm376 hM797
  replace hm423:=MRel.mono hm423 hM797
  replace hm506:=MRel.mono hm506 hM797
  replace hm594:=MRel.mono hm594 hM797
  replace hm682:=MRel.mono hm682 hM797
  have H:=o771H
  refine Wl_nil (tn ?_)
  rcases iteS H with ⟨hb798,H⟩ | ⟨hb798,H⟩
  ·refine Wp_cond_true (congrArg Value.bool hb798) ?_
   refine Wp_seq (Wp_region_lit (W_v (.bool false) (x_assign rfl) rfl (Wl_nil (tn ?_))))
   refine Wp_ret ?_
   refine tr (?_)
   obtain rfl:=Option.some.inj H
   exact ⟨_,_,_,fun w1 e1=>run_resR (vs:=[.bool false]) (FA.cons (rfl) (FA.nil)),HM,E,S.pick [] (by decide),⟨rfl,rfl⟩⟩
  refine Wp_cond_false (congrArg Value.bool hb798) (Wp_skip (tn (Wp_seq (Wp_seq (Wp_region_lit (W_v (pt b11 0) (x_move rfl) rfl ?_))))))
  obtain ⟨t799,ht800,H⟩:=bindS H
  refine W_callF fn31 (ferrymanlaw16_on.con k M796 (2:Int) (2:Int) ([97]:Str) ([]:Str) t799  ht800) S rfl rfl (by rintro _ _ _ ⟨_,rfl⟩;exact flat_nil) ?_
  rintro _ w801 _ Γ' E' S ⟨rfl,rfl⟩
  replace E:=E.trans E'
  obtain ⟨t802,ht803,H⟩:=bindS H
  replace S:St w801 M796 F [_,_,_,_,_]:=S.pick [4,3,2,1,0] (by decide)
  refine W_call fn32 (ferrymanlaw16_is_POOOO.con k M796 A757 c758 A760 c761 A763 c764 A766 c767 vs769 x756 (1:Int) t799 (0:Int) true ([49]:Str) b11 t802 hm770 hg0 ht803) (Γ1:=[_,_,_,_,_]) (Γ2:=[]) S rfl rfl ?_
  rintro _ w818 M819 Γ' hM820 E' S ⟨A804,c805,A807,c808,A810,c811,A813,c814,vs816,rfl,hm817,rfl⟩
  replace hg0:∃ gt fr,_:=(let ⟨gt,fr,h8⟩:=hg0;⟨gt,fr,hM820 _ _ h8⟩)
  replace HM:=Hp.le_trans HM hM820
  replace hM139:=Hp.le_trans hM139 hM820
  replace hM227:=Hp.le_trans hM227 hM820
  replace hM315:=Hp.le_trans hM315 hM820
  replace hM403:=Hp.le_trans hM403 hM820
  replace hM533:=Hp.le_trans hM533 hM820
  replace hM621:=Hp.le_trans hM621 hM820
  replace hM709:=Hp.le_trans hM709 hM820
  replace hM797:=Hp.le_trans hM797 hM820
  replace hm26:=MRel.mono hm26 hM820
  replace hm48:=MRel.mono hm48 hM820
  replace hm112:=MRel.mono hm112 hM820
  replace hm200:=MRel.mono hm200 hM820
  replace hm288:=MRel.mono hm288 hM820
  replace hm376:=MRel.mono hm376 hM820
  replace hm423:=MRel.mono hm423 hM820
  replace hm506:=MRel.mono hm506 hM820
  replace hm594:=MRel.mono hm594 hM820
  replace hm682:=MRel.mono hm682 hM820
  replace hm770:=MRel.mono hm770 hM820
  replace E:=E.trans E'
  replace S:St w818 M819 F [_,_,_,_,_]:=S
  refine W_v (.bool (!t802.1)) (x_not (b:=t802.1) rfl) rfl (W_v (.bool (!t802.1)) (x_move rfl) rfl ?_)
  obtain ⟨o882,o882h,o882H⟩:=bindS H
  refine Wl_cutN 5 (fun ρ w'=>∃ (x866:Bool) (x867:model_Model) (A868:Option Addr) (c869:Nat) (A871:Option Addr) (c872:Nat) (A874:Option Addr) (c875:Nat) (A877:Option Addr) (c878:Nat) (vs880:List (Str×Value)) (Mj:Hp),(x866,x867)=o882∧Agree ρ [(1,pt b11 0),(83,.bool x866)]∧M819.le Mj∧Ext w w'∧St w' Mj F [MapC encS (fun v:Value=>v) A877 vs880,Row r_model_tx 99 (.slice A874 x867.txs.length c875) x867.txs,MapC (Value.int .i64) (Value.int .i64) A871 x867.many,MapC enc_model_name (Value.int .i64) A868 x867.names,B94 b11 x867 A868 A871 A874 c875 A877]∧MRel r_model_row Mj x867.rows vs880) ?_ ?_
  ·as_aux_lemma =>
    have H:=o882h
    have LE883:=Hp.le_refl M819
    rcases iteS H with ⟨hb865,H⟩ | ⟨hb865,H⟩
    ·skip
     refine W_no (skF hb865) rfl (W_no (skF hb865) rfl (W_no (skF hb865) rfl (W_no (skF hb865) rfl (W_v (.bool true) (x_pick (k:=true) (congrArg Value.bool hb865) rfl) rfl (Wl_nil ?_)))))
     exact ⟨true,t802.2,A804,c805,A807,c808,A810,c811,A813,c814,vs816,M819,Option.some.inj H,⟨rfl,rfl,trivial⟩,(Hp.le_refl M819),E,S.pick [4,3,2,1,0] (by decide),hm817⟩
    ·skip
     refine W_yes (congrArg some hb865) (W_v (pt b11 0) (x_move rfl) rfl (W_yes (congrArg some hb865) ?_))
     obtain ⟨t884,ht885,H⟩:=bindS H
     refine W_callF fn31 (ferrymanlaw16_on.con k M819 (4:Int) (2:Int) ([97]:Str) ([]:Str) t884  ht885) S rfl rfl (by rintro _ _ _ ⟨_,rfl⟩;exact flat_nil) ?_
     rintro _ w886 _ Γ' E' S ⟨rfl,rfl⟩
     replace E:=E.trans E'
     refine W_yes (congrArg some hb865) ?_
     obtain ⟨t887,ht888,H⟩:=bindS H
     refine W_call fn32 (ferrymanlaw16_is_POOOO.con k M819 A804 c805 A807 c808 A810 c811 A813 c814 vs816 t802.2 (1:Int) t884 (0:Int) true ([]:Str) b11 t887 hm817 hg0 ht888) (Γ1:=[_,_,_,_,_]) (Γ2:=[]) S rfl rfl ?_
     rintro _ w903 M904 Γ' hM905 E' S ⟨A889,c890,A892,c893,A895,c896,A898,c899,vs901,rfl,hm902,rfl⟩
     replace hg0:∃ gt fr,_:=(let ⟨gt,fr,h8⟩:=hg0;⟨gt,fr,hM905 _ _ h8⟩)
     replace HM:=Hp.le_trans HM hM905
     replace hM139:=Hp.le_trans hM139 hM905
     replace hM227:=Hp.le_trans hM227 hM905
     replace hM315:=Hp.le_trans hM315 hM905
     replace hM403:=Hp.le_trans hM403 hM905
     replace hM533:=Hp.le_trans hM533 hM905
     replace hM621:=Hp.le_trans hM621 hM905
     replace hM709:=Hp.le_trans hM709 hM905
     replace hM797:=Hp.le_trans hM797 hM905
     replace LE883:=Hp.le_trans LE883 hM905
     replace hm26:=MRel.mono hm26 hM905
     replace hm48:=MRel.mono hm48 hM905
     replace hm112:=MRel.mono hm112 hM905
     replace hm200:=MRel.mono hm200 hM905
     replace hm288:=MRel.mono hm288 hM905
     replace hm376:=MRel.mono hm376 hM905
     replace hm423:=MRel.mono hm423 hM905
     replace hm506:=MRel.mono hm506 hM905
     replace hm594:=MRel.mono hm594 hM905
     replace hm682:=MRel.mono hm682 hM905
     replace hm770:=MRel.mono hm770 hM905
     replace hm817:=MRel.mono hm817 hM905
     replace E:=E.trans E'
     replace S:St w903 M904 F [_,_,_,_,_]:=S
     refine W_yes (congrArg some hb865) (W_v (.bool (!t887.1)) (x_not (b:=t887.1) rfl) rfl (W_v (.bool (!t887.1)) (x_pick (k:=false) (congrArg Value.bool hb865) rfl) rfl (Wl_nil ?_)))
     exact ⟨(!t887.1),t887.2,A889,c890,A892,c893,A895,c896,A898,c899,vs901,M904,Option.some.inj H,⟨rfl,rfl,trivial⟩,LE883,E,S.pick [4,3,2,1,0] (by decide),hm902⟩
  as_aux_lemma =>
  rintro ρ w906 ⟨x866,x867,A868,c869,A871,c872,A874,c875,A877,c878,vs880,M907,rfl,hρ,hM908,E,S,hm881⟩
  rw [agree_eta hρ]
  replace hg0:∃ gt fr,_:=(let ⟨gt,fr,h8⟩:=hg0;⟨gt,fr,hM908 _ _ h8⟩)
  replace HM:=Hp.le_trans HM hM908
  replace hM139:=Hp.le_trans hM139 hM908
  replace hM227:=Hp.le_trans hM227 hM908
  replace hM315:=Hp.le_trans hM315 hM908
  replace hM403:=Hp.le_trans hM403 hM908
  replace hM533:=Hp.le_trans hM533 hM908
  replace hM621:=Hp.le_trans hM621 hM908
  replace hM709:=Hp.le_trans hM709 hM908
  replace hM797:=Hp.le_trans hM797 hM908
  replace hm26:=MRel.mono hm26 hM908
  replace hm48:=MRel.mono hm48 hM908
  replace hm112:=MRel.mono hm112 hM908
  replace hm200:=MRel.mono hm200 hM908
  replace hm288:=MRel.mono hm288 hM908
  replace hm376:=MRel.mono hm376 hM908
  replace hm423:=MRel.mono hm423 hM908
  replace hm506:=MRel.mono hm506 hM908
  replace hm594:=MRel.mono hm594 hM908
  replace hm682:=MRel.mono hm682 hM908
  replace hm770:=MRel.mono hm770 hM908
  replace hm817:=MRel.mono hm817 hM908
  have H:=o882H
  refine W_v (.bool x866) (x_move rfl) rfl ?_
  obtain ⟨o970,o970h,o970H⟩:=bindS H
  refine Wl_cutN 5 (fun ρ w'=>∃ (x954:Bool) (x955:model_Model) (A956:Option Addr) (c957:Nat) (A959:Option Addr) (c960:Nat) (A962:Option Addr) (c963:Nat) (A965:Option Addr) (c966:Nat) (vs968:List (Str×Value)) (Mj:Hp),(x954,x955)=o970∧Agree ρ [(1,pt b11 0),(89,.bool x954)]∧M907.le Mj∧Ext w w'∧St w' Mj F [MapC encS (fun v:Value=>v) A965 vs968,Row r_model_tx 99 (.slice A962 x955.txs.length c963) x955.txs,MapC (Value.int .i64) (Value.int .i64) A959 x955.many,MapC enc_model_name (Value.int .i64) A956 x955.names,B94 b11 x955 A956 A959 A962 c963 A965]∧MRel r_model_row Mj x955.rows vs968) ?_ ?_
  ·as_aux_lemma =>
    have H:=o970h
    have LE971:=Hp.le_refl M907
    rcases iteS H with ⟨hb953,H⟩ | ⟨hb953,H⟩
    ·skip
     refine W_no (skF hb953) rfl (W_no (skF hb953) rfl (W_no (skF hb953) rfl (W_no (skF hb953) rfl (W_v (.bool true) (x_pick (k:=true) (congrArg Value.bool hb953) rfl) rfl (Wl_nil ?_)))))
     exact ⟨true,x867,A868,c869,A871,c872,A874,c875,A877,c878,vs880,M907,Option.some.inj H,⟨rfl,rfl,trivial⟩,(Hp.le_refl M907),E,S.pick [0,1,2,3,4] (by decide),hm881⟩
    ·skip
     refine W_yes (congrArg some hb953) (W_v (pt b11 0) (x_move rfl) rfl (W_yes (congrArg some hb953) ?_))
     obtain ⟨t972,ht973,H⟩:=bindS H
     refine W_callF fn31 (ferrymanlaw16_on.con k M907 (2:Int) (2:Int) ([97]:Str) ([]:Str) t972  ht973) S rfl rfl (by rintro _ _ _ ⟨_,rfl⟩;exact flat_nil) ?_
     rintro _ w974 _ Γ' E' S ⟨rfl,rfl⟩
     replace E:=E.trans E'
     refine W_yes (congrArg some hb953) ?_
     obtain ⟨t975,ht976,H⟩:=bindS H
     replace S:St w974 M907 F [_,_,_,_,_]:=S.pick [4,3,2,1,0] (by decide)
     refine W_call fn32 (ferrymanlaw16_is_POOOO.con k M907 A868 c869 A871 c872 A874 c875 A877 c878 vs880 x867 (1:Int) t972 (0:Int) false ([]:Str) b11 t975 hm881 hg0 ht976) (Γ1:=[_,_,_,_,_]) (Γ2:=[]) S rfl rfl ?_
     rintro _ w991 M992 Γ' hM993 E' S ⟨A977,c978,A980,c981,A983,c984,A986,c987,vs989,rfl,hm990,rfl⟩
     replace hg0:∃ gt fr,_:=(let ⟨gt,fr,h8⟩:=hg0;⟨gt,fr,hM993 _ _ h8⟩)
     replace HM:=Hp.le_trans HM hM993
     replace hM139:=Hp.le_trans hM139 hM993
     replace hM227:=Hp.le_trans hM227 hM993
     replace hM315:=Hp.le_trans hM315 hM993
     replace hM403:=Hp.le_trans hM403 hM993
     replace hM533:=Hp.le_trans hM533 hM993
     replace hM621:=Hp.le_trans hM621 hM993
     replace hM709:=Hp.le_trans hM709 hM993
     replace hM797:=Hp.le_trans hM797 hM993
     replace hM908:=Hp.le_trans hM908 hM993
     replace LE971:=Hp.le_trans LE971 hM993
     replace hm26:=MRel.mono hm26 hM993
     replace hm48:=MRel.mono hm48 hM993
     replace hm112:=MRel.mono hm112 hM993
     replace hm200:=MRel.mono hm200 hM993
     replace hm288:=MRel.mono hm288 hM993
     replace hm376:=MRel.mono hm376 hM993
     replace hm423:=MRel.mono hm423 hM993
     replace hm506:=MRel.mono hm506 hM993
     replace hm594:=MRel.mono hm594 hM993
     replace hm682:=MRel.mono hm682 hM993
     replace hm770:=MRel.mono hm770 hM993
     replace hm817:=MRel.mono hm817 hM993
     replace hm881:=MRel.mono hm881 hM993
     replace E:=E.trans E'
     replace S:St w991 M992 F [_,_,_,_,_]:=S
     refine W_yes (congrArg some hb953) (W_v (.bool (!t975.1)) (x_not (b:=t975.1) rfl) rfl (W_v (.bool (!t975.1)) (x_pick (k:=false) (congrArg Value.bool hb953) rfl) rfl (Wl_nil ?_)))
     exact ⟨(!t975.1),t975.2,A977,c978,A980,c981,A983,c984,A986,c987,vs989,M992,Option.some.inj H,⟨rfl,rfl,trivial⟩,LE971,E,S.pick [4,3,2,1,0] (by decide),hm990⟩
  as_aux_lemma =>
  rintro ρ w994 ⟨x954,x955,A956,c957,A959,c960,A962,c963,A965,c966,vs968,M995,rfl,hρ,hM996,E,S,hm969⟩
  rw [agree_eta hρ]
  replace hg0:∃ gt fr,_:=(let ⟨gt,fr,h8⟩:=hg0;⟨gt,fr,hM996 _ _ h8⟩)
  replace HM:=Hp.le_trans HM hM996
  replace hM139:=Hp.le_trans hM139 hM996
  replace hM227:=Hp.le_trans hM227 hM996
  replace hM315:=Hp.le_trans hM315 hM996
  replace hM403:=Hp.le_trans hM403 hM996
  replace hM533:=Hp.le_trans hM533 hM996
  replace hM621:=Hp.le_trans hM621 hM996
  replace hM709:=Hp.le_trans hM709 hM996
  replace hM797:=Hp.le_trans hM797 hM996
  replace hM908:=Hp.le_trans hM908 hM996
  replace hm26:=MRel.mono hm26 hM996
  replace hm48:=MRel.mono hm48 hM996
  replace hm112:=MRel.mono hm112 hM996
  replace hm200:=MRel.mono hm200 hM996
  replace hm288:=MRel.mono hm288 hM996
  replace hm376:=MRel.mono hm376 hM996
  replace hm423:=MRel.mono hm423 hM996
  replace hm506:=MRel.mono hm506 hM996
  replace hm594:=MRel.mono hm594 hM996
  replace hm682:=MRel.mono hm682 hM996
  replace hm770:=MRel.mono hm770 hM996
  replace hm817:=MRel.mono hm817 hM996
  replace hm881:=MRel.mono hm881 hM996
  have H:=o970H
  refine W_v (.bool x954) (x_move rfl) rfl ?_
  obtain ⟨o1058,o1058h,o1058H⟩:=bindS H
  refine Wl_cutN 5 (fun ρ w'=>∃ (x1042:Bool) (x1043:model_Model) (A1044:Option Addr) (c1045:Nat) (A1047:Option Addr) (c1048:Nat) (A1050:Option Addr) (c1051:Nat) (A1053:Option Addr) (c1054:Nat) (vs1056:List (Str×Value)) (Mj:Hp),(x1042,x1043)=o1058∧Agree ρ [(1,pt b11 0),(95,.bool x1042)]∧M995.le Mj∧Ext w w'∧St w' Mj F [MapC encS (fun v:Value=>v) A1053 vs1056,Row r_model_tx 99 (.slice A1050 x1043.txs.length c1051) x1043.txs,MapC (Value.int .i64) (Value.int .i64) A1047 x1043.many,MapC enc_model_name (Value.int .i64) A1044 x1043.names,B94 b11 x1043 A1044 A1047 A1050 c1051 A1053]∧MRel r_model_row Mj x1043.rows vs1056) ?_ ?_
  ·as_aux_lemma =>
    have H:=o1058h
    have LE1059:=Hp.le_refl M995
    rcases iteS H with ⟨hb1041,H⟩ | ⟨hb1041,H⟩
    ·skip
     refine W_no (skF hb1041) rfl (W_no (skF hb1041) rfl (W_no (skF hb1041) rfl (W_no (skF hb1041) rfl (W_v (.bool true) (x_pick (k:=true) (congrArg Value.bool hb1041) rfl) rfl (Wl_nil ?_)))))
     exact ⟨true,x955,A956,c957,A959,c960,A962,c963,A965,c966,vs968,M995,Option.some.inj H,⟨rfl,rfl,trivial⟩,(Hp.le_refl M995),E,S.pick [0,1,2,3,4] (by decide),hm969⟩
    ·skip
     refine W_yes (congrArg some hb1041) (W_v (pt b11 0) (x_move rfl) rfl (W_yes (congrArg some hb1041) ?_))
     obtain ⟨t1060,ht1061,H⟩:=bindS H
     refine W_callF fn31 (ferrymanlaw16_on.con k M995 (6:Int) (2:Int) ([]:Str) ([]:Str) t1060  ht1061) S rfl rfl (by rintro _ _ _ ⟨_,rfl⟩;exact flat_nil) ?_
     rintro _ w1062 _ Γ' E' S ⟨rfl,rfl⟩
     replace E:=E.trans E'
     refine W_yes (congrArg some hb1041) ?_
     obtain ⟨t1063,ht1064,H⟩:=bindS H
     replace S:St w1062 M995 F [_,_,_,_,_]:=S.pick [4,3,2,1,0] (by decide)
     refine W_call fn32 (ferrymanlaw16_is_POOOO.con k M995 A956 c957 A959 c960 A962 c963 A965 c966 vs968 x955 (1:Int) t1060 (0:Int) false ([]:Str) b11 t1063 hm969 hg0 ht1064) (Γ1:=[_,_,_,_,_]) (Γ2:=[]) S rfl rfl ?_
     rintro _ w1079 M1080 Γ' hM1081 E' S ⟨A1065,c1066,A1068,c1069,A1071,c1072,A1074,c1075,vs1077,rfl,hm1078,rfl⟩
     replace hg0:∃ gt fr,_:=(let ⟨gt,fr,h8⟩:=hg0;⟨gt,fr,hM1081 _ _ h8⟩)
     replace HM:=Hp.le_trans HM hM1081
     replace hM139:=Hp.le_trans hM139 hM1081
     replace hM227:=Hp.le_trans hM227 hM1081
     replace hM315:=Hp.le_trans hM315 hM1081
     replace hM403:=Hp.le_trans hM403 hM1081
     replace hM533:=Hp.le_trans hM533 hM1081
     replace hM621:=Hp.le_trans hM621 hM1081
     replace hM709:=Hp.le_trans hM709 hM1081
     replace hM797:=Hp.le_trans hM797 hM1081
     replace hM908:=Hp.le_trans hM908 hM1081
     replace hM996:=Hp.le_trans hM996 hM1081
     replace LE1059:=Hp.le_trans LE1059 hM1081
     replace hm26:=MRel.mono hm26 hM1081
     replace hm48:=MRel.mono hm48 hM1081
     replace hm112:=MRel.mono hm112 hM1081
     replace hm200:=MRel.mono hm200 hM1081
     replace hm288:=MRel.mono hm288 hM1081
     replace hm376:=MRel.mono hm376 hM1081
     replace hm423:=MRel.mono hm423 hM1081
     replace hm506:=MRel.mono hm506 hM1081
     replace hm594:=MRel.mono hm594 hM1081
     replace hm682:=MRel.mono hm682 hM1081
     replace hm770:=MRel.mono hm770 hM1081
     replace hm817:=MRel.mono hm817 hM1081
     replace hm881:=MRel.mono hm881 hM1081
     replace hm969:=MRel.mono hm969 hM1081
     replace E:=E.trans E'
     replace S:St w1079 M1080 F [_,_,_,_,_]:=S
     refine W_yes (congrArg some hb1041) (W_v (.bool (!t1063.1)) (x_not (b:=t1063.1) rfl) rfl (W_v (.bool (!t1063.1)) (x_pick (k:=false) (congrArg Value.bool hb1041) rfl) rfl (Wl_nil ?_)))
     exact ⟨(!t1063.1),t1063.2,A1065,c1066,A1068,c1069,A1071,c1072,A1074,c1075,vs1077,M1080,Option.some.inj H,⟨rfl,rfl,trivial⟩,LE1059,E,S.pick [4,3,2,1,0] (by decide),hm1078⟩
  as_aux_lemma =>
  rintro ρ w1082 ⟨x1042,x1043,A1044,c1045,A1047,c1048,A1050,c1051,A1053,c1054,vs1056,M1083,rfl,hρ,hM1084,E,S,hm1057⟩
  rw [agree_eta hρ]
  replace hg0:∃ gt fr,_:=(let ⟨gt,fr,h8⟩:=hg0;⟨gt,fr,hM1084 _ _ h8⟩)
  replace HM:=Hp.le_trans HM hM1084
  replace hM139:=Hp.le_trans hM139 hM1084
  replace hM227:=Hp.le_trans hM227 hM1084
  replace hM315:=Hp.le_trans hM315 hM1084
  replace hM403:=Hp.le_trans hM403 hM1084
  replace hM533:=Hp.le_trans hM533 hM1084
  replace hM621:=Hp.le_trans hM621 hM1084
  replace hM709:=Hp.le_trans hM709 hM1084
  replace hM797:=Hp.le_trans hM797 hM1084
  replace hM908:=Hp.le_trans hM908 hM1084
  replace hM996:=Hp.le_trans hM996 hM1084
  replace hm26:=MRel.mono hm26 hM1084
  replace hm48:=MRel.mono hm48 hM1084
  replace hm112:=MRel.mono hm112 hM1084
  replace hm200:=MRel.mono hm200 hM1084
  replace hm288:=MRel.mono hm288 hM1084
  replace hm376:=MRel.mono hm376 hM1084
  replace hm423:=MRel.mono hm423 hM1084
  replace hm506:=MRel.mono hm506 hM1084
  replace hm594:=MRel.mono hm594 hM1084
  replace hm682:=MRel.mono hm682 hM1084
  replace hm770:=MRel.mono hm770 hM1084
  replace hm817:=MRel.mono hm817 hM1084
  replace hm881:=MRel.mono hm881 hM1084
  replace hm969:=MRel.mono hm969 hM1084
  have H:=o1058H
  refine Wl_nil (tn ?_)
  rcases iteS H with ⟨hb1085,H⟩ | ⟨hb1085,H⟩
  ·refine Wp_cond_true (congrArg Value.bool hb1085) ?_
   refine Wp_seq (Wp_region_lit (W_v (.bool false) (x_assign rfl) rfl (Wl_nil (tn ?_))))
   refine Wp_ret ?_
   refine tr (?_)
   obtain rfl:=Option.some.inj H
   exact ⟨_,_,_,fun w1 e1=>run_resR (vs:=[.bool false]) (FA.cons (rfl) (FA.nil)),HM,E,S.pick [] (by decide),⟨rfl,rfl⟩⟩
  refine Wp_cond_false (congrArg Value.bool hb1085) (Wp_skip (tn ?_))
  as_aux_lemma =>
  refine Wp_seq (Wp_region_lit (W_v (pt b11 0) (x_move rfl) rfl ?_))
  obtain ⟨t1086,ht1087,H⟩:=bindS H
  replace S:St w1082 M1083 F [_,_,_,_,_]:=S.pick [4,3,2,1,0] (by decide)
  refine W_callF2 fn26 (model_Model_Versions_POOOO.con k M1083 A1044 c1045 A1047 c1048 A1050 c1051 A1053 c1054 vs1056 x1043 ([97]:Str) b11 t1086 hm1057 ht1087) (Γ1:=[_,_,_,_,_]) (Γ2:=[]) S rfl rfl (by rintro _ _ _ ⟨_,_,rfl,rfl⟩;exact (flat_cons (flat_row (fun _ _ _ _ h=>h)) (flat_cons flat_blk (flat_cons flat_map (flat_cons flat_map (flat_cons (flat_row (fun _ _ _ _ h=>h)) (flat_cons flat_map flat_nil))))))) ?_
  rintro _ w1091 _ Γ' E' S ⟨A1088,c1089,rfl,rfl⟩
  replace E:=E.trans E'
  replace S:St w1091 M1083 F [_,_,_,_,_,_]:=S
  refine W_v (.slice A1088 t1086.length c1089) (x_assign rfl) rfl (Wl_nil (tn (Wp_seq (Wp_seq (Wp_region_lit (W_v (.slice A1088 t1086.length c1089) (x_move rfl) rfl (W_v (.int .i64 (t1086.length:Int)) (x_len_slice (n:=t1086.length) Tryd.underlying65 rfl) rfl (W_v (.bool ((t1086.length:Int) != (2:Int))) (x_ibin rfl rfl rfl rfl) rfl (W_v (.bool ((t1086.length:Int) != (2:Int))) (x_move rfl) rfl ?_)))))))))
  obtain ⟨o1116,o1116h,o1116H⟩:=bindS H
  refine Wl_cutN 6 (fun ρ w'=>∃ (x1115:Bool),(x1115)=o1116∧Agree ρ [(1,pt b11 0),(3,.slice A1088 t1086.length c1089),(107,.bool x1115)]∧Ext w w'∧St w' M1083 F [Row r_api_Version 61 (.slice A1088 t1086.length c1089) t1086,B94 b11 x1043 A1044 A1047 A1050 c1051 A1053,MapC enc_model_name (Value.int .i64) A1044 x1043.names,MapC (Value.int .i64) (Value.int .i64) A1047 x1043.many,Row r_model_tx 99 (.slice A1050 x1043.txs.length c1051) x1043.txs,MapC encS (fun v:Value=>v) A1053 vs1056]) ?_ ?_
  ·have H:=o1116h
   rcases iteS H with ⟨hb1114,H⟩ | ⟨hb1114,H⟩
   ·skip
    refine W_no (skF hb1114) rfl (W_no (skF hb1114) rfl (W_no (skF hb1114) rfl (W_no (skF hb1114) rfl (W_no (skF hb1114) rfl (W_v (.bool true) (x_pick (k:=true) (congrArg Value.bool hb1114) rfl) rfl (Wl_nil ?_))))))
    exact ⟨true,Option.some.inj H,⟨rfl,rfl,rfl,trivial⟩,E,S.pick [0,1,2,3,4,5] (by decide)⟩
   ·skip
    refine W_yes (congrArg some hb1114) (W_v (.slice A1088 t1086.length c1089) (x_move rfl) rfl (W_yes (congrArg some hb1114) ?_))
    obtain ⟨⟨p1117,p1118⟩,H⟩:=chkS H
    obtain ⟨b1119,o1120,cs1121,_,_,ee1126,hb1122,vs1123,hR1124,hc1125⟩:=SlW.at' (S.row_read 0 rfl) p1117 p1118
    obtain rfl:vs1123=_:=hR1124
    refine W_v (.pointer (some ⟨b1119,o1120+(0:Int).toNat*4,none⟩)) (x_indexAddr Tryd.underlying65 ty61 (slA ee1126) rfl p1117 p1118) rfl (W_yes (congrArg some hb1114) (W_v (.pointer (some ⟨b1119,o1120+(0:Int).toNat*4+2,none⟩)) (x_fieldAddr (o:=o1120+(0:Int).toNat*4) (off:=2) Tryd.underlying61 rfl ty4 rfl rfl) rfl (W_yes (congrArg some hb1114) (W_v (.bool ((rd t1086 (0:Int)).Tomb)) (x_load (Hp.of_get hb1122) ty4 rfl (hc1125 2 _ rfl)) rfl (W_yes (congrArg some hb1114) (W_v (.bool (!((rd t1086 (0:Int)).Tomb))) (x_not (b:=((rd t1086 (0:Int)).Tomb)) rfl) rfl (W_v (.bool (!((rd t1086 (0:Int)).Tomb))) (x_pick (k:=false) (congrArg Value.bool hb1114) rfl) rfl (Wl_nil ?_))))))))
    exact ⟨(!((rd t1086 (0:Int)).Tomb)),Option.some.inj H,⟨rfl,rfl,rfl,trivial⟩,E,S.pick [0,1,2,3,4,5] (by decide)⟩
  as_aux_lemma =>
  rintro ρ w1127 ⟨x1115,rfl,hρ,E,S⟩
  rw [agree_eta hρ]
  have H:=o1116H
  refine W_v (.bool x1115) (x_move rfl) rfl ?_
  obtain ⟨o1150,o1150h,o1150H⟩:=bindS H
  refine Wl_cutN 6 (fun ρ w'=>∃ (x1149:Bool),(x1149)=o1150∧Agree ρ [(1,pt b11 0),(3,.slice A1088 t1086.length c1089),(114,.bool x1149)]∧Ext w w'∧St w' M1083 F [Row r_api_Version 61 (.slice A1088 t1086.length c1089) t1086,B94 b11 x1043 A1044 A1047 A1050 c1051 A1053,MapC enc_model_name (Value.int .i64) A1044 x1043.names,MapC (Value.int .i64) (Value.int .i64) A1047 x1043.many,Row r_model_tx 99 (.slice A1050 x1043.txs.length c1051) x1043.txs,MapC encS (fun v:Value=>v) A1053 vs1056]) ?_ ?_
  ·have H:=o1150h
   rcases iteS H with ⟨hb1148,H⟩ | ⟨hb1148,H⟩
   ·skip
    refine W_no (skF hb1148) rfl (W_no (skF hb1148) rfl (W_no (skF hb1148) rfl (W_no (skF hb1148) rfl (W_no (skF hb1148) rfl (W_v (.bool true) (x_pick (k:=true) (congrArg Value.bool hb1148) rfl) rfl (Wl_nil ?_))))))
    exact ⟨true,Option.some.inj H,⟨rfl,rfl,rfl,trivial⟩,E,S.pick [0,1,2,3,4,5] (by decide)⟩
   ·skip
    refine W_yes (congrArg some hb1148) (W_v (.slice A1088 t1086.length c1089) (x_move rfl) rfl (W_yes (congrArg some hb1148) ?_))
    obtain ⟨⟨p1151,p1152⟩,H⟩:=chkS H
    obtain ⟨b1153,o1154,cs1155,_,_,ee1160,hb1156,vs1157,hR1158,hc1159⟩:=SlW.at' (S.row_read 0 rfl) p1151 p1152
    obtain rfl:vs1157=_:=hR1158
    refine W_v (.pointer (some ⟨b1153,o1154+(0:Int).toNat*4,none⟩)) (x_indexAddr Tryd.underlying65 ty61 (slA ee1160) rfl p1151 p1152) rfl (W_yes (congrArg some hb1148) (W_v (.pointer (some ⟨b1153,o1154+(0:Int).toNat*4+1,none⟩)) (x_fieldAddr (o:=o1154+(0:Int).toNat*4) (off:=1) Tryd.underlying61 rfl ty3 rfl rfl) rfl (W_yes (congrArg some hb1148) (W_v (.int .i64 ((rd t1086 (0:Int)).TS)) (x_load (Hp.of_get hb1156) ty3 rfl (hc1159 1 _ rfl)) rfl (W_yes (congrArg some hb1148) (W_v (.bool ((rd t1086 (0:Int)).TS != (2:Int))) (x_ibin rfl rfl rfl rfl) rfl (W_v (.bool ((rd t1086 (0:Int)).TS != (2:Int))) (x_pick (k:=false) (congrArg Value.bool hb1148) rfl) rfl (Wl_nil ?_))))))))
    exact ⟨((rd t1086 (0:Int)).TS != (2:Int)),Option.some.inj H,⟨rfl,rfl,rfl,trivial⟩,E,S.pick [0,1,2,3,4,5] (by decide)⟩
  as_aux_lemma =>
  rintro ρ w1161 ⟨x1149,rfl,hρ,E,S⟩
  rw [agree_eta hρ]
  have H:=o1150H
  refine W_v (.bool x1149) (x_move rfl) rfl ?_
  obtain ⟨o1184,o1184h,o1184H⟩:=bindS H
  refine Wl_cutN 6 (fun ρ w'=>∃ (x1183:Bool),(x1183)=o1184∧Agree ρ [(1,pt b11 0),(3,.slice A1088 t1086.length c1089),(121,.bool x1183)]∧Ext w w'∧St w' M1083 F [Row r_api_Version 61 (.slice A1088 t1086.length c1089) t1086,B94 b11 x1043 A1044 A1047 A1050 c1051 A1053,MapC enc_model_name (Value.int .i64) A1044 x1043.names,MapC (Value.int .i64) (Value.int .i64) A1047 x1043.many,Row r_model_tx 99 (.slice A1050 x1043.txs.length c1051) x1043.txs,MapC encS (fun v:Value=>v) A1053 vs1056]) ?_ ?_
  ·have H:=o1184h
   rcases iteS H with ⟨hb1182,H⟩ | ⟨hb1182,H⟩
   ·skip
    refine W_no (skF hb1182) rfl (W_no (skF hb1182) rfl (W_no (skF hb1182) rfl (W_no (skF hb1182) rfl (W_no (skF hb1182) rfl (W_v (.bool true) (x_pick (k:=true) (congrArg Value.bool hb1182) rfl) rfl (Wl_nil ?_))))))
    exact ⟨true,Option.some.inj H,⟨rfl,rfl,rfl,trivial⟩,E,S.pick [0,1,2,3,4,5] (by decide)⟩
   ·skip
    refine W_yes (congrArg some hb1182) (W_v (.slice A1088 t1086.length c1089) (x_move rfl) rfl (W_yes (congrArg some hb1182) ?_))
    obtain ⟨⟨p1185,p1186⟩,H⟩:=chkS H
    obtain ⟨b1187,o1188,cs1189,_,_,ee1194,hb1190,vs1191,hR1192,hc1193⟩:=SlW.at' (S.row_read 0 rfl) p1185 p1186
    obtain rfl:vs1191=_:=hR1192
    refine W_v (.pointer (some ⟨b1187,o1188+(1:Int).toNat*4,none⟩)) (x_indexAddr Tryd.underlying65 ty61 (slA ee1194) rfl p1185 p1186) rfl (W_yes (congrArg some hb1182) (W_v (.pointer (some ⟨b1187,o1188+(1:Int).toNat*4+3,none⟩)) (x_fieldAddr (o:=o1188+(1:Int).toNat*4) (off:=3) Tryd.underlying61 rfl ty9 rfl rfl) rfl (W_yes (congrArg some hb1182) (W_v (.string (bs ((rd t1086 (1:Int)).Value))) (x_load (Hp.of_get hb1190) ty9 rfl (hc1193 3 _ rfl)) rfl (W_yes (congrArg some hb1182) (W_v (.bool (sbin .neq ((rd t1086 (1:Int)).Value) ([49]:Str))) (x_sbin rfl rfl rfl) rfl (W_v (.bool (sbin .neq ((rd t1086 (1:Int)).Value) ([49]:Str))) (x_pick (k:=false) (congrArg Value.bool hb1182) rfl) rfl (Wl_nil ?_))))))))
    exact ⟨(sbin .neq ((rd t1086 (1:Int)).Value) ([49]:Str)),Option.some.inj H,⟨rfl,rfl,rfl,trivial⟩,E,S.pick [0,1,2,3,4,5] (by decide)⟩
  as_aux_lemma =>
  rintro ρ w1195 ⟨x1183,rfl,hρ,E,S⟩
  rw [agree_eta hρ]
  have H:=o1184H
  refine W_v (.bool x1183) (x_move rfl) rfl ?_
  obtain ⟨o1218,o1218h,o1218H⟩:=bindS H
  refine Wl_cutN 6 (fun ρ w'=>∃ (x1217:Bool),(x1217)=o1218∧Agree ρ [(1,pt b11 0),(128,.bool x1217)]∧Ext w w'∧St w' M1083 F [B94 b11 x1043 A1044 A1047 A1050 c1051 A1053,MapC enc_model_name (Value.int .i64) A1044 x1043.names,MapC (Value.int .i64) (Value.int .i64) A1047 x1043.many,Row r_model_tx 99 (.slice A1050 x1043.txs.length c1051) x1043.txs,MapC encS (fun v:Value=>v) A1053 vs1056]) ?_ ?_
  ·have H:=o1218h
   rcases iteS H with ⟨hb1216,H⟩ | ⟨hb1216,H⟩
   ·skip
    refine W_no (skF hb1216) rfl (W_no (skF hb1216) rfl (W_no (skF hb1216) rfl (W_no (skF hb1216) rfl (W_no (skF hb1216) rfl (W_v (.bool true) (x_pick (k:=true) (congrArg Value.bool hb1216) rfl) rfl (Wl_nil ?_))))))
    exact ⟨true,Option.some.inj H,⟨rfl,rfl,trivial⟩,E,S.pick [1,2,3,4,5] (by decide)⟩
   ·skip
    refine W_yes (congrArg some hb1216) (W_v (.slice A1088 t1086.length c1089) (x_move rfl) rfl (W_yes (congrArg some hb1216) ?_))
    obtain ⟨⟨p1219,p1220⟩,H⟩:=chkS H
    obtain ⟨b1221,o1222,cs1223,_,_,ee1228,hb1224,vs1225,hR1226,hc1227⟩:=SlW.at' (S.row_read 0 rfl) p1219 p1220
    obtain rfl:vs1225=_:=hR1226
    refine W_v (.pointer (some ⟨b1221,o1222+(1:Int).toNat*4,none⟩)) (x_indexAddr Tryd.underlying65 ty61 (slA ee1228) rfl p1219 p1220) rfl (W_yes (congrArg some hb1216) (W_v (.pointer (some ⟨b1221,o1222+(1:Int).toNat*4+1,none⟩)) (x_fieldAddr (o:=o1222+(1:Int).toNat*4) (off:=1) Tryd.underlying61 rfl ty3 rfl rfl) rfl (W_yes (congrArg some hb1216) (W_v (.int .i64 ((rd t1086 (1:Int)).TS)) (x_load (Hp.of_get hb1224) ty3 rfl (hc1227 1 _ rfl)) rfl (W_yes (congrArg some hb1216) (W_v (.bool ((rd t1086 (1:Int)).TS != (1:Int))) (x_ibin rfl rfl rfl rfl) rfl (W_v (.bool ((rd t1086 (1:Int)).TS != (1:Int))) (x_pick (k:=false) (congrArg Value.bool hb1216) rfl) rfl (Wl_nil ?_))))))))
    exact ⟨((rd t1086 (1:Int)).TS != (1:Int)),Option.some.inj H,⟨rfl,rfl,trivial⟩,E,S.pick [1,2,3,4,5] (by decide)⟩
  as_aux_lemma =>
  rintro ρ w1229 ⟨x1217,rfl,hρ,E,S⟩
  rw [agree_eta hρ]
  have H:=o1218H
  refine Wl_nil (tn ?_)
  rcases iteS H with ⟨hb1230,H⟩ | ⟨hb1230,H⟩
  ·refine Wp_cond_true (congrArg Value.bool hb1230) ?_
   refine Wp_seq (Wp_region_lit (W_v (.bool false) (x_assign rfl) rfl (Wl_nil (tn ?_))))
   refine Wp_ret ?_
   refine tr (?_)
   obtain rfl:=Option.some.inj H
   exact ⟨_,_,_,fun w1 e1=>run_resR (vs:=[.bool false]) (FA.cons (rfl) (FA.nil)),HM,E,S.pick [] (by decide),⟨rfl,rfl⟩⟩
  refine Wp_cond_false (congrArg Value.bool hb1230) (Wp_skip (tn (Wp_seq (Wp_region_lit (W_v (pt b11 0) (x_move rfl) rfl ?_)))))
  obtain ⟨t1231,ht1232,H⟩:=bindS H
  refine W_callF fn31 (ferrymanlaw16_on.con k M1083 (1:Int) (0:Int) ([]:Str) ([]:Str) t1231  ht1232) S rfl rfl (by rintro _ _ _ ⟨_,rfl⟩;exact flat_nil) ?_
  rintro _ w1233 _ Γ' E' S ⟨rfl,rfl⟩
  replace E:=E.trans E'
  obtain ⟨t1234,ht1235,H⟩:=bindS H
  refine W_call fn32 (ferrymanlaw16_is_POOOO.con k M1083 A1044 c1045 A1047 c1048 A1050 c1051 A1053 c1054 vs1056 x1043 (0:Int) t1231 (0:Int) false ([]:Str) b11 t1234 hm1057 hg0 ht1235) (Γ1:=[_,_,_,_,_]) (Γ2:=[]) S rfl rfl ?_
  rintro _ w1250 M1251 Γ' hM1252 E' S ⟨A1236,c1237,A1239,c1240,A1242,c1243,A1245,c1246,vs1248,rfl,hm1249,rfl⟩
  replace hg0:∃ gt fr,_:=(let ⟨gt,fr,h8⟩:=hg0;⟨gt,fr,hM1252 _ _ h8⟩)
  replace HM:=Hp.le_trans HM hM1252
  replace hM139:=Hp.le_trans hM139 hM1252
  replace hM227:=Hp.le_trans hM227 hM1252
  replace hM315:=Hp.le_trans hM315 hM1252
  replace hM403:=Hp.le_trans hM403 hM1252
  replace hM533:=Hp.le_trans hM533 hM1252
  replace hM621:=Hp.le_trans hM621 hM1252
  replace hM709:=Hp.le_trans hM709 hM1252
  replace hM797:=Hp.le_trans hM797 hM1252
  replace hM908:=Hp.le_trans hM908 hM1252
  replace hM996:=Hp.le_trans hM996 hM1252
  replace hM1084:=Hp.le_trans hM1084 hM1252
  replace hm26:=MRel.mono hm26 hM1252
  replace hm48:=MRel.mono hm48 hM1252
  replace hm112:=MRel.mono hm112 hM1252
  replace hm200:=MRel.mono hm200 hM1252
  replace hm288:=MRel.mono hm288 hM1252
  replace hm376:=MRel.mono hm376 hM1252
  replace hm423:=MRel.mono hm423 hM1252
  replace hm506:=MRel.mono hm506 hM1252
  replace hm594:=MRel.mono hm594 hM1252
  replace hm682:=MRel.mono hm682 hM1252
  replace hm770:=MRel.mono hm770 hM1252
  replace hm817:=MRel.mono hm817 hM1252
  replace hm881:=MRel.mono hm881 hM1252
  replace hm969:=MRel.mono hm969 hM1252
  replace hm1057:=MRel.mono hm1057 hM1252
  replace E:=E.trans E'
  replace S:St w1250 M1251 F [_,_,_,_,_]:=S
  refine W_v (.bool t1234.1) (x_move rfl) rfl ?_
  obtain ⟨o1314,o1314h,o1314H⟩:=bindS H
  refine Wl_cutN 4 (fun ρ w'=>∃ (x1298:Bool) (x1299:model_Model) (A1300:Option Addr) (c1301:Nat) (A1303:Option Addr) (c1304:Nat) (A1306:Option Addr) (c1307:Nat) (A1309:Option Addr) (c1310:Nat) (vs1312:List (Str×Value)) (Mj:Hp),(x1298,x1299)=o1314∧Agree ρ [(1,pt b11 0),(136,.bool x1298)]∧M1251.le Mj∧Ext w w'∧St w' Mj F [MapC encS (fun v:Value=>v) A1309 vs1312,Row r_model_tx 99 (.slice A1306 x1299.txs.length c1307) x1299.txs,MapC (Value.int .i64) (Value.int .i64) A1303 x1299.many,MapC enc_model_name (Value.int .i64) A1300 x1299.names,B94 b11 x1299 A1300 A1303 A1306 c1307 A1309]∧MRel r_model_row Mj x1299.rows vs1312) ?_ ?_
  ·as_aux_lemma =>
    have H:=o1314h
    have LE1315:=Hp.le_refl M1251
    rcases iteS H with ⟨hb1297,H⟩ | ⟨hb1297,H⟩
    ·skip
     refine W_yes (congrArg some hb1297) (W_v (pt b11 0) (x_move rfl) rfl (W_yes (congrArg some hb1297) ?_))
     obtain ⟨t1316,ht1317,H⟩:=bindS H
     refine W_callF fn31 (ferrymanlaw16_on.con k M1251 (3:Int) (2:Int) ([98]:Str) ([]:Str) t1316  ht1317) S rfl rfl (by rintro _ _ _ ⟨_,rfl⟩;exact flat_nil) ?_
     rintro _ w1318 _ Γ' E' S ⟨rfl,rfl⟩
     replace E:=E.trans E'
     refine W_yes (congrArg some hb1297) ?_
     obtain ⟨t1319,ht1320,H⟩:=bindS H
     refine W_call fn32 (ferrymanlaw16_is_POOOO.con k M1251 A1236 c1237 A1239 c1240 A1242 c1243 A1245 c1246 vs1248 t1234.2 (0:Int) t1316 (0:Int) false ([]:Str) b11 t1319 hm1249 hg0 ht1320) (Γ1:=[_,_,_,_,_]) (Γ2:=[]) S rfl rfl ?_
     rintro _ w1335 M1336 Γ' hM1337 E' S ⟨A1321,c1322,A1324,c1325,A1327,c1328,A1330,c1331,vs1333,rfl,hm1334,rfl⟩
     replace hg0:∃ gt fr,_:=(let ⟨gt,fr,h8⟩:=hg0;⟨gt,fr,hM1337 _ _ h8⟩)
     replace HM:=Hp.le_trans HM hM1337
     replace hM139:=Hp.le_trans hM139 hM1337
     replace hM227:=Hp.le_trans hM227 hM1337
     replace hM315:=Hp.le_trans hM315 hM1337
     replace hM403:=Hp.le_trans hM403 hM1337
     replace hM533:=Hp.le_trans hM533 hM1337
     replace hM621:=Hp.le_trans hM621 hM1337
     replace hM709:=Hp.le_trans hM709 hM1337
     replace hM797:=Hp.le_trans hM797 hM1337
     replace hM908:=Hp.le_trans hM908 hM1337
     replace hM996:=Hp.le_trans hM996 hM1337
     replace hM1084:=Hp.le_trans hM1084 hM1337
     replace LE1315:=Hp.le_trans LE1315 hM1337
     replace hm26:=MRel.mono hm26 hM1337
     replace hm48:=MRel.mono hm48 hM1337
     replace hm112:=MRel.mono hm112 hM1337
     replace hm200:=MRel.mono hm200 hM1337
     replace hm288:=MRel.mono hm288 hM1337
     replace hm376:=MRel.mono hm376 hM1337
     replace hm423:=MRel.mono hm423 hM1337
     replace hm506:=MRel.mono hm506 hM1337
     replace hm594:=MRel.mono hm594 hM1337
     replace hm682:=MRel.mono hm682 hM1337
     replace hm770:=MRel.mono hm770 hM1337
     replace hm817:=MRel.mono hm817 hM1337
     replace hm881:=MRel.mono hm881 hM1337
     replace hm969:=MRel.mono hm969 hM1337
     replace hm1057:=MRel.mono hm1057 hM1337
     replace hm1249:=MRel.mono hm1249 hM1337
     replace E:=E.trans E'
     replace S:St w1335 M1336 F [_,_,_,_,_]:=S
     refine W_v (.bool t1319.1) (x_pick (k:=true) (congrArg Value.bool hb1297) rfl) rfl (Wl_nil ?_)
     exact ⟨t1319.1,t1319.2,A1321,c1322,A1324,c1325,A1327,c1328,A1330,c1331,vs1333,M1336,Option.some.inj H,⟨rfl,rfl,trivial⟩,LE1315,E,S.pick [4,3,2,1,0] (by decide),hm1334⟩
    ·skip
     refine W_no (skT hb1297) rfl (W_no (skT hb1297) rfl (W_no (skT hb1297) rfl (W_v (.bool false) (x_pick (k:=false) (congrArg Value.bool hb1297) rfl) rfl (Wl_nil ?_))))
     exact ⟨false,t1234.2,A1236,c1237,A1239,c1240,A1242,c1243,A1245,c1246,vs1248,M1251,Option.some.inj H,⟨rfl,rfl,trivial⟩,(Hp.le_refl M1251),E,S.pick [4,3,2,1,0] (by decide),hm1249⟩
  as_aux_lemma =>
  rintro ρ w1338 ⟨x1298,x1299,A1300,c1301,A1303,c1304,A1306,c1307,A1309,c1310,vs1312,M1339,rfl,hρ,hM1340,E,S,hm1313⟩
  rw [agree_eta hρ]
  replace hg0:∃ gt fr,_:=(let ⟨gt,fr,h8⟩:=hg0;⟨gt,fr,hM1340 _ _ h8⟩)
  replace HM:=Hp.le_trans HM hM1340
  replace hM139:=Hp.le_trans hM139 hM1340
  replace hM227:=Hp.le_trans hM227 hM1340
  replace hM315:=Hp.le_trans hM315 hM1340
  replace hM403:=Hp.le_trans hM403 hM1340
  replace hM533:=Hp.le_trans hM533 hM1340
  replace hM621:=Hp.le_trans hM621 hM1340
  replace hM709:=Hp.le_trans hM709 hM1340
  replace hM797:=Hp.le_trans hM797 hM1340
  replace hM908:=Hp.le_trans hM908 hM1340
  replace hM996:=Hp.le_trans hM996 hM1340
  replace hM1084:=Hp.le_trans hM1084 hM1340
  replace hm26:=MRel.mono hm26 hM1340
  replace hm48:=MRel.mono hm48 hM1340
  replace hm112:=MRel.mono hm112 hM1340
  replace hm200:=MRel.mono hm200 hM1340
  replace hm288:=MRel.mono hm288 hM1340
  replace hm376:=MRel.mono hm376 hM1340
  replace hm423:=MRel.mono hm423 hM1340
  replace hm506:=MRel.mono hm506 hM1340
  replace hm594:=MRel.mono hm594 hM1340
  replace hm682:=MRel.mono hm682 hM1340
  replace hm770:=MRel.mono hm770 hM1340
  replace hm817:=MRel.mono hm817 hM1340
  replace hm881:=MRel.mono hm881 hM1340
  replace hm969:=MRel.mono hm969 hM1340
  replace hm1057:=MRel.mono hm1057 hM1340
  replace hm1249:=MRel.mono hm1249 hM1340
  have H:=o1314H
  refine W_v (.bool x1298) (x_move rfl) rfl ?_
  obtain ⟨o1402,o1402h,o1402H⟩:=bindS H
  refine Wl_cutN 4 (fun ρ w'=>∃ (x1386:Bool) (x1387:model_Model) (A1388:Option Addr) (c1389:Nat) (A1391:Option Addr) (c1392:Nat) (A1394:Option Addr) (c1395:Nat) (A1397:Option Addr) (c1398:Nat) (vs1400:List (Str×Value)) (Mj:Hp),(x1386,x1387)=o1402∧Agree ρ [(1,pt b11 0),(141,.bool x1386)]∧M1339.le Mj∧Ext w w'∧St w' Mj F [MapC encS (fun v:Value=>v) A1397 vs1400,Row r_model_tx 99 (.slice A1394 x1387.txs.length c1395) x1387.txs,MapC (Value.int .i64) (Value.int .i64) A1391 x1387.many,MapC enc_model_name (Value.int .i64) A1388 x1387.names,B94 b11 x1387 A1388 A1391 A1394 c1395 A1397]∧MRel r_model_row Mj x1387.rows vs1400) ?_ ?_
  ·as_aux_lemma =>
    have H:=o1402h
    have LE1403:=Hp.le_refl M1339
    rcases iteS H with ⟨hb1385,H⟩ | ⟨hb1385,H⟩
    ·skip
     refine W_yes (congrArg some hb1385) (W_v (pt b11 0) (x_move rfl) rfl (W_yes (congrArg some hb1385) ?_))
     obtain ⟨t1404,ht1405,H⟩:=bindS H
     refine W_callF fn31 (ferrymanlaw16_on.con k M1339 (6:Int) (2:Int) ([]:Str) ([]:Str) t1404  ht1405) S rfl rfl (by rintro _ _ _ ⟨_,rfl⟩;exact flat_nil) ?_
     rintro _ w1406 _ Γ' E' S ⟨rfl,rfl⟩
     replace E:=E.trans E'
     refine W_yes (congrArg some hb1385) ?_
     obtain ⟨t1407,ht1408,H⟩:=bindS H
     replace S:St w1406 M1339 F [_,_,_,_,_]:=S.pick [4,3,2,1,0] (by decide)
     refine W_call fn32 (ferrymanlaw16_is_POOOO.con k M1339 A1300 c1301 A1303 c1304 A1306 c1307 A1309 c1310 vs1312 x1299 (0:Int) t1404 (35:Int) false ([]:Str) b11 t1407 hm1313 hg0 ht1408) (Γ1:=[_,_,_,_,_]) (Γ2:=[]) S rfl rfl ?_
     rintro _ w1423 M1424 Γ' hM1425 E' S ⟨A1409,c1410,A1412,c1413,A1415,c1416,A1418,c1419,vs1421,rfl,hm1422,rfl⟩
     replace hg0:∃ gt fr,_:=(let ⟨gt,fr,h8⟩:=hg0;⟨gt,fr,hM1425 _ _ h8⟩)
     replace HM:=Hp.le_trans HM hM1425
     replace hM139:=Hp.le_trans hM139 hM1425
     replace hM227:=Hp.le_trans hM227 hM1425
     replace hM315:=Hp.le_trans hM315 hM1425
     replace hM403:=Hp.le_trans hM403 hM1425
     replace hM533:=Hp.le_trans hM533 hM1425
     replace hM621:=Hp.le_trans hM621 hM1425
     replace hM709:=Hp.le_trans hM709 hM1425
     replace hM797:=Hp.le_trans hM797 hM1425
     replace hM908:=Hp.le_trans hM908 hM1425
     replace hM996:=Hp.le_trans hM996 hM1425
     replace hM1084:=Hp.le_trans hM1084 hM1425
     replace hM1340:=Hp.le_trans hM1340 hM1425
     replace LE1403:=Hp.le_trans LE1403 hM1425
     replace hm26:=MRel.mono hm26 hM1425
     replace hm48:=MRel.mono hm48 hM1425
     replace hm112:=MRel.mono hm112 hM1425
     replace hm200:=MRel.mono hm200 hM1425
     replace hm288:=MRel.mono hm288 hM1425
     replace hm376:=MRel.mono hm376 hM1425
     replace hm423:=MRel.mono hm423 hM1425
     replace hm506:=MRel.mono hm506 hM1425
     replace hm594:=MRel.mono hm594 hM1425
     replace hm682:=MRel.mono hm682 hM1425
     replace hm770:=MRel.mono hm770 hM1425
     replace hm817:=MRel.mono hm817 hM1425
     replace hm881:=MRel.mono hm881 hM1425
     replace hm969:=MRel.mono hm969 hM1425
     replace hm1057:=MRel.mono hm1057 hM1425
     replace hm1249:=MRel.mono hm1249 hM1425
     replace hm1313:=MRel.mono hm1313 hM1425
     replace E:=E.trans E'
     replace S:St w1423 M1424 F [_,_,_,_,_]:=S
     refine W_v (.bool t1407.1) (x_pick (k:=true) (congrArg Value.bool hb1385) rfl) rfl (Wl_nil ?_)
     exact ⟨t1407.1,t1407.2,A1409,c1410,A1412,c1413,A1415,c1416,A1418,c1419,vs1421,M1424,Option.some.inj H,⟨rfl,rfl,trivial⟩,LE1403,E,S.pick [4,3,2,1,0] (by decide),hm1422⟩
    ·skip
     refine W_no (skT hb1385) rfl (W_no (skT hb1385) rfl (W_no (skT hb1385) rfl (W_v (.bool false) (x_pick (k:=false) (congrArg Value.bool hb1385) rfl) rfl (Wl_nil ?_))))
     exact ⟨false,x1299,A1300,c1301,A1303,c1304,A1306,c1307,A1309,c1310,vs1312,M1339,Option.some.inj H,⟨rfl,rfl,trivial⟩,(Hp.le_refl M1339),E,S.pick [0,1,2,3,4] (by decide),hm1313⟩
  as_aux_lemma =>
  rintro ρ w1426 ⟨x1386,x1387,A1388,c1389,A1391,c1392,A1394,c1395,A1397,c1398,vs1400,M1427,rfl,hρ,hM1428,E,S,hm1401⟩
  rw [agree_eta hρ]
  replace hg0:∃ gt fr,_:=(let ⟨gt,fr,h8⟩:=hg0;⟨gt,fr,hM1428 _ _ h8⟩)
  replace HM:=Hp.le_trans HM hM1428
  replace hM139:=Hp.le_trans hM139 hM1428
  replace hM227:=Hp.le_trans hM227 hM1428
  replace hM315:=Hp.le_trans hM315 hM1428
  replace hM403:=Hp.le_trans hM403 hM1428
  replace hM533:=Hp.le_trans hM533 hM1428
  replace hM621:=Hp.le_trans hM621 hM1428
  replace hM709:=Hp.le_trans hM709 hM1428
  replace hM797:=Hp.le_trans hM797 hM1428
  replace hM908:=Hp.le_trans hM908 hM1428
  replace hM996:=Hp.le_trans hM996 hM1428
  replace hM1084:=Hp.le_trans hM1084 hM1428
  replace hM1340:=Hp.le_trans hM1340 hM1428
  replace hm26:=MRel.mono hm26 hM1428
  replace hm48:=MRel.mono hm48 hM1428
  replace hm112:=MRel.mono hm112 hM1428
  replace hm200:=MRel.mono hm200 hM1428
  replace hm288:=MRel.mono hm288 hM1428
  replace hm376:=MRel.mono hm376 hM1428
  replace hm423:=MRel.mono hm423 hM1428
  replace hm506:=MRel.mono hm506 hM1428
  replace hm594:=MRel.mono hm594 hM1428
  replace hm682:=MRel.mono hm682 hM1428
  replace hm770:=MRel.mono hm770 hM1428
  replace hm817:=MRel.mono hm817 hM1428
  replace hm881:=MRel.mono hm881 hM1428
  replace hm969:=MRel.mono hm969 hM1428
  replace hm1057:=MRel.mono hm1057 hM1428
  replace hm1249:=MRel.mono hm1249 hM1428
  replace hm1313:=MRel.mono hm1313 hM1428
  have H:=o1402H
  refine W_v (.bool x1386) (x_move rfl) rfl ?_
  obtain ⟨o1490,o1490h,o1490H⟩:=bindS H
  refine Wl_cutN 4 (fun ρ w'=>∃ (x1474:Bool) (x1475:model_Model) (A1476:Option Addr) (c1477:Nat) (A1479:Option Addr) (c1480:Nat) (A1482:Option Addr) (c1483:Nat) (A1485:Option Addr) (c1486:Nat) (vs1488:List (Str×Value)) (Mj:Hp),(x1474,x1475)=o1490∧Agree ρ [(1,pt b11 0),(146,.bool x1474)]∧M1427.le Mj∧Ext w w'∧St w' Mj F [MapC encS (fun v:Value=>v) A1485 vs1488,Row r_model_tx 99 (.slice A1482 x1475.txs.length c1483) x1475.txs,MapC (Value.int .i64) (Value.int .i64) A1479 x1475.many,MapC enc_model_name (Value.int .i64) A1476 x1475.names,B94 b11 x1475 A1476 A1479 A1482 c1483 A1485]∧MRel r_model_row Mj x1475.rows vs1488) ?_ ?_
  ·as_aux_lemma =>
    have H:=o1490h
    have LE1491:=Hp.le_refl M1427
    rcases iteS H with ⟨hb1473,H⟩ | ⟨hb1473,H⟩
    ·skip
     refine W_yes (congrArg some hb1473) (W_v (pt b11 0) (x_move rfl) rfl (W_yes (congrArg some hb1473) ?_))
     obtain ⟨t1492,ht1493,H⟩:=bindS H
     refine W_callF fn31 (ferrymanlaw16_on.con k M1427 (8:Int) (0:Int) ([]:Str) ([]:Str) t1492  ht1493) S rfl rfl (by rintro _ _ _ ⟨_,rfl⟩;exact flat_nil) ?_
     rintro _ w1494 _ Γ' E' S ⟨rfl,rfl⟩
     replace E:=E.trans E'
     refine W_yes (congrArg some hb1473) ?_
     obtain ⟨t1495,ht1496,H⟩:=bindS H
     replace S:St w1494 M1427 F [_,_,_,_,_]:=S.pick [4,3,2,1,0] (by decide)
     refine W_call fn32 (ferrymanlaw16_is_POOOO.con k M1427 A1388 c1389 A1391 c1392 A1394 c1395 A1397 c1398 vs1400 x1387 (0:Int) t1492 (0:Int) false ([]:Str) b11 t1495 hm1401 hg0 ht1496) (Γ1:=[_,_,_,_,_]) (Γ2:=[]) S rfl rfl ?_
     rintro _ w1511 M1512 Γ' hM1513 E' S ⟨A1497,c1498,A1500,c1501,A1503,c1504,A1506,c1507,vs1509,rfl,hm1510,rfl⟩
     replace hg0:∃ gt fr,_:=(let ⟨gt,fr,h8⟩:=hg0;⟨gt,fr,hM1513 _ _ h8⟩)
     replace HM:=Hp.le_trans HM hM1513
     replace hM139:=Hp.le_trans hM139 hM1513
     replace hM227:=Hp.le_trans hM227 hM1513
     replace hM315:=Hp.le_trans hM315 hM1513
     replace hM403:=Hp.le_trans hM403 hM1513
     replace hM533:=Hp.le_trans hM533 hM1513
     replace hM621:=Hp.le_trans hM621 hM1513
     replace hM709:=Hp.le_trans hM709 hM1513
     replace hM797:=Hp.le_trans hM797 hM1513
     replace hM908:=Hp.le_trans hM908 hM1513
     replace hM996:=Hp.le_trans hM996 hM1513
     replace hM1084:=Hp.le_trans hM1084 hM1513
     replace hM1340:=Hp.le_trans hM1340 hM1513
     replace hM1428:=Hp.le_trans hM1428 hM1513
     replace LE1491:=Hp.le_trans LE1491 hM1513
     replace hm26:=MRel.mono hm26 hM1513
     replace hm48:=MRel.mono hm48 hM1513
     replace hm112:=MRel.mono hm112 hM1513
     replace hm200:=MRel.mono hm200 hM1513
     replace hm288:=MRel.mono hm288 hM1513
     replace hm376:=MRel.mono hm376 hM1513
     replace hm423:=MRel.mono hm423 hM1513
     replace hm506:=MRel.mono hm506 hM1513
     replace hm594:=MRel.mono hm594 hM1513
     replace hm682:=MRel.mono hm682 hM1513
     replace hm770:=MRel.mono hm770 hM1513
     replace hm817:=MRel.mono hm817 hM1513
     replace hm881:=MRel.mono hm881 hM1513
     replace hm969:=MRel.mono hm969 hM1513
     replace hm1057:=MRel.mono hm1057 hM1513
     replace hm1249:=MRel.mono hm1249 hM1513
     replace hm1313:=MRel.mono hm1313 hM1513
     replace hm1401:=MRel.mono hm1401 hM1513
     replace E:=E.trans E'
     replace S:St w1511 M1512 F [_,_,_,_,_]:=S
     refine W_v (.bool t1495.1) (x_pick (k:=true) (congrArg Value.bool hb1473) rfl) rfl (Wl_nil ?_)
     exact ⟨t1495.1,t1495.2,A1497,c1498,A1500,c1501,A1503,c1504,A1506,c1507,vs1509,M1512,Option.some.inj H,⟨rfl,rfl,trivial⟩,LE1491,E,S.pick [4,3,2,1,0] (by decide),hm1510⟩
    ·skip
     refine W_no (skT hb1473) rfl (W_no (skT hb1473) rfl (W_no (skT hb1473) rfl (W_v (.bool false) (x_pick (k:=false) (congrArg Value.bool hb1473) rfl) rfl (Wl_nil ?_))))
     exact ⟨false,x1387,A1388,c1389,A1391,c1392,A1394,c1395,A1397,c1398,vs1400,M1427,Option.some.inj H,⟨rfl,rfl,trivial⟩,(Hp.le_refl M1427),E,S.pick [0,1,2,3,4] (by decide),hm1401⟩
  as_aux_lemma =>
  rintro ρ w1514 ⟨x1474,x1475,A1476,c1477,A1479,c1480,A1482,c1483,A1485,c1486,vs1488,M1515,rfl,hρ,hM1516,E,S,hm1489⟩
  rw [agree_eta hρ]
  replace hg0:∃ gt fr,_:=(let ⟨gt,fr,h8⟩:=hg0;⟨gt,fr,hM1516 _ _ h8⟩)
  replace HM:=Hp.le_trans HM hM1516
  replace hM139:=Hp.le_trans hM139 hM1516
  replace hM227:=Hp.le_trans hM227 hM1516
  replace hM315:=Hp.le_trans hM315 hM1516
  replace hM403:=Hp.le_trans hM403 hM1516
  replace hM533:=Hp.le_trans hM533 hM1516
  replace hM621:=Hp.le_trans hM621 hM1516
  replace hM709:=Hp.le_trans hM709 hM1516
  replace hM797:=Hp.le_trans hM797 hM1516
  replace hM908:=Hp.le_trans hM908 hM1516
  replace hM996:=Hp.le_trans hM996 hM1516
  replace hM1084:=Hp.le_trans hM1084 hM1516
  replace hM1340:=Hp.le_trans hM1340 hM1516
  replace hM1428:=Hp.le_trans hM1428 hM1516
  replace hm26:=MRel.mono hm26 hM1516
  replace hm48:=MRel.mono hm48 hM1516
  replace hm112:=MRel.mono hm112 hM1516
  replace hm200:=MRel.mono hm200 hM1516
  replace hm288:=MRel.mono hm288 hM1516
  replace hm376:=MRel.mono hm376 hM1516
  replace hm423:=MRel.mono hm423 hM1516
  replace hm506:=MRel.mono hm506 hM1516
  replace hm594:=MRel.mono hm594 hM1516
  replace hm682:=MRel.mono hm682 hM1516
  replace hm770:=MRel.mono hm770 hM1516
  replace hm817:=MRel.mono hm817 hM1516
  replace hm881:=MRel.mono hm881 hM1516
  replace hm969:=MRel.mono hm969 hM1516
  replace hm1057:=MRel.mono hm1057 hM1516
  replace hm1249:=MRel.mono hm1249 hM1516
  replace hm1313:=MRel.mono hm1313 hM1516
  replace hm1401:=MRel.mono hm1401 hM1516
  have H:=o1490H
  refine W_v (.bool x1474) (x_move rfl) rfl ?_
  obtain ⟨o1535,o1535h,o1535H⟩:=bindS H
  refine Wl_cutN 5 (fun ρ w'=>∃ (x1534:Bool),(x1534)=o1535∧Agree ρ [(152,.bool x1534)]∧Ext w w'∧St w' M1515 F []) ?_ ?_
  ·have H:=o1535h
   rcases iteS H with ⟨hb1533,H⟩ | ⟨hb1533,H⟩
   ·skip
    refine W_yes (congrArg some hb1533) (W_v (pt b11 0) (x_move rfl) rfl (W_yes (congrArg some hb1533) ?_))
    obtain ⟨t1536,ht1537,H⟩:=bindS H
    replace S:St w1514 M1515 F [_,_,_,_,_]:=S.pick [4,3,2,1,0] (by decide)
    refine W_callF2 fn27 (model_Model_Keys_POOOO.con k M1515 A1476 c1477 A1479 c1480 A1482 c1483 A1485 c1486 vs1488 x1475 b11 t1536 hm1489 ht1537) (Γ1:=[_,_,_,_,_]) (Γ2:=[]) S rfl rfl (by rintro _ _ _ ⟨_,_,rfl,rfl⟩;exact (flat_cons (flat_row (fun _ _ _ _ h=>h)) (flat_cons flat_blk (flat_cons flat_map (flat_cons flat_map (flat_cons (flat_row (fun _ _ _ _ h=>h)) (flat_cons flat_map flat_nil))))))) ?_
    rintro _ w1541 _ Γ' E' S ⟨A1538,c1539,rfl,rfl⟩
    replace E:=E.trans E'
    replace S:St w1541 M1515 F [_,_,_,_,_,_]:=S
    refine W_yes (congrArg some hb1533) (W_v (.int .i64 (t1536.length:Int)) (x_len_slice (n:=t1536.length) Tryd.underlying67 rfl) rfl (W_yes (congrArg some hb1533) (W_v (.bool ((t1536.length:Int)==(0:Int))) (x_ibin rfl rfl rfl rfl) rfl (W_v (.bool ((t1536.length:Int)==(0:Int))) (x_pick (k:=true) (congrArg Value.bool hb1533) rfl) rfl (Wl_nil ?_)))))
    exact ⟨((t1536.length:Int)==(0:Int)),Option.some.inj H,⟨rfl,trivial⟩,E,S.pick [] (by decide)⟩
   ·skip
    refine W_no (skT hb1533) rfl (W_no (skT hb1533) rfl (W_no (skT hb1533) rfl (W_no (skT hb1533) rfl (W_v (.bool false) (x_pick (k:=false) (congrArg Value.bool hb1533) rfl) rfl (Wl_nil ?_)))))
    exact ⟨false,Option.some.inj H,⟨rfl,trivial⟩,E,S.pick [] (by decide)⟩
  rintro ρ w1544 ⟨x1534,rfl,hρ,E,S⟩
  rw [agree_eta hρ]
  have H:=o1535H
  refine W_v (.bool x1534) (x_assign rfl) rfl (Wl_nil (tn ?_))
  refine Wp_ret ?_
  obtain rfl:=Option.some.inj H
  exact ⟨_,_,_,fun w1 e1=>run_resR (vs:=[.bool x1534]) (FA.cons (rfl) (FA.nil)),HM,E,S.pick [] (by decide),⟨rfl,rfl⟩⟩
def ferrymanlaw16_large_l0 (a0:(List ferrymanlaw16_Turn)):Nat→Int→Int→Option ((Int))
 | 0,_,_=>none
 | k+1,x37,x38=>(if ((decide (x38<(a0.length:Int)))&&(decide (x37<(12000:Int))))=true then (if 0≤x38∧x38<(a0.length:Int) then ferrymanlaw16_large_l0 a0 k (IntKind.i64.wrap ((IntKind.i64.wrap ((IntKind.i64.wrap ((IntKind.i64.wrap (x37+(60:Int)))+(imin (9000:Int) (((rd a0 x38).Call.Key).length:Int))))+(imin (9000:Int) (((rd a0 x38).Call.End).length:Int))))+(imin (9000:Int) (((rd a0 x38).Call.Value).length:Int)))) (IntKind.i64.wrap (x38+(1:Int))) else none) else some (x37))
set_option maxHeartbeats 2000000 in
theorem ferrymanlaw16_large_l0.mono {a0:(List ferrymanlaw16_Turn)}:∀ {kl:Nat} {x0 x1},OLe (ferrymanlaw16_large_l0 a0 kl x0 x1) (ferrymanlaw16_large_l0 a0 (kl+1) x0 x1):=by
 intro kl
 induction kl with
 | zero=>intros;exact OLe.none
 | succ kl ih =>
  intros
  rw [ferrymanlaw16_large_l0.eq_2,ferrymanlaw16_large_l0.eq_2]
  repeat' (first | with_reducible exact OLe.none | with_reducible exact OLe.some | with_reducible refine OLe.ite ?_ ?_ | with_reducible refine OLe.bind ?_ (fun _=>?_) | exact ih | refine OLe.bind ?_ (fun _=>?_) | refine OLe.ite ?_ ?_ | refine OLe.elim (fun _=>?_) (fun _=>?_) | split)
def ferrymanlaw16_large (k:Nat) (a0:(List ferrymanlaw16_Turn)):Option (Bool) :=
 (Option.bind (ferrymanlaw16_large_l0 a0 k (0:Int) (0:Int)) (fun x55=>some (decide (x55≥(12000:Int)))))
set_option maxHeartbeats 2000000 in
theorem ferrymanlaw16_large.mono {k:Nat} {a0:(List ferrymanlaw16_Turn)}:OLe (ferrymanlaw16_large k a0) (ferrymanlaw16_large (k+1) a0):=by
 unfold ferrymanlaw16_large
 repeat' (first | with_reducible exact OLe.none | with_reducible exact OLe.some | with_reducible refine OLe.ite ?_ ?_ | with_reducible refine OLe.bind ?_ (fun _=>?_) | with_reducible exact ferrymanlaw16_large_l0.mono | refine OLe.bind ?_ (fun _=>?_) | refine OLe.ite ?_ ?_ | refine OLe.elim (fun _=>?_) (fun _=>?_) | split)
set_option maxHeartbeats 1000000 in
set_option maxRecDepth 100000 in
theorem ferrymanlaw16_large.con (k:Nat) (M:Hp) (A0:Option Addr) (c0:Nat) (a0:(List ferrymanlaw16_Turn)) (r:Bool) (hr0:SlR r_ferrymanlaw16_Turn M (.slice A0 a0.length c0) a0) (h:ferrymanlaw16_large k a0=some r):Con Tryd.prog 12 #[.slice A0 a0.length c0] M [] (fun v M' Γ'=>v=.bool r∧Γ'=[]):=by
 refine con_of_wp Tryd.func12 rfl Tryd.ntmps12 Tryd.results12 rfl ?_
 intro w F rn S hrn
 have E:=Ext.refl w
 have HM:=Hp.le_refl M
 have H:=h
 unfold ferrymanlaw16_large at H
 refine Wp_seq (Wp_region_lit (W_v (.bool false) (x_assign rfl) rfl (Wl_nil (tn (Wp_seq (Wp_region_lit (W_v (.int .i64 0) (x_assign rfl) rfl (Wl_nil (tn (Wp_seq (Wp_seq (Wp_region_lit (W_v (.int .i64 0) (x_assign rfl) rfl (Wl_nil (tn ?_)))))))))))))))
 obtain ⟨o56,o56h,o56H⟩:=bindS H
 refine Wp_blockJ (fun ρ w'=>∃ (x55:Int),(x55)=o56∧Agree ρ [(3,.int .i64 x55)]∧Ext w w'∧St w' M F []) ?_ ?_
 ·skip
  refine Wp_loop (fun n ρ w'=>∃ (x37:Int) (x38:Int),ferrymanlaw16_large_l0 a0 n x37 x38=some o56∧Agree ρ [(0,.slice A0 a0.length c0),(3,.int .i64 x37),(4,.int .i64 x38)]∧Ext w w'∧St w' M F []) k ?_ ?_
  ·skip
   exact ⟨(0:Int),(0:Int),o56h,⟨rfl,rfl,rfl,trivial⟩,E,S.pick [] (by decide)⟩
  ·intro n
   rintro ρ w57 ⟨x37,x38,H,hρ,E,S⟩
   rw [agree_eta hρ]
   cases n with
   | zero=>cases H
   | succ k =>
    rw [ferrymanlaw16_large_l0.eq_2] at H
    refine Wp_seq (Wp_seq (Wp_region_lit (W_v (.int .i64 x38) (x_move rfl) rfl (W_v (.slice A0 a0.length c0) (x_move rfl) rfl (W_v (.int .i64 (a0.length:Int)) (x_len_slice (n:=a0.length) Tryd.underlying24 rfl) rfl (W_v (.bool (decide (x38<(a0.length:Int)))) (x_ibin rfl rfl rfl rfl) rfl (W_v (.bool (decide (x38<(a0.length:Int)))) (x_move rfl) rfl ?_)))))))
    refine Wl_cutN 3 (fun ρ w'=>Agree ρ [(0,.slice A0 a0.length c0),(3,.int .i64 x37),(4,.int .i64 x38),(13,.bool ((decide (x38<(a0.length:Int)))&&(decide (x37<(12000:Int)))))]∧w57=w') ?_ ?_
    ·rcases boolCases (decide (x38<(a0.length:Int))) with hb58 | hb58
     ·skip
      refine W_no (skT hb58) rfl (W_no (skT hb58) rfl (W_v (.bool false) (x_pick (k:=false) (congrArg Value.bool hb58) rfl) rfl (Wl_nil ?_)))
      exact ⟨⟨rfl,rfl,rfl,(by first | rfl | (rw [hb58];rfl) | (simp only [hb58];rfl)),trivial⟩,rfl⟩
     ·skip
      refine W_yes (congrArg some hb58) (W_v (.int .i64 x37) (x_move rfl) rfl (W_yes (congrArg some hb58) (W_v (.bool (decide (x37<(12000:Int)))) (x_ibin rfl rfl rfl rfl) rfl (W_v (.bool (decide (x37<(12000:Int)))) (x_pick (k:=true) (congrArg Value.bool hb58) rfl) rfl (Wl_nil ?_)))))
      exact ⟨⟨rfl,rfl,rfl,(by first | rfl | (rw [hb58];rfl) | (simp only [hb58];rfl)),trivial⟩,rfl⟩
    as_aux_lemma =>
    rintro ρ _ ⟨hρ,rfl⟩
    rw [agree_eta hρ]
    refine Wl_nil (tn ?_)
    rcases iteS H with ⟨hb59,H⟩ | ⟨hb59,H⟩
    ·refine Wp_cond_true (congrArg Value.bool hb59) ?_
     refine Wp_skip (tn (Wp_seq ?_))
     refine Wp_block ?_
     refine Wp_seq (Wp_region_lit (W_v (.slice A0 a0.length c0) (x_move rfl) rfl (W_v (.int .i64 x38) (x_move rfl) rfl ?_)))
     obtain ⟨⟨p60,p61⟩,H⟩:=chkS H
     obtain ⟨b62,o63,cs64,_,_,ee69,hb65,vs66,hR67,hc68⟩:=SlW.at' hr0 p60 p61
     obtain rfl:vs66=_:=hR67
     refine W_v (.pointer (some ⟨b62,o63+x38.toNat*8,none⟩)) (x_indexAddr Tryd.underlying24 ty39 (slA ee69) rfl p60 p61) rfl (W_v (.pointer (some ⟨b62,o63+x38.toNat*8+1,none⟩)) (x_fieldAddr (o:=o63+x38.toNat*8) (off:=1) Tryd.underlying39 rfl ty37 rfl rfl) rfl (W_v (.agg #[.int .u8 ((rd a0 x38).Call.Kind),.int .i64 ((rd a0 x38).Call.Tx),.string (bs ((rd a0 x38).Call.Key)),.string (bs ((rd a0 x38).Call.End)),.string (bs ((rd a0 x38).Call.Value)),.int .i64 ((rd a0 x38).Call.Limit),.int .u8 ((rd a0 x38).Call.Engine)]) (x_loadA (S.frz hb65) ty37 rfl (sub_el hc68 1 rfl) rfl rfl) rfl ?_))
     refine W_alloc S #[.int .u8 0,.int .i64 0,.string (bs ([]:Str)),.string (bs ([]:Str)),.string (bs ([]:Str)),.int .i64 0,.int .u8 0] ty37 rfl rfl ?_
     intro b70 w71 E' S
     replace E:=E.trans E'
     refine W_store S 0 rfl ty37 rfl rfl [.int .u8 ((rd a0 x38).Call.Kind),.int .i64 ((rd a0 x38).Call.Tx),.string (bs ((rd a0 x38).Call.Key)),.string (bs ((rd a0 x38).Call.End)),.string (bs ((rd a0 x38).Call.Value)),.int .i64 ((rd a0 x38).Call.Limit),.int .u8 ((rd a0 x38).Call.Engine)] rfl rfl rfl #[.int .u8 ((rd a0 x38).Call.Kind),.int .i64 ((rd a0 x38).Call.Tx),.string (bs ((rd a0 x38).Call.Key)),.string (bs ((rd a0 x38).Call.End)),.string (bs ((rd a0 x38).Call.Value)),.int .i64 ((rd a0 x38).Call.Limit),.int .u8 ((rd a0 x38).Call.Engine)] (by as_aux_lemma=>kernel_rfl) rfl ?_
     intro w73 E' S
     replace E:=E.trans E'
     refine Wl_nil (tn (Wp_region_lit (W_v (.int .i64 x37) (x_move rfl) rfl (W_v (.int .i64 (IntKind.i64.wrap (x37+(60:Int)))) (x_ibin rfl rfl rfl rfl) rfl (W_v (pt b70 2) (x_fieldAddr (o:=0) (off:=2) Tryd.underlying37 rfl ty9 rfl rfl) rfl (W_v (.string (bs ((rd a0 x38).Call.Key))) (x_load (S.blk 0 rfl) ty9 rfl rfl) rfl (W_v (.int .i64 (((rd a0 x38).Call.Key).length:Int)) (x_len_str Tryd.underlying9 rfl) rfl (W_v (.int .i64 (imin (9000:Int) (((rd a0 x38).Call.Key).length:Int))) (x_min2 rfl rfl) rfl (W_v (.int .i64 (IntKind.i64.wrap ((IntKind.i64.wrap (x37+(60:Int)))+(imin (9000:Int) (((rd a0 x38).Call.Key).length:Int))))) (x_ibin rfl rfl rfl rfl) rfl (W_v (pt b70 3) (x_fieldAddr (o:=0) (off:=3) Tryd.underlying37 rfl ty9 rfl rfl) rfl (W_v (.string (bs ((rd a0 x38).Call.End))) (x_load (S.blk 0 rfl) ty9 rfl rfl) rfl (W_v (.int .i64 (((rd a0 x38).Call.End).length:Int)) (x_len_str Tryd.underlying9 rfl) rfl (W_v (.int .i64 (imin (9000:Int) (((rd a0 x38).Call.End).length:Int))) (x_min2 rfl rfl) rfl (W_v (.int .i64 (IntKind.i64.wrap ((IntKind.i64.wrap ((IntKind.i64.wrap (x37+(60:Int)))+(imin (9000:Int) (((rd a0 x38).Call.Key).length:Int))))+(imin (9000:Int) (((rd a0 x38).Call.End).length:Int))))) (x_ibin rfl rfl rfl rfl) rfl (W_v (pt b70 4) (x_fieldAddr (o:=0) (off:=4) Tryd.underlying37 rfl ty9 rfl rfl) rfl ?_)))))))))))))))
     refine W_v (.string (bs ((rd a0 x38).Call.Value))) (x_load (S.blk 0 rfl) ty9 rfl rfl) rfl (W_v (.int .i64 (((rd a0 x38).Call.Value).length:Int)) (x_len_str Tryd.underlying9 rfl) rfl (W_v (.int .i64 (imin (9000:Int) (((rd a0 x38).Call.Value).length:Int))) (x_min2 rfl rfl) rfl (W_v (.int .i64 (IntKind.i64.wrap ((IntKind.i64.wrap ((IntKind.i64.wrap ((IntKind.i64.wrap (x37+(60:Int)))+(imin (9000:Int) (((rd a0 x38).Call.Key).length:Int))))+(imin (9000:Int) (((rd a0 x38).Call.End).length:Int))))+(imin (9000:Int) (((rd a0 x38).Call.Value).length:Int))))) (x_ibin rfl rfl rfl rfl) rfl (W_v (.int .i64 (IntKind.i64.wrap ((IntKind.i64.wrap ((IntKind.i64.wrap ((IntKind.i64.wrap (x37+(60:Int)))+(imin (9000:Int) (((rd a0 x38).Call.Key).length:Int))))+(imin (9000:Int) (((rd a0 x38).Call.End).length:Int))))+(imin (9000:Int) (((rd a0 x38).Call.Value).length:Int))))) (x_assign rfl) rfl (Wl_nil (bn (tn (Wp_region_lit (W_v (.int .i64 x38) (x_move rfl) rfl (W_v (.int .i64 (IntKind.i64.wrap (x38+(1:Int)))) (x_ibin rfl rfl rfl rfl) rfl (W_v (.int .i64 (IntKind.i64.wrap (x38+(1:Int)))) (x_assign rfl) rfl (Wl_nil (tn ?_)))))))))))))
     exact ⟨k,Nat.lt_succ_self k,⟨(IntKind.i64.wrap ((IntKind.i64.wrap ((IntKind.i64.wrap ((IntKind.i64.wrap (x37+(60:Int)))+(imin (9000:Int) (((rd a0 x38).Call.Key).length:Int))))+(imin (9000:Int) (((rd a0 x38).Call.End).length:Int))))+(imin (9000:Int) (((rd a0 x38).Call.Value).length:Int)))),(IntKind.i64.wrap (x38+(1:Int))),H,⟨rfl,rfl,rfl,trivial⟩,E,S.pick [] (by decide)⟩⟩
    refine Wp_cond_false (congrArg Value.bool hb59) ?_
    refine Wp_exit ?_
    refine tx (tx (bsm (?_)))
    refine tn ?_
    exact ⟨x37,Option.some.inj H,⟨rfl,trivial⟩,E,S.pick [] (by decide)⟩
 rintro ρ w74 ⟨x55,rfl,hρ,E,S⟩
 rw [agree_eta hρ]
 have H:=o56H
 refine tn ?_
 as_aux_lemma =>
 refine Wp_seq (Wp_region_lit (W_v (.int .i64 x55) (x_move rfl) rfl (W_v (.bool (decide (x55≥(12000:Int)))) (x_ibin rfl rfl rfl rfl) rfl (W_v (.bool (decide (x55≥(12000:Int)))) (x_assign rfl) rfl (Wl_nil (tn ?_))))))
 refine Wp_ret ?_
 obtain rfl:=Option.some.inj H
 exact ⟨_,_,_,fun w1 e1=>run_resR (vs:=[.bool (decide (x55≥(12000:Int)))]) (FA.cons (rfl) (FA.nil)),HM,E,S.pick [] (by decide),⟨rfl,rfl⟩⟩
def ferrymanlaw16_log_find_POO_l0 (a0:ferrymanlaw16_log) (a1:Int) (a2:Int):Nat→Int→Option ((Int)⊕(Unit))
 | 0,_=>none
 | k+1,x35=>(if (decide (x35<(a0.lives.length:Int)))=true then (if 0≤x35∧x35<(a0.lives.length:Int) then (if (((rd a0.lives x35).task==a1)&&((rd a0.lives x35).n==a2))=true then some (.inl x35) else ferrymanlaw16_log_find_POO_l0 a0 a1 a2 k (IntKind.i64.wrap (x35+(1:Int)))) else none) else some (.inr ()))
set_option maxHeartbeats 2000000 in
theorem ferrymanlaw16_log_find_POO_l0.mono {a0:ferrymanlaw16_log} {a1:Int} {a2:Int}:∀ {kl:Nat} {x0},OLe (ferrymanlaw16_log_find_POO_l0 a0 a1 a2 kl x0) (ferrymanlaw16_log_find_POO_l0 a0 a1 a2 (kl+1) x0):=by
 intro kl
 induction kl with
 | zero=>intros;exact OLe.none
 | succ kl ih =>
  intros
  rw [ferrymanlaw16_log_find_POO_l0.eq_2,ferrymanlaw16_log_find_POO_l0.eq_2]
  repeat' (first | with_reducible exact OLe.none | with_reducible exact OLe.some | with_reducible refine OLe.ite ?_ ?_ | with_reducible refine OLe.bind ?_ (fun _=>?_) | exact ih | refine OLe.bind ?_ (fun _=>?_) | refine OLe.ite ?_ ?_ | refine OLe.elim (fun _=>?_) (fun _=>?_) | split)
def ferrymanlaw16_log_find_POO (k:Nat) (a0:ferrymanlaw16_log) (a1:Int) (a2:Int):Option (Int) :=
 (Option.bind (ferrymanlaw16_log_find_POO_l0 a0 a1 a2 k (0:Int)) (fun o52o=>Sum.elim (fun r'=>some r') (fun _=>some (-1:Int)) o52o))
set_option maxHeartbeats 2000000 in
theorem ferrymanlaw16_log_find_POO.mono {k:Nat} {a0:ferrymanlaw16_log} {a1:Int} {a2:Int}:OLe (ferrymanlaw16_log_find_POO k a0 a1 a2) (ferrymanlaw16_log_find_POO (k+1) a0 a1 a2):=by
 unfold ferrymanlaw16_log_find_POO
 repeat' (first | with_reducible exact OLe.none | with_reducible exact OLe.some | with_reducible refine OLe.ite ?_ ?_ | with_reducible refine OLe.bind ?_ (fun _=>?_) | with_reducible exact ferrymanlaw16_log_find_POO_l0.mono | refine OLe.bind ?_ (fun _=>?_) | refine OLe.ite ?_ ?_ | refine OLe.elim (fun _=>?_) (fun _=>?_) | split)
set_option maxHeartbeats 4000000 in
set_option maxRecDepth 100000 in
theorem ferrymanlaw16_log_find_POO.con (k:Nat) (M:Hp) (A0_1:Option Addr) (c0_1:Nat) (A0_2:Option Addr) (c0_2:Nat) (a0:ferrymanlaw16_log) (a1:Int) (a2:Int) (bo0:Nat) (r:Int)  (h:ferrymanlaw16_log_find_POO k a0 a1 a2=some r):Con Tryd.prog 14 #[pt bo0 0,.int .i64 a1,.int .i64 a2] M [Blk bo0 (.cells #[.int .i64 a0.time,.slice A0_1 a0.facts.length c0_1,.slice A0_2 a0.lives.length c0_2] 35 (0,0)),Row r_ferrymanlaw16_fact 54 (.slice A0_1 a0.facts.length c0_1) a0.facts,Stk n_ferrymanlaw16_life 52 (.slice A0_2 a0.lives.length c0_2) a0.lives] (fun v M' Γ'=>v=.int .i64 r∧Γ'=[Blk bo0 (.cells #[.int .i64 a0.time,.slice A0_1 a0.facts.length c0_1,.slice A0_2 a0.lives.length c0_2] 35 (0,0)),Row r_ferrymanlaw16_fact 54 (.slice A0_1 a0.facts.length c0_1) a0.facts,Stk n_ferrymanlaw16_life 52 (.slice A0_2 a0.lives.length c0_2) a0.lives]):=by
 refine con_of_wp Tryd.func14 rfl Tryd.ntmps14 Tryd.results14 rfl ?_
 intro w F rn S hrn
 have E:=Ext.refl w
 have HM:=Hp.le_refl M
 have H:=h
 unfold ferrymanlaw16_log_find_POO at H
 refine Wp_seq (Wp_region_lit (W_v (.int .i64 0) (x_assign rfl) rfl (Wl_nil (tn (Wp_seq (Wp_seq (Wp_region_lit (W_v (.int .i64 0) (x_assign rfl) rfl (Wl_nil (tn ?_))))))))))
 obtain ⟨o52,o52h,o52H⟩:=bindS H
 refine Wp_blockJ (fun ρ w'=>.inr ()=o52∧Agree ρ []∧Ext w w'∧St w' M F [Blk bo0 (.cells #[.int .i64 a0.time,.slice A0_1 a0.facts.length c0_1,.slice A0_2 a0.lives.length c0_2] 35 (0,0)),Row r_ferrymanlaw16_fact 54 (.slice A0_1 a0.facts.length c0_1) a0.facts,Stk n_ferrymanlaw16_life 52 (.slice A0_2 a0.lives.length c0_2) a0.lives]) ?_ ?_
 ·skip
  refine Wp_loop (fun n ρ w'=>∃ (x35:Int),ferrymanlaw16_log_find_POO_l0 a0 a1 a2 n x35=some o52∧Agree ρ [(0,pt bo0 0),(1,.int .i64 a1),(2,.int .i64 a2),(7,.int .i64 x35)]∧Ext w w'∧St w' M F [Blk bo0 (.cells #[.int .i64 a0.time,.slice A0_1 a0.facts.length c0_1,.slice A0_2 a0.lives.length c0_2] 35 (0,0)),Row r_ferrymanlaw16_fact 54 (.slice A0_1 a0.facts.length c0_1) a0.facts,Stk n_ferrymanlaw16_life 52 (.slice A0_2 a0.lives.length c0_2) a0.lives]) k ?_ ?_
  ·skip
   exact ⟨(0:Int),o52h,⟨rfl,rfl,rfl,rfl,trivial⟩,E,S.pick [0,1,2] (by decide)⟩
  ·intro n
   rintro ρ w53 ⟨x35,H,hρ,E,S⟩
   rw [agree_eta hρ]
   cases n with
   | zero=>cases H
   | succ k =>
    rw [ferrymanlaw16_log_find_POO_l0.eq_2] at H
    refine Wp_seq (Wp_seq (Wp_region_lit (W_v (.int .i64 x35) (x_move rfl) rfl (W_v (pt bo0 0) (x_move rfl) rfl (W_v (pt bo0 0) (x_nilptr rfl) rfl (W_v (pt bo0 2) (x_fieldAddr (o:=0) (off:=2) Tryd.underlying35 rfl ty33 rfl rfl) rfl (W_v (.slice A0_2 a0.lives.length c0_2) (x_load (S.blk 0 rfl) ty33 rfl rfl) rfl (W_v (.int .i64 (a0.lives.length:Int)) (x_len_slice (n:=a0.lives.length) Tryd.underlying33 rfl) rfl (W_v (.bool (decide (x35<(a0.lives.length:Int)))) (x_ibin rfl rfl rfl rfl) rfl (Wl_nil (tn ?_)))))))))))
    rcases iteS H with ⟨hb54,H⟩ | ⟨hb54,H⟩
    ·refine Wp_cond_true (congrArg Value.bool hb54) ?_
     refine Wp_skip (tn (Wp_seq ?_))
     refine Wp_block ?_
     refine Wp_seq ?_
     obtain ⟨⟨p61,p62⟩,H⟩:=chkS H
     obtain ⟨A63,c64,S⟩:=S.stk_out 2 rfl (rd_some p61 p62)
     obtain ⟨b65,ee66⟩:=S.stkx_at 3 rfl
     replace S:St w53 M F [_,_,_,_]:=S
     refine Wp_region_lit (W_v (pt bo0 0) (x_move rfl) rfl (W_v (pt bo0 0) (x_nilptr rfl) rfl (W_v (pt bo0 2) (x_fieldAddr (o:=0) (off:=2) Tryd.underlying35 rfl ty33 rfl rfl) rfl (W_v (.slice A0_2 a0.lives.length c0_2) (x_load (S.blk 1 rfl) ty33 rfl rfl) rfl (W_v (.int .i64 x35) (x_move rfl) rfl (W_v (.pointer (some ⟨b65,0+x35.toNat*6,none⟩)) (x_indexAddr Tryd.underlying33 ty52 (slA ee66) rfl p61 p62) rfl (W_v (.pointer (some ⟨b65,0+x35.toNat*6,none⟩)) (x_fieldAddr (o:=0+x35.toNat*6) (off:=0) Tryd.underlying52 rfl ty3 rfl rfl) rfl (W_v (.int .i64 ((rd a0.lives x35).task)) (x_load_stk ⟨M,Hp.le_refl _,S⟩ 3 rfl ee66 0 rfl ty3 rfl) rfl (W_v (.int .i64 a1) (x_move rfl) rfl (W_v (.bool ((rd a0.lives x35).task==a1)) (x_ibin rfl rfl rfl rfl) rfl (W_v (.bool ((rd a0.lives x35).task==a1)) (x_move rfl) rfl ?_)))))))))))
     refine Wl_cutN 11 (fun ρ w'=>Agree ρ [(0,pt bo0 0),(1,.int .i64 a1),(2,.int .i64 a2),(7,.int .i64 x35),(38,.bool (((rd a0.lives x35).task==a1)&&((rd a0.lives x35).n==a2)))]∧w53=w') ?_ ?_
     ·rcases boolCases ((rd a0.lives x35).task==a1) with hb68 | hb68
      ·skip
       refine W_no (skT hb68) rfl (W_no (skT hb68) rfl (W_no (skT hb68) rfl (W_no (skT hb68) rfl (W_no (skT hb68) rfl (W_no (skT hb68) rfl (W_no (skT hb68) rfl (W_no (skT hb68) rfl (W_no (skT hb68) rfl (W_no (skT hb68) rfl (W_v (.bool false) (x_pick (k:=false) (congrArg Value.bool hb68) rfl) rfl (Wl_nil ?_)))))))))))
       exact ⟨⟨rfl,rfl,rfl,rfl,(by first | rfl | (rw [hb68];rfl) | (simp only [hb68];rfl)),trivial⟩,rfl⟩
      ·skip
       refine W_yes (congrArg some hb68) (W_v (pt bo0 0) (x_move rfl) rfl (W_yes (congrArg some hb68) (W_v (pt bo0 0) (x_nilptr rfl) rfl (W_yes (congrArg some hb68) (W_v (pt bo0 2) (x_fieldAddr (o:=0) (off:=2) Tryd.underlying35 rfl ty33 rfl rfl) rfl (W_yes (congrArg some hb68) (W_v (.slice A0_2 a0.lives.length c0_2) (x_load (S.blk 1 rfl) ty33 rfl rfl) rfl (W_yes (congrArg some hb68) (W_v (.int .i64 x35) (x_move rfl) rfl (W_yes (congrArg some hb68) (W_v (.pointer (some ⟨b65,0+x35.toNat*6,none⟩)) (x_indexAddr Tryd.underlying33 ty52 (slA ee66) rfl p61 p62) rfl (W_yes (congrArg some hb68) (W_v (.pointer (some ⟨b65,0+x35.toNat*6+1,none⟩)) (x_fieldAddr (o:=0+x35.toNat*6) (off:=1) Tryd.underlying52 rfl ty3 rfl rfl) rfl (W_yes (congrArg some hb68) (W_v (.int .i64 ((rd a0.lives x35).n)) (x_load_stk ⟨M,Hp.le_refl _,S⟩ 3 rfl ee66 1 rfl ty3 rfl) rfl ?_)))))))))))))))
       refine W_yes (congrArg some hb68) (W_v (.int .i64 a2) (x_move rfl) rfl (W_yes (congrArg some hb68) (W_v (.bool ((rd a0.lives x35).n==a2)) (x_ibin rfl rfl rfl rfl) rfl (W_v (.bool ((rd a0.lives x35).n==a2)) (x_pick (k:=true) (congrArg Value.bool hb68) rfl) rfl (Wl_nil ?_)))))
       exact ⟨⟨rfl,rfl,rfl,rfl,(by first | rfl | (rw [hb68];rfl) | (simp only [hb68];rfl)),trivial⟩,rfl⟩
     rintro ρ _ ⟨hρ,rfl⟩
     rw [agree_eta hρ]
     refine Wl_nil ?_
     replace S:=S.stk_in 3 rfl 0 rfl
     replace S:St w53 M F [_,_,_]:=S
     refine tn ?_
     rcases iteS H with ⟨hb69,H⟩ | ⟨hb69,H⟩
     ·refine Wp_cond_true (congrArg Value.bool hb69) ?_
      refine Wp_seq (Wp_region_lit (W_v (.int .i64 x35) (x_move rfl) rfl (W_v (.int .i64 x35) (x_assign rfl) rfl (Wl_nil (tn ?_)))))
      refine Wp_ret ?_
      refine br (tr (tr (br (tr (tr (?_))))))
      obtain rfl:=Option.some.inj H
      have H:=o52H
      replace H:=elimL H
      obtain rfl:=Option.some.inj H
      exact ⟨_,_,_,fun w1 e1=>run_resR (vs:=[.int .i64 x35]) (FA.cons (rfl) (FA.nil)),HM,E,S.pick [1,2,0] (by decide),⟨rfl,rfl⟩⟩
     refine Wp_cond_false (congrArg Value.bool hb69) (Wp_skip (bn (tn (Wp_region_lit (W_v (.int .i64 x35) (x_move rfl) rfl (W_v (.int .i64 (IntKind.i64.wrap (x35+(1:Int)))) (x_ibin rfl rfl rfl rfl) rfl (W_v (.int .i64 (IntKind.i64.wrap (x35+(1:Int)))) (x_assign rfl) rfl (Wl_nil (tn ?_)))))))))
     exact ⟨k,Nat.lt_succ_self k,⟨(IntKind.i64.wrap (x35+(1:Int))),H,⟨rfl,rfl,rfl,rfl,trivial⟩,E,S.pick [1,2,0] (by decide)⟩⟩
    refine Wp_cond_false (congrArg Value.bool hb54) ?_
    refine Wp_exit ?_
    refine tx (tx (bsm (?_)))
    refine tn ?_
    exact ⟨Option.some.inj H,trivial,E,S.pick [0,1,2] (by decide)⟩
 rintro ρ w70 ⟨rfl,hρ,E,S⟩
 rw [agree_eta hρ]
 have H:=o52H
 replace H:=elimR H
 refine tn ?_
 as_aux_lemma =>
 refine Wp_seq (Wp_region_lit (W_v (.int .i64 (-1)) (x_assign rfl) rfl (Wl_nil (tn ?_))))
 refine Wp_ret ?_
 obtain rfl:=Option.some.inj H
 exact ⟨_,_,_,fun w1 e1=>run_resR (vs:=[.int .i64 (-1)]) (FA.cons (rfl) (FA.nil)),HM,E,S.pick [0,1,2] (by decide),⟨rfl,rfl⟩⟩
end Go.Proofs.YtcngjjlhdlbogaaDoor
