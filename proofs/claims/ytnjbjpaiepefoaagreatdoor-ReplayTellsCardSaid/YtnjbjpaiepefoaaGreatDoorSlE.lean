import Derived.Test.YtnjbjpaiepefoaaGreatDoorSlD
namespace Go.Proofs.YtnjbjpaiepefoaaGreatDoor
open Go
set_option linter.unusedVariables false
set_option linter.unusedSimpArgs false
structure IsFn (P:Program) (f:FuncId):Prop where
 ex:∃ fn,P.funcs[f]?=some fn∧fn.body.isNone=false∧(fn.name == "runtime.NumGoroutine")=false
section
variable {rn:Rd} {P:Program} {N:Nat} {ops:Array Oper} {Q:Post} {rest:List Oper} {ρ:Rho} {w:World} {M F:Hp} {Γ Γ1 Γ2:List Asr} {d:Nat} {x y:Operand} {v u z:Value} {ty t e T:TypeId} {ps:String} {af:Array Edge} {b o n sz bytes:Nat} {agg:Bool} {cs vs:Array Value} {fr:Nat×Nat}
theorem W_v {op:Op} (v:Value) (hr:(execOp (evR ρ) ⟨some d,op,T,ps,af,none⟩).run P w=.ok (.value v) w) (hd:Nat.blt d N=true) (h:Wl rn P N ops Q rest (upd ρ d v) w) (hdf:isDefer op=false:=by rfl):Wl rn P N ops Q (⟨some d,op,T,ps,af,none⟩::rest) ρ w :=
 UC v rfl rfl hd hr (Ext.refl _) h hdf
theorem QL {j:Nat} {k:Bool} {op:Op} {dst:Option Tmp} (hy:yR ops ρ j=some k) (h:Wl rn P N ops Q (⟨dst,op,T,ps,af,none⟩::rest) ρ w):Wl rn P N ops Q (⟨dst,op,T,ps,af,some (j,k)⟩::rest) ρ w:=Wl_yes rfl hy h
theorem Qa {j:Nat} {k:Bool} {op:Op} (hy:(yR ops ρ j==some k)=false) (hd:Nat.blt d N=true) (h:Wl rn P N ops Q rest (upd ρ d undef) w):Wl rn P N ops Q (⟨some d,op,T,ps,af,some (j,k)⟩::rest) ρ w:=Wl_no rfl rfl hd hy h
theorem x_box {g:Option (Nat×Bool)} {dst:Option Tmp} (hx:evR ρ x=v) (hc:v.cells=cs):(execOp (evR ρ) ⟨dst,.box t x,T,ps,af,g⟩).run P w=.ok (.value (.pointer (some ⟨w.heap.size,0,none⟩))) (w.alloc (.cells cs t)):=by
 subst hc;simp only [execOp,Instr.box,newVar,newRow,hx,Sem.run_bind,run_newObj,Result.andThen_ok,Sem.run_pure];rfl
theorem XS (S:St w M F Γ) (cs:Array Value) (hx:evR ρ x=v) (hc:v.cells=cs) (hd:Nat.blt d N=true)
  (K:∀ b w',Ext w w'→St w' M F (Blk b (.cells cs t (0,0))::Γ)→Wl rn P N ops Q rest (upd ρ d (.pointer (some ⟨b,0,none⟩))) w'):Wl rn P N ops Q (⟨some d,.box t x,T,ps,af,none⟩::rest) ρ w :=
 UC _ rfl rfl hd (x_box hx hc) (Ext.alloc _ _) (K _ _ (Ext.alloc _ _) (S.alloc_blk _))
theorem YX (S:St w M F Γ) (cs:Array Value) (Ty:IsTy P t agg z n bytes) (hc:z.cells=cs) (hd:Nat.blt d N=true)
  (K:∀ b w',Ext w w'→St w' M F (Blk b (.cells cs t (0,0))::Γ)→Wl rn P N ops Q rest (upd ρ d (.pointer (some ⟨b,0,none⟩))) w'):Wl rn P N ops Q (⟨some d,.alloc t,T,ps,af,none⟩::rest) ρ w:=by
 subst hc;refine UC (.pointer (some ⟨w.heap.size,0,none⟩)) rfl rfl hd (w':=w.alloc (.cells z.cells t)) ?_ (Ext.alloc _ _) (K _ _ (Ext.alloc _ _) (S.alloc_blk _));simp only [execOp,Instr.alloc,newVar,newRow,Sem.run_bind,Ty.zero,run_newObj,Result.andThen_ok,Sem.run_pure];rfl
theorem YU {g:Option (Nat×Bool)} {dst:Option Tmp} (hb:w.heap[b]?=some (.cells cs t fr)) (Ty:IsTy P ty false z 1 bytes) (hx:evR ρ x=.pointer (some ⟨b,o,none⟩)) (hc:cs[o]?=some v):(execOp (evR ρ) ⟨dst,.load ty x,T,ps,af,g⟩).run P w=.ok (.value v) w:=by
 simp only [execOp,Instr.loadAt,Instr.sureAddr,hx,Sem.run_bind,Sem.run_pure,Result.andThen_ok,UG Ty hb hc]
theorem Qf {g:Option (Nat×Bool)} {dst:Option Tmp} (hb:w.heap[b]?=some (.cells cs t fr)) (Ty:IsTy P ty true z n bytes) (hx:evR ρ x=.pointer (some ⟨b,o,none⟩)) (hc:∀ j v,vs[j]?=some v→cs[o+j]?=some v) (hn:vs.size=n) (h0:Nat.blt 0 n=true):(execOp (evR ρ) ⟨dst,.load ty x,T,ps,af,g⟩).run P w=.ok (.value (.agg vs)) w:=by
 simp only [execOp,Instr.loadAt,Instr.sureAddr,hx,Sem.run_bind,Sem.run_pure,Result.andThen_ok,Uj Ty hb hc hn (by simpa using h0)]
theorem QI (h:cs.extract o (o+vs.size)=vs):∀ j v,vs[j]?=some v→cs[o+j]?=some v:=by
 intro j v hj;rw [← h,Array.getElem?_extract] at hj
 split at hj
 ·exact hj
 ·cases hj
theorem Qq (S:St w M F Γ) (i:Nat) (hi:Γ[i]?=some (Blk b (.cells cs t (0,0)))) (Ty:IsTy P ty agg z n bytes) (hx:evR ρ x=.pointer (some ⟨b,o,none⟩)) (hy:evR ρ y=v) (vs:List Value) (hv:v.cells.toList=vs) (hn:vs.length=n) (B:vs.all (·.oneCell')=true) (cs':Array Value) (ho:over cs o vs=cs') (hl:Nat.ble (o+n) cs.size=true)
  (K:∀ w',Ext w w'→St w' M F (Γ.set i (Blk b (.cells cs' t (0,0))))→Wl rn P N ops Q rest ρ w'):Wl rn P N ops Q (⟨none,.store ty x y,T,ps,af,none⟩::rest) ρ w:=by
 subst ho hv;have hb:=S.blk i hi;obtain ⟨w',hr,hb',hoth,hE⟩:=Uf (P:=P) (off:=o) Ty hb (v:=v) (by simpa using hn) (fun x hx=>List.all_eq_true.1 B x hx) (by simpa using hl);refine JK rfl rfl (w':=w') ?_ hE (K w' hE (S.set_blk i hi hb' hoth));simp only [execOp,Instr.storeAt,Instr.sureAddr,hx,hy,Sem.run_bind,Sem.run_pure,Result.andThen_ok,hr]
theorem Xm {len:Nat} {parts:List (Nat×Operand)} {ps':List (Nat×Value)} (S:St w M F Γ) (cs:Array Value) (hu:P.underlying t=some (.slice e)) (Ty:IsTy P e agg z sz bytes) (hp:parts.map (fun (i,x)=>(i,evR ρ x))=ps') (hs:Nat.ble (len*sz) 16777216=true)
  (zs:Array Value) (hz:(Array.range (len*sz)).map (fun k=>(if len*sz=0 then #[] else z.cells)[k % (if len*sz=0 then (#[]:Array Value) else z.cells).size]!)=zs)
  (hf:Instr.fill (fun i=>some (i*sz,sz)) zs ps'=some cs) (hd:Nat.blt d N=true)
  (K:∀ b w',Ext w w'→St w' M F (Blk b (.cells cs e (0,0))::Γ)→Wl rn P N ops Q rest (upd ρ d (.slice (some ⟨b,0,none⟩) len len)) w'):Wl rn P N ops Q (⟨some d,.buildSlice t len parts.toArray,T,ps,af,none⟩::rest) ρ w:=by
 subst hp hz;refine UC (.slice (some ⟨w.heap.size,0,none⟩) len len) rfl rfl hd (w':=w.alloc (.cells cs e)) ?_ (Ext.alloc _ _) (K _ _ (Ext.alloc _ _) (S.alloc_blk _));have B:¬ (len*sz>2 ^ 24):=by have:=Nat.le_of_ble_eq_true hs;omega
 by_cases h0:len*sz=0
 ·simp only [h0,if_true] at hf;simp only [execOp,Instr.buildSlice,List.map_toArray,Sem.run_bind,run_underlying hu,Ty.sizeOf,Result.andThen_ok,h0,if_true,Sem.run_pure,show ¬ (0>2 ^ 24) by omega,if_false,hf,newRow,run_newObj];rfl
 ·simp only [if_neg h0] at hf;simp only [execOp,Instr.buildSlice,List.map_toArray,Sem.run_bind,run_underlying hu,Ty.sizeOf,Result.andThen_ok,if_neg B,if_neg h0,Ty.zero,Sem.run_pure,hf,newRow,run_newObj];rfl
theorem QB1 {parts:List (Nat×Operand)} {fs:Array Field} {places:Array (Nat×Nat)} {ps':List (Nat×Value)} {g:Option (Nat×Bool)} (cs:Array Value) (hu:P.underlying t=some (.struct fs)) (Ty:IsTy P t agg z n bytes) (hm:(fs.mapM (fun f=>do pure (f.offset,← sizeOf f.type)):Sem _).run P w=.ok places w) (hp:parts.map (fun (i,x)=>(i,evR ρ x))=ps')
  (hf:Instr.fill (places[·]?) z.cells ps'=some cs) {dst:Option Tmp}:(execOp (evR ρ) ⟨dst,.build t parts.toArray,T,ps,af,g⟩).run P w=.ok (.value (.agg cs)) w:=by
 subst hp;simp only [execOp,Instr.build,List.map_toArray,Sem.run_bind,Ty.zero,run_underlying hu,Result.andThen_ok,hm,hf,Sem.run_pure]
theorem X5 {α:Type} {r:Rep α} {l l2:List α} {src:List Value} {m:Nat} {t':TypeId} (S:St w M F Γ) (i:Nat) (hi:Γ[i]?=some (Row r e v l)) (hx:evR ρ x=v) (hy:evR ρ y=u)
  (hu:P.underlying t=some (.slice e)) (hu':P.underlying t'=some (.slice e)∨P.underlying t'=some .string) (Ty:IsTy P e agg z r.sz bytes) (hz:z.cells.size=r.sz) (hsz:0<r.sz) (B:0<bytes)
  (hs:Src P r.sz w u m src) (hC:Cells r M l2 src) (hm:l2.length=m) (hlim:(l.length+m)*bytes≤140737488355328) (hd:Nat.blt d N=true)
  (K:∀ v' w',Ext w w'→St w' M F (Γ.set i (Row r e v' (l++l2)))→Wl rn P N ops Q rest (upd ρ d v') w'):Wl rn P N ops Q (⟨some d,.call ⟨.builtin .append,#[x,y],#[t,t']⟩,T,ps,af,none⟩::rest) ρ w:=by
 obtain ⟨v',w',hr,hE,S'⟩:=J1 (T':=T) (ts:=#[t,t']) S i hi hu (by simpa using hu') rfl Ty hz hsz hs hC hm hlim B;refine UC v' rfl rfl hd (w':=w') ?_ hE (K v' w' hE S');simp only [execOp,resolve,invoke,builtin,Sem.run_bind,Sem.run_pure,Result.andThen_ok,List.map_toArray,List.map_cons,List.map_nil,hx,hy,hr]
theorem YN {f:FuncId} {as:List Operand} {ts:Array TypeId} {args:List Value} {Φ:Value→Hp→List Asr→Prop} (Fn:IsFn P f) (C:Con P f args.toArray M Γ1 Φ) (S:St w M F (Γ1++Γ2)) (ha:as.map (evR ρ)=args) (hd:Nat.blt d N=true)
  (K:∀ v w' M' B,M.le M'→Ext w w'→St w' M' F (B++Γ2)→Φ v M' B→Wl rn P N ops Q rest (upd ρ d v) w'):Wl rn P N ops Q (⟨some d,.call ⟨.value (.func f),as.toArray,ts⟩,T,ps,af,none⟩::rest) ρ w:=by
 subst ha;obtain ⟨fn,hf,hb,hn⟩:=Fn.ex;refine UI (R:=fun v w'=>∃ M' B,M.le M'∧Ext w w'∧St w' M' F (B++Γ2)∧Φ v M' B) rfl (JQ hf hb hn) (fun _ _ ⟨_,_,_,h,_⟩=>h) (C.at S) hd ?_;rintro v w' ⟨M',B,E,hE,S',hΦ⟩;exact K v w' M' B E hE S' hΦ
theorem V6 {f:FuncId} {as:List Operand} {ts:Array TypeId} {args fs cap:List Value} {tt:Tmp} {Φ:Value→Hp→List Asr→Prop} (Fn:IsFn P f) (ht:ρ tt=.func (.func f) fs.toArray cap.toArray) (C:Con P f args.toArray M Γ1 Φ) (S:St w M F (Γ1++Γ2)) (ha:fs++as.map (evR ρ)++cap=args) (hd:Nat.blt d N=true)
  (K:∀ v w' M' B,M.le M'→Ext w w'→St w' M' F (B++Γ2)→Φ v M' B→Wl rn P N ops Q rest (upd ρ d v) w'):Wl rn P N ops Q (⟨some d,.call ⟨.value (.tmp tt),as.toArray,ts⟩,T,ps,af,none⟩::rest) ρ w:=by
 subst ha;obtain ⟨fn,hf,hb,hn⟩:=Fn.ex;refine UI (R:=fun v w'=>∃ M' B,M.le M'∧Ext w w'∧St w' M' F (B++Γ2)∧Φ v M' B) rfl (Kj ht hf hb hn) (fun _ _ ⟨_,_,_,h,_⟩=>h) (C.at S) hd ?_;rintro v w' ⟨M',B,E,hE,S',hΦ⟩;exact K v w' M' B E hE S' hΦ
end
theorem St.blk_row {α:Type} {r:Rep α} {w:World} {M F:Hp} {Γ:List Asr} {b:Nat} {t:TypeId} {cs:Array Value} {l:List α} (S:St w M F Γ) (i:Nat) (hi:Γ[i]?=some (Blk b (.cells cs t (0,0)))) (cap:Nat) (hc:l.length≤cap) (hs:cs.size=cap*r.sz) (hl:Cells r M l (cs.toList.take (l.length*r.sz))) (B:cap<9223372036854775808:=by decide) :
  St w M F (Γ.set i (Row r t (.slice (some ⟨b,0,none⟩) l.length cap) l)):=by
 obtain ⟨E,ha,hle,hch⟩:=S.change i hi
 exact hch w _ (Hp.single b (.cells cs t (0,0))) (.inr ⟨b,cap,cs,rfl,hc,by simp [Hp.single],hs,hl,B⟩) (Hp.single_le.2 (hle _ _ ha)) (fun c o h _=>h) (fun c o h=>by
  simp only [Hp.single] at h
  split at h
  ·rename_i e;subst e;left;rw [show E c=some _ from ha];simp
  ·cases h)
def anyW (rn:Option Nat) (P:Program) (ops:Array Oper) (Q:Exit→Act→World→Prop) (S:World→Prop) (L:Nat):Nat→Array Bool→Act→World→Prop
 | 0,listed,a,w=>Region.ready .any ops listed=[]∧Q .normal a w
 | fuel+1,listed,a,w =>
  (Region.ready .any ops listed=[]→Q .normal a w) ∧
  ∀ i∈Region.ready .any ops listed,wpOpIn (Fw rn) 0 P ops Q i (fun a' w'=>(L≤i∨S w')∧anyW rn P ops Q S L fuel (listed.setIfInBounds i true) a' w') a w
section
variable {rn:Option Nat} {P:Program} {ops:Array Oper} {Q:Exit→Act→World→Prop} {S:World→Prop} {L:Nat}
theorem Ui:∀ (fuel:Nat) (listed:Array Bool) (a:Act) (w:World),anyW rn P ops Q S L fuel listed a w→wpAnyIn (Fw rn) 0 P .any ops Q fuel listed a w
 | 0,_,_,_,h=>h
 | fuel+1,_,_,_,h=>⟨h.1,fun i hi=>wpOpIn_mono (fun a' w' B=>Ui fuel _ a' w' B.2) (h.2 i hi)⟩
theorem K6 {i:Nat} {o:Oper} {v:Value} {a:Act} (hi:ops[i]?=some o) (hdf:isDefer o.op=false) (hy:YieldsIf P ops S o v a)
  {K:Act→World→Prop} {w:World} (hS:S w) (h:K (a.put o.dst v) w):wpOpIn (Fw rn) 0 P ops Q i K a w:=by
 unfold wpOpIn;simp only [hi];rcases hy with ⟨hw,hv⟩ | ⟨hw,rfl⟩
 ·simp only [hw,if_true,Oper.wpIn];refine ⟨fun _ _=>trivial,?_⟩;rw [UD hdf,hv w hS];exact h
 ·simp only [hw,Bool.false_eq_true,if_false];exact ⟨fun _ _=>trivial,h⟩
theorem QAg {j:Nat} {oi oj:Oper} {v:Value} (hj:ops[j]?=some oj) (hdf:isDefer oj.op=false) (hap:oi.apart ops oj=true)
  (hsi:∀ cs b,oi.op≠.select cs b) (hsj:∀ cs b,oj.op≠.select cs b)
  (hQ:∀ c a w,Q (.panic c) (a.put oi.dst v) w→Q (.panic c) a w) {K:Act→World→Prop} {a:Act} {w:World}
  (hy:YieldsIf P ops S oi v a) (h:wpOpIn (Fw rn) 0 P ops Q j K (a.put oi.dst v) w) :
  wpOpIn (Fw rn) 0 P ops Q j (fun a' w'=>YieldsIf P ops S oi v a'∧K (a'.put oi.dst v) w') a w:=by
 obtain ⟨O,E,U⟩:=Oper.apart_spec hap
 have keep:∀ (a:Act),YieldsIf P ops S oi v a→∀ u,YieldsIf P ops S oi v (a.put oj.dst u):=fun a hy u =>
  hy.of_same (execOp_put oi hsi a oj.dst u U) (wanted_put oi a oj.dst u U)
 have keepD:∀ d,YieldsIf P ops S oi v { a with defers:=d::a.defers }:=fun d=>hy.of_same rfl rfl;unfold wpOpIn at *;simp only [hj] at *;rw [wanted_put oj a oi.dst v O] at h
 split
 ·rename_i hw
  simp only [hw,if_true] at h;unfold Oper.wpIn at *;refine ⟨fun _ _=>trivial,?_⟩;have h:=h.2;rw [UD hdf,execOp_put oj hsj a oi.dst v O] at h;rw [UD hdf];generalize (execOp a.eval oj).run P w=x at *
  cases x with
  | ok x w' =>
   cases x<;>simp only [Oper.uponIn] at h ⊢
   case value u=>exact ⟨keep a hy u,by rw [← Act.put_comm a v u E];exact h⟩
   case skip=>exact ⟨keep a hy _,by rw [← Act.put_comm a v undef E];exact h⟩
   case defer d =>
    refine ⟨keep _ (keepD d) _,?_⟩;rw [← Act.put_comm _ v undef E,← Act.put_defers];exact h
   case enter f args =>
    refine ⟨h.1,CallsIn.mono h.2 fun e w'' B=>?_⟩
    cases e with
    | returned u=>exact ⟨keep a hy u,by rw [← Act.put_comm a v u E];exact B⟩
    | panicked c=>exact hQ _ _ _ B
    | outgrown=>obtain ⟨G,H,h0⟩:=B;exact ⟨G,H,h0⟩
   case row row args=>exact ⟨h.1,RowsIn.mono h.2 fun u w'' B=>⟨keep a hy u,by rw [← Act.put_comm a v u E];exact B⟩⟩
   case round =>
    refine ⟨h.1,RoundIn.mono h.2 fun e w'' B=>?_⟩
    cases e with
    | returned u=>exact ⟨keep a hy u,by rw [← Act.put_comm a v u E];exact B⟩
    | panicked c=>exact hQ _ _ _ B
    | outgrown=>obtain ⟨G,H,h0⟩:=B;exact ⟨G,H,h0⟩
  | halt x w' =>
   cases x<;>simp only [Oper.uponIn] at h ⊢
   case panic u=>exact hQ _ _ _ h
 ·rename_i hw
  simp only [hw] at h;exact ⟨fun _ _=>trivial,keep a hy _,by rw [← Act.put_comm a v undef E];exact h.2⟩
def Closed (ops:Array Oper) (listed:Array Bool):Prop:=∀ (j:Nat) (oj:Oper),ops[j]?=some oj→listed.getD j false=true→∀ e∈oj.after,Region.binds .any e=true→listed.getD e.on false=true
def closedB (ops:Array Oper) (listed:Array Bool):Bool:=(List.range ops.size).all fun j=>match ops[j]? with
 | none=>true
 | some oj=>!(listed.getD j false)||oj.after.all fun e=>!(Region.binds .any e)||listed.getD e.on false
theorem K3 {listed:Array Bool} (h:closedB ops listed=true):Closed ops listed:=fun j oj hj hl e B hb=>by
 have hlt:j<ops.size:=(Array.getElem?_eq_some_iff.1 hj).1;have:=List.all_eq_true.1 h j (List.mem_range.2 hlt);simp only [hj,hl,Bool.not_true,Bool.false_or] at this;have:=Array.all_eq_true_iff_forall_mem.1 this e B
 simpa [hb] using this
theorem qa {listed:Array Bool} {j k:Nat} (h:listed.getD k false=true):(listed.setIfInBounds j true).getD k false=true:=by
 simp only [Array.getD_eq_getD_getElem?,Array.getElem?_setIfInBounds] at *
 split
 ·split
  ·rfl
  ·next e B=>rw [← e,Array.getElem?_eq_none (by omega)] at h;exact h
 ·exact h
theorem Closed.set {listed:Array Bool} {j:Nat} (h:Closed ops listed) (hj:∀ oj,ops[j]?=some oj→∀ e∈oj.after,Region.binds .any e=true→listed.getD e.on false=true):Closed ops (listed.setIfInBounds j true):=fun k ok hk hl e B hb=>by
 by_cases c:k=j
 ·subst c;exact qa (hj ok hk e B hb)
 ·refine qa (h k ok hk ?_ e B hb);simp only [Array.getD_eq_getD_getElem?,Array.getElem?_setIfInBounds,if_neg (Ne.symm c)] at hl ⊢;exact hl
def reaches (ops:Array Oper):Nat→Nat→Nat→Bool
 | 0,_,_=>false
 | n+1,a,i=>match ops[a]? with
  | none=>false
  | some o=>o.after.any fun e=>Region.binds .any e&&(Nat.beq e.on i||reaches ops n e.on i)
theorem JE {listed:Array Bool} (h:Closed ops listed) {i:Nat}:∀ (n a:Nat),reaches ops n a i=true→(∀ oa,ops[a]?=some oa→∀ e∈oa.after,Region.binds .any e=true→listed.getD e.on false=true)→listed.getD i false=true
 | 0,_,hr,_=>by cases hr
 | n+1,a,hr,ha=>by
  unfold reaches at hr
  split at hr
  ·cases hr
  ·next o ho =>
   obtain ⟨k,hk,B⟩:=Array.any_eq_true.1 hr;rw [Bool.and_eq_true,Bool.or_eq_true] at B;have E:=ha o ho _ (Array.getElem_mem hk) B.1;rcases B.2 with G | G
   ·rw [Nat.eq_of_beq_eq_true G] at E;exact E
   ·exact JE h n _ G (fun oa hoa e he' hb=>h _ oa hoa E e he' hb)
def lastOK (ops:Array Oper) (L i:Nat):Bool:=Nat.blt i L&&(List.range ops.size).all fun j=>Nat.blt j L||reaches ops ops.size j i
theorem Jg {i:Nat} (h:lastOK ops L i=true):i<L∧∀ j,L≤j→(∃ oj,ops[j]?=some oj)→reaches ops ops.size j i=true:=by
 unfold lastOK at h;rw [Bool.and_eq_true] at h;refine ⟨by simpa using h.1,fun j hj ⟨oj,ho⟩=>?_⟩;have:=List.all_eq_true.1 h.2 j (List.mem_range.2 (Array.getElem?_eq_some_iff.1 ho).1);rw [Bool.or_eq_true] at this;rcases this with B | B
 ·have:j<L:=by simpa using B
  omega
 ·exact B
theorem QAE {i:Nat} {oi:Oper} {v:Value} (hi:ops[i]?=some oi) (hdf:∀ (j:Nat) (o:Oper),ops[j]?=some o→isDefer o.op=false) (hsel:∀ (j:Nat) (o:Oper) cs b,ops[j]?=some o→o.op≠.select cs b)
  (hQ:∀ c a w,Q (.panic c) (a.put oi.dst v) w→Q (.panic c) a w) :
  ∀ (fuel:Nat) (listed:Array Bool) (a:Act) (w:World),
   (∀ j oj,ops[j]?=some oj→j≠i→listed.getD j true=false→(∀ e∈oj.after,Region.binds .any e=true→e.on≠i)→oi.apart ops oj=true)→Closed ops listed→(∀ j,L≤j→(∃ oj,ops[j]?=some oj)→reaches ops ops.size j i=true)→i<L →
   i∈Region.ready .any ops listed→YieldsIf P ops S oi v a→S w →
   anyW rn P ops Q S L fuel (listed.setIfInBounds i true) (a.put oi.dst v) w→anyW rn P ops Q S L (fuel+1) listed a w:=by
 intro fuel
 induction fuel with
 | zero =>
  intro listed a w _ _ _ _ hr hy hS H;refine ⟨fun h=>(by rw [h] at hr;cases hr),fun j hj=>?_⟩
  by_cases hji:j=i
  ·subst hji;exact K6 hi (hdf _ _ hi) hy hS ⟨.inr hS,H⟩
  ·have:=ready_mono hj hji;rw [H.1] at this
   cases this
 | succ fuel ih =>
  intro listed a w hfree hcl hL hiL hr hy hS H;refine ⟨fun h=>(by rw [h] at hr;cases hr),fun j hj=>?_⟩
  by_cases hji:j=i
  ·subst hji;exact K6 hi (hdf _ _ hi) hy hS ⟨.inr hS,H⟩
  ·have B:=H.2 j (ready_mono hj hji);obtain ⟨hjun,oj,hoj,hall⟩:=mem_ready.1 hj
   have hnot:∀ e∈oj.after,Region.binds .any e=true→e.on≠i:=fun e U hb heq=>by
    have B:=hall e U hb;have h0:=(mem_ready.1 hr).1;rw [heq] at B;rcases Nat.lt_or_ge i listed.size with E | E
    ·simp [E] at h0 B;rw [h0] at B;cases B
    ·simp [Array.getElem?_eq_none E] at B
   have V:=QAg hoj (hdf _ _ hoj) (hfree j oj hoj hji hjun hnot) (fun cs b=>hsel i oi cs b hi) (fun cs b=>hsel j oj cs b hoj) hQ hy B
   have hfree':∀ k ok,ops[k]?=some ok→k≠i→(listed.setIfInBounds j true).getD k true=false →
     (∀ e∈ok.after,Region.binds .any e=true→e.on≠i)→oi.apart ops ok=true:=fun k ok hk hki hun hno=>by
    refine hfree k ok hk hki ?_ hno
    by_cases hjk:j=k
    ·subst hjk;exact hjun
    ·rw [getD_set_ne true hjk] at hun;exact hun
   have hjL:¬ L≤j:=fun e=>by
    have G:=JE hcl _ _ (hL j e ⟨oj,hoj⟩) (fun oa hoa=>by rw [hoj] at hoa;cases hoa;exact hall);have h0:=(mem_ready.1 hr).1;rcases Nat.lt_or_ge i listed.size with E | E
    ·simp [E] at h0 G;rw [h0] at G;cases G
    ·simp [Array.getElem?_eq_none E] at G
   refine wpOpIn_mono (fun a' w' O=>⟨O.2.1,ih (listed.setIfInBounds j true) a' w' hfree' (hcl.set (fun oa hoa=>by rw [hoj] at hoa;cases hoa;exact hall)) hL hiL (ready_mono hr (Ne.symm hji)) O.1 (O.2.1.resolve_left hjL) ?_⟩) V;rw [Array.setIfInBounds_comm _ _ hji];exact O.2.2
def noDefer (ops:Array Oper):Bool:=ops.all fun o=>!isDefer o.op
theorem Kv (h:noDefer ops=true):∀ (j:Nat) (o:Oper),ops[j]?=some o→isDefer o.op=false:=fun j o ho=>by
 have:=Array.all_eq_true_iff_forall_mem.1 h o (Array.mem_of_getElem? ho)
 simpa using this
theorem JY {i:Nat} {oi:Oper} {v:Value} {fuel:Nat} {listed:Array Bool} {a:Act} {w:World} (hi:ops[i]?=some oi)
  (hs:Region.noSelect ops=true) (hd:noDefer ops=true) (hf:Region.free .any ops listed i=true) (hr:(Region.ready .any ops listed).contains i=true) (hcl:closedB ops listed=true) (hL:lastOK ops L i=true)
  (hQ:∀ c a w,Q (.panic c) (a.put oi.dst v) w→Q (.panic c) a w) (hy:YieldsIf P ops S oi v a) (hS:S w)
  (h:anyW rn P ops Q S L fuel (listed.setIfInBounds i true) (a.put oi.dst v) w):anyW rn P ops Q S L (fuel+1) listed a w :=
 QAE hi (Kv hd) (Region.noSelect_spec hs) hQ fuel listed a w (Region.free_spec hi hf) (K3 hcl) (Jg hL).2 (Jg hL).1 (by simpa using hr) hy hS h
theorem QA6 {listed:Array Bool} {a:Act} {w:World} (hr:Region.ready .any ops listed=[]) (h:Q .normal a w):∀ fuel,anyW rn P ops Q S L fuel listed a w
 | 0=>⟨hr,h⟩
 | _+1=>⟨fun _=>h,by rw [hr];simp⟩
end
def Wa (rn:Rd) (P:Program) (N:Nat) (ops:Array Oper) (K:Rho→World→Prop) (S:World→Prop) (L:Nat) (fuel:Nat) (listed:Array Bool) (ρ:Rho) (w:World):Prop :=
 ∀ a,Reg rn N a ρ w→anyW rn.lp P ops (lift rn N (onlyN K)) S L fuel listed a w
section
variable {rn:Rd} {P:Program} {N:Nat} {ops:Array Oper} {Q:Post} {K:Rho→World→Prop} {S:World→Prop} {L fuel:Nat} {listed listed':Array Bool} {ρ:Rho} {w:World} {d i:Nat} {v:Value} {o:Oper}
theorem U3 {id:Nat} (hm:P.follows .mixedOrders=true) (h:∀ w1,w1.heap=w.heap→Ext w w1→Wa rn P N ops (fun ρ w=>Q .normal ρ w) S L ops.size (Array.replicate ops.size false) ρ w1):Wp rn P N (.region id ops true) Q ρ w:=fun a ha=>by
 refine Code.wpIn_mono ?_ (wpIn_region_any (Q:=lift rn N (onlyN fun ρ w=>Q .normal ρ w)) hm (Ui _ _ _ _ (h { w with drawn:=w.drawn+1 } rfl (Ext.drew _ _) a (ha.ext (Ext.drew _ _)))));rintro e a w ⟨ρ,hr,q⟩
 cases e with
 | normal=>exact ⟨ρ,hr,q⟩
 | _=>exact q.elim
def takeOK (ops:Array Oper) (listed:Array Bool) (L i:Nat):Bool:=Region.noSelect ops&&noDefer ops&&Region.free .any ops listed i&&(Region.ready .any ops listed).contains i&&closedB ops listed&&lastOK ops L i
theorem K4 (hi:ops[i]?=some o) (hk:takeOK ops listed L i=true) (hdst:o.dst=some d) (hd:Nat.blt d N=true)
  (v:Value) (hg:o.guard=none) (hy:∀ w,S w→(execOp (evR ρ) o).run P w=.ok (.value v) w) (hS:S w) (h:Wa rn P N ops K S L fuel (listed.setIfInBounds i true) (upd ρ d v) w):Wa rn P N ops K S L (fuel+1) listed ρ w:=fun a ha=>by
 simp only [takeOK,Bool.and_eq_true] at hk;refine JY (v:=v) hi hk.1.1.1.1.1 hk.1.1.1.1.2 hk.1.1.1.2 hk.1.1.2 hk.1.2 hk.2 (fun c a w ⟨_,_,q⟩=>q.elim) (.inl ⟨by simp [Region.wanted,hg],fun w hw=>by rw [ha.eval];exact hy w hw⟩) hS ?_;rw [hdst];exact h _ (ha.put (by simpa using hd) v (Ext.refl _))
theorem KM {j:Nat} {b:Bool} (hi:ops[i]?=some o) (hk:takeOK ops listed L i=true) (hdst:o.dst=some d) (hd:Nat.blt d N=true)
  (v:Value) (hg:o.guard=some (j,b)) (hj:yR ops ρ j=some b) (hy:∀ w,S w→(execOp (evR ρ) o).run P w=.ok (.value v) w) (hS:S w) (h:Wa rn P N ops K S L fuel (listed.setIfInBounds i true) (upd ρ d v) w):Wa rn P N ops K S L (fuel+1) listed ρ w:=fun a ha=>by
 simp only [takeOK,Bool.and_eq_true] at hk;refine JY (v:=v) hi hk.1.1.1.1.1 hk.1.1.1.1.2 hk.1.1.1.2 hk.1.1.2 hk.1.2 hk.2 (fun c a w ⟨_,_,q⟩=>q.elim) (.inl ⟨by rw [ha.wanted];simp [Region.wanted,hg,hj],fun w hw=>by rw [ha.eval];exact hy w hw⟩) hS ?_;rw [hdst];exact h _ (ha.put (by simpa using hd) v (Ext.refl _))
theorem QBr {j:Nat} {b:Bool} (hi:ops[i]?=some o) (hk:takeOK ops listed L i=true) (hdst:o.dst=some d) (hd:Nat.blt d N=true)
  (hg:o.guard=some (j,b)) (hj:(yR ops ρ j==some b)=false) (hS:S w) (h:Wa rn P N ops K S L fuel (listed.setIfInBounds i true) (upd ρ d undef) w):Wa rn P N ops K S L (fuel+1) listed ρ w:=fun a ha=>by
 simp only [takeOK,Bool.and_eq_true] at hk;refine JY (v:=undef) hi hk.1.1.1.1.1 hk.1.1.1.1.2 hk.1.1.1.2 hk.1.1.2 hk.1.2 hk.2 (fun c a w ⟨_,_,q⟩=>q.elim) (.inr ⟨by rw [ha.wanted];simpa [Region.wanted,hg] using hj,rfl⟩) hS ?_;rw [hdst];exact h _ (ha.put (by simpa using hd) undef (Ext.refl _))
theorem Ya (h:K ρ w):onlyN K .normal ρ w:=h
def Ls (n:Nat) (l:List Nat):Array Bool:=l.foldl (fun a i=>a.setIfInBounds i true) (Array.replicate n false)
theorem YV (J:Rho→World→Prop) (fuel':Nat) (listed':Array Bool) (B:∀ ρ w,J ρ w→Wa rn P N ops K S L fuel' listed' ρ w) (E:(∀ ρ w,J ρ w→Wa rn P N ops K S L fuel' listed' ρ w)→Wa rn P N ops K S L fuel listed ρ w):Wa rn P N ops K S L fuel listed ρ w:=E B
theorem XT {M F:Hp} {Γ:List Asr} {b:Nat} {o:Obj} (h:∃ B,M.le B∧St w B F Γ) (hb:M b=some o):w.heap[b]?=some o:=by
 obtain ⟨B,E,hS⟩:=h;exact hS.frz (E _ _ hb)
theorem Yq {M F:Hp} {Γ:List Asr} {b:Nat} {o:Obj} (h:∃ B,M.le B∧St w B F Γ) (i:Nat) (hi:Γ[i]?=some (Blk b o)):w.heap[b]?=some o:=by
 obtain ⟨B,E,hS⟩:=h;exact hS.blk i hi
theorem Us {rs:List Nat} (hr:Region.ready .any ops listed=rs) (hne:rs≠[]) (h:∀ i∈rs,∃ o,ops[i]?=some o∧Wl rn P N ops (onlyN fun ρ w=>(L≤i∨S w)∧Wa rn P N ops K S L fuel (listed.setIfInBounds i true) ρ w) [o] ρ w):Wa rn P N ops K S L (fuel+1) listed ρ w:=fun a ha=>by
 refine ⟨fun h0=>absurd (hr ▸ h0) hne,?_⟩;rw [hr];intro k hk;obtain ⟨o,hi,h⟩:=h k hk;have B:=h a ha;unfold wpOpIn;simp only [hi]
 have key:∀ a w,lift rn N (onlyN fun ρ w=>(L≤k∨S w)∧Wa rn P N ops K S L fuel (listed.setIfInBounds k true) ρ w) .normal a w→(L≤k∨S w)∧anyW rn.lp P ops (lift rn N (onlyN K)) S L fuel (listed.setIfInBounds k true) a w :=
  fun a w ⟨ρ,hr,hS,hW⟩=>⟨hS,hW a hr⟩
 simp only [wpListIn] at B
 split at B
 ·rename_i hw
  simp only [hw,if_true];exact Ju key (Q1:=lift rn N (onlyN fun ρ w=>(L≤k∨S w)∧Wa rn P N ops K S L fuel (listed.setIfInBounds k true) ρ w)) QAQ QAR B
 ·rename_i hw
  simp only [hw];exact ⟨fun _ _=>trivial,key _ _ B.2⟩
theorem QCb (hi:ops[i]?=some o) (hr:Region.ready .any ops listed=[i]) (h:Wl rn P N ops (onlyN fun ρ w=>(L≤i∨S w)∧Wa rn P N ops K S L fuel (listed.setIfInBounds i true) ρ w) [o] ρ w):Wa rn P N ops K S L (fuel+1) listed ρ w :=
 Us hr (by simp) (fun k hk=>by
  obtain rfl:k=i:=by simpa using hk
  exact ⟨o,hi,h⟩)
theorem QCc (hr:Region.ready .any ops listed=[]) (h:K ρ w):Wa rn P N ops K S L fuel listed ρ w:=fun a ha=>QA6 hr ⟨ρ,ha,h⟩ fuel
end
end Go.Proofs.YtnjbjpaiepefoaaGreatDoor
