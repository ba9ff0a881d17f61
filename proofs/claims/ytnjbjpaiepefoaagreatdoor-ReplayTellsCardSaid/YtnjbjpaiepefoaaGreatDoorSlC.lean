import Derived.Test.YtnjbjpaiepefoaaGreatDoorSlB
import Derived.Laws.AppendOwn
namespace Go.Proofs.YtnjbjpaiepefoaaGreatDoor
open Go
set_option linter.unusedVariables false
set_option linter.unusedSimpArgs false
abbrev Str:=List UInt8
def bs (l:Str):ByteArray:=⟨l.toArray⟩
theorem JJ (l:Str):(bs l).size=l.length:=by simp [bs,ByteArray.size]
theorem QCZ (s:ByteArray):bs s.data.toList=s:=by cases s;simp [bs]
theorem QCY (l:Str):∀ (n i:Nat) (acc:List UInt8),n=l.length-i→i≤l.length→ByteArray.toList.loop (bs l) i acc=acc.reverse++l.drop i:=by
 intro n
 induction n with
 | zero =>
  intro i acc hn hi;unfold ByteArray.toList.loop;rw [if_neg (by rw [JJ];omega),List.drop_of_length_le (by omega)];simp
 | succ n ih =>
  intro i acc hn hi;unfold ByteArray.toList.loop;rw [if_pos (by rw [JJ];omega),ih (i+1) _ (by omega) (by omega)];have hlt:i<l.length:=by omega
  have:(bs l).get! i=l[i]:=by simp [bs,ByteArray.get!,hlt]
  rw [this,List.reverse_cons,List.append_assoc,List.drop_eq_getElem_cons hlt];rfl
theorem QA5 (l:Str):(bs l).toList=l:=by
 unfold ByteArray.toList;rw [QCY l _ 0 [] rfl (by omega)];simp
def sless (a b:Str):Bool:=Op.bytesLess a b
structure IsTy (P:Program) (t:TypeId) (agg:Bool) (z:Value) (size bytes:Nat):Prop where
 info:(P.info? t).map (fun i=>(i.zero,i.size,i.bytes))=some (some z,size,bytes)
 kind:(P.underlying t).map (fun d=>match d with | .struct _ | .array _ _=>true | _=>false)=some agg
section
variable {P:Program} {t e:TypeId} {agg:Bool} {z:Value} {size bytes:Nat} {w:World}
theorem IsTy.get (T:IsTy P t agg z size bytes):∃ i,P.info? t=some i∧i.zero=some z∧i.size=size∧i.bytes=bytes:=by
 obtain ⟨i,hi,e⟩:=Option.map_eq_some_iff.1 T.info;simp only [Prod.mk.injEq] at e;exact ⟨i,hi,e.1,e.2.1,e.2.2⟩
theorem IsTy.isAgg (T:IsTy P t agg z size bytes):(isAgg t).run P w=.ok agg w:=by
 obtain ⟨d,hd,e⟩:=Option.map_eq_some_iff.1 T.kind;simp only [Go.isAgg,Sem.run_bind,run_underlying hd,Result.andThen_ok]
 cases d<;>simp_all
theorem IsTy.typeInfo (T:IsTy P t agg z size bytes):∃ i,(typeInfo t).run P w=.ok i w∧i.zero=some z∧i.size=size∧i.bytes=bytes:=by
 obtain ⟨i,hi,B,E,G⟩:=T.get;exact ⟨i,by simp [Go.typeInfo,hi],B,E,G⟩
theorem IsTy.sizeOf (T:IsTy P t agg z size bytes):(sizeOf t).run P w=.ok size w:=by
 obtain ⟨i,hi,E,B,G⟩:=T.typeInfo (w:=w);simp [Go.sizeOf,hi,B]
theorem IsTy.zero (T:IsTy P t agg z size bytes):(zeroValue t).run P w=.ok z w:=by
 obtain ⟨i,hi,B,E,G⟩:=T.typeInfo (w:=w);simp [Go.zeroValue,hi,B]
end
theorem V1 (b o k:Nat):(⟨b,o,none⟩:Addr).add k=⟨b,o+k,none⟩:=by unfold Addr.add;split<;>simp_all
section
variable {P:Program} {w:World} {b off n:Nat} {cs vs:Array Value} {t ty:TypeId} {fr:Nat×Nat} {v z:Value} {bytes:Nat}
theorem Jn (hb:w.heap[b]?=some (.cells cs t fr)):w.cell? ⟨b,off,none⟩=cs[off]?:=by simp [World.cell?,hb]
theorem Kc (hb:w.heap[b]?=some (.cells cs t (0,0))):w.frozen? ⟨b,off,none⟩=false:=by simp [World.frozen?,hb]
theorem JC (hb:w.heap[b]?=some (.cells cs t fr)):∀ (n i:Nat) (acc:Array Value),off+i+n≤cs.size→(loadCellsFrom ⟨b,off,none⟩ i n acc).run P w=.ok (acc++cs.extract (off+i) (off+i+n)) w:=by
 intro n
 induction n with
 | zero=>intro i acc h;simp [loadCellsFrom];omega
 | succ n ih =>
  intro i acc h;have hc:w.cell? ((⟨b,off,none⟩:Addr).add i)=some (cs[off+i]'(by omega)):=by rw [V1,Jn hb];simp
  simp only [loadCellsFrom,Sem.run_bind,run_load,hc,Result.andThen_ok];rw [ih (i+1) _ (by omega)]
  congr 1
  apply Array.ext'
  simp only [Array.toList_append,Array.toList_push,List.append_assoc]
  congr 1
  have:(cs.extract (off+i) (off+i+(n+1))).toList=cs[off+i]'(by omega)::(cs.extract (off+(i+1)) (off+(i+1)+n)).toList:=by
   simp only [Array.toList_extract,List.extract_eq_take_drop];rw [show off+i+(n+1)-(off+i)=n+1 from by omega,show off+(i+1)+n-(off+(i+1))=n from by omega,List.drop_eq_getElem_cons (by simpa using (by omega:off+i<cs.size)),List.take_succ_cons]
   rfl
  rw [this];rfl
theorem U2 (hb:w.heap[b]?=some (.cells cs t fr)) (h:off+n≤cs.size):(loadCells ⟨b,off,none⟩ n).run P w=.ok (cs.extract off (off+n)) w:=by
 unfold loadCells;rw [JC hb n 0 #[] (by omega)];simp
theorem UG (T:IsTy P ty false z 1 bytes) (hb:w.heap[b]?=some (.cells cs t fr)) (h:cs[off]?=some v):(loadVar ty ⟨b,off,none⟩).run P w=.ok v w:=by
 simp [loadVar,T.isAgg,Jn hb,h]
theorem KD (h:∀ j v,vs[j]?=some v→cs[off+j]?=some v):off+vs.size≤cs.size∨vs.size=0:=by
 by_cases h0:vs.size=0
 ·exact .inr h0
 ·left
  have:=h (vs.size-1) _ (Array.getElem?_eq_getElem (by omega));have:=(Array.getElem?_eq_some_iff.1 this).1;omega
theorem q4 (h:∀ j v,vs[j]?=some v→cs[off+j]?=some v) (h0:0<vs.size):cs.extract off (off+vs.size)=vs:=by
 have hs:=(KD h).resolve_right (by omega)
 apply Array.ext
 ·simp;omega
 ·intro j E B;have:=h j _ (Array.getElem?_eq_getElem B);rw [Array.getElem?_eq_getElem (by omega)] at this
  simpa using this
theorem Uj (T:IsTy P ty true z n bytes) (hb:w.heap[b]?=some (.cells cs t fr)) (h:∀ j v,vs[j]?=some v→cs[off+j]?=some v) (hn:vs.size=n) (h0:0<n):(loadVar ty ⟨b,off,none⟩).run P w=.ok (.agg vs) w:=by
 subst hn;have hs:=(KD h).resolve_right (by omega);simp only [loadVar,Sem.run_bind,T.isAgg,Result.andThen_ok,if_true,T.sizeOf,U2 hb hs,q4 h h0,Sem.run_pure]
def over (cs:Array Value) (off:Nat):List Value→Array Value
 | []=>cs
 | v::vs=>over (cs.setIfInBounds off v) (off+1) vs
theorem UJ:∀ (vs:List Value) (cs:Array Value) (off:Nat),(over cs off vs).size=cs.size
 | [],_,_=>rfl
 | v::vs,cs,off=>by simp [over,UJ vs]
theorem UX:∀ (vs:List Value) (cs:Array Value) (off j:Nat),(over cs off vs)[j]?=if off≤j∧j<off+vs.length∧j<cs.size then vs[j-off]? else cs[j]?
 | [],cs,off,j=>by simp [over];intro B E;omega
 | v::vs,cs,off,j=>by
  simp only [over,UX vs,Array.size_setIfInBounds,List.length_cons]
  by_cases B:off+1≤j∧j<off+1+vs.length∧j<cs.size
  ·rw [if_pos B,if_pos (by omega)];rw [show j-off=(j-(off+1))+1 from by omega];simp
  ·rw [if_neg B]
   by_cases E:off=j
   ·subst E
    by_cases G:off<cs.size
    ·rw [if_pos (by omega)];simp [Array.getElem?_setIfInBounds,G]
    ·rw [if_neg (by omega)];simp [Array.getElem?_setIfInBounds,G]
   ·rw [if_neg (by omega)];simp [Array.getElem?_setIfInBounds,E]
theorem Kn (hb:w.heap[b]?=some (.cells cs t fr)):(w.setCell ⟨b,off,none⟩ v).heap[b]?=some (.cells (cs.setIfInBounds off v) t fr)∧∀ c,c≠b→(w.setCell ⟨b,off,none⟩ v).heap[c]?=w.heap[c]?:=by
 refine ⟨?_,fun c hc=>?_⟩
 ·simp [World.setCell,Array.getElem?_modify,hb]
 ·simp [World.setCell,Array.getElem?_modify,Ne.symm hc]
theorem V0:∀ (vs:List Value) (w:World) (cs:Array Value) (i:Nat),w.heap[b]?=some (.cells cs t (0,0))→(∀ v∈vs,v.oneCell'=true)→off+i+vs.length≤cs.size →
  ∃ w',(storeCells ⟨b,off,none⟩ vs i).run P w=.ok () w'∧w'.heap[b]?=some (.cells (over cs (off+i) vs) t (0,0))∧(∀ c,c≠b→w'.heap[c]?=w.heap[c]?)∧Ext w w'
 | [],w,cs,i,hb,_,_=>⟨w,by simp [storeCells],hb,fun _ _=>rfl,Ext.refl w⟩
 | v::vs,w,cs,i,hb,B,hl=>by
  simp only [List.length_cons] at hl;have hc:w.cell? ⟨b,off+i,none⟩=some (cs[off+i]'(by omega)):=by rw [Jn hb];simp
  have hs:=Kn (off:=off+i) (v:=v) hb;obtain ⟨w',hr,hb',ho,hE⟩:=V0 vs (w.setCell ⟨b,off+i,none⟩ v) _ (i+1) hs.1 (fun x hx=>B x (List.mem_cons_of_mem _ hx)) (by simp;omega);refine ⟨w',?_,by rw [← Nat.add_assoc] at hb';exact hb',fun c hne=>(ho c hne).trans (hs.2 c hne),(Ext.setCell _ _ _).trans hE⟩;simp only [storeCells,Sem.run_bind,V1,run_store P w _ v _ (B v List.mem_cons_self),hc,Kc hb,Result.andThen_ok];exact hr
theorem Uf {agg:Bool} (T:IsTy P ty agg z n bytes) (hb:w.heap[b]?=some (.cells cs t (0,0))) (hv:v.cells.size=n) (B:∀ x∈v.cells.toList,x.oneCell'=true) (hl:off+n≤cs.size) :
  ∃ w',(storeVar ty ⟨b,off,none⟩ v).run P w=.ok () w'∧w'.heap[b]?=some (.cells (over cs off v.cells.toList) t (0,0))∧(∀ c,c≠b→w'.heap[c]?=w.heap[c]?)∧Ext w w':=by
 obtain ⟨w',hr,E,G,H⟩:=V0 (P:=P) (b:=b) (off:=off) v.cells.toList w cs 0 hb B (by simpa [hv] using hl);exact ⟨w',by simp [storeVar,T.sizeOf,hv,hr],E,G,H⟩
end
section
variable {P:Program} {ρ:Rho} {w w':World} {x y:Operand} {v u:Value} {dst:Option Tmp} {ty:TypeId} {ps:String} {af:Array Edge} {g:Option (Nat×Bool)}
theorem XF (h:evR ρ x=v):(execOp (evR ρ) ⟨dst,.move x,ty,ps,af,g⟩).run P w=.ok (.value v) w:=by subst h;rfl
theorem YW (h:evR ρ x=v):(execOp (evR ρ) ⟨dst,.assign x,ty,ps,af,g⟩).run P w=.ok (.value v) w:=by subst h;rfl
theorem qi {c a b:Operand} {k:Bool} (hc:evR ρ c=.bool k) (h:cond k (evR ρ a) (evR ρ b)=v):(execOp (evR ρ) ⟨dst,.pick c a b,ty,ps,af,g⟩).run P w=.ok (.value v) w:=by
 subst h;cases k<;>simp [execOp,hc,asBool]
theorem QW {i:Nat} {vs:Array Value} (h:evR ρ x=.tuple vs) (hv:vs[i]?=some v):(execOp (evR ρ) ⟨dst,.extract x i,ty,ps,af,g⟩).run P w=.ok (.value v) w:=by
 simp [execOp,Instr.extract,h,hv]
theorem X2 {t:TypeId} {b:Bool} (h:evR ρ x=.bool b):(execOp (evR ρ) ⟨dst,.unOp .not t x,ty,ps,af,g⟩).run P w=.ok (.value (.bool (!b))) w:=by
 simp [execOp,Op.unary,h]
def ibin (op:BinOp) (k:IntKind) (a b:Int):Value :=
 match op with
 | .add=>.int k (k.wrap (a+b)) | .sub=>.int k (k.wrap (a-b)) | .mul=>.int k (k.wrap (a*b))
 | .eql=>.bool (a==b) | .neq=>.bool (a != b) | .lss=>.bool (decide (a<b)) | .leq=>.bool (decide (a≤b)) | .gtr=>.bool (decide (a>b)) | .geq=>.bool (decide (a≥b))
 | _=>.nilIface
def isI:BinOp→Bool
 | .add | .sub | .mul | .eql | .neq | .lss | .leq | .gtr | .geq=>true
 | _=>false
theorem V3 {op:BinOp} {t t':TypeId} {k:IntKind} {a b:Int} (hx:evR ρ x=.int k a) (hy:evR ρ y=.int k b) (hop:isI op=true) (h:ibin op k a b=v):(execOp (evR ρ) ⟨dst,.binOp op t x y t',ty,ps,af,g⟩).run P w=.ok (.value v) w:=by
 subst h
 cases op<;>simp_all [execOp,binOp,eqGuard,isI,ibin,Op.intArith,Op.intCmp]
theorem x_quo {t t':TypeId} {k:IntKind} {a b:Int} (hx:evR ρ x=.int k a) (hy:evR ρ y=.int k b) (h:b≠0):(execOp (evR ρ) ⟨dst,.binOp .quo t x y t',ty,ps,af,g⟩).run P w=.ok (.value (.int k (k.wrap (a.tdiv b)))) w:=by
 simp [execOp,binOp,eqGuard,hx,hy,Op.intDiv,h]
theorem x_rem {t t':TypeId} {k:IntKind} {a b:Int} (hx:evR ρ x=.int k a) (hy:evR ρ y=.int k b) (h:b≠0):(execOp (evR ρ) ⟨dst,.binOp .rem t x y t',ty,ps,af,g⟩).run P w=.ok (.value (.int k (a.tmod b))) w:=by
 simp [execOp,binOp,eqGuard,hx,hy,Op.intDiv,h]
def sbin (op:BinOp) (a b:Str):Bool :=
 match op with
 | .eql=>a==b | .neq=>!(a==b) | .lss=>sless a b | .leq=>sless a b||a==b | .gtr=>!(sless a b||a==b) | .geq=>!(sless a b) | _=>false
def isS:BinOp→Bool
 | .eql | .neq | .lss | .leq | .gtr | .geq=>true
 | _=>false
theorem Ul {op:BinOp} {t t':TypeId} {a b:Str} (hx:evR ρ x=.string (bs a)) (hy:evR ρ y=.string (bs b)) (hop:isS op=true):(execOp (evR ρ) ⟨dst,.binOp op t x y t',ty,ps,af,g⟩).run P w=.ok (.value (.bool (sbin op a b))) w:=by
 cases op<;>simp_all [execOp,binOp,eqGuard,isS,sbin,Op.stringOp,QA5,sless]
theorem Up {t:TypeId} {a b:Bool} (hu:P.underlying t=some .bool):(Op.equal t (.bool a) (.bool b)).run P w=.ok (a==b) w:=by
 have h:∀ d,(Op.equalIn (d+1) t (.bool a) (.bool b)).run P w=.ok (a==b) w:=fun d=>by simp only [Op.equalIn,Sem.run_bind,run_underlying hu,Result.andThen_ok,Sem.run_pure]
 exact h 9999
theorem Va {t t':TypeId} {r:Bool} (hgd:(eqGuard .eql t x y (evR ρ x) (evR ρ y)).run P w=.ok () w) (hb:binOp .eql t (evR ρ x) (evR ρ y)=(do pure (.bool (← Op.equal t (evR ρ x) (evR ρ y))))) (h:(Op.equal t (evR ρ x) (evR ρ y)).run P w=.ok r w):(execOp (evR ρ) ⟨dst,.binOp .eql t x y t',ty,ps,af,g⟩).run P w=.ok (.value (.bool r)) w:=by
 simp only [execOp,Sem.run_bind,hgd,hb,h,Result.andThen_ok,Sem.run_pure]
theorem U8 {t t':TypeId} {r:Bool} (hgd:(eqGuard .neq t x y (evR ρ x) (evR ρ y)).run P w=.ok () w) (hb:binOp .neq t (evR ρ x) (evR ρ y)=(do pure (.bool (!(← Op.equal t (evR ρ x) (evR ρ y)))))) (h:(Op.equal t (evR ρ x) (evR ρ y)).run P w=.ok r w):(execOp (evR ρ) ⟨dst,.binOp .neq t x y t',ty,ps,af,g⟩).run P w=.ok (.value (.bool (!r))) w:=by
 simp only [execOp,Sem.run_bind,hgd,hb,h,Result.andThen_ok,Sem.run_pure]
theorem x_beq {t t':TypeId} {a b:Bool} (hu:P.underlying t=some .bool) (hx:evR ρ x=.bool a) (hy:evR ρ y=.bool b):(execOp (evR ρ) ⟨dst,.binOp .eql t x y t',ty,ps,af,g⟩).run P w=.ok (.value (.bool (a==b))) w :=
 Va (by rw [hx,hy];rfl) (by rw [hx,hy];rfl) (by rw [hx,hy];exact Up hu)
theorem K8 {t t':TypeId} {a b:Bool} (hu:P.underlying t=some .bool) (hx:evR ρ x=.bool a) (hy:evR ρ y=.bool b):(execOp (evR ρ) ⟨dst,.binOp .neq t x y t',ty,ps,af,g⟩).run P w=.ok (.value (.bool (!(a==b)))) w :=
 U8 (by rw [hx,hy];rfl) (by rw [hx,hy];rfl) (by rw [hx,hy];exact Up hu)
theorem Qd {t e:TypeId} {A:Option Addr} {n c:Nat} (hu:P.underlying t=some (.slice e)) (hx:evR ρ x=.slice A n c):(execOp (evR ρ) ⟨dst,.call ⟨.builtin .len,#[x],#[t]⟩,ty,ps,af,g⟩).run P w=.ok (.value (.int .i64 (n:Int))) w:=by
 simp [execOp,resolve,invoke,builtin,Builtin.len_,run_underlying hu,hx,goInt]
theorem VQ {t:TypeId} {s:Str} (hu:P.underlying t=some .string) (hx:evR ρ x=.string (bs s)):(execOp (evR ρ) ⟨dst,.call ⟨.builtin .len,#[x],#[t]⟩,ty,ps,af,g⟩).run P w=.ok (.value (.int .i64 (s.length:Int))) w:=by
 simp [execOp,resolve,invoke,builtin,Builtin.len_,run_underlying hu,hx,goInt,JJ]
def imin (a b:Int):Int:=if b<a then b else a
theorem UU {k:IntKind} {a b:Int} {ts:Array TypeId} (hx:evR ρ x=.int k a) (hy:evR ρ y=.int k b):(execOp (evR ρ) ⟨dst,.call ⟨.builtin .min,#[x,y],ts⟩,ty,ps,af,g⟩).run P w=.ok (.value (.int k (imin a b))) w:=by
 simp [execOp,resolve,invoke,builtin,Builtin.min_,Builtin.min2,hx,hy,imin]
theorem JQ {f:FuncId} {fn:Func} {as:List Operand} {ts:Array TypeId} (hf:P.funcs[f]?=some fn) (hb:fn.body.isNone=false) (hn:(fn.name == "runtime.NumGoroutine")=false) :
  (execOp (evR ρ) ⟨dst,.call ⟨.value (.func f),as.toArray,ts⟩,ty,ps,af,g⟩).run P w=.ok (.enter f (as.map (evR ρ)).toArray) w:=by
 have hb':fn.body≠none:=by intro e;rw [e] at hb;cases hb
 have hn':fn.name ≠ "runtime.NumGoroutine":=by simpa using hn
 simp [execOp,resolve,invoke,Deferred.ofValue,callFunc,hf,hb',hn',evR]
theorem Kj {f:FuncId} {fn:Func} {as:List Operand} {ts:Array TypeId} {t:Tmp} {fs cs:List Value} (ht:ρ t=.func (.func f) fs.toArray cs.toArray) (hf:P.funcs[f]?=some fn) (hb:fn.body.isNone=false) (hn:(fn.name == "runtime.NumGoroutine")=false) :
  (execOp (evR ρ) ⟨dst,.call ⟨.value (.tmp t),as.toArray,ts⟩,ty,ps,af,g⟩).run P w=.ok (.enter f (fs++as.map (evR ρ)++cs).toArray) w:=by
 have hb':fn.body≠none:=by intro e;rw [e] at hb;cases hb
 have hn':fn.name ≠ "runtime.NumGoroutine":=by simpa using hn
 simp [execOp,resolve,invoke,Deferred.ofValue,callFunc,hf,hb',hn',evR,ht]
theorem Vz {fn:Fn} {fs cs:List Operand} (h:Value.func fn (fs.map (evR ρ)).toArray (cs.map (evR ρ)).toArray=v):(execOp (evR ρ) ⟨dst,.makeFunc fn fs.toArray cs.toArray,ty,ps,af,g⟩).run P w=.ok (.value v) w:=by
 subst h;simp [execOp,Instr.makeFunc]
theorem Ud {s d:TypeId} {k j:IntKind} {n:Int} {u:TypeDesc} (hs:P.underlying s=some u) (hd:P.underlying d=some (.int k)) (hx:evR ρ x=.int j n):(execOp (evR ρ) ⟨dst,.convert s d x,ty,ps,af,g⟩).run P w=.ok (.value (.int k (k.wrap n))) w:=by
 simp [execOp,convert,run_underlying hs,run_underlying hd,hx,Conv.intToInt]
theorem QY {a:Addr} (hx:evR ρ x=.pointer (some a)):(execOp (evR ρ) ⟨dst,.nilCheck x,ty,ps,af,g⟩).run P w=.ok (.value (.pointer (some a))) w:=by
 simp [execOp,hx]
theorem Ki {s f:Nat} {fs:Array Field} {fd:Field} {cs:Array Value} (hu:P.underlying s=some (.struct fs)) (hf:fs[f]?=some fd) (hx:evR ρ x=.agg cs) {z:Value} {bytes:Nat} (T:IsTy P fd.type false z 1 bytes) (hv:cs[fd.offset]?=some v) :
  (execOp (evR ρ) ⟨dst,.field s x f,ty,ps,af,g⟩).run P w=.ok (.value v) w:=by
 simp [execOp,Instr.field,run_underlying hu,hf,hx,asAgg,part,T.isAgg,hv]
theorem Jt {s f n:Nat} {fs:Array Field} {fd:Field} {cs vs:Array Value} (hu:P.underlying s=some (.struct fs)) (hf:fs[f]?=some fd) (hx:evR ρ x=.agg cs) {z:Value} {bytes:Nat} (T:IsTy P fd.type true z n bytes) (hv:cs.extract fd.offset (fd.offset+n)=vs) :
  (execOp (evR ρ) ⟨dst,.field s x f,ty,ps,af,g⟩).run P w=.ok (.value (.agg vs)) w:=by
 simp [execOp,Instr.field,run_underlying hu,hf,hx,asAgg,part,T.isAgg,T.sizeOf,hv]
theorem VF {s f b o n:Nat} {fs:Array Field} {fd:Field} {agg:Bool} {z:Value} {bytes:Nat} (hu:P.underlying s=some (.struct fs)) (hf:fs[f]?=some fd) (T:IsTy P fd.type agg z (n+1) bytes) (hx:evR ρ x=.pointer (some ⟨b,o,none⟩)) {off:Nat} (ho:fd.offset=off) :
  (execOp (evR ρ) ⟨dst,.fieldAddr s x f,ty,ps,af,g⟩).run P w=.ok (.value (.pointer (some ⟨b,o+off,none⟩))) w:=by
 subst ho;simp [execOp,Instr.fieldAt,run_underlying hu,hf,hx,Instr.sureAddr,fieldPlace,T.sizeOf,V1]
theorem QP {t e:TypeId} {b o n c sz:Nat} {i:Int} {k:IntKind} {agg:Bool} {z:Value} {bytes:Nat} (hu:P.underlying t=some (.slice e)) (T:IsTy P e agg z sz bytes) (hx:evR ρ x=.slice (some ⟨b,o,none⟩) n c) (hy:evR ρ y=.int k i) (h0:0≤i) (B:i<n) :
  (execOp (evR ρ) ⟨dst,.indexAddr t x y,ty,ps,af,g⟩).run P w=.ok (.value (.pointer (some ⟨b,o+i.toNat*sz,none⟩))) w:=by
 simp [execOp,Instr.indexAt,run_underlying hu,hx,hy,asIntOf,T.sizeOf,V1,h0,B]
theorem Js {t e:TypeId} {b o n sz:Nat} {i:Int} {k:IntKind} {agg:Bool} {z:Value} {bytes:Nat} (hu:P.underlying t=some (.array n e)) (T:IsTy P e agg z sz bytes) (hx:evR ρ x=.pointer (some ⟨b,o,none⟩)) (hy:evR ρ y=.int k i) (h0:0≤i) (B:i<n) :
  (execOp (evR ρ) ⟨dst,.indexAddr t x y,ty,ps,af,g⟩).run P w=.ok (.value (.pointer (some ⟨b,o+i.toNat*sz,none⟩))) w:=by
 simp [execOp,Instr.indexAt,run_underlying hu,hx,hy,asIntOf,T.sizeOf,V1,h0,B,Instr.sureAddr]
theorem Uc {t:TypeId} {s:Str} {i:Int} {k:IntKind} (hu:P.underlying t=some .string) (hx:evR ρ x=.string (bs s)) (hy:evR ρ y=.int k i) (h0:0≤i) (B:i<s.length) :
  (execOp (evR ρ) ⟨dst,.index t x y,ty,ps,af,g⟩).run P w=.ok (.value (.int .u8 ((s.getD i.toNat 0).toNat:Int))) w:=by
 have hlt:i.toNat<s.length:=by omega
 have hg:(bs s)[i.toNat]?=some (s[i.toNat]):=by
  rw [getElem?_pos (bs s) i.toNat (by rw [JJ];exact hlt)];rfl
 simp [execOp,Instr.index,run_underlying hu,hx,hy,asIntOf,h0,B,JJ,hg,hlt]
 rfl
theorem Vy {k:IntKind} {i:Int} {m:Nat} {code:BoundsCode} (h0:0≤i) (B:i≤m):(Instr.sliceBound (.int k i) m code).run P w=.ok i.toNat w:=by
 simp [Instr.sliceBound,asIntOf,h0,B]
theorem Jq {t e:TypeId} {A:Option Addr} {n c sz:Nat} {i:Int} {k:IntKind} {agg:Bool} {z:Value} {bytes:Nat} (hu:P.underlying t=some (.slice e)) (T:IsTy P e agg z sz bytes) (hx:evR ρ x=.slice A n c) (hy:evR ρ y=.int k i) (h0:0≤i) (B:i≤n) :
  (execOp (evR ρ) ⟨dst,.slice t x (some y) none none,ty,ps,af,g⟩).run P w=.ok (.value (.slice (if c=i.toNat then A else A.map (·.add (i.toNat*sz))) (n-i.toNat) (c-i.toNat))) w:=by
 simp [execOp,Instr.sliceAt,run_underlying hu,hx,hy,Instr.slice,Instr.sliceBounds,Vy h0 B,T.sizeOf]
theorem Jr {t e:TypeId} {A:Option Addr} {n c sz:Nat} {i:Int} {k:IntKind} {agg:Bool} {z:Value} {bytes:Nat} (hu:P.underlying t=some (.slice e)) (T:IsTy P e agg z sz bytes) (hx:evR ρ x=.slice A n c) (hy:evR ρ y=.int k i) (h0:0≤i) (B:i≤c) :
  (execOp (evR ρ) ⟨dst,.slice t x none (some y) none,ty,ps,af,g⟩).run P w=.ok (.value (.slice A i.toNat c)) w:=by
 simp [execOp,Instr.sliceAt,run_underlying hu,hx,hy,Instr.slice,Instr.sliceBounds,Vy h0 B,T.sizeOf,V1]
 cases A with
 | none=>simp
 | some a=>intro _;simp [Addr.add]
theorem qh {t e:TypeId} {A:Option Addr} {n c sz:Nat} {i m:Int} {k k':IntKind} {B:Operand} {agg:Bool} {z:Value} {bytes:Nat} (hu:P.underlying t=some (.slice e)) (T:IsTy P e agg z sz bytes) (hx:evR ρ x=.slice A n c) (hy:evR ρ y=.int k i) (hm:evR ρ B=.int k' m) (h0:0≤i) (G:i≤m) (E:m≤c) :
  (execOp (evR ρ) ⟨dst,.slice t x none (some y) (some B),ty,ps,af,g⟩).run P w=.ok (.value (.slice A i.toNat m.toNat)) w:=by
 simp [execOp,Instr.sliceAt,run_underlying hu,hx,hy,hm,Instr.slice,Instr.sliceBounds,Vy (show 0≤m by omega) E,Vy h0 (show i≤((m.toNat:Nat):Int) by omega),T.sizeOf,V1]
 cases A with
 | none=>simp
 | some a=>intro _;simp [Addr.add]
end
end Go.Proofs.YtnjbjpaiepefoaaGreatDoor
