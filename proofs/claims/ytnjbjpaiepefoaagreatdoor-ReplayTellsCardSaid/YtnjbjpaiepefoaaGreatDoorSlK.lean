import Derived.Test.YtnjbjpaiepefoaaGreatDoorSlI
namespace Go.Proofs.YtnjbjpaiepefoaaGreatDoor
open Go
set_option linter.unusedVariables false
set_option linter.unusedSimpArgs false
set_option linter.unusedSectionVars false
def findAt {κ:Type} [DecidableEq κ] (k:κ):List κ→Nat→Option Nat
 | [],_=>none
 | a::l,i=>if a=k then some i else findAt k l (i+1)
theorem UA {κ:Type} [DecidableEq κ] {k:κ}:∀ {l:List κ} {i j:Nat},findAt k l i=some j→i≤j∧j<i+l.length∧l[j-i]?=some k
 | [],_,_,h=>by cases h
 | a::l,i,j,h=>by
  unfold findAt at h
  split at h
  ·next e=>cases h;subst e;exact ⟨Nat.le_refl _,by simp,by simp⟩
  ·obtain ⟨E,G,B⟩:=UA h;refine ⟨by omega,by simp;omega,?_⟩;rw [show j-i=(j-(i+1))+1 by omega,List.getElem?_cons_succ];exact B
structure KeyT {κ:Type} [DecidableEq κ] (P:Program) (t:TypeId) (enc:κ→Value):Prop where
 find:∀ (w:World) (k:κ) (l:List MapEntry) (ks:List κ),l.map (·.key)=ks.map enc→(Instr.findKey t (enc k) l).run P w=.ok ((findAt k ks 0).bind fun i=>(l[i]?).map fun e=>(i,e.val)) w
 chk:∀ (w:World) (e:Bool) (k:κ),(Instr.checkKey e 10000 t (enc k)).run P w=.ok () w
 bits:∀ k:κ,Instr.sameBits 10000 (enc k) (enc k)=true
section
variable {κ:Type} [DecidableEq κ] {P:Program} {t:TypeId} {enc:κ→Value}
theorem J0 (heq:∀ (w:World) (a b:κ),(Op.equal t (enc a) (enc b)).run P w=.ok (decide (a=b)) w) (w:World) (k:κ):∀ (l:List MapEntry) (ks:List κ) (i:Nat),l.map (·.key)=ks.map enc →
  (Instr.findAsking t (enc k) l i).run P w=.ok ((findAt k ks i).bind fun j=>(l[j-i]?).map fun e=>(j,e.val)) w
 | [],ks,i,h=>by
  obtain rfl:ks=[]:=by cases ks with | nil=>rfl | cons a l=>simp at h
  rfl
 | e::l,[],i,h=>by simp at h
 | e::l,a::ks,i,h=>by
  simp only [List.map_cons,List.cons.injEq] at h;have ih:=J0 heq w k l ks (i+1) h.2;simp only [Instr.findAsking,Sem.run_bind,h.1,heq,Result.andThen_ok,findAt]
  by_cases c:a=k
  ·subst c;simp [Sem.run_pure]
  ·have c':¬ k=a:=fun e=>c e.symm;simp only [c,c',decide_false,Bool.false_eq_true,if_false];rw [ih]
   cases hf:findAt k ks (i+1) with
   | none=>rfl
   | some j =>
    have:=UA hf;simp only [Option.bind_some];rw [show j-i=(j-(i+1))+1 by omega,List.getElem?_cons_succ]
theorem qX {fs:Array Field} (hu:P.underlying t=some (.struct fs)) (heq:∀ (w:World) (a b:κ),(Op.equal t (enc a) (enc b)).run P w=.ok (decide (a=b)) w)
  (chk:∀ (w:World) (e:Bool) (k:κ),(Instr.checkKey e 10000 t (enc k)).run P w=.ok () w) (bits:∀ k:κ,Instr.sameBits 10000 (enc k) (enc k)=true):KeyT P t enc where
 chk:=chk
 bits:=bits
 find:=by
  intro w k l ks h
  cases l with
  | nil =>
   obtain rfl:ks=[]:=by cases ks with | nil=>rfl | cons a l=>simp at h
   simp [Instr.findKey,run_underlying hu,Result.andThen,Instr.findNow,findAt]
  | cons e l =>
   have hn:Instr.findNow (.struct fs) (enc k) (e::l) 0=none:=by simp [Instr.findNow,Instr.sameNow]
   have:=J0 heq w k (e::l) ks 0 h;simp only [Instr.findKey,Sem.run_bind,run_underlying hu,Result.andThen_ok,hn];exact this
end
def MapAt {κ ν:Type} (enc:κ→Value) (encv:ν→Value) (h:Hp) (b:Nat) (l:List (κ×ν)):Prop :=
 ∃ es clock,h b=some (.map es clock)∧es.toList.map (fun e=>(e.key,e.val))=l.map (fun p=>(enc p.1,encv p.2))∧(es.toList.map (·.born)).Pairwise (·<·)∧∀ n∈es.toList.map (·.born),n<clock
def MapA {κ ν:Type} (enc:κ→Value) (encv:ν→Value) (b:Nat) (l:List (κ×ν)):Asr:=⟨fun _ h=>MapAt enc encv h b l,fun _ h=>h⟩
def mget {κ ν:Type} [DecidableEq κ] (l:List (κ×ν)) (k:κ):Option ν:=(findAt k (l.map (·.1)) 0).bind fun i=>(l[i]?).map (·.2)
def mput {κ ν:Type} [DecidableEq κ] (l:List (κ×ν)) (k:κ) (v:ν):List (κ×ν):=match findAt k (l.map (·.1)) 0 with
 | some i=>l.set i (k,v)
 | none=>l++[(k,v)]
def mdel {κ ν:Type} [DecidableEq κ] (l:List (κ×ν)) (k:κ):List (κ×ν):=match findAt k (l.map (·.1)) 0 with
 | some i=>l.eraseIdx i
 | none=>l
section
variable {κ ν:Type} [DecidableEq κ] {P:Program} {w:World} {M F:Hp} {Γ:List Asr} {enc:κ→Value} {encv:ν→Value} {l:List (κ×ν)} {b:Nat} {t kt vt:TypeId}
theorem St.map_read (S:St w M F Γ) (i:Nat) (hi:Γ[i]?=some (MapA enc encv b l)):∃ es clock,w.heap[b]?=some (.map es clock)∧es.toList.map (fun e=>(e.key,e.val))=l.map (fun p=>(enc p.1,encv p.2)):=by
 obtain ⟨E,⟨es,clock,hb,B,_⟩,hle,_⟩:=S.change i hi;exact ⟨es,clock,Hp.of_get (hle _ _ hb),B⟩
theorem K0 {es:List MapEntry} (h:es.map (fun e=>(e.key,e.val))=l.map (fun p=>(enc p.1,encv p.2))):es.map (·.key)=(l.map (·.1)).map enc:=by
 have:=congrArg (List.map Prod.fst) h
 simpa [List.map_map,Function.comp_def] using this
theorem QB3 {es:List MapEntry} (h:es.map (fun e=>(e.key,e.val))=l.map (fun p=>(enc p.1,encv p.2))) (i:Nat):(es[i]?).map (·.val)=(l[i]?).map fun p=>encv p.2:=by
 have:=congrArg (fun z=>(z[i]?).map Prod.snd) h
 simpa [List.getElem?_map,Option.map_map,Function.comp_def] using this
theorem Vw {es:Array MapEntry} {clock:Nat} (hb:w.heap[b]?=some (.map es clock)):(getObj b).run P w=.ok (.map es clock) w:=by simp [getObj,Sem.run,hb]
theorem JH (K:KeyT P kt enc) {es:Array MapEntry} (B:es.toList.map (fun e=>(e.key,e.val))=l.map (fun p=>(enc p.1,encv p.2))) (k:κ) (w:World) :
  (Instr.findKey kt (enc k) es.toList).run P w=.ok ((findAt k (l.map (·.1)) 0).bind fun i=>(l[i]?).map fun p=>(i,encv p.2)) w:=by
 rw [K.find w k es.toList (l.map (·.1)) (K0 B)]
 congr 1
 cases hf:findAt k (l.map (·.1)) 0 with
 | none=>rfl
 | some i =>
  have:=QB3 B i;simp only [Option.bind_some]
  cases E:es.toList[i]?<;>cases G:l[i]?<;>simp_all
theorem Jz (S:St w M F Γ) (i:Nat) (hi:Γ[i]?=some (MapA enc encv b l)) (hu:P.underlying t=some (.map kt vt)) (K:KeyT P kt enc) {z:Value} (hz:∀ w:World,(zeroValue vt).run P w=.ok z w) (k:κ) (ok:Bool) :
  (Instr.lookup t (.map (some b)) (enc k) ok).run P w=.ok (if ok then .tuple #[((mget l k).map encv).getD z,.bool (mget l k).isSome] else ((mget l k).map encv).getD z) w:=by
 obtain ⟨es,clock,hb,G⟩:=S.map_read i hi;have hf:=JH K G k w;unfold mget
 cases B:findAt k (l.map (·.1)) 0 with
 | none =>
  rw [B] at hf
  cases ok<;>simp [Instr.lookup,run_underlying hu,Vw hb,K.chk,hf,hz,Result.andThen]
 | some j =>
  rw [B] at hf;obtain ⟨_,H,_⟩:=UA B;have O:j<l.length:=by simpa using H
  have E:l[j]?=some l[j]:=List.getElem?_eq_getElem O;rw [Option.bind_some,E] at hf
  cases ok<;>simp [Instr.lookup,run_underlying hu,Vw hb,K.chk,hf,hz,Result.andThen,E]
theorem qF (S:St w M F Γ) (i:Nat) (hi:Γ[i]?=some (MapA enc encv b l)) (hu:P.underlying t=some (.map kt vt)) (T:TypeId):(Builtin.len_ #[t] T #[.map (some b)]).run P w=.ok (.int .i64 (l.length:Int)) w:=by
 obtain ⟨es,clock,hb,B⟩:=S.map_read i hi;have:es.size=l.length:=by have:=congrArg List.length B;simpa using this
 simp [Builtin.len_,run_underlying hu,Vw hb,Result.andThen,goInt,this]
theorem St.map_set (S:St w M F Γ) (i:Nat) (hi:Γ[i]?=some (MapA enc encv b l)) {l':List (κ×ν)} (es':Array MapEntry) (clock':Nat)
  (E:es'.toList.map (fun e=>(e.key,e.val))=l'.map (fun p=>(enc p.1,encv p.2))) (hp:(es'.toList.map (·.born)).Pairwise (·<·)) (hc:∀ n∈es'.toList.map (·.born),n<clock') :
  (setObj b (.map es' clock')).run P w=.ok () { w with heap:=w.heap.setIfInBounds b (.map es' clock') }∧St { w with heap:=w.heap.setIfInBounds b (.map es' clock') } M F (Γ.set i (MapA enc encv b l'))∧Ext w { w with heap:=w.heap.setIfInBounds b (.map es' clock') }:=by
 obtain ⟨G,⟨es,clock,B,_⟩,hle,hch⟩:=S.change i hi;have hb:w.heap[b]?=some (.map es clock):=Hp.of_get (hle _ _ B);have hlt:b<w.heap.size:=(Array.getElem?_eq_some_iff.1 hb).1;have hb':(w.heap.setIfInBounds b (.map es' clock'))[b]?=some (.map es' clock'):=by simp [Array.getElem?_setIfInBounds,hlt]
 have hoth:∀ c,c≠b→(w.heap.setIfInBounds b (.map es' clock'))[c]?=w.heap[c]?:=fun c hcb=>by
  rw [Array.getElem?_setIfInBounds,if_neg (fun e=>hcb e.symm)]
 refine ⟨by simp [setObj,Sem.run,hb],?_,?_⟩
 ·refine hch _ _ (Hp.single b (.map es' clock')) ⟨es',clock',by simp [Hp.single],E,hp,hc⟩ (Hp.single_le.2 (Hp.of_mk hb')) (fun y o hy hn=>?_) (fun y o hy=>?_)
  ·have hyb:y≠b:=fun e=>by subst e;rw [B] at hn;cases hn
   exact (Hp.of_congr (hoth y hyb)).trans hy
  ·simp only [Hp.single] at hy
   split at hy
   ·rename_i ey;subst ey;left;rw [B];simp
   ·cases hy
 ·refine ⟨rfl,rfl,rfl,by simp,fun c o hco hd=>?_,fun c r hcr=>?_,Nat.le_refl _⟩
  ·by_cases e:c=b
   ·subst e;rw [hb] at hco;cases hco;cases hd
   ·exact (hoth c e).trans hco
  ·by_cases e:c=b
   ·subst e;rw [hb] at hcr;cases hcr
   ·exact ⟨r,(hoth c e).trans hcr⟩
theorem St.map_born (S:St w M F Γ) (i:Nat) (hi:Γ[i]?=some (MapA enc encv b l)):∃ es clock,w.heap[b]?=some (.map es clock)∧es.toList.map (fun e=>(e.key,e.val))=l.map (fun p=>(enc p.1,encv p.2))∧(es.toList.map (·.born)).Pairwise (·<·)∧∀ n∈es.toList.map (·.born),n<clock:=by
 obtain ⟨E,⟨es,clock,hb,B⟩,hle,_⟩:=S.change i hi;exact ⟨es,clock,Hp.of_get (hle _ _ hb),B⟩
theorem KP (S:St w M F Γ) (i:Nat) (hi:Γ[i]?=some (MapA enc encv b l)) (hu:P.underlying t=some (.map kt vt)) (K:KeyT P kt enc) (k:κ) (v:ν) :
  ∃ w',(Instr.mapUpdate t (.map (some b)) (enc k) (encv v)).run P w=.ok () w'∧Ext w w'∧St w' M F (Γ.set i (MapA enc encv b (mput l k v))):=by
 obtain ⟨es,clock,hb,B,hp,hc⟩:=S.map_born i hi;have hf:=JH K B k w;have hlen:es.size=l.length:=by have:=congrArg List.length B;simpa using this
 unfold mput
 cases E:findAt k (l.map (·.1)) 0 with
 | none =>
  rw [E] at hf
  obtain ⟨hr,hS,hE⟩:=S.map_set (P:=P) i hi (l':=l++[(k,v)]) (es.push { key:=enc k,val:=encv v,born:=clock }) (clock+1) (by simp [B]) (by
   simp only [Array.toList_push,List.map_append,List.map_cons,List.map_nil];rw [List.pairwise_append];exact ⟨hp,by simp,fun a ha c hcc=>by simp at hcc;subst hcc;exact hc a ha⟩) (by
   simp only [Array.toList_push,List.map_append,List.map_cons,List.map_nil,List.mem_append,List.mem_singleton];rintro n (h | h)
   ·have:=hc n h;omega
   ·omega)
  refine ⟨_,?_,hE,hS⟩;simp [Instr.mapUpdate,run_underlying hu,Vw hb,K.chk,hf,Result.andThen,hr]
 | some j =>
  rw [E] at hf;obtain ⟨_,V,W⟩:=UA E;have H:j<l.length:=by simpa using V
  have G:l[j]?=some l[j]:=List.getElem?_eq_getElem H;have Y:l[j].1=k:=by simpa [List.getElem?_map,G] using W
  have O:j<es.size:=by omega
  have U:es[j]?=some es[j]:=Array.getElem?_eq_getElem O
  have Z:(es[j]).key=enc k:=by
   have:=congrArg (fun z=>z[j]?) (K0 B)
   simpa [List.getElem?_map,G,U,Y] using this
  rw [Option.bind_some,G] at hf;have hml:(es.modify j fun e=>{ e with key:=enc k,val:=encv v }).toList=es.toList.modify j fun e=>{ e with key:=enc k,val:=encv v }:=by simp
  obtain ⟨hr,hS,hE⟩:=S.map_set (P:=P) i hi (l':=l.set j (k,v)) (es.modify j fun e=>{ e with key:=enc k,val:=encv v }) clock (by
   rw [hml]
   apply List.ext_getElem?
   intro m;have hm:=congrArg (fun z=>z[m]?) B;simp only [List.getElem?_map] at hm ⊢;rw [List.getElem?_modify,List.getElem?_set]
   by_cases e:j=m
   ·subst e;simp [H,O]
   ·simp only [e,if_false,Option.map_eq_map,Option.map_map,Function.comp_def];exact hm) (by
   have:(es.modify j fun e=>{ e with key:=enc k,val:=encv v }).toList.map (·.born)=es.toList.map (·.born):=by
    rw [hml]
    apply List.ext_getElem?
    intro m;simp only [List.getElem?_map];rw [List.getElem?_modify]
    cases hx:es.toList[m]? with
    | none=>simp
    | some x=>by_cases e:j=m<;>simp [e]
   rw [this];exact hp) (by
   have:(es.modify j fun e=>{ e with key:=enc k,val:=encv v }).toList.map (·.born)=es.toList.map (·.born):=by
    rw [hml]
    apply List.ext_getElem?
    intro m;simp only [List.getElem?_map];rw [List.getElem?_modify]
    cases hx:es.toList[m]? with
    | none=>simp
    | some x=>by_cases e:j=m<;>simp [e]
   rw [this];exact hc)
  refine ⟨_,?_,hE,hS⟩;simp [Instr.mapUpdate,run_underlying hu,Vw hb,K.chk,hf,Result.andThen,U,Z,Instr.keyThatStays,K.bits,hr]
theorem qE (S:St w M F Γ) (t:TypeId) (enc:κ→Value) (encv:ν→Value):(Instr.makeMap t none).run P w=.ok (.map (some w.heap.size)) (w.alloc (.map #[] 0))∧St (w.alloc (.map #[] 0)) M F (MapA enc encv w.heap.size []::Γ)∧Ext w (w.alloc (.map #[] 0)):=by
 refine ⟨by simp [Instr.makeMap,Result.andThen,run_newObj],S.alloc _ _ ⟨#[],0,by simp [Hp.single],rfl,by simp,by simp⟩,Ext.alloc _ _⟩
end
def mb (A:Option Addr):Option Nat:=A.map (·.block)
def Y3 {κ ν:Type} (enc:κ→Value) (encv:ν→Value) (A:Option Addr) (l:List (κ×ν)):Asr :=
 ⟨fun _ h=>∃ b,A=some ⟨b,0,none⟩∧MapAt enc encv h b l,fun _ h=>h⟩
theorem ZH {κ ν:Type} {enc:κ→Value} {encv:ν→Value} {A:Option Addr} {l:List (κ×ν)}:∀ M M' h:Hp,(Y3 enc encv A l).sat M h→(Y3 enc encv A l).sat M' h:=fun _ _ _ h=>h
section
variable {rn:Rd} {P:Program} {N:Nat} {ops:Array Oper} {Q:Post} {rest:List Oper} {ρ:Rho} {w:World} {M F:Hp} {Γ:List Asr} {x y u:Operand} {t kt vt ty t2:TypeId} {ps:String} {af:Array Edge} {g:Option (Nat×Bool)} {dst:Option Tmp} {d:Nat}
variable {κ ν:Type} [DecidableEq κ] {enc:κ→Value} {encv:ν→Value} {l:List (κ×ν)} {A:Option Addr}
theorem St.mapC (S:St w M F Γ) (i:Nat) (hi:Γ[i]?=some (Y3 enc encv A l)):∃ b,A=some ⟨b,0,none⟩∧St w M F (Γ.set i (MapA enc encv b l)):=by
 obtain ⟨E,⟨b,B,es,clock,hb,hm⟩,hle,hch⟩:=S.change i hi;refine ⟨b,B,hch w _ (Hp.single b (.map es clock)) ⟨es,clock,by simp [Hp.single],hm⟩ (Hp.single_le.2 (hle _ _ hb)) (fun c o h _=>h) (fun c o h=>?_)⟩;simp only [Hp.single] at h
 split at h
 ·rename_i ec;subst ec;left;rw [hb];simp
 ·cases h
theorem St.mapA (S:St w M F Γ) (i:Nat) {b:Nat} (hi:Γ[i]?=some (MapA enc encv b l)) (B:A=some ⟨b,0,none⟩):St w M F (Γ.set i (Y3 enc encv A l)):=by
 obtain ⟨E,⟨es,clock,hb,hm⟩,hle,hch⟩:=S.change i hi;refine hch w _ (Hp.single b (.map es clock)) ⟨b,B,es,clock,by simp [Hp.single],hm⟩ (Hp.single_le.2 (hle _ _ hb)) (fun c o h _=>h) (fun c o h=>?_);simp only [Hp.single] at h
 split at h
 ·rename_i ec;subst ec;left;rw [hb];simp
 ·cases h
theorem Uv {α:Type} {l:List α} {i:Nat} {a b:α} (h:l[i]?=some a):(l.set i b)[i]?=some b:=by
 have:=(List.getElem?_eq_some_iff.1 h).1;simp [this]
theorem qj (S:St w M F Γ) (i:Nat) (hi:Γ[i]?=some (Y3 enc encv A l)) (hu:P.underlying t=some (.map kt vt)) (K:KeyT P kt enc) (zv:ν) (hz:∀ w:World,(zeroValue vt).run P w=.ok (encv zv) w) (k:κ)
  (hx:evR ρ x=.map (mb A)) (hy:evR ρ y=enc k):(execOp (evR ρ) ⟨dst,.lookup t x y true,ty,ps,af,g⟩).run P w=.ok (.value (.tuple #[encv ((mget l k).getD zv),.bool (mget l k).isSome])) w:=by
 obtain ⟨b,rfl,S'⟩:=S.mapC i hi;have:=Jz S' i (Uv hi) hu K hz k true;have e:((mget l k).map encv).getD (encv zv)=encv ((mget l k).getD zv):=by cases mget l k<;>rfl
 simp only [execOp,hx,hy,mb,Option.map_some,Sem.run_bind,this,Result.andThen_ok,Sem.run_pure,if_true,e]
theorem V4 (S:St w M F Γ) (i:Nat) (hi:Γ[i]?=some (Y3 enc encv A l)) (hu:P.underlying t=some (.map kt vt)) (K:KeyT P kt enc) (zv:ν) (hz:∀ w:World,(zeroValue vt).run P w=.ok (encv zv) w) (k:κ)
  (hx:evR ρ x=.map (mb A)) (hy:evR ρ y=enc k):(execOp (evR ρ) ⟨dst,.lookup t x y false,ty,ps,af,g⟩).run P w=.ok (.value (encv ((mget l k).getD zv))) w:=by
 obtain ⟨b,rfl,S'⟩:=S.mapC i hi;have:=Jz S' i (Uv hi) hu K hz k false;have e:((mget l k).map encv).getD (encv zv)=encv ((mget l k).getD zv):=by cases mget l k<;>rfl
 simp only [execOp,hx,hy,mb,Option.map_some,Sem.run_bind,this,Result.andThen_ok,Sem.run_pure,Bool.false_eq_true,if_false,e]
theorem QAf (S:St w M F Γ) (i:Nat) (hi:Γ[i]?=some (Y3 enc encv A l)) (hu:P.underlying t=some (.map kt vt)) (hx:evR ρ x=.map (mb A)) :
  (execOp (evR ρ) ⟨dst,.call ⟨.builtin .len,#[x],#[t]⟩,ty,ps,af,g⟩).run P w=.ok (.value (.int .i64 (l.length:Int))) w:=by
 obtain ⟨b,rfl,S'⟩:=S.mapC i hi;have:=qF S' i (Uv hi) hu ty;simp [execOp,resolve,invoke,builtin,hx,mb,this,Result.andThen]
theorem Uu (S:St w M F Γ) (i:Nat) (hi:Γ[i]?=some (Y3 enc encv A l)) (hu:P.underlying t=some (.map kt vt)) (K:KeyT P kt enc) (k:κ) (v:ν) {l':List (κ×ν)} (hl':mput l k v=l')
  (hx:evR ρ x=.map (mb A)) (hy:evR ρ y=enc k) (hv:evR ρ u=encv v) (C:∀ w',Ext w w'→St w' M F (Γ.set i (Y3 enc encv A l'))→Wl rn P N ops Q rest ρ w'):Wl rn P N ops Q (⟨none,.mapUpdate t x y u,ty,ps,af,none⟩::rest) ρ w:=by
 subst hl';obtain ⟨b,rfl,S'⟩:=S.mapC i hi;obtain ⟨w',hr,hE,E⟩:=KP S' i (Uv hi) hu K k v;have B:=E.mapA (A:=some ⟨b,0,none⟩) i (Uv (Uv hi)) rfl;rw [List.set_set,List.set_set] at B;refine JK rfl rfl (w':=w') ?_ hE (C w' hE B);simp only [execOp,hx,hy,hv,mb,Option.map_some,Sem.run_bind,hr,Result.andThen_ok,Sem.run_pure]
theorem JZ (enc:κ→Value) (encv:ν→Value) (S:St w M F Γ) (hd:Nat.blt d N=true)
  (C:∀ b w',Ext w w'→St w' M F (Y3 enc encv (some ⟨b,0,none⟩) []::Γ)→Wl rn P N ops Q rest (upd ρ d (.map (mb (some ⟨b,0,none⟩)))) w'):Wl rn P N ops Q (⟨some d,.makeMap t none,ty,ps,af,none⟩::rest) ρ w:=by
 obtain ⟨hr,B,hE⟩:=qE (P:=P) S t enc encv;have E:=B.mapA (A:=some ⟨w.heap.size,0,none⟩) 0 rfl rfl;refine UC (.map (some w.heap.size)) rfl rfl hd (w':=w.alloc (.map #[] 0)) ?_ hE (C w.heap.size _ hE E);simp only [execOp,Option.map_none,Sem.run_bind,hr,Result.andThen_ok,Sem.run_pure]
theorem QAc {o:Oper} {w':World} (v:Value) (hg:o.guard=none) (ho:o.dst=none) (hr:(execOp (evR ρ) o).run P w=.ok (.value v) w') (hE:Ext w w') (h:Wl rn P N ops Q rest ρ w') (hdf:isDefer o.op=false:=by rfl):Wl rn P N ops Q (o::rest) ρ w:=fun a ha=>by
 simp only [wpListIn,Region.wanted,hg,if_true];refine ⟨fun _ _=>trivial,?_⟩;rw [UD hdf,ha.eval,hr];show wpListIn (Fw rn.lp) 0 P ops _ rest (a.put o.dst v) w';rw [ho];exact h _ (ha.ext hE)
end
end Go.Proofs.YtnjbjpaiepefoaaGreatDoor
