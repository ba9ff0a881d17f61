import Derived.Test.YtcngjjlhdlbogaaDoorPureRef3
namespace Go.Proofs.YtcngjjlhdlbogaaDoor
open Go Go.RowKit
set_option linter.unusedVariables false
set_option linter.unusedSimpArgs false
set_option maxRecDepth 100000
def eachK (f:RK→RK) (L:List RK):List RK:=L.filterMap fun y=>if goneK (f y)=true then none else some (f y)
theorem VG {f:RK→RK} {L:List RK} {z:RK}:z∈eachK f L↔∃ y∈L,goneK (f y)=false∧z=f y:=by
 simp only [eachK,List.mem_filterMap]
 constructor
 ·rintro ⟨y,hy,h⟩
  split at h
  ·cases h
  ·next g=>exact ⟨y,hy,by simpa using g,(Option.some.inj h).symm⟩
 ·rintro ⟨y,hy,h1,h2⟩
  exact ⟨y,hy,by rw [if_neg (by simp [h1]),h2]⟩
theorem Ka (f:RK→RK) (L:List RK):(eachK f L).length≤L.length:=List.length_filterMap_le _ _
theorem Uk (f:RK→RK) (L:List RK) (y:RK):eachK f (L++[y])=eachK f L++(if goneK (f y)=true then [] else [f y]):=by
 unfold eachK
 rw [List.filterMap_append]
 cases h:goneK (f y)<;>simp [h]
theorem qD {L:List RK} {i:Nat} (h:i<L.length):L=L.take i++L[i]::L.drop (i+1):=by
 rw [← List.drop_eq_getElem_cons h,List.take_append_drop]
theorem Ub {f:RK→RK} (hf:∀ y,(f y).Key=y.Key) {L:List RK} (hso:L.Pairwise fun a b=>ltS a.Key b.Key=true) {i:Nat} (h:i<L.length) :
  setV (f L[i]) (eachK f (L.take i)++L[i]::L.drop (i+1))=eachK f (L.take (i+1))++L.drop (i+1):=by
 have hs:=hso
 rw [qD h] at hs
 have hp:=List.pairwise_append.1 hs
 have hq:=List.pairwise_cons.1 hp.2.1
 rw [J0 _ _ (fun z hz=>?_) (hf _).symm (fun z hz=>?_),List.take_succ_eq_append_getElem h,Uk,List.append_assoc]
 ·obtain ⟨y,hy,_,rfl⟩:=VG.1 hz
  rw [hf,hf];exact hp.2.2 y hy _ List.mem_cons_self
 ·rw [hf];exact hq.1 z hz
theorem qp (f:RK→RK) {L:List RK} {i:Nat} (h:i<L.length) (he:f L[i]=L[i]) (hg:goneK L[i]=false):eachK f (L.take i)++L.drop i=eachK f (L.take (i+1))++L.drop (i+1):=by
 rw [List.take_succ_eq_append_getElem h,Uk,he,hg,List.drop_eq_getElem_cons h];simp
theorem KB {f:RK→RK} (hf:∀ y,(f y).Key=y.Key) {L:List RK} (hk:∀ y∈L,y.Key.length≤64) (i:Nat):∀ y∈eachK f (L.take i)++L.drop i,y.Key.length≤64:=fun y hy=>by
 rcases List.mem_append.1 hy with h | h
 ·obtain ⟨z,hz,_,rfl⟩:=VG.1 h
  rw [hf];exact hk z (List.mem_of_mem_take hz)
 ·exact hk y (List.mem_of_mem_drop h)
theorem KA (f:RK→RK) (L:List RK) (i:Nat):(eachK f (L.take i)++L.drop i).length≤L.length:=by
 have:=Ka f (L.take i)
 rw [List.length_append,List.length_drop]
 rw [List.length_take] at this;omega
section
variable {n:Nat} {m:Mod} {x:RM}
theorem Rel.each (R:Rel m x) {one:Ql→Ql} {f:RK→RK} (hf:∀ y,(f y).Key=y.Key) (ho:∀ p∈m.rows,f (keyOf p)=keyOf (p.1,one p.2)) :
  (eachK f x.L).Pairwise (fun a b=>ltS a.Key b.Key=true)∧(∀ y,y∈eachK f x.L↔∃ p∈eachS one m.rows,y=keyOf p)∧(∀ y∈eachK f x.L,goneK y=false)∧(∀ y∈eachK f x.L,y.Key.length≤64):=by
 refine ⟨?_,fun y=>?_,fun y hy=>?_,fun y hy=>?_⟩
 ·unfold eachK
  refine List.pairwise_filterMap.2 (R.so.imp fun {a b} h u hu v hv=>?_)
  split at hu
  ·cases hu
  split at hv
  ·cases hv
  cases hu;cases hv
  rw [hf,hf];exact h
 ·rw [VG]
  constructor
  ·rintro ⟨z,hz,h1,rfl⟩
   obtain ⟨p,hp,rfl⟩:=(R.me z).1 hz
   rw [ho p hp] at h1 ⊢
   exact ⟨(p.1,one p.2),VW.2 ⟨p,hp,by rw [Vk] at h1;exact h1,rfl⟩,rfl⟩
  ·rintro ⟨q,hq,rfl⟩
   obtain ⟨p,hp,h1,rfl⟩:=VW.1 hq
   exact ⟨keyOf p,(R.me _).2 ⟨p,hp,rfl⟩,by rw [ho p hp,Vk];exact h1,(ho p hp).symm⟩
 ·obtain ⟨z,_,h1,rfl⟩:=VG.1 hy;exact h1
 ·obtain ⟨z,hz,_,rfl⟩:=VG.1 hy
  rw [hf];exact R.kl z hz
def endK (w ts:Int) (y:RK):RK:=if y.Has=true∧y.I.Writer=w then ⟨y.Key,if ts>0 then ⟨y.I.Writer,ts,y.I.Tomb,y.I.Value⟩::y.L else y.L,false,⟨0,0,false,[]⟩⟩ else y
theorem UR (w ts:Int) (y:RK):(endK w ts y).Key=y.Key:=by unfold endK;split<;>rfl
theorem qn {w:Int} (hw:1≤w) (ts:Int) (p:Str×Ql):endK w ts (keyOf p)=keyOf (p.1,endRow w ts p.2):=by
 by_cases h:p.2.intent.Writer=w
 ·have h0:p.2.intent.Writer≠0:=by omega
  have e:endRow w ts p.2=⟨if ts>0 then ⟨p.2.intent.Writer,ts,p.2.intent.Tomb,p.2.intent.Value⟩::p.2.l else p.2.l,⟨0,0,false,[]⟩⟩:=by unfold endRow;rw [if_neg (by simpa using h)]
  unfold endK
  rw [if_pos ⟨by simp [keyOf,h0],h⟩,e]
  simp [keyOf]
 ·have e:endRow w ts p.2=p.2:=by unfold endRow;rw [if_pos h]
  unfold endK
  rw [if_neg (fun q=>h q.2),e]
theorem qd (x:RM) (hso:x.L.Pairwise fun a b=>ltS a.Key b.Key=true) (hgo:∀ y∈x.L,goneK y=false) (hkl:∀ y∈x.L,y.Key.length≤64) (hl:x.L.length≤1000000) (hL:∀ y∈x.L,y.L.length≤1000000) (w ts:Int):∀ (j i:Nat) (xc:RM),i+j=x.L.length→xc.L=eachK (endK w ts) (x.L.take i)++x.L.drop i→∀ k,j+(x.L.length+65)<k→Zg x w ts k (i:Int) xc=some ⟨xc.C,xc.T,eachK (endK w ts) x.L,xc.Time,xc.Low⟩:=by
 intro j
 induction j with
 | zero =>
  intro i xc hi hx k hk
  obtain ⟨k,rfl⟩:∃ q,k=q+1:=⟨k-1,by omega⟩
  rw [List.take_of_length_le (by omega),List.drop_of_length_le (by omega),List.append_nil] at hx
  rw [Zg.eq_2,if_neg (by simp;omega),← hx]
 | succ j ih =>
  intro i xc hi hx k hk
  obtain ⟨k,rfl⟩:∃ q,k=q+1:=⟨k-1,by omega⟩
  have hlt:i<x.L.length:=by omega
  have hm:=List.getElem_mem hlt
  have hy:=hL _ hm
  rw [Zg.eq_2,if_pos (by simpa using hlt),if_pos (inR hlt),rdN hlt,wr1 (by omega)]
  by_cases c:x.L[i].Has=true∧x.L[i].I.Writer=w
  ·have e:endK w ts x.L[i]=⟨x.L[i].Key,if ts>0 then ⟨x.L[i].I.Writer,ts,x.L[i].I.Tomb,x.L[i].I.Value⟩::x.L[i].L else x.L[i].L,false,⟨0,0,false,[]⟩⟩:=by unfold endK;rw [if_pos c]
   have hset:Z2 k xc (endK w ts x.L[i])=some ⟨xc.C,xc.T,setV (endK w ts x.L[i]) xc.L,xc.Time,xc.Low⟩:=by
    rw [set_eq]
    have:=KA (endK w ts) x.L i
    exact Uv xc _ (by rw [hx];omega) (by rw [hx];exact KB (UR w ts) hkl i) k (by rw [hx];omega)
   rw [hx,List.drop_eq_getElem_cons hlt,Ub (UR w ts) hso hlt,e] at hset
   rw [if_neg (by simp [c.1,c.2])]
   have key:∀ xs v,(xs,v)=(if ts>0 then (⟨x.L[i].I.Writer,ts,x.L[i].I.Tomb,x.L[i].I.Value⟩::x.L[i].L,ts) else (x.L[i].L,x.L[i].I.TS))→xs=if ts>0 then ⟨x.L[i].I.Writer,ts,x.L[i].I.Tomb,x.L[i].I.Value⟩::x.L[i].L else x.L[i].L:=fun xs v h=>by
    split at h<;>cases h<;>simp_all
   by_cases ht:ts>0
   ·rw [if_pos (by simpa using ht),if_pos (by simp;omega),Option.bind_some]
    rw [if_pos ht] at hset
    simp only [List.cons_append,List.nil_append,hset,Option.bind_some]
    exact ih (i+1) ⟨xc.C,xc.T,eachK (endK w ts) (x.L.take (i+1))++x.L.drop (i+1),xc.Time,xc.Low⟩ (by omega) rfl k (by omega)
   ·rw [if_neg (by simpa using ht),Option.bind_some]
    rw [if_neg ht] at hset
    simp only [hset,Option.bind_some]
    exact ih (i+1) ⟨xc.C,xc.T,eachK (endK w ts) (x.L.take (i+1))++x.L.drop (i+1),xc.Time,xc.Low⟩ (by omega) rfl k (by omega)
  ·have e:endK w ts x.L[i]=x.L[i]:=by unfold endK;rw [if_neg c]
   rw [if_pos (by
    simp only [Bool.or_eq_true,Bool.not_eq_true',bne_iff_ne,ne_eq]
    cases h:x.L[i].Has
    ·exact .inl rfl
    ·exact .inr fun q=>c ⟨h,q⟩),Option.bind_some]
   exact ih (i+1) xc (by omega) (by rw [hx,qp _ hlt e (hgo _ hm)]) k (by omega)
theorem JS (t:Int):∀ (T:List RT) (i:Nat) (z:RT) (h:i<T.length),z.Task=T[i].Task→((T.set i z).filter fun z=>decide (z.Task=t)).length=(T.filter fun z=>decide (z.Task=t)).length
 | [],i,z,h,_=>by simp at h
 | y::T,0,z,h,e=>by
  have e:z.Task=y.Task:=e
  simp only [List.set_cons_zero,List.filter_cons,e]
  split<;>rfl
 | y::T,i+1,z,h,e=>by
  have ih:=JS t T i z (by simpa using h) (by simpa using e)
  simp only [List.set_cons_succ,List.filter_cons]
  split
  ·rw [List.length_cons,List.length_cons,ih]
  ·exact ih
theorem Rel.lens (R:Rel m x) (I:Inv n m) (hn:n≤1000000):∀ y∈x.L,y.L.length≤1000000:=fun y hy=>by
 obtain ⟨p,hp,rfl⟩:=(R.me y).1 hy
 have:=I.vl p hp
 show p.2.l.length≤_;omega
theorem Rel.end_ev (R:Rel m x) (I:Inv n m) (hn:n≤1000000) {w:Int} (h1:1≤w) (h2:w≤(m.txs.length:Int)) (st ts:Int):∃ x',Ev (fun k=>Q7 k x w st ts) x'∧Rel (endS m w st ts) x':=by
 have h3:=I.tl
 have h4:=R.tlen
 have hll:=R.llen I
 have hrl:=I.rl
 obtain ⟨i,hi⟩:=Int.eq_ofNat_of_zero_le (show 0≤w-1 by omega)
 have hlt:i<x.T.length:=by omega
 generalize hz:(⟨x.T[i].Task,x.T[i].N,st,x.T[i].Snapshot⟩:RT)=z
 have zt:z.Task=x.T[i].Task:=by rw [← hz]
 have zn:z.N=x.T[i].N:=by rw [← hz]
 refine ⟨⟨x.C,x.T.set i z,eachK (endK w ts) x.L,x.Time,x.Low⟩,?_,?_⟩
 ·refine ⟨x.L.length+x.L.length+66,fun k hk=>?_⟩
  show Q7 k x w st ts=_
  unfold Q7
  rw [wr (x:=w-1) (by omega) (by omega),hi,List.nil_append,if_pos (by simp;omega),if_pos ⟨by omega,by omega⟩,rdN hlt,hz,Option.bind_some]
  have:=qd x R.so R.go R.kl (by omega) (R.lens I hn) w ts x.L.length 0 ⟨x.C,x.T.set i z,x.L,x.Time,x.Low⟩ (by omega) (by simp [eachK]) k (by omega)
  have e0:Zg x w ts k (0:Int) ⟨x.C,x.T.set i z,x.L,x.Time,x.Low⟩=some ⟨x.C,x.T.set i z,eachK (endK w ts) x.L,x.Time,x.Low⟩:=this
  exact (congrArg (fun o=>Option.bind o fun x652=>some x652) e0)
 ·obtain ⟨a1,a2,a3,a4⟩:=R.each (one:=endRow w ts) (f:=endK w ts) (UR w ts) (fun p _=>qn h1 ts p)
  have gT:∀ (j:Nat) (h:j<(x.T.set i z).length),(x.T.set i z)[j].Task=(x.T[j]'(by simpa using h)).Task∧(x.T.set i z)[j].N=(x.T[j]'(by simpa using h)).N:=fun j h=>by
   rw [List.getElem_set]
   by_cases q:i=j
   ·subst q;rw [if_pos rfl];exact ⟨zt,zn⟩
   ·rw [if_neg q];exact ⟨rfl,rfl⟩
  refine ⟨R.c,?_,fun j h=>?_,fun k v hv=>?_,fun j h=>?_,fun t=>?_,a1,a2,a3,a4,R.ti,R.lo⟩
  ·show (x.T.set i z).map _=m.txs.set (w-1).toNat ⟨st,(rd m.txs (w-1)).snapshot⟩
   rw [List.map_set,R.t,hi,R.tx hlt,← hz];rfl
  ·have h:j<(x.T.set i z).length:=h
   have:=R.n1 j (by simpa using h)
   show mget m.names ⟨(x.T.set i z)[j].Task,(x.T.set i z)[j].N⟩=_
   rw [(gT j h).1,(gT j h).2];exact this
  ·obtain ⟨j,h,b1,b2,b3⟩:=R.n2 k v hv
   have h':j<(x.T.set i z).length:=by simpa using h
   exact ⟨j,h',b1,by show (x.T.set i z)[j].Task=_;rw [(gT j h').1];exact b2,by show (x.T.set i z)[j].N=_;rw [(gT j h').2];exact b3⟩
  ·have h:j<(x.T.set i z).length:=h
   show (x.T.set i z)[j].N≤(mget m.many (x.T.set i z)[j].Task).getD 0
   rw [(gT j h).1,(gT j h).2];exact R.n3 j (by simpa using h)
  ·show _=(((x.T.set i z).filter fun z=>decide (z.Task=t)).length:Int)
   rw [JS t x.T i z hlt zt];exact R.mn t
theorem qe (x:RM) (hl:x.L.length≤1000000) (w:Int):∀ (j i:Nat) (b:Bool),i+j=x.L.length→∀ k,j<k→ZI x w k b (i:Int)=some (b||(x.L.drop i).any fun y=>y.Has&&(y.I.Writer==w)):=by
 intro j
 induction j with
 | zero =>
  intro i b hi k hk
  obtain ⟨k,rfl⟩:∃ q,k=q+1:=⟨k-1,by omega⟩
  rw [ZI.eq_2,if_neg (by simp;omega),List.drop_of_length_le (by omega)];simp
 | succ j ih =>
  intro i b hi k hk
  obtain ⟨k,rfl⟩:∃ q,k=q+1:=⟨k-1,by omega⟩
  have hlt:i<x.L.length:=by omega
  rw [ZI.eq_2,if_pos (by simpa using hlt),if_pos (inR hlt),if_pos (inR hlt),rdN hlt,wr1 (by omega),List.drop_eq_getElem_cons hlt,List.any_cons,← Bool.or_assoc]
  cases b
  ·cases hH:x.L[i].Has
   ·simp only [Bool.false_eq_true,if_false,Option.bind_some,Bool.false_and,Bool.or_self]
    exact ih (i+1) _ (by omega) k (by omega)
   ·simp only [Bool.false_eq_true,if_false,if_true,Option.bind_some,Bool.true_and,Bool.false_or]
    exact ih (i+1) _ (by omega) k (by omega)
  ·simp only [if_true,Option.bind_some,Bool.true_or]
   have:=ih (i+1) true (by omega) k (by omega)
   simpa using this
theorem Rel.any_eq (R:Rel m x) {w:Int} (hw:1≤w):(x.L.any fun y=>y.Has&&(y.I.Writer==w))=m.rows.any fun p=>p.2.intent.Writer==w:=by
 rw [Bool.eq_iff_iff,List.any_eq_true,List.any_eq_true]
 constructor
 ·rintro ⟨y,hy,h⟩
  obtain ⟨p,hp,rfl⟩:=(R.me y).1 hy
  exact ⟨p,hp,by simp [keyOf] at h;simp [h.2]⟩
 ·rintro ⟨p,hp,h⟩
  have h:p.2.intent.Writer=w:=by simpa using h
  exact ⟨keyOf p,(R.me _).2 ⟨p,hp,rfl⟩,by simp [keyOf,h];omega⟩
theorem Rel.tick (R:Rel m x):Rel { m with clock:=m.clock+1 } ⟨x.C,x.T,x.L,x.Time+1,x.Low⟩ :=
 ⟨R.c,R.t,R.n1,R.n2,R.n3,R.mn,R.so,R.me,R.go,R.kl,by show x.Time+1=m.clock+1;rw [R.ti],R.lo⟩
theorem Rel.commit_ev (R:Rel m x) (I:Inv n m) (hn:n<1000000) {w:Int} (h1:1≤w) (h2:w≤(m.txs.length:Int)):∃ x',Ev (fun k=>Zv k x w) ((commitS m w).1,x')∧Rel (commitS m w).2 x':=by
 have hll:=R.llen I
 have hrl:=I.rl
 have h5:=I.ck
 have hany:Ev (fun k=>ZI x w k false (0:Int)) (m.rows.any fun p=>p.2.intent.Writer==w):=by
  refine ⟨x.L.length+1,fun k hk=>?_⟩
  have h0:ZI x w k false (0:Int)=_:=qe x (by omega) w x.L.length 0 false (by omega) k (by omega)
  dsimp only
  rw [h0,List.drop_zero,Bool.false_or,R.any_eq h1]
 unfold Zv commitS
 cases hb:(m.rows.any fun p=>p.2.intent.Writer==w) with
 | false =>
  rw [hb] at hany
  obtain ⟨x',hx,hR⟩:=R.end_ev I (by omega) h1 h2 3 0
  rw [if_pos rfl]
  exact ⟨x',hany.bind (Ev.pos rfl (hx.bind (Ev.pure _))),hR⟩
 | true =>
  rw [hb] at hany
  rw [if_neg (by simp)]
  by_cases hc:m.clock=m.c.TS
  ·obtain ⟨x',hx,hR⟩:=R.end_ev I (by omega) h1 h2 4 0
   rw [if_pos hc]
   exact ⟨x',hany.bind (Ev.neg (by simp) (Ev.pos (by rw [R.ti,R.c];simpa using hc) (hx.bind (Ev.pure _)))),hR⟩
  ·obtain ⟨x',hx,hR⟩:=R.tick.end_ev I.clock (by omega) h1 h2 3 (m.clock+1)
   rw [if_neg hc]
   refine ⟨x',hany.bind (Ev.neg (by simp) (Ev.neg (by rw [R.ti,R.c];simpa using hc) ?_)),hR⟩
   rw [wr (x:=x.Time+1) (by rw [R.ti];omega) (by rw [R.ti];omega)]
   have hx':Ev (fun k=>Q7 k (⟨x.C,x.T,x.L,x.Time+1,x.Low⟩:RM) w 3 (x.Time+1)) x':=by rw [R.ti] at hx ⊢;exact hx
   exact hx'.bind (Ev.pure _)
theorem qc (x:RM) (hl:x.T.length≤1000000):∀ (j i:Nat) (f:Int),i+j=x.T.length→∀ k,j<k→ZP x k (i:Int) f=some (floorL ((x.T.drop i).map fun z=>(⟨z.State,z.Snapshot⟩:Z9)) f):=by
 intro j
 induction j with
 | zero =>
  intro i f hi k hk
  obtain ⟨k,rfl⟩:∃ q,k=q+1:=⟨k-1,by omega⟩
  rw [ZP.eq_2,if_neg (by simp;omega),List.drop_of_length_le (by omega)];rfl
 | succ j ih =>
  intro i f hi k hk
  obtain ⟨k,rfl⟩:∃ q,k=q+1:=⟨k-1,by omega⟩
  have hlt:i<x.T.length:=by omega
  rw [ZP.eq_2,if_pos (by simpa using hlt),if_pos (inR hlt),if_pos (inR hlt),if_pos (inR hlt),rdN hlt,wr1 (by omega),List.drop_eq_getElem_cons hlt,List.map_cons,floorL]
  by_cases c:x.T[i].State=1
  ·by_cases d:x.T[i].Snapshot<f
   ·have e:imin f x.T[i].Snapshot=x.T[i].Snapshot:=by unfold imin;split<;>omega
    simp only [c,d,beq_self_eq_true,decide_true,if_true,Option.bind_some,e]
    exact ih (i+1) _ (by omega) k (by omega)
   ·have e:imin f x.T[i].Snapshot=f:=by unfold imin;split<;>omega
    simp only [c,d,beq_self_eq_true,decide_false,Bool.false_eq_true,if_true,if_false,Option.bind_some,e]
    exact ih (i+1) _ (by omega) k (by omega)
  ·have hb:(x.T[i].State==(1:Int))=false:=by simpa using c
   simp only [hb,c,Bool.false_eq_true,if_false,Option.bind_some]
   exact ih (i+1) _ (by omega) k (by omega)
def vacK (f:Int) (y:RK):RK:=⟨y.Key,kept y.L f,y.Has,y.I⟩
theorem qZ (x:RM) (f:Int) (hso:x.L.Pairwise fun a b=>ltS a.Key b.Key=true) (hkl:∀ y∈x.L,y.Key.length≤64) (hl:x.L.length≤1000000) {B:Nat} (hB:B≤1000000) (hL:∀ y∈x.L,y.L.length≤B):∀ (j i:Nat) (xc:RM),i+j=x.L.length→xc.Low=f→xc.L=eachK (vacK f) (x.L.take i)++x.L.drop i→∀ k,j+(x.L.length+65+B)<k→ZO x k (i:Int) xc=some ⟨xc.C,xc.T,eachK (vacK f) x.L,xc.Time,xc.Low⟩:=by
 intro j
 induction j with
 | zero =>
  intro i xc hi hf hx k hk
  obtain ⟨k,rfl⟩:∃ q,k=q+1:=⟨k-1,by omega⟩
  rw [List.take_of_length_le (by omega),List.drop_of_length_le (by omega),List.append_nil] at hx
  rw [ZO.eq_2,if_neg (by simp;omega),← hx]
 | succ j ih =>
  intro i xc hi hf hx k hk
  obtain ⟨k,rfl⟩:∃ q,k=q+1:=⟨k-1,by omega⟩
  have hlt:i<x.L.length:=by omega
  have hy:=hL _ (List.getElem_mem hlt)
  have hset:ZC k xc (vacK f x.L[i])=some ⟨xc.C,xc.T,setV (vacK f x.L[i]) xc.L,xc.Time,xc.Low⟩:=by
   have:=KA (vacK f) x.L i
   exact Uv xc _ (by rw [hx];omega) (by rw [hx];exact KB (f:=vacK f) (fun _=>rfl) hkl i) k (by rw [hx];omega)
  rw [hx,List.drop_eq_getElem_cons hlt,Ub (f:=vacK f) (fun _=>rfl) hso hlt] at hset
  rw [ZO.eq_2,if_pos (by simpa using hlt),if_pos (inR hlt),rdN hlt,wr1 (by omega),hf,JG _ _ k (by omega) (by omega),Option.bind_some]
  have hset':ZC k xc (⟨x.L[i].Key,kept x.L[i].L f,x.L[i].Has,⟨x.L[i].I.Writer,x.L[i].I.TS,x.L[i].I.Tomb,x.L[i].I.Value⟩⟩:RK)=_:=hset
  rw [hset',Option.bind_some]
  have:=ih (i+1) ⟨xc.C,xc.T,eachK (vacK f) (x.L.take (i+1))++x.L.drop (i+1),xc.Time,xc.Low⟩ (by omega) hf rfl k (by omega)
  rw [this,hf]
theorem Rel.vac_ev (R:Rel m x) (I:Inv n m) (hn:n≤1000000):∃ x',Ev (fun k=>Zn k x) x'∧Rel (vacS m) x':=by
 have h3:=I.tl
 have h4:=R.tlen
 have hll:=R.llen I
 have hrl:=I.rl
 generalize hf:floorL m.txs m.clock=f
 refine ⟨⟨x.C,x.T,eachK (vacK f) x.L,x.Time,f⟩,⟨x.T.length+x.L.length+x.L.length+n+70,fun k hk=>?_⟩,?_⟩
 ·show Zn k x=_
  have h0:ZP x k (0:Int) x.Time=some f:=by
   have:=qc x (by omega) x.T.length 0 x.Time (by omega) k (by omega)
   rw [List.drop_zero,R.t,R.ti,hf] at this
   rw [R.ti];exact this
  have hL:∀ y∈x.L,y.L.length≤n:=fun y hy=>by
   obtain ⟨p,hp,rfl⟩:=(R.me y).1 hy
   exact I.vl p hp
  have h5:ZO x k (0:Int) ⟨x.C,x.T,x.L,x.Time,f⟩=some ⟨x.C,x.T,eachK (vacK f) x.L,x.Time,f⟩:=qZ x f R.so R.kl (by omega) hn hL x.L.length 0 ⟨x.C,x.T,x.L,x.Time,f⟩ (by omega) rfl (by simp [eachK]) k (by omega)
  unfold Zn
  rw [h0,Option.bind_some]
  exact (congrArg (fun o=>Option.bind o fun x652=>some x652) h5)
 ·obtain ⟨a1,a2,a3,a4⟩:=R.each (one:=keptRow f) (f:=vacK f) (fun _=>rfl) (fun p _=>rfl)
  unfold vacS
  rw [hf]
  exact ⟨R.c,R.t,R.n1,R.n2,R.n3,R.mn,a1,a2,a3,a4,R.ti,rfl⟩
end
end Go.Proofs.YtcngjjlhdlbogaaDoor
