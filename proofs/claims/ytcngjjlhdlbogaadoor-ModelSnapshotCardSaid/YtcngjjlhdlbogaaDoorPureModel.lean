import Derived.Test.YtcngjjlhdlbogaaDoorPureBase
namespace Go.Proofs.YtcngjjlhdlbogaaDoor
open Go Go.RowKit
set_option linter.unusedVariables false
set_option linter.unusedSimpArgs false
set_option maxRecDepth 100000
abbrev Mod:=model_Model
abbrev nil_row:model_row:=⟨[],⟨0,0,false,[]⟩⟩
def rowOf (m:Mod) (key:Str):model_row:=(mget m.rows key).getD nil_row
def ans (e:Int):api_Answer:=⟨e,false,[],[]⟩
structure Inv (n:Nat) (m:Mod):Prop where
 nd:(m.rows.map (·.1)).Nodup
 nm:∀ x w,mget m.names x=some w→1≤w∧w≤(m.txs.length:Int)
 tl:m.txs.length≤n
 rl:m.rows.length≤n
 vl:∀ p∈m.rows,p.2.l.length≤n
 ck:0≤m.clock∧m.clock≤(n:Int)
 mn:∀ t,0≤(mget m.many t).getD 0∧(mget m.many t).getD 0≤(n:Int)
 wp:∀ p∈m.rows,0≤p.2.intent.Writer
theorem Inv.row {n:Nat} {m:Mod} (I:Inv n m) (key:Str):(rowOf m key).l.length≤n∧0≤(rowOf m key).intent.Writer:=by
 unfold rowOf
 cases h:mget m.rows key with
 | none=>exact ⟨Nat.zero_le _,Int.le_refl _⟩
 | some r=>have:=mget_mem h;exact ⟨I.vl _ this,I.wp _ this⟩
theorem Inv.mono {n n':Nat} {m:Mod} (I:Inv n m) (h:n≤n'):Inv n' m :=
 ⟨I.nd,I.nm,by have:=I.tl;omega,by have:=I.rl;omega,fun p hp=>by have:=I.vl p hp;omega,by have:=I.ck;omega,fun t=>by have:=I.mn t;omega,I.wp⟩
def txS (m:Mod) (t n:Int):Int×Int×Int:=match mget m.names ⟨t,n⟩ with
 | none=>(0,0,0)
 | some w=>(w,(rd m.txs (w-1)).state,(rd m.txs (w-1)).snapshot)
theorem Tx_eq {n:Nat} {m:Mod} (I:Inv n m) (hn:n≤1000000) (k:Nat) (t x:Int):model_Model_Tx_POOOO k m t x=some (txS m t x):=by
 unfold model_Model_Tx_POOOO txS
 cases h:mget m.names ⟨t,x⟩ with
 | none=>simp
 | some w =>
  have h1:=I.nm _ _ h
  have h2:=I.tl
  have e:=wr (x:=w-1) (by omega) (by omega)
  simp only [Option.getD_some,Option.isSome_some,Bool.not_true,Bool.false_eq_true,if_false,e]
  rw [if_pos ⟨by omega,by omega⟩]
def needsB (k:Int):Bool:=((k != (1:Int))&&(k != (8:Int)))&&(k != (9:Int))
def fitsB (c:api_Config) (x:api_Call):Bool :=
 if x.Kind=2∨x.Kind=4 then keyB c x.Key else if x.Kind=3 then keyB c x.Key&&valB c x.Value else if x.Kind=5 then bndB c x.Key&&bndB c x.End&&decide (x.Limit≥0)&&decide (x.Limit≤128) else true
theorem fits_eq {m:Mod} {x:api_Call} (k:Nat) (hk:9≤k):model_Model_fits_POOOO k m x=some (fitsB m.c x):=by
 simp only [model_Model_fits_POOOO,fitsB,Key_eq k _ _ hk,Value_eq k _ _ hk,Bound_eq k _ _ hk,Option.bind_some]
 by_cases h2:x.Kind=2
 ·simp [h2]
 by_cases h4:x.Kind=4
 ·simp [h4]
 by_cases h3:x.Kind=3
 ·simp [h3];cases keyB m.c x.Key<;>simp
 by_cases h5:x.Kind=5
 ·simp [h5];cases bndB m.c x.Key<;>simp
 simp [h2,h3,h4,h5]
def refS (m:Mod) (t:Int) (x:api_Call):Int :=
 if t<0∨t≥m.c.Tasks∨x.Kind<1∨x.Kind>9 then 1 else if x.Kind=9∧x.Engine≠1∧x.Engine≠2 then 1
 else if needsB x.Kind=true∧(txS m t x.Tx).2.1≠1 then (if (txS m t x.Tx).2.1=0 then 30 else 31) else if fitsB m.c x=true then 0 else 32
theorem Refused_eq {n:Nat} {m:Mod} (I:Inv n m) (hn:n≤1000000) (k:Nat) (hk:9≤k) (t:Int) (x:api_Call):model_Model_Refused_POOOO k m t x=some (refS m t x):=by
 simp only [model_Model_Refused_POOOO,Tx_eq I hn,fits_eq k hk,Option.bind_some,model_needs,refS]
 by_cases h1:t<0∨t≥m.c.Tasks∨x.Kind<1∨x.Kind>9
 ·rw [if_pos h1,if_pos];simpa [or_assoc] using h1
 ·rw [if_neg h1,if_neg (by simpa [or_assoc] using h1)]
  by_cases h2:x.Kind=9∧x.Engine≠1∧x.Engine≠2
  ·rw [if_pos h2,if_pos (by simpa [and_assoc] using h2)]
  ·rw [if_neg h2,if_neg (by simpa [and_assoc] using h2)]
   show (if needsB x.Kind=true then _ else _)=_
   cases hq:needsB x.Kind with
   | false=>simp;cases fitsB m.c x<;>simp
   | true =>
    by_cases h3:(txS m t x.Tx).2.1=1
    ·simp [h3];cases fitsB m.c x<;>simp
    ·simp [h3];split<;>rfl
def activeN (m:Mod):Nat:=(m.txs.filter fun x=>decide (x.state=1)).length
theorem Active_l0 (m:Mod) (hl:m.txs.length≤1000000):∀ (j i:Nat) (s:Nat),i+j=m.txs.length→s≤i→∀ k,j<k→model_Model_Active_POOOO_l0 m k (s:Int) (i:Int)=some ((s+((m.txs.drop i).filter fun x=>decide (x.state=1)).length:Nat):Int):=by
 intro j
 induction j with
 | zero =>
  intro i s hi hs k hk
  obtain ⟨k,rfl⟩:∃ k',k=k'+1:=⟨k-1,by omega⟩
  rw [model_Model_Active_POOOO_l0.eq_2,List.drop_of_length_le (by omega)]
  have:¬ ((i:Int)<(m.txs.length:Int)):=by omega
  simp [this]
 | succ j ih =>
  intro i s hi hs k hk
  obtain ⟨k,rfl⟩:∃ k',k=k'+1:=⟨k-1,by omega⟩
  have hlt:i<m.txs.length:=by omega
  have h1:(i:Int)<(m.txs.length:Int):=by omega
  rw [model_Model_Active_POOOO_l0.eq_2,List.drop_eq_getElem_cons hlt,List.filter_cons]
  simp only [h1,decide_true,if_true,inR hlt,and_self,rdN hlt,wr1 (i:=i) (by omega),wr1 (i:=s) (by omega)]
  by_cases hc:m.txs[i].state=1
  ·simp only [hc,beq_self_eq_true,if_true,Option.bind_some,decide_true,List.length_cons]
   rw [ih (i+1) (s+1) (by omega) (by omega) k (by omega)]
   congr 2;omega
  ·have hb:(m.txs[i].state==(1:Int))=false:=by simpa using hc
   simp only [hb,hc,Bool.false_eq_true,if_false,Option.bind_some,decide_false]
   exact ih (i+1) s (by omega) (by omega) k (by omega)
theorem Active_ev {n:Nat} {m:Mod} (I:Inv n m) (hn:n≤1000000):Ev (fun k=>model_Model_Active_POOOO k m) (activeN m:Int):=by
 have:=I.tl
 refine ⟨m.txs.length+1,fun k hk=>?_⟩
 have h:=Active_l0 m (by omega) m.txs.length 0 0 (by omega) (by omega) k (by omega)
 simp only [model_Model_Active_POOOO]
 rw [show (0:Int)=((0:Nat):Int) from rfl,h]
 simp [activeN]
def beginS (m:Mod) (t:Int):api_Answer×Mod :=
 if (activeN m:Int)≥m.c.Active then (ans 34,m)
 else (ans 0,{ m with txs:=m.txs++[⟨1,m.clock⟩],many:=mput m.many t ((mget m.many t).getD 0+1),names:=mput m.names ⟨t,(mget m.many t).getD 0+1⟩ ((m.txs.length:Int)+1) })
theorem begin_ev {n:Nat} {m:Mod} (I:Inv n m) (hn:n≤1000000) (w t:Int) (x:api_Call):Ev (fun k=>model_Model_begin_POOOO k m w t x) (beginS m t):=by
 unfold model_Model_begin_POOOO
 refine (Active_ev I hn).bind ?_
 have h1:=I.tl
 have h2:=I.mn t
 have e:=wr (x:=(mget m.many t).getD 0+1) (by omega) (by omega)
 by_cases h:(activeN m:Int)≥m.c.Active
 ·refine Ev.pos (by simpa using h) ?_
  simp only [beginS,if_pos h];exact Ev.pure _
 ·refine Ev.neg (by simpa using h) ?_
  refine Ev.pos (by simp;omega) ?_
  simp only [Option.bind_some,e,mget_mput,if_pos,Option.getD_some,beginS,if_neg h]
  refine (Ev.pure _).eq ?_
  simp [ans]
def seeS (m:Mod) (w:Int) (r:model_row):Str×Bool:=if r.intent.Writer=w then (r.intent.Value,!r.intent.Tomb) else ((seen r.l (rd m.txs (w-1)).snapshot).1.Value,(seen r.l (rd m.txs (w-1)).snapshot).2)
theorem see_ev {m:Mod} {w:Int} (h1:1≤w) (h2:w≤(m.txs.length:Int)) (h3:m.txs.length≤1000000) {r:model_row} (h4:r.l.length≤1000000):Ev (fun k=>model_Model_see_POOOO k m w r) (seeS m w r):=by
 unfold model_Model_see_POOOO seeS
 have e:=wr (x:=w-1) (by omega) (by omega)
 by_cases h:r.intent.Writer=w
 ·rw [if_pos h];exact Ev.pos (by simpa using h) (Ev.pure _)
 ·rw [if_neg h]
  refine Ev.neg (by simpa using h) ?_
  simp only [e]
  refine Ev.pos ⟨by omega,by omega⟩ ?_
  refine Ev.bind (v:=((seen r.l (rd m.txs (w-1)).snapshot).1.Writer,(seen r.l (rd m.txs (w-1)).snapshot).1.TS,(seen r.l (rd m.txs (w-1)).snapshot).1.Tomb,(seen r.l (rd m.txs (w-1)).snapshot).1.Value,(seen r.l (rd m.txs (w-1)).snapshot).2)) ((Seen_ev h4).bind (Ev.pure _)) (Ev.pure _)
def getS (m:Mod) (w:Int) (x:api_Call):api_Answer:=if (seeS m w (rowOf m x.Key)).2=true then ⟨0,true,(seeS m w (rowOf m x.Key)).1,[]⟩ else ans 0
theorem get_ev {n:Nat} {m:Mod} (I:Inv n m) (hn:n≤1000000) {w:Int} (h1:1≤w) (h2:w≤(m.txs.length:Int)) (t:Int) (x:api_Call):Ev (fun k=>model_Model_get_POOOO k m w t x) (getS m w x):=by
 unfold model_Model_get_POOOO
 have h3:=I.tl
 have h4:=(I.row x.Key).1
 refine (see_ev h1 h2 (by omega) (r:=rowOf m x.Key) (by omega)).bind ?_
 unfold getS
 cases (seeS m w (rowOf m x.Key)).2 with
 | false=>exact Ev.pos (by simp) (Ev.pure _)
 | true=>exact Ev.neg (by simp) (Ev.pure _)
def writeS (m:Mod) (key:Str) (v:api_Version):api_Answer×Mod :=
 let r:=rowOf m key
 if (r.intent.Writer≠v.Writer∧r.intent.Writer≠0)∨clash r.l (rd m.txs (v.Writer-1)).snapshot=true then (ans 33,m)
 else if v.Tomb=true∧(seeS m v.Writer r).2=false then (ans 0,m)
 else if r.intent.Writer=0∧(r.l=[]∧(m.rows.length:Int)≥m.c.Keys∨(r.l.length:Int)≥m.c.Depth) then (ans 34,m)
 else (⟨0,v.Tomb,[],[]⟩,{ m with rows:=mput m.rows key ⟨r.l,v⟩ })
theorem write_ev {n:Nat} {m:Mod} (I:Inv n m) (hn:n≤1000000) (key:Str) (v:api_Version) (h1:1≤v.Writer) (h2:v.Writer≤(m.txs.length:Int)):Ev (fun k=>model_Model_write_POOOO k m key v) (writeS m key v):=by
 have h3:=I.tl
 have h4:=(I.row key).1
 have e:=wr (x:=v.Writer-1) (by omega) (by omega)
 unfold model_Model_write_POOOO
 simp only [e]
 change Ev (fun k=>Option.bind (if ((!((rowOf m key).intent.Writer==v.Writer))&&(!((rowOf m key).intent.Writer==(0:Int))))=true then _ else _) _) _
 by_cases c1:(rowOf m key).intent.Writer≠v.Writer∧(rowOf m key).intent.Writer≠0
 ·refine Ev.bind (v:=true) (Ev.pos (by simpa using c1) (Ev.pure _)) ?_
  refine Ev.pos rfl ?_
  simp only [writeS,if_pos (Or.inl c1)];exact Ev.pure _
 ·refine Ev.bind (v:=clash (rowOf m key).l (rd m.txs (v.Writer-1)).snapshot) (Ev.neg (by simpa using c1) (Ev.pos ⟨by omega,by omega⟩ (Clash_ev.bind (Ev.pure _)))) ?_
  cases c2:clash (rowOf m key).l (rd m.txs (v.Writer-1)).snapshot with
  | true =>
   refine Ev.pos rfl ?_
   simp only [writeS,c2,or_true,if_true];exact Ev.pure _
  | false =>
   refine Ev.neg (by simp) ?_
   refine (see_ev h1 h2 (by omega) (r:=rowOf m key) (by omega)).bind ?_
   have hno:¬ ((rowOf m key).intent.Writer≠v.Writer∧(rowOf m key).intent.Writer≠0∨clash (rowOf m key).l (rd m.txs (v.Writer-1)).snapshot=true):=by rw [c2];simpa using c1
   by_cases c3:v.Tomb=true∧(seeS m v.Writer (rowOf m key)).2=false
   ·refine Ev.pos (by simp [c3]) ?_
    simp only [writeS,if_neg hno,if_pos c3];exact Ev.pure _
   ·refine Ev.neg (by simpa using c3) ?_
    by_cases c4:(rowOf m key).intent.Writer=0∧((rowOf m key).l=[]∧(m.rows.length:Int)≥m.c.Keys∨((rowOf m key).l.length:Int)≥m.c.Depth)
    ·refine Ev.pos (by simpa [rowOf,List.length_eq_zero_iff] using c4) ?_
     simp only [writeS,if_neg hno,if_neg c3,if_pos c4];exact Ev.pure _
    ·refine Ev.neg (by simpa [rowOf,List.length_eq_zero_iff] using c4) ?_
     simp only [Option.bind_some,writeS,if_neg hno,if_neg c3,if_neg c4];exact Ev.pure _
end Go.Proofs.YtcngjjlhdlbogaaDoor
