import Derived.Test.YtcngjjlhdlbogaaDoorPureLog
namespace Go.Proofs.YtcngjjlhdlbogaaDoor
open Go Go.RowKit
set_option linter.unusedVariables false
set_option linter.unusedSimpArgs false
set_option maxRecDepth 100000
def hd3 (x:Life):Int×Int×Int:=(x.task,x.n,x.snapshot)
def lastW (l:List Fact) (y:Str):Option Fact:=l.reverse.find? fun f=>decide (f.key=y)
theorem lastW_app (l:List Fact) (f:Fact) (y:Str):lastW (l++[f]) y=if f.key=y then some f else lastW l y:=by
 unfold lastW
 rw [List.reverse_append,List.reverse_singleton,List.singleton_append,List.find?_cons]
 by_cases h:f.key=y<;>simp [h]
theorem lastW_some {l:List Fact} {y:Str} {f:Fact} (h:lastW l y=some f):f.key=y∧f∈l :=
 ⟨by simpa using List.find?_some h,List.mem_reverse.1 (List.mem_of_find?_eq_some h)⟩
theorem lastW_mem {l:List Fact} {f:Fact} (h:f∈l):∃ f',lastW l f.key=some f':=by
 cases hc:lastW l f.key with
 | some f'=>exact ⟨f',rfl⟩
 | none=>exact absurd (decide_eq_true (p:=f.key=f.key) rfl) (List.find?_eq_none.1 hc f (List.mem_reverse.2 h))
theorem lastW_nil (y:Str):lastW [] y=none:=rfl
structure Nm (m:Mod) (K:List (Int×Int×Int)):Prop where
 ln:K.length=m.txs.length
 nm:∀ t n w,mget m.names ⟨t,n⟩=some w↔∃ i,∃ h:i<K.length,w=(i:Int)+1∧K[i].1=t∧K[i].2.1=n
 mn:∀ t,(mget m.many t).getD 0=((K.filter fun x=>decide (x.1=t)).length:Int)
 nn:∀ i (h:i<K.length),K[i].2.1≤((K.filter fun z=>decide (z.1=K[i].1)).length:Int)
 sn:∀ i (h:i<K.length),(rd m.txs (i:Int)).snapshot=K[i].2.2
structure It (m:Mod) (L:List Life):Prop where
 it:∀ y,(rowOf m y).intent.Writer≠0→∃ i,∃ h:i<L.length,(rd m.txs (i:Int)).state=1∧∃ f,lastW L[i].writes y=some f∧(rowOf m y).intent=⟨(i:Int)+1,0,f.tomb,f.value⟩
 iw:∀ i (h:i<L.length),(rd m.txs (i:Int)).state=1→∀ y f,lastW L[i].writes y=some f→(rowOf m y).intent.Writer=(i:Int)+1
structure Lg (m:Mod) (g:Log):Prop where
 tm:g.time=m.clock
 nm:Nm m (g.lives.map hd3)
 it:It m g.lives
theorem Lg.ln {m:Mod} {g:Log} (R:Lg m g):g.lives.length=m.txs.length:=by have:=R.nm.ln;simpa using this
inductive Step (m:Mod) (g:Log) (at_:Int):Mod→Log→Prop
 | same:Step m g at_ m g
 | vac:Step m g at_ (vacS m) g
 | begin (t:Int):Step m g at_ { m with txs:=m.txs++[⟨1,m.clock⟩],many:=mput m.many t ((mget m.many t).getD 0+1),names:=mput m.names ⟨t,(mget m.many t).getD 0+1⟩ ((m.txs.length:Int)+1) }
   ⟨g.time,g.facts,g.lives++[⟨t,((1+countS t g.lives:Nat):Int),g.time,[],at_,0⟩]⟩
 | write (j:Nat) (h:j<g.lives.length) (f:Fact) (hs:(rd m.txs (j:Int)).state=1) (hi:(rowOf m f.key).intent.Writer=(j:Int)+1∨(rowOf m f.key).intent.Writer=0) (hc:clash (rowOf m f.key).l (rd m.txs (j:Int)).snapshot=false) :
   Step m g at_ { m with rows:=mput m.rows f.key ⟨(rowOf m f.key).l,⟨(j:Int)+1,0,f.tomb,f.value⟩⟩ } ⟨g.time,g.facts,g.lives.set j (addW g.lives[j] f)⟩
 | none (j:Nat) (h:j<g.lives.length) (hs:(rd m.txs (j:Int)).state=1) (hw:g.lives[j].writes=[]):Step m g at_ (endS m ((j:Int)+1) 3 0) ⟨g.time,g.facts,g.lives.set j (endW g.lives[j] at_)⟩
 | commit (j:Nat) (h:j<g.lives.length) (hs:(rd m.txs (j:Int)).state=1) (hw:g.lives[j].writes≠[]) :
   Step m g at_ (endS { m with clock:=m.clock+1 } ((j:Int)+1) 3 (m.clock+1)) ⟨g.time+1,g.facts++lastsS (g.time+1) g.lives[j].writes,g.lives.set j (endW g.lives[j] at_)⟩
 | abort (j:Nat) (h:j<g.lives.length) (hs:(rd m.txs (j:Int)).state=1):Step m g at_ (endS m ((j:Int)+1) 4 0) g
theorem It.any {n:Nat} {m:Mod} {L:List Life} (I:Inv n m) (R:It m L) {j:Nat} (h:j<L.length) (hs:(rd m.txs (j:Int)).state=1):(m.rows.any fun p=>p.2.intent.Writer==(j:Int)+1)=true↔L[j].writes≠[]:=by
 rw [any_row I (by omega)]
 constructor
 ·rintro ⟨y,hy⟩ e
  obtain ⟨i,hi,_,f,hf,e2⟩:=R.it y (by omega)
  rw [e2] at hy
  obtain rfl:i=j:=by dsimp only at hy;omega
  rw [e] at hf;cases hf
 ·intro hn
  obtain ⟨f,l,e⟩:=List.exists_cons_of_ne_nil hn
  obtain ⟨f',hf⟩:=lastW_mem (l:=L[j].writes) (f:=f) (by rw [e];exact List.mem_cons_self)
  exact ⟨f.key,R.iw j h hs _ _ hf⟩
theorem Lg.find {n:Nat} {m:Mod} {g:Log} (I:Inv n m) (R:Lg m g) {t:Int} {x:api_Call} (h0:refS m t x=0) (hk:x.Kind≠1∧x.Kind≠8∧x.Kind≠9) :
  ∃ j,∃ h:j<g.lives.length,findS t x.Tx 0 g.lives=(j:Int)∧(txS m t x.Tx).1=(j:Int)+1∧(rd m.txs (j:Int)).state=1:=by
 obtain ⟨h1,h2,h3,h4⟩:=refS_tx I h0 hk
 rcases findS_spec t x.Tx g.lives 0 with ⟨_,h⟩ | ⟨j,hj,e,ht,hn⟩
 ·obtain ⟨i,hi,e,ht,hn⟩:=(R.nm.nm _ _ _).1 h3
  have hi2:i<g.lives.length:=by simpa using hi
  simp only [List.getElem_map,hd3] at ht hn
  exact absurd ⟨ht,hn⟩ (h _ (List.getElem_mem hi2))
 ·have h5:=(R.nm.nm t x.Tx ((j:Int)+1)).2 ⟨j,by simpa using hj,rfl,by simpa [hd3] using ht,by simpa [hd3] using hn⟩
  have h6:(txS m t x.Tx).1=(j:Int)+1:=Option.some.inj (h3.symm.trans h5)
  exact ⟨j,hj,by rw [e];simp,h6,by rw [h6] at h4;rwa [show (j:Int)+1-1=(j:Int) by omega] at h4⟩
theorem note_err {g:Log} {at_:Int} {t:Turn} {a:api_Answer} (h:a.Err≠0):noteS g at_ t a=g:=by unfold noteS;dsimp only;rw [if_pos (Or.inl h)]
theorem note_oth {g:Log} {at_:Int} {t:Turn} {a:api_Answer} (h1:t.Call.Kind≠1) (h3:t.Call.Kind≠3) (h4:t.Call.Kind≠4∨a.Found=false) (h6:t.Call.Kind≠6):noteS g at_ t a=g:=by
 unfold noteS;dsimp only
 by_cases h:a.Err≠0∨(t.Call.Kind≠1∧findS t.Task t.Call.Tx 0 g.lives<0)
 ·rw [if_pos h]
 ·rw [if_neg h,if_neg h1,if_neg h3]
  by_cases h5:t.Call.Kind=4
  ·rw [if_pos h5,if_neg (by rcases h4 with h4 | h4;exact absurd h5 h4;rw [h4];decide)]
  ·rw [if_neg h5,if_neg h6]
theorem Lg.step {n:Nat} {m:Mod} {g:Log} (I:Inv n m) (R:Lg m g) (at_:Int) (t:Turn):Step m g at_ (doT m t).2 (noteS g at_ t (doT m t).1):=by
 unfold doT doS
 by_cases hr:refS m t.Task t.Call≠0
 ·rw [if_pos hr,note_err hr];exact .same
 rw [if_neg hr]
 have h0:refS m t.Task t.Call=0:=by omega
 have hk:=refS_kind h0
 unfold actS
 by_cases c1:t.Call.Kind=1
 ·rw [if_pos c1];unfold beginS
  by_cases c:(activeN m:Int)≥m.c.Active
  ·rw [if_pos c,note_err (by decide:(34:Int)≠0)];exact .same
  ·rw [if_neg c];unfold noteS;dsimp only;rw [if_neg (by simp [c1,ans]),if_pos c1];exact .begin t.Task
 rw [if_neg c1]
 by_cases c8:t.Call.Kind=8
 ·rw [if_neg (by omega),if_neg (by omega),if_neg (by omega),if_neg (by omega),if_neg (by omega),if_neg (by omega),if_pos c8]
  dsimp only;rw [note_oth (by omega) (by omega) (.inl (by omega)) (by omega)];exact .vac
 by_cases c9:t.Call.Kind=9
 ·rw [if_neg (by omega),if_neg (by omega),if_neg (by omega),if_neg (by omega),if_neg (by omega),if_neg (by omega),if_neg (by omega)]
  dsimp only;rw [note_oth (by omega) (by omega) (.inl (by omega)) (by omega)];exact .same
 obtain ⟨j,hj,ef,ew,hs⟩:=R.find I h0 ⟨c1,c8,c9⟩
 have hnn:∀ a:api_Answer,a.Err=0→¬ (a.Err≠0∨(t.Call.Kind≠1∧findS t.Task t.Call.Tx 0 g.lives<0)):=fun a ha=>by rw [ef];omega
 have oth:∀ a:api_Answer,t.Call.Kind≠3→t.Call.Kind≠4→t.Call.Kind≠6→noteS g at_ t a=g:=fun a h3 h4 h6=>note_oth c1 h3 (.inl h4) h6
 rw [ew]
 by_cases c2:t.Call.Kind=2
 ·rw [if_pos c2];dsimp only;rw [oth _ (by omega) (by omega) (by omega)];exact .same
 rw [if_neg c2]
 have hwr:∀ (f:Fact),f.key=t.Call.Key→(∀ a:api_Answer,a.Err≠0∨(a.Found=false∧f.tomb=true)→noteS g at_ t a=g)→(noteS g at_ t ⟨0,f.tomb,[],[]⟩=⟨g.time,g.facts,g.lives.set j (addW g.lives[j] f)⟩) →
   Step m g at_ (writeS m t.Call.Key ⟨(j:Int)+1,0,f.tomb,f.value⟩).2 (noteS g at_ t (writeS m t.Call.Key ⟨(j:Int)+1,0,f.tomb,f.value⟩).1):=by
  intro f hf h1 h2
  unfold writeS
  dsimp only
  rw [← hf]
  split
  ·rw [h1 _ (.inl (show (33:Int)≠0 by decide))];exact .same
  next d1 =>
  split
  ·next d2=>rw [h1 _ (.inr ⟨rfl,d2.1⟩)];exact .same
  split
  ·rw [h1 _ (.inl (show (34:Int)≠0 by decide))];exact .same
  rw [h2]
  have e:(j:Int)+1-1=(j:Int):=by omega
  rw [e] at d1
  exact .write j hj f hs (by omega) (by simpa using fun z=>d1 (.inr z))
 by_cases c3:t.Call.Kind=3
 ·rw [if_pos c3]
  refine hwr ⟨0,t.Call.Key,false,t.Call.Value⟩ rfl (fun a ha=>?_) ?_
  ·rcases ha with ha | ⟨_,ha⟩
   ·exact note_err ha
   ·cases ha
  ·unfold noteS;dsimp only;rw [if_neg (hnn ⟨0,false,[],[]⟩ rfl),if_neg c1,if_pos c3,ef,rdN hj];rfl
 rw [if_neg c3]
 by_cases c4:t.Call.Kind=4
 ·rw [if_pos c4]
  refine hwr ⟨0,t.Call.Key,true,[]⟩ rfl (fun a ha=>?_) ?_
  ·rcases ha with ha | ⟨ha,_⟩
   ·exact note_err ha
   ·exact note_oth c1 c3 (.inr ha) (by omega)
  ·unfold noteS;dsimp only;rw [if_neg (hnn ⟨0,true,[],[]⟩ rfl),if_neg c1,if_neg c3,if_pos c4,if_pos rfl,ef,rdN hj];rfl
 rw [if_neg c4]
 by_cases c5:t.Call.Kind=5
 ·rw [if_pos c5];dsimp only;rw [oth _ (by omega) (by omega) (by omega)];exact .same
 rw [if_neg c5]
 by_cases c6:t.Call.Kind=6
 ·rw [if_pos c6];unfold commitS
  have ha:=R.it.any I hj hs
  by_cases cw:g.lives[j].writes=[]
  ·rw [if_pos (by simpa [cw] using ha)]
   have:noteS g at_ t (ans 0)=⟨g.time,g.facts,g.lives.set j (endW g.lives[j] at_)⟩:=by
    unfold noteS;dsimp only;rw [if_neg (hnn (ans 0) rfl),if_neg c1,if_neg c3,if_neg c4,if_pos c6,ef,rdN hj,if_pos cw];rfl
   dsimp only;rw [this];exact .none j hj hs cw
  ·have hb:=ha.2 cw
   rw [if_neg (by rw [hb];decide)]
   by_cases ct:m.clock=m.c.TS
   ·rw [if_pos ct]
    dsimp only;rw [note_err (show (35:Int)≠0 by decide)];exact .abort j hj hs
   ·rw [if_neg ct]
    have:noteS g at_ t (ans 0)=⟨g.time+1,g.facts++lastsS (g.time+1) g.lives[j].writes,g.lives.set j (endW g.lives[j] at_)⟩:=by
     unfold noteS;dsimp only;rw [if_neg (hnn (ans 0) rfl),if_neg c1,if_neg c3,if_neg c4,if_pos c6,ef,rdN hj,if_neg cw];rfl
    dsimp only;rw [this];exact .commit j hj hs cw
 rw [if_neg c6]
 have c7:t.Call.Kind=7:=by omega
 rw [if_pos c7];dsimp only;rw [oth _ (by omega) (by omega) (by omega)];exact .abort j hj hs
theorem end_txs (m:Mod) (j:Nat) (st ts:Int):(endS m ((j:Int)+1) st ts).txs=m.txs.set j ⟨st,(rd m.txs (j:Int)).snapshot⟩:=by
 unfold endS;dsimp only;rw [show (j:Int)+1-1=(j:Int) by omega];rfl
theorem rd_set_ne {l:List model_tx} {j i:Nat} (x:model_tx) (h:i≠j) (hi:i<l.length):rd (l.set j x) (i:Int)=rd l (i:Int):=by
 rw [rdN (by simpa using hi),rdN hi,List.getElem_set_ne (by omega)]
theorem rd_set_eq {l:List model_tx} {j:Nat} (x:model_tx) (h:j<l.length):rd (l.set j x) (j:Int)=x:=by
 rw [rdN (by simpa using h),List.getElem_set_self]
theorem rd_set_sn {l:List model_tx} {j i:Nat} (st:Int) (hi:i<l.length):(rd (l.set j ⟨st,(rd l (j:Int)).snapshot⟩) (i:Int)).snapshot=(rd l (i:Int)).snapshot:=by
 by_cases h:i=j
 ·subst h;rw [rd_set_eq _ hi]
 ·rw [rd_set_ne _ h hi]
theorem rd_app_l {l:List model_tx} {i:Nat} (x:model_tx) (h:i<l.length):rd (l++[x]) (i:Int)=rd l (i:Int):=by
 rw [rdN (by simp;omega),rdN h,List.getElem_append_left h]
theorem rd_app_r {l:List model_tx} {i:Nat} (x:model_tx) (h:i=l.length):rd (l++[x]) (i:Int)=x:=by
 subst h;rw [rdN (by simp),List.getElem_concat_length];rfl
theorem Nm.congr {m m':Mod} {K:List (Int×Int×Int)} (R:Nm m K) (h1:m'.names=m.names) (h2:m'.many=m.many) (h3:m'.txs.length=m.txs.length) (h4:∀ i,i<m.txs.length→(rd m'.txs (i:Int)).snapshot=(rd m.txs (i:Int)).snapshot):Nm m' K :=
 ⟨R.ln.trans h3.symm,fun t n w=>by rw [h1];exact R.nm t n w,fun t=>by rw [h2];exact R.mn t,R.nn,fun i h=>by rw [h4 i (by rw [← R.ln];exact h)];exact R.sn i h⟩
theorem Nm.end_ {m:Mod} {K:List (Int×Int×Int)} (R:Nm m K) (j:Nat) (st ts:Int):Nm (endS m ((j:Int)+1) st ts) K :=
 R.congr rfl rfl (by rw [end_txs];simp) (fun i hi=>by rw [end_txs];exact rd_set_sn st hi)
theorem set_hd {L:List Life} {j:Nat} (h:j<L.length) {x:Life} (e:hd3 x=hd3 L[j]):(L.set j x).map hd3=L.map hd3:=by
 rw [List.map_set,e]
 have:hd3 L[j]=(L.map hd3)[j]'(by simpa using h):=by simp
 rw [this,List.set_getElem_self]
theorem fl_app (K:List (Int×Int×Int)) (t a b c:Int):((K++[(t,b,c)]).filter fun x=>decide (x.1=a)).length=(K.filter fun x=>decide (x.1=a)).length+(if t=a then 1 else 0):=by
 rw [List.filter_append,List.length_append]
 by_cases h:t=a<;>simp [h]
theorem Nm.begin {m:Mod} {K:List (Int×Int×Int)} (R:Nm m K) (t:Int) :
  Nm { m with txs:=m.txs++[⟨1,m.clock⟩],many:=mput m.many t ((mget m.many t).getD 0+1),names:=mput m.names ⟨t,(mget m.many t).getD 0+1⟩ ((m.txs.length:Int)+1) } (K++[(t,(mget m.many t).getD 0+1,m.clock)]):=by
 have hl:=R.ln
 refine ⟨by simp [hl],fun t' n' w=>?_,fun t'=>?_,fun i hi=>?_,fun i hi=>?_⟩
 ·show mget (mput m.names _ _) _=some w↔_
  rw [mget_mput]
  by_cases hc:(⟨t,(mget m.many t).getD 0+1⟩:model_name)=⟨t',n'⟩
  ·rw [if_pos hc]
   injection hc with e1 e2
   constructor
   ·intro h
    refine ⟨K.length,by simp,?_,?_⟩
    ·have:=Option.some.inj h;rw [hl];omega
    ·rw [List.getElem_concat_length rfl];exact ⟨e1,e2⟩
   ·rintro ⟨i,hi,e,ht,hn⟩
    by_cases h:i<K.length
    ·rw [List.getElem_append_left h] at ht hn
     have h1:=R.nn i h
     have h2:=R.mn t
     rw [ht] at h1
     subst e1
     omega
    ·obtain rfl:i=K.length:=by simp at hi;omega
     rw [e,hl]
  ·rw [if_neg hc,R.nm]
   constructor
   ·rintro ⟨i,hi,e,h⟩
    exact ⟨i,by simp;omega,e,by rw [List.getElem_append_left hi];exact h⟩
   ·rintro ⟨i,hi,e,ht,hn⟩
    by_cases h:i<K.length
    ·rw [List.getElem_append_left h] at ht hn
     exact ⟨i,h,e,ht,hn⟩
    ·obtain rfl:i=K.length:=by simp at hi;omega
     rw [List.getElem_concat_length rfl] at ht hn
     exact absurd (by dsimp only at ht hn;subst ht hn;rfl) hc
 ·show (mget (mput m.many _ _) t').getD 0=_
  rw [mget_mput,fl_app]
  have h2:=R.mn t
  by_cases hc:t=t'
  ·subst hc;rw [if_pos rfl,if_pos rfl,Option.getD_some];omega
  ·rw [if_neg hc,if_neg hc,R.mn t'];omega
 ·rw [fl_app]
  by_cases h:i<K.length
  ·rw [List.getElem_append_left h];have:=R.nn i h;omega
  ·obtain rfl:i=K.length:=by simp at hi;omega
   rw [List.getElem_concat_length rfl]
   have h2:=R.mn t
   dsimp only;rw [if_pos rfl];omega
 ·show (rd (m.txs++[_]) _).snapshot=_
  by_cases h:i<K.length
  ·rw [List.getElem_append_left h,rd_app_l _ (by omega)];exact R.sn i h
  ·obtain rfl:i=K.length:=by simp at hi;omega
   rw [List.getElem_concat_length rfl,rd_app_r _ hl]
theorem row_vac {n:Nat} {m:Mod} (I:Inv n m) (O:Ok m) (y:Str):rowOf (vacS m) y=keptRow (floorL m.txs m.clock) (rowOf m y) :=
 row_each I O (one:=keptRow (floorL m.txs m.clock)) rfl (fun r h g=>kept_gone _ r h g) (vacS m) rfl y
theorem row_end {n:Nat} {m:Mod} (I:Inv n m) (O:Ok m) (j:Nat) (st ts c:Int) (y:Str):rowOf (endS { m with clock:=c } ((j:Int)+1) st ts) y=endRow ((j:Int)+1) ts (rowOf m y) :=
 row_each I O (one:=endRow ((j:Int)+1) ts) (end_nil (by omega)) (fun r h g=>end_gone r h g) (endS { m with clock:=c } ((j:Int)+1) st ts) rfl y
theorem row_put (m:Mod) (k:Str) (r:model_row) (y:Str):rowOf { m with rows:=mput m.rows k r } y=if k=y then r else rowOf m y:=by
 unfold rowOf;dsimp only;rw [mget_mput];split<;>rfl
theorem endRow_it (w ts:Int) (r:model_row):(endRow w ts r).intent=if r.intent.Writer≠w then r.intent else ⟨0,0,false,[]⟩:=by
 unfold endRow;split<;>rfl
theorem It.end_ {n:Nat} {m:Mod} {L L':List Life} (I:Inv n m) (O:Ok m) (R:It m L) (hl:L.length=m.txs.length) (hL:L'.length=L.length) (hw:∀ i (h:i<L.length) (h':i<L'.length),L'[i].writes=L[i].writes) (j:Nat) (hj:j<L.length) (st ts c:Int) (hst:st≠1) :
  It (endS { m with clock:=c } ((j:Int)+1) st ts) L':=by
 have htx:=end_txs { m with clock:=c } j st ts
 refine ⟨fun y hy=>?_,fun i hi hs y f hf=>?_⟩
 ·rw [row_end I O,endRow_it] at hy ⊢
  by_cases q:(rowOf m y).intent.Writer≠(j:Int)+1
  ·rw [if_pos q] at hy ⊢
   obtain ⟨i,hi,hs,f,hf,e⟩:=R.it y hy
   have hij:i≠j:=fun z=>by subst z;rw [e] at q;exact q rfl
   refine ⟨i,by omega,?_,f,by rw [hw i hi];exact hf,e⟩
   rw [htx,rd_set_ne _ hij (by show i<m.txs.length;omega)];exact hs
  ·rw [if_neg q] at hy;exact absurd rfl hy
 ·have hi':i<L.length:=by omega
  rw [htx] at hs
  have hij:i≠j:=fun z=>by subst z;rw [rd_set_eq _ (by show i<m.txs.length;omega)] at hs;exact hst hs
  rw [rd_set_ne _ hij (by show i<m.txs.length;omega)] at hs
  rw [hw i hi'] at hf
  have:=R.iw i hi' hs y f hf
  rw [row_end I O,endRow_it,if_pos (by omega)];exact this
theorem set_w {L:List Life} {j:Nat} (x:Life) (h:j<L.length) (e:x.writes=L[j].writes):∀ i (h:i<L.length) (h':i<(L.set j x).length),(L.set j x)[i].writes=L[i].writes:=by
 intro i hi hi'
 by_cases c:j=i
 ·subst c;rw [List.getElem_set_self];exact e
 ·rw [List.getElem_set_ne c]
theorem It.write {m:Mod} {L:List Life} (R:It m L) (j:Nat) (hj:j<L.length) (f:Fact) (hs:(rd m.txs (j:Int)).state=1) (hi:(rowOf m f.key).intent.Writer=(j:Int)+1∨(rowOf m f.key).intent.Writer=0) :
  It { m with rows:=mput m.rows f.key ⟨(rowOf m f.key).l,⟨(j:Int)+1,0,f.tomb,f.value⟩⟩ } (L.set j (addW L[j] f)):=by
 refine ⟨fun y hy=>?_,fun i hi' hsi y f' hf=>?_⟩
 ·rw [row_put] at hy ⊢
  by_cases q:f.key=y
  ·rw [if_pos q]
   exact ⟨j,by simpa using hj,hs,f,by rw [List.getElem_set_self];show lastW (L[j].writes++[f]) y=_;rw [lastW_app,if_pos q],rfl⟩
  ·rw [if_neg q] at hy ⊢
   obtain ⟨i,hi,h1,f',h2,e⟩:=R.it y hy
   refine ⟨i,by simpa using hi,h1,f',?_,e⟩
   by_cases c:j=i
   ·subst c;rw [List.getElem_set_self];show lastW (L[j].writes++[f]) y=_;rw [lastW_app,if_neg q];exact h2
   ·rw [List.getElem_set_ne c];exact h2
 ·have hi2:i<L.length:=by simpa using hi'
  rw [row_put]
  by_cases c:j=i
  ·subst c
   rw [List.getElem_set_self] at hf
   replace hf:lastW (L[j].writes++[f]) y=some f':=hf
   rw [lastW_app] at hf
   by_cases q:f.key=y
   ·rw [if_pos q]
   ·rw [if_neg q] at hf ⊢;exact R.iw j hj hsi y f' hf
  ·rw [List.getElem_set_ne c] at hf
   have h:=R.iw i hi2 hsi y f' hf
   by_cases q:f.key=y
   ·rw [← q] at h;omega
   ·rw [if_neg q];exact h
theorem It.begin {m:Mod} {L:List Life} (R:It m L) (hl:L.length=m.txs.length) (m':Mod) (x:Life) (hx:x.writes=[]) (h1:m'.rows=m.rows) (h2:m'.txs=m.txs++[⟨1,m.clock⟩]):It m' (L++[x]):=by
 have hr:∀ y,rowOf m' y=rowOf m y:=fun y=>by unfold rowOf;rw [h1]
 refine ⟨fun y hy=>?_,fun i hi hs y f hf=>?_⟩
 ·rw [hr] at hy ⊢
  obtain ⟨i,hi,hs,f,hf,e⟩:=R.it y hy
  exact ⟨i,by simp;omega,by rw [h2,rd_app_l _ (by omega)];exact hs,f,by rw [List.getElem_append_left hi];exact hf,e⟩
 ·rw [hr]
  by_cases h:i<L.length
  ·rw [List.getElem_append_left h] at hf
   rw [h2,rd_app_l _ (by omega)] at hs
   exact R.iw i h hs y f hf
  ·obtain rfl:i=L.length:=by simp at hi;omega
   rw [List.getElem_concat_length rfl,hx] at hf;cases hf
theorem hd_count (t:Int) (L:List Life):((L.map hd3).filter fun x=>decide (x.1=t)).length=countS t L:=by
 unfold countS;rw [List.filter_map,List.length_map];rfl
theorem Lg.next {n:Nat} {m m':Mod} {g g':Log} {at_:Int} (I:Inv n m) (O:Ok m) (R:Lg m g) (S:Step m g at_ m' g'):Lg m' g':=by
 have hl:=R.ln
 cases S with
 | same=>exact R
 | vac=>exact ⟨R.tm,R.nm.congr rfl rfl rfl (fun _ _=>rfl),⟨fun y hy=>by rw [row_vac I O] at hy ⊢;exact R.it.it y hy,fun i h hs y f hf=>by rw [row_vac I O];exact R.it.iw i h hs y f hf⟩⟩
 | begin t =>
  refine ⟨R.tm,?_,R.it.begin hl _ _ rfl rfl rfl⟩
  have h2:=R.nm.mn t
  rw [hd_count] at h2
  have e:(mget m.many t).getD 0+1=((1+countS t g.lives:Nat):Int):=by omega
  have h:=R.nm.begin t
  show Nm _ ((g.lives++[_]).map hd3)
  rw [List.map_append]
  have e2:[(⟨t,((1+countS t g.lives:Nat):Int),g.time,[],at_,0⟩:Life)].map hd3=[(t,(mget m.many t).getD 0+1,m.clock)]:=by simp only [List.map_cons,List.map_nil,hd3];rw [e,R.tm]
  rw [e2];exact h
 | write j h f hs hi hc=>exact ⟨R.tm,by show Nm _ ((g.lives.set j _).map hd3);rw [set_hd h (by rfl)];exact R.nm.congr rfl rfl rfl (fun _ _=>rfl),R.it.write j h f hs hi⟩
 | none j h hs hw=>exact ⟨R.tm,by show Nm _ ((g.lives.set j _).map hd3);rw [set_hd h (by rfl)];exact R.nm.end_ j 3 0,R.it.end_ I O hl (by simp) (set_w (endW g.lives[j] at_) h rfl) j h 3 0 m.clock (by decide)⟩
 | commit j h hs hw =>
  refine ⟨by show g.time+1=m.clock+1;rw [R.tm],?_,R.it.end_ I O hl (by simp) (set_w (endW g.lives[j] at_) h rfl) j h 3 (m.clock+1) (m.clock+1) (by decide)⟩
  show Nm _ ((g.lives.set j _).map hd3);rw [set_hd h (by rfl)]
  exact Nm.end_ (m:={ m with clock:=m.clock+1 }) (R.nm.congr rfl rfl rfl (fun _ _=>rfl)) j 3 (m.clock+1)
 | abort j h hs=>exact ⟨R.tm,R.nm.end_ j 4 0,R.it.end_ I O hl rfl (fun _ _ _=>rfl) j h 4 0 m.clock (by decide)⟩
end Go.Proofs.YtcngjjlhdlbogaaDoor
