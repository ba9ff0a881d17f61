import Derived.Test.YtcngjjlhdlbogaaDoorPureOk
namespace Go.Proofs.YtcngjjlhdlbogaaDoor
open Go Go.RowKit
set_option linter.unusedVariables false
set_option linter.unusedSimpArgs false
set_option maxRecDepth 100000
abbrev Log:=ferrymanlaw16_log
abbrev Life:=ferrymanlaw16_life
abbrev Fact:=ferrymanlaw16_fact
theorem sbe (a b:Str):sbin .eql a b=decide (a=b):=by simp only [sbin];by_cases h:a=b<;>simp [h]
theorem sbn (a b:Str):sbin .neq a b=!decide (a=b):=by simp only [sbin];by_cases h:a=b<;>simp [h]
def findS (t n:Int):Nat→List Life→Int
 | _,[]=>-1
 | i,x::l=>if x.task=t∧x.n=n then (i:Int) else findS t n (i+1) l
theorem find_l0 (g:Log) (t n:Int) (hl:g.lives.length≤1000000):∀ (j i:Nat),i+j=g.lives.length→∀ k,j<k→ferrymanlaw16_log_find_POO_l0 g t n k (i:Int)=some (if findS t n i (g.lives.drop i)=-1 then .inr () else .inl (findS t n i (g.lives.drop i))):=by
 intro j
 induction j with
 | zero =>
  intro i hi k hk
  obtain ⟨k,rfl⟩:∃ k',k=k'+1:=⟨k-1,by omega⟩
  rw [ferrymanlaw16_log_find_POO_l0.eq_2,List.drop_of_length_le (by omega)]
  have:¬ ((i:Int)<(g.lives.length:Int)):=by omega
  simp [this,findS]
 | succ j ih =>
  intro i hi k hk
  obtain ⟨k,rfl⟩:∃ k',k=k'+1:=⟨k-1,by omega⟩
  have hlt:i<g.lives.length:=by omega
  have h1:(i:Int)<(g.lives.length:Int):=by omega
  rw [ferrymanlaw16_log_find_POO_l0.eq_2,List.drop_eq_getElem_cons hlt]
  simp only [h1,decide_true,if_true,inR hlt,and_self,rdN hlt,wr1 (i:=i) (by omega),findS]
  by_cases hc:g.lives[i].task=t∧g.lives[i].n=n
  ·have h2:¬ ((i:Int)=-1):=by omega
   simp [hc,h2]
  ·have hb:((g.lives[i].task==t)&&(g.lives[i].n==n))=false:=by simpa using hc
   simp only [hb,hc,Bool.false_eq_true,if_false]
   exact ih (i+1) (by omega) k (by omega)
theorem find_eq (g:Log) (t n:Int) (hl:g.lives.length≤1000000) (k:Nat) (hk:g.lives.length<k):ferrymanlaw16_log_find_POO k g t n=some (findS t n 0 g.lives):=by
 have h:=find_l0 g t n hl g.lives.length 0 (by omega) k hk
 rw [List.drop_zero] at h
 unfold ferrymanlaw16_log_find_POO
 rw [show (0:Int)=((0:Nat):Int) from rfl,h]
 by_cases hc:findS t n 0 g.lives=-1
 ·simp [hc]
 ·simp [hc]
def countS (t:Int) (L:List Life):Nat:=(L.filter fun x=>decide (x.task=t)).length
theorem count_l0 (g:Log) (t:Turn) (hl:g.lives.length≤1000000):∀ (j i s:Nat),i+j=g.lives.length→s≤i+1→∀ k,j<k→ferrymanlaw16_log_note_POO_l0 g t k (s:Int) (i:Int)=some ((s+countS t.Task (g.lives.drop i):Nat):Int):=by
 intro j
 induction j with
 | zero =>
  intro i s hi hs k hk
  obtain ⟨k,rfl⟩:∃ k',k=k'+1:=⟨k-1,by omega⟩
  rw [ferrymanlaw16_log_note_POO_l0.eq_2,List.drop_of_length_le (by omega)]
  have:¬ ((i:Int)<(g.lives.length:Int)):=by omega
  simp [this,countS]
 | succ j ih =>
  intro i s hi hs k hk
  obtain ⟨k,rfl⟩:∃ k',k=k'+1:=⟨k-1,by omega⟩
  have hlt:i<g.lives.length:=by omega
  have h1:(i:Int)<(g.lives.length:Int):=by omega
  rw [ferrymanlaw16_log_note_POO_l0.eq_2,List.drop_eq_getElem_cons hlt]
  unfold countS
  rw [List.filter_cons]
  simp only [h1,decide_true,if_true,inR hlt,and_self,rdN hlt,wr1 (i:=i) (by omega),wr1 (i:=s) (by omega)]
  by_cases hc:g.lives[i].task=t.Task
  ·simp only [hc,beq_self_eq_true,if_true,Option.bind_some,decide_true,List.length_cons]
   rw [ih (i+1) (s+1) (by omega) (by omega) k (by omega)]
   unfold countS
   congr 2;omega
  ·have hb:(g.lives[i].task==t.Task)=false:=by simpa using hc
   simp only [hb,hc,Bool.false_eq_true,if_false,Option.bind_some,decide_false]
   exact ih (i+1) s (by omega) (by omega) k (by omega)
def lastsS (ts:Int):List Fact→List Fact
 | []=>[]
 | f::l=>(if (l.all fun x=>!decide (x.key=f.key))=true then [⟨ts,f.key,f.tomb,f.value⟩] else [])++lastsS ts l
theorem last_l0 (q:Nat) (L:List Life) (h:q<L.length) (i:Nat) (hi:i<L[q].writes.length) (hb:L[q].writes.length≤1000000):∀ (n j:Nat),j+n=L[q].writes.length→∀ (b:Bool) k,n<k →
  ferrymanlaw16_log_note_POO_l9 (q:Int) L (i:Int) k b (j:Int)=some (b&&(L[q].writes.drop j).all fun f=>!decide (f.key=L[q].writes[i].key)):=by
 intro n
 induction n with
 | zero =>
  intro j hj b k hk
  obtain ⟨k,rfl⟩:∃ k',k=k'+1:=⟨k-1,by omega⟩
  rw [ferrymanlaw16_log_note_POO_l9.eq_2,List.drop_of_length_le (by omega)]
  have:¬ ((j:Int)<(L[q].writes.length:Int)):=by omega
  simp [inR h,rdN h,this]
 | succ n ih =>
  intro j hj b k hk
  obtain ⟨k,rfl⟩:∃ k',k=k'+1:=⟨k-1,by omega⟩
  have hlt:j<L[q].writes.length:=by omega
  have h1:(j:Int)<(L[q].writes.length:Int):=by omega
  rw [ferrymanlaw16_log_note_POO_l9.eq_2,List.drop_eq_getElem_cons hlt]
  simp only [inR h,rdN h,h1,decide_true,if_true,and_self,inR hlt,rdN hlt,rdN hi,wr1 (i:=j) (by omega),sbn,List.all_cons]
  cases b with
  | false =>
   simp only [Bool.false_eq_true,if_false,Option.bind_some,Bool.false_and]
   rw [ih (j+1) (by omega) false k (by omega)];rfl
  | true =>
   simp only [if_true,Option.bind_some,Bool.true_and]
   rw [ih (j+1) (by omega) _ k (by omega)]
theorem lasts_l0 (g:Log) (q:Nat) (L:List Life) (h:q<L.length) (hb:L[q].writes.length≤1000000) (ht:0≤g.time∧g.time≤1000000):∀ (n i:Nat) (F:List Fact),i+n=L[q].writes.length→F.length+n≤2000000→∀ k,n<k →
  ferrymanlaw16_log_note_POO_l5 g (q:Int) L k (i:Int) F=some (F++lastsS (g.time+1) (L[q].writes.drop i)):=by
 intro n
 induction n with
 | zero =>
  intro i F hi hF k hk
  obtain ⟨k,rfl⟩:∃ k',k=k'+1:=⟨k-1,by omega⟩
  rw [ferrymanlaw16_log_note_POO_l5.eq_2,List.drop_of_length_le (by omega)]
  have:¬ ((i:Int)<(L[q].writes.length:Int)):=by omega
  simp [inR h,rdN h,this,lastsS]
 | succ n ih =>
  intro i F hi hF k hk
  obtain ⟨k,rfl⟩:∃ k',k=k'+1:=⟨k-1,by omega⟩
  have hlt:i<L[q].writes.length:=by omega
  have h1:(i:Int)<(L[q].writes.length:Int):=by omega
  have e:=wr (x:=g.time+1) (by omega) (by omega)
  rw [ferrymanlaw16_log_note_POO_l5.eq_2,List.drop_eq_getElem_cons hlt]
  simp only [inR h,rdN h,h1,decide_true,if_true,and_self,inR hlt,rdN hlt,wr1 (i:=i) (by omega),e]
  rw [last_l0 q L h i hlt hb n (i+1) (by omega) true k (by omega)]
  simp only [Option.bind_some,Bool.true_and,lastsS]
  by_cases hc:((L[q].writes.drop (i+1)).all fun f=>!decide (f.key=L[q].writes[i].key))=true
  ·rw [if_pos hc,if_pos hc,if_pos (by simp;omega)]
   simp only [Option.bind_some]
   rw [ih (i+1) _ (by omega) (by simp;omega) k (by omega),List.append_assoc]
  ·rw [if_neg hc,if_neg hc]
   simp only [Option.bind_some]
   rw [ih (i+1) _ (by omega) (by omega) k (by omega),List.nil_append]
def addW (x:Life) (f:Fact):Life:=⟨x.task,x.n,x.snapshot,x.writes++[f],x.begun,x.over⟩
def endW (x:Life) (at_:Int):Life:=⟨x.task,x.n,x.snapshot,x.writes,x.begun,at_⟩
def noteS (g:Log) (at_:Int) (t:Turn) (a:api_Answer):Log :=
 let i:=findS t.Task t.Call.Tx 0 g.lives
 let x:=rd g.lives i
 if a.Err≠0∨(t.Call.Kind≠1∧i<0) then g
 else if t.Call.Kind=1 then ⟨g.time,g.facts,g.lives++[⟨t.Task,((1+countS t.Task g.lives:Nat):Int),g.time,[],at_,0⟩]⟩
 else if t.Call.Kind=3 then ⟨g.time,g.facts,g.lives.set i.toNat (addW x ⟨0,t.Call.Key,false,t.Call.Value⟩)⟩
 else if t.Call.Kind=4 then (if a.Found=true then ⟨g.time,g.facts,g.lives.set i.toNat (addW x ⟨0,t.Call.Key,true,[]⟩)⟩ else g)
 else if t.Call.Kind=6 then (if x.writes=[] then ⟨g.time,g.facts,g.lives.set i.toNat (endW x at_)⟩ else ⟨g.time+1,g.facts++lastsS (g.time+1) x.writes,g.lives.set i.toNat (endW x at_)⟩)
 else g
structure Bd (p:Nat) (g:Log):Prop where
 lv:g.lives.length≤p
 wr:∀ x∈g.lives,x.writes.length≤p
 fc:g.facts.length≤1000*p
 tm:0≤g.time∧g.time≤(p:Int)
theorem findS_spec (t n:Int):∀ (l:List Life) (i:Nat),(findS t n i l=-1∧∀ x∈l,¬ (x.task=t∧x.n=n))∨∃ j,∃ h:j<l.length,findS t n i l=((i+j:Nat):Int)∧l[j].task=t∧l[j].n=n
 | [],i=>.inl ⟨rfl,fun x hx=>by cases hx⟩
 | x::l,i=>by
  unfold findS
  by_cases hc:x.task=t∧x.n=n
  ·rw [if_pos hc];exact .inr ⟨0,by simp,by simp,hc.1,hc.2⟩
  ·rw [if_neg hc]
   rcases findS_spec t n l (i+1) with ⟨h,h2⟩ | ⟨j,hj,h,h2⟩
   ·exact .inl ⟨h,fun y hy=>(List.mem_cons.1 hy).elim (fun e=>e ▸ hc) (h2 y)⟩
   ·exact .inr ⟨j+1,by simp;omega,by rw [h];congr 1;omega,by simpa using h2⟩
theorem note_ev {p:Nat} {g:Log} (B:Bd p g) (hp:p≤1000) (at_:Int) (t:Turn) (a:api_Answer):Ev (fun k=>ferrymanlaw16_log_note_POO k g at_ t a) (noteS g at_ t a):=by
 have h1:=B.lv
 have h2:=B.fc
 have h3:=B.tm
 unfold ferrymanlaw16_log_note_POO noteS
 refine Ev.bind (v:=findS t.Task t.Call.Tx 0 g.lives) ⟨g.lives.length+1,fun k hk=>find_eq g _ _ (by omega) k (by omega)⟩ ?_
 have hsp:=findS_spec t.Task t.Call.Tx g.lives 0
 generalize hi:findS t.Task t.Call.Tx 0 g.lives=i at hsp ⊢
 dsimp only
 by_cases c0:a.Err≠0∨(t.Call.Kind≠1∧i<0)
 ·rw [if_pos c0];exact Ev.pos (by simpa using c0) (Ev.pure _)
 rw [if_neg c0];refine Ev.neg (by simpa using c0) ?_
 by_cases c1:t.Call.Kind=1
 ·rw [if_pos c1];refine Ev.pos (by simpa using c1) ?_
  refine Ev.bind (v:=((1+countS t.Task g.lives:Nat):Int)) ⟨g.lives.length+1,fun k hk=>?_⟩ (Ev.pos (by simp;omega) (Ev.pure _))
  have:=count_l0 g t (by omega) g.lives.length 0 1 (by omega) (by omega) k (by omega)
  rw [List.drop_zero] at this;exact this
 rw [if_neg c1];refine Ev.neg (by simpa using c1) ?_
 obtain ⟨j,hj,e,_⟩:∃ j,∃ h:j<g.lives.length,i=((j:Nat):Int)∧True:=by
  rcases hsp with ⟨h,_⟩ | ⟨j,h,e,_⟩
  ·exact absurd (show i<0 by omega) (fun z=>c0 (.inr ⟨c1,z⟩))
  ·exact ⟨j,h,by rw [e];simp,trivial⟩
 subst e
 have hw:=B.wr _ (List.getElem_mem hj)
 rw [rdN hj]
 by_cases c3:t.Call.Kind=3
 ·rw [if_pos c3];refine Ev.pos (by simpa using c3) ?_
  exact Ev.pos (inR hj) (Ev.pos (by simp;omega) (Ev.pure _))
 rw [if_neg c3];refine Ev.neg (by simpa using c3) ?_
 by_cases c4:t.Call.Kind=4
 ·rw [if_pos c4];refine Ev.pos (by simpa using c4) ?_
  cases hf:a.Found with
  | true=>exact Ev.bind (Ev.pos rfl (Ev.pos (inR hj) (Ev.pos (by simp;omega) (Ev.pure _)))) (Ev.pure _)
  | false=>exact Ev.bind (v:=g.lives) (Ev.neg (by simp) (Ev.pure _)) (Ev.pure _)
 rw [if_neg c4];refine Ev.neg (by simpa using c4) ?_
 by_cases c6:t.Call.Kind=6
 ·rw [if_pos c6];refine Ev.pos (by simpa using c6) ?_
  refine Ev.pos (inR hj) (Ev.bind (v:=g.lives.set ((j:Nat):Int).toNat (endW g.lives[j] at_)) (Ev.pure _) ?_)
  have hj2:j<(g.lives.set ((j:Nat):Int).toNat (endW g.lives[j] at_)).length:=by simpa using hj
  have hj3:(g.lives.set ((j:Nat):Int).toNat (endW g.lives[j] at_))[j].writes=g.lives[j].writes:=by simp [endW]
  refine Ev.pos (inR hj2) ?_
  rw [rdN hj2,hj3]
  by_cases cw:g.lives[j].writes=[]
  ·rw [if_pos cw];exact Ev.pos (by simp [cw]) (Ev.pure _)
  ·rw [if_neg cw];refine Ev.neg (by simpa using cw) ?_
   have e:=wr (x:=g.time+1) (by omega) (by omega)
   rw [e]
   refine Ev.bind (v:=g.facts++lastsS (g.time+1) g.lives[j].writes) ⟨g.lives[j].writes.length+1,fun k hk=>?_⟩ (Ev.pure _)
   have:=lasts_l0 g j _ hj2 (by rw [hj3];omega) (by omega) g.lives[j].writes.length 0 g.facts (by rw [hj3];omega) (by omega) k (by omega)
   rw [List.drop_zero,hj3] at this;exact this
 ·rw [if_neg c6];exact Ev.neg (by simpa using c6) (Ev.pure _)
theorem lasts_len (ts:Int):∀ l:List Fact,(lastsS ts l).length≤l.length
 | []=>Nat.le_refl _
 | f::l=>by
  have:=lasts_len ts l
  unfold lastsS
  split<;>simp<;>omega
theorem Bd.mono {p q:Nat} {g:Log} (B:Bd p g) (h:p≤q):Bd q g :=
 ⟨by have:=B.lv;omega,fun x hx=>by have:=B.wr x hx;omega,by have:=B.fc;omega,by have:=B.tm;omega⟩
theorem rd_mem {L:List Life} {j:Nat} (h:j<L.length):rd L (j:Int)∈L:=by rw [rdN h];exact List.getElem_mem h
theorem Bd.note {p:Nat} {g:Log} (B:Bd p g) (hp:p<1000) (at_:Int) (t:Turn) (a:api_Answer):Bd (p+1) (noteS g at_ t a):=by
 have h1:=B.lv
 have h2:=B.fc
 have h3:=B.tm
 have hsp:=findS_spec t.Task t.Call.Tx g.lives 0
 unfold noteS
 generalize hi:findS t.Task t.Call.Tx 0 g.lives=i at hsp ⊢
 dsimp only
 split
 ·exact B.mono (by omega)
 next c0 =>
 split
 ·exact ⟨by simp;omega,fun x hx=>by
   rcases List.mem_append.1 hx with hx | hx
   ·have:=B.wr x hx;omega
   ·obtain rfl:=List.mem_singleton.1 hx;exact Nat.zero_le _,by show g.facts.length≤_;omega,by show 0≤g.time∧g.time≤_;omega⟩
 next c1 =>
 obtain ⟨j,hj,e,_⟩:∃ j,∃ h:j<g.lives.length,i=((j:Nat):Int)∧True:=by
  rcases hsp with ⟨h,_⟩ | ⟨j,h,e,_⟩
  ·exact absurd (show i<0 by omega) (fun z=>c0 (.inr ⟨c1,z⟩))
  ·exact ⟨j,h,by rw [e];simp,trivial⟩
 subst e
 have hw:=B.wr _ (rd_mem hj)
 have hset:∀ y:Life,y.writes.length≤p+1→∀ x∈g.lives.set ((j:Nat):Int).toNat y,x.writes.length≤p+1:=fun y hy x hx=>by
  rcases List.mem_or_eq_of_mem_set hx with h | rfl
  ·have:=B.wr x h;omega
  ·exact hy
 have ha:∀ f,(addW (rd g.lives (j:Int)) f).writes.length≤p+1:=fun f=>by simp [addW];omega
 have he:(endW (rd g.lives (j:Int)) at_).writes.length≤p+1:=by simp [endW];omega
 split
 ·exact ⟨by simp;omega,hset _ (ha _),by show g.facts.length≤_;omega,by show 0≤g.time∧g.time≤_;omega⟩
 split
 ·split
  ·exact ⟨by simp;omega,hset _ (ha _),by show g.facts.length≤_;omega,by show 0≤g.time∧g.time≤_;omega⟩
  ·exact B.mono (by omega)
 split
 ·split
  ·exact ⟨by simp;omega,hset _ he,by show g.facts.length≤_;omega,by show 0≤g.time∧g.time≤_;omega⟩
  ·refine ⟨by simp;omega,hset _ he,?_,by show 0≤g.time+1∧g.time+1≤_;omega⟩
   have:=lasts_len (g.time+1) (rd g.lives (j:Int)).writes
   show (g.facts++_).length≤_
   rw [List.length_append];omega
 ·exact B.mono (by omega)
end Go.Proofs.YtcngjjlhdlbogaaDoor
