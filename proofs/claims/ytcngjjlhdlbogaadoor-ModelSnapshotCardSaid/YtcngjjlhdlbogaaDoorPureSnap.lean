import Derived.Test.YtcngjjlhdlbogaaDoorPureText
namespace Go.Proofs.YtcngjjlhdlbogaaDoor
open Go Go.RowKit
set_option linter.unusedVariables false
set_option linter.unusedSimpArgs false
set_option maxRecDepth 100000
def bestS (s:Int) (y:Str):List Fact→Fact→Fact
 | [],b=>b
 | f::l,b=>bestS s y l (if f.key=y∧f.ts≤s∧f.ts>b.ts then f else b)
def fact0:Fact:=⟨0,[],true,[]⟩
def readS (g:Log) (x:Life) (y:Str):Str×Bool:=match lastW x.writes y with
 | some f=>(f.value,!f.tomb)
 | none=>((bestS x.snapshot y g.facts fact0).value,!(bestS x.snapshot y g.facts fact0).tomb)
theorem reads_l1 (g:Log) (q:Nat) (h:q<g.lives.length) (y:Str) (hf:g.facts.length≤2000000):∀ (n i:Nat) (b:Fact),i+n=g.facts.length→∀ k,n<k →
  ferrymanlaw16_log_reads_POO_l1 g (q:Int) y k (i:Int) b.ts b.key b.tomb b.value=some ((bestS g.lives[q].snapshot y (g.facts.drop i) b).ts,(bestS g.lives[q].snapshot y (g.facts.drop i) b).key,(bestS g.lives[q].snapshot y (g.facts.drop i) b).tomb,(bestS g.lives[q].snapshot y (g.facts.drop i) b).value):=by
 intro n
 induction n with
 | zero =>
  intro i b hi k hk
  obtain ⟨k,rfl⟩:∃ k',k=k'+1:=⟨k-1,by omega⟩
  rw [ferrymanlaw16_log_reads_POO_l1.eq_2,List.drop_of_length_le (by omega)]
  have:¬ ((i:Int)<(g.facts.length:Int)):=by omega
  simp [this,bestS]
 | succ n ih =>
  intro i b hi k hk
  obtain ⟨k,rfl⟩:∃ k',k=k'+1:=⟨k-1,by omega⟩
  have hlt:i<g.facts.length:=by omega
  have h1:(i:Int)<(g.facts.length:Int):=by omega
  rw [ferrymanlaw16_log_reads_POO_l1.eq_2,List.drop_eq_getElem_cons hlt,bestS]
  simp only [h1,decide_true,if_true,inR hlt,and_self,rdN hlt,rdN h,wr1 (i:=i) (by omega),sbe]
  by_cases hc:g.facts[i].key=y∧g.facts[i].ts≤g.lives[q].snapshot∧g.facts[i].ts>b.ts
  ·have hb:((decide (g.facts[i].key=y)&&decide (g.facts[i].ts≤g.lives[q].snapshot))&&decide (g.facts[i].ts>b.ts))=true:=by simp [hc]
   rw [if_pos hb,if_pos hc]
   exact ih (i+1) _ (by omega) k (by omega)
  ·have hb:((decide (g.facts[i].key=y)&&decide (g.facts[i].ts≤g.lives[q].snapshot))&&decide (g.facts[i].ts>b.ts))=false:=by
    rw [Bool.eq_false_iff];intro z
    simp only [Bool.and_eq_true,decide_eq_true_eq] at z
    exact hc ⟨z.1.1,z.1.2,z.2⟩
   rw [if_neg (by rw [hb];decide),if_neg hc]
   exact ih (i+1) _ (by omega) k (by omega)
theorem reads_l0 (g:Log) (q:Nat) (h:q<g.lives.length) (y:Str) (hw:g.lives[q].writes.length≤1000000):∀ (i:Nat),i≤g.lives[q].writes.length→∀ k,i<k →
  ferrymanlaw16_log_reads_POO_l0 g (q:Int) y k ((i:Int)-1)=some (match lastW (g.lives[q].writes.take i) y with | some f=>.inl (f.value,!f.tomb) | none=>.inr ()):=by
 intro i
 induction i with
 | zero =>
  intro hi k hk
  obtain ⟨k,rfl⟩:∃ k',k=k'+1:=⟨k-1,by omega⟩
  rw [ferrymanlaw16_log_reads_POO_l0.eq_2,if_neg (by simp)];rfl
 | succ i ih =>
  intro hi k hk
  obtain ⟨k,rfl⟩:∃ k',k=k'+1:=⟨k-1,by omega⟩
  have hlt:i<g.lives[q].writes.length:=by omega
  have e:(((i+1:Nat):Int)-1)=(i:Int):=by omega
  have e2:=wr (x:=(i:Int)-1) (by omega) (by omega)
  have h0:(i:Int)≥0:=by omega
  rw [ferrymanlaw16_log_reads_POO_l0.eq_2,e,List.take_succ_eq_append_getElem hlt,lastW_app]
  simp only [h0,decide_true,if_true,rdN h,inR hlt,and_self,rdN hlt,sbe,e2]
  by_cases hc:g.lives[q].writes[i].key=y
  ·rw [if_pos (by simpa using hc),if_pos hc]
  ·rw [if_neg (by simpa using hc),if_neg hc]
   exact ih (by omega) k (by omega)
theorem reads_ev {p:Nat} {g:Log} (B:Bd p g) (hp:p≤1000) (q:Nat) (h:q<g.lives.length) (y:Str):Ev (fun k=>ferrymanlaw16_log_reads_POO k g (q:Int) y) (readS g g.lives[q] y):=by
 have hw:=B.wr _ (List.getElem_mem h)
 have hf:=B.fc
 have e:=wr (x:=(g.lives[q].writes.length:Int)-1) (by omega) (by omega)
 unfold ferrymanlaw16_log_reads_POO readS
 refine Ev.pos (inR h) ?_
 rw [rdN h,e]
 refine Ev.bind (v:=match lastW (g.lives[q].writes.take g.lives[q].writes.length) y with | some f=>.inl (f.value,!f.tomb) | none=>.inr ()) ⟨g.lives[q].writes.length+1,fun k hk=>reads_l0 g q h y (by omega) _ (Nat.le_refl _) k (by omega)⟩ ?_
 rw [List.take_length]
 cases hc:lastW g.lives[q].writes y with
 | some f=>exact Ev.pure _
 | none =>
  refine Ev.bind (v:=((bestS g.lives[q].snapshot y g.facts fact0).ts,(bestS g.lives[q].snapshot y g.facts fact0).key,(bestS g.lives[q].snapshot y g.facts fact0).tomb,(bestS g.lives[q].snapshot y g.facts fact0).value)) ⟨g.facts.length+1,fun k hk=>?_⟩ (Ev.pure _)
  have:=reads_l1 g q h y (by omega) g.facts.length 0 fact0 (by omega) k (by omega)
  rw [List.drop_zero] at this;exact this
theorem best_app (s:Int) (y:Str):∀ (F G:List Fact) (b:Fact),bestS s y (F++G) b=bestS s y G (bestS s y F b)
 | [],G,b=>rfl
 | f::F,G,b=>by rw [List.cons_append,bestS,bestS];exact best_app s y F G _
theorem best_ts (s:Int) (y:Str) {T:Int}:∀ (l:List Fact) (b:Fact),(∀ f∈l,f.ts≤T)→b.ts≤T→(bestS s y l b).ts≤T
 | [],b,_,h=>h
 | f::l,b,hl,h=>by
  rw [bestS]
  refine best_ts s y l _ (fun z hz=>hl z (List.mem_cons_of_mem _ hz)) ?_
  split
  ·exact hl f List.mem_cons_self
  ·exact h
theorem lasts_mem {ts:Int}:∀ {l:List Fact} {z:Fact},z∈lastsS ts l→z.ts=ts∧∃ f∈l,f.key=z.key
 | f::l,z,hz=>by
  unfold lastsS at hz
  rcases List.mem_append.1 hz with h | h
  ·split at h
   ·obtain rfl:=List.mem_singleton.1 h;exact ⟨rfl,f,List.mem_cons_self,rfl⟩
   ·cases h
  ·obtain ⟨h1,g,hg,e⟩:=lasts_mem h
   exact ⟨h1,g,List.mem_cons_of_mem _ hg,e⟩
theorem best_none (s:Int) (y:Str):∀ (l:List Fact) (b:Fact),(∀ f∈l,f.key≠y)→bestS s y l b=b
 | [],b,_=>rfl
 | f::l,b,h=>by
  rw [bestS,if_neg (fun z=>h f List.mem_cons_self z.1)]
  exact best_none s y l b fun z hz=>h z (List.mem_cons_of_mem _ hz)
theorem lastW_cons (f:Fact) (l:List Fact) (y:Str):lastW (f::l) y=match lastW l y with | some g=>some g | none=>if f.key=y then some f else none:=by
 unfold lastW
 rw [List.reverse_cons,List.find?_append]
 cases l.reverse.find? fun f=>decide (f.key=y) with
 | some g=>rfl
 | none=>rw [Option.none_or,List.find?_cons];by_cases h:f.key=y<;>simp [h]
theorem best_lasts (s:Int) (y:Str) (ts:Int) (b:Fact) (hb:b.ts<ts):∀ W:List Fact,bestS s y (lastsS ts W) b=match lastW W y with | none=>b | some f=>if ts≤s then ⟨ts,f.key,f.tomb,f.value⟩ else b
 | []=>rfl
 | f::l=>by
  have ih:=best_lasts s y ts b hb l
  rw [lastW_cons]
  unfold lastsS
  by_cases ha:(l.all fun x=>!decide (x.key=f.key))=true
  ·rw [if_pos ha,List.singleton_append,bestS]
   have ha':∀ x∈l,x.key≠f.key:=fun x hx=>by simpa using List.all_eq_true.1 ha x hx
   by_cases hk:f.key=y
   ·have hl:lastW l y=none:=by
     cases hc:lastW l y with
     | none=>rfl
     | some g=>obtain ⟨h1,h2⟩:=lastW_some hc;exact absurd (h1.trans hk.symm) (ha' g h2)
    rw [hl,best_none]
    ·dsimp only
     rw [if_pos hk]
     dsimp only
     by_cases hs:ts≤s
     ·rw [if_pos ⟨hk,hs,hb⟩,if_pos hs]
     ·rw [if_neg (fun z=>hs z.2.1),if_neg hs]
    ·intro z hz
     obtain ⟨_,x,hx,e⟩:=lasts_mem hz
     rw [← e,← hk];exact ha' x hx
   ·rw [if_neg (fun z=>hk z.1),ih]
    cases lastW l y with
    | some g=>rfl
    | none=>dsimp only;rw [if_neg hk]
  ·rw [if_neg ha,List.nil_append,ih]
   cases hc:lastW l y with
   | some g=>rfl
   | none =>
    dsimp only
    rw [if_neg]
    intro hk
    refine ha (List.all_eq_true.2 fun x hx=>?_)
    have:x.key≠f.key:=fun e=>by
     obtain ⟨g,hg⟩:=lastW_mem hx
     rw [e,hk,hc] at hg;cases hg
    simpa using this
structure Hs (m:Mod) (g:Log):Prop where
 ex:∀ y,∃ (h:List Ver) (f:Int),Fl m f∧(rowOf m y).l=kept h f∧∀ s,(seen h s).2=(!(bestS s y g.facts fact0).tomb)∧((seen h s).2=true→(seen h s).1.Value=(bestS s y g.facts fact0).value)
 ft:∀ f∈g.facts,f.ts≤g.time
theorem Fl.end_ {m:Mod} {f:Int} (F:Fl m f) (j:Nat) (st ts c:Int) (hst:st≠1) (hc:m.clock≤c):Fl (endS { m with clock:=c } ((j:Int)+1) st ts) f:=by
 refine ⟨Int.le_trans F.1 hc,fun x hx h=>?_⟩
 rw [end_txs] at hx
 rcases List.mem_or_eq_of_mem_set hx with g | g
 ·exact F.2 x g h
 ·subst g;exact absurd h hst
theorem end_lS {n:Nat} {m:Mod} (I:Inv n m) (O:Ok m) (j:Nat) (st c:Int) (y:Str):(rowOf (endS { m with clock:=c } ((j:Int)+1) st 0) y).l=(rowOf m y).l:=by
 rw [row_end I O];unfold endRow
 split
 ·rfl
 ·rfl
theorem Hs.next {n:Nat} {m m':Mod} {g g':Log} {at_:Int} (I:Inv n m) (O:Ok m) (R:Lg m g) (S:Step m g at_ m' g') (H:Hs m g):Hs m' g':=by
 have hl:=R.ln
 cases S with
 | same=>exact H
 | vac =>
  refine ⟨fun y=>?_,H.ft⟩
  obtain ⟨h,f,hf,e,hs⟩:=H.ex y
  have hF:Fl m (floorL m.txs m.clock):=⟨floor_le _ _,fun x hx h=>floor_act _ _ x hx h⟩
  refine ⟨h,if f≤floorL m.txs m.clock then floorL m.txs m.clock else f,?_,?_,hs⟩
  ·show Fl m _
   split<;>assumption
  ·rw [row_vac I O];show kept (rowOf m y).l _=_;rw [e,kept_kept]
 | begin t =>
  refine ⟨fun y=>?_,H.ft⟩
  obtain ⟨h,f,hf,e,hs⟩:=H.ex y
  refine ⟨h,f,⟨hf.1,fun x hx h'=>?_⟩,e,hs⟩
  rcases List.mem_append.1 hx with g | g
  ·exact hf.2 x g h'
  ·obtain rfl:=List.mem_singleton.1 g;exact hf.1
 | write j h f hs hi hc =>
  refine ⟨fun y=>?_,H.ft⟩
  obtain ⟨h,f',hf,e,hs⟩:=H.ex y
  refine ⟨h,f',hf,?_,hs⟩
  rw [row_put]
  split
  ·next q=>rw [q];exact e
  ·exact e
 | none j h hs hw =>
  refine ⟨fun y=>?_,H.ft⟩
  obtain ⟨h,f,hf,e,hs⟩:=H.ex y
  exact ⟨h,f,hf.end_ j 3 0 m.clock (by decide) (Int.le_refl _),(end_lS I O j 3 m.clock y).trans e,hs⟩
 | abort j h hs =>
  refine ⟨fun y=>?_,H.ft⟩
  obtain ⟨h,f,hf,e,hs⟩:=H.ex y
  exact ⟨h,f,hf.end_ j 4 0 m.clock (by decide) (Int.le_refl _),(end_lS I O j 4 m.clock y).trans e,hs⟩
 | commit j hj hsj hw =>
  have hck:=I.ck
  refine ⟨fun y=>?_,fun z hz=>?_⟩
  rotate_left
  ·rcases List.mem_append.1 hz with h | h
   ·have:=H.ft z h;show z.ts≤g.time+1;omega
   ·rw [(lasts_mem h).1];exact Int.le_refl _
  obtain ⟨h,f,hf,e,hs⟩:=H.ex y
  have hF:Fl (endS { m with clock:=m.clock+1 } ((j:Int)+1) 3 (m.clock+1)) f:=hf.end_ j 3 (m.clock+1) (m.clock+1) (by decide) (by omega)
  have hb:∀ s,(bestS s y g.facts fact0).ts<g.time+1:=fun s=>by
   have:=best_ts s y (T:=g.time) g.facts fact0 H.ft (by show (0:Int)≤_;rw [R.tm];omega)
   omega
  cases hc:lastW g.lives[j].writes y with
  | none =>
   refine ⟨h,f,hF,?_,fun s=>?_⟩
   ·rw [row_end I O];unfold endRow
    rw [if_pos]
    ·exact e
    ·intro q
     obtain ⟨i,hi,_,f',hf',e2⟩:=R.it.it y (by omega)
     rw [e2] at q
     obtain rfl:i=j:=by dsimp only at q;omega
     rw [hc] at hf';cases hf'
   ·show _=(!(bestS s y (g.facts++_) fact0).tomb)∧(_→_=(bestS s y (g.facts++_) fact0).value)
    rw [best_app,best_lasts s y _ _ (hb s),hc];exact hs s
  | some w =>
   have hwr:=R.it.iw j hj hsj y w hc
   have hint:(rowOf m y).intent=⟨(j:Int)+1,0,w.tomb,w.value⟩:=by
    obtain ⟨i,hi,_,f',hf',e2⟩:=R.it.it y (by omega)
    have q:=congrArg api_Version.Writer e2
    rw [hwr] at q
    obtain rfl:i=j:=by dsimp only at q;omega
    rw [hc] at hf';cases hf'
    exact e2
   refine ⟨⟨(j:Int)+1,m.clock+1,w.tomb,w.value⟩::h,f,hF,?_,fun s=>?_⟩
   ·have h1:=hf.1
    rw [row_end I O];unfold endRow
    rw [if_neg (by simpa using hwr),if_pos (by omega),hint,e]
    dsimp only
    rw [kept,if_neg (by dsimp only;omega)]
   ·show _=(!(bestS s y (g.facts++_) fact0).tomb)∧(_→_=(bestS s y (g.facts++_) fact0).value)
    rw [best_app,best_lasts s y _ _ (hb s),hc,R.tm]
    dsimp only
    rw [seen]
    dsimp only
    by_cases q:m.clock+1≤s
    ·rw [if_pos q,if_pos q]
     cases w.tomb with
     | true=>exact ⟨rfl,fun z=>by cases z⟩
     | false=>exact ⟨rfl,fun _=>rfl⟩
    ·rw [if_neg q,if_neg q];exact hs s
theorem see_read {n:Nat} {m:Mod} {g:Log} (I:Inv n m) (R:Lg m g) (H:Hs m g) {j:Nat} (hj:j<g.lives.length) (hs:(rd m.txs (j:Int)).state=1) (y:Str) :
  (seeS m ((j:Int)+1) (rowOf m y)).2=(readS g g.lives[j] y).2∧((readS g g.lives[j] y).2=true→(seeS m ((j:Int)+1) (rowOf m y)).1=(readS g g.lives[j] y).1):=by
 unfold seeS readS
 cases hc:lastW g.lives[j].writes y with
 | some w =>
  have hwr:=R.it.iw j hj hs y w hc
  have hint:(rowOf m y).intent=⟨(j:Int)+1,0,w.tomb,w.value⟩:=by
   obtain ⟨i,hi,_,f',hf',e2⟩:=R.it.it y (by omega)
   have q:=congrArg api_Version.Writer e2
   rw [hwr] at q
   obtain rfl:i=j:=by dsimp only at q;omega
   rw [hc] at hf';cases hf'
   exact e2
  rw [if_pos hwr,hint];exact ⟨rfl,fun _=>rfl⟩
 | none =>
  rw [if_neg]
  rotate_left
  ·intro q
   obtain ⟨i,hi,_,f',hf',e2⟩:=R.it.it y (by omega)
   rw [e2] at q
   obtain rfl:i=j:=by dsimp only at q;omega
   rw [hc] at hf';cases hf'
  obtain ⟨h,f,hf,e,hh⟩:=H.ex y
  have hl:=R.ln
  have hsn:=R.nm.sn j (by simpa using hj)
  simp only [List.getElem_map,hd3] at hsn
  have hfs:f≤(rd m.txs (j:Int)).snapshot:=hf.2 _ (by rw [rdN (by omega)];exact List.getElem_mem _) hs
  rw [e,show (j:Int)+1-1=(j:Int) by omega,seen_kept _ _ _ hfs,hsn]
  have:=hh g.lives[j].snapshot
  exact ⟨this.1,fun q=>this.2 (this.1.trans q)⟩
end Go.Proofs.YtcngjjlhdlbogaaDoor
