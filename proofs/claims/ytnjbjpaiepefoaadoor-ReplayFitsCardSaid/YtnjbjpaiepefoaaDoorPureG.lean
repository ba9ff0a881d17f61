import Derived.Test.YtnjbjpaiepefoaaDoorPureFits
namespace Go.Proofs.YtnjbjpaiepefoaaDoor
open Go Go.RowKit
set_option linter.unusedVariables false
set_option linter.unusedSimpArgs false
set_option maxRecDepth 100000
abbrev Tks:=List Zu
abbrev Askd:=Int→Int→Option Qc
def st (T:Tks) (e:QA):Tks:=T.set e.Task.toNat (nextT (rd T e.Task) (e.What-1))
def atE (T:Tks) (e:QA):Prop:=(rd T e.Task).at_=e.What-1∧(rd T e.Task).calls=e.Call
inductive G (p:Progs) (A:Askd):Evs→Tks→Mod→Prop
 | nil {T m}:G p A [] T m
 | mark {e l T m} (w:e.What=2) (g:goodE p e) (a:atE T e) (ha:∀ a,A e.Task e.Call=some a→(doS m e.Task (rd (rd p e.Task) e.Call)).1=a) (h:G p A l (st T e) (doS m e.Task (rd (rd p e.Task) e.Call)).2):G p A l T m
 | ev {e l T m} (w:e.What≠2) (g:goodE p e) (a:atE T e) (h:G p A l (st T e) m):G p A (e::l) T m
section
variable {p:Progs} {A:Askd}
theorem UV (T:Tks) (e:QA):(st T e).length=T.length:=by unfold st;rw [List.length_set]
theorem rdT {T:Tks} {e:QA} (g:goodE p e) (hT:p.length≤T.length) {u:Int} (B:0≤u) (E:u<(T.length:Int)):rd (st T e) u=if u=e.Task then nextT (rd T e.Task) (e.What-1) else rd T u:=by
 obtain ⟨⟨H,K,_,_⟩,_⟩:=g;obtain ⟨n,rfl⟩:=Int.eq_ofNat_of_zero_le B;unfold st;rw [rdN (by rw [List.length_set];omega),List.getElem_set,rdN (l:=T) (i:=n) (by omega)]
 by_cases q:(n:Int)=e.Task
 ·rw [if_pos (by omega),if_pos q]
 ·rw [if_neg (by omega),if_neg q]
theorem Kt {T:Tks} {e:QA} (g:goodE p e) (hT:p.length≤T.length):rd (st T e) e.Task=nextT (rd T e.Task) (e.What-1):=by
 rw [rdT g hT g.1.1 (by have:=g.1.2.1;omega),if_pos rfl]
theorem q5 {T:Tks} {e f:QA} (g:goodE p e) (gf:goodE p f) (hT:p.length≤T.length) (h:f.Task≠e.Task):rd (st T e) f.Task=rd T f.Task:=by
 rw [rdT g hT gf.1.1 (by have:=gf.1.2.1;omega),if_neg h]
theorem at_ne {T:Tks} {e f:QA} (g:goodE p e) (gf:goodE p f) (hT:p.length≤T.length) (h:f.Task≠e.Task):atE (st T e) f↔atE T f:=by
 unfold atE;rw [q5 g gf hT h]
theorem st_comm {T:Tks} {e f:QA} (g:goodE p e) (gf:goodE p f) (hT:p.length≤T.length) (h:f.Task≠e.Task):st (st T e) f=st (st T f) e:=by
 have B:=q5 g gf hT h;have E:=q5 gf g hT (fun q=>h q.symm);have hn:e.Task.toNat≠f.Task.toNat:=by have:=g.1.1;have:=gf.1.1;omega
 unfold st at *;rw [B,E,List.set_comm _ _ hn]
theorem Ky {x:Zu} {w:Int} (h:w=0∨w=1∨w=2):(nextT x w).at_=if w=2 then 0 else w+1:=by
 unfold nextT;rcases h with rfl | rfl | rfl<;>rfl
theorem UO {e:QA} (g:goodE p e):e.What=1∨e.What=2∨e.What=3:=by have:=g.2.1;have:=g.2.2.1;omega
theorem own_at {T:Tks} {e:QA} (g:goodE p e) (hT:p.length≤T.length):(rd (st T e) e.Task).at_=if e.What=3 then 0 else e.What:=by
 rw [Kt g hT,Ky (by have:=UO g;omega)];rcases UO g with w | w | w<;>rw [w]<;>rfl
theorem G.good {l:Evs} {T:Tks} {m:Mod} (h:G p A l T m):∀ e∈l,goodE p e∧e.What≠2:=by
 induction h with
 | nil=>intro e h;cases h
 | mark _ _ _ _ _ ih=>exact ih
 | ev w g _ _ ih=>
  intro e h;rcases List.mem_cons.1 h with rfl | h
  ·exact ⟨g,w⟩
  ·exact ih e h
def opn (T:Tks):List Int:=T.map fun z=>if z.at_=1 then z.calls else -1
theorem Jy {T:Tks} {t:Int} (h0:0≤t) (B:t<(T.length:Int)):rd (opn T) t=if (rd T t).at_=1 then (rd T t).calls else -1:=by
 obtain ⟨n,rfl⟩:=Int.eq_ofNat_of_zero_le h0;rw [rdN (by unfold opn;rw [List.length_map];omega),rdN (by omega)];simp [opn]
theorem Jx (T:Tks) (e:QA):opn (st T e)=(opn T).set e.Task.toNat (if (nextT (rd T e.Task) (e.What-1)).at_=1 then (nextT (rd T e.Task) (e.What-1)).calls else -1):=by
 unfold opn st;rw [List.map_set]
def fr (t c:Int) (l:Evs):Prop:=∀ e,l.find? (fun e=>e.Task==t)=some e→e.What≠1∧e.Call=c
theorem QAb {t c:Int} {e:QA} {l:Evs} (h:fr t c (e::l)) (hne:e.Task≠t):fr t c l:=fun x hx=>h x (by rw [List.find?_cons_of_neg (by simpa using hne)];exact hx)
theorem QAc {t c:Int} {e:QA} {l:Evs} (h:fr t c (e::l)) (B:e.Task=t):e.What≠1∧e.Call=c:=h e (by rw [List.find?_cons_of_pos (by simpa using B)])
theorem G.fr {l:Evs} {T:Tks} {m:Mod} (h:G p A l T m):p.length≤T.length→∀ t c:Int,0≤t→t<(p.length:Int)→(rd T t).at_=2→(rd T t).calls=c→fr t c l:=by
 induction h with
 | nil=>intro _ t c _ _ _ _ e h;cases h
 | @mark e l T m w g a ha h ih =>
  intro hT t c E K H hc
  have ne:t≠e.Task:=fun q=>by
   have U:=a.1;rw [← q,H,w] at U;exact absurd U (by decide)
  have B:=rdT g hT E (by omega);rw [if_neg ne] at B;exact ih (by rw [UV];exact hT) t c E K (by rw [B];exact H) (by rw [B];exact hc)
 | @ev e l T m w g a h ih =>
  intro hT t c E K H hc x hx
  by_cases q:e.Task=t
  ·rw [List.find?_cons_of_pos (by simpa using q)] at hx
   cases hx
   obtain ⟨W,V⟩:=a;rw [q] at W V;exact ⟨by omega,by rw [← V,hc]⟩
  ·rw [List.find?_cons_of_neg (by simpa using q)] at hx;have B:=rdT g hT E (by omega);rw [if_neg (fun h=>q h.symm)] at B;exact ih (by rw [UV];exact hT) t c E K (by rw [B];exact H) (by rw [B];exact hc) x hx
theorem FF.late {l:Evs} {O':List Int} {m':Mod} (h:FF p A l O' m'):∀ (O:List Int) (m:Mod) (t:Nat),O'=O.set t (-1)→t<O.length→cond p A O m t→m'=next p O m t→fr (t:Int) (rd O (t:Int)) l→(∀ e∈l,0≤e.Task∧e.Task<(O.length:Int)∧0≤e.Call)→FF p A l O m:=by
 induction h with
 | nil=>intro O m t _ _ _ _ _ _;exact .nil
 | @inv e l O' m' w h ih =>
  intro O m t hO ht hc hm hf hE;subst hO;subst hm;obtain ⟨E,K,U⟩:=hE e List.mem_cons_self;have ne:e.Task≠(t:Int):=fun q=>(QAc hf q).1 w;have hn:e.Task.toNat≠t:=by omega
  have B:rd (O.set e.Task.toNat e.Call) (t:Int)=rd O (t:Int):=by rw [q4 ht,if_neg hn]
  refine .inv w (ih (O.set e.Task.toNat e.Call) m t (List.set_comm _ _ (fun q=>hn q.symm)) (by rw [List.length_set];exact ht) (by unfold cond;rw [B];exact hc) (by unfold next;rw [B]) (by rw [B];exact QAb hf ne) fun z hz=>?_);rw [List.length_set];exact hE z (List.mem_cons_of_mem _ hz)
 | @skip e l O' m' w q h ih =>
  intro O m t hO ht hc hm hf hE;subst hO;subst hm
  by_cases q':rd O e.Task=e.Call
  ·exact .mark w q' t ht hc (.skip w q h)
  ·have ne:e.Task≠(t:Int):=fun H=>q' (by rw [H];exact (QAc hf H).2.symm);exact .skip w q' (ih O m t rfl ht hc rfl (QAb hf ne) fun z hz=>hE z (List.mem_cons_of_mem _ hz))
 | @mark e l O' m' w q u hu hc' h ih =>
  intro O m t hO ht hc hm hf hE;subst hO;subst hm;obtain ⟨E,K,U⟩:=hE e List.mem_cons_self
  by_cases q':rd O e.Task=e.Call
  ·exact .mark w q' t ht hc (.mark w q u hu hc' h)
  ·obtain ⟨n,hn⟩:=Int.eq_ofNat_of_zero_le E;rw [hn] at q q';rw [q4 (by omega)] at q
   split at q
   ·omega
   ·exact absurd q q'
theorem G.toFF {l:Evs} {T:Tks} {m:Mod} (h:G p A l T m):p.length≤T.length→FF p A l (opn T) m:=by
 induction h with
 | nil=>intro _;exact .nil
 | @mark e l T m w g a ha h ih =>
  intro hT;have hT':p.length≤(st T e).length:=by rw [UV];exact hT
  have B:=ih hT';obtain ⟨⟨H,V,W,Z⟩,_⟩:=g;have g:goodE p e:=⟨⟨H,V,W,Z⟩,by assumption⟩;obtain ⟨n,hn⟩:=Int.eq_ofNat_of_zero_le H;obtain ⟨Y,U⟩:=a
  have K:nextT (rd T e.Task) (e.What-1)=⟨2,e.Call⟩:=by
   rw [w];unfold nextT;rw [if_neg (by decide),U];rfl
  have E:rd (opn T) e.Task=e.Call:=by rw [Jy H (by omega),if_pos (by rw [Y,w];rfl),U]
  have hlen:(opn T).length=T.length:=by unfold opn;rw [List.length_map]
  rw [Jx,K,if_neg (show ¬ (2:Int)=1 by decide)] at B;have hf:=h.fr hT' e.Task e.Call H V (by rw [Kt g hT,K]) (by rw [Kt g hT,K]);have hgood:=h.good;rw [hn] at B E ha hf;refine B.late (opn T) m n rfl (by omega) ⟨by rw [E];exact W,fun z hz=>?_⟩ ?_ (by rw [E];exact hf) fun z hz=>?_
  ·rw [E] at hz ⊢;exact ha z hz
  ·unfold next;rw [E]
  ·obtain ⟨⟨⟨z0,z1,z2,_⟩,_⟩,_⟩:=hgood z hz;exact ⟨z0,by omega,z2⟩
 | @ev e l T m w g a h ih =>
  intro hT;have B:=ih (by rw [UV];exact hT);have H:=g.1.1;have V:=g.1.2.1;have W:=g.1.2.2.1;obtain ⟨Y,U⟩:=a;rw [Jx] at B;rcases UO g with w1 | w1 | w1
  ·refine .inv w1 ?_
   have K:nextT (rd T e.Task) (e.What-1)=⟨1,e.Call⟩:=by
    rw [w1];unfold nextT;rw [if_neg (by decide),U];rfl
   rw [K,if_pos rfl] at B;exact B
  ·exact absurd w1 w
  ·have E:rd (opn T) e.Task=-1:=by rw [Jy H (by omega),if_neg (by rw [Y,w1];decide)]
   refine .skip (by omega) (by omega) ?_
   have K:nextT (rd T e.Task) (e.What-1)=⟨0,e.Call+1⟩:=by
    rw [w1];unfold nextT;rw [if_pos (by decide),U]
   rw [K,if_neg (show ¬ (0:Int)=1 by decide)] at B
   have e3:(opn T).set e.Task.toNat (-1)=opn T:=by
    obtain ⟨n,hn⟩:=Int.eq_ofNat_of_zero_le H;have hl:n<(opn T).length:=by unfold opn;rw [List.length_map];omega
    rw [hn] at E ⊢;rw [rdN hl] at E;rw [show ((n:Int)).toNat=n from rfl,← E,List.set_getElem_self]
   rw [e3] at B;exact B
def unm (T:Tks):Tks:=T.map fun z=>if z.at_=2 then ⟨1,z.calls⟩ else z
theorem unm_rd {T:Tks} {t:Int} (h0:0≤t) (B:t<(T.length:Int)):rd (unm T) t=if (rd T t).at_=2 then ⟨1,(rd T t).calls⟩ else rd T t:=by
 obtain ⟨n,rfl⟩:=Int.eq_ofNat_of_zero_le h0;rw [rdN (by unfold unm;rw [List.length_map];omega),rdN (by omega)];simp [unm]
theorem qq (T:Tks) (e:QA):unm (st T e)=(unm T).set e.Task.toNat (if (nextT (rd T e.Task) (e.What-1)).at_=2 then ⟨1,(nextT (rd T e.Task) (e.What-1)).calls⟩ else nextT (rd T e.Task) (e.What-1)):=by
 unfold unm st;rw [List.map_set]
theorem KA (s:Core) (i:Int) (e:QA):(goS p s i e).tasks=st s.tasks e:=by
 unfold goS;split
 ·rfl
 ·split<;>rfl
theorem qM {t c:Int} {e:QA} {l:Evs} (h:¬ isRet t c e=true):retAns (e::l) t c=retAns l t c:=by unfold retAns;rw [List.find?_cons_of_neg h]
theorem JD {t c:Int} {e:QA} (h:isRet t c e=true):e.What=3∧e.Task=t∧e.Call=c:=by
 simp only [isRet,Bool.and_eq_true,beq_iff_eq] at h;exact ⟨h.1.1,h.1.2,h.2⟩
end
end Go.Proofs.YtnjbjpaiepefoaaDoor
