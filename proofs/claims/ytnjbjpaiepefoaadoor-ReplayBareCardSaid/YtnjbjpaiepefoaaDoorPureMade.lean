import Derived.Test.YtnjbjpaiepefoaaDoorPureHist
namespace Go.Proofs.YtnjbjpaiepefoaaDoor
open Go Go.RowKit
set_option linter.unusedVariables false
set_option linter.unusedSimpArgs false
set_option maxRecDepth 100000
def key (e:QG):Int × Int × Int × Qf:=(e.What,e.Task,e.Call,if e.What = 3 then ans 0 else e.Answer)
theorem key_eq {e f:QG} (h:key e = key f):e.What = f.What ∧ e.Task = f.Task ∧ e.Call = f.Call ∧ (e.What ≠ 3 → e.Answer = f.Answer):=by
 unfold key at h
 simp only [Prod.mk.injEq] at h
 obtain ⟨h1,h2,h3,h4⟩:=h
 refine ⟨h1,h2,h3,fun h5=>?_⟩
 rw [if_neg h5,if_neg (by rw [← h1]; exact h5)] at h4
 exact h4
theorem key_may {p:Progs} {x:Core} {e f:QG} (h:key e = key f):may p x e ↔ may p x f:=by
 obtain ⟨h1,h2,h3,h4⟩:=key_eq h
 unfold may goodE isAt
 rw [h1,h2,h3]
 rw [h1] at h4
 constructor
 ·rintro ⟨⟨a,b,c,d⟩,g⟩; exact ⟨⟨a,b,c,fun q=>(h4 q).symm.trans (d q)⟩,g⟩
 ·rintro ⟨⟨a,b,c,d⟩,g⟩; exact ⟨⟨a,b,c,fun q=>(h4 q).trans (d q)⟩,g⟩
theorem key_go {p:Progs} {x:Core} {a:Int} {e f:QG} (h:key e = key f):goS p x a e = goS p x a f:=by
 obtain ⟨h1,h2,h3,_⟩:=key_eq h
 unfold goS setT
 rw [h1,h2,h3]
theorem overC_key (p:Progs):∀ (l l':List QG) (a:Int) (x:Core),l.map key = l'.map key → overC p l a x = overC p l' a x
 | [],[],_,_,_=>rfl
 | [],_ :: _,_,_,h=>by simp at h
 | _ :: _,[],_,_,h=>by simp at h
 | e :: l,f :: l',a,x,h=>by
  simp only [List.map_cons,List.cons.injEq] at h
  unfold overC
  by_cases c:may p x e
  ·rw [if_pos c,if_pos ((key_may h.1).1 c),key_go h.1]; exact overC_key p l l' _ _ h.2
  ·rw [if_neg c,if_neg (fun g=>c ((key_may h.1).2 g))]
structure KInv (T:Nat) (L:List QG) (i:Nat) (x:Core):Prop where
 tl:x.tasks.length = T
 la:x.last.length = T
 bk:∀ d ∈ x.done,d.Back < (i:Int)
 inj:∀ (j j':Nat) (h:j < x.done.length) (h':j' < x.done.length),0 ≤ x.done[j].Back → x.done[j].Back = x.done[j'].Back → j = j'
 rt:∀ d ∈ x.done,0 ≤ d.Back → ∃ h:d.Back.toNat < L.length,L[d.Back.toNat].What = 3
 op:∀ t:Nat,t < T → (rd x.tasks (t:Int)).at_ = 2 → ∃ j:Nat,rd x.last (t:Int) = (j:Int) ∧ ∃ h:j < x.done.length,x.done[j].Back < 0
 dj:∀ t u:Nat,t < T → u < T → (rd x.tasks (t:Int)).at_ = 2 → (rd x.tasks (u:Int)).at_ = 2 → rd x.last (t:Int) = rd x.last (u:Int) → t = u
theorem setT_at' {T:Nat} {x:Core} (hl:x.tasks.length = T) {e:QG} (hI:isAt x e) (w:1 ≤ e.What ∧ e.What ≤ 3) (t0:0 ≤ e.Task) (t1:e.Task < (T:Int)) (u:Nat) (hu:u < T) :
  (rd (setT x e) (u:Int)).at_ = if (u:Int) = e.Task then (if e.What = 3 then 0 else e.What) else (rd x.tasks (u:Int)).at_:=by
 have h1:=hI.1
 unfold setT
 rw [rdN (by rw [List.length_set]; omega),List.getElem_set]
 by_cases q:(u:Int) = e.Task
 ·rw [if_pos q,if_pos (by omega)]
  unfold nextT
  by_cases q3:e.What = 3
  ·rw [if_pos (by omega),if_pos q3]
  ·rw [if_neg (by omega),if_neg q3]; show e.What - 1 + 1 = e.What; omega
 ·rw [if_neg q,if_neg (by omega),rdN (by omega)]
theorem KInv.step {T:Nat} {p:Progs} {L:List QG} {i:Nat} {x:Core} (K:KInv T L i x) (hp:p.length ≤ T) (hi:i < L.length) (hm:may p x L[i]):KInv T L (i + 1) (goS p x (i:Int) L[i]) ∧
  x.done.length ≤ (goS p x (i:Int) L[i]).done.length ∧ (∀ (j:Nat) (h:j < x.done.length),∃ h':j < (goS p x (i:Int) L[i]).done.length,(goS p x (i:Int) L[i]).done[j].Answer = x.done[j].Answer ∧ (0 ≤ x.done[j].Back → (goS p x (i:Int) L[i]).done[j].Back = x.done[j].Back)) ∧
  (L[i].What = 3 → ∃ (j:Nat) (h:j < x.done.length) (h':j < (goS p x (i:Int) L[i]).done.length),rd x.last L[i].Task = (j:Int) ∧ (goS p x (i:Int) L[i]).done[j].Back = (i:Int)):=by
 obtain ⟨⟨⟨t0,t1,_,_⟩,w1,w3,_⟩,hI⟩:=hm
 have htT:L[i].Task < (T:Int):=by omega
 obtain ⟨n,hn⟩:=Int.eq_ofNat_of_zero_le t0
 have hnT:n < T:=by omega
 have g2:=setT_at' K.tl hI ⟨w1,w3⟩ t0 htT
 have hstl:(setT x L[i]).length = T:=by unfold setT; rw [List.length_set]; exact K.tl
 have hat:=hI.1
 by_cases q1:L[i].What = 1
 ·have e:goS p x (i:Int) L[i] = { x with tasks:=setT x L[i] }:=by unfold goS; rw [if_pos q1]
  rw [e]
  have old:∀ t:Nat,t < T → (rd (setT x L[i]) (t:Int)).at_ = 2 → (rd x.tasks (t:Int)).at_ = 2:=fun t ht h=>by
   rw [g2 t ht] at h
   by_cases q:(t:Int) = L[i].Task
   ·rw [if_pos q,if_neg (by omega)] at h; omega
   ·rw [if_neg q] at h; exact h
  exact ⟨⟨hstl,K.la,fun d hd=>by have:=K.bk d hd; omega,K.inj,K.rt,fun t ht h=>K.op t ht (old t ht h),fun t u ht hu h h' g=>K.dj t u ht hu (old t ht h) (old u hu h') g⟩,Nat.le_refl _,fun j h=>⟨h,rfl,fun _=>rfl⟩,fun h=>by omega⟩
 by_cases q2:L[i].What = 2
 ·generalize hd:(⟨L[i].Task,L[i].Call,(doS x.m L[i].Task (rd (rd p L[i].Task) L[i].Call)).1,(i:Int),-1⟩:ZL) = d
  have e:goS p x (i:Int) L[i] = ⟨x.done ++ [d],x.last.set L[i].Task.toNat (x.done.length:Int),setT x L[i],(doS x.m L[i].Task (rd (rd p L[i].Task) L[i].Call)).2⟩:=by unfold goS; rw [if_neg q1,if_pos q2,hd]
  have db:d.Back = -1:=by rw [← hd]
  rw [e]
  have hlast:∀ t:Nat,t < T → rd (x.last.set L[i].Task.toNat (x.done.length:Int)) (t:Int) = if t = n then (x.done.length:Int) else rd x.last (t:Int):=fun t ht=>by
   have hl:=K.la
   rw [rdN (by rw [List.length_set]; omega),List.getElem_set,rdN (by omega)]
   by_cases q:t = n
   ·rw [if_pos (by omega),if_pos q]
   ·rw [if_neg (by omega),if_neg q]
  have old:∀ t:Nat,t < T → t ≠ n → (rd (setT x L[i]) (t:Int)).at_ = 2 → (rd x.tasks (t:Int)).at_ = 2:=fun t ht hne h=>by
   rw [g2 t ht,if_neg (by omega)] at h; exact h
  have gl:∀ (j:Nat) (h:j < x.done.length) (h':j < (x.done ++ [d]).length),(x.done ++ [d])[j] = x.done[j]:=fun j h h'=>List.getElem_append_left h
  have gn:∀ (j:Nat) (h':j < (x.done ++ [d]).length),¬ j < x.done.length → (x.done ++ [d])[j] = d:=fun j h' h=>by
   rw [List.getElem_append_right (by omega)]
   have:j - x.done.length = 0:=by simp at h'; omega
   simp [this]
  refine ⟨⟨hstl,by simp [K.la],fun z hz=>?_,fun j j' h h' g g'=>?_,fun z hz g=>?_,fun t ht h=>?_,fun t u ht hu h h' g=>?_⟩,by simp,fun j h=>⟨by simp; omega,by rw [gl j h]; exact ⟨rfl,fun _=>rfl⟩⟩,fun h=>by omega⟩
  ·rcases List.mem_append.1 hz with h | h
   ·have:=K.bk z h; omega
   ·simp only [List.mem_singleton] at h; subst h; omega
  ·dsimp only at g g' h h'
   by_cases c:j < x.done.length
   ·rw [gl j c] at g g'
    by_cases c':j' < x.done.length
    ·rw [gl j' c'] at g'; exact K.inj j j' c c' g g'
    ·rw [gn j' h' c'] at g'; omega
   ·rw [gn j h c] at g; omega
  ·rcases List.mem_append.1 hz with h | h
   ·exact K.rt z h g
   ·simp only [List.mem_singleton] at h; subst h; omega
  ·dsimp only at h
   show ∃ j:Nat,rd (x.last.set L[i].Task.toNat (x.done.length:Int)) (t:Int) = (j:Int) ∧ ∃ h:j < (x.done ++ [d]).length,(x.done ++ [d])[j].Back < 0
   rw [hlast t ht]
   by_cases q:t = n
   ·rw [if_pos q]; exact ⟨x.done.length,rfl,by simp,by rw [gn _ (by simp) (by omega)]; omega⟩
   ·rw [if_neg q]
    obtain ⟨j,h1,h2,h3⟩:=K.op t ht (old t ht q h)
    exact ⟨j,h1,by simp; omega,by rw [gl j h2]; exact h3⟩
  ·dsimp only at h h'
   have g:rd (x.last.set L[i].Task.toNat (x.done.length:Int)) (t:Int) = rd (x.last.set L[i].Task.toNat (x.done.length:Int)) (u:Int):=g
   rw [hlast t ht,hlast u hu] at g
   by_cases q:t = n
   ·by_cases q':u = n
    ·omega
    ·rw [if_pos q,if_neg q'] at g
     obtain ⟨j,h1,h2,h3⟩:=K.op u hu (old u hu q' h'); omega
   ·by_cases q':u = n
    ·rw [if_neg q,if_pos q'] at g
     obtain ⟨j,h1,h2,h3⟩:=K.op t ht (old t ht q h); omega
    ·rw [if_neg q,if_neg q'] at g
     exact K.dj t u ht hu (old t ht q h) (old u hu q' h') g
 ·have q3:L[i].What = 3:=by omega
  have an:(rd x.tasks (n:Int)).at_ = 2:=by rw [← hn]; omega
  obtain ⟨j0,k1,k2,k3⟩:=K.op n hnT an
  rw [← hn] at k1
  have hd0:rd x.done (rd x.last L[i].Task) = x.done[j0]:=by rw [k1,rdN k2]
  generalize hd:(⟨x.done[j0].Task,x.done[j0].Call,x.done[j0].Answer,x.done[j0].Mark,(i:Int)⟩:ZL) = d
  have e:goS p x (i:Int) L[i] = ⟨x.done.set j0 d,x.last,setT x L[i],x.m⟩:=by unfold goS; rw [if_neg q1,if_neg q2,hd0,hd,k1]; rfl
  have db:d.Back = (i:Int):=by rw [← hd]
  have da:d.Answer = x.done[j0].Answer:=by rw [← hd]
  rw [e]
  have old:∀ t:Nat,t < T → (rd (setT x L[i]) (t:Int)).at_ = 2 → t ≠ n ∧ (rd x.tasks (t:Int)).at_ = 2:=fun t ht h=>by
   rw [g2 t ht] at h
   by_cases q:(t:Int) = L[i].Task
   ·rw [if_pos q,if_pos q3] at h; omega
   ·rw [if_neg q] at h; exact ⟨by omega,h⟩
  have gs:∀ (j:Nat) (h:j < x.done.length) (h':j < (x.done.set j0 d).length),(x.done.set j0 d)[j] = if j0 = j then d else x.done[j]:=fun j h h'=>by rw [List.getElem_set]
  have hlen:(x.done.set j0 d).length = x.done.length:=by simp
  refine ⟨⟨hstl,K.la,fun z hz=>?_,fun j j' h h' g g'=>?_,fun z hz g=>?_,fun t ht h=>?_,fun t u ht hu h h' g=>K.dj t u ht hu (old t ht h).2 (old u hu h').2 g⟩,by simp,fun j h=>⟨by simp; exact h,?_⟩,fun _=>⟨j0,k2,by simp; exact k2,k1,by rw [gs j0 k2,if_pos rfl]; exact db⟩⟩
  ·rcases List.mem_or_eq_of_mem_set hz with h | h
   ·have:=K.bk z h; omega
   ·subst h; omega
  ·dsimp only at g g' h h'
   have c:j < x.done.length:=by omega
   have c':j' < x.done.length:=by omega
   rw [gs j c,gs j' c'] at g'
   rw [gs j c] at g
   by_cases q:j0 = j
   ·by_cases q':j0 = j'
    ·omega
    ·rw [if_pos q,if_neg q'] at g'
     have:=K.bk _ (List.getElem_mem c'); omega
   ·by_cases q':j0 = j'
    ·rw [if_neg q,if_pos q'] at g'
     have:=K.bk _ (List.getElem_mem c); omega
    ·rw [if_neg q,if_neg q'] at g'
     rw [if_neg q] at g
     exact K.inj j j' c c' g g'
  ·rcases List.mem_or_eq_of_mem_set hz with h | h
   ·exact K.rt z h g
   ·subst h
    rw [db]
    exact ⟨by simpa using hi,by simpa using q3⟩
  ·dsimp only at h
   obtain ⟨hne,h2⟩:=old t ht h
   obtain ⟨j,h3,h4,h5⟩:=K.op t ht h2
   have hjj:j0 ≠ j:=fun q=>by
    subst q
    refine hne (K.dj t n ht hnT h2 an ?_)
    rw [h3,← hn,k1]
   exact ⟨j,h3,by show j < (x.done.set j0 d).length; omega,by show (x.done.set j0 d)[j].Back < 0; rw [gs j h4,if_neg hjj]; exact h5⟩
  ·dsimp only
   rw [gs j h]
   by_cases q:j0 = j
   ·subst q
    rw [if_pos rfl]
    exact ⟨da,fun g=>by omega⟩
   ·rw [if_neg q]; exact ⟨rfl,fun _=>rfl⟩
theorem drop_step {L:List QG} {i:Nat} {e:QG} {t:List QG} (h:L.drop i = e :: t):∃ hi:i < L.length,L[i] = e ∧ L.drop (i + 1) = t:=by
 have hi:i < L.length:=by
  rcases Nat.lt_or_ge i L.length with g | g
  ·exact g
  ·rw [List.drop_of_length_le g] at h; cases h
 rw [List.drop_eq_getElem_cons hi] at h
 simp only [List.cons.injEq] at h
 exact ⟨hi,h.1,h.2⟩
theorem stay {T:Nat} {p:Progs} (hp:p.length ≤ T) {L:List QG}:∀ (l:List QG) (i:Nat) (x y:Core),L.drop i = l → i ≤ L.length → KInv T L i x → overC p l (i:Int) x = some y →
  KInv T L L.length y ∧ x.done.length ≤ y.done.length ∧ ∀ (j:Nat) (h:j < x.done.length),∃ h':j < y.done.length,y.done[j].Answer = x.done[j].Answer ∧ (0 ≤ x.done[j].Back → y.done[j].Back = x.done[j].Back)
 | [],i,x,y,hd,hil,K,h=>by
  have:L.length ≤ i:=List.drop_eq_nil_iff.1 hd
  obtain rfl:i = L.length:=by omega
  obtain rfl:x = y:=Option.some.inj h
  exact ⟨K,Nat.le_refl _,fun j h=>⟨h,rfl,fun _=>rfl⟩⟩
 | e :: t,i,x,y,hd,hil,K,h=>by
  obtain ⟨hi,rfl,ht⟩:=drop_step hd
  unfold overC at h
  by_cases c:may p x L[i]
  ·rw [if_pos c] at h
   obtain ⟨K',k1,k2,_⟩:=K.step hp hi c
   have e1:(i:Int) + 1 = ((i + 1:Nat):Int):=by omega
   rw [e1] at h
   obtain ⟨h1,h2,h3⟩:=stay hp t (i + 1) _ y ht (by omega) K' h
   refine ⟨h1,by omega,fun j hj=>?_⟩
   obtain ⟨a1,a2,a3⟩:=k2 j hj
   obtain ⟨b1,b2,b3⟩:=h3 j a1
   exact ⟨b1,b2.trans a2,fun g=>(b3 (by rw [a3 g]; exact g)).trans (a3 g)⟩
  ·rw [if_neg c] at h; cases h
def ToldAt (L:List QG) (D:List ZL) (b:Nat):Prop:=∀ h:b < L.length,L[b].What = 3 → ∀ d ∈ D,d.Back = (b:Int) → L[b].Answer = d.Answer
theorem out_at {T:Nat} {p:Progs} (hp:p.length ≤ T) {L:List QG} {i:Nat} {x y:Core} (K:KInv T L i x) (hi:i < L.length) (c:may p x L[i]) (h:overC p (L.drop (i + 1)) ((i + 1:Nat):Int) (goS p x (i:Int) L[i]) = some y) (q3:L[i].What = 3) :
  ∃ d ∈ y.done,d.Back = (i:Int) ∧ (rd x.done (rd x.last L[i].Task)).Answer = d.Answer:=by
 obtain ⟨K',k1,k2,k3⟩:=K.step hp hi c
 obtain ⟨_,h2,h3⟩:=stay hp _ (i + 1) _ y rfl (by omega) K' h
 obtain ⟨j,a1,a2,a3,a4⟩:=k3 q3
 obtain ⟨_,b2,_⟩:=k2 j a1
 obtain ⟨c1,c2,c3⟩:=h3 j a2
 exact ⟨_,List.getElem_mem c1,(c3 (by rw [a4]; omega)).trans a4,by rw [a3,rdN a1,c2,b2]⟩
theorem check_ok {T:Nat} {p:Progs} (hp:p.length ≤ T) {L:List QG}:∀ (l:List QG) (i:Nat) (x y:Core),L.drop i = l → KInv T L i x → overC p l (i:Int) x = some y → (∀ b,ToldAt L y.done b) → checkC p l (i:Int) x = .inr ()
 | [],_,_,_,_,_,_,_=>rfl
 | e :: t,i,x,y,hd,K,h,A=>by
  obtain ⟨hi,rfl,ht⟩:=drop_step hd
  unfold overC at h
  unfold checkC
  by_cases c:may p x L[i]
  ·rw [if_pos c] at h
   have e1:(i:Int) + 1 = ((i + 1:Nat):Int):=by omega
   rw [e1] at h
   have ho:outS x L[i] = 0:=by
    unfold outS
    rw [if_neg]
    rintro ⟨q3,hne⟩
    obtain ⟨d,d1,d2,d3⟩:=out_at hp K hi c (by rw [ht]; exact h) q3
    exact hne (d3.trans (A i hi q3 d d1 d2).symm)
   rw [if_pos c,if_neg (by rw [ho]; simp),e1]
   exact check_ok hp t (i + 1) _ y ht (K.step hp hi c).1 h A
  ·rw [if_neg c] at h; cases h
theorem check_take (p:Progs):∀ (l:List QG) (n:Nat) (a:Int) (x:Core),checkC p l a x = .inr () → checkC p (l.take n) a x = .inr ()
 | [],n,_,_,_=>by simp [checkC]
 | e :: t,0,_,_,_=>by simp [checkC]
 | e :: t,n + 1,a,x,h=>by
  rw [List.take_succ_cons]
  unfold checkC at h ⊢
  by_cases c:may p x e
  ·rw [if_pos c] at h ⊢
   by_cases o:outS x e ≠ 0
   ·rw [if_pos o] at h; cases h
   ·rw [if_neg o] at h ⊢; exact check_take p t n _ _ h
  ·rw [if_neg c] at h; cases h
theorem check_bad {T:Nat} {p:Progs} (hp:p.length ≤ T) {L:List QG} {b:Nat} (hb:b < L.length) (q3:L[b].What = 3):∀ (l:List QG) (i:Nat) (x y:Core),L.drop i = l → i ≤ b → KInv T L i x → overC p l (i:Int) x = some y → (∀ c,c < b → ToldAt L y.done c) → (∀ d ∈ y.done,d.Back = (b:Int) → d.Answer ≠ L[b].Answer) →
  checkC p l (i:Int) x = .inl ((b:Int),7)
 | [],i,x,y,hd,hib,K,h,A,B=>by
  have:L.length ≤ i:=List.drop_eq_nil_iff.1 hd
  omega
 | e :: t,i,x,y,hd,hib,K,h,A,B=>by
  obtain ⟨hi,rfl,ht⟩:=drop_step hd
  unfold overC at h
  unfold checkC
  by_cases c:may p x L[i]
  ·rw [if_pos c] at h
   have e1:(i:Int) + 1 = ((i + 1:Nat):Int):=by omega
   rw [e1] at h
   rw [if_pos c]
   by_cases q:i = b
   ·subst q
    obtain ⟨d,d1,d2,d3⟩:=out_at hp K hi c (by rw [ht]; exact h) q3
    have ho:outS x L[i] = 7:=by
     unfold outS
     rw [if_pos ⟨q3,fun g=>B d d1 d2 (d3.symm.trans g)⟩]
    rw [if_pos (by rw [ho]; decide),ho]
   ·have ho:outS x L[i] = 0:=by
     unfold outS
     rw [if_neg]
     rintro ⟨r3,hne⟩
     obtain ⟨d,d1,d2,d3⟩:=out_at hp K hi c (by rw [ht]; exact h) r3
     exact hne (d3.trans (A i (by omega) hi r3 d d1 d2).symm)
    rw [if_neg (by rw [ho]; simp),e1]
    exact check_bad hp hb q3 t (i + 1) _ y ht (by omega) (K.step hp hi c).1 h A B
  ·rw [if_neg c] at h; cases h
theorem check_form (p:Progs):∀ (l:List QG) (a:Int) (x:Core),0 ≤ a → overC p l a x = none → ∃ b o,checkC p l a x = .inl (b,o) ∧ 0 ≤ b ∧ (o = 4 ∨ o = 7)
 | [],_,_,_,h=>by cases h
 | e :: t,a,x,ha,h=>by
  unfold overC at h
  unfold checkC
  by_cases c:may p x e
  ·rw [if_pos c] at h ⊢
   by_cases o:outS x e ≠ 0
   ·rw [if_pos o]
    refine ⟨_,_,rfl,ha,.inr ?_⟩
    unfold outS at o ⊢
    split
    ·rfl
    ·next g=>rw [if_neg g] at o; exact absurd rfl o
   ·rw [if_neg o]; exact check_form p t _ _ (by omega) h
  ·rw [if_neg c]; exact ⟨_,_,rfl,ha,.inl rfl⟩
def putA (l:List QG) (d:ZL):List QG:=if 0 ≤ d.Back then l.set d.Back.toNat ⟨(rd l d.Back).What,(rd l d.Back).Task,(rd l d.Back).Call,d.Answer⟩ else l
def madeL (D:List ZL) (l:List QG):List QG:=D.foldl putA l
theorem putA_len (l:List QG) (d:ZL):(putA l d).length = l.length:=by unfold putA; split <;> simp
theorem madeL_len:∀ (D:List ZL) (l:List QG),(madeL D l).length = l.length
 | [],_=>rfl
 | d :: D,l=>(madeL_len D _).trans (putA_len l d)
def RtAt (D:List ZL) (l:List QG):Prop:=∀ d ∈ D,0 ≤ d.Back → ∃ h:d.Back.toNat < l.length,l[d.Back.toNat].What = 3
theorem map_set_self {α β:Type} (f:α → β) {l:List α} {i:Nat} (h:i < l.length) {x:α} (e:f x = f l[i]):(l.set i x).map f = l.map f:=by
 apply List.ext_getElem
 ·simp
 ·intro j h1 h2
  simp only [List.getElem_map,List.getElem_set]
  split
  ·next q=>subst q; exact e
  ·rfl
theorem putA_key {l:List QG} {d:ZL} (h:0 ≤ d.Back → ∃ h:d.Back.toNat < l.length,l[d.Back.toNat].What = 3):(putA l d).map key = l.map key:=by
 unfold putA
 split
 ·next g =>
  obtain ⟨h1,h2⟩:=h g
  refine map_set_self key h1 ?_
  have e:rd l d.Back = l[d.Back.toNat]:=rdI g (by omega)
  rw [e]
  unfold key
  simp only [h2,if_true]
 ·rfl
theorem what_key {l l':List QG} (h:l.map key = l'.map key) {b:Nat} (hb:b < l.length) (hb':b < l'.length):l[b].What = l'[b].What:=by
 have h1:(l.map key)[b]'(by simpa using hb) = (l'.map key)[b]'(by simpa using hb'):=by congr 1
 simp only [List.getElem_map] at h1
 exact (key_eq h1).1
theorem madeL_key:∀ (D:List ZL) (l:List QG),RtAt D l → (madeL D l).map key = l.map key
 | [],_,_=>rfl
 | d :: D,l,h=>by
  have hk:=putA_key (l:=l) (d:=d) (h d List.mem_cons_self)
  refine (madeL_key D (putA l d) fun z hz g=>?_).trans hk
  obtain ⟨h1,h2⟩:=h z (List.mem_cons_of_mem _ hz) g
  exact ⟨by rw [putA_len]; exact h1,(what_key hk (by rw [putA_len]; exact h1) h1).trans h2⟩
theorem madeL_far:∀ (D:List ZL) (l:List QG) (b:Nat) (hb:b < l.length) (hb':b < (madeL D l).length),(∀ d ∈ D,d.Back ≠ (b:Int)) → (madeL D l)[b] = l[b]
 | [],_,_,_,_,_=>rfl
 | d :: D,l,b,hb,hb',h=>by
  have h1:b < (putA l d).length:=by rw [putA_len]; exact hb
  refine (madeL_far D (putA l d) b h1 hb' fun z hz=>h z (List.mem_cons_of_mem _ hz)).trans ?_
  have:=h d List.mem_cons_self
  unfold putA
  split
  ·rw [List.getElem_set,if_neg (by omega)]
  ·rfl
theorem madeL_told:∀ (D:List ZL) (l:List QG),D.Pairwise (fun a b=>0 ≤ a.Back → a.Back ≠ b.Back) → RtAt D l → ∀ b,ToldAt (madeL D l) D b
 | [],_,_,_,b,_,_,d,hd,_=>by cases hd
 | d :: D,l,hP,hR,b,hb,q3,z,hz,hB=>by
  have hp:=List.pairwise_cons.1 hP
  have hbl:b < l.length:=by rw [madeL_len] at hb; exact hb
  have hk:=putA_key (l:=l) (d:=d) (hR d List.mem_cons_self)
  rcases List.mem_cons.1 hz with rfl | hz
  ·have h1:b < (putA l z).length:=by rw [putA_len]; exact hbl
   have e:=madeL_far D (putA l z) b h1 hb fun w hw=>by have:=hp.1 w hw (by omega); omega
   have e2:(putA l z)[b].Answer = z.Answer:=by
    have g0:0 ≤ z.Back:=by omega
    have h9:(putA l z)[b]? = some ⟨(rd l z.Back).What,(rd l z.Back).Task,(rd l z.Back).Call,z.Answer⟩:=by
     unfold putA
     rw [if_pos g0,List.getElem?_set,if_pos (by omega),if_pos (by omega)]
    obtain ⟨h10,h11⟩:=List.getElem?_eq_some_iff.1 h9
    exact congrArg QG.Answer h11
   show ((madeL D (putA l z))[b]'hb).Answer = z.Answer
   rw [e,e2]
  ·refine madeL_told D (putA l d) hp.2 (fun w hw g=>?_) b hb q3 z hz hB
   obtain ⟨h1,h2⟩:=hR w (List.mem_cons_of_mem _ hw) g
   exact ⟨by rw [putA_len]; exact h1,(what_key hk (by rw [putA_len]; exact h1) h1).trans h2⟩
theorem KInv.pair {T:Nat} {L:List QG} {i:Nat} {x:Core} (K:KInv T L i x):x.done.Pairwise (fun a b=>0 ≤ a.Back → a.Back ≠ b.Back) :=
 List.pairwise_iff_getElem.2 fun j j' h h' hlt g e=>by have:=K.inj j j' h h' g e; omega
theorem KInv.to {T:Nat} {L L':List QG} {i:Nat} {x:Core} (K:KInv T L i x) (h:L.map key = L'.map key):KInv T L' i x :=
 ⟨K.tl,K.la,K.bk,K.inj,fun d hd g=>by
  obtain ⟨h1,h2⟩:=K.rt d hd g
  have hl:L.length = L'.length:=by have:=congrArg List.length h; simpa using this
  exact ⟨by omega,(what_key h h1 (by omega)).symm.trans h2⟩,K.op,K.dj⟩
end Go.Proofs.YtnjbjpaiepefoaaDoor
