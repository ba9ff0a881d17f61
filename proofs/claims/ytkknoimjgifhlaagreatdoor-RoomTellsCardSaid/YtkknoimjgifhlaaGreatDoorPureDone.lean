import Derived.Test.YtkknoimjgifhlaaGreatDoorPureLegal
namespace Go.Proofs.YtkknoimjgifhlaaGreatDoor
open Go Go.RowKit
set_option linter.unusedVariables false
set_option linter.unusedSimpArgs false
set_option maxRecDepth 100000
structure DI (T:Nat) (x:Core):Prop where
 tl:x.tasks.length=T
 la:x.last.length=T
 uq:∀ (j:Nat) (h:j<x.done.length),(0≤x.done[j].Task∧x.done[j].Task<(T:Int))∧(x.done[j].Call<(rd x.tasks x.done[j].Task).calls∨(x.done[j].Call=(rd x.tasks x.done[j].Task).calls∧(rd x.tasks x.done[j].Task).at_=2∧rd x.last x.done[j].Task=(j:Int)))
 op:∀ t:Nat,t<T→(rd x.tasks (t:Int)).at_=2→∃ (j:Nat) (h:j<x.done.length),rd x.last (t:Int)=(j:Int)∧x.done[j].Task=(t:Int)∧x.done[j].Call=(rd x.tasks (t:Int)).calls
theorem DI.new {T:Nat} {x:Core} (h1:x.tasks.length=T) (h2:x.last.length=T) (h3:x.done=[]) (h4:∀ t:Nat,t<T→(rd x.tasks (t:Int)).at_=0):DI T x :=
 ⟨h1,h2,fun j h=>absurd h (by rw [h3];simp),fun t ht h=>by rw [h4 t ht] at h;exact absurd h (by decide)⟩
theorem QBL {T:Nat} {x:Core} {e:QL} (hl:x.tasks.length=T) (t0:0≤e.Task) (t1:e.Task<(T:Int)) {u:Int} (u0:0≤u) (u1:u<(T:Int)):rd (setT x e) u=if u=e.Task then nextT (rd x.tasks e.Task) (e.What-1) else rd x.tasks u:=by
 obtain ⟨n,rfl⟩:=Int.eq_ofNat_of_zero_le u0
 unfold setT
 rw [rdN (by rw [List.length_set];omega),List.getElem_set]
 by_cases q:(n:Int)=e.Task
 ·rw [if_pos (by omega),if_pos q]
 ·rw [if_neg (by omega),if_neg q,rdN (by omega)]
theorem DI.find {T:Nat} {p:Progs} (hp:p.length≤T) {x:Core} (D:DI T x) {e:QL} (hm:may p x e) (w:e.What=3) :
  ∃ (j:Nat) (h:j<x.done.length),rd x.last e.Task=(j:Int)∧∀ (i:Nat) (h':i<x.done.length),(x.done[i].Task=e.Task∧x.done[i].Call=e.Call)↔i=j:=by
 obtain ⟨⟨⟨t0,t1,_,_⟩,_⟩,h1,h2⟩:=hm
 obtain ⟨n,hn⟩:=Int.eq_ofNat_of_zero_le t0
 have h1':(rd x.tasks (n:Int)).at_=2:=by rw [← hn,h1];omega
 obtain ⟨j,h,g1,g2,g3⟩:=D.op n (by omega) h1'
 rw [← hn] at g1 g2 g3
 refine ⟨j,h,g1,fun i h'=>⟨?_,?_⟩⟩
 ·rintro ⟨q1,q2⟩
  have:=(D.uq i h').2
  rw [q1,q2,h2] at this
  rcases this with c | ⟨_,_,c⟩
  ·omega
  ·rw [g1] at c;omega
 ·rintro rfl
  exact ⟨g2,g3.trans h2⟩
theorem DI.step {T:Nat} {p:Progs} (hp:p.length≤T) {x:Core} (D:DI T x) {e:QL} (hm:may p x e) (a:Int):DI T (goS p x a e):=by
 have hf:=D.find hp hm
 obtain ⟨⟨⟨t0,t1,_,_⟩,w1,w3,_⟩,h1,h2⟩:=hm
 have t2:e.Task<(T:Int):=by omega
 have hs:=fun {u:Int} (u0:0≤u) (u1:u<(T:Int))=>QBL (x:=x) D.tl t0 t2 u0 u1
 have htl:(setT x e).length=T:=by unfold setT;rw [List.length_set];exact D.tl
 have hla:=D.la
 by_cases q1:e.What=1
 ·have e0:goS p x a e={ x with tasks:=setT x e }:=by unfold goS;rw [if_pos q1]
  rw [e0]
  have hnx:nextT (rd x.tasks e.Task) (e.What-1)=⟨1,(rd x.tasks e.Task).calls⟩:=by unfold nextT;rw [if_neg (by omega),q1];rfl
  refine ⟨htl,D.la,fun j h=>?_,fun t ht h=>?_⟩
  ·obtain ⟨⟨u0,u1⟩,u2⟩:=D.uq j h
   refine ⟨⟨u0,u1⟩,?_⟩
   show x.done[j].Call<(rd (setT x e) x.done[j].Task).calls∨(x.done[j].Call=(rd (setT x e) x.done[j].Task).calls∧(rd (setT x e) x.done[j].Task).at_=2∧rd x.last x.done[j].Task=(j:Int))
   rw [hs u0 u1]
   by_cases q:x.done[j].Task=e.Task
   ·rw [if_pos q,hnx]
    rw [q] at u2
    rcases u2 with c | ⟨_,c,_⟩
    ·exact .inl c
    ·rw [h1] at c;omega
   ·rw [if_neg q];exact u2
  ·have h:(rd (setT x e) (t:Int)).at_=2:=h
   show ∃ (j:Nat) (h:j<x.done.length),rd x.last (t:Int)=(j:Int)∧x.done[j].Task=(t:Int)∧x.done[j].Call=(rd (setT x e) (t:Int)).calls
   rw [hs (by omega) (by omega)] at h ⊢
   by_cases q:(t:Int)=e.Task
   ·rw [if_pos q,hnx] at h;exact absurd (show (1:Int)=2 from h) (by decide)
   ·rw [if_neg q] at h ⊢;exact D.op t ht h
 by_cases q2:e.What=2
 ·have hnx:nextT (rd x.tasks e.Task) (e.What-1)=⟨2,(rd x.tasks e.Task).calls⟩:=by unfold nextT;rw [if_neg (by omega),q2];rfl
  generalize hd:(⟨e.Task,e.Call,(doS x.m e.Task (rd (rd p e.Task) e.Call)).1,a,-1⟩:ZX)=d
  have e0:goS p x a e=⟨x.done++[d],x.last.set e.Task.toNat (x.done.length:Int),setT x e,(doS x.m e.Task (rd (rd p e.Task) e.Call)).2⟩:=by unfold goS;rw [if_neg q1,if_pos q2,hd]
  have d1:d.Task=e.Task:=by rw [← hd]
  have d2:d.Call=e.Call:=by rw [← hd]
  rw [e0]
  have hlast:∀ u:Int,0≤u→u<(T:Int)→rd (x.last.set e.Task.toNat (x.done.length:Int)) u=if u=e.Task then (x.done.length:Int) else rd x.last u:=fun u u0 u1=>by
   obtain ⟨n,rfl⟩:=Int.eq_ofNat_of_zero_le u0
   rw [rdN (by rw [List.length_set];omega),List.getElem_set]
   by_cases q:(n:Int)=e.Task
   ·rw [if_pos (by omega),if_pos q]
   ·rw [if_neg (by omega),if_neg q,rdN (by omega)]
  refine ⟨htl,by rw [List.length_set];exact hla,fun j h=>?_,fun t ht h=>?_⟩
  ·show (0≤(x.done++[d])[j].Task∧(x.done++[d])[j].Task<(T:Int))∧((x.done++[d])[j].Call<(rd (setT x e) (x.done++[d])[j].Task).calls∨((x.done++[d])[j].Call=(rd (setT x e) (x.done++[d])[j].Task).calls∧(rd (setT x e) (x.done++[d])[j].Task).at_=2∧rd (x.last.set e.Task.toNat (x.done.length:Int)) (x.done++[d])[j].Task=(j:Int)))
   by_cases c:j<x.done.length
   ·rw [List.getElem_append_left c]
    obtain ⟨⟨u0,u1⟩,u2⟩:=D.uq j c
    refine ⟨⟨u0,u1⟩,?_⟩
    rw [hs u0 u1,hlast _ u0 u1]
    by_cases q:x.done[j].Task=e.Task
    ·rw [if_pos q,if_pos q,hnx]
     rw [q] at u2
     rcases u2 with c | ⟨_,c,_⟩
     ·exact .inl c
     ·rw [h1] at c;omega
    ·rw [if_neg q,if_neg q];exact u2
   ·have h:j<(x.done++[d]).length:=h
    simp only [List.length_append,List.length_cons,List.length_nil] at h
    obtain rfl:j=x.done.length:=by omega
    rw [List.getElem_append_right (by omega)]
    simp only [Nat.sub_self,List.getElem_cons_zero,d1,d2]
    refine ⟨⟨t0,t2⟩,.inr ?_⟩
    rw [hs t0 t2,hlast _ t0 t2,if_pos rfl,if_pos rfl,hnx]
    exact ⟨h2.symm,rfl,rfl⟩
  ·have h:(rd (setT x e) (t:Int)).at_=2:=h
   show ∃ (j:Nat) (h:j<(x.done++[d]).length),rd (x.last.set e.Task.toNat (x.done.length:Int)) (t:Int)=(j:Int)∧(x.done++[d])[j].Task=(t:Int)∧(x.done++[d])[j].Call=(rd (setT x e) (t:Int)).calls
   rw [hs (by omega) (by omega)] at h
   rw [hs (by omega) (by omega),hlast _ (by omega) (by omega)]
   by_cases q:(t:Int)=e.Task
   ·rw [if_pos q,if_pos q,hnx]
    refine ⟨x.done.length,by simp,rfl,?_,?_⟩
    ·rw [List.getElem_append_right (by omega)];simp [d1,q]
    ·rw [List.getElem_append_right (by omega)];simp [d2,h2]
   ·rw [if_neg q] at h
    rw [if_neg q,if_neg q]
    obtain ⟨j,g0,g1,g2,g3⟩:=D.op t ht h
    exact ⟨j,by simp;omega,g1,by rw [List.getElem_append_left g0];exact g2,by rw [List.getElem_append_left g0];exact g3⟩
 ·have q3:e.What=3:=by omega
  have hnx:nextT (rd x.tasks e.Task) (e.What-1)=⟨0,(rd x.tasks e.Task).calls+1⟩:=by unfold nextT;rw [if_pos (by omega)]
  obtain ⟨j0,k0,k1,k2⟩:=hf q3
  have hd0:rd x.done (rd x.last e.Task)=x.done[j0]:=by rw [k1,rdN k0]
  generalize hd:(⟨x.done[j0].Task,x.done[j0].Call,x.done[j0].Answer,x.done[j0].Mark,a⟩:ZX)=d
  have e0:goS p x a e=⟨x.done.set j0 d,x.last,setT x e,x.m⟩:=by unfold goS;rw [if_neg q1,if_neg q2,hd0,hd,k1];rfl
  have d1:d.Task=x.done[j0].Task:=by rw [← hd]
  have d2:d.Call=x.done[j0].Call:=by rw [← hd]
  rw [e0]
  have gT:∀ (j:Nat) (h:j<x.done.length) (h':j<(x.done.set j0 d).length),(x.done.set j0 d)[j].Task=x.done[j].Task∧(x.done.set j0 d)[j].Call=x.done[j].Call:=fun j h h'=>by
   rw [List.getElem_set]
   by_cases q:j0=j
   ·subst q;rw [if_pos rfl];exact ⟨d1,d2⟩
   ·rw [if_neg q];exact ⟨rfl,rfl⟩
  have hlen:(x.done.set j0 d).length=x.done.length:=List.length_set
  refine ⟨htl,D.la,fun j h=>?_,fun t ht h=>?_⟩
  ·have h:j<(x.done.set j0 d).length:=h
   show (0≤(x.done.set j0 d)[j].Task∧(x.done.set j0 d)[j].Task<(T:Int))∧((x.done.set j0 d)[j].Call<(rd (setT x e) (x.done.set j0 d)[j].Task).calls∨((x.done.set j0 d)[j].Call=(rd (setT x e) (x.done.set j0 d)[j].Task).calls∧(rd (setT x e) (x.done.set j0 d)[j].Task).at_=2∧rd x.last (x.done.set j0 d)[j].Task=(j:Int)))
   obtain ⟨g1,g2⟩:=gT j (by omega) h
   rw [g1,g2]
   obtain ⟨⟨u0,u1⟩,u2⟩:=D.uq j (by omega)
   refine ⟨⟨u0,u1⟩,?_⟩
   rw [hs u0 u1]
   by_cases q:x.done[j].Task=e.Task
   ·rw [if_pos q,hnx]
    rw [q] at u2
    left
    rcases u2 with c | ⟨c,_,_⟩
    ·show _<(rd x.tasks e.Task).calls+1;omega
    ·show _<(rd x.tasks e.Task).calls+1;omega
   ·rw [if_neg q];exact u2
  ·have h:(rd (setT x e) (t:Int)).at_=2:=h
   show ∃ (j:Nat) (h:j<(x.done.set j0 d).length),rd x.last (t:Int)=(j:Int)∧(x.done.set j0 d)[j].Task=(t:Int)∧(x.done.set j0 d)[j].Call=(rd (setT x e) (t:Int)).calls
   rw [hs (by omega) (by omega)] at h ⊢
   by_cases q:(t:Int)=e.Task
   ·rw [if_pos q,hnx] at h;exact absurd (show (0:Int)=2 from h) (by decide)
   ·rw [if_neg q] at h ⊢
    obtain ⟨j,g0,g1,g2,g3⟩:=D.op t ht h
    have g0':j<(x.done.set j0 d).length:=by omega
    obtain ⟨f1,f2⟩:=gT j g0 g0'
    exact ⟨j,g0',g1,f1.trans g2,f2.trans g3⟩
end Go.Proofs.YtkknoimjgifhlaaGreatDoor
