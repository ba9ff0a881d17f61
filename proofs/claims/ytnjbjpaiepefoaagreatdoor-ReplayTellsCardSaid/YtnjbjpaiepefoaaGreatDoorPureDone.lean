import Derived.Test.YtnjbjpaiepefoaaGreatDoorPureLegal
namespace Go.Proofs.YtnjbjpaiepefoaaGreatDoor
open Go Go.RowKit
set_option linter.unusedVariables false
set_option linter.unusedSimpArgs false
set_option maxRecDepth 100000
structure DI (T:Nat) (x:Core):Prop where
 tl:x.tasks.length=T
 la:x.last.length=T
 uq:∀ (j:Nat) (h:j<x.done.length),(0≤x.done[j].Task∧x.done[j].Task<(T:Int))∧(x.done[j].Call<(rd x.tasks x.done[j].Task).calls∨(x.done[j].Call=(rd x.tasks x.done[j].Task).calls∧(rd x.tasks x.done[j].Task).at_=2∧rd x.last x.done[j].Task=(j:Int)))
 op:∀ t:Nat,t<T→(rd x.tasks (t:Int)).at_=2→∃ (j:Nat) (h:j<x.done.length),rd x.last (t:Int)=(j:Int)∧x.done[j].Task=(t:Int)∧x.done[j].Call=(rd x.tasks (t:Int)).calls
theorem DI.new {T:Nat} {x:Core} (B:x.tasks.length=T) (E:x.last.length=T) (G:x.done=[]) (H:∀ t:Nat,t<T→(rd x.tasks (t:Int)).at_=0):DI T x :=
 ⟨B,E,fun j h=>absurd h (by rw [G];simp),fun t ht h=>by rw [H t ht] at h;exact absurd h (by decide)⟩
theorem QCD {T:Nat} {x:Core} {e:QB} (hl:x.tasks.length=T) (E:0≤e.Task) (G:e.Task<(T:Int)) {u:Int} (B:0≤u) (H:u<(T:Int)):rd (setT x e) u=if u=e.Task then nextT (rd x.tasks e.Task) (e.What-1) else rd x.tasks u:=by
 obtain ⟨n,rfl⟩:=Int.eq_ofNat_of_zero_le B;unfold setT;rw [rdN (by rw [List.length_set];omega),List.getElem_set]
 by_cases q:(n:Int)=e.Task
 ·rw [if_pos (by omega),if_pos q]
 ·rw [if_neg (by omega),if_neg q,rdN (by omega)]
theorem DI.find {T:Nat} {p:Progs} (hp:p.length≤T) {x:Core} (D:DI T x) {e:QB} (hm:may p x e) (w:e.What=3) :
  ∃ (j:Nat) (h:j<x.done.length),rd x.last e.Task=(j:Int)∧∀ (i:Nat) (E:i<x.done.length),(x.done[i].Task=e.Task∧x.done[i].Call=e.Call)↔i=j:=by
 obtain ⟨⟨⟨U,Z,_,_⟩,_⟩,V,G⟩:=hm;obtain ⟨n,hn⟩:=Int.eq_ofNat_of_zero_le U;have H:(rd x.tasks (n:Int)).at_=2:=by rw [← hn,V];omega
 obtain ⟨j,h,B,K,O⟩:=D.op n (by omega) H;rw [← hn] at B K O;refine ⟨j,h,B,fun i E=>⟨?_,?_⟩⟩
 ·rintro ⟨W,Y⟩;have:=(D.uq i E).2;rw [W,Y,G] at this;rcases this with c | ⟨_,_,c⟩
  ·omega
  ·rw [B] at c;omega
 ·rintro rfl;exact ⟨K,O.trans G⟩
theorem DI.step {T:Nat} {p:Progs} (hp:p.length≤T) {x:Core} (D:DI T x) {e:QB} (hm:may p x e) (a:Int):DI T (goS p x a e):=by
 have hf:=D.find hp hm;obtain ⟨⟨⟨V,t1,_,_⟩,w1,w3,_⟩,h1,h2⟩:=hm;have W:e.Task<(T:Int):=by omega
 have hs:=fun {u:Int} (E:0≤u) (G:u<(T:Int))=>QCD (x:=x) D.tl V W E G;have htl:(setT x e).length=T:=by unfold setT;rw [List.length_set];exact D.tl
 have hla:=D.la
 by_cases Y:e.What=1
 ·have K:goS p x a e={ x with tasks:=setT x e }:=by unfold goS;rw [if_pos Y]
  rw [K];have hnx:nextT (rd x.tasks e.Task) (e.What-1)=⟨1,(rd x.tasks e.Task).calls⟩:=by unfold nextT;rw [if_neg (by omega),Y];rfl
  refine ⟨htl,D.la,fun j h=>?_,fun t ht h=>?_⟩
  ·obtain ⟨⟨E,G⟩,H⟩:=D.uq j h;refine ⟨⟨E,G⟩,?_⟩;show x.done[j].Call<(rd (setT x e) x.done[j].Task).calls∨(x.done[j].Call=(rd (setT x e) x.done[j].Task).calls∧(rd (setT x e) x.done[j].Task).at_=2∧rd x.last x.done[j].Task=(j:Int));rw [hs E G]
   by_cases q:x.done[j].Task=e.Task
   ·rw [if_pos q,hnx];rw [q] at H;rcases H with c | ⟨_,c,_⟩
    ·exact .inl c
    ·rw [h1] at c;omega
   ·rw [if_neg q];exact H
  ·have h:(rd (setT x e) (t:Int)).at_=2:=h;show ∃ (j:Nat) (h:j<x.done.length),rd x.last (t:Int)=(j:Int)∧x.done[j].Task=(t:Int)∧x.done[j].Call=(rd (setT x e) (t:Int)).calls;rw [hs (by omega) (by omega)] at h ⊢
   by_cases q:(t:Int)=e.Task
   ·rw [if_pos q,hnx] at h;exact absurd (show (1:Int)=2 from h) (by decide)
   ·rw [if_neg q] at h ⊢;exact D.op t ht h
 by_cases q2:e.What=2
 ·have hnx:nextT (rd x.tasks e.Task) (e.What-1)=⟨2,(rd x.tasks e.Task).calls⟩:=by unfold nextT;rw [if_neg (by omega),q2];rfl
  generalize hd:(⟨e.Task,e.Call,(doS x.m e.Task (rd (rd p e.Task) e.Call)).1,a,-1⟩:Qw)=d;have K:goS p x a e=⟨x.done++[d],x.last.set e.Task.toNat (x.done.length:Int),setT x e,(doS x.m e.Task (rd (rd p e.Task) e.Call)).2⟩:=by unfold goS;rw [if_neg Y,if_pos q2,hd]
  have Z:d.Task=e.Task:=by rw [← hd]
  have d2:d.Call=e.Call:=by rw [← hd]
  rw [K]
  have hlast:∀ u:Int,0≤u→u<(T:Int)→rd (x.last.set e.Task.toNat (x.done.length:Int)) u=if u=e.Task then (x.done.length:Int) else rd x.last u:=fun u E G=>by
   obtain ⟨n,rfl⟩:=Int.eq_ofNat_of_zero_le E;rw [rdN (by rw [List.length_set];omega),List.getElem_set]
   by_cases q:(n:Int)=e.Task
   ·rw [if_pos (by omega),if_pos q]
   ·rw [if_neg (by omega),if_neg q,rdN (by omega)]
  refine ⟨htl,by rw [List.length_set];exact hla,fun j h=>?_,fun t ht h=>?_⟩
  ·show (0≤(x.done++[d])[j].Task∧(x.done++[d])[j].Task<(T:Int))∧((x.done++[d])[j].Call<(rd (setT x e) (x.done++[d])[j].Task).calls∨((x.done++[d])[j].Call=(rd (setT x e) (x.done++[d])[j].Task).calls∧(rd (setT x e) (x.done++[d])[j].Task).at_=2∧rd (x.last.set e.Task.toNat (x.done.length:Int)) (x.done++[d])[j].Task=(j:Int)))
   by_cases c:j<x.done.length
   ·rw [List.getElem_append_left c];obtain ⟨⟨E,G⟩,H⟩:=D.uq j c;refine ⟨⟨E,G⟩,?_⟩;rw [hs E G,hlast _ E G]
    by_cases q:x.done[j].Task=e.Task
    ·rw [if_pos q,if_pos q,hnx];rw [q] at H;rcases H with c | ⟨_,c,_⟩
     ·exact .inl c
     ·rw [h1] at c;omega
    ·rw [if_neg q,if_neg q];exact H
   ·have h:j<(x.done++[d]).length:=h;simp only [List.length_append,List.length_cons,List.length_nil] at h;obtain rfl:j=x.done.length:=by omega
    rw [List.getElem_append_right (by omega)];simp only [Nat.sub_self,List.getElem_cons_zero,Z,d2];refine ⟨⟨V,W⟩,.inr ?_⟩;rw [hs V W,hlast _ V W,if_pos rfl,if_pos rfl,hnx];exact ⟨h2.symm,rfl,rfl⟩
  ·have h:(rd (setT x e) (t:Int)).at_=2:=h;show ∃ (j:Nat) (h:j<(x.done++[d]).length),rd (x.last.set e.Task.toNat (x.done.length:Int)) (t:Int)=(j:Int)∧(x.done++[d])[j].Task=(t:Int)∧(x.done++[d])[j].Call=(rd (setT x e) (t:Int)).calls;rw [hs (by omega) (by omega)] at h;rw [hs (by omega) (by omega),hlast _ (by omega) (by omega)]
   by_cases q:(t:Int)=e.Task
   ·rw [if_pos q,if_pos q,hnx];refine ⟨x.done.length,by simp,rfl,?_,?_⟩
    ·rw [List.getElem_append_right (by omega)];simp [Z,q]
    ·rw [List.getElem_append_right (by omega)];simp [d2,h2]
   ·rw [if_neg q] at h;rw [if_neg q,if_neg q];obtain ⟨j,g0,O,U,g3⟩:=D.op t ht h;exact ⟨j,by simp;omega,O,by rw [List.getElem_append_left g0];exact U,by rw [List.getElem_append_left g0];exact g3⟩
 ·have q3:e.What=3:=by omega
  have hnx:nextT (rd x.tasks e.Task) (e.What-1)=⟨0,(rd x.tasks e.Task).calls+1⟩:=by unfold nextT;rw [if_pos (by omega)]
  obtain ⟨B,k0,k1,k2⟩:=hf q3;have a8:rd x.done (rd x.last e.Task)=x.done[B]:=by rw [k1,rdN k0]
  generalize hd:(⟨x.done[B].Task,x.done[B].Call,x.done[B].Answer,x.done[B].Mark,a⟩:Qw)=d;have K:goS p x a e=⟨x.done.set B d,x.last,setT x e,x.m⟩:=by unfold goS;rw [if_neg Y,if_neg q2,a8,hd,k1];rfl
  have Z:d.Task=x.done[B].Task:=by rw [← hd]
  have d2:d.Call=x.done[B].Call:=by rw [← hd]
  rw [K]
  have gT:∀ (j:Nat) (h:j<x.done.length) (h':j<(x.done.set B d).length),(x.done.set B d)[j].Task=x.done[j].Task∧(x.done.set B d)[j].Call=x.done[j].Call:=fun j h h'=>by
   rw [List.getElem_set]
   by_cases q:B=j
   ·subst q;rw [if_pos rfl];exact ⟨Z,d2⟩
   ·rw [if_neg q];exact ⟨rfl,rfl⟩
  have hlen:(x.done.set B d).length=x.done.length:=List.length_set;refine ⟨htl,D.la,fun j h=>?_,fun t ht h=>?_⟩
  ·have h:j<(x.done.set B d).length:=h;show (0≤(x.done.set B d)[j].Task∧(x.done.set B d)[j].Task<(T:Int))∧((x.done.set B d)[j].Call<(rd (setT x e) (x.done.set B d)[j].Task).calls∨((x.done.set B d)[j].Call=(rd (setT x e) (x.done.set B d)[j].Task).calls∧(rd (setT x e) (x.done.set B d)[j].Task).at_=2∧rd x.last (x.done.set B d)[j].Task=(j:Int)));obtain ⟨O,U⟩:=gT j (by omega) h;rw [O,U];obtain ⟨⟨E,G⟩,H⟩:=D.uq j (by omega);refine ⟨⟨E,G⟩,?_⟩;rw [hs E G]
   by_cases q:x.done[j].Task=e.Task
   ·rw [if_pos q,hnx];rw [q] at H
    left
    rcases H with c | ⟨c,_,_⟩
    ·show _<(rd x.tasks e.Task).calls+1;omega
    ·show _<(rd x.tasks e.Task).calls+1;omega
   ·rw [if_neg q];exact H
  ·have h:(rd (setT x e) (t:Int)).at_=2:=h;show ∃ (j:Nat) (h:j<(x.done.set B d).length),rd x.last (t:Int)=(j:Int)∧(x.done.set B d)[j].Task=(t:Int)∧(x.done.set B d)[j].Call=(rd (setT x e) (t:Int)).calls;rw [hs (by omega) (by omega)] at h ⊢
   by_cases q:(t:Int)=e.Task
   ·rw [if_pos q,hnx] at h;exact absurd (show (0:Int)=2 from h) (by decide)
   ·rw [if_neg q] at h ⊢;obtain ⟨j,g0,O,U,g3⟩:=D.op t ht h;have a2:j<(x.done.set B d).length:=by omega
    obtain ⟨f1,f2⟩:=gT j g0 a2;exact ⟨j,a2,O,f1.trans U,f2.trans g3⟩
end Go.Proofs.YtnjbjpaiepefoaaGreatDoor
