import Derived.Test.YtkknoimjgifhlaaGreatDoorPureHist
namespace Go.Proofs.YtkknoimjgifhlaaGreatDoor
open Go Go.RowKit
set_option linter.unusedVariables false
set_option linter.unusedSimpArgs false
set_option maxRecDepth 100000
def ofT (l:List QL) (t:Int):List QL:=l.filter fun x=>decide (x.Task=t)
theorem of_len (l:List QL) (t:Int):(ofT l t).length≤l.length:=List.length_filter_le _ _
theorem UH (x:QL) (l:List QL) (t:Int):ofT (x::l) t=if x.Task=t then x::ofT l t else ofT l t:=by
 unfold ofT;rw [List.filter_cons];by_cases h:x.Task=t<;>simp [h]
def rk (j:Nat) (x:QL):Bool:=decide (x.What=1+((j % 3:Nat):Int))&&decide (x.Call=((j / 3:Nat):Int))&&(decide (j % 3=2)||decide (x.Answer=ans 0))
def rkAll:Nat→List QL→Bool
 | _,[]=>true
 | j,x::l=>rk j x&&rkAll (j+1) l
def legT (l:List QL):Nat→Nat→Option Nat
 | 0,_=>some 0
 | n+1,t=>if rkAll 0 (ofT l (t:Int))=true then (legT l n (t+1)).map (fun m=>(ofT l (t:Int)).length+m) else none
theorem Jw (t n:Nat):∀ l:List QL,(ofT l (t:Int)).length+(l.filter fun x=>decide (((t+1:Nat):Int)≤x.Task∧x.Task<((t+1+n:Nat):Int))).length=(l.filter fun x=>decide ((t:Int)≤x.Task∧x.Task<((t+(n+1):Nat):Int))).length
 | []=>rfl
 | x::l=>by
  have ih:=Jw t n l
  rw [UH]
  simp only [List.filter_cons]
  by_cases e:x.Task=(t:Int)
  ·rw [if_pos e,if_neg (by rw [decide_eq_true_eq];omega),if_pos (decide_eq_true (by omega))]
   simp only [List.length_cons];omega
  ·rw [if_neg e]
   by_cases e2:((t+1:Nat):Int)≤x.Task∧x.Task<((t+1+n:Nat):Int)
   ·rw [if_pos (decide_eq_true e2),if_pos (decide_eq_true (by omega))]
    simp only [List.length_cons];omega
   ·rw [if_neg (by rw [decide_eq_true_eq];exact e2),if_neg (by rw [decide_eq_true_eq];omega)]
    exact ih
theorem JK (l:List QL):∀ (n t m:Nat),legT l n t=some m→m=(l.filter fun x=>decide ((t:Int)≤x.Task∧x.Task<((t+n:Nat):Int))).length
 | 0,t,m,h=>by
  cases h
  symm
  rw [List.length_eq_zero_iff,List.filter_eq_nil_iff]
  intro x _;simp only [decide_eq_true_eq];omega
 | n+1,t,m,h=>by
  unfold legT at h
  split at h
  ·rw [Option.map_eq_some_iff] at h
   obtain ⟨q,h1,rfl⟩:=h
   rw [JK l n (t+1) q h1]
   exact Jw t n l
  ·cases h
theorem Us (l:List QL):∀ (n t:Nat),(legT l n t).isSome=true↔∀ i,t≤i→i<t+n→rkAll 0 (ofT l (i:Int))=true
 | 0,t=>by simp [legT];omega
 | n+1,t=>by
  unfold legT
  cases h:rkAll 0 (ofT l (t:Int))
  ·simp only [Bool.false_eq_true,if_false,Option.isSome_none,false_iff]
   intro hh
   have:=hh t (Nat.le_refl _) (by omega)
   rw [h] at this;cases this
  ·simp only [if_true,Option.isSome_map]
   rw [Us l n (t+1)]
   constructor
   ·intro hh i h1 h2
    by_cases e:i=t
    ·subst e;exact h
    ·exact hh i (by omega) (by omega)
   ·exact fun hh i h1 h2=>hh i (by omega) (by omega)
def legD (T:Nat) (l:List QL):Prop:=(∀ x∈l,0≤x.Task∧x.Task<(T:Int))∧∀ t:Nat,t<T→rkAll 0 (ofT l (t:Int))=true
theorem QAe (T:Nat) (l:List QL):(∃ q,legT l T 0=some q∧q=l.length)↔legD T l:=by
 constructor
 ·rintro ⟨q,h1,h2⟩
  have h3:=JK l T 0 q h1
  rw [h2] at h3
  have h4:=List.length_filter_eq_length_iff.1 h3.symm
  refine ⟨fun x hx=>by have:=h4 x hx;simp at this;omega,fun t ht=>(Us l T 0).1 (by rw [h1];rfl) t (by omega) (by omega)⟩
 ·rintro ⟨h1,h2⟩
  obtain ⟨q,hq⟩:=Option.isSome_iff_exists.1 ((Us l T 0).2 fun i _ hi=>h2 i (by omega))
  refine ⟨q,hq,?_⟩
  rw [JK l _ _ _ hq]
  congr 1
  rw [List.filter_eq_self]
  intro x hx
  have:=h1 x hx
  simp;omega
def stAt (n:Nat):YQ:=⟨((n % 3:Nat):Int),((n / 3:Nat):Int)⟩
theorem qu (n:Nat):nextT (stAt n) ((n % 3:Nat):Int)=stAt (n+1):=by
 unfold nextT stAt
 by_cases h:n % 3=2
 ·rw [if_pos (by omega),show (n+1) % 3=0 by omega,show (n+1) / 3=n / 3+1 by omega];rfl
 ·rw [if_neg (by omega),show (n+1) % 3=n % 3+1 by omega,show (n+1) / 3=n / 3 by omega];rfl
def inP (p:Progs) (e:QL):Prop:=e.Task<(p.length:Int)∧e.Call<((rd p e.Task).length:Int)
instance (p:Progs) (e:QL):Decidable (inP p e):=by unfold inP;exact inferInstance
theorem may_rk {T:Nat} {p:Progs} (hp:p.length≤T) {x:Core} {e:QL} {n:Nat→Nat} (hn:∀ t:Nat,t<T→rd x.tasks (t:Int)=stAt (n t)):may p x e↔0≤e.Task∧e.Task<(T:Int)∧inP p e∧rk (n e.Task.toNat) e=true:=by
 unfold may goodE okCall isAt inP rk
 simp only [Bool.and_eq_true,Bool.or_eq_true,decide_eq_true_eq]
 constructor
 ·rintro ⟨⟨⟨t0,t1,c0,c1⟩,w1,w3,ha⟩,h1,h2⟩
  have h:=hn e.Task.toNat (by omega)
  rw [Int.toNat_of_nonneg t0] at h
  rw [h] at h1 h2
  have h1:((n e.Task.toNat % 3:Nat):Int)=e.What-1:=h1
  have h2:((n e.Task.toNat / 3:Nat):Int)=e.Call:=h2
  refine ⟨t0,by omega,⟨t1,c1⟩,⟨by omega,by omega⟩,?_⟩
  by_cases q:n e.Task.toNat % 3=2
  ·exact .inl q
  ·exact .inr (ha (by omega))
 ·rintro ⟨t0,t1,⟨p1,c1⟩,⟨h1,h2⟩,h3⟩
  have h:=hn e.Task.toNat (by omega)
  rw [Int.toNat_of_nonneg t0] at h
  refine ⟨⟨⟨t0,p1,by omega,c1⟩,by omega,by omega,fun q=>h3.resolve_left (by omega)⟩,?_,?_⟩
  ·rw [h];show ((n e.Task.toNat % 3:Nat):Int)=_;omega
  ·rw [h];show ((n e.Task.toNat / 3:Nat):Int)=_;omega
theorem qx (p:Progs) (s:Core) (i:Int) (e:QL):(goS p s i e).tasks=setT s e:=by
 unfold goS;split
 ·rfl
 ·split<;>rfl
theorem go_rk {T:Nat} {p:Progs} (hp:p.length≤T) {x:Core} {e:QL} {n:Nat→Nat} (hl:x.tasks.length=T) (hn:∀ t:Nat,t<T→rd x.tasks (t:Int)=stAt (n t)) (hm:may p x e) (a:Int) :
  (goS p x a e).tasks.length=T∧∀ t:Nat,t<T→rd (goS p x a e).tasks (t:Int)=stAt (if (t:Int)=e.Task then n t+1 else n t):=by
 obtain ⟨⟨⟨t0,t1,_,_⟩,_⟩,h1,_⟩:=hm
 rw [qx]
 unfold setT
 refine ⟨by rw [List.length_set];exact hl,fun t ht=>?_⟩
 rw [rdN (by rw [List.length_set];omega),List.getElem_set]
 by_cases q:(t:Int)=e.Task
 ·rw [if_pos (by omega),if_pos q,← qu,← hn t ht,q]
  congr 1
  have h:=hn t ht
  rw [q] at h
  rw [h] at h1
  exact h1.symm
 ·rw [if_neg (by omega),if_neg q,← hn t ht,rdN (by omega)]
theorem KY {T:Nat} {p:Progs} (hp:p.length≤T):∀ (l:List QL) (a:Int) (x:Core) (n:Nat→Nat),x.tasks.length=T→(∀ t:Nat,t<T→rd x.tasks (t:Int)=stAt (n t)) →
  ((overC p l a x).isSome=true↔(∀ e∈l,(0≤e.Task∧e.Task<(T:Int))∧inP p e)∧∀ t:Nat,t<T→rkAll (n t) (ofT l (t:Int))=true)
 | [],a,x,n,hl,hn=>by simp [overC,ofT,rkAll]
 | e::l,a,x,n,hl,hn=>by
  unfold overC
  have hk:=may_rk (e:=e) hp hn
  by_cases hm:may p x e
  ·obtain ⟨t0,t1,hi,hr⟩:=hk.1 hm
   obtain ⟨g1,g2⟩:=go_rk hp hl hn hm a
   rw [if_pos hm,KY hp l _ _ _ g1 g2]
   constructor
   ·rintro ⟨h1,h2⟩
    refine ⟨fun y hy=>?_,fun t ht=>?_⟩
    ·rcases List.mem_cons.1 hy with rfl | hy
     ·exact ⟨⟨t0,t1⟩,hi⟩
     ·exact h1 y hy
    ·have:=h2 t ht
     rw [UH]
     by_cases q:e.Task=(t:Int)
     ·rw [if_pos q,rkAll]
      rw [if_pos q.symm] at this
      rw [this,Bool.and_true]
      rw [q] at hr;exact hr
     ·rw [if_neg q]
      rw [if_neg (fun h=>q h.symm)] at this;exact this
   ·rintro ⟨h1,h2⟩
    refine ⟨fun y hy=>h1 y (List.mem_cons_of_mem _ hy),fun t ht=>?_⟩
    have:=h2 t ht
    rw [UH] at this
    by_cases q:e.Task=(t:Int)
    ·rw [if_pos q,rkAll,Bool.and_eq_true] at this
     rw [if_pos q.symm];exact this.2
    ·rw [if_neg q] at this
     rw [if_neg (fun h=>q h.symm)];exact this
  ·rw [if_neg hm]
   simp only [Option.isSome_none,Bool.false_eq_true,false_iff]
   rintro ⟨h1,h2⟩
   obtain ⟨⟨t0,t1⟩,hi⟩:=h1 e List.mem_cons_self
   refine hm (hk.2 ⟨t0,t1,hi,?_⟩)
   have:=h2 e.Task.toNat (by omega)
   rw [Int.toNat_of_nonneg t0,UH,if_pos rfl,rkAll,Bool.and_eq_true] at this
   exact this.1
theorem QAd {T:Nat} {p:Progs} (hp:p.length≤T) (l:List QL) {x:Core} (hx:x.tasks=List.replicate T ⟨0,0⟩):(overC p l 0 x).isSome=true↔legD T l∧∀ e∈l,inP p e:=by
 rw [KY hp l 0 x (fun _=>0) (by rw [hx];simp) (fun t ht=>by rw [hx,rdN (by simpa using ht)];simp [stAt])]
 unfold legD
 constructor
 ·rintro ⟨h1,h2⟩;exact ⟨⟨fun e he=>(h1 e he).1,h2⟩,fun e he=>(h1 e he).2⟩
 ·rintro ⟨⟨h1,h2⟩,h3⟩;exact ⟨fun e he=>⟨h1 e he,h3 e he⟩,h2⟩
end Go.Proofs.YtkknoimjgifhlaaGreatDoor
