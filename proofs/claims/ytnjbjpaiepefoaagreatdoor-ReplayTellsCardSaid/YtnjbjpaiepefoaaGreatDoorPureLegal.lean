import Derived.Test.YtnjbjpaiepefoaaGreatDoorPureHist
namespace Go.Proofs.YtnjbjpaiepefoaaGreatDoor
open Go Go.RowKit
set_option linter.unusedVariables false
set_option linter.unusedSimpArgs false
set_option maxRecDepth 100000
def ofT (l:List QB) (t:Int):List QB:=l.filter fun x=>decide (x.Task=t)
theorem of_len (l:List QB) (t:Int):(ofT l t).length≤l.length:=List.length_filter_le _ _
theorem Uq (x:QB) (l:List QB) (t:Int):ofT (x::l) t=if x.Task=t then x::ofT l t else ofT l t:=by
 unfold ofT;rw [List.filter_cons];by_cases h:x.Task=t<;>simp [h]
def rk (j:Nat) (x:QB):Bool:=decide (x.What=1+((j % 3:Nat):Int))&&decide (x.Call=((j / 3:Nat):Int))&&(decide (j % 3=2)||decide (x.Answer=ans 0))
def rkAll:Nat→List QB→Bool
 | _,[]=>true
 | j,x::l=>rk j x&&rkAll (j+1) l
def legT (l:List QB):Nat→Nat→Option Nat
 | 0,_=>some 0
 | n+1,t=>if rkAll 0 (ofT l (t:Int))=true then (legT l n (t+1)).map (fun m=>(ofT l (t:Int)).length+m) else none
theorem Kf (t n:Nat):∀ l:List QB,(ofT l (t:Int)).length+(l.filter fun x=>decide (((t+1:Nat):Int)≤x.Task∧x.Task<((t+1+n:Nat):Int))).length=(l.filter fun x=>decide ((t:Int)≤x.Task∧x.Task<((t+(n+1):Nat):Int))).length
 | []=>rfl
 | x::l=>by
  have ih:=Kf t n l;rw [Uq];simp only [List.filter_cons]
  by_cases e:x.Task=(t:Int)
  ·rw [if_pos e,if_neg (by rw [decide_eq_true_eq];omega),if_pos (decide_eq_true (by omega))];simp only [List.length_cons];omega
  ·rw [if_neg e]
   by_cases B:((t+1:Nat):Int)≤x.Task∧x.Task<((t+1+n:Nat):Int)
   ·rw [if_pos (decide_eq_true B),if_pos (decide_eq_true (by omega))];simp only [List.length_cons];omega
   ·rw [if_neg (by rw [decide_eq_true_eq];exact B),if_neg (by rw [decide_eq_true_eq];omega)];exact ih
theorem J6 (l:List QB):∀ (n t m:Nat),legT l n t=some m→m=(l.filter fun x=>decide ((t:Int)≤x.Task∧x.Task<((t+n:Nat):Int))).length
 | 0,t,m,h=>by
  cases h
  symm
  rw [List.length_eq_zero_iff,List.filter_eq_nil_iff];intro x _;simp only [decide_eq_true_eq];omega
 | n+1,t,m,h=>by
  unfold legT at h
  split at h
  ·rw [Option.map_eq_some_iff] at h;obtain ⟨q,B,rfl⟩:=h;rw [J6 l n (t+1) q B];exact Kf t n l
  ·cases h
theorem JV (l:List QB):∀ (n t:Nat),(legT l n t).isSome=true↔∀ i,t≤i→i<t+n→rkAll 0 (ofT l (i:Int))=true
 | 0,t=>by simp [legT];omega
 | n+1,t=>by
  unfold legT
  cases h:rkAll 0 (ofT l (t:Int))
  ·simp only [Bool.false_eq_true,if_false,Option.isSome_none,false_iff];intro hh;have:=hh t (Nat.le_refl _) (by omega);rw [h] at this;cases this
  ·simp only [if_true,Option.isSome_map];rw [JV l n (t+1)]
   constructor
   ·intro hh i B E
    by_cases e:i=t
    ·subst e;exact h
    ·exact hh i (by omega) (by omega)
   ·exact fun hh i B E=>hh i (by omega) (by omega)
def legD (T:Nat) (l:List QB):Prop:=(∀ x∈l,0≤x.Task∧x.Task<(T:Int))∧∀ t:Nat,t<T→rkAll 0 (ofT l (t:Int))=true
theorem QBU (T:Nat) (l:List QB):(∃ q,legT l T 0=some q∧q=l.length)↔legD T l:=by
 constructor
 ·rintro ⟨q,B,E⟩;have G:=J6 l T 0 q B;rw [E] at G;have H:=List.length_filter_eq_length_iff.1 G.symm;refine ⟨fun x hx=>by have:=H x hx;simp at this;omega,fun t ht=>(JV l T 0).1 (by rw [B];rfl) t (by omega) (by omega)⟩
 ·rintro ⟨B,E⟩;obtain ⟨q,hq⟩:=Option.isSome_iff_exists.1 ((JV l T 0).2 fun i _ hi=>E i (by omega));refine ⟨q,hq,?_⟩;rw [J6 l _ _ _ hq]
  congr 1
  rw [List.filter_eq_self];intro x hx;have:=B x hx;simp;omega
def stAt (n:Nat):Yh:=⟨((n % 3:Nat):Int),((n / 3:Nat):Int)⟩
theorem QAt (n:Nat):nextT (stAt n) ((n % 3:Nat):Int)=stAt (n+1):=by
 unfold nextT stAt
 by_cases h:n % 3=2
 ·rw [if_pos (by omega),show (n+1) % 3=0 by omega,show (n+1) / 3=n / 3+1 by omega];rfl
 ·rw [if_neg (by omega),show (n+1) % 3=n % 3+1 by omega,show (n+1) / 3=n / 3 by omega];rfl
def inP (p:Progs) (e:QB):Prop:=e.Task<(p.length:Int)∧e.Call<((rd p e.Task).length:Int)
instance (p:Progs) (e:QB):Decidable (inP p e):=by unfold inP;exact inferInstance
theorem may_rk {T:Nat} {p:Progs} (hp:p.length≤T) {x:Core} {e:QB} {n:Nat→Nat} (hn:∀ t:Nat,t<T→rd x.tasks (t:Int)=stAt (n t)):may p x e↔0≤e.Task∧e.Task<(T:Int)∧inP p e∧rk (n e.Task.toNat) e=true:=by
 unfold may goodE okCall isAt inP rk;simp only [Bool.and_eq_true,Bool.or_eq_true,decide_eq_true_eq]
 constructor
 ·rintro ⟨⟨⟨B,K,V,H⟩,w1,W,ha⟩,E,G⟩;have h:=hn e.Task.toNat (by omega);rw [Int.toNat_of_nonneg B] at h;rw [h] at E G;have E:((n e.Task.toNat % 3:Nat):Int)=e.What-1:=E;have G:((n e.Task.toNat / 3:Nat):Int)=e.Call:=G;refine ⟨B,by omega,⟨K,H⟩,⟨by omega,by omega⟩,?_⟩
  by_cases q:n e.Task.toNat % 3=2
  ·exact .inl q
  ·exact .inr (ha (by omega))
 ·rintro ⟨B,K,⟨O,H⟩,⟨E,G⟩,U⟩;have h:=hn e.Task.toNat (by omega);rw [Int.toNat_of_nonneg B] at h;refine ⟨⟨⟨B,O,by omega,H⟩,by omega,by omega,fun q=>U.resolve_left (by omega)⟩,?_,?_⟩
  ·rw [h];show ((n e.Task.toNat % 3:Nat):Int)=_;omega
  ·rw [h];show ((n e.Task.toNat / 3:Nat):Int)=_;omega
theorem QAw (p:Progs) (s:Core) (i:Int) (e:QB):(goS p s i e).tasks=setT s e:=by
 unfold goS;split
 ·rfl
 ·split<;>rfl
theorem go_rk {T:Nat} {p:Progs} (hp:p.length≤T) {x:Core} {e:QB} {n:Nat→Nat} (hl:x.tasks.length=T) (hn:∀ t:Nat,t<T→rd x.tasks (t:Int)=stAt (n t)) (hm:may p x e) (a:Int) :
  (goS p x a e).tasks.length=T∧∀ t:Nat,t<T→rd (goS p x a e).tasks (t:Int)=stAt (if (t:Int)=e.Task then n t+1 else n t):=by
 obtain ⟨⟨⟨E,G,_,_⟩,_⟩,B,_⟩:=hm;rw [QAw];unfold setT;refine ⟨by rw [List.length_set];exact hl,fun t ht=>?_⟩;rw [rdN (by rw [List.length_set];omega),List.getElem_set]
 by_cases q:(t:Int)=e.Task
 ·rw [if_pos (by omega),if_pos q,← QAt,← hn t ht,q]
  congr 1
  have h:=hn t ht;rw [q] at h;rw [h] at B;exact B.symm
 ·rw [if_neg (by omega),if_neg q,← hn t ht,rdN (by omega)]
theorem qN {T:Nat} {p:Progs} (hp:p.length≤T):∀ (l:List QB) (a:Int) (x:Core) (n:Nat→Nat),x.tasks.length=T→(∀ t:Nat,t<T→rd x.tasks (t:Int)=stAt (n t)) →
  ((overC p l a x).isSome=true↔(∀ e∈l,(0≤e.Task∧e.Task<(T:Int))∧inP p e)∧∀ t:Nat,t<T→rkAll (n t) (ofT l (t:Int))=true)
 | [],a,x,n,hl,hn=>by simp [overC,ofT,rkAll]
 | e::l,a,x,n,hl,hn=>by
  unfold overC;have hk:=may_rk (e:=e) hp hn
  by_cases hm:may p x e
  ·obtain ⟨G,H,hi,hr⟩:=hk.1 hm;obtain ⟨K,O⟩:=go_rk hp hl hn hm a;rw [if_pos hm,qN hp l _ _ _ K O]
   constructor
   ·rintro ⟨B,E⟩;refine ⟨fun y hy=>?_,fun t ht=>?_⟩
    ·rcases List.mem_cons.1 hy with rfl | hy
     ·exact ⟨⟨G,H⟩,hi⟩
     ·exact B y hy
    ·have:=E t ht;rw [Uq]
     by_cases q:e.Task=(t:Int)
     ·rw [if_pos q,rkAll];rw [if_pos q.symm] at this;rw [this,Bool.and_true];rw [q] at hr;exact hr
     ·rw [if_neg q];rw [if_neg (fun h=>q h.symm)] at this;exact this
   ·rintro ⟨B,E⟩;refine ⟨fun y hy=>B y (List.mem_cons_of_mem _ hy),fun t ht=>?_⟩;have:=E t ht;rw [Uq] at this
    by_cases q:e.Task=(t:Int)
    ·rw [if_pos q,rkAll,Bool.and_eq_true] at this;rw [if_pos q.symm];exact this.2
    ·rw [if_neg q] at this;rw [if_neg (fun h=>q h.symm)];exact this
  ·rw [if_neg hm];simp only [Option.isSome_none,Bool.false_eq_true,false_iff];rintro ⟨B,E⟩;obtain ⟨⟨G,H⟩,hi⟩:=B e List.mem_cons_self;refine hm (hk.2 ⟨G,H,hi,?_⟩);have:=E e.Task.toNat (by omega);rw [Int.toNat_of_nonneg G,Uq,if_pos rfl,rkAll,Bool.and_eq_true] at this;exact this.1
theorem QBT {T:Nat} {p:Progs} (hp:p.length≤T) (l:List QB) {x:Core} (hx:x.tasks=List.replicate T ⟨0,0⟩):(overC p l 0 x).isSome=true↔legD T l∧∀ e∈l,inP p e:=by
 rw [qN hp l 0 x (fun _=>0) (by rw [hx];simp) (fun t ht=>by rw [hx,rdN (by simpa using ht)];simp [stAt])];unfold legD
 constructor
 ·rintro ⟨E,G⟩;exact ⟨⟨fun e B=>(E e B).1,G⟩,fun e B=>(E e B).2⟩
 ·rintro ⟨⟨E,G⟩,H⟩;exact ⟨fun e B=>⟨E e B,H e B⟩,G⟩
end Go.Proofs.YtnjbjpaiepefoaaGreatDoor
