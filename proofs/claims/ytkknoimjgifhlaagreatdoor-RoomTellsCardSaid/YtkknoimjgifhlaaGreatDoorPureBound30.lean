import Derived.Test.YtkknoimjgifhlaaGreatDoorPureBound
import Derived.Test.YtkknoimjgifhlaaGreatDoorPureRef5
namespace Go.Proofs.YtkknoimjgifhlaaGreatDoor
open Go Go.RowKit
set_option linter.unusedVariables false
set_option linter.unusedSimpArgs false
set_option maxRecDepth 100000
theorem QAH (c:QI) (o:Ok c):∀ (j i:Nat) (s a:Int),(i:Int)+j=c.Tasks→0≤s→s≤1000+i*1000→0≤a→a≤1000+i*1000→∀ k,j<k→YY c k s a (i:Int)=some (s+j*imax (c.Keys*c.Depth) (c.Depth+1),a+j*(c.Keys*c.Depth)):=by
 have h1:=o.kd
 have h2:=o.mx
 have h6:=o.d
 have ht:=o.t
 have e1:IntKind.i64.wrap (c.Keys*c.Depth)=c.Keys*c.Depth:=wr (by omega) (by omega)
 have e2:IntKind.i64.wrap (c.Depth+1)=c.Depth+1:=wr (by omega) (by omega)
 intro j
 induction j with
 | zero =>
  intro i s a hi s0 s1 a0 a1 k hk
  obtain ⟨k,rfl⟩:∃ k',k=k'+1:=⟨k-1,by omega⟩
  rw [YY.eq_2,if_neg (by simp;omega)];simp
 | succ j ih =>
  intro i s a hi s0 s1 a0 a1 k hk
  obtain ⟨k,rfl⟩:∃ k',k=k'+1:=⟨k-1,by omega⟩
  have hx:∀ x:Int,((j:Int)+1)*x=x+j*x:=fun x=>by rw [Int.add_mul,Int.one_mul,Int.add_comm]
  rw [YY.eq_2,if_pos (by simp;omega),e1,e2,wr1 (by omega),wr (x:=s+c.Depth) (by omega) (by omega),wr (x:=s+c.Depth+1) (by omega) (by omega),wr (x:=s+c.Keys*c.Depth) (by omega) (by omega),wr (x:=a+c.Keys*c.Depth) (by omega) (by omega)]
  have ei:((i+1:Nat):Int)*1000=i*1000+1000:=by omega
  by_cases q:c.Keys*c.Depth>c.Depth+1
  ·have em:imax (c.Keys*c.Depth) (c.Depth+1)=c.Keys*c.Depth:=by unfold imax;split<;>omega
   rw [em] at ih ⊢
   rw [if_pos (by simpa using q)]
   simp only [Option.bind_some]
   rw [ih (i+1) _ _ (by omega) (by omega) (by omega) (by omega) (by omega) k (by omega)]
   simp only [Int.natCast_add,Int.natCast_one,hx,Option.some.injEq,Prod.mk.injEq]
   omega
  ·have em:imax (c.Keys*c.Depth) (c.Depth+1)=c.Depth+1:=by unfold imax;split<;>omega
   rw [em] at ih ⊢
   rw [if_neg (by simpa using q)]
   simp only [Option.bind_some]
   rw [ih (i+1) _ _ (by omega) (by omega) (by omega) (by omega) (by omega) k (by omega)]
   simp only [Int.natCast_add,Int.natCast_one,hx,Option.some.injEq,Prod.mk.injEq]
   omega
def boundS (c:QI):Int×Int:=if mayB c=true then (slotsS c,anchS c) else (0,0)
theorem Jo (c:QI):Ev (fun k=>Xm k c) (boundS c):=by
 unfold boundS
 cases hm:mayB c with
 | false=>exact Ev.bind ⟨9,fun k hk=>Vl k c hk⟩ (Ev.pos (by rw [hm];rfl) (Ev.pure _))
 | true=>exact ⟨9,fun k hk=>Jx c hm k hk⟩
theorem Jm (c:QI):Ev (fun k=>Yf k c) (boundS c):=by
 unfold boundS Yf
 refine Ev.bind ⟨0,fun k _=>UQ k c⟩ ?_
 cases hm:mayB c with
 | false=>exact Ev.pos rfl (Ev.pure _)
 | true =>
  have o:=Ok.of hm
  have h1:=o.kd
  have hk:=o.k
  have ht:=o.t
  have h:=QAH c o c.Tasks.toNat 0 (c.Keys*c.Depth) c.Keys (by omega) (by omega) (by omega) (by omega) (by omega)
  refine Ev.neg (by simp) (Ev.bind (v:=(slotsS c,anchS c)) ⟨c.Tasks.toNat+1,fun k hk=>?_⟩ (Ev.pure _))
  rw [wr (x:=c.Keys*c.Depth) (by omega) (by omega)]
  have:=h k (by omega)
  rw [show (((0:Nat)):Int)=0 from rfl,Int.toNat_of_nonneg (by omega)] at this
  exact this
def stepS' (c:QI) (x:Int):Int:=if mayB c=true then stepsS c x else 0
theorem qr (c:QI) (x:Int):Ev (fun k=>XL k c x) (stepS' c x):=by
 unfold stepS'
 cases hm:mayB c with
 | false =>
  have h:=Jo c
  unfold boundS at h
  rw [hm] at h
  exact Ev.bind h (Ev.pos rfl (Ev.pure _))
 | true=>exact ⟨9,fun k hk=>Kn c hm x k hk⟩
theorem Jl (c:QI) (x:Int):Ev (fun k=>Ye k c x) (stepS' c x):=by
 unfold stepS'
 have h:=Jm c
 unfold boundS at h
 cases hm:mayB c with
 | false =>
  rw [hm] at h
  exact Ev.bind h (Ev.pos rfl (Ev.pure _))
 | true =>
  rw [hm] at h
  have o:=Ok.of hm
  have hs:=o.sl
  have ha:=o.an
  have hf:=o.f
  have ht:=o.t
  have hl:=o.lv
  have hy:=o.ky
  have hA:=o.al
  have h1:=o.m1
  have h2:=o.m2
  have nf:c.Fan≠0:=by omega
  have ed:Int.tdiv (anchS c-1) c.Fan=(anchS c-1) / c.Fan:=Int.tdiv_eq_ediv_of_nonneg (by omega)
  have hd:(anchS c-1) / c.Fan=lev c-1:=by unfold lev;omega
  have w1:IntKind.i64.wrap (anchS c-1)=anchS c-1:=wr (by omega) (by omega)
  have w2:IntKind.i64.wrap (lev c-1)=lev c-1:=wr (by omega) (by omega)
  have w3:IntKind.i64.wrap (lev c-1+1)=lev c:=by rw [wr (by omega) (by omega)];omega
  have w4:IntKind.i64.wrap (lev c+2)=lev c+2:=wr (by omega) (by omega)
  have w5:IntKind.i64.wrap (4*(lev c+2))=4*(lev c+2):=wr (by omega) (by omega)
  have w51:IntKind.i64.wrap (4*(lev c+2)+lev c)=4*(lev c+2)+lev c:=wr (by omega) (by omega)
  have w52:IntKind.i64.wrap (4*(lev c+2)+lev c+16)=keyC c:=by rw [wr (by omega) (by omega)];unfold keyC;omega
  have w6:IntKind.i64.wrap (2*c.Tasks)=2*c.Tasks:=wr (by omega) (by omega)
  have w7:IntKind.i64.wrap (slotsS c+2*c.Tasks)=slotsS c+2*c.Tasks:=wr (by omega) (by omega)
  have w8:IntKind.i64.wrap (slotsS c+2*c.Tasks+1)=slotsS c+2*c.Tasks+1:=wr (by omega) (by omega)
  have w9:IntKind.i64.wrap (8*(slotsS c+2*c.Tasks+1))=allC c:=by rw [wr (by omega) (by omega)];rfl
  have v1:IntKind.i64.wrap (c.Keys*keyC c)=c.Keys*keyC c:=wr (by omega) (by omega)
  have v2:IntKind.i64.wrap (4+c.Keys*keyC c)=4+c.Keys*keyC c:=wr (by omega) (by omega)
  have v3:IntKind.i64.wrap (anchS c+c.Tasks)=anchS c+c.Tasks:=wr (by omega) (by omega)
  have v4:IntKind.i64.wrap (anchS c+c.Tasks+1)=anchS c+c.Tasks+1:=wr (by omega) (by omega)
  have v5:IntKind.i64.wrap ((anchS c+c.Tasks+1)*keyC c)=(anchS c+c.Tasks+1)*keyC c:=wr (by omega) (by omega)
  have v6:IntKind.i64.wrap (6+(anchS c+c.Tasks+1)*keyC c)=6+(anchS c+c.Tasks+1)*keyC c:=wr (by omega) (by omega)
  have u1:IntKind.i64.wrap (keyC c+allC c)=keyC c+allC c:=wr (by omega) (by omega)
  have u2:IntKind.i64.wrap (4+c.Keys*keyC c+allC c)=4+c.Keys*keyC c+allC c:=wr (by omega) (by omega)
  have u3:IntKind.i64.wrap (6+(anchS c+c.Tasks+1)*keyC c+allC c)=6+(anchS c+c.Tasks+1)*keyC c+allC c:=wr (by omega) (by omega)
  unfold Ye
  refine Ev.bind h (Ev.neg (by simp;omega) (Ev.chk nf ((Ev.pure _).congr fun k=>?_)))
  simp only [if_true,Option.bind_some,w1,ed,hd,w2,w3,w4,w5,w51,w52,w6,w7,w8,w9,v1,v2,v3,v4,v5,v6,u1,u2,u3,stepsS]
  by_cases c1:x=1
  ·simp [c1]
  by_cases c2:x=2
  ·simp [c2]
  by_cases c3:x=3
  ·simp [c3]
  by_cases c4:x=4
  ·simp [c4]
  by_cases c5:x=5
  ·simp [c5]
  by_cases c6:x=6
  ·simp [c6]
  by_cases c7:x=7
  ·simp [c7]
  by_cases c8:x=8
  ·simp [c8]
  by_cases c9:x=9
  ·simp [c9]
  simp [c1,c2,c3,c4,c5,c6,c7,c8,c9]
def mostR (c:QI):Nat→Int→Int→Int
 | 0,m,_=>m
 | j+1,m,x=>mostR c j (imax m (stepS' c x)) (x+1)
theorem K2 (c:QI):∀ (j i:Nat) (m:Int),i+j=12→Ev (fun k=>Z9 c k m (i:Int)) (mostR c j m (i:Int)):=by
 intro j
 induction j with
 | zero =>
  intro i m hi
  obtain rfl:i=12:=by omega
  refine Ev.shift 1 ⟨0,fun k _=>?_⟩
  show Z9 c (k+1) m _=_
  rw [Z9.eq_2];rfl
 | succ j ih =>
  intro i m hi
  have e:IntKind.u8.wrap ((i:Int)+1)=((i+1:Nat):Int):=by
   simp [IntKind.wrap,IntKind.bits,IntKind.signed];omega
  refine Ev.shift 1 (Ev.congr (g:=fun k=>_) ?_ (fun k=>by rw [Z9.eq_2]))
  rw [e]
  exact Ev.pos (by simp;omega) (Ev.bind (Jl c _) (ih (i+1) _ (by omega)))
theorem QAY (c:QI) (hm:mayB c=true):∀ (j:Nat) (m x:Int),mostR c j m x=most c j m x
 | 0,m,x=>rfl
 | j+1,m,x=>by
  show mostR c j (imax m (stepS' c x)) (x+1)=_
  rw [QAY c hm j];unfold stepS';rw [if_pos hm];rfl
theorem QAX (c:QI):most c 12 0 0=most c 10 0 0:=by
 have e:∀ m x:Int,most c 12 m x=imax (imax (most c 10 m x) (stepsS c (x+1+1+1+1+1+1+1+1+1+1))) (stepsS c (x+1+1+1+1+1+1+1+1+1+1+1)):=fun m x=>rfl
 have ge:∀ (j:Nat) (m x:Int),m≤most c j m x:=fun j=>by
  induction j with
  | zero=>intro m x;exact Int.le_refl _
  | succ j ih =>
   intro m x
   have:=ih (imax m (stepsS c x)) (x+1)
   have h:m≤imax m (stepsS c x):=by unfold imax;split<;>omega
   show m≤most c j (imax m (stepsS c x)) (x+1)
   omega
 have h2:2≤most c 10 0 0:=by
  have:=ge 9 (imax 0 (stepsS c 0)) (0+1)
  have h:imax 0 (stepsS c 0)=2:=by rfl
  rw [h] at this
  show 2≤most c 9 (imax 0 (stepsS c 0)) (0+1)
  rw [h];exact this
 rw [e]
 have a:stepsS c (0+1+1+1+1+1+1+1+1+1+1)=2:=rfl
 have b:stepsS c (0+1+1+1+1+1+1+1+1+1+1+1)=2:=rfl
 rw [a,b]
 have:∀ y:Int,2≤y→imax y 2=y:=fun y hy=>by unfold imax;split<;>omega
 rw [this _ h2,this _ h2]
def roundsS (c:QI):Int:=if mayB c=true then c.Tasks*most c 10 0 0 else 0
theorem K5 (c:QI):Ev (fun k=>Xo k c) (roundsS c):=by
 unfold roundsS
 cases hm:mayB c with
 | false=>exact Ev.bind ⟨9,fun k hk=>Vl k c hk⟩ (Ev.pos (by rw [hm];rfl) (Ev.pure _))
 | true=>exact ⟨20,fun k hk=>QAE c hm k hk⟩
theorem K3 (c:QI):Ev (fun k=>Y6 k c) (roundsS c):=by
 unfold roundsS Y6
 have h:=K2 c 12 0 0 (by omega)
 refine Ev.bind h ((Ev.pure _).eq ?_)
 cases hm:mayB c with
 | false =>
  have e:∀ (j:Nat) (x:Int),mostR c j 0 x=0:=fun j=>by
   induction j with
   | zero=>intro x;rfl
   | succ j ih =>
    intro x
    show mostR c j (imax 0 (stepS' c x)) (x+1)=0
    unfold stepS';rw [hm];exact ih _
  rw [e,Int.mul_zero];rfl
 | true =>
  have o:=Ok.of hm
  have b:=UX c o 10 0 0 (by omega) (by omega)
  have t:=o.t
  have h1:=Int.mul_nonneg (a:=c.Tasks) (b:=most c 10 0 0) (by omega) (by omega)
  have h2:=mulLe (a:=c.Tasks) (b:=most c 10 0 0) (c:=6) (d:=50000000) t.2 b.2 b.1 (by omega)
  rw [QAY c hm,show (((0:Nat)):Int)=0 from rfl,QAX,wr (by omega) (by omega)];rfl
end Go.Proofs.YtkknoimjgifhlaaGreatDoor
