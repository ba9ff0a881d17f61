import Derived.Test.YtkknoimjgifhlaaGreatDoorPureModel3
namespace Go.Proofs.YtkknoimjgifhlaaGreatDoor
open Go Go.RowKit
set_option linter.unusedVariables false
set_option linter.unusedSimpArgs false
set_option maxRecDepth 100000
def slotsS (c:QI):Int:=c.Keys*c.Depth+c.Tasks*imax (c.Keys*c.Depth) (c.Depth+1)
def anchS (c:QI):Int:=c.Keys+c.Tasks*(c.Keys*c.Depth)
structure Ok (c:QI):Prop where
 t:1≤c.Tasks∧c.Tasks≤6
 k:1≤c.Keys∧c.Keys≤64
 d:2≤c.Depth∧c.Depth≤8
 f:3≤c.Fan∧c.Fan≤8
theorem Ok.of {c:QI} (h:mayB c=true):Ok c:=by
 simp only [mayB,Bool.and_eq_true,decide_eq_true_eq] at h
 exact ⟨by omega,by omega,by omega,by omega⟩
theorem mulLe {a b c d:Int} (h:a≤c) (h':b≤d) (h0:0≤b) (h1:0≤c):a*b≤c*d:=Int.mul_le_mul h h' h0 h1
theorem Ok.kd {c:QI} (o:Ok c):2≤c.Keys*c.Depth∧c.Keys*c.Depth≤512:=by
 obtain ⟨_,k,d,_⟩:=o
 have h1:=mulLe (a:=1) (b:=2) (c:=c.Keys) (d:=c.Depth) k.1 d.1 (by omega) (by omega)
 have h2:=mulLe (a:=c.Keys) (b:=c.Depth) (c:=64) (d:=8) k.2 d.2 (by omega) (by omega)
 omega
theorem Ok.mx {c:QI} (o:Ok c):2≤imax (c.Keys*c.Depth) (c.Depth+1)∧imax (c.Keys*c.Depth) (c.Depth+1)≤512:=by
 have:=o.kd
 have:=o.d
 unfold imax;split<;>omega
theorem Ok.tm {c:QI} (o:Ok c) {x:Int} (h0:2≤x) (h1:x≤512):2≤c.Tasks*x∧c.Tasks*x≤3072:=by
 have h2:=mulLe (a:=1) (b:=2) (c:=c.Tasks) (d:=x) o.t.1 h0 (by omega) (by have:=o.t;omega)
 have h3:=mulLe (a:=c.Tasks) (b:=x) (c:=6) (d:=512) o.t.2 h1 (by omega) (by omega)
 omega
theorem Ok.sl {c:QI} (o:Ok c):4≤slotsS c∧slotsS c≤3584:=by
 have:=o.kd
 have:=o.tm o.mx.1 o.mx.2
 unfold slotsS;omega
theorem Ok.an {c:QI} (o:Ok c):3≤anchS c∧anchS c≤3136:=by
 have:=o.k
 have:=o.tm o.kd.1 o.kd.2
 unfold anchS;omega
theorem QA7 (c:QI) (o:Ok c) (k:Nat):Xj c (k+3) 0 0 0=some (slotsS c,anchS c):=by
 have h1:=o.kd
 have h2:=o.mx
 have h3:=o.tm h2.1 h2.2
 have h4:=o.tm h1.1 h1.2
 have h5:=o.k
 have h6:=o.d
 have e1:IntKind.i64.wrap (c.Keys*c.Depth)=c.Keys*c.Depth:=wr (by omega) (by omega)
 have e2:IntKind.i64.wrap (c.Depth+1)=c.Depth+1:=wr (by omega) (by omega)
 rw [Xj.eq_2]
 simp only [Option.bind_some,show (0:Int)<2 from by decide,decide_true,if_true,Int.le_refl,and_self,e1,e2,rd,Int.toNat_zero,List.getD_cons_zero]
 rw [wr (x:=1*(c.Keys*c.Depth)) (by omega) (by omega),wr (x:=1*c.Keys) (by omega) (by omega),wr (x:=0+1*(c.Keys*c.Depth)) (by omega) (by omega),wr (x:=0+1*c.Keys) (by omega) (by omega),wr (x:=0+1) (by omega) (by omega)]
 rw [Xj.eq_2]
 simp only [Option.bind_some,show (0+1:Int)<2 from by decide,show (0:Int)≤0+1 from by decide,decide_true,if_true,and_self,e1,e2,rd,show (0+1:Int).toNat=1 from rfl,List.getD_cons_succ,List.getD_cons_zero]
 rw [wr (x:=c.Tasks*imax (c.Keys*c.Depth) (c.Depth+1)) (by omega) (by omega),wr (x:=c.Tasks*(c.Keys*c.Depth)) (by omega) (by omega),wr (x:=0+1*(c.Keys*c.Depth)+_) (by omega) (by omega),wr (x:=0+1*c.Keys+_) (by omega) (by omega),wr (x:=0+1+1) (by omega) (by omega)]
 rw [Xj.eq_2]
 simp only [show ¬ ((0+1+1:Int)<2) from by decide,decide_false,Bool.false_eq_true,if_false]
 simp only [slotsS,anchS]
 congr 2<;>omega
theorem Jx (c:QI) (hm:mayB c=true) (k:Nat) (hk:9≤k):Xm k c=some (slotsS c,anchS c):=by
 obtain ⟨q,rfl⟩:∃ q,k=q+3:=⟨k-3,by omega⟩
 unfold Xm
 rw [Vl _ c hk,hm]
 simp only [Option.bind_some,Bool.not_true,Bool.false_eq_true,if_false]
 rw [QA7 c (Ok.of hm) q];rfl
def lev (c:QI):Int:=(anchS c-1) / c.Fan+1
def keyC (c:QI):Int:=5*lev c+24
def allC (c:QI):Int:=8*(slotsS c+2*c.Tasks+1)
def stepsS (c:QI) (x:Int):Int :=
 if x=1 then 3 else if x=2∨x=3∨x=4 then keyC c+allC c else if x=6∨x=7 then 4+c.Keys*keyC c+allC c
 else if x=5∨x=8∨x=9 then 6+(anchS c+c.Tasks+1)*keyC c+allC c else 2
theorem Ok.lv {c:QI} (o:Ok c):1≤lev c∧lev c≤3136:=by
 have h:=o.an
 have h0:0≤(anchS c-1) / c.Fan:=Int.ediv_nonneg (by omega) (by have:=o.f;omega)
 have h1:(anchS c-1) / c.Fan≤anchS c-1:=Int.ediv_le_self _ (by omega)
 unfold lev;omega
theorem Ok.ky {c:QI} (o:Ok c):29≤keyC c∧keyC c≤15704:=by have:=o.lv;unfold keyC;omega
theorem Ok.al {c:QI} (o:Ok c):0≤allC c∧allC c≤30000:=by have:=o.sl;have:=o.t;unfold allC;omega
theorem Ok.m1 {c:QI} (o:Ok c):0≤c.Keys*keyC c∧c.Keys*keyC c≤1005056:=by
 have h:=o.ky
 have k:=o.k
 have h1:=Int.mul_nonneg (a:=c.Keys) (b:=keyC c) (by omega) (by omega)
 have h2:=mulLe (a:=c.Keys) (b:=keyC c) (c:=64) (d:=15704) k.2 h.2 (by omega) (by omega)
 omega
theorem Ok.m2 {c:QI} (o:Ok c):0≤(anchS c+c.Tasks+1)*keyC c∧(anchS c+c.Tasks+1)*keyC c≤49357672:=by
 have h:=o.ky
 have a:=o.an
 have t:=o.t
 have h1:=Int.mul_nonneg (a:=anchS c+c.Tasks+1) (b:=keyC c) (by omega) (by omega)
 have h2:=mulLe (a:=anchS c+c.Tasks+1) (b:=keyC c) (c:=3143) (d:=15704) (by omega) h.2 (by omega) (by omega)
 omega
theorem Ok.st {c:QI} (o:Ok c) (x:Int):0≤stepsS c x∧stepsS c x≤50000000:=by
 have:=o.ky
 have:=o.al
 have:=o.m1
 have:=o.m2
 unfold stepsS
 split
 ·omega
 split
 ·omega
 split
 ·omega
 split<;>omega
theorem Kn (c:QI) (hm:mayB c=true) (x:Int) (k:Nat) (hk:9≤k):XL k c x=some (stepsS c x):=by
 have o:=Ok.of hm
 have hs:=o.sl
 have ha:=o.an
 have hf:=o.f
 have ht:=o.t
 have hl:=o.lv
 have hy:=o.ky
 have hA:=o.al
 have h1:=o.m1
 have h2:=o.m2
 have n0:(slotsS c==(0:Int))=false:=by simp;omega
 have nf:c.Fan≠0:=by omega
 have ed:Int.tdiv (anchS c-1) c.Fan=(anchS c-1) / c.Fan:=Int.tdiv_eq_ediv_of_nonneg (by omega)
 have hd:(anchS c-1) / c.Fan=lev c-1:=by unfold lev;omega
 have ek:5*lev c+24=keyC c:=rfl
 have ea:8*(slotsS c+2*c.Tasks+1)=allC c:=rfl
 have w1:IntKind.i64.wrap (anchS c-1)=anchS c-1:=wr (by omega) (by omega)
 have w2:IntKind.i64.wrap (lev c-1)=lev c-1:=wr (by omega) (by omega)
 have w3:IntKind.i64.wrap (lev c-1+1)=lev c:=by rw [wr (by omega) (by omega)];omega
 have w4:IntKind.i64.wrap (5*lev c)=5*lev c:=wr (by omega) (by omega)
 have w5:IntKind.i64.wrap (5*lev c+24)=keyC c:=by rw [wr (by omega) (by omega)];rfl
 have w6:IntKind.i64.wrap (2*c.Tasks)=2*c.Tasks:=wr (by omega) (by omega)
 have w7:IntKind.i64.wrap (slotsS c+2*c.Tasks)=slotsS c+2*c.Tasks:=wr (by omega) (by omega)
 have w8:IntKind.i64.wrap (slotsS c+2*c.Tasks+1)=slotsS c+2*c.Tasks+1:=wr (by omega) (by omega)
 have w9:IntKind.i64.wrap (8*(slotsS c+2*c.Tasks+1))=allC c:=by rw [wr (by omega) (by omega)];rfl
 have v1:IntKind.i64.wrap (c.Keys*keyC c)=c.Keys*keyC c:=wr (by omega) (by omega)
 have v2:IntKind.i64.wrap (4+c.Keys*keyC c)=4+c.Keys*keyC c:=wr (by omega) (by omega)
 have v3:IntKind.i64.wrap (anchS c+c.Tasks)=anchS c+c.Tasks:=wr (by omega) (by omega)
 have v4:IntKind.i64.wrap (anchS c+c.Tasks+1)=anchS c+c.Tasks+1:=wr (by omega) (by omega)
 have v5:IntKind.i64.wrap ((anchS c+c.Tasks+1)*keyC c)=(anchS c+c.Tasks+1)*keyC c:=wr (by omega) (by omega)
 have v6:IntKind.i64.wrap (6+(anchS c+c.Tasks+1)*keyC c)=6+(anchS c+c.Tasks+1)*keyC c:=wr (by omega) (by omega)
 have u1:IntKind.i64.wrap (keyC c+allC c)=keyC c+allC c:=wr (by omega) (by omega)
 have u2:IntKind.i64.wrap (4+c.Keys*keyC c+allC c)=4+c.Keys*keyC c+allC c:=wr (by omega) (by omega)
 have u3:IntKind.i64.wrap (6+(anchS c+c.Tasks+1)*keyC c+allC c)=6+(anchS c+c.Tasks+1)*keyC c+allC c:=wr (by omega) (by omega)
 unfold XL
 simp only [Jx c hm k hk,Option.bind_some,n0,Bool.false_eq_true,if_false,nf,ne_eq,not_false_eq_true,if_true,w1,ed,hd,w2,w3,w4,w5,w6,w7,w8,w9,v1,v2,v3,v4,v5,v6,u1,u2,u3,stepsS]
 by_cases c1:x=1
 ·simp [c1]
 by_cases c2:x=2
 ·simp [c2]
 by_cases c3:x=3
 ·simp [c3]
 by_cases c4:x=4
 ·simp [c4]
 by_cases c5:x=5
 ·simp [c5]
 by_cases c6:x=6
 ·simp [c6]
 by_cases c7:x=7
 ·simp [c7]
 by_cases c8:x=8
 ·simp [c8]
 by_cases c9:x=9
 ·simp [c9]
 simp [c1,c2,c3,c4,c5,c6,c7,c8,c9]
def most (c:QI):Nat→Int→Int→Int
 | 0,m,_=>m
 | j+1,m,x=>most c j (imax m (stepsS c x)) (x+1)
theorem QAD (c:QI) (hm:mayB c=true):∀ (j i:Nat) (m:Int),i+j=10→∀ k,j+9<k→Xe c k m (i:Int)=some (most c j m (i:Int)):=by
 intro j
 induction j with
 | zero =>
  intro i m hi k hk
  obtain ⟨k,rfl⟩:∃ k',k=k'+1:=⟨k-1,by omega⟩
  obtain rfl:i=10:=by omega
  rw [Xe.eq_2];rfl
 | succ j ih =>
  intro i m hi k hk
  obtain ⟨k,rfl⟩:∃ k',k=k'+1:=⟨k-1,by omega⟩
  have h3:(i:Int)<10:=by omega
  have e:IntKind.u8.wrap ((i:Int)+1)=((i+1:Nat):Int):=by
   simp [IntKind.wrap,IntKind.bits,IntKind.signed];omega
  rw [Xe.eq_2,most]
  simp only [h3,decide_true,if_true,Kn c hm _ k (by omega),Option.bind_some,e]
  exact ih (i+1) _ (by omega) k (by omega)
theorem UX (c:QI) (o:Ok c):∀ (j:Nat) (m x:Int),0≤m→m≤50000000→0≤most c j m x∧most c j m x≤50000000
 | 0,m,x,h0,h1=>⟨h0,h1⟩
 | j+1,m,x,h0,h1=>by
  have:=o.st x
  exact UX c o j _ _ (by unfold imax;split<;>omega) (by unfold imax;split<;>omega)
theorem QAE (c:QI) (hm:mayB c=true) (k:Nat) (hk:20≤k):Xo k c=some (c.Tasks*most c 10 0 0):=by
 have o:=Ok.of hm
 have b:=UX c o 10 0 0 (by omega) (by omega)
 have t:=o.t
 have h1:=Int.mul_nonneg (a:=c.Tasks) (b:=most c 10 0 0) (by omega) (by omega)
 have h2:=mulLe (a:=c.Tasks) (b:=most c 10 0 0) (c:=6) (d:=50000000) t.2 b.2 b.1 (by omega)
 unfold Xo
 rw [Vl _ c (by omega),hm]
 simp only [Option.bind_some,Bool.not_true,Bool.false_eq_true,if_false]
 show Option.bind (Xe c k 0 ((0:Nat):Int)) _=_
 rw [QAD c hm 10 0 0 (by omega) k (by omega)]
 show some (IntKind.i64.wrap (c.Tasks*most c 10 0 0))=_
 rw [wr (by omega) (by omega)]
end Go.Proofs.YtkknoimjgifhlaaGreatDoor
