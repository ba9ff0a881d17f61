import Derived.Test.YtcngjjlhdlbogaaDoorPureModel3
namespace Go.Proofs.YtcngjjlhdlbogaaDoor
open Go Go.RowKit
set_option linter.unusedVariables false
set_option linter.unusedSimpArgs false
set_option maxRecDepth 100000
theorem UT:∀ a b:Str,cfS a b=0→a=b
 | [],[],_=>rfl
 | [],_::_,h=>by simp [cfS,Lib.compareBytes] at h
 | _::_,[],h=>by simp [cfS,Lib.compareBytes] at h
 | x::a,y::b,h=>by
  rw [VP] at h
  by_cases c:x<y
  ·rw [if_pos c] at h;exact absurd h (by decide)
  ·rw [if_neg c] at h
   by_cases c2:y<x
   ·rw [if_pos c2] at h;exact absurd h (by decide)
   ·rw [if_neg c2] at h
    rw [Jc c c2,UT a b h]
def resC:Str→Str→Int⊕Unit
 | [],_=>.inr ()
 | _::_,[]=>.inr ()
 | x::a,y::b=>if x<y then .inl (-1) else if y<x then .inl 1 else resC a b
theorem Jt (a b:Str) (ha:a.length≤1000000):∀ (j i:Nat),i+j=a.length→∀ k,j<k→YC a b k (i:Int)=some (resC (a.drop i) (b.drop i)):=by
 intro j
 induction j with
 | zero =>
  intro i hi k hk
  obtain ⟨k,rfl⟩:∃ q,k=q+1:=⟨k-1,by omega⟩
  rw [YC.eq_2,if_neg (by simp;omega),List.drop_of_length_le (by omega)];rfl
 | succ j ih =>
  intro i hi k hk
  obtain ⟨k,rfl⟩:∃ q,k=q+1:=⟨k-1,by omega⟩
  have h1:i<a.length:=by omega
  rw [YC.eq_2,List.drop_eq_getElem_cons h1]
  by_cases h2:i<b.length
  ·have ea:a.getD ((i:Int)).toNat 0=a[i]:=by rw [show ((i:Int)).toNat=i from rfl,List.getD_eq_getElem?_getD,List.getElem?_eq_getElem h1];rfl
   have eb:b.getD ((i:Int)).toNat 0=b[i]:=by rw [show ((i:Int)).toNat=i from rfl,List.getD_eq_getElem?_getD,List.getElem?_eq_getElem h2];rfl
   rw [if_pos (by simp;omega),if_pos (inR h1),if_pos (inR h2),if_pos (inR h1),if_pos (inR h2),ea,eb,wr1 (by omega),List.drop_eq_getElem_cons h2,resC]
   by_cases c:a[i]<b[i]
   ·have c':=UInt8.lt_iff_toNat_lt.1 c
    rw [if_pos (by simpa using c'),if_pos c]
   ·have c':¬ a[i].toNat<b[i].toNat:=fun h=>c (UInt8.lt_iff_toNat_lt.2 h)
    rw [if_neg (by simpa using c'),if_neg c]
    by_cases d:b[i]<a[i]
    ·have d':=UInt8.lt_iff_toNat_lt.1 d
     rw [if_pos (by simpa using d'),if_pos d]
    ·have d':¬ b[i].toNat<a[i].toNat:=fun h=>d (UInt8.lt_iff_toNat_lt.2 h)
     rw [if_neg (by simpa using d'),if_neg d]
     exact ih (i+1) (by omega) k (by omega)
  ·rw [if_neg (by simp;omega),List.drop_of_length_le (show b.length≤i by omega)];rfl
theorem JE:∀ (a b:Str) (n:Nat),Sum.elim (fun r'=>some r') (fun _=>(if (decide (((n+a.length:Nat):Int)<((n+b.length:Nat):Int)))=true then some (-1:Int) else (if (decide (((n+a.length:Nat):Int)>((n+b.length:Nat):Int)))=true then some (1:Int) else some (0:Int)))) (resC a b)=some (cfS a b)
 | [],[],n=>by simp [resC,cfS,Lib.compareBytes]
 | [],y::b,n=>by
  show (if _ then _ else _)=_
  rw [if_pos (by simp;omega)];rfl
 | x::a,[],n=>by
  show (if _ then _ else _)=_
  rw [if_neg (by simp;omega),if_pos (by simp;omega)];rfl
 | x::a,y::b,n=>by
  rw [VP,resC]
  by_cases c:x<y
  ·rw [if_pos c,if_pos c];rfl
  ·rw [if_neg c,if_neg c]
   by_cases d:y<x
   ·rw [if_pos d,if_pos d];rfl
   ·rw [if_neg d,if_neg d,← JE a b (n+1)]
    rw [List.length_cons,List.length_cons,show n+(a.length+1)=n+1+a.length by omega,show n+(b.length+1)=n+1+b.length by omega]
theorem Vb (k:Nat) (a b:Str) (ha:a.length≤1000000) (hk:a.length<k):Zm k a b=some (cfS a b):=by
 have h:YC a b k (0:Int)=some (resC a b):=Jt a b ha a.length 0 (by omega) k hk
 have g:=JE a b 0
 simp only [Nat.zero_add] at g
 unfold Zm
 rw [h,Option.bind_some];exact g
theorem Kx {a b:Str}:ltS a b=true↔cfS a b<0:=by unfold ltS Go.Proofs.ltOf;simp
theorem Uz:∀ a b:Str,sless a b=decide (cfS a b<0)
 | [],[]=>rfl
 | [],_::_=>rfl
 | _::_,[]=>rfl
 | x::a,y::b=>by
  have ih:=Uz a b
  unfold sless at ih ⊢
  rw [VP]
  simp only [Op.bytesLess]
  by_cases h:x<y
  ·simp [h]
  ·by_cases h':y<x
   ·have:x≠y:=fun e=>by subst e;exact h h'
    simp [h,h',this]
   ·have e:=Jc h h'
    subst e
    simp [h,ih]
theorem beq_cf (a b:Str):(a==b)=decide (cfS a b=0):=by
 by_cases h:a=b
 ·subst h;simp [Vm]
 ·have:cfS a b≠0:=fun e=>h (UT a b e)
  simp [h,this]
theorem sb_leq (a b:Str):sbin .leq a b=decide (cfS a b≤0):=by
 simp only [sbin,Uz,beq_cf]
 by_cases h:cfS a b<0
 ·have:cfS a b≤0:=by omega
  simp [h,this]
 ·by_cases h2:cfS a b=0
  ·simp [h2]
  ·have:¬ cfS a b≤0:=by omega
   simp [h,h2,this]
theorem Jw (k:Nat) (a b c:Str) (ha:a.length≤1000000) (hb:b.length≤1000000) (h1:a.length<k) (h2:b.length<k):Yi k a b c=some (withinB a b c):=by
 simp only [Yi,Vb k _ _ ha h1,Vb k _ _ hb h2,Option.bind_some,withinB,sb_leq]
 have e:sbin .lss a c=decide (cfS a c<0):=Uz a c
 rw [e]
 cases decide (cfS b a≤0)<;>cases sbin .eql c ([]:Str)<;>rfl
theorem V7 (k:Nat) (c:Qw):YB k c=some (mayB c):=by
 have key:∀ (b:Bool) (x:Bool) ,(if b=true then some x else some false)=some (b&&x):=by intro b x;cases b<;>rfl
 simp only [YB,Q9,Option.bind_some,key,mayB]
theorem q4 (k:Nat) (c:Qw) (s:Str):Yz k c s=some (keyB c s):=by
 have key:∀ (b:Bool) (x:Bool) ,(if b=true then some x else some false)=some (b&&x):=by intro b x;cases b<;>rfl
 simp only [Yz,V7,Q9,Option.bind_some,key,keyB,Bool.and_assoc]
theorem Kh (k:Nat) (c:Qw) (s:Str):Yq k c s=some (valB c s):=by
 have key:∀ (b:Bool) (x:Bool) ,(if b=true then some x else some false)=some (b&&x):=by intro b x;cases b<;>rfl
 simp only [Yq,V7,Q9,Option.bind_some,key,valB,Bool.and_assoc]
theorem Kj (k:Nat) (c:Qw) (s:Str):Yf k c s=some (bndB c s):=by
 have key:∀ (b:Bool) (x:Bool) ,(if b=true then some x else some false)=some (b&&x):=by intro b x;cases b<;>rfl
 simp only [Yf,V7,Q9,Option.bind_some,key,bndB,Bool.and_assoc]
def upN:List Ver→Int→Nat
 | [],_=>0
 | v::t,n=>if v.TS≤n then 0 else upN t n+1
theorem Kn:∀ (l:List Ver) (n:Int),upN l n≤l.length
 | [],_=>Nat.le_refl _
 | v::t,n=>by have:=Kn t n;simp only [upN,List.length_cons];split<;>omega
theorem qT (l:List Ver) (n:Int) (hl:l.length≤1000000):∀ (j k i:Nat),i+j=l.length→j<k→∃ r,YY l n k (i:Int)=some r∧Sum.elim (fun r'=>some r') (fun _=>some (l.length:Int)) r=some ((i+upN (l.drop i) n:Nat):Int):=by
 intro j
 induction j with
 | zero =>
  intro k i h1 h2
  obtain ⟨k,rfl⟩:∃ k',k=k'+1:=⟨k-1,by omega⟩
  rw [YY.eq_2,List.drop_of_length_le (by omega)]
  have:¬ ((i:Int)<(l.length:Int)):=by omega
  refine ⟨.inr (),by simp only [this,decide_false,Bool.false_eq_true,if_false],?_⟩
  simp only [Sum.elim_inr,upN,Option.some.injEq];omega
 | succ j ih =>
  intro k i h1 h2
  obtain ⟨k,rfl⟩:∃ k',k=k'+1:=⟨k-1,by omega⟩
  have hi:i<l.length:=by omega
  have hi1:(i:Int)<(l.length:Int):=by omega
  have hi0:(0:Int)≤(i:Int):=by omega
  obtain ⟨r,hr,he⟩:=ih k (i+1) (by omega) (by omega)
  rw [show ((i+1:Nat):Int)=(i:Int)+1 by omega] at hr
  rw [YY.eq_2,List.drop_eq_getElem_cons hi,wr (x:=(i:Int)+1) (by omega) (by omega)]
  simp only [hi1,hi0,decide_true,and_self,if_true,rdN hi]
  by_cases hn:l[i].TS≤n
  ·exact ⟨.inl (i:Int),by simp only [hn,decide_true,if_true],by simp [upN,hn]⟩
  ·refine ⟨r,by simp only [hn,decide_false,Bool.false_eq_true,if_false,hr],?_⟩
   rw [he];simp only [upN,hn,if_false,Option.some.injEq];omega
theorem U7 (l:List Ver) (n:Int) (k:Nat) (hl:l.length≤1000000) (hk:l.length<k):Yd k l n=some ((upN l n:Nat):Int):=by
 obtain ⟨r,hr,he⟩:=qT l n hl l.length k 0 (by omega) hk
 rw [show ((0:Nat):Int)=0 from rfl] at hr
 simp only [Yd,hr,Option.bind_some]
 rw [he];simp
theorem J1:∀ (l:List Ver) (n:Int),seen l n=if h:upN l n<l.length then (if (l[upN l n]).Tomb then (dflt,false) else (l[upN l n],true)) else (dflt,false)
 | [],_=>by simp [seen,upN]
 | v::t,n=>by
  have ih:=J1 t n
  simp only [seen,upN]
  by_cases hn:v.TS≤n
  ·simp [hn]
  ·simp only [hn,if_false,ih,List.length_cons,Nat.add_lt_add_iff_right,List.getElem_cons_succ]
theorem JF (l:List Ver) (n:Int) (k:Nat) (hl:l.length≤1000000) (hk:l.length<k):Ye k l n=some (seen l n):=by
 have hu:=Kn l n
 simp only [Ye,U7 l n k hl hk,Option.bind_some]
 rw [J1]
 by_cases h:upN l n<l.length
 ·have h1:(((upN l n:Nat):Int)==(l.length:Int))=false:=by simp;omega
  have h2:0≤((upN l n:Nat):Int)∧((upN l n:Nat):Int)<(l.length:Int):=by omega
  simp only [h1,Bool.false_eq_true,if_false,h2,and_self,if_true,Option.bind_some,rdN h,h,dite_true]
  cases (l[upN l n]).Tomb<;>rfl
 ·have h1:(((upN l n:Nat):Int)==(l.length:Int))=true:=by simp;omega
  simp only [h1,if_true,Option.bind_some,h,dite_false];rfl
theorem J8:∀ (l:List Ver) (n:Int),kept l n=l.take (upN l n)++(if h:upN l n<l.length then (if (l[upN l n]).Tomb then [] else [l[upN l n]]) else [])
 | [],_=>by simp [kept,upN]
 | v::t,n=>by
  have ih:=J8 t n
  simp only [kept,upN]
  by_cases hn:v.TS≤n
  ·simp [hn]
  ·simp only [hn,if_false,List.take_succ_cons,List.cons_append,List.length_cons,Nat.add_lt_add_iff_right,List.getElem_cons_succ]
   rw [← ih]
theorem Ji (l:List Ver) (u:Nat) (hl:l.length≤1000000):∀ (j k i:Nat),i+j=l.length→j<k→i≤u→YL l (u:Int) k (l.take i) (i:Int)=some (l.take u++(if h:u<l.length then (if (l[u]).Tomb then [] else [l[u]]) else [])):=by
 intro j
 induction j with
 | zero =>
  intro k i h1 h2 h3
  obtain ⟨k,rfl⟩:∃ k',k=k'+1:=⟨k-1,by omega⟩
  have:¬ ((i:Int)<(l.length:Int)):=by omega
  rw [YL.eq_2]
  simp only [this,decide_false,Bool.false_and,Bool.false_eq_true,if_false]
  rw [dif_neg (by omega),List.append_nil,List.take_of_length_le (by omega),List.take_of_length_le (by omega)]
 | succ j ih =>
  intro k i h1 h2 h3
  obtain ⟨k,rfl⟩:∃ k',k=k'+1:=⟨k-1,by omega⟩
  have hi:i<l.length:=by omega
  have hi1:(i:Int)<(l.length:Int):=by omega
  have hi0:(0:Int)≤(i:Int):=by omega
  have hiu:(i:Int)≤(u:Int):=by omega
  have hlen:(l.take i).length+([l[i]]:List Ver).length≤3518437208883:=by rw [List.length_take];simp;omega
  have e1:l.take i++[l[i]]=l.take (i+1):=by rw [List.take_succ_eq_append_getElem hi]
  rw [YL.eq_2,wr (x:=(i:Int)+1) (by omega) (by omega)]
  simp only [hi1,hi0,hiu,decide_true,Bool.and_self,and_self,if_true,rdN hi]
  by_cases h4:i<u
  ·have h5:(i:Int)<(u:Int):=by omega
   have ih':=ih k (i+1) (by omega) (by omega) (by omega)
   rw [show ((i+1:Nat):Int)=(i:Int)+1 by omega] at ih'
   simp only [h5,decide_true,if_true,Option.bind_some]
   rw [if_pos hlen]
   simp only [Option.bind_some,e1,ih']
  ·obtain rfl:i=u:=by omega
   have h5:¬ (i:Int)<(i:Int):=by omega
   obtain ⟨k,rfl⟩:∃ k',k=k'+1:=⟨k-1,by omega⟩
   have h6:¬ ((i:Int)+1≤(i:Int)):=by omega
   simp only [h5,decide_false,Bool.false_eq_true,if_false,Option.bind_some,dif_pos hi]
   cases ht:l[i].Tomb
   ·simp only [Bool.not_false,if_true]
    rw [if_pos hlen]
    simp only [Option.bind_some,YL.eq_2,h6,decide_false,Bool.and_false,Bool.false_eq_true,if_false]
   ·simp only [Bool.not_true,Bool.false_eq_true,if_false,Option.bind_some,YL.eq_2,h6,decide_false,Bool.and_false,if_true,List.append_nil]
theorem JG (l:List Ver) (n:Int) (k:Nat) (hl:l.length≤1000000) (hk:l.length+1<k):Yw k l n=some (kept l n):=by
 have h:=Ji l (upN l n) hl l.length k 0 (by omega) (by omega) (by omega)
 rw [show ((0:Nat):Int)=0 from rfl,List.take_zero] at h
 simp only [Yw,U7 l n k hl (by omega),Option.bind_some,h]
 rw [J8]
theorem Ki (l:List Ver) (n:Int) (k:Nat):Yl k l n=some (clash l n):=by
 cases l with
 | nil=>rfl
 | cons v t =>
  have h:(((v::t:List Ver).length:Int)>0):=by simp
  have h2:(0:Int)<((v::t:List Ver).length:Int):=h
  have h3:rd (v::t:List Ver) 0=v:=rfl
  simp only [Yl,h,h2,decide_true,if_true,Int.le_refl,and_self,Option.bind_some,clash,h3]
theorem qL (a:List Ver) (hl:a.length≤1000000):∀ (j i:Nat),i+j=a.length→∀ k,j<k→YT a a k (i:Int)=some (.inr ()):=by
 intro j
 induction j with
 | zero =>
  intro i hi k hk
  obtain ⟨k,rfl⟩:∃ q,k=q+1:=⟨k-1,by omega⟩
  rw [YT.eq_2,if_neg (by simp;omega)]
 | succ j ih =>
  intro i hi k hk
  obtain ⟨k,rfl⟩:∃ q,k=q+1:=⟨k-1,by omega⟩
  have h1:i<a.length:=by omega
  rw [YT.eq_2,if_pos (by simpa using h1),if_pos (inR h1),if_pos (inR h1),if_neg (by simp),wr1 (by omega)]
  exact ih (i+1) (by omega) k (by omega)
theorem qM (a:List Ver) (hl:a.length≤1000000) (k:Nat) (hk:a.length<k):Yp k a a=some true:=by
 have h:YT a a k (0:Int)=some (.inr ()):=qL a hl a.length 0 (by omega) k hk
 unfold Yp
 rw [if_neg (by simp),h];rfl
end Go.Proofs.YtcngjjlhdlbogaaDoor
