import Derived.Test.YtnjbjpaiepefoaaGreatDoorPureModel3
namespace Go.Proofs.YtnjbjpaiepefoaaGreatDoor
open Go Go.RowKit
set_option linter.unusedVariables false
set_option linter.unusedSimpArgs false
set_option maxRecDepth 100000
theorem KH:∀ a b:Str,cfS a b=0→a=b
 | [],[],_=>rfl
 | [],_::_,h=>by simp [cfS,Lib.compareBytes] at h
 | _::_,[],h=>by simp [cfS,Lib.compareBytes] at h
 | x::a,y::b,h=>by
  rw [Ur] at h
  by_cases c:x<y
  ·rw [if_pos c] at h;exact absurd h (by decide)
  ·rw [if_neg c] at h
   by_cases B:y<x
   ·rw [if_pos B] at h;exact absurd h (by decide)
   ·rw [if_neg B] at h;rw [qn c B,KH a b h]
def resC:Str→Str→Int⊕Unit
 | [],_=>.inr ()
 | _::_,[]=>.inr ()
 | x::a,y::b=>if x<y then .inl (-1) else if y<x then .inl 1 else resC a b
theorem q9 (a b:Str) (ha:a.length≤1000000):∀ (j i:Nat),i+j=a.length→∀ k,j<k→YT a b k (i:Int)=some (resC (a.drop i) (b.drop i)):=by
 intro j
 induction j with
 | zero =>
  intro i hi k hk;obtain ⟨k,rfl⟩:∃ q,k=q+1:=⟨k-1,by omega⟩;rw [YT.eq_2,if_neg (by simp;omega),List.drop_of_length_le (by omega)];rfl
 | succ j ih =>
  intro i hi k hk;obtain ⟨k,rfl⟩:∃ q,k=q+1:=⟨k-1,by omega⟩;have B:i<a.length:=by omega
  rw [YT.eq_2,List.drop_eq_getElem_cons B]
  by_cases E:i<b.length
  ·have ea:a.getD ((i:Int)).toNat 0=a[i]:=by rw [show ((i:Int)).toNat=i from rfl,List.getD_eq_getElem?_getD,List.getElem?_eq_getElem B];rfl
   have eb:b.getD ((i:Int)).toNat 0=b[i]:=by rw [show ((i:Int)).toNat=i from rfl,List.getD_eq_getElem?_getD,List.getElem?_eq_getElem E];rfl
   rw [if_pos (by simp;omega),if_pos (inR B),if_pos (inR E),if_pos (inR B),if_pos (inR E),ea,eb,wr1 (by omega),List.drop_eq_getElem_cons E,resC]
   by_cases c:a[i]<b[i]
   ·have c':=UInt8.lt_iff_toNat_lt.1 c;rw [if_pos (by simpa using c'),if_pos c]
   ·have c':¬ a[i].toNat<b[i].toNat:=fun h=>c (UInt8.lt_iff_toNat_lt.2 h);rw [if_neg (by simpa using c'),if_neg c]
    by_cases d:b[i]<a[i]
    ·have d':=UInt8.lt_iff_toNat_lt.1 d;rw [if_pos (by simpa using d'),if_pos d]
    ·have d':¬ b[i].toNat<a[i].toNat:=fun h=>d (UInt8.lt_iff_toNat_lt.2 h);rw [if_neg (by simpa using d'),if_neg d];exact ih (i+1) (by omega) k (by omega)
  ·rw [if_neg (by simp;omega),List.drop_of_length_le (show b.length≤i by omega)];rfl
theorem qI:∀ (a b:Str) (n:Nat),Sum.elim (fun r'=>some r') (fun _=>(if (decide (((n+a.length:Nat):Int)<((n+b.length:Nat):Int)))=true then some (-1:Int) else (if (decide (((n+a.length:Nat):Int)>((n+b.length:Nat):Int)))=true then some (1:Int) else some (0:Int)))) (resC a b)=some (cfS a b)
 | [],[],n=>by simp [resC,cfS,Lib.compareBytes]
 | [],y::b,n=>by
  show (if _ then _ else _)=_;rw [if_pos (by simp;omega)];rfl
 | x::a,[],n=>by
  show (if _ then _ else _)=_;rw [if_neg (by simp;omega),if_pos (by simp;omega)];rfl
 | x::a,y::b,n=>by
  rw [Ur,resC]
  by_cases c:x<y
  ·rw [if_pos c,if_pos c];rfl
  ·rw [if_neg c,if_neg c]
   by_cases d:y<x
   ·rw [if_pos d,if_pos d];rfl
   ·rw [if_neg d,if_neg d,← qI a b (n+1)];rw [List.length_cons,List.length_cons,show n+(a.length+1)=n+1+a.length by omega,show n+(b.length+1)=n+1+b.length by omega]
theorem U5 (k:Nat) (a b:Str) (ha:a.length≤1000000) (hk:a.length<k):YL k a b=some (cfS a b):=by
 have h:YT a b k (0:Int)=some (resC a b):=q9 a b ha a.length 0 (by omega) k hk;have g:=qI a b 0;simp only [Nat.zero_add] at g;unfold YL;rw [h,Option.bind_some];exact g
theorem QBR {a b:Str}:ltS a b=true↔cfS a b<0:=by unfold ltS Go.Proofs.ltOf;simp
theorem Ky:∀ a b:Str,sless a b=decide (cfS a b<0)
 | [],[]=>rfl
 | [],_::_=>rfl
 | _::_,[]=>rfl
 | x::a,y::b=>by
  have ih:=Ky a b;unfold sless at ih ⊢;rw [Ur];simp only [Op.bytesLess]
  by_cases h:x<y
  ·simp [h]
  ·by_cases B:y<x
   ·have:x≠y:=fun e=>by subst e;exact h B
    simp [h,B,this]
   ·have e:=qn h B;subst e;simp [h,ih]
theorem beq_cf (a b:Str):(a==b)=decide (cfS a b=0):=by
 by_cases h:a=b
 ·subst h;simp [JI]
 ·have:cfS a b≠0:=fun e=>h (KH a b e);simp [h,this]
theorem sb_leq (a b:Str):sbin .leq a b=decide (cfS a b≤0):=by
 simp only [sbin,Ky,beq_cf]
 by_cases h:cfS a b<0
 ·have:cfS a b≤0:=by omega
  simp [h,this]
 ·by_cases B:cfS a b=0
  ·simp [B]
  ·have:¬ cfS a b≤0:=by omega
   simp [h,B,this]
theorem QAI (k:Nat) (a b c:Str) (ha:a.length≤1000000) (hb:b.length≤1000000) (B:a.length<k) (E:b.length<k):XQ k a b c=some (withinB a b c):=by
 simp only [XQ,U5 k _ _ ha B,U5 k _ _ hb E,Option.bind_some,withinB,sb_leq];have e:sbin .lss a c=decide (cfS a c<0):=Ky a c;rw [e]
 cases decide (cfS b a≤0)<;>cases sbin .eql c ([]:Str)<;>rfl
theorem JO (k:Nat) (c:Qb):Z1 k c=some (mayB c):=by
 have key:∀ (b:Bool) (x:Bool) ,(if b=true then some x else some false)=some (b&&x):=by intro b x;cases b<;>rfl
 simp only [Z1,Q3,Option.bind_some,key,mayB]
theorem QCh (k:Nat) (c:Qb) (s:Str):Xz k c s=some (keyB c s):=by
 have key:∀ (b:Bool) (x:Bool) ,(if b=true then some x else some false)=some (b&&x):=by intro b x;cases b<;>rfl
 simp only [Xz,JO,Q3,Option.bind_some,key,keyB,Bool.and_assoc]
theorem QA8 (k:Nat) (c:Qb) (s:Str):Xf k c s=some (valB c s):=by
 have key:∀ (b:Bool) (x:Bool) ,(if b=true then some x else some false)=some (b&&x):=by intro b x;cases b<;>rfl
 simp only [Xf,JO,Q3,Option.bind_some,key,valB,Bool.and_assoc]
theorem QBA (k:Nat) (c:Qb) (s:Str):XL k c s=some (bndB c s):=by
 have key:∀ (b:Bool) (x:Bool) ,(if b=true then some x else some false)=some (b&&x):=by intro b x;cases b<;>rfl
 simp only [XL,JO,Q3,Option.bind_some,key,bndB,Bool.and_assoc]
def upN:List Ver→Int→Nat
 | [],_=>0
 | v::t,n=>if v.TS≤n then 0 else upN t n+1
theorem QBH:∀ (l:List Ver) (n:Int),upN l n≤l.length
 | [],_=>Nat.le_refl _
 | v::t,n=>by have:=QBH t n;simp only [upN,List.length_cons];split<;>omega
theorem QB4 (l:List Ver) (n:Int) (hl:l.length≤1000000):∀ (j k i:Nat),i+j=l.length→j<k→∃ r,XD l n k (i:Int)=some r∧Sum.elim (fun r'=>some r') (fun _=>some (l.length:Int)) r=some ((i+upN (l.drop i) n:Nat):Int):=by
 intro j
 induction j with
 | zero =>
  intro k i G H;obtain ⟨k,rfl⟩:∃ k',k=k'+1:=⟨k-1,by omega⟩;rw [XD.eq_2,List.drop_of_length_le (by omega)];have:¬ ((i:Int)<(l.length:Int)):=by omega
  refine ⟨.inr (),by simp only [this,decide_false,Bool.false_eq_true,if_false],?_⟩;simp only [Sum.elim_inr,upN,Option.some.injEq];omega
 | succ j ih =>
  intro k i G H;obtain ⟨k,rfl⟩:∃ k',k=k'+1:=⟨k-1,by omega⟩;have hi:i<l.length:=by omega
  have B:(i:Int)<(l.length:Int):=by omega
  have E:(0:Int)≤(i:Int):=by omega
  obtain ⟨r,hr,K⟩:=ih k (i+1) (by omega) (by omega);rw [show ((i+1:Nat):Int)=(i:Int)+1 by omega] at hr;rw [XD.eq_2,List.drop_eq_getElem_cons hi,wr (x:=(i:Int)+1) (by omega) (by omega)];simp only [B,E,decide_true,and_self,if_true,rdN hi]
  by_cases hn:l[i].TS≤n
  ·exact ⟨.inl (i:Int),by simp only [hn,decide_true,if_true],by simp [upN,hn]⟩
  ·refine ⟨r,by simp only [hn,decide_false,Bool.false_eq_true,if_false,hr],?_⟩;rw [K];simp only [upN,hn,if_false,Option.some.injEq];omega
theorem qA (l:List Ver) (n:Int) (k:Nat) (hl:l.length≤1000000) (hk:l.length<k):XH k l n=some ((upN l n:Nat):Int):=by
 obtain ⟨r,hr,B⟩:=QB4 l n hl l.length k 0 (by omega) hk;rw [show ((0:Nat):Int)=0 from rfl] at hr;simp only [XH,hr,Option.bind_some];rw [B];simp
theorem QAO:∀ (l:List Ver) (n:Int),seen l n=if h:upN l n<l.length then (if (l[upN l n]).Tomb then (dflt,false) else (l[upN l n],true)) else (dflt,false)
 | [],_=>by simp [seen,upN]
 | v::t,n=>by
  have ih:=QAO t n;simp only [seen,upN]
  by_cases hn:v.TS≤n
  ·simp [hn]
  ·simp only [hn,if_false,ih,List.length_cons,Nat.add_lt_add_iff_right,List.getElem_cons_succ]
theorem qJ (l:List Ver) (n:Int) (k:Nat) (hl:l.length≤1000000) (hk:l.length<k):XI k l n=some (seen l n):=by
 have hu:=QBH l n;simp only [XI,qA l n k hl hk,Option.bind_some];rw [QAO]
 by_cases h:upN l n<l.length
 ·have B:(((upN l n:Nat):Int)==(l.length:Int))=false:=by simp;omega
  have E:0≤((upN l n:Nat):Int)∧((upN l n:Nat):Int)<(l.length:Int):=by omega
  simp only [B,Bool.false_eq_true,if_false,E,and_self,if_true,Option.bind_some,rdN h,h,dite_true]
  cases (l[upN l n]).Tomb<;>rfl
 ·have B:(((upN l n:Nat):Int)==(l.length:Int))=true:=by simp;omega
  simp only [B,if_true,Option.bind_some,h,dite_false];rfl
theorem QAW:∀ (l:List Ver) (n:Int),kept l n=l.take (upN l n)++(if h:upN l n<l.length then (if (l[upN l n]).Tomb then [] else [l[upN l n]]) else [])
 | [],_=>by simp [kept,upN]
 | v::t,n=>by
  have ih:=QAW t n;simp only [kept,upN]
  by_cases hn:v.TS≤n
  ·simp [hn]
  ·simp only [hn,if_false,List.take_succ_cons,List.cons_append,List.length_cons,Nat.add_lt_add_iff_right,List.getElem_cons_succ];rw [← ih]
theorem qu (l:List Ver) (u:Nat) (hl:l.length≤1000000):∀ (j k i:Nat),i+j=l.length→j<k→i≤u→Yg l (u:Int) k (l.take i) (i:Int)=some (l.take u++(if h:u<l.length then (if (l[u]).Tomb then [] else [l[u]]) else [])):=by
 intro j
 induction j with
 | zero =>
  intro k i K O U;obtain ⟨k,rfl⟩:∃ k',k=k'+1:=⟨k-1,by omega⟩;have:¬ ((i:Int)<(l.length:Int)):=by omega
  rw [Yg.eq_2];simp only [this,decide_false,Bool.false_and,Bool.false_eq_true,if_false];rw [dif_neg (by omega),List.append_nil,List.take_of_length_le (by omega),List.take_of_length_le (by omega)]
 | succ j ih =>
  intro k i K O U;obtain ⟨k,rfl⟩:∃ k',k=k'+1:=⟨k-1,by omega⟩;have hi:i<l.length:=by omega
  have E:(i:Int)<(l.length:Int):=by omega
  have G:(0:Int)≤(i:Int):=by omega
  have hiu:(i:Int)≤(u:Int):=by omega
  have hlen:(l.take i).length+([l[i]]:List Ver).length≤3518437208883:=by rw [List.length_take];simp;omega
  have V:l.take i++[l[i]]=l.take (i+1):=by rw [List.take_succ_eq_append_getElem hi]
  rw [Yg.eq_2,wr (x:=(i:Int)+1) (by omega) (by omega)];simp only [E,G,hiu,decide_true,Bool.and_self,and_self,if_true,rdN hi]
  by_cases W:i<u
  ·have B:(i:Int)<(u:Int):=by omega
   have ih':=ih k (i+1) (by omega) (by omega) (by omega);rw [show ((i+1:Nat):Int)=(i:Int)+1 by omega] at ih';simp only [B,decide_true,if_true,Option.bind_some];rw [if_pos hlen];simp only [Option.bind_some,V,ih']
  ·obtain rfl:i=u:=by omega
   have B:¬ (i:Int)<(i:Int):=by omega
   obtain ⟨k,rfl⟩:∃ k',k=k'+1:=⟨k-1,by omega⟩;have H:¬ ((i:Int)+1≤(i:Int)):=by omega
   simp only [B,decide_false,Bool.false_eq_true,if_false,Option.bind_some,dif_pos hi]
   cases ht:l[i].Tomb
   ·simp only [Bool.not_false,if_true];rw [if_pos hlen];simp only [Option.bind_some,Yg.eq_2,H,decide_false,Bool.and_false,Bool.false_eq_true,if_false]
   ·simp only [Bool.not_true,Bool.false_eq_true,if_false,Option.bind_some,Yg.eq_2,H,decide_false,Bool.and_false,if_true,List.append_nil]
theorem qL (l:List Ver) (n:Int) (k:Nat) (hl:l.length≤1000000) (hk:l.length+1<k):Xt k l n=some (kept l n):=by
 have h:=qu l (upN l n) hl l.length k 0 (by omega) (by omega) (by omega);rw [show ((0:Nat):Int)=0 from rfl,List.take_zero] at h;simp only [Xt,qA l n k hl (by omega),Option.bind_some,h];rw [QAW]
theorem QA9 (l:List Ver) (n:Int) (k:Nat):XY k l n=some (clash l n):=by
 cases l with
 | nil=>rfl
 | cons v t =>
  have h:(((v::t:List Ver).length:Int)>0):=by simp
  have B:(0:Int)<((v::t:List Ver).length:Int):=h;have E:rd (v::t:List Ver) 0=v:=rfl;simp only [XY,h,B,decide_true,if_true,Int.le_refl,and_self,Option.bind_some,clash,E]
theorem QBv (a:List Ver) (hl:a.length≤1000000):∀ (j i:Nat),i+j=a.length→∀ k,j<k→Y2 a a k (i:Int)=some (.inr ()):=by
 intro j
 induction j with
 | zero =>
  intro i hi k hk;obtain ⟨k,rfl⟩:∃ q,k=q+1:=⟨k-1,by omega⟩;rw [Y2.eq_2,if_neg (by simp;omega)]
 | succ j ih =>
  intro i hi k hk;obtain ⟨k,rfl⟩:∃ q,k=q+1:=⟨k-1,by omega⟩;have B:i<a.length:=by omega
  rw [Y2.eq_2,if_pos (by simpa using B),if_pos (inR B),if_pos (inR B),if_neg (by simp),wr1 (by omega)];exact ih (i+1) (by omega) k (by omega)
theorem QBw (a:List Ver) (hl:a.length≤1000000) (k:Nat) (hk:a.length<k):Xc k a a=some true:=by
 have h:Y2 a a k (0:Int)=some (.inr ()):=QBv a hl a.length 0 (by omega) k hk;unfold Xc;rw [if_neg (by simp),h];rfl
abbrev RM:=QG
abbrev RK:=Qn
abbrev RT:=Qh
def keyOf (p:Str×Qm):RK:=⟨p.1,p.2.l,decide (p.2.intent.Writer≠0),p.2.intent⟩
def goneK (y:RK):Bool:=((y.L.length:Int)==(0:Int))&&!y.Has
theorem KB (p:Str×Qm):goneK (keyOf p)=gone p.2:=by
 unfold goneK gone keyOf
 by_cases h:p.2.intent.Writer=0<;>simp [h]
structure Rel (m:Mod) (x:RM):Prop where
 c:x.C=m.c
 t:x.T.map (fun z=>(⟨z.State,z.Snapshot⟩:Xd))=m.txs
 n1:∀ (i:Nat) (h:i<x.T.length),mget m.names ⟨x.T[i].Task,x.T[i].N⟩=some ((i:Int)+1)
 n2:∀ k w,mget m.names k=some w→∃ (i:Nat) (h:i<x.T.length),w=(i:Int)+1∧x.T[i].Task=k.task∧x.T[i].N=k.n
 n3:∀ (i:Nat) (h:i<x.T.length),x.T[i].N≤(mget m.many x.T[i].Task).getD 0
 mn:∀ t,(mget m.many t).getD 0=((x.T.filter fun z=>decide (z.Task=t)).length:Int)
 so:x.L.Pairwise fun a b=>ltS a.Key b.Key=true
 me:∀ y,y∈x.L↔∃ p∈m.rows,y=keyOf p
 go:∀ y∈x.L,goneK y=false
 kl:∀ y∈x.L,y.Key.length≤64
 ti:x.Time=m.clock
 lo:x.Low=m.floor
theorem Rel.new (c:Qb):Rel (newS c) ⟨c,[],[],0,0⟩ :=
 ⟨rfl,rfl,fun i h=>by simp at h,fun k w h=>by simp [newS] at h,fun i h=>by simp at h,fun t=>by simp [newS],List.Pairwise.nil,fun y=>by simp [newS],fun y h=>(by cases h),fun y h=>(by cases h),rfl,rfl⟩
section
variable {n:Nat} {m:Mod} {x:RM}
theorem Rel.tlen (R:Rel m x):x.T.length=m.txs.length:=by rw [← R.t,List.length_map]
theorem Rel.tx (R:Rel m x) {i:Nat} (h:i<x.T.length):rd m.txs (i:Int)=⟨x.T[i].State,x.T[i].Snapshot⟩:=by
 rw [rdN (by rw [← R.tlen];exact h)];have:=R.t;simp only [← this,List.getElem_map]
theorem QCM (a:Str):¬ ltS a a=true:=by have:=UT.irrefl a;simpa using this
theorem QAT {a b:Str} (h:ltS a b=true):a≠b:=fun e=>QCM a (by rw [e] at h ⊢;exact h)
theorem Rel.nodupK (R:Rel m x):(x.L.map (·.Key)).Nodup:=by
 have h:(x.L.map (·.Key)).Pairwise (fun a b=>ltS a b=true):=List.pairwise_map.2 R.so;exact h.imp fun h=>QAT h
theorem Rel.keys (R:Rel m x) (I:Inv n m):keysS m=x.L.map (·.Key):=by
 refine JR UB ?_ (V5 UT _) ?_
 ·refine (List.perm_ext_iff_of_nodup ((Vu _).nodup_iff.2 I.nd) R.nodupK).2 fun y=>?_;rw [show y∈isort ltS (m.rows.map fun p=>p.1)↔y∈m.rows.map (·.1) from QAu];simp only [List.mem_map]
  constructor
  ·rintro ⟨p,hp,rfl⟩;exact ⟨keyOf p,(R.me _).2 ⟨p,hp,rfl⟩,rfl⟩
  ·rintro ⟨k,hk,rfl⟩;obtain ⟨p,hp,rfl⟩:=(R.me _).1 hk;exact ⟨p,hp,rfl⟩
 ·refine List.pairwise_map.2 (R.so.imp fun {a b} h=>?_);have:=UT.asymmA h;simp [this]
theorem Rel.llen (R:Rel m x) (I:Inv n m):x.L.length=m.rows.length:=by
 have:=R.keys I;rw [← UL,this,List.length_map]
theorem Rel.at_ (R:Rel m x) (I:Inv n m) {y:RK} (h:y∈x.L):y=keyOf (y.Key,rowOf m y.Key):=by
 obtain ⟨p,hp,rfl⟩:=(R.me y).1 h;have:rowOf m p.1=p.2:=by unfold rowOf;rw [QBP I.nd hp];rfl
 show keyOf p=keyOf (p.1,rowOf m p.1);rw [this]
theorem Rel.none_ (R:Rel m x) {key:Str} (h:∀ y∈x.L,y.Key≠key):rowOf m key=QAS:=by
 unfold rowOf
 cases hm:mget m.rows key with
 | none=>rfl
 | some r=>exact absurd rfl (h (keyOf (key,r)) ((R.me _).2 ⟨_,J4 hm,rfl⟩))
def fT (t n:Int):List RT→Nat→Int×Int×Int
 | [],_=>(0,0,0)
 | z::r,i=>if z.Task=t∧z.N=n then ((i:Int)+1,z.State,z.Snapshot) else fT t n r (i+1)
theorem rTx_l0 (x:RM) (hl:x.T.length≤1000000) (t n:Int):∀ (j i:Nat),i+j=x.T.length→∃ v,(∀ k,j<k→ZQ x t n k (i:Int)=some v)∧Sum.elim (fun r'=>some r') (fun _=>some ((0:Int),(0:Int),(0:Int))) v=some (fT t n (x.T.drop i) i):=by
 intro j
 induction j with
 | zero =>
  intro i hi;refine ⟨.inr (),fun k hk=>?_,by rw [List.drop_of_length_le (by omega)];rfl⟩;obtain ⟨k,rfl⟩:∃ q,k=q+1:=⟨k-1,by omega⟩;rw [ZQ.eq_2,if_neg (by simp;omega)]
 | succ j ih =>
  intro i hi;have hlt:i<x.T.length:=by omega
  obtain ⟨v,B,E⟩:=ih (i+1) (by omega)
  have go:∀ k,ZQ x t n (k+1) (i:Int)=if x.T[i].Task=t∧x.T[i].N=n then some (.inl ((i:Int)+1,x.T[i].State,x.T[i].Snapshot)) else ZQ x t n k ((i+1:Nat):Int):=fun k=>by
   rw [ZQ.eq_2,if_pos (by simpa using hlt),if_pos (inR hlt),if_pos (inR hlt),if_pos (inR hlt),if_pos (inR hlt),rdN hlt,wr1 (by omega)]
   by_cases c:x.T[i].Task=t
   ·by_cases d:x.T[i].N=n
    ·simp [c,d]
    ·simp [c,d]
   ·simp [c]
  rw [List.drop_eq_getElem_cons hlt,fT]
  by_cases c:x.T[i].Task=t∧x.T[i].N=n
  ·refine ⟨.inl ((i:Int)+1,x.T[i].State,x.T[i].Snapshot),fun k hk=>?_,by rw [if_pos c];rfl⟩;obtain ⟨k,rfl⟩:∃ q,k=q+1:=⟨k-1,by omega⟩;rw [go,if_pos c]
  ·refine ⟨v,fun k hk=>?_,by rw [if_neg c];exact E⟩;obtain ⟨k,rfl⟩:∃ q,k=q+1:=⟨k-1,by omega⟩;rw [go,if_neg c];exact B k (by omega)
theorem QAX (t n:Int):∀ (l:List RT) (o:Nat),(∃ (i:Nat) (h:i<l.length),l[i].Task=t∧l[i].N=n∧fT t n l o=(((o+i:Nat):Int)+1,l[i].State,l[i].Snapshot))∨((∀ (i:Nat) (h:i<l.length),¬ (l[i].Task=t∧l[i].N=n))∧fT t n l o=(0,0,0))
 | [],o=>.inr ⟨fun i h=>by simp at h,rfl⟩
 | z::r,o=>by
  unfold fT
  by_cases c:z.Task=t∧z.N=n
  ·rw [if_pos c];exact .inl ⟨0,by simp,c.1,c.2,rfl⟩
  ·rw [if_neg c];rcases QAX t n r (o+1) with ⟨i,h,B,E,G⟩ | ⟨B,E⟩
   ·exact .inl ⟨i+1,by simpa using h,B,E,by rw [G];simp only [List.getElem_cons_succ,show o+1+i=o+(i+1) by omega]⟩
   ·refine .inr ⟨fun i h=>?_,E⟩
    cases i with
    | zero=>exact c
    | succ i=>exact B i (by simpa using h)
theorem Rel.find (R:Rel m x) (t n:Int):fT t n x.T 0=txS m t n:=by
 unfold txS;rcases QAX t n x.T 0 with ⟨i,h,B,E,G⟩ | ⟨B,E⟩
 ·have:=R.n1 i h;rw [B,E] at this;rw [this,G];show _=((i:Int)+1,(rd m.txs ((i:Int)+1-1)).state,(rd m.txs ((i:Int)+1-1)).snapshot);rw [show (i:Int)+1-1=(i:Int) by omega,R.tx h,Nat.zero_add]
 ·rw [E]
  cases hm:mget m.names ⟨t,n⟩ with
  | none=>rfl
  | some w =>
   obtain ⟨i,h,_,G,H⟩:=R.n2 _ _ hm;exact absurd ⟨G,H⟩ (B i h)
theorem Rel.tx_ev (R:Rel m x) (I:Inv n m) (hn:n≤1000000) (t c:Int):Ev (fun k=>Za k x t c) (txS m t c):=by
 have hl:x.T.length≤1000000:=by have:=R.tlen;have:=I.tl;omega
 obtain ⟨v,E,B⟩:=rTx_l0 x hl t c x.T.length 0 (by omega);rw [List.drop_zero,R.find] at B;refine ⟨x.T.length+1,fun k hk=>?_⟩;have h0:ZQ x t c k (0:Int)=some v:=E k (by omega);show Za k x t c=_;unfold Za;rw [h0,Option.bind_some];exact B
theorem Rel.ref_ev (R:Rel m x) (I:Inv n m) (hn:n≤1000000) (t:Int) (c:QZ):Ev (fun k=>Zi k x t c) (refS m t c):=by
 obtain ⟨K,hK⟩:=R.tx_ev I hn t c.Tx;refine ⟨K,fun k hk=>?_⟩;have hT:Za k x t c.Tx=some (txS m t c.Tx):=hK k hk;show Zi k x t c=_;simp only [Zi,hT,R.c,QCh,QA8,QBA,Option.bind_some,refS];generalize txS m t c.Tx=T
 by_cases B:t<0∨t≥m.c.Tasks∨c.Kind<1∨c.Kind>9
 ·rw [if_pos B,if_pos];simp only [Bool.or_eq_true,decide_eq_true_eq];rcases B with h | h | h | h<;>simp [h]
 rw [if_neg B]
 by_cases E:c.Kind=9∧c.Engine≠1∧c.Engine≠2
 ·rw [if_pos E,if_pos];simp [E]
 rw [if_neg E,if_neg (by
  simp only [Bool.or_eq_true,decide_eq_true_eq,Bool.and_eq_true,beq_iff_eq,bne_iff_ne,ne_eq,and_assoc];simp only [or_assoc];rintro (h | h | h | h | h)
  ·exact B (.inl h)
  ·exact B (.inr (.inl h))
  ·exact B (.inr (.inr (.inl h)))
  ·exact B (.inr (.inr (.inr h)))
  ·exact E h)]
 have hk:c.Kind=1∨c.Kind=2∨c.Kind=3∨c.Kind=4∨c.Kind=5∨c.Kind=6∨c.Kind=7∨c.Kind=8∨c.Kind=9:=by omega
 by_cases G:T.2.1=1
 ·rcases hk with h | h | h | h | h | h | h | h | h<;>simp [h,G,needsB,fitsB]
  ·cases keyB m.c c.Key<;>simp
  ·cases keyB m.c c.Key<;>cases valB m.c c.Value<;>simp
  ·cases keyB m.c c.Key<;>simp
  ·cases bndB m.c c.Key<;>cases bndB m.c c.End<;>by_cases O:c.Limit<0<;>by_cases U:c.Limit>128<;>simp [O,U]<;>omega
 ·by_cases H:T.2.1=0
  ·rcases hk with h | h | h | h | h | h | h | h | h<;>simp [h,H,needsB,fitsB]
  ·rcases hk with h | h | h | h | h | h | h | h | h<;>simp [h,H,G,needsB,fitsB]
theorem qv (x:RM) (hl:x.T.length≤1000000):∀ (j i s:Nat),i+j=x.T.length→s≤i→∀ k,j<k→ZO x k (s:Int) (i:Int)=some ((s+((x.T.drop i).filter fun z=>decide (z.State=1)).length:Nat):Int):=by
 intro j
 induction j with
 | zero =>
  intro i s hi hs k hk;obtain ⟨k,rfl⟩:∃ q,k=q+1:=⟨k-1,by omega⟩;rw [ZO.eq_2,if_neg (by simp;omega),List.drop_of_length_le (by omega)];rfl
 | succ j ih =>
  intro i s hi hs k hk;obtain ⟨k,rfl⟩:∃ q,k=q+1:=⟨k-1,by omega⟩;have hlt:i<x.T.length:=by omega
  rw [ZO.eq_2,if_pos (by simpa using hlt),if_pos (inR hlt),rdN hlt,wr1 (i:=i) (by omega),List.drop_eq_getElem_cons hlt]
  by_cases c:x.T[i].State=1
  ·rw [if_pos (by simpa using c),Option.bind_some,Option.bind_some,wr1 (i:=s) (by omega),ih (i+1) (s+1) (by omega) (by omega) k (by omega),List.filter_cons_of_pos (by simpa using c),List.length_cons]
   congr 2;omega
  ·rw [if_neg (by simpa using c),Option.bind_some,Option.bind_some,ih (i+1) s (by omega) (by omega) k (by omega),List.filter_cons_of_neg (by simpa using c)]
theorem Rel.act_ev (R:Rel m x) (I:Inv n m) (hn:n≤1000000):Ev (fun k=>Zp k x) (activeN m:Int):=by
 have hl:x.T.length≤1000000:=by have:=R.tlen;have:=I.tl;omega
 refine ⟨x.T.length+1,fun k hk=>?_⟩;have h:ZO x k (0:Int) (0:Int)=_:=qv x hl x.T.length 0 0 (by omega) (by omega) k (by omega);show Zp k x=_;unfold Zp;rw [h,Option.bind_some,List.drop_zero,Nat.zero_add];unfold activeN;rw [← R.t,List.filter_map,List.length_map];rfl
theorem QBM (x:RM) (hl:x.T.length≤1000000) (t:Int):∀ (j i s:Nat),i+j=x.T.length→s≤i+1→∀ k,j<k→ZS x t k (s:Int) (i:Int)=some ((s+((x.T.drop i).filter fun z=>decide (z.Task=t)).length:Nat):Int):=by
 intro j
 induction j with
 | zero =>
  intro i s hi hs k hk;obtain ⟨k,rfl⟩:∃ q,k=q+1:=⟨k-1,by omega⟩;rw [ZS.eq_2,if_neg (by simp;omega),List.drop_of_length_le (by omega)];rfl
 | succ j ih =>
  intro i s hi hs k hk;obtain ⟨k,rfl⟩:∃ q,k=q+1:=⟨k-1,by omega⟩;have hlt:i<x.T.length:=by omega
  rw [ZS.eq_2,if_pos (by simpa using hlt),if_pos (inR hlt),rdN hlt,wr1 (i:=i) (by omega),List.drop_eq_getElem_cons hlt]
  by_cases c:x.T[i].Task=t
  ·rw [if_pos (by simpa using c),Option.bind_some,Option.bind_some,wr1 (i:=s) (by omega),ih (i+1) (s+1) (by omega) (by omega) k (by omega),List.filter_cons_of_pos (by simpa using c),List.length_cons]
   congr 2;omega
  ·rw [if_neg (by simpa using c),Option.bind_some,Option.bind_some,ih (i+1) s (by omega) (by omega) k (by omega),List.filter_cons_of_neg (by simpa using c)]
theorem Rel.many_ev (R:Rel m x) (I:Inv n m) (hn:n≤1000000) (t:Int):Ev (fun k=>ZS x t k (1:Int) (0:Int)) ((mget m.many t).getD 0+1):=by
 have hl:x.T.length≤1000000:=by have:=R.tlen;have:=I.tl;omega
 refine ⟨x.T.length+1,fun k hk=>?_⟩;have h:ZS x t k (1:Int) (0:Int)=_:=QBM x hl t x.T.length 0 1 (by omega) (by omega) k (by omega);show ZS x t k (1:Int) (0:Int)=_;rw [h,List.drop_zero,R.mn]
 congr 1;omega
theorem rOf_l0 (x:RM) (hl:x.L.length≤1000000) (key:Str):∀ (j i:Nat),i+j=x.L.length→∃ v,(∀ k,j<k→ZP x key k (i:Int)=some v) ∧
  ((∃ y∈x.L.drop i,y.Key=key∧v=.inl y)∨(v=.inr ()∧∀ y∈x.L.drop i,y.Key≠key)):=by
 intro j
 induction j with
 | zero =>
  intro i hi;refine ⟨.inr (),fun k hk=>?_,.inr ⟨rfl,fun y hy=>by rw [List.drop_of_length_le (by omega)] at hy;cases hy⟩⟩;obtain ⟨k,rfl⟩:∃ q,k=q+1:=⟨k-1,by omega⟩;rw [ZP.eq_2,if_neg (by simp;omega)]
 | succ j ih =>
  intro i hi;have hlt:i<x.L.length:=by omega
  obtain ⟨v,G,H⟩:=ih (i+1) (by omega)
  have go:∀ k,ZP x key (k+1) (i:Int)=if x.L[i].Key=key then some (.inl x.L[i]) else ZP x key k ((i+1:Nat):Int):=fun k=>by
   rw [ZP.eq_2,if_pos (by simpa using hlt),if_pos (inR hlt),if_pos (inR hlt),rdN hlt,wr1 (by omega)]
   by_cases c:x.L[i].Key=key<;>simp [c,sbin]
  rw [List.drop_eq_getElem_cons hlt]
  by_cases c:x.L[i].Key=key
  ·refine ⟨.inl x.L[i],fun k hk=>?_,.inl ⟨_,List.mem_cons_self,c,rfl⟩⟩;obtain ⟨k,rfl⟩:∃ q,k=q+1:=⟨k-1,by omega⟩;rw [go,if_pos c]
  ·refine ⟨v,fun k hk=>?_,?_⟩
   ·obtain ⟨k,rfl⟩:∃ q,k=q+1:=⟨k-1,by omega⟩;rw [go,if_neg c];exact G k (by omega)
   ·rcases H with ⟨y,hy,B,E⟩ | ⟨B,E⟩
    ·exact .inl ⟨y,List.mem_cons_of_mem _ hy,B,E⟩
    ·refine .inr ⟨B,fun y hy=>?_⟩;rcases List.mem_cons.1 hy with rfl | hy
     ·exact c
     ·exact E y hy
theorem Rel.of_ev (R:Rel m x) (I:Inv n m) (hn:n≤1000000) (key:Str):Ev (fun k=>Zh k x key) (keyOf (key,rowOf m key)):=by
 have hl:x.L.length≤1000000:=by have:=R.llen I;have:=I.rl;omega
 obtain ⟨v,E,B⟩:=rOf_l0 x hl key x.L.length 0 (by omega);rw [List.drop_zero] at B;refine ⟨x.L.length+1,fun k hk=>?_⟩;have h0:ZP x key k (0:Int)=some v:=E k (by omega);show Zh k x key=_;unfold Zh;rw [h0,Option.bind_some];rcases B with ⟨y,hy,G,rfl⟩ | ⟨rfl,H⟩
 ·show some y=_;have:=R.at_ I hy;rw [G] at this;rw [← this]
 ·rw [R.none_ H];show some _=some _;simp [keyOf]
theorem Rel.see_ev (R:Rel m x) (I:Inv n m) (hn:n≤1000000) {w:Int} (B:1≤w) (E:w≤(m.txs.length:Int)) (p:Str×Qm) (hp:p.2.l.length≤1000000):Ev (fun k=>Q4 k x w (keyOf p)) (seeS m w p.2):=by
 have G:=I.tl;have H:=R.tlen;refine ⟨p.2.l.length+1,fun k hk=>?_⟩;show Q4 k x w (keyOf p)=_;obtain ⟨i,hi⟩:=Int.eq_ofNat_of_zero_le (show 0≤w-1 by omega);have hlt:i<x.T.length:=by omega
 unfold Q4 seeS;rw [wr (x:=w-1) (by omega) (by omega),hi,R.tx hlt,rdN hlt]
 by_cases h:p.2.intent.Writer=w
 ·have h0:p.2.intent.Writer≠0:=by omega
  rw [if_pos h,if_pos (by simp [keyOf,h];omega)];rfl
 ·rw [if_neg h,if_neg (by simp [keyOf,h]),if_pos ⟨by omega,by omega⟩];rw [show XI k (keyOf p).L x.T[i].Snapshot=some (seen p.2.l x.T[i].Snapshot) from qJ p.2.l _ k hp (by omega)]
  rfl
end
def setF (K:RK):List RK→List RK→Bool→List RK×Bool
 | [],out,d=>(out,d)
 | y::r,out,d=>setF K r ((if cfS y.Key K.Key≥0∧d=false then out++[K] else out)++if cfS y.Key K.Key≠0 then [y] else []) (d||decide (cfS y.Key K.Key≥0))
theorem QCF (x:RM) (K:RK) (hl:x.L.length≤1000000) (hk:∀ y∈x.L,y.Key.length≤64):∀ (j i:Nat) (out:List RK) (d:Bool),i+j=x.L.length→out.length≤2*i→∀ k,j+64<k→Zd x K k out d (i:Int)=some (setF K (x.L.drop i) out d):=by
 intro j
 induction j with
 | zero =>
  intro i out d hi ho k hk';obtain ⟨k,rfl⟩:∃ q,k=q+1:=⟨k-1,by omega⟩;rw [Zd.eq_2,if_neg (by simp;omega),List.drop_of_length_le (by omega)];rfl
 | succ j ih =>
  intro i out d hi ho k hk';obtain ⟨k,rfl⟩:∃ q,k=q+1:=⟨k-1,by omega⟩;have hlt:i<x.L.length:=by omega
  have hy:=hk _ (List.getElem_mem hlt);rw [Zd.eq_2,if_pos (by simpa using hlt),if_pos (inR hlt),rdN hlt,U5 k _ _ (by omega) (by omega),Option.bind_some,wr1 (by omega),List.drop_eq_getElem_cons hlt,setF]
  by_cases c:cfS x.L[i].Key K.Key≥0∧d=false
  ·rw [if_pos (by simpa using c),if_pos (by simp;omega),Option.bind_some,if_pos c];dsimp only
   by_cases B:cfS x.L[i].Key K.Key=0
   ·rw [if_neg (by simpa using B),Option.bind_some,Option.bind_some,if_neg (by simpa using B),List.append_nil];dsimp only;rw [ih (i+1) _ _ (by omega) (by simp;omega) k (by omega)];simp [c.1,c.2]
   ·rw [if_pos (by simpa using B),if_pos (inR hlt),if_pos (by simp;omega),Option.bind_some,Option.bind_some,if_pos B];dsimp only;rw [ih (i+1) _ _ (by omega) (by simp;omega) k (by omega)];simp [c.1,c.2]
  ·rw [if_neg (by simpa using c),Option.bind_some,if_neg c];dsimp only
   have ed:(d||decide (cfS x.L[i].Key K.Key≥0))=d:=by
    cases d
    ·have:¬ cfS x.L[i].Key K.Key≥0:=fun h=>c ⟨h,rfl⟩;simp [this]
    ·rfl
   rw [ed]
   by_cases B:cfS x.L[i].Key K.Key=0
   ·rw [if_neg (by simpa using B),Option.bind_some,Option.bind_some,if_neg (by simpa using B),List.append_nil];exact ih (i+1) _ _ (by omega) (by dsimp only;omega) k (by omega)
   ·rw [if_pos (by simpa using B),if_pos (inR hlt),if_pos (by simp;omega),Option.bind_some,Option.bind_some,if_pos B];exact ih (i+1) _ _ (by omega) (by dsimp only;simp;omega) k (by omega)
def setV (K:RK) (L:List RK):List RK:=if (setF K L [] (goneK K)).2=false then (setF K L [] (goneK K)).1++[K] else (setF K L [] (goneK K)).1
theorem qD (K:RK):∀ (L out:List RK) (d:Bool),(setF K L out d).1.length≤out.length+2*L.length
 | [],out,d=>by simp [setF]
 | y::r,out,d=>by
  unfold setF;refine Nat.le_trans (qD K r _ _) ?_;rw [List.length_append,List.length_cons]
  split<;>split<;>simp<;>omega
theorem Kt (x:RM) (K:RK) (hl:x.L.length≤1000000) (hk:∀ y∈x.L,y.Key.length≤64) (k:Nat) (h:x.L.length+64<k):Qs k x K=some ⟨x.C,x.T,setV K x.L,x.Time,x.Low⟩:=by
 have h0:Zd x K k [] (goneK K) (0:Int)=some (setF K x.L [] (goneK K)):=QCF x K hl hk x.L.length 0 [] _ (by omega) (by simp) k h;have hlen:=qD K x.L [] (goneK K);unfold goneK at h0 hlen;unfold Qs setV goneK;rw [h0,Option.bind_some];generalize setF K x.L [] (((K.L.length:Int)==(0:Int))&&!K.Has)=r at *;obtain ⟨out,d⟩:=r;dsimp only at hlen ⊢
 cases d
 ·rw [if_pos (show false=false from rfl),if_pos (show (!false)=true from rfl),if_pos (by simp at hlen ⊢;omega),Option.bind_some]
 ·rfl
theorem set_eq (k:Nat) (x:RM) (K:RK):Qs k x K=Qs k x K:=by
 rfl
theorem QBb {a b:Str} (h:ltS a b=true):cfS b a>0:=by
 have B:ltS b a=false:=UT.asymmA h;have E:¬ cfS b a<0:=fun q=>by rw [QBR.2 q] at B;cases B
 have G:cfS b a≠0:=fun q=>QAT h (KH _ _ q).symm;omega
theorem Kl {K:RK}:∀ (a r out:List RK) (d:Bool),(∀ z∈a,ltS z.Key K.Key=true)→setF K (a++r) out d=setF K r (out++a) d
 | [],r,out,d,_=>by simp
 | z::a,r,out,d,h=>by
  have hz:=QBR.1 (h z List.mem_cons_self);have n1:¬ (cfS z.Key K.Key≥0∧d=false):=fun q=>by omega
  have n2:cfS z.Key K.Key≠0:=by omega
  have n3:¬ cfS z.Key K.Key≥0:=by omega
  rw [List.cons_append,setF,if_neg n1,if_pos n2];simp only [n3,decide_false,Bool.or_false];rw [Kl a r _ d fun y hy=>h y (List.mem_cons_of_mem _ hy)];simp
theorem Km {K:RK}:∀ (b out:List RK),(∀ z∈b,ltS K.Key z.Key=true)→setF K b out true=(out++b,true)
 | [],out,_=>by simp [setF]
 | z::b,out,h=>by
  have hz:=QBb (h z List.mem_cons_self);rw [setF,if_neg (by simp),if_pos (by omega),Bool.true_or,Km b _ fun y hy=>h y (List.mem_cons_of_mem _ hy)];simp
theorem QAN {K y:RK} (a b:List RK) (ha:∀ z∈a,ltS z.Key K.Key=true) (hy:y.Key=K.Key) (hb:∀ z∈b,ltS K.Key z.Key=true):setV K (a++y::b)=a++((if goneK K=true then [] else [K])++b):=by
 have h0:cfS y.Key K.Key=0:=by rw [hy];exact JI _
 unfold setV;rw [Kl a _ _ _ ha,setF];simp only [h0,ge_iff_le,Int.le_refl,decide_true,Bool.or_true,true_and,ne_eq,not_true_eq_false,if_false,List.append_nil,List.nil_append];rw [Km b _ hb]
 cases goneK K<;>simp
theorem QB8 {K:RK} (a b:List RK) (ha:∀ z∈a,ltS z.Key K.Key=true) (hb:∀ z∈b,ltS K.Key z.Key=true):setV K (a++b)=a++((if goneK K=true then [] else [K])++b):=by
 unfold setV;rw [Kl a _ _ _ ha]
 cases b with
 | nil=>cases goneK K<;>simp [setF]
 | cons z b =>
  have hz:=QBb (hb z List.mem_cons_self);have hb':∀ y∈b,ltS K.Key y.Key=true:=fun y hy=>hb y (List.mem_cons_of_mem _ hy);have n2:cfS z.Key K.Key≠0:=by omega
  have n3:cfS z.Key K.Key≥0:=by omega
  rw [setF];simp only [n3,n2,decide_true,Bool.or_true,true_and,ne_eq,not_false_eq_true,if_true,List.nil_append];rw [Km b _ hb']
  cases goneK K<;>simp
theorem qC (key:Str):∀ L:List RK,L.Pairwise (fun a b=>ltS a.Key b.Key=true)→∃ a b,(∀ z∈a,ltS z.Key key=true)∧(∀ z∈b,ltS key z.Key=true)∧(L=a++b∨∃ y,y.Key=key∧L=a++y::b)
 | [],_=>⟨[],[],fun _ h=>(by cases h),fun _ h=>(by cases h),.inl rfl⟩
 | y::L,h=>by
  have hp:=List.pairwise_cons.1 h
  by_cases c:ltS y.Key key=true
  ·obtain ⟨a,b,B,E,G⟩:=qC key L hp.2;refine ⟨y::a,b,fun z hz=>?_,E,?_⟩
   ·rcases List.mem_cons.1 hz with rfl | hz
    ·exact c
    ·exact B z hz
   ·rcases G with rfl | ⟨w,hw,rfl⟩
    ·exact .inl rfl
    ·exact .inr ⟨w,hw,rfl⟩
  ·by_cases d:ltS key y.Key=true
   ·refine ⟨[],y::L,fun _ h=>(by cases h),fun z hz=>?_,.inl rfl⟩;rcases List.mem_cons.1 hz with rfl | hz
    ·exact d
    ·exact Uw _ _ _ d (hp.1 z hz)
   ·have e:y.Key=key:=UB _ _ (by simpa using c) (by simpa using d);exact ⟨[],L,fun _ h=>(by cases h),fun z hz=>by rw [← e];exact hp.1 z hz,.inr ⟨y,e,rfl⟩⟩
section
variable {n:Nat} {m:Mod} {x:RM}
theorem Rel.put (R:Rel m x) (I:Inv n m) {key:Str} {r:Qm} (hg:gone r=false) (hk:key.length≤64):Rel { m with rows:=mput m.rows key r } ⟨x.C,x.T,setV (keyOf (key,r)) x.L,x.Time,x.Low⟩:=by
 have hgK:goneK (keyOf (key,r))=false:=by rw [KB];exact hg
 obtain ⟨a,b,ha,hb,hL⟩:=qC key x.L R.so
 have hV:setV (keyOf (key,r)) x.L=a++keyOf (key,r)::b:=by
  rcases hL with h | ⟨y,hy,h⟩
  ·rw [h,QB8 a b ha hb,hgK];rfl
  ·rw [h,QAN a b ha hy hb,hgK];rfl
 have hsub:∀ z,z∈a∨z∈b↔z∈x.L∧z.Key≠key:=fun z=>by
  constructor
  ·rintro (h | h)
   ·exact ⟨by rcases hL with e | ⟨y,_,e⟩<;>rw [e]<;>simp [h],QAT (ha z h)⟩
   ·exact ⟨by rcases hL with e | ⟨y,_,e⟩<;>rw [e]<;>simp [h],(QAT (hb z h)).symm⟩
  ·rintro ⟨h,hne⟩;rcases hL with e | ⟨y,hy,e⟩
   ·rw [e] at h;exact List.mem_append.1 h
   ·rw [e] at h;rcases List.mem_append.1 h with h | h
    ·exact .inl h
    ·rcases List.mem_cons.1 h with rfl | h
     ·exact absurd hy hne
     ·exact .inr h
 have hso:(a++b).Pairwise fun a b=>ltS a.Key b.Key=true:=by
  rcases hL with e | ⟨y,_,e⟩
  ·rw [← e];exact R.so
  ·have:=R.so;rw [e] at this;exact this.sublist (List.Sublist.append_left (List.sublist_cons_self y b) a)
 have hp:=List.pairwise_append.1 hso;refine ⟨R.c,R.t,R.n1,R.n2,R.n3,R.mn,?_,fun y=>?_,fun y hy=>?_,fun y hy=>?_,R.ti,R.lo⟩
 ·show (setV (keyOf (key,r)) x.L).Pairwise _;rw [hV];refine List.pairwise_append.2 ⟨hp.1,List.pairwise_cons.2 ⟨hb,hp.2.1⟩,fun u hu v hv=>?_⟩;rcases List.mem_cons.1 hv with rfl | hv
  ·exact ha u hu
  ·exact hp.2.2 u hu v hv
 ·show y∈setV (keyOf (key,r)) x.L↔∃ p∈mput m.rows key r,y=keyOf p;rw [hV]
  constructor
  ·intro h;rcases List.mem_append.1 h with h | h
   ·obtain ⟨B,E⟩:=(hsub y).1 (.inl h);obtain ⟨p,hp,rfl⟩:=(R.me y).1 B;exact ⟨p,(UE I.nd p).2 (.inr ⟨hp,E⟩),rfl⟩
   ·rcases List.mem_cons.1 h with rfl | h
    ·exact ⟨(key,r),(UE I.nd _).2 (.inl rfl),rfl⟩
    ·obtain ⟨B,E⟩:=(hsub y).1 (.inr h);obtain ⟨p,hp,rfl⟩:=(R.me y).1 B;exact ⟨p,(UE I.nd p).2 (.inr ⟨hp,E⟩),rfl⟩
  ·rintro ⟨p,hp,rfl⟩;rcases (UE I.nd p).1 hp with rfl | ⟨B,E⟩
   ·simp
   ·rcases (hsub (keyOf p)).2 ⟨(R.me _).2 ⟨p,B,rfl⟩,E⟩ with h | h<;>simp [h]
 ·have hy:y∈setV (keyOf (key,r)) x.L:=hy;rw [hV] at hy;rcases List.mem_append.1 hy with h | h
  ·exact R.go y ((hsub y).1 (.inl h)).1
  ·rcases List.mem_cons.1 h with rfl | h
   ·exact hgK
   ·exact R.go y ((hsub y).1 (.inr h)).1
 ·have hy:y∈setV (keyOf (key,r)) x.L:=hy;rw [hV] at hy;rcases List.mem_append.1 hy with h | h
  ·exact R.kl y ((hsub y).1 (.inl h)).1
  ·rcases List.mem_cons.1 h with rfl | h
   ·exact hk
   ·exact R.kl y ((hsub y).1 (.inr h)).1
theorem Rel.write_ev (R:Rel m x) (I:Inv n m) (hn:n≤1000000) {w:Int} (Y:1≤w) (Z:w≤(m.txs.length:Int)) (key val:Str) (tomb:Bool) (hk:key.length≤64):∃ x',Ev (fun k=>Zj k x w key val tomb) ((writeS m key ⟨w,0,tomb,val⟩).1,x')∧Rel (writeS m key ⟨w,0,tomb,val⟩).2 x':=by
 have h3:=I.tl;have h4:=R.tlen;have hr:=(I.row key).1;have hll:=R.llen I;have hrl:=I.rl;obtain ⟨i,hi⟩:=Int.eq_ofNat_of_zero_le (show 0≤w-1 by omega);have hlt:i<x.T.length:=by omega
 have hof:=R.of_ev I hn key;have hsee:=R.see_ev I hn Y Z (key,rowOf m key) (by show (rowOf m key).l.length≤1000000;omega);have hput:=fun hg=>R.put (key:=key) (r:=⟨(rowOf m key).l,⟨w,0,tomb,val⟩⟩) I hg hk;unfold Zj writeS;rw [wr (x:=w-1) (by omega) (by omega),hi,rdN hlt,R.tx hlt];dsimp only;generalize rowOf m key=r at *
 by_cases E:r.intent.Writer≠w∧r.intent.Writer≠0
 ·rw [if_pos (Or.inl E)];exact ⟨x,hof.bind (Ev.bind (v:=true) (Ev.pos (by simp [keyOf,E.1,E.2]) (Ev.pure _)) (Ev.pos rfl (Ev.pure _))),R⟩
 ·have B:Ev (fun k=>(if ((keyOf (key,r)).Has&&((keyOf (key,r)).I.Writer != w))=true then some (true) else (if 0≤(i:Int)∧(i:Int)<(x.T.length:Int) then (Option.bind (XY k (keyOf (key,r)).L (x.T[i].Snapshot)) (fun O=>some (O))) else none))) (clash r.l x.T[i].Snapshot):=by
   refine Ev.neg ?_ (Ev.chk ⟨by omega,by omega⟩ (Ev.bind ⟨0,fun k _=>QA9 r.l _ k⟩ (Ev.pure _)));simp only [keyOf,Bool.and_eq_true,decide_eq_true_eq,bne_iff_ne,ne_eq];exact fun q=>E ⟨q.2,q.1⟩
  cases U:clash r.l x.T[i].Snapshot with
  | true =>
   rw [U] at B;rw [if_pos (Or.inr rfl)];exact ⟨x,hof.bind (B.bind (Ev.pos rfl (Ev.pure _))),R⟩
  | false =>
   rw [U] at B
   rw [if_neg (by
    rintro (h | h)
    ·exact E h
    ·cases h)]
   by_cases G:tomb=true∧(seeS m w r).2=false
   ·rw [if_pos G];exact ⟨x,hof.bind (B.bind (Ev.neg (by simp) (hsee.bind (Ev.pos (by simp [G.1,G.2]) (Ev.pure _))))),R⟩
   ·rw [if_neg G]
    have n3:¬ (tomb&&!(seeS m w r).2)=true:=by
     simp only [Bool.and_eq_true,Bool.not_eq_true'];exact G
    by_cases H:r.intent.Writer=0∧(r.l=[]∧(m.rows.length:Int)≥m.c.Keys∨(r.l.length:Int)≥m.c.Depth)
    ·rw [if_pos H];refine ⟨x,hof.bind (B.bind (Ev.neg (by simp) (hsee.bind (Ev.neg n3 (Ev.pos ?_ (Ev.pure _)))))),R⟩;rw [R.c,hll];rcases H with ⟨c5,V | V⟩<;>simp [keyOf,c5,V]
    ·rw [if_neg H];have K:w≠0:=by omega
     have hset:=Kt x (keyOf (key,⟨r.l,⟨w,0,tomb,val⟩⟩)) (by omega) R.kl;have eK:(⟨key,r.l,true,⟨w,0,tomb,val⟩⟩:RK)=keyOf (key,⟨r.l,⟨w,0,tomb,val⟩⟩):=by simp [keyOf,K]
     refine ⟨⟨x.C,x.T,setV (keyOf (key,⟨r.l,⟨w,0,tomb,val⟩⟩)) x.L,x.Time,x.Low⟩,hof.bind (B.bind (Ev.neg (by simp) (hsee.bind (Ev.neg n3 (Ev.neg ?_ ?_))))),hput (by simp [gone,K])⟩
     ·rw [R.c,hll];intro q;simp only [keyOf,Bool.and_eq_true,Bool.or_eq_true,Bool.not_eq_true',decide_eq_false_iff_not,Decidable.not_not,beq_iff_eq,decide_eq_true_eq,ne_eq] at q;refine H ⟨q.1,?_⟩;rcases q.2 with ⟨W,q2⟩ | W
      ·exact .inl ⟨List.length_eq_zero_iff.1 (by omega),q2⟩
      ·exact .inr (by simpa using W)
     ·refine Ev.bind (v:=⟨x.C,x.T,setV (keyOf (key,⟨r.l,⟨w,0,tomb,val⟩⟩)) x.L,x.Time,x.Low⟩) ⟨x.L.length+65,fun k hk=>?_⟩ (Ev.pure _);show Qs k x (⟨key,r.l,true,⟨w,0,tomb,val⟩⟩:RK)=_;rw [eK];exact hset k (by omega)
end
def eachK (f:RK→RK) (L:List RK):List RK:=L.filterMap fun y=>if goneK (f y)=true then none else some (f y)
theorem Ub {f:RK→RK} {L:List RK} {z:RK}:z∈eachK f L↔∃ y∈L,goneK (f y)=false∧z=f y:=by
 simp only [eachK,List.mem_filterMap]
 constructor
 ·rintro ⟨y,hy,h⟩
  split at h
  ·cases h
  ·next g=>exact ⟨y,hy,by simpa using g,(Option.some.inj h).symm⟩
 ·rintro ⟨y,hy,B,E⟩;exact ⟨y,hy,by rw [if_neg (by simp [B]),E]⟩
theorem QA1 (f:RK→RK) (L:List RK):(eachK f L).length≤L.length:=List.length_filterMap_le _ _
theorem Kd (f:RK→RK) (L:List RK) (y:RK):eachK f (L++[y])=eachK f L++(if goneK (f y)=true then [] else [f y]):=by
 unfold eachK;rw [List.filterMap_append]
 cases h:goneK (f y)<;>simp [h]
theorem QBn {L:List RK} {i:Nat} (h:i<L.length):L=L.take i++L[i]::L.drop (i+1):=by
 rw [← List.drop_eq_getElem_cons h,List.take_append_drop]
theorem KU {f:RK→RK} (hf:∀ y,(f y).Key=y.Key) {L:List RK} (hso:L.Pairwise fun a b=>ltS a.Key b.Key=true) {i:Nat} (h:i<L.length) :
  setV (f L[i]) (eachK f (L.take i)++L[i]::L.drop (i+1))=eachK f (L.take (i+1))++L.drop (i+1):=by
 have hs:=hso;rw [QBn h] at hs;have hp:=List.pairwise_append.1 hs;have hq:=List.pairwise_cons.1 hp.2.1;rw [QAN _ _ (fun z hz=>?_) (hf _).symm (fun z hz=>?_),List.take_succ_eq_append_getElem h,Kd,List.append_assoc]
 ·obtain ⟨y,hy,_,rfl⟩:=Ub.1 hz;rw [hf,hf];exact hp.2.2 y hy _ List.mem_cons_self
 ·rw [hf];exact hq.1 z hz
theorem QCV (f:RK→RK) {L:List RK} {i:Nat} (h:i<L.length) (B:f L[i]=L[i]) (hg:goneK L[i]=false):eachK f (L.take i)++L.drop i=eachK f (L.take (i+1))++L.drop (i+1):=by
 rw [List.take_succ_eq_append_getElem h,Kd,B,hg,List.drop_eq_getElem_cons h];simp
theorem QAZ {f:RK→RK} (hf:∀ y,(f y).Key=y.Key) {L:List RK} (hk:∀ y∈L,y.Key.length≤64) (i:Nat):∀ y∈eachK f (L.take i)++L.drop i,y.Key.length≤64:=fun y hy=>by
 rcases List.mem_append.1 hy with h | h
 ·obtain ⟨z,hz,_,rfl⟩:=Ub.1 h;rw [hf];exact hk z (List.mem_of_mem_take hz)
 ·exact hk y (List.mem_of_mem_drop h)
theorem QAY (f:RK→RK) (L:List RK) (i:Nat):(eachK f (L.take i)++L.drop i).length≤L.length:=by
 have:=QA1 f (L.take i);rw [List.length_append,List.length_drop];rw [List.length_take] at this;omega
section
variable {n:Nat} {m:Mod} {x:RM}
theorem Rel.each (R:Rel m x) {one:Qm→Qm} {f:RK→RK} (hf:∀ y,(f y).Key=y.Key) (ho:∀ p∈m.rows,f (keyOf p)=keyOf (p.1,one p.2)) :
  (eachK f x.L).Pairwise (fun a b=>ltS a.Key b.Key=true)∧(∀ y,y∈eachK f x.L↔∃ p∈eachS one m.rows,y=keyOf p)∧(∀ y∈eachK f x.L,goneK y=false)∧(∀ y∈eachK f x.L,y.Key.length≤64):=by
 refine ⟨?_,fun y=>?_,fun y hy=>?_,fun y hy=>?_⟩
 ·unfold eachK;refine List.pairwise_filterMap.2 (R.so.imp fun {a b} h u hu v hv=>?_)
  split at hu
  ·cases hu
  split at hv
  ·cases hv
  cases hu;cases hv
  rw [hf,hf];exact h
 ·rw [Ub]
  constructor
  ·rintro ⟨z,hz,B,rfl⟩;obtain ⟨p,hp,rfl⟩:=(R.me z).1 hz;rw [ho p hp] at B ⊢;exact ⟨(p.1,one p.2),Uy.2 ⟨p,hp,by rw [KB] at B;exact B,rfl⟩,rfl⟩
  ·rintro ⟨q,hq,rfl⟩;obtain ⟨p,hp,B,rfl⟩:=Uy.1 hq;exact ⟨keyOf p,(R.me _).2 ⟨p,hp,rfl⟩,by rw [ho p hp,KB];exact B,(ho p hp).symm⟩
 ·obtain ⟨z,_,B,rfl⟩:=Ub.1 hy;exact B
 ·obtain ⟨z,hz,_,rfl⟩:=Ub.1 hy;rw [hf];exact R.kl z hz
def endK (w ts:Int) (y:RK):RK:=if y.Has=true∧y.I.Writer=w then ⟨y.Key,if ts>0 then ⟨y.I.Writer,ts,y.I.Tomb,y.I.Value⟩::y.L else y.L,false,⟨0,0,false,[]⟩⟩ else y
theorem KF (w ts:Int) (y:RK):(endK w ts y).Key=y.Key:=by unfold endK;split<;>rfl
theorem QCT {w:Int} (hw:1≤w) (ts:Int) (p:Str×Qm):endK w ts (keyOf p)=keyOf (p.1,endRow w ts p.2):=by
 by_cases h:p.2.intent.Writer=w
 ·have h0:p.2.intent.Writer≠0:=by omega
  have e:endRow w ts p.2=⟨if ts>0 then ⟨p.2.intent.Writer,ts,p.2.intent.Tomb,p.2.intent.Value⟩::p.2.l else p.2.l,⟨0,0,false,[]⟩⟩:=by unfold endRow;rw [if_neg (by simpa using h)]
  unfold endK;rw [if_pos ⟨by simp [keyOf,h0],h⟩,e];simp [keyOf]
 ·have e:endRow w ts p.2=p.2:=by unfold endRow;rw [if_pos h]
  unfold endK;rw [if_neg (fun q=>h q.2),e]
theorem QCI (x:RM) (hso:x.L.Pairwise fun a b=>ltS a.Key b.Key=true) (hgo:∀ y∈x.L,goneK y=false) (hkl:∀ y∈x.L,y.Key.length≤64) (hl:x.L.length≤1000000) (hL:∀ y∈x.L,y.L.length≤1000000) (w ts:Int):∀ (j i:Nat) (xc:RM),i+j=x.L.length→xc.L=eachK (endK w ts) (x.L.take i)++x.L.drop i→∀ k,j+(x.L.length+65)<k→Ze x w ts k (i:Int) xc=some ⟨xc.C,xc.T,eachK (endK w ts) x.L,xc.Time,xc.Low⟩:=by
 intro j
 induction j with
 | zero =>
  intro i xc hi hx k hk;obtain ⟨k,rfl⟩:∃ q,k=q+1:=⟨k-1,by omega⟩;rw [List.take_of_length_le (by omega),List.drop_of_length_le (by omega),List.append_nil] at hx;rw [Ze.eq_2,if_neg (by simp;omega),← hx]
 | succ j ih =>
  intro i xc hi hx k hk;obtain ⟨k,rfl⟩:∃ q,k=q+1:=⟨k-1,by omega⟩;have hlt:i<x.L.length:=by omega
  have hm:=List.getElem_mem hlt;have hy:=hL _ hm;rw [Ze.eq_2,if_pos (by simpa using hlt),if_pos (inR hlt),rdN hlt,wr1 (by omega)]
  by_cases c:x.L[i].Has=true∧x.L[i].I.Writer=w
  ·have e:endK w ts x.L[i]=⟨x.L[i].Key,if ts>0 then ⟨x.L[i].I.Writer,ts,x.L[i].I.Tomb,x.L[i].I.Value⟩::x.L[i].L else x.L[i].L,false,⟨0,0,false,[]⟩⟩:=by unfold endK;rw [if_pos c]
   have hset:Qs k xc (endK w ts x.L[i])=some ⟨xc.C,xc.T,setV (endK w ts x.L[i]) xc.L,xc.Time,xc.Low⟩:=by
    rw [set_eq];have:=QAY (endK w ts) x.L i;exact Kt xc _ (by rw [hx];omega) (by rw [hx];exact QAZ (KF w ts) hkl i) k (by rw [hx];omega)
   rw [hx,List.drop_eq_getElem_cons hlt,KU (KF w ts) hso hlt,e] at hset;rw [if_neg (by simp [c.1,c.2])]
   have key:∀ xs v,(xs,v)=(if ts>0 then (⟨x.L[i].I.Writer,ts,x.L[i].I.Tomb,x.L[i].I.Value⟩::x.L[i].L,ts) else (x.L[i].L,x.L[i].I.TS))→xs=if ts>0 then ⟨x.L[i].I.Writer,ts,x.L[i].I.Tomb,x.L[i].I.Value⟩::x.L[i].L else x.L[i].L:=fun xs v h=>by
    split at h<;>cases h<;>simp_all
   by_cases ht:ts>0
   ·rw [if_pos (by simpa using ht),if_pos (by simp;omega),Option.bind_some];rw [if_pos ht] at hset;simp only [List.cons_append,List.nil_append,hset,Option.bind_some];exact ih (i+1) ⟨xc.C,xc.T,eachK (endK w ts) (x.L.take (i+1))++x.L.drop (i+1),xc.Time,xc.Low⟩ (by omega) rfl k (by omega)
   ·rw [if_neg (by simpa using ht),Option.bind_some];rw [if_neg ht] at hset;simp only [hset,Option.bind_some];exact ih (i+1) ⟨xc.C,xc.T,eachK (endK w ts) (x.L.take (i+1))++x.L.drop (i+1),xc.Time,xc.Low⟩ (by omega) rfl k (by omega)
  ·have e:endK w ts x.L[i]=x.L[i]:=by unfold endK;rw [if_neg c]
   rw [if_pos (by
    simp only [Bool.or_eq_true,Bool.not_eq_true',bne_iff_ne,ne_eq]
    cases h:x.L[i].Has
    ·exact .inl rfl
    ·exact .inr fun q=>c ⟨h,q⟩),Option.bind_some]
   exact ih (i+1) xc (by omega) (by rw [hx,QCV _ hlt e (hgo _ hm)]) k (by omega)
theorem qb (t:Int):∀ (T:List RT) (i:Nat) (z:RT) (h:i<T.length),z.Task=T[i].Task→((T.set i z).filter fun z=>decide (z.Task=t)).length=(T.filter fun z=>decide (z.Task=t)).length
 | [],i,z,h,_=>by simp at h
 | y::T,0,z,h,e=>by
  have e:z.Task=y.Task:=e;simp only [List.set_cons_zero,List.filter_cons,e]
  split<;>rfl
 | y::T,i+1,z,h,e=>by
  have ih:=qb t T i z (by simpa using h) (by simpa using e);simp only [List.set_cons_succ,List.filter_cons]
  split
  ·rw [List.length_cons,List.length_cons,ih]
  ·exact ih
theorem Rel.lens (R:Rel m x) (I:Inv n m) (hn:n≤1000000):∀ y∈x.L,y.L.length≤1000000:=fun y hy=>by
 obtain ⟨p,hp,rfl⟩:=(R.me y).1 hy;have:=I.vl p hp;show p.2.l.length≤_;omega
theorem Rel.end_ev (R:Rel m x) (I:Inv n m) (hn:n≤1000000) {w:Int} (G:1≤w) (h2:w≤(m.txs.length:Int)) (st ts:Int):∃ x',Ev (fun k=>Qz k x w st ts) x'∧Rel (endS m w st ts) x':=by
 have h3:=I.tl;have h4:=R.tlen;have hll:=R.llen I;have hrl:=I.rl;obtain ⟨i,hi⟩:=Int.eq_ofNat_of_zero_le (show 0≤w-1 by omega);have hlt:i<x.T.length:=by omega
 generalize hz:(⟨x.T[i].Task,x.T[i].N,st,x.T[i].Snapshot⟩:RT)=z;have zt:z.Task=x.T[i].Task:=by rw [← hz]
 have zn:z.N=x.T[i].N:=by rw [← hz]
 refine ⟨⟨x.C,x.T.set i z,eachK (endK w ts) x.L,x.Time,x.Low⟩,?_,?_⟩
 ·refine ⟨x.L.length+x.L.length+66,fun k hk=>?_⟩;show Qz k x w st ts=_;unfold Qz;rw [wr (x:=w-1) (by omega) (by omega),hi,List.nil_append,if_pos (by simp;omega),if_pos ⟨by omega,by omega⟩,rdN hlt,hz,Option.bind_some];have:=QCI x R.so R.go R.kl (by omega) (R.lens I hn) w ts x.L.length 0 ⟨x.C,x.T.set i z,x.L,x.Time,x.Low⟩ (by omega) (by simp [eachK]) k (by omega);have H:Ze x w ts k (0:Int) ⟨x.C,x.T.set i z,x.L,x.Time,x.Low⟩=some ⟨x.C,x.T.set i z,eachK (endK w ts) x.L,x.Time,x.Low⟩:=this;exact (congrArg (fun o=>Option.bind o fun B=>some B) H)
 ·obtain ⟨K,O,U,V⟩:=R.each (one:=endRow w ts) (f:=endK w ts) (KF w ts) (fun p _=>QCT G ts p)
  have gT:∀ (j:Nat) (h:j<(x.T.set i z).length),(x.T.set i z)[j].Task=(x.T[j]'(by simpa using h)).Task∧(x.T.set i z)[j].N=(x.T[j]'(by simpa using h)).N:=fun j h=>by
   rw [List.getElem_set]
   by_cases q:i=j
   ·subst q;rw [if_pos rfl];exact ⟨zt,zn⟩
   ·rw [if_neg q];exact ⟨rfl,rfl⟩
  refine ⟨R.c,?_,fun j h=>?_,fun k v hv=>?_,fun j h=>?_,fun t=>?_,K,O,U,V,R.ti,R.lo⟩
  ·show (x.T.set i z).map _=m.txs.set (w-1).toNat ⟨st,(rd m.txs (w-1)).snapshot⟩;rw [List.map_set,R.t,hi,R.tx hlt,← hz];rfl
  ·have h:j<(x.T.set i z).length:=h;have:=R.n1 j (by simpa using h);show mget m.names ⟨(x.T.set i z)[j].Task,(x.T.set i z)[j].N⟩=_;rw [(gT j h).1,(gT j h).2];exact this
  ·obtain ⟨j,h,W,Y,Z⟩:=R.n2 k v hv;have E:j<(x.T.set i z).length:=by simpa using h
   exact ⟨j,E,W,by show (x.T.set i z)[j].Task=_;rw [(gT j E).1];exact Y,by show (x.T.set i z)[j].N=_;rw [(gT j E).2];exact Z⟩
  ·have h:j<(x.T.set i z).length:=h;show (x.T.set i z)[j].N≤(mget m.many (x.T.set i z)[j].Task).getD 0;rw [(gT j h).1,(gT j h).2];exact R.n3 j (by simpa using h)
  ·show _=(((x.T.set i z).filter fun z=>decide (z.Task=t)).length:Int);rw [qb t x.T i z hlt zt];exact R.mn t
theorem QCJ (x:RM) (hl:x.L.length≤1000000) (w:Int):∀ (j i:Nat) (b:Bool),i+j=x.L.length→∀ k,j<k→Q9 x w k b (i:Int)=some (b||(x.L.drop i).any fun y=>y.Has&&(y.I.Writer==w)):=by
 intro j
 induction j with
 | zero =>
  intro i b hi k hk;obtain ⟨k,rfl⟩:∃ q,k=q+1:=⟨k-1,by omega⟩;rw [Q9.eq_2,if_neg (by simp;omega),List.drop_of_length_le (by omega)];simp
 | succ j ih =>
  intro i b hi k hk;obtain ⟨k,rfl⟩:∃ q,k=q+1:=⟨k-1,by omega⟩;have hlt:i<x.L.length:=by omega
  rw [Q9.eq_2,if_pos (by simpa using hlt),if_pos (inR hlt),if_pos (inR hlt),rdN hlt,wr1 (by omega),List.drop_eq_getElem_cons hlt,List.any_cons,← Bool.or_assoc]
  cases b
  ·cases hH:x.L[i].Has
   ·simp only [Bool.false_eq_true,if_false,Option.bind_some,Bool.false_and,Bool.or_self];exact ih (i+1) _ (by omega) k (by omega)
   ·simp only [Bool.false_eq_true,if_false,if_true,Option.bind_some,Bool.true_and,Bool.false_or];exact ih (i+1) _ (by omega) k (by omega)
  ·simp only [if_true,Option.bind_some,Bool.true_or];have:=ih (i+1) true (by omega) k (by omega)
   simpa using this
theorem Rel.any_eq (R:Rel m x) {w:Int} (hw:1≤w):(x.L.any fun y=>y.Has&&(y.I.Writer==w))=m.rows.any fun p=>p.2.intent.Writer==w:=by
 rw [Bool.eq_iff_iff,List.any_eq_true,List.any_eq_true]
 constructor
 ·rintro ⟨y,hy,h⟩;obtain ⟨p,hp,rfl⟩:=(R.me y).1 hy;exact ⟨p,hp,by simp [keyOf] at h;simp [h.2]⟩
 ·rintro ⟨p,hp,h⟩;have h:p.2.intent.Writer=w:=by simpa using h
  exact ⟨keyOf p,(R.me _).2 ⟨p,hp,rfl⟩,by simp [keyOf,h];omega⟩
theorem Rel.tick (R:Rel m x):Rel { m with clock:=m.clock+1 } ⟨x.C,x.T,x.L,x.Time+1,x.Low⟩ :=
 ⟨R.c,R.t,R.n1,R.n2,R.n3,R.mn,R.so,R.me,R.go,R.kl,by show x.Time+1=m.clock+1;rw [R.ti],R.lo⟩
theorem Rel.commit_ev (R:Rel m x) (I:Inv n m) (hn:n<1000000) {w:Int} (B:1≤w) (E:w≤(m.txs.length:Int)):∃ x',Ev (fun k=>Z5 k x w) ((commitS m w).1,x')∧Rel (commitS m w).2 x':=by
 have hll:=R.llen I;have hrl:=I.rl;have G:=I.ck
 have hany:Ev (fun k=>Q9 x w k false (0:Int)) (m.rows.any fun p=>p.2.intent.Writer==w):=by
  refine ⟨x.L.length+1,fun k hk=>?_⟩;have h0:Q9 x w k false (0:Int)=_:=QCJ x (by omega) w x.L.length 0 false (by omega) k (by omega);dsimp only;rw [h0,List.drop_zero,Bool.false_or,R.any_eq B]
 unfold Z5 commitS
 cases hb:(m.rows.any fun p=>p.2.intent.Writer==w) with
 | false =>
  rw [hb] at hany;obtain ⟨x',hx,hR⟩:=R.end_ev I (by omega) B E 3 0;rw [if_pos rfl];exact ⟨x',hany.bind (Ev.pos rfl (hx.bind (Ev.pure _))),hR⟩
 | true =>
  rw [hb] at hany;rw [if_neg (by simp)]
  by_cases hc:m.clock=m.c.TS
  ·obtain ⟨x',hx,hR⟩:=R.end_ev I (by omega) B E 4 0;rw [if_pos hc];exact ⟨x',hany.bind (Ev.neg (by simp) (Ev.pos (by rw [R.ti,R.c];simpa using hc) (hx.bind (Ev.pure _)))),hR⟩
  ·obtain ⟨x',hx,hR⟩:=R.tick.end_ev I.clock (by omega) B E 3 (m.clock+1);rw [if_neg hc];refine ⟨x',hany.bind (Ev.neg (by simp) (Ev.neg (by rw [R.ti,R.c];simpa using hc) ?_)),hR⟩;rw [wr (x:=x.Time+1) (by rw [R.ti];omega) (by rw [R.ti];omega)];have hx':Ev (fun k=>Qz k (⟨x.C,x.T,x.L,x.Time+1,x.Low⟩:RM) w 3 (x.Time+1)) x':=by rw [R.ti] at hx ⊢;exact hx
   exact hx'.bind (Ev.pure _)
theorem QCH (x:RM) (hl:x.T.length≤1000000):∀ (j i:Nat) (f:Int),i+j=x.T.length→∀ k,j<k→ZN x k (i:Int) f=some (floorL ((x.T.drop i).map fun z=>(⟨z.State,z.Snapshot⟩:Xd)) f):=by
 intro j
 induction j with
 | zero =>
  intro i f hi k hk;obtain ⟨k,rfl⟩:∃ q,k=q+1:=⟨k-1,by omega⟩;rw [ZN.eq_2,if_neg (by simp;omega),List.drop_of_length_le (by omega)];rfl
 | succ j ih =>
  intro i f hi k hk;obtain ⟨k,rfl⟩:∃ q,k=q+1:=⟨k-1,by omega⟩;have hlt:i<x.T.length:=by omega
  rw [ZN.eq_2,if_pos (by simpa using hlt),if_pos (inR hlt),if_pos (inR hlt),if_pos (inR hlt),rdN hlt,wr1 (by omega),List.drop_eq_getElem_cons hlt,List.map_cons,floorL]
  by_cases c:x.T[i].State=1
  ·by_cases d:x.T[i].Snapshot<f
   ·have e:imin f x.T[i].Snapshot=x.T[i].Snapshot:=by unfold imin;split<;>omega
    simp only [c,d,beq_self_eq_true,decide_true,if_true,Option.bind_some,e];exact ih (i+1) _ (by omega) k (by omega)
   ·have e:imin f x.T[i].Snapshot=f:=by unfold imin;split<;>omega
    simp only [c,d,beq_self_eq_true,decide_false,Bool.false_eq_true,if_true,if_false,Option.bind_some,e];exact ih (i+1) _ (by omega) k (by omega)
  ·have hb:(x.T[i].State==(1:Int))=false:=by simpa using c
   simp only [hb,c,Bool.false_eq_true,if_false,Option.bind_some];exact ih (i+1) _ (by omega) k (by omega)
def vacK (f:Int) (y:RK):RK:=⟨y.Key,kept y.L f,y.Has,y.I⟩
theorem QCE (x:RM) (f:Int) (hso:x.L.Pairwise fun a b=>ltS a.Key b.Key=true) (hkl:∀ y∈x.L,y.Key.length≤64) (hl:x.L.length≤1000000) {B:Nat} (hB:B≤1000000) (hL:∀ y∈x.L,y.L.length≤B):∀ (j i:Nat) (xc:RM),i+j=x.L.length→xc.Low=f→xc.L=eachK (vacK f) (x.L.take i)++x.L.drop i→∀ k,j+(x.L.length+65+B)<k→ZM x k (i:Int) xc=some ⟨xc.C,xc.T,eachK (vacK f) x.L,xc.Time,xc.Low⟩:=by
 intro j
 induction j with
 | zero =>
  intro i xc hi hf hx k hk;obtain ⟨k,rfl⟩:∃ q,k=q+1:=⟨k-1,by omega⟩;rw [List.take_of_length_le (by omega),List.drop_of_length_le (by omega),List.append_nil] at hx;rw [ZM.eq_2,if_neg (by simp;omega),← hx]
 | succ j ih =>
  intro i xc hi hf hx k hk;obtain ⟨k,rfl⟩:∃ q,k=q+1:=⟨k-1,by omega⟩;have hlt:i<x.L.length:=by omega
  have hy:=hL _ (List.getElem_mem hlt)
  have hset:Qs k xc (vacK f x.L[i])=some ⟨xc.C,xc.T,setV (vacK f x.L[i]) xc.L,xc.Time,xc.Low⟩:=by
   have:=QAY (vacK f) x.L i;exact Kt xc _ (by rw [hx];omega) (by rw [hx];exact QAZ (f:=vacK f) (fun _=>rfl) hkl i) k (by rw [hx];omega)
  rw [hx,List.drop_eq_getElem_cons hlt,KU (f:=vacK f) (fun _=>rfl) hso hlt] at hset;rw [ZM.eq_2,if_pos (by simpa using hlt),if_pos (inR hlt),rdN hlt,wr1 (by omega),hf,qL _ _ k (by omega) (by omega),Option.bind_some];have hset':Qs k xc (⟨x.L[i].Key,kept x.L[i].L f,x.L[i].Has,⟨x.L[i].I.Writer,x.L[i].I.TS,x.L[i].I.Tomb,x.L[i].I.Value⟩⟩:RK)=_:=hset;rw [hset',Option.bind_some];have:=ih (i+1) ⟨xc.C,xc.T,eachK (vacK f) (x.L.take (i+1))++x.L.drop (i+1),xc.Time,xc.Low⟩ (by omega) hf rfl k (by omega);rw [this,hf]
theorem Rel.vac_ev (R:Rel m x) (I:Inv n m) (hn:n≤1000000):∃ x',Ev (fun k=>Zo k x) x'∧Rel (vacS m) x':=by
 have U:=I.tl;have V:=R.tlen;have hll:=R.llen I;have hrl:=I.rl;generalize hf:floorL m.txs m.clock=f;refine ⟨⟨x.C,x.T,eachK (vacK f) x.L,x.Time,f⟩,⟨x.T.length+x.L.length+x.L.length+n+70,fun k hk=>?_⟩,?_⟩
 ·show Zo k x=_
  have h0:ZN x k (0:Int) x.Time=some f:=by
   have:=QCH x (by omega) x.T.length 0 x.Time (by omega) k (by omega);rw [List.drop_zero,R.t,R.ti,hf] at this;rw [R.ti];exact this
  have hL:∀ y∈x.L,y.L.length≤n:=fun y hy=>by
   obtain ⟨p,hp,rfl⟩:=(R.me y).1 hy;exact I.vl p hp
  have E:ZM x k (0:Int) ⟨x.C,x.T,x.L,x.Time,f⟩=some ⟨x.C,x.T,eachK (vacK f) x.L,x.Time,f⟩:=QCE x f R.so R.kl (by omega) hn hL x.L.length 0 ⟨x.C,x.T,x.L,x.Time,f⟩ (by omega) rfl (by simp [eachK]) k (by omega);unfold Zo;rw [h0,Option.bind_some];exact (congrArg (fun o=>Option.bind o fun B=>some B) E)
 ·obtain ⟨G,H,K,O⟩:=R.each (one:=keptRow f) (f:=vacK f) (fun _=>rfl) (fun p _=>rfl);unfold vacS;rw [hf];exact ⟨R.c,R.t,R.n1,R.n2,R.n3,R.mn,G,H,K,O,R.ti,rfl⟩
end
section
variable {n:Nat} {m:Mod} {x:RM}
theorem Rel.begin (R:Rel m x) (t:Int):Rel { m with txs:=m.txs++[⟨1,m.clock⟩],many:=mput m.many t ((mget m.many t).getD 0+1),names:=mput m.names ⟨t,(mget m.many t).getD 0+1⟩ ((m.txs.length:Int)+1) } ⟨x.C,x.T++[⟨t,(mget m.many t).getD 0+1,1,x.Time⟩],x.L,x.Time,x.Low⟩:=by
 have H:=R.tlen;generalize hN:(mget m.many t).getD 0+1=N;have gl:∀ (j:Nat) (h:j<x.T.length) (B:j<(x.T++[(⟨t,N,1,x.Time⟩:RT)]).length),(x.T++[(⟨t,N,1,x.Time⟩:RT)])[j]=x.T[j]:=fun j h B=>List.getElem_append_left h
 have gn:∀ (j:Nat) (B:j<(x.T++[(⟨t,N,1,x.Time⟩:RT)]).length),¬ j<x.T.length→(x.T++[(⟨t,N,1,x.Time⟩:RT)])[j]=⟨t,N,1,x.Time⟩∧j=x.T.length:=fun j B h=>by
  have e:j=x.T.length:=by simp at B;omega
  subst e;exact ⟨by rw [List.getElem_append_right (Nat.le_refl _)];simp,rfl⟩
 refine ⟨R.c,?_,fun j h=>?_,fun k v hv=>?_,fun j h=>?_,fun u=>?_,R.so,R.me,R.go,R.kl,R.ti,R.lo⟩
 ·show (x.T++[_]).map _=m.txs++[_];rw [List.map_append,R.t,R.ti];rfl
 ·have h:j<(x.T++[(⟨t,N,1,x.Time⟩:RT)]).length:=h;show mget (mput m.names ⟨t,N⟩ ((m.txs.length:Int)+1)) ⟨(x.T++[(⟨t,N,1,x.Time⟩:RT)])[j].Task,(x.T++[(⟨t,N,1,x.Time⟩:RT)])[j].N⟩=_;rw [Vx]
  by_cases c:j<x.T.length
  ·rw [gl j c h,if_neg,R.n1 j c];intro e;have E:=R.n3 j c;simp only [XW.mk.injEq] at e;rw [← e.1] at E;omega
  ·obtain ⟨G,K⟩:=gn j h c;rw [G,if_pos rfl,K,H]
 ·have hv:mget (mput m.names ⟨t,N⟩ ((m.txs.length:Int)+1)) k=some v:=hv;rw [Vx] at hv
  by_cases c:(⟨t,N⟩:XW)=k
  ·rw [if_pos c] at hv;have hl:x.T.length<(x.T++[(⟨t,N,1,x.Time⟩:RT)]).length:=by simp
   obtain ⟨G,_⟩:=gn x.T.length hl (by omega);refine ⟨x.T.length,hl,?_,?_,?_⟩
   ·rw [H];exact (Option.some.inj hv).symm
   ·show (x.T++[(⟨t,N,1,x.Time⟩:RT)])[x.T.length].Task=_;rw [G,← c]
   ·show (x.T++[(⟨t,N,1,x.Time⟩:RT)])[x.T.length].N=_;rw [G,← c]
  ·rw [if_neg c] at hv;obtain ⟨j,h,O,U,V⟩:=R.n2 k v hv;have B:j<(x.T++[(⟨t,N,1,x.Time⟩:RT)]).length:=by simp;omega
   exact ⟨j,B,O,by show (x.T++[(⟨t,N,1,x.Time⟩:RT)])[j].Task=_;rw [gl j h B];exact U,by show (x.T++[(⟨t,N,1,x.Time⟩:RT)])[j].N=_;rw [gl j h B];exact V⟩
 ·have h:j<(x.T++[(⟨t,N,1,x.Time⟩:RT)]).length:=h;show (x.T++[(⟨t,N,1,x.Time⟩:RT)])[j].N≤(mget (mput m.many t N) (x.T++[(⟨t,N,1,x.Time⟩:RT)])[j].Task).getD 0;rw [Vx]
  by_cases c:j<x.T.length
  ·rw [gl j c h];have E:=R.n3 j c
   by_cases d:t=x.T[j].Task
   ·rw [if_pos d];rw [← d] at E;show _≤N;omega
   ·rw [if_neg d];exact E
  ·rw [(gn j h c).1,if_pos rfl];exact Int.le_refl _
 ·show (mget (mput m.many t N) u).getD 0=(((x.T++[(⟨t,N,1,x.Time⟩:RT)]).filter fun z=>decide (z.Task=u)).length:Int);rw [Vx,List.filter_append,List.length_append];have h:=R.mn u
  by_cases c:t=u
  ·subst c;rw [if_pos rfl];show N=_;simp;omega
  ·rw [if_neg c,h];simp [c]
theorem Rel.scan_ev (R:Rel m x) (I:Inv n m) (hn:n≤1000000) (T:Int×Int×Int) (B:1≤T.1) (E:T.1≤(m.txs.length:Int)) (c:QZ) (hk:c.Key.length≤64):∀ (j i:Nat) (out:List Qo),i+j=x.L.length→out.length≤i→(out.length:Int)≤c.Limit →
  Ev (fun k=>ZR x c T k out (i:Int)) (scanL m T.1 c ((x.L.drop i).map (·.Key)) out):=by
 have hll:=R.llen I;have hrl:=I.rl;intro j
 induction j with
 | zero =>
  intro i out hi ho hlm;refine Ev.shift 1 ⟨0,fun k hk=>?_⟩;show ZR x c T (k+1) out (i:Int)=_;rw [ZR.eq_2,if_neg (by simp;omega),List.drop_of_length_le (by omega)];rfl
 | succ j ih =>
  intro i out hi ho hlm;have hlt:i<x.L.length:=by omega
  have hm:=List.getElem_mem hlt;rw [List.drop_eq_getElem_cons hlt,List.map_cons,scanL]
  by_cases hc:(out.length:Int)=c.Limit
  ·rw [if_pos hc];refine Ev.shift 1 ⟨0,fun k hk=>?_⟩;show ZR x c T (k+1) out (i:Int)=_;rw [ZR.eq_2,if_neg (by simp;omega)]
  rw [if_neg hc];refine Ev.shift 1 (Ev.congr (g:=fun k=>_) ?_ (fun k=>by rw [ZR.eq_2]));rw [wr1 (by omega),rdN hlt];have hyk:=R.kl _ hm;have hsee:=R.see_ev I hn B E (x.L[i].Key,rowOf m x.L[i].Key) (by have:=(I.row x.L[i].Key).1;show (rowOf m x.L[i].Key).l.length≤_;omega);rw [← R.at_ I hm] at hsee;have hw:Ev (fun k=>XQ k x.L[i].Key c.Key c.End) (withinB x.L[i].Key c.Key c.End):=⟨65,fun k hk'=>QAI k _ _ _ (by omega) (by omega) (by omega) (by omega)⟩;show Ev _ (scanL m T.1 c ((x.L.drop (i+1)).map (·.Key)) (if (seeS m T.1 (rowOf m x.L[i].Key)).2=true∧withinB x.L[i].Key c.Key c.End=true then out++[⟨x.L[i].Key,(seeS m T.1 (rowOf m x.L[i].Key)).1⟩] else out));have hsee:Ev (fun k=>Q4 k x T.1 x.L[i]) (seeS m T.1 (rowOf m x.L[i].Key)):=hsee;generalize seeS m T.1 (rowOf m x.L[i].Key)=s at *;refine Ev.pos (by simp;omega) (Ev.bind (v:=if s.2=true∧withinB x.L[i].Key c.Key c.End=true then out++[⟨x.L[i].Key,s.1⟩] else out) (Ev.chk (inR hlt) (hsee.bind (Ev.bind (v:=s.2&&withinB x.L[i].Key c.Key c.End) ?_ ?_))) (ih (i+1) _ (by omega) (by split<;>first | omega | (simp;omega)) (by split<;>first | omega | (simp;omega))))
  ·cases h:s.2
   ·exact Ev.neg (by simp) (Ev.pure _)
   ·exact Ev.pos rfl (Ev.chk (inR hlt) (hw.bind (Ev.pure _)))
  ·by_cases q:s.2=true∧withinB x.L[i].Key c.Key c.End=true
   ·rw [if_pos q];exact Ev.bind (Ev.pos (by simp [q.1,q.2]) (Ev.chk (inR hlt) (Ev.chk (by simp;omega) (Ev.pure _)))) (Ev.pure _)
   ·rw [if_neg q];exact Ev.bind (Ev.neg (by simpa using q) (Ev.pure _)) (Ev.pure _)
theorem QAm {t:Int} {c:QZ} (h:refS m t c=0):fitsB m.c c=true:=by
 unfold refS at h
 split at h
 ·cases h
 split at h
 ·cases h
 split at h
 ·split at h<;>cases h
 split at h
 ·next q=>exact q
 ·cases h
theorem qZ {c:Qb} {s:Str} (h:keyB c s=true):s.length≤64:=by
 simp only [keyB,mayB,Bool.and_eq_true,decide_eq_true_eq] at h;omega
theorem QBh {c:Qb} {s:Str} (h:bndB c s=true):s.length≤64:=by
 simp only [bndB,mayB,Bool.and_eq_true,decide_eq_true_eq] at h;omega
theorem Rel.do_ev (R:Rel m x) (I:Inv n m) (hn:n<1000000) (t:Int) (c:QZ):∃ x',Ev (fun k=>YB k x t c) ((doS m t c).1,x')∧Rel (doS m t c).2 x':=by
 have hn':n≤1000000:=by omega
 have href:=R.ref_ev I hn' t c;have htx:=R.tx_ev I hn' t c.Tx;unfold YB
 by_cases h0:refS m t c=0
 case neg =>
  have e:doS m t c=(ans (refS m t c),m):=by unfold doS;rw [if_pos h0]
  rw [e];exact ⟨x,href.bind (Ev.pos (by simpa using h0) (Ev.pure _)),R⟩
 have e:doS m t c=actS m (txS m t c.Tx).1 t c:=by unfold doS;rw [if_neg (by simpa using h0)]
 rw [e];obtain ⟨H,K,O,U⟩:=KW h0;have hfit:=QAm h0;have hT:c.Kind≠1∧c.Kind≠8∧c.Kind≠9→1≤(txS m t c.Tx).1∧(txS m t c.Tx).1≤(m.txs.length:Int):=fun h=>by have:=Kp I h0 h;exact ⟨this.1,this.2.1⟩
 generalize txS m t c.Tx=T at *;have start:∀ {v:Qk×RM} {f:Nat→Option (Qk×RM)},Ev f v→∀ {g:Nat→Option (Qk×RM)},(∀ k,g k=f k)→Ev g v:=fun h _ e=>h.congr e;have kk:c.Kind=1∨c.Kind=2∨c.Kind=3∨c.Kind=4∨c.Kind=5∨c.Kind=6∨c.Kind=7∨c.Kind=8∨c.Kind=9:=by omega
 rcases kk with hk | hk | hk | hk | hk | hk | hk | hk | hk
 ·
  have ea:actS m T.1 t c=beginS m t:=by unfold actS;rw [if_pos hk]
  rw [ea];unfold beginS
  by_cases ha:(activeN m:Int)≥m.c.Active
  ·rw [if_pos ha];exact ⟨x,href.bind (Ev.neg (by simp [h0]) (htx.bind (Ev.pos (by simp [hk]) ((R.act_ev I hn').bind (Ev.pos (by rw [R.c];simpa using ha) (Ev.pure _)))))),R⟩
  ·rw [if_neg ha];have hl:=R.tlen;have G:=I.tl;refine ⟨_,href.bind ?_,R.begin t⟩;refine Ev.neg (by simp [h0]) (htx.bind ?_);refine Ev.pos (by simp [hk]) ((R.act_ev I hn').bind ?_);refine Ev.neg (by rw [R.c];simpa using ha) ((R.many_ev I hn' t).bind ?_);refine Ev.bind (v:=([]++x.T,[⟨t,(mget m.many t).getD 0+1,1,x.Time⟩])) (Ev.chk (by simp;omega) (Ev.pure _)) ?_;exact Ev.chk (by simp;omega) (Ev.pure _)
 ·
  have ea:actS m T.1 t c=(getS m T.1 c,m):=by unfold actS;rw [if_neg (by omega),if_pos hk]
  rw [ea];obtain ⟨B,E⟩:=hT (by omega);have hsee:=R.see_ev I hn' B E (c.Key,rowOf m c.Key) (by have:=(I.row c.Key).1;show (rowOf m c.Key).l.length≤_;omega);refine ⟨x,href.bind (Ev.neg (by simp [h0]) (htx.bind (Ev.neg (by simp [hk]) (Ev.pos (by simp [hk]) ((R.of_ev I hn' c.Key).bind (hsee.bind ?_)))))),R⟩;unfold getS;show Ev _ ((if (seeS m T.1 (rowOf m c.Key)).2=true then (⟨0,true,(seeS m T.1 (rowOf m c.Key)).1,[]⟩:Qk) else ans 0),x)
  cases h:(seeS m T.1 (rowOf m c.Key)).2
  ·exact Ev.neg (by simp [h]) (Ev.pure _)
  ·exact Ev.pos (by simp [h]) (Ev.pure _)
 ·
  have ea:actS m T.1 t c=writeS m c.Key ⟨T.1,0,false,c.Value⟩:=by unfold actS;rw [if_neg (by omega),if_neg (by omega),if_pos hk]
  rw [ea];obtain ⟨B,E⟩:=hT (by omega)
  have hkl:c.Key.length≤64:=by
   unfold fitsB at hfit;rw [if_neg (by omega),if_pos hk,Bool.and_eq_true] at hfit;exact qZ hfit.1
  obtain ⟨x',hx,hR⟩:=R.write_ev I hn' B E c.Key c.Value false hkl;exact ⟨x',href.bind (Ev.neg (by simp [h0]) (htx.bind (Ev.neg (by simp [hk]) (Ev.neg (by simp [hk]) (Ev.pos (by simp [hk]) (hx.bind (Ev.pure _))))))),hR⟩
 ·
  have ea:actS m T.1 t c=writeS m c.Key ⟨T.1,0,true,[]⟩:=by unfold actS;rw [if_neg (by omega),if_neg (by omega),if_neg (by omega),if_pos hk]
  rw [ea];obtain ⟨B,E⟩:=hT (by omega)
  have hkl:c.Key.length≤64:=by
   unfold fitsB at hfit;rw [if_pos (by omega)] at hfit;exact qZ hfit
  obtain ⟨x',hx,hR⟩:=R.write_ev I hn' B E c.Key [] true hkl;exact ⟨x',href.bind (Ev.neg (by simp [h0]) (htx.bind (Ev.neg (by simp [hk]) (Ev.neg (by simp [hk]) (Ev.neg (by simp [hk]) (Ev.pos (by simp [hk]) (hx.bind (Ev.pure _)))))))),hR⟩
 ·
  have ea:actS m T.1 t c=(scanS m T.1 c,m):=by unfold actS;rw [if_neg (by omega),if_neg (by omega),if_neg (by omega),if_neg (by omega),if_pos hk]
  rw [ea];obtain ⟨B,E⟩:=hT (by omega);unfold fitsB at hfit;rw [if_neg (by omega),if_neg (by omega),if_pos hk] at hfit;simp only [Bool.and_eq_true,decide_eq_true_eq] at hfit;have hs:=R.scan_ev I hn' T B E c (QBh hfit.1.1.1) x.L.length 0 [] (by omega) (by simp) (by simp;omega);rw [List.drop_zero,← R.keys I] at hs;exact ⟨x,href.bind (Ev.neg (by simp [h0]) (htx.bind (Ev.neg (by simp [hk]) (Ev.neg (by simp [hk]) (Ev.neg (by simp [hk]) (Ev.neg (by simp [hk]) (Ev.pos (by simp [hk]) (Ev.bind hs (Ev.pure _))))))))),R⟩
 ·
  have ea:actS m T.1 t c=commitS m T.1:=by unfold actS;rw [if_neg (by omega),if_neg (by omega),if_neg (by omega),if_neg (by omega),if_neg (by omega),if_pos hk]
  rw [ea];obtain ⟨B,E⟩:=hT (by omega);obtain ⟨x',hx,hR⟩:=R.commit_ev I hn B E;exact ⟨x',href.bind (Ev.neg (by simp [h0]) (htx.bind (Ev.neg (by simp [hk]) (Ev.neg (by simp [hk]) (Ev.neg (by simp [hk]) (Ev.neg (by simp [hk]) (Ev.neg (by simp [hk]) (Ev.pos (by simp [hk]) (hx.bind (Ev.pure _)))))))))),hR⟩
 ·
  have ea:actS m T.1 t c=(ans 0,endS m T.1 4 0):=by unfold actS;rw [if_neg (by omega),if_neg (by omega),if_neg (by omega),if_neg (by omega),if_neg (by omega),if_neg (by omega),if_pos hk]
  rw [ea];obtain ⟨B,E⟩:=hT (by omega);obtain ⟨x',hx,hR⟩:=R.end_ev I hn' B E 4 0;exact ⟨x',href.bind (Ev.neg (by simp [h0]) (htx.bind (Ev.neg (by simp [hk]) (Ev.neg (by simp [hk]) (Ev.neg (by simp [hk]) (Ev.neg (by simp [hk]) (Ev.neg (by simp [hk]) (Ev.neg (by simp [hk]) (Ev.bind (v:=x') (Ev.pos (by simp [hk]) (hx.bind (Ev.pure _))) (Ev.pure _)))))))))),hR⟩
 ·
  have ea:actS m T.1 t c=(ans 0,vacS m):=by unfold actS;rw [if_neg (by omega),if_neg (by omega),if_neg (by omega),if_neg (by omega),if_neg (by omega),if_neg (by omega),if_neg (by omega),if_pos hk]
  rw [ea];obtain ⟨x',hx,hR⟩:=R.vac_ev I hn';exact ⟨x',href.bind (Ev.neg (by simp [h0]) (htx.bind (Ev.neg (by simp [hk]) (Ev.neg (by simp [hk]) (Ev.neg (by simp [hk]) (Ev.neg (by simp [hk]) (Ev.neg (by simp [hk]) (Ev.neg (by simp [hk]) (Ev.bind (v:=x') (Ev.neg (by simp [hk]) (Ev.bind (v:=x') (Ev.pos (by simp [hk]) (hx.bind (Ev.pure _))) (Ev.pure _))) (Ev.pure _)))))))))),hR⟩
 ·
  have ea:actS m T.1 t c=(ans 0,m):=by unfold actS;rw [if_neg (by omega),if_neg (by omega),if_neg (by omega),if_neg (by omega),if_neg (by omega),if_neg (by omega),if_neg (by omega),if_neg (by omega)]
  rw [ea];exact ⟨x,href.bind (Ev.neg (by simp [h0]) (htx.bind (Ev.neg (by simp [hk]) (Ev.neg (by simp [hk]) (Ev.neg (by simp [hk]) (Ev.neg (by simp [hk]) (Ev.neg (by simp [hk]) (Ev.neg (by simp [hk]) (Ev.bind (v:=x) (Ev.neg (by simp [hk]) (Ev.bind (v:=x) (Ev.neg (by simp [hk]) (Ev.pure _)) (Ev.pure _))) (Ev.pure _)))))))))),R⟩
end
end Go.Proofs.YtnjbjpaiepefoaaGreatDoor
