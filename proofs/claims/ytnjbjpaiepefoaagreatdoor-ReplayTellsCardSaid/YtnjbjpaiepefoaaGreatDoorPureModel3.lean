import Derived.Test.YtnjbjpaiepefoaaGreatDoorGt1LReplayTells
import Derived.Test.YtnjbjpaiepefoaaGreatDoorSlU
import Derived.Test.YtnjbjpaiepefoaaGreatDoorSlH
namespace Go.Proofs.YtnjbjpaiepefoaaGreatDoor
open Go Go.RowKit
set_option linter.unusedVariables false
set_option linter.unusedSimpArgs false
set_option maxRecDepth 100000
abbrev Ver:=QS
def dflt:Ver:=⟨0,0,false,[]⟩
def seen:List Ver→Int→Ver×Bool
 | [],_=>(dflt,false)
 | v::t,n=>if v.TS≤n then (if v.Tomb then (dflt,false) else (v,true)) else seen t n
def kept:List Ver→Int→List Ver
 | [],_=>[]
 | v::t,n=>if v.TS≤n then (if v.Tomb then [] else [v]) else v::kept t n
def kpos:List Ver→Int→Nat
 | [],_=>0
 | v::t,n=>if v.TS≤n then (if v.Tomb then 0 else 1) else kpos t n+1
theorem JW:∀ (l:List Ver) (n:Int),kept l n=l.take (kpos l n)
 | [],_=>rfl
 | v::t,n=>by
  simp only [kept,kpos]
  split
  ·split<;>rfl
  ·rw [List.take_succ_cons,JW t n]
theorem QAV:∀ (l:List Ver) (n:Int),kpos l n≤l.length
 | [],_=>Nat.le_refl _
 | v::t,n=>by
  have:=QAV t n;simp only [kpos,List.length_cons]
  split
  ·split<;>omega
  ·omega
def resSeen:List Ver→Int→((Unit⊕Ver)⊕(Unit⊕Ver))
 | [],_=>.inr (.inl ())
 | v::t,n=>if v.TS≤n then (if v.Tomb then .inl (.inl ()) else .inl (.inr v)) else resSeen t n
theorem QCA (l:List Ver) (n:Int) (kk:Nat) (hl:l.length≤1000000):∀ (j k i:Nat),i+j=l.length→j<k →
  Xu l n (Vj l kk) k (i:Int) (.inl ())=some (resSeen (l.drop i) n):=by
 intro j
 induction j with
 | zero =>
  intro k i G H;obtain ⟨k,rfl⟩:∃ k',k=k'+1:=⟨k-1,by omega⟩;rw [Xu.eq_2,List.drop_of_length_le (by omega)];have:¬ ((i:Int)<(l.length:Int)):=by omega
  simp [this,resSeen]
 | succ j ih =>
  intro k i G H;obtain ⟨k,rfl⟩:∃ k',k=k'+1:=⟨k-1,by omega⟩;have hi:i<l.length:=by omega
  have B:(i:Int)<(l.length:Int):=by omega
  have E:(0:Int)≤(i:Int):=by omega
  rw [Xu.eq_2,List.drop_eq_getElem_cons hi,resSeen,wr (by omega) (by omega)];have ih':=ih k (i+1) (by omega) (by omega);rw [show ((i+1:Nat):Int)=(i:Int)+1 by omega] at ih';simp only [B,E,decide_true,and_self,if_true,toL,Option.bind_some,Vj,rdN hi]
  by_cases hn:l[i].TS≤n
  ·cases ht:l[i].Tomb<;>simp [hn,ht,isNorm]
  ·simp [hn,isNorm,ih']
theorem QCg (l:List Ver) (n:Int) (k:Nat) (hl:l.length≤1000000) (hk:l.length<k):Ve k l n=some (seen l n):=by
 have h:=QCA l n k hl l.length k 0 (by omega) hk;simp only [Ve,VH,Option.bind_some,VI];rw [show ((0:Nat):Int)=0 from rfl] at h;rw [h];simp only [Option.bind_some,List.drop_zero]
 have key:∀ l:List Ver,(Sum.elim (fun r'=>some r') (fun G=>some G) (resSeen l n)).bind (fun B=>Sum.elim (fun _=>some ((⟨(0:Int),(0:Int),false,([]:Str)⟩:QS),false)) (fun E=>some (E,true)) B)=some (seen l n):=by
  intro l
  induction l with
  | nil=>rfl
  | cons v t ih =>
   simp only [resSeen,seen]
   split
   ·split<;>rfl
   ·exact ih
 exact key l
def resKept:List Ver→Int→Int→((Int⊕Unit)⊕(Int⊕Unit))
 | [],_,z=>.inr (.inl z)
 | v::t,n,z=>if v.TS≤n then .inl (.inl (z-(t.length+1)+(if v.Tomb then 0 else 1))) else resKept t n z
theorem QCO (l:List Ver) (n:Int) (kk:Nat) (hl:l.length≤1000000):∀ (j k i:Nat),i+j=l.length→j<k →
  Xu l n (Vk l kk) k (i:Int) (.inl (l.length:Int))=some (resKept (l.drop i) n l.length):=by
 intro j
 induction j with
 | zero =>
  intro k i G H;obtain ⟨k,rfl⟩:∃ k',k=k'+1:=⟨k-1,by omega⟩;rw [Xu.eq_2,List.drop_of_length_le (by omega)];have:¬ ((i:Int)<(l.length:Int)):=by omega
  simp [this,resKept]
 | succ j ih =>
  intro k i G H;obtain ⟨k,rfl⟩:∃ k',k=k'+1:=⟨k-1,by omega⟩;have hi:i<l.length:=by omega
  have B:(i:Int)<(l.length:Int):=by omega
  have E:(0:Int)≤(i:Int):=by omega
  have hlen:((l.drop (i+1)).length:Int)=l.length-i-1:=by rw [List.length_drop];omega
  rw [Xu.eq_2,List.drop_eq_getElem_cons hi,resKept,wr (by omega) (by omega)];have ih':=ih k (i+1) (by omega) (by omega);rw [show ((i+1:Nat):Int)=(i:Int)+1 by omega] at ih';simp only [B,E,decide_true,and_self,if_true,toL,Option.bind_some,Vk,rdN hi,hlen]
  by_cases hn:l[i].TS≤n
  ·have hw:=wr (x:=(i:Int)+1) (by omega) (by omega)
   cases ht:l[i].Tomb<;>simp [hn,ht,isNorm,hw]<;>omega
  ·simp [hn,isNorm,ih']
theorem QAe (l:List Ver) (n:Int) (k:Nat) (hl:l.length≤1000000) (hk:l.length<k):Vq k l n=some (kept l n):=by
 have h:=QCO l n k hl l.length k 0 (by omega) hk;simp only [Vq,VH,Option.bind_some,VI];rw [show ((0:Nat):Int)=0 from rfl] at h;rw [h];simp only [Option.bind_some,List.drop_zero]
 have key:∀ t:List Ver,∃ x,resKept t n l.length=x∧Sum.elim (fun r'=>some r') (fun B=>some B) x=some (Sum.inl ((l.length:Int)-t.length+kpos t n):Int⊕Unit):=by
  intro t
  induction t with
  | nil=>exact ⟨_,rfl,by simp [resKept,kpos]⟩
  | cons v t ih =>
   refine ⟨_,rfl,?_⟩;simp only [resKept,kpos]
   split
   ·cases v.Tomb<;>simp<;>omega
   ·obtain ⟨_,rfl,e⟩:=ih;rw [e];simp;omega
 obtain ⟨_,rfl,e⟩:=key l;rw [e];have hp:=QAV l n;have E:(l.length:Int)-l.length+kpos l n=kpos l n:=by omega
 simp only [Option.bind_some,Sum.elim_inl,E];rw [if_pos ⟨by omega,by omega⟩];simp only [Qx,Int.toNat_natCast,List.nil_append,List.length_nil,Nat.zero_add];rw [if_pos (by rw [List.length_take];omega),JW]
 rfl
def clash (l:List Ver) (n:Int):Bool:=match l with
 | []=>false
 | v::_=>decide (v.TS>n)
theorem QBy (l:List Ver) (n:Int) (k:Nat):Vf k l n=some (clash l n):=by
 cases l with
 | nil=>rfl
 | cons v t =>
  have h:(((v::t:List Ver).length:Int)>0):=by simp
  have B:(0:Int)<((v::t:List Ver).length:Int):=h;simp only [Vf,h,B,decide_true,if_true,Int.le_refl,and_self,Option.bind_some,clash]
  rfl
def legal:List Ver→Bool
 | []=>true
 | [v]=>decide (1≤v.TS)
 | v::u::t=>decide (1≤v.TS)&&decide (u.TS<v.TS)&&legal (u::t)
theorem QAk:∀ (l:List Ver) (f s:Int),f≤s→seen (kept l f) s=seen l s
 | [],_,_,_=>rfl
 | v::t,f,s,h=>by
  have ih:=QAk t f s h;simp only [kept]
  by_cases B:v.TS≤f
  ·have E:v.TS≤s:=by omega
   cases ht:v.Tomb<;>simp [B,E,ht,seen]
  ·simp [B,seen,ih]
theorem clash_kept:∀ (l:List Ver) (f s:Int),f≤s→clash (kept l f) s=clash l s
 | [],_,_,_=>rfl
 | v::t,f,s,h=>by
  simp only [kept]
  by_cases B:v.TS≤f
  ·have E:¬ (v.TS>s):=by omega
   cases ht:v.Tomb<;>simp [B,ht,clash]<;>omega
  ·simp [B,clash]
theorem wr' {x:Int} (h:-9223372036854775808≤x) (B:x≤9223372036854775807):IntKind.i64.wrap x=x:=wr h B
def mayB (c:Qb):Bool :=
 (decide (c.Tasks≥1)&&decide (c.Tasks≤6))&&(decide (c.Active≥1)&&decide (c.Active≤8))&&(decide (c.Keys≥1)&&decide (c.Keys≤64))&&(decide (c.Depth≥2)&&decide (c.Depth≤8)) &&
 (decide (c.TS≥1)&&decide (c.TS≤1048576))&&(decide (c.KeyLen≥1)&&decide (c.KeyLen≤64))&&(decide (c.ValLen≥0)&&decide (c.ValLen≤256))&&(decide (c.Fan≥3)&&decide (c.Fan≤8))
theorem rng {n lo hi:Int}:(decide (n<lo)||decide (n>hi))=!(decide (n≥lo)&&decide (n≤hi)):=by
 by_cases B:n<lo
 ·have:¬ n≥lo:=by omega
  simp [B,this]
 ·by_cases E:n>hi
  ·have:¬ n≤hi:=by omega
   simp [B,E,this]
  ·have G:n≥lo:=by omega
   have H:n≤hi:=by omega
   simp [B,E,G,H]
def bnds (c:Qb):List VV:=[⟨c.Tasks,1,6⟩,⟨c.Active,1,8⟩,⟨c.Keys,1,64⟩,⟨c.Depth,2,8⟩,⟨c.TS,1,1048576⟩,⟨c.KeyLen,1,64⟩,⟨c.ValLen,0,256⟩,⟨c.Fan,3,8⟩]
theorem UF (c:Qb) (k i:Nat) (hi:i<8):VG c (k+1) (i:Int)=(if (!(decide ((rd (bnds c) (i:Int)).n≥(rd (bnds c) (i:Int)).low)&&decide ((rd (bnds c) (i:Int)).n≤(rd (bnds c) (i:Int)).high)))=true then some (.inl false) else VG c k ((i+1:Nat):Int)):=by
 have B:(i:Int)<8:=by omega
 have E:0≤(i:Int)∧(i:Int)<8:=by omega
 rw [VG.eq_2,wr (x:=(i:Int)+1) (by omega) (by omega)];simp only [B,decide_true,if_true,E,and_self,rng,show ((i:Int)+1)=((i+1:Nat):Int) by omega,Option.bind_some,bnds]
 try rfl
theorem QCi (c:Qb) (k:Nat):VG c (k+1) ((8:Nat):Int)=some (.inr ()):=by
 rw [VG.eq_2];rfl
theorem JP (k:Nat) (c:Qb) (hk:9≤k):Vb k c=some (mayB c):=by
 obtain ⟨k,rfl⟩:∃ k',k=k'+9:=⟨k-9,by omega⟩;unfold Vb;rw [show (0:Int)=((0:Nat):Int) from rfl,UF c (k+8) 0 (by omega),UF c (k+7) 1 (by omega),UF c (k+6) 2 (by omega),UF c (k+5) 3 (by omega),UF c (k+4) 4 (by omega),UF c (k+3) 5 (by omega),UF c (k+2) 6 (by omega),UF c (k+1) 7 (by omega),QCi c k];simp only [rd,Int.toNat_natCast,List.getD_cons_zero,List.getD_cons_succ,Nat.zero_add,mayB,bnds];generalize (decide (c.Tasks≥1)&&decide (c.Tasks≤6))=B;generalize (decide (c.Active≥1)&&decide (c.Active≤8))=E;generalize (decide (c.Keys≥1)&&decide (c.Keys≤64))=G;generalize (decide (c.Depth≥2)&&decide (c.Depth≤8))=H;generalize (decide (c.TS≥1)&&decide (c.TS≤1048576))=K;generalize (decide (c.KeyLen≥1)&&decide (c.KeyLen≤64))=O;generalize (decide (c.ValLen≥0)&&decide (c.ValLen≤256))=U;generalize (decide (c.Fan≥3)&&decide (c.Fan≤8))=V
 revert B E G H K O U V
 decide
theorem Within_eq (k:Nat) (a b c:Str):Vl k a b c=some ((sbin .leq b a)&&((sbin .eql c ([]:Str))||(sbin .lss a c))):=rfl
def keyB (c:Qb) (s:Str):Bool:=mayB c&&decide ((s.length:Int)≥1)&&decide ((s.length:Int)≤c.KeyLen)
def valB (c:Qb) (s:Str):Bool:=mayB c&&decide ((s.length:Int)≥0)&&decide ((s.length:Int)≤c.ValLen)
def bndB (c:Qb) (s:Str):Bool:=mayB c&&decide ((s.length:Int)≥0)&&decide ((s.length:Int)≤c.KeyLen)
theorem Key_eq (k:Nat) (c:Qb) (s:Str) (hk:9≤k):Vs k c s=some (keyB c s):=by
 simp only [Vs,Xh,Xi,Option.bind_some,JP k c hk];rfl
theorem QBu (k:Nat) (c:Qb) (s:Str) (hk:9≤k):Vo k c s=some (valB c s):=by
 simp only [Vo,Xh,Xi,Option.bind_some,JP k c hk];rfl
theorem QBz (k:Nat) (c:Qb) (s:Str) (hk:9≤k):VW k c s=some (bndB c s):=by
 simp only [VW,Xh,Xi,Option.bind_some,JP k c hk];rfl
theorem QCf {l:List Ver} {n:Int} (h:l.length≤1000000):Ev (fun k=>Ve k l n) (seen l n):=⟨l.length+1,fun k hk=>QCg l n k h (by omega)⟩
theorem Kept_ev {l:List Ver} {n:Int} (h:l.length≤1000000):Ev (fun k=>Vq k l n) (kept l n):=⟨l.length+1,fun k hk=>QAe l n k h (by omega)⟩
theorem QBx {l:List Ver} {n:Int}:Ev (fun k=>Vf k l n) (clash l n):=⟨0,fun k _=>QBy l n k⟩
theorem QBY (l:List Ver) (n:Int):(kept l n).length≤l.length:=by rw [JW,List.length_take];omega
abbrev Mod:=QQ
abbrev QAS:Qm:=⟨[],⟨0,0,false,[]⟩⟩
def rowOf (m:Mod) (key:Str):Qm:=(mget m.rows key).getD QAS
def ans (e:Int):Qk:=⟨e,false,[],[]⟩
structure Inv (n:Nat) (m:Mod):Prop where
 nd:(m.rows.map (·.1)).Nodup
 nm:∀ x w,mget m.names x=some w→1≤w∧w≤(m.txs.length:Int)
 tl:m.txs.length≤n
 rl:m.rows.length≤n
 vl:∀ p∈m.rows,p.2.l.length≤n
 ck:0≤m.clock∧m.clock≤(n:Int)
 mn:∀ t,0≤(mget m.many t).getD 0∧(mget m.many t).getD 0≤(n:Int)
 wp:∀ p∈m.rows,0≤p.2.intent.Writer
theorem Inv.row {n:Nat} {m:Mod} (I:Inv n m) (key:Str):(rowOf m key).l.length≤n∧0≤(rowOf m key).intent.Writer:=by
 unfold rowOf
 cases h:mget m.rows key with
 | none=>exact ⟨Nat.zero_le _,Int.le_refl _⟩
 | some r=>have:=J4 h;exact ⟨I.vl _ this,I.wp _ this⟩
theorem Inv.mono {n n':Nat} {m:Mod} (I:Inv n m) (h:n≤n'):Inv n' m :=
 ⟨I.nd,I.nm,by have:=I.tl;omega,by have:=I.rl;omega,fun p hp=>by have:=I.vl p hp;omega,by have:=I.ck;omega,fun t=>by have:=I.mn t;omega,I.wp⟩
def txS (m:Mod) (t n:Int):Int×Int×Int:=match mget m.names ⟨t,n⟩ with
 | none=>(0,0,0)
 | some w=>(w,(rd m.txs (w-1)).state,(rd m.txs (w-1)).snapshot)
theorem Tx_eq {n:Nat} {m:Mod} (I:Inv n m) (hn:n≤1000000) (k:Nat) (t x:Int):Yw k m t x=some (txS m t x):=by
 unfold Yw txS
 cases h:mget m.names ⟨t,x⟩ with
 | none=>simp
 | some w =>
  have B:=I.nm _ _ h;have E:=I.tl;have e:=wr (x:=w-1) (by omega) (by omega);simp only [Option.getD_some,Option.isSome_some,Bool.not_true,Bool.false_eq_true,if_false,e];rw [if_pos ⟨by omega,by omega⟩]
def needsB (k:Int):Bool:=((k != (1:Int))&&(k != (8:Int)))&&(k != (9:Int))
def fitsB (c:Qb) (x:QZ):Bool :=
 if x.Kind=2∨x.Kind=4 then keyB c x.Key else if x.Kind=3 then keyB c x.Key&&valB c x.Value else if x.Kind=5 then bndB c x.Key&&bndB c x.End&&decide (x.Limit≥0)&&decide (x.Limit≤128) else true
theorem QCQ {m:Mod} {x:QZ} (k:Nat) (hk:9≤k):Yi k m x=some (fitsB m.c x):=by
 simp only [Yi,fitsB,Key_eq k _ _ hk,QBu k _ _ hk,QBz k _ _ hk,Option.bind_some]
 by_cases B:x.Kind=2
 ·simp [B]
 by_cases E:x.Kind=4
 ·simp [E]
 by_cases G:x.Kind=3
 ·simp [G];cases keyB m.c x.Key<;>simp
 by_cases H:x.Kind=5
 ·simp [H];cases bndB m.c x.Key<;>simp
 simp [B,G,E,H]
def refS (m:Mod) (t:Int) (x:QZ):Int :=
 if t<0∨t≥m.c.Tasks∨x.Kind<1∨x.Kind>9 then 1 else if x.Kind=9∧x.Engine≠1∧x.Engine≠2 then 1
 else if needsB x.Kind=true∧(txS m t x.Tx).2.1≠1 then (if (txS m t x.Tx).2.1=0 then 30 else 31) else if fitsB m.c x=true then 0 else 32
theorem QAH {n:Nat} {m:Mod} (I:Inv n m) (hn:n≤1000000) (k:Nat) (hk:9≤k) (t:Int) (x:QZ):Yo k m t x=some (refS m t x):=by
 simp only [Yo,Tx_eq I hn,QCQ k hk,Option.bind_some,Vm,refS]
 by_cases B:t<0∨t≥m.c.Tasks∨x.Kind<1∨x.Kind>9
 ·rw [if_pos B,if_pos];simpa [or_assoc] using B
 ·rw [if_neg B,if_neg (by simpa [or_assoc] using B)]
  by_cases E:x.Kind=9∧x.Engine≠1∧x.Engine≠2
  ·rw [if_pos E,if_pos (by simpa [and_assoc] using E)]
  ·rw [if_neg E,if_neg (by simpa [and_assoc] using E)];show (if needsB x.Kind=true then _ else _)=_
   cases hq:needsB x.Kind with
   | false=>simp;cases fitsB m.c x<;>simp
   | true =>
    by_cases G:(txS m t x.Tx).2.1=1
    ·simp [G];cases fitsB m.c x<;>simp
    ·simp [G];split<;>rfl
def activeN (m:Mod):Nat:=(m.txs.filter fun x=>decide (x.state=1)).length
theorem QBB (m:Mod) (hl:m.txs.length≤1000000):∀ (j i:Nat) (s:Nat),i+j=m.txs.length→s≤i→∀ k,j<k→YH m k (s:Int) (i:Int)=some ((s+((m.txs.drop i).filter fun x=>decide (x.state=1)).length:Nat):Int):=by
 intro j
 induction j with
 | zero =>
  intro i s hi hs k hk;obtain ⟨k,rfl⟩:∃ k',k=k'+1:=⟨k-1,by omega⟩;rw [YH.eq_2,List.drop_of_length_le (by omega)];have:¬ ((i:Int)<(m.txs.length:Int)):=by omega
  simp [this]
 | succ j ih =>
  intro i s hi hs k hk;obtain ⟨k,rfl⟩:∃ k',k=k'+1:=⟨k-1,by omega⟩;have hlt:i<m.txs.length:=by omega
  have B:(i:Int)<(m.txs.length:Int):=by omega
  rw [YH.eq_2,List.drop_eq_getElem_cons hlt,List.filter_cons];simp only [B,decide_true,if_true,inR hlt,and_self,rdN hlt,wr1 (i:=i) (by omega),wr1 (i:=s) (by omega)]
  by_cases hc:m.txs[i].state=1
  ·simp only [hc,beq_self_eq_true,if_true,Option.bind_some,decide_true,List.length_cons];rw [ih (i+1) (s+1) (by omega) (by omega) k (by omega)]
   congr 2;omega
  ·have hb:(m.txs[i].state==(1:Int))=false:=by simpa using hc
   simp only [hb,hc,Bool.false_eq_true,if_false,Option.bind_some,decide_false];exact ih (i+1) s (by omega) (by omega) k (by omega)
theorem QBC {n:Nat} {m:Mod} (I:Inv n m) (hn:n≤1000000):Ev (fun k=>Y1 k m) (activeN m:Int):=by
 have:=I.tl;refine ⟨m.txs.length+1,fun k hk=>?_⟩;have h:=QBB m (by omega) m.txs.length 0 0 (by omega) (by omega) k (by omega);simp only [Y1];rw [show (0:Int)=((0:Nat):Int) from rfl,h];simp [activeN]
def beginS (m:Mod) (t:Int):Qk×Mod :=
 if (activeN m:Int)≥m.c.Active then (ans 34,m)
 else (ans 0,{ m with txs:=m.txs++[⟨1,m.clock⟩],many:=mput m.many t ((mget m.many t).getD 0+1),names:=mput m.names ⟨t,(mget m.many t).getD 0+1⟩ ((m.txs.length:Int)+1) })
theorem QBj {n:Nat} {m:Mod} (I:Inv n m) (hn:n≤1000000) (w t:Int) (x:QZ):Ev (fun k=>Y9 k m w t x) (beginS m t):=by
 unfold Y9;refine (QBC I hn).bind ?_;have B:=I.tl;have E:=I.mn t;have e:=wr (x:=(mget m.many t).getD 0+1) (by omega) (by omega)
 by_cases h:(activeN m:Int)≥m.c.Active
 ·refine Ev.pos (by simpa using h) ?_;simp only [beginS,if_pos h];exact Ev.pure _
 ·refine Ev.neg (by simpa using h) ?_;refine Ev.pos (by simp;omega) ?_;simp only [Option.bind_some,e,Vx,if_pos,Option.getD_some,beginS,if_neg h];refine (Ev.pure _).eq ?_;simp [ans]
def seeS (m:Mod) (w:Int) (r:Qm):Str×Bool:=if r.intent.Writer=w then (r.intent.Value,!r.intent.Tomb) else ((seen r.l (rd m.txs (w-1)).snapshot).1.Value,(seen r.l (rd m.txs (w-1)).snapshot).2)
theorem see_ev {m:Mod} {w:Int} (E:1≤w) (G:w≤(m.txs.length:Int)) (H:m.txs.length≤1000000) {r:Qm} (B:r.l.length≤1000000):Ev (fun k=>Z8 k m w r) (seeS m w r):=by
 unfold Z8 seeS;have e:=wr (x:=w-1) (by omega) (by omega)
 by_cases h:r.intent.Writer=w
 ·rw [if_pos h];exact Ev.pos (by simpa using h) (Ev.pure _)
 ·rw [if_neg h];refine Ev.neg (by simpa using h) ?_;simp only [e];refine Ev.pos ⟨by omega,by omega⟩ ?_;refine Ev.bind (v:=((seen r.l (rd m.txs (w-1)).snapshot).1.Writer,(seen r.l (rd m.txs (w-1)).snapshot).1.TS,(seen r.l (rd m.txs (w-1)).snapshot).1.Tomb,(seen r.l (rd m.txs (w-1)).snapshot).1.Value,(seen r.l (rd m.txs (w-1)).snapshot).2)) ((QCf B).bind (Ev.pure _)) (Ev.pure _)
def getS (m:Mod) (w:Int) (x:QZ):Qk:=if (seeS m w (rowOf m x.Key)).2=true then ⟨0,true,(seeS m w (rowOf m x.Key)).1,[]⟩ else ans 0
theorem get_ev {n:Nat} {m:Mod} (I:Inv n m) (hn:n≤1000000) {w:Int} (B:1≤w) (E:w≤(m.txs.length:Int)) (t:Int) (x:QZ):Ev (fun k=>XU k m w t x) (getS m w x):=by
 unfold XU;have G:=I.tl;have H:=(I.row x.Key).1;refine (see_ev B E (by omega) (r:=rowOf m x.Key) (by omega)).bind ?_;unfold getS
 cases (seeS m w (rowOf m x.Key)).2 with
 | false=>exact Ev.pos (by simp) (Ev.pure _)
 | true=>exact Ev.neg (by simp) (Ev.pure _)
def writeS (m:Mod) (key:Str) (v:QS):Qk×Mod :=
 let r:=rowOf m key
 if (r.intent.Writer≠v.Writer∧r.intent.Writer≠0)∨clash r.l (rd m.txs (v.Writer-1)).snapshot=true then (ans 33,m)
 else if v.Tomb=true∧(seeS m v.Writer r).2=false then (ans 0,m)
 else if r.intent.Writer=0∧(r.l=[]∧(m.rows.length:Int)≥m.c.Keys∨(r.l.length:Int)≥m.c.Depth) then (ans 34,m)
 else (⟨0,v.Tomb,[],[]⟩,{ m with rows:=mput m.rows key ⟨r.l,v⟩ })
theorem write_ev {n:Nat} {m:Mod} (I:Inv n m) (hn:n≤1000000) (key:Str) (v:QS) (K:1≤v.Writer) (O:v.Writer≤(m.txs.length:Int)):Ev (fun k=>YP k m key v) (writeS m key v):=by
 have U:=I.tl;have V:=(I.row key).1;have e:=wr (x:=v.Writer-1) (by omega) (by omega);unfold YP;simp only [e]
 change Ev (fun k=>Option.bind (if ((!((rowOf m key).intent.Writer==v.Writer))&&(!((rowOf m key).intent.Writer==(0:Int))))=true then _ else _) _) _
 by_cases E:(rowOf m key).intent.Writer≠v.Writer∧(rowOf m key).intent.Writer≠0
 ·refine Ev.bind (v:=true) (Ev.pos (by simpa using E) (Ev.pure _)) ?_;refine Ev.pos rfl ?_;simp only [writeS,if_pos (Or.inl E)];exact Ev.pure _
 ·refine Ev.bind (v:=clash (rowOf m key).l (rd m.txs (v.Writer-1)).snapshot) (Ev.neg (by simpa using E) (Ev.pos ⟨by omega,by omega⟩ (QBx.bind (Ev.pure _)))) ?_
  cases H:clash (rowOf m key).l (rd m.txs (v.Writer-1)).snapshot with
  | true =>
   refine Ev.pos rfl ?_;simp only [writeS,H,or_true,if_true];exact Ev.pure _
  | false =>
   refine Ev.neg (by simp) ?_;refine (see_ev K O (by omega) (r:=rowOf m key) (by omega)).bind ?_;have hno:¬ ((rowOf m key).intent.Writer≠v.Writer∧(rowOf m key).intent.Writer≠0∨clash (rowOf m key).l (rd m.txs (v.Writer-1)).snapshot=true):=by rw [H];simpa using E
   by_cases B:v.Tomb=true∧(seeS m v.Writer (rowOf m key)).2=false
   ·refine Ev.pos (by simp [B]) ?_;simp only [writeS,if_neg hno,if_pos B];exact Ev.pure _
   ·refine Ev.neg (by simpa using B) ?_
    by_cases G:(rowOf m key).intent.Writer=0∧((rowOf m key).l=[]∧(m.rows.length:Int)≥m.c.Keys∨((rowOf m key).l.length:Int)≥m.c.Depth)
    ·refine Ev.pos (by simpa [rowOf,List.length_eq_zero_iff] using G) ?_;simp only [writeS,if_neg hno,if_neg B,if_pos G];exact Ev.pure _
    ·refine Ev.neg (by simpa [rowOf,List.length_eq_zero_iff] using G) ?_;simp only [Option.bind_some,writeS,if_neg hno,if_neg B,if_neg G];exact Ev.pure _
section
variable {κ ν:Type} [DecidableEq κ]
theorem JG {y:κ} {u:ν} {r:List (κ×ν)}:∀ {d:List (κ×ν)},y ∉ d.map (·.1)→mget (d++(y,u)::r) y=some u
 | [],_=>by rw [List.nil_append,Vd,if_pos rfl]
 | (a,b)::d,h=>by
  simp only [List.map_cons,List.mem_cons,not_or] at h;rw [List.cons_append,Vd,if_neg (fun e=>h.1 e.symm)];exact JG h.2
theorem J3 {y:κ} {u v:ν} {r:List (κ×ν)}:∀ {d:List (κ×ν)},y ∉ d.map (·.1)→mput (d++(y,u)::r) y v=d++(y,v)::r
 | [],_=>by rw [List.nil_append,VN,if_pos rfl,List.nil_append]
 | (a,b)::d,h=>by
  simp only [List.map_cons,List.mem_cons,not_or] at h;rw [List.cons_append,VN,if_neg (fun e=>h.1 e.symm),J3 h.2,List.cons_append]
theorem J5 {y:κ} {u:ν} {r:List (κ×ν)}:∀ {d:List (κ×ν)},y ∉ d.map (·.1)→mdel (d++(y,u)::r) y=d++r
 | [],_=>by rw [List.nil_append,VR,if_pos rfl,List.nil_append]
 | (a,b)::d,h=>by
  simp only [List.map_cons,List.mem_cons,not_or] at h;rw [List.cons_append,VR,if_neg (fun e=>h.1 e.symm),J5 h.2,List.cons_append]
end
def gone (r:Qm):Bool:=((r.l.length:Int)==(0:Int))&&(r.intent.Writer==(0:Int))
def eachS (one:Qm→Qm) (l:List (Str×Qm)):List (Str×Qm):=l.filterMap fun p=>if gone (one p.2)=true then none else some (p.1,one p.2)
def endRow (w ts:Int) (r:Qm):Qm:=if r.intent.Writer≠w then r else ⟨if ts>0 then ⟨r.intent.Writer,ts,r.intent.Tomb,r.intent.Value⟩::r.l else r.l,⟨0,0,false,[]⟩⟩
theorem QCU (k:Nat) (r:Qm) (w ts:Int) (h:r.l.length≤1000001):Xl k r w ts=some (endRow w ts r):=by
 unfold Xl endRow
 by_cases c:r.intent.Writer=w
 ·have B:¬ ((r.intent.Writer != w)=true):=by simpa using c
  have E:¬ (r.intent.Writer≠w):=by simpa using c
  rw [if_neg B,if_neg E]
  by_cases d:ts>0
  ·simp only [d,decide_true,if_true];rw [if_pos (by simp;omega)];simp
  ·simp only [d,decide_false,Bool.false_eq_true,if_false];simp
 ·have B:(r.intent.Writer != w)=true:=by simpa using c
  rw [if_pos B,if_pos c]
theorem KA {d r:List (Str×Qm)} {p:Str×Qm} (h:((d++p::r).map (·.1)).Nodup):p.1 ∉ d.map (·.1)∧p.1 ∉ r.map (·.1)∧((d++r).map (·.1)).Nodup:=by
 rw [List.map_append,List.map_cons,List.nodup_append] at h;have B:=List.nodup_cons.1 h.2.1;refine ⟨fun hd=>h.2.2 _ hd _ List.mem_cons_self rfl,B.1,?_⟩;rw [List.map_append,List.nodup_append];exact ⟨h.1,B.2,fun a ha b hb=>h.2.2 a ha b (List.mem_cons_of_mem _ hb)⟩
theorem q7 (k:Nat) (w ts:Int):∀ (cur done:List (Str×Qm)) (kl:Nat),((done++cur).map (·.1)).Nodup→(∀ p∈cur,p.2.l.length≤1000001)→cur.length<kl →
  Qp k w ts kl (done++cur) (cur.map (·.1))=some (done++eachS (endRow w ts) cur)
 | [],done,kl,_,_,h=>by
  obtain ⟨kl,rfl⟩:∃ q,kl=q+1:=⟨kl-1,by simp at h;omega⟩;rw [Qp.eq_2];simp [V9,eachS]
 | (y,u)::cur,done,kl,hn,hl,h=>by
  obtain ⟨kl,rfl⟩:∃ q,kl=q+1:=⟨kl-1,by simp at h;omega⟩;obtain ⟨B,E,G⟩:=KA hn;have hu:=hl _ List.mem_cons_self;rw [Qp.eq_2,List.map_cons,VZ,JG B,Option.getD_some,QCU k u w ts hu];have hm:y∈(done++(y,u)::cur).map (fun p=>p.1):=by simp
  simp only [Option.bind_some];rw [if_pos hm,J3 B]
  have hr:(eachS (endRow w ts) ((y,u)::cur))=(if gone (endRow w ts u)=true then [] else [(y,endRow w ts u)])++eachS (endRow w ts) cur:=by
   simp only [eachS,List.filterMap_cons];split<;>simp_all
  have hg:((((endRow w ts u).l.length:Int)==(0:Int))&&((endRow w ts u).intent.Writer==(0:Int)))=gone (endRow w ts u):=rfl;rw [hr,hg]
  cases hq:gone (endRow w ts u) with
  | true =>
   simp only [if_true,Option.bind_some];rw [if_pos E,J5 B];simp only [Option.bind_some];rw [q7 k w ts cur done kl G (fun p hp=>hl p (List.mem_cons_of_mem _ hp)) (by simp at h;omega)];rfl
  | false =>
   simp only [Bool.false_eq_true,if_false,Option.bind_some];have e:done++(y,endRow w ts u)::cur=(done++[(y,endRow w ts u)])++cur:=by simp
   rw [e,q7 k w ts cur (done++[(y,endRow w ts u)]) kl (by simpa using hn) (fun p hp=>hl p (List.mem_cons_of_mem _ hp)) (by simp at h;omega)];simp
def endS (m:Mod) (w st ts:Int):Mod:={ m with txs:=m.txs.set (w-1).toNat ⟨st,(rd m.txs (w-1)).snapshot⟩,rows:=eachS (endRow w ts) m.rows }
theorem end_ev {n:Nat} {m:Mod} (I:Inv n m) (hn:n≤1000000) {w:Int} (B:1≤w) (E:w≤(m.txs.length:Int)) (st ts:Int):Ev (fun k=>Zu k m w st ts) (ans 0,endS m w st ts):=by
 have G:=I.tl;have H:=I.rl;have e:=wr (x:=w-1) (by omega) (by omega);unfold Zu;simp only [e];refine Ev.pos ⟨by omega,by omega⟩ ?_;simp only [Option.bind_some];refine ⟨n+1,fun k hk=>?_⟩;simp only [Zt];rw [if_pos I.nd];have:=q7 k w ts m.rows [] k (by simpa using I.nd) (fun p hp=>by have:=I.vl p hp;omega) (by omega);simp only [List.nil_append] at this;rw [this];rfl
theorem Ke (k:Nat) (m:Mod) (w:Int) (hn:(m.rows.map (·.1)).Nodup):∀ (cur done:List (Str×Qm)) (kl:Nat) (b:Bool),done++cur=m.rows→cur.length<kl →
  Q8 k m w kl b (cur.map (·.1))=some (b||cur.any fun p=>p.2.intent.Writer==w)
 | [],done,kl,b,_,h=>by
  obtain ⟨kl,rfl⟩:∃ q,kl=q+1:=⟨kl-1,by simp at h;omega⟩;rw [Q8.eq_2];simp [V9]
 | (y,u)::cur,done,kl,b,B,h=>by
  obtain ⟨kl,rfl⟩:∃ q,kl=q+1:=⟨kl-1,by simp at h;omega⟩;rw [← B] at hn;obtain ⟨E,G,H⟩:=KA hn;rw [Q8.eq_2,List.map_cons,VZ,← B,JG E,Option.getD_some];rw [Ke k m w (B ▸ hn) cur (done++[(y,u)]) kl _ (by rw [← B];simp) (by simp at h;omega)];simp [Bool.or_assoc]
def commitS (m:Mod) (w:Int):Qk×Mod :=
 if (m.rows.any fun p=>p.2.intent.Writer==w)=false then (ans 0,endS m w 3 0)
 else if m.clock=m.c.TS then (ans 35,endS m w 4 0)
 else (ans 0,endS { m with clock:=m.clock+1 } w 3 (m.clock+1))
theorem Inv.clock {n:Nat} {m:Mod} (I:Inv n m):Inv (n+1) { m with clock:=m.clock+1 } :=
 ⟨I.nd,I.nm,by have:=I.tl;simp;omega,by have:=I.rl;simp;omega,fun p hp=>by have:=I.vl p hp;omega,by have:=I.ck;simp;omega,fun t=>by have:=I.mn t;simp;omega,I.wp⟩
theorem commit_ev {n:Nat} {m:Mod} (I:Inv n m) (hn:n<1000000) {w:Int} (B:1≤w) (E:w≤(m.txs.length:Int)) (t:Int) (x:QZ):Ev (fun k=>Y0 k m w t x) (commitS m w):=by
 have G:=I.rl;have H:=I.ck;have e:=wr (x:=m.clock+1) (by omega) (by omega);unfold Y0;refine Ev.pos I.nd ?_
 refine Ev.bind (v:=m.rows.any fun p=>p.2.intent.Writer==w) ⟨m.rows.length+1,fun k hk=>by
  have:=Ke k m w I.nd m.rows [] k false rfl (by omega);exact this.trans (by simp)⟩ ?_
 unfold commitS
 cases hb:(m.rows.any fun p=>p.2.intent.Writer==w) with
 | false =>
  refine Ev.pos rfl ?_;rw [if_pos rfl];exact (end_ev I (by omega) B E 3 0).bind (Ev.pure _)
 | true =>
  refine Ev.neg (by simp) ?_;rw [if_neg (by simp)]
  by_cases hc:m.clock=m.c.TS
  ·rw [if_pos hc];refine Ev.pos (by simpa using hc) ?_;exact (end_ev I (by omega) B E 4 0).bind (Ev.pure _)
  ·rw [if_neg hc];refine Ev.neg (by simpa using hc) ?_;simp only [e];exact (end_ev I.clock (by omega) B E 3 (m.clock+1)).bind (Ev.pure _)
def keptRow (f:Int) (r:Qm):Qm:=⟨kept r.l f,r.intent⟩
theorem qm (k:Nat) (m:Mod) (n:Nat) (hk:n<k) (hb:n≤1000000):∀ (cur done:List (Str×Qm)) (kl:Nat),((done++cur).map (·.1)).Nodup→(∀ p∈cur,p.2.l.length≤n)→cur.length<kl →
  Qe k m kl (done++cur) (cur.map (·.1))=some (done++eachS (keptRow m.floor) cur)
 | [],done,kl,_,_,h=>by
  obtain ⟨kl,rfl⟩:∃ q,kl=q+1:=⟨kl-1,by simp at h;omega⟩;rw [Qe.eq_2];simp [V9,eachS]
 | (y,u)::cur,done,kl,hn,hl,h=>by
  obtain ⟨kl,rfl⟩:∃ q,kl=q+1:=⟨kl-1,by simp at h;omega⟩;obtain ⟨B,E,G⟩:=KA hn;have hu:=hl _ List.mem_cons_self;have hm:y∈(done++(y,u)::cur).map (fun p=>p.1):=by simp
  rw [Qe.eq_2,List.map_cons,VZ,JG B,Option.getD_some];simp only [Yc];rw [QAe u.l m.floor k (by simp at hu;omega) (by simp at hu;omega)];simp only [Option.bind_some];rw [if_pos hm,J3 B]
  have hr:(eachS (keptRow m.floor) ((y,u)::cur))=(if gone (keptRow m.floor u)=true then [] else [(y,keptRow m.floor u)])++eachS (keptRow m.floor) cur:=by
   simp only [eachS,List.filterMap_cons];split<;>simp_all
  have hg:((((kept u.l m.floor).length:Int)==(0:Int))&&(u.intent.Writer==(0:Int)))=gone (keptRow m.floor u):=rfl;rw [hr,hg]
  cases hq:gone (keptRow m.floor u) with
  | true =>
   simp only [if_true,Option.bind_some];rw [if_pos E,J5 B];simp only [Option.bind_some];rw [qm k m n hk hb cur done kl G (fun p hp=>hl p (List.mem_cons_of_mem _ hp)) (by simp at h;omega)];rfl
  | false =>
   simp only [Bool.false_eq_true,if_false,Option.bind_some];have e:done++(y,(⟨kept u.l m.floor,⟨u.intent.Writer,u.intent.TS,u.intent.Tomb,u.intent.Value⟩⟩:Qm))::cur=(done++[(y,keptRow m.floor u)])++cur:=by simp [keptRow]
   rw [e,qm k m n hk hb cur (done++[(y,keptRow m.floor u)]) kl (by simpa using hn) (fun p hp=>hl p (List.mem_cons_of_mem _ hp)) (by simp at h;omega)];simp
def floorL:List Xd→Int→Int
 | [],f=>f
 | x::t,f=>floorL t (if x.state=1 then imin f x.snapshot else f)
theorem QBd (m:Mod) (hl:m.txs.length≤1000000):∀ (j i:Nat) (f:Int),i+j=m.txs.length→∀ k,j<k→Z0 m k (i:Int) f=some (floorL (m.txs.drop i) f):=by
 intro j
 induction j with
 | zero =>
  intro i f hi k hk;obtain ⟨k,rfl⟩:∃ k',k=k'+1:=⟨k-1,by omega⟩;rw [Z0.eq_2,List.drop_of_length_le (by omega)];have:¬ ((i:Int)<(m.txs.length:Int)):=by omega
  simp [this,floorL]
 | succ j ih =>
  intro i f hi k hk;obtain ⟨k,rfl⟩:∃ k',k=k'+1:=⟨k-1,by omega⟩;have hlt:i<m.txs.length:=by omega
  have B:(i:Int)<(m.txs.length:Int):=by omega
  rw [Z0.eq_2,List.drop_eq_getElem_cons hlt,floorL];simp only [B,decide_true,if_true,inR hlt,and_self,rdN hlt,wr1 (i:=i) (by omega)]
  by_cases hc:m.txs[i].state=1
  ·simp only [hc,beq_self_eq_true,if_true,Option.bind_some];exact ih (i+1) _ (by omega) k (by omega)
  ·have hb:(m.txs[i].state==(1:Int))=false:=by simpa using hc
   simp only [hb,hc,Bool.false_eq_true,if_false,Option.bind_some];exact ih (i+1) _ (by omega) k (by omega)
def vacS (m:Mod):Mod:={ m with floor:=floorL m.txs m.clock,rows:=eachS (keptRow (floorL m.txs m.clock)) m.rows }
theorem vac_ev {n:Nat} {m:Mod} (I:Inv n m) (hn:n≤1000000) (w t:Int) (x:QZ):Ev (fun k=>Yz k m w t x) (ans 0,vacS m):=by
 have B:=I.tl;have E:=I.rl;refine ⟨n+1,fun k hk=>?_⟩;unfold Yz;have e:=QBd m (by omega) m.txs.length 0 m.clock (by omega) k (by omega);show Option.bind (Z0 m k ((0:Nat):Int) m.clock) _=_;rw [e];simp only [Option.bind_some,ZW,List.drop_zero];rw [if_pos I.nd];have:=qm k { m with floor:=floorL m.txs m.clock } n (by omega) hn m.rows [] k (by simpa using I.nd) I.vl (by omega);simp only [List.nil_append] at this
 change Option.bind (Option.bind (Qe k { m with floor:=floorL m.txs m.clock } k m.rows (m.rows.map (·.1))) _) _=_
 rw [this];rfl
def keysS (m:Mod):List Str:=isort ltS (m.rows.map fun p=>p.1)
theorem K5 {n:Nat} {m:Mod} (I:Inv n m) (hn:n≤1000000) (k:Nat):Zc k m=some (keysS m):=by
 have B:=I.rl;simp only [Zc,Qy,Qc,Option.bind_some];rw [if_pos ⟨I.nd,by omega⟩];rfl
theorem UL (m:Mod):(keysS m).length=m.rows.length:=by
 have:=(Vu (lt:=ltS) (m.rows.map fun p=>p.1)).length_eq
 simpa [keysS] using this
theorem QAu {m:Mod} {y:Str}:y∈keysS m↔y∈m.rows.map (·.1):=(Vu (lt:=ltS) (m.rows.map fun p=>p.1)).mem_iff
def withinB (a b c:Str):Bool:=(sbin .leq b a)&&((sbin .eql c ([]:Str))||(sbin .lss a c))
def scanL (m:Mod) (w:Int) (x:QZ):List Str→List Qo→List Qo
 | [],out=>out
 | key::t,out=>if (out.length:Int)=x.Limit then out
  else scanL m w x t (if (seeS m w (rowOf m key)).2=true∧withinB key x.Key x.End=true then out++[⟨key,(seeS m w (rowOf m key)).1⟩] else out)
theorem QCB {n:Nat} {m:Mod} (I:Inv n m) (hn:n≤1000000) {w:Int} (B:1≤w) (E:w≤(m.txs.length:Int)) (x:QZ) (L:List Str) (hL:L.length≤1000000):∀ (j i:Nat) (out:List Qo),i+j=L.length→out.length≤i →
  Ev (fun k=>YI m w x L k out (i:Int)) (scanL m w x (L.drop i) out):=by
 intro j
 induction j with
 | zero =>
  intro i out hi ho;refine Ev.shift 1 ⟨0,fun k hk=>?_⟩;show YI m w x L (k+1) out (i:Int)=_;rw [YI.eq_2,List.drop_of_length_le (by omega)];have:¬ ((i:Int)<(L.length:Int)):=by omega
  simp [this,scanL]
 | succ j ih =>
  intro i out hi ho;have hlt:i<L.length:=by omega
  have G:(i:Int)<(L.length:Int):=by omega
  refine Ev.shift 1 ?_;refine Ev.congr (g:=fun k=>_) ?_ (fun k=>by rw [YI.eq_2]);rw [List.drop_eq_getElem_cons hlt,scanL];refine Ev.pos (by simpa using G) ?_;refine Ev.pos (inR hlt) ?_
  by_cases hc:(out.length:Int)=x.Limit
  ·rw [if_pos hc];exact Ev.pos (by simpa using hc) (Ev.pure _)
  ·rw [if_neg hc];refine Ev.neg (by simpa using hc) ?_;rw [rdN hlt];have H:=(I.row L[i]).1;have K:=I.tl;refine (see_ev B E (by omega) (r:=rowOf m L[i]) (by omega)).bind ?_;refine Ev.bind (v:=(seeS m w (rowOf m L[i])).2&&withinB L[i] x.Key x.End) ?_ ?_
   ·cases (seeS m w (rowOf m L[i])).2 with
    | true=>exact Ev.pos rfl (Ev.pure _)
    | false=>exact Ev.neg (by simp) (Ev.pure _)
   refine Ev.bind (v:=if (seeS m w (rowOf m L[i])).2=true∧withinB L[i] x.Key x.End=true then out++[⟨L[i],(seeS m w (rowOf m L[i])).1⟩] else out) ?_ ?_
   ·by_cases hq:(seeS m w (rowOf m L[i])).2=true∧withinB L[i] x.Key x.End=true
    ·rw [if_pos hq];exact Ev.pos (by simpa using hq) (Ev.pos (by simp;omega) (Ev.pure _))
    ·rw [if_neg hq];exact Ev.neg (by simpa using hq) (Ev.pure _)
   ·rw [wr1 (i:=i) (by omega)];exact ih (i+1) _ (by omega) (by split<;>first | omega | (simp;omega))
def scanS (m:Mod) (w:Int) (x:QZ):Qk:=⟨0,false,[],scanL m w x (keysS m) []⟩
theorem scan_ev {n:Nat} {m:Mod} (I:Inv n m) (hn:n≤1000000) {w:Int} (B:1≤w) (E:w≤(m.txs.length:Int)) (t:Int) (x:QZ):Ev (fun k=>XG k m w t x) (scanS m w x):=by
 unfold XG;have G:=I.rl;refine Ev.bind (v:=keysS m) ⟨0,fun k _=>K5 I hn k⟩ ?_;have:=QCB I hn B E x (keysS m) (by rw [UL];omega) (keysS m).length 0 [] (by omega) (by simp);rw [List.drop_zero] at this;exact this.bind (Ev.pure _)
def actS (m:Mod) (w t:Int) (x:QZ):Qk×Mod :=
 if x.Kind=1 then beginS m t else if x.Kind=2 then (getS m w x,m) else if x.Kind=3 then writeS m x.Key ⟨w,0,false,x.Value⟩ else if x.Kind=4 then writeS m x.Key ⟨w,0,true,[]⟩
 else if x.Kind=5 then (scanS m w x,m) else if x.Kind=6 then commitS m w else if x.Kind=7 then (ans 0,endS m w 4 0) else if x.Kind=8 then (ans 0,vacS m) else (ans 0,m)
def doS (m:Mod) (t:Int) (x:QZ):Qk×Mod:=if refS m t x≠0 then (ans (refS m t x),m) else actS m (txS m t x.Tx).1 t x
theorem KW {m:Mod} {t:Int} {x:QZ} (h:refS m t x=0):1≤x.Kind∧x.Kind≤9∧0≤t∧t<m.c.Tasks:=by
 unfold refS at h
 split at h
 ·cases h
 ·omega
theorem Kp {n:Nat} {m:Mod} (I:Inv n m) {t:Int} {x:QZ} (h:refS m t x=0) (hk:x.Kind≠1∧x.Kind≠8∧x.Kind≠9) :
  1≤(txS m t x.Tx).1∧(txS m t x.Tx).1≤(m.txs.length:Int)∧mget m.names ⟨t,x.Tx⟩=some (txS m t x.Tx).1∧(rd m.txs ((txS m t x.Tx).1-1)).state=1:=by
 have hq:needsB x.Kind=true:=by simp [needsB,hk]
 unfold refS at h
 split at h
 ·cases h
 split at h
 ·cases h
 split at h
 ·split at h<;>cases h
 next hc =>
  have B:(txS m t x.Tx).2.1=1:=by simpa [hq] using hc
  unfold txS at B ⊢
  cases hm:mget m.names ⟨t,x.Tx⟩ with
  | none=>simp [hm] at B
  | some w =>
   simp only [hm] at B ⊢;exact ⟨(I.nm _ _ hm).1,(I.nm _ _ hm).2,trivial,B⟩
theorem do_ev {n:Nat} {m:Mod} (I:Inv n m) (hn:n<1000000) (t:Int) (x:QZ):Ev (fun k=>Yf k m t x) (doS m t x):=by
 unfold Yf;refine Ev.bind (v:=refS m t x) ⟨9,fun k hk=>QAH I (by omega) k hk t x⟩ ?_;unfold doS
 by_cases h0:refS m t x=0
 ·rw [if_neg (by simpa using h0)];refine Ev.neg (by simpa using h0) ?_;refine Ev.bind (v:=txS m t x.Tx) ⟨0,fun k _=>Tx_eq I (by omega) k t x.Tx⟩ ?_;obtain ⟨W,Y,_,_⟩:=KW h0;refine Ev.pos ⟨by omega,by omega⟩ ?_;have hw:=fun hk=>Kp I h0 hk;unfold actS
  by_cases B:x.Kind=1
  ·rw [if_pos B];exact Ev.pos (by simpa using B) ((QBj I (by omega) _ t x).bind (Ev.pure _))
  rw [if_neg B];refine Ev.neg (by simpa using B) ?_
  by_cases E:x.Kind=2
  ·rw [if_pos E];obtain ⟨a,b,_⟩:=hw (by omega);exact Ev.pos (by simpa using E) ((get_ev I (by omega) a b t x).bind (Ev.pure _))
  rw [if_neg E];refine Ev.neg (by simpa using E) ?_
  by_cases G:x.Kind=3
  ·rw [if_pos G];obtain ⟨a,b,_⟩:=hw (by omega);refine Ev.pos (by simpa using G) (Ev.bind (v:=writeS m x.Key ⟨(txS m t x.Tx).1,0,false,x.Value⟩) ?_ (Ev.pure _));unfold Xa;exact (write_ev I (by omega) x.Key ⟨(txS m t x.Tx).1,0,false,x.Value⟩ a b).bind (Ev.pure _)
  rw [if_neg G];refine Ev.neg (by simpa using G) ?_
  by_cases H:x.Kind=4
  ·rw [if_pos H];obtain ⟨a,b,_⟩:=hw (by omega);refine Ev.pos (by simpa using H) (Ev.bind (v:=writeS m x.Key ⟨(txS m t x.Tx).1,0,true,[]⟩) ?_ (Ev.pure _));unfold Xb;exact (write_ev I (by omega) x.Key ⟨(txS m t x.Tx).1,0,true,[]⟩ a b).bind (Ev.pure _)
  rw [if_neg H];refine Ev.neg (by simpa using H) ?_
  by_cases K:x.Kind=5
  ·rw [if_pos K];obtain ⟨a,b,_⟩:=hw (by omega);exact Ev.pos (by simpa using K) ((scan_ev I (by omega) a b t x).bind (Ev.pure _))
  rw [if_neg K];refine Ev.neg (by simpa using K) ?_
  by_cases O:x.Kind=6
  ·rw [if_pos O];obtain ⟨a,b,_⟩:=hw (by omega);exact Ev.pos (by simpa using O) ((commit_ev I hn a b t x).bind (Ev.pure _))
  rw [if_neg O];refine Ev.neg (by simpa using O) ?_
  by_cases U:x.Kind=7
  ·rw [if_pos U];obtain ⟨a,b,_⟩:=hw (by omega);refine Ev.pos (by simpa using U) (Ev.bind (v:=(ans 0,endS m (txS m t x.Tx).1 4 0)) ?_ (Ev.pure _));unfold XO;exact (end_ev I (by omega) a b 4 0).bind (Ev.pure _)
  rw [if_neg U];refine Ev.neg (by simpa using U) ?_
  by_cases V:x.Kind=8
  ·rw [if_pos V];exact Ev.pos (by simpa using V) ((vac_ev I (by omega) _ t x).bind (Ev.pure _))
  rw [if_neg V];refine Ev.neg (by simpa using V) ?_;refine Ev.pos (by simp;omega) ?_;exact ((Ev.pure (ans 0)).bind (Ev.pure _))
 ·rw [if_pos (by simpa using h0)];exact Ev.pos (by simpa using h0) (Ev.pure _)
theorem Uy {one:Qm→Qm} {l:List (Str×Qm)} {q:Str×Qm}:q∈eachS one l↔∃ p∈l,gone (one p.2)=false∧q=(p.1,one p.2):=by
 simp only [eachS,List.mem_filterMap]
 constructor
 ·rintro ⟨p,hp,h⟩
  split at h
  ·cases h
  ·next hg=>exact ⟨p,hp,by simpa using hg,(Option.some.inj h).symm⟩
 ·rintro ⟨p,hp,B,E⟩;exact ⟨p,hp,by rw [if_neg (by simp [B]),E]⟩
theorem QA0 (one:Qm→Qm) (l:List (Str×Qm)):(eachS one l).length≤l.length:=List.length_filterMap_le _ _
theorem KG (one:Qm→Qm):∀ l:List (Str×Qm),((eachS one l).map (·.1)).Sublist (l.map (·.1))
 | []=>List.Sublist.refl _
 | p::l=>by
  have ih:=KG one l;simp only [eachS,List.filterMap_cons,List.map_cons] at ih ⊢
  split
  ·next h=>exact ih.cons _
  ·next q h =>
   split at h
   ·cases h
   ·cases h;rw [List.map_cons];exact ih.cons_cons _
theorem qc {one:Qm→Qm} {l:List (Str×Qm)} (h:(l.map (·.1)).Nodup):((eachS one l).map (·.1)).Nodup:=h.sublist (KG one l)
theorem Inv.each {n:Nat} {m:Mod} (I:Inv n m) (one:Qm→Qm) (B:∀ p∈m.rows,(one p.2).l.length≤n+1) (E:∀ p∈m.rows,0≤(one p.2).intent.Writer) (f:Int):Inv (n+1) { m with rows:=eachS one m.rows,floor:=f } where
 nd:=qc I.nd
 nm:=I.nm
 tl:=by have:=I.tl;simp;omega
 rl:=by have:=I.rl;have:=QA0 one m.rows;simp;omega
 vl:=fun q hq=>by obtain ⟨p,hp,_,rfl⟩:=Uy.1 hq;exact B p hp
 ck:=by have:=I.ck;simp;omega
 mn:=fun t=>by have:=I.mn t;simp;omega
 wp:=fun q hq=>by obtain ⟨p,hp,_,rfl⟩:=Uy.1 hq;exact E p hp
theorem q8 (w ts:Int) (r:Qm):(endRow w ts r).l.length≤r.l.length+1:=by
 unfold endRow;split
 ·omega
 ·split<;>simp
theorem QAz (w ts:Int) {r:Qm} (h:0≤r.intent.Writer):0≤(endRow w ts r).intent.Writer:=by
 unfold endRow;split
 ·exact h
 ·exact Int.le_refl _
theorem Inv.set {n:Nat} {m:Mod} (I:Inv n m) (i:Nat) (x:Xd):Inv n { m with txs:=m.txs.set i x } :=
 ⟨I.nd,fun y w h=>by simpa using I.nm y w h,by simpa using I.tl,I.rl,I.vl,I.ck,I.mn,I.wp⟩
theorem Inv.end_ {n:Nat} {m:Mod} (I:Inv n m) (w st ts:Int):Inv (n+1) (endS m w st ts) :=
 (I.set (w-1).toNat ⟨st,(rd m.txs (w-1)).snapshot⟩).each (endRow w ts) (fun p hp=>by have:=q8 w ts p.2;have:=I.vl p hp;omega) (fun p hp=>QAz w ts (I.wp p hp)) m.floor
theorem Inv.end' {n:Nat} {m:Mod} (I:Inv n m) (w st ts:Int) (hc:m.clock+1≤(n:Int)+1):Inv (n+1) (endS { m with clock:=m.clock+1 } w st ts):=by
 have J:Inv (n+1) (endS m w st ts):=I.end_ w st ts;have:=I.ck;exact ⟨J.nd,J.nm,J.tl,J.rl,J.vl,by show 0≤m.clock+1∧m.clock+1≤_;simp;omega,J.mn,J.wp⟩
theorem Inv.vac {n:Nat} {m:Mod} (I:Inv n m):Inv (n+1) (vacS m) :=
 I.each (keptRow _) (fun p hp=>by have:=QBY p.2.l (floorL m.txs m.clock);have:=I.vl p hp;simp [keptRow];omega) (fun p hp=>I.wp p hp) _
theorem Inv.write {n:Nat} {m:Mod} (I:Inv n m) (key:Str) (v:QS) (hv:0≤v.Writer):Inv (n+1) (writeS m key v).2:=by
 have J:=I.mono (n':=n+1) (by omega);unfold writeS;dsimp only
 split
 ·exact J
 split
 ·exact J
 split
 ·exact J
 refine ⟨UN I.nd,J.nm,J.tl,?_,fun p hp=>?_,J.ck,J.mn,fun p hp=>?_⟩
 ·have:=I.rl;have h:=Je (k:=key) (v:=(⟨(rowOf m key).l,v⟩:Qm)) m.rows;show (mput m.rows key _).length≤_;rw [h];split<;>omega
 ·rcases (UE I.nd p).1 hp with rfl | ⟨h,_⟩
  ·have:=(I.row key).1;show (rowOf m key).l.length≤_;omega
  ·exact J.vl p h
 ·rcases (UE I.nd p).1 hp with rfl | ⟨h,_⟩
  ·exact hv
  ·exact I.wp p h
theorem Inv.begin {n:Nat} {m:Mod} (I:Inv n m) (t:Int):Inv (n+1) (beginS m t).2:=by
 have J:=I.mono (n':=n+1) (by omega);unfold beginS
 split
 ·exact J
 refine ⟨I.nd,fun x w h=>?_,by have:=I.tl;simp;omega,J.rl,J.vl,J.ck,fun u=>?_,I.wp⟩
 ·simp only [List.length_append,List.length_singleton];have h:mget (mput m.names ⟨t,(mget m.many t).getD 0+1⟩ ((m.txs.length:Int)+1)) x=some w:=h;rw [Vx] at h
  split at h
  ·cases h;omega
  ·have:=I.nm x w h;omega
 ·have B:=I.mn t;have E:=I.mn u;show 0≤(mget (mput m.many t _) u).getD 0∧(mget (mput m.many t _) u).getD 0≤_;rw [Vx]
  split
  ·simp;omega
  ·simp;omega
theorem Inv.do_ {n:Nat} {m:Mod} (I:Inv n m) (t:Int) (x:QZ):Inv (n+1) (doS m t x).2:=by
 have J:=I.mono (n':=n+1) (by omega);unfold doS
 by_cases h0:refS m t x=0
 ·rw [if_neg (by simpa using h0)];have hw:=fun hk=>Kp I h0 hk;unfold actS
  split
  ·exact I.begin t
  split
  ·exact J
  split
  ·exact I.write _ _ (by have:=hw (by omega);show 0≤(txS m t x.Tx).1;omega)
  split
  ·exact I.write _ _ (by have:=hw (by omega);show 0≤(txS m t x.Tx).1;omega)
  split
  ·exact J
  split
  ·unfold commitS
   split
   ·exact I.end_ _ _ _
   split
   ·exact I.end_ _ _ _
   ·exact I.end' _ _ _ (by have:=I.ck;omega)
  split
  ·exact I.end_ _ _ _
  split
  ·exact I.vac
  ·exact J
 ·rw [if_pos (by simpa using h0)];exact J
theorem UP {p:Prop} [Decidable p] {a b:Qk×Mod} {c:Qb} (h:a.2.c=c) (B:b.2.c=c):(if p then a else b).2.c=c:=by split<;>assumption
theorem QBk (m:Mod) (t:Int):(beginS m t).2.c=m.c:=UP rfl rfl
theorem K9 (m:Mod) (k:Str) (v:QS):(writeS m k v).2.c=m.c:=UP rfl (UP rfl (UP rfl rfl))
theorem QA3 (m:Mod) (w:Int):(commitS m w).2.c=m.c:=UP rfl (UP rfl rfl)
theorem doS_c (m:Mod) (t:Int) (x:QZ):(doS m t x).2.c=m.c :=
 UP rfl (UP (QBk _ _) (UP rfl (UP (K9 _ _ _) (UP (K9 _ _ _) (UP rfl (UP (QA3 _ _) (UP rfl (UP rfl rfl))))))))
def newS (c:Qb):Mod:=⟨c,[],[],[],[],0,0⟩
theorem Inv.new (c:Qb):Inv 0 (newS c) :=
 ⟨List.nodup_nil,fun x w h=>by simp [newS] at h,by simp [newS],by simp [newS],fun p hp=>by simp [newS] at hp,by simp [newS],fun t=>by simp [newS],fun p hp=>by simp [newS] at hp⟩
theorem New_eq (k:Nat) (hk:9≤k) (c:Qb):VA k c=some (if mayB c=true then .inr (newS c) else .inl ()):=by
 simp only [VA,JP k c hk,Option.bind_some]
 cases mayB c<;>rfl
def retS (m:Mod):List Str→Int
 | []=>0
 | y::t=>((rowOf m y).l.length:Int)+imin 1 (rowOf m y).intent.Writer+retS m t
theorem imin1 {x:Int} (h:0≤x):0≤imin 1 x∧imin 1 x≤1:=by unfold imin;split<;>omega
theorem qt {n:Nat} {m:Mod} (I:Inv n m):∀ L:List Str,0≤retS m L∧retS m L≤(L.length:Int)*((n:Int)+1)
 | []=>by simp [retS]
 | y::t=>by
  have ih:=qt I t;have h:=I.row y;have:=imin1 h.2;have e:((t.length:Int)+1)*((n:Int)+1)=(t.length:Int)*((n:Int)+1)+((n:Int)+1):=by rw [Int.add_mul,Int.one_mul]
  simp only [retS,List.length_cons];rw [show (((t.length+1:Nat)):Int)=(t.length:Int)+1 from rfl,e];omega
theorem ret_l0 {n:Nat} {m:Mod} (I:Inv n m) (hn:n≤1000000) (L:List Str) (hL:L.length≤1000000):∀ (j i:Nat) (s:Int),i+j=L.length→0≤s→s≤(i:Int)*((n:Int)+1)→∀ k,j<k →
  ZZ m L k s (i:Int)=some (s+retS m (L.drop i)):=by
 intro j
 induction j with
 | zero =>
  intro i s hi h0 B k hk;obtain ⟨k,rfl⟩:∃ k',k=k'+1:=⟨k-1,by omega⟩;rw [ZZ.eq_2,List.drop_of_length_le (by omega)];have:¬ ((i:Int)<(L.length:Int)):=by omega
  simp [this,retS]
 | succ j ih =>
  intro i s hi h0 B k hk;obtain ⟨k,rfl⟩:∃ k',k=k'+1:=⟨k-1,by omega⟩;have hlt:i<L.length:=by omega
  have E:(i:Int)<(L.length:Int):=by omega
  have h:=I.row L[i];have hm:=imin1 h.2;have e:((i:Int)+1)*((n:Int)+1)=(i:Int)*((n:Int)+1)+((n:Int)+1):=by rw [Int.add_mul,Int.one_mul]
  have hb:(i:Int)*((n:Int)+1)≤1000000*1000001:=Int.mul_le_mul (by omega) (by omega) (by omega) (by omega);rw [ZZ.eq_2,List.drop_eq_getElem_cons hlt,retS];simp only [E,decide_true,if_true,inR hlt,and_self,rdN hlt,wr1 (i:=i) (by omega)]
  change ZZ m L k (IntKind.i64.wrap (s+IntKind.i64.wrap (((rowOf m L[i]).l.length:Int)+imin 1 (rowOf m L[i]).intent.Writer))) _=_
  rw [wr (x:=((rowOf m L[i]).l.length:Int)+imin 1 (rowOf m L[i]).intent.Writer) (by omega) (by omega),wr (x:=s+_) (by omega) (by omega)];rw [ih (i+1) _ (by omega) (by omega) (by rw [show (((i+1:Nat)):Int)=(i:Int)+1 from rfl,e];omega) k (by omega)]
  congr 1;omega
theorem Ret_ev {n:Nat} {m:Mod} (I:Inv n m) (hn:n≤1000000):Ev (fun k=>Yx k m) (retS m (keysS m)):=by
 have:=I.rl;have hl:=UL m;refine ⟨n+1,fun k hk=>?_⟩;show Option.bind (Zc k m) _=_;rw [K5 I hn];have h:=ret_l0 I hn (keysS m) (by omega) (keysS m).length 0 0 (by omega) (by omega) (by simp) k (by omega);show Option.bind (ZZ m (keysS m) k 0 ((0:Nat):Int)) _=_;rw [h];simp
theorem KV (m:Mod) (w:Int) (x:QZ):∀ (L:List Str) (out:List Qo),(scanL m w x L out).length≤out.length+L.length
 | [],out=>by simp [scanL]
 | y::t,out=>by
  unfold scanL
  split
  ·omega
  ·refine Nat.le_trans (KV m w x t _) ?_
   split<;>simp<;>omega
theorem UO {p:Prop} [Decidable p] {a b:Qk×Mod} {n:Nat} (h:a.1.Pairs.length≤n) (B:b.1.Pairs.length≤n):(if p then a else b).1.Pairs.length≤n:=by split<;>assumption
theorem QA2 {n:Nat} {m:Mod} (I:Inv n m) (t:Int) (x:QZ):(doS m t x).1.Pairs.length≤n:=by
 have z:∀ e,(ans e).Pairs.length≤n:=fun e=>Nat.zero_le _;have hg:∀ w,(getS m w x).Pairs.length≤n:=fun w=>by unfold getS;split<;>exact Nat.zero_le _
 have hs:∀ w,(scanS m w x).Pairs.length≤n:=fun w=>by
  have:=KV m w x (keysS m) [];have B:=UL m;have E:=I.rl;show (scanL m w x (keysS m) []).length≤n;simp at this;omega
 have hb:(beginS m t).1.Pairs.length≤n:=UO (z _) (z _);have hw:∀ k v,(writeS m k v).1.Pairs.length≤n:=fun k v=>UO (z _) (UO (z _) (UO (z _) (Nat.zero_le _)));have hc:∀ w,(commitS m w).1.Pairs.length≤n:=fun w=>UO (z _) (UO (z _) (z _));exact UO (z _) (UO hb (UO (hg _) (UO (hw _ _) (UO (hw _ _) (UO (hs _) (UO (hc _) (UO (z _) (UO (z _) (z _)))))))))
end Go.Proofs.YtnjbjpaiepefoaaGreatDoor
