import Derived.Test.YtcngjjlhdlbogaaDoorPureRef1
namespace Go.Proofs.YtcngjjlhdlbogaaDoor
open Go Go.RowKit
set_option linter.unusedVariables false
set_option linter.unusedSimpArgs false
set_option maxRecDepth 100000
abbrev RM:=QH
abbrev RK:=QR
abbrev RT:=Qj
def keyOf (p:Str×Ql):RK:=⟨p.1,p.2.l,decide (p.2.intent.Writer≠0),p.2.intent⟩
def goneK (y:RK):Bool:=((y.L.length:Int)==(0:Int))&&!y.Has
theorem Vk (p:Str×Ql):goneK (keyOf p)=gone p.2:=by
 unfold goneK gone keyOf
 by_cases h:p.2.intent.Writer=0<;>simp [h]
structure Rel (m:Mod) (x:RM):Prop where
 c:x.C=m.c
 t:x.T.map (fun z=>(⟨z.State,z.Snapshot⟩:Z9))=m.txs
 n1:∀ (i:Nat) (h:i<x.T.length),mget m.names ⟨x.T[i].Task,x.T[i].N⟩=some ((i:Int)+1)
 n2:∀ k w,mget m.names k=some w→∃ (i:Nat) (h:i<x.T.length),w=(i:Int)+1∧x.T[i].Task=k.task∧x.T[i].N=k.n
 n3:∀ (i:Nat) (h:i<x.T.length),x.T[i].N≤(mget m.many x.T[i].Task).getD 0
 mn:∀ t,(mget m.many t).getD 0=((x.T.filter fun z=>decide (z.Task=t)).length:Int)
 so:x.L.Pairwise fun a b=>ltS a.Key b.Key=true
 me:∀ y,y∈x.L↔∃ p∈m.rows,y=keyOf p
 go:∀ y∈x.L,goneK y=false
 kl:∀ y∈x.L,y.Key.length≤64
 ti:x.Time=m.clock
 lo:x.Low=m.floor
theorem Rel.new (c:Qw):Rel (newS c) ⟨c,[],[],0,0⟩ :=
 ⟨rfl,rfl,fun i h=>by simp at h,fun k w h=>by simp [newS] at h,fun i h=>by simp at h,fun t=>by simp [newS],List.Pairwise.nil,fun y=>by simp [newS],fun y h=>(by cases h),fun y h=>(by cases h),rfl,rfl⟩
section
variable {n:Nat} {m:Mod} {x:RM}
theorem Rel.tlen (R:Rel m x):x.T.length=m.txs.length:=by rw [← R.t,List.length_map]
theorem Rel.tx (R:Rel m x) {i:Nat} (h:i<x.T.length):rd m.txs (i:Int)=⟨x.T[i].State,x.T[i].Snapshot⟩:=by
 rw [rdN (by rw [← R.tlen];exact h)]
 have:=R.t
 simp only [← this,List.getElem_map]
theorem qh (a:Str):¬ ltS a a=true:=by have:=X9.irrefl a;simpa using this
theorem J6 {a b:Str} (h:ltS a b=true):a≠b:=fun e=>qh a (by rw [e] at h ⊢;exact h)
theorem Rel.nodupK (R:Rel m x):(x.L.map (·.Key)).Nodup:=by
 have h:(x.L.map (·.Key)).Pairwise (fun a b=>ltS a b=true):=List.pairwise_map.2 R.so
 exact h.imp fun h=>J6 h
theorem Rel.keys (R:Rel m x) (I:Inv n m):keysS m=x.L.map (·.Key):=by
 refine Vq Xo ?_ (Xk X9 _) ?_
 ·refine (List.perm_ext_iff_of_nodup ((Xd _).nodup_iff.2 I.nd) R.nodupK).2 fun y=>?_
  rw [show y∈isort ltS (m.rows.map fun p=>p.1)↔y∈m.rows.map (·.1) from KU]
  simp only [List.mem_map]
  constructor
  ·rintro ⟨p,hp,rfl⟩;exact ⟨keyOf p,(R.me _).2 ⟨p,hp,rfl⟩,rfl⟩
  ·rintro ⟨k,hk,rfl⟩
   obtain ⟨p,hp,rfl⟩:=(R.me _).1 hk
   exact ⟨p,hp,rfl⟩
 ·refine List.pairwise_map.2 (R.so.imp fun {a b} h=>?_)
  have:=X9.asymmA h
  simp [this]
theorem Rel.llen (R:Rel m x) (I:Inv n m):x.L.length=m.rows.length:=by
 have:=R.keys I
 rw [← Xx,this,List.length_map]
theorem Rel.at_ (R:Rel m x) (I:Inv n m) {y:RK} (h:y∈x.L):y=keyOf (y.Key,rowOf m y.Key):=by
 obtain ⟨p,hp,rfl⟩:=(R.me y).1 h
 have:rowOf m p.1=p.2:=by unfold rowOf;rw [Kv I.nd hp];rfl
 show keyOf p=keyOf (p.1,rowOf m p.1)
 rw [this]
theorem Rel.none_ (R:Rel m x) {key:Str} (h:∀ y∈x.L,y.Key≠key):rowOf m key=J5:=by
 unfold rowOf
 cases hm:mget m.rows key with
 | none=>rfl
 | some r=>exact absurd rfl (h (keyOf (key,r)) ((R.me _).2 ⟨_,UJ hm,rfl⟩))
def fT (t n:Int):List RT→Nat→Int×Int×Int
 | [],_=>(0,0,0)
 | z::r,i=>if z.Task=t∧z.N=n then ((i:Int)+1,z.State,z.Snapshot) else fT t n r (i+1)
theorem rTx_l0 (x:RM) (hl:x.T.length≤1000000) (t n:Int):∀ (j i:Nat),i+j=x.T.length→∃ v,(∀ k,j<k→ZT x t n k (i:Int)=some v)∧Sum.elim (fun r'=>some r') (fun _=>some ((0:Int),(0:Int),(0:Int))) v=some (fT t n (x.T.drop i) i):=by
 intro j
 induction j with
 | zero =>
  intro i hi
  refine ⟨.inr (),fun k hk=>?_,by rw [List.drop_of_length_le (by omega)];rfl⟩
  obtain ⟨k,rfl⟩:∃ q,k=q+1:=⟨k-1,by omega⟩
  rw [ZT.eq_2,if_neg (by simp;omega)]
 | succ j ih =>
  intro i hi
  have hlt:i<x.T.length:=by omega
  obtain ⟨v,h1,h2⟩:=ih (i+1) (by omega)
  have go:∀ k,ZT x t n (k+1) (i:Int)=if x.T[i].Task=t∧x.T[i].N=n then some (.inl ((i:Int)+1,x.T[i].State,x.T[i].Snapshot)) else ZT x t n k ((i+1:Nat):Int):=fun k=>by
   rw [ZT.eq_2,if_pos (by simpa using hlt),if_pos (inR hlt),if_pos (inR hlt),if_pos (inR hlt),if_pos (inR hlt),rdN hlt,wr1 (by omega)]
   by_cases c:x.T[i].Task=t
   ·by_cases d:x.T[i].N=n
    ·simp [c,d]
    ·simp [c,d]
   ·simp [c]
  rw [List.drop_eq_getElem_cons hlt,fT]
  by_cases c:x.T[i].Task=t∧x.T[i].N=n
  ·refine ⟨.inl ((i:Int)+1,x.T[i].State,x.T[i].Snapshot),fun k hk=>?_,by rw [if_pos c];rfl⟩
   obtain ⟨k,rfl⟩:∃ q,k=q+1:=⟨k-1,by omega⟩
   rw [go,if_pos c]
  ·refine ⟨v,fun k hk=>?_,by rw [if_neg c];exact h2⟩
   obtain ⟨k,rfl⟩:∃ q,k=q+1:=⟨k-1,by omega⟩
   rw [go,if_neg c];exact h1 k (by omega)
theorem J9 (t n:Int):∀ (l:List RT) (o:Nat),(∃ (i:Nat) (h:i<l.length),l[i].Task=t∧l[i].N=n∧fT t n l o=(((o+i:Nat):Int)+1,l[i].State,l[i].Snapshot))∨((∀ (i:Nat) (h:i<l.length),¬ (l[i].Task=t∧l[i].N=n))∧fT t n l o=(0,0,0))
 | [],o=>.inr ⟨fun i h=>by simp at h,rfl⟩
 | z::r,o=>by
  unfold fT
  by_cases c:z.Task=t∧z.N=n
  ·rw [if_pos c];exact .inl ⟨0,by simp,c.1,c.2,rfl⟩
  ·rw [if_neg c]
   rcases J9 t n r (o+1) with ⟨i,h,h1,h2,h3⟩ | ⟨h1,h2⟩
   ·exact .inl ⟨i+1,by simpa using h,h1,h2,by rw [h3];simp only [List.getElem_cons_succ,show o+1+i=o+(i+1) by omega]⟩
   ·refine .inr ⟨fun i h=>?_,h2⟩
    cases i with
    | zero=>exact c
    | succ i=>exact h1 i (by simpa using h)
theorem Rel.find (R:Rel m x) (t n:Int):fT t n x.T 0=txS m t n:=by
 unfold txS
 rcases J9 t n x.T 0 with ⟨i,h,h1,h2,h3⟩ | ⟨h1,h2⟩
 ·have:=R.n1 i h
  rw [h1,h2] at this
  rw [this,h3]
  show _=((i:Int)+1,(rd m.txs ((i:Int)+1-1)).state,(rd m.txs ((i:Int)+1-1)).snapshot)
  rw [show (i:Int)+1-1=(i:Int) by omega,R.tx h,Nat.zero_add]
 ·rw [h2]
  cases hm:mget m.names ⟨t,n⟩ with
  | none=>rfl
  | some w =>
   obtain ⟨i,h,_,h3,h4⟩:=R.n2 _ _ hm
   exact absurd ⟨h3,h4⟩ (h1 i h)
theorem Rel.tx_ev (R:Rel m x) (I:Inv n m) (hn:n≤1000000) (t c:Int):Ev (fun k=>ZF k x t c) (txS m t c):=by
 have hl:x.T.length≤1000000:=by have:=R.tlen;have:=I.tl;omega
 obtain ⟨v,h1,h2⟩:=rTx_l0 x hl t c x.T.length 0 (by omega)
 rw [List.drop_zero,R.find] at h2
 refine ⟨x.T.length+1,fun k hk=>?_⟩
 have h0:ZT x t c k (0:Int)=some v:=h1 k (by omega)
 show ZF k x t c=_
 unfold ZF
 rw [h0,Option.bind_some];exact h2
theorem Rel.ref_ev (R:Rel m x) (I:Inv n m) (hn:n≤1000000) (t:Int) (c:ZE):Ev (fun k=>Q6 k x t c) (refS m t c):=by
 obtain ⟨K,hK⟩:=R.tx_ev I hn t c.Tx
 refine ⟨K,fun k hk=>?_⟩
 have hT:ZF k x t c.Tx=some (txS m t c.Tx):=hK k hk
 show Q6 k x t c=_
 simp only [Q6,hT,R.c,q4,Kh,Kj,Option.bind_some,refS]
 generalize txS m t c.Tx=T
 by_cases h1:t<0∨t≥m.c.Tasks∨c.Kind<1∨c.Kind>9
 ·rw [if_pos h1,if_pos]
  simp only [Bool.or_eq_true,decide_eq_true_eq]
  rcases h1 with h | h | h | h<;>simp [h]
 rw [if_neg h1]
 by_cases h2:c.Kind=9∧c.Engine≠1∧c.Engine≠2
 ·rw [if_pos h2,if_pos]
  simp [h2]
 rw [if_neg h2,if_neg (by
  simp only [Bool.or_eq_true,decide_eq_true_eq,Bool.and_eq_true,beq_iff_eq,bne_iff_ne,ne_eq,and_assoc]
  simp only [or_assoc]
  rintro (h | h | h | h | h)
  ·exact h1 (.inl h)
  ·exact h1 (.inr (.inl h))
  ·exact h1 (.inr (.inr (.inl h)))
  ·exact h1 (.inr (.inr (.inr h)))
  ·exact h2 h)]
 have hk:c.Kind=1∨c.Kind=2∨c.Kind=3∨c.Kind=4∨c.Kind=5∨c.Kind=6∨c.Kind=7∨c.Kind=8∨c.Kind=9:=by omega
 by_cases s1:T.2.1=1
 ·rcases hk with h | h | h | h | h | h | h | h | h<;>simp [h,s1,needsB,fitsB]
  ·cases keyB m.c c.Key<;>simp
  ·cases keyB m.c c.Key<;>cases valB m.c c.Value<;>simp
  ·cases keyB m.c c.Key<;>simp
  ·cases bndB m.c c.Key<;>cases bndB m.c c.End<;>by_cases q1:c.Limit<0<;>by_cases q2:c.Limit>128<;>simp [q1,q2]<;>omega
 ·by_cases s0:T.2.1=0
  ·rcases hk with h | h | h | h | h | h | h | h | h<;>simp [h,s0,needsB,fitsB]
  ·rcases hk with h | h | h | h | h | h | h | h | h<;>simp [h,s0,s1,needsB,fitsB]
theorem Jk (x:RM) (hl:x.T.length≤1000000):∀ (j i s:Nat),i+j=x.T.length→s≤i→∀ k,j<k→ZQ x k (s:Int) (i:Int)=some ((s+((x.T.drop i).filter fun z=>decide (z.State=1)).length:Nat):Int):=by
 intro j
 induction j with
 | zero =>
  intro i s hi hs k hk
  obtain ⟨k,rfl⟩:∃ q,k=q+1:=⟨k-1,by omega⟩
  rw [ZQ.eq_2,if_neg (by simp;omega),List.drop_of_length_le (by omega)];rfl
 | succ j ih =>
  intro i s hi hs k hk
  obtain ⟨k,rfl⟩:∃ q,k=q+1:=⟨k-1,by omega⟩
  have hlt:i<x.T.length:=by omega
  rw [ZQ.eq_2,if_pos (by simpa using hlt),if_pos (inR hlt),rdN hlt,wr1 (i:=i) (by omega),List.drop_eq_getElem_cons hlt]
  by_cases c:x.T[i].State=1
  ·rw [if_pos (by simpa using c),Option.bind_some,Option.bind_some,wr1 (i:=s) (by omega),ih (i+1) (s+1) (by omega) (by omega) k (by omega),List.filter_cons_of_pos (by simpa using c),List.length_cons]
   congr 2;omega
  ·rw [if_neg (by simpa using c),Option.bind_some,Option.bind_some,ih (i+1) s (by omega) (by omega) k (by omega),List.filter_cons_of_neg (by simpa using c)]
theorem Rel.act_ev (R:Rel m x) (I:Inv n m) (hn:n≤1000000):Ev (fun k=>ZM k x) (activeN m:Int):=by
 have hl:x.T.length≤1000000:=by have:=R.tlen;have:=I.tl;omega
 refine ⟨x.T.length+1,fun k hk=>?_⟩
 have h:ZQ x k (0:Int) (0:Int)=_:=Jk x hl x.T.length 0 0 (by omega) (by omega) k (by omega)
 show ZM k x=_
 unfold ZM
 rw [h,Option.bind_some,List.drop_zero,Nat.zero_add]
 unfold activeN
 rw [← R.t,List.filter_map,List.length_map];rfl
theorem Kt (x:RM) (hl:x.T.length≤1000000) (t:Int):∀ (j i s:Nat),i+j=x.T.length→s≤i+1→∀ k,j<k→ZV x t k (s:Int) (i:Int)=some ((s+((x.T.drop i).filter fun z=>decide (z.Task=t)).length:Nat):Int):=by
 intro j
 induction j with
 | zero =>
  intro i s hi hs k hk
  obtain ⟨k,rfl⟩:∃ q,k=q+1:=⟨k-1,by omega⟩
  rw [ZV.eq_2,if_neg (by simp;omega),List.drop_of_length_le (by omega)];rfl
 | succ j ih =>
  intro i s hi hs k hk
  obtain ⟨k,rfl⟩:∃ q,k=q+1:=⟨k-1,by omega⟩
  have hlt:i<x.T.length:=by omega
  rw [ZV.eq_2,if_pos (by simpa using hlt),if_pos (inR hlt),rdN hlt,wr1 (i:=i) (by omega),List.drop_eq_getElem_cons hlt]
  by_cases c:x.T[i].Task=t
  ·rw [if_pos (by simpa using c),Option.bind_some,Option.bind_some,wr1 (i:=s) (by omega),ih (i+1) (s+1) (by omega) (by omega) k (by omega),List.filter_cons_of_pos (by simpa using c),List.length_cons]
   congr 2;omega
  ·rw [if_neg (by simpa using c),Option.bind_some,Option.bind_some,ih (i+1) s (by omega) (by omega) k (by omega),List.filter_cons_of_neg (by simpa using c)]
theorem Rel.many_ev (R:Rel m x) (I:Inv n m) (hn:n≤1000000) (t:Int):Ev (fun k=>ZV x t k (1:Int) (0:Int)) ((mget m.many t).getD 0+1):=by
 have hl:x.T.length≤1000000:=by have:=R.tlen;have:=I.tl;omega
 refine ⟨x.T.length+1,fun k hk=>?_⟩
 have h:ZV x t k (1:Int) (0:Int)=_:=Kt x hl t x.T.length 0 1 (by omega) (by omega) k (by omega)
 show ZV x t k (1:Int) (0:Int)=_
 rw [h,List.drop_zero,R.mn]
 congr 1;omega
theorem rOf_l0 (x:RM) (hl:x.L.length≤1000000) (key:Str):∀ (j i:Nat),i+j=x.L.length→∃ v,(∀ k,j<k→ZS x key k (i:Int)=some v) ∧
  ((∃ y∈x.L.drop i,y.Key=key∧v=.inl y)∨(v=.inr ()∧∀ y∈x.L.drop i,y.Key≠key)):=by
 intro j
 induction j with
 | zero =>
  intro i hi
  refine ⟨.inr (),fun k hk=>?_,.inr ⟨rfl,fun y hy=>by rw [List.drop_of_length_le (by omega)] at hy;cases hy⟩⟩
  obtain ⟨k,rfl⟩:∃ q,k=q+1:=⟨k-1,by omega⟩
  rw [ZS.eq_2,if_neg (by simp;omega)]
 | succ j ih =>
  intro i hi
  have hlt:i<x.L.length:=by omega
  obtain ⟨v,h1,h2⟩:=ih (i+1) (by omega)
  have go:∀ k,ZS x key (k+1) (i:Int)=if x.L[i].Key=key then some (.inl x.L[i]) else ZS x key k ((i+1:Nat):Int):=fun k=>by
   rw [ZS.eq_2,if_pos (by simpa using hlt),if_pos (inR hlt),if_pos (inR hlt),rdN hlt,wr1 (by omega)]
   by_cases c:x.L[i].Key=key<;>simp [c,sbin]
  rw [List.drop_eq_getElem_cons hlt]
  by_cases c:x.L[i].Key=key
  ·refine ⟨.inl x.L[i],fun k hk=>?_,.inl ⟨_,List.mem_cons_self,c,rfl⟩⟩
   obtain ⟨k,rfl⟩:∃ q,k=q+1:=⟨k-1,by omega⟩
   rw [go,if_pos c]
  ·refine ⟨v,fun k hk=>?_,?_⟩
   ·obtain ⟨k,rfl⟩:∃ q,k=q+1:=⟨k-1,by omega⟩
    rw [go,if_neg c];exact h1 k (by omega)
   ·rcases h2 with ⟨y,hy,h3,h4⟩ | ⟨h3,h4⟩
    ·exact .inl ⟨y,List.mem_cons_of_mem _ hy,h3,h4⟩
    ·refine .inr ⟨h3,fun y hy=>?_⟩
     rcases List.mem_cons.1 hy with rfl | hy
     ·exact c
     ·exact h4 y hy
theorem Rel.of_ev (R:Rel m x) (I:Inv n m) (hn:n≤1000000) (key:Str):Ev (fun k=>Zk k x key) (keyOf (key,rowOf m key)):=by
 have hl:x.L.length≤1000000:=by have:=R.llen I;have:=I.rl;omega
 obtain ⟨v,h1,h2⟩:=rOf_l0 x hl key x.L.length 0 (by omega)
 rw [List.drop_zero] at h2
 refine ⟨x.L.length+1,fun k hk=>?_⟩
 have h0:ZS x key k (0:Int)=some v:=h1 k (by omega)
 show Zk k x key=_
 unfold Zk
 rw [h0,Option.bind_some]
 rcases h2 with ⟨y,hy,h3,rfl⟩ | ⟨rfl,h4⟩
 ·show some y=_
  have:=R.at_ I hy
  rw [h3] at this
  rw [← this]
 ·rw [R.none_ h4]
  show some _=some _
  simp [keyOf]
theorem Rel.see_ev (R:Rel m x) (I:Inv n m) (hn:n≤1000000) {w:Int} (h1:1≤w) (h2:w≤(m.txs.length:Int)) (p:Str×Ql) (hp:p.2.l.length≤1000000):Ev (fun k=>ZD k x w (keyOf p)) (seeS m w p.2):=by
 have h3:=I.tl
 have h4:=R.tlen
 refine ⟨p.2.l.length+1,fun k hk=>?_⟩
 show ZD k x w (keyOf p)=_
 obtain ⟨i,hi⟩:=Int.eq_ofNat_of_zero_le (show 0≤w-1 by omega)
 have hlt:i<x.T.length:=by omega
 unfold ZD seeS
 rw [wr (x:=w-1) (by omega) (by omega),hi,R.tx hlt,rdN hlt]
 by_cases h:p.2.intent.Writer=w
 ·have h0:p.2.intent.Writer≠0:=by omega
  rw [if_pos h,if_pos (by simp [keyOf,h];omega)];rfl
 ·rw [if_neg h,if_neg (by simp [keyOf,h]),if_pos ⟨by omega,by omega⟩]
  rw [show Ye k (keyOf p).L x.T[i].Snapshot=some (seen p.2.l x.T[i].Snapshot) from JF p.2.l _ k hp (by omega)]
  rfl
end
end Go.Proofs.YtcngjjlhdlbogaaDoor
