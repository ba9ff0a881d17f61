import Derived.Test.YtcngjjlhdlbogaaDoorPureRef5
namespace Go.Proofs.YtcngjjlhdlbogaaDoor
open Go Go.RowKit
set_option linter.unusedVariables false
set_option linter.unusedSimpArgs false
set_option maxRecDepth 100000
theorem Ev.all {α:Type} {f:Nat→Option α} {v:α} (h:∀ k,f k=some v):Ev f v:=⟨0,fun k _=>h k⟩
instance:DecidableEq Qf:=fun a b=>decidable_of_iff (a.Key=b.Key∧a.Value=b.Value) (by cases a;cases b;simp)
instance:DecidableEq Qc:=fun a b=>decidable_of_iff (a.Err=b.Err∧a.Found=b.Found∧a.Value=b.Value∧a.Pairs=b.Pairs) (by cases a;cases b;simp)
theorem JH (a b:Qf):((a.Key==b.Key)&&(a.Value==b.Value))=decide (a=b):=by
 cases a;cases b
 rw [Bool.eq_iff_iff];simp [Qf.mk.injEq]
theorem eqp_l0 (a b:List Qf) (hl:a.length=b.length) (hb:a.length≤1000000):∀ (j i:Nat),i+j=a.length→∀ k,j<k→ZN a b k (i:Int)=some (if a.drop i=b.drop i then .inr () else .inl false):=by
 intro j
 induction j with
 | zero =>
  intro i hi k hk
  obtain ⟨k,rfl⟩:∃ k',k=k'+1:=⟨k-1,by omega⟩
  rw [ZN.eq_2,List.drop_of_length_le (by omega),List.drop_of_length_le (by omega)]
  have:¬ ((i:Int)<(a.length:Int)):=by omega
  simp [this]
 | succ j ih =>
  intro i hi k hk
  obtain ⟨k,rfl⟩:∃ k',k=k'+1:=⟨k-1,by omega⟩
  have h1:i<a.length:=by omega
  have h2:i<b.length:=by omega
  have h3:(i:Int)<(a.length:Int):=by omega
  rw [ZN.eq_2,List.drop_eq_getElem_cons h1,List.drop_eq_getElem_cons h2]
  simp only [h3,decide_true,if_true,inR h1,inR h2,and_self,rdN h1,rdN h2,JH,wr1 (i:=i) (by omega),List.cons.injEq]
  by_cases hc:a[i]=b[i]
  ·simp only [hc,decide_true,Bool.not_true,Bool.false_eq_true,if_false,true_and]
   exact ih (i+1) (by omega) k (by omega)
  ·simp [hc]
theorem Kw (a b:Qc) (hb:a.Pairs.length≤1000000) (k:Nat) (hk:a.Pairs.length<k):Y4 k a b=some (decide (a=b)):=by
 have key:a=b↔a.Err=b.Err∧a.Found=b.Found∧a.Value=b.Value∧a.Pairs=b.Pairs:=by
  cases a;cases b;simp [Qc.mk.injEq]
 have sn:sbin .eql a.Value b.Value=decide (a.Value=b.Value):=by
  simp only [sbin]
  by_cases h:a.Value=b.Value<;>simp [h]
 have h2:Zt k a.Pairs b.Pairs=some (decide (a.Pairs=b.Pairs)):=by
  unfold Zt
  by_cases hl:a.Pairs.length=b.Pairs.length
  ·rw [if_neg (by simp [hl])]
   have h:=eqp_l0 a.Pairs b.Pairs hl hb a.Pairs.length 0 (by omega) k hk
   show Option.bind (ZN a.Pairs b.Pairs k ((0:Nat):Int)) _=_
   rw [h,List.drop_zero,List.drop_zero]
   by_cases hc:a.Pairs=b.Pairs<;>simp [hc]
  ·rw [if_pos (by simp;omega)]
   have:a.Pairs≠b.Pairs:=fun e=>hl (by rw [e])
   simp [this]
 unfold Y4
 rw [sn,h2]
 by_cases h3:a.Err=b.Err
 ·by_cases h4:a.Found=b.Found
  ·by_cases h5:a.Value=b.Value
   ·simp [h3,h4,h5,key]
   ·have:a≠b:=fun e=>h5 (key.1 e).2.2.1
    simp [h3,h4,h5,this]
  ·have:a≠b:=fun e=>h4 (key.1 e).2.1
   simp [h3,h4,this]
 ·have:a≠b:=fun e=>h3 (key.1 e).1
  simp [h3,this]
theorem JM (a b:Qc) (hb:a.Pairs.length≤1000000):Ev (fun k=>Y4 k a b) (decide (a=b)):=⟨a.Pairs.length+1,fun k hk=>Kw a b hb k (by omega)⟩
theorem KQ (a b:Qc) (hl:a.Pairs.length=b.Pairs.length) (hb:a.Pairs.length≤1000000):∀ (j i:Nat),i+j=a.Pairs.length→∀ k,j<k→YA a b k (i:Int)=some (if a.Pairs.drop i=b.Pairs.drop i then .inr () else .inl false):=by
 intro j
 induction j with
 | zero =>
  intro i hi k hk
  obtain ⟨k,rfl⟩:∃ k',k=k'+1:=⟨k-1,by omega⟩
  rw [YA.eq_2,List.drop_of_length_le (by omega),List.drop_of_length_le (by omega),if_neg (by simp;omega)]
  simp
 | succ j ih =>
  intro i hi k hk
  obtain ⟨k,rfl⟩:∃ k',k=k'+1:=⟨k-1,by omega⟩
  have h1:i<a.Pairs.length:=by omega
  have h2:i<b.Pairs.length:=by omega
  rw [YA.eq_2,List.drop_eq_getElem_cons h1,List.drop_eq_getElem_cons h2,if_pos (by simpa using h1),if_pos (inR h1),if_pos (inR h2),rdN h1,rdN h2,JH,wr1 (by omega)]
  by_cases hc:a.Pairs[i]=b.Pairs[i]
  ·simp only [hc,decide_true,Bool.not_true,Bool.false_eq_true,if_false,List.cons.injEq,true_and]
   exact ih (i+1) (by omega) k (by omega)
  ·have hn:¬ (a.Pairs[i]::a.Pairs.drop (i+1)=b.Pairs[i]::b.Pairs.drop (i+1)):=fun e=>hc (List.cons.inj e).1
   rw [if_neg hn,if_pos (by simpa using hc)]
theorem KR (a b:Qc) (hb:a.Pairs.length≤1000000):Ev (fun k=>YE k a b) (decide (a=b)):=by
 refine ⟨a.Pairs.length+1,fun k hk=>?_⟩
 have key:a=b↔a.Err=b.Err∧a.Found=b.Found∧a.Value=b.Value∧a.Pairs=b.Pairs:=by
  cases a;cases b;simp [Qc.mk.injEq]
 have sn:sbin .neq a.Value b.Value=!decide (a.Value=b.Value):=by
  simp only [sbin]
  by_cases h:a.Value=b.Value<;>simp [h]
 show YE k a b=_
 unfold YE
 rw [sn]
 by_cases h:a.Err=b.Err∧a.Found=b.Found∧a.Value=b.Value∧a.Pairs.length=b.Pairs.length
 ·obtain ⟨h1,h2,h3,h4⟩:=h
  have h0:YA a b k (0:Int)=_:=KQ a b h4 hb a.Pairs.length 0 (by omega) k hk
  rw [if_neg (by simp [h1,h2,h3,h4]),h0,List.drop_zero,List.drop_zero]
  by_cases hc:a.Pairs=b.Pairs
  ·have:a=b:=key.2 ⟨h1,h2,h3,hc⟩
   simp [hc,this]
  ·have:a≠b:=fun e=>hc (by rw [e])
   simp [hc,this]
 ·have:a≠b:=fun e=>h (by rw [e];exact ⟨rfl,rfl,rfl,rfl⟩)
  rw [if_pos (by
   simp only [Bool.or_eq_true,bne_iff_ne,ne_eq,Bool.not_eq_true',decide_eq_false_iff_not,beq_eq_false_iff_ne]
   by_cases g1:a.Err=b.Err
   ·by_cases g2:a.Found=b.Found
    ·by_cases g3:a.Value=b.Value
     ·exact .inr (fun e=>h ⟨g1,g2,g3,by omega⟩)
     ·exact .inl (.inr g3)
    ·exact .inl (.inl (.inr g2))
   ·exact .inl (.inl (.inl g1)))]
  simp [this]
theorem X4 {p:Prop} [Decidable p] {a b:Qc×Mod} (h:0≤a.1.Err) (h':0≤b.1.Err):0≤(if p then a else b).1.Err:=by split<;>assumption
theorem Ks (m:Mod) (t:Int) (c:ZE):0≤refS m t c:=by unfold refS;split<;>(try split)<;>(try split)<;>(try split)<;>omega
theorem qq (m:Mod) (t:Int) (c:ZE):0≤(doS m t c).1.Err:=by
 have z:∀ e:Int,0≤e→0≤(ans e).Err:=fun e h=>h
 have hg:∀ w,0≤(getS m w c).Err:=fun w=>by unfold getS;split<;>exact Int.le_refl _
 have hw:∀ k v,0≤(writeS m k v).1.Err:=fun k v=>X4 (z 33 (by decide)) (X4 (z 0 (by decide)) (X4 (z 34 (by decide)) (Int.le_refl _)))
 have hc:∀ w,0≤(commitS m w).1.Err:=fun w=>X4 (z 0 (by decide)) (X4 (z 35 (by decide)) (z 0 (by decide)))
 exact X4 (z _ (Ks m t c)) (X4 (X4 (z 34 (by decide)) (z 0 (by decide))) (X4 (hg _) (X4 (hw _ _) (X4 (hw _ _) (X4 (Int.le_refl _) (X4 (hc _) (X4 (z 0 (by decide)) (X4 (z 0 (by decide)) (z 0 (by decide))))))))))
section
variable {n:Nat} {m:Mod} {x:RM}
def retL:List RK→Int
 | []=>0
 | y::t=>(y.L.length:Int)+(if y.Has=true then 1 else 0)+retL t
theorem qb (x:RM) (n:Nat) (hn:n≤1000000) (hl:x.L.length≤1000000) (hL:∀ y∈x.L,y.L.length≤n):∀ (j i:Nat) (s:Int),i+j=x.L.length→0≤s→s≤(i:Int)*((n:Int)+1)→∀ k,j<k→ZJ x k s (i:Int)=some (s+retL (x.L.drop i)):=by
 intro j
 induction j with
 | zero =>
  intro i s hi h0 h1 k hk
  obtain ⟨k,rfl⟩:∃ q,k=q+1:=⟨k-1,by omega⟩
  rw [ZJ.eq_2,if_neg (by simp;omega),List.drop_of_length_le (by omega)]
  simp [retL]
 | succ j ih =>
  intro i s hi h0 h1 k hk
  obtain ⟨k,rfl⟩:∃ q,k=q+1:=⟨k-1,by omega⟩
  have hlt:i<x.L.length:=by omega
  have hy:=hL _ (List.getElem_mem hlt)
  have e:((i:Int)+1)*((n:Int)+1)=(i:Int)*((n:Int)+1)+((n:Int)+1):=by rw [Int.add_mul,Int.one_mul]
  have hb:(i:Int)*((n:Int)+1)≤1000000*1000001:=Int.mul_le_mul (by omega) (by omega) (by omega) (by omega)
  rw [ZJ.eq_2,if_pos (by simpa using hlt),if_pos (inR hlt),if_pos (inR hlt),rdN hlt,wr1 (i:=i) (by omega),List.drop_eq_getElem_cons hlt,retL,wr (x:=s+_) (by omega) (by omega)]
  cases hH:x.L[i].Has
  ·simp only [Bool.false_eq_true,if_false,Option.bind_some]
   rw [ih (i+1) _ (by omega) (by omega) (by rw [show (((i+1:Nat)):Int)=(i:Int)+1 from rfl,e];omega) k (by omega)]
   congr 1;omega
  ·simp only [if_true,Option.bind_some]
   rw [wr (x:=s+_+1) (by omega) (by omega),ih (i+1) _ (by omega) (by omega) (by rw [show (((i+1:Nat)):Int)=(i:Int)+1 from rfl,e];omega) k (by omega)]
   congr 1;omega
theorem Rel.ret_ev (R:Rel m x) (I:Inv n m) (hn:n≤1000000):Ev (fun k=>Zh k x) (retS m (keysS m)):=by
 have hll:=R.llen I
 have hrl:=I.rl
 have e:∀ L:List RK,(∀ y∈L,y∈x.L)→retL L=retS m (L.map (·.Key)):=by
  intro L
  induction L with
  | nil=>intro _;rfl
  | cons y L ih =>
   intro h
   have hy:=R.at_ I (h y List.mem_cons_self)
   have hw:=(I.row y.Key).2
   rw [retL,List.map_cons,retS,ih fun z hz=>h z (List.mem_cons_of_mem _ hz)]
   have e1:y.L=(rowOf m y.Key).l:=by rw [hy];rfl
   have e2:y.Has=decide ((rowOf m y.Key).intent.Writer≠0):=by rw [hy];rfl
   rw [e1,e2]
   by_cases q:(rowOf m y.Key).intent.Writer=0
   ·rw [if_neg (by simp [q]),q];rfl
   ·rw [if_pos (by simp [q]),show imin 1 (rowOf m y.Key).intent.Writer=1 from by unfold imin;split<;>omega]
 refine ⟨x.L.length+1,fun k hk=>?_⟩
 have h0:ZJ x k (0:Int) (0:Int)=_:=qb x n hn (by omega) (fun y hy=>by
  obtain ⟨p,hp,rfl⟩:=(R.me y).1 hy
  exact I.vl p hp) x.L.length 0 0 (by omega) (by omega) (by simp) k (by omega)
 show Zh k x=_
 unfold Zh
 rw [h0,List.drop_zero,e x.L (fun _ h=>h),R.keys I,Int.zero_add];rfl
theorem Kq:∀ (j i:Nat) (l:List QS),i+j=l.length→l.length≤1000000→Ev (fun k=>Zb k l (i:Int)) ():=by
 intro j
 induction j with
 | zero =>
  intro i l hi hl
  refine Ev.shift 1 ⟨0,fun k _=>?_⟩
  show Zb (k+1) l (i:Int)=_
  rw [Zb.eq_2,if_neg (by simp;omega)]
 | succ j ih =>
  intro i l hi hl
  have hlt:i<l.length:=by omega
  refine Ev.shift 1 (Ev.congr (g:=fun k=>_) ?_ (fun k=>by rw [Zb.eq_2]))
  rw [wr1 (by omega)]
  exact Ev.pos (by simpa using hlt) (Ev.chk (inR hlt) (Ev.bind (Ev.pure _) (ih (i+1) _ (by simp;omega) (by simpa using hl))))
theorem had_ev (L:List Str) (hl:L.length≤1000000) (s:Str):Ev (fun k=>Yv k L s) (decide (s∈L)):=by
 have go:∀ j i:Nat,i+j=L.length→∀ k,j<k→YX L s k (i:Int)=some (if s∈L.drop i then .inl true else .inr ()):=by
  intro j
  induction j with
  | zero =>
   intro i hi k hk
   obtain ⟨k,rfl⟩:∃ q,k=q+1:=⟨k-1,by omega⟩
   rw [YX.eq_2,if_neg (by simp;omega),List.drop_of_length_le (by omega)];simp
  | succ j ih =>
   intro i hi k hk
   obtain ⟨k,rfl⟩:∃ q,k=q+1:=⟨k-1,by omega⟩
   have hlt:i<L.length:=by omega
   rw [YX.eq_2,if_pos (by simpa using hlt),if_pos (inR hlt),rdN hlt,wr1 (by omega),List.drop_eq_getElem_cons hlt]
   by_cases c:L[i]=s
   ·rw [if_pos (by simp [sbin,c]),if_pos (by simp [c])]
   ·rw [if_neg (by simp [sbin,c]),ih (i+1) (by omega) k (by omega)]
    have:s∈L[i]::L.drop (i+1)↔s∈L.drop (i+1):=by
     rw [List.mem_cons];exact ⟨fun h=>h.resolve_left (fun e=>c e.symm),.inr⟩
    simp only [this]
 refine ⟨L.length+1,fun k hk=>?_⟩
 have h0:YX L s k (0:Int)=_:=go L.length 0 (by omega) k (by omega)
 show Yv k L s=_
 unfold Yv
 rw [h0,List.drop_zero]
 by_cases c:s∈L<;>simp [c]
theorem KF (I:Inv n m) (hn:n≤1000000) (key:Str):Ev (fun k=>Zd k m key) (rowOf m key).l:=by
 have:=(I.row key).1
 refine ⟨0,fun k _=>?_⟩
 show Option.bind (Qz k (rowOf m key).l) _=_
 simp only [Qz]
 rw [if_pos (by simp;omega)];rfl
theorem Rel.like_l2 (R:Rel m x) (I:Inv n m) (hn:n≤1000000):∀ j i:Nat,i+j=x.L.length→Ev (fun k=>Zc m x (keysS m) k (i:Int)) (.inr ()):=by
 have hll:=R.llen I
 have hrl:=I.rl
 have hkl:=Xx m
 intro j
 induction j with
 | zero =>
  intro i hi
  refine Ev.shift 1 ⟨0,fun k _=>?_⟩
  show Zc m x (keysS m) (k+1) (i:Int)=_
  rw [Zc.eq_2,if_neg (by simp;omega)]
 | succ j ih =>
  intro i hi
  have hlt:i<x.L.length:=by omega
  have hlk:i<(keysS m).length:=by omega
  have hy:=R.at_ I (List.getElem_mem hlt)
  have hrow:=(I.row x.L[i].Key).1
  have hkey:(keysS m)[i]=x.L[i].Key:=by
   have:=R.keys I
   simp only [this,List.getElem_map]
  have e1:x.L[i].L=(rowOf m x.L[i].Key).l:=by rw [hy];rfl
  have e2:x.L[i].Has=((rowOf m x.L[i].Key).intent.Writer != 0):=by
   have:x.L[i].Has=decide ((rowOf m x.L[i].Key).intent.Writer≠0):=by rw [hy];rfl
   rw [this]
   by_cases q:(rowOf m x.L[i].Key).intent.Writer=0<;>simp [q]
  have e3:x.L[i].I=(rowOf m x.L[i].Key).intent:=by rw [hy];rfl
  refine Ev.shift 1 (Ev.congr (g:=fun k=>_) ?_ (fun k=>by rw [Zc.eq_2]))
  rw [wr1 (by omega),rdN hlt,rdN hlk,hkey]
  have hint:Ev (fun k=>Zs k m x.L[i].Key) ((rowOf m x.L[i].Key).intent,(rowOf m x.L[i].Key).intent.Writer != 0):=⟨0,fun k _=>rfl⟩
  refine Ev.pos (by simpa using hlk) (Ev.chk (inR hlt) (hint.bind ((KF I hn _).bind (Ev.chk (inR hlk) (Ev.bind (v:=false) ?_ (Ev.neg (by simp) ((Kq (rowOf m x.L[i].Key).l.length 0 (rowOf m x.L[i].Key).l (by omega) (by omega)).bind (ih (i+1) (by omega)))))))))
  refine Ev.neg ?_ (Ev.bind (v:=true) ⟨(rowOf m x.L[i].Key).l.length+1,fun k hk=>?_⟩ (Ev.pure _))
  ·rw [e2,e3];simp [sbin]
  ·show Yp k (rowOf m x.L[i].Key).l x.L[i].L=_
   rw [e1];exact qM _ (by omega) k (by omega)
theorem Rel.like_ev (R:Rel m x) (I:Inv n m) (hn:n≤1000000) (key:Str) (t c:Int):Ev (fun k=>ZK k m x key t c) true:=by
 have hll:=R.llen I
 have hrl:=I.rl
 have hkl:=Xx m
 have hT:Ev (fun k=>Zy k m t c) (txS m t c):=⟨0,fun k _=>qK I hn k t c⟩
 unfold ZK
 refine hT.bind ((R.tx_ev I hn t c).bind ?_)
 refine Ev.bind (v:=false) (Ev.neg (by simp) ((Ret_ev I hn).bind ((R.ret_ev I hn).bind ((Ev.pure _).eq (by simp))))) ?_
 refine Ev.bind (v:=false) (Ev.neg (by simp) ((Um I hn).bind ((R.act_ev I hn).bind ((Ev.pure _).eq (by simp))))) ?_
 refine Ev.bind (v:=false) (Ev.neg (by simp) (Ev.bind (v:=m.clock) ⟨0,fun k _=>rfl⟩ ((Ev.pure _).eq (by rw [R.ti];simp)))) ?_
 refine Ev.bind (v:=false) (Ev.neg (by simp) (Ev.bind (v:=m.floor) ⟨0,fun k _=>rfl⟩ ((Ev.pure _).eq (by rw [R.lo];simp)))) ?_
 refine Ev.neg (by simp) (Ev.bind (v:=keysS m) ⟨0,fun k _=>U4 I hn k⟩ ?_)
 refine Ev.neg (by simp;omega) ((R.like_l2 I hn x.L.length 0 (by omega)).bind ?_)
 ·have hint:Ev (fun k=>Zs k m key) ((rowOf m key).intent,(rowOf m key).intent.Writer != 0):=⟨0,fun k _=>rfl⟩
  simp only [Sum.elim_inr]
  refine Ev.bind (f:=fun k=>Zs k m key) (v:=((rowOf m key).intent,(rowOf m key).intent.Writer != 0)) hint ?_
  refine Ev.bind (v:=((rowOf m key).intent.Writer != 0)||decide (((rowOf m key).l.length:Int)>0)) ?_ ?_
  ·cases h:((rowOf m key).intent.Writer != 0)
   ·exact Ev.neg (by simp) ((KF I hn key).bind (Ev.pure _))
   ·exact Ev.pos rfl (Ev.pure _)
  ·refine Ev.bind (v:=true) ?_ (Ev.pure _)
   by_cases q:(((rowOf m key).intent.Writer != 0)||decide (((rowOf m key).l.length:Int)>0))=true
   ·exact Ev.pos q (Ev.pure _)
   ·refine Ev.neg q ((had_ev (keysS m) (by omega) key).bind ((Ev.pure _).eq ?_))
    have:key ∉ keysS m:=fun h=>by
     rw [R.keys I,List.mem_map] at h
     obtain ⟨y,hy,rfl⟩:=h
     have hg:=R.go y hy
     rw [R.at_ I hy,Vk] at hg
     apply q
     unfold gone at hg
     simp only [Bool.or_eq_true,bne_iff_ne,ne_eq,decide_eq_true_eq]
     simp only [Bool.and_eq_false_iff,beq_eq_false_iff_ne,ne_eq] at hg
     rcases hg with h | h
     ·exact .inr (by have:¬ ((rowOf m y.Key).l.length:Int)=0:=h;omega)
     ·exact .inl h
    simp [this]
end
end Go.Proofs.YtcngjjlhdlbogaaDoor
