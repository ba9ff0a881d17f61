import Derived.Test.YtcngjjlhdlbogaaDoorPureRef4
namespace Go.Proofs.YtcngjjlhdlbogaaDoor
open Go Go.RowKit
set_option linter.unusedVariables false
set_option linter.unusedSimpArgs false
set_option maxRecDepth 100000
def retS (m:Mod):List Str→Int
 | []=>0
 | y::t=>((rowOf m y).l.length:Int)+imin 1 (rowOf m y).intent.Writer+retS m t
theorem imin1 {x:Int} (h:0≤x):0≤imin 1 x∧imin 1 x≤1:=by unfold imin;split<;>omega
theorem Jh {n:Nat} {m:Mod} (I:Inv n m):∀ L:List Str,0≤retS m L∧retS m L≤(L.length:Int)*((n:Int)+1)
 | []=>by simp [retS]
 | y::t=>by
  have ih:=Jh I t
  have h:=I.row y
  have:=imin1 h.2
  have e:((t.length:Int)+1)*((n:Int)+1)=(t.length:Int)*((n:Int)+1)+((n:Int)+1):=by rw [Int.add_mul,Int.one_mul]
  simp only [retS,List.length_cons]
  rw [show (((t.length+1:Nat)):Int)=(t.length:Int)+1 from rfl,e]
  omega
theorem ret_l0 {n:Nat} {m:Mod} (I:Inv n m) (hn:n≤1000000) (L:List Str) (hL:L.length≤1000000):∀ (j i:Nat) (s:Int),i+j=L.length→0≤s→s≤(i:Int)*((n:Int)+1)→∀ k,j<k →
  Ze m L k s (i:Int)=some (s+retS m (L.drop i)):=by
 intro j
 induction j with
 | zero =>
  intro i s hi h0 h1 k hk
  obtain ⟨k,rfl⟩:∃ k',k=k'+1:=⟨k-1,by omega⟩
  rw [Ze.eq_2,List.drop_of_length_le (by omega)]
  have:¬ ((i:Int)<(L.length:Int)):=by omega
  simp [this,retS]
 | succ j ih =>
  intro i s hi h0 h1 k hk
  obtain ⟨k,rfl⟩:∃ k',k=k'+1:=⟨k-1,by omega⟩
  have hlt:i<L.length:=by omega
  have h3:(i:Int)<(L.length:Int):=by omega
  have h:=I.row L[i]
  have hm:=imin1 h.2
  have e:((i:Int)+1)*((n:Int)+1)=(i:Int)*((n:Int)+1)+((n:Int)+1):=by rw [Int.add_mul,Int.one_mul]
  have hb:(i:Int)*((n:Int)+1)≤1000000*1000001:=Int.mul_le_mul (by omega) (by omega) (by omega) (by omega)
  rw [Ze.eq_2,List.drop_eq_getElem_cons hlt,retS]
  simp only [h3,decide_true,if_true,inR hlt,and_self,rdN hlt,wr1 (i:=i) (by omega)]
  change Ze m L k (IntKind.i64.wrap (s+IntKind.i64.wrap (((rowOf m L[i]).l.length:Int)+imin 1 (rowOf m L[i]).intent.Writer))) _=_
  rw [wr (x:=((rowOf m L[i]).l.length:Int)+imin 1 (rowOf m L[i]).intent.Writer) (by omega) (by omega),wr (x:=s+_) (by omega) (by omega)]
  rw [ih (i+1) _ (by omega) (by omega) (by rw [show (((i+1:Nat)):Int)=(i:Int)+1 from rfl,e];omega) k (by omega)]
  congr 1;omega
theorem Ret_ev {n:Nat} {m:Mod} (I:Inv n m) (hn:n≤1000000):Ev (fun k=>YO k m) (retS m (keysS m)):=by
 have:=I.rl
 have hl:=Xx m
 refine ⟨n+1,fun k hk=>?_⟩
 show Option.bind (ZR k m) _=_
 rw [U4 I hn]
 have h:=ret_l0 I hn (keysS m) (by omega) (keysS m).length 0 0 (by omega) (by omega) (by simp) k (by omega)
 show Option.bind (Ze m (keysS m) k 0 ((0:Nat):Int)) _=_
 rw [h];simp
section
variable {n:Nat} {m:Mod} {x:RM}
theorem Rel.begin (R:Rel m x) (t:Int):Rel { m with txs:=m.txs++[⟨1,m.clock⟩],many:=mput m.many t ((mget m.many t).getD 0+1),names:=mput m.names ⟨t,(mget m.many t).getD 0+1⟩ ((m.txs.length:Int)+1) } ⟨x.C,x.T++[⟨t,(mget m.many t).getD 0+1,1,x.Time⟩],x.L,x.Time,x.Low⟩:=by
 have h4:=R.tlen
 generalize hN:(mget m.many t).getD 0+1=N
 have gl:∀ (j:Nat) (h:j<x.T.length) (h':j<(x.T++[(⟨t,N,1,x.Time⟩:RT)]).length),(x.T++[(⟨t,N,1,x.Time⟩:RT)])[j]=x.T[j]:=fun j h h'=>List.getElem_append_left h
 have gn:∀ (j:Nat) (h':j<(x.T++[(⟨t,N,1,x.Time⟩:RT)]).length),¬ j<x.T.length→(x.T++[(⟨t,N,1,x.Time⟩:RT)])[j]=⟨t,N,1,x.Time⟩∧j=x.T.length:=fun j h' h=>by
  have e:j=x.T.length:=by simp at h';omega
  subst e
  exact ⟨by rw [List.getElem_append_right (Nat.le_refl _)];simp,rfl⟩
 refine ⟨R.c,?_,fun j h=>?_,fun k v hv=>?_,fun j h=>?_,fun u=>?_,R.so,R.me,R.go,R.kl,R.ti,R.lo⟩
 ·show (x.T++[_]).map _=m.txs++[_]
  rw [List.map_append,R.t,R.ti];rfl
 ·have h:j<(x.T++[(⟨t,N,1,x.Time⟩:RT)]).length:=h
  show mget (mput m.names ⟨t,N⟩ ((m.txs.length:Int)+1)) ⟨(x.T++[(⟨t,N,1,x.Time⟩:RT)])[j].Task,(x.T++[(⟨t,N,1,x.Time⟩:RT)])[j].N⟩=_
  rw [Xg]
  by_cases c:j<x.T.length
  ·rw [gl j c h,if_neg,R.n1 j c]
   intro e
   have h3:=R.n3 j c
   simp only [Zi.mk.injEq] at e
   rw [← e.1] at h3;omega
  ·obtain ⟨g1,g2⟩:=gn j h c
   rw [g1,if_pos rfl,g2,h4]
 ·have hv:mget (mput m.names ⟨t,N⟩ ((m.txs.length:Int)+1)) k=some v:=hv
  rw [Xg] at hv
  by_cases c:(⟨t,N⟩:Zi)=k
  ·rw [if_pos c] at hv
   have hl:x.T.length<(x.T++[(⟨t,N,1,x.Time⟩:RT)]).length:=by simp
   obtain ⟨g1,_⟩:=gn x.T.length hl (by omega)
   refine ⟨x.T.length,hl,?_,?_,?_⟩
   ·rw [h4];exact (Option.some.inj hv).symm
   ·show (x.T++[(⟨t,N,1,x.Time⟩:RT)])[x.T.length].Task=_
    rw [g1,← c]
   ·show (x.T++[(⟨t,N,1,x.Time⟩:RT)])[x.T.length].N=_
    rw [g1,← c]
  ·rw [if_neg c] at hv
   obtain ⟨j,h,b1,b2,b3⟩:=R.n2 k v hv
   have h':j<(x.T++[(⟨t,N,1,x.Time⟩:RT)]).length:=by simp;omega
   exact ⟨j,h',b1,by show (x.T++[(⟨t,N,1,x.Time⟩:RT)])[j].Task=_;rw [gl j h h'];exact b2,by show (x.T++[(⟨t,N,1,x.Time⟩:RT)])[j].N=_;rw [gl j h h'];exact b3⟩
 ·have h:j<(x.T++[(⟨t,N,1,x.Time⟩:RT)]).length:=h
  show (x.T++[(⟨t,N,1,x.Time⟩:RT)])[j].N≤(mget (mput m.many t N) (x.T++[(⟨t,N,1,x.Time⟩:RT)])[j].Task).getD 0
  rw [Xg]
  by_cases c:j<x.T.length
  ·rw [gl j c h]
   have h3:=R.n3 j c
   by_cases d:t=x.T[j].Task
   ·rw [if_pos d]
    rw [← d] at h3
    show _≤N;omega
   ·rw [if_neg d];exact h3
  ·rw [(gn j h c).1,if_pos rfl];exact Int.le_refl _
 ·show (mget (mput m.many t N) u).getD 0=(((x.T++[(⟨t,N,1,x.Time⟩:RT)]).filter fun z=>decide (z.Task=u)).length:Int)
  rw [Xg,List.filter_append,List.length_append]
  have h:=R.mn u
  by_cases c:t=u
  ·subst c
   rw [if_pos rfl]
   show N=_
   simp;omega
  ·rw [if_neg c,h]
   simp [c]
theorem Rel.scan_ev (R:Rel m x) (I:Inv n m) (hn:n≤1000000) (T:Int×Int×Int) (h1:1≤T.1) (h2:T.1≤(m.txs.length:Int)) (c:ZE) (hk:c.Key.length≤64):∀ (j i:Nat) (out:List Qf),i+j=x.L.length→out.length≤i→(out.length:Int)≤c.Limit →
  Ev (fun k=>ZU x c T k out (i:Int)) (scanL m T.1 c ((x.L.drop i).map (·.Key)) out):=by
 have hll:=R.llen I
 have hrl:=I.rl
 intro j
 induction j with
 | zero =>
  intro i out hi ho hlm
  refine Ev.shift 1 ⟨0,fun k hk=>?_⟩
  show ZU x c T (k+1) out (i:Int)=_
  rw [ZU.eq_2,if_neg (by simp;omega),List.drop_of_length_le (by omega)];rfl
 | succ j ih =>
  intro i out hi ho hlm
  have hlt:i<x.L.length:=by omega
  have hm:=List.getElem_mem hlt
  rw [List.drop_eq_getElem_cons hlt,List.map_cons,scanL]
  by_cases hc:(out.length:Int)=c.Limit
  ·rw [if_pos hc]
   refine Ev.shift 1 ⟨0,fun k hk=>?_⟩
   show ZU x c T (k+1) out (i:Int)=_
   rw [ZU.eq_2,if_neg (by simp;omega)]
  rw [if_neg hc]
  refine Ev.shift 1 (Ev.congr (g:=fun k=>_) ?_ (fun k=>by rw [ZU.eq_2]))
  rw [wr1 (by omega),rdN hlt]
  have hyk:=R.kl _ hm
  have hsee:=R.see_ev I hn h1 h2 (x.L[i].Key,rowOf m x.L[i].Key) (by have:=(I.row x.L[i].Key).1;show (rowOf m x.L[i].Key).l.length≤_;omega)
  rw [← R.at_ I hm] at hsee
  have hw:Ev (fun k=>Yi k x.L[i].Key c.Key c.End) (withinB x.L[i].Key c.Key c.End):=⟨65,fun k hk'=>Jw k _ _ _ (by omega) (by omega) (by omega) (by omega)⟩
  show Ev _ (scanL m T.1 c ((x.L.drop (i+1)).map (·.Key)) (if (seeS m T.1 (rowOf m x.L[i].Key)).2=true∧withinB x.L[i].Key c.Key c.End=true then out++[⟨x.L[i].Key,(seeS m T.1 (rowOf m x.L[i].Key)).1⟩] else out))
  have hsee:Ev (fun k=>ZD k x T.1 x.L[i]) (seeS m T.1 (rowOf m x.L[i].Key)):=hsee
  generalize seeS m T.1 (rowOf m x.L[i].Key)=s at *
  refine Ev.pos (by simp;omega) (Ev.bind (v:=if s.2=true∧withinB x.L[i].Key c.Key c.End=true then out++[⟨x.L[i].Key,s.1⟩] else out) (Ev.chk (inR hlt) (hsee.bind (Ev.bind (v:=s.2&&withinB x.L[i].Key c.Key c.End) ?_ ?_))) (ih (i+1) _ (by omega) (by split<;>first | omega | (simp;omega)) (by split<;>first | omega | (simp;omega))))
  ·cases h:s.2
   ·exact Ev.neg (by simp) (Ev.pure _)
   ·exact Ev.pos rfl (Ev.chk (inR hlt) (hw.bind (Ev.pure _)))
  ·by_cases q:s.2=true∧withinB x.L[i].Key c.Key c.End=true
   ·rw [if_pos q]
    exact Ev.bind (Ev.pos (by simp [q.1,q.2]) (Ev.chk (inR hlt) (Ev.chk (by simp;omega) (Ev.pure _)))) (Ev.pure _)
   ·rw [if_neg q]
    exact Ev.bind (Ev.neg (by simpa using q) (Ev.pure _)) (Ev.pure _)
theorem KP {t:Int} {c:ZE} (h:refS m t c=0):fitsB m.c c=true:=by
 unfold refS at h
 split at h
 ·cases h
 split at h
 ·cases h
 split at h
 ·split at h<;>cases h
 split at h
 ·next q=>exact q
 ·cases h
theorem JQ {c:Qw} {s:Str} (h:keyB c s=true):s.length≤64:=by
 simp only [keyB,mayB,Bool.and_eq_true,decide_eq_true_eq] at h
 omega
theorem K9 {c:Qw} {s:Str} (h:bndB c s=true):s.length≤64:=by
 simp only [bndB,mayB,Bool.and_eq_true,decide_eq_true_eq] at h
 omega
theorem Rel.do_ev (R:Rel m x) (I:Inv n m) (hn:n<1000000) (t:Int) (c:ZE):∃ x',Ev (fun k=>Qe k x t c) ((doS m t c).1,x')∧Rel (doS m t c).2 x':=by
 have hn':n≤1000000:=by omega
 have href:=R.ref_ev I hn' t c
 have htx:=R.tx_ev I hn' t c.Tx
 unfold Qe
 by_cases h0:refS m t c=0
 case neg =>
  have e:doS m t c=(ans (refS m t c),m):=by unfold doS;rw [if_pos h0]
  rw [e]
  exact ⟨x,href.bind (Ev.pos (by simpa using h0) (Ev.pure _)),R⟩
 have e:doS m t c=actS m (txS m t c.Tx).1 t c:=by unfold doS;rw [if_neg (by simpa using h0)]
 rw [e]
 obtain ⟨k1,k9,t0,t1⟩:=Ud h0
 have hfit:=KP h0
 have hT:c.Kind≠1∧c.Kind≠8∧c.Kind≠9→1≤(txS m t c.Tx).1∧(txS m t c.Tx).1≤(m.txs.length:Int):=fun h=>by have:=Ut I h0 h;exact ⟨this.1,this.2.1⟩
 generalize txS m t c.Tx=T at *
 have start:∀ {v:Qc×RM} {f:Nat→Option (Qc×RM)},Ev f v→∀ {g:Nat→Option (Qc×RM)},(∀ k,g k=f k)→Ev g v:=fun h _ e=>h.congr e
 have kk:c.Kind=1∨c.Kind=2∨c.Kind=3∨c.Kind=4∨c.Kind=5∨c.Kind=6∨c.Kind=7∨c.Kind=8∨c.Kind=9:=by omega
 rcases kk with hk | hk | hk | hk | hk | hk | hk | hk | hk
 ·
  have ea:actS m T.1 t c=beginS m t:=by unfold actS;rw [if_pos hk]
  rw [ea]
  unfold beginS
  by_cases ha:(activeN m:Int)≥m.c.Active
  ·rw [if_pos ha]
   exact ⟨x,href.bind (Ev.neg (by simp [h0]) (htx.bind (Ev.pos (by simp [hk]) ((R.act_ev I hn').bind (Ev.pos (by rw [R.c];simpa using ha) (Ev.pure _)))))),R⟩
  ·rw [if_neg ha]
   have hl:=R.tlen
   have hl2:=I.tl
   refine ⟨_,href.bind ?_,R.begin t⟩
   refine Ev.neg (by simp [h0]) (htx.bind ?_)
   refine Ev.pos (by simp [hk]) ((R.act_ev I hn').bind ?_)
   refine Ev.neg (by rw [R.c];simpa using ha) ((R.many_ev I hn' t).bind ?_)
   refine Ev.bind (v:=([]++x.T,[⟨t,(mget m.many t).getD 0+1,1,x.Time⟩])) (Ev.chk (by simp;omega) (Ev.pure _)) ?_
   exact Ev.chk (by simp;omega) (Ev.pure _)
 ·
  have ea:actS m T.1 t c=(getS m T.1 c,m):=by unfold actS;rw [if_neg (by omega),if_pos hk]
  rw [ea]
  obtain ⟨h1,h2⟩:=hT (by omega)
  have hsee:=R.see_ev I hn' h1 h2 (c.Key,rowOf m c.Key) (by have:=(I.row c.Key).1;show (rowOf m c.Key).l.length≤_;omega)
  refine ⟨x,href.bind (Ev.neg (by simp [h0]) (htx.bind (Ev.neg (by simp [hk]) (Ev.pos (by simp [hk]) ((R.of_ev I hn' c.Key).bind (hsee.bind ?_)))))),R⟩
  unfold getS
  show Ev _ ((if (seeS m T.1 (rowOf m c.Key)).2=true then (⟨0,true,(seeS m T.1 (rowOf m c.Key)).1,[]⟩:Qc) else ans 0),x)
  cases h:(seeS m T.1 (rowOf m c.Key)).2
  ·exact Ev.neg (by simp [h]) (Ev.pure _)
  ·exact Ev.pos (by simp [h]) (Ev.pure _)
 ·
  have ea:actS m T.1 t c=writeS m c.Key ⟨T.1,0,false,c.Value⟩:=by unfold actS;rw [if_neg (by omega),if_neg (by omega),if_pos hk]
  rw [ea]
  obtain ⟨h1,h2⟩:=hT (by omega)
  have hkl:c.Key.length≤64:=by
   unfold fitsB at hfit
   rw [if_neg (by omega),if_pos hk,Bool.and_eq_true] at hfit
   exact JQ hfit.1
  obtain ⟨x',hx,hR⟩:=R.write_ev I hn' h1 h2 c.Key c.Value false hkl
  exact ⟨x',href.bind (Ev.neg (by simp [h0]) (htx.bind (Ev.neg (by simp [hk]) (Ev.neg (by simp [hk]) (Ev.pos (by simp [hk]) (hx.bind (Ev.pure _))))))),hR⟩
 ·
  have ea:actS m T.1 t c=writeS m c.Key ⟨T.1,0,true,[]⟩:=by unfold actS;rw [if_neg (by omega),if_neg (by omega),if_neg (by omega),if_pos hk]
  rw [ea]
  obtain ⟨h1,h2⟩:=hT (by omega)
  have hkl:c.Key.length≤64:=by
   unfold fitsB at hfit
   rw [if_pos (by omega)] at hfit
   exact JQ hfit
  obtain ⟨x',hx,hR⟩:=R.write_ev I hn' h1 h2 c.Key [] true hkl
  exact ⟨x',href.bind (Ev.neg (by simp [h0]) (htx.bind (Ev.neg (by simp [hk]) (Ev.neg (by simp [hk]) (Ev.neg (by simp [hk]) (Ev.pos (by simp [hk]) (hx.bind (Ev.pure _)))))))),hR⟩
 ·
  have ea:actS m T.1 t c=(scanS m T.1 c,m):=by unfold actS;rw [if_neg (by omega),if_neg (by omega),if_neg (by omega),if_neg (by omega),if_pos hk]
  rw [ea]
  obtain ⟨h1,h2⟩:=hT (by omega)
  unfold fitsB at hfit
  rw [if_neg (by omega),if_neg (by omega),if_pos hk] at hfit
  simp only [Bool.and_eq_true,decide_eq_true_eq] at hfit
  have hs:=R.scan_ev I hn' T h1 h2 c (K9 hfit.1.1.1) x.L.length 0 [] (by omega) (by simp) (by simp;omega)
  rw [List.drop_zero,← R.keys I] at hs
  exact ⟨x,href.bind (Ev.neg (by simp [h0]) (htx.bind (Ev.neg (by simp [hk]) (Ev.neg (by simp [hk]) (Ev.neg (by simp [hk]) (Ev.neg (by simp [hk]) (Ev.pos (by simp [hk]) (Ev.bind hs (Ev.pure _))))))))),R⟩
 ·
  have ea:actS m T.1 t c=commitS m T.1:=by unfold actS;rw [if_neg (by omega),if_neg (by omega),if_neg (by omega),if_neg (by omega),if_neg (by omega),if_pos hk]
  rw [ea]
  obtain ⟨h1,h2⟩:=hT (by omega)
  obtain ⟨x',hx,hR⟩:=R.commit_ev I hn h1 h2
  exact ⟨x',href.bind (Ev.neg (by simp [h0]) (htx.bind (Ev.neg (by simp [hk]) (Ev.neg (by simp [hk]) (Ev.neg (by simp [hk]) (Ev.neg (by simp [hk]) (Ev.neg (by simp [hk]) (Ev.pos (by simp [hk]) (hx.bind (Ev.pure _)))))))))),hR⟩
 ·
  have ea:actS m T.1 t c=(ans 0,endS m T.1 4 0):=by unfold actS;rw [if_neg (by omega),if_neg (by omega),if_neg (by omega),if_neg (by omega),if_neg (by omega),if_neg (by omega),if_pos hk]
  rw [ea]
  obtain ⟨h1,h2⟩:=hT (by omega)
  obtain ⟨x',hx,hR⟩:=R.end_ev I hn' h1 h2 4 0
  exact ⟨x',href.bind (Ev.neg (by simp [h0]) (htx.bind (Ev.neg (by simp [hk]) (Ev.neg (by simp [hk]) (Ev.neg (by simp [hk]) (Ev.neg (by simp [hk]) (Ev.neg (by simp [hk]) (Ev.neg (by simp [hk]) (Ev.bind (v:=x') (Ev.pos (by simp [hk]) (hx.bind (Ev.pure _))) (Ev.pure _)))))))))),hR⟩
 ·
  have ea:actS m T.1 t c=(ans 0,vacS m):=by unfold actS;rw [if_neg (by omega),if_neg (by omega),if_neg (by omega),if_neg (by omega),if_neg (by omega),if_neg (by omega),if_neg (by omega),if_pos hk]
  rw [ea]
  obtain ⟨x',hx,hR⟩:=R.vac_ev I hn'
  exact ⟨x',href.bind (Ev.neg (by simp [h0]) (htx.bind (Ev.neg (by simp [hk]) (Ev.neg (by simp [hk]) (Ev.neg (by simp [hk]) (Ev.neg (by simp [hk]) (Ev.neg (by simp [hk]) (Ev.neg (by simp [hk]) (Ev.bind (v:=x') (Ev.neg (by simp [hk]) (Ev.bind (v:=x') (Ev.pos (by simp [hk]) (hx.bind (Ev.pure _))) (Ev.pure _))) (Ev.pure _)))))))))),hR⟩
 ·
  have ea:actS m T.1 t c=(ans 0,m):=by unfold actS;rw [if_neg (by omega),if_neg (by omega),if_neg (by omega),if_neg (by omega),if_neg (by omega),if_neg (by omega),if_neg (by omega),if_neg (by omega)]
  rw [ea]
  exact ⟨x,href.bind (Ev.neg (by simp [h0]) (htx.bind (Ev.neg (by simp [hk]) (Ev.neg (by simp [hk]) (Ev.neg (by simp [hk]) (Ev.neg (by simp [hk]) (Ev.neg (by simp [hk]) (Ev.neg (by simp [hk]) (Ev.bind (v:=x) (Ev.neg (by simp [hk]) (Ev.bind (v:=x) (Ev.neg (by simp [hk]) (Ev.pure _)) (Ev.pure _))) (Ev.pure _)))))))))),R⟩
end
end Go.Proofs.YtcngjjlhdlbogaaDoor
