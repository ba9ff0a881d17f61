import Derived.Test.YtkknoimjgifhlaaGreatDoorPureMay28
namespace Go.Proofs.YtkknoimjgifhlaaGreatDoor
open Go Go.RowKit
set_option linter.unusedVariables false
set_option linter.unusedSimpArgs false
set_option maxRecDepth 100000
def toR (d:ZX):QQ:=⟨d.Task,d.Call,d.Answer,d.Mark,d.Back⟩
def backR (e:QL) (b:Int) (d:QQ):QQ:=if d.Task=e.Task∧d.Call=e.Call then ⟨d.Task,d.Call,d.Answer,d.Mark,b⟩ else d
theorem QBF {α:Type} {f:α→α} {l:List α} {i:Nat} (h:i<l.length):(l.set i (f l[i])).take (i+1)++((l.set i (f l[i])).drop (i+1)).map f=l.take i++(l.drop i).map f:=by
 rw [List.drop_eq_getElem_cons h,List.map_cons,List.take_set,List.drop_set_of_lt (by omega),List.take_succ_eq_append_getElem h,List.set_append_right _ _ (by simp;omega)]
 simp [Nat.min_eq_left (Nat.le_of_lt h)]
theorem back_l (L:List QL) (n:Nat) (w:(rd L (n:Int)).What=3):∀ (j i:Nat) (D:List QQ),i+j=D.length→D.length≤100000→Ev (fun k=>Zc L (n:Int) k D (i:Int)) (D.take i++(D.drop i).map (backR (rd L (n:Int)) (n:Int))):=by
 intro j
 induction j with
 | zero =>
  intro i D hi hl
  refine Ev.shift 1 ⟨0,fun k _=>?_⟩
  show Zc L (n:Int) (k+1) D (i:Int)=_
  rw [Zc.eq_2,if_neg (by simp;omega),List.drop_of_length_le (by omega),List.take_of_length_le (by omega)];simp
 | succ j ih =>
  intro i D hi hl
  have h1:i<D.length:=by omega
  have hi1:=ih (i+1) (D.set i (backR (rd L (n:Int)) (n:Int) D[i])) (by rw [List.length_set];omega) (by rw [List.length_set];omega)
  rw [QBF h1] at hi1
  generalize D.take i++(D.drop i).map (backR (rd L (n:Int)) (n:Int))=R at hi1 ⊢
  refine Ev.shift 1 (Ev.congr (g:=fun k=>_) ?_ (fun k=>by rw [Zc.eq_2]))
  rw [rdN h1,wr1 (by omega)]
  refine Ev.pos (by simp [h1,w]) (Ev.bind (v:=D.set i (backR (rd L (n:Int)) (n:Int) D[i])) (Ev.chk (inR h1) ?_) hi1)
  refine Ev.bind (v:=decide (D[i].Task=(rd L (n:Int)).Task∧D[i].Call=(rd L (n:Int)).Call)) ?_ (Ev.bind ?_ (Ev.pure _))
  ·by_cases h:D[i].Task=(rd L (n:Int)).Task
   ·refine Ev.pos (by simpa using h) (Ev.chk (inR h1) ((Ev.pure _).eq ?_))
    by_cases g:D[i].Call=(rd L (n:Int)).Call
    ·rw [decide_eq_true (show D[i].Task=(rd L (n:Int)).Task∧D[i].Call=(rd L (n:Int)).Call from ⟨h,g⟩)];simpa using g
    ·rw [decide_eq_false (show ¬ (D[i].Task=(rd L (n:Int)).Task∧D[i].Call=(rd L (n:Int)).Call) from fun q=>g q.2)];simpa using g
   ·refine Ev.neg (by simpa using h) ((Ev.pure _).eq ?_)
    rw [decide_eq_false (show ¬ (D[i].Task=(rd L (n:Int)).Task∧D[i].Call=(rd L (n:Int)).Call) from fun q=>h q.1)]
  ·by_cases h:D[i].Task=(rd L (n:Int)).Task∧D[i].Call=(rd L (n:Int)).Call
   ·refine Ev.pos (by simpa using h) (Ev.chk (inR h1) (Ev.bind (Ev.pure _) ((Ev.pure _).eq ?_)))
    unfold backR;rw [if_pos h];rfl
   ·refine Ev.neg (by simpa using h) ((Ev.pure _).eq ?_)
    unfold backR;rw [if_neg h,List.set_getElem_self]
theorem QBl (L:List QL) (n:Nat) (w:(rd L (n:Int)).What≠3) (D:List QQ):Ev (fun k=>Zc L (n:Int) k D 0) D:=by
 refine Ev.shift 1 ⟨0,fun k _=>?_⟩
 show Zc L (n:Int) (k+1) D 0=_
 rw [Zc.eq_2,if_neg (by simp [w])]
structure Both (T:Nat) (i:Nat) (x:Core) (D:List QQ) (m:RM):Prop where
 di:DI T x
 iv:Inv i x.m
 dl:x.done.length≤i
 eq:D=x.done.map toR
 rl:Rel x.m m
theorem QAx {T:Nat} {p:Progs} (hp:p.length≤T) {x:Core} (I:DI T x) {e:QL} (hm:may p x e) (w:e.What=3) (b:Int):(x.done.map toR).map (backR e b)=(goS p x b e).done.map toR:=by
 obtain ⟨j,h,g1,g2⟩:=I.find hp hm w
 have e0:(goS p x b e).done=x.done.set j ⟨x.done[j].Task,x.done[j].Call,x.done[j].Answer,x.done[j].Mark,b⟩:=by
  unfold goS
  rw [if_neg (by omega),if_neg (by omega),g1,rdN h];rfl
 rw [e0]
 refine List.ext_getElem (by simp) fun i h1 h2=>?_
 have hi:i<x.done.length:=by simpa using h1
 have h4:=g2 i hi
 rw [List.getElem_map,List.getElem_map,List.getElem_map,List.getElem_set]
 have key:backR e b (toR x.done[i])=if x.done[i].Task=e.Task∧x.done[i].Call=e.Call then ⟨x.done[i].Task,x.done[i].Call,x.done[i].Answer,x.done[i].Mark,b⟩ else toR x.done[i]:=rfl
 rw [key]
 by_cases q:i=j
 ·subst q
  rw [if_pos (h4.2 rfl),if_pos rfl];rfl
 ·rw [if_neg (fun c=>q (h4.1 c)),if_neg (fun c=>q c.symm)]
theorem run_ev {T:Nat} {p:Progs} (hp:p.length≤T) (L:List QL) (hl:L.length≤1000):∀ (j i:Nat) (x y:Core) (D:List QQ) (m:RM),i+j=L.length→Both T i x D m→overC p (L.drop i) (i:Int) x=some y →
  ∃ D' m',Ev (fun k=>Zq p L k D (i:Int) m) (D',m')∧Both T L.length y D' m':=by
 intro j
 induction j with
 | zero =>
  intro i x y D m hi B h
  obtain rfl:i=L.length:=by omega
  rw [List.drop_of_length_le (Nat.le_refl _)] at h
  cases h
  refine ⟨D,m,Ev.shift 1 ⟨0,fun k _=>?_⟩,B⟩
  show Zq p L (k+1) D (L.length:Int) m=_
  rw [Zq.eq_2,if_neg (by simp)]
 | succ j ih =>
  intro i x y D m hi B h
  have h1:i<L.length:=by omega
  rw [List.drop_eq_getElem_cons h1,overC] at h
  by_cases hm:may p x L[i]
  case neg=>rw [if_neg hm] at h;cases h
  rw [if_pos hm] at h
  have hs:=B.di.step hp hm (i:Int)
  have hb:=QAx hp B.di hm
  have hw:=hm.1.2
  obtain ⟨t0,t1,c0,c1⟩:=hm.1.1
  have hn1:=QBl L i
  have hn3:=back_l L i
  rw [rdN h1] at hn1 hn3
  have key:∀ D' m' ,Both T (i+1) (goS p x (i:Int) L[i]) D' m'→∃ D'' m'',Ev (fun k=>Zq p L k D' ((i+1:Nat):Int) m') (D'',m'')∧Both T L.length y D'' m'':=fun D' m' B'=>ih (i+1) _ y D' m' (by omega) B' h
  have go:∀ D0 D' m' r,Ev (fun k=>(if (L[i].What==(2:Int))=true then (if 0≤L[i].Task∧L[i].Task<(p.length:Int) then (if 0≤L[i].Call∧L[i].Call<((rd p L[i].Task).length:Int) then (Option.bind (Q5 k m L[i].Task (rd (rd p L[i].Task) L[i].Call)) (fun t=>(Option.bind (α:=List QQ) (some ([(⟨L[i].Task,L[i].Call,⟨t.1.Err,t.1.Found,t.1.Value,t.1.Pairs⟩,(i:Int),(-1:Int)⟩:QQ)]:List QQ)) (fun z=>(if D.length+z.length≤1599289640401 then some ((D++z),t.2) else none))))) else none) else none) else some (D,m))) (D0,m') →
    Ev (fun k=>Zc L (i:Int) k D0 0) D'→Ev (fun k=>Zq p L k D' ((i+1:Nat):Int) m') r→Ev (fun k=>Zq p L k D (i:Int) m) r:=fun D0 D' m' r g1 g2 g3=>by
   refine Ev.shift 1 (Ev.congr (g:=fun k=>_) ?_ (fun k=>by rw [Zq.eq_2]))
   rw [rdN h1,wr1 (by omega)]
   exact Ev.pos (by simpa using h1) (Ev.pos (inR h1) (Ev.bind g1 (Ev.bind g2 g3)))
  by_cases w2:L[i].What=2
  ·obtain ⟨m',g1,g2⟩:=B.rl.do_ev B.iv (by omega) L[i].Task (rd (rd p L[i].Task) L[i].Call)
   have e0:goS p x (i:Int) L[i]=⟨x.done++[⟨L[i].Task,L[i].Call,(doS x.m L[i].Task (rd (rd p L[i].Task) L[i].Call)).1,(i:Int),-1⟩],x.last.set L[i].Task.toNat (x.done.length:Int),setT x L[i],(doS x.m L[i].Task (rd (rd p L[i].Task) L[i].Call)).2⟩:=by unfold goS;rw [if_neg (by omega),if_pos w2]
   have hdl:=B.dl
   have heq:=B.eq
   have B':Both T (i+1) (goS p x (i:Int) L[i]) (D++[⟨L[i].Task,L[i].Call,(doS x.m L[i].Task (rd (rd p L[i].Task) L[i].Call)).1,(i:Int),-1⟩]) m':=by
    refine ⟨hs,?_,?_,?_,?_⟩
    ·rw [e0];exact B.iv.do_ _ _
    ·rw [e0];simp;omega
    ·rw [e0,heq];simp [toR]
    ·rw [e0];exact g2
   obtain ⟨D'',m'',r1,r2⟩:=key _ _ B'
   refine ⟨D'',m'',go _ _ m' _ ?_ (hn1 (by omega) _) r1,r2⟩
   have hD:D.length=x.done.length:=by rw [heq,List.length_map]
   exact Ev.pos (by simpa using w2) (Ev.chk ⟨t0,t1⟩ (Ev.chk ⟨c0,c1⟩ (g1.bind (Ev.bind (Ev.pure _) (Ev.chk (by simp;omega) (Ev.pure _))))))
  ·have e0:(goS p x (i:Int) L[i]).m=x.m:=by unfold goS;rw [if_neg w2];split<;>rfl
   have iv:Inv (i+1) (goS p x (i:Int) L[i]).m:=by rw [e0];exact B.iv.mono (by omega)
   have rl:Rel (goS p x (i:Int) L[i]).m m:=by rw [e0];exact B.rl
   have hdl:=B.dl
   have heq:=B.eq
   have hD:D.length=x.done.length:=by rw [heq,List.length_map]
   have first:Ev (fun k=>(if (L[i].What==(2:Int))=true then (if 0≤L[i].Task∧L[i].Task<(p.length:Int) then (if 0≤L[i].Call∧L[i].Call<((rd p L[i].Task).length:Int) then (Option.bind (Q5 k m L[i].Task (rd (rd p L[i].Task) L[i].Call)) (fun t=>(Option.bind (α:=List QQ) (some ([(⟨L[i].Task,L[i].Call,⟨t.1.Err,t.1.Found,t.1.Value,t.1.Pairs⟩,(i:Int),(-1:Int)⟩:QQ)]:List QQ)) (fun z=>(if D.length+z.length≤1599289640401 then some ((D++z),t.2) else none))))) else none) else none) else some (D,m))) (D,m):=Ev.neg (by simpa using w2) (Ev.pure _)
   by_cases w3:L[i].What=3
   ·have hb3:=hb w3 (i:Int)
    have hl3:(goS p x (i:Int) L[i]).done.length=x.done.length:=by
     have:=congrArg List.length hb3
     simpa using this.symm
    have B':Both T (i+1) (goS p x (i:Int) L[i]) (D.map (backR L[i] (i:Int))) m:=⟨hs,iv,by omega,by rw [heq];exact hb3,rl⟩
    obtain ⟨D'',m'',r1,r2⟩:=key _ _ B'
    have h3:=hn3 w3 D.length 0 D (by omega) (by omega)
    rw [List.take_zero,List.drop_zero,List.nil_append] at h3
    exact ⟨D'',m'',go _ _ m _ first h3 r1,r2⟩
   ·have e1:(goS p x (i:Int) L[i]).done=x.done:=by unfold goS;rw [if_pos (by omega)]
    have B':Both T (i+1) (goS p x (i:Int) L[i]) D m:=⟨hs,iv,by rw [e1];omega,by rw [e1];exact heq,rl⟩
    obtain ⟨D'',m'',r1,r2⟩:=key _ _ B'
    exact ⟨D'',m'',go _ _ m _ first (hn1 w3 _) r1,r2⟩
theorem Both.new {c:QI} {T:Nat} {p:Progs} {x0:Run} (R:RI T p 0 x0) (h1:x0.m=newS c) (h2:x0.done=[]) (h3:x0.r.tasks=List.replicate T ⟨0,0⟩):Both T 0 (coreOf x0) [] ⟨c,[],[],0,0⟩:=by
 refine ⟨DI.new (by show x0.r.tasks.length=T;rw [h3];simp) R.la h2 fun t ht=>?_,R.iv,by show x0.done.length≤0;rw [h2];simp,by show []=x0.done.map toR;rw [h2];rfl,by show Rel x0.m _;rw [h1];exact Rel.new c⟩
 show (rd x0.r.tasks (t:Int)).at_=0
 rw [h3,rdN (by simpa using ht)];simp
theorem Jk {c:QI} (hm:mayB c=true):Ev (fun k=>Zk k c) (.inr ⟨c,[],[],0,0⟩):=⟨0,fun k _=>by
 show Zk k c=_
 unfold Zk
 rw [UQ,hm];rfl⟩
theorem QBK {c:QI} {p:Progs} (hm:mayB c=true) (hp:p.length≤c.Tasks.toNat) {x0:Run} (R:RI c.Tasks.toNat p 0 x0) (h1:x0.m=newS c) (h2:x0.done=[]) (h3:x0.r.tasks=List.replicate c.Tasks.toNat ⟨0,0⟩) {L:List QL} (hl:L.length≤1000) {y:Core} (hy:overC p L 0 (coreOf x0)=some y) :
  ∃ D m,Ev (fun k=>YG k c p L) (.inr (D,m))∧Both c.Tasks.toNat L.length y D m:=by
 obtain ⟨D,m,g1,g2⟩:=run_ev hp L hl L.length 0 (coreOf x0) y [] ⟨c,[],[],0,0⟩ (by omega) (Both.new R h1 h2 h3) hy
 exact ⟨D,m,(Jk hm).bind (Ev.bind g1 (Ev.pure _)),g2⟩
theorem KV {c:QI} {p:Progs} {L:List QL} (h:mayP c p=false):Ev (fun k=>Z6 k c p L) (.inr (.inl ())):=(Up c p).bind (Ev.pos (by rw [h];rfl) (Ev.pure _))
section
variable {c:QI} {p:Progs} (h:mayP c p=true) {x0:Run} (R:RI c.Tasks.toNat p 0 x0) (h1:x0.m=newS c) (h2:x0.done=[]) (h3:x0.r.tasks=List.replicate c.Tasks.toNat ⟨0,0⟩) {L:List QL} (hl:L.length≤1000) (ha:∀ x∈L,x.Answer.Pairs.length≤100000∧0≤x.What∧x.What≤255)
include h h3 hl ha in
theorem Je (hn:overC p L 0 (coreOf x0)=none):Ev (fun k=>Z6 k c p L) (.inr (.inr (.inl ()))):=by
 obtain ⟨hm,hp,_⟩:=KG h
 have ho:=of_ev hm hp hl (fun x hx=>⟨by have:=(ha x hx).1;omega,(ha x hx).2⟩) (x:=coreOf x0) h3
 rw [hn] at ho
 exact (Up c p).bind (Ev.neg (by rw [h];simp) (ho.bind (Ev.pos rfl (Ev.pure _))))
include h R h1 h2 h3 hl ha in
theorem J5 {y:Core} (hy:overC p L 0 (coreOf x0)=some y):∃ D m,Ev (fun k=>YG k c p L) (.inr (D,m))∧Ev (fun k=>Z6 k c p L) (.inr (.inr (.inr m)))∧Both c.Tasks.toNat L.length y D m:=by
 obtain ⟨hm,hp,_⟩:=KG h
 have ho:=of_ev hm hp hl (fun x hx=>⟨by have:=(ha x hx).1;omega,(ha x hx).2⟩) (x:=coreOf x0) h3
 rw [hy] at ho
 obtain ⟨D,m,g1,g2⟩:=QBK hm hp R h1 h2 h3 hl hy
 exact ⟨D,m,g1,(Up c p).bind (Ev.neg (by rw [h];simp) (ho.bind (Ev.neg (by simp) (g1.bind (Ev.pure _))))),g2⟩
end
theorem ovEq_v:OvEq XU:=fun L k i x=>by rw [XU.eq_2]
theorem qs {c:QI} {p:Progs} {T:Nat} {x0:Run} {L:List QL} (hb:Ev (fun k=>Yt k c p) (.inr (.inl x0))) (R:RI T p 0 x0) (hp:p.length≤T) (hl:L.length≤1000) (hA:∀ e∈L,e.Answer.Pairs.length≤100000) :
  (overC p L 0 (coreOf x0)=none∧Ev (fun k=>Y8 k c p L) (.inr (.inl ())))∨∃ y:Run,RI T p L.length y∧overC p L 0 (coreOf x0)=some (coreOf y)∧Ev (fun k=>Y8 k c p L) (.inr (.inr y)):=by
 have h:=ov_all hp XU ovEq_v L hl hA L.length 0 x0 (by omega) R
 rw [List.drop_zero] at h
 rcases h with ⟨h,g⟩ | ⟨y,hy,h,g⟩
 ·exact .inl ⟨h,Ev.bind hb (Ev.bind g (Ev.pure _))⟩
 ·exact .inr ⟨y,hy,h,Ev.bind hb (Ev.bind g (Ev.pure _))⟩
end Go.Proofs.YtkknoimjgifhlaaGreatDoor
