import Derived.Test.YtnjbjpaiepefoaaDoorPureMay28
namespace Go.Proofs.YtnjbjpaiepefoaaDoor
open Go Go.RowKit
set_option linter.unusedVariables false
set_option linter.unusedSimpArgs false
set_option maxRecDepth 100000
def toR (d:Zb):QP:=⟨d.Task,d.Call,d.Answer,d.Mark,d.Back⟩
def backR (e:QA) (b:Int) (d:QP):QP:=if d.Task=e.Task∧d.Call=e.Call then ⟨d.Task,d.Call,d.Answer,d.Mark,b⟩ else d
theorem QCM {α:Type} {f:α→α} {l:List α} {i:Nat} (h:i<l.length):(l.set i (f l[i])).take (i+1)++((l.set i (f l[i])).drop (i+1)).map f=l.take i++(l.drop i).map f:=by
 rw [List.drop_eq_getElem_cons h,List.map_cons,List.take_set,List.drop_set_of_lt (by omega),List.take_succ_eq_append_getElem h,List.set_append_right _ _ (by simp;omega)];simp [Nat.min_eq_left (Nat.le_of_lt h)]
theorem back_l (L:List QA) (n:Nat) (w:(rd L (n:Int)).What=3):∀ (j i:Nat) (D:List QP),i+j=D.length→D.length≤100000→Ev (fun k=>Zn L (n:Int) k D (i:Int)) (D.take i++(D.drop i).map (backR (rd L (n:Int)) (n:Int))):=by
 intro j
 induction j with
 | zero =>
  intro i D hi hl;refine Ev.shift 1 ⟨0,fun k _=>?_⟩;show Zn L (n:Int) (k+1) D (i:Int)=_;rw [Zn.eq_2,if_neg (by simp;omega),List.drop_of_length_le (by omega),List.take_of_length_le (by omega)];simp
 | succ j ih =>
  intro i D hi hl;have B:i<D.length:=by omega
  have E:=ih (i+1) (D.set i (backR (rd L (n:Int)) (n:Int) D[i])) (by rw [List.length_set];omega) (by rw [List.length_set];omega);rw [QCM B] at E;generalize D.take i++(D.drop i).map (backR (rd L (n:Int)) (n:Int))=R at E ⊢;refine Ev.shift 1 (Ev.congr (g:=fun k=>_) ?_ (fun k=>by rw [Zn.eq_2]));rw [rdN B,wr1 (by omega)];refine Ev.pos (by simp [B,w]) (Ev.bind (v:=D.set i (backR (rd L (n:Int)) (n:Int) D[i])) (Ev.chk (inR B) ?_) E);refine Ev.bind (v:=decide (D[i].Task=(rd L (n:Int)).Task∧D[i].Call=(rd L (n:Int)).Call)) ?_ (Ev.bind ?_ (Ev.pure _))
  ·by_cases h:D[i].Task=(rd L (n:Int)).Task
   ·refine Ev.pos (by simpa using h) (Ev.chk (inR B) ((Ev.pure _).eq ?_))
    by_cases g:D[i].Call=(rd L (n:Int)).Call
    ·rw [decide_eq_true (show D[i].Task=(rd L (n:Int)).Task∧D[i].Call=(rd L (n:Int)).Call from ⟨h,g⟩)];simpa using g
    ·rw [decide_eq_false (show ¬ (D[i].Task=(rd L (n:Int)).Task∧D[i].Call=(rd L (n:Int)).Call) from fun q=>g q.2)];simpa using g
   ·refine Ev.neg (by simpa using h) ((Ev.pure _).eq ?_);rw [decide_eq_false (show ¬ (D[i].Task=(rd L (n:Int)).Task∧D[i].Call=(rd L (n:Int)).Call) from fun q=>h q.1)]
  ·by_cases h:D[i].Task=(rd L (n:Int)).Task∧D[i].Call=(rd L (n:Int)).Call
   ·refine Ev.pos (by simpa using h) (Ev.chk (inR B) (Ev.bind (Ev.pure _) ((Ev.pure _).eq ?_)));unfold backR;rw [if_pos h];rfl
   ·refine Ev.neg (by simpa using h) ((Ev.pure _).eq ?_);unfold backR;rw [if_neg h,List.set_getElem_self]
theorem QCs (L:List QA) (n:Nat) (w:(rd L (n:Int)).What≠3) (D:List QP):Ev (fun k=>Zn L (n:Int) k D 0) D:=by
 refine Ev.shift 1 ⟨0,fun k _=>?_⟩;show Zn L (n:Int) (k+1) D 0=_;rw [Zn.eq_2,if_neg (by simp [w])]
structure Both (T:Nat) (i:Nat) (x:Core) (D:List QP) (m:RM):Prop where
 di:DI T x
 iv:Inv i x.m
 dl:x.done.length≤i
 eq:D=x.done.map toR
 rl:Rel x.m m
theorem QB5 {T:Nat} {p:Progs} (hp:p.length≤T) {x:Core} (I:DI T x) {e:QA} (hm:may p x e) (w:e.What=3) (b:Int):(x.done.map toR).map (backR e b)=(goS p x b e).done.map toR:=by
 obtain ⟨j,h,E,H⟩:=I.find hp hm w
 have K:(goS p x b e).done=x.done.set j ⟨x.done[j].Task,x.done[j].Call,x.done[j].Answer,x.done[j].Mark,b⟩:=by
  unfold goS;rw [if_neg (by omega),if_neg (by omega),E,rdN h];rfl
 rw [K];refine List.ext_getElem (by simp) fun i U V=>?_;have hi:i<x.done.length:=by simpa using U
 have B:=H i hi;rw [List.getElem_map,List.getElem_map,List.getElem_map,List.getElem_set];have key:backR e b (toR x.done[i])=if x.done[i].Task=e.Task∧x.done[i].Call=e.Call then ⟨x.done[i].Task,x.done[i].Call,x.done[i].Answer,x.done[i].Mark,b⟩ else toR x.done[i]:=rfl;rw [key]
 by_cases q:i=j
 ·subst q;rw [if_pos (B.2 rfl),if_pos rfl];rfl
 ·rw [if_neg (fun c=>q (B.1 c)),if_neg (fun c=>q c.symm)]
theorem run_ev {T:Nat} {p:Progs} (hp:p.length≤T) (L:List QA) (hl:L.length≤1000):∀ (j i:Nat) (x y:Core) (D:List QP) (m:RM),i+j=L.length→Both T i x D m→overC p (L.drop i) (i:Int) x=some y →
  ∃ D' m',Ev (fun k=>Z8 p L k D (i:Int) m) (D',m')∧Both T L.length y D' m':=by
 intro j
 induction j with
 | zero =>
  intro i x y D m hi B h;obtain rfl:i=L.length:=by omega
  rw [List.drop_of_length_le (Nat.le_refl _)] at h
  cases h
  refine ⟨D,m,Ev.shift 1 ⟨0,fun k _=>?_⟩,B⟩;show Z8 p L (k+1) D (L.length:Int) m=_;rw [Z8.eq_2,if_neg (by simp)]
 | succ j ih =>
  intro i x y D m hi B h;have H:i<L.length:=by omega
  rw [List.drop_eq_getElem_cons H,overC] at h
  by_cases hm:may p x L[i]
  case neg=>rw [if_neg hm] at h;cases h
  rw [if_pos hm] at h;have hs:=B.di.step hp hm (i:Int);have hb:=QB5 hp B.di hm;have hw:=hm.1.2;obtain ⟨t0,t1,c0,c1⟩:=hm.1.1;have K:=QCs L i;have Y:=back_l L i;rw [rdN H] at K Y;have key:∀ D' m' ,Both T (i+1) (goS p x (i:Int) L[i]) D' m'→∃ D'' m'',Ev (fun k=>Z8 p L k D' ((i+1:Nat):Int) m') (D'',m'')∧Both T L.length y D'' m'':=fun D' m' B'=>ih (i+1) _ y D' m' (by omega) B' h
  have go:∀ D0 D' m' r,Ev (fun k=>(if (L[i].What==(2:Int))=true then (if 0≤L[i].Task∧L[i].Task<(p.length:Int) then (if 0≤L[i].Call∧L[i].Call<((rd p L[i].Task).length:Int) then (Option.bind (Z9 k m L[i].Task (rd (rd p L[i].Task) L[i].Call)) (fun t=>(Option.bind (α:=List QP) (some ([(⟨L[i].Task,L[i].Call,⟨t.1.Err,t.1.Found,t.1.Value,t.1.Pairs⟩,(i:Int),(-1:Int)⟩:QP)]:List QP)) (fun z=>(if D.length+z.length≤1599289640401 then some ((D++z),t.2) else none))))) else none) else none) else some (D,m))) (D0,m') →
    Ev (fun k=>Zn L (i:Int) k D0 0) D'→Ev (fun k=>Z8 p L k D' ((i+1:Nat):Int) m') r→Ev (fun k=>Z8 p L k D (i:Int) m) r:=fun D0 D' m' r g1 g2 g3=>by
   refine Ev.shift 1 (Ev.congr (g:=fun k=>_) ?_ (fun k=>by rw [Z8.eq_2]));rw [rdN H,wr1 (by omega)];exact Ev.pos (by simpa using H) (Ev.pos (inR H) (Ev.bind g1 (Ev.bind g2 g3)))
  by_cases W:L[i].What=2
  ·obtain ⟨m',g1,g2⟩:=B.rl.do_ev B.iv (by omega) L[i].Task (rd (rd p L[i].Task) L[i].Call);have E:goS p x (i:Int) L[i]=⟨x.done++[⟨L[i].Task,L[i].Call,(doS x.m L[i].Task (rd (rd p L[i].Task) L[i].Call)).1,(i:Int),-1⟩],x.last.set L[i].Task.toNat (x.done.length:Int),setT x L[i],(doS x.m L[i].Task (rd (rd p L[i].Task) L[i].Call)).2⟩:=by unfold goS;rw [if_neg (by omega),if_pos W]
   have hdl:=B.dl;have heq:=B.eq
   have B':Both T (i+1) (goS p x (i:Int) L[i]) (D++[⟨L[i].Task,L[i].Call,(doS x.m L[i].Task (rd (rd p L[i].Task) L[i].Call)).1,(i:Int),-1⟩]) m':=by
    refine ⟨hs,?_,?_,?_,?_⟩
    ·rw [E];exact B.iv.do_ _ _
    ·rw [E];simp;omega
    ·rw [E,heq];simp [toR]
    ·rw [E];exact g2
   obtain ⟨D'',m'',U,V⟩:=key _ _ B';refine ⟨D'',m'',go _ _ m' _ ?_ (K (by omega) _) U,V⟩;have hD:D.length=x.done.length:=by rw [heq,List.length_map]
   exact Ev.pos (by simpa using W) (Ev.chk ⟨t0,t1⟩ (Ev.chk ⟨c0,c1⟩ (g1.bind (Ev.bind (Ev.pure _) (Ev.chk (by simp;omega) (Ev.pure _))))))
  ·have E:(goS p x (i:Int) L[i]).m=x.m:=by unfold goS;rw [if_neg W];split<;>rfl
   have iv:Inv (i+1) (goS p x (i:Int) L[i]).m:=by rw [E];exact B.iv.mono (by omega)
   have rl:Rel (goS p x (i:Int) L[i]).m m:=by rw [E];exact B.rl
   have hdl:=B.dl;have heq:=B.eq;have hD:D.length=x.done.length:=by rw [heq,List.length_map]
   have first:Ev (fun k=>(if (L[i].What==(2:Int))=true then (if 0≤L[i].Task∧L[i].Task<(p.length:Int) then (if 0≤L[i].Call∧L[i].Call<((rd p L[i].Task).length:Int) then (Option.bind (Z9 k m L[i].Task (rd (rd p L[i].Task) L[i].Call)) (fun t=>(Option.bind (α:=List QP) (some ([(⟨L[i].Task,L[i].Call,⟨t.1.Err,t.1.Found,t.1.Value,t.1.Pairs⟩,(i:Int),(-1:Int)⟩:QP)]:List QP)) (fun z=>(if D.length+z.length≤1599289640401 then some ((D++z),t.2) else none))))) else none) else none) else some (D,m))) (D,m):=Ev.neg (by simpa using W) (Ev.pure _)
   by_cases w3:L[i].What=3
   ·have Z:=hb w3 (i:Int)
    have ab:(goS p x (i:Int) L[i]).done.length=x.done.length:=by
     have:=congrArg List.length Z
     simpa using this.symm
    have B':Both T (i+1) (goS p x (i:Int) L[i]) (D.map (backR L[i] (i:Int))) m:=⟨hs,iv,by omega,by rw [heq];exact Z,rl⟩;obtain ⟨D'',m'',U,V⟩:=key _ _ B';have h3:=Y w3 D.length 0 D (by omega) (by omega);rw [List.take_zero,List.drop_zero,List.nil_append] at h3;exact ⟨D'',m'',go _ _ m _ first h3 U,V⟩
   ·have e1:(goS p x (i:Int) L[i]).done=x.done:=by unfold goS;rw [if_pos (by omega)]
    have B':Both T (i+1) (goS p x (i:Int) L[i]) D m:=⟨hs,iv,by rw [e1];omega,by rw [e1];exact heq,rl⟩;obtain ⟨D'',m'',U,V⟩:=key _ _ B';exact ⟨D'',m'',go _ _ m _ first (K w3 _) U,V⟩
theorem Both.new {c:Qa} {T:Nat} {p:Progs} {x0:Run} (R:RI T p 0 x0) (H:x0.m=newS c) (B:x0.done=[]) (E:x0.r.tasks=List.replicate T ⟨0,0⟩):Both T 0 (coreOf x0) [] ⟨c,[],[],0,0⟩:=by
 refine ⟨DI.new (by show x0.r.tasks.length=T;rw [E];simp) R.la B fun t ht=>?_,R.iv,by show x0.done.length≤0;rw [B];simp,by show []=x0.done.map toR;rw [B];rfl,by show Rel x0.m _;rw [H];exact Rel.new c⟩;show (rd x0.r.tasks (t:Int)).at_=0;rw [E,rdN (by simpa using ht)];simp
theorem QAv {c:Qa} (hm:mayB c=true):Ev (fun k=>XD k c) (.inr ⟨c,[],[],0,0⟩):=⟨0,fun k _=>by
 show XD k c=_;unfold XD;rw [JK,hm];rfl⟩
theorem Jh {c:Qa} {p:Progs} (hm:mayB c=true) (hp:p.length≤c.Tasks.toNat) {x0:Run} (R:RI c.Tasks.toNat p 0 x0) (B:x0.m=newS c) (E:x0.done=[]) (H:x0.r.tasks=List.replicate c.Tasks.toNat ⟨0,0⟩) {L:List QA} (hl:L.length≤1000) {y:Core} (hy:overC p L 0 (coreOf x0)=some y) :
  ∃ D m,Ev (fun k=>YP k c p L) (.inr (D,m))∧Both c.Tasks.toNat L.length y D m:=by
 obtain ⟨D,m,K,U⟩:=run_ev hp L hl L.length 0 (coreOf x0) y [] ⟨c,[],[],0,0⟩ (by omega) (Both.new R B E H) hy;exact ⟨D,m,(QAv hm).bind (Ev.bind K (Ev.pure _)),U⟩
theorem ovEq_v:OvEq X2:=fun L k i x=>by rw [X2.eq_2]
theorem KW {c:Qa} {p:Progs} {T:Nat} {x0:Run} {L:List QA} (hb:Ev (fun k=>ZY k c p) (.inr (.inl x0))) (R:RI T p 0 x0) (hp:p.length≤T) (hl:L.length≤1000) (hA:∀ e∈L,e.Answer.Pairs.length≤100000) :
  (overC p L 0 (coreOf x0)=none∧Ev (fun k=>X7 k c p L) (.inr (.inl ())))∨∃ y:Run,RI T p L.length y∧overC p L 0 (coreOf x0)=some (coreOf y)∧Ev (fun k=>X7 k c p L) (.inr (.inr y)):=by
 have h:=ov_all hp X2 ovEq_v L hl hA L.length 0 x0 (by omega) R;rw [List.drop_zero] at h;rcases h with ⟨h,g⟩ | ⟨y,hy,h,g⟩
 ·exact .inl ⟨h,Ev.bind hb (Ev.bind g (Ev.pure _))⟩
 ·exact .inr ⟨y,hy,h,Ev.bind hb (Ev.bind g (Ev.pure _))⟩
end Go.Proofs.YtnjbjpaiepefoaaDoor
