import Derived.Test.YtnjbjpaiepefoaaGreatDoorPureMay28
namespace Go.Proofs.YtnjbjpaiepefoaaGreatDoor
open Go Go.RowKit
set_option linter.unusedVariables false
set_option linter.unusedSimpArgs false
set_option maxRecDepth 100000
def toR (d:Qw):Qi:=⟨d.Task,d.Call,d.Answer,d.Mark,d.Back⟩
def backR (e:QB) (b:Int) (d:Qi):Qi:=if d.Task=e.Task∧d.Call=e.Call then ⟨d.Task,d.Call,d.Answer,d.Mark,b⟩ else d
theorem QB7 {α:Type} {f:α→α} {l:List α} {i:Nat} (h:i<l.length):(l.set i (f l[i])).take (i+1)++((l.set i (f l[i])).drop (i+1)).map f=l.take i++(l.drop i).map f:=by
 rw [List.drop_eq_getElem_cons h,List.map_cons,List.take_set,List.drop_set_of_lt (by omega),List.take_succ_eq_append_getElem h,List.set_append_right _ _ (by simp;omega)];simp [Nat.min_eq_left (Nat.le_of_lt h)]
theorem back_l (L:List QB) (n:Nat) (w:(rd L (n:Int)).What=3):∀ (j i:Nat) (D:List Qi),i+j=D.length→D.length≤100000→Ev (fun k=>Zv L (n:Int) k D (i:Int)) (D.take i++(D.drop i).map (backR (rd L (n:Int)) (n:Int))):=by
 intro j
 induction j with
 | zero =>
  intro i D hi hl;refine Ev.shift 1 ⟨0,fun k _=>?_⟩;show Zv L (n:Int) (k+1) D (i:Int)=_;rw [Zv.eq_2,if_neg (by simp;omega),List.drop_of_length_le (by omega),List.take_of_length_le (by omega)];simp
 | succ j ih =>
  intro i D hi hl;have h1:i<D.length:=by omega
  have B:=ih (i+1) (D.set i (backR (rd L (n:Int)) (n:Int) D[i])) (by rw [List.length_set];omega) (by rw [List.length_set];omega);rw [QB7 h1] at B;generalize D.take i++(D.drop i).map (backR (rd L (n:Int)) (n:Int))=R at B ⊢;refine Ev.shift 1 (Ev.congr (g:=fun k=>_) ?_ (fun k=>by rw [Zv.eq_2]));rw [rdN h1,wr1 (by omega)];refine Ev.pos (by simp [h1,w]) (Ev.bind (v:=D.set i (backR (rd L (n:Int)) (n:Int) D[i])) (Ev.chk (inR h1) ?_) B);refine Ev.bind (v:=decide (D[i].Task=(rd L (n:Int)).Task∧D[i].Call=(rd L (n:Int)).Call)) ?_ (Ev.bind ?_ (Ev.pure _))
  ·by_cases h:D[i].Task=(rd L (n:Int)).Task
   ·refine Ev.pos (by simpa using h) (Ev.chk (inR h1) ((Ev.pure _).eq ?_))
    by_cases g:D[i].Call=(rd L (n:Int)).Call
    ·rw [decide_eq_true (show D[i].Task=(rd L (n:Int)).Task∧D[i].Call=(rd L (n:Int)).Call from ⟨h,g⟩)];simpa using g
    ·rw [decide_eq_false (show ¬ (D[i].Task=(rd L (n:Int)).Task∧D[i].Call=(rd L (n:Int)).Call) from fun q=>g q.2)];simpa using g
   ·refine Ev.neg (by simpa using h) ((Ev.pure _).eq ?_);rw [decide_eq_false (show ¬ (D[i].Task=(rd L (n:Int)).Task∧D[i].Call=(rd L (n:Int)).Call) from fun q=>h q.1)]
  ·by_cases h:D[i].Task=(rd L (n:Int)).Task∧D[i].Call=(rd L (n:Int)).Call
   ·refine Ev.pos (by simpa using h) (Ev.chk (inR h1) (Ev.bind (Ev.pure _) ((Ev.pure _).eq ?_)));unfold backR;rw [if_pos h];rfl
   ·refine Ev.neg (by simpa using h) ((Ev.pure _).eq ?_);unfold backR;rw [if_neg h,List.set_getElem_self]
theorem QCa (L:List QB) (n:Nat) (w:(rd L (n:Int)).What≠3) (D:List Qi):Ev (fun k=>Zv L (n:Int) k D 0) D:=by
 refine Ev.shift 1 ⟨0,fun k _=>?_⟩;show Zv L (n:Int) (k+1) D 0=_;rw [Zv.eq_2,if_neg (by simp [w])]
structure Both (T:Nat) (i:Nat) (x:Core) (D:List Qi) (m:RM):Prop where
 di:DI T x
 iv:Inv i x.m
 dl:x.done.length≤i
 eq:D=x.done.map toR
 rl:Rel x.m m
theorem QBm {T:Nat} {p:Progs} (hp:p.length≤T) {x:Core} (I:DI T x) {e:QB} (hm:may p x e) (w:e.What=3) (b:Int):(x.done.map toR).map (backR e b)=(goS p x b e).done.map toR:=by
 obtain ⟨j,h,E,G⟩:=I.find hp hm w
 have H:(goS p x b e).done=x.done.set j ⟨x.done[j].Task,x.done[j].Call,x.done[j].Answer,x.done[j].Mark,b⟩:=by
  unfold goS;rw [if_neg (by omega),if_neg (by omega),E,rdN h];rfl
 rw [H];refine List.ext_getElem (by simp) fun i h1 h2=>?_;have hi:i<x.done.length:=by simpa using h1
 have B:=G i hi;rw [List.getElem_map,List.getElem_map,List.getElem_map,List.getElem_set];have key:backR e b (toR x.done[i])=if x.done[i].Task=e.Task∧x.done[i].Call=e.Call then ⟨x.done[i].Task,x.done[i].Call,x.done[i].Answer,x.done[i].Mark,b⟩ else toR x.done[i]:=rfl;rw [key]
 by_cases q:i=j
 ·subst q;rw [if_pos (B.2 rfl),if_pos rfl];rfl
 ·rw [if_neg (fun c=>q (B.1 c)),if_neg (fun c=>q c.symm)]
theorem run_ev {T:Nat} {p:Progs} (hp:p.length≤T) (L:List QB) (hl:L.length≤1000):∀ (j i:Nat) (x y:Core) (D:List Qi) (m:RM),i+j=L.length→Both T i x D m→overC p (L.drop i) (i:Int) x=some y →
  ∃ D' m',Ev (fun k=>YA p L k D (i:Int) m) (D',m')∧Both T L.length y D' m':=by
 intro j
 induction j with
 | zero =>
  intro i x y D m hi B h;obtain rfl:i=L.length:=by omega
  rw [List.drop_of_length_le (Nat.le_refl _)] at h
  cases h
  refine ⟨D,m,Ev.shift 1 ⟨0,fun k _=>?_⟩,B⟩;show YA p L (k+1) D (L.length:Int) m=_;rw [YA.eq_2,if_neg (by simp)]
 | succ j ih =>
  intro i x y D m hi B h;have h1:i<L.length:=by omega
  rw [List.drop_eq_getElem_cons h1,overC] at h
  by_cases hm:may p x L[i]
  case neg=>rw [if_neg hm] at h;cases h
  rw [if_pos hm] at h;have hs:=B.di.step hp hm (i:Int);have hb:=QBm hp B.di hm;have hw:=hm.1.2;obtain ⟨t0,t1,c0,c1⟩:=hm.1.1;have G:=QCa L i;have U:=back_l L i;rw [rdN h1] at G U;have key:∀ D' m' ,Both T (i+1) (goS p x (i:Int) L[i]) D' m'→∃ D'' m'',Ev (fun k=>YA p L k D' ((i+1:Nat):Int) m') (D'',m'')∧Both T L.length y D'' m'':=fun D' m' B'=>ih (i+1) _ y D' m' (by omega) B' h
  have go:∀ W D' m' r,Ev (fun k=>(if (L[i].What==(2:Int))=true then (if 0≤L[i].Task∧L[i].Task<(p.length:Int) then (if 0≤L[i].Call∧L[i].Call<((rd p L[i].Task).length:Int) then (Option.bind (YB k m L[i].Task (rd (rd p L[i].Task) L[i].Call)) (fun t=>(Option.bind (α:=List Qi) (some ([(⟨L[i].Task,L[i].Call,⟨t.1.Err,t.1.Found,t.1.Value,t.1.Pairs⟩,(i:Int),(-1:Int)⟩:Qi)]:List Qi)) (fun z=>(if D.length+z.length≤1599289640401 then some ((D++z),t.2) else none))))) else none) else none) else some (D,m))) (W,m') →
    Ev (fun k=>Zv L (i:Int) k W 0) D'→Ev (fun k=>YA p L k D' ((i+1:Nat):Int) m') r→Ev (fun k=>YA p L k D (i:Int) m) r:=fun W D' m' r Y Z g3=>by
   refine Ev.shift 1 (Ev.congr (g:=fun k=>_) ?_ (fun k=>by rw [YA.eq_2]));rw [rdN h1,wr1 (by omega)];exact Ev.pos (by simpa using h1) (Ev.pos (inR h1) (Ev.bind Y (Ev.bind Z g3)))
  by_cases O:L[i].What=2
  ·obtain ⟨m',Y,Z⟩:=B.rl.do_ev B.iv (by omega) L[i].Task (rd (rd p L[i].Task) L[i].Call);have E:goS p x (i:Int) L[i]=⟨x.done++[⟨L[i].Task,L[i].Call,(doS x.m L[i].Task (rd (rd p L[i].Task) L[i].Call)).1,(i:Int),-1⟩],x.last.set L[i].Task.toNat (x.done.length:Int),setT x L[i],(doS x.m L[i].Task (rd (rd p L[i].Task) L[i].Call)).2⟩:=by unfold goS;rw [if_neg (by omega),if_pos O]
   have hdl:=B.dl;have heq:=B.eq
   have B':Both T (i+1) (goS p x (i:Int) L[i]) (D++[⟨L[i].Task,L[i].Call,(doS x.m L[i].Task (rd (rd p L[i].Task) L[i].Call)).1,(i:Int),-1⟩]) m':=by
    refine ⟨hs,?_,?_,?_,?_⟩
    ·rw [E];exact B.iv.do_ _ _
    ·rw [E];simp;omega
    ·rw [E,heq];simp [toR]
    ·rw [E];exact Z
   obtain ⟨D'',m'',H,K⟩:=key _ _ B';refine ⟨D'',m'',go _ _ m' _ ?_ (G (by omega) _) H,K⟩;have hD:D.length=x.done.length:=by rw [heq,List.length_map]
   exact Ev.pos (by simpa using O) (Ev.chk ⟨t0,t1⟩ (Ev.chk ⟨c0,c1⟩ (Y.bind (Ev.bind (Ev.pure _) (Ev.chk (by simp;omega) (Ev.pure _))))))
  ·have E:(goS p x (i:Int) L[i]).m=x.m:=by unfold goS;rw [if_neg O];split<;>rfl
   have iv:Inv (i+1) (goS p x (i:Int) L[i]).m:=by rw [E];exact B.iv.mono (by omega)
   have rl:Rel (goS p x (i:Int) L[i]).m m:=by rw [E];exact B.rl
   have hdl:=B.dl;have heq:=B.eq;have hD:D.length=x.done.length:=by rw [heq,List.length_map]
   have first:Ev (fun k=>(if (L[i].What==(2:Int))=true then (if 0≤L[i].Task∧L[i].Task<(p.length:Int) then (if 0≤L[i].Call∧L[i].Call<((rd p L[i].Task).length:Int) then (Option.bind (YB k m L[i].Task (rd (rd p L[i].Task) L[i].Call)) (fun t=>(Option.bind (α:=List Qi) (some ([(⟨L[i].Task,L[i].Call,⟨t.1.Err,t.1.Found,t.1.Value,t.1.Pairs⟩,(i:Int),(-1:Int)⟩:Qi)]:List Qi)) (fun z=>(if D.length+z.length≤1599289640401 then some ((D++z),t.2) else none))))) else none) else none) else some (D,m))) (D,m):=Ev.neg (by simpa using O) (Ev.pure _)
   by_cases w3:L[i].What=3
   ·have V:=hb w3 (i:Int)
    have a7:(goS p x (i:Int) L[i]).done.length=x.done.length:=by
     have:=congrArg List.length V
     simpa using this.symm
    have B':Both T (i+1) (goS p x (i:Int) L[i]) (D.map (backR L[i] (i:Int))) m:=⟨hs,iv,by omega,by rw [heq];exact V,rl⟩;obtain ⟨D'',m'',H,K⟩:=key _ _ B';have h3:=U w3 D.length 0 D (by omega) (by omega);rw [List.take_zero,List.drop_zero,List.nil_append] at h3;exact ⟨D'',m'',go _ _ m _ first h3 H,K⟩
   ·have e1:(goS p x (i:Int) L[i]).done=x.done:=by unfold goS;rw [if_pos (by omega)]
    have B':Both T (i+1) (goS p x (i:Int) L[i]) D m:=⟨hs,iv,by rw [e1];omega,by rw [e1];exact heq,rl⟩;obtain ⟨D'',m'',H,K⟩:=key _ _ B';exact ⟨D'',m'',go _ _ m _ first (G w3 _) H,K⟩
theorem Both.new {c:Qb} {T:Nat} {p:Progs} {x0:Run} (R:RI T p 0 x0) (h1:x0.m=newS c) (h2:x0.done=[]) (h3:x0.r.tasks=List.replicate T ⟨0,0⟩):Both T 0 (coreOf x0) [] ⟨c,[],[],0,0⟩:=by
 refine ⟨DI.new (by show x0.r.tasks.length=T;rw [h3];simp) R.la h2 fun t ht=>?_,R.iv,by show x0.done.length≤0;rw [h2];simp,by show []=x0.done.map toR;rw [h2];rfl,by show Rel x0.m _;rw [h1];exact Rel.new c⟩;show (rd x0.r.tasks (t:Int)).at_=0;rw [h3,rdN (by simpa using ht)];simp
theorem QAn {c:Qb} (hm:mayB c=true):Ev (fun k=>XX k c) (.inr ⟨c,[],[],0,0⟩):=⟨0,fun k _=>by
 show XX k c=_;unfold XX;rw [JO,hm];rfl⟩
theorem Ko {c:Qb} {p:Progs} (hm:mayB c=true) (hp:p.length≤c.Tasks.toNat) {x0:Run} (R:RI c.Tasks.toNat p 0 x0) (h1:x0.m=newS c) (h2:x0.done=[]) (h3:x0.r.tasks=List.replicate c.Tasks.toNat ⟨0,0⟩) {L:List QB} (hl:L.length≤1000) {y:Core} (hy:overC p L 0 (coreOf x0)=some y) :
  ∃ D m,Ev (fun k=>YM k c p L) (D,m)∧Both c.Tasks.toNat L.length y D m:=by
 obtain ⟨D,m,B,E⟩:=run_ev hp L hl L.length 0 (coreOf x0) y [] ⟨c,[],[],0,0⟩ (by omega) (Both.new R h1 h2 h3) hy;exact ⟨D,m,(QAn hm).bind (Ev.bind B (Ev.pure _)),E⟩
theorem qK {c:Qb} {p:Progs} {L:List QB} (h:mayP c p=false):Ev (fun k=>YJ k c p L) (.inl ()):=(V8 c p).bind (Ev.pos (by rw [h];rfl) (Ev.pure _))
section
variable {c:Qb} {p:Progs} (h:mayP c p=true) {x0:Run} (R:RI c.Tasks.toNat p 0 x0) (h1:x0.m=newS c) (h2:x0.done=[]) (h3:x0.r.tasks=List.replicate c.Tasks.toNat ⟨0,0⟩) {L:List QB} (hl:L.length≤1000) (ha:∀ x∈L,x.Answer.Pairs.length≤100000∧0≤x.What∧x.What≤255)
include h h3 hl ha in
theorem KQ (hn:overC p L 0 (coreOf x0)=none):Ev (fun k=>YJ k c p L) (.inr (.inl ())):=by
 obtain ⟨hm,hp,_⟩:=Jo h;have ho:=of_ev hm hp hl (fun x hx=>⟨by have:=(ha x hx).1;omega,(ha x hx).2⟩) (x:=coreOf x0) h3;rw [hn] at ho;exact (V8 c p).bind (Ev.neg (by rw [h];simp) (ho.bind (Ev.pos rfl (Ev.pure _))))
include h R h1 h2 h3 hl ha in
theorem Kq {y:Core} (hy:overC p L 0 (coreOf x0)=some y):∃ D m,Ev (fun k=>YM k c p L) (D,m)∧Ev (fun k=>YJ k c p L) (.inr (.inr m))∧Both c.Tasks.toNat L.length y D m:=by
 obtain ⟨hm,hp,_⟩:=Jo h;have ho:=of_ev hm hp hl (fun x hx=>⟨by have:=(ha x hx).1;omega,(ha x hx).2⟩) (x:=coreOf x0) h3;rw [hy] at ho;obtain ⟨D,m,B,E⟩:=Ko hm hp R h1 h2 h3 hl hy;exact ⟨D,m,B,(V8 c p).bind (Ev.neg (by rw [h];simp) (ho.bind (Ev.neg (by simp) (B.bind (Ev.pure _))))),E⟩
end
theorem ovEq_v:OvEq Xx:=fun L k i x=>by rw [Xx.eq_2]
theorem QAr {c:Qb} {p:Progs} {T:Nat} {x0:Run} {L:List QB} (hb:Ev (fun k=>Yb k c p) (.inr x0)) (R:RI T p 0 x0) (hp:p.length≤T) (hl:L.length≤1000) (hA:∀ e∈L,e.Answer.Pairs.length≤100000) :
  (overC p L 0 (coreOf x0)=none∧Ev (fun k=>Yy k c p L) (.inr (.inl ())))∨∃ y:Run,RI T p L.length y∧overC p L 0 (coreOf x0)=some (coreOf y)∧Ev (fun k=>Yy k c p L) (.inr (.inr y)):=by
 have h:=ov_all hp Xx ovEq_v L hl hA L.length 0 x0 (by omega) R;rw [List.drop_zero] at h;rcases h with ⟨h,g⟩ | ⟨y,hy,h,g⟩
 ·exact .inl ⟨h,Ev.bind hb (Ev.bind g (Ev.pure _))⟩
 ·exact .inr ⟨y,hy,h,Ev.bind hb (Ev.bind g (Ev.pure _))⟩
end Go.Proofs.YtnjbjpaiepefoaaGreatDoor
