import Derived.Test.YtnjbjpaiepefoaaDoorPureG
namespace Go.Proofs.YtnjbjpaiepefoaaDoor
open Go Go.RowKit
set_option linter.unusedVariables false
set_option linter.unusedSimpArgs false
set_option maxRecDepth 100000
section
variable {p:Progs} {A:Askd}
theorem Jp {x:Zu} {a c:Int} (h1:x.at_=a) (h2:x.calls=c):x=⟨a,c⟩:=by cases x;simp only at h1 h2;rw [h1,h2]
theorem qr {T:Tks} {t:Int} (h0:0≤t) (h1:t<(T.length:Int)):(rd (unm T) t).calls=(rd T t).calls∧(rd (unm T) t).at_=if (rd T t).at_=2 then 1 else (rd T t).at_:=by
 rw [unm_rd h0 h1]
 by_cases q:(rd T t).at_=2
 ·rw [if_pos q,if_pos q];exact ⟨rfl,rfl⟩
 ·rw [if_neg q,if_neg q];exact ⟨rfl,rfl⟩
theorem QBY {T:Tks} {t:Int} {x:Zu} (h0:0≤t) (h1:t<(T.length:Int)) (h:rd T t=x):T.set t.toNat x=T:=by
 obtain ⟨n,rfl⟩:=Int.eq_ofNat_of_zero_le h0;have hn:n<T.length:=by omega
 rw [rdN hn] at h;rw [show ((n:Int)).toNat=n from rfl,← h,List.set_getElem_self]
theorem FF.toG {l:Evs} {O:List Int} {m:Mod} (h:FF p A l O m):∀ (T:Tks) (i:Int) (x y:Core),p.length≤T.length→O=opn T→x.tasks=unm T→overC p (markL l) i x=some y→(∀ e∈l,e.What≠2)→(∀ t:Nat,t<T.length→(rd T (t:Int)).at_=1→okCall p (t:Int) (rd T (t:Int)).calls)→G p A l T m:=by
 induction h with
 | nil=>intros;exact .nil
 | @inv e l O m w h ih =>
  intro T i x y hT hO hx hy hN hK;rw [markL,if_neg (by omega),overC] at hy
  by_cases hm:may p x e
  case neg=>rw [if_neg hm] at hy;cases hy
  rw [if_pos hm] at hy;have g:=hm.1;have V:=g.1.1;have Y:e.Task<(T.length:Int):=by have:=g.1.2.1;omega
  have u:=qr (T:=T) V Y;have H:=hm.2.1;have E:=hm.2.2;rw [hx] at H E;rw [u.2] at H;rw [u.1] at E
  have aT:(rd T e.Task).at_=0:=by
   by_cases q:(rd T e.Task).at_=2
   ·rw [if_pos q] at H;omega
   ·rw [if_neg q] at H;omega
  have a:atE T e:=⟨by rw [aT];omega,E⟩;have nx:nextT (rd T e.Task) (e.What-1)=⟨1,e.Call⟩:=by rw [w];unfold nextT;rw [if_neg (by decide),E];rfl
  refine .ev (by omega) g a (ih (st T e) (i+1) (goS p x i e) y (by rw [UV];exact hT) ?_ ?_ hy (fun z hz=>hN z (List.mem_cons_of_mem _ hz)) fun t ht h1=>?_)
  ·rw [Jx,nx,if_pos rfl,← hO]
  ·rw [KA,qq,nx,if_neg (show ¬ (1:Int)=2 by decide)];unfold st;rw [hx,Jp (x:=rd (unm T) e.Task) (a:=0) (c:=e.Call) (by rw [u.2,aT];rfl) (by rw [u.1];exact E),w];rfl
  ·rw [UV] at ht;rw [rdT g hT (by omega) (by omega)] at h1 ⊢
   by_cases q:(t:Int)=e.Task
   ·rw [if_pos q,nx,q];exact g.1
   ·rw [if_neg q] at h1 ⊢;exact hK t ht h1
 | @skip e l O m w q h ih =>
  intro T i x y hT hO hx hy hN hK;have w2:=hN e List.mem_cons_self
  by_cases Z:e.What=3
  case neg =>
   rw [markL,if_neg Z,overC] at hy
   by_cases hm:may p x e
   ·exact absurd (UO hm.1) (by omega)
   ·rw [if_neg hm] at hy;cases hy
  rw [markL,if_pos Z,overC] at hy;generalize hf:(⟨2,e.Task,e.Call,ans 0⟩:QA)=f at hy;have B:f.Task=e.Task:=by rw [← hf]
  have K:f.Call=e.Call:=by rw [← hf]
  have W:f.What=2:=by rw [← hf]
  by_cases hm:may p x f
  case neg=>rw [if_neg hm] at hy;cases hy
  rw [if_pos hm,overC] at hy
  by_cases a0:may p (goS p x i f) e
  case neg=>rw [if_neg a0] at hy;cases hy
  rw [if_pos a0] at hy;have g:=a0.1;have V:=g.1.1;have Y:e.Task<(T.length:Int):=by have:=g.1.2.1;omega
  have u:=qr (T:=T) V Y;have H:=hm.2.1;have E:=hm.2.2;rw [hx,B] at H E;rw [W] at H;rw [K,u.1] at E
  have aT:(rd T e.Task).at_=2:=by
   by_cases U:(rd T e.Task).at_=2
   ·exact U
   ·rw [u.2,if_neg U] at H;refine absurd ?_ q;rw [hO,Jy V Y,if_pos (by omega)];exact E
  have a:atE T e:=⟨by rw [aT,Z];rfl,E⟩;have nx:nextT (rd T e.Task) (e.What-1)=⟨0,e.Call+1⟩:=by rw [Z];unfold nextT;rw [if_pos (by decide),E]
  have hUl:(unm T).length=T.length:=by unfold unm;rw [List.length_map]
  have eU:rd (unm T) e.Task=⟨1,e.Call⟩:=Jp (by rw [u.2,if_pos aT]) (by rw [u.1];exact E);refine .ev (by omega) g a (ih (st T e) (i+1+1) (goS p (goS p x i f) (i+1) e) y (by rw [UV];exact hT) ?_ ?_ hy (fun z hz=>hN z (List.mem_cons_of_mem _ hz)) fun t ht h1=>?_)
  ·rw [Jx,nx,if_neg (show ¬ (0:Int)=1 by decide),hO];have e1:rd (opn T) e.Task=-1:=by rw [Jy V Y,if_neg (by omega)]
   obtain ⟨n,hn⟩:=Int.eq_ofNat_of_zero_le V;have hl:n<(opn T).length:=by unfold opn;rw [List.length_map];omega
   rw [hn,rdN hl] at e1;rw [hn,show ((n:Int)).toNat=n from rfl,← e1,List.set_getElem_self]
  ·rw [KA,KA,qq,nx,if_neg (show ¬ (0:Int)=2 by decide)];unfold st;rw [hx,B,eU,W]
   have e2:rd ((unm T).set e.Task.toNat (nextT ⟨1,e.Call⟩ (2-1))) e.Task=⟨2,e.Call⟩:=by
    obtain ⟨n,hn⟩:=Int.eq_ofNat_of_zero_le V;rw [hn,rdN (by rw [List.length_set];omega),List.getElem_set,if_pos (Int.toNat_natCast n)];rfl
   rw [e2,List.set_set,Z];rfl
  ·rw [UV] at ht;rw [rdT g hT (by omega) (by omega)] at h1 ⊢
   by_cases q:(t:Int)=e.Task
   ·rw [if_pos q,nx] at h1;exact absurd (show (0:Int)=1 from h1) (by decide)
   ·rw [if_neg q] at h1 ⊢;exact hK t ht h1
 | @mark e l O m w q u hu hc h ih =>
  intro T i x y hT hO hx hy hN hK;have hOl:O.length=T.length:=by rw [hO];unfold opn;rw [List.length_map]
  have hu':(u:Int)<(T.length:Int):=by omega
  have hr:rd O (u:Int)=if (rd T (u:Int)).at_=1 then (rd T (u:Int)).calls else -1:=by rw [hO,Jy (by omega) hu']
  have aT:(rd T (u:Int)).at_=1:=by
   have:=hc.1;rw [hr] at this
   by_cases U:(rd T (u:Int)).at_=1
   ·exact U
   ·rw [if_neg U] at this;omega
  rw [if_pos aT] at hr;have hok:=hK u (by omega) aT;generalize hf:(⟨2,(u:Int),(rd T (u:Int)).calls,ans 0⟩:QA)=f;have B:f.Task=(u:Int):=by rw [← hf]
  have K:f.Call=(rd T (u:Int)).calls:=by rw [← hf]
  have W:f.What=2:=by rw [← hf]
  have f4:f.Answer=ans 0:=by rw [← hf]
  have g:goodE p f:=⟨by rw [B,K];exact hok,by omega,by omega,fun _=>f4⟩;have a:atE T f:=⟨by rw [B,W];exact aT,by rw [B,K]⟩;have nx:nextT (rd T f.Task) (f.What-1)=⟨2,f.Call⟩:=by rw [W,B];unfold nextT;rw [if_neg (by decide),K];rfl
  refine .mark W g a (fun z hz=>?_) ?_
  ·rw [B,K,← hr] at hz ⊢;exact hc.2 z hz
  ·have hG:=ih (st T f) i x y (by rw [UV];exact hT) (by rw [Jx,nx,if_neg (show ¬ (2:Int)=1 by decide),hO,B];rfl) (by
    rw [hx,qq,nx,if_pos rfl];refine (QBY (by rw [B];omega) ?_ ?_).symm
    ·unfold unm;rw [List.length_map,B];exact hu'
    ·have:=qr (T:=T) (t:=f.Task) (by rw [B];omega) (by rw [B];exact hu');exact Jp (by rw [this.2,if_neg (by rw [B];omega),B];exact aT) (by rw [this.1,B,K])) hy hN (fun t ht h1=>by
    rw [UV] at ht;rw [rdT g hT (by omega) (by omega)] at h1 ⊢
    by_cases U:(t:Int)=f.Task
    ·rw [if_pos U,nx] at h1;exact absurd (show (2:Int)=1 from h1) (by decide)
    ·rw [if_neg U] at h1 ⊢;exact hK t ht h1)
   unfold next at hG;rw [hr] at hG;rw [B,K];exact hG
end
theorem Jw (p:Progs) (e:QA):∀ (l:Evs) (a:Int) (x y:Core),overC p l a x=some y→overC p (l++[e]) a x=if may p y e then some (goS p y (a+(l.length:Int)) e) else none
 | [],a,x,y,h=>by
  cases h
  show (if may p x e then some (goS p x a e) else none)=_;rw [List.length_nil,show a+((0:Nat):Int)=a by omega]
 | z::l,a,x,y,h=>by
  rw [overC] at h
  by_cases hm:may p x z
  ·rw [if_pos hm] at h;rw [List.cons_append,overC,if_pos hm,Jw p e l (a+1) _ y h,List.length_cons,show a+1+(l.length:Int)=a+((l.length+1:Nat):Int) by omega]
  ·rw [if_neg hm] at h;cases h
structure OV (T:Nat) (p:Progs) (n:Nat→Nat) (x:Core):Prop where
 tl:x.tasks.length=T
 st:∀ t:Nat,t<T→rd x.tasks (t:Int)=stAt (n t)
 ok:∀ t:Nat,t<T→(rd x.tasks (t:Int)).at_≠0→okCall p (t:Int) (rd x.tasks (t:Int)).calls
theorem Jv {T:Nat} {p:Progs} (hp:p.length≤T):∀ (l:Evs) (a:Int) (x y:Core) (n n':Nat→Nat),OV T p n x→overC p l a x=some y→(∀ t:Nat,n' t=n t+(ofT l (t:Int)).length)→OV T p n' y
 | [],a,x,y,n,n',V,h,hn=>by
  cases h
  exact ⟨V.tl,fun t ht=>by rw [hn t];exact V.st t ht,V.ok⟩
 | e::l,a,x,y,n,n',V,h,hn=>by
  rw [overC] at h
  by_cases hm:may p x e
  case neg=>rw [if_neg hm] at h;cases h
  rw [if_pos hm] at h;obtain ⟨B,E⟩:=go_rk hp V.tl V.st hm a;have g:=hm.1;have H:=g.1.1;have K:e.Task<(T:Int):=by have:=g.1.2.1;omega
  refine Jv hp l (a+1) _ y _ n' ⟨B,E,fun t ht h1=>?_⟩ h fun t=>?_
  ·rw [V7,Ji V.tl H K (by omega) (by omega)] at h1 ⊢
   by_cases q:(t:Int)=e.Task
   ·rw [if_pos q] at h1 ⊢;unfold nextT at h1 ⊢
    by_cases w:e.What-1=2
    ·rw [if_pos w] at h1;exact absurd rfl h1
    ·rw [if_neg w,q];show okCall p e.Task (rd x.tasks e.Task).calls;rw [hm.2.2];exact g.1
   ·rw [if_neg q] at h1 ⊢;exact V.ok t ht h1
  ·rw [hn t,UY]
   by_cases q:e.Task=(t:Int)
   ·rw [if_pos q,if_pos q.symm,List.length_cons];omega
   ·rw [if_neg q,if_neg (fun h=>q h.symm)]
def RTold (d:Evs) (y:Core):Prop:=∀ (j:Nat) (h:j<y.done.length),0≤y.done[j].Back→∃ b:Nat,y.done[j].Back=(b:Int)∧∃ hb:b<d.length,d[b].Answer=y.done[j].Answer
theorem RTold.step {T:Nat} {p:Progs} (hp:p.length≤T) {d:Evs} {y:Core} (D:DI T y) (R:RTold d y) {e:QA} (hm:may p y e) (ho:e.What=3→(rd y.done (rd y.last e.Task)).Answer=e.Answer):RTold (d++[e]) (goS p y (d.length:Int) e):=by
 have old:∀ (j:Nat) (h:j<y.done.length),0≤y.done[j].Back→∃ b:Nat,y.done[j].Back=(b:Int)∧∃ hb:b<(d++[e]).length,(d++[e])[b].Answer=y.done[j].Answer:=fun j h h0=>by
  obtain ⟨b,h1,hb,h2⟩:=R j h h0;exact ⟨b,h1,by rw [List.length_append];omega,by rw [List.getElem_append_left hb];exact h2⟩
 have w:=UO hm.1;intro j h h0
 by_cases H:e.What=1
 ·have E:(goS p y (d.length:Int) e).done=y.done:=by unfold goS;rw [if_pos H]
  simp only [E] at h h0 ⊢;exact old j h h0
 by_cases K:e.What=2
 ·have E:(goS p y (d.length:Int) e).done=y.done++[⟨e.Task,e.Call,(doS y.m e.Task (rd (rd p e.Task) e.Call)).1,(d.length:Int),-1⟩]:=by unfold goS;rw [if_neg H,if_pos K]
  simp only [E] at h h0 ⊢
  by_cases c:j<y.done.length
  ·rw [List.getElem_append_left c] at h0 ⊢;exact old j c h0
  ·rw [List.getElem_append_right (by omega)] at h0;have:j-y.done.length=0:=by simp at h;omega
   simp [this] at h0
 ·have U:e.What=3:=by omega
  obtain ⟨B,V,W,Y⟩:=D.find hp hm U
  have E:(goS p y (d.length:Int) e).done=y.done.set B ⟨y.done[B].Task,y.done[B].Call,y.done[B].Answer,y.done[B].Mark,(d.length:Int)⟩:=by
   unfold goS;rw [if_neg H,if_neg K,W,rdN V];rfl
  simp only [E] at h h0 ⊢;have hj:j<y.done.length:=by simpa using h
  rw [List.getElem_set] at h0 ⊢
  by_cases q:B=j
  ·subst q;rw [if_pos rfl];refine ⟨d.length,rfl,by simp,?_⟩;rw [List.getElem_append_right (by omega)];have:=ho U;rw [W,rdN V] at this;simp [this]
  ·rw [if_neg q] at h0 ⊢;exact old j hj h0
theorem QCS (l:Evs) (D:List Zb) (m:RM) (hD:D.length≤1000) (hA:∀ e∈l,e.Answer.Pairs.length≤1000000) (hR:∀ (j:Nat) (h:j<D.length),0≤D[j].Back→∃ b:Nat,D[j].Back=(b:Int)∧∃ hb:b<l.length,l[b].Answer=D[j].Answer) :
  ∀ j i:Nat,i+j=D.length→Ev (fun k=>Yb l (D.map toR,m) k (i:Int)) (.inr ()):=by
 intro j
 induction j with
 | zero =>
  intro i hi;refine Ev.shift 1 ⟨0,fun k _=>?_⟩;show Yb l (D.map toR,m) (k+1) (i:Int)=_;rw [Yb.eq_2,if_neg (by simp;omega)]
 | succ j ih =>
  intro i hi;have h1:i<D.length:=by omega
  have hlm:i<(D.map toR).length:=by simpa using h1
  have em:(D.map toR)[i]=toR D[i]:=by simp
  refine Ev.shift 1 (Ev.congr (g:=fun k=>_) ?_ (fun k=>by rw [Yb.eq_2]));simp only [rdN hlm,em,wr1 (i:=i) (by omega)];refine Ev.pos (by simpa using h1) (Ev.pos (inR hlm) (Ev.bind (v:=false) ?_ (Ev.neg (by simp) (ih (i+1) (by omega)))))
  by_cases hb:0≤D[i].Back
  ·obtain ⟨b,E,B,H⟩:=hR i h1 hb;have eb:(toR D[i]).Back=(b:Int):=E;have ea:(toR D[i]).Answer=D[i].Answer:=rfl;simp only [eb,ea,rdN B];refine Ev.pos (by simp) (Ev.chk (inR hlm) (Ev.chk (inR B) (Ev.chk (inR hlm) ((JO l[b].Answer D[i].Answer (hA _ (List.getElem_mem B))).bind ((Ev.pure _).eq (by simp [H]))))))
  ·exact Ev.neg (by show ¬ decide (D[i].Back≥0)=true;simp;omega) (Ev.pure _)
theorem QBc {c:Qa} {p:Progs} {l:Evs} {D:List Zb} {m:RM} (h:Ev (fun k=>YP k c p l) (.inr (D.map toR,m))) (hD:D.length≤1000) (hA:∀ e∈l,e.Answer.Pairs.length≤1000000) (hR:∀ (j:Nat) (h:j<D.length),0≤D[j].Back→∃ b:Nat,D[j].Back=(b:Int)∧∃ hb:b<l.length,l[b].Answer=D[j].Answer) :
  Ev (fun k=>XT k c p l) true:=h.bind (Ev.bind (QCS l D m hD hA hR D.length 0 (by omega)) (Ev.pure _))
theorem fine_l (left:Evs) (hl:left.length≤1000) (hA:∀ e∈left,e.Answer.Pairs.length≤1000000) (D:List QP) (m:RM) (x:QP) (hx:rd D (IntKind.i64.wrap ((D.length:Int)-1))=x) :
  ∀ j i:Nat,i+j=left.length→Ev (fun k=>Yp left (D,m) k (i:Int)) (match (left.drop i).find? (isRet x.Task x.Call) with | some e=>.inl (decide (e.Answer=x.Answer)) | none=>.inr ()):=by
 intro j
 induction j with
 | zero =>
  intro i hi;rw [List.drop_of_length_le (by omega)];refine Ev.shift 1 ⟨0,fun k _=>?_⟩;show Yp left (D,m) (k+1) (i:Int)=_;rw [Yp.eq_2,if_neg (by simp;omega)];rfl
 | succ j ih =>
  intro i hi;have h1:i<left.length:=by omega
  have hih:=ih (i+1) (by omega);have hAi:=hA _ (List.getElem_mem h1);refine Ev.shift 1 (Ev.congr (g:=fun k=>_) ?_ (fun k=>by rw [Yp.eq_2]));simp only [rdN h1,hx,wr1 (i:=i) (by omega)];rw [List.drop_eq_getElem_cons h1];generalize left[i]=e at hAi;refine Ev.pos (by simpa using h1) (Ev.pos (inR h1) (Ev.bind (v:=(e.What==3)&&(e.Task==x.Task)) ?_ (Ev.bind (v:=isRet x.Task x.Call e) ?_ ?_)))
  ·cases h:(e.What==3)
   ·exact Ev.neg (by simp) (Ev.pure _)
   ·exact Ev.pos rfl (Ev.chk (inR h1) (Ev.pure _))
  ·unfold isRet
   cases h:((e.What==3)&&(e.Task==x.Task))
   ·exact Ev.neg (by simp) (Ev.pure _)
   ·exact Ev.pos rfl (Ev.chk (inR h1) (Ev.pure _))
  ·cases h:isRet x.Task x.Call e
   ·rw [List.find?_cons_of_neg (by rw [h];simp)];exact Ev.neg (by simp) hih
   ·rw [List.find?_cons_of_pos h];exact Ev.pos rfl (Ev.chk (inR h1) ((JO e.Answer x.Answer hAi).bind (Ev.pure _)))
theorem QCh {c:Qa} {p:Progs} {l left:Evs} {D:List Zb} {z:Zb} {m:RM} (h:Ev (fun k=>YP k c p l) (.inr ((D++[z]).map toR,m))) (hD:D.length≤1000) (hl:left.length≤1000) (hA:∀ e∈left,e.Answer.Pairs.length≤1000000) :
  ∃ q,Ev (fun k=>Xu k c p l left) q∧(q=true↔∀ a,retAns left z.Task z.Call=some a→z.Answer=a):=by
 have hlen:((D++[z]).map toR).length=D.length+1:=by simp
 have ew:IntKind.i64.wrap ((((D++[z]).map toR).length:Int)-1)=(D.length:Int):=by rw [hlen,wr (by omega) (by omega)];omega
 have hx:rd ((D++[z]).map toR) (IntKind.i64.wrap ((((D++[z]).map toR).length:Int)-1))=toR z:=by
  rw [ew,rdN (by omega)];simp
 have hf:=fine_l left hl hA ((D++[z]).map toR) m (toR z) hx left.length 0 (by omega);rw [List.drop_zero] at hf;have B:(toR z).Task=z.Task:=rfl;have E:(toR z).Call=z.Call:=rfl;have H:(toR z).Answer=z.Answer:=rfl;rw [B,E,H] at hf;unfold retAns
 cases hq:left.find? (isRet z.Task z.Call) with
 | none =>
  rw [hq] at hf;refine ⟨true,h.bind (Ev.chk ?_ (Ev.bind hf (Ev.pure _))),by simp⟩;show 0≤IntKind.i64.wrap _∧IntKind.i64.wrap _<_;dsimp only;rw [ew,hlen];omega
 | some e =>
  rw [hq] at hf;refine ⟨decide (e.Answer=z.Answer),h.bind (Ev.chk ?_ (Ev.bind hf (Ev.pure _))),?_⟩
  ·show 0≤IntKind.i64.wrap _∧IntKind.i64.wrap _<_;dsimp only;rw [ew,hlen];omega
  ·simp only [decide_eq_true_eq,Option.map_some,Option.some.injEq,forall_eq'];exact ⟨fun h=>h.symm,fun h=>h.symm⟩
theorem QBS {T:Nat} {p:Progs} {d:Evs} {y:Core} (hd:d.length≤1000) (V:OV T p (fun t=>(ofT d (t:Int)).length) y) (t:Nat) (ht:t<T) :
  Ev (fun k=>Yy k d (t:Int)) (if (rd y.tasks (t:Int)).at_=0 then (0,false,false) else ((rd y.tasks (t:Int)).calls,((rd y.tasks (t:Int)).at_==2),true)):=by
 have hs:=V.st t ht;have hlen:=QBf d (t:Int);have h3:(ofT d (t:Int)).length % 3<3:=Nat.mod_lt _ (by decide);have B:Int.tmod ((ofT d (t:Int)).length:Int) 3=(((ofT d (t:Int)).length % 3:Nat):Int):=by rw [Int.tmod_eq_emod_of_nonneg (by omega)];rfl
 have E:Int.tdiv ((ofT d (t:Int)).length:Int) 3=(((ofT d (t:Int)).length / 3:Nat):Int):=by rw [Int.tdiv_eq_ediv_of_nonneg (by omega)];rfl
 unfold Yy;refine (QBa d (t:Int) hd).bind ?_;rw [hs,B,E,wr (x:=(((ofT d (t:Int)).length / 3:Nat):Int)) (by omega) (by omega)];show Ev _ (if (((ofT d (t:Int)).length % 3:Nat):Int)=0 then _ else ((((ofT d (t:Int)).length / 3:Nat):Int),((((ofT d (t:Int)).length % 3:Nat):Int)==2),true))
 by_cases q:(((ofT d (t:Int)).length % 3:Nat):Int)=0
 ·rw [if_pos q];exact Ev.pos (by rw [q];rfl) (Ev.pure _)
 ·rw [if_neg q];exact Ev.neg (by rw [beq_iff_eq];exact q) (Ev.pure _)
def mkE (y:Core) (t:Nat):QA:=⟨2,(t:Int),(rd y.tasks (t:Int)).calls,ans 0⟩
def condM (p:Progs) (left:Evs) (y:Core) (t:Nat):Prop:=(rd y.tasks (t:Int)).at_=1∧∀ a,retAns left (t:Int) (rd y.tasks (t:Int)).calls=some a→(doS y.m (t:Int) (rd (rd p (t:Int)) (rd y.tasks (t:Int)).calls)).1=a
def opens (T:Tks):Nat:=T.countP fun z=>decide (z.at_=1)
theorem KY:∀ (T:Tks) (n:Nat) (h:n<T.length) (z:Zu),opens (T.set n z)+(if T[n].at_=1 then 1 else 0)=opens T+(if z.at_=1 then 1 else 0)
 | [],n,h,z=>by simp at h
 | x::T,0,h,z=>by simp only [opens,List.set_cons_zero,List.countP_cons,List.getElem_cons_zero,decide_eq_true_eq];omega
 | x::T,n+1,h,z=>by
  have:=KY T n (by simpa using h) z;simp only [opens,List.set_cons_succ,List.countP_cons,List.getElem_cons_succ] at this ⊢;omega
theorem Jz {T:Nat} {p:Progs} (hp:p.length≤T) {y:Core} (tl:y.tasks.length=T) {e:QA} (hm:may p y e) :
  (e.What=1→opens (st y.tasks e)=opens y.tasks+1)∧(e.What=2→opens (st y.tasks e)+1=opens y.tasks)∧(e.What=3→opens (st y.tasks e)=opens y.tasks):=by
 have B:=hm.1.1.1;have E:e.Task<(T:Int):=by have:=hm.1.1.2.1;omega
 obtain ⟨n,hn⟩:=Int.eq_ofNat_of_zero_le B;have hl:n<y.tasks.length:=by omega
 have h:=KY y.tasks n hl (nextT (rd y.tasks e.Task) (e.What-1));have ha:=hm.2.1;rw [hn,rdN hl] at ha;have es:st y.tasks e=y.tasks.set n (nextT (rd y.tasks e.Task) (e.What-1)):=by unfold st;rw [hn];rfl
 rw [es];have hx:=Ky (x:=rd y.tasks e.Task) (w:=e.What-1) (by have:=UO hm.1;omega);refine ⟨fun w=>?_,fun w=>?_,fun w=>?_⟩
 ·rw [if_neg (by omega)] at hx;rw [if_neg (by omega),if_pos (by omega)] at h;omega
 ·rw [if_neg (by omega)] at hx;rw [if_pos (by omega),if_neg (by omega)] at h;omega
 ·rw [if_pos (by omega)] at hx;rw [if_neg (by omega),if_neg (by omega)] at h;omega
def OT (p:Progs) (left:Evs) (y:Core):Prop:=∀ t:Nat,t<p.length→(rd y.tasks (t:Int)).at_=2→∀ a,retAns left (t:Int) (rd y.tasks (t:Int)).calls=some a→(rd y.done (rd y.last (t:Int))).Answer=a
def AL (p:Progs) (A:Askd) (left:Evs) (y:Core):Prop:=∀ t c:Int,0≤t→t<(p.length:Int)→(rd y.tasks t).calls≤c→A t c=retAns left t c
structure TS (p:Progs) (x0:Core) (A:Askd) (d left:Evs) (y:Core):Prop where
 ov:overC p d 0 x0=some y
 rt:RTold d y
 pe:∀ e∈d++left,e.Answer.Pairs.length≤100000∧0≤e.What∧e.What≤255
 nm:∀ e∈left,e.What≠2
 ot:OT p left y
 al:AL p A left y
theorem TS.next {p:Progs} {x0:Core} {A:Askd} {d left:Evs} {y:Core} (S:TS p x0 A d left y) {e:QA} (hm:may p y e):overC p (d++[e]) 0 x0=some (goS p y (d.length:Int) e):=by
 rw [Jw p e d 0 x0 y S.ov,if_pos hm,Int.zero_add]
theorem QBT {p:Progs} {x0:Core} {A:Askd} {d:Evs} {y:Core} {rest:Evs} {e:QA} (S:TS p x0 A d (e::rest) y) (hm:may p y e) (w:e.What=3):(rd y.done (rd y.last e.Task)).Answer=e.Answer:=by
 have B:=hm.1.1.1;have E:=hm.1.1.2.1;obtain ⟨n,hn⟩:=Int.eq_ofNat_of_zero_le B;have h1:=hm.2.1;have h2:=hm.2.2;rw [hn] at h1 h2 ⊢;refine S.ot n (by omega) (by omega) e.Answer ?_;unfold retAns;rw [List.find?_cons_of_pos (by simp [isRet,w,hn,h2])];rfl
theorem OV.three {T:Nat} {p:Progs} {y:Core} {n:Nat→Nat} (V:OV T p n y) (t:Nat) (ht:t<T):(rd y.tasks (t:Int)).at_=0∨(rd y.tasks (t:Int)).at_=1∨(rd y.tasks (t:Int)).at_=2:=by
 rw [V.st t ht];show ((n t % 3:Nat):Int)=0∨((n t % 3:Nat):Int)=1∨((n t % 3:Nat):Int)=2;omega
theorem q9 {T:Nat} {p:Progs} {y:Core} {n:Nat→Nat} (V:OV T p n y) {t:Nat} (ht:t<T) (h:(rd y.tasks (t:Int)).at_=1):may p y (mkE y t) :=
 ⟨⟨V.ok t ht (by omega),by show (1:Int)≤2;decide,by show (2:Int)≤3;decide,fun _=>rfl⟩,by show (rd y.tasks (t:Int)).at_=2-1;omega,rfl⟩
section
variable {T:Nat} {p:Progs} (hp:p.length≤T) {x0:Core} {A:Askd} {d:Evs} {y:Core}
include hp
theorem TS.ev {rest:Evs} {e:QA} (S:TS p x0 A d (e::rest) y) (D:DI T y) (hm:may p y e):TS p x0 A (d++[e]) rest (goS p y (d.length:Int) e):=by
 have Z:=S.nm e List.mem_cons_self;have ww:=UO hm.1;have t0:=hm.1.1.1;have t1:e.Task<(T:Int):=by have:=hm.1.1.2.1;omega
 have hs:=fun {u:Int} (E:0≤u) (H:u<(T:Int))=>Ji (x:=y) D.tl t0 t1 E H;have skip:∀ t c:Int,¬ isRet t c e=true→retAns (e::rest) t c=retAns rest t c:=fun t c h=>qM h;refine ⟨S.next hm,S.rt.step hp D hm (QBT S hm),fun z hz=>S.pe z (by simp only [List.mem_append,List.mem_cons,List.not_mem_nil,or_false,or_assoc] at hz ⊢;exact hz),fun z hz=>S.nm z (List.mem_cons_of_mem _ hz),fun t ht h2 a ha=>?_,fun t c E H hc=>?_⟩
 ·have ne:(t:Int)≠e.Task:=fun q=>by
   rw [V7,hs (by omega) (by omega),if_pos q,Ky (by omega)] at h2
   split at h2<;>omega
  rw [V7,hs (by omega) (by omega),if_neg ne] at h2 ha;have h0:=S.ot t ht h2 a (by rw [skip _ _ (fun h=>ne (JD h).2.1.symm)];exact ha);obtain ⟨j,K,U,k2,k3⟩:=D.op t (by omega) h2;rw [U,rdN K] at h0
  by_cases W:e.What=1
  ·have V:goS p y (d.length:Int) e={ y with tasks:=setT y e }:=by unfold goS;rw [if_pos W]
   rw [V];show (rd y.done (rd y.last (t:Int))).Answer=a;rw [U,rdN K];exact h0
  ·obtain ⟨B,g0,g1,g2⟩:=D.find hp hm (by omega)
   have V:goS p y (d.length:Int) e=⟨y.done.set B ⟨y.done[B].Task,y.done[B].Call,y.done[B].Answer,y.done[B].Mark,(d.length:Int)⟩,y.last,setT y e,y.m⟩:=by
    unfold goS;rw [if_neg W,if_neg Z,g1,rdN g0];rfl
   rw [V];show (rd (y.done.set B _) (rd y.last (t:Int))).Answer=a;rw [U,rdN (by rw [List.length_set];exact K),List.getElem_set]
   by_cases q:B=j
   ·subst q;rw [if_pos rfl];exact h0
   ·rw [if_neg q];exact h0
 ·rw [V7,hs E (by omega)] at hc
  by_cases q:t=e.Task
  ·subst q;rw [if_pos rfl] at hc;unfold nextT at hc
   by_cases Y:e.What-1=2
   ·rw [if_pos Y] at hc;have hc:(rd y.tasks e.Task).calls+1≤c:=hc;rw [S.al e.Task c E H (by omega),skip];intro h;have:=(JD h).2.2;have:=hm.2.2;omega
   ·rw [if_neg Y] at hc;rw [S.al e.Task c E H hc,skip];intro h;have:=(JD h).1;omega
  ·rw [if_neg q] at hc;rw [S.al t c E H hc,skip];intro h;exact q (JD h).2.1.symm
theorem TS.mark {left:Evs} (S:TS p x0 A d left y) (D:DI T y) {t:Nat} (ht:t<T) (hc:condM p left y t) (hm:may p y (mkE y t)):TS p x0 A (d++[mkE y t]) left (goS p y (d.length:Int) (mkE y t)):=by
 have V:(mkE y t).Task<(T:Int):=by show (t:Int)<_;omega
 have W:0≤(mkE y t).Task:=by show 0≤(t:Int);omega
 have hs:=fun {u:Int} (B:0≤u) (H:u<(T:Int))=>Ji (x:=y) D.tl W V B H;have nx:nextT (rd y.tasks (mkE y t).Task) ((mkE y t).What-1)=⟨2,(rd y.tasks (t:Int)).calls⟩:=rfl;have hla:=D.la;generalize hz:(⟨(t:Int),(rd y.tasks (t:Int)).calls,(doS y.m (t:Int) (rd (rd p (t:Int)) (rd y.tasks (t:Int)).calls)).1,(d.length:Int),-1⟩:Zb)=z;have Y:goS p y (d.length:Int) (mkE y t)=⟨y.done++[z],y.last.set t (y.done.length:Int),setT y (mkE y t),(doS y.m (t:Int) (rd (rd p (t:Int)) (rd y.tasks (t:Int)).calls)).2⟩:=by rw [← hz];rfl
 refine ⟨S.next hm,S.rt.step hp D hm (fun w=>absurd (show (2:Int)=3 from w) (by decide)),fun x hx=>?_,S.nm,fun u hu h2 a ha=>?_,fun u c B H hcc=>?_⟩
 ·simp only [List.mem_append,List.mem_cons,List.not_mem_nil,or_false] at hx;rcases hx with (hx | rfl) | hx
  ·exact S.pe x (List.mem_append.2 (.inl hx))
  ·exact ⟨by show (0:Nat)≤_;omega,by show (0:Int)≤2;decide,by show (2:Int)≤255;decide⟩
  ·exact S.pe x (List.mem_append.2 (.inr hx))
 ·rw [V7,hs (by omega) (by omega)] at h2 ha;rw [Y];show (rd (y.done++[z]) (rd (y.last.set t (y.done.length:Int)) (u:Int))).Answer=a;rw [rdN (by rw [List.length_set,hla];omega),List.getElem_set]
  by_cases q:t=u
  ·subst q;rw [if_pos rfl,rdN (by simp),List.getElem_append_right (by omega)];simp only [Nat.sub_self,List.getElem_cons_zero,← hz];refine hc.2 a ?_;rw [if_pos (show (t:Int)=(mkE y t).Task from rfl),nx] at ha;exact ha
  ·have ne:¬ (u:Int)=(mkE y t).Task:=fun h=>q (by have:(u:Int)=(t:Int):=h;omega);rw [if_neg ne] at h2 ha;rw [if_neg q];have h0:=S.ot u hu h2 a ha;obtain ⟨j,U,K,_⟩:=D.op u (by omega) h2;have E:u<y.last.length:=by omega
   rw [rdN E] at K;rw [rdN E,K,rdN U] at h0;rw [K,rdN (by simp;omega),List.getElem_append_left U];exact h0
 ·rw [V7,hs B (by omega)] at hcc;refine S.al u c B H ?_
  by_cases q:u=(mkE y t).Task
  ·rw [if_pos q,nx] at hcc;rw [q];exact hcc
  ·rw [if_neg q] at hcc;exact hcc
end
section
variable {c:Qa} {p:Progs} (hm:mayB c=true) (hp:p.length≤c.Tasks.toNat) {x0:Run} (R:RI c.Tasks.toNat p 0 x0) (h1:x0.m=newS c) (h2:x0.done=[]) (h3:x0.r.tasks=List.replicate c.Tasks.toNat ⟨0,0⟩) {A:Askd}
include h3 in
theorem OV0:OV c.Tasks.toNat p (fun _=>0) (coreOf x0):=by
 have e:∀ t:Nat,t<c.Tasks.toNat→rd (coreOf x0).tasks (t:Int)=⟨0,0⟩:=fun t ht=>by
  show rd x0.r.tasks (t:Int)=_;rw [h3,rdN (by simpa using ht)];simp
 exact ⟨by show x0.r.tasks.length=_;rw [h3];simp,fun t ht=>by rw [e t ht];rfl,fun t ht h=>by rw [e t ht] at h;exact absurd rfl h⟩
include hm hp R h1 h2 h3 in
theorem QBb {d left:Evs} {y:Core} (S:TS p (coreOf x0) A d left y) (hd:d.length≤500) (hl:left.length≤500) (B:Nat→Bool):∀ j n:Nat,n+j=c.Tasks.toNat→∃ v K,(∀ k,K≤k→∀ rec:Qa→(List (List QV))→(List QA)→(List QA)→Option (Bool),
   (∀ t:Nat,t<c.Tasks.toNat→condM p left y t→rec c p (d++[mkE y t]) left=some (B t))→Zy c p d left rec k (n:Int)=some v) ∧
  (v=.inl true∧(∃ t,n≤t∧t<c.Tasks.toNat∧condM p left y t∧B t=true)∨v=.inr ()∧¬ ∃ t,n≤t∧t<c.Tasks.toNat∧condM p left y t∧B t=true):=by
 have hT:=V2 hm;have V:OV c.Tasks.toNat p (fun t=>(ofT d (t:Int)).length) y:=Jv hp d 0 _ y _ _ (OV0 h3) S.ov fun t=>by simp
 obtain ⟨D,m,hr,Bo⟩:=Jh hm hp R h1 h2 h3 (by omega:d.length≤1000) S.ov;intro j
 induction j with
 | zero =>
  intro n hn;refine ⟨.inr (),1,fun k hk rec hr=>?_,.inr ⟨rfl,fun ⟨t,U,g2,_⟩=>by omega⟩⟩;obtain ⟨k,rfl⟩:∃ q,k=q+1:=⟨k-1,by omega⟩;rw [Zy.eq_2,if_neg (by simp;omega)]
 | succ j ih =>
  intro n hn;obtain ⟨v,K,h,hv⟩:=ih (n+1) (by omega);have hnT:n<c.Tasks.toNat:=by omega
  have Y:n+1≤9223372036854775807:=by omega
  have hlt:decide ((n:Int)<c.Tasks)=true:=by simp;omega
  have on:(¬ (condM p left y n∧B n=true))→(v=.inl true∧(∃ t,n≤t∧t<c.Tasks.toNat∧condM p left y t∧B t=true)∨v=.inr ()∧¬ ∃ t,n≤t∧t<c.Tasks.toNat∧condM p left y t∧B t=true):=fun hno=>by
   rcases hv with ⟨U,t,g2,g3⟩ | ⟨U,g2⟩
   ·exact .inl ⟨U,t,by omega,g3⟩
   ·refine .inr ⟨U,fun ⟨t,a1,a2,a3⟩=>?_⟩
    by_cases q:t=n
    ·subst q;exact hno a3
    ·exact g2 ⟨t,by omega,a2,a3⟩
  obtain ⟨E,hU⟩:=QBS (by omega:d.length≤1000) V n hnT;dsimp only at hU
  by_cases ha:(rd y.tasks (n:Int)).at_=1
  ·have hmay:=q9 V hnT ha;obtain ⟨D',m',hr',Bo'⟩:=Jh hm hp R h1 h2 h3 (by rw [List.length_append];simp;omega:(d++[mkE y n]).length≤1000) (S.next hmay);have eD:D'=(y.done++[(⟨(n:Int),(rd y.tasks (n:Int)).calls,(doS y.m (n:Int) (rd (rd p (n:Int)) (rd y.tasks (n:Int)).calls)).1,(d.length:Int),-1⟩:Zb)]).map toR:=Bo'.eq;rw [eD] at hr';have hdl:=Bo.dl;obtain ⟨q,⟨W,hF⟩,hq⟩:=QCh hr' (by omega) (by omega:left.length≤1000) (fun e he=>by have:=(S.pe e (List.mem_append.2 (.inr he))).1;omega);dsimp only at hF hq
   have go:∀ k,E+W≤k→∀ rec,Zy c p d left rec (k+1) (n:Int)=(Option.bind (α:=Bool) (if q=true then (Option.bind (rec c p (d++[mkE y n]) left) (fun a4=>some (a4))) else some (false)) (fun a5=>(if a5=true then some (.inl true) else Zy c p d left rec k ((n+1:Nat):Int)))):=fun k hk rec=>by
    have a7:Yy k d (n:Int)=some ((rd y.tasks (n:Int)).calls,false,true):=by rw [hU k (by omega),if_neg (by omega),ha];rfl
    rw [Zy.eq_2,if_pos hlt,a7,Option.bind_some,wr1 (by omega),if_neg (by simp),if_pos (by simp;omega),if_pos (by simp;omega)];show Option.bind (Xu k c p (d++[mkE y n]) left) _=_;rw [hF k (by omega),Option.bind_some];rfl
   by_cases hc:condM p left y n
   ·have hqt:q=true:=hq.2 hc.2;subst hqt
    cases hB:B n with
    | true =>
     refine ⟨.inl true,E+W+1,fun k hk rec hr=>?_,.inl ⟨rfl,n,Nat.le_refl _,hnT,hc,hB⟩⟩;obtain ⟨k,rfl⟩:∃ q,k=q+1:=⟨k-1,by omega⟩;rw [go k (by omega) rec,if_pos rfl,hr n hnT hc,hB];rfl
    | false =>
     refine ⟨v,K+E+W+1,fun k hk rec hr=>?_,on fun g=>by rw [hB] at g;cases g.2⟩;obtain ⟨k,rfl⟩:∃ q,k=q+1:=⟨k-1,by omega⟩;rw [go k (by omega) rec,if_pos rfl,hr n hnT hc,hB];exact h k (by omega) rec hr
   ·have hqf:q=false:=by
     cases q
     ·rfl
     ·exact absurd ⟨ha,hq.1 rfl⟩ hc
    subst hqf;refine ⟨v,K+E+W+1,fun k hk rec hr=>?_,on fun g=>hc g.1⟩;obtain ⟨k,rfl⟩:∃ q,k=q+1:=⟨k-1,by omega⟩;rw [go k (by omega) rec,if_neg (by simp)];exact h k (by omega) rec hr
  ·refine ⟨v,K+E+1,fun k hk rec hr=>?_,on fun g=>ha g.1.1⟩;obtain ⟨k,rfl⟩:∃ q,k=q+1:=⟨k-1,by omega⟩;have Z:E≤k:=by omega
   have hkK:K≤k:=by omega
   rcases V.three n hnT with g | g | g
   ·have H:Yy k d (n:Int)=some (0,false,false):=by rw [hU k Z,if_pos g]
    rw [Zy.eq_2,if_pos hlt,H,Option.bind_some,wr1 (i:=n) Y,if_pos (by simp)];exact h k hkK rec hr
   ·exact absurd g ha
   ·have g0:¬ (rd y.tasks (n:Int)).at_=0:=by rw [g];decide
    have H:Yy k d (n:Int)=some ((rd y.tasks (n:Int)).calls,true,true):=by rw [hU k Z,if_neg g0,g];rfl
    rw [Zy.eq_2,if_pos hlt,H,Option.bind_some,wr1 (i:=n) Y,if_pos (by simp)];exact h k hkK rec hr
theorem try_go (c:Qa) (p:Progs) (d rest:Evs) (e:QA) (hd:d.length≤500) (hl:rest.length≤500) (k:Nat) (rec:Qa→(List (List QV))→(List QA)→(List QA)→Option (Bool)) :
  XS k rec c p d (e::rest)=Option.bind (Y2 k c p (d++[e])) (fun t=>Option.bind (α:=Bool) (if t=true then Option.bind (XT k c p (d++[e])) (fun t=>some t) else some false) (fun x=>Option.bind (α:=Bool) (if x=true then Option.bind (rec c p (d++[e]) rest) (fun t=>some t) else some false) (fun x=>if x=true then some true else Option.bind (Zy c p d (e::rest) rec k 0) (fun o=>Sum.elim (fun r'=>some r') (fun _=>some false) o)))):=by
 unfold XS;have h1:(0:Int)<((e::rest).length:Int):=by rw [List.length_cons];omega
 have h2:(1:Int)≤((e::rest).length:Int):=by rw [List.length_cons];omega
 rw [if_neg (by simp;omega),if_pos ⟨Int.le_refl 0,h1⟩,if_pos (by simp;omega)];simp only [Option.bind_some];rw [if_pos (by simp;omega)];have h3:(0:Int)≤1∧(1:Int)≤((e::rest).length:Int):=⟨by decide,h2⟩;simp only [if_pos h3]
 rfl
include hm hp R h1 h2 h3 in
theorem QCR:∀ (n:Nat) (left d:Evs) (y:Core),2*left.length+opens y.tasks≤n→d.length+n≤400→TS p (coreOf x0) A d left y →
  ∃ b K,(∀ k r,K≤k→K≤r→Yh k r c p d left=some b)∧(b=true↔G p A left y.tasks y.m):=by
 have hT:=V2 hm;intro n
 induction n with
 | zero =>
  intro left d y hn hd S;obtain rfl:left=[]:=List.length_eq_zero_iff.1 (by omega);refine ⟨true,1,fun k r hk hr=>?_,⟨fun _=>.nil,fun _=>rfl⟩⟩;obtain ⟨r,rfl⟩:∃ q,r=q+1:=⟨r-1,by omega⟩
  rfl
 | succ n ih =>
  intro left d y hn hd S
  cases left with
  | nil =>
   refine ⟨true,1,fun k r hk hr=>?_,⟨fun _=>.nil,fun _=>rfl⟩⟩;obtain ⟨r,rfl⟩:∃ q,r=q+1:=⟨r-1,by omega⟩
   rfl
  | cons e rest =>
   have hl:(e::rest).length=rest.length+1:=List.length_cons;have V:OV c.Tasks.toNat p (fun t=>(ofT d (t:Int)).length) y:=Jv hp d 0 _ y _ _ (OV0 h3) S.ov fun t=>by simp
   obtain ⟨Dd,m,hr,Bo⟩:=Jh hm hp R h1 h2 h3 (by omega:d.length≤1000) S.ov;have D:=Bo.di
   have Y:∀ x∈d++[e],x.Answer.Pairs.length≤1000000∧0≤x.What∧x.What≤255:=fun x hx=>by
    have:=S.pe x (by simp only [List.mem_append,List.mem_cons,List.not_mem_nil,or_false] at hx ⊢;rcases hx with h | h;exact .inl h;exact .inr (.inl h));exact ⟨by omega,this.2⟩
   have hof:=of_ev (x:=coreOf x0) hm hp (l:=d++[e]) (by rw [List.length_append];simp;omega) Y h3
   have first:∃ U E,(∀ k r,E≤k→E≤r→∀ Z:Option Bool,Option.bind (Y2 k c p (d++[e])) (fun t=>Option.bind (α:=Bool) (if t=true then Option.bind (XT k c p (d++[e])) (fun t=>some t) else some false) (fun x=>Option.bind (α:=Bool) (if x=true then Option.bind (Yh k r c p (d++[e]) rest) (fun t=>some t) else some false) (fun x=>if x=true then some true else Z)))=if U=true then some true else Z) ∧
     (U=true↔may p y e∧G p A rest (st y.tasks e) y.m):=by
    by_cases hmay:may p y e
    ·have hnx:=S.next hmay;have S1:=S.ev hp D hmay;have w2:=S.nm e List.mem_cons_self;have ww:=UO hmay.1;have ho:=Jz hp D.tl hmay;have et:(goS p y (d.length:Int) e).tasks=st y.tasks e:=KA y _ e;have em:(goS p y (d.length:Int) e).m=y.m:=by unfold goS;rw [if_neg w2];split<;>rfl
     obtain ⟨b,K,W,H⟩:=ih rest (d++[e]) _ (by rw [et];rcases ww with w | w | w;have:=ho.1 w;omega;omega;have:=ho.2.2 w;omega) (by rw [List.length_append];simp;omega) S1;obtain ⟨D',m',hr',Bo'⟩:=Jh hm hp R h1 h2 h3 (by rw [List.length_append];simp;omega:(d++[e]).length≤1000) hnx;rw [Bo'.eq] at hr';have hdl:=Bo'.dl;obtain ⟨K2,hR⟩:=QBc hr' (by rw [List.length_append] at hdl;simp at hdl;omega) (fun x hx=>(Y x hx).1) S1.rt;obtain ⟨K3,hO⟩:=hof;rw [hnx] at hO;dsimp only at hR hO;refine ⟨b,K+K2+K3,fun k r hk hr Z=>?_,?_⟩
     ·rw [hO k (by omega),Option.isSome_some,Option.bind_some,if_pos rfl,hR k (by omega),Option.bind_some,Option.bind_some,if_pos rfl,W k r (by omega) (by omega),Option.bind_some,Option.bind_some]
     ·rw [et,em] at H;rw [H];exact ⟨fun h=>⟨hmay,h⟩,fun h=>h.2⟩
    ·obtain ⟨K3,hO⟩:=hof;rw [Jw p e d 0 _ y S.ov,if_neg hmay] at hO;dsimp only at hO;refine ⟨false,K3,fun k r hk hr Z=>?_,⟨fun h=>(by cases h),fun h=>absurd h.1 hmay⟩⟩;rw [hO k (by omega),Option.isSome_none,Option.bind_some];rfl
   have one:∀ t:Nat,∃ b K,t<c.Tasks.toNat→condM p (e::rest) y t→(∀ k r,K≤k→K≤r→Yh k r c p (d++[mkE y t]) (e::rest)=some b)∧(b=true↔G p A (e::rest) (st y.tasks (mkE y t)) (doS y.m (t:Int) (rd (rd p (t:Int)) (rd y.tasks (t:Int)).calls)).2):=fun t=>by
    by_cases ht:t<c.Tasks.toNat
    ·by_cases hc:condM p (e::rest) y t
     ·have hmay:=q9 V ht hc.1;have ho:=(Jz hp D.tl hmay).2.1 rfl;have et:(goS p y (d.length:Int) (mkE y t)).tasks=st y.tasks (mkE y t):=KA y _ _;have em:(goS p y (d.length:Int) (mkE y t)).m=(doS y.m (t:Int) (rd (rd p (t:Int)) (rd y.tasks (t:Int)).calls)).2:=rfl;obtain ⟨b,K,W,H⟩:=ih (e::rest) (d++[mkE y t]) _ (by rw [et];omega) (by rw [List.length_append];simp;omega) (S.mark hp D ht hc hmay);rw [et,em] at H;exact ⟨b,K,fun _ _=>⟨W,H⟩⟩
     ·exact ⟨true,0,fun _ h=>absurd h hc⟩
    ·exact ⟨true,0,fun h=>absurd h ht⟩
   obtain ⟨B,hB⟩:=Classical.axiomOfChoice one;obtain ⟨Kff,hK⟩:=Classical.axiomOfChoice hB;obtain ⟨M,hM⟩:=bdd Kff c.Tasks.toNat;obtain ⟨v,K,W,H⟩:=QBb hm hp R h1 h2 h3 S (by omega) (by omega) B c.Tasks.toNat 0 (by omega);obtain ⟨U,E,f1,f2⟩:=first
   have fin:∀ k r,M+K+E+1≤k→M+K+E+1≤r→Yh k r c p d (e::rest)=if U=true then some true else Sum.elim (fun r'=>some r') (fun _=>some false) v:=fun k r hk hr=>by
    obtain ⟨r,rfl⟩:∃ q,r=q+1:=⟨r-1,by omega⟩;show XS k (Yh k r) c p d (e::rest)=_;have hloop:Zy c p d (e::rest) (Yh k r) k (0:Int)=some v:=W k (by omega) (Yh k r) (fun t ht hc=>by have:=hM t ht;exact (hK t ht hc).1 k r (by omega) (by omega));rw [try_go c p d rest e (by omega) (by omega),hloop,Option.bind_some];exact f1 k r (by omega) (by omega) _
   have iff:G p A (e::rest) y.tasks y.m↔(may p y e∧G p A rest (st y.tasks e) y.m)∨∃ t,0≤t∧t<c.Tasks.toNat∧condM p (e::rest) y t∧B t=true:=by
    constructor
    ·intro h
     cases h with
     | @mark f _ _ _ w g a ha h =>
      obtain ⟨t0,t1,c0,c1⟩:=g.1;obtain ⟨t,ht⟩:=Int.eq_ofNat_of_zero_le t0;have htT:t<c.Tasks.toNat:=by omega
      obtain ⟨a1,a2⟩:=a
      have ef:f=mkE y t:=by
       have h4:=g.2.2.2 (by omega);obtain ⟨f1,f2,f3,f4⟩:=f;simp only at w ht a2 h4;subst w;subst ht;subst h4;rw [← a2];rfl
      subst ef;have hc:condM p (e::rest) y t:=⟨by have:(rd y.tasks (t:Int)).at_=2-1:=a1;omega,fun z hz=>ha z (by rw [S.al (mkE y t).Task (mkE y t).Call t0 t1 (Int.le_refl _)];exact hz)⟩;exact .inr ⟨t,Nat.zero_le _,htT,hc,(hK t htT hc).2.2 h⟩
     | ev w g a h=>exact .inl ⟨⟨g,a⟩,h⟩
    ·rintro (⟨hmay,h⟩ | ⟨t,_,ht,hc,hb⟩)
     ·exact .ev (S.nm e List.mem_cons_self) hmay.1 hmay.2 h
     ·have hmay:=q9 V ht hc.1;refine .mark (e:=mkE y t) rfl hmay.1 hmay.2 (fun z hz=>hc.2 z ?_) ((hK t ht hc).2.1 hb);rw [S.al (mkE y t).Task (mkE y t).Call hmay.1.1.1 hmay.1.1.2.1 (Int.le_refl _)] at hz;exact hz
   cases U with
   | true=>exact ⟨true,M+K+E+1,fun k r hk hr=>fin k r hk hr,⟨fun _=>iff.2 (.inl (f2.1 rfl)),fun _=>rfl⟩⟩
   | false =>
    have hno:¬ (may p y e∧G p A rest (st y.tasks e) y.m):=fun h=>Bool.noConfusion (f2.2 h);rcases H with ⟨rfl,g⟩ | ⟨rfl,g⟩
    ·exact ⟨true,M+K+E+1,fun k r hk hr=>fin k r hk hr,⟨fun _=>iff.2 (.inr g),fun _=>rfl⟩⟩
    ·exact ⟨false,M+K+E+1,fun k r hk hr=>fin k r hk hr,⟨fun h=>(by cases h),fun h=>absurd (iff.1 h) (by rintro (h | h);exact hno h;exact g h)⟩⟩
end
end Go.Proofs.YtnjbjpaiepefoaaDoor
