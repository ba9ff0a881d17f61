import Derived.Test.YtnjbjpaiepefoaaDoorPureDone
import Derived.Test.YtnjbjpaiepefoaaDoorPureRef6
namespace Go.Proofs.YtnjbjpaiepefoaaDoor
open Go Go.RowKit
set_option linter.unusedVariables false
set_option linter.unusedSimpArgs false
set_option maxRecDepth 100000
def shortP (p:Progs):Bool:=p.all fun q=>decide (q.length≤64)
theorem UP (q:List QV) (p:Progs):shortP (q::p)=(decide (q.length≤64)&&shortP p):=rfl
def mayP (c:Qa) (p:Progs):Bool:=mayB c&&(decide ((p.length:Int)≤c.Tasks)&&shortP p)
theorem V2 {c:Qa} (h:mayB c=true):1≤c.Tasks∧c.Tasks≤6:=by simp only [mayB,Bool.and_eq_true,decide_eq_true_eq] at h;omega
theorem QBs (p:Progs) (hb:p.length≤1000):∀ (j i:Nat),i+j=p.length→∃ r,(∀ k,j<k→Qz p k (i:Int)=some r)∧(shortP (p.drop i)=true→r=.inr ())∧(shortP (p.drop i)=false→∃ n:Nat,r=.inl (n:Int)):=by
 intro j
 induction j with
 | zero =>
  intro i hi;rw [List.drop_of_length_le (by omega)];refine ⟨.inr (),fun k hk=>?_,fun _=>rfl,fun h=>by cases h⟩;obtain ⟨k,rfl⟩:∃ k',k=k'+1:=⟨k-1,by omega⟩;rw [Qz.eq_2];have:¬ ((i:Int)<(p.length:Int)):=by omega
  simp [this]
 | succ j ih =>
  intro i hi;obtain ⟨r,hr,H,K⟩:=ih (i+1) (by omega);have B:i<p.length:=by omega
  have E:(i:Int)<(p.length:Int):=by omega
  rw [List.drop_eq_getElem_cons B]
  by_cases hc:((p[i].length:Int)>64)
  ·have e:shortP (p[i]::p.drop (i+1))=false:=by
    have:¬ p[i].length≤64:=by omega
    rw [UP,decide_eq_false this];rfl
   rw [e];refine ⟨.inl (i:Int),fun k hk=>?_,fun h=>(by cases h),fun _=>⟨i,rfl⟩⟩;obtain ⟨k,rfl⟩:∃ k',k=k'+1:=⟨k-1,by omega⟩;rw [Qz.eq_2];simp only [E,decide_true,if_true,inR B,and_self,rdN B,VB,Option.bind_some,hc]
  ·have e:shortP (p[i]::p.drop (i+1))=shortP (p.drop (i+1)):=by
    have:p[i].length≤64:=by omega
    rw [UP,decide_eq_true this];rfl
   rw [e];refine ⟨r,fun k hk=>?_,H,K⟩;obtain ⟨k,rfl⟩:∃ k',k=k'+1:=⟨k-1,by omega⟩;rw [Qz.eq_2];simp only [E,decide_true,if_true,inR B,and_self,rdN B,VB,Option.bind_some,hc,decide_false,Bool.false_eq_true,if_false,wr1 (i:=i) (by omega)];exact hr k (by omega)
theorem QAS (c:Qa) (p:Progs):Ev (fun k=>Vk k c p) (mayP c p):=by
 unfold Vk mayP;refine Ev.bind ⟨9,fun k hk=>JL k c hk⟩ (Ev.bind ?_ (Ev.pure _))
 by_cases h:(mayB c&&decide ((p.length:Int)≤c.Tasks))=true
 ·have B:=h;simp only [Bool.and_eq_true,decide_eq_true_eq] at B;have hT:=V2 B.1;obtain ⟨r,hr,E,H⟩:=QBs p (by omega) p.length 0 (by omega);rw [List.drop_zero] at E H;refine Ev.pos h (Ev.bind (v:=!shortP p) ?_ ((Ev.pure _).eq (by rw [B.1,decide_eq_true B.2];simp)));unfold ZH ZS;refine Ev.bind (v:=Sum.elim (fun r'=>r') (fun _=>(-1:Int)) r) (Ev.bind (v:=r) ⟨p.length+1,fun k hk=>hr k (by omega)⟩ ?_) ((Ev.pure _).eq ?_)
  ·cases r<;>exact Ev.pure _
  ·cases hs:shortP p
   ·obtain ⟨n,rfl⟩:=H hs;simp
   ·rw [E hs];rfl
 ·refine Ev.neg h ((Ev.pure _).eq ?_)
  cases hm:mayB c
  ·rfl
  ·rw [hm,Bool.true_and] at h;have:decide ((p.length:Int)≤c.Tasks)=false:=by simpa using h
   rw [this];rfl
theorem QAw (p:Progs) (hb:p.length≤1000):∀ (j i:Nat),i+j=p.length→∀ k,j<k→XK p k (i:Int)=some (if shortP (p.drop i)=true then .inr () else .inl false):=by
 intro j
 induction j with
 | zero =>
  intro i hi k hk;obtain ⟨k,rfl⟩:∃ k',k=k'+1:=⟨k-1,by omega⟩;rw [XK.eq_2,List.drop_of_length_le (by omega),if_neg (by simp;omega)];rfl
 | succ j ih =>
  intro i hi k hk;obtain ⟨k,rfl⟩:∃ k',k=k'+1:=⟨k-1,by omega⟩;have B:i<p.length:=by omega
  rw [XK.eq_2,List.drop_eq_getElem_cons B,if_pos (by simpa using B),if_pos (inR B),rdN B,wr1 (by omega)]
  by_cases hc:p[i].length≤64
  ·have e:shortP (p[i]::p.drop (i+1))=shortP (p.drop (i+1)):=by rw [UP,decide_eq_true hc];rfl
   rw [e,if_neg (by simp;omega)];exact ih (i+1) (by omega) k (by omega)
  ·have e:shortP (p[i]::p.drop (i+1))=false:=by rw [UP,decide_eq_false hc];rfl
   rw [e,if_pos (by simp;omega)];rfl
theorem KU (c:Qa) (p:Progs):Ev (fun k=>X3 k c p) (mayP c p):=by
 unfold X3 mayP;refine Ev.bind ⟨0,fun k _=>JK k c⟩ ?_
 by_cases h:mayB c=true∧(p.length:Int)≤c.Tasks
 ·have hT:=V2 h.1;have h0:=QAw p (by omega) p.length 0 (by omega);rw [List.drop_zero] at h0;refine Ev.neg (by simp [h.1];omega) (Ev.bind ⟨p.length+1,fun k hk=>h0 k (by omega)⟩ ((Ev.pure _).congr fun k=>?_));rw [h.1,decide_eq_true h.2]
  cases shortP p<;>rfl
 ·refine Ev.pos ?_ ((Ev.pure _).eq ?_)
  ·simp only [Bool.or_eq_true,Bool.not_eq_true',decide_eq_true_eq]
   cases hm:mayB c
   ·exact .inl rfl
   ·exact .inr (Int.not_le.1 fun g=>h ⟨hm,g⟩)
  ·cases hm:mayB c
   ·rfl
   ·have:decide ((p.length:Int)≤c.Tasks)=false:=decide_eq_false fun g=>h ⟨hm,g⟩;rw [this];rfl
theorem beg_no {c:Qa} {p:Progs} (h:mayP c p=false):Ev (fun k=>ZY k c p) (.inl ()):=by
 unfold ZY;exact Ev.bind (QAS c p) (Ev.pos (by rw [h];rfl) (Ev.pure _))
theorem QCr {c:Qa} {p:Progs} (h:mayP c p=true):mayB c=true∧p.length≤c.Tasks.toNat∧∃ x0:Run,RI c.Tasks.toNat p 0 x0∧(x0.m=newS c∧x0.done=[]∧x0.r.tasks=List.replicate c.Tasks.toNat ⟨0,0⟩)∧Ev (fun k=>ZY k c p) (.inr (.inl x0)):=by
 have B:=h;unfold mayP at B;simp only [Bool.and_eq_true,decide_eq_true_eq] at B;obtain ⟨hm,hp,_⟩:=B;have hT:=V2 hm;generalize E:(⟨p,⟨List.replicate c.Tasks.toNat (⟨0,0⟩:Zu),[]⟩,newS c,[],List.replicate c.Tasks.toNat (0:Int)⟩:Run)=x0
 have hbeg:Ev (fun k=>ZY k c p) (.inr (.inl x0)):=by
  unfold ZY;refine Ev.bind (QAS c p) (Ev.neg (by rw [h];simp) ?_);refine Ev.bind (v:=.inr ⟨List.replicate c.Tasks.toNat (⟨0,0⟩:Zu),[]⟩) (Ev.all fun k=>?_) ?_
  ·unfold VY;rw [if_neg (by simp;omega),if_pos (by omega)]
  ·have hnew:Ev (fun k=>Xa k c) (.inr (newS c)):=⟨9,fun k hk=>by show Xa k c=_;rw [QCC k hk c,hm];rfl⟩;refine Ev.bind hnew ?_;rw [← E];exact Ev.pos (by omega) (Ev.pure _)
 have H:RI c.Tasks.toNat p 0 x0:=by
  rw [← E];refine ⟨rfl,⟨by simp,fun t h=>by simp,fun t h=>by simp,by simp⟩,by simp,Inv.new c,by simp,(fun d hd=>by cases hd),fun u hu B=>?_⟩;have B:(rd (List.replicate c.Tasks.toNat (⟨0,0⟩:Zu)) (u:Int)).at_=2:=B;rw [rdN (by simpa using hu)] at B;simp at B
 exact ⟨hm,by omega,x0,H,by rw [← E];exact ⟨rfl,rfl,rfl⟩,hbeg⟩
theorem rof_l0 (l:List QA) (t:Int) (hl:l.length≤1000):∀ (j i:Nat) (out:List QA),i+j=l.length→out.length≤i→∀ k,j<k→XE l t k out (i:Int)=some (out++ofT (l.drop i) t):=by
 intro j
 induction j with
 | zero =>
  intro i out hi ho k hk;obtain ⟨k,rfl⟩:∃ k',k=k'+1:=⟨k-1,by omega⟩;rw [XE.eq_2,List.drop_of_length_le (by omega),if_neg (by simp;omega)];simp [ofT]
 | succ j ih =>
  intro i out hi ho k hk;obtain ⟨k,rfl⟩:∃ k',k=k'+1:=⟨k-1,by omega⟩;have B:i<l.length:=by omega
  rw [XE.eq_2,List.drop_eq_getElem_cons B,UY,if_pos (by simpa using B),if_pos (inR B),rdN B,wr1 (by omega)]
  by_cases e:l[i].Task=t
  ·rw [if_pos (by simpa using e),if_pos (inR B),if_pos (by simp only [List.length_cons,List.length_nil];omega),if_pos e];simp only [Option.bind_some];rw [ih (i+1) _ (by omega) (by simp;omega) k (by omega)];simp
  ·rw [if_neg (by simpa using e),if_neg e];simp only [Option.bind_some];exact ih (i+1) _ (by omega) (by omega) k (by omega)
theorem QBa (l:List QA) (t:Int) (hl:l.length≤1000):Ev (fun k=>Xb k l t) (ofT l t):=by
 unfold Xb;have h:Ev (fun k=>XE l t k [] 0) ([]++ofT l t):=⟨l.length+1,fun k hk=>rof_l0 l t hl l.length 0 [] (by omega) (by simp) k (by omega)⟩;exact Ev.bind h (Ev.pure _)
theorem QCd (l:List QA) (hl:l.length≤1000) (hp:∀ x∈l,x.Answer.Pairs.length≤1000000∧0≤x.What∧x.What≤255):∀ (j i:Nat),i+j=l.length→Ev (fun k=>Yc l k (i:Int)) (if rkAll i (l.drop i)=true then .inr () else .inl false):=by
 intro j
 induction j with
 | zero =>
  intro i hi;rw [List.drop_of_length_le (by omega)];refine Ev.shift 1 ⟨0,fun k _=>?_⟩;show Yc l (k+1) (i:Int)=_;rw [Yc.eq_2,if_neg (by simp;omega)];rfl
 | succ j ih =>
  intro i hi;have B:i<l.length:=by omega
  obtain ⟨hA,U,w1⟩:=hp _ (List.getElem_mem B);have hih:=ih (i+1) (by omega);have H:Int.tmod (i:Int) 3=((i % 3:Nat):Int):=by rw [Int.tmod_eq_emod_of_nonneg (by omega)];rfl
  have K:Int.tdiv (i:Int) 3=((i / 3:Nat):Int):=by rw [Int.tdiv_eq_ediv_of_nonneg (by omega)];rfl
  have V:i % 3<3:=Nat.mod_lt _ (by decide);refine Ev.shift 1 (Ev.congr (g:=fun k=>_) ?_ (fun k=>by rw [Yc.eq_2]));rw [rdN B,List.drop_eq_getElem_cons B,wr1 (by omega),H,K,wr (x:=l[i].What) (by omega) (by omega),wr (x:=1+((i % 3:Nat):Int)) (by omega) (by omega),wr (x:=((i / 3:Nat):Int)) (by omega) (by omega)];generalize l[i]=x at hA;refine Ev.pos (by simpa using B) (Ev.pos (inR B) ?_);refine Ev.bind (v:=!(decide (x.What=1+((i % 3:Nat):Int))&&decide (x.Call=((i / 3:Nat):Int)))) ?_ (Ev.bind (v:=!rk i x) ?_ ?_)
  ·by_cases h:x.What=1+((i % 3:Nat):Int)
   ·refine Ev.neg (by simp [h]) (Ev.chk (inR B) ((Ev.pure _).eq ?_));rw [decide_eq_true h,Bool.true_and];generalize ((i / 3:Nat):Int)=z
    by_cases E:x.Call=z<;>simp [E]
   ·refine Ev.pos (by simpa using h) ((Ev.pure _).eq ?_);rw [decide_eq_false h];rfl
  ·cases hb:(decide (x.What=1+((i % 3:Nat):Int))&&decide (x.Call=((i / 3:Nat):Int)))
   ·exact Ev.pos rfl ((Ev.pure _).eq (by unfold rk;rw [hb];rfl))
   ·refine Ev.neg (by simp) (Ev.bind (v:=!(decide (i % 3=2)||decide (x.Answer=ans 0))) ?_ ((Ev.pure _).eq (by unfold rk;rw [hb];rfl)))
    by_cases E:i % 3=2
    ·exact Ev.neg (by simp;omega) ((Ev.pure _).eq (by simp [E]))
    ·refine Ev.pos (by simp;omega) (Ev.chk (inR B) (Ev.bind (JO x.Answer (ans 0) hA) ((Ev.pure _).eq ?_)));rw [decide_eq_false E,Bool.false_or]
  ·rw [rkAll]
   cases hr:rk i x
   ·exact Ev.pos rfl (Ev.pure _)
   ·exact Ev.neg (by simp) hih
theorem QAY {l:List QA} (hl:l.length≤1000) (hp:∀ x∈l,x.Answer.Pairs.length≤1000000∧0≤x.What∧x.What≤255) {a:Int} (B:a≤6):∀ (n t m:Nat),(t:Int)+n=a→m+n*1000≤100000 →
  Ev (fun k=>Yd a l k (m:Int) (t:Int)) (match legT l n t with | some q=>.inr ((m+q:Nat):Int) | none=>.inl false)
 | 0,t,m,ha,hm=>by
  refine Ev.shift 1 ⟨0,fun k _=>?_⟩;show Yd a l (k+1) (m:Int) (t:Int)=_;rw [Yd.eq_2,if_neg (by simp;omega)];rfl
 | n+1,t,m,ha,hm=>by
  have ho:=QBf l (t:Int);have E:=QCd (ofT l (t:Int)) (by omega) (fun x hx=>hp x (List.mem_filter.1 hx).1) (ofT l (t:Int)).length 0 (by omega);have hih:=QAY hl hp B n (t+1) (m+(ofT l (t:Int)).length) (by omega) (by omega);rw [List.drop_zero] at E;refine Ev.shift 1 (Ev.congr (g:=fun k=>_) ?_ (fun k=>by rw [Yd.eq_2]));refine Ev.pos (by simp;omega) (Ev.bind (QBa l (t:Int) hl) (Ev.bind E ?_));unfold legT
  cases h:rkAll 0 (ofT l (t:Int))
  ·exact Ev.pure _
  ·simp only [if_true,Sum.elim_inr];rw [wr (x:=(m:Int)+((ofT l (t:Int)).length:Int)) (by omega) (by omega),wr1 (by omega),show (m:Int)+((ofT l (t:Int)).length:Int)=((m+(ofT l (t:Int)).length:Nat):Int) by omega];refine hih.eq ?_
   cases legT l n (t+1) with
   | none=>rfl
   | some q=>simp only [Option.map_some];congr 2;omega
theorem QBl {l:List QA} (hl:l.length≤1000) (hp:∀ x∈l,x.Answer.Pairs.length≤1000000∧0≤x.What∧x.What≤255) {n:Int} (E:1≤n) (B:n≤6):∃ b,Ev (fun k=>Xe k n l) b∧(b=true↔legD n.toNat l):=by
 have h:=QAY hl hp B n.toNat 0 0 (by omega) (by omega);rw [← QBn];unfold Xe
 cases hq:legT l n.toNat 0 with
 | none =>
  rw [hq] at h;exact ⟨false,Ev.neg (by simp;omega) (Ev.bind h (Ev.pure _)),by simp⟩
 | some q =>
  rw [hq] at h;refine ⟨decide (q=l.length),Ev.neg (by simp;omega) (Ev.bind h ((Ev.pure _).eq ?_)),?_⟩
  ·by_cases e:q=l.length
   ·simp [e]
   ·have:¬ ((0+q:Nat):Int)=(l.length:Int):=by omega
    simp [e];omega
  ·simp
theorem rin_ev (p:Progs) (l:List QA) (hl:l.length≤1000) (h0:∀ x∈l,0≤x.Task):∀ (j i:Nat),i+j=l.length→Ev (fun k=>XC p l k (i:Int)) (if (l.drop i).all (fun e=>decide (inP p e))=true then .inr () else .inl false):=by
 intro j
 induction j with
 | zero =>
  intro i hi;rw [List.drop_of_length_le (by omega)];refine Ev.shift 1 ⟨0,fun k _=>?_⟩;show XC p l (k+1) (i:Int)=_;rw [XC.eq_2,if_neg (by simp;omega)];rfl
 | succ j ih =>
  intro i hi;have B:i<l.length:=by omega
  have ht:=h0 _ (List.getElem_mem B);have hih:=ih (i+1) (by omega);refine Ev.shift 1 (Ev.congr (g:=fun k=>_) ?_ (fun k=>by rw [XC.eq_2]));rw [rdN B,List.drop_eq_getElem_cons B,wr1 (by omega),List.all_cons];generalize l[i]=x at ht;refine Ev.pos (by simpa using B) (Ev.pos (inR B) (Ev.bind (v:=!decide (inP p x)) ?_ ?_))
  ·by_cases h:x.Task<(p.length:Int)
   ·refine Ev.neg (by simp;omega) (Ev.chk (inR B) (Ev.chk (inR B) (Ev.chk ⟨ht,h⟩ ((Ev.pure _).eq ?_))));unfold inP
    by_cases g:x.Call<((rd p x.Task).length:Int)
    ·rw [decide_eq_true (show x.Task<(p.length:Int)∧x.Call<((rd p x.Task).length:Int) from ⟨h,g⟩)];simp;omega
    ·rw [decide_eq_false (show ¬ (x.Task<(p.length:Int)∧x.Call<((rd p x.Task).length:Int)) from fun q=>g q.2)];simp;omega
   ·refine Ev.pos (by simp;omega) ((Ev.pure _).eq ?_);rw [decide_eq_false (fun q=>h q.1)];rfl
  ·cases decide (inP p x)
   ·exact Ev.pos rfl (Ev.pure _)
   ·exact Ev.neg (by simp) hih
theorem of_ev {c:Qa} {p:Progs} (hm:mayB c=true) (hp:p.length≤c.Tasks.toNat) {l:List QA} (hl:l.length≤1000) (ha:∀ x∈l,x.Answer.Pairs.length≤1000000∧0≤x.What∧x.What≤255) {x:Core} (hx:x.tasks=List.replicate c.Tasks.toNat ⟨0,0⟩) :
  Ev (fun k=>Y2 k c p l) (overC p l 0 x).isSome:=by
 have hT:=V2 hm;have hk:=QBm hp l hx;obtain ⟨b,hb,B⟩:=QBl hl ha hT.1 hT.2;unfold Y2;refine hb.bind ?_
 cases b with
 | false =>
  refine Ev.pos rfl ((Ev.pure _).eq ?_)
  symm
  rw [← Bool.not_eq_true,hk];exact fun h=>Bool.noConfusion (B.2 h.1)
 | true =>
  have hd:=B.1 rfl;refine Ev.neg (by simp) (Ev.bind (rin_ev p l hl (fun x hx=>(hd.1 x hx).1) l.length 0 (by omega)) ?_);rw [List.drop_zero]
  cases hq:l.all (fun e=>decide (inP p e))
  ·refine (Ev.pure _).eq ?_
   symm
   rw [← Bool.not_eq_true,hk];rintro ⟨_,h⟩;rw [List.all_eq_false] at hq;obtain ⟨e,E,H⟩:=hq;exact H (decide_eq_true (h e E))
  ·refine (Ev.pure _).eq ?_
   symm
   rw [hk];refine ⟨hd,fun e E=>?_⟩;rw [List.all_eq_true] at hq;exact of_decide_eq_true (hq e E)
end Go.Proofs.YtnjbjpaiepefoaaDoor
