import Derived.Test.YtnjbjpaiepefoaaGreatDoorPureDone
import Derived.Test.YtnjbjpaiepefoaaGreatDoorPureRef6
namespace Go.Proofs.YtnjbjpaiepefoaaGreatDoor
open Go Go.RowKit
set_option linter.unusedVariables false
set_option linter.unusedSimpArgs false
set_option maxRecDepth 100000
def shortP (p:Progs):Bool:=p.all fun q=>decide (q.length≤64)
theorem UQ (q:List QZ) (p:Progs):shortP (q::p)=(decide (q.length≤64)&&shortP p):=rfl
def mayP (c:Qb) (p:Progs):Bool:=mayB c&&(decide ((p.length:Int)≤c.Tasks)&&shortP p)
theorem Ug {c:Qb} (h:mayB c=true):1≤c.Tasks∧c.Tasks≤6:=by simp only [mayB,Bool.and_eq_true,decide_eq_true_eq] at h;omega
theorem QBa (p:Progs) (hb:p.length≤1000):∀ (j i:Nat),i+j=p.length→∃ r,(∀ k,j<k→Qu p k (i:Int)=some r)∧(shortP (p.drop i)=true→r=.inr ())∧(shortP (p.drop i)=false→∃ n:Nat,r=.inl (n:Int)):=by
 intro j
 induction j with
 | zero =>
  intro i hi;rw [List.drop_of_length_le (by omega)];refine ⟨.inr (),fun k hk=>?_,fun _=>rfl,fun h=>by cases h⟩;obtain ⟨k,rfl⟩:∃ k',k=k'+1:=⟨k-1,by omega⟩;rw [Qu.eq_2];have:¬ ((i:Int)<(p.length:Int)):=by omega
  simp [this]
 | succ j ih =>
  intro i hi;obtain ⟨r,hr,G,H⟩:=ih (i+1) (by omega);have B:i<p.length:=by omega
  have E:(i:Int)<(p.length:Int):=by omega
  rw [List.drop_eq_getElem_cons B]
  by_cases hc:((p[i].length:Int)>64)
  ·have e:shortP (p[i]::p.drop (i+1))=false:=by
    have:¬ p[i].length≤64:=by omega
    rw [UQ,decide_eq_false this];rfl
   rw [e];refine ⟨.inl (i:Int),fun k hk=>?_,fun h=>(by cases h),fun _=>⟨i,rfl⟩⟩;obtain ⟨k,rfl⟩:∃ k',k=k'+1:=⟨k-1,by omega⟩;rw [Qu.eq_2];simp only [E,decide_true,if_true,inR B,and_self,rdN B,VC,Option.bind_some,hc]
  ·have e:shortP (p[i]::p.drop (i+1))=shortP (p.drop (i+1)):=by
    have:p[i].length≤64:=by omega
    rw [UQ,decide_eq_true this];rfl
   rw [e];refine ⟨r,fun k hk=>?_,G,H⟩;obtain ⟨k,rfl⟩:∃ k',k=k'+1:=⟨k-1,by omega⟩;rw [Qu.eq_2];simp only [E,decide_true,if_true,inR B,and_self,rdN B,VC,Option.bind_some,hc,decide_false,Bool.false_eq_true,if_false,wr1 (i:=i) (by omega)];exact hr k (by omega)
theorem Ku (c:Qb) (p:Progs):Ev (fun k=>VB k c p) (mayP c p):=by
 unfold VB mayP;refine Ev.bind ⟨9,fun k hk=>JP k c hk⟩ (Ev.bind ?_ (Ev.pure _))
 by_cases h:(mayB c&&decide ((p.length:Int)≤c.Tasks))=true
 ·have B:=h;simp only [Bool.and_eq_true,decide_eq_true_eq] at B;have hT:=Ug B.1;obtain ⟨r,hr,E,G⟩:=QBa p (by omega) p.length 0 (by omega);rw [List.drop_zero] at E G;refine Ev.pos h (Ev.bind (v:=!shortP p) ?_ ((Ev.pure _).eq (by rw [B.1,decide_eq_true B.2];simp)));unfold ZB ZT;refine Ev.bind (v:=Sum.elim (fun r'=>r') (fun _=>(-1:Int)) r) (Ev.bind (v:=r) ⟨p.length+1,fun k hk=>hr k (by omega)⟩ ?_) ((Ev.pure _).eq ?_)
  ·cases r<;>exact Ev.pure _
  ·cases hs:shortP p
   ·obtain ⟨n,rfl⟩:=G hs;simp
   ·rw [E hs];rfl
 ·refine Ev.neg h ((Ev.pure _).eq ?_)
  cases hm:mayB c
  ·rfl
  ·rw [hm,Bool.true_and] at h;have:decide ((p.length:Int)≤c.Tasks)=false:=by simpa using h
   rw [this];rfl
theorem QAo (p:Progs) (hb:p.length≤1000):∀ (j i:Nat),i+j=p.length→∀ k,j<k→XP p k (i:Int)=some (if shortP (p.drop i)=true then .inr () else .inl false):=by
 intro j
 induction j with
 | zero =>
  intro i hi k hk;obtain ⟨k,rfl⟩:∃ k',k=k'+1:=⟨k-1,by omega⟩;rw [XP.eq_2,List.drop_of_length_le (by omega),if_neg (by simp;omega)];rfl
 | succ j ih =>
  intro i hi k hk;obtain ⟨k,rfl⟩:∃ k',k=k'+1:=⟨k-1,by omega⟩;have B:i<p.length:=by omega
  rw [XP.eq_2,List.drop_eq_getElem_cons B,if_pos (by simpa using B),if_pos (inR B),rdN B,wr1 (by omega)]
  by_cases hc:p[i].length≤64
  ·have e:shortP (p[i]::p.drop (i+1))=shortP (p.drop (i+1)):=by rw [UQ,decide_eq_true hc];rfl
   rw [e,if_neg (by simp;omega)];exact ih (i+1) (by omega) k (by omega)
  ·have e:shortP (p[i]::p.drop (i+1))=false:=by rw [UQ,decide_eq_false hc];rfl
   rw [e,if_pos (by simp;omega)];rfl
theorem V8 (c:Qb) (p:Progs):Ev (fun k=>Zq k c p) (mayP c p):=by
 unfold Zq mayP;refine Ev.bind ⟨0,fun k _=>JO k c⟩ ?_
 by_cases h:mayB c=true∧(p.length:Int)≤c.Tasks
 ·have hT:=Ug h.1;have h0:=QAo p (by omega) p.length 0 (by omega);rw [List.drop_zero] at h0;refine Ev.neg (by simp [h.1];omega) (Ev.bind ⟨p.length+1,fun k hk=>h0 k (by omega)⟩ ((Ev.pure _).congr fun k=>?_));rw [h.1,decide_eq_true h.2]
  cases shortP p<;>rfl
 ·refine Ev.pos ?_ ((Ev.pure _).eq ?_)
  ·simp only [Bool.or_eq_true,Bool.not_eq_true',decide_eq_true_eq]
   cases hm:mayB c
   ·exact .inl rfl
   ·exact .inr (Int.not_le.1 fun g=>h ⟨hm,g⟩)
  ·cases hm:mayB c
   ·rfl
   ·have:decide ((p.length:Int)≤c.Tasks)=false:=decide_eq_false fun g=>h ⟨hm,g⟩;rw [this];rfl
theorem QBl {c:Qb} {p:Progs} (h:mayP c p=false):Ev (fun k=>Yb k c p) (.inl ()):=by
 unfold Yb;exact Ev.bind (Ku c p) (Ev.pos (by rw [h];rfl) (Ev.pure _))
theorem Jo {c:Qb} {p:Progs} (h:mayP c p=true):mayB c=true∧p.length≤c.Tasks.toNat∧∃ B:Run,RI c.Tasks.toNat p 0 B∧(B.m=newS c∧B.done=[]∧B.r.tasks=List.replicate c.Tasks.toNat ⟨0,0⟩)∧Ev (fun k=>Yb k c p) (.inr B):=by
 have E:=h;unfold mayP at E;simp only [Bool.and_eq_true,decide_eq_true_eq] at E;obtain ⟨hm,hp,_⟩:=E;have hT:=Ug hm;generalize G:(⟨p,⟨List.replicate c.Tasks.toNat (⟨0,0⟩:Yh),[]⟩,newS c,[],List.replicate c.Tasks.toNat (0:Int)⟩:Run)=B
 have hbeg:Ev (fun k=>Yb k c p) (.inr B):=by
  unfold Yb;refine Ev.bind (Ku c p) (Ev.neg (by rw [h];simp) ?_);refine Ev.bind (v:=.inr ⟨List.replicate c.Tasks.toNat (⟨0,0⟩:Yh),[]⟩) (Ev.all fun k=>?_) ?_
  ·unfold Vn;rw [if_neg (by simp;omega),if_pos (by omega)]
  ·have hnew:Ev (fun k=>VA k c) (.inr (newS c)):=⟨9,fun k hk=>by show VA k c=_;rw [New_eq k hk c,hm];rfl⟩;refine Ev.bind hnew ?_;rw [← G];exact Ev.pos (by omega) (Ev.pure _)
 have H:RI c.Tasks.toNat p 0 B:=by
  rw [← G];refine ⟨rfl,⟨by simp,fun t h=>by simp,fun t h=>by simp,by simp⟩,by simp,Inv.new c,by simp,(fun d hd=>by cases hd),fun u hu E=>?_⟩;have E:(rd (List.replicate c.Tasks.toNat (⟨0,0⟩:Yh)) (u:Int)).at_=2:=E;rw [rdN (by simpa using hu)] at E;simp at E
 exact ⟨hm,by omega,B,H,by rw [← G];exact ⟨rfl,rfl,rfl⟩,hbeg⟩
theorem rof_l0 (l:List QB) (t:Int) (hl:l.length≤1000):∀ (j i:Nat) (out:List QB),i+j=l.length→out.length≤i→∀ k,j<k→XK l t k out (i:Int)=some (out++ofT (l.drop i) t):=by
 intro j
 induction j with
 | zero =>
  intro i out hi ho k hk;obtain ⟨k,rfl⟩:∃ k',k=k'+1:=⟨k-1,by omega⟩;rw [XK.eq_2,List.drop_of_length_le (by omega),if_neg (by simp;omega)];simp [ofT]
 | succ j ih =>
  intro i out hi ho k hk;obtain ⟨k,rfl⟩:∃ k',k=k'+1:=⟨k-1,by omega⟩;have B:i<l.length:=by omega
  rw [XK.eq_2,List.drop_eq_getElem_cons B,Uq,if_pos (by simpa using B),if_pos (inR B),rdN B,wr1 (by omega)]
  by_cases e:l[i].Task=t
  ·rw [if_pos (by simpa using e),if_pos (inR B),if_pos (by simp only [List.length_cons,List.length_nil];omega),if_pos e];simp only [Option.bind_some];rw [ih (i+1) _ (by omega) (by simp;omega) k (by omega)];simp
  ·rw [if_neg (by simpa using e),if_neg e];simp only [Option.bind_some];exact ih (i+1) _ (by omega) (by omega) k (by omega)
theorem rof_ev (l:List QB) (t:Int) (hl:l.length≤1000):Ev (fun k=>X4 k l t) (ofT l t):=by
 unfold X4;have h:Ev (fun k=>XK l t k [] 0) ([]++ofT l t):=⟨l.length+1,fun k hk=>rof_l0 l t hl l.length 0 [] (by omega) (by simp) k (by omega)⟩;exact Ev.bind h (Ev.pure _)
theorem QCN (l:List QB) (hl:l.length≤1000) (hp:∀ x∈l,x.Answer.Pairs.length≤1000000∧0≤x.What∧x.What≤255):∀ (j i:Nat),i+j=l.length→Ev (fun k=>Yl l k (i:Int)) (if rkAll i (l.drop i)=true then .inr () else .inl false):=by
 intro j
 induction j with
 | zero =>
  intro i hi;rw [List.drop_of_length_le (by omega)];refine Ev.shift 1 ⟨0,fun k _=>?_⟩;show Yl l (k+1) (i:Int)=_;rw [Yl.eq_2,if_neg (by simp;omega)];rfl
 | succ j ih =>
  intro i hi;have B:i<l.length:=by omega
  obtain ⟨hA,K,w1⟩:=hp _ (List.getElem_mem B);have hih:=ih (i+1) (by omega);have G:Int.tmod (i:Int) 3=((i % 3:Nat):Int):=by rw [Int.tmod_eq_emod_of_nonneg (by omega)];rfl
  have H:Int.tdiv (i:Int) 3=((i / 3:Nat):Int):=by rw [Int.tdiv_eq_ediv_of_nonneg (by omega)];rfl
  have O:i % 3<3:=Nat.mod_lt _ (by decide);refine Ev.shift 1 (Ev.congr (g:=fun k=>_) ?_ (fun k=>by rw [Yl.eq_2]));rw [rdN B,List.drop_eq_getElem_cons B,wr1 (by omega),G,H,wr (x:=l[i].What) (by omega) (by omega),wr (x:=1+((i % 3:Nat):Int)) (by omega) (by omega),wr (x:=((i / 3:Nat):Int)) (by omega) (by omega)];generalize l[i]=x at hA;refine Ev.pos (by simpa using B) (Ev.pos (inR B) ?_);refine Ev.bind (v:=!(decide (x.What=1+((i % 3:Nat):Int))&&decide (x.Call=((i / 3:Nat):Int)))) ?_ (Ev.bind (v:=!rk i x) ?_ ?_)
  ·by_cases h:x.What=1+((i % 3:Nat):Int)
   ·refine Ev.neg (by simp [h]) (Ev.chk (inR B) ((Ev.pure _).eq ?_));rw [decide_eq_true h,Bool.true_and];generalize ((i / 3:Nat):Int)=z
    by_cases E:x.Call=z<;>simp [E]
   ·refine Ev.pos (by simpa using h) ((Ev.pure _).eq ?_);rw [decide_eq_false h];rfl
  ·cases hb:(decide (x.What=1+((i % 3:Nat):Int))&&decide (x.Call=((i / 3:Nat):Int)))
   ·exact Ev.pos rfl ((Ev.pure _).eq (by unfold rk;rw [hb];rfl))
   ·refine Ev.neg (by simp) (Ev.bind (v:=!(decide (i % 3=2)||decide (x.Answer=ans 0))) ?_ ((Ev.pure _).eq (by unfold rk;rw [hb];rfl)))
    by_cases E:i % 3=2
    ·exact Ev.neg (by simp;omega) ((Ev.pure _).eq (by simp [E]))
    ·refine Ev.pos (by simp;omega) (Ev.chk (inR B) (Ev.bind (JS x.Answer (ans 0) hA) ((Ev.pure _).eq ?_)));rw [decide_eq_false E,Bool.false_or]
  ·rw [rkAll]
   cases hr:rk i x
   ·exact Ev.pos rfl (Ev.pure _)
   ·exact Ev.neg (by simp) hih
theorem QAU {l:List QB} (hl:l.length≤1000) (hp:∀ x∈l,x.Answer.Pairs.length≤1000000∧0≤x.What∧x.What≤255) {a:Int} (B:a≤6):∀ (n t m:Nat),(t:Int)+n=a→m+n*1000≤100000 →
  Ev (fun k=>Ym a l k (m:Int) (t:Int)) (match legT l n t with | some q=>.inr ((m+q:Nat):Int) | none=>.inl false)
 | 0,t,m,ha,hm=>by
  refine Ev.shift 1 ⟨0,fun k _=>?_⟩;show Ym a l (k+1) (m:Int) (t:Int)=_;rw [Ym.eq_2,if_neg (by simp;omega)];rfl
 | n+1,t,m,ha,hm=>by
  have ho:=of_len l (t:Int);have E:=QCN (ofT l (t:Int)) (by omega) (fun x hx=>hp x (List.mem_filter.1 hx).1) (ofT l (t:Int)).length 0 (by omega);have hih:=QAU hl hp B n (t+1) (m+(ofT l (t:Int)).length) (by omega) (by omega);rw [List.drop_zero] at E;refine Ev.shift 1 (Ev.congr (g:=fun k=>_) ?_ (fun k=>by rw [Ym.eq_2]));refine Ev.pos (by simp;omega) (Ev.bind (rof_ev l (t:Int) hl) (Ev.bind E ?_));unfold legT
  cases h:rkAll 0 (ofT l (t:Int))
  ·exact Ev.pure _
  ·simp only [if_true,Sum.elim_inr];rw [wr (x:=(m:Int)+((ofT l (t:Int)).length:Int)) (by omega) (by omega),wr1 (by omega),show (m:Int)+((ofT l (t:Int)).length:Int)=((m+(ofT l (t:Int)).length:Nat):Int) by omega];refine hih.eq ?_
   cases legT l n (t+1) with
   | none=>rfl
   | some q=>simp only [Option.map_some];congr 2;omega
theorem QBS {l:List QB} (hl:l.length≤1000) (hp:∀ x∈l,x.Answer.Pairs.length≤1000000∧0≤x.What∧x.What≤255) {n:Int} (E:1≤n) (B:n≤6):∃ b,Ev (fun k=>Xe k n l) b∧(b=true↔legD n.toNat l):=by
 have h:=QAU hl hp B n.toNat 0 0 (by omega) (by omega);rw [← QBU];unfold Xe
 cases hq:legT l n.toNat 0 with
 | none =>
  rw [hq] at h;exact ⟨false,Ev.neg (by simp;omega) (Ev.bind h (Ev.pure _)),by simp⟩
 | some q =>
  rw [hq] at h;refine ⟨decide (q=l.length),Ev.neg (by simp;omega) (Ev.bind h ((Ev.pure _).eq ?_)),?_⟩
  ·by_cases e:q=l.length
   ·simp [e]
   ·have:¬ ((0+q:Nat):Int)=(l.length:Int):=by omega
    simp [e];omega
  ·simp
theorem rin_ev (p:Progs) (l:List QB) (hl:l.length≤1000) (h0:∀ x∈l,0≤x.Task):∀ (j i:Nat),i+j=l.length→Ev (fun k=>XJ p l k (i:Int)) (if (l.drop i).all (fun e=>decide (inP p e))=true then .inr () else .inl false):=by
 intro j
 induction j with
 | zero =>
  intro i hi;rw [List.drop_of_length_le (by omega)];refine Ev.shift 1 ⟨0,fun k _=>?_⟩;show XJ p l (k+1) (i:Int)=_;rw [XJ.eq_2,if_neg (by simp;omega)];rfl
 | succ j ih =>
  intro i hi;have B:i<l.length:=by omega
  have ht:=h0 _ (List.getElem_mem B);have hih:=ih (i+1) (by omega);refine Ev.shift 1 (Ev.congr (g:=fun k=>_) ?_ (fun k=>by rw [XJ.eq_2]));rw [rdN B,List.drop_eq_getElem_cons B,wr1 (by omega),List.all_cons];generalize l[i]=x at ht;refine Ev.pos (by simpa using B) (Ev.pos (inR B) (Ev.bind (v:=!decide (inP p x)) ?_ ?_))
  ·by_cases h:x.Task<(p.length:Int)
   ·refine Ev.neg (by simp;omega) (Ev.chk (inR B) (Ev.chk (inR B) (Ev.chk ⟨ht,h⟩ ((Ev.pure _).eq ?_))));unfold inP
    by_cases g:x.Call<((rd p x.Task).length:Int)
    ·rw [decide_eq_true (show x.Task<(p.length:Int)∧x.Call<((rd p x.Task).length:Int) from ⟨h,g⟩)];simp;omega
    ·rw [decide_eq_false (show ¬ (x.Task<(p.length:Int)∧x.Call<((rd p x.Task).length:Int)) from fun q=>g q.2)];simp;omega
   ·refine Ev.pos (by simp;omega) ((Ev.pure _).eq ?_);rw [decide_eq_false (fun q=>h q.1)];rfl
  ·cases decide (inP p x)
   ·exact Ev.pos rfl (Ev.pure _)
   ·exact Ev.neg (by simp) hih
theorem of_ev {c:Qb} {p:Progs} (hm:mayB c=true) (hp:p.length≤c.Tasks.toNat) {l:List QB} (hl:l.length≤1000) (ha:∀ x∈l,x.Answer.Pairs.length≤1000000∧0≤x.What∧x.What≤255) {x:Core} (hx:x.tasks=List.replicate c.Tasks.toNat ⟨0,0⟩) :
  Ev (fun k=>XC k c p l) (overC p l 0 x).isSome:=by
 have hT:=Ug hm;have hk:=QBT hp l hx;obtain ⟨b,hb,B⟩:=QBS hl ha hT.1 hT.2;unfold XC;refine hb.bind ?_
 cases b with
 | false =>
  refine Ev.pos rfl ((Ev.pure _).eq ?_)
  symm
  rw [← Bool.not_eq_true,hk];exact fun h=>Bool.noConfusion (B.2 h.1)
 | true =>
  have hd:=B.1 rfl;refine Ev.neg (by simp) (Ev.bind (rin_ev p l hl (fun x hx=>(hd.1 x hx).1) l.length 0 (by omega)) ?_);rw [List.drop_zero]
  cases hq:l.all (fun e=>decide (inP p e))
  ·refine (Ev.pure _).eq ?_
   symm
   rw [← Bool.not_eq_true,hk];rintro ⟨_,h⟩;rw [List.all_eq_false] at hq;obtain ⟨e,E,G⟩:=hq;exact G (decide_eq_true (h e E))
  ·refine (Ev.pure _).eq ?_
   symm
   rw [hk];refine ⟨hd,fun e E=>?_⟩;rw [List.all_eq_true] at hq;exact of_decide_eq_true (hq e E)
end Go.Proofs.YtnjbjpaiepefoaaGreatDoor
