import Derived.Test.YtnjbjpaiepefoaaGreatDoorPureTold
namespace Go.Proofs.YtnjbjpaiepefoaaGreatDoor
open Go Go.RowKit
set_option linter.unusedVariables false
set_option linter.unusedSimpArgs false
set_option maxRecDepth 100000
def okB (l:List QB) (d:Qw):Bool:=decide (d.Back<0)||decide ((rd l d.Back).Answer=d.Answer)
theorem QCC (l:List QB) (D:List Qw) (m:RM) (hD:D.length≤1000) (hA:∀ e∈l,e.Answer.Pairs.length≤1000000) (hb:∀ d∈D,d.Back<(l.length:Int)) :
  ∀ j i:Nat,i+j=D.length→Ev (fun k=>Yj l (D.map toR,m) k (i:Int)) (if (D.drop i).all (okB l)=true then .inr () else .inl false):=by
 intro j
 induction j with
 | zero =>
  intro i hi;rw [List.drop_of_length_le (by omega)];refine Ev.shift 1 ⟨0,fun k _=>?_⟩;show Yj l (D.map toR,m) (k+1) (i:Int)=_;rw [Yj.eq_2,if_neg (by simp;omega)];rfl
 | succ j ih =>
  intro i hi;have h1:i<D.length:=by omega
  have hlm:i<(D.map toR).length:=by simpa using h1
  have em:(D.map toR)[i]=toR D[i]:=by simp
  have hbi:=hb _ (List.getElem_mem h1);have hih:=ih (i+1) (by omega);refine Ev.shift 1 (Ev.congr (g:=fun k=>_) ?_ (fun k=>by rw [Yj.eq_2]));simp only [rdN hlm,em,wr1 (i:=i) (by omega)];rw [List.drop_eq_getElem_cons h1,List.all_cons];generalize D[i]=d at hbi;have eb:(toR d).Back=d.Back:=rfl;have ea:(toR d).Answer=d.Answer:=rfl;simp only [eb,ea];refine Ev.pos (by simpa using h1) (Ev.pos (inR hlm) (Ev.bind (v:=!okB l d) ?_ ?_))
  ·by_cases h0:0≤d.Back
   ·obtain ⟨b,B⟩:=Int.eq_ofNat_of_zero_le h0;have hbl:b<l.length:=by omega
    refine Ev.pos (by simpa using h0) (Ev.chk (inR hlm) (Ev.chk ⟨h0,hbi⟩ (Ev.chk (inR hlm) ((JS (rd l d.Back).Answer d.Answer (by rw [B,rdN hbl];exact hA _ (List.getElem_mem hbl))).bind ((Ev.pure _).eq ?_)))));unfold okB;rw [decide_eq_false (by omega:¬ d.Back<0),Bool.false_or]
   ·refine Ev.neg (by simp;omega) ((Ev.pure _).eq ?_);unfold okB;rw [decide_eq_true (by omega:d.Back<0)];rfl
  ·cases okB l d
   ·exact Ev.pos rfl (Ev.pure _)
   ·exact Ev.neg (by simp) hih
theorem qH {c:Qb} {p:Progs} {l:List QB} {D:List Qw} {m:RM} (h:Ev (fun k=>YM k c p l) (D.map toR,m)) (hD:D.length≤1000) (hA:∀ e∈l,e.Answer.Pairs.length≤1000000) (hb:∀ d∈D,d.Back<(l.length:Int)) :
  Ev (fun k=>Xv k c p l) (D.all (okB l)):=by
 have hr:=QCC l D m hD hA hb D.length 0 (by omega);rw [List.drop_zero] at hr;refine h.bind (Ev.bind hr ?_)
 cases D.all (okB l)<;>exact Ev.pure _
theorem RTold.back {d:List QB} {y:Core} (R:RTold d y):∀ z∈y.done,z.Back<(d.length:Int):=fun z hz=>by
 obtain ⟨j,hj,rfl⟩:=List.getElem_of_mem hz
 by_cases h0:0≤y.done[j].Back
 ·obtain ⟨b,h1,h2,_⟩:=R j hj h0;omega
 ·omega
theorem RTold.all {d:List QB} {y:Core} (R:RTold d y):y.done.all (okB d)=true:=by
 rw [List.all_eq_true];intro z hz;obtain ⟨j,hj,rfl⟩:=List.getElem_of_mem hz;unfold okB
 by_cases h0:0≤y.done[j].Back
 ·obtain ⟨b,h1,h2,h3⟩:=R j hj h0;rw [h1,rdN h2];simp [h3]
 ·rw [decide_eq_true (by omega:y.done[j].Back<0)];rfl
section
variable {c:Qb} {p:Progs} (hm:mayB c=true) (hp:p.length≤c.Tasks.toNat) {x0:Run} (R:RI c.Tasks.toNat p 0 x0) (h1:x0.m=newS c) (h2:x0.done=[]) (h3:x0.r.tasks=List.replicate c.Tasks.toNat ⟨0,0⟩) {L:List QB} (hl:L.length≤900) (ha:∀ x∈L,x.Answer.Pairs.length≤100000∧0≤x.What∧x.What≤255)
include hm hp R h1 h2 h3 hl ha
theorem ck28_l:∀ (j i:Nat) (x:Core),i+j=L.length→overC p (L.take i) 0 (coreOf x0)=some x→RTold (L.take i) x→Ev (fun k=>Yk c p L k ((i+1:Nat):Int)) (checkC p (L.drop i) (i:Int) x):=by
 intro j
 induction j with
 | zero =>
  intro i x hi ho hr;rw [List.drop_of_length_le (by omega)];refine Ev.shift 1 ⟨0,fun k _=>?_⟩;show Yk c p L (k+1) ((i+1:Nat):Int)=_;rw [Yk.eq_2,if_neg (by simp;omega)];rfl
 | succ j ih =>
  intro i x hi ho hr;have hlt:i<L.length:=by omega
  have et:L.take (i+1)=L.take i++[L[i]]:=List.take_succ_eq_append_getElem hlt;have htl:(L.take i).length=i:=by simp;omega
  have hap:=qO p L[i] (L.take i) 0 _ x ho;rw [← et,htl,Int.zero_add] at hap
  have hat:∀ z∈L.take (i+1),z.Answer.Pairs.length≤1000000∧0≤z.What∧z.What≤255:=fun z hz=>by
   have:=ha z (List.mem_of_mem_take hz);omega
  have hof:=of_ev (x:=coreOf x0) hm hp (l:=L.take (i+1)) (by rw [List.length_take];omega) hat h3;obtain ⟨D0,m0,_,Y⟩:=Ko hm hp R h1 h2 h3 (by rw [htl];omega) ho;have D:=Y.di;have ew:IntKind.i64.wrap (((i+1:Nat):Int)-1)=(i:Int):=by rw [wr (by omega) (by omega)];omega
  have en:(((i+1:Nat):Int)).toNat=i+1:=rfl;have hin:0≤((i+1:Nat):Int)∧((i+1:Nat):Int)≤(L.length:Int):=by omega
  rw [List.drop_eq_getElem_cons hlt,checkC];refine Ev.shift 1 (Ev.congr (g:=fun k=>_) ?_ (fun k=>by rw [Yk.eq_2]));rw [en,ew,wr1 (i:=i+1) (by omega)];refine Ev.pos (by simp;omega) (Ev.pos hin (hof.bind ?_));rw [hap]
  by_cases hmay:may p x L[i]
  ·rw [if_pos hmay] at hap ⊢;rw [if_pos hmay];obtain ⟨D1,m1,E,K⟩:=Ko hm hp R h1 h2 h3 (by rw [List.length_take];omega) hap;rw [K.eq] at E;have hdl:=K.dl;rw [List.length_take] at hdl;refine Ev.neg (by simp) (Ev.pos hin ?_)
   by_cases hout:outS x L[i]=0
   ·have O:L[i].What=3→(rd x.done (rd x.last L[i].Task)).Answer=L[i].Answer:=fun w=>by
     unfold outS at hout
     by_cases q:(rd x.done (rd x.last L[i].Task)).Answer=L[i].Answer
     ·exact q
     ·rw [if_pos ⟨w,q⟩] at hout;exact absurd hout (by decide)
    have hr':=hr.step hp D hmay O;rw [← et,htl] at hr';have hri:=qH E (by omega) (fun z hz=>(hat z hz).1) hr'.back;rw [hr'.all] at hri;rw [if_neg (by simpa using hout)];have:=ih (i+1) _ (by omega) hap hr';rw [show ((i+1:Nat):Int)=(i:Int)+1 from rfl] at this;exact hri.bind (Ev.neg (by simp) this)
   ·have hw:L[i].What=3∧(rd x.done (rd x.last L[i].Task)).Answer≠L[i].Answer:=by
     unfold outS at hout
     by_cases q:L[i].What=3∧(rd x.done (rd x.last L[i].Task)).Answer≠L[i].Answer
     ·exact q
     ·rw [if_neg q] at hout;exact absurd rfl hout
    have Z:outS x L[i]=7:=by unfold outS;rw [if_pos hw]
    obtain ⟨B,H,U,k2⟩:=D.find hp hmay hw.1
    have V:(goS p x (i:Int) L[i]).done=x.done.set B ⟨x.done[B].Task,x.done[B].Call,x.done[B].Answer,x.done[B].Mark,(i:Int)⟩:=by
     unfold goS;rw [if_neg (by omega),if_neg (by omega),U,rdN H];rfl
    have hlen:((L.take (i+1)).length:Int)=(i:Int)+1:=by rw [List.length_take];omega
    have hbk:∀ z∈(goS p x (i:Int) L[i]).done,z.Back<((L.take (i+1)).length:Int):=fun z hz=>by
     rw [hlen];rw [V] at hz;rcases List.mem_or_eq_of_mem_set hz with h | h
     ·have:=hr.back z h;rw [htl] at this;omega
     ·subst h;show (i:Int)<(i:Int)+1;omega
    have hri:=qH E (by omega) (fun z hz=>(hat z hz).1) hbk
    have hbad:(goS p x (i:Int) L[i]).done.all (okB (L.take (i+1)))=false:=by
     rw [List.all_eq_false];refine ⟨⟨x.done[B].Task,x.done[B].Call,x.done[B].Answer,x.done[B].Mark,(i:Int)⟩,by rw [V];exact List.mem_set H _,?_⟩;have W:i<(L.take (i+1)).length:=by omega
     have G:=hw.2;rw [U,rdN H] at G;unfold okB;simp only;rw [rdN W,List.getElem_take,decide_eq_false (by omega:¬ (i:Int)<0),Bool.false_or]
     simpa using fun h=>G h.symm
    rw [hbad] at hri;rw [if_pos hout,Z];exact hri.bind (Ev.pos rfl (Ev.pure _))
  ·rw [if_neg hmay,if_neg hmay];exact Ev.pos rfl (Ev.pure _)
end
theorem QAA (c:Qb) (p:Progs) (L:List QB) (hl:L.length≤900) (ha:∀ x∈L,x.Answer.Pairs.length≤100000∧0≤x.What∧x.What≤255):∃ v,Ev (fun k=>X1 k c p L) v∧Ev (fun k=>Xw k c p L) v:=by
 cases h:mayP c p with
 | false=>exact ⟨(-1,1),Ev.bind (QBl h) (Ev.pure _),Ev.bind (V8 c p) (Ev.pos (by rw [h];rfl) (Ev.pure _))⟩
 | true =>
  obtain ⟨hm,hp,x0,R,⟨h1,h2,h3⟩,hb⟩:=Jo h;have B:=ck_all hp L (by omega) (fun e G=>(ha e G).1) L.length 0 x0 (by omega) R
  have E:=ck28_l hm hp R h1 h2 h3 hl ha L.length 0 (coreOf x0) (by omega) rfl (fun j hj=>by
   have hj:j<x0.done.length:=hj;rw [h2] at hj;cases hj)
  rw [List.drop_zero] at B E;generalize checkC p L ((0:Nat):Int) (coreOf x0)=q at B E
  cases q with
  | inl r=>exact ⟨r,Ev.bind hb (Ev.bind B (Ev.pure _)),Ev.bind (V8 c p) (Ev.neg (by rw [h];simp) (Ev.bind E (Ev.pure _)))⟩
  | inr r=>exact ⟨(-1,0),Ev.bind hb (Ev.bind B (Ev.pure _)),Ev.bind (V8 c p) (Ev.neg (by rw [h];simp) (Ev.bind E (Ev.pure _)))⟩
end Go.Proofs.YtnjbjpaiepefoaaGreatDoor
