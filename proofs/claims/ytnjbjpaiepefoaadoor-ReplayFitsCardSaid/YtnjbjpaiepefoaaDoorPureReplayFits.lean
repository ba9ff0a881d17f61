import Derived.Test.YtnjbjpaiepefoaaDoorOpnq1
import Derived.Test.YtnjbjpaiepefoaaDoorPureTry2
import Derived.Test.YtnjbjpaiepefoaaDoorPureLarge
namespace Go.Proofs.YtnjbjpaiepefoaaDoor
open Go Go.RowKit
set_option linter.unusedVariables false
set_option linter.unusedSimpArgs false
set_option maxRecDepth 100000
theorem QCa (l:Evs) (hl:l.length≤1000) (hN:∃ e∈l,e.What=2):Ev (fun k=>Qo k l) true:=by
 have h:∀ j i:Nat,i+j=l.length→(∃ e∈l.drop i,e.What=2)→∃ n:Nat,∀ k,j<k→Qh l k (i:Int)=some (.inl (n:Int)):=by
  intro j
  induction j with
  | zero =>
   intro i hi B;rw [List.drop_of_length_le (by omega)] at B;obtain ⟨e,B,_⟩:=B;cases B
  | succ j ih =>
   intro i hi B;have hlt:i<l.length:=by omega
   by_cases w:l[i].What=2
   ·refine ⟨i,fun k hk=>?_⟩;obtain ⟨k,rfl⟩:∃ q,k=q+1:=⟨k-1,by omega⟩;rw [Qh.eq_2,if_pos (by simpa using hlt),if_pos (inR hlt),rdN hlt,X6,Option.bind_some,if_pos (by simpa using w)]
   ·obtain ⟨n,hn⟩:=ih (i+1) (by omega) (by
     obtain ⟨e,B,E⟩:=B;rw [List.drop_eq_getElem_cons hlt] at B;rcases List.mem_cons.1 B with rfl | B
     ·exact absurd E w
     ·exact ⟨e,B,E⟩)
    refine ⟨n,fun k hk=>?_⟩;obtain ⟨k,rfl⟩:∃ q,k=q+1:=⟨k-1,by omega⟩;rw [Qh.eq_2,if_pos (by simpa using hlt),if_pos (inR hlt),rdN hlt,X6,Option.bind_some,if_neg (by simpa using w),wr1 (by omega)];exact hn k (by omega)
 obtain ⟨n,hn⟩:=h l.length 0 (by omega) (by simpa using hN);refine ⟨l.length+1,fun k hk=>?_⟩;have h0:Qh l k (0:Int)=some (.inl (n:Int)):=hn k (by omega);show Qo k l=_;unfold Qo Q6;rw [h0];simp
theorem QBe (l:Evs) (hl:l.length≤1000):Ev (fun k=>Xc k l) (l.filter fun e=>e.What != 2):=by
 have h:∀ (j i:Nat) (out:Evs),i+j=l.length→out.length≤i→∀ k,j<k→Yq l k out (i:Int)=some (out++(l.drop i).filter fun e=>e.What != 2):=by
  intro j
  induction j with
  | zero =>
   intro i out hi ho k hk;obtain ⟨k,rfl⟩:∃ q,k=q+1:=⟨k-1,by omega⟩;rw [Yq.eq_2,if_neg (by simp;omega),List.drop_of_length_le (by omega)];simp
  | succ j ih =>
   intro i out hi ho k hk;obtain ⟨k,rfl⟩:∃ q,k=q+1:=⟨k-1,by omega⟩;have hlt:i<l.length:=by omega
   rw [Yq.eq_2,List.drop_eq_getElem_cons hlt,if_pos (by simpa using hlt),if_pos (inR hlt),rdN hlt,wr1 (by omega),List.filter_cons]
   by_cases w:(l[i].What != 2)=true
   ·rw [if_pos w,if_pos (inR hlt),if_pos (by simp only [List.length_cons,List.length_nil];omega),if_pos w];simp only [Option.bind_some];rw [ih (i+1) _ (by omega) (by simp;omega) k (by omega)];simp
   ·rw [if_neg w,if_neg w];simp only [Option.bind_some];exact ih (i+1) _ (by omega) (by omega) k (by omega)
 unfold Xc;have h0:Ev (fun k=>Yq l k [] 0) ([]++l.filter fun e=>e.What != 2):=⟨l.length+1,fun k hk=>h l.length 0 [] (by omega) (by simp) k (by omega)⟩;exact Ev.bind h0 (Ev.pure _)
theorem qy (l:Evs) (hl:l.length≤1000):Ev (fun k=>XJ k l) (markL l):=by
 have h:∀ (j i:Nat) (out:Evs),i+j=l.length→out.length+2*j≤100000→∀ k,j<k→YR l k out (i:Int)=some (out++markL (l.drop i)):=by
  intro j
  induction j with
  | zero =>
   intro i out hi ho k hk;obtain ⟨k,rfl⟩:∃ q,k=q+1:=⟨k-1,by omega⟩;rw [YR.eq_2,if_neg (by simp;omega),List.drop_of_length_le (by omega)];simp [markL]
  | succ j ih =>
   intro i out hi ho k hk;obtain ⟨k,rfl⟩:∃ q,k=q+1:=⟨k-1,by omega⟩;have hlt:i<l.length:=by omega
   rw [YR.eq_2,if_pos (by simpa using hlt),if_pos (inR hlt),rdN hlt,List.drop_eq_getElem_cons hlt,markL,wr1 (by omega)]
   by_cases w:l[i].What=3
   ·rw [if_pos (by simpa using w),if_pos (inR hlt),if_pos (inR hlt),if_pos (by simp;omega),Option.bind_some,if_pos (inR hlt),if_pos (by simp;omega),ih (i+1) _ (by omega) (by simp;omega) k (by omega),if_pos w];simp [ans]
   ·rw [if_neg (by simpa using w),Option.bind_some,if_pos (inR hlt),if_pos (by simp;omega),ih (i+1) _ (by omega) (by simp;omega) k (by omega),if_neg w];simp
 unfold XJ;have h0:Ev (fun k=>YR l k [] 0) ([]++markL l):=⟨l.length+1,fun k hk=>h l.length 0 [] (by omega) (by simp;omega) k (by omega)⟩;exact Ev.bind h0 (Ev.pure _)
theorem qV:∀ (l:Evs) (e:QA),e∈l→e∈markL l
 | [],_,h=>h
 | x::l,e,h=>by
  rw [markL];rcases List.mem_cons.1 h with rfl | h
  ·split<;>simp
  ·have:=qV l e h
   split<;>simp [this]
theorem KX (p:Progs):∀ (l:Evs) (a:Int) (x y:Core),overC p l a x=some y→∀ e∈l,goodE p e
 | [],_,_,_,_,e,h=>by cases h
 | z::l,a,x,y,h,e,B=>by
  rw [overC] at h
  by_cases hm:may p x z
  ·rw [if_pos hm] at h;rcases List.mem_cons.1 B with rfl | B
   ·exact hm.1
   ·exact KX p l _ _ y h e B
  ·rw [if_neg hm] at h;cases h
theorem QA4 (c:Qa) (p:Progs) (L:Evs) (hl:L.length≤1000) (hP:∀ e∈L,e.Answer.Pairs.length≤100000∧0≤e.What∧e.What≤255):∃ v,Ev (fun k=>Xx k c p L) v∧Ev (fun k=>Xv k c p L) v:=by
 cases h:mayP c p with
 | false=>exact ⟨(false,1),Ev.bind (beg_no h) (Ev.pure _),Ev.bind (KU c p) (Ev.pos (by rw [h];rfl) (Ev.pure _))⟩
 | true =>
  obtain ⟨hm,hp,x0,R,⟨Y,Z,U⟩,hb⟩:=QCr h;have hT:=V2 hm
  have first:∀ v,(Ev (fun k=>if (decide ((L.length:Int)>(24:Int)))=true then some (false,(40:Int)) else (Option.bind (Xc k L) (fun a0=>(Option.bind (α:=Bool) (if ((a0.length:Int) != (L.length:Int))=true then some (true) else (Option.bind (XJ k L) (fun a1=>(Option.bind (Y2 k c p a1) (fun a2=>some ((!a2))))))) (fun a3=>(if a3=true then some (false,(4:Int)) else (Option.bind (X9 k c p ([]:(List QA)) L) (fun a4=>some (a4,(0:Int))))))))))) v→Ev (fun k=>Xv k c p L) v:=fun v hv =>
   Ev.bind (KU c p) (Ev.neg (by rw [h];simp) hv)
  by_cases E:(L.length:Int)>24
  ·exact ⟨(false,40),Ev.bind hb (Ev.pos (by simpa using E) (Ev.pure _)),first _ (Ev.pos (by simpa using E) (Ev.pure _))⟩
  have V:L.length≤24:=by omega
  have hbare:=QBe L hl;have hmk:=qy L hl
  by_cases hN:∃ e∈L,e.What=2
  ·refine ⟨(false,4),Ev.bind hb (Ev.neg (by simpa using E) (Ev.bind (QCa L hl hN) (Ev.pos rfl (Ev.pure _)))),first _ (Ev.neg (by simpa using E) (Ev.bind hbare (Ev.bind (v:=true) (Ev.pos ?_ (Ev.pure _)) (Ev.pos rfl (Ev.pure _)))))⟩;obtain ⟨e,B,w⟩:=hN
   have:(L.filter fun e=>e.What != 2).length≠L.length:=fun q=>by
    have:=List.length_filter_eq_length_iff.1 q e B;simp [w] at this
   simp;omega
  have hN':∀ e∈L,e.What≠2:=fun e B w=>hN ⟨e,B,w⟩
  have hfl:(L.filter fun e=>e.What != 2)=L:=by
   rw [List.filter_eq_self];intro e B;simpa using hN' e B
  rw [hfl] at hbare;have hlm:=JR L;have hAm:=Ut (P:=fun e=>e.Answer.Pairs.length≤100000) L (fun e B=>(hP e B).1) (fun e _=>by simp [ans]);have hAw:=Ut (P:=fun e=>e.Answer.Pairs.length≤1000000∧0≤e.What∧e.What≤255) L (fun e B=>by have:=hP e B;omega) (fun e _=>by simp [ans]);have hof:=of_ev (x:=coreOf x0) hm hp (l:=markL L) (by omega) hAw U
  cases hov:overC p (markL L) 0 (coreOf x0) with
  | none =>
   rw [hov] at hof;rcases KW hb R hp (L:=markL L) (by omega) hAm with ⟨_,ho⟩ | ⟨y,_,hy,_⟩
   ·exact ⟨(false,4),Ev.bind hb (Ev.neg (by simpa using E) (Ev.bind (KZ L hl hN') (Ev.neg (by simp) (Ev.bind (Ke L hl) (Ev.bind ho (Ev.pure _)))))),
     first _ (Ev.neg (by simpa using E) (Ev.bind hbare (Ev.bind (v:=true) (Ev.neg (by simp) (Ev.bind hmk (Ev.bind hof (Ev.pure _)))) (Ev.pos rfl (Ev.pure _)))))⟩
   ·rw [hov] at hy;cases hy
  | some y =>
   rw [hov] at hof;have hg:=KX p (markL L) 0 _ y hov;obtain ⟨W,f1,f2⟩:=QC1 hm hb R hp V (fun e B=>(hP e B).1) hN' (fun e B=>(hg e (qV L e B)).1) hov
   have hop:opens (List.replicate c.Tasks.toNat (⟨0,0⟩:Zu))=0:=by
    unfold opens;rw [List.countP_eq_zero];intro z hz;rw [List.eq_of_mem_replicate hz];simp
   have H:(coreOf x0).tasks=List.replicate c.Tasks.toNat ⟨0,0⟩:=U
   have h0:∀ t:Nat,(rd (List.replicate c.Tasks.toNat (⟨0,0⟩:Zu)) (t:Int)).at_≠2∧(rd (List.replicate c.Tasks.toNat (⟨0,0⟩:Zu)) (t:Int)).at_≠1:=fun t=>by
    by_cases ht:t<c.Tasks.toNat
    ·rw [rdN (by simpa using ht)];simp
    ·simp [rd,List.getD_eq_getElem?_getD,List.getElem?_replicate,ht];decide
   have S:TS p (coreOf x0) (retAns L) [] L (coreOf x0):=by
    refine ⟨rfl,fun j hj=>?_,fun e B=>hP e (by simpa using B),hN',fun t ht g=>?_,fun t c _ _ _=>rfl⟩
    ·have hj:j<x0.done.length:=hj;rw [Z] at hj;cases hj
    ·rw [H] at g;exact absurd g (h0 t).1
   obtain ⟨b2,K,g1,g2⟩:=QCR hm hp R Y Z U 48 L [] (coreOf x0) (by rw [H,hop];omega) (by simp) S;have a6:(coreOf x0).m=newS c:=Y;rw [H,a6] at g2;have hopn:opn (List.replicate c.Tasks.toNat (⟨0,0⟩:Zu))=List.replicate c.Tasks.toNat (-1):=by unfold opn;rw [List.map_replicate];rfl
   have hunm:unm (List.replicate c.Tasks.toNat (⟨0,0⟩:Zu))=List.replicate c.Tasks.toNat ⟨0,0⟩:=by unfold unm;rw [List.map_replicate];rfl
   have e:W=b2:=by
    rw [Bool.eq_iff_iff,f2,g2]
    constructor
    ·intro hF;exact hF.toG (List.replicate c.Tasks.toNat ⟨0,0⟩) 0 (coreOf x0) y (by simpa using hp) hopn.symm (by rw [H,hunm]) hov hN' fun t ht g=>absurd g (h0 t).2
    ·intro hG;have:=hG.toFF (by simpa using hp);rw [hopn] at this;exact this
   subst e;have htry:Ev (fun k=>X9 k c p [] L) W:=⟨K,fun k hk=>g1 k k hk hk⟩;exact ⟨(W,0),f1,first _ (Ev.neg (by simpa using E) (Ev.bind hbare (Ev.bind (v:=false) (Ev.neg (by simp) (Ev.bind hmk (Ev.bind hof (Ev.pure _)))) (Ev.neg (by simp) (Ev.bind htry (Ev.pure _))))))⟩
theorem pure_ReplayFits (H:Qa) (E:(List (List QV))) (B:(List QA)) (_:Ux H) (w1:(wfSl (wfSl Ja)) E) (U:(wfSl U6) B):∃ k,Y4 k H E B=some true:=by
 refine Ev.ex (f:=fun k=>Y4 k H E B) ?_;have W:E.length≤9223372036854775807:=Nat.le_trans w1.1 (by decide);have Y:∀ q∈E,q.length≤9223372036854775807:=fun q hq=>Nat.le_trans (w1.2 q hq).1 (by decide);have Z:B.length≤9223372036854775807:=Nat.le_trans U.1 (by decide);have b4:∀ e∈B,e.Answer.Pairs.length≤9223372036854775807:=fun e K=>Nat.le_trans (U.2 e K).2.2.2.2.2.2.1 (by decide);obtain ⟨x,hx,V⟩:=QBo E B W Y Z b4;unfold Y4;refine hx.bind ?_
 by_cases hc:((x||((decide ((B.length:Int)>(12:Int)))&&(decide ((B.length:Int)≤(24:Int)))))||((decide (H.Tasks>(3:Int)))&&(decide (H.Tasks≤(6:Int)))))=true
 ·exact Ev.pos hc (qE.bind (Ev.pure _))
 ·have hxf:x=false:=by cases x;rfl;simp at hc
  obtain ⟨l1,l2⟩:=V hxf;obtain ⟨v,v1,v2⟩:=QA4 H E B (by omega) (fun e K=>⟨by have:=l2 e K;omega,by have:=(U.2 e K).1;simp only [wfInt,Lit.wf,Bool.and_eq_true,decide_eq_true_eq] at this;exact this⟩);have hs:Ev (fun k=>Xt k (⟨0,false,[],[]⟩:Qc) (⟨0,false,[],[]⟩:Qc)) true:=(JC _ _ (by simp)).eq (by simp);refine Ev.neg hc (Ev.bind v1 (Ev.bind v2 ?_));refine Ev.bind (v:=true) (Ev.pos (by simp) (qE.bind (Ev.pure _))) ?_;exact Ev.bind (v:=true) (Ev.pos rfl (hs.bind (Ev.pure _))) (Ev.pure _)
end Go.Proofs.YtnjbjpaiepefoaaDoor
