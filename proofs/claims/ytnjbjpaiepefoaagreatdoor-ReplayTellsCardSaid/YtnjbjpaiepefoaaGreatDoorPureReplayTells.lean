import Derived.Test.YtnjbjpaiepefoaaGreatDoorOpnt1
import Derived.Test.YtnjbjpaiepefoaaGreatDoorPureCheck28
import Derived.Test.YtnjbjpaiepefoaaGreatDoorPureLarge
namespace Go.Proofs.YtnjbjpaiepefoaaGreatDoor
open Go Go.RowKit
set_option linter.unusedVariables false
set_option linter.unusedSimpArgs false
set_option maxRecDepth 100000
theorem QB6 (n:Nat):∀ (j i:Nat) (l:List Qw) (hn:n<l.length),i+j=l[n].Answer.Pairs.length→l[n].Answer.Pairs.length≤1000000 →
  ∃ l':List Qw,Ev (fun k=>YC (n:Int) k l (i:Int)) l'∧l'.length=l.length∧∀ q:Nat,q≠n→l'[q]?=l[q]?:=by
 intro j
 induction j with
 | zero =>
  intro i l hn hi hb;refine ⟨l,Ev.shift 1 ⟨0,fun k _=>?_⟩,rfl,fun _ _=>rfl⟩;show YC (n:Int) (k+1) l (i:Int)=_;rw [YC.eq_2,if_pos (inR hn),rdN hn,if_neg (by simp;omega)]
 | succ j ih =>
  intro i l hn hi hb;have hlt:i<l[n].Answer.Pairs.length:=by omega
  generalize hL:List.set l n ⟨l[n].Task,l[n].Call,⟨l[n].Answer.Err,l[n].Answer.Found,l[n].Answer.Value,List.set l[n].Answer.Pairs i ⟨[115,112,111,105,108,116],(rd l[n].Answer.Pairs (i:Int)).Value⟩⟩,l[n].Mark,l[n].Back⟩=B;have hLl:B.length=l.length:=by rw [← hL,List.length_set]
  have E:n<B.length:=by omega
  have hP:B[n].Answer.Pairs.length=l[n].Answer.Pairs.length:=by
   have:B[n]=⟨l[n].Task,l[n].Call,⟨l[n].Answer.Err,l[n].Answer.Found,l[n].Answer.Value,List.set l[n].Answer.Pairs i ⟨[115,112,111,105,108,116],(rd l[n].Answer.Pairs (i:Int)).Value⟩⟩,l[n].Mark,l[n].Back⟩:=by
    simp only [← hL,List.getElem_set,if_true]
   rw [this];exact List.length_set
  obtain ⟨l',G,H,K⟩:=ih (i+1) B E (by omega) (by omega);refine ⟨l',Ev.shift 1 (Ev.congr (g:=fun k=>_) ?_ (fun k=>by rw [YC.eq_2])),H.trans hLl,fun q hq=>?_⟩
  ·rw [rdN hn,wr1 (by omega)];refine Ev.pos (inR hn) (Ev.pos (by simpa using hlt) (Ev.pos (inR hn) (Ev.pos (inR hlt) (Ev.bind (Ev.pure _) (Ev.bind (v:=B) ((Ev.pure _).eq hL) G)))))
  ·rw [K q hq,← hL,List.getElem?_set_ne (fun h=>hq h.symm)]
theorem told_l (D:List Qw) (hD:D.length≤1000) (hA:∀ d∈D,d.Answer.Pairs.length≤1000000):∀ (j i:Nat) (l:List Qw),i+j=D.length→l.length=D.length→(∀ q:Nat,i≤q→l[q]?=D[q]?)→Ev (fun k=>YD (D.map toR) k l (i:Int)) (.inr ()):=by
 intro j
 induction j with
 | zero =>
  intro i l hi hl hq;refine Ev.shift 1 ⟨0,fun k _=>?_⟩;show YD (D.map toR) (k+1) l (i:Int)=_;rw [YD.eq_2,if_neg (by simp;omega)]
 | succ j ih =>
  intro i l hi hl hq;have E:i<D.length:=by omega
  have B:i<l.length:=by omega
  have hlm:i<(D.map toR).length:=by simpa using E
  have em:(D.map toR)[i]=toR D[i]:=by simp
  have el:l[i]=D[i]:=by
   have:=hq i (Nat.le_refl _);rw [List.getElem?_eq_getElem B,List.getElem?_eq_getElem E] at this;exact Option.some.inj this
  have hAi:=hA _ (List.getElem_mem E);obtain ⟨l',G,Z,H⟩:=QB6 i l[i].Answer.Pairs.length 0 l B (by omega) (by rw [el];exact hAi);have hih:=ih (i+1) l' (by omega) (by omega) (fun q Y=>by rw [H q (by omega)];exact hq q (by omega));refine Ev.shift 1 (Ev.congr (g:=fun k=>_) ?_ (fun k=>by rw [YD.eq_2]));simp only [rdN hlm,rdN B,em,el,wr1 (i:=i) (by omega)];generalize D[i]=d at hAi;have K:(toR d).Task=d.Task:=rfl;have O:(toR d).Call=d.Call:=rfl;have U:(toR d).Mark=d.Mark:=rfl;have V:(toR d).Back=d.Back:=rfl;have W:(toR d).Answer=d.Answer:=rfl;simp only [K,O,U,V,W];refine Ev.pos (by simpa using B) (Ev.pos (inR B) (Ev.pos (inR hlm) (Ev.bind (v:=false) (Ev.neg (by simp) (Ev.chk (inR hlm) ((Ev.pure _).eq (by simp)))) (Ev.bind (v:=false) (Ev.neg (by simp) (Ev.chk (inR hlm) ((Ev.pure _).eq (by simp)))) (Ev.bind (v:=false) (Ev.neg (by simp) (Ev.chk (inR hlm) ((Ev.pure _).eq (by simp)))) ?_)))));refine Ev.bind (v:=false) (Ev.neg (by simp) (Ev.chk (inR hlm) ((JS d.Answer d.Answer hAi).bind ((Ev.pure _).eq (by simp))))) (Ev.neg (by simp) (Ev.bind G hih))
theorem QAJ (D:List Qw) (hD:D.length≤1000) (hA:∀ d∈D,d.Answer.Pairs.length≤1000000):Ev (fun k=>Zz k D (D.map toR)) true:=by
 have h:=told_l D hD hA D.length 0 D (by omega) rfl (fun _ _=>rfl);unfold Zz;exact Ev.neg (by simp) (Ev.bind h (Ev.pure _))
theorem Rel.like_l0 {n:Nat} {m:Mod} {x:RM} (R:Rel m x) (I:Inv n m) (hn:n≤1000000):∀ j i:Nat,i+j=x.L.length→Ev (fun k=>Zr m x (keysS m) k (i:Int)) (.inr ()):=by
 have hll:=R.llen I;have hrl:=I.rl;have hkl:=UL m;intro j
 induction j with
 | zero =>
  intro i hi;refine Ev.shift 1 ⟨0,fun k _=>?_⟩;show Zr m x (keysS m) (k+1) (i:Int)=_;rw [Zr.eq_2,if_neg (by simp;omega)]
 | succ j ih =>
  intro i hi;have hlt:i<x.L.length:=by omega
  have hlk:i<(keysS m).length:=by omega
  have hy:=R.at_ I (List.getElem_mem hlt);have hrow:=(I.row x.L[i].Key).1
  have hkey:(keysS m)[i]=x.L[i].Key:=by
   have:=R.keys I;simp only [this,List.getElem_map]
  have B:x.L[i].L=(rowOf m x.L[i].Key).l:=by rw [hy];rfl
  have E:x.L[i].Has=((rowOf m x.L[i].Key).intent.Writer != 0):=by
   have:x.L[i].Has=decide ((rowOf m x.L[i].Key).intent.Writer≠0):=by rw [hy];rfl
   rw [this]
   by_cases q:(rowOf m x.L[i].Key).intent.Writer=0<;>simp [q]
  have G:x.L[i].I=(rowOf m x.L[i].Key).intent:=by rw [hy];rfl
  have hih:=ih (i+1) (by omega);refine Ev.shift 1 (Ev.congr (g:=fun k=>_) ?_ (fun k=>by rw [Zr.eq_2]));rw [wr1 (by omega),rdN hlt,rdN hlk,hkey];have hint:Ev (fun k=>XE k m x.L[i].Key) ((rowOf m x.L[i].Key).intent,(rowOf m x.L[i].Key).intent.Writer != 0):=⟨0,fun k _=>rfl⟩;refine Ev.pos (by simpa using hlk) (Ev.pos (inR hlk) (hint.bind (Ev.pos (inR hlk) (Ev.pos (inR hlt) (Ev.bind (v:=false) (Ev.neg (by simp [sbin]) (Ev.chk (inR hlt) ((Ev.pure _).eq (by rw [E];simp)))) (Ev.bind (v:=false) (Ev.neg (by simp) (Ev.chk (inR hlt) ((Ev.pure _).eq (by rw [G];simp)))) (Ev.bind (v:=false) (Ev.neg (by simp) (Ev.chk (inR hlk) (Ev.chk (inR hlt) ((QCe I hn _).bind (Ev.bind (v:=true) ⟨(rowOf m x.L[i].Key).l.length+1,fun k hk=>?_⟩ (Ev.pure _)))))) (Ev.neg (by simp) hih))))))));show Xc k (rowOf m x.L[i].Key).l x.L[i].L=_;rw [B];exact QBw _ (by omega) k (by omega)
theorem pure_ReplayTells (H:Qb) (E:(List (List QZ))) (G:(List QB)) (_:Uz H) (w1:(wfSl (wfSl Jd)) E) (U:(wfSl JB) G):∃ k,Y5 k H E G=some true:=by
 refine Ev.ex (f:=fun k=>Y5 k H E G) ?_;have Z:E.length≤9223372036854775807:=Nat.le_trans w1.1 (by decide);have b3:∀ q∈E,q.length≤9223372036854775807:=fun q hq=>Nat.le_trans (w1.2 q hq).1 (by decide);have b2:G.length≤9223372036854775807:=Nat.le_trans U.1 (by decide);have b4:∀ e∈G,e.Answer.Pairs.length≤9223372036854775807:=fun e K=>Nat.le_trans (U.2 e K).2.2.2.2.2.2.1 (by decide);obtain ⟨x,hx,W⟩:=QBV E G Z b3 b2 b4;unfold Y5;refine hx.bind ?_
 cases x with
 | true=>exact Ev.pos rfl (JA.bind (Ev.pure _))
 | false =>
 obtain ⟨l1,l2⟩:=W rfl;have ha:∀ e∈G,e.Answer.Pairs.length≤100000∧0≤e.What∧e.What≤255:=fun e K=>⟨by have:=l2 e K;omega,by have:=(U.2 e K).1;simp only [wfInt,Lit.wf,Bool.and_eq_true,decide_eq_true_eq] at this;exact this⟩;obtain ⟨v,v1,v2⟩:=QAA H E G (by omega) ha;refine Ev.neg (by simp) (Ev.bind v1 (Ev.bind v2 ?_));have m1:=Ku H E;have m2:=V8 H E;have Y:Ev (fun k=>Zz k [] []) true:=QAJ [] (by simp) (fun d hd=>by cases hd)
 cases h:mayP H E with
 | false =>
  rw [h] at m1 m2;have ho:Ev (fun k=>Yy k H E G) (.inl ()):=Ev.bind (QBl h) (Ev.pure _);have O:Ev (fun k=>X0 k H E G) (.inl ()):=Ev.bind ho (Ev.pure _);have hA:Ev (fun k=>Xk k H E G) []:=Ev.bind ho (Ev.pure _);have hB:Ev (fun k=>YK k H E G) []:=Ev.bind m2 (Ev.bind (v:=true) (Ev.pos rfl (Ev.pure _)) (Ev.pos rfl (Ev.pure _)));refine Ev.bind O (Ev.bind (qK h) (Ev.bind (v:=false) (Ev.neg (by simp) (Ev.bind m1 (Ev.bind m2 (Ev.pure _)))) ?_));exact Ev.bind (v:=false) (Ev.neg (by simp) (Ev.bind hA (Ev.bind hB (Ev.bind Y (Ev.pure _))))) (Ev.neg (by simp) (JA.bind (Ev.pure _)))
 | true =>
  rw [h] at m1 m2;obtain ⟨hm,hp,x0,R,⟨h1,h2,V⟩,hb⟩:=Jo h;have hof:=of_ev (x:=coreOf x0) hm hp (l:=G) (by omega) (fun z hz=>by have:=ha z hz;omega) V;rcases QAr hb R hp (by omega:G.length≤1000) (fun e K=>(ha e K).1) with ⟨hn,ho⟩ | ⟨y,Ry,hy,ho⟩
  ·have O:Ev (fun k=>X0 k H E G) (.inr (.inl ())):=Ev.bind ho (Ev.pure _);have hA:Ev (fun k=>Xk k H E G) []:=Ev.bind ho (Ev.pure _);rw [hn] at hof;have hB:Ev (fun k=>YK k H E G) []:=Ev.bind m2 (Ev.bind (v:=true) (Ev.neg (by simp) (Ev.bind hof (Ev.pure _))) (Ev.pos rfl (Ev.pure _)));refine Ev.bind O (Ev.bind (KQ h V (by omega) ha hn) (Ev.bind (v:=false) (Ev.neg (by simp) (Ev.bind m1 (Ev.bind m2 (Ev.pure _)))) ?_));exact Ev.bind (v:=false) (Ev.neg (by simp) (Ev.bind hA (Ev.bind hB (Ev.bind Y (Ev.pure _))))) (Ev.neg (by simp) (JA.bind (Ev.pure _)))
  ·obtain ⟨D,m,g1,g2,B⟩:=Kq h R h1 h2 V (by omega) ha hy;have O:Ev (fun k=>X0 k H E G) (.inr (.inr y.m)):=Ev.bind ho (Ev.pure _);have hA:Ev (fun k=>Xk k H E G) y.done:=Ev.bind ho (Ev.pure _);have hD:D=y.done.map toR:=B.eq;subst hD;rw [hy] at hof;have hB:Ev (fun k=>YK k H E G) (y.done.map toR):=Ev.bind m2 (Ev.bind (v:=false) (Ev.neg (by simp) (Ev.bind hof (Ev.pure _))) (Ev.neg (by simp) (Ev.bind g1 (Ev.pure _))));have I:=Ry.iv;have R':Rel y.m m:=B.rl;have hdl:=Ry.dl;have hll:=R'.llen I;have hkl:=UL y.m;have hrl:=I.rl;have ht:=QAJ y.done (by omega) (fun d hd=>by have:=(Ry.dn d hd).2;omega);have hkey:Ev (fun k=>Zc k y.m) (keysS y.m):=⟨0,fun k _=>K5 I (by omega) k⟩;have hlike:=R'.like_l0 I (by omega) m.L.length 0 (by omega);refine Ev.bind O (Ev.bind g2 (Ev.bind (v:=false) (Ev.neg (by simp) (Ev.bind m1 (Ev.bind m2 (Ev.pure _)))) ?_));refine Ev.bind (v:=false) (Ev.neg (by simp) (Ev.bind hA (Ev.bind hB (Ev.bind ht (Ev.pure _))))) (Ev.neg (by simp) (Ev.bind hkey ?_));refine Ev.bind (v:=false) (Ev.neg (by simp;omega) (Ev.bind (v:=y.m.clock) ⟨0,fun k _=>rfl⟩ ((Ev.pure _).eq (by rw [R'.ti];simp)))) ?_;refine Ev.bind (v:=false) (Ev.neg (by simp) (Ev.bind (Ret_ev I (by omega)) (Ev.bind (R'.ret_ev I (by omega)) ((Ev.pure _).eq (by simp))))) (Ev.neg (by simp) (Ev.bind hlike (JA.bind (Ev.pure _))))
end Go.Proofs.YtnjbjpaiepefoaaGreatDoor
