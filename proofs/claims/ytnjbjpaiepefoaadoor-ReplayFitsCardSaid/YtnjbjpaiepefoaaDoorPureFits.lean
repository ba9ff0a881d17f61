import Derived.Test.YtnjbjpaiepefoaaDoorPureRun28
namespace Go.Proofs.YtnjbjpaiepefoaaDoor
open Go Go.RowKit
set_option linter.unusedVariables false
set_option linter.unusedSimpArgs false
set_option maxRecDepth 100000
abbrev Evs:=List QA
def markL:Evs→Evs
 | []=>[]
 | e::t=>if e.What=3 then ⟨2,e.Task,e.Call,ans 0⟩::e::markL t else e::markL t
theorem JR:∀ l:Evs,(markL l).length≤2*l.length
 | []=>by simp [markL]
 | e::t=>by have:=JR t;unfold markL;split<;>simp<;>omega
theorem Ut {P:QA→Prop}:∀ l:Evs,(∀ e∈l,P e)→(∀ e∈l,P ⟨2,e.Task,e.Call,ans 0⟩)→∀ e∈markL l,P e
 | [],_,_,e,h=>by cases h
 | x::t,B,E,e,h=>by
  have ih:=Ut t (fun e h=>B e (List.mem_cons_of_mem _ h)) (fun e h=>E e (List.mem_cons_of_mem _ h)) e;unfold markL at h
  split at h
  ·rcases List.mem_cons.1 h with rfl | h
   ·exact E x List.mem_cons_self
   ·rcases List.mem_cons.1 h with rfl | h
    ·exact B _ List.mem_cons_self
    ·exact ih h
  ·rcases List.mem_cons.1 h with rfl | h
   ·exact B _ List.mem_cons_self
   ·exact ih h
theorem K5 (l:Evs) (hl:l.length≤1000):∀ (j i:Nat) (out:Evs),i+j=l.length→out.length+2*j≤100000→∀ k,j<k→Xm l k out (i:Int)=some (out++markL (l.drop i)):=by
 intro j
 induction j with
 | zero =>
  intro i out hi ho k hk;obtain ⟨k,rfl⟩:∃ q,k=q+1:=⟨k-1,by omega⟩;rw [Xm.eq_2,if_neg (by simp;omega),List.drop_of_length_le (by omega)];simp [markL]
 | succ j ih =>
  intro i out hi ho k hk;obtain ⟨k,rfl⟩:∃ q,k=q+1:=⟨k-1,by omega⟩;have hlt:i<l.length:=by omega
  rw [Xm.eq_2,if_pos (by simpa using hlt),if_pos (inR hlt),rdN hlt,List.drop_eq_getElem_cons hlt,markL]
  by_cases h:l[i].What=3
  ·rw [if_pos (by simpa using h),if_pos (by simp;omega),Option.bind_some,if_pos (by simp;omega),wr1 (by omega),ih (i+1) _ (by omega) (by simp;omega) k (by omega),if_pos h];simp [ans]
  ·rw [if_neg (by simpa using h),Option.bind_some,if_pos (by simp;omega),wr1 (by omega),ih (i+1) _ (by omega) (by simp;omega) k (by omega),if_neg h];simp
theorem Ke (l:Evs) (hl:l.length≤1000):Ev (fun k=>VC k l) (markL l):=by
 refine ⟨l.length+1,fun k hk=>?_⟩;have h:Xm l k [] (0:Int)=some ([]++markL (l.drop 0)):=K5 l hl l.length 0 [] (by omega) (by simp;omega) k (by omega);show VC k l=_;unfold VC;rw [h];rfl
theorem KZ (l:Evs) (hl:l.length≤1000) (hN:∀ e∈l,e.What≠2):Ev (fun k=>Qo k l) false:=by
 have h:∀ j i:Nat,i+j=l.length→∀ k,j<k→Qh l k (i:Int)=some (.inr ()):=by
  intro j
  induction j with
  | zero =>
   intro i hi k hk;obtain ⟨k,rfl⟩:∃ q,k=q+1:=⟨k-1,by omega⟩;rw [Qh.eq_2,if_neg (by simp;omega)]
  | succ j ih =>
   intro i hi k hk;obtain ⟨k,rfl⟩:∃ q,k=q+1:=⟨k-1,by omega⟩;have hlt:i<l.length:=by omega
   rw [Qh.eq_2,if_pos (by simpa using hlt),if_pos (inR hlt),rdN hlt,X6,Option.bind_some,if_neg (by simpa using hN _ (List.getElem_mem hlt)),wr1 (by omega)];exact ih (i+1) (by omega) k (by omega)
 refine ⟨l.length+1,fun k hk=>?_⟩;have h0:Qh l k (0:Int)=some (.inr ()):=h l.length 0 (by omega) k (by omega);show Qo k l=_;unfold Qo Q6;rw [h0];rfl
def isRet (t c:Int) (e:QA):Bool:=(e.What==3&&e.Task==t)&&e.Call==c
def retAns (l:Evs) (t c:Int):Option Qc:=(l.find? (isRet t c)).map (·.Answer)
def ansv:Option Qc→Qc×Bool
 | some a=>(a,true)
 | none=>(ans 0,false)
theorem QAt (l:Evs) (hl:l.length≤1000) (t c:Int):∀ j i:Nat,i+j=l.length→∃ v,(∀ k,j<k→Qk l t c k (i:Int)=some v) ∧
  (v=.inr ()∧retAns (l.drop i) t c=none∨∃ n:Nat,∃ h:n<l.length,v=.inl (n:Int)∧retAns (l.drop i) t c=some l[n].Answer):=by
 intro j
 induction j with
 | zero =>
  intro i hi;refine ⟨.inr (),fun k hk=>?_,.inl ⟨rfl,by rw [List.drop_of_length_le (by omega)];rfl⟩⟩;obtain ⟨k,rfl⟩:∃ q,k=q+1:=⟨k-1,by omega⟩;rw [Qk.eq_2,if_neg (by simp;omega)]
 | succ j ih =>
  intro i hi;have hlt:i<l.length:=by omega
  obtain ⟨v,B,E⟩:=ih (i+1) (by omega)
  have go:∀ k,Qk l t c (k+1) (i:Int)=if isRet t c l[i]=true then some (.inl (i:Int)) else Qk l t c k ((i+1:Nat):Int):=fun k=>by
   rw [Qk.eq_2,if_pos (by simpa using hlt),if_pos (inR hlt),rdN hlt,wr1 (by omega)];rfl
  by_cases hc:isRet t c l[i]=true
  ·refine ⟨.inl (i:Int),fun k hk=>?_,.inr ⟨i,hlt,rfl,?_⟩⟩
   ·obtain ⟨k,rfl⟩:∃ q,k=q+1:=⟨k-1,by omega⟩;rw [go,if_pos hc]
   ·rw [List.drop_eq_getElem_cons hlt,retAns,List.find?_cons_of_pos hc];rfl
  ·refine ⟨v,fun k hk=>?_,?_⟩
   ·obtain ⟨k,rfl⟩:∃ q,k=q+1:=⟨k-1,by omega⟩;rw [go,if_neg hc];exact B k (by omega)
   ·have e:retAns (l.drop i) t c=retAns (l.drop (i+1)) t c:=by
     rw [List.drop_eq_getElem_cons hlt,retAns,List.find?_cons_of_neg hc];rfl
    rw [e];exact E
theorem QBK (l:Evs) (hl:l.length≤1000) (t c:Int):Ev (fun k=>VD k t c l) (ansv (retAns l t c)):=by
 obtain ⟨v,E,B⟩:=QAt l hl t c l.length 0 (by omega);rw [List.drop_zero] at B;refine ⟨l.length+1,fun k hk=>?_⟩;have h0:Qk l t c k (0:Int)=some v:=E k (by omega);show VD k t c l=_;unfold VD ZC;rw [h0];rcases B with ⟨rfl,g⟩ | ⟨n,hn,rfl,g⟩
 ·rw [g];rfl
 ·rw [g,Option.bind_some];show Option.bind (some (n:Int)) _=_;rw [Option.bind_some,if_neg (by simp),if_pos (inR hn),rdN hn];rfl
theorem QC2 {n:Nat} {m:Mod} (I:Inv n m) (hn:n≤1000000) (k:Nat):Y8 k m=some m:=by
 have:=I.tl;simp only [Y8,YH];rw [if_pos (by simp;omega)];rfl
theorem QBG {T:Int} (h:1≤T) (B:T≤6):Ev (fun k=>Y1 k [(-1:Int)] T) (List.replicate T.toNat (-1)):=by
 have:T=1∨T=2∨T=3∨T=4∨T=5∨T=6:=by omega
 rcases this with rfl | rfl | rfl | rfl | rfl | rfl<;>exact ⟨20,fun k hk=>OLe.up (f:=fun k=>Y1 k [(-1:Int)] _) (fun k=>Y1.mono) hk _ (by decide +kernel)⟩
def cond (p:Progs) (A:Int→Int→Option Qc) (O:List Int) (m:Mod) (t:Nat):Prop :=
 0≤rd O (t:Int)∧∀ a,A (t:Int) (rd O (t:Int))=some a→(doS m (t:Int) (rd (rd p (t:Int)) (rd O (t:Int)))).1=a
abbrev next (p:Progs) (O:List Int) (m:Mod) (t:Nat):Mod:=(doS m (t:Int) (rd (rd p (t:Int)) (rd O (t:Int)))).2
inductive FF (p:Progs) (A:Int→Int→Option Qc):Evs→List Int→Mod→Prop
 | nil {O m}:FF p A [] O m
 | inv {e l O m} (w:e.What=1) (h:FF p A l (O.set e.Task.toNat e.Call) m):FF p A (e::l) O m
 | skip {e l O m} (w:e.What≠1) (q:rd O e.Task≠e.Call) (h:FF p A l O m):FF p A (e::l) O m
 | mark {e l O m} (w:e.What≠1) (q:rd O e.Task=e.Call) (t:Nat) (ht:t<O.length) (hc:cond p A O m t) (h:FF p A (e::l) (O.set t (-1)) (next p O m t)):FF p A (e::l) O m
def okO (T:Nat) (p:Progs) (O:List Int):Prop:=O.length=T∧∀ t:Nat,t<T→0≤rd O (t:Int)→okCall p (t:Int) (rd O (t:Int))
theorem q4 {O:List Int} {n t:Nat} {c:Int} (ht:t<O.length):rd (O.set n c) (t:Int)=if n=t then c else rd O (t:Int):=by
 rw [rdN (by rw [List.length_set];exact ht),List.getElem_set,rdN ht]
theorem okO.set {T:Nat} {p:Progs} {O:List Int} (h:okO T p O) {n:Nat} {c:Int} (hc:0≤c→okCall p (n:Int) c):okO T p (O.set n c):=by
 refine ⟨by rw [List.length_set];exact h.1,fun t ht h0=>?_⟩;rw [q4 (by rw [h.1];exact ht)] at h0 ⊢
 by_cases q:n=t
 ·subst q;rw [if_pos rfl] at h0 ⊢;exact hc h0
 ·rw [if_neg q] at h0 ⊢;exact h.2 t ht h0
def cnt (O:List Int):Nat:=O.countP fun c=>decide (0≤c)
theorem QAg:∀ (O:List Int) (n:Nat) (c:Int),cnt (O.set n c)≤cnt O+1
 | [],n,c=>by simp [cnt]
 | x::O,0,c=>by simp only [cnt,List.set_cons_zero,List.countP_cons];split<;>split<;>omega
 | x::O,n+1,c=>by have:=QAg O n c;simp only [cnt,List.set_cons_succ,List.countP_cons] at this ⊢;omega
theorem QAh:∀ (O:List Int) (n:Nat) (h:n<O.length),0≤O[n]→cnt (O.set n (-1))+1=cnt O
 | [],n,h,_=>by simp at h
 | x::O,0,h,h0=>by have h0:0≤x:=h0;simp [cnt,List.countP_cons,h0]
 | x::O,n+1,h,h0=>by have:=QAh O n (by simpa using h) (by simpa using h0);simp only [cnt,List.set_cons_succ,List.countP_cons] at this ⊢;omega
theorem QBU (o:Option Qc) (x:Qc) (hx:x.Pairs.length≤1000000):∃ q:Bool,Ev (fun k=>if (ansv o).2=true then Option.bind (Xt k x (ansv o).1) (fun t=>some (!t)) else some false) q∧(q=false↔∀ a,o=some a→x=a):=by
 cases o with
 | none=>exact ⟨false,Ev.neg (by simp [ansv]) (Ev.pure _),by simp⟩
 | some a=>exact ⟨!decide (x=a),Ev.pos rfl ((JC x a hx).bind (Ev.pure _)),by simp⟩
theorem QCc {p:Progs} {L:Evs} {T i:Nat} (hT:T≤1000) (hl:L.length≤1000) (at_:Int) {O:List Int} {m:Mod} (hO:okO T p O) (I:Inv i m) (hi:i≤5000) (B:Nat→Bool):∀ j n:Nat,n+j=T→∃ v K,(∀ k,K≤k→∀ rec:Int→List Int→Mod→Evs→Progs→Option Bool,
   (∀ t:Nat,t<T→cond p (retAns L) O m t→rec at_ (O.set t (-1)) (next p O m t) L p=some (B t))→Qp at_ O m L p rec k (n:Int)=some v) ∧
  (v=.inl true∧(∃ t,n≤t∧t<T∧cond p (retAns L) O m t∧B t=true)∨v=.inr ()∧¬ ∃ t,n≤t∧t<T∧cond p (retAns L) O m t∧B t=true):=by
 intro j
 induction j with
 | zero =>
  intro n hn;refine ⟨.inr (),1,fun k hk rec hr=>?_,.inr ⟨rfl,fun ⟨t,E,W,_⟩=>by omega⟩⟩;obtain ⟨k,rfl⟩:∃ q,k=q+1:=⟨k-1,by omega⟩;have:=hO.1;rw [Qp.eq_2,if_neg (by simp;omega)]
 | succ j ih =>
  intro n hn;obtain ⟨v,K,h,hv⟩:=ih (n+1) (by omega);have hnT:n<T:=by omega
  have hlen:=hO.1;have hlt:n<O.length:=by omega
  have on:(¬ (cond p (retAns L) O m n∧B n=true))→(v=.inl true∧(∃ t,n≤t∧t<T∧cond p (retAns L) O m t∧B t=true)∨v=.inr ()∧¬ ∃ t,n≤t∧t<T∧cond p (retAns L) O m t∧B t=true):=fun hno=>by
   rcases hv with ⟨E,t,W,h3⟩ | ⟨E,W⟩
   ·exact .inl ⟨E,t,by omega,h3⟩
   ·refine .inr ⟨E,fun ⟨t,a1,a2,Z⟩=>?_⟩
    by_cases q:t=n
    ·subst q;exact hno Z
    ·exact W ⟨t,by omega,a2,Z⟩
  by_cases h0:rd O (n:Int)<0
  ·refine ⟨v,K+1,fun k hk rec hr=>?_,on fun g=>by have:=g.1.1;omega⟩;obtain ⟨k,rfl⟩:∃ q,k=q+1:=⟨k-1,by omega⟩;rw [Qp.eq_2,if_pos (by simpa using hlt),if_pos (inR hlt),if_pos (by simpa using h0),wr1 (by omega)];exact h k (by omega) rec hr
  ·obtain ⟨c1,c2,c3,c4⟩:=hO.2 n hnT (by omega);obtain ⟨H,hD⟩:=do_ev I (by omega) (n:Int) (rd (rd p (n:Int)) (rd O (n:Int)));obtain ⟨U,hF⟩:=QBK L hl (n:Int) (rd O (n:Int));have hpr:=Kh I (n:Int) (rd (rd p (n:Int)) (rd O (n:Int)));obtain ⟨q,⟨V,hS⟩,hq⟩:=QBU (retAns L (n:Int) (rd O (n:Int))) (doS m (n:Int) (rd (rd p (n:Int)) (rd O (n:Int)))).1 (by omega);have hcl:∀ k,YO k O=some O:=fun k=>by simp only [YO];rw [if_pos (by simp;omega)];rfl
   dsimp only at hD hF hS
   have go:∀ k,H+U+V≤k→∀ rec,Qp at_ O m L p rec (k+1) (n:Int)=if q=true then Qp at_ O m L p rec k ((n+1:Nat):Int) else
     Option.bind (rec at_ (O.set n (-1)) (next p O m n) L p) (fun Y=>(if Y=true then some (.inl true) else Qp at_ O m L p rec k ((n+1:Nat):Int))):=fun k hk rec=>by
    rw [Qp.eq_2,if_pos (by simpa using hlt),if_pos (inR hlt),if_neg (by simpa using h0),wr1 (by omega),QC2 I (by omega),Option.bind_some,if_pos ⟨c1,c2⟩,if_pos ⟨c3,c4⟩,hD k (by omega),Option.bind_some,hF k (by omega),Option.bind_some];rw [hS k (by omega),Option.bind_some]
    cases q
    ·rw [if_neg (by simp),if_neg (by simp),hcl k,Option.bind_some,if_pos (inR hlt),Option.bind_some]
     rfl
    ·rfl
   by_cases hc:cond p (retAns L) O m n
   ·have hqf:q=false:=hq.2 hc.2;subst hqf
    cases hB:B n with
    | true =>
     refine ⟨.inl true,H+U+V+1,fun k hk rec hr=>?_,.inl ⟨rfl,n,Nat.le_refl _,hnT,hc,hB⟩⟩;obtain ⟨k,rfl⟩:∃ q,k=q+1:=⟨k-1,by omega⟩;rw [go k (by omega) rec,if_neg (by simp),hr n hnT hc,hB];rfl
    | false =>
     refine ⟨v,K+H+U+V+1,fun k hk rec hr=>?_,on fun g=>by rw [hB] at g;cases g.2⟩;obtain ⟨k,rfl⟩:∃ q,k=q+1:=⟨k-1,by omega⟩;rw [go k (by omega) rec,if_neg (by simp),hr n hnT hc,hB];exact h k (by omega) rec hr
   ·have hqt:q=true:=by
     cases q
     ·exact absurd ⟨by omega,hq.1 rfl⟩ hc
     ·rfl
    subst hqt;refine ⟨v,K+H+U+V+1,fun k hk rec hr=>?_,on fun g=>hc g.1⟩;obtain ⟨k,rfl⟩:∃ q,k=q+1:=⟨k-1,by omega⟩;rw [go k (by omega) rec,if_pos rfl];exact h k (by omega) rec hr
theorem bdd (K:Nat→Nat):∀ T:Nat,∃ M,∀ t,t<T→K t≤M
 | 0=>⟨0,fun t h=>by omega⟩
 | T+1=>by
  obtain ⟨M,h⟩:=bdd K T;refine ⟨M+K T,fun t ht=>?_⟩
  by_cases q:t=T
  ·subst q;omega
  ·have:=h t (by omega);omega
theorem try_ev {p:Progs} {L:Evs} {T:Nat} (hT:T≤1000) (hl:L.length≤1000) (hE:∀ e∈L,0≤e.Task∧e.Task<(T:Int)∧okCall p e.Task e.Call):∀ (n j:Nat) (O:List Int) (m:Mod) (i:Nat),2*(L.length-j)+cnt O≤n→j≤L.length→okO T p O→Inv i m→i+n≤5000 →
  ∃ b K,(∀ k r,K≤k→K≤r→ZF k r (j:Int) O m L p=some b)∧(b=true↔FF p (retAns L) (L.drop j) O m):=by
 intro n
 induction n with
 | zero =>
  intro j O m i hn hj hO I hi;refine ⟨true,1,fun k r hk hr=>?_,by rw [List.drop_of_length_le (by omega)];exact ⟨fun _=>.nil,fun _=>rfl⟩⟩;obtain ⟨r,rfl⟩:∃ q,r=q+1:=⟨r-1,by omega⟩;show Qv k _ (j:Int) O m L p=_;unfold Qv;rw [if_pos (by simp;omega)]
 | succ n ih =>
  intro j O m i hn hj hO I hi
  by_cases hjl:j=L.length
  ·refine ⟨true,1,fun k r hk hr=>?_,by rw [List.drop_of_length_le (by omega)];exact ⟨fun _=>.nil,fun _=>rfl⟩⟩;obtain ⟨r,rfl⟩:∃ q,r=q+1:=⟨r-1,by omega⟩;show Qv k _ (j:Int) O m L p=_;unfold Qv;rw [if_pos (by simp;omega)]
  have hlt:j<L.length:=by omega
  obtain ⟨V,Y,hok⟩:=hE _ (List.getElem_mem hlt);have hlen:=hO.1;have htl:0≤L[j].Task∧L[j].Task<(O.length:Int):=⟨V,by omega⟩;rw [List.drop_eq_getElem_cons hlt];have hcl:∀ k,YO k O=some O:=fun k=>by simp only [YO];rw [if_pos (by simp;omega)];rfl
  have go:∀ k rec,Qv k rec (j:Int) O m L p=if L[j].What=1 then (rec ((j+1:Nat):Int) (O.set L[j].Task.toNat L[j].Call) m L p) else if rd O L[j].Task≠L[j].Call then rec ((j+1:Nat):Int) O m L p else (Option.bind (Qp (j:Int) O m L p rec k (0:Int)) (fun E=>Sum.elim (fun r'=>some r') (fun _=>some false) E)):=fun k rec=>by
   unfold Qv;rw [if_neg (by simp;omega),if_pos (inR hlt),rdN hlt,wr1 (by omega),hcl,Option.bind_some,if_pos htl,Option.bind_some]
   by_cases w:L[j].What=1
   ·rw [if_pos (by simpa using w),if_pos w]
    cases rec ((j+1:Nat):Int) (O.set L[j].Task.toNat L[j].Call) m L p<;>rfl
   ·rw [if_neg (by simpa using w),if_neg w,if_pos htl]
    by_cases q:rd O L[j].Task=L[j].Call
    ·rw [if_neg (by simpa using q),if_neg (by simpa using q)]
    ·rw [if_pos (by simpa using q),if_pos q]
     cases rec ((j+1:Nat):Int) O m L p<;>rfl
  by_cases w:L[j].What=1
  ·obtain ⟨tn,htn⟩:=Int.eq_ofNat_of_zero_le V;have hc:=QAg O L[j].Task.toNat L[j].Call;obtain ⟨b,K,H,U⟩:=ih (j+1) (O.set L[j].Task.toNat L[j].Call) m i (by omega) (by omega) (hO.set fun _=>by rw [Int.toNat_of_nonneg V];exact hok) I (by omega);refine ⟨b,K+1,fun k r hk hr=>?_,U.trans ⟨.inv w,fun h=>?_⟩⟩
   ·obtain ⟨r,rfl⟩:∃ q,r=q+1:=⟨r-1,by omega⟩;show Qv k _ (j:Int) O m L p=_;rw [go,if_pos w];exact H k r (by omega) (by omega)
   ·cases h with
    | inv _ h=>exact h
    | skip w'=>exact absurd w w'
    | mark w'=>exact absurd w w'
  by_cases q:rd O L[j].Task=L[j].Call
  ·
   have one:∀ t:Nat,∃ b K,t<T→cond p (retAns L) O m t→(∀ k r,K≤k→K≤r→ZF k r (j:Int) (O.set t (-1)) (next p O m t) L p=some b)∧(b=true↔FF p (retAns L) (L.drop j) (O.set t (-1)) (next p O m t)):=fun t=>by
    by_cases ht:t<T
    ·by_cases hc:cond p (retAns L) O m t
     ·have h0:0≤O[t]:=by have:=hc.1;rw [rdN (by omega)] at this;exact this
      have:=QAh O t (by omega) h0;obtain ⟨b,K,h⟩:=ih j (O.set t (-1)) (next p O m t) (i+1) (by omega) hj (hO.set fun h=>absurd h (by decide)) (I.do_ _ _) (by omega);exact ⟨b,K,fun _ _=>h⟩
     ·exact ⟨true,0,fun _ h=>absurd h hc⟩
    ·exact ⟨true,0,fun h=>absurd h ht⟩
   obtain ⟨B,hB⟩:=Classical.axiomOfChoice one;obtain ⟨Kff,hK⟩:=Classical.axiomOfChoice hB;obtain ⟨M,W⟩:=bdd Kff T;obtain ⟨v,K,H,U⟩:=QCc hT hl (j:Int) hO I (by omega) B T 0 (by omega)
   have fin:∀ k r,M+K+1≤k→M+K+1≤r→ZF k r (j:Int) O m L p=Option.bind (some v) (fun E=>Sum.elim (fun r'=>some r') (fun _=>some false) E):=fun k r hk hr=>by
    obtain ⟨r,rfl⟩:∃ q,r=q+1:=⟨r-1,by omega⟩;show Qv k _ (j:Int) O m L p=_;rw [go,if_neg w,if_neg (by simpa using q)];have:=H k (by omega) (ZF k r) (fun t ht hc=>by have:=W t ht;exact (hK t ht hc).1 k r (by omega) (by omega));have h0:Qp (j:Int) O m L p (ZF k r) k (0:Int)=some v:=this;rw [h0]
   have iff:FF p (retAns L) (L[j]::L.drop (j+1)) O m↔∃ t,0≤t∧t<T∧cond p (retAns L) O m t∧B t=true:=by
    constructor
    ·intro h
     cases h with
     | inv w'=>exact absurd w' w
     | skip _ q'=>exact absurd q q'
     | mark _ _ t ht hc h=>exact ⟨t,Nat.zero_le _,by omega,hc,(hK t (by omega) hc).2.2 (by rw [List.drop_eq_getElem_cons hlt];exact h)⟩
    ·rintro ⟨t,_,ht,hc,hb⟩;have h:=(hK t ht hc).2.1 hb;rw [List.drop_eq_getElem_cons hlt] at h;exact .mark w q t (by omega) hc h
   rcases U with ⟨rfl,g⟩ | ⟨rfl,g⟩
   ·exact ⟨true,M+K+1,fun k r hk hr=>fin k r hk hr,⟨fun _=>iff.2 g,fun _=>rfl⟩⟩
   ·exact ⟨false,M+K+1,fun k r hk hr=>fin k r hk hr,⟨fun h=>(by cases h),fun h=>absurd (iff.1 h) g⟩⟩
  ·obtain ⟨b,K,H,U⟩:=ih (j+1) O m i (by omega) (by omega) hO I (by omega);refine ⟨b,K+1,fun k r hk hr=>?_,U.trans ⟨.skip w q,fun h=>?_⟩⟩
   ·obtain ⟨r,rfl⟩:∃ q,r=q+1:=⟨r-1,by omega⟩;show Qv k _ (j:Int) O m L p=_;rw [go,if_neg w,if_pos q];exact H k r (by omega) (by omega)
   ·cases h with
    | inv w'=>exact absurd w' w
    | skip _ _ h=>exact h
    | mark _ q'=>exact absurd q' q
theorem QCn (T:Nat):cnt (List.replicate T (-1))=0:=by
 induction T with
 | zero=>rfl
 | succ n ih=>simp only [cnt,List.replicate_succ,List.countP_cons] at ih ⊢;rw [ih];rfl
theorem QC1 {c:Qa} {p:Progs} {L:Evs} {x0:Run} (hm:mayB c=true) (hb:Ev (fun k=>ZY k c p) (.inr (.inl x0))) (R:RI c.Tasks.toNat p 0 x0) (hp:p.length≤c.Tasks.toNat) (hl:L.length≤24) (hA:∀ e∈L,e.Answer.Pairs.length≤100000)
  (hN:∀ e∈L,e.What≠2) (hE:∀ e∈L,okCall p e.Task e.Call) {y:Core} (hov:overC p (markL L) 0 (coreOf x0)=some y) :
  ∃ b,Ev (fun k=>Xx k c p L) (b,0)∧(b=true↔FF p (retAns L) L (List.replicate c.Tasks.toNat (-1)) (newS c)):=by
 have B:=hm;simp only [mayB,Bool.and_eq_true,decide_eq_true_eq] at B;have hT:1≤c.Tasks∧c.Tasks≤6:=by omega
 have hlm:=JR L;have hAm:=Ut (P:=fun e=>e.Answer.Pairs.length≤100000) L hA (fun e _=>by simp [ans]);have hr:=QCn c.Tasks.toNat;obtain ⟨b,K,H,E⟩:=try_ev (p:=p) (L:=L) (T:=c.Tasks.toNat) (by omega) (by omega) (fun e U=>by have:=hE e U;exact ⟨this.1,by have:=this.2.1;omega,this⟩) (2*L.length) 0 (List.replicate c.Tasks.toNat (-1)) (newS c) 0 (by omega) (by omega) ⟨by simp,fun t ht h0=>by rw [rdN (by simpa using ht)] at h0;simp at h0⟩ (Inv.new c) (by omega);rw [List.drop_zero] at E;refine ⟨b,?_,E⟩
 have hov':∃ y',Ev (fun k=>X7 k c p (markL L)) (.inr (.inr y')):=by
  rcases KW hb R hp (L:=markL L) (by omega) hAm with ⟨h,_⟩ | ⟨y',_,_,h⟩
  ·rw [hov] at h;cases h
  ·exact ⟨y',h⟩
 obtain ⟨y',hy⟩:=hov';have hnew:Ev (fun k=>Xa k c) (.inr (newS c)):=⟨9,fun k hk=>by show Xa k c=_;rw [QCC k hk c,hm];rfl⟩;have htry:Ev (fun k=>YU k (0:Int) (List.replicate c.Tasks.toNat (-1)) (newS c) L p) b:=⟨K,fun k hk=>H k k hk hk⟩;unfold Xx;exact hb.bind (Ev.neg (by simp;omega) ((KZ L (by omega) hN).bind (Ev.neg (by simp) ((Ke L (by omega)).bind (hy.bind (hnew.bind ((QBG hT.1 hT.2).bind (htry.bind (Ev.pure _)))))))))
end Go.Proofs.YtnjbjpaiepefoaaDoor
