import Derived.Test.YtnjbjpaiepefoaaGreatDoorPureOver
namespace Go.Proofs.YtnjbjpaiepefoaaGreatDoor
open Go Go.RowKit
set_option linter.unusedVariables false
set_option linter.unusedSimpArgs false
set_option maxRecDepth 100000
abbrev Progs:=List (List QZ)
def okCall (p:Progs) (t c:Int):Prop:=0≤t∧t<(p.length:Int)∧0≤c∧c<((rd p t).length:Int)
instance (p:Progs) (t c:Int):Decidable (okCall p t c):=by unfold okCall;exact inferInstance
structure Core where
 done:List Qw
 last:List Int
 tasks:List Yh
 m:Mod
def coreOf (x:Run):Core:=⟨x.done,x.last,x.r.tasks,x.m⟩
def goodE (p:Progs) (e:QB):Prop:=okCall p e.Task e.Call∧1≤e.What∧e.What≤3∧(e.What≠3→e.Answer=ans 0)
instance (p:Progs) (e:QB):Decidable (goodE p e):=by unfold goodE;exact inferInstance
def isAt (x:Core) (e:QB):Prop:=(rd x.tasks e.Task).at_=e.What-1∧(rd x.tasks e.Task).calls=e.Call
instance (x:Core) (e:QB):Decidable (isAt x e):=by unfold isAt;exact inferInstance
def setT (x:Core) (e:QB):List Yh:=x.tasks.set e.Task.toNat (nextT (rd x.tasks e.Task) (e.What-1))
def goS (p:Progs) (x:Core) (at_:Int) (e:QB):Core :=
 if e.What=1 then { x with tasks:=setT x e }
 else if e.What=2 then ⟨x.done++[⟨e.Task,e.Call,(doS x.m e.Task (rd (rd p e.Task) e.Call)).1,at_,-1⟩],x.last.set e.Task.toNat (x.done.length:Int),setT x e,(doS x.m e.Task (rd (rd p e.Task) e.Call)).2⟩
 else ⟨x.done.set (rd x.last e.Task).toNat ⟨(rd x.done (rd x.last e.Task)).Task,(rd x.done (rd x.last e.Task)).Call,(rd x.done (rd x.last e.Task)).Answer,(rd x.done (rd x.last e.Task)).Mark,at_⟩,x.last,setT x e,x.m⟩
def outS (x:Core) (e:QB):Int:=if e.What=3∧(rd x.done (rd x.last e.Task)).Answer≠e.Answer then 7 else 0
structure RI (T:Nat) (p:Progs) (i:Nat) (x:Run):Prop where
 pr:x.programs=p
 rc:RecOk T i x.r
 la:x.last.length=T
 iv:Inv i x.m
 dl:x.done.length≤i
 dn:∀ d∈x.done,okCall p d.Task d.Call∧d.Answer.Pairs.length≤i
 ls:∀ u:Nat,u<T→(rd x.r.tasks (u:Int)).at_=2→0≤rd x.last (u:Int)∧rd x.last (u:Int)<(x.done.length:Int)
theorem QCX (x:Run) (e:QB) (k:Nat):Zn k x e=some (if okCall x.programs e.Task e.Call then (rd (rd x.programs e.Task) e.Call,true) else (⟨0,0,[],[],[],0,0⟩,false)):=by
 by_cases h:okCall x.programs e.Task e.Call
 ·rw [if_pos h];obtain ⟨G,H,K,O⟩:=h;unfold Zn;have B:¬ (((decide (e.Task<(0:Int))||decide (e.Task≥(x.programs.length:Int)))||decide (e.Call<(0:Int)))=true):=by simp;omega
  have E:decide (e.Call≥((rd x.programs e.Task).length:Int))=false:=by simp;omega
  rw [if_neg B,if_pos ⟨G,H⟩,E];simp only [Option.bind_some,Bool.false_eq_true,if_false];rw [if_pos ⟨G,H⟩,if_pos ⟨K,O⟩]
 ·rw [if_neg h];unfold Zn
  by_cases B:((decide (e.Task<(0:Int))||decide (e.Task≥(x.programs.length:Int)))||decide (e.Call<(0:Int)))=true
  ·rw [if_pos B];rfl
  ·rw [if_neg B];simp only [Bool.or_eq_true,decide_eq_true_eq,not_or] at B
   have E:decide (e.Call≥((rd x.programs e.Task).length:Int))=true:=by
    simp only [decide_eq_true_eq];exact Int.not_lt.1 fun g=>h ⟨by omega,by omega,by omega,g⟩
   rw [if_pos ⟨by omega,by omega⟩,E];rfl
theorem QB9 {T i:Nat} {p:Progs} {x:Run} (R:RI T p i x) {e:QB} (hI:isAt (coreOf x) e) (w:1≤e.What∧e.What≤3) (E:0≤e.Task) (G:e.Task<(T:Int)) (u:Nat) (hu:u<T) :
  (rd (setT (coreOf x) e) (u:Int)).at_=if (u:Int)=e.Task then (if e.What=3 then 0 else e.What) else (rd x.r.tasks (u:Int)).at_:=by
 have hl:=R.rc.len;obtain ⟨n,hn⟩:=Int.eq_ofNat_of_zero_le E;have H:=hI.1;unfold setT;rw [rdN (by show u<(List.set _ _ _).length;rw [List.length_set];show u<x.r.tasks.length;omega),List.getElem_set]
 by_cases q:(u:Int)=e.Task
 ·rw [if_pos q,if_pos (by omega)];unfold nextT
  by_cases B:e.What=3
  ·rw [if_pos (by omega),if_pos B]
  ·rw [if_neg (by omega),if_neg B];show e.What-1+1=e.What;omega
 ·rw [if_neg q,if_neg (by omega)];show (x.r.tasks[u]'(by omega)).at_=_;rw [rdN (by omega)]
theorem QAM {T:Nat} {p:Progs} {i:Nat} {x:Run} (R:RI T p i x) (hi:i≤10000) (hp:p.length≤T) (at_:Int) (e:QB) (he:e.Answer.Pairs.length≤100000) :
  (¬ (goodE p e∧isAt (coreOf x) e)→∃ x',Ev (fun k=>Qt k x at_ e) (4,x')) ∧
  (goodE p e∧isAt (coreOf x) e→∃ x',Ev (fun k=>Qt k x at_ e) (outS (coreOf x) e,x')∧coreOf x'=goS p (coreOf x) at_ e∧RI T p (i+1) x'):=by
 have R0:=R;obtain ⟨pr,rc,la,iv,dl,dn,ls⟩:=R;have hcall:=QCX x e;rw [pr] at hcall
 have hz:∀ b:Bool,Ev (fun k=>(if (((!b)||(decide (e.What<(1:Int))))||(decide (e.What>(3:Int))))=true then some (true) else (Option.bind (α:=Bool) (if (e.What != (3:Int))=true then (Option.bind (X7 k e.Answer (⟨(0:Int),false,([]:Str),([]:(List Qo))⟩:Qk)) (fun aj=>some ((!aj)))) else some (false)) (fun ak=>some (ak))))) (!(b&&decide (1≤e.What∧e.What≤3∧(e.What≠3→e.Answer=ans 0)))):=fun b=>by
  by_cases E:(((!b)||(decide (e.What<(1:Int))))||(decide (e.What>(3:Int))))=true
  ·refine (Ev.pos E (Ev.pure _)).eq ?_
   symm
   simp only [Bool.not_eq_true',Bool.and_eq_false_iff,decide_eq_false_iff_not];simp only [Bool.or_eq_true,Bool.not_eq_true',decide_eq_true_eq] at E;rcases E with (E | E) | E
   ·exact .inl E
   ·exact .inr (by omega)
   ·exact .inr (by omega)
  ·have c2:=E;simp only [Bool.or_eq_true,Bool.not_eq_true',decide_eq_true_eq,not_or] at c2;obtain ⟨⟨d1,Z⟩,d3⟩:=c2;have am:b=true:=by simpa using d1
   subst am
   by_cases c4:e.What=3
   ·refine (Ev.neg E (Ev.bind (v:=false) (Ev.neg (by simpa using c4) (Ev.pure _)) (Ev.pure _))).eq ?_;simp [c4]
   ·refine (Ev.neg E (Ev.bind (v:=!decide (e.Answer=ans 0)) (Ev.pos (by simpa using c4) ((qS e.Answer (ans 0) (by omega)).bind (Ev.pure _))) (Ev.pure _))).eq ?_;have d4:1≤e.What:=by omega
    have d5:e.What≤3:=by omega
    simp [c4,d4,d5]
 have h4:∀ x':Run,Ev (fun k=>Qt k x at_ e) (4,x')→∃ x',Ev (fun k=>Qt k x at_ e) (4,x'):=fun x' h=>⟨x',h⟩
 by_cases hg:goodE p e
 case neg =>
  refine ⟨fun _=>⟨x,?_⟩,fun h=>absurd h.1 hg⟩;unfold Qt;refine Ev.bind (Ev.all hcall) ?_
  by_cases ok:okCall p e.Task e.Call
  ·rw [if_pos ok];refine Ev.bind (hz true) (Ev.pos ?_ (Ev.pure _));simp only [Bool.true_and,Bool.not_eq_true',decide_eq_false_iff_not];exact fun h=>hg ⟨ok,h⟩
  ·rw [if_neg ok];exact Ev.bind (hz false) (Ev.pos (by simp) (Ev.pure _))
 obtain ⟨ok,w1,w3,w4⟩:=hg;have hg':goodE p e:=⟨ok,w1,w3,w4⟩;obtain ⟨W,t1,_,_⟩:=ok;have htT:e.Task<(T:Int):=by omega
 have hl:=rc.len;have hin:0≤e.Task∧e.Task<(x.r.tasks.length:Int):=⟨W,by omega⟩;obtain ⟨n,hn⟩:=Int.eq_ofNat_of_zero_le W;have hnT:n<T:=by omega
 have hat:=rc.at_ n (by omega);have hun:=KO rc e.Task;have c0:0≤e.What∧e.What<4:=by omega
 have rec_:∀ u:Int×Bool×Bool,((u.2.2=true→u.1=(rd x.r.tasks e.Task).calls)∧(u.2.2=true↔(rd x.r.tasks e.Task).at_≠0)) →
   ∃ ts ll,RecOk T (i+1) ⟨ts,ll⟩∧Ev (fun k=>(if ((e.What != (1:Int))&&((!u.2.2)||(u.1 != e.Call)))=true then some (true,x.r.tasks,x.r.l) else (if 0≤e.What∧e.What<(4:Int) then (if (e.What==(1:Int))=true then (Option.bind (Xr k x.r e) (fun a0=>some ((a0.1 != (0:Int)),a0.2.tasks,a0.2.l))) else (if (e.What==(2:Int))=true then (Option.bind (Xq k x.r e) (fun a1=>some ((a1.1 != (0:Int)),a1.2.tasks,a1.2.l))) else (if (e.What==(3:Int))=true then (Option.bind (Xp k x.r e) (fun a2=>some ((a2.1 != (0:Int)),a2.2.tasks,a2.2.l))) else none))) else none)))
    (!decide ((rd x.r.tasks e.Task).at_=e.What-1∧(e.What=1∨(rd x.r.tasks e.Task).calls=e.Call)),ts,ll)∧((rd x.r.tasks e.Task).at_=e.What-1∧(e.What=1∨(rd x.r.tasks e.Task).calls=e.Call)→ts=setT (coreOf x) e):=by
  rintro u ⟨u1,u2⟩;have R1:RecOk T (i+1) ⟨x.r.tasks,x.r.l⟩:=⟨rc.len,rc.at_,fun t h=>⟨(rc.cl t h).1,Int.le_trans (rc.cl t h).2 (by omega)⟩,by have:=rc.ll;show x.r.l.length≤i+1;omega⟩
  by_cases E:((e.What != (1:Int))&&((!u.2.2)||(u.1 != e.Call)))=true
  ·have hno:¬ ((rd x.r.tasks e.Task).at_=e.What-1∧(e.What=1∨(rd x.r.tasks e.Task).calls=e.Call)):=by
    rintro ⟨K,B⟩;simp only [Bool.and_eq_true,Bool.or_eq_true,bne_iff_ne,ne_eq,Bool.not_eq_true'] at E;obtain ⟨d1,Z⟩:=E;have O:u.2.2=true:=u2.2 (by omega);rcases Z with Z | Z
    ·rw [O] at Z;cases Z
    ·exact Z ((u1 O).trans (B.resolve_left d1))
   exact ⟨_,_,R1,(Ev.pos E (Ev.pure _)).eq (by simp [hno]),fun h=>absurd h hno⟩
  ·have hyes:e.What=1∨(u.2.2=true∧u.1=e.Call):=by
    simp only [Bool.and_eq_true,Bool.or_eq_true,bne_iff_ne,ne_eq,Bool.not_eq_true',not_and,not_or] at E
    by_cases q:e.What=1
    ·exact .inl q
    ·have:=E q;exact .inr ⟨by simpa using this.1,by simpa using this.2⟩
   have hcl:e.What=1∨(rd x.r.tasks e.Task).calls=e.Call:=hyes.imp id fun ⟨K,B⟩=>(u1 K).symm.trans B
   have fin:∀ (want:Int) (v:QB) (hv:v.Answer.Pairs.length≤100000),e.What=want+1→0≤want∧want≤2→∃ r':Qj,(∀ k,ZY k x.r e.Task want v=some (if (rd x.r.tasks e.Task).at_=want then 0 else 7,r'))∧RecOk T (i+1) r'∧((rd x.r.tasks e.Task).at_=e.What-1→r'.tasks=setT (coreOf x) e):=fun want v hv hW hw=>by
    obtain ⟨r',K,B,O⟩:=put_ev rc (by omega) e.Task want W htT hw v (by omega);refine ⟨r',K,B,fun h=>?_⟩;rw [if_pos (by omega)] at O;rw [O];unfold setT;rw [show e.What-1=want by omega];rfl
   have out:∀ (want:Int),e.What=want+1→((if (rd x.r.tasks e.Task).at_=want then (0:Int) else 7) != (0:Int))=!decide ((rd x.r.tasks e.Task).at_=e.What-1∧(e.What=1∨(rd x.r.tasks e.Task).calls=e.Call)):=fun want hW=>by
    by_cases q:(rd x.r.tasks e.Task).at_=want
    ·have:(rd x.r.tasks e.Task).at_=e.What-1:=by omega
     simp only [q,if_true,bne_self_eq_false]
     symm;simp only [Bool.not_eq_false',decide_eq_true_eq]
     exact ⟨by omega,hcl⟩
    ·have:¬ (rd x.r.tasks e.Task).at_=e.What-1:=by omega
     simp [q,this]
   by_cases H:e.What=1
   ·obtain ⟨r',K,O,h4⟩:=fin 0 ⟨1,0,0,⟨0,false,[],[]⟩⟩ (by simp) (by omega) (by omega);refine ⟨r'.tasks,r'.l,O,(Ev.neg E (Ev.pos c0 (Ev.pos (by simpa using H) ?_))),fun h=>h4 h.1⟩;refine (Ev.all (v:=(_,r')) fun k=>?_).bind ((Ev.pure _).eq (by rw [← out 0 (by omega)]));simp [Xr,Y7,K]
   by_cases q2:e.What=2
   ·obtain ⟨r',K,O,h4⟩:=fin 1 ⟨2,0,0,⟨0,false,[],[]⟩⟩ (by simp) (by omega) (by omega);refine ⟨r'.tasks,r'.l,O,(Ev.neg E (Ev.pos c0 (Ev.neg (by simpa using H) (Ev.pos (by simpa using q2) ?_)))),fun h=>h4 h.1⟩;refine (Ev.all (v:=(_,r')) fun k=>?_).bind ((Ev.pure _).eq (by rw [← out 1 (by omega)]));simp [Xq,XR,K]
   ·have q3:e.What=3:=by omega
    obtain ⟨r',K,O,h4⟩:=fin 2 ⟨3,0,0,⟨e.Answer.Err,e.Answer.Found,e.Answer.Value,e.Answer.Pairs⟩⟩ he (by omega) (by omega);refine ⟨r'.tasks,r'.l,O,(Ev.neg E (Ev.pos c0 (Ev.neg (by simpa using H) (Ev.neg (by simpa using q2) (Ev.pos (by simpa using q3) ?_))))),fun h=>h4 h.1⟩;refine (Ev.all (v:=(_,r')) fun k=>?_).bind ((Ev.pure _).eq (by rw [← out 2 (by omega)]));simp [Xp,Y6,K]
 obtain ⟨ts,ll,rok,hd,hts⟩:=rec_ (if 0≤e.Task∧e.Task<(x.r.tasks.length:Int)∧(rd x.r.tasks e.Task).at_≠0 then ((rd x.r.tasks e.Task).calls,((rd x.r.tasks e.Task).at_==(2:Int)),true) else (0,false,false)) (by
  by_cases q:(rd x.r.tasks e.Task).at_=0
  ·rw [if_neg (fun h=>h.2.2 q)];simp [q]
  ·rw [if_pos ⟨hin.1,hin.2,q⟩];simp [q])
 have head:∀ v,Ev (fun k=>(if (!decide ((rd x.r.tasks e.Task).at_=e.What-1∧(e.What=1∨(rd x.r.tasks e.Task).calls=e.Call)))=true then some ((4:Int),(⟨x.programs,(⟨ts,ll⟩:Qj),x.m,x.done,x.last⟩:XA)) else (if (e.What==(1:Int))=true then (Option.bind (YF k (⟨ts,ll⟩:Qj) e.Task) (fun af=>(if (af.1 != e.Call)=true then some ((4:Int),(⟨x.programs,(⟨ts,ll⟩:Qj),x.m,x.done,x.last⟩:XA)) else some ((0:Int),(⟨x.programs,(⟨ts,ll⟩:Qj),x.m,x.done,x.last⟩:XA))))) else (if (e.What==(2:Int))=true then (if 0≤e.Task∧e.Task<(x.last.length:Int) then (Option.bind (α:=List Int) (some (List.set x.last e.Task.toNat (x.done.length:Int))) (fun ag=>(Option.bind (Yf k x.m e.Task (rd (rd p e.Task) e.Call)) (fun G=>(if x.done.length+([(⟨(e.Task),(e.Call),⟨G.1.Err,G.1.Found,G.1.Value,G.1.Pairs⟩,at_,(-1:Int)⟩:Qw)]:List Qw).length≤1599289640401 then some ((0:Int),(⟨x.programs,(⟨ts,ll⟩:Qj),G.2,(x.done++([(⟨(e.Task),(e.Call),⟨G.1.Err,G.1.Found,G.1.Value,G.1.Pairs⟩,at_,(-1:Int)⟩:Qw)]:List Qw)),ag⟩:XA)) else none))))) else none) else (if (e.What==(3:Int))=true then (if 0≤(rd x.last e.Task)∧(rd x.last e.Task)<(x.done.length:Int) then (if 0≤e.Task∧e.Task<(x.last.length:Int) then (Option.bind (α:=List Qw) (some (List.set x.done (rd x.last e.Task).toNat (⟨(rd x.done (rd x.last e.Task)).Task,(rd x.done (rd x.last e.Task)).Call,⟨(rd x.done (rd x.last e.Task)).Answer.Err,(rd x.done (rd x.last e.Task)).Answer.Found,(rd x.done (rd x.last e.Task)).Answer.Value,(rd x.done (rd x.last e.Task)).Answer.Pairs⟩,(rd x.done (rd x.last e.Task)).Mark,at_⟩:Qw))) (fun a6=>(Option.bind (X7 k ((⟨(rd x.done (rd x.last e.Task)).Task,(rd x.done (rd x.last e.Task)).Call,⟨(rd x.done (rd x.last e.Task)).Answer.Err,(rd x.done (rd x.last e.Task)).Answer.Found,(rd x.done (rd x.last e.Task)).Answer.Value,(rd x.done (rd x.last e.Task)).Answer.Pairs⟩,(rd x.done (rd x.last e.Task)).Mark,at_⟩:Qw).Answer) e.Answer) (fun ah=>(if (!ah)=true then some ((7:Int),(⟨x.programs,(⟨ts,ll⟩:Qj),x.m,a6,x.last⟩:XA)) else some ((0:Int),(⟨x.programs,(⟨ts,ll⟩:Qj),x.m,a6,x.last⟩:XA))))))) else none) else none) else some ((0:Int),(⟨x.programs,(⟨ts,ll⟩:Qj),x.m,x.done,x.last⟩:XA))))))) v→Ev (fun k=>Qt k x at_ e) v:=fun v h=>by
  unfold Qt;refine Ev.bind (Ev.all hcall) ?_;rw [if_pos hg'.1];refine Ev.bind (hz true) (Ev.neg ?_ (Ev.bind (Ev.all hun) (Ev.bind hd h)));simp only [Bool.true_and,Bool.not_eq_true',Bool.not_eq_false,decide_eq_false_iff_not,Decidable.not_not];exact ⟨w1,w3,w4⟩
 by_cases U:(rd x.r.tasks e.Task).at_=e.What-1∧(e.What=1∨(rd x.r.tasks e.Task).calls=e.Call)
 case neg =>
  refine ⟨fun _=>⟨_,head _ (Ev.pos (by simp only [Bool.not_eq_true',decide_eq_false_iff_not];exact U) (Ev.pure _))⟩,fun h=>absurd ⟨h.2.1,.inr h.2.2⟩ U⟩
 have hts':=hts U
 have hneg:¬ ((!decide ((rd x.r.tasks e.Task).at_=e.What-1∧(e.What=1∨(rd x.r.tasks e.Task).calls=e.Call)))=true):=by
  simp only [Bool.not_eq_true',decide_eq_false_iff_not,Decidable.not_not];exact U
 by_cases hI:isAt (coreOf x) e
 case neg =>
  have H:e.What=1:=U.2.resolve_right fun h=>hI ⟨U.1,h⟩;refine ⟨fun _=>?_,fun h=>absurd h.2 hI⟩;refine ⟨_,head _ (Ev.neg hneg (Ev.pos (by simpa using H) (Ev.bind (Ev.all (KO rok e.Task)) (Ev.pos ?_ (Ev.pure _)))))⟩;have ay:e.Task.toNat<x.r.tasks.length:=by omega
  have e1:rd ts e.Task=⟨1,(rd x.r.tasks e.Task).calls⟩:=by
   rw [hts',hn];unfold setT;rw [rdN (by rw [List.length_set];show n<x.r.tasks.length;omega),List.getElem_set,if_pos (by omega)];unfold nextT;rw [if_neg (by omega),H,hn];rfl
  have e2:0≤e.Task∧e.Task<((⟨ts,ll⟩:Qj).tasks.length:Int)∧(rd (⟨ts,ll⟩:Qj).tasks e.Task).at_≠0:=by
   refine ⟨W,?_,by show (rd ts e.Task).at_≠0;rw [e1];exact (by decide:(1:Int)≠0)⟩;show e.Task<(ts.length:Int);have:=rok.len;have:ts.length=T:=this;omega
  rw [if_pos e2];show ((rd ts e.Task).calls != e.Call)=true;rw [e1];have:(rd x.r.tasks e.Task).calls≠e.Call:=fun h=>hI ⟨U.1,h⟩
  simpa using this
 refine ⟨fun h=>absurd ⟨hg',hI⟩ h,fun _=>?_⟩;have aa:=iv.mono (n':=i+1) (by omega);have Y:∀ d∈x.done,okCall p d.Task d.Call∧d.Answer.Pairs.length≤i+1:=fun d hd=>by have:=dn d hd;exact ⟨this.1,by omega⟩
 have g2:=QB9 R0 hI ⟨w1,w3⟩ W htT;rw [← hts'] at g2
 by_cases H:e.What=1
 ·refine ⟨⟨x.programs,⟨ts,ll⟩,x.m,x.done,x.last⟩,head _ (Ev.neg hneg (Ev.pos (by simpa using H) (Ev.bind (Ev.all (KO rok e.Task)) (Ev.neg ?_ ((Ev.pure _).eq ?_))))),?_,?_⟩
  ·have e1:rd ts e.Task=⟨1,(rd x.r.tasks e.Task).calls⟩:=by
    rw [hts',hn];unfold setT;rw [rdN (by rw [List.length_set];show n<x.r.tasks.length;omega),List.getElem_set,if_pos (by omega)];unfold nextT;rw [if_neg (by omega),H,hn];rfl
   have e2:0≤e.Task∧e.Task<((⟨ts,ll⟩:Qj).tasks.length:Int)∧(rd (⟨ts,ll⟩:Qj).tasks e.Task).at_≠0:=by
    refine ⟨W,?_,by show (rd ts e.Task).at_≠0;rw [e1];exact (by decide:(1:Int)≠0)⟩;show e.Task<(ts.length:Int);have:=rok.len;have:ts.length=T:=this;omega
   rw [if_pos e2];show ¬ (((rd ts e.Task).calls != e.Call)=true);rw [e1];have:(rd x.r.tasks e.Task).calls=e.Call:=hI.2
   simpa using this
  ·unfold outS;rw [if_neg (by omega)]
  ·unfold goS;rw [if_pos H,← hts'];rfl
  ·exact ⟨pr,rok,la,aa,by show x.done.length≤i+1;omega,Y,fun u hu B=>by
    have h:=g2 u hu;have B:(rd ts (u:Int)).at_=2:=B;rw [h] at B
    by_cases q:(u:Int)=e.Task
    ·rw [if_pos q,if_neg (by omega)] at B;omega
    ·rw [if_neg q] at B;exact ls u hu B⟩
 by_cases q2:e.What=2
 ·have az:=QA2 iv e.Task (rd (rd p e.Task) e.Call);have htl:0≤e.Task∧e.Task<(x.last.length:Int):=by rw [la];exact ⟨W,htT⟩
  refine ⟨⟨x.programs,⟨ts,ll⟩,(doS x.m e.Task (rd (rd p e.Task) e.Call)).2,x.done++[⟨e.Task,e.Call,⟨(doS x.m e.Task (rd (rd p e.Task) e.Call)).1.Err,(doS x.m e.Task (rd (rd p e.Task) e.Call)).1.Found,(doS x.m e.Task (rd (rd p e.Task) e.Call)).1.Value,(doS x.m e.Task (rd (rd p e.Task) e.Call)).1.Pairs⟩,at_,-1⟩],x.last.set e.Task.toNat (x.done.length:Int)⟩,head _ (Ev.neg hneg (Ev.neg (by simpa using H) (Ev.pos (by simpa using q2) (Ev.pos htl (Ev.bind (Ev.pure _) (Ev.bind (do_ev iv (by omega) e.Task (rd (rd p e.Task) e.Call)) (Ev.pos (by simp;omega) ((Ev.pure _).eq ?_)))))))),?_,?_⟩
  ·unfold outS;rw [if_neg (by omega)]
  ·unfold goS;rw [if_neg H,if_pos q2,← hts'];rfl
  ·refine ⟨pr,rok,by simp [la],iv.do_ e.Task _,by simp;omega,fun d hd=>?_,fun u hu B=>?_⟩
   ·rcases List.mem_append.1 hd with h | h
    ·exact Y d h
    ·simp only [List.mem_singleton] at h;subst h;exact ⟨hg'.1,by show (doS x.m e.Task (rd (rd p e.Task) e.Call)).1.Pairs.length≤i+1;omega⟩
   ·have h:=g2 u hu;have B:(rd ts (u:Int)).at_=2:=B;rw [h] at B;have hlen:u<(x.last.set e.Task.toNat (x.done.length:Int)).length:=by simp [la,hu]
    show 0≤rd (x.last.set e.Task.toNat (x.done.length:Int)) (u:Int)∧rd (x.last.set e.Task.toNat (x.done.length:Int)) (u:Int)<((x.done++[_]).length:Int);rw [rdN hlen,List.getElem_set,List.length_append,List.length_singleton]
    by_cases q:(u:Int)=e.Task
    ·rw [if_pos (by omega)];omega
    ·rw [if_neg q] at B;have:=ls u hu B;rw [if_neg (by omega)];rw [rdN (by omega)] at this;omega
 ·have q3:e.What=3:=by omega
  have htl:0≤e.Task∧e.Task<(x.last.length:Int):=by rw [la];exact ⟨W,htT⟩
  have K:(rd x.r.tasks e.Task).at_=e.What-1:=hI.1;have hlast:=ls n hnT (by rw [← hn,K];omega);rw [← hn] at hlast;obtain ⟨m,hm⟩:=Int.eq_ofNat_of_zero_le hlast.1;have V:m<x.done.length:=by omega
  generalize hset:x.done.set (rd x.last e.Task).toNat ⟨(rd x.done (rd x.last e.Task)).Task,(rd x.done (rd x.last e.Task)).Call,⟨(rd x.done (rd x.last e.Task)).Answer.Err,(rd x.done (rd x.last e.Task)).Answer.Found,(rd x.done (rd x.last e.Task)).Answer.Value,(rd x.done (rd x.last e.Task)).Answer.Pairs⟩,(rd x.done (rd x.last e.Task)).Mark,at_⟩=D;have hD:D.length=x.done.length:=by rw [← hset];simp
  have hDm:∀ d∈D,okCall p d.Task d.Call∧d.Answer.Pairs.length≤i+1:=fun d hd=>by
   rw [← hset] at hd;rcases List.mem_or_eq_of_mem_set hd with h | h
   ·exact Y d h
   ·subst h;have:=Y (x.done[m]) (List.getElem_mem V);rw [hm,rdN V];exact this
  have hDa:(rd D (rd x.last e.Task)).Answer=(rd x.done (rd x.last e.Task)).Answer:=by
   rw [← hset,hm,rdN (by rw [List.length_set];exact V),List.getElem_set,if_pos (Int.toNat_natCast m),rdN V]
  have ab:=qS (rd D (rd x.last e.Task)).Answer e.Answer (by
   rw [hDa,hm,rdN V];have:=(Y _ (List.getElem_mem V)).2;omega)
  rw [hDa] at ab
  have ap:RI T p (i+1) ⟨x.programs,⟨ts,ll⟩,x.m,D,x.last⟩:=⟨pr,rok,la,aa,by show D.length≤i+1;omega,hDm,fun u hu B=>by
   have h:=g2 u hu;have B:(rd ts (u:Int)).at_=2:=B;rw [h] at B
   by_cases q:(u:Int)=e.Task
   ·rw [if_pos q,if_pos q3] at B;omega
   ·rw [if_neg q] at B;have:=ls u hu B;show 0≤rd x.last (u:Int)∧rd x.last (u:Int)<(D.length:Int);omega⟩
  refine ⟨⟨x.programs,⟨ts,ll⟩,x.m,D,x.last⟩,head _ (Ev.neg hneg (Ev.neg (by simpa using H) (Ev.neg (by simpa using q2) (Ev.pos (by simpa using q3) (Ev.pos hlast (Ev.pos htl ?_)))))),?_,ap⟩
  ·rw [hset];refine Ev.bind (Ev.pure _) ?_;refine Ev.bind ab ?_;unfold outS
   by_cases ha:(rd x.done (rd x.last e.Task)).Answer=e.Answer
   ·refine Ev.neg (by simp [ha]) ((Ev.pure _).eq ?_);rw [if_neg];rintro ⟨_,h⟩;exact h ha
   ·refine Ev.pos (by simp [ha]) ((Ev.pure _).eq ?_);rw [if_pos ⟨q3,ha⟩]
  ·unfold goS;rw [if_neg H,if_neg q2,← hts',← hset];rfl
end Go.Proofs.YtnjbjpaiepefoaaGreatDoor
