import Derived.Test.YtkknoimjgifhlaaGreatDoorPureRun28
namespace Go.Proofs.YtkknoimjgifhlaaGreatDoor
open Go Go.RowKit
set_option linter.unusedVariables false
set_option linter.unusedSimpArgs false
set_option maxRecDepth 100000
theorem JA (x:Int):-9223372036854775808≤IntKind.i64.wrap x∧IntKind.i64.wrap x≤9223372036854775807:=by
 simp [IntKind.wrap,IntKind.bits,IntKind.signed];omega
theorem wrap2 (s d:Int):IntKind.i64.wrap (s+IntKind.i64.wrap (d+1))=IntKind.i64.wrap (IntKind.i64.wrap (s+d)+1):=by
 simp [IntKind.wrap,IntKind.bits,IntKind.signed];omega
def inI (a:Int):Prop:=-9223372036854775808≤a∧a≤9223372036854775807
theorem now_l {c:QI} {p:Progs} (D:List ZX) (hD:D.length≤1000) (hk:∀ d∈D,okCall p d.Task d.Call) (m0:RM):∀ (j i:Nat) (s a:Int) (m:Mod) (x:RM),i+j=D.length→Inv i m→Rel m x→inI a →
  ∃ v,Ev (fun k=>Xp c p D k s a (i:Int) m) v∧Ev (fun k=>YF c p (D.map toR,m0) k s a (i:Int) x) v:=by
 intro j
 induction j with
 | zero =>
  intro i s a m x hi I R hs
  refine ⟨(s,a),Ev.shift 1 ⟨0,fun k hk=>?_⟩,Ev.shift 1 ⟨0,fun k hk=>?_⟩⟩
  ·show Xp c p D (k+1) s a (i:Int) m=_
   rw [Xp.eq_2,if_neg (by simp;omega)]
  ·show YF c p (D.map toR,m0) (k+1) s a (i:Int) x=_
   rw [YF.eq_2,if_neg (by simp;omega)]
 | succ j ih =>
  intro i s a m x hi I R hs
  have hlt:i<D.length:=by omega
  have hlm:i<(D.map toR).length:=by simpa using hlt
  obtain ⟨t0,t1,c0,c1⟩:=hk _ (List.getElem_mem hlt)
  have I':=I.do_ D[i].Task (rd (rd p D[i].Task) D[i].Call)
  obtain ⟨x',hx,R'⟩:=R.do_ev I (by omega) D[i].Task (rd (rd p D[i].Task) D[i].Call)
  have hd:=do_ev I (by omega) D[i].Task (rd (rd p D[i].Task) D[i].Call)
  have r1:=qG I (by omega)
  have r2:=R.ret_ev I (by omega)
  have r3:=qG I' (by omega)
  have r4:=R'.ret_ev I' (by omega)
  have em:(D.map toR)[i]=toR D[i]:=by simp
  have hnext:=fun s a (h:inI a)=>ih (i+1) s a (doS m D[i].Task (rd (rd p D[i].Task) D[i].Call)).2 x' (by omega) I' R' h
  generalize hdo:doS m D[i].Task (rd (rd p D[i].Task) D[i].Call)=d at *
  generalize hcall:rd (rd p D[i].Task) D[i].Call=call at *
  generalize retS m (keysS m)=q1 at *
  generalize retS d.2 (keysS d.2)=q2 at *
  generalize ht:imax (0:Int) (IntKind.i64.wrap (q1-q2))=took at *
  have step1:∀ (s' a':Int) v,(if D[i].Back<0 then (∃ z:Int×Int,(∀ k,Xi k call took c=some z)∧IntKind.i64.wrap (s+z.1)=s'∧IntKind.i64.wrap (a+z.2)=a') else s'=s∧a'=a) →
    Ev (fun k=>Xp c p D k s' a' ((i+1:Nat):Int) d.2) v→Ev (fun k=>Xp c p D k s a (i:Int) m) v:=fun s' a' v hz h=>by
   refine Ev.shift 1 (Ev.congr (g:=fun k=>_) ?_ (fun k=>by rw [Xp.eq_2]))
   rw [rdN hlt,wr1 (by omega),hcall]
   refine Ev.pos (by simpa using hlt) (Ev.bind (v:=(s',a',d.2)) (Ev.chk (inR hlt) (Ev.chk ⟨t0,t1⟩ (Ev.chk ⟨c0,c1⟩ (Ev.bind (Ev.bind r1 (Ev.pure _)) (Ev.bind hd (Ev.bind r3 ?_)))))) h)
   rw [ht]
   by_cases hb:D[i].Back<0
   ·rw [if_pos hb] at hz
    obtain ⟨z,h1,h2,h3⟩:=hz
    exact Ev.bind (Ev.all h1) (Ev.bind (v:=(s',a')) (Ev.pos (by simpa using hb) ((Ev.pure _).eq (by rw [h2,h3]))) (Ev.pure _))
   ·rw [if_neg hb] at hz
    obtain ⟨h2,h3⟩:=hz
    have:∃ z:Int×Int,∀ k,Xi k call took c=some z:=by
     by_cases h3:call.Kind=3
     ·exact ⟨(2,1),fun k=>by simp [Xi,h3]⟩
     by_cases h4:call.Kind=4
     ·exact ⟨(2,1),fun k=>by simp [Xi,h4]⟩
     by_cases h9:call.Kind=9
     ·exact ⟨(IntKind.i64.wrap (c.Depth+1),0),fun k=>by simp [Xi,h9]⟩
     ·exact ⟨(took,took),fun k=>by simp [Xi,h3,h4,h9]⟩
    obtain ⟨z,hz⟩:=this
    exact Ev.bind (Ev.all hz) (Ev.bind (v:=(s',a')) (Ev.neg (by simpa using hb) ((Ev.pure _).eq (by rw [h2,h3]))) (Ev.pure _))
  have step2:∀ (s' a':Int) v,(if D[i].Back<0 then (∀ k:Nat,(Option.bind (α:=Bool) (if (call.Kind==(3:Int))=true then some ((call.Kind==(3:Int))) else some ((call.Kind==(4:Int)))) (fun x5399=>(Option.bind (α:=Int×Int) (if x5399=true then some ((IntKind.i64.wrap (s+(2:Int))),(IntKind.i64.wrap (a+(1:Int)))) else (Option.bind (α:=Int×Int) (if (call.Kind==(9:Int))=true then some ((IntKind.i64.wrap ((IntKind.i64.wrap (s+c.Depth))+(1:Int))),a) else some ((IntKind.i64.wrap (s+took)),(IntKind.i64.wrap (a+took)))) (fun x=>some (x.1,x.2)))) (fun x=>some (x.1,x.2)))))=some (s',a')) else s'=s∧a'=a) →
    Ev (fun k=>YF c p (D.map toR,m0) k s' a' ((i+1:Nat):Int) x') v→Ev (fun k=>YF c p (D.map toR,m0) k s a (i:Int) x) v:=fun s' a' v hz h=>by
   refine Ev.shift 1 (Ev.congr (g:=fun k=>_) ?_ (fun k=>by rw [YF.eq_2]))
   simp only [rdN hlm,em,wr1 (i:=i) (by omega),toR,hcall]
   refine Ev.pos (by simpa using hlt) (Ev.bind (v:=(s',a',x')) (Ev.chk (inR hlm) (Ev.chk ⟨t0,t1⟩ (Ev.chk (inR hlm) (Ev.chk ⟨c0,c1⟩ (Ev.bind r2 (Ev.chk (inR hlm) (Ev.bind hx (Ev.bind r4 (Ev.chk (inR hlm) ?_))))))))) h)
   rw [ht]
   by_cases hb:D[i].Back<0
   ·rw [if_pos hb] at hz
    refine Ev.neg (by simp;omega) (Ev.bind (v:=(s',a')) (Ev.all hz) (Ev.pure _))
   ·rw [if_neg hb] at hz
    obtain ⟨h2,h3⟩:=hz
    exact Ev.pos (by simp;omega) ((Ev.pure _).eq (by rw [h2,h3]))
  by_cases hb:D[i].Back<0
  ·simp only [if_pos hb] at step1 step2
   by_cases h3:call.Kind=3
   ·obtain ⟨v,g1,g2⟩:=hnext (IntKind.i64.wrap (s+2)) (IntKind.i64.wrap (a+1)) (JA _)
    exact ⟨v,step1 _ _ v ⟨(2,1),fun k=>by simp [Xi,h3],rfl,rfl⟩ g1,step2 _ _ v (fun k=>by simp [h3]) g2⟩
   by_cases h4:call.Kind=4
   ·obtain ⟨v,g1,g2⟩:=hnext (IntKind.i64.wrap (s+2)) (IntKind.i64.wrap (a+1)) (JA _)
    exact ⟨v,step1 _ _ v ⟨(2,1),fun k=>by simp [Xi,h4],rfl,rfl⟩ g1,step2 _ _ v (fun k=>by simp [h4]) g2⟩
   by_cases h9:call.Kind=9
   ·obtain ⟨v,g1,g2⟩:=hnext (IntKind.i64.wrap (IntKind.i64.wrap (s+c.Depth)+1)) a hs
    exact ⟨v,step1 _ _ v ⟨(IntKind.i64.wrap (c.Depth+1),0),fun k=>by simp [Xi,h9],wrap2 s c.Depth,by rw [Int.add_zero];exact wr hs.1 hs.2⟩ g1,step2 _ _ v (fun k=>by simp [h9]) g2⟩
   ·obtain ⟨v,g1,g2⟩:=hnext (IntKind.i64.wrap (s+took)) (IntKind.i64.wrap (a+took)) (JA _)
    exact ⟨v,step1 _ _ v ⟨(took,took),fun k=>by simp [Xi,h3,h4,h9],rfl,rfl⟩ g1,step2 _ _ v (fun k=>by simp [h3,h4,h9]) g2⟩
  ·simp only [if_neg hb] at step1 step2
   obtain ⟨v,g1,g2⟩:=hnext s a hs
   exact ⟨v,step1 _ _ v ⟨rfl,rfl⟩ g1,step2 _ _ v ⟨rfl,rfl⟩ g2⟩
theorem now_ev (c:QI) (p:Progs) (L:List QL) (hl:L.length≤300) (ha:∀ x∈L,x.Answer.Pairs.length≤100000∧0≤x.What∧x.What≤255):∃ v,Ev (fun k=>VO k c p L) v∧Ev (fun k=>XV k c p L) v:=by
 cases h:mayP c p with
 | false =>
  have ho:Ev (fun k=>Y8 k c p L) (.inl ()):=Ev.bind (beg_no h) (Ev.pure _)
  have hM:Ev (fun k=>XY k c p L) (.inl ()):=Ev.bind ho (Ev.pure _)
  exact ⟨(0,0,1),Ev.bind hM (Ev.pure _),Ev.bind (KV h) (Ev.pure _)⟩
 | true =>
  obtain ⟨hm,hp,x0,R,⟨h1,h2,h3⟩,hb⟩:=KG h
  rcases qs hb R hp (by omega:L.length≤1000) (fun e he=>(ha e he).1) with ⟨hn,ho⟩ | ⟨y,Ry,hy,ho⟩
  ·have hM:Ev (fun k=>XY k c p L) (.inr (.inl ())):=Ev.bind ho (Ev.pure _)
   exact ⟨(0,0,4),Ev.bind hM (Ev.pure _),Ev.bind (Je h h3 (by omega) ha hn) (Ev.pure _)⟩
  ·obtain ⟨D,m,g1,g2,B⟩:=J5 h R h1 h2 h3 (by omega) ha hy
   have hM:Ev (fun k=>XY k c p L) (.inr (.inr y.m)):=Ev.bind ho (Ev.pure _)
   have hA:Ev (fun k=>Xu k c p L) y.done:=Ev.bind ho (Ev.pure _)
   have hD:D=y.done.map toR:=B.eq
   have I:=Ry.iv
   have R':Rel y.m m:=B.rl
   have hdl:=Ry.dl
   have hll:=R'.llen I
   have hkl:=V1 y.m
   have hrl:=I.rl
   have hkey:Ev (fun k=>ZS k y.m) (keysS y.m):=⟨0,fun k _=>KI I (by omega) k⟩
   have hnew:Ev (fun k=>XB k c) (.inr (newS c)):=⟨9,fun k hk=>by show XB k c=_;rw [QA4 k hk c,hm];rfl⟩
   obtain ⟨v,v1,v2⟩:=now_l (c:=c) (p:=p) y.done (by omega) (fun d hd=>(Ry.dn d hd).1) m y.done.length 0 (retS y.m (keysS y.m)) ((keysS y.m).length:Int) (newS c) ⟨c,[],[],0,0⟩ (by omega) (Inv.new c) (Rel.new c) (by unfold inI;omega)
   refine ⟨(v.1,v.2,0),?_,?_⟩
   ·exact Ev.bind hM (Ev.bind (qG I (by omega)) (Ev.bind hkey (Ev.bind hnew (Ev.bind hA (Ev.bind v1 (Ev.pure _))))))
   ·subst hD
    have e:(m.L.length:Int)=((keysS y.m).length:Int):=by omega
    unfold XV
    refine Ev.bind g2 (Ev.bind (R'.ret_ev I (by omega)) (Ev.bind g1 (Ev.bind (Jk hm) ?_)))
    rw [e]
    exact Ev.bind v2 (Ev.pure _)
end Go.Proofs.YtkknoimjgifhlaaGreatDoor
