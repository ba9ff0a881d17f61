import Derived.Test.YtnjbjpaiepefoaaGreatDoorPureStep
namespace Go.Proofs.YtnjbjpaiepefoaaGreatDoor
open Go Go.RowKit
set_option linter.unusedVariables false
set_option linter.unusedSimpArgs false
set_option maxRecDepth 100000
def may (p:Progs) (x:Core) (e:QB):Prop:=goodE p e∧isAt x e
instance (p:Progs) (x:Core) (e:QB):Decidable (may p x e):=by unfold may;exact inferInstance
def overC (p:Progs):List QB→Int→Core→Option Core
 | [],_,x=>some x
 | e::t,a,x=>if may p x e then overC p t (a+1) (goS p x a e) else none
def checkC (p:Progs):List QB→Int→Core→(Int×Int)⊕Unit
 | [],_,_=>.inr ()
 | e::t,a,x=>if may p x e then (if outS x e≠0 then .inl (a,outS x e) else checkC p t (a+1) (goS p x a e)) else .inl (a,4)
abbrev tup (x:Run):=(x.programs,x.done,x.last,x.r.tasks,x.r.l,x.m)
abbrev OvT:=List QB→Nat→Int→List (List QZ)→List Qw→List Int→List Yh→List QB→QQ→Option (((Unit)⊕(Unit)⊕(XA))⊕(List (List QZ)×List Qw×List Int×List Yh×List QB×QQ))
def OvEq (F:OvT):Prop:=∀ (L:List QB) (k:Nat) (i:Int) (x:Run),F L (k+1) i x.programs x.done x.last x.r.tasks x.r.l x.m=(if (decide (i<(L.length:Int)))=true then (if 0≤i∧i<(L.length:Int) then (Option.bind (Qt k x i (rd L i)) (fun B=>(if (B.1==(4:Int))=true then some (.inl (Sum.inr (Sum.inl ()))) else F L k (IntKind.i64.wrap (i+(1:Int))) B.2.programs B.2.done B.2.last B.2.r.tasks B.2.r.l B.2.m))) else none) else some (.inr (tup x)))
theorem ov_all {T:Nat} {p:Progs} (hp:p.length≤T) (F:OvT) (hF:OvEq F) (L:List QB) (hl:L.length≤1000) (hA:∀ e∈L,e.Answer.Pairs.length≤100000):∀ (j i:Nat) (x:Run),i+j=L.length→RI T p i x →
  (overC p (L.drop i) (i:Int) (coreOf x)=none∧Ev (fun k=>F L k (i:Int) x.programs x.done x.last x.r.tasks x.r.l x.m) (.inl (.inr (.inl ())))∨∃ y,RI T p L.length y∧overC p (L.drop i) (i:Int) (coreOf x)=some (coreOf y)∧Ev (fun k=>F L k (i:Int) x.programs x.done x.last x.r.tasks x.r.l x.m) (.inr (tup y))):=by
 intro j
 induction j with
 | zero =>
  intro i x hi R;obtain rfl:i=L.length:=by omega
  refine .inr ⟨x,R,by rw [List.drop_of_length_le (Nat.le_refl _)];rfl,Ev.shift 1 ⟨0,fun k hk=>?_⟩⟩;show F L (k+1) (L.length:Int) _ _ _ _ _ _=_;rw [hF];have:¬ ((L.length:Int)<(L.length:Int)):=by omega
  simp [this]
 | succ j ih =>
  intro i x hi R;have hlt:i<L.length:=by omega
  have B:(i:Int)<(L.length:Int):=by omega
  obtain ⟨E,G⟩:=QAM R (by omega) hp (i:Int) L[i] (hA _ (List.getElem_mem hlt));rw [List.drop_eq_getElem_cons hlt,overC]
  by_cases hm:may p (coreOf x) L[i]
  ·obtain ⟨x',hs,hc,R'⟩:=G hm;have ho:outS (coreOf x) L[i]≠4:=by unfold outS;split<;>decide
   have step:∀ v,Ev (fun k=>F L k ((i+1:Nat):Int) x'.programs x'.done x'.last x'.r.tasks x'.r.l x'.m) v→Ev (fun k=>F L k (i:Int) x.programs x.done x.last x.r.tasks x.r.l x.m) v:=fun v hv=>by
    refine Ev.shift 1 (Ev.congr (g:=fun k=>_) ?_ (fun k=>hF L k (i:Int) x));refine Ev.pos (by simpa using B) (Ev.pos (inR hlt) ?_);rw [rdN hlt,wr1 (i:=i) (by omega)];exact Ev.bind hs (Ev.neg (by simpa using ho) hv)
   rw [if_pos hm,← hc];have e:(i:Int)+1=((i+1:Nat):Int):=by omega
   rw [e];rcases ih (i+1) x' (by omega) R' with ⟨h,g⟩ | ⟨y,hy,h,g⟩
   ·exact .inl ⟨h,step _ g⟩
   ·exact .inr ⟨y,hy,h,step _ g⟩
  ·obtain ⟨x',hs⟩:=E hm;rw [if_neg hm];refine .inl ⟨rfl,Ev.shift 1 (Ev.congr (g:=fun k=>_) ?_ (fun k=>hF L k (i:Int) x))⟩;refine Ev.pos (by simpa using B) (Ev.pos (inR hlt) ?_);rw [rdN hlt];exact Ev.bind hs (Ev.pos (by simp) (Ev.pure _))
theorem ck_all {T:Nat} {p:Progs} (hp:p.length≤T) (L:List QB) (hl:L.length≤1000) (hA:∀ e∈L,e.Answer.Pairs.length≤100000):∀ (j i:Nat) (x:Run),i+j=L.length→RI T p i x →
  Ev (fun k=>Xy L k (i:Int) x.programs x.done x.last x.r.tasks x.r.l x.m) (checkC p (L.drop i) (i:Int) (coreOf x)):=by
 intro j
 induction j with
 | zero =>
  intro i x hi R;obtain rfl:i=L.length:=by omega
  rw [List.drop_of_length_le (Nat.le_refl _)];refine Ev.shift 1 ⟨0,fun k hk=>?_⟩;show Xy L (k+1) (L.length:Int) _ _ _ _ _ _=_;rw [Xy.eq_2];have:¬ ((L.length:Int)<(L.length:Int)):=by omega
  simp [this,checkC]
 | succ j ih =>
  intro i x hi R;have hlt:i<L.length:=by omega
  have B:(i:Int)<(L.length:Int):=by omega
  obtain ⟨E,G⟩:=QAM R (by omega) hp (i:Int) L[i] (hA _ (List.getElem_mem hlt));rw [List.drop_eq_getElem_cons hlt,checkC];refine Ev.shift 1 (Ev.congr (g:=fun k=>_) ?_ (fun k=>by rw [Xy.eq_2]));rw [rdN hlt,wr1 (i:=i) (by omega)];refine Ev.pos (by simpa using B) (Ev.pos (inR hlt) ?_)
  by_cases hm:may p (coreOf x) L[i]
  ·obtain ⟨x',hs,hc,R'⟩:=G hm;rw [if_pos hm];refine Ev.bind hs ?_
   by_cases ho:outS (coreOf x) L[i]=0
   ·rw [if_neg (by simpa using ho),← hc];have e:(i:Int)+1=((i+1:Nat):Int):=by omega
    rw [e];exact Ev.neg (by simpa using ho) (ih (i+1) x' (by omega) R')
   ·rw [if_pos ho];exact Ev.pos (by simpa using ho) (Ev.pure _)
  ·obtain ⟨x',hs⟩:=E hm;rw [if_neg hm];exact Ev.bind hs (Ev.pos (by simp) (Ev.pure _))
end Go.Proofs.YtnjbjpaiepefoaaGreatDoor
