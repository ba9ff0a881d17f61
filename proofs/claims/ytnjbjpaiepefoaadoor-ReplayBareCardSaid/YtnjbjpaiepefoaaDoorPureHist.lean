import Derived.Test.YtnjbjpaiepefoaaDoorPureStep
namespace Go.Proofs.YtnjbjpaiepefoaaDoor
open Go Go.RowKit
set_option linter.unusedVariables false
set_option linter.unusedSimpArgs false
set_option maxRecDepth 100000
def may (p:Progs) (x:Core) (e:QG):Prop:=goodE p e ∧ isAt x e
instance (p:Progs) (x:Core) (e:QG):Decidable (may p x e):=by unfold may; exact inferInstance
def overC (p:Progs):List QG → Int → Core → Option Core
 | [],_,x=>some x
 | e :: t,a,x=>if may p x e then overC p t (a + 1) (goS p x a e) else none
def checkC (p:Progs):List QG → Int → Core → (Int × Int) ⊕ Unit
 | [],_,_=>.inr ()
 | e :: t,a,x=>if may p x e then (if outS x e ≠ 0 then .inl (a,outS x e) else checkC p t (a + 1) (goS p x a e)) else .inl (a,4)
abbrev tup (x:Run):=(x.programs,x.done,x.last,x.r.tasks,x.r.l,x.m)
abbrev OvT:=List QG → Nat → Int → List (List QW) → List ZL → List Int → List Z3 → List QG → QM → Option (((Unit) ⊕ (Unit) ⊕ (ZX)) ⊕ (List (List QW) × List ZL × List Int × List Z3 × List QG × QM))
def OvEq (F:OvT):Prop:=∀ (L:List QG) (k:Nat) (i:Int) (x:Run),F L (k + 1) i x.programs x.done x.last x.r.tasks x.r.l x.m = (if (decide (i < (L.length:Int))) = true then (if 0 ≤ i ∧ i < (L.length:Int) then (Option.bind (ZA k x i (rd L i)) (fun t380=>(if (t380.1 == (4:Int)) = true then some (.inl (Sum.inr (Sum.inl ()))) else F L k (IntKind.i64.wrap (i + (1:Int))) t380.2.programs t380.2.done t380.2.last t380.2.r.tasks t380.2.r.l t380.2.m))) else none) else some (.inr (tup x)))
theorem ov_all {T:Nat} {p:Progs} (hp:p.length ≤ T) (F:OvT) (hF:OvEq F) (L:List QG) (hl:L.length ≤ 1000) (hA:∀ e ∈ L,e.Answer.Pairs.length ≤ 100000):∀ (j i:Nat) (x:Run),i + j = L.length → RI T p i x →
  (overC p (L.drop i) (i:Int) (coreOf x) = none ∧ Ev (fun k=>F L k (i:Int) x.programs x.done x.last x.r.tasks x.r.l x.m) (.inl (.inr (.inl ()))) ∨ ∃ y,RI T p L.length y ∧ overC p (L.drop i) (i:Int) (coreOf x) = some (coreOf y) ∧ Ev (fun k=>F L k (i:Int) x.programs x.done x.last x.r.tasks x.r.l x.m) (.inr (tup y))):=by
 intro j
 induction j with
 | zero =>
  intro i x hi R
  obtain rfl:i = L.length:=by omega
  refine .inr ⟨x,R,by rw [List.drop_of_length_le (Nat.le_refl _)]; rfl,Ev.shift 1 ⟨0,fun k hk=>?_⟩⟩
  show F L (k + 1) (L.length:Int) _ _ _ _ _ _ = _
  rw [hF]
  have:¬ ((L.length:Int) < (L.length:Int)):=by omega
  simp [this]
 | succ j ih =>
  intro i x hi R
  have hlt:i < L.length:=by omega
  have h3:(i:Int) < (L.length:Int):=by omega
  obtain ⟨s1,s2⟩:=step_ev R (by omega) hp (i:Int) L[i] (hA _ (List.getElem_mem hlt))
  rw [List.drop_eq_getElem_cons hlt,overC]
  by_cases hm:may p (coreOf x) L[i]
  ·obtain ⟨x',hs,hc,R'⟩:=s2 hm
   have ho:outS (coreOf x) L[i] ≠ 4:=by unfold outS; split <;> decide
   have step:∀ v,Ev (fun k=>F L k ((i + 1:Nat):Int) x'.programs x'.done x'.last x'.r.tasks x'.r.l x'.m) v → Ev (fun k=>F L k (i:Int) x.programs x.done x.last x.r.tasks x.r.l x.m) v:=fun v hv=>by
    refine Ev.shift 1 (Ev.congr (g:=fun k=>_) ?_ (fun k=>hF L k (i:Int) x))
    refine Ev.pos (by simpa using h3) (Ev.pos (inR hlt) ?_)
    rw [rdN hlt,wr1 (i:=i) (by omega)]
    exact Ev.bind hs (Ev.neg (by simpa using ho) hv)
   rw [if_pos hm,← hc]
   have e:(i:Int) + 1 = ((i + 1:Nat):Int):=by omega
   rw [e]
   rcases ih (i + 1) x' (by omega) R' with ⟨h,g⟩ | ⟨y,hy,h,g⟩
   ·exact .inl ⟨h,step _ g⟩
   ·exact .inr ⟨y,hy,h,step _ g⟩
  ·obtain ⟨x',hs⟩:=s1 hm
   rw [if_neg hm]
   refine .inl ⟨rfl,Ev.shift 1 (Ev.congr (g:=fun k=>_) ?_ (fun k=>hF L k (i:Int) x))⟩
   refine Ev.pos (by simpa using h3) (Ev.pos (inR hlt) ?_)
   rw [rdN hlt]
   exact Ev.bind hs (Ev.pos (by simp) (Ev.pure _))
theorem ck_all {T:Nat} {p:Progs} (hp:p.length ≤ T) (L:List QG) (hl:L.length ≤ 1000) (hA:∀ e ∈ L,e.Answer.Pairs.length ≤ 100000):∀ (j i:Nat) (x:Run),i + j = L.length → RI T p i x →
  Ev (fun k=>XA L k (i:Int) x.programs x.done x.last x.r.tasks x.r.l x.m) (checkC p (L.drop i) (i:Int) (coreOf x)):=by
 intro j
 induction j with
 | zero =>
  intro i x hi R
  obtain rfl:i = L.length:=by omega
  rw [List.drop_of_length_le (Nat.le_refl _)]
  refine Ev.shift 1 ⟨0,fun k hk=>?_⟩
  show XA L (k + 1) (L.length:Int) _ _ _ _ _ _ = _
  rw [XA.eq_2]
  have:¬ ((L.length:Int) < (L.length:Int)):=by omega
  simp [this,checkC]
 | succ j ih =>
  intro i x hi R
  have hlt:i < L.length:=by omega
  have h3:(i:Int) < (L.length:Int):=by omega
  obtain ⟨s1,s2⟩:=step_ev R (by omega) hp (i:Int) L[i] (hA _ (List.getElem_mem hlt))
  rw [List.drop_eq_getElem_cons hlt,checkC]
  refine Ev.shift 1 (Ev.congr (g:=fun k=>_) ?_ (fun k=>by rw [XA.eq_2]))
  rw [rdN hlt,wr1 (i:=i) (by omega)]
  refine Ev.pos (by simpa using h3) (Ev.pos (inR hlt) ?_)
  by_cases hm:may p (coreOf x) L[i]
  ·obtain ⟨x',hs,hc,R'⟩:=s2 hm
   rw [if_pos hm]
   refine Ev.bind hs ?_
   by_cases ho:outS (coreOf x) L[i] = 0
   ·rw [if_neg (by simpa using ho),← hc]
    have e:(i:Int) + 1 = ((i + 1:Nat):Int):=by omega
    rw [e]
    exact Ev.neg (by simpa using ho) (ih (i + 1) x' (by omega) R')
   ·rw [if_pos ho]
    exact Ev.pos (by simpa using ho) (Ev.pure _)
  ·obtain ⟨x',hs⟩:=s1 hm
   rw [if_neg hm]
   exact Ev.bind hs (Ev.pos (by simp) (Ev.pure _))
theorem index_l0 (p:Progs) (hb:p.length ≤ 1000):∀ (j i:Nat),i + j = p.length → ∃ r,∀ k,j < k → ZE p k (i:Int) = some r:=by
 intro j
 induction j with
 | zero =>
  intro i hi
  refine ⟨.inr (),fun k hk=>?_⟩
  obtain ⟨k,rfl⟩:∃ k',k = k' + 1:=⟨k - 1,by omega⟩
  rw [ZE.eq_2]
  have:¬ ((i:Int) < (p.length:Int)):=by omega
  simp [this]
 | succ j ih =>
  intro i hi
  obtain ⟨r,hr⟩:=ih (i + 1) (by omega)
  have h1:i < p.length:=by omega
  have h3:(i:Int) < (p.length:Int):=by omega
  by_cases hc:((p[i].length:Int) > 64)
  ·refine ⟨.inl (i:Int),fun k hk=>?_⟩
   obtain ⟨k,rfl⟩:∃ k',k = k' + 1:=⟨k - 1,by omega⟩
   rw [ZE.eq_2]
   simp only [h3,decide_true,if_true,inR h1,and_self,rdN h1,XF,Option.bind_some,hc]
  ·refine ⟨r,fun k hk=>?_⟩
   obtain ⟨k,rfl⟩:∃ k',k = k' + 1:=⟨k - 1,by omega⟩
   rw [ZE.eq_2]
   simp only [h3,decide_true,if_true,inR h1,and_self,rdN h1,XF,Option.bind_some,hc,decide_false,Bool.false_eq_true,if_false,wr1 (i:=i) (by omega)]
   exact hr k (by omega)
theorem rMay_ev (c:Qo) (p:Progs):∃ b:Bool,Ev (fun k=>XU k c p) b ∧ (b = true → mayB c = true ∧ (p.length:Int) ≤ c.Tasks):=by
 unfold XU
 by_cases h:(mayB c && decide ((p.length:Int) ≤ c.Tasks)) = true
 ·have h2:=h
  simp only [Bool.and_eq_true,decide_eq_true_eq] at h2
  have hT:c.Tasks ≤ 6:=by have:=h2.1; simp only [mayB,Bool.and_eq_true,decide_eq_true_eq] at this; omega
  obtain ⟨r,hr⟩:=index_l0 p (by omega) p.length 0 (by omega)
  have hi:∃ q,Ev (fun k=>ZF k p) q:=by
   unfold ZF ZK
   refine ⟨_,Ev.bind (v:=Sum.elim (fun r'=>r') (fun _=>(-1:Int)) r) (Ev.bind (v:=r) ⟨p.length + 1,fun k hk=>hr k (by omega)⟩ ?_) (Ev.pure _)⟩
   cases r <;> exact Ev.pure _
  obtain ⟨q,hq⟩:=hi
  exact ⟨!q,Ev.bind ⟨9,fun k hk=>May_def k c hk⟩ (Ev.bind (v:=!q) (Ev.pos h (hq.bind (Ev.pure _))) (Ev.pure _)),fun _=>h2⟩
 ·exact ⟨false,Ev.bind ⟨9,fun k hk=>May_def k c hk⟩ (Ev.bind (v:=false) (Ev.neg h (Ev.pure _)) (Ev.pure _)),fun h=>by cases h⟩
theorem beg_ev (c:Qo) (p:Progs):Ev (fun k=>ZH k c p) (.inl ()) ∨ (mayB c = true ∧ p.length ≤ c.Tasks.toNat ∧ ∃ x0:Run,RI c.Tasks.toNat p 0 x0 ∧ (x0.m = newS c ∧ x0.done = [] ∧ x0.r.tasks = List.replicate c.Tasks.toNat ⟨0,0⟩) ∧ Ev (fun k=>ZH k c p) (.inr (.inl x0))):=by
 obtain ⟨b,hb,hb2⟩:=rMay_ev c p
 cases b with
 | false =>
  have h0:Ev (fun k=>ZH k c p) (.inl ()):=by
   unfold ZH
   exact Ev.bind hb (Ev.pos rfl (Ev.pure _))
  exact .inl h0
 | true =>
  obtain ⟨hm,hp⟩:=hb2 rfl
  have hm2:=hm
  simp only [mayB,Bool.and_eq_true,decide_eq_true_eq] at hm2
  have hT:1 ≤ c.Tasks ∧ c.Tasks ≤ 6:=by omega
  generalize hx0:(⟨p,⟨List.replicate c.Tasks.toNat (⟨0,0⟩:Z3),[]⟩,newS c,[],List.replicate c.Tasks.toNat (0:Int)⟩:Run) = x0
  have hbeg:Ev (fun k=>ZH k c p) (.inr (.inl x0)):=by
   unfold ZH
   refine Ev.bind hb (Ev.neg (by simp) ?_)
   refine Ev.bind (v:=.inr ⟨List.replicate c.Tasks.toNat (⟨0,0⟩:Z3),[]⟩) (Ev.all fun k=>?_) ?_
   ·unfold XZ
    rw [if_neg (by simp; omega),if_pos (by omega)]
   ·have hnew:Ev (fun k=>Yk k c) (.inr (newS c)):=⟨9,fun k hk=>by show Yk k c = _; rw [New_eq k hk c,hm]; rfl⟩
    refine Ev.bind hnew ?_
    rw [← hx0]
    exact Ev.pos (by omega) (Ev.pure _)
  have RI0:RI c.Tasks.toNat p 0 x0:=by
   rw [← hx0]
   refine ⟨rfl,⟨by simp,fun t h=>by simp,fun t h=>by simp,by simp⟩,by simp,Inv.new c,by simp,(fun d hd=>by cases hd),fun u hu h2=>?_⟩
   have h2:(rd (List.replicate c.Tasks.toNat (⟨0,0⟩:Z3)) (u:Int)).at_ = 2:=h2
   rw [rdN (by simpa using hu)] at h2
   simp at h2
  exact .inr ⟨hm,by omega,x0,RI0,by rw [← hx0]; exact ⟨rfl,rfl,rfl⟩,hbeg⟩
end Go.Proofs.YtnjbjpaiepefoaaDoor
