import Derived.Test.YtnjbjpaiepefoaaDoorOpnp2
import Derived.Test.YtnjbjpaiepefoaaDoorGp2LReplayBare
import Derived.Test.YtnjbjpaiepefoaaDoorPureG
namespace Go.Proofs.YtnjbjpaiepefoaaDoor
open Go Go.RowKit
set_option linter.unusedVariables false
set_option linter.unusedSimpArgs false
set_option maxRecDepth 100000
theorem owned_AO_l0_eq (l:List QG) (hl:l.length ≤ 9000) (hA:∀ e ∈ l,e.Answer.Pairs.length ≤ 4398046511104):∀ (j i:Nat) (out:List QG),i + j = l.length → out.length = i → ∀ k,j < k → Yw l k out (i:Int) = some (out ++ l.drop i):=by
 intro j
 induction j with
 | zero =>
  intro i out hi ho k hk
  obtain ⟨k,rfl⟩:∃ q,k = q + 1:=⟨k - 1,by omega⟩
  rw [Yw.eq_2,if_neg (by simp; omega),List.drop_of_length_le (by omega),List.append_nil]
 | succ j ih =>
  intro i out hi ho k hk
  obtain ⟨k,rfl⟩:∃ q,k = q + 1:=⟨k - 1,by omega⟩
  have hlt:i < l.length:=by omega
  rw [Yw.eq_2,if_pos (by simpa using hlt),if_pos (inR hlt),rdN hlt,own_id _ (hA _ (List.getElem_mem hlt)),Option.bind_some,if_pos (by simp; omega),wr1 (by omega),ih (i + 1) _ (by omega) (by simp; omega) k (by omega),List.drop_eq_getElem_cons hlt]
  simp
theorem Bare_AO_ev (l:List QG) (hl:l.length ≤ 9000) (hA:∀ e ∈ l,e.Answer.Pairs.length ≤ 4398046511104):Ev (fun k=>XR k l) (bareL l):=by
 refine ⟨10000,fun k hk=>?_⟩
 show XR k l = _
 have h:Yw l k [] (0:Int) = some l:=owned_AO_l0_eq l hl hA l.length 0 [] (by omega) rfl k (by omega)
 unfold XR Qn ZD XJ
 rw [h,Option.bind_some,Option.bind_some]
 have g:=del_all (P:=Ys) (p:=fun x=>x.What == 2) (fun _ _=>rfl) (F1:=Q7 l) (fun _ _=>rfl) (F:=Qz) (fun _ _ _ _=>rfl) hl (k:=k) (by omega)
 rw [g]; rfl
theorem check_inl (p:Progs):∀ (l:List QG) (a:Int) (x:Core) (r:Int × Int),checkC p l a x = .inl r → r.2 ≠ 0
 | [],_,_,_,h=>by cases h
 | e :: t,a,x,r,h=>by
  unfold checkC at h
  by_cases c:may p x e
  ·rw [if_pos c] at h
   by_cases o:outS x e ≠ 0
   ·rw [if_pos o] at h; cases h; exact o
   ·rw [if_neg o] at h; exact check_inl p t _ _ r h
  ·rw [if_neg c] at h; cases h; exact (show ¬ (4:Int) = 0 by decide)
theorem madeL_all (P:Qf → Prop):∀ (D:List ZL) (l:List QG),(∀ e ∈ l,P e.Answer) → (∀ d ∈ D,P d.Answer) → ∀ e ∈ madeL D l,P e.Answer
 | [],_,h,_=>h
 | d :: D,l,h,g=>madeL_all P D (putA l d) (fun e he=>by
   unfold putA at he
   split at he
   ·rcases List.mem_or_eq_of_mem_set he with h1 | h1
    ·exact h e h1
    ·rw [h1]; exact g d List.mem_cons_self
   ·exact h e he) fun z hz=>g z (List.mem_cons_of_mem _ hz)
section
variable {c:Qo} {p:Progs} {x0:Run}
theorem G_fits (hm:mayB c = true) (hb:Ev (fun k=>ZH k c p) (.inr (.inl x0))) (R:RI c.Tasks.toNat p 0 x0) (htk:x0.r.tasks = List.replicate c.Tasks.toNat ⟨0,0⟩) (hp:p.length ≤ c.Tasks.toNat) {b:Evs} (hl:b.length ≤ 24) (hA:∀ e ∈ b,e.Answer.Pairs.length ≤ 100000)
  (h:G p (retAns b) b (List.replicate c.Tasks.toNat ⟨0,0⟩) (newS c)):Ev (fun k=>YD k c p b) (true,0):=by
 have hT:p.length ≤ (List.replicate c.Tasks.toNat (⟨0,0⟩:Z3)).length:=by rw [List.length_replicate]; exact hp
 obtain ⟨y,hy⟩:=h.over hT 0 (coreOf x0) (by show x0.r.tasks = _; rw [htk]; simp [unm])
 obtain ⟨f,hf,hf2⟩:=Fits_ev hm hb R hp hl hA (fun e he=>(h.good e he).2) (fun e he=>(h.good e he).1.1) hy
 have h2:=h.toFF hT
 have e:opn (List.replicate c.Tasks.toNat (⟨0,0⟩:Z3)) = List.replicate c.Tasks.toNat (-1):=by simp [opn]
 rw [e] at h2
 rw [hf2.2 h2] at hf
 exact hf
theorem check_fits (hm:mayB c = true) (hb:Ev (fun k=>ZH k c p) (.inr (.inl x0))) (R:RI c.Tasks.toNat p 0 x0) (hx:x0.m = newS c) (htk:x0.r.tasks = List.replicate c.Tasks.toNat ⟨0,0⟩) (hp:p.length ≤ c.Tasks.toNat) {X:Evs} (hC:checkC p X 0 (coreOf x0) = .inr ()) :
  G p (retAns (bareL X)) (bareL X) (List.replicate c.Tasks.toNat ⟨0,0⟩) (newS c):=by
 have h:=check_G (A:=retAns (bareL X)) hp (L:=X) X 0 (coreOf x0) (by simp) (KInv0 R) hC (fun t c _ _ _=>retAns_bare t c X)
 have e1:(coreOf x0).tasks = List.replicate c.Tasks.toNat ⟨0,0⟩:=htk
 have e2:(coreOf x0).m = newS c:=hx
 rw [e1,e2] at h
 exact h
end
theorem bare_mem {X:Evs} {e:QG} (h:e ∈ bareL X):e ∈ X:=(List.mem_filter.1 h).1
theorem pure_ReplayBare (a0:Qo) (a1:(List (List QW))) (a2:(List QG)) (a3:Int) (_:X9 a0) (w1:(wfSl (wfSl VO)) a1) (w2:(wfSl VW) a2) (_:(wfInt .i64) a3):∃ k,YZ k a0 a1 a2 a3 = some true:=by
 refine Ev.ex (f:=fun k=>YZ k a0 a1 a2 a3) ?_
 have mx:maxLen ≤ 9223372036854775807:=by decide
 obtain ⟨b,hb,hb2⟩:=large_ev a1 a2 (Nat.le_trans w1.1 mx) (fun e he=>Nat.le_trans (w1.2 e he).1 mx) (Nat.le_trans w2.1 mx) (fun e he=>Nat.le_trans (w2.2 e he).2.2.2.2.2.2.1 mx)
 unfold YZ
 refine works_ev.bind (Ev.bind (v:=b) (Ev.neg (by simp) (hb.bind (Ev.pure _))) ?_)
 by_cases h:b = true
 ·exact Ev.pos h (works_ev.bind (Ev.pure _))
 refine Ev.neg h ?_
 obtain ⟨hl0,hA0⟩:=hb2 (by simpa using h)
 have hl:a2.length ≤ 1000:=by omega
 have hA:∀ e ∈ a2,e.Answer.Pairs.length ≤ 100000:=fun e he=>by have:=hA0 e he; omega
 have main:∃ X,Ev (fun k=>YQ k a0 a1 a2) X ∧ X.length ≤ 1000 ∧ (∀ e ∈ X,e.Answer.Pairs.length ≤ 100000) ∧ ∃ r,Ev (fun k=>Zi k a0 a1 X) r ∧ (r.2 ≠ 0 ∨ (r.2 = 0 ∧ ∃ x0:Run,mayB a0 = true ∧ a1.length ≤ a0.Tasks.toNat ∧ RI a0.Tasks.toNat a1 0 x0 ∧ x0.m = newS a0 ∧ x0.r.tasks = List.replicate a0.Tasks.toNat ⟨0,0⟩ ∧ Ev (fun k=>ZH k a0 a1) (.inr (.inl x0)) ∧ checkC a1 X 0 (coreOf x0) = .inr ())):=by
  rcases beg_ev a0 a1 with hbeg | ⟨hm,hpT,x0,R,⟨hxm,_,htk⟩,hbeg⟩
  ·have hAn:Ev (fun k=>XG k a0 a1 a2) []:=by unfold XG; exact (over_v_no hbeg).bind (Ev.pure _)
   exact ⟨a2,made_some hl (by simp) (fun d h=>by cases h) hAn,hl,hA,_,Check_no hbeg,.inl (show ¬ (1:Int) = 0 by decide)⟩
  ·have chk:∀ X:Evs,X.length ≤ 1000 → (∀ e ∈ X,e.Answer.Pairs.length ≤ 100000) → ∃ r,Ev (fun k=>Zi k a0 a1 X) r ∧ (r.2 ≠ 0 ∨ (r.2 = 0 ∧ ∃ x0:Run,mayB a0 = true ∧ a1.length ≤ a0.Tasks.toNat ∧ RI a0.Tasks.toNat a1 0 x0 ∧ x0.m = newS a0 ∧ x0.r.tasks = List.replicate a0.Tasks.toNat ⟨0,0⟩ ∧ Ev (fun k=>ZH k a0 a1) (.inr (.inl x0)) ∧ checkC a1 X 0 (coreOf x0) = .inr ())):=fun X hX hXA=>by
    have hC:=Check_ev hbeg R hpT hX hXA
    cases hq:checkC a1 X 0 (coreOf x0) with
    | inl r=>rw [hq] at hC; exact ⟨_,hC,.inl (check_inl a1 X 0 _ r hq)⟩
    | inr u=>rw [hq] at hC; exact ⟨_,hC,.inr ⟨rfl,x0,hm,hpT,R,hxm,htk,hbeg,hq⟩⟩
   rcases over_v_ev hbeg R hpT hl hA with ⟨h,g⟩ | ⟨y,Ry,h,g⟩
   ·have hAn:Ev (fun k=>XG k a0 a1 a2) []:=by unfold XG; exact g.bind (Ev.pure _)
    exact ⟨a2,made_some hl (by simp) (fun d h=>by cases h) hAn,hl,hA,chk a2 hl hA⟩
   ·obtain ⟨Kend,_,_⟩:=stay hpT a2 0 _ (coreOf y) (by simp) (Nat.zero_le _) (KInv0 (L:=a2) R) h
    have hda:∀ d ∈ y.done,d.Answer.Pairs.length ≤ 100000:=fun d hd=>by have:=(Ry.dn d hd).2; omega
    have hXA:=madeL_all (fun a=>a.Pairs.length ≤ 100000) y.done a2 hA hda
    have hXl:(madeL y.done a2).length ≤ 1000:=by rw [madeL_len]; exact hl
    exact ⟨madeL y.done a2,made_some hl (by have:=Ry.dl; omega) Kend.bk (Answers_ev g),hXl,hXA,chk _ hXl hXA⟩
 obtain ⟨X,hX,hXl,hXA,r,hr,hrr⟩:=main
 have hB:=Bare_AO_ev X (by omega) (fun e he=>by have:=hXA e he; omega)
 refine hX.bind (hr.bind (hB.bind ?_))
 by_cases hq:(((r.2 != (0:Int)) || (decide (((bareL X).length:Int) > (20:Int)))) || (decide (a0.Tasks > (4:Int)))) = true
 ·exact Ev.pos hq (Ev.pure _)
 refine Ev.neg hq ?_
 simp only [Bool.or_eq_true,bne_iff_ne,ne_eq,decide_eq_true_eq,not_or,Decidable.not_not] at hq
 obtain ⟨⟨hr0,h20⟩,_⟩:=hq
 rcases hrr with hrr | ⟨_,x0,hm,hpT,R,hxm,htk,hbeg,hck⟩
 ·exact absurd hr0 hrr
 have hG:=check_fits hm hbeg R hxm htk hpT hck
 have hbA:∀ e ∈ bareL X,e.Answer.Pairs.length ≤ 100000:=fun e he=>hXA e (bare_mem he)
 have hF:=G_fits hm hbeg R htk hpT (b:=bareL X) (by omega) hbA hG
 refine hF.bind (Ev.neg (by decide) ?_)
 by_cases hz:(bareL X).length = 0
 ·exact Ev.pos (by simp [hz]) (Ev.pure _)
 refine Ev.neg (by simpa using hz) ?_
 obtain ⟨j,hj⟩:=bare_take X ((bareL X).length - 1)
 have hG1:=check_fits hm hbeg R hxm htk hpT (X:=X.take j) (check_take a1 X j 0 _ hck)
 rw [← hj] at hG1
 have hF1:=G_fits hm hbeg R htk hpT (b:=(bareL X).take ((bareL X).length - 1)) (by simp; omega) (fun e he=>hbA e (List.mem_of_mem_take he)) hG1
 have hbase:=hG
 generalize bareL X = B at *
 have ew:IntKind.i64.wrap ((B.length:Int) - (1:Int)) = ((B.length - 1:Nat):Int):=by rw [wr (by omega) (by omega)]; omega
 obtain ⟨m,hm1,n1,n2⟩:=u64_pick a3 (n:=B.length) (by omega) (by omega)
 have e1:IntKind.i64.wrap ((m:Int) + (1:Int)) = ((m + 1:Nat):Int):=by rw [wr (by omega) (by omega)]; omega
 try dsimp only
 rw [ew,n2,e1]
 refine Ev.chk ⟨by omega,by omega⟩ (hF1.bind (Ev.neg (by decide) (Ev.chk n1 ?_)))
 by_cases h1:m + 1 < B.length
 case neg=>exact Ev.bind (v:=true) (Ev.pos (by simp; omega) (Ev.pure _)) (Ev.pos rfl (Ev.pure _))
 refine Ev.bind (v:=B[m].Task == B[m + 1].Task) (Ev.neg (by simp; omega) (Ev.chk (inR hm1) (Ev.chk (inR h1) ((Ev.pure _).eq (by rw [rdN hm1,rdN h1]))))) ?_
 by_cases ht:(B[m].Task == B[m + 1].Task) = true
 ·exact Ev.pos ht (Ev.pure _)
 refine Ev.neg ht (Ev.chk (inR hm1) ?_)
 rw [rdN hm1,rdN h1]
 refine Ev.bind (v:=B[m].What != 3 && B[m + 1].What != 1) ?_ (Ev.bind (v:=(B[m].What != 3 && B[m + 1].What != 1) || (B[m].What == 1 && B[m + 1].What == 3)) ?_ ?_)
 ·by_cases w:B[m].What = 3
  ·exact (Ev.neg (by simpa using w) (Ev.pure _)).eq (by simp [w])
  ·exact (Ev.pos (by simpa using w) (Ev.chk (inR h1) (Ev.pure _))).eq (by simp [w])
 ·cases hv:(B[m].What != 3 && B[m + 1].What != 1)
  ·refine Ev.neg (by simp) (Ev.chk (inR hm1) (Ev.bind (v:=B[m].What == 1 && B[m + 1].What == 3) ?_ ((Ev.pure _).eq (by simp))))
   by_cases w:B[m].What = 1
   ·exact (Ev.pos (by simpa using w) (Ev.chk (inR h1) (Ev.pure _))).eq (by simp [w])
   ·exact (Ev.neg (by simpa using w) (Ev.pure _)).eq (by simp [w])
  ·exact (Ev.pos rfl (Ev.pure _)).eq (by simp)
 by_cases hw:((B[m].What != 3 && B[m + 1].What != 1) || (B[m].What == 1 && B[m + 1].What == 3)) = true
 ·exact Ev.pos hw (Ev.pure _)
 refine Ev.neg hw (Ev.chk (inR h1) (Ev.chk (inR hm1) (Ev.bind (Ev.pure _) (Ev.chk (inR hm1) (Ev.bind (Ev.pure _) (Ev.chk ⟨by omega,by rw [List.length_set]; omega⟩ (Ev.bind (Ev.pure _) ?_)))))))
 have tr:B = B.take m ++ B[m] :: B[m + 1] :: B.drop (m + 2):=by
  rw [← List.drop_eq_getElem_cons h1,← List.drop_eq_getElem_cons hm1,List.take_append_drop]
 have sw:List.set (List.set B ((m:Int)).toNat ⟨B[m + 1].What,B[m + 1].Task,B[m + 1].Call,⟨B[m + 1].Answer.Err,B[m + 1].Answer.Found,B[m + 1].Answer.Value,B[m + 1].Answer.Pairs⟩⟩) (((m + 1:Nat):Int)).toNat ⟨B[m].What,B[m].Task,B[m].Call,⟨B[m].Answer.Err,B[m].Answer.Found,B[m].Answer.Value,B[m].Answer.Pairs⟩⟩ = B.take m ++ B[m + 1] :: B[m] :: B.drop (m + 2):=by
  show List.set (List.set B m B[m + 1]) (m + 1) B[m] = _
  apply List.ext_getElem
  ·simp; omega
  ·intro i i1 i2
   rw [List.getElem_set,List.getElem_set]
   have il:i < B.length:=by simpa using i1
   rw [List.getElem_append]
   split
   ·next q=>subst q; rw [dif_neg (by simp; omega)]; simp [show min m B.length = m by omega]
   ·split
    ·next q=>subst q; rw [dif_neg (by simp; omega)]; simp [show min m B.length = m by omega]
    ·by_cases q:i < m
     ·rw [dif_pos (by simp; omega)]; simp
     ·rw [dif_neg (by simp; omega)]
      obtain ⟨d,rfl⟩:∃ d,i = m + 2 + d:=⟨i - (m + 2),by omega⟩
      have:m + 2 + d - (B.take m).length = d + 1 + 1:=by simp; omega
      simp only [this,List.getElem_cons_succ,List.getElem_drop]
 have hne:B[m].Task ≠ B[m + 1].Task:=by simpa using ht
 have g1:=(hbase.good B[m] (List.getElem_mem hm1)).1
 have g2:=(hbase.good B[m + 1] (List.getElem_mem h1)).1
 have hww:B[m].What = 3 ∨ B[m + 1].What = 1:=by
  simp only [Bool.or_eq_true,Bool.and_eq_true,bne_iff_ne,ne_eq,beq_iff_eq,not_or,not_and,Decidable.not_not] at hw
  by_cases q:B[m].What = 3
  ·exact .inl q
  ·exact .inr (hw.1 q)
 have hT:a1.length ≤ (List.replicate a0.Tasks.toNat (⟨0,0⟩:Z3)).length:=by rw [List.length_replicate]; exact hpT
 have hA2:retAns B = retAns (B.take m ++ B[m + 1] :: B[m] :: B.drop (m + 2)):=by
  funext t c
  have h:=find_swap (q:=isRet t c) (e1:=B[m]) (e2:=B[m + 1]) (fun h=>hne ((isRet_of h.1).2.1.trans (isRet_of h.2).2.1.symm)) (B.drop (m + 2)) (B.take m)
  rw [← tr] at h
  unfold retAns
  rw [h]
 have hG2:G a1 (retAns B) (B.take m ++ B[m + 1] :: B[m] :: B.drop (m + 2)) (List.replicate a0.Tasks.toNat ⟨0,0⟩) (newS a0) :=
  hbase.app (Y:=B[m] :: B[m + 1] :: B.drop (m + 2)) (fun T m' hT' h=>h.swap hne hww hT') (B.take m) hT tr
 rw [hA2] at hG2
 have hF2:=G_fits hm hbeg R htk hpT (b:=B.take m ++ B[m + 1] :: B[m] :: B.drop (m + 2)) (by rw [← sw]; simp; omega) (fun e he=>by
  have:e ∈ B:=by
   rw [tr]
   simp only [List.mem_append,List.mem_cons] at he ⊢
   rcases he with h | h | h | h
   ·exact .inl h
   ·exact .inr (.inr (.inl h))
   ·exact .inr (.inl h)
   ·exact .inr (.inr (.inr h))
  exact hbA e this) hG2
 rw [← sw] at hF2
 exact hF2.bind (Ev.pure _)
end Go.Proofs.YtnjbjpaiepefoaaDoor
