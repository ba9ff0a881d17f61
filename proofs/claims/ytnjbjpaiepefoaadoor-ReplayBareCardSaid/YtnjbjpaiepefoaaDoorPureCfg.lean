import Derived.Test.YtnjbjpaiepefoaaDoorPureHist
namespace Go.Proofs.YtnjbjpaiepefoaaDoor
open Go Go.RowKit
set_option linter.unusedVariables false
set_option linter.unusedSimpArgs false
set_option maxRecDepth 100000
theorem u64_range (x:Int):0 ≤ IntKind.u64.wrap x:=by
 simp [IntKind.wrap,IntKind.bits,IntKind.signed]
 omega
theorem u64_id {x:Int} (h:0 ≤ x) (h':x ≤ 18446744073709551615):IntKind.u64.wrap x = x:=by
 simp [IntKind.wrap,IntKind.bits,IntKind.signed]
 omega
theorem u64_pick (x:Int) {n:Nat} (h:0 < n) (h':n ≤ 100000):∃ m:Nat,m < n ∧ IntKind.u64.wrap (n:Int) ≠ 0 ∧ IntKind.i64.wrap (Int.tmod (IntKind.u64.wrap x) (IntKind.u64.wrap (n:Int))) = (m:Int):=by
 have hm0:=u64_range x
 have hm1:Int.tmod (IntKind.u64.wrap x) (n:Int) < (n:Int):=Int.tmod_lt_of_pos _ (by omega)
 have hm2:0 ≤ Int.tmod (IntKind.u64.wrap x) (n:Int):=Int.tmod_nonneg _ hm0
 rw [u64_id (x:=(n:Int)) (by omega) (by omega)]
 obtain ⟨m,hm⟩:=Int.eq_ofNat_of_zero_le hm2
 rw [hm,wr (by omega) (by omega)]
 exact ⟨m,by omega,by omega,rfl⟩
theorem mnI (n:Nat):0 ≤ imin (9000:Int) (n:Int) ∧ imin (9000:Int) (n:Int) ≤ 9000 ∧ (imin (9000:Int) (n:Int) < 9000 → n < 9000):=by unfold imin; split <;> omega
theorem mnI1 (n:Nat):0 ≤ imin (1000:Int) (n:Int) ∧ imin (1000:Int) (n:Int) ≤ 1000 ∧ (imin (1000:Int) (n:Int) < 300 → n < 300):=by unfold imin; split <;> omega
theorem large_l4_ev (L:List QG) (n:Nat) (hn:n < L.length) (hb:L[n].Answer.Pairs.length ≤ 9223372036854775807):∀ (j i:Nat) (x:Int),i + j = L[n].Answer.Pairs.length → 0 ≤ x → x ≤ 100000 → ∃ r:Int,Ev (fun k=>YW L (n:Int) k x (i:Int)) r ∧ x ≤ r ∧ r ≤ 100000:=by
 intro j
 induction j with
 | zero =>
  intro i x hi h0 h1
  refine ⟨x,Ev.shift 1 ⟨0,fun k _=>?_⟩,by omega,h1⟩
  show YW L (n:Int) (k + 1) x (i:Int) = some x
  have:¬ ((i:Int) < (L[n].Answer.Pairs.length:Int)):=by omega
  rw [YW.eq_2,if_pos (inR hn),rdN hn]
  simp [this]
 | succ j ih =>
  intro i x hi h0 h1
  have hlt:i < L[n].Answer.Pairs.length:=by omega
  have h3:(i:Int) < (L[n].Answer.Pairs.length:Int):=by omega
  by_cases hx:x < 9000
  ·have m1:=mnI (rd L[n].Answer.Pairs (i:Int)).Key.length
   have m2:=mnI (rd L[n].Answer.Pairs (i:Int)).Value.length
   obtain ⟨r,hr,a1,a2⟩:=ih (i + 1) (x + imin (9000:Int) ((rd L[n].Answer.Pairs (i:Int)).Key.length:Int) + imin (9000:Int) ((rd L[n].Answer.Pairs (i:Int)).Value.length:Int)) (by omega) (by omega) (by omega)
   refine ⟨r,Ev.shift 1 (hr.congr fun k=>?_),by omega,a2⟩
   show YW L (n:Int) (k + 1) x (i:Int) = _
   rw [YW.eq_2]
   simp only [h3,hx,decide_true,Bool.and_self,if_true,inR hn,inR hlt,and_self,rdN hn,wr1 (i:=i) (by omega)]
   rw [wr (x:=x + imin (9000:Int) ((rd L[n].Answer.Pairs (i:Int)).Key.length:Int)) (by omega) (by omega),wr (x:=x + _ + _) (by omega) (by omega)]
  ·refine ⟨x,Ev.shift 1 ⟨0,fun k _=>?_⟩,by omega,h1⟩
   show YW L (n:Int) (k + 1) x (i:Int) = some x
   rw [YW.eq_2,if_pos (inR hn),rdN hn]
   simp [hx]
theorem large_l2_ev (L:List QG) (hl:L.length ≤ 9223372036854775807) (hb:∀ e ∈ L,e.Answer.Pairs.length ≤ 9223372036854775807):∀ (j i:Nat) (x:Int),i + j = L.length → 0 ≤ x → x ≤ 100000 → ∃ r:Int,Ev (fun k=>YX L k x (i:Int)) r ∧ x ≤ r ∧ r ≤ 100000 ∧ (r < 9000 → ∀ e ∈ L.drop i,e.Answer.Pairs.length < 9000):=by
 intro j
 induction j with
 | zero =>
  intro i x hi h0 h1
  refine ⟨x,Ev.shift 1 ⟨0,fun k _=>?_⟩,by omega,h1,fun _ e he=>by rw [List.drop_of_length_le (by omega)] at he; cases he⟩
  show YX L (k + 1) x (i:Int) = some x
  have:¬ ((i:Int) < (L.length:Int)):=by omega
  rw [YX.eq_2]
  simp [this]
 | succ j ih =>
  intro i x hi h0 h1
  have hlt:i < L.length:=by omega
  have h3:(i:Int) < (L.length:Int):=by omega
  by_cases hx:x < 9000
  ·have m1:=mnI L[i].Answer.Value.length
   have m2:=mnI L[i].Answer.Pairs.length
   obtain ⟨q,hq,q1,q2⟩:=large_l4_ev L i hlt (hb _ (List.getElem_mem hlt)) L[i].Answer.Pairs.length 0 (x + imin (9000:Int) (L[i].Answer.Value.length:Int) + imin (9000:Int) (L[i].Answer.Pairs.length:Int)) (by omega) (by omega) (by omega)
   obtain ⟨r,hr,a1,a2,a3⟩:=ih (i + 1) q (by omega) (by omega) (by omega)
   refine ⟨r,Ev.shift 1 (Ev.congr (g:=fun k=>(YW L (i:Int) k (x + imin (9000:Int) (L[i].Answer.Value.length:Int) + imin (9000:Int) (L[i].Answer.Pairs.length:Int)) ((0:Nat):Int)).bind fun y=>YX L k y ((i + 1:Nat):Int)) (hq.bind hr) fun k=>?_),by omega,a2,fun g e he=>?_⟩
   ·show YX L (k + 1) x (i:Int) = _
    rw [YX.eq_2]
    simp only [h3,hx,decide_true,Bool.and_self,if_true,inR hlt,and_self,rdN hlt,wr1 (i:=i) (by omega)]
    rw [wr (x:=x + imin (9000:Int) (L[i].Answer.Value.length:Int)) (by omega) (by omega),wr (x:=x + _ + _) (by omega) (by omega)]
    rfl
   ·rw [List.drop_eq_getElem_cons hlt] at he
    rcases List.mem_cons.1 he with rfl | he
    ·exact m2.2.2 (by omega)
    ·exact a3 g e he
  ·refine ⟨x,Ev.shift 1 ⟨0,fun k _=>?_⟩,by omega,h1,fun g=>absurd g hx⟩
   show YX L (k + 1) x (i:Int) = some x
   rw [YX.eq_2]
   simp [hx]
theorem large_l9_ev (L:Progs) (n:Nat) (hn:n < L.length) (hb:L[n].length ≤ 9223372036854775807):∀ (j i:Nat) (x:Int),i + j = L[n].length → 0 ≤ x → x ≤ 100000 → ∃ r:Int,Ev (fun k=>YU L (n:Int) k x (i:Int)) r ∧ x ≤ r ∧ r ≤ 100000:=by
 intro j
 induction j with
 | zero =>
  intro i x hi h0 h1
  refine ⟨x,Ev.shift 1 ⟨0,fun k _=>?_⟩,by omega,h1⟩
  show YU L (n:Int) (k + 1) x (i:Int) = some x
  have:¬ ((i:Int) < (L[n].length:Int)):=by omega
  rw [YU.eq_2,if_pos (inR hn),rdN hn]
  simp [this]
 | succ j ih =>
  intro i x hi h0 h1
  have hlt:i < L[n].length:=by omega
  have h3:(i:Int) < (L[n].length:Int):=by omega
  by_cases hx:x < 9000
  ·have m1:=mnI (rd L[n] (i:Int)).Key.length
   have m2:=mnI (rd L[n] (i:Int)).End.length
   have m3:=mnI (rd L[n] (i:Int)).Value.length
   obtain ⟨r,hr,a1,a2⟩:=ih (i + 1) (x + 5 + imin (9000:Int) ((rd L[n] (i:Int)).Key.length:Int) + imin (9000:Int) ((rd L[n] (i:Int)).End.length:Int) + imin (9000:Int) ((rd L[n] (i:Int)).Value.length:Int)) (by omega) (by omega) (by omega)
   refine ⟨r,Ev.shift 1 (hr.congr fun k=>?_),by omega,a2⟩
   show YU L (n:Int) (k + 1) x (i:Int) = _
   rw [YU.eq_2]
   simp only [h3,hx,decide_true,Bool.and_self,if_true,inR hn,inR hlt,and_self,rdN hn,wr1 (i:=i) (by omega)]
   rw [wr (x:=x + 5) (by omega) (by omega),wr (x:=x + 5 + imin (9000:Int) ((rd L[n] (i:Int)).Key.length:Int)) (by omega) (by omega),wr (x:=x + 5 + _ + imin (9000:Int) ((rd L[n] (i:Int)).End.length:Int)) (by omega) (by omega),wr (x:=x + 5 + _ + _ + _) (by omega) (by omega)]
  ·refine ⟨x,Ev.shift 1 ⟨0,fun k _=>?_⟩,by omega,h1⟩
   show YU L (n:Int) (k + 1) x (i:Int) = some x
   rw [YU.eq_2,if_pos (inR hn),rdN hn]
   simp [hx]
theorem large_l7_ev (L:Progs) (hl:L.length ≤ 9223372036854775807) (hb:∀ e ∈ L,e.length ≤ 9223372036854775807):∀ (j i:Nat) (x:Int),i + j = L.length → 0 ≤ x → x ≤ 100000 → ∃ r:Int,Ev (fun k=>YV L k x (i:Int)) r ∧ x ≤ r ∧ r ≤ 100000:=by
 intro j
 induction j with
 | zero =>
  intro i x hi h0 h1
  refine ⟨x,Ev.shift 1 ⟨0,fun k _=>?_⟩,by omega,h1⟩
  show YV L (k + 1) x (i:Int) = some x
  have:¬ ((i:Int) < (L.length:Int)):=by omega
  rw [YV.eq_2]
  simp [this]
 | succ j ih =>
  intro i x hi h0 h1
  have hlt:i < L.length:=by omega
  have h3:(i:Int) < (L.length:Int):=by omega
  by_cases hx:x < 9000
  ·obtain ⟨q,hq,q1,q2⟩:=large_l9_ev L i hlt (hb _ (List.getElem_mem hlt)) L[i].length 0 (x + 1) (by omega) (by omega) (by omega)
   obtain ⟨r,hr,a1,a2⟩:=ih (i + 1) q (by omega) (by omega) (by omega)
   refine ⟨r,Ev.shift 1 (Ev.congr (g:=fun k=>(YU L (i:Int) k (x + 1) ((0:Nat):Int)).bind fun y=>YV L k y ((i + 1:Nat):Int)) (hq.bind hr) fun k=>?_),by omega,a2⟩
   show YV L (k + 1) x (i:Int) = _
   rw [YV.eq_2]
   simp only [h3,hx,decide_true,Bool.and_self,if_true,wr1 (i:=i) (by omega)]
   rw [wr (x:=x + 1) (by omega) (by omega)]
   rfl
  ·refine ⟨x,Ev.shift 1 ⟨0,fun k _=>?_⟩,by omega,h1⟩
   show YV L (k + 1) x (i:Int) = some x
   rw [YV.eq_2]
   simp [hx]
theorem large_ev (p:Progs) (L:List QG) (hp:p.length ≤ 9223372036854775807) (hpp:∀ e ∈ p,e.length ≤ 9223372036854775807) (hl:L.length ≤ 9223372036854775807) (hb:∀ e ∈ L,e.Answer.Pairs.length ≤ 9223372036854775807) :
  ∃ b:Bool,Ev (fun k=>ZW k p L) b ∧ (b = false → L.length < 300 ∧ ∀ e ∈ L,e.Answer.Pairs.length < 9000):=by
 have m1:=mnI1 L.length
 obtain ⟨q,hq,q1,q2,q3⟩:=large_l2_ev L hl hb L.length 0 (30 * imin (1000:Int) (L.length:Int)) (by omega) (by omega) (by omega)
 obtain ⟨r,hr,r1,r2⟩:=large_l7_ev p hp hpp p.length 0 q (by omega) (by omega) (by omega)
 refine ⟨decide (r ≥ 9000),Ev.congr (g:=fun k=>(YX L k (30 * imin (1000:Int) (L.length:Int)) ((0:Nat):Int)).bind fun x=>(YV p k x ((0:Nat):Int)).bind fun y=>some (decide (y ≥ (9000:Int)))) (hq.bind (hr.bind (Ev.pure _))) fun k=>?_,fun h=>?_⟩
 ·unfold ZW
  rw [wr (x:=(30:Int) * imin (1000:Int) (L.length:Int)) (by omega) (by omega)]
  rfl
 ·have:¬ r ≥ 9000:=by simpa using h
  exact ⟨m1.2.2 (by omega),fun e he=>q3 (by omega) e (by rw [List.drop_zero]; exact he)⟩
theorem works_at:ZP 200 = some true:=by decide +kernel
theorem works_ev:Ev (fun k=>ZP k) true:=⟨200,fun k hk=>OLe.up (f:=fun k=>ZP k) (fun k=>ZP.mono) hk _ works_at⟩
theorem ovEq_v:OvEq Y1:=fun L k i x=>by rw [Y1.eq_2]
section
variable {c:Qo} {p:Progs} {L:List QG} {T:Nat} {x0:Run}
theorem over_v_ev (hb:Ev (fun k=>ZH k c p) (.inr (.inl x0))) (R:RI T p 0 x0) (hp:p.length ≤ T) (hl:L.length ≤ 1000) (hA:∀ e ∈ L,e.Answer.Pairs.length ≤ 100000) :
  (overC p L 0 (coreOf x0) = none ∧ Ev (fun k=>Z4 k c p L) (.inr (.inl ()))) ∨ ∃ y,RI T p L.length y ∧ overC p L 0 (coreOf x0) = some (coreOf y) ∧ Ev (fun k=>Z4 k c p L) (.inr (.inr y)):=by
 rcases ov_all hp Y1 ovEq_v L hl hA L.length 0 x0 (by omega) R with ⟨h,g⟩ | ⟨y,hy,h,g⟩
 ·refine .inl ⟨h,?_⟩
  unfold Z4
  exact hb.bind (g.bind (Ev.pure _))
 ·refine .inr ⟨y,hy,h,?_⟩
  unfold Z4
  exact hb.bind (g.bind (Ev.pure _))
theorem over_v_no (hb:Ev (fun k=>ZH k c p) (.inl ())):Ev (fun k=>Z4 k c p L) (.inl ()):=by
 unfold Z4
 exact hb.bind (Ev.pure _)
def ckv:(Int × Int) ⊕ Unit → Int × Int
 | .inl r=>r
 | .inr _=>(-1,0)
theorem Check_ev (hb:Ev (fun k=>ZH k c p) (.inr (.inl x0))) (R:RI T p 0 x0) (hp:p.length ≤ T) (hl:L.length ≤ 1000) (hA:∀ e ∈ L,e.Answer.Pairs.length ≤ 100000) :
  Ev (fun k=>Zi k c p L) (ckv (checkC p L 0 (coreOf x0))):=by
 have g:=ck_all hp L hl hA L.length 0 x0 (by omega) R
 rw [List.drop_zero] at g
 unfold Zi
 refine hb.bind (Ev.bind g ?_)
 show Ev (fun _=>Sum.elim _ _ (checkC p L ((0:Nat):Int) (coreOf x0))) (ckv (checkC p L ((0:Nat):Int) (coreOf x0)))
 cases checkC p L ((0:Nat):Int) (coreOf x0) <;> exact Ev.pure _
theorem Check_no (hb:Ev (fun k=>ZH k c p) (.inl ())):Ev (fun k=>Zi k c p L) (-1,1):=by
 unfold Zi
 exact hb.bind (Ev.pure _)
theorem Answers_ev {y:Run} (h:Ev (fun k=>Z4 k c p L) (.inr (.inr y))):Ev (fun k=>XG k c p L) y.done:=by
 unfold XG
 exact h.bind (Ev.pure _)
end
end Go.Proofs.YtnjbjpaiepefoaaDoor
