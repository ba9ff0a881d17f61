import Derived.Test.YtnjbjpaiepefoaaDoorOpnp2
import Derived.Test.YtnjbjpaiepefoaaDoorGp2LReplayOne
import Derived.Test.YtnjbjpaiepefoaaDoorPureFits
import Derived.Test.YtnjbjpaiepefoaaDoorPureBare
namespace Go.Proofs.YtnjbjpaiepefoaaDoor
open Go Go.RowKit
set_option linter.unusedVariables false
set_option linter.unusedSimpArgs false
set_option maxRecDepth 100000
theorem refAns_l0 (a b:Qf) (hl:a.Pairs.length = b.Pairs.length) (hb:a.Pairs.length ≤ 1000000):∀ (j i:Nat),i + j = a.Pairs.length → ∀ k,j < k → YI a b k (i:Int) = some (if a.Pairs.drop i = b.Pairs.drop i then .inr () else .inl false):=by
 intro j
 induction j with
 | zero =>
  intro i hi k hk
  obtain ⟨k,rfl⟩:∃ k',k = k' + 1:=⟨k - 1,by omega⟩
  rw [YI.eq_2,List.drop_of_length_le (by omega),List.drop_of_length_le (by omega),if_neg (by simp; omega)]
  simp
 | succ j ih =>
  intro i hi k hk
  obtain ⟨k,rfl⟩:∃ k',k = k' + 1:=⟨k - 1,by omega⟩
  have h1:i < a.Pairs.length:=by omega
  have h2:i < b.Pairs.length:=by omega
  rw [YI.eq_2,List.drop_eq_getElem_cons h1,List.drop_eq_getElem_cons h2,if_pos (by simpa using h1),if_pos (inR h1),if_pos (inR h2),rdN h1,rdN h2,pair_beq,wr1 (by omega)]
  by_cases hc:a.Pairs[i] = b.Pairs[i]
  ·simp only [hc,decide_true,Bool.not_true,Bool.false_eq_true,if_false,List.cons.injEq,true_and]
   exact ih (i + 1) (by omega) k (by omega)
  ·have hn:¬ (a.Pairs[i] :: a.Pairs.drop (i + 1) = b.Pairs[i] :: b.Pairs.drop (i + 1)):=fun e=>hc (List.cons.inj e).1
   rw [if_neg hn,if_pos (by simpa using hc)]
theorem refAns_ev (a b:Qf) (hb:a.Pairs.length ≤ 1000000):Ev (fun k=>Yh k a b) (decide (a = b)):=by
 refine ⟨a.Pairs.length + 1,fun k hk=>?_⟩
 have key:a = b ↔ a.Err = b.Err ∧ a.Found = b.Found ∧ a.Value = b.Value ∧ a.Pairs = b.Pairs:=by
  cases a; cases b; simp [Qf.mk.injEq]
 have sn:sbin .neq a.Value b.Value = !decide (a.Value = b.Value):=by
  simp only [sbin]
  by_cases h:a.Value = b.Value <;> simp [h]
 show Yh k a b = _
 unfold Yh
 rw [sn]
 by_cases h:a.Err = b.Err ∧ a.Found = b.Found ∧ a.Value = b.Value ∧ a.Pairs.length = b.Pairs.length
 ·obtain ⟨h1,h2,h3,h4⟩:=h
  have h0:YI a b k (0:Int) = _:=refAns_l0 a b h4 hb a.Pairs.length 0 (by omega) k hk
  rw [if_neg (by simp [h1,h2,h3,h4]),h0,List.drop_zero,List.drop_zero]
  by_cases hc:a.Pairs = b.Pairs
  ·have:a = b:=key.2 ⟨h1,h2,h3,hc⟩
   simp [hc,this]
  ·have:a ≠ b:=fun e=>hc (by rw [e])
   simp [hc,this]
 ·have:a ≠ b:=fun e=>h (by rw [e]; exact ⟨rfl,rfl,rfl,rfl⟩)
  rw [if_pos (by
   simp only [Bool.or_eq_true,bne_iff_ne,ne_eq,Bool.not_eq_true',decide_eq_false_iff_not,beq_eq_false_iff_ne]
   by_cases g1:a.Err = b.Err
   ·by_cases g2:a.Found = b.Found
    ·by_cases g3:a.Value = b.Value
     ·exact .inr (fun e=>h ⟨g1,g2,g3,by omega⟩)
     ·exact .inl (.inr g3)
    ·exact .inl (.inl (.inr g2))
   ·exact .inl (.inl (.inl g1)))]
  simp [this]
structure Seg where
 t:Int
 c:Int
 a:Qf
def flat:List Seg → Evs
 | []=>[]
 | q :: r=>⟨1,q.t,q.c,ans 0⟩ :: ⟨3,q.t,q.c,q.a⟩ :: flat r
theorem flat_app:∀ (x y:List Seg),flat (x ++ y) = flat x ++ flat y
 | [],y=>rfl
 | q :: r,y=>by simp [flat,flat_app r y]
theorem flat_len:∀ x:List Seg,(flat x).length = 2 * x.length
 | []=>rfl
 | q :: r=>by simp [flat,flat_len r]; omega
theorem flat_all {P:QG → Prop}:∀ x:List Seg,(∀ q ∈ x,P ⟨1,q.t,q.c,ans 0⟩ ∧ P ⟨3,q.t,q.c,q.a⟩) → ∀ e ∈ flat x,P e
 | [],_,e,h=>by cases h
 | q :: r,h,e,he=>by
  rcases List.mem_cons.1 he with rfl | he
  ·exact (h q List.mem_cons_self).1
  ·rcases List.mem_cons.1 he with rfl | he
   ·exact (h q List.mem_cons_self).2
   ·exact flat_all r (fun q hq=>h q (List.mem_cons_of_mem _ hq)) e he
def nextN (nx:List Int) (q:Seg):List Int:=nx.set q.t.toNat (q.c + 1)
abbrev callQ (p:Progs) (q:Seg):QW:=rd (rd p q.t) q.c
def seqW (p:Progs):List Int → List Seg → Prop
 | _,[]=>True
 | nx,q :: r=>(okCall p q.t q.c ∧ rd nx q.t = q.c) ∧ seqW p (nextN nx q) r
def seqOK (p:Progs):Mod → List Seg → Prop
 | _,[]=>True
 | m,q :: r=>(doS m q.t (callQ p q)).1 = q.a ∧ seqOK p (doS m q.t (callQ p q)).2 r
theorem seqW_app {p:Progs} {q:Seg}:∀ (x:List Seg) (nx:List Int),seqW p nx x → okCall p q.t q.c → rd (x.foldl nextN nx) q.t = q.c → seqW p nx (x ++ [q])
 | [],nx,_,h1,h2=>⟨⟨h1,h2⟩,trivial⟩
 | z :: r,nx,h,h1,h2=>⟨h.1,seqW_app r (nextN nx z) h.2 h1 h2⟩
theorem seqOK_app {p:Progs} {q:Seg}:∀ (x:List Seg) (m:Mod),seqOK p m (x ++ [q]) ↔ seqOK p m x ∧ (doS (x.foldl (fun m q=>(doS m q.t (callQ p q)).2) m) q.t (callQ p q)).1 = q.a
 | [],m=>by simp [seqOK]
 | z :: r,m=>by simp only [List.cons_append,seqOK,List.foldl_cons,seqOK_app r,and_assoc]
theorem may_mk {p:Progs} {s:Core} {w t c:Int} {a:Qf} (hok:okCall p t c) (h1:1 ≤ w) (h3:w ≤ 3) (ha:w ≠ 3 → a = ans 0) (hk:rd s.tasks t = ⟨w - 1,c⟩):may p s ⟨w,t,c,a⟩ :=
 ⟨⟨hok,h1,h3,ha⟩,by show (rd s.tasks t).at_ = w - 1; rw [hk],by show (rd s.tasks t).calls = c; rw [hk]⟩
theorem goS_tasks (p:Progs) (s:Core) (i:Int) (e:QG):(goS p s i e).tasks = setT s e:=by
 unfold goS; split
 ·rfl
 ·split <;> rfl
theorem seq_over {T:Nat} {p:Progs} (hp:p.length ≤ T):∀ (x:List Seg) (nx:List Int) (i:Int) (s:Core),seqW p nx x → s.tasks.length = T → nx.length = p.length → (∀ t:Nat,t < p.length → rd s.tasks (t:Int) = ⟨0,rd nx (t:Int)⟩) → ∃ y,overC p (markL (flat x)) i s = some y
 | [],nx,i,s,_,_,_,_=>⟨s,rfl⟩
 | q :: r,nx,i,s,h,hs,hn,hK=>by
  obtain ⟨⟨hok,hq⟩,hr⟩:=h
  have hok0:=hok
  obtain ⟨t0,t1,c0,c1⟩:=hok0
  obtain ⟨t,ht⟩:=Int.eq_ofNat_of_zero_le t0
  have htp:t < p.length:=by omega
  have k0:=hK t htp
  rw [← ht,hq] at k0
  have rs:∀ z:Z3,rd (s.tasks.set q.t.toNat z) q.t = z:=fun z=>by
   rw [ht,rdN (by rw [List.length_set]; omega),List.getElem_set,if_pos (by omega)]
  have m1:may p s ⟨1,q.t,q.c,ans 0⟩:=may_mk hok (by decide) (by decide) (fun _=>rfl) k0
  obtain ⟨s1,hs1⟩:∃ s1,goS p s i ⟨1,q.t,q.c,ans 0⟩ = s1:=⟨_,rfl⟩
  have g1:s1.tasks = s.tasks.set q.t.toNat ⟨1,q.c⟩:=by
   rw [← hs1,goS_tasks]
   show s.tasks.set q.t.toNat (nextT (rd s.tasks q.t) ((1:Int) - 1)) = _
   rw [k0]; rfl
  have m2:may p s1 ⟨2,q.t,q.c,ans 0⟩:=may_mk hok (by decide) (by decide) (fun _=>rfl) (by rw [g1,rs]; rfl)
  obtain ⟨s2,hs2⟩:∃ s2,goS p s1 (i + 1) ⟨2,q.t,q.c,ans 0⟩ = s2:=⟨_,rfl⟩
  have g2:s2.tasks = s.tasks.set q.t.toNat ⟨2,q.c⟩:=by
   rw [← hs2,goS_tasks]
   show s1.tasks.set q.t.toNat (nextT (rd s1.tasks q.t) ((2:Int) - 1)) = _
   rw [g1,rs,List.set_set]; rfl
  have m3:may p s2 ⟨3,q.t,q.c,q.a⟩:=may_mk hok (by decide) (by decide) (fun h=>absurd rfl h) (by rw [g2,rs]; rfl)
  obtain ⟨s3,hs3⟩:∃ s3,goS p s2 (i + 1 + 1) ⟨3,q.t,q.c,q.a⟩ = s3:=⟨_,rfl⟩
  have g3:s3.tasks = s.tasks.set q.t.toNat ⟨0,q.c + 1⟩:=by
   rw [← hs3,goS_tasks]
   show s2.tasks.set q.t.toNat (nextT (rd s2.tasks q.t) ((3:Int) - 1)) = _
   rw [g2,rs,List.set_set]; rfl
  obtain ⟨y,hy⟩:=seq_over hp r (nextN nx q) (i + 1 + 1 + 1) s3 hr (by rw [g3,List.length_set]; exact hs) (by unfold nextN; rw [List.length_set]; exact hn) (fun u hu=>by
   rw [g3,rdN (by rw [List.length_set]; omega),List.getElem_set]
   unfold nextN
   rw [rdN (by rw [List.length_set]; omega),List.getElem_set]
   by_cases e:q.t.toNat = u
   ·rw [if_pos e,if_pos e]
   ·rw [if_neg e,if_neg e]
    have:=hK u hu
    rw [rdN (by omega),rdN (by omega)] at this; exact this)
  refine ⟨y,?_⟩
  have e:markL (flat (q :: r)) = ⟨1,q.t,q.c,ans 0⟩ :: ⟨2,q.t,q.c,ans 0⟩ :: ⟨3,q.t,q.c,q.a⟩ :: markL (flat r):=by
   simp [flat,markL]
  rw [e,overC,if_pos m1,hs1,overC,if_pos m2,hs2,overC,if_pos m3,hs3]
  exact hy
theorem seq_FF {p:Progs} {A:Int → Int → Option Qf}:∀ (x:List Seg) (nx O:List Int) (m:Mod),seqW p nx x → nx.length = p.length → p.length ≤ O.length → (∀ t:Nat,t < O.length → rd O (t:Int) < 0) →
  (∀ t c:Int,0 ≤ t → t < (p.length:Int) → rd nx t ≤ c → A t c = retAns (flat x) t c) → (FF p A (flat x) O m ↔ seqOK p m x)
 | [],nx,O,m,_,_,_,_,_=>⟨fun _=>trivial,fun _=>.nil⟩
 | q :: r,nx,O,m,h,hn,hO,hneg,hA=>by
  obtain ⟨⟨hok,hq⟩,hr⟩:=h
  obtain ⟨t0,t1,c0,c1⟩:=hok
  obtain ⟨t,ht⟩:=Int.eq_ofNat_of_zero_le t0
  have htO:t < O.length:=by omega
  have htn:q.t.toNat = t:=by omega
  have ha:A (t:Int) q.c = some q.a:=by
   rw [hA (t:Int) q.c (by omega) (by omega) (by rw [← ht,hq]; exact Int.le_refl _)]
   have n1:¬ isRet (t:Int) q.c ⟨1,q.t,q.c,ans 0⟩ = true:=by simp [isRet]
   have n2:isRet (t:Int) q.c ⟨3,q.t,q.c,q.a⟩ = true:=by simp [isRet,ht]
   rw [retAns,flat,List.find?_cons_of_neg n1,List.find?_cons_of_pos n2]; rfl
  have hA':∀ u c:Int,0 ≤ u → u < (p.length:Int) → rd (nextN nx q) u ≤ c → A u c = retAns (flat r) u c:=fun u c u0 u1 hc=>by
   obtain ⟨v,rfl⟩:=Int.eq_ofNat_of_zero_le u0
   have hv:v < p.length:=by omega
   unfold nextN at hc
   rw [rd_set (by omega),htn] at hc
   have hle:rd nx (v:Int) ≤ c ∧ ¬ ((v:Int) = q.t ∧ c = q.c):=by
    by_cases e:t = v
    ·subst e
     rw [if_pos rfl] at hc
     rw [← ht,hq]
     exact ⟨by omega,by omega⟩
    ·rw [if_neg e] at hc
     exact ⟨hc,by omega⟩
   rw [hA (v:Int) c u0 u1 hle.1]
   have n1:¬ isRet (v:Int) c ⟨1,q.t,q.c,ans 0⟩ = true:=by simp [isRet]
   have n2:¬ isRet (v:Int) c ⟨3,q.t,q.c,q.a⟩ = true:=by
    have:=hle.2
    simp only [isRet,beq_self_eq_true,Bool.true_and,Bool.and_eq_true,beq_iff_eq]
    omega
   rw [retAns,flat,List.find?_cons_of_neg n1,List.find?_cons_of_neg n2]; rfl
  have O1:∀ u:Nat,u < O.length → rd (O.set t q.c) (u:Int) = if t = u then q.c else rd O (u:Int):=fun u hu=>rd_set hu
  have O2:∀ u:Nat,u < O.length → rd ((O.set t q.c).set t (-1)) (u:Int) < 0:=fun u hu=>by
   rw [List.set_set,rd_set hu]
   split
   ·decide
   ·exact hneg u hu
  have ih:=seq_FF (p:=p) (A:=A) r (nextN nx q) ((O.set t q.c).set t (-1)) (doS m q.t (callQ p q)).2 hr (by unfold nextN; rw [List.length_set]; exact hn) (by simp; exact hO) (fun u hu=>O2 u (by simpa using hu)) hA'
  have own:rd (O.set t q.c) (t:Int) = q.c:=by rw [O1 t htO,if_pos rfl]
  have ce:cond p A (O.set t q.c) m t ↔ (doS m q.t (callQ p q)).1 = q.a:=by
   unfold cond callQ
   rw [own,ha,← ht]
   exact ⟨fun h=>h.2 _ rfl,fun h=>⟨c0,fun a e=>by cases e; exact h⟩⟩
  have ne:next p (O.set t q.c) m t = (doS m q.t (callQ p q)).2:=by unfold next callQ; rw [own,← ht]
  have gone:rd ((O.set t q.c).set t (-1)) q.t ≠ q.c:=by
   have:=O2 t htO
   rw [← ht] at this; omega
  rw [flat]
  constructor
  ·intro h
   cases h with
   | skip w=>exact absurd rfl w
   | mark w=>exact absurd rfl w
   | inv _ h =>
    have h:FF p A (⟨3,q.t,q.c,q.a⟩ :: flat r) (O.set q.t.toNat q.c) m:=h
    rw [htn] at h
    cases h with
    | inv w=>exact absurd w (show ¬ (3:Int) = 1 by decide)
    | skip _ g=>exact absurd (by rw [ht]; exact own) g
    | mark _ _ u hu hc h =>
     have hu':u < O.length:=by simpa using hu
     have e:t = u:=by
      have h0:=hc.1
      rw [O1 u hu'] at h0
      by_cases e:t = u
      ·exact e
      ·rw [if_neg e] at h0
       have:=hneg u hu'; omega
     subst e
     rw [ne] at h
     cases h with
     | inv w=>exact absurd w (show ¬ (3:Int) = 1 by decide)
     | mark _ g=>exact absurd g gone
     | skip _ _ h=>exact ⟨ce.1 hc,ih.1 h⟩
  ·rintro ⟨h1,h2⟩
   refine .inv rfl ?_
   show FF p A (⟨3,q.t,q.c,q.a⟩ :: flat r) (O.set q.t.toNat q.c) m
   rw [htn]
   refine .mark (by show (3:Int) ≠ 1; decide) (by show rd (O.set t q.c) q.t = q.c; rw [ht]; exact own) t (by simpa using htO) (ce.2 h1) ?_
   rw [ne]
   exact .skip (by show (3:Int) ≠ 1; decide) gone (ih.2 h2)
abbrev stepM (p:Progs) (m:Mod) (q:Seg):Mod:=(doS m q.t (callQ p q)).2
def LInv (p:Progs) (m0:Mod) (i:Nat) (nx:List Int) (l:Evs) (s:Bool) (m:Mod):Prop:=∃ x:List Seg,l = flat x ∧ seqW p (List.replicate p.length 0) x ∧ nx = x.foldl nextN (List.replicate p.length 0) ∧ nx.length = p.length ∧
 (∀ t:Nat,t < p.length → 0 ≤ rd nx (t:Int)) ∧ m = x.foldl (stepM p) m0 ∧ (s = true ↔ seqOK p m0 x) ∧ Inv i m ∧ x.length ≤ i ∧ ∀ q ∈ x,q.a.Pairs.length ≤ 4398046510976 ∧ okCall p q.t q.c
theorem LInv.skip {p:Progs} {m0:Mod} {i:Nat} {nx:List Int} {l:Evs} {s:Bool} {m:Mod} (h:LInv p m0 i nx l s m):LInv p m0 (i + 1) nx l s m:=by
 obtain ⟨x,h1,h2,h3,h4,h5,h6,h7,h8,h9,h10⟩:=h
 exact ⟨x,h1,h2,h3,h4,h5,h6,h7,h8.mono (by omega),by omega,h10⟩
theorem one_step {p:Progs} (hp0:0 < p.length) (hp:p.length ≤ 1000) (hpl:∀ e ∈ p,e.length ≤ 9223372036854775807) {a2:List Int} (h2:a2.length ≤ 12) {a3:List Qf} (h3:∀ a ∈ a3,a.Pairs.length ≤ 4398046510976) (a4:Int) {m0:Mod}
  {i:Nat} {nx:List Int} {l:Evs} {s:Bool} {m:Mod} (hi:i < a2.length) (h:LInv p m0 i nx l s m):∃ nx' l' s' m',LInv p m0 (i + 1) nx' l' s' m' ∧ ∀ v,Ev (fun k=>Zz p a2 a3 a4 k nx' l' s' ((i + 1:Nat):Int) m') v → Ev (fun k=>Zz p a2 a3 a4 k nx l s (i:Int) m) v:=by
 obtain ⟨n,hn,n1,n2⟩:=u64_pick (rd a2 (i:Int)) (n:=p.length) hp0 (by omega)
 have H:=h
 obtain ⟨x,e1,e2,e3,e4,e5,e6,e7,e8,e9,e10⟩:=h
 have hnp:0 ≤ (n:Int) ∧ (n:Int) < (p.length:Int):=⟨by omega,by omega⟩
 have hnx:0 ≤ (n:Int) ∧ (n:Int) < (nx.length:Int):=⟨by omega,by omega⟩
 by_cases hs:rd nx (n:Int) ≥ ((rd p (n:Int)).length:Int)
 ·refine ⟨nx,l,s,m,H.skip,fun v hv=>Ev.shift 1 (Ev.congr (g:=fun k=>_) ?_ (fun k=>by rw [Zz.eq_2]))⟩
  rw [n2,wr1 (by omega)]
  exact Ev.pos (by simpa using hi) (Ev.bind (v:=(nx,l,s,m)) (Ev.chk (inR hi) (Ev.chk n1 (Ev.chk hnx (Ev.chk hnp (Ev.pos (by simpa using hs) (Ev.pure _)))))) hv)
 have hc0:=e5 n hn
 have hpn:(rd p (n:Int)).length ≤ 9223372036854775807:=by rw [rdN hn]; exact hpl _ (List.getElem_mem hn)
 have hok:okCall p (n:Int) (rd nx (n:Int)):=⟨hnp.1,hnp.2,hc0,by omega⟩
 have hD:=do_ev e8 (by omega) (n:Int) (rd (rd p (n:Int)) (rd nx (n:Int)))
 have hpr:=doS_pairs e8 (n:Int) (rd (rd p (n:Int)) (rd nx (n:Int)))
 have hIn:=e8.do_ (n:Int) (rd (rd p (n:Int)) (rd nx (n:Int)))
 generalize hcq:rd (rd p (n:Int)) (rd nx (n:Int)) = cq at *
 generalize hdo:doS m (n:Int) cq = d at *
 obtain ⟨a,m'⟩:=d
 have hb:∃ b:Bool,Ev (fun _=>if ((decide ((i:Int) < (a3.length:Int))) && (decide ((i:Int) < (64:Int)))) = true then (if 0 ≤ (IntKind.u64.wrap (i:Int)) then some (((iand .u64 (ishr .u64 a4 (IntKind.u64.wrap (i:Int))) (1:Int)) == (0:Int))) else none) else some (false)) b ∧ (b = true → i < a3.length):=by
  by_cases hc:((decide ((i:Int) < (a3.length:Int))) && (decide ((i:Int) < (64:Int)))) = true
  ·exact ⟨_,Ev.pos hc (Ev.chk (u64_range _) (Ev.pure _)),fun _=>by simp at hc; omega⟩
  ·exact ⟨false,Ev.neg hc (Ev.pure _),fun h=>by cases h⟩
 obtain ⟨b,hb,hbi⟩:=hb
 have hg:∃ g:Qf,Ev (fun _=>if b = true then (if 0 ≤ (i:Int) ∧ (i:Int) < (a3.length:Int) then some ((rd a3 (i:Int)).Err,(rd a3 (i:Int)).Found,(rd a3 (i:Int)).Value,(rd a3 (i:Int)).Pairs) else none) else some (a.Err,a.Found,a.Value,a.Pairs)) (g.Err,g.Found,g.Value,g.Pairs) ∧ g.Pairs.length ≤ 4398046510976:=by
  cases b
  ·exact ⟨a,Ev.neg (by simp) (Ev.pure _),by have:a.Pairs.length ≤ i:=hpr; omega⟩
  ·have hl:=hbi rfl
   refine ⟨rd a3 (i:Int),Ev.pos rfl (Ev.chk (inR hl) (Ev.pure _)),?_⟩
   rw [rdN hl]; exact h3 _ (List.getElem_mem hl)
 obtain ⟨g,hg,hgl⟩:=hg
 have hs':Ev (fun k=>if s = true then (Option.bind (Yh k (⟨a.Err,a.Found,a.Value,a.Pairs⟩:Qf) (⟨g.Err,g.Found,g.Value,g.Pairs⟩:Qf)) (fun t6685=>some (t6685))) else some (false)) (s && decide (a = g)):=by
  cases s
  ·exact Ev.neg (by simp) (Ev.pure _)
  ·exact Ev.pos rfl ((refAns_ev a g (by have:a.Pairs.length ≤ i:=hpr; omega)).bind (Ev.pure _))
 have hw:Ev (fun k=>Zd k (n:Int) (rd nx (n:Int)) (⟨g.Err,g.Found,g.Value,g.Pairs⟩:Qf)) [⟨1,(n:Int),rd nx (n:Int),ans 0⟩,⟨2,(n:Int),rd nx (n:Int),ans 0⟩,⟨3,(n:Int),rd nx (n:Int),g⟩]:=⟨0,fun k _=>rfl⟩
 have hB:=Bare_ev [⟨1,(n:Int),rd nx (n:Int),ans 0⟩,⟨2,(n:Int),rd nx (n:Int),ans 0⟩,⟨3,(n:Int),rd nx (n:Int),g⟩] (by simp) (fun e he=>by
  simp only [List.mem_cons,List.not_mem_nil,or_false] at he
  rcases he with rfl | rfl | rfl
  ·simp [ans]
  ·simp [ans]
  ·show g.Pairs.length ≤ _; omega)
 have eB:bareL [⟨1,(n:Int),rd nx (n:Int),ans 0⟩,⟨2,(n:Int),rd nx (n:Int),ans 0⟩,⟨3,(n:Int),rd nx (n:Int),g⟩] = flat [⟨(n:Int),rd nx (n:Int),g⟩]:=by simp [bareL,flat]
 rw [eB] at hB
 have hlx:l.length ≤ 24:=by rw [e1,flat_len]; omega
 refine ⟨nextN nx ⟨(n:Int),rd nx (n:Int),g⟩,l ++ flat [⟨(n:Int),rd nx (n:Int),g⟩],s && decide (a = g),m',⟨x ++ [⟨(n:Int),rd nx (n:Int),g⟩],by rw [flat_app,e1],seqW_app x _ e2 hok (by rw [← e3]),by rw [List.foldl_append,← e3]; rfl,by unfold nextN; rw [List.length_set]; exact e4,fun t ht=>?_,?_,?_,hIn,by simp; omega,fun q hq=>?_⟩,fun v hv=>Ev.shift 1 (Ev.congr (g:=fun k=>_) ?_ (fun k=>by rw [Zz.eq_2]))⟩
 ·unfold nextN
  rw [rd_set (by omega)]
  split
  ·show 0 ≤ rd nx (n:Int) + 1; omega
  ·exact e5 t ht
 ·rw [List.foldl_append,← e6]
  show m' = (doS m (n:Int) (rd (rd p (n:Int)) (rd nx (n:Int)))).2
  rw [hcq,hdo]
 ·have e6':m = x.foldl (fun m q=>(doS m q.t (callQ p q)).2) m0:=e6
  rw [seqOK_app,Bool.and_eq_true,decide_eq_true_eq,e7,← e6']
  show _ ↔ _ ∧ (doS m (n:Int) (rd (rd p (n:Int)) (rd nx (n:Int)))).1 = g
  rw [hcq,hdo]
 ·rcases List.mem_append.1 hq with h | h
  ·exact e10 q h
  ·simp only [List.mem_singleton] at h; subst h; exact ⟨hgl,hok⟩
 ·rw [n2,wr1 (by omega)]
  refine Ev.pos (by simpa using hi) (Ev.bind (v:=(nextN nx ⟨(n:Int),rd nx (n:Int),g⟩,l ++ flat [⟨(n:Int),rd nx (n:Int),g⟩],s && decide (a = g),m')) ?_ hv)
  refine Ev.chk (inR hi) (Ev.chk n1 (Ev.chk hnx (Ev.chk hnp (Ev.neg (by simpa using hs) (Ev.chk hnp (Ev.chk hnx (Ev.chk ⟨hc0,by omega⟩ ?_)))))))
  rw [hcq]
  refine Ev.bind (v:=(a.Err,a.Found,a.Value,a.Pairs,m')) (hD.bind (Ev.pure _)) (Ev.bind (v:=b) hb (Ev.bind (v:=(g.Err,g.Found,g.Value,g.Pairs)) hg (Ev.bind (v:=s && decide (a = g)) hs' (Ev.chk hnx (hw.bind (hB.bind (Ev.chk ?_ (Ev.chk hnx (Ev.chk hnx (Ev.bind (Ev.pure _) ?_))))))))))
  ·simp [flat]; omega
  ·refine (Ev.pure _).eq ?_
   rw [wr (by omega) (by omega)]; rfl
theorem one_loop {p:Progs} (hp0:0 < p.length) (hp:p.length ≤ 1000) (hpl:∀ e ∈ p,e.length ≤ 9223372036854775807) {a2:List Int} (h2:a2.length ≤ 12) {a3:List Qf} (h3:∀ a ∈ a3,a.Pairs.length ≤ 4398046510976) (a4:Int) {m0:Mod}:∀ (j i:Nat) (nx:List Int) (l:Evs) (s:Bool) (m:Mod),i + j = a2.length → LInv p m0 i nx l s m →
  ∃ nx' l' s' m',Ev (fun k=>Zz p a2 a3 a4 k nx l s (i:Int) m) (l',s') ∧ LInv p m0 a2.length nx' l' s' m':=by
 intro j
 induction j with
 | zero =>
  intro i nx l s m hi h
  obtain rfl:i = a2.length:=by omega
  refine ⟨nx,l,s,m,Ev.shift 1 ⟨0,fun k _=>?_⟩,h⟩
  show Zz p a2 a3 a4 (k + 1) nx l s (a2.length:Int) m = _
  rw [Zz.eq_2,if_neg (by simp)]
 | succ j ih =>
  intro i nx l s m hi h
  obtain ⟨nx1,l1,s1,m1,h1,g1⟩:=one_step hp0 hp hpl h2 h3 a4 (by omega) h
  obtain ⟨nx2,l2,s2,m2,g2,h2⟩:=ih (i + 1) nx1 l1 s1 m1 (by omega) h1
  exact ⟨nx2,l2,s2,m2,g1 _ g2,h2⟩
theorem pure_ReplayOne (a0:Qo) (a1:(List (List QW))) (a2:(List Int)) (a3:(List Qf)) (a4:Int) (_:X9 a0) (w1:(wfSl (wfSl VO)) a1) (_:(wfSl (wfInt .i64)) a2) (w3:(wfSl VA) a3) (_:(wfInt .u64) a4) (wt:∀ a ∈ a3,a.Pairs.length * 32 ≤ 140737488351232):∃ k,Yc k a0 a1 a2 a3 a4 = some true:=by
 refine Ev.ex (f:=fun k=>Yc k a0 a1 a2 a3 a4) ?_
 have mx:maxLen ≤ 9223372036854775807:=by decide
 obtain ⟨b,hb,_⟩:=large_ev a1 [] (Nat.le_trans w1.1 mx) (fun e he=>Nat.le_trans (w1.2 e he).1 mx) (by simp) (by simp)
 unfold Yc
 refine works_ev.bind (Ev.bind (v:=b) (Ev.neg (by simp) (hb.bind (Ev.pure _))) ?_)
 by_cases h:((b || (decide ((a2.length:Int) > (12:Int)))) || (decide ((a3.length:Int) > (20:Int)))) = true
 ·exact Ev.pos h (works_ev.bind (Ev.pure _))
 refine Ev.neg h ?_
 simp only [Bool.or_eq_true,decide_eq_true_eq,not_or] at h
 obtain ⟨⟨_,h12⟩,_⟩:=h
 have hnew:Ev (fun k=>Yk k a0) (if mayB a0 = true then .inr (newS a0) else .inl ()):=⟨9,fun k hk=>New_eq k hk a0⟩
 refine hnew.bind ?_
 by_cases hm:mayB a0 = true
 case neg=>rw [if_neg hm]; exact Ev.pure _
 rw [if_pos hm]
 obtain ⟨r,hr,hr2⟩:=rMay_ev a0 a1
 refine Ev.bind hr ?_
 by_cases h0:((!r) || ((a1.length:Int) == (0:Int))) = true
 ·exact Ev.pos h0 (Ev.pure _)
 refine Ev.neg h0 ?_
 simp only [Bool.or_eq_true,Bool.not_eq_true',beq_iff_eq,not_or,Bool.not_eq_false] at h0
 have hp0:0 < a1.length:=by omega
 have hm2:=hm
 simp only [mayB,Bool.and_eq_true,decide_eq_true_eq] at hm2
 have hp:=(hr2 h0.1).2
 have hrep:∀ t:Nat,t < a1.length → rd (List.replicate a1.length (0:Int)) (t:Int) = 0:=fun t ht=>by rw [rdN (by simpa using ht)]; simp
 have wt':∀ a ∈ a3,a.Pairs.length ≤ 4398046510976:=fun a ha=>by have:=wt a ha; omega
 obtain ⟨nx,l,s,m,hloop,x,e1,e2,e3,e4,e5,e6,e7,e8,e9,e10⟩:=one_loop hp0 (by omega) (fun e he=>Nat.le_trans (w1.2 e he).1 mx) (a2:=a2) (by omega) wt' a4 (m0:=newS a0) a2.length 0 (List.replicate a1.length 0) [] true (newS a0) (by omega)
  ⟨[],rfl,trivial,rfl,by simp,fun t ht=>by rw [hrep t ht]; exact Int.le_refl _,rfl,⟨fun _=>trivial,fun _=>rfl⟩,Inv.new a0,by simp,fun q hq=>by cases hq⟩
 refine Ev.chk ⟨by omega,by omega,by omega,by omega⟩ ?_
 refine Ev.bind (v:=(l,s)) hloop ?_
 have hl24:l.length ≤ 24:=by rw [e1,flat_len]; omega
 obtain ⟨b2,hb2,hb3⟩:=large_ev [] l (by simp) (by simp) (by omega) (fun e he=>by
  rw [e1] at he
  exact flat_all (P:=fun e=>e.Answer.Pairs.length ≤ 9223372036854775807) x (fun q hq=>⟨by simp [ans],by have:=(e10 q hq).1; show q.a.Pairs.length ≤ _; omega⟩) e he)
 refine Ev.bind hb2 ?_
 cases hb2':b2
 case true=>exact Ev.pos rfl (Ev.pure _)
 refine Ev.neg (by simp) ?_
 obtain ⟨_,hA⟩:=hb3 hb2'
 rcases beg_ev a0 a1 with hbeg | ⟨_,hpT,x0,R,⟨_,_,htk⟩,hbeg⟩
 ·
  have h1:Ev (fun k=>ZH k a0 a1) (.inr (.inl ⟨a1,⟨List.replicate a0.Tasks.toNat (⟨0,0⟩:Z3),[]⟩,newS a0,[],List.replicate a0.Tasks.toNat (0:Int)⟩)):=by
   unfold ZH
   rw [h0.1] at hr
   refine Ev.bind hr (Ev.neg (by simp) ?_)
   refine Ev.bind (v:=.inr ⟨List.replicate a0.Tasks.toNat (⟨0,0⟩:Z3),[]⟩) (Ev.all fun k=>?_) ?_
   ·unfold XZ
    rw [if_neg (by simp; omega),if_pos (by omega)]
   ·rw [if_pos hm] at hnew
    exact Ev.bind hnew (Ev.pos (by omega) (Ev.pure _))
  obtain ⟨K,hK⟩:=hbeg
  obtain ⟨K',hK'⟩:=h1
  have:=(hK (K + K') (by omega)).symm.trans (hK' (K + K') (by omega))
  cases this
 have hN:∀ e ∈ l,e.What ≠ 2:=fun e he=>by
  rw [e1] at he
  exact flat_all (P:=fun e=>e.What ≠ 2) x (fun q hq=>⟨by show (1:Int) ≠ 2; decide,by show (3:Int) ≠ 2; decide⟩) e he
 have hE:∀ e ∈ l,okCall a1 e.Task e.Call:=fun e he=>by
  rw [e1] at he
  exact flat_all (P:=fun e=>okCall a1 e.Task e.Call) x (fun q hq=>⟨(e10 q hq).2,(e10 q hq).2⟩) e he
 obtain ⟨y,hy⟩:=seq_over hpT x (List.replicate a1.length 0) 0 (coreOf x0) e2 (by show x0.r.tasks.length = _; rw [htk]; simp) (by simp) (fun t ht=>by
  rw [hrep t ht]
  show rd x0.r.tasks (t:Int) = _
  rw [htk,rdN (by simp; omega)]; simp)
 rw [← e1] at hy
 obtain ⟨f,hf,hf2⟩:=Fits_ev hm hbeg R hpT hl24 (fun e he=>by have:=hA e he; omega) hN hE hy
 have hsf:=seq_FF (p:=a1) (A:=retAns l) x (List.replicate a1.length 0) (List.replicate a0.Tasks.toNat (-1)) (newS a0) e2 (by simp) (by simpa using hpT) (fun t ht=>by rw [rdN ht]; simp) (fun t c _ _ _=>by rw [e1])
 rw [← e1] at hsf
 refine hf.bind ((Ev.pure _).eq ?_)
 have:f = s:=by rw [Bool.eq_iff_iff,hf2,hsf,← e7]
 subst this
 show (((0:Int) == (0:Int)) && (f == f)) = true
 simp
end Go.Proofs.YtnjbjpaiepefoaaDoor
