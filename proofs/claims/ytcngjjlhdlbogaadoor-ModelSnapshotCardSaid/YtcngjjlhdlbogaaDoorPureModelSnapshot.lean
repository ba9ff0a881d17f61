import Derived.Test.YtcngjjlhdlbogaaDoorPureScan
import Derived.Test.YtcngjjlhdlbogaaDoorOpnm4
namespace Go.Proofs.YtcngjjlhdlbogaaDoor
open Go Go.RowKit
set_option linter.unusedVariables false
set_option linter.unusedSimpArgs false
set_option maxRecDepth 100000
theorem do_keys {n:Nat} {m:Mod} (I:Inv n m) (t:Int) (x:api_Call) (y:Str):y∈(doS m t x).2.rows.map (·.1)→y∈m.rows.map (·.1)∨y=x.Key:=by
 have e:∀ (one:model_row→model_row),y∈(eachS one m.rows).map (·.1)→y∈m.rows.map (·.1)∨y=x.Key:=fun one hy=>.inl ((eachS_keys one m.rows).subset hy)
 have w:∀ v,y∈(writeS m x.Key v).2.rows.map (·.1)→y∈m.rows.map (·.1)∨y=x.Key:=fun v=>by
  unfold writeS
  dsimp only
  split
  ·exact .inl
  split
  ·exact .inl
  split
  ·exact .inl
  intro hy
  obtain ⟨p,hp,rfl⟩:=List.mem_map.1 hy
  rcases (mput_mem I.nd p).1 hp with rfl | ⟨h,_⟩
  ·exact .inr rfl
  ·exact .inl (List.mem_map_of_mem h)
 unfold doS
 split
 ·exact .inl
 unfold actS
 split
 ·unfold beginS
  split
  ·exact .inl
  ·exact .inl
 split
 ·exact .inl
 split
 ·exact w _
 split
 ·exact w _
 split
 ·exact .inl
 split
 ·unfold commitS
  split
  ·exact e _
  split
  ·exact e _
  ·exact e _
 split
 ·exact e _
 split
 ·exact e _
 ·exact .inl
theorem refS_lim {m:Mod} {t:Int} {x:api_Call} (h:refS m t x=0) (hk:x.Kind=5):0≤x.Limit∧(x.Key.length:Int)≤m.c.KeyLen:=by
 unfold refS at h
 split at h
 ·cases h
 split at h
 ·cases h
 split at h
 ·split at h<;>cases h
 split at h
 ·next hf =>
  unfold fitsB at hf
  rw [if_neg (by omega),if_neg (by omega),if_pos hk] at hf
  simp only [Bool.and_eq_true,decide_eq_true_eq,bndB] at hf
  exact ⟨hf.1.2,hf.1.1.1.2⟩
 ·cases h
theorem scans_ev {p:Nat} {g:Log} (B:Bd p g) (hp:p≤1000) (q:Nat) (hq:q<g.lives.length) (c:api_Call) (hc:c.Key.length≤9223372036854775807) (a:List Turn) (ha:a.length≤1000) (hk:∀ t∈a,t.Call.Key.length≤9223372036854775807) (lim:Nat) (hl:c.Limit=(lim:Int)) (got:List api_Pair)
  (hg:got=(wantS g g.lives[q] c a []).take lim) (hg2:got.length≤1000000):Ev (fun k=>ferrymanlaw16_log_scans_POO k g (q:Int) c got a) true:=by
 unfold ferrymanlaw16_log_scans_POO
 have h:=scan_l4 B hp q hq c hc a ha hk a.length 0 [] (by omega) (by simp)
 rw [List.drop_zero] at h
 refine h.bind ?_
 generalize wantS g g.lives[q] c a []=W at hg
 have hi:0≤imin (W.length:Int) c.Limit∧imin (W.length:Int) c.Limit≤(W.length:Int):=by rw [hl];unfold imin;split<;>omega
 have ht:W.take (imin (W.length:Int) c.Limit).toNat=got:=by
  rw [hg,hl];unfold imin
  split
  ·rw [Int.toNat_natCast]
  ·rw [Int.toNat_natCast,List.take_length,List.take_of_length_le (by omega)]
 refine Ev.pos hi ?_
 rw [ht]
 refine Ev.bind (v:=true) ⟨got.length+1,fun k hk=>?_⟩ (Ev.pure _)
 have:=Answers_eq (⟨0,false,[],got⟩:api_Answer) ⟨0,false,[],got⟩ hg2 k hk
 rw [decide_eq_true rfl] at this;exact this
theorem snap_kind {n:Nat} {m:Mod} {g:Log} (I:Inv n m) (R:Lg m g) (H:Hs m g) (t:Turn) (he:(doT m t).1.Err=0) {q:Nat} (hq:q<g.lives.length) (hf:findS t.Task t.Call.Tx 0 g.lives=(q:Int)) (a:List Turn) (ha:∀ y∈m.rows.map (·.1),∃ t∈a,t.Call.Key=y) :
  (t.Call.Kind=2→(doT m t).1.Found=(readS g g.lives[q] t.Call.Key).2∧((readS g g.lives[q] t.Call.Key).2=true→(doT m t).1.Value=(readS g g.lives[q] t.Call.Key).1)) ∧
  (t.Call.Kind=4→(doT m t).1.Found=(readS g g.lives[q] t.Call.Key).2) ∧
  (t.Call.Kind=5→∃ lim:Nat,t.Call.Limit=(lim:Int)∧(doT m t).1.Pairs=(wantS g g.lives[q] t.Call a []).take lim):=by
 have h0:refS m t.Task t.Call=0:=by
  unfold doT doS at he
  by_cases h:refS m t.Task t.Call≠0
  ·rw [if_pos h] at he;exact absurd he h
  ·omega
 have eq1:doT m t=actS m (txS m t.Task t.Call.Tx).1 t.Task t.Call:=by unfold doT doS;rw [if_neg (by omega)]
 have act:∀ hk:t.Call.Kind≠1∧t.Call.Kind≠8∧t.Call.Kind≠9,(rd m.txs (q:Int)).state=1∧(txS m t.Task t.Call.Tx).1=(q:Int)+1:=fun hk=>by
  obtain ⟨j,hj,ef,ew,hs⟩:=R.find I h0 hk
  obtain rfl:j=q:=by omega
  exact ⟨hs,ew⟩
 refine ⟨fun k2=>?_,fun k4=>?_,fun k5=>?_⟩
 ·obtain ⟨hs,ew⟩:=act (by omega)
  have hr:=see_read I R H hq hs t.Call.Key
  have:(doT m t).1=getS m ((q:Int)+1) t.Call:=by rw [eq1,ew];unfold actS;rw [if_neg (by omega),if_pos k2]
  rw [this]
  unfold getS
  split
  ·next h=>rw [← hr.1,h];exact ⟨rfl,fun _=>hr.2 (hr.1.symm.trans h)⟩
  ·next h =>
   have h':(seeS m ((q:Int)+1) (rowOf m t.Call.Key)).2=false:=by simpa using h
   rw [← hr.1,h'];exact ⟨rfl,fun z=>by cases z⟩
 ·obtain ⟨hs,ew⟩:=act (by omega)
  have hr:=see_read I R H hq hs t.Call.Key
  have e2:doT m t=writeS m t.Call.Key ⟨(q:Int)+1,0,true,[]⟩:=by rw [eq1,ew];unfold actS;rw [if_neg (by omega),if_neg (by omega),if_neg (by omega),if_pos k4]
  rw [e2] at he ⊢
  rw [← hr.1]
  unfold writeS at he ⊢
  dsimp only at he ⊢
  by_cases c1:((rowOf m t.Call.Key).intent.Writer≠(q:Int)+1∧(rowOf m t.Call.Key).intent.Writer≠0)∨clash (rowOf m t.Call.Key).l (rd m.txs ((q:Int)+1-1)).snapshot=true
  ·rw [if_pos c1] at he;exact absurd he (show (33:Int)≠0 by decide)
  ·rw [if_neg c1] at he ⊢
   cases hs2:(seeS m ((q:Int)+1) (rowOf m t.Call.Key)).2 with
   | false=>rw [if_pos ⟨rfl,rfl⟩];rfl
   | true =>
    rw [hs2,if_neg (by simp)] at he
    rw [if_neg (by simp)]
    split at he
    ·exact absurd he (show (34:Int)≠0 by decide)
    ·next c=>rw [if_neg c]
 ·obtain ⟨hs,ew⟩:=act (by omega)
  obtain ⟨h1,_⟩:=refS_lim h0 k5
  obtain ⟨lim,hl⟩:=Int.eq_ofNat_of_zero_le h1
  refine ⟨lim,hl,?_⟩
  have:(doT m t).1=scanS m ((q:Int)+1) t.Call:=by rw [eq1,ew];unfold actS;rw [if_neg (by omega),if_neg (by omega),if_neg (by omega),if_neg (by omega),if_pos k5]
  rw [this]
  exact scans_eq I R H hq hs t.Call lim hl a ha
theorem snap_l0 (a:List Turn) (ha:a.length≤500) (hk:∀ t∈a,t.Call.Key.length≤9223372036854775807):∀ (j i:Nat) (m:Mod) (g:Log),i+j=a.length→Inv i m→Ok m→Lg m g→Bd i g→Hs m g→(∀ y∈m.rows.map (·.1),∃ t∈a,t.Call.Key=y) →
  Ev (fun k=>ferrymanlaw16_ModelSnapshot_l0 a k (i:Int) g.time g.facts g.lives m) (.inr ()):=by
 intro j
 induction j with
 | zero =>
  intro i m g hi I O R B H K
  refine Ev.shift 1 ⟨0,fun k hk=>?_⟩
  show ferrymanlaw16_ModelSnapshot_l0 a (k+1) (i:Int) _ _ _ _=_
  rw [ferrymanlaw16_ModelSnapshot_l0.eq_2]
  have:¬ ((i:Int)<(a.length:Int)):=by omega
  simp [this]
 | succ j ih =>
  intro i m g hi I O R B H K
  have hlt:i<a.length:=by omega
  have h3:(i:Int)<(a.length:Int):=by omega
  have hlv:=B.lv
  have S:=R.step I ((i:Int)+1) a[i]
  have R':=R.next I O S
  have hn:=ih (i+1) (doT m a[i]).2 (noteS g ((i:Int)+1) a[i] (doT m a[i]).1) (by omega) (I.do_ _ _) (Ok.do_ I O _ _) R' (B.note (by omega) _ _ _) (H.next I O R S)
   (fun y hy=>by
    rcases do_keys I _ _ y hy with h | rfl
    ·exact K y h
    ·exact ⟨a[i],List.getElem_mem hlt,rfl⟩)
  have hpl:=doS_pairs I a[i].Task a[i].Call
  have hfin:Ev (fun k=>(Option.bind (ferrymanlaw16_log_note_POO k g ((i:Int)+1) a[i] (doT m a[i]).1) (fun t771=>(Option.bind (model_Model_Clock_POOOO k (doT m a[i]).2) (fun t789=>(if (t789 != t771.time)=true then some (.inl false) else ferrymanlaw16_ModelSnapshot_l0 a k ((i+1:Nat):Int) t771.time t771.facts t771.lives (doT m a[i]).2)))))) (.inr ()):=by
   refine Ev.bind (note_ev B (by omega) _ _ _) (Ev.bind (v:=(doT m a[i]).2.clock) ⟨0,fun k _=>rfl⟩ ?_)
   exact Ev.neg (by rw [R'.tm];simp) hn
  refine Ev.shift 1 (Ev.congr (g:=fun k=>_) ?_ (fun k=>by rw [ferrymanlaw16_ModelSnapshot_l0.eq_2]))
  rw [wr1 (i:=i) (by omega),rdN hlt]
  refine Ev.pos (by simpa using h3) (Ev.pos (inR hlt) ?_)
  refine Ev.bind (v:=findS a[i].Task a[i].Call.Tx 0 g.lives) ⟨g.lives.length+1,fun k hk=>find_eq g _ _ (by omega) k (by omega)⟩ ?_
  refine Ev.bind (v:=doT m a[i]) (do_ev I (by omega) _ _) ?_
  rcases findS_spec a[i].Task a[i].Call.Tx g.lives 0 with ⟨hf,_⟩ | ⟨q,hq,hf,_⟩
  ·rw [hf];exact Ev.neg (by simp) hfin
  rw [Nat.zero_add] at hf
  by_cases he:(doT m a[i]).1.Err=0
  ·rw [hf]
   obtain ⟨k2,k4,k5⟩:=snap_kind I R H a[i] he hq hf a K
   refine Ev.pos (by simp [he]) ?_
   refine (reads_ev B (by omega) q hq a[i].Call.Key).bind ?_
   refine Ev.neg ?_ ?_
   ·by_cases c2:a[i].Call.Kind=2
    ·have:=k2 c2
     cases hr:(readS g g.lives[q] a[i].Call.Key).2 with
     | false=>rw [hr] at this;simp [c2,this.1,hr]
     | true=>rw [hr] at this;simp [c2,this.1,hr,sbn,this.2 rfl]
    ·by_cases c4:a[i].Call.Kind=4
     ·simp [c2,c4,k4 c4]
     ·simp [c2,c4]
   ·refine Ev.bind (v:=(false,(doT m a[i]).1.Pairs)) ?_ (Ev.neg (by simp) hfin)
    by_cases c5:a[i].Call.Kind=5
    ·obtain ⟨lim,hl,hp⟩:=k5 c5
     exact Ev.pos (by simpa using c5) ((scans_ev B (by omega) q hq _ (hk _ (List.getElem_mem hlt)) a (by omega) hk lim hl _ hp (by show (doS m a[i].Task a[i].Call).1.Pairs.length≤_;omega)).bind (Ev.pure _))
    ·exact Ev.neg (by simpa using c5) (Ev.pure _)
  ·exact Ev.neg (by simp [he]) hfin
theorem pure_ModelSnapshot (a0:api_Config) (a1:(List ferrymanlaw16_Turn)) (_:wf_api_Config a0) (w1:(wfSl wf_ferrymanlaw16_Turn) a1):∃ k,ferrymanlaw16_ModelSnapshot k a0 a1=some true:=by
 refine Ev.ex (f:=fun k=>ferrymanlaw16_ModelSnapshot k a0 a1) ?_
 have b1:a1.length≤9223372036854775807:=Nat.le_trans w1.1 (by decide)
 have bk:∀ t∈a1,t.Call.Key.length≤9223372036854775807:=fun t ht=>by
  exact Nat.le_trans (w1.2 t ht).2.2.2.1 (by decide)
 unfold ferrymanlaw16_ModelSnapshot
 refine works_ev.bind ?_
 obtain ⟨x,hx,hx2⟩:=large_ev a1 b1
 refine Ev.bind (v:=x) (Ev.neg (by simp) (hx.bind (Ev.pure _))) ?_
 cases x with
 | true=>exact Ev.pos rfl (works_ev.bind (Ev.pure _))
 | false =>
  have l1:=hx2 rfl
  refine Ev.neg (by simp) ?_
  refine Ev.bind ⟨9,fun k hk=>New_eq k hk a0⟩ ?_
  cases hm:mayB a0 with
  | false=>exact Ev.pure _
  | true =>
   have O0:Ok (newS a0):=⟨fun p hp=>(by cases hp),fun p hp=>(by cases hp)⟩
   have R0:Lg (newS a0) ⟨0,[],[]⟩:=⟨rfl,⟨rfl,fun t n w=>⟨fun h=>(by cases h),fun ⟨i,h,_⟩=>(by cases h)⟩,fun t=>rfl,fun i h=>(by cases h),fun i h=>(by cases h)⟩,⟨fun y hy=>absurd rfl hy,fun i h=>(by cases h)⟩⟩
   have B0:Bd 0 (⟨0,[],[]⟩:Log):=⟨by simp,fun x hx=>(by cases hx),by simp,by simp⟩
   have H0:Hs (newS a0) ⟨0,[],[]⟩:=⟨fun y=>⟨[],0,⟨Int.le_refl _,fun x hx=>(by cases hx)⟩,rfl,fun s=>⟨rfl,fun z=>by cases z⟩⟩,fun f hf=>(by cases hf)⟩
   refine Ev.bind (snap_l0 a1 (by omega) bk a1.length 0 (newS a0) ⟨0,[],[]⟩ (by omega) (Inv.new a0) O0 R0 B0 H0 (fun y hy=>by cases hy)) ?_
   exact Ev.pure _
end Go.Proofs.YtcngjjlhdlbogaaDoor
