import Derived.Test.YtcngjjlhdlbogaaDoorPureModel2
namespace Go.Proofs.YtcngjjlhdlbogaaDoor
open Go Go.RowKit
set_option linter.unusedVariables false
set_option linter.unusedSimpArgs false
set_option maxRecDepth 100000
theorem eachS_mem {one:model_row→model_row} {l:List (Str×model_row)} {q:Str×model_row}:q∈eachS one l↔∃ p∈l,gone (one p.2)=false∧q=(p.1,one p.2):=by
 simp only [eachS,List.mem_filterMap]
 constructor
 ·rintro ⟨p,hp,h⟩
  split at h
  ·cases h
  ·next hg=>exact ⟨p,hp,by simpa using hg,(Option.some.inj h).symm⟩
 ·rintro ⟨p,hp,h1,h2⟩
  exact ⟨p,hp,by rw [if_neg (by simp [h1]),h2]⟩
theorem eachS_len (one:model_row→model_row) (l:List (Str×model_row)):(eachS one l).length≤l.length:=List.length_filterMap_le _ _
theorem eachS_keys (one:model_row→model_row):∀ l:List (Str×model_row),((eachS one l).map (·.1)).Sublist (l.map (·.1))
 | []=>List.Sublist.refl _
 | p::l=>by
  have ih:=eachS_keys one l
  simp only [eachS,List.filterMap_cons,List.map_cons] at ih ⊢
  split
  ·next h=>exact ih.cons _
  ·next q h =>
   split at h
   ·cases h
   ·cases h;rw [List.map_cons];exact ih.cons_cons _
theorem eachS_nodup {one:model_row→model_row} {l:List (Str×model_row)} (h:(l.map (·.1)).Nodup):((eachS one l).map (·.1)).Nodup:=h.sublist (eachS_keys one l)
theorem Inv.each {n:Nat} {m:Mod} (I:Inv n m) (one:model_row→model_row) (h1:∀ p∈m.rows,(one p.2).l.length≤n+1) (h2:∀ p∈m.rows,0≤(one p.2).intent.Writer) (f:Int):Inv (n+1) { m with rows:=eachS one m.rows,floor:=f } where
 nd:=eachS_nodup I.nd
 nm:=I.nm
 tl:=by have:=I.tl;simp;omega
 rl:=by have:=I.rl;have:=eachS_len one m.rows;simp;omega
 vl:=fun q hq=>by obtain ⟨p,hp,_,rfl⟩:=eachS_mem.1 hq;exact h1 p hp
 ck:=by have:=I.ck;simp;omega
 mn:=fun t=>by have:=I.mn t;simp;omega
 wp:=fun q hq=>by obtain ⟨p,hp,_,rfl⟩:=eachS_mem.1 hq;exact h2 p hp
theorem endRow_len (w ts:Int) (r:model_row):(endRow w ts r).l.length≤r.l.length+1:=by
 unfold endRow;split
 ·omega
 ·split<;>simp
theorem endRow_wp (w ts:Int) {r:model_row} (h:0≤r.intent.Writer):0≤(endRow w ts r).intent.Writer:=by
 unfold endRow;split
 ·exact h
 ·exact Int.le_refl _
theorem Inv.set {n:Nat} {m:Mod} (I:Inv n m) (i:Nat) (x:model_tx):Inv n { m with txs:=m.txs.set i x } :=
 ⟨I.nd,fun y w h=>by simpa using I.nm y w h,by simpa using I.tl,I.rl,I.vl,I.ck,I.mn,I.wp⟩
theorem Inv.end_ {n:Nat} {m:Mod} (I:Inv n m) (w st ts:Int):Inv (n+1) (endS m w st ts) :=
 (I.set (w-1).toNat ⟨st,(rd m.txs (w-1)).snapshot⟩).each (endRow w ts) (fun p hp=>by have:=endRow_len w ts p.2;have:=I.vl p hp;omega) (fun p hp=>endRow_wp w ts (I.wp p hp)) m.floor
theorem Inv.end' {n:Nat} {m:Mod} (I:Inv n m) (w st ts:Int) (hc:m.clock+1≤(n:Int)+1):Inv (n+1) (endS { m with clock:=m.clock+1 } w st ts):=by
 have J:Inv (n+1) (endS m w st ts):=I.end_ w st ts
 have:=I.ck
 exact ⟨J.nd,J.nm,J.tl,J.rl,J.vl,by show 0≤m.clock+1∧m.clock+1≤_;simp;omega,J.mn,J.wp⟩
theorem Inv.vac {n:Nat} {m:Mod} (I:Inv n m):Inv (n+1) (vacS m) :=
 I.each (keptRow _) (fun p hp=>by have:=kept_len p.2.l (floorL m.txs m.clock);have:=I.vl p hp;simp [keptRow];omega) (fun p hp=>I.wp p hp) _
theorem Inv.write {n:Nat} {m:Mod} (I:Inv n m) (key:Str) (v:api_Version) (hv:0≤v.Writer):Inv (n+1) (writeS m key v).2:=by
 have J:=I.mono (n':=n+1) (by omega)
 unfold writeS
 dsimp only
 split
 ·exact J
 split
 ·exact J
 split
 ·exact J
 refine ⟨mput_nodup I.nd,J.nm,J.tl,?_,fun p hp=>?_,J.ck,J.mn,fun p hp=>?_⟩
 ·have:=I.rl
  have h:=mput_length (k:=key) (v:=(⟨(rowOf m key).l,v⟩:model_row)) m.rows
  show (mput m.rows key _).length≤_
  rw [h];split<;>omega
 ·rcases (mput_mem I.nd p).1 hp with rfl | ⟨h,_⟩
  ·have:=(I.row key).1;show (rowOf m key).l.length≤_;omega
  ·exact J.vl p h
 ·rcases (mput_mem I.nd p).1 hp with rfl | ⟨h,_⟩
  ·exact hv
  ·exact I.wp p h
theorem Inv.begin {n:Nat} {m:Mod} (I:Inv n m) (t:Int):Inv (n+1) (beginS m t).2:=by
 have J:=I.mono (n':=n+1) (by omega)
 unfold beginS
 split
 ·exact J
 refine ⟨I.nd,fun x w h=>?_,by have:=I.tl;simp;omega,J.rl,J.vl,J.ck,fun u=>?_,I.wp⟩
 ·simp only [List.length_append,List.length_singleton]
  have h:mget (mput m.names ⟨t,(mget m.many t).getD 0+1⟩ ((m.txs.length:Int)+1)) x=some w:=h
  rw [mget_mput] at h
  split at h
  ·cases h;omega
  ·have:=I.nm x w h;omega
 ·have h1:=I.mn t
  have h2:=I.mn u
  show 0≤(mget (mput m.many t _) u).getD 0∧(mget (mput m.many t _) u).getD 0≤_
  rw [mget_mput]
  split
  ·simp;omega
  ·simp;omega
theorem Inv.do_ {n:Nat} {m:Mod} (I:Inv n m) (t:Int) (x:api_Call):Inv (n+1) (doS m t x).2:=by
 have J:=I.mono (n':=n+1) (by omega)
 unfold doS
 by_cases h0:refS m t x=0
 ·rw [if_neg (by simpa using h0)]
  have hw:=fun hk=>refS_tx I h0 hk
  unfold actS
  split
  ·exact I.begin t
  split
  ·exact J
  split
  ·exact I.write _ _ (by have:=hw (by omega);show 0≤(txS m t x.Tx).1;omega)
  split
  ·exact I.write _ _ (by have:=hw (by omega);show 0≤(txS m t x.Tx).1;omega)
  split
  ·exact J
  split
  ·unfold commitS
   split
   ·exact I.end_ _ _ _
   split
   ·exact I.end_ _ _ _
   ·exact I.end' _ _ _ (by have:=I.ck;omega)
  split
  ·exact I.end_ _ _ _
  split
  ·exact I.vac
  ·exact J
 ·rw [if_pos (by simpa using h0)];exact J
theorem ite_c {p:Prop} [Decidable p] {a b:api_Answer×Mod} {c:api_Config} (h:a.2.c=c) (h':b.2.c=c):(if p then a else b).2.c=c:=by split<;>assumption
theorem beginS_c (m:Mod) (t:Int):(beginS m t).2.c=m.c:=ite_c rfl rfl
theorem writeS_c (m:Mod) (k:Str) (v:api_Version):(writeS m k v).2.c=m.c:=ite_c rfl (ite_c rfl (ite_c rfl rfl))
theorem commitS_c (m:Mod) (w:Int):(commitS m w).2.c=m.c:=ite_c rfl (ite_c rfl rfl)
theorem doS_c (m:Mod) (t:Int) (x:api_Call):(doS m t x).2.c=m.c :=
 ite_c rfl (ite_c (beginS_c _ _) (ite_c rfl (ite_c (writeS_c _ _ _) (ite_c (writeS_c _ _ _) (ite_c rfl (ite_c (commitS_c _ _) (ite_c rfl (ite_c rfl rfl))))))))
def newS (c:api_Config):Mod:=⟨c,[],[],[],[],0,0⟩
theorem Inv.new (c:api_Config):Inv 0 (newS c) :=
 ⟨List.nodup_nil,fun x w h=>by simp [newS] at h,by simp [newS],by simp [newS],fun p hp=>by simp [newS] at hp,by simp [newS],fun t=>by simp [newS],fun p hp=>by simp [newS] at hp⟩
theorem New_eq (k:Nat) (hk:9≤k) (c:api_Config):model_New_v k c=some (if mayB c=true then .inr (newS c) else .inl ()):=by
 simp only [model_New_v,May_def k c hk,Option.bind_some]
 cases mayB c<;>rfl
theorem large_l0 (a:List ferrymanlaw16_Turn) (hb:a.length≤9223372036854775807):∀ (j i:Nat) (n:Int),i+j=a.length→60*(i:Int)≤n→n≤50000→∀ k,j<k→∃ r:Int,ferrymanlaw16_large_l0 a k n (i:Int)=some r∧(r<12000→60*(a.length:Int)≤r):=by
 intro j
 induction j with
 | zero =>
  intro i n hi h1 h2 k hk
  obtain ⟨k,rfl⟩:∃ k',k=k'+1:=⟨k-1,by omega⟩
  rw [ferrymanlaw16_large_l0.eq_2]
  have:¬ ((i:Int)<(a.length:Int)):=by omega
  exact ⟨n,by simp [this],fun _=>by omega⟩
 | succ j ih =>
  intro i n hi h1 h2 k hk
  obtain ⟨k,rfl⟩:∃ k',k=k'+1:=⟨k-1,by omega⟩
  have hlt:i<a.length:=by omega
  have h3:(i:Int)<(a.length:Int):=by omega
  rw [ferrymanlaw16_large_l0.eq_2]
  by_cases hn:n<12000
  ·have mn:∀ s:Str,0≤imin (9000:Int) (s.length:Int)∧imin (9000:Int) (s.length:Int)≤9000:=fun s=>by unfold imin;split<;>omega
   have m1:=mn a[i].Call.Key
   have m2:=mn a[i].Call.End
   have m3:=mn a[i].Call.Value
   simp only [h3,hn,decide_true,Bool.and_self,if_true,inR hlt,and_self,rdN hlt,wr1 (i:=i) (by omega)]
   rw [wr (x:=n+60) (by omega) (by omega),wr (x:=n+60+_) (by omega) (by omega),wr (x:=n+60+_+_) (by omega) (by omega),wr (x:=n+60+_+_+_) (by omega) (by omega)]
   exact ih (i+1) _ (by omega) (by omega) (by omega) k (by omega)
  ·exact ⟨n,by simp [hn],fun h=>absurd h hn⟩
theorem large_ev (a:List ferrymanlaw16_Turn) (hb:a.length≤9223372036854775807):∃ b,Ev (fun k=>ferrymanlaw16_large k a) b∧(b=false→a.length<200):=by
 obtain ⟨r,h1,h2⟩:=large_l0 a hb a.length 0 0 (by omega) (by omega) (by omega) (a.length+1) (by omega)
 refine ⟨decide (r≥12000),⟨a.length+1,fun k hk=>?_⟩,fun h=>?_⟩
 ·obtain ⟨r',g1,_⟩:=large_l0 a hb a.length 0 0 (by omega) (by omega) (by omega) k (by omega)
  have e:r'=r:=by
   have:=OLe.up (f:=fun k=>ferrymanlaw16_large_l0 a k 0 ((0:Nat):Int)) (fun k=>ferrymanlaw16_large_l0.mono) hk r h1
   exact Option.some.inj (g1.symm.trans this)
  simp only [ferrymanlaw16_large]
  show Option.bind (ferrymanlaw16_large_l0 a k 0 ((0:Nat):Int)) _=_
  rw [g1,e];rfl
 ·have:¬ r≥12000:=by simpa using h
  have:=h2 (by omega)
  omega
theorem works_at:ferrymanlaw16_works 60=some true:=by decide +kernel
theorem works_ev:Ev (fun k=>ferrymanlaw16_works k) true:=⟨60,fun k hk=>OLe.up (f:=fun k=>ferrymanlaw16_works k) (fun k=>ferrymanlaw16_works.mono) hk _ works_at⟩
end Go.Proofs.YtcngjjlhdlbogaaDoor
