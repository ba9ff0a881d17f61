import Derived.Test.YtcngjjlhdlbogaaDoorPureModel2
namespace Go.Proofs.YtcngjjlhdlbogaaDoor
open Go Go.RowKit
set_option linter.unusedVariables false
set_option linter.unusedSimpArgs false
set_option maxRecDepth 100000
theorem VW {one:Ql→Ql} {l:List (Str×Ql)} {q:Str×Ql}:q∈eachS one l↔∃ p∈l,gone (one p.2)=false∧q=(p.1,one p.2):=by
 simp only [eachS,List.mem_filterMap]
 constructor
 ·rintro ⟨p,hp,h⟩
  split at h
  ·cases h
  ·next hg=>exact ⟨p,hp,by simpa using hg,(Option.some.inj h).symm⟩
 ·rintro ⟨p,hp,h1,h2⟩
  exact ⟨p,hp,by rw [if_neg (by simp [h1]),h2]⟩
theorem KZ (one:Ql→Ql) (l:List (Str×Ql)):(eachS one l).length≤l.length:=List.length_filterMap_le _ _
theorem US (one:Ql→Ql):∀ l:List (Str×Ql),((eachS one l).map (·.1)).Sublist (l.map (·.1))
 | []=>List.Sublist.refl _
 | p::l=>by
  have ih:=US one l
  simp only [eachS,List.filterMap_cons,List.map_cons] at ih ⊢
  split
  ·next h=>exact ih.cons _
  ·next q h =>
   split at h
   ·cases h
   ·cases h;rw [List.map_cons];exact ih.cons_cons _
theorem JT {one:Ql→Ql} {l:List (Str×Ql)} (h:(l.map (·.1)).Nodup):((eachS one l).map (·.1)).Nodup:=h.sublist (US one l)
theorem Inv.each {n:Nat} {m:Mod} (I:Inv n m) (one:Ql→Ql) (h1:∀ p∈m.rows,(one p.2).l.length≤n+1) (h2:∀ p∈m.rows,0≤(one p.2).intent.Writer) (f:Int):Inv (n+1) { m with rows:=eachS one m.rows,floor:=f } where
 nd:=JT I.nd
 nm:=I.nm
 tl:=by have:=I.tl;simp;omega
 rl:=by have:=I.rl;have:=KZ one m.rows;simp;omega
 vl:=fun q hq=>by obtain ⟨p,hp,_,rfl⟩:=VW.1 hq;exact h1 p hp
 ck:=by have:=I.ck;simp;omega
 mn:=fun t=>by have:=I.mn t;simp;omega
 wp:=fun q hq=>by obtain ⟨p,hp,_,rfl⟩:=VW.1 hq;exact h2 p hp
theorem Js (w ts:Int) (r:Ql):(endRow w ts r).l.length≤r.l.length+1:=by
 unfold endRow;split
 ·omega
 ·split<;>simp
theorem KY (w ts:Int) {r:Ql} (h:0≤r.intent.Writer):0≤(endRow w ts r).intent.Writer:=by
 unfold endRow;split
 ·exact h
 ·exact Int.le_refl _
theorem Inv.set {n:Nat} {m:Mod} (I:Inv n m) (i:Nat) (x:Z9):Inv n { m with txs:=m.txs.set i x } :=
 ⟨I.nd,fun y w h=>by simpa using I.nm y w h,by simpa using I.tl,I.rl,I.vl,I.ck,I.mn,I.wp⟩
theorem Inv.end_ {n:Nat} {m:Mod} (I:Inv n m) (w st ts:Int):Inv (n+1) (endS m w st ts) :=
 (I.set (w-1).toNat ⟨st,(rd m.txs (w-1)).snapshot⟩).each (endRow w ts) (fun p hp=>by have:=Js w ts p.2;have:=I.vl p hp;omega) (fun p hp=>KY w ts (I.wp p hp)) m.floor
theorem Inv.end' {n:Nat} {m:Mod} (I:Inv n m) (w st ts:Int) (hc:m.clock+1≤(n:Int)+1):Inv (n+1) (endS { m with clock:=m.clock+1 } w st ts):=by
 have J:Inv (n+1) (endS m w st ts):=I.end_ w st ts
 have:=I.ck
 exact ⟨J.nd,J.nm,J.tl,J.rl,J.vl,by show 0≤m.clock+1∧m.clock+1≤_;simp;omega,J.mn,J.wp⟩
theorem Inv.vac {n:Nat} {m:Mod} (I:Inv n m):Inv (n+1) (vacS m) :=
 I.each (keptRow _) (fun p hp=>by have:=K1 p.2.l (floorL m.txs m.clock);have:=I.vl p hp;simp [keptRow];omega) (fun p hp=>I.wp p hp) _
theorem Inv.write {n:Nat} {m:Mod} (I:Inv n m) (key:Str) (v:QS) (hv:0≤v.Writer):Inv (n+1) (writeS m key v).2:=by
 have J:=I.mono (n':=n+1) (by omega)
 unfold writeS
 dsimp only
 split
 ·exact J
 split
 ·exact J
 split
 ·exact J
 refine ⟨X2 I.nd,J.nm,J.tl,?_,fun p hp=>?_,J.ck,J.mn,fun p hp=>?_⟩
 ·have:=I.rl
  have h:=Vy (k:=key) (v:=(⟨(rowOf m key).l,v⟩:Ql)) m.rows
  show (mput m.rows key _).length≤_
  rw [h];split<;>omega
 ·rcases (Xr I.nd p).1 hp with rfl | ⟨h,_⟩
  ·have:=(I.row key).1;show (rowOf m key).l.length≤_;omega
  ·exact J.vl p h
 ·rcases (Xr I.nd p).1 hp with rfl | ⟨h,_⟩
  ·exact hv
  ·exact I.wp p h
theorem Inv.begin {n:Nat} {m:Mod} (I:Inv n m) (t:Int):Inv (n+1) (beginS m t).2:=by
 have J:=I.mono (n':=n+1) (by omega)
 unfold beginS
 split
 ·exact J
 refine ⟨I.nd,fun x w h=>?_,by have:=I.tl;simp;omega,J.rl,J.vl,J.ck,fun u=>?_,I.wp⟩
 ·simp only [List.length_append,List.length_singleton]
  have h:mget (mput m.names ⟨t,(mget m.many t).getD 0+1⟩ ((m.txs.length:Int)+1)) x=some w:=h
  rw [Xg] at h
  split at h
  ·cases h;omega
  ·have:=I.nm x w h;omega
 ·have h1:=I.mn t
  have h2:=I.mn u
  show 0≤(mget (mput m.many t _) u).getD 0∧(mget (mput m.many t _) u).getD 0≤_
  rw [Xg]
  split
  ·simp;omega
  ·simp;omega
theorem Inv.do_ {n:Nat} {m:Mod} (I:Inv n m) (t:Int) (x:ZE):Inv (n+1) (doS m t x).2:=by
 have J:=I.mono (n':=n+1) (by omega)
 unfold doS
 by_cases h0:refS m t x=0
 ·rw [if_neg (by simpa using h0)]
  have hw:=fun hk=>Ut I h0 hk
  unfold actS
  split
  ·exact I.begin t
  split
  ·exact J
  split
  ·exact I.write _ _ (by have:=hw (by omega);show 0≤(txS m t x.Tx).1;omega)
  split
  ·exact I.write _ _ (by have:=hw (by omega);show 0≤(txS m t x.Tx).1;omega)
  split
  ·exact J
  split
  ·unfold commitS
   split
   ·exact I.end_ _ _ _
   split
   ·exact I.end_ _ _ _
   ·exact I.end' _ _ _ (by have:=I.ck;omega)
  split
  ·exact I.end_ _ _ _
  split
  ·exact I.vac
  ·exact J
 ·rw [if_pos (by simpa using h0)];exact J
theorem X5 {p:Prop} [Decidable p] {a b:Qc×Mod} {c:Qw} (h:a.2.c=c) (h':b.2.c=c):(if p then a else b).2.c=c:=by split<;>assumption
theorem qC (m:Mod) (t:Int):(beginS m t).2.c=m.c:=X5 rfl rfl
theorem U6 (m:Mod) (k:Str) (v:QS):(writeS m k v).2.c=m.c:=X5 rfl (X5 rfl (X5 rfl rfl))
theorem Kc (m:Mod) (w:Int):(commitS m w).2.c=m.c:=X5 rfl (X5 rfl rfl)
theorem doS_c (m:Mod) (t:Int) (x:ZE):(doS m t x).2.c=m.c :=
 X5 rfl (X5 (qC _ _) (X5 rfl (X5 (U6 _ _ _) (X5 (U6 _ _ _) (X5 rfl (X5 (Kc _ _) (X5 rfl (X5 rfl rfl))))))))
def newS (c:Qw):Mod:=⟨c,[],[],[],[],0,0⟩
theorem Inv.new (c:Qw):Inv 0 (newS c) :=
 ⟨List.nodup_nil,fun x w h=>by simp [newS] at h,by simp [newS],by simp [newS],fun p hp=>by simp [newS] at hp,by simp [newS],fun t=>by simp [newS],fun p hp=>by simp [newS] at hp⟩
theorem New_eq (k:Nat) (hk:9≤k) (c:Qw):Y6 k c=some (if mayB c=true then .inr (newS c) else .inl ()):=by
 simp only [Y6,V8 k c hk,Option.bind_some]
 cases mayB c<;>rfl
theorem Uc (m:Mod) (w:Int) (x:ZE):∀ (L:List Str) (out:List Qf),(scanL m w x L out).length≤out.length+L.length
 | [],out=>by simp [scanL]
 | y::t,out=>by
  unfold scanL
  split
  ·omega
  ·refine Nat.le_trans (Uc m w x t _) ?_
   split<;>simp<;>omega
theorem X3 {p:Prop} [Decidable p] {a b:Qc×Mod} {n:Nat} (h:a.1.Pairs.length≤n) (h':b.1.Pairs.length≤n):(if p then a else b).1.Pairs.length≤n:=by split<;>assumption
theorem Kb {n:Nat} {m:Mod} (I:Inv n m) (t:Int) (x:ZE):(doS m t x).1.Pairs.length≤n:=by
 have z:∀ e,(ans e).Pairs.length≤n:=fun e=>Nat.zero_le _
 have hg:∀ w,(getS m w x).Pairs.length≤n:=fun w=>by unfold getS;split<;>exact Nat.zero_le _
 have hs:∀ w,(scanS m w x).Pairs.length≤n:=fun w=>by
  have:=Uc m w x (keysS m) []
  have h2:=Xx m
  have h3:=I.rl
  show (scanL m w x (keysS m) []).length≤n
  simp at this;omega
 have hb:(beginS m t).1.Pairs.length≤n:=X3 (z _) (z _)
 have hw:∀ k v,(writeS m k v).1.Pairs.length≤n:=fun k v=>X3 (z _) (X3 (z _) (X3 (z _) (Nat.zero_le _)))
 have hc:∀ w,(commitS m w).1.Pairs.length≤n:=fun w=>X3 (z _) (X3 (z _) (z _))
 exact X3 (z _) (X3 hb (X3 (hg _) (X3 (hw _ _) (X3 (hw _ _) (X3 (hs _) (X3 (hc _) (X3 (z _) (X3 (z _) (z _)))))))))
end Go.Proofs.YtcngjjlhdlbogaaDoor
