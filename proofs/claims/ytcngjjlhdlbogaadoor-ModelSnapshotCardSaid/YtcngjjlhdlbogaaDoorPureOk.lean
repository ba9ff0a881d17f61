import Derived.Test.YtcngjjlhdlbogaaDoorPureRun
namespace Go.Proofs.YtcngjjlhdlbogaaDoor
open Go Go.RowKit
set_option linter.unusedVariables false
set_option linter.unusedSimpArgs false
set_option maxRecDepth 100000
theorem kept_kept:∀ (l:List Ver) (f g:Int),kept (kept l f) g=kept l (if f≤g then g else f)
 | [],_,_=>by simp [kept]
 | v::t,f,g=>by
  have ih:=kept_kept t f g
  by_cases h:f≤g
  ·simp only [h,if_true] at ih ⊢
   by_cases h1:v.TS≤f
   ·have h2:v.TS≤g:=by omega
    cases ht:v.Tomb<;>simp [kept,h1,h2,ht]
   ·by_cases h2:v.TS≤g
    ·simp [kept,h1,h2]
    ·simp [kept,h1,h2,ih]
  ·simp only [h,if_false] at ih ⊢
   by_cases h1:v.TS≤f
   ·by_cases h2:v.TS≤g
    ·cases ht:v.Tomb<;>simp [kept,h1,h2,ht]
    ·cases ht:v.Tomb<;>simp [kept,h1,h2,ht]
   ·have h2:¬ v.TS≤g:=by omega
    simp [kept,h1,h2,ih]
theorem floor_le:∀ (l:List model_tx) (f:Int),floorL l f≤f
 | [],f=>Int.le_refl _
 | x::t,f=>by
  unfold floorL
  refine Int.le_trans (floor_le t _) ?_
  split
  ·unfold imin;split<;>omega
  ·exact Int.le_refl _
theorem floor_act:∀ (l:List model_tx) (f:Int),∀ x∈l,x.state=1→floorL l f≤x.snapshot
 | [],f,x,hx,_=>by cases hx
 | a::t,f,x,hx,h=>by
  unfold floorL
  rcases List.mem_cons.1 hx with rfl | hx
  ·refine Int.le_trans (floor_le t _) ?_
   rw [if_pos h];unfold imin;split<;>omega
  ·exact floor_act t _ x hx h
theorem gone_nil {r:model_row}:gone r=true↔r.l=[]∧r.intent.Writer=0:=by simp [gone,List.length_eq_zero_iff]
structure Ok (m:Mod):Prop where
 gn:∀ p∈m.rows,gone p.2=false
 iw:∀ p∈m.rows,p.2.intent.Writer=0→p.2.intent=⟨0,0,false,[]⟩
theorem mget_in {k:Str} {v:model_row}:∀ {l:List (Str×model_row)},(l.map (·.1)).Nodup→(k,v)∈l→mget l k=some v
 | [],_,h=>by cases h
 | (a,b)::l,hn,h=>by
  have h2:=List.nodup_cons.1 (show (a::l.map (·.1)).Nodup from hn)
  rw [mget_cons]
  rcases List.mem_cons.1 h with h | h
  ·cases h;rw [if_pos rfl]
  ·rw [if_neg (fun e=>h2.1 (by subst e;exact List.mem_map_of_mem (f:=(·.1)) h))]
   exact mget_in h2.2 h
theorem row_in {n:Nat} {m:Mod} (I:Inv n m) {p:Str×model_row} (hp:p∈m.rows):rowOf m p.1=p.2:=by
 unfold rowOf;rw [mget_in I.nd hp];rfl
theorem Ok.row {m:Mod} (O:Ok m) (y:Str):(rowOf m y).intent.Writer=0→(rowOf m y).intent=⟨0,0,false,[]⟩:=by
 unfold rowOf
 cases h:mget m.rows y with
 | none=>intro _;rfl
 | some r=>exact O.iw _ (mget_mem h)
theorem mget_each {one:model_row→model_row} {y:Str}:∀ {l:List (Str×model_row)},(l.map (·.1)).Nodup→mget (eachS one l) y=(mget l y).bind fun r=>if gone (one r)=true then none else some (one r)
 | [],_=>rfl
 | (a,u)::l,hn=>by
  have h2:=List.nodup_cons.1 (show (a::l.map (·.1)).Nodup from hn)
  have ih:=mget_each (one:=one) (y:=y) h2.2
  have hr:(eachS one ((a,u)::l))=(if gone (one u)=true then [] else [(a,one u)])++eachS one l:=by
   simp only [eachS,List.filterMap_cons];split<;>simp_all
  rw [hr,mget_cons]
  by_cases e:a=y
  ·subst e
   rw [if_pos rfl,Option.bind_some]
   have h0:mget (eachS one l) a=none:=mget_none.2 fun h=>h2.1 ((eachS_keys one l).subset h)
   cases hg:gone (one u) with
   | true=>simp [h0]
   | false=>simp [mget_cons]
  ·rw [if_neg e,← ih]
   cases hg:gone (one u) with
   | true=>simp
   | false=>simp [mget_cons,e]
theorem row_each {n:Nat} {m:Mod} (I:Inv n m) (O:Ok m) {one:model_row→model_row} (h0:one nil_row=nil_row) (h1:∀ r:model_row,(r.intent.Writer=0→r.intent=⟨0,0,false,[]⟩)→gone (one r)=true→one r=nil_row) (m':Mod) (hm:m'.rows=eachS one m.rows) (y:Str):rowOf m' y=one (rowOf m y):=by
 have hr:=O.row y
 unfold rowOf at hr ⊢
 rw [hm,mget_each I.nd]
 cases h:mget m.rows y with
 | none=>simp [h0]
 | some r =>
  rw [h] at hr
  simp only [Option.bind_some,Option.getD_some] at hr ⊢
  cases hg:gone (one r) with
  | true=>simp [h1 r hr hg]
  | false=>simp
theorem kept_gone (f:Int) (r:model_row) (h:r.intent.Writer=0→r.intent=⟨0,0,false,[]⟩) (g:gone (keptRow f r)=true):keptRow f r=nil_row:=by
 have h2:=gone_nil.1 g
 have h3:(keptRow f r).intent=⟨0,0,false,[]⟩:=h h2.2
 generalize keptRow f r=q at *
 cases q;simp_all [nil_row]
theorem endRow_iw {w ts:Int} {r:model_row} (h:r.intent.Writer=0→r.intent=⟨0,0,false,[]⟩):(endRow w ts r).intent.Writer=0→(endRow w ts r).intent=⟨0,0,false,[]⟩:=by
 unfold endRow
 split
 ·exact h
 ·intro _;rfl
theorem end_gone {w ts:Int} (r:model_row) (h:r.intent.Writer=0→r.intent=⟨0,0,false,[]⟩) (g:gone (endRow w ts r)=true):endRow w ts r=nil_row:=by
 have h2:=gone_nil.1 g
 have h3:=endRow_iw (w:=w) (ts:=ts) h h2.2
 generalize endRow w ts r=q at *
 cases q;simp_all [nil_row]
theorem end_nil {w ts:Int} (hw:1≤w):endRow w ts nil_row=nil_row:=by
 unfold endRow;rw [if_pos (by show (0:Int)≠w;omega)]
theorem Ok.each {m:Mod} (O:Ok m) {one:model_row→model_row} (h:∀ r:model_row,(r.intent.Writer=0→r.intent=⟨0,0,false,[]⟩)→(one r).intent.Writer=0→(one r).intent=⟨0,0,false,[]⟩) (m':Mod) (hm:m'.rows=eachS one m.rows):Ok m' where
 gn:=fun q hq=>by rw [hm] at hq;obtain ⟨p,_,hg,rfl⟩:=eachS_mem.1 hq;exact hg
 iw:=fun q hq=>by rw [hm] at hq;obtain ⟨p,hp,_,rfl⟩:=eachS_mem.1 hq;exact h _ (O.iw p hp)
theorem Ok.vac {m:Mod} (O:Ok m):Ok (vacS m):=O.each (one:=keptRow (floorL m.txs m.clock)) (fun r h=>h) _ rfl
theorem Ok.end_ {m:Mod} (O:Ok m) (w st ts:Int) (c:Int):Ok (endS { m with clock:=c } w st ts):=O.each (one:=endRow w ts) (fun r h=>endRow_iw h) _ rfl
theorem Ok.write {n:Nat} {m:Mod} (I:Inv n m) (O:Ok m) (key:Str) (v:api_Version) (hv:1≤v.Writer):Ok (writeS m key v).2:=by
 unfold writeS
 dsimp only
 split
 ·exact O
 split
 ·exact O
 split
 ·exact O
 have h0:v.Writer≠0:=by omega
 refine ⟨fun p hp=>?_,fun p hp=>?_⟩
 ·rcases (mput_mem I.nd p).1 hp with rfl | ⟨h,_⟩
  ·simp [gone,h0]
  ·exact O.gn p h
 ·rcases (mput_mem I.nd p).1 hp with rfl | ⟨h,_⟩
  ·exact fun h=>absurd h h0
  ·exact O.iw p h
theorem Ok.do_ {n:Nat} {m:Mod} (I:Inv n m) (O:Ok m) (t:Int) (x:api_Call):Ok (doS m t x).2:=by
 unfold doS
 by_cases h0:refS m t x=0
 ·rw [if_neg (by simpa using h0)]
  have hw:=fun hk=>refS_tx I h0 hk
  unfold actS
  split
  ·unfold beginS;split
   ·exact O
   ·exact ⟨O.gn,O.iw⟩
  split
  ·exact O
  split
  ·exact Ok.write I O _ _ (hw (by omega)).1
  split
  ·exact Ok.write I O _ _ (hw (by omega)).1
  split
  ·exact O
  split
  ·unfold commitS
   split
   ·exact O.end_ _ _ _ m.clock
   split
   ·exact O.end_ _ _ _ m.clock
   ·exact O.end_ _ _ _ _
  split
  ·exact O.end_ _ _ _ m.clock
  split
  ·exact O.vac
  ·exact O
 ·rw [if_pos (by simpa using h0)];exact O
def Fl (m:Mod) (f:Int):Prop:=f≤m.clock∧∀ x∈m.txs,x.state=1→f≤x.snapshot
theorem any_row {a:Nat} {m:Mod} (I:Inv a m) {w:Int} (hw:1≤w):(m.rows.any fun p=>p.2.intent.Writer==w)=true↔∃ y,(rowOf m y).intent.Writer=w:=by
 rw [List.any_eq_true]
 constructor
 ·rintro ⟨p,hp,h⟩
  exact ⟨p.1,by rw [row_in I hp];simpa using h⟩
 ·rintro ⟨y,h⟩
  unfold rowOf at h
  cases hm:mget m.rows y with
  | none=>rw [hm] at h;exact absurd h (by show (0:Int)≠w;omega)
  | some r=>rw [hm] at h;exact ⟨_,mget_mem hm,by simpa using h⟩
end Go.Proofs.YtcngjjlhdlbogaaDoor
