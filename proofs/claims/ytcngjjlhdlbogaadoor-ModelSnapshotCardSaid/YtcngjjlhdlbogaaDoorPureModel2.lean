import Derived.Test.YtcngjjlhdlbogaaDoorPureModel
namespace Go.Proofs.YtcngjjlhdlbogaaDoor
open Go Go.RowKit
set_option linter.unusedVariables false
set_option linter.unusedSimpArgs false
set_option maxRecDepth 100000
section
variable {κ ν:Type} [DecidableEq κ]
theorem mget_app {y:κ} {u:ν} {r:List (κ×ν)}:∀ {d:List (κ×ν)},y ∉ d.map (·.1)→mget (d++(y,u)::r) y=some u
 | [],_=>by rw [List.nil_append,mget_cons,if_pos rfl]
 | (a,b)::d,h=>by
  simp only [List.map_cons,List.mem_cons,not_or] at h
  rw [List.cons_append,mget_cons,if_neg (fun e=>h.1 e.symm)];exact mget_app h.2
theorem mput_app {y:κ} {u v:ν} {r:List (κ×ν)}:∀ {d:List (κ×ν)},y ∉ d.map (·.1)→mput (d++(y,u)::r) y v=d++(y,v)::r
 | [],_=>by rw [List.nil_append,mput_cons,if_pos rfl,List.nil_append]
 | (a,b)::d,h=>by
  simp only [List.map_cons,List.mem_cons,not_or] at h
  rw [List.cons_append,mput_cons,if_neg (fun e=>h.1 e.symm),mput_app h.2,List.cons_append]
theorem mdel_app {y:κ} {u:ν} {r:List (κ×ν)}:∀ {d:List (κ×ν)},y ∉ d.map (·.1)→mdel (d++(y,u)::r) y=d++r
 | [],_=>by rw [List.nil_append,mdel_cons,if_pos rfl,List.nil_append]
 | (a,b)::d,h=>by
  simp only [List.map_cons,List.mem_cons,not_or] at h
  rw [List.cons_append,mdel_cons,if_neg (fun e=>h.1 e.symm),mdel_app h.2,List.cons_append]
end
def gone (r:model_row):Bool:=((r.l.length:Int)==(0:Int))&&(r.intent.Writer==(0:Int))
def eachS (one:model_row→model_row) (l:List (Str×model_row)):List (Str×model_row):=l.filterMap fun p=>if gone (one p.2)=true then none else some (p.1,one p.2)
def endRow (w ts:Int) (r:model_row):model_row:=if r.intent.Writer≠w then r else ⟨if ts>0 then ⟨r.intent.Writer,ts,r.intent.Tomb,r.intent.Value⟩::r.l else r.l,⟨0,0,false,[]⟩⟩
theorem end1_eq (k:Nat) (r:model_row) (w ts:Int) (h:r.l.length≤1000001):model_Model_end_1 k r w ts=some (endRow w ts r):=by
 unfold model_Model_end_1 endRow
 by_cases c:r.intent.Writer=w
 ·have c1:¬ ((r.intent.Writer != w)=true):=by simpa using c
  have c2:¬ (r.intent.Writer≠w):=by simpa using c
  rw [if_neg c1,if_neg c2]
  by_cases d:ts>0
  ·simp only [d,decide_true,if_true]
   rw [if_pos (by simp;omega)];simp
  ·simp only [d,decide_false,Bool.false_eq_true,if_false];simp
 ·have c1:(r.intent.Writer != w)=true:=by simpa using c
  rw [if_pos c1,if_pos c]
theorem keys_app {d r:List (Str×model_row)} {p:Str×model_row} (h:((d++p::r).map (·.1)).Nodup):p.1 ∉ d.map (·.1)∧p.1 ∉ r.map (·.1)∧((d++r).map (·.1)).Nodup:=by
 rw [List.map_append,List.map_cons,List.nodup_append] at h
 have h2:=List.nodup_cons.1 h.2.1
 refine ⟨fun hd=>h.2.2 _ hd _ List.mem_cons_self rfl,h2.1,?_⟩
 rw [List.map_append,List.nodup_append]
 exact ⟨h.1,h2.2,fun a ha b hb=>h.2.2 a ha b (List.mem_cons_of_mem _ hb)⟩
theorem end_l0 (k:Nat) (w ts:Int):∀ (cur done:List (Str×model_row)) (kl:Nat),((done++cur).map (·.1)).Nodup→(∀ p∈cur,p.2.l.length≤1000001)→cur.length<kl →
  model_Model_each_POOOO_Model_end_1_l0 k w ts kl (done++cur) (cur.map (·.1))=some (done++eachS (endRow w ts) cur)
 | [],done,kl,_,_,h=>by
  obtain ⟨kl,rfl⟩:∃ q,kl=q+1:=⟨kl-1,by simp at h;omega⟩
  rw [model_Model_each_POOOO_Model_end_1_l0.eq_2];simp [onList_nil,eachS]
 | (y,u)::cur,done,kl,hn,hl,h=>by
  obtain ⟨kl,rfl⟩:∃ q,kl=q+1:=⟨kl-1,by simp at h;omega⟩
  obtain ⟨h1,h2,h3⟩:=keys_app hn
  have hu:=hl _ List.mem_cons_self
  rw [model_Model_each_POOOO_Model_end_1_l0.eq_2,List.map_cons,onList_cons,mget_app h1,Option.getD_some,end1_eq k u w ts hu]
  have hm:y∈(done++(y,u)::cur).map (fun p=>p.1):=by simp
  simp only [Option.bind_some]
  rw [if_pos hm,mput_app h1]
  have hr:(eachS (endRow w ts) ((y,u)::cur))=(if gone (endRow w ts u)=true then [] else [(y,endRow w ts u)])++eachS (endRow w ts) cur:=by
   simp only [eachS,List.filterMap_cons];split<;>simp_all
  have hg:((((endRow w ts u).l.length:Int)==(0:Int))&&((endRow w ts u).intent.Writer==(0:Int)))=gone (endRow w ts u):=rfl
  rw [hr,hg]
  cases hq:gone (endRow w ts u) with
  | true =>
   simp only [if_true,Option.bind_some]
   rw [if_pos h2,mdel_app h1]
   simp only [Option.bind_some]
   rw [end_l0 k w ts cur done kl h3 (fun p hp=>hl p (List.mem_cons_of_mem _ hp)) (by simp at h;omega)];rfl
  | false =>
   simp only [Bool.false_eq_true,if_false,Option.bind_some]
   have e:done++(y,endRow w ts u)::cur=(done++[(y,endRow w ts u)])++cur:=by simp
   rw [e,end_l0 k w ts cur (done++[(y,endRow w ts u)]) kl (by simpa using hn) (fun p hp=>hl p (List.mem_cons_of_mem _ hp)) (by simp at h;omega)]
   simp
def endS (m:Mod) (w st ts:Int):Mod:={ m with txs:=m.txs.set (w-1).toNat ⟨st,(rd m.txs (w-1)).snapshot⟩,rows:=eachS (endRow w ts) m.rows }
theorem end_ev {n:Nat} {m:Mod} (I:Inv n m) (hn:n≤1000000) {w:Int} (h1:1≤w) (h2:w≤(m.txs.length:Int)) (st ts:Int):Ev (fun k=>model_Model_end_POOOO k m w st ts) (ans 0,endS m w st ts):=by
 have h3:=I.tl
 have h4:=I.rl
 have e:=wr (x:=w-1) (by omega) (by omega)
 unfold model_Model_end_POOOO
 simp only [e]
 refine Ev.pos ⟨by omega,by omega⟩ ?_
 simp only [Option.bind_some]
 refine ⟨n+1,fun k hk=>?_⟩
 simp only [model_Model_each_POOOO_Model_end_1]
 rw [if_pos I.nd]
 have:=end_l0 k w ts m.rows [] k (by simpa using I.nd) (fun p hp=>by have:=I.vl p hp;omega) (by omega)
 simp only [List.nil_append] at this
 rw [this];rfl
theorem commit_l0 (k:Nat) (m:Mod) (w:Int) (hn:(m.rows.map (·.1)).Nodup):∀ (cur done:List (Str×model_row)) (kl:Nat) (b:Bool),done++cur=m.rows→cur.length<kl →
  model_Model_commit_POOOO_l0 k m w kl b (cur.map (·.1))=some (b||cur.any fun p=>p.2.intent.Writer==w)
 | [],done,kl,b,_,h=>by
  obtain ⟨kl,rfl⟩:∃ q,kl=q+1:=⟨kl-1,by simp at h;omega⟩
  rw [model_Model_commit_POOOO_l0.eq_2];simp [onList_nil]
 | (y,u)::cur,done,kl,b,he,h=>by
  obtain ⟨kl,rfl⟩:∃ q,kl=q+1:=⟨kl-1,by simp at h;omega⟩
  rw [← he] at hn
  obtain ⟨h1,h2,h3⟩:=keys_app hn
  rw [model_Model_commit_POOOO_l0.eq_2,List.map_cons,onList_cons,← he,mget_app h1,Option.getD_some]
  rw [commit_l0 k m w (he ▸ hn) cur (done++[(y,u)]) kl _ (by rw [← he];simp) (by simp at h;omega)]
  simp [Bool.or_assoc]
def commitS (m:Mod) (w:Int):api_Answer×Mod :=
 if (m.rows.any fun p=>p.2.intent.Writer==w)=false then (ans 0,endS m w 3 0)
 else if m.clock=m.c.TS then (ans 35,endS m w 4 0)
 else (ans 0,endS { m with clock:=m.clock+1 } w 3 (m.clock+1))
theorem Inv.clock {n:Nat} {m:Mod} (I:Inv n m):Inv (n+1) { m with clock:=m.clock+1 } :=
 ⟨I.nd,I.nm,by have:=I.tl;simp;omega,by have:=I.rl;simp;omega,fun p hp=>by have:=I.vl p hp;omega,by have:=I.ck;simp;omega,fun t=>by have:=I.mn t;simp;omega,I.wp⟩
theorem commit_ev {n:Nat} {m:Mod} (I:Inv n m) (hn:n<1000000) {w:Int} (h1:1≤w) (h2:w≤(m.txs.length:Int)) (t:Int) (x:api_Call):Ev (fun k=>model_Model_commit_POOOO k m w t x) (commitS m w):=by
 have h4:=I.rl
 have h5:=I.ck
 have e:=wr (x:=m.clock+1) (by omega) (by omega)
 unfold model_Model_commit_POOOO
 refine Ev.pos I.nd ?_
 refine Ev.bind (v:=m.rows.any fun p=>p.2.intent.Writer==w) ⟨m.rows.length+1,fun k hk=>by
  have:=commit_l0 k m w I.nd m.rows [] k false rfl (by omega)
  exact this.trans (by simp)⟩ ?_
 unfold commitS
 cases hb:(m.rows.any fun p=>p.2.intent.Writer==w) with
 | false =>
  refine Ev.pos rfl ?_
  rw [if_pos rfl]
  exact (end_ev I (by omega) h1 h2 3 0).bind (Ev.pure _)
 | true =>
  refine Ev.neg (by simp) ?_
  rw [if_neg (by simp)]
  by_cases hc:m.clock=m.c.TS
  ·rw [if_pos hc]
   refine Ev.pos (by simpa using hc) ?_
   exact (end_ev I (by omega) h1 h2 4 0).bind (Ev.pure _)
  ·rw [if_neg hc]
   refine Ev.neg (by simpa using hc) ?_
   simp only [e]
   exact (end_ev I.clock (by omega) h1 h2 3 (m.clock+1)).bind (Ev.pure _)
def keptRow (f:Int) (r:model_row):model_row:=⟨kept r.l f,r.intent⟩
theorem vac_l0 (k:Nat) (m:Mod) (n:Nat) (hk:n<k) (hb:n≤1000000):∀ (cur done:List (Str×model_row)) (kl:Nat),((done++cur).map (·.1)).Nodup→(∀ p∈cur,p.2.l.length≤n)→cur.length<kl →
  model_Model_each_POOOO_Model_vacuum_1_Q_l0 k m kl (done++cur) (cur.map (·.1))=some (done++eachS (keptRow m.floor) cur)
 | [],done,kl,_,_,h=>by
  obtain ⟨kl,rfl⟩:∃ q,kl=q+1:=⟨kl-1,by simp at h;omega⟩
  rw [model_Model_each_POOOO_Model_vacuum_1_Q_l0.eq_2];simp [onList_nil,eachS]
 | (y,u)::cur,done,kl,hn,hl,h=>by
  obtain ⟨kl,rfl⟩:∃ q,kl=q+1:=⟨kl-1,by simp at h;omega⟩
  obtain ⟨h1,h2,h3⟩:=keys_app hn
  have hu:=hl _ List.mem_cons_self
  have hm:y∈(done++(y,u)::cur).map (fun p=>p.1):=by simp
  rw [model_Model_each_POOOO_Model_vacuum_1_Q_l0.eq_2,List.map_cons,onList_cons,mget_app h1,Option.getD_some]
  simp only [model_Model_vacuum_1_POOOX]
  rw [Kept_eq u.l m.floor k (by simp at hu;omega) (by simp at hu;omega)]
  simp only [Option.bind_some]
  rw [if_pos hm,mput_app h1]
  have hr:(eachS (keptRow m.floor) ((y,u)::cur))=(if gone (keptRow m.floor u)=true then [] else [(y,keptRow m.floor u)])++eachS (keptRow m.floor) cur:=by
   simp only [eachS,List.filterMap_cons];split<;>simp_all
  have hg:((((kept u.l m.floor).length:Int)==(0:Int))&&(u.intent.Writer==(0:Int)))=gone (keptRow m.floor u):=rfl
  rw [hr,hg]
  cases hq:gone (keptRow m.floor u) with
  | true =>
   simp only [if_true,Option.bind_some]
   rw [if_pos h2,mdel_app h1]
   simp only [Option.bind_some]
   rw [vac_l0 k m n hk hb cur done kl h3 (fun p hp=>hl p (List.mem_cons_of_mem _ hp)) (by simp at h;omega)];rfl
  | false =>
   simp only [Bool.false_eq_true,if_false,Option.bind_some]
   have e:done++(y,(⟨kept u.l m.floor,⟨u.intent.Writer,u.intent.TS,u.intent.Tomb,u.intent.Value⟩⟩:model_row))::cur=(done++[(y,keptRow m.floor u)])++cur:=by simp [keptRow]
   rw [e,vac_l0 k m n hk hb cur (done++[(y,keptRow m.floor u)]) kl (by simpa using hn) (fun p hp=>hl p (List.mem_cons_of_mem _ hp)) (by simp at h;omega)]
   simp
def floorL:List model_tx→Int→Int
 | [],f=>f
 | x::t,f=>floorL t (if x.state=1 then imin f x.snapshot else f)
theorem floor_l0 (m:Mod) (hl:m.txs.length≤1000000):∀ (j i:Nat) (f:Int),i+j=m.txs.length→∀ k,j<k→model_Model_vacuum_POOOO_l0 m k (i:Int) f=some (floorL (m.txs.drop i) f):=by
 intro j
 induction j with
 | zero =>
  intro i f hi k hk
  obtain ⟨k,rfl⟩:∃ k',k=k'+1:=⟨k-1,by omega⟩
  rw [model_Model_vacuum_POOOO_l0.eq_2,List.drop_of_length_le (by omega)]
  have:¬ ((i:Int)<(m.txs.length:Int)):=by omega
  simp [this,floorL]
 | succ j ih =>
  intro i f hi k hk
  obtain ⟨k,rfl⟩:∃ k',k=k'+1:=⟨k-1,by omega⟩
  have hlt:i<m.txs.length:=by omega
  have h1:(i:Int)<(m.txs.length:Int):=by omega
  rw [model_Model_vacuum_POOOO_l0.eq_2,List.drop_eq_getElem_cons hlt,floorL]
  simp only [h1,decide_true,if_true,inR hlt,and_self,rdN hlt,wr1 (i:=i) (by omega)]
  by_cases hc:m.txs[i].state=1
  ·simp only [hc,beq_self_eq_true,if_true,Option.bind_some]
   exact ih (i+1) _ (by omega) k (by omega)
  ·have hb:(m.txs[i].state==(1:Int))=false:=by simpa using hc
   simp only [hb,hc,Bool.false_eq_true,if_false,Option.bind_some]
   exact ih (i+1) _ (by omega) k (by omega)
def vacS (m:Mod):Mod:={ m with floor:=floorL m.txs m.clock,rows:=eachS (keptRow (floorL m.txs m.clock)) m.rows }
theorem vac_ev {n:Nat} {m:Mod} (I:Inv n m) (hn:n≤1000000) (w t:Int) (x:api_Call):Ev (fun k=>model_Model_vacuum_POOOO k m w t x) (ans 0,vacS m):=by
 have h3:=I.tl
 have h4:=I.rl
 refine ⟨n+1,fun k hk=>?_⟩
 unfold model_Model_vacuum_POOOO
 have e:=floor_l0 m (by omega) m.txs.length 0 m.clock (by omega) k (by omega)
 show Option.bind (model_Model_vacuum_POOOO_l0 m k ((0:Nat):Int) m.clock) _=_
 rw [e]
 simp only [Option.bind_some,model_Model_each_POOOO_Model_vacuum_1_Q,List.drop_zero]
 rw [if_pos I.nd]
 have:=vac_l0 k { m with floor:=floorL m.txs m.clock } n (by omega) hn m.rows [] k (by simpa using I.nd) I.vl (by omega)
 simp only [List.nil_append] at this
 change Option.bind (Option.bind (model_Model_each_POOOO_Model_vacuum_1_Q_l0 k { m with floor:=floorL m.txs m.clock } k m.rows (m.rows.map (·.1))) _) _=_
 rw [this];rfl
def keysS (m:Mod):List Str:=isort ltS (m.rows.map fun p=>p.1)
theorem Keys_eq {n:Nat} {m:Mod} (I:Inv n m) (hn:n≤1000000) (k:Nat):model_Model_Keys_POOOO k m=some (keysS m):=by
 have h4:=I.rl
 simp only [model_Model_Keys_POOOO,maps_Keys_map_string_model_row_string_model_row_K,slices_SortedFunc_string_Keys_map_string_model_row_string_model_row_1_K_Compare,Option.bind_some]
 rw [if_pos ⟨I.nd,by omega⟩];rfl
theorem keysS_len (m:Mod):(keysS m).length=m.rows.length:=by
 have:=(isort_perm (lt:=ltS) (m.rows.map fun p=>p.1)).length_eq
 simpa [keysS] using this
theorem keysS_mem {m:Mod} {y:Str}:y∈keysS m↔y∈m.rows.map (·.1):=(isort_perm (lt:=ltS) (m.rows.map fun p=>p.1)).mem_iff
def withinB (a b c:Str):Bool:=(sbin .leq b a)&&((sbin .eql c ([]:Str))||(sbin .lss a c))
def scanL (m:Mod) (w:Int) (x:api_Call):List Str→List api_Pair→List api_Pair
 | [],out=>out
 | key::t,out=>if (out.length:Int)=x.Limit then out
  else scanL m w x t (if (seeS m w (rowOf m key)).2=true∧withinB key x.Key x.End=true then out++[⟨key,(seeS m w (rowOf m key)).1⟩] else out)
theorem scan_l0 {n:Nat} {m:Mod} (I:Inv n m) (hn:n≤1000000) {w:Int} (h1:1≤w) (h2:w≤(m.txs.length:Int)) (x:api_Call) (L:List Str) (hL:L.length≤1000000):∀ (j i:Nat) (out:List api_Pair),i+j=L.length→out.length≤i →
  Ev (fun k=>model_Model_scan_POOOO_l0 m w x L k out (i:Int)) (scanL m w x (L.drop i) out):=by
 intro j
 induction j with
 | zero =>
  intro i out hi ho
  refine Ev.shift 1 ⟨0,fun k hk=>?_⟩
  show model_Model_scan_POOOO_l0 m w x L (k+1) out (i:Int)=_
  rw [model_Model_scan_POOOO_l0.eq_2,List.drop_of_length_le (by omega)]
  have:¬ ((i:Int)<(L.length:Int)):=by omega
  simp [this,scanL]
 | succ j ih =>
  intro i out hi ho
  have hlt:i<L.length:=by omega
  have h3:(i:Int)<(L.length:Int):=by omega
  refine Ev.shift 1 ?_
  refine Ev.congr (g:=fun k=>_) ?_ (fun k=>by rw [model_Model_scan_POOOO_l0.eq_2])
  rw [List.drop_eq_getElem_cons hlt,scanL]
  refine Ev.pos (by simpa using h3) ?_
  refine Ev.pos (inR hlt) ?_
  by_cases hc:(out.length:Int)=x.Limit
  ·rw [if_pos hc];exact Ev.pos (by simpa using hc) (Ev.pure _)
  ·rw [if_neg hc]
   refine Ev.neg (by simpa using hc) ?_
   rw [rdN hlt]
   have h4:=(I.row L[i]).1
   have h5:=I.tl
   refine (see_ev h1 h2 (by omega) (r:=rowOf m L[i]) (by omega)).bind ?_
   refine Ev.bind (v:=(seeS m w (rowOf m L[i])).2&&withinB L[i] x.Key x.End) ?_ ?_
   ·cases (seeS m w (rowOf m L[i])).2 with
    | true=>exact Ev.pos rfl (Ev.pure _)
    | false=>exact Ev.neg (by simp) (Ev.pure _)
   refine Ev.bind (v:=if (seeS m w (rowOf m L[i])).2=true∧withinB L[i] x.Key x.End=true then out++[⟨L[i],(seeS m w (rowOf m L[i])).1⟩] else out) ?_ ?_
   ·by_cases hq:(seeS m w (rowOf m L[i])).2=true∧withinB L[i] x.Key x.End=true
    ·rw [if_pos hq]
     exact Ev.pos (by simpa using hq) (Ev.pos (by simp;omega) (Ev.pure _))
    ·rw [if_neg hq]
     exact Ev.neg (by simpa using hq) (Ev.pure _)
   ·rw [wr1 (i:=i) (by omega)]
    exact ih (i+1) _ (by omega) (by split<;>first | omega | (simp;omega))
def scanS (m:Mod) (w:Int) (x:api_Call):api_Answer:=⟨0,false,[],scanL m w x (keysS m) []⟩
theorem scan_ev {n:Nat} {m:Mod} (I:Inv n m) (hn:n≤1000000) {w:Int} (h1:1≤w) (h2:w≤(m.txs.length:Int)) (t:Int) (x:api_Call):Ev (fun k=>model_Model_scan_POOOO k m w t x) (scanS m w x):=by
 unfold model_Model_scan_POOOO
 have h4:=I.rl
 refine Ev.bind (v:=keysS m) ⟨0,fun k _=>Keys_eq I hn k⟩ ?_
 have:=scan_l0 I hn h1 h2 x (keysS m) (by rw [keysS_len];omega) (keysS m).length 0 [] (by omega) (by simp)
 rw [List.drop_zero] at this
 exact this.bind (Ev.pure _)
def actS (m:Mod) (w t:Int) (x:api_Call):api_Answer×Mod :=
 if x.Kind=1 then beginS m t else if x.Kind=2 then (getS m w x,m) else if x.Kind=3 then writeS m x.Key ⟨w,0,false,x.Value⟩ else if x.Kind=4 then writeS m x.Key ⟨w,0,true,[]⟩
 else if x.Kind=5 then (scanS m w x,m) else if x.Kind=6 then commitS m w else if x.Kind=7 then (ans 0,endS m w 4 0) else if x.Kind=8 then (ans 0,vacS m) else (ans 0,m)
def doS (m:Mod) (t:Int) (x:api_Call):api_Answer×Mod:=if refS m t x≠0 then (ans (refS m t x),m) else actS m (txS m t x.Tx).1 t x
theorem refS_kind {m:Mod} {t:Int} {x:api_Call} (h:refS m t x=0):1≤x.Kind∧x.Kind≤9∧0≤t∧t<m.c.Tasks:=by
 unfold refS at h
 split at h
 ·cases h
 ·omega
theorem refS_tx {n:Nat} {m:Mod} (I:Inv n m) {t:Int} {x:api_Call} (h:refS m t x=0) (hk:x.Kind≠1∧x.Kind≠8∧x.Kind≠9) :
  1≤(txS m t x.Tx).1∧(txS m t x.Tx).1≤(m.txs.length:Int)∧mget m.names ⟨t,x.Tx⟩=some (txS m t x.Tx).1∧(rd m.txs ((txS m t x.Tx).1-1)).state=1:=by
 have hq:needsB x.Kind=true:=by simp [needsB,hk]
 unfold refS at h
 split at h
 ·cases h
 split at h
 ·cases h
 split at h
 ·split at h<;>cases h
 next hc =>
  have h1:(txS m t x.Tx).2.1=1:=by simpa [hq] using hc
  unfold txS at h1 ⊢
  cases hm:mget m.names ⟨t,x.Tx⟩ with
  | none=>simp [hm] at h1
  | some w =>
   simp only [hm] at h1 ⊢
   exact ⟨(I.nm _ _ hm).1,(I.nm _ _ hm).2,trivial,h1⟩
theorem do_ev {n:Nat} {m:Mod} (I:Inv n m) (hn:n<1000000) (t:Int) (x:api_Call):Ev (fun k=>model_Model_Do_POOOO k m t x) (doS m t x):=by
 unfold model_Model_Do_POOOO
 refine Ev.bind (v:=refS m t x) ⟨9,fun k hk=>Refused_eq I (by omega) k hk t x⟩ ?_
 unfold doS
 by_cases h0:refS m t x=0
 ·rw [if_neg (by simpa using h0)]
  refine Ev.neg (by simpa using h0) ?_
  refine Ev.bind (v:=txS m t x.Tx) ⟨0,fun k _=>Tx_eq I (by omega) k t x.Tx⟩ ?_
  obtain ⟨k1,k9,_,_⟩:=refS_kind h0
  refine Ev.pos ⟨by omega,by omega⟩ ?_
  have hw:=fun hk=>refS_tx I h0 hk
  unfold actS
  by_cases c1:x.Kind=1
  ·rw [if_pos c1];exact Ev.pos (by simpa using c1) ((begin_ev I (by omega) _ t x).bind (Ev.pure _))
  rw [if_neg c1];refine Ev.neg (by simpa using c1) ?_
  by_cases c2:x.Kind=2
  ·rw [if_pos c2];obtain ⟨a,b,_⟩:=hw (by omega)
   exact Ev.pos (by simpa using c2) ((get_ev I (by omega) a b t x).bind (Ev.pure _))
  rw [if_neg c2];refine Ev.neg (by simpa using c2) ?_
  by_cases c3:x.Kind=3
  ·rw [if_pos c3];obtain ⟨a,b,_⟩:=hw (by omega)
   refine Ev.pos (by simpa using c3) (Ev.bind (v:=writeS m x.Key ⟨(txS m t x.Tx).1,0,false,x.Value⟩) ?_ (Ev.pure _))
   unfold model_Model_put_POOOO
   exact (write_ev I (by omega) x.Key ⟨(txS m t x.Tx).1,0,false,x.Value⟩ a b).bind (Ev.pure _)
  rw [if_neg c3];refine Ev.neg (by simpa using c3) ?_
  by_cases c4:x.Kind=4
  ·rw [if_pos c4];obtain ⟨a,b,_⟩:=hw (by omega)
   refine Ev.pos (by simpa using c4) (Ev.bind (v:=writeS m x.Key ⟨(txS m t x.Tx).1,0,true,[]⟩) ?_ (Ev.pure _))
   unfold model_Model_del_POOOO
   exact (write_ev I (by omega) x.Key ⟨(txS m t x.Tx).1,0,true,[]⟩ a b).bind (Ev.pure _)
  rw [if_neg c4];refine Ev.neg (by simpa using c4) ?_
  by_cases c5:x.Kind=5
  ·rw [if_pos c5];obtain ⟨a,b,_⟩:=hw (by omega)
   exact Ev.pos (by simpa using c5) ((scan_ev I (by omega) a b t x).bind (Ev.pure _))
  rw [if_neg c5];refine Ev.neg (by simpa using c5) ?_
  by_cases c6:x.Kind=6
  ·rw [if_pos c6];obtain ⟨a,b,_⟩:=hw (by omega)
   exact Ev.pos (by simpa using c6) ((commit_ev I hn a b t x).bind (Ev.pure _))
  rw [if_neg c6];refine Ev.neg (by simpa using c6) ?_
  by_cases c7:x.Kind=7
  ·rw [if_pos c7];obtain ⟨a,b,_⟩:=hw (by omega)
   refine Ev.pos (by simpa using c7) (Ev.bind (v:=(ans 0,endS m (txS m t x.Tx).1 4 0)) ?_ (Ev.pure _))
   unfold model_Model_abort_POOOO
   exact (end_ev I (by omega) a b 4 0).bind (Ev.pure _)
  rw [if_neg c7];refine Ev.neg (by simpa using c7) ?_
  by_cases c8:x.Kind=8
  ·rw [if_pos c8];exact Ev.pos (by simpa using c8) ((vac_ev I (by omega) _ t x).bind (Ev.pure _))
  rw [if_neg c8];refine Ev.neg (by simpa using c8) ?_
  refine Ev.pos (by simp;omega) ?_
  exact ((Ev.pure (ans 0)).bind (Ev.pure _))
 ·rw [if_pos (by simpa using h0)]
  exact Ev.pos (by simpa using h0) (Ev.pure _)
end Go.Proofs.YtcngjjlhdlbogaaDoor
