import Derived.Test.YtnjbjpaiepefoaaDoorPureFits
import Derived.Test.YtnjbjpaiepefoaaDoorPureMade2
import Derived.Test.YtnjbjpaiepefoaaDoorPureBare
namespace Go.Proofs.YtnjbjpaiepefoaaDoor
open Go Go.RowKit
set_option linter.unusedVariables false
set_option linter.unusedSimpArgs false
set_option maxRecDepth 100000
abbrev Tks:=List Z3
abbrev Askd:=Int → Int → Option Qf
def st (T:Tks) (e:QG):Tks:=T.set e.Task.toNat (nextT (rd T e.Task) (e.What - 1))
def atE (T:Tks) (e:QG):Prop:=(rd T e.Task).at_ = e.What - 1 ∧ (rd T e.Task).calls = e.Call
inductive G (p:Progs) (A:Askd):Evs → Tks → Mod → Prop
 | nil {T m}:G p A [] T m
 | mark {e l T m} (w:e.What = 2) (g:goodE p e) (a:atE T e) (ha:∀ a,A e.Task e.Call = some a → (doS m e.Task (rd (rd p e.Task) e.Call)).1 = a) (h:G p A l (st T e) (doS m e.Task (rd (rd p e.Task) e.Call)).2):G p A l T m
 | ev {e l T m} (w:e.What ≠ 2) (g:goodE p e) (a:atE T e) (h:G p A l (st T e) m):G p A (e :: l) T m
section
variable {p:Progs} {A:Askd}
theorem st_len (T:Tks) (e:QG):(st T e).length = T.length:=by unfold st; rw [List.length_set]
theorem rdT {T:Tks} {e:QG} (g:goodE p e) (hT:p.length ≤ T.length) {u:Int} (u0:0 ≤ u) (u1:u < (T.length:Int)):rd (st T e) u = if u = e.Task then nextT (rd T e.Task) (e.What - 1) else rd T u:=by
 obtain ⟨⟨t0,t1,_,_⟩,_⟩:=g
 obtain ⟨n,rfl⟩:=Int.eq_ofNat_of_zero_le u0
 unfold st
 rw [rdN (by rw [List.length_set]; omega),List.getElem_set,rdN (l:=T) (i:=n) (by omega)]
 by_cases q:(n:Int) = e.Task
 ·rw [if_pos (by omega),if_pos q]
 ·rw [if_neg (by omega),if_neg q]
theorem rdT_own {T:Tks} {e:QG} (g:goodE p e) (hT:p.length ≤ T.length):rd (st T e) e.Task = nextT (rd T e.Task) (e.What - 1):=by
 rw [rdT g hT g.1.1 (by have:=g.1.2.1; omega),if_pos rfl]
theorem rdT_ne {T:Tks} {e f:QG} (g:goodE p e) (gf:goodE p f) (hT:p.length ≤ T.length) (h:f.Task ≠ e.Task):rd (st T e) f.Task = rd T f.Task:=by
 rw [rdT g hT gf.1.1 (by have:=gf.1.2.1; omega),if_neg h]
theorem at_ne {T:Tks} {e f:QG} (g:goodE p e) (gf:goodE p f) (hT:p.length ≤ T.length) (h:f.Task ≠ e.Task):atE (st T e) f ↔ atE T f:=by
 unfold atE; rw [rdT_ne g gf hT h]
theorem st_comm {T:Tks} {e f:QG} (g:goodE p e) (gf:goodE p f) (hT:p.length ≤ T.length) (h:f.Task ≠ e.Task):st (st T e) f = st (st T f) e:=by
 have e1:=rdT_ne g gf hT h
 have e2:=rdT_ne gf g hT (fun q=>h q.symm)
 have hn:e.Task.toNat ≠ f.Task.toNat:=by have:=g.1.1; have:=gf.1.1; omega
 unfold st at *
 rw [e1,e2,List.set_comm _ _ hn]
theorem next_at {x:Z3} {w:Int} (h:w = 0 ∨ w = 1 ∨ w = 2):(nextT x w).at_ = if w = 2 then 0 else w + 1:=by
 unfold nextT; rcases h with rfl | rfl | rfl <;> rfl
theorem what_of {e:QG} (g:goodE p e):e.What = 1 ∨ e.What = 2 ∨ e.What = 3:=by have:=g.2.1; have:=g.2.2.1; omega
theorem own_at {T:Tks} {e:QG} (g:goodE p e) (hT:p.length ≤ T.length):(rd (st T e) e.Task).at_ = if e.What = 3 then 0 else e.What:=by
 rw [rdT_own g hT,next_at (by have:=what_of g; omega)]
 rcases what_of g with w | w | w <;> rw [w] <;> rfl
theorem G.good {l:Evs} {T:Tks} {m:Mod} (h:G p A l T m):∀ e ∈ l,goodE p e ∧ e.What ≠ 2:=by
 induction h with
 | nil=>intro e h; cases h
 | mark _ _ _ _ _ ih=>exact ih
 | ev w g _ _ ih=>
  intro e h
  rcases List.mem_cons.1 h with rfl | h
  ·exact ⟨g,w⟩
  ·exact ih e h
theorem G.ret_down {e1 e2:QG} {l:Evs} (w1:e1.What = 3) (g1:goodE p e1) (hne:e2.Task ≠ e1.Task) {l':Evs} {T1:Tks} {m:Mod} (h:G p A l' T1 m):∀ T:Tks,p.length ≤ T.length → l' = e2 :: l → T1 = st T e1 → atE T e1 → G p A (e2 :: e1 :: l) T m:=by
 induction h with
 | nil=>intro T _ h; cases h
 | @mark e l' T1 m w g a ha h ih =>
  intro T hT hl h1 a1
  subst h1
  have ne:e.Task ≠ e1.Task:=fun q=>by
   have h1:=a.1
   rw [q,own_at g1 hT,if_pos w1,w] at h1
   exact absurd h1 (by decide)
  exact .mark w g ((at_ne g1 g hT ne).1 a) ha (ih (st T e) (by rw [st_len]; exact hT) hl (st_comm g1 g hT ne) ((at_ne g g1 hT (fun q=>ne q.symm)).2 a1))
 | @ev e l' T1 m w g a h ih =>
  intro T hT hl h1 a1
  subst h1
  injection hl with h1 h2
  subst h1; subst h2
  rw [st_comm g1 g hT hne] at h
  exact .ev w g ((at_ne g1 g hT hne).1 a) (.ev (by omega) g1 ((at_ne g g1 hT (fun q=>hne q.symm)).2 a1) h)
theorem mark_ne {T:Tks} {e f:QG} (w:e.What = 2) (a:atE T e) (wf:f.What = 1) (b:atE T f):e.Task ≠ f.Task:=fun q=>by
 have h1:=a.1
 have h2:=b.1
 rw [q,h2,w,wf] at h1
 exact absurd h1 (by decide)
theorem G.at1 {e2:QG} {l:Evs} (w2:e2.What = 1) (g2:goodE p e2) {pre:Evs} (hpre:∀ e ∈ pre,e.Task ≠ e2.Task) {l':Evs} {T:Tks} {m:Mod} (h:G p A l' T m):p.length ≤ T.length → ∀ pre:Evs,(∀ e ∈ pre,e.Task ≠ e2.Task) → l' = pre ++ e2 :: l → atE T e2:=by
 induction h with
 | nil=>intro _ pre _ h; cases pre <;> cases h
 | @mark e l' T m w g a ha h ih =>
  intro hT pre hp hl
  have b:=ih (by rw [st_len]; exact hT) pre hp hl
  have ne:e2.Task ≠ e.Task:=fun q=>by
   have h1:=b.1
   rw [q,own_at g hT,w,w2] at h1
   exact absurd h1 (by decide)
  exact (at_ne g g2 hT ne).1 b
 | @ev e l' T m w g a h ih =>
  intro hT pre hp hl
  cases pre with
  | nil=>injection hl with h1 _; subst h1; exact a
  | cons x pre =>
   injection hl with h1 h2
   subst h1
   exact (at_ne g g2 hT (fun q=>hp e List.mem_cons_self q.symm)).1 (ih (by rw [st_len]; exact hT) pre (fun z hz=>hp z (List.mem_cons_of_mem _ hz)) h2)
theorem G.inv_up0 {e2:QG} {l:Evs} (w2:e2.What = 1) (g2:goodE p e2) {l':Evs} {T:Tks} {m:Mod} (h:G p A l' T m):p.length ≤ T.length → l' = e2 :: l → G p A l (st T e2) m:=by
 induction h with
 | nil=>intro _ h; cases h
 | @mark e l' T m w g a ha h ih =>
  intro hT hl
  have b:atE T e2:=(G.mark w g a ha h).at1 (pre:=[]) w2 g2 (fun _ h=>by cases h) hT [] (fun _ h=>by cases h) hl
  have ne:=mark_ne w a w2 b
  have:=ih (by rw [st_len]; exact hT) hl
  rw [st_comm g g2 hT (fun q=>ne q.symm)] at this
  exact .mark w g ((at_ne g2 g hT ne).2 a) ha this
 | @ev e l' T m w g a h ih =>
  intro hT hl
  injection hl with h1 h2
  subst h1; subst h2
  exact h
theorem G.inv_up {e1 e2:QG} {l:Evs} (w2:e2.What = 1) (g2:goodE p e2) (hne:e1.Task ≠ e2.Task) {l':Evs} {T:Tks} {m:Mod} (h:G p A l' T m):p.length ≤ T.length → l' = e1 :: e2 :: l → G p A (e1 :: l) (st T e2) m:=by
 induction h with
 | nil=>intro _ h; cases h
 | @mark e l' T m w g a ha h ih =>
  intro hT hl
  have b:atE T e2:=(G.mark w g a ha h).at1 (pre:=[]) w2 g2 (fun _ h=>by cases h) hT [e1] (fun z h=>by simp at h; subst h; exact hne) hl
  have ne:=mark_ne w a w2 b
  have:=ih (by rw [st_len]; exact hT) hl
  rw [st_comm g g2 hT (fun q=>ne q.symm)] at this
  exact .mark w g ((at_ne g2 g hT ne).2 a) ha this
 | @ev e l' T m w g a h ih =>
  intro hT hl
  injection hl with h1 h2
  subst h1; subst h2
  have:=h.inv_up0 w2 g2 (by rw [st_len]; exact hT) rfl
  rw [st_comm g g2 hT (fun q=>hne q.symm)] at this
  exact .ev w g ((at_ne g2 g hT hne).2 a) this
theorem G.swap {e1 e2:QG} {l:Evs} (hne:e1.Task ≠ e2.Task) (hw:e1.What = 3 ∨ e2.What = 1) {T:Tks} {m:Mod} (hT:p.length ≤ T.length) (h:G p A (e1 :: e2 :: l) T m):G p A (e2 :: e1 :: l) T m:=by
 have g1:=(h.good e1 List.mem_cons_self).1
 obtain ⟨g2,w2⟩:=h.good e2 (List.mem_cons_of_mem _ List.mem_cons_self)
 rcases hw with w | w
 ·
  have:∀ {l':Evs} {T:Tks} {m:Mod},G p A l' T m → p.length ≤ T.length → l' = e1 :: e2 :: l → G p A (e2 :: e1 :: l) T m:=fun h=>by
   induction h with
   | nil=>intro _ h; cases h
   | mark w g a ha h ih=>intro hT hl; exact .mark w g a ha (ih (by rw [st_len]; exact hT) hl)
   | @ev e l' T m w' g a h ih =>
    intro hT hl
    injection hl with h1 h2
    subst h1; subst h2
    exact h.ret_down w g1 (fun q=>hne q.symm) T hT rfl rfl a
  exact this h hT rfl
 ·exact .ev w2 g2 (h.at1 (pre:=[]) w g2 (fun _ h=>by cases h) hT [e1] (fun z h=>by simp at h; subst h; exact hne) rfl) (h.inv_up w g2 hne hT rfl)
theorem G.app {Y Z:Evs} (hYZ:∀ T m,p.length ≤ T.length → G p A Y T m → G p A Z T m) {l':Evs} {T:Tks} {m:Mod} (h:G p A l' T m):∀ X:Evs,p.length ≤ T.length → l' = X ++ Y → G p A (X ++ Z) T m:=by
 induction h with
 | nil =>
  intro X hT hl
  cases X with
  | nil=>have hl:[] = Y:=hl; subst hl; exact hYZ _ _ hT .nil
  | cons x X=>cases hl
 | mark w g a ha h ih=>intro X hT hl; exact .mark w g a ha (ih X (by rw [st_len]; exact hT) hl)
 | @ev e l' T m w g a h ih =>
  intro X hT hl
  cases X with
  | nil=>have hl:e :: l' = Y:=hl; subst hl; exact hYZ _ _ hT (.ev w g a h)
  | cons x X =>
   injection hl with h1 h2
   subst h1
   exact .ev w g a (ih X (by rw [st_len]; exact hT) h2)
def opn (T:Tks):List Int:=T.map fun z=>if z.at_ = 1 then z.calls else -1
theorem opn_rd {T:Tks} {t:Int} (h0:0 ≤ t) (h1:t < (T.length:Int)):rd (opn T) t = if (rd T t).at_ = 1 then (rd T t).calls else -1:=by
 obtain ⟨n,rfl⟩:=Int.eq_ofNat_of_zero_le h0
 rw [rdN (by unfold opn; rw [List.length_map]; omega),rdN (by omega)]
 simp [opn]
theorem opn_st (T:Tks) (e:QG):opn (st T e) = (opn T).set e.Task.toNat (if (nextT (rd T e.Task) (e.What - 1)).at_ = 1 then (nextT (rd T e.Task) (e.What - 1)).calls else -1):=by
 unfold opn st; rw [List.map_set]
def fr (t c:Int) (l:Evs):Prop:=∀ e,l.find? (fun e=>e.Task == t) = some e → e.What ≠ 1 ∧ e.Call = c
theorem fr_tail {t c:Int} {e:QG} {l:Evs} (h:fr t c (e :: l)) (hne:e.Task ≠ t):fr t c l:=fun x hx=>h x (by rw [List.find?_cons_of_neg (by simpa using hne)]; exact hx)
theorem fr_head {t c:Int} {e:QG} {l:Evs} (h:fr t c (e :: l)) (he:e.Task = t):e.What ≠ 1 ∧ e.Call = c:=h e (by rw [List.find?_cons_of_pos (by simpa using he)])
theorem G.fr {l:Evs} {T:Tks} {m:Mod} (h:G p A l T m):p.length ≤ T.length → ∀ t c:Int,0 ≤ t → t < (p.length:Int) → (rd T t).at_ = 2 → (rd T t).calls = c → fr t c l:=by
 induction h with
 | nil=>intro _ t c _ _ _ _ e h; cases h
 | @mark e l T m w g a ha h ih =>
  intro hT t c t0 t1 h2 hc
  have ne:t ≠ e.Task:=fun q=>by
   have h1:=a.1
   rw [← q,h2,w] at h1
   exact absurd h1 (by decide)
  have e1:=rdT g hT t0 (by omega)
  rw [if_neg ne] at e1
  exact ih (by rw [st_len]; exact hT) t c t0 t1 (by rw [e1]; exact h2) (by rw [e1]; exact hc)
 | @ev e l T m w g a h ih =>
  intro hT t c t0 t1 h2 hc x hx
  by_cases q:e.Task = t
  ·rw [List.find?_cons_of_pos (by simpa using q)] at hx
   cases hx
   obtain ⟨a1,a2⟩:=a
   rw [q] at a1 a2
   exact ⟨by omega,by rw [← a2,hc]⟩
  ·rw [List.find?_cons_of_neg (by simpa using q)] at hx
   have e1:=rdT g hT t0 (by omega)
   rw [if_neg (fun h=>q h.symm)] at e1
   exact ih (by rw [st_len]; exact hT) t c t0 t1 (by rw [e1]; exact h2) (by rw [e1]; exact hc) x hx
theorem FF.late {l:Evs} {O':List Int} {m':Mod} (h:FF p A l O' m'):∀ (O:List Int) (m:Mod) (t:Nat),O' = O.set t (-1) → t < O.length → cond p A O m t → m' = next p O m t → fr (t:Int) (rd O (t:Int)) l → (∀ e ∈ l,0 ≤ e.Task ∧ e.Task < (O.length:Int) ∧ 0 ≤ e.Call) → FF p A l O m:=by
 induction h with
 | nil=>intro O m t _ _ _ _ _ _; exact .nil
 | @inv e l O' m' w h ih =>
  intro O m t hO ht hc hm hf hE
  subst hO; subst hm
  obtain ⟨t0,t1,c0⟩:=hE e List.mem_cons_self
  have ne:e.Task ≠ (t:Int):=fun q=>(fr_head hf q).1 w
  have hn:e.Task.toNat ≠ t:=by omega
  have r1:rd (O.set e.Task.toNat e.Call) (t:Int) = rd O (t:Int):=by rw [rd_set ht,if_neg hn]
  refine .inv w (ih (O.set e.Task.toNat e.Call) m t (List.set_comm _ _ (fun q=>hn q.symm)) (by rw [List.length_set]; exact ht) (by unfold cond; rw [r1]; exact hc) (by unfold next; rw [r1]) (by rw [r1]; exact fr_tail hf ne) fun z hz=>?_)
  rw [List.length_set]; exact hE z (List.mem_cons_of_mem _ hz)
 | @skip e l O' m' w q h ih =>
  intro O m t hO ht hc hm hf hE
  subst hO; subst hm
  by_cases q':rd O e.Task = e.Call
  ·exact .mark w q' t ht hc (.skip w q h)
  ·have ne:e.Task ≠ (t:Int):=fun q2=>q' (by rw [q2]; exact (fr_head hf q2).2.symm)
   exact .skip w q' (ih O m t rfl ht hc rfl (fr_tail hf ne) fun z hz=>hE z (List.mem_cons_of_mem _ hz))
 | @mark e l O' m' w q u hu hc' h ih =>
  intro O m t hO ht hc hm hf hE
  subst hO; subst hm
  obtain ⟨t0,t1,c0⟩:=hE e List.mem_cons_self
  by_cases q':rd O e.Task = e.Call
  ·exact .mark w q' t ht hc (.mark w q u hu hc' h)
  ·obtain ⟨n,hn⟩:=Int.eq_ofNat_of_zero_le t0
   rw [hn] at q q'
   rw [rd_set (by omega)] at q
   split at q
   ·omega
   ·exact absurd q q'
theorem G.toFF {l:Evs} {T:Tks} {m:Mod} (h:G p A l T m):p.length ≤ T.length → FF p A l (opn T) m:=by
 induction h with
 | nil=>intro _; exact .nil
 | @mark e l T m w g a ha h ih =>
  intro hT
  have hT':p.length ≤ (st T e).length:=by rw [st_len]; exact hT
  have h1:=ih hT'
  obtain ⟨⟨t0,t1,c0,c1⟩,_⟩:=g
  have g:goodE p e:=⟨⟨t0,t1,c0,c1⟩,by assumption⟩
  obtain ⟨n,hn⟩:=Int.eq_ofNat_of_zero_le t0
  obtain ⟨a1,a2⟩:=a
  have e1:nextT (rd T e.Task) (e.What - 1) = ⟨2,e.Call⟩:=by
   rw [w]; unfold nextT; rw [if_neg (by decide),a2]; rfl
  have e2:rd (opn T) e.Task = e.Call:=by rw [opn_rd t0 (by omega),if_pos (by rw [a1,w]; rfl),a2]
  have hlen:(opn T).length = T.length:=by unfold opn; rw [List.length_map]
  rw [opn_st,e1,if_neg (show ¬ (2:Int) = 1 by decide)] at h1
  have hf:=h.fr hT' e.Task e.Call t0 t1 (by rw [rdT_own g hT,e1]) (by rw [rdT_own g hT,e1])
  have hgood:=h.good
  rw [hn] at h1 e2 ha hf
  refine h1.late (opn T) m n rfl (by omega) ⟨by rw [e2]; exact c0,fun z hz=>?_⟩ ?_ (by rw [e2]; exact hf) fun z hz=>?_
  ·rw [e2] at hz ⊢; exact ha z hz
  ·unfold next; rw [e2]
  ·obtain ⟨⟨⟨z0,z1,z2,_⟩,_⟩,_⟩:=hgood z hz
   exact ⟨z0,by omega,z2⟩
 | @ev e l T m w g a h ih =>
  intro hT
  have h1:=ih (by rw [st_len]; exact hT)
  have t0:=g.1.1
  have t1:=g.1.2.1
  have c0:=g.1.2.2.1
  obtain ⟨a1,a2⟩:=a
  rw [opn_st] at h1
  rcases what_of g with w1 | w1 | w1
  ·refine .inv w1 ?_
   have e1:nextT (rd T e.Task) (e.What - 1) = ⟨1,e.Call⟩:=by
    rw [w1]; unfold nextT; rw [if_neg (by decide),a2]; rfl
   rw [e1,if_pos rfl] at h1
   exact h1
  ·exact absurd w1 w
  ·have e2:rd (opn T) e.Task = -1:=by rw [opn_rd t0 (by omega),if_neg (by rw [a1,w1]; decide)]
   refine .skip (by omega) (by omega) ?_
   have e1:nextT (rd T e.Task) (e.What - 1) = ⟨0,e.Call + 1⟩:=by
    rw [w1]; unfold nextT; rw [if_pos (by decide),a2]
   rw [e1,if_neg (show ¬ (0:Int) = 1 by decide)] at h1
   have e3:(opn T).set e.Task.toNat (-1) = opn T:=by
    obtain ⟨n,hn⟩:=Int.eq_ofNat_of_zero_le t0
    have hl:n < (opn T).length:=by unfold opn; rw [List.length_map]; omega
    rw [hn] at e2 ⊢
    rw [rdN hl] at e2
    rw [show ((n:Int)).toNat = n from rfl,← e2,List.set_getElem_self]
   rw [e3] at h1
   exact h1
def unm (T:Tks):Tks:=T.map fun z=>if z.at_ = 2 then ⟨1,z.calls⟩ else z
theorem unm_rd {T:Tks} {t:Int} (h0:0 ≤ t) (h1:t < (T.length:Int)):rd (unm T) t = if (rd T t).at_ = 2 then ⟨1,(rd T t).calls⟩ else rd T t:=by
 obtain ⟨n,rfl⟩:=Int.eq_ofNat_of_zero_le h0
 rw [rdN (by unfold unm; rw [List.length_map]; omega),rdN (by omega)]
 simp [unm]
theorem unm_st (T:Tks) (e:QG):unm (st T e) = (unm T).set e.Task.toNat (if (nextT (rd T e.Task) (e.What - 1)).at_ = 2 then ⟨1,(nextT (rd T e.Task) (e.What - 1)).calls⟩ else nextT (rd T e.Task) (e.What - 1)):=by
 unfold unm st; rw [List.map_set]
theorem goS_st (s:Core) (i:Int) (e:QG):(goS p s i e).tasks = st s.tasks e:=by
 unfold goS; split
 ·rfl
 ·split <;> rfl
theorem G.over {l:Evs} {T:Tks} {m:Mod} (h:G p A l T m):p.length ≤ T.length → ∀ (i:Int) (x:Core),x.tasks = unm T → ∃ y,overC p (markL l) i x = some y:=by
 induction h with
 | nil=>intro _ i x _; exact ⟨x,rfl⟩
 | @mark e l T m w g a ha h ih =>
  intro hT i x hx
  have t0:=g.1.1
  have t1:=g.1.2.1
  obtain ⟨a1,a2⟩:=a
  refine ih (by rw [st_len]; exact hT) i x ?_
  have e1:nextT (rd T e.Task) (e.What - 1) = ⟨2,e.Call⟩:=by
   rw [w]; unfold nextT; rw [if_neg (by decide),a2]; rfl
  have ht:rd T e.Task = ⟨1,e.Call⟩:=by
   rw [w] at a1
   cases hz:rd T e.Task with | mk u v=>rw [hz] at a1 a2; simp only at a1 a2; rw [a1,a2]; rfl
  have e2:rd (unm T) e.Task = ⟨1,e.Call⟩:=by rw [unm_rd t0 (by omega),ht]; rfl
  rw [hx,unm_st,e1,if_pos rfl]
  obtain ⟨n,hn⟩:=Int.eq_ofNat_of_zero_le t0
  have hl:n < (unm T).length:=by unfold unm; rw [List.length_map]; omega
  rw [hn] at e2 ⊢
  rw [rdN hl] at e2
  rw [show ((n:Int)).toNat = n from rfl,← e2,List.set_getElem_self]
 | @ev e l T m w g a h ih =>
  intro hT i x hx
  have t0:=g.1.1
  have t1:=g.1.2.1
  have hTl:e.Task < (T.length:Int):=by omega
  obtain ⟨a1,a2⟩:=a
  rcases what_of g with w1 | w1 | w1
  ·have e2:rd x.tasks e.Task = rd T e.Task:=by rw [hx,unm_rd t0 hTl,if_neg (by rw [a1,w1]; decide)]
   have hm:may p x e:=⟨g,by rw [e2]; exact a1,by rw [e2]; exact a2⟩
   obtain ⟨y,hy⟩:=ih (by rw [st_len]; exact hT) (i + 1) (goS p x i e) (by
    rw [goS_st,unm_st]
    unfold st
    rw [e2,hx,if_neg]
    rw [next_at (by omega),w1]; decide)
   exact ⟨y,by rw [markL,if_neg (by omega),overC,if_pos hm]; exact hy⟩
  ·exact absurd w1 w
  ·have ht:rd T e.Task = ⟨2,e.Call⟩:=by
    rw [w1] at a1
    cases hz:rd T e.Task with | mk u v=>rw [hz] at a1 a2; simp only at a1 a2; rw [a1,a2]; rfl
   have e2:rd x.tasks e.Task = ⟨1,e.Call⟩:=by rw [hx,unm_rd t0 hTl,ht]; rfl
   have gm:goodE p ⟨2,e.Task,e.Call,ans 0⟩:=⟨g.1,by show (1:Int) ≤ 2; decide,by show (2:Int) ≤ 3; decide,fun _=>rfl⟩
   have m1:may p x ⟨2,e.Task,e.Call,ans 0⟩:=⟨gm,by show (rd x.tasks e.Task).at_ = (2:Int) - 1; rw [e2]; rfl,by show (rd x.tasks e.Task).calls = e.Call; rw [e2]⟩
   have hlx:e.Task.toNat < x.tasks.length:=by rw [hx]; unfold unm; rw [List.length_map]; omega
   have s1:(goS p x i ⟨2,e.Task,e.Call,ans 0⟩).tasks = x.tasks.set e.Task.toNat ⟨2,e.Call⟩:=by
    rw [goS_st]
    show x.tasks.set e.Task.toNat (nextT (rd x.tasks e.Task) ((2:Int) - 1)) = _
    rw [e2]; rfl
   obtain ⟨x1,hx1⟩:∃ x1,goS p x i ⟨2,e.Task,e.Call,ans 0⟩ = x1:=⟨_,rfl⟩
   rw [hx1] at s1
   have r1:rd x1.tasks e.Task = ⟨2,e.Call⟩:=by
    obtain ⟨n,hn⟩:=Int.eq_ofNat_of_zero_le t0
    rw [s1,hn,rdN (by rw [List.length_set]; omega),List.getElem_set,if_pos (by omega)]
   have m2:may p x1 e:=⟨g,by rw [r1,w1]; rfl,by rw [r1]⟩
   obtain ⟨y,hy⟩:=ih (by rw [st_len]; exact hT) (i + 1 + 1) (goS p x1 (i + 1) e) (by
    rw [goS_st,unm_st]
    unfold st
    rw [r1,s1,List.set_set,hx,ht,w1]; rfl)
   exact ⟨y,by rw [markL,if_pos w1,overC,if_pos m1,hx1,overC,if_pos m2]; exact hy⟩
theorem retAns_skip {t c:Int} {e:QG} {l:Evs} (h:¬ isRet t c e = true):retAns (e :: l) t c = retAns l t c:=by unfold retAns; rw [List.find?_cons_of_neg h]
theorem isRet_of {t c:Int} {e:QG} (h:isRet t c e = true):e.What = 3 ∧ e.Task = t ∧ e.Call = c:=by
 simp only [isRet,Bool.and_eq_true,beq_iff_eq] at h
 exact ⟨h.1.1,h.1.2,h.2⟩
theorem retAns_bare (t c:Int):∀ l:Evs,retAns (bareL l) t c = retAns l t c
 | []=>rfl
 | e :: l=>by
  unfold bareL
  by_cases w:e.What = 2
  ·rw [List.filter_cons_of_neg (by simp [w]),retAns_skip (fun h=>by have:=isRet_of h; omega)]
   exact retAns_bare t c l
  ·rw [List.filter_cons_of_pos (by simpa using w)]
   by_cases h:isRet t c e = true
   ·unfold retAns; rw [List.find?_cons_of_pos h,List.find?_cons_of_pos h]
   ·rw [retAns_skip h,retAns_skip h]; exact retAns_bare t c l
theorem told_later {n:Nat} (hp:p.length ≤ n) {L:Evs}:∀ (l:Evs) (i:Nat) (x:Core),L.drop i = l → KInv n L i x → checkC p l (i:Int) x = .inr () → ∀ t:Nat,t < p.length → (rd x.tasks (t:Int)).at_ = 2 → ∀ a,retAns l (t:Int) (rd x.tasks (t:Int)).calls = some a → (rd x.done (rd x.last (t:Int))).Answer = a
 | [],_,_,_,_,_,_,_,_,a,h=>by cases h
 | e :: l,i,x,hd,K,hC,t,ht,h2,a,ha=>by
  obtain ⟨hi,rfl,hd'⟩:=drop_step hd
  unfold checkC at hC
  by_cases hm:may p x L[i]
  ·rw [if_pos hm] at hC
   by_cases ho:outS x L[i] ≠ 0
   ·rw [if_pos ho] at hC; cases hC
   ·rw [if_neg ho] at hC
    obtain ⟨K',k1,k2,_⟩:=K.step hp hi hm
    have hm0:=hm
    obtain ⟨⟨⟨t0,t1,c0,c1⟩,w1,w3,g4⟩,hI1,hI2⟩:=hm0
    by_cases q:L[i].Task = (t:Int)
    ·have w:L[i].What = 3:=by rw [q] at hI1; omega
     have hr:isRet (t:Int) (rd x.tasks (t:Int)).calls L[i] = true:=by
      rw [q] at hI2
      simp [isRet,w,q,hI2]
     unfold retAns at ha
     rw [List.find?_cons_of_pos hr] at ha
     have:L[i].Answer = a:=Option.some.inj ha
     unfold outS at ho
     rw [q] at ho
     by_cases h3:(rd x.done (rd x.last (t:Int))).Answer = L[i].Answer
     ·exact h3.trans this
     ·rw [if_pos ⟨w,h3⟩] at ho; exact absurd (by decide) ho
    ·rw [retAns_skip (fun h=>q (isRet_of h).2.1)] at ha
     have e1:(i:Int) + 1 = ((i + 1:Nat):Int):=by omega
     rw [e1] at hC
     have htk:rd (goS p x (i:Int) L[i]).tasks (t:Int) = rd x.tasks (t:Int):=by
      rw [goS_st,rdT (p:=p) ⟨⟨t0,t1,c0,c1⟩,w1,w3,g4⟩ (by have:=K.tl; omega) (by omega) (by have:=K.tl; omega),if_neg (fun h=>q h.symm)]
     have hla:rd (goS p x (i:Int) L[i]).last (t:Int) = rd x.last (t:Int):=by
      unfold goS
      split
      ·rfl
      ·split
       ·show rd (x.last.set L[i].Task.toNat (x.done.length:Int)) (t:Int) = _
        rw [rd_set (by have:=K.la; omega),if_neg (by omega)]
       ·rfl
     have ih:=told_later hp l (i + 1) (goS p x (i:Int) L[i]) hd' K' hC t ht (by rw [htk]; exact h2) a (by rw [htk]; exact ha)
     obtain ⟨j,j1,j2,_⟩:=K.op t (by omega) h2
     obtain ⟨j3,j4,_⟩:=k2 j j2
     rw [hla,j1,rdN j3,j4] at ih
     rw [j1,rdN j2]; exact ih
  ·rw [if_neg hm] at hC; cases hC
theorem check_G {n:Nat} (hp:p.length ≤ n) {L:Evs}:∀ (l:Evs) (i:Nat) (x:Core),L.drop i = l → KInv n L i x → checkC p l (i:Int) x = .inr () → (∀ t c:Int,0 ≤ t → t < (p.length:Int) → (rd x.tasks t).calls ≤ c → A t c = retAns l t c) → G p A (bareL l) x.tasks x.m
 | [],_,_,_,_,_,_=>.nil
 | e :: l,i,x,hd,K,hC,hA=>by
  obtain ⟨hi,rfl,hd'⟩:=drop_step hd
  unfold checkC at hC
  by_cases hm:may p x L[i]
  ·rw [if_pos hm] at hC
   by_cases ho:outS x L[i] ≠ 0
   ·rw [if_pos ho] at hC; cases hC
   ·rw [if_neg ho] at hC
    obtain ⟨K',k1,k2,_⟩:=K.step hp hi hm
    obtain ⟨g,hI⟩:=hm
    have e1:(i:Int) + 1 = ((i + 1:Nat):Int):=by omega
    rw [e1] at hC
    have hT:p.length ≤ x.tasks.length:=by have:=K.tl; omega
    have t0:=g.1.1
    have t1:=g.1.2.1
    have hA':∀ t c:Int,0 ≤ t → t < (p.length:Int) → (rd (goS p x (i:Int) L[i]).tasks t).calls ≤ c → A t c = retAns l t c:=fun t c t0 t1 hc=>by
     rw [goS_st,rdT g hT t0 (by omega)] at hc
     by_cases q:t = L[i].Task
     ·subst q
      rw [if_pos rfl] at hc
      unfold nextT at hc
      by_cases w:L[i].What = 3
      ·rw [if_pos (by omega)] at hc
       have hc:(rd x.tasks L[i].Task).calls + 1 ≤ c:=hc
       rw [hA _ c t0 t1 (by omega),retAns_skip (fun h=>by have:=(isRet_of h).2.2; have:=hI.2; omega)]
      ·rw [if_neg (by omega)] at hc
       have hc:(rd x.tasks L[i].Task).calls ≤ c:=hc
       rw [hA _ c t0 t1 hc,retAns_skip (fun h=>w (isRet_of h).1)]
     ·rw [if_neg q] at hc
      rw [hA t c t0 t1 hc,retAns_skip (fun h=>q (isRet_of h).2.1.symm)]
    have ih:=check_G hp l (i + 1) (goS p x (i:Int) L[i]) hd' K' hC hA'
    rw [goS_st] at ih
    by_cases w:L[i].What = 2
    ·have eb:bareL (L[i] :: l) = bareL l:=by unfold bareL; rw [List.filter_cons_of_neg (by simp [w])]
     have em:(goS p x (i:Int) L[i]).m = (doS x.m L[i].Task (rd (rd p L[i].Task) L[i].Call)).2:=by unfold goS; rw [if_neg (by omega),if_pos w]
     rw [em] at ih
     rw [eb]
     refine .mark w g hI (fun a ha=>?_) ih
     rw [hA _ _ t0 t1 (by rw [hI.2]; exact Int.le_refl _),retAns_skip (fun h=>by have:=(isRet_of h).1; omega)] at ha
     obtain ⟨tn,htn⟩:=Int.eq_ofNat_of_zero_le t0
     have hx2:rd (goS p x (i:Int) L[i]).tasks (tn:Int) = ⟨2,L[i].Call⟩:=by
      rw [goS_st,← htn,rdT_own g hT,w]
      unfold nextT
      rw [if_neg (by decide),hI.2]; rfl
     have:=told_later hp l (i + 1) (goS p x (i:Int) L[i]) hd' K' hC tn (by omega) (by rw [hx2]) a (by rw [hx2,← htn]; exact ha)
     rw [← this]
     unfold goS
     rw [if_neg (by omega),if_pos w]
     show _ = (rd (x.done ++ [_]) (rd (x.last.set L[i].Task.toNat (x.done.length:Int)) (tn:Int))).Answer
     rw [rd_set (by have:=K.la; have:=K.tl; omega),if_pos (by omega),rdN (by simp),List.getElem_append_right (Nat.le_refl _)]
     simp
    ·have eb:bareL (L[i] :: l) = L[i] :: bareL l:=by unfold bareL; rw [List.filter_cons_of_pos (by simpa using w)]
     have em:(goS p x (i:Int) L[i]).m = x.m:=by
      unfold goS
      rw [if_neg w]
      split <;> rfl
     rw [em] at ih
     rw [eb]
     exact .ev w g hI ih
  ·rw [if_neg hm] at hC; cases hC
theorem bare_take:∀ (l:Evs) (n:Nat),∃ j,(bareL l).take n = bareL (l.take j)
 | [],n=>⟨0,by simp [bareL]⟩
 | e :: l,0=>⟨0,by simp [bareL]⟩
 | e :: l,n + 1=>by
  unfold bareL
  by_cases w:e.What = 2
  ·obtain ⟨j,hj⟩:=bare_take l (n + 1)
   refine ⟨j + 1,?_⟩
   rw [List.filter_cons_of_neg (by simp [w]),List.take_succ_cons,List.filter_cons_of_neg (by simp [w])]
   exact hj
  ·obtain ⟨j,hj⟩:=bare_take l n
   refine ⟨j + 1,?_⟩
   rw [List.filter_cons_of_pos (by simpa using w),List.take_succ_cons,List.take_succ_cons,List.filter_cons_of_pos (by simpa using w)]
   exact congrArg _ hj
theorem find_swap {q:QG → Bool} {e1 e2:QG} (h:¬ (q e1 = true ∧ q e2 = true)) (l:Evs):∀ X:Evs,(X ++ e1 :: e2 :: l).find? q = (X ++ e2 :: e1 :: l).find? q
 | []=>by
  show (e1 :: e2 :: l).find? q = (e2 :: e1 :: l).find? q
  by_cases h1:q e1 = true
  ·have h2:¬ q e2 = true:=fun h2=>h ⟨h1,h2⟩
   rw [List.find?_cons_of_pos h1,List.find?_cons_of_neg h2,List.find?_cons_of_pos h1]
  ·rw [List.find?_cons_of_neg h1]
   by_cases h2:q e2 = true
   ·rw [List.find?_cons_of_pos h2,List.find?_cons_of_pos h2]
   ·rw [List.find?_cons_of_neg h2,List.find?_cons_of_neg h2,List.find?_cons_of_neg h1]
 | x :: X=>by
  show (x :: (X ++ e1 :: e2 :: l)).find? q = (x :: (X ++ e2 :: e1 :: l)).find? q
  by_cases hx:q x = true
  ·rw [List.find?_cons_of_pos hx,List.find?_cons_of_pos hx]
  ·rw [List.find?_cons_of_neg hx,List.find?_cons_of_neg hx]; exact find_swap h l X
end
end Go.Proofs.YtnjbjpaiepefoaaDoor
