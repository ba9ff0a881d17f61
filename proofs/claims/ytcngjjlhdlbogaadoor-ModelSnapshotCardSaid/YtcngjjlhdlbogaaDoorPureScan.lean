import Derived.Test.YtcngjjlhdlbogaaDoorPureSnap
namespace Go.Proofs.YtcngjjlhdlbogaaDoor
open Go Go.RowKit
set_option linter.unusedVariables false
set_option linter.unusedSimpArgs false
set_option maxRecDepth 100000
theorem lss_lt (a b:Str):sbin .lss a b=ltS a b:=by
 have h:sbin .lss a b=decide (cfS a b<0):=less_cf a b
 rw [h,Bool.eq_iff_iff,lt_neg];simp
theorem ltS_irr (a:Str):¬ ltS a a=true:=by have:=cfS_swo.irrefl a;simpa using this
theorem lt_ne {a b:Str} (h:ltS a b=true):a≠b:=fun e=>ltS_irr a (by rw [e] at h ⊢;exact h)
def cntLt (y:Str):List api_Pair→Nat
 | []=>0
 | p::l=>if ltS p.Key y=true then cntLt y l+1 else 0
theorem cntLt_le (y:Str):∀ l:List api_Pair,cntLt y l≤l.length
 | []=>Nat.le_refl _
 | p::l=>by
  have:=cntLt_le y l
  unfold cntLt
  split<;>simp<;>omega
theorem scan_l8 (a:List Turn) (i:Nat) (hi:i<a.length) (W:List api_Pair) (hW:W.length≤1000000):∀ (n c:Nat),c+n=W.length→∀ k,n<k →
  ferrymanlaw16_log_scans_POO_l8 a W (i:Int) k (c:Int)=some ((c+cntLt a[i].Call.Key (W.drop c):Nat):Int):=by
 intro n
 induction n with
 | zero =>
  intro c hc k hk
  obtain ⟨k,rfl⟩:∃ k',k=k'+1:=⟨k-1,by omega⟩
  rw [ferrymanlaw16_log_scans_POO_l8.eq_2,List.drop_of_length_le (by omega)]
  have:¬ ((c:Int)<(W.length:Int)):=by omega
  simp [this,cntLt]
 | succ n ih =>
  intro c hc k hk
  obtain ⟨k,rfl⟩:∃ k',k=k'+1:=⟨k-1,by omega⟩
  have hlt:c<W.length:=by omega
  have h1:(c:Int)<(W.length:Int):=by omega
  rw [ferrymanlaw16_log_scans_POO_l8.eq_2,List.drop_eq_getElem_cons hlt,cntLt]
  simp only [h1,decide_true,if_true,inR hlt,and_self,rdN hlt,rdN hi,Option.bind_some,wr1 (i:=c) (by omega),lss_lt]
  by_cases hb:ltS W[c].Key a[i].Call.Key=true
  ·rw [if_pos hb,if_pos hb,ih (c+1) (by omega) k (by omega)]
   congr 2;omega
  ·rw [if_neg hb,if_neg hb];rfl
def insR (y v:Str):List api_Pair→List api_Pair
 | []=>[⟨y,v⟩]
 | p::l=>if ltS p.Key y=true then p::insR y v l else if p.Key=y then p::l else ⟨y,v⟩::p::l
theorem insR_eq (y v:Str):∀ W:List api_Pair,(if (W[cntLt y W]?.map (·.Key))=some y then W else (W.take (cntLt y W)++[⟨y,v⟩])++([]++W.drop (cntLt y W)))=insR y v W
 | []=>rfl
 | p::W=>by
  have ih:=insR_eq y v W
  unfold cntLt insR
  by_cases h:ltS p.Key y=true
  ·rw [if_pos h,if_pos h,List.getElem?_cons_succ,← ih]
   split
   ·rfl
   ·simp
  ·rw [if_neg h,if_neg h,List.getElem?_cons_zero]
   by_cases e:p.Key=y
   ·rw [if_pos e,if_pos (by rw [Option.map_some,e])]
   ·rw [if_neg e,if_neg (fun z=>e (by rw [Option.map_some] at z;exact Option.some.inj z))];rfl
theorem insR_len (y v:Str):∀ W:List api_Pair,(insR y v W).length≤W.length+1
 | []=>by simp [insR]
 | p::W=>by
  have:=insR_len y v W
  unfold insR
  split
  ·simp;omega
  ·split<;>simp
def wantS (g:Log) (x:Life) (c:api_Call):List Turn→List api_Pair→List api_Pair
 | [],W=>W
 | t::l,W=>wantS g x c l (if (readS g x t.Call.Key).2=true∧withinB t.Call.Key c.Key c.End=true then insR t.Call.Key (readS g x t.Call.Key).1 W else W)
theorem scan_l4 {p:Nat} {g:Log} (B:Bd p g) (hp:p≤1000) (q:Nat) (hq:q<g.lives.length) (c:api_Call) (hc:c.Key.length≤9223372036854775807) (a:List Turn) (ha:a.length≤1000) (hk:∀ t∈a,t.Call.Key.length≤9223372036854775807) :
  ∀ (n i:Nat) (W:List api_Pair),i+n=a.length→W.length≤i→Ev (fun k=>ferrymanlaw16_log_scans_POO_l4 g (q:Int) c a k W (i:Int)) (wantS g g.lives[q] c (a.drop i) W):=by
 intro n
 induction n with
 | zero =>
  intro i W hi hW
  refine Ev.shift 1 ⟨0,fun k hk=>?_⟩
  show ferrymanlaw16_log_scans_POO_l4 g _ c a (k+1) W (i:Int)=_
  rw [ferrymanlaw16_log_scans_POO_l4.eq_2,List.drop_of_length_le (by omega)]
  have:¬ ((i:Int)<(a.length:Int)):=by omega
  simp [this,wantS]
 | succ n ih =>
  intro i W hi hW
  have hlt:i<a.length:=by omega
  have h3:(i:Int)<(a.length:Int):=by omega
  have hkl:=hk _ (List.getElem_mem hlt)
  have hin:=insR_len a[i].Call.Key (readS g g.lives[q] a[i].Call.Key).1 W
  refine Ev.shift 1 (Ev.congr (g:=fun k=>_) ?_ (fun k=>by rw [ferrymanlaw16_log_scans_POO_l4.eq_2]))
  rw [List.drop_eq_getElem_cons hlt,wantS,wr1 (i:=i) (by omega),rdN hlt]
  refine Ev.pos (by simpa using h3) ?_
  refine Ev.bind (v:=if (readS g g.lives[q] a[i].Call.Key).2=true∧withinB a[i].Call.Key c.Key c.End=true then insR a[i].Call.Key (readS g g.lives[q] a[i].Call.Key).1 W else W) ?_ (ih (i+1) _ (by omega) (by split<;>omega))
  refine Ev.pos (inR hlt) ?_
  refine (reads_ev B hp q hq a[i].Call.Key).bind ?_
  refine Ev.bind (v:=!((readS g g.lives[q] a[i].Call.Key).2&&withinB a[i].Call.Key c.Key c.End)) ?_ ?_
  ·cases (readS g g.lives[q] a[i].Call.Key).2 with
   | false=>exact Ev.pos rfl (Ev.pure _)
   | true=>exact Ev.neg (by simp) (Ev.bind ⟨a[i].Call.Key.length+c.Key.length+1,fun k hk=>RWithin_eq k _ _ _ hkl hc (by omega) (by omega)⟩ (Ev.pure _))
  by_cases hv:(readS g g.lives[q] a[i].Call.Key).2=true∧withinB a[i].Call.Key c.Key c.End=true
  ·rw [if_pos hv,hv.1,hv.2]
   refine Ev.neg (by simp) ?_
   have hle:=cntLt_le a[i].Call.Key W
   refine Ev.bind (v:=((cntLt a[i].Call.Key W:Nat):Int)) ⟨W.length+1,fun k hk=>?_⟩ ?_
   ·have:=scan_l8 a i hlt W (by omega) W.length 0 (by omega) k (by omega)
    rw [List.drop_zero,Nat.zero_add] at this;exact this
   refine Ev.bind (v:=decide ((W[cntLt a[i].Call.Key W]?.map (·.Key))=some a[i].Call.Key)) ?_ ?_
   ·by_cases h:cntLt a[i].Call.Key W<W.length
    ·refine Ev.pos (by simpa using h) (Ev.pos (inR h) ((Ev.pure _).eq ?_))
     rw [rdN h,sbe,List.getElem?_eq_getElem h,Option.map_some];simp
    ·refine Ev.neg (by simpa using h) ((Ev.pure _).eq ?_)
     rw [List.getElem?_eq_none (by omega)];simp
   have he:=insR_eq a[i].Call.Key (readS g g.lives[q] a[i].Call.Key).1 W
   by_cases h:(W[cntLt a[i].Call.Key W]?.map (·.Key))=some a[i].Call.Key
   ·rw [if_pos h] at he
    exact Ev.pos (by simpa using h) ((Ev.pure _).eq he)
   ·rw [if_neg h] at he
    refine Ev.neg (by simpa using h) ?_
    rw [Int.toNat_natCast]
    exact Ev.pos (by omega) (Ev.pos (by simp;omega) (Ev.pos (by omega) (Ev.pos (by simp;omega) (Ev.pos (by simp;omega) ((Ev.pure _).eq he)))))
  ·rw [if_neg hv]
   have hb:((readS g g.lives[q] a[i].Call.Key).2&&withinB a[i].Call.Key c.Key c.End)=false:=by
    rw [Bool.eq_false_iff];intro z;exact hv (by simpa using z)
   exact Ev.pos (by rw [hb];rfl) (Ev.pure _)
def insK (y:Str):List Str→List Str
 | []=>[y]
 | z::l=>if ltS z y=true then z::insK y l else if z=y then z::l else y::z::l
theorem insK_map (y:Str) (pf:Str→Str):∀ K:List Str,insR y (pf y) (K.map fun z=>(⟨z,pf z⟩:api_Pair))=(insK y K).map fun z=>(⟨z,pf z⟩:api_Pair)
 | []=>rfl
 | z::K=>by
  have ih:=insK_map y pf K
  rw [List.map_cons,insR,insK]
  dsimp only
  split
  ·rw [ih];rfl
  ·split<;>rfl
theorem insK_mem (y z:Str):∀ K:List Str,z∈insK y K↔z=y∨z∈K
 | []=>by simp [insK]
 | u::K=>by
  have ih:=insK_mem y z K
  unfold insK
  split
  ·rw [List.mem_cons,ih,List.mem_cons]
   constructor
   ·rintro (h | h | h)
    ·exact .inr (.inl h)
    ·exact .inl h
    ·exact .inr (.inr h)
   ·rintro (h | h | h)
    ·exact .inr (.inl h)
    ·exact .inl h
    ·exact .inr (.inr h)
  ·split
   ·next h=>subst h;simp
   ·simp
theorem insK_sorted (y:Str):∀ {K:List Str},K.Pairwise (fun a b=>ltS a b=true)→(insK y K).Pairwise fun a b=>ltS a b=true
 | [],_=>by simp [insK]
 | z::K,h=>by
  have hp:=List.pairwise_cons.1 h
  unfold insK
  split
  ·next c =>
   refine List.pairwise_cons.2 ⟨fun u hu=>?_,insK_sorted y hp.2⟩
   rcases (insK_mem y u K).1 hu with rfl | hu
   ·exact c
   ·exact hp.1 u hu
  ·next c =>
   split
   ·exact h
   ·next d =>
    have c':ltS z y=false:=by simpa using c
    have hyz:ltS y z=true:=by
     cases e:ltS y z with
     | true=>rfl
     | false=>exact absurd (cfS_total z y c' e) d
    refine List.pairwise_cons.2 ⟨fun u hu=>?_,h⟩
    rcases List.mem_cons.1 hu with rfl | hu
    ·exact hyz
    ·exact ltS_trans _ _ _ hyz (hp.1 u hu)
theorem wantS_spec (g:Log) (x:Life) (c:api_Call):∀ (l:List Turn) (K:List Str),K.Pairwise (fun a b=>ltS a b=true)→∃ K':List Str,wantS g x c l (K.map fun z=>(⟨z,(readS g x z).1⟩:api_Pair))=K'.map (fun z=>(⟨z,(readS g x z).1⟩:api_Pair))∧K'.Pairwise (fun a b=>ltS a b=true) ∧
  ∀ z,z∈K'↔z∈K∨((∃ t∈l,t.Call.Key=z)∧(readS g x z).2=true∧withinB z c.Key c.End=true)
 | [],K,h=>⟨K,rfl,h,fun z=>by simp⟩
 | t::l,K,h=>by
  rw [wantS]
  by_cases hv:(readS g x t.Call.Key).2=true∧withinB t.Call.Key c.Key c.End=true
  ·rw [if_pos hv,insK_map t.Call.Key (fun z=>(readS g x z).1) K]
   obtain ⟨K',h1,h2,h3⟩:=wantS_spec g x c l (insK t.Call.Key K) (insK_sorted _ h)
   refine ⟨K',h1,h2,fun z=>?_⟩
   rw [h3,insK_mem]
   constructor
   ·rintro ((rfl | h) | ⟨⟨u,hu,e⟩,h⟩)
    ·exact .inr ⟨⟨t,List.mem_cons_self,rfl⟩,hv⟩
    ·exact .inl h
    ·exact .inr ⟨⟨u,List.mem_cons_of_mem _ hu,e⟩,h⟩
   ·rintro (h | ⟨⟨u,hu,e⟩,h⟩)
    ·exact .inl (.inr h)
    ·rcases List.mem_cons.1 hu with rfl | hu
     ·exact .inl (.inl e.symm)
     ·exact .inr ⟨⟨u,hu,e⟩,h⟩
  ·rw [if_neg hv]
   obtain ⟨K',h1,h2,h3⟩:=wantS_spec g x c l K h
   refine ⟨K',h1,h2,fun z=>?_⟩
   rw [h3]
   constructor
   ·rintro (h | ⟨⟨u,hu,e⟩,h⟩)
    ·exact .inl h
    ·exact .inr ⟨⟨u,List.mem_cons_of_mem _ hu,e⟩,h⟩
   ·rintro (h | ⟨⟨u,hu,e⟩,h⟩)
    ·exact .inl h
    ·rcases List.mem_cons.1 hu with rfl | hu
     ·subst e;exact absurd h hv
     ·exact .inr ⟨⟨u,hu,e⟩,h⟩
def vis (m:Mod) (w:Int) (x:api_Call) (y:Str):Bool:=(seeS m w (rowOf m y)).2&&withinB y x.Key x.End
theorem scanL_take (m:Mod) (w:Int) (x:api_Call) (lim:Nat) (hx:x.Limit=(lim:Int)):∀ (L:List Str) (out:List api_Pair),out.length≤lim→scanL m w x L out=(out++(L.filter (vis m w x)).map fun y=>(⟨y,(seeS m w (rowOf m y)).1⟩:api_Pair)).take lim
 | [],out,h=>by rw [scanL,List.filter_nil,List.map_nil,List.append_nil,List.take_of_length_le h]
 | y::L,out,h=>by
  rw [scanL]
  by_cases hc:(out.length:Int)=x.Limit
  ·rw [if_pos hc,List.take_append_of_le_length (by omega),List.take_of_length_le (by omega)]
  ·rw [if_neg hc,List.filter_cons]
   by_cases hv:(seeS m w (rowOf m y)).2=true∧withinB y x.Key x.End=true
   ·rw [if_pos hv,if_pos (by unfold vis;rw [hv.1,hv.2];rfl),scanL_take m w x lim hx L _ (by simp;omega),List.map_cons,List.append_assoc];rfl
   ·rw [if_neg hv,if_neg (by unfold vis;simpa using hv)]
    exact scanL_take m w x lim hx L out h
theorem scans_eq {n:Nat} {m:Mod} {g:Log} (I:Inv n m) (R:Lg m g) (H:Hs m g) {j:Nat} (hj:j<g.lives.length) (hs:(rd m.txs (j:Int)).state=1) (x:api_Call) (lim:Nat) (hx:x.Limit=(lim:Int)) (a:List Turn) (ha:∀ y∈m.rows.map (·.1),∃ t∈a,t.Call.Key=y) :
  scanL m ((j:Int)+1) x (keysS m) []=(wantS g g.lives[j] x a []).take lim:=by
 obtain ⟨K',h1,h2,h3⟩:=wantS_spec g g.lives[j] x a [] List.Pairwise.nil
 rw [List.map_nil] at h1
 rw [h1,scanL_take m _ x lim hx _ _ (Nat.zero_le _),List.nil_append]
 have hr:=see_read I R H hj hs
 have e:(keysS m).filter (vis m ((j:Int)+1) x)=K':=by
  refine sorted_eq cfS_total ?_ ((isort_sorted cfS_swo _).filter _) (h2.imp fun {a b} h=>by have:=cfS_swo.asymmA h;simp [this])
  refine (List.perm_ext_iff_of_nodup (((isort_perm _).nodup_iff.2 I.nd).filter _) (h2.imp fun h=>lt_ne h)).2 fun y=>?_
  rw [List.mem_filter,h3,show y∈isort ltS (m.rows.map fun p=>p.1)↔y∈m.rows.map (·.1) from keysS_mem]
  unfold vis
  rw [(hr y).1,Bool.and_eq_true]
  constructor
  ·rintro ⟨hy,h⟩;exact .inr ⟨ha y hy,h⟩
  ·rintro (h | ⟨_,h⟩)
   ·cases h
   ·refine ⟨?_,h⟩
    have h4:=(hr y).1.trans h.1
    cases hm:mget m.rows y with
    | some r=>exact List.mem_map_of_mem (f:=(·.1)) (mget_mem hm)
    | none =>
     have:rowOf m y=nil_row:=by unfold rowOf;rw [hm];rfl
     rw [this] at h4
     unfold seeS at h4
     rw [if_neg (by show ¬ ((0:Int)=_);omega)] at h4
     cases h4
 rw [e]
 congr 1
 refine List.map_congr_left fun y hy=>?_
 rw [(hr y).2 (((h3 y).1 hy).elim (fun h=>by cases h) fun h=>h.2.1)]
end Go.Proofs.YtcngjjlhdlbogaaDoor
