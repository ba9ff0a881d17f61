import Derived.Below
import Derived.Tactics
import Derived.WalkKit
namespace Go.Proofs.YtnjbjpaiepefoaaGreatDoor
open Go
set_option linter.unusedVariables false
abbrev Hp:=Nat→Option Obj
def isDef:Obj→Bool
 | .deferred _=>true
 | _=>false
def hide:Option Obj→Option Obj
 | some (.deferred _)=>none
 | o=>o
theorem QAv {x:Option Obj} {o:Obj} (h:hide x=some o):x=some o∧isDef o=false:=by
 cases x with
 | none=>cases h
 | some y=>cases y<;>simp [hide] at h<;>subst h<;>exact ⟨rfl,rfl⟩
theorem QCP {x:Option Obj} {o:Obj} (h:x=some o) (k:isDef o=false):hide x=some o:=by
 subst h;cases o<;>first | rfl | cases k
namespace Hp
def le (m m':Hp):Prop:=∀ b o,m b=some o→m' b=some o
def disj (m m':Hp):Prop:=∀ b,m b=none∨m' b=none
def union (m m':Hp):Hp:=fun b=>match m b with | some o=>some o | none=>m' b
def of (w:World):Hp:=fun b=>hide (w.heap[b]?)
def emp:Hp:=fun _=>none
def single (b:Nat) (o:Obj):Hp:=fun c=>if c=b then some o else none
theorem le_refl (m:Hp):m.le m:=fun _ _ h=>h
theorem le_trans {a b c:Hp} (h:a.le b) (k:b.le c):a.le c:=fun _ _ x=>k _ _ (h _ _ x)
theorem disj_symm {a b:Hp} (h:a.disj b):b.disj a:=fun x=>(h x).symm
theorem le_union_left (a b:Hp):a.le (a.union b):=fun x o h=>by simp [union,h]
theorem le_union_right {a b:Hp} (h:a.disj b):b.le (a.union b):=fun x o k=>by
 rcases h x with h | h
 ·simp [union,h,k]
 ·rw [h] at k;cases k
theorem union_le {a b c:Hp} (h:a.le c) (k:b.le c):(a.union b).le c:=fun x o e=>by
 simp only [union] at e
 cases ha:a x with
 | some o'=>rw [ha] at e;cases e;exact h _ _ ha
 | none=>rw [ha] at e;exact k _ _ e
theorem disj_union {a b c:Hp}:a.disj (b.union c)↔a.disj b∧a.disj c:=by
 constructor
 ·intro h;refine ⟨fun x=>?_,fun x=>?_⟩
  ·rcases h x with h | h
   ·exact .inl h
   ·simp only [union] at h
    cases hb:b x with
    | none=>exact .inr rfl
    | some o=>rw [hb] at h;cases h
  ·rcases h x with h | h
   ·exact .inl h
   ·simp only [union] at h
    cases hb:b x with
    | none=>rw [hb] at h;exact .inr h
    | some o=>rw [hb] at h;cases h
 ·rintro ⟨h,k⟩ x;rcases h x with h | h
  ·exact .inl h
  ·rcases k x with k | k
   ·exact .inl k
   ·exact .inr (by simp [union,h,k])
theorem union_disj {a b c:Hp}:(a.union b).disj c↔a.disj c∧b.disj c :=
 ⟨fun h=>⟨disj_symm (disj_union.1 (disj_symm h)).1,disj_symm (disj_union.1 (disj_symm h)).2⟩,fun h=>disj_symm (disj_union.2 ⟨disj_symm h.1,disj_symm h.2⟩)⟩
theorem union_assoc (a b c:Hp):(a.union b).union c=a.union (b.union c):=by
 funext x;simp only [union];cases a x<;>rfl
theorem union_comm {a b:Hp} (h:a.disj b):a.union b=b.union a:=by
 funext x;simp only [union]
 rcases h x with h | h<;>rw [h]
 ·cases b x<;>rfl
 ·cases a x<;>rfl
theorem emp_union (a:Hp):emp.union a=a:=by funext x;rfl
theorem union_emp (a:Hp):a.union emp=a:=by funext x;simp only [union,emp];cases a x<;>rfl
theorem disj_emp (a:Hp):a.disj emp:=fun _=>.inr rfl
theorem emp_disj (a:Hp):emp.disj a:=fun _=>.inl rfl
theorem disj_le {a b c:Hp} (h:a.disj c) (k:b.le c):a.disj b:=fun x=>by
 rcases h x with h | h
 ·exact .inl h
 ·cases hb:b x with
  | none=>exact .inr rfl
  | some o=>rw [k _ _ hb] at h;cases h
theorem of_get {w:World} {b:Nat} {o:Obj} (h:of w b=some o):w.heap[b]?=some o:=(QAv h).1
theorem of_mk {w:World} {b:Nat} {o:Obj} (h:w.heap[b]?=some o) (k:isDef o=false:=by rfl):of w b=some o:=QCP h k
theorem of_congr {w w':World} {b:Nat} (h:w'.heap[b]?=w.heap[b]?):of w' b=of w b:=by unfold of;rw [h]
theorem of_lt {w:World} {b:Nat} {o:Obj} (h:of w b=some o):b<w.heap.size:=(Array.getElem?_eq_some_iff.1 (of_get h)).1
theorem alloc_old (w:World) (o:Obj) {b:Nat} (hb:b<w.heap.size):(w.alloc o).heap[b]?=w.heap[b]?:=by show (w.heap.push o)[b]?=_;rw [Array.getElem?_push,if_neg (Nat.ne_of_lt hb)]
theorem alloc_new (w:World) (o:Obj):(w.alloc o).heap[w.heap.size]?=some o:=by show (w.heap.push o)[w.heap.size]?=_;rw [Array.getElem?_push,if_pos rfl]
theorem le_of_alloc (w:World) (o:Obj):(of w).le (of (w.alloc o)):=fun b x h=>(of_congr (alloc_old w o (of_lt h))).trans h
theorem of_alloc_new (w:World) (o:Obj) (k:isDef o=false:=by rfl):of (w.alloc o) w.heap.size=some o:=of_mk (alloc_new w o) k
theorem single_le {w:Hp} {b:Nat} {o:Obj}:(single b o).le w↔w b=some o:=by
 constructor
 ·intro h;exact h b o (by simp [single])
 ·intro h x y hx;simp only [single] at hx
  split at hx
  ·rename_i e;cases hx;rw [e];exact h
  ·cases hx
theorem qd {m:Hp} {b:Nat} {o:Obj} (h:m b=none):m.disj (single b o):=fun x=>by
 by_cases e:x=b
 ·exact .inl (e ▸ h)
 ·exact .inr (by simp [single,e])
theorem fresh_disj {w:World} {m:Hp} (h:m.le (of w)) (o:Obj):m.disj (single w.heap.size o):=qd (by
 cases e:m w.heap.size with
 | none=>rfl
 | some x=>have:=of_lt (h _ _ e);omega)
end Hp
structure Asr where
 sat:Hp→Hp→Prop
 mono:∀ {M M' h:Hp},M.le M'→sat M h→sat M' h
def Sats (M:Hp):List Asr→Hp→Prop
 | [],_=>True
 | A::Γ,h=>∃ E G:Hp,E.disj G∧h=E.union G∧A.sat M E∧Sats M Γ G
theorem Sats.mono {M M':Hp} (E:M.le M'):∀ {Γ:List Asr} {h:Hp},Sats M Γ h→Sats M' Γ h
 | [],_,_=>trivial
 | A::Γ,h,⟨G,H,hd,e,ha,hs⟩=>⟨G,H,hd,e,A.mono E ha,Sats.mono E hs⟩
theorem Sats.weaken {M:Hp}:∀ {Γ:List Asr} {h g:Hp},h.disj g→Sats M Γ h→Sats M Γ (h.union g)
 | [],_,_,_,_=>trivial
 | A::Γ,_,g,hd,⟨G,H,hd',e,ha,hs⟩=>by
  subst e;have E:=Hp.union_disj.1 hd;exact ⟨G,H.union g,Hp.disj_union.2 ⟨hd',E.1⟩,Hp.union_assoc _ _ _,ha,Sats.weaken E.2 hs⟩
theorem Sats.append {M:Hp}:∀ {Γ Δ:List Asr} {h g:Hp},h.disj g→Sats M Γ h→Sats M Δ g→Sats M (Γ++Δ) (h.union g)
 | [],Δ,h,g,hd,_,hs=>by
  show Sats M Δ (h.union g);rw [Hp.union_comm hd];exact Sats.weaken (Hp.disj_symm hd) hs
 | A::Γ,Δ,_,g,hd,⟨G,H,hd',e,ha,hs⟩,hg=>by
  subst e;have E:=Hp.union_disj.1 hd;exact ⟨G,H.union g,Hp.disj_union.2 ⟨hd',E.1⟩,Hp.union_assoc _ _ _,ha,Sats.append E.2 hs hg⟩
theorem Sats.split {M:Hp}:∀ {Γ Δ:List Asr} {h:Hp},Sats M (Γ++Δ) h→∃ E G:Hp,E.disj G∧h=E.union G∧Sats M Γ E∧Sats M Δ G
 | [],Δ,h,hs=>⟨Hp.emp,h,Hp.emp_disj _,(Hp.emp_union _).symm,trivial,hs⟩
 | A::Γ,Δ,_,⟨E,G,hd,e,ha,hs⟩=>by
  subst e;obtain ⟨H,W,K,Y,O,U⟩:=Sats.split hs;subst Y;have V:=Hp.disj_union.1 hd;exact ⟨E.union H,W,Hp.union_disj.2 ⟨V.2,K⟩,(Hp.union_assoc _ _ _).symm,⟨E,H,V.1,rfl,ha,O⟩,U⟩
theorem Sats.focus {M:Hp}:∀ {Γ:List Asr} {h:Hp} (i:Nat) {A:Asr},Γ[i]?=some A→Sats M Γ h →
  ∃ E G:Hp,E.disj G∧h=E.union G∧A.sat M E∧Sats M (Γ.eraseIdx i) G ∧
   ∀ (M':Hp) (B:Asr) (g:Hp),M.le M'→g.disj G→B.sat M' g→Sats M' (Γ.set i B) (g.union G)
 | [],_,i,A,hi,_=>by cases hi
 | X::Γ,_,0,A,hi,⟨E,G,hd,e,ha,hs⟩=>by
  cases hi
  subst e;exact ⟨E,G,hd,rfl,ha,hs,fun M' B g H hg hb=>⟨g,G,hg,rfl,hb,hs.mono H⟩⟩
 | X::Γ,_,i+1,A,hi,⟨E,G,hd,e,ha,hs⟩=>by
  subst e;obtain ⟨W,O,V,Y,hA,hR,hF⟩:=Sats.focus i (A:=A) (by simpa using hi) hs;subst Y;have K:=Hp.disj_union.1 hd;refine ⟨W,E.union O,Hp.disj_union.2 ⟨Hp.disj_symm K.1,V⟩,?_,hA,⟨E,O,K.2,rfl,ha,hR⟩,?_⟩
  ·rw [← Hp.union_assoc,← Hp.union_assoc,Hp.union_comm K.1]
  ·intro M' B g H hg hB;have U:=Hp.disj_union.1 hg;refine ⟨E,g.union O,Hp.disj_union.2 ⟨Hp.disj_symm U.1,K.2⟩,?_,X.mono H ha,hF M' B g H U.2 hB⟩;rw [← Hp.union_assoc,← Hp.union_assoc,Hp.union_comm U.1]
theorem Sats.erase {M:Hp} {Γ:List Asr} {h:Hp} (i:Nat) (hs:Sats M Γ h):∃ E:Hp,E.le h∧Sats M (Γ.eraseIdx i) E:=by
 cases hi:Γ[i]? with
 | none=>exact ⟨h,Hp.le_refl _,by rw [List.eraseIdx_of_length_le (by simpa using hi)];exact hs⟩
 | some A =>
  obtain ⟨H,G,hd,e,_,hr,_⟩:=hs.focus i hi;exact ⟨G,e ▸ Hp.le_union_right hd,hr⟩
structure St (w:World) (M F:Hp) (Γ:List Asr):Prop where
 ex:∃ h:Hp,Sats M Γ h∧M.disj F∧M.disj h∧F.disj h∧M.le (Hp.of w)∧F.le (Hp.of w)∧h.le (Hp.of w)
structure Ext (w w':World):Prop where
 os:w'.os=w.os
 tape:w'.tape=w.tape
 output:w'.output=w.output
 size:w.heap.size≤w'.heap.size
 defs:∀ (b:Nat) (o:Obj),w.heap[b]?=some o→isDef o=true→w'.heap[b]?=some o
 loops:∀ (b:Nat) (r:Loop),w.heap[b]?=some (.loop r)→∃ r',w'.heap[b]?=some (.loop r')
 drawn:w.drawn≤w'.drawn
theorem Ext.refl (w:World):Ext w w:=⟨rfl,rfl,rfl,Nat.le_refl _,fun _ _ h _=>h,fun _ r h=>⟨r,h⟩,Nat.le_refl _⟩
theorem Ext.trans {a b c:World} (h:Ext a b) (k:Ext b c):Ext a c:=⟨k.os.trans h.os,k.tape.trans h.tape,k.output.trans h.output,Nat.le_trans h.size k.size,fun x o hx hd=>k.defs _ _ (h.defs _ _ hx hd) hd,fun x r hx=>let ⟨r',E⟩:=h.loops _ _ hx;k.loops _ _ E,Nat.le_trans h.drawn k.drawn⟩
theorem Ext.alloc (w:World) (o:Obj):Ext w (w.alloc o):=⟨rfl,rfl,rfl,by show _≤(w.heap.push o).size;rw [Array.size_push];omega,fun b x h _=>(Hp.alloc_old w o (Array.getElem?_eq_some_iff.1 h).1).trans h,fun b r h=>⟨r,(Hp.alloc_old w o (Array.getElem?_eq_some_iff.1 h).1).trans h⟩,Nat.le_refl _⟩
theorem Ext.setCell (w:World) (a:Addr) (v:Value):Ext w (w.setCell a v):=⟨rfl,rfl,rfl,by simp [World.setCell],fun b o h hd=>by
 simp only [World.setCell,Array.getElem?_modify]
 split
 ·rw [h];cases o<;>first | rfl | cases hd
 ·exact h,fun b r h=>by
 simp only [World.setCell,Array.getElem?_modify]
 split
 ·rw [h];exact ⟨_,rfl⟩
 ·exact ⟨_,h⟩,Nat.le_refl _⟩
theorem Ext.drew (w:World) (n:Nat) (h:w.drawn≤n:=by exact Nat.le_add_right _ _):Ext w { w with drawn:=n }:=⟨rfl,rfl,rfl,Nat.le_refl _,fun _ _ h _=>h,fun _ r h=>⟨r,h⟩,h⟩
section
variable {w w':World} {M M' F:Hp} {Γ Δ:List Asr} {A B:Asr} {b:Nat} {o:Obj}
theorem St.frz (S:St w M F Γ) (h:M b=some o):w.heap[b]?=some o:=by
 obtain ⟨_,_,_,_,_,E,_⟩:=S.ex;exact Hp.of_get (E _ _ h)
theorem St.frame (S:St w M F Γ) (h:F b=some o):w.heap[b]?=some o:=by
 obtain ⟨_,_,_,_,_,_,hF,_⟩:=S.ex;exact Hp.of_get (hF _ _ h)
theorem St.heap (S:St w M F Γ) (h:w'.heap=w.heap):St w' M F Γ:=by
 obtain ⟨g,hs,E,G,H,K,O,U⟩:=S.ex;have:Hp.of w'=Hp.of w:=by unfold Hp.of;rw [h]
 exact ⟨g,hs,E,G,H,this ▸ K,this ▸ O,this ▸ U⟩
theorem St.drawn (S:St w M F Γ) (n:Nat):St { w with drawn:=n } M F Γ:=S.heap rfl
theorem St.sub (S:St w M F Γ) (h:∀ {g:Hp},Sats M Γ g→∃ g':Hp,g'.le g∧Sats M Δ g'):St w M F Δ:=by
 obtain ⟨g,hs,E,G,H,K,O,U⟩:=S.ex;obtain ⟨g',hl,hs'⟩:=h hs;exact ⟨g',hs',E,Hp.disj_le G hl,Hp.disj_le H hl,K,O,Hp.le_trans hl U⟩
theorem St.drop (S:St w M F Γ) (i:Nat):St w M F (Γ.eraseIdx i):=S.sub fun h=>h.erase i
theorem Sats.pick {M:Hp}:∀ (l:List Nat) {Γ:List Asr} {g:Hp},l.Nodup→Sats M Γ g→∃ g':Hp,g'.le g∧Sats M (l.filterMap (Γ[·]?)) g':=by
 intro l
 induction l with
 | nil=>intro Γ g _ _;exact ⟨g,Hp.le_refl _,trivial⟩
 | cons i l ih =>
  intro Γ g hn hs;have hil:i ∉ l:=(List.nodup_cons.1 hn).1;have hln:=(List.nodup_cons.1 hn).2
  cases hi:Γ[i]? with
  | none=>simpa [List.filterMap_cons,hi] using ih hln hs
  | some A =>
   obtain ⟨G,H,hd,e,ha,_,hf⟩:=hs.focus i hi;have E:Sats M (Γ.set i ⟨fun _ _=>True,fun _ h=>h⟩) (Hp.emp.union H):=hf M _ Hp.emp (Hp.le_refl _) (Hp.emp_disj _) trivial;rw [Hp.emp_union] at E;obtain ⟨g',hl,hs'⟩:=ih hln E
   have hl':l.filterMap ((Γ.set i ⟨fun _ _=>True,fun _ h=>h⟩)[·]?)=l.filterMap (Γ[·]?):=by
    have hgen:∀ l':List Nat,i ∉ l'→l'.filterMap ((Γ.set i ⟨fun _ _=>True,fun _ h=>h⟩)[·]?)=l'.filterMap (Γ[·]?):=by
     intro l'
     induction l' with
     | nil=>intro _;rfl
     | cons x l' ih' =>
      intro hx;have hxi:i≠x:=fun e=>hx (e ▸ List.mem_cons_self);have:=ih' (fun h=>hx (List.mem_cons_of_mem _ h));simp only [List.filterMap_cons,List.getElem?_set_ne hxi,this]
    exact hgen l hil
   rw [hl'] at hs';subst e;refine ⟨G.union g',Hp.union_le (Hp.le_union_left _ _) (Hp.le_trans hl (Hp.le_union_right hd)),?_⟩;simp only [List.filterMap_cons,hi];exact ⟨G,g',Hp.disj_le hd hl,rfl,ha,hs'⟩
theorem St.pick (S:St w M F Γ) (l:List Nat) (hn:l.Nodup):St w M F (l.filterMap (Γ[·]?)):=S.sub fun h=>h.pick l hn
theorem St.alloc (S:St w M F Γ) (o:Obj) (A:Asr) (hA:A.sat M (Hp.single w.heap.size o)) (hno:isDef o=false:=by rfl):St (w.alloc o) M F (A::Γ):=by
 obtain ⟨g,hs,K,O,U,E,G,H⟩:=S.ex;have hle:=Hp.le_of_alloc w o
 refine ⟨(Hp.single w.heap.size o).union g,⟨_,g,Hp.disj_symm (Hp.fresh_disj H o),rfl,hA,hs⟩,K,Hp.disj_union.2 ⟨Hp.fresh_disj E o,O⟩,Hp.disj_union.2 ⟨Hp.fresh_disj G o,U⟩,
  Hp.le_trans E hle,Hp.le_trans G hle,Hp.union_le (Hp.single_le.2 (Hp.of_alloc_new w o hno)) (Hp.le_trans H hle)⟩
theorem St.alloc_junk (S:St w M F Γ) (o:Obj):St (w.alloc o) M F Γ:=by
 obtain ⟨g,hs,E,G,H,K,O,U⟩:=S.ex;have hle:=Hp.le_of_alloc w o;exact ⟨g,hs,E,G,H,Hp.le_trans K hle,Hp.le_trans O hle,Hp.le_trans U hle⟩
theorem St.freeze (S:St w M F Γ) (i:Nat) (hi:Γ[i]?=some A):∃ M' h:Hp,M.le M'∧A.sat M h∧h.le M'∧St w M' F (Γ.eraseIdx i):=by
 obtain ⟨g,hs,U,V,W,Y,Z,G⟩:=S.ex;obtain ⟨E,g2,hd,e,ha,hr,_⟩:=hs.focus i hi;subst e;have H:=Hp.disj_union.1 V;have K:=Hp.disj_union.1 W;have O:M.le (M.union E):=Hp.le_union_left _ _;refine ⟨M.union E,E,O,ha,Hp.le_union_right H.1,⟨g2,hr.mono O,Hp.union_disj.2 ⟨U,Hp.disj_symm K.1⟩,Hp.union_disj.2 ⟨H.2,hd⟩,K.2,?_,Z,Hp.le_trans (Hp.le_union_right hd) G⟩⟩;exact Hp.union_le Y (Hp.le_trans (Hp.le_union_left _ _) G)
theorem St.change (S:St w M F Γ) (i:Nat) (hi:Γ[i]?=some A) :
  ∃ G:Hp,A.sat M G∧G.le (Hp.of w) ∧
   ∀ (w':World) (B:Asr) (g:Hp),B.sat M g→g.le (Hp.of w') →
    (∀ b,(∀ o,Hp.of w b=some o→G b=none→Hp.of w' b=some o))→(∀ b o,g b=some o→G b≠none∨w.heap.size≤b)→St w' M F (Γ.set i B):=by
 obtain ⟨g,hs,d1,d2,d3,V,W,Y⟩:=S.ex;obtain ⟨K,Z,hd,e,ha,_,hf⟩:=hs.focus i hi;subst e;have O:=Hp.disj_union.1 d2;have U:=Hp.disj_union.1 d3;refine ⟨K,ha,Hp.le_trans (Hp.le_union_left _ _) Y,fun w' B k hB hk hkeep hnew=>?_⟩
 have keep:∀ {m:Hp},m.le (Hp.of w)→m.disj K→m.le (Hp.of w'):=fun {m} hm hd b o h=>hkeep b o (hm _ _ h) (by
  rcases hd b with E | E
  ·rw [h] at E;cases E
  ·exact E)
 have away:∀ {m:Hp},m.le (Hp.of w)→m.disj K→m.disj k:=fun {m} hm hd b=>by
  cases hkb:k b with
  | none=>exact .inr rfl
  | some o =>
   left
   cases hmb:m b with
   | none=>rfl
   | some o' =>
    rcases hnew b o hkb with h | h
    ·rcases hd b with E | E
     ·rw [hmb] at E;cases E
     ·exact absurd E h
    ·have:=Hp.of_lt (hm _ _ hmb);omega
 have H:Z.le (Hp.of w):=Hp.le_trans (Hp.le_union_right hd) Y;refine ⟨k.union Z,hf M B k (Hp.le_refl _) (Hp.disj_symm (away H (Hp.disj_symm hd))) hB,d1,Hp.disj_union.2 ⟨away V O.1,O.2⟩,Hp.disj_union.2 ⟨away W U.1,U.2⟩,keep V O.1,keep W U.1,Hp.union_le hk (keep H (Hp.disj_symm hd))⟩
theorem St.part (S:St w M F (Γ++Δ)):∃ g:Hp,F.disj g∧M.disj g∧Sats M Δ g∧St w M (F.union g) Γ:=by
 obtain ⟨g,hs,U,V,W,Y,Z,G⟩:=S.ex;obtain ⟨g1,g2,hd,e,H,K⟩:=hs.split;subst e;have E:=Hp.disj_union.1 V;have O:=Hp.disj_union.1 W;exact ⟨g2,O.2,E.2,K,⟨g1,H,Hp.disj_union.2 ⟨U,E.2⟩,E.1,Hp.union_disj.2 ⟨O.1,Hp.disj_symm hd⟩,Y,Hp.union_le Z (Hp.le_trans (Hp.le_union_right hd) G),Hp.le_trans (Hp.le_union_left _ _) G⟩⟩
theorem St.join {g:Hp} (K:M.le M') (hg:F.disj g) (hs:Sats M Δ g) (S:St w' M' (F.union g) Γ):St w' M' F (Γ++Δ):=by
 obtain ⟨k,hk,O,U,V,W,E,Y⟩:=S.ex;have G:=Hp.disj_union.1 O;have H:=Hp.union_disj.1 V;refine ⟨k.union g,Sats.append (Hp.disj_symm H.2) hk (hs.mono K),G.1,Hp.disj_union.2 ⟨U,G.2⟩,Hp.disj_union.2 ⟨H.1,hg⟩,W,Hp.le_trans (Hp.le_union_left _ _) E,Hp.union_le Y (Hp.le_trans (Hp.le_union_right hg) E)⟩
theorem St.back {h:Hp} {Θ:List Asr} (S:St w' M' F Γ) (G:(M.union h).le M') (hd:M.disj h) (hA:A.sat M h)
  (hflat:∀ {g:Hp},Sats M' Γ g→∃ g':Hp,g'.le g∧Sats M Θ g'):St w' M F (A::Θ):=by
 obtain ⟨k,hk,H,O,U,K,V,W⟩:=S.ex;obtain ⟨k',hl,hk'⟩:=hflat hk;have hh:h.le M':=Hp.le_trans (Hp.le_union_right hd) G;have hm:M.le M':=Hp.le_trans (Hp.le_union_left _ _) G;have E:M'.disj k':=Hp.disj_le O hl;have low:∀ {x y z:Hp},x.disj y→z.le x→z.disj y:=fun hx hz=>Hp.disj_symm (Hp.disj_le (Hp.disj_symm hx) hz);refine ⟨h.union k',⟨h,k',low E hh,rfl,hA,hk'⟩,low H hm,Hp.disj_union.2 ⟨hd,low E hm⟩,Hp.disj_union.2 ⟨Hp.disj_symm (low H hh),Hp.disj_le U hl⟩,Hp.le_trans hm K,V,Hp.union_le (Hp.le_trans hh K) (Hp.le_trans hl W)⟩
end
def Blk (b:Nat) (o:Obj):Asr:=⟨fun _ h=>h b=some o,fun _ h=>h⟩
theorem St.blk {w:World} {M F:Hp} {Γ:List Asr} {b:Nat} {o:Obj} (S:St w M F Γ) (i:Nat) (hi:Γ[i]?=some (Blk b o)):w.heap[b]?=some o:=by
 obtain ⟨E,ha,hle,_⟩:=S.change i hi;exact Hp.of_get (hle _ _ ha)
theorem St.alloc_blk {w:World} {M F:Hp} {Γ:List Asr} (S:St w M F Γ) (o:Obj) (hno:isDef o=false:=by rfl):St (w.alloc o) M F (Blk w.heap.size o::Γ):=S.alloc o _ (by simp [Blk,Hp.single]) hno
theorem St.set_blk {w w':World} {M F:Hp} {Γ:List Asr} {b:Nat} {o o':Obj} (S:St w M F Γ) (i:Nat) (hi:Γ[i]?=some (Blk b o)) (hb:w'.heap[b]?=some o') (ho:∀ c,c≠b→w'.heap[c]?=w.heap[c]?) (hno:isDef o'=false:=by rfl):St w' M F (Γ.set i (Blk b o')):=by
 obtain ⟨E,ha,hle,hch⟩:=S.change i hi;refine hch w' (Blk b o') (Hp.single b o') (by simp [Blk,Hp.single]) (Hp.single_le.2 (Hp.of_mk hb hno)) (fun c x hx hn=>?_) (fun c x hx=>?_)
 ·have hcb:c≠b:=fun e=>by subst e;rw [show E c=some o from ha] at hn;cases hn
  exact (Hp.of_congr (ho c hcb)).trans hx
 ·simp only [Hp.single] at hx
  split at hx
  ·rename_i e;subst e;left;rw [show E c=some o from ha];simp
  ·cases hx
end Go.Proofs.YtnjbjpaiepefoaaGreatDoor
