import Derived.Test.YtnjbjpaiepefoaaGreatDoorSlI
import Derived.LoopNIn
namespace Go.Proofs.YtnjbjpaiepefoaaGreatDoor
open Go
set_option linter.unusedVariables false
set_option linter.unusedSimpArgs false
def JN {α:Type} (ρ:Rep α) (M:Hp) (v:Value) (l:List α):Prop :=
 ∃ (A:Option Addr) (c:Nat),v=.slice A l.length c∧l.length≤c∧(0<l.length→∃ b off cs t,A=some ⟨b,off,none⟩∧M b=some (.cells cs t (0,0)) ∧
  ∀ i x,l[i]?=some x→∃ vs:List Value,ρ.R M x vs∧∀ j v,vs[j]?=some v→cs[off+i*ρ.sz+j]?=some v)
section
variable {α:Type} {ρ:Rep α} {M M' H:Hp} {v:Value} {l:List α} {A:Option Addr} {n c:Nat}
theorem JN.form (h:JN ρ M v l):∃ A c,v=.slice A l.length c∧l.length≤c:=let ⟨A,c,e,hc,_⟩:=h;⟨A,c,e,hc⟩
theorem JN.r (h:JN ρ M v l):SlR ρ M v l:=let ⟨A,c,e,hc,hr⟩:=h;⟨A,c,e,hc,fun h0=>let ⟨b,off,cs,t,B,E,G⟩:=hr h0;⟨b,off,cs,t,_,B,E,G⟩⟩
theorem JN.mono (h:JN ρ M v l) (B:M.le M'):JN ρ M' v l:=let ⟨A,c,e,hc,hr⟩:=h;⟨A,c,e,hc,fun h0=>let ⟨b,off,cs,t,E,G,K⟩:=hr h0;⟨b,off,cs,t,E,B _ _ G,fun i x hx=>let ⟨vs,O,U⟩:=K i x hx;⟨vs,ρ.mono B O,U⟩⟩⟩
theorem JN.nil (A:Option Addr) (c:Nat):JN ρ M (.slice A 0 c) []:=⟨A,c,rfl,Nat.zero_le _,fun h=>absurd h (by simp)⟩
end
section
variable {α:Type} {r:Rep α} {t:TypeId} {v:Value} {l:List α} {w:World} {M F:Hp} {Γ:List Asr}
end
section
variable {rn:Rd} {P:Program} {N:Nat} {ops:Array Oper} {Q:Post} {rest:List Oper} {ρ:Rho} {w:World} {M F:Hp} {Γ Γ1 Γ2:List Asr} {d:Nat} {x y:Operand} {v u z:Value} {ty t e T:TypeId} {ps:String} {af:Array Edge} {b o n sz bytes:Nat} {agg:Bool}
end
structure Led {α β:Type} (r:Rep α) (ri:Rep β) (get:α→List β) (q:Nat):Prop where
 led:∀ {M:Hp} {x:α} {cs:List Value},r.R M x cs→∃ v,JN ri M v (get x)∧cs[q]?=some v∧∀ (M':Hp) (L:List β),JN ri M' v L→∃ x',r.R M' x' cs∧get x'=L
structure Texts {β:Type} (ri:Rep β):Prop where
 of:∀ {M:Hp} {x:β} {cs:List Value},ri.R M x cs→∀ v∈cs,∃ s:Str,v=.string (bs s)
 to:∀ cs:List Value,cs.length=ri.sz→(∀ v∈cs,∃ s:Str,v=.string (bs s))→∃ x,∀ M,ri.R M x cs
def Shp {α β:Type} (get:α→List β) (l l':List α):Prop:=l'.length=l.length∧∀ (i:Nat) (x x':α),l[i]?=some x→l'[i]?=some x'→(get x').length=(get x).length
section
variable {α β:Type} {r:Rep α} {ri:Rep β} {get:α→List β} {t:TypeId} {v:Value} {l:List α} {w:World} {M F:Hp} {Γ:List Asr}
theorem Shp.refl (l:List α):Shp get l l:=⟨rfl,fun i x x' h k=>by rw [h] at k;cases k;rfl⟩
theorem Shp.at [Inhabited α] {l l':List α} {k:Int} (h:Shp get l l') (h0:0≤k) (G:k<(l.length:Int)):(get (rd l' k)).length=(get (rd l k)).length:=by
 have hq:k.toNat<l.length:=by omega
 have hq':k.toNat<l'.length:=by rw [h.1];exact hq
 have B:l[k.toNat]?=some (rd l k):=by simp [rd,List.getD_eq_getElem?_getD,List.getElem?_eq_getElem hq]
 have E:l'[k.toNat]?=some (rd l' k):=by simp [rd,List.getD_eq_getElem?_getD,List.getElem?_eq_getElem hq']
 exact h.2 _ _ _ B E
theorem QAj {h E:Hp} {K p:Nat} {O:Array Value} {U:TypeId} {s:Str} {hv:Value} {L:List β} (X:Texts ri) (hb:h K=some (.cells O U (0,0))) (hb':E K=some (.cells (O.setIfInBounds p (.string (bs s))) U (0,0))) (ho:∀ c,c≠K→E c=h c)
  (hs:JN ri h hv L):∃ L',JN ri E hv L'∧L'.length=L.length:=by
 obtain ⟨A,c,rfl,hc,hr⟩:=hs
 by_cases h0:0<L.length
 ·obtain ⟨b,off,cs,t,rfl,hbb,hx⟩:=hr h0
  have key:∃ cs':Array Value,E b=some (.cells cs' t (0,0))∧∀ (q:Nat) (u:Value),cs[q]?=some u→∃ u',cs'[q]?=some u'∧((∃ z:Str,u=.string (bs z))→∃ z:Str,u'=.string (bs z)):=by
   by_cases e:b=K
   ·subst e;rw [hb] at hbb;cases hbb;refine ⟨_,hb',fun q u hu=>?_⟩;rw [Array.getElem?_setIfInBounds]
    by_cases eq:p=q
    ·subst eq;have:=(Array.getElem?_eq_some_iff.1 hu).1;rw [if_pos rfl,if_pos this];exact ⟨_,rfl,fun _=>⟨s,rfl⟩⟩
    ·rw [if_neg eq];exact ⟨u,hu,id⟩
   ·exact ⟨cs,by rw [ho b e];exact hbb,fun q u hu=>⟨u,hu,id⟩⟩
  obtain ⟨cs',V,hcell⟩:=key
  have el:∀ i,i<L.length→∃ x',∃ vs:List Value,(∀ M,ri.R M x' vs)∧∀ (j:Nat) (v:Value),vs[j]?=some v→cs'[off+i*ri.sz+j]?=some v:=by
   intro i hi;obtain ⟨vs,W,Y⟩:=hx i L[i] (List.getElem?_eq_getElem hi);have hlen:=ri.len W;have htx:=X.of W
   have ex:∀ j,j<vs.length→∃ u',cs'[off+i*ri.sz+j]?=some u'∧∃ z:Str,u'=.string (bs z):=fun j hj=>by
    obtain ⟨u',B,G⟩:=hcell _ _ (Y j vs[j] (List.getElem?_eq_getElem hj));exact ⟨u',B,G (htx _ (List.getElem_mem hj))⟩
   let vs':List Value:=(List.range vs.length).map fun j=>(cs'[off+i*ri.sz+j]?).getD undef
   have hv':∀ j,j<vs.length→vs'[j]?=cs'[off+i*ri.sz+j]?:=fun j hj=>by
    obtain ⟨u',B,_⟩:=ex j hj;simp [vs',List.getElem?_map,List.getElem?_range hj,B]
   have hl':vs'.length=ri.sz:=by simp [vs',hlen]
   obtain ⟨x',hx'⟩:=X.to vs' hl' (fun v hv=>by
    obtain ⟨j,hj,rfl⟩:=List.getElem_of_mem hv;have hj':j<vs.length:=by rw [hlen,← hl'];exact hj
    obtain ⟨u',B,G⟩:=ex j hj';have:=hv' j hj';rw [List.getElem?_eq_getElem hj,B] at this
    injection this with this
    rw [this];exact G)
   refine ⟨x',vs',hx',fun j v hj=>?_⟩;have hj':j<vs.length:=by rw [hlen,← hl'];exact (List.getElem?_eq_some_iff.1 hj).1
   rw [← hv' j hj'];exact hj
  have all:∀ n,n≤L.length→∃ L':List β,L'.length=n∧∀ (i:Nat) (x:β),L'[i]?=some x→∃ vs:List Value,ri.R E x vs∧∀ (j:Nat) (v:Value),vs[j]?=some v→cs'[off+i*ri.sz+j]?=some v:=by
   intro n
   induction n with
   | zero=>exact fun _=>⟨[],rfl,fun i x h=>by simp at h⟩
   | succ n ih =>
    intro hn;obtain ⟨L',e,hL⟩:=ih (by omega);obtain ⟨x',vs,B,G⟩:=el n (by omega);refine ⟨L'++[x'],by simp [e],fun i x hix=>?_⟩;rw [List.getElem?_append] at hix
    split at hix
    ·exact hL i x hix
    ·next hge =>
     have hi:i=n:=by
      have:=(List.getElem?_eq_some_iff.1 hix).1;simp at this;omega
     subst hi;rw [e,Nat.sub_self] at hix;simp at hix;subst hix;exact ⟨vs,B _,G⟩
  obtain ⟨L',e,hL⟩:=all L.length (Nat.le_refl _);exact ⟨L',⟨_,c,by rw [e],by rw [e];exact hc,fun _=>⟨b,off,cs',t,rfl,V,hL⟩⟩,e⟩
 ·obtain rfl:L=[]:=List.eq_nil_of_length_eq_zero (by omega);exact ⟨[],JN.nil _ _,rfl⟩
theorem row_turn {q:Nat} {h B V:Hp} {G p:Nat} {E:Array Value} {W:TypeId} {s:Str} {l:List α} (D:Led r ri get q) (X:Texts ri) (hb:h G=some (.cells E W (0,0))) (hb':B G=some (.cells (E.setIfInBounds p (.string (bs s))) W (0,0))) (ho:∀ c,c≠G→B c=h c)
  (hr:RowAt r t h V v l):∃ l',Shp get l l'∧RowAt r t B V v l':=by
 rcases hr with ⟨rfl,rfl⟩ | ⟨b,cap,cs,rfl,Z,h3,h4,Y,h9⟩
 ·exact ⟨[],Shp.refl _,.inl ⟨rfl,rfl⟩⟩
 ·have el:∀ i (hi:i<l.length),∃ x',∃ vs:List Value,r.R B x' vs∧(get x').length=(get l[i]).length∧∀ (j:Nat) (v:Value),vs[j]?=some v→(cs.toList.take (l.length*r.sz))[i*r.sz+j]?=some v:=by
   intro i hi;obtain ⟨vs,K,O⟩:=Y.2 i l[i] (List.getElem?_eq_getElem hi);obtain ⟨hv,U,_,k4⟩:=D.led K;obtain ⟨L',k5,k6⟩:=QAj X hb hb' ho U;obtain ⟨x',k7,k8⟩:=k4 _ _ k5;exact ⟨x',vs,k7,by rw [k8,k6],O⟩
  have all:∀ n,n≤l.length→∃ l':List α,l'.length=n∧∀ (i:Nat) (x:α),l'[i]?=some x→(∃ y,l[i]?=some y∧(get x).length=(get y).length)∧∃ vs:List Value,r.R B x vs∧∀ (j:Nat) (v:Value),vs[j]?=some v→(cs.toList.take (l.length*r.sz))[i*r.sz+j]?=some v:=by
   intro n
   induction n with
   | zero=>exact fun _=>⟨[],rfl,fun i x h=>by simp at h⟩
   | succ n ih =>
    intro hn;obtain ⟨l',e,hL⟩:=ih (by omega);obtain ⟨x',vs,K,O,U⟩:=el n (by omega);refine ⟨l'++[x'],by simp [e],fun i x hix=>?_⟩;rw [List.getElem?_append] at hix
    split at hix
    ·exact hL i x hix
    ·next hge =>
     have hi:i=n:=by
      have:=(List.getElem?_eq_some_iff.1 hix).1;simp at this;omega
     subst hi;rw [e,Nat.sub_self] at hix;simp at hix;subst hix;exact ⟨⟨_,List.getElem?_eq_getElem (by omega),O⟩,vs,K,U⟩
  obtain ⟨l',e,hL⟩:=all l.length (Nat.le_refl _);refine ⟨l',⟨e,fun i x x' hx hx'=>?_⟩,.inr ⟨b,cap,cs,by rw [e],by rw [e];exact Z,h3,h4,⟨?_,fun i x hx=>?_⟩,h9⟩⟩
  ·obtain ⟨⟨y,hy,hyl⟩,_⟩:=hL i x' hx';rw [hx] at hy;cases hy;exact hyl
  ·rw [e];exact Y.1
  ·rw [e];exact (hL i x hx).2
end
section
variable {rn:Rd} {P:Program} {N:Nat} {ops:Array Oper} {Q:Post} {rest:List Oper} {ρ:Rho} {w:World} {M F:Hp} {Γ:List Asr} {d:Nat} {x y:Operand} {v u z:Value} {ty t e T:TypeId} {ps:String} {af:Array Edge} {b o n bytes:Nat} {agg:Bool}
end
end Go.Proofs.YtnjbjpaiepefoaaGreatDoor
