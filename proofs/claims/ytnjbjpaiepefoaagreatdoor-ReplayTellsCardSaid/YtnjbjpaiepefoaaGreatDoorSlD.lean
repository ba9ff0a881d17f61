import Derived.Test.YtnjbjpaiepefoaaGreatDoorSlC
namespace Go.Proofs.YtnjbjpaiepefoaaGreatDoor
open Go
set_option linter.unusedVariables false
set_option linter.unusedSimpArgs false
structure Rep (α:Type) where
 sz:Nat
 R:Hp→α→List Value→Prop
 len:∀ {M:Hp} {x:α} {cs:List Value},R M x cs→cs.length=sz
 one:∀ {M:Hp} {x:α} {cs:List Value},R M x cs→∀ v∈cs,v.oneCell'=true
 mono:∀ {M M':Hp} {x:α} {cs:List Value},M.le M'→R M x cs→R M' x cs
def rInt (k:IntKind):Rep Int:=⟨1,fun _ x cs=>cs=[.int k x],fun h=>by simp [h],fun h=>by simp [h,Value.oneCell'],fun _ h=>h⟩
def rBool:Rep Bool:=⟨1,fun _ x cs=>cs=[.bool x],fun h=>by simp [h],fun h=>by simp [h,Value.oneCell'],fun _ h=>h⟩
def rStr:Rep Str:=⟨1,fun _ x cs=>cs=[.string (bs x)],fun h=>by simp [h],fun h=>by simp [h,Value.oneCell'],fun _ h=>h⟩
def SlW {α:Type} (ρ:Rep α) (M H:Hp) (v:Value) (l:List α):Prop :=
 ∃ (A:Option Addr) (c:Nat),v=.slice A l.length c∧l.length≤c∧(0<l.length→∃ b off cs t fr,A=some ⟨b,off,none⟩∧H b=some (.cells cs t fr) ∧
  ∀ i x,l[i]?=some x→∃ vs:List Value,ρ.R M x vs∧∀ j v,vs[j]?=some v→cs[off+i*ρ.sz+j]?=some v)
abbrev SlR {α:Type} (ρ:Rep α) (M:Hp) (v:Value) (l:List α):Prop:=SlW ρ M M v l
theorem SlW.mono {α:Type} {ρ:Rep α} {M M' H H':Hp} {v:Value} {l:List α} (h:SlW ρ M H v l) (B:M.le M') (hH:H.le H'):SlW ρ M' H' v l:=by
 obtain ⟨A,c,e,hc,hr⟩:=h;refine ⟨A,c,e,hc,fun h0=>?_⟩;obtain ⟨b,off,cs,t,fr,E,G,K⟩:=hr h0;exact ⟨b,off,cs,t,fr,E,hH _ _ G,fun i x hx=>let ⟨vs,O,U⟩:=K i x hx;⟨vs,ρ.mono B O,U⟩⟩
theorem SlW.none_nil {α:Type} {ρ:Rep α} {M H:Hp} {n c:Nat} {l:List α} (h:SlW ρ M H (.slice none n c) l):l=[]:=by
 obtain ⟨A,c',e,_,hr⟩:=h
 injection e with E G K
 cases l with
 | nil=>rfl
 | cons x l =>
  obtain ⟨b,off,_,_,_,B,_⟩:=hr (by simp);rw [← E] at B;cases B
theorem SlR.mono {α:Type} {ρ:Rep α} {M M':Hp} {v:Value} {l:List α} (h:SlR ρ M v l) (B:M.le M'):SlR ρ M' v l:=SlW.mono h B B
theorem SlR.world {α:Type} {ρ:Rep α} {w:World} {M F:Hp} {Γ:List Asr} {v:Value} {l:List α} (h:SlR ρ M v l) (S:St w M F Γ):SlW ρ M (Hp.of w) v l :=
 SlW.mono h (Hp.le_refl _) (by obtain ⟨_,_,_,_,_,B,_⟩:=S.ex;exact B)
def rSl {α:Type} (ρ:Rep α):Rep (List α) :=
 ⟨1,fun M l cs=>∃ v,SlR ρ M v l∧cs=[v],fun ⟨_,_,e⟩=>by simp [e],fun ⟨v,⟨A,c,h,_⟩,e⟩=>by subst e;simp [h,Value.oneCell'],fun B ⟨v,h,e⟩=>⟨v,SlR.mono h B,e⟩⟩
section
variable {α:Type} {ρ:Rep α} {M H:Hp} {v:Value} {l:List α} {A:Option Addr} {n c:Nat}
theorem SlW.form (h:SlW ρ M H v l):∃ A c,v=.slice A l.length c∧l.length≤c:=let ⟨A,c,e,hc,_⟩:=h;⟨A,c,e,hc⟩
theorem SlW.len (h:SlW ρ M H (.slice A n c) l):l.length=n∧l.length≤c:=by
 obtain ⟨A',c',e,hc,_⟩:=h
 injection e with G B E
 exact ⟨B.symm,E ▸ hc⟩
theorem SlW.nil (A:Option Addr) (c:Nat):SlW ρ M H (.slice A 0 c) []:=⟨A,c,rfl,Nat.zero_le _,fun h=>absurd h (by simp)⟩
theorem SlW.at (h:SlW ρ M H (.slice A n c) l) (i:Nat) (hi:i<l.length):∃ b off cs t fr,A=some ⟨b,off,none⟩∧H b=some (.cells cs t fr)∧∃ vs:List Value,ρ.R M l[i] vs∧∀ j v,vs[j]?=some v→cs[off+i*ρ.sz+j]?=some v:=by
 obtain ⟨A',c',e,hc,hr⟩:=h
 injection e with B O U
 subst B;obtain ⟨b,off,cs,t,fr,E,G,K⟩:=hr (by omega);exact ⟨b,off,cs,t,fr,E,G,K i _ (List.getElem?_eq_getElem hi)⟩
theorem SlW.drop (h:SlW ρ M H (.slice A n c) l) (k:Nat) (hk:k≤l.length):SlW ρ M H (.slice (if c=k then A else A.map (·.add (k*ρ.sz))) (n-k) (c-k)) (l.drop k):=by
 obtain ⟨A',c',e,hc,hr⟩:=h
 injection e with B E G
 subst B E G;refine ⟨if c=k then A else A.map (·.add (k*ρ.sz)),c-k,by simp,by simp;omega,fun h0=>?_⟩;simp only [List.length_drop] at h0;obtain ⟨b,off,cs,t,fr,K,O,U⟩:=hr (by omega);refine ⟨b,off+k*ρ.sz,cs,t,fr,?_,O,fun i x hx=>?_⟩
 ·rw [if_neg (by omega),K];simp [V1]
 ·rw [List.getElem?_drop] at hx;obtain ⟨vs,V,W⟩:=U _ _ hx;refine ⟨vs,V,fun j u hu=>?_⟩;have:=W j u hu;rw [Nat.add_mul,← Nat.add_assoc] at this;exact this
theorem SlW.take (h:SlW ρ M H (.slice A n c) l) (k c':Nat) (hk:k≤l.length) (hc':k≤c'):SlW ρ M H (.slice A k c') (l.take k):=by
 obtain ⟨A',c'',e,hc,hr⟩:=h
 injection e with B E G
 subst B E G;refine ⟨A,c',by simp;omega,by simp;omega,fun h0=>?_⟩;obtain ⟨b,off,cs,t,fr,K,O,U⟩:=hr (by simp at h0;omega);refine ⟨b,off,cs,t,fr,K,O,fun i x hx=>U i x ?_⟩;rw [List.getElem?_take] at hx
 split at hx
 ·exact hx
 ·cases hx
end
def Cells {α:Type} (ρ:Rep α) (M:Hp) (l:List α) (cs:List Value):Prop :=
 cs.length=l.length*ρ.sz∧∀ i x,l[i]?=some x→∃ vs:List Value,ρ.R M x vs∧∀ j v,vs[j]?=some v→cs[i*ρ.sz+j]?=some v
section
variable {α:Type} {ρ:Rep α} {M M' H:Hp} {l l':List α} {cs cs' vs:List Value} {x:α}
theorem Cells.nil:Cells ρ M [] []:=⟨by simp,fun i x h=>by simp at h⟩
theorem Cells.one (h:ρ.R M x vs):Cells ρ M [x] vs:=⟨by simp [ρ.len h],fun i y hy=>by
 cases i with
 | zero=>simp at hy;subst hy;exact ⟨vs,h,fun j v hv=>by simpa using hv⟩
 | succ i=>simp at hy⟩
theorem Cells.append (h:Cells ρ M l cs) (k:Cells ρ M l' cs'):Cells ρ M (l++l') (cs++cs'):=by
 refine ⟨by simp [h.1,k.1,Nat.add_mul],fun i x hx=>?_⟩;rw [List.getElem?_append] at hx
 split at hx
 ·obtain ⟨vs,B,E⟩:=h.2 i x hx;refine ⟨vs,B,fun j v hv=>?_⟩;have:=E j v hv;rw [List.getElem?_append_left]
  ·exact this
  ·exact (List.getElem?_eq_some_iff.1 this).1
 ·rename_i hi
  obtain ⟨vs,B,E⟩:=k.2 _ x hx;refine ⟨vs,B,fun j v hv=>?_⟩;have:=E j v hv
  have e:i*ρ.sz+j=cs.length+((i-l.length)*ρ.sz+j):=by
   rw [h.1,← Nat.add_assoc,← Nat.add_mul];congr 2;omega
  rw [e,List.getElem?_append_right (by omega)]
  simpa using this
theorem Cells.cons (h:ρ.R M x vs) (k:Cells ρ M l cs):Cells ρ M (x::l) (vs++cs):=Cells.append (Cells.one h) k
theorem Cells.mono (h:Cells ρ M l cs) (B:M.le M'):Cells ρ M' l cs:=⟨h.1,fun i x hx=>let ⟨vs,E,G⟩:=h.2 i x hx;⟨vs,ρ.mono B E,G⟩⟩
theorem Cells.ones (h:Cells ρ M l cs):∀ v∈cs,v.oneCell'=true:=by
 intro v hv;obtain ⟨k,hk,rfl⟩:=List.getElem_of_mem hv
 have hz:0<ρ.sz:=by
  rcases Nat.eq_zero_or_pos ρ.sz with e | e
  ·have:=h.1;rw [e] at this;omega
  ·exact e
 have hi:k / ρ.sz<l.length:=by rw [Nat.div_lt_iff_lt_mul hz,← h.1];exact hk
 obtain ⟨vs,E,G⟩:=h.2 (k / ρ.sz) _ (List.getElem?_eq_getElem hi);have hj:k % ρ.sz<vs.length:=by rw [ρ.len E];exact Nat.mod_lt _ hz
 have B:=G (k % ρ.sz) _ (List.getElem?_eq_getElem hj);rw [Nat.div_add_mod' k ρ.sz,List.getElem?_eq_getElem hk] at B
 injection B with B
 rw [B];exact ρ.one E _ (List.getElem_mem hj)
theorem SlW.cells {A:Option Addr} {n c b off:Nat} {arr:Array Value} {t:TypeId} {fr:Nat×Nat} (h:SlW ρ M H (.slice A n c) l) (h0:0<l.length) (hz:0<ρ.sz):∃ b off arr t fr,A=some ⟨b,off,none⟩∧H b=some (.cells arr t fr)∧off+l.length*ρ.sz≤arr.size∧Cells ρ M l (arr.extract off (off+l.length*ρ.sz)).toList:=by
 obtain ⟨A',c',e,hc,hr⟩:=h
 injection e with K W Y
 subst K;obtain ⟨b,off,cs,t,fr,O,U,G⟩:=hr h0
 have hs:off+l.length*ρ.sz≤cs.size:=by
  obtain ⟨vs,B,E⟩:=G (l.length-1) _ (List.getElem?_eq_getElem (by omega));have hv:=ρ.len B;have:=E (ρ.sz-1) _ (List.getElem?_eq_getElem (by omega));have:=(Array.getElem?_eq_some_iff.1 this).1
  have e:l.length*ρ.sz=(l.length-1)*ρ.sz+ρ.sz:=by
   rw [← Nat.succ_mul];congr 1;omega
  omega
 refine ⟨b,off,cs,t,fr,O,U,hs,by simp;omega,fun i x hx=>?_⟩;obtain ⟨vs,B,E⟩:=G i x hx;refine ⟨vs,B,fun j v hv=>?_⟩;have V:=E j v hv;have hi:=(List.getElem?_eq_some_iff.1 hx).1;have hj:j<ρ.sz:=by have:=(List.getElem?_eq_some_iff.1 hv).1;rw [ρ.len B] at this;exact this
 have hlt:i*ρ.sz+j<l.length*ρ.sz:=by
  have:(i+1)*ρ.sz≤l.length*ρ.sz:=Nat.mul_le_mul_right _ hi;rw [Nat.succ_mul] at this;omega
 rw [Array.getElem?_toList,Array.getElem?_extract];rw [show min (off+l.length*ρ.sz) cs.size-off=l.length*ρ.sz from by omega,if_pos hlt,← Nat.add_assoc];exact V
end
def RowAt {α:Type} (ρ:Rep α) (t:TypeId) (M h:Hp) (v:Value) (l:List α):Prop :=
 (v=.slice none 0 0∧l=[])∨∃ b cap cs,v=.slice (some ⟨b,0,none⟩) l.length cap∧l.length≤cap∧h b=some (.cells cs t (0,0))∧cs.size=cap*ρ.sz∧Cells ρ M l (cs.toList.take (l.length*ρ.sz))∧cap<9223372036854775808
def Row {α:Type} (ρ:Rep α) (t:TypeId) (v:Value) (l:List α):Asr :=
 ⟨fun M h=>RowAt ρ t M h v l,fun B h=>h.imp id fun ⟨b,cap,cs,E,G,K,O,U,V⟩=>⟨b,cap,cs,E,G,K,O,U.mono B,V⟩⟩
section
variable {α:Type} {ρ:Rep α} {t:TypeId} {M h H:Hp} {v:Value} {l:List α}
theorem RowAt.read (hr:RowAt ρ t M h v l) (hH:h.le H):SlW ρ M H v l:=by
 rcases hr with ⟨rfl,rfl⟩ | ⟨b,cap,cs,rfl,B,E,U,G,V⟩
 ·exact SlW.nil _ _
 ·refine ⟨_,_,rfl,B,fun h0=>⟨b,0,cs,t,_,rfl,hH _ _ E,fun i x hx=>?_⟩⟩;obtain ⟨vs,K,O⟩:=G.2 i x hx;refine ⟨vs,K,fun j u hu=>?_⟩;have:=O j u hu;rw [List.getElem?_take] at this
  split at this
  ·rw [Nat.zero_add];simpa using this
  ·cases this
theorem St.row_read {w:World} {F:Hp} {Γ:List Asr} (S:St w M F Γ) (i:Nat) (hi:Γ[i]?=some (Row ρ t v l)):SlW ρ M (Hp.of w) v l:=by
 obtain ⟨B,ha,hle,_⟩:=S.change i hi;exact RowAt.read ha hle
theorem St.row_freeze {w:World} {F:Hp} {Γ:List Asr} (S:St w M F Γ) (i:Nat) (hi:Γ[i]?=some (Row ρ t v l)):∃ M',M.le M'∧SlR ρ M' v l∧St w M' F (Γ.eraseIdx i):=by
 obtain ⟨M',g,B,ha,hle,S'⟩:=S.freeze i hi;exact ⟨M',B,SlW.mono (RowAt.read ha hle) B (Hp.le_refl _),S'⟩
theorem St.row_nil {w:World} {F:Hp} {Γ:List Asr} (S:St w M F Γ) (ρ:Rep α) (t:TypeId):St w M F (Row ρ t (.slice none 0 0) []::Γ):=by
 obtain ⟨g,hs,B,E,G,K,O,U⟩:=S.ex;exact ⟨g,⟨Hp.emp,g,Hp.emp_disj _,(Hp.emp_union _).symm,.inl ⟨rfl,rfl⟩,hs⟩,B,E,G,K,O,U⟩
theorem St.row_new {w:World} {F:Hp} {Γ:List Asr} (S:St w M F Γ) (cs:Array Value) (cap:Nat) (hc:l.length≤cap) (hs:cs.size=cap*ρ.sz) (hl:Cells ρ M l (cs.toList.take (l.length*ρ.sz))) (B:cap<9223372036854775808) :
  St (w.alloc (.cells cs t)) M F (Row ρ t (.slice (some ⟨w.heap.size,0,none⟩) l.length cap) l::Γ) :=
 S.alloc _ _ (.inr ⟨_,cap,cs,rfl,hc,by simp [Hp.single],hs,hl,B⟩)
end
structure Src (P:Program) (sz:Nat) (w:World) (x:Value) (m:Nat) (cs:List Value):Prop where
 len:(Builtin.lenOf x).run P w=.ok m w
 run:∀ w1:World,w1.heap=w.heap→(Builtin.firstCells sz m x).run P w1=.ok cs.toArray w1
theorem Yt {P:Program} {α:Type} {ρ:Rep α} {M:Hp} {w:World} {v:Value} {l:List α} (h:SlW ρ M (Hp.of w) v l) (hz:0<ρ.sz):∃ cs,Src P ρ.sz w v l.length cs∧Cells ρ M l cs:=by
 obtain ⟨A,c,rfl,hc⟩:=h.form
 by_cases h0:0<l.length
 ·obtain ⟨b,off,arr,t,fr,rfl,hb,hs,hC⟩:=h.cells (b:=0) (off:=0) (arr:=#[]) (t:=0) (fr:=(0,0)) h0 hz;exact ⟨_,⟨by simp [Builtin.lenOf],fun w1 B=>by simp only [Builtin.firstCells];rw [U2 (show w1.heap[b]?=some (.cells arr t fr) by rw [B];exact Hp.of_get hb) hs]⟩,hC⟩
 ·obtain rfl:l=[]:=List.eq_nil_of_length_eq_zero (by omega);refine ⟨[],⟨by simp [Builtin.lenOf],fun w1 _=>?_⟩,Cells.nil⟩
  cases A with
  | none=>simp [Builtin.firstCells]
  | some a=>simp [Builtin.firstCells,loadCells,loadCellsFrom]
theorem J1 {P:Program} {α:Type} {ρ:Rep α} {w:World} {M F:Hp} {Γ:List Asr} {v x z:Value} {l l2:List α} {cs:List Value} {t e T':TypeId} {ts:Array TypeId} {agg:Bool} {bytes m:Nat} (S:St w M F Γ) (i:Nat) (hi:Γ[i]?=some (Row ρ e v l))
  (hu:P.underlying t=some (.slice e)) (hx:(ts[1]?).bind P.underlying=some (.slice e)∨(ts[1]?).bind P.underlying=some .string) (ht:ts[0]?=some t) (T:IsTy P e agg z ρ.sz bytes) (hz:z.cells.size=ρ.sz) (hsz:0<ρ.sz)
  (hs:Src P ρ.sz w x m cs) (hC:Cells ρ M l2 cs) (hm:l2.length=m) (hlim:(l.length+m)*bytes≤140737488355328) (a2:0<bytes) :
  ∃ v' w',(Builtin.append_ ts T' #[v,x]).run P w=.ok v' w'∧Ext w w'∧St w' M F (Γ.set i (Row ρ e v' (l++l2))):=by
 obtain ⟨h1,ha,hle,hch⟩:=S.change i hi
 have hA:∃ A n c,v=.slice A n c∧n=l.length∧n≤c:=by
  rcases ha with ⟨rfl,rfl⟩ | ⟨b,cap,cs',rfl,h2,_⟩
  ·exact ⟨none,0,0,rfl,rfl,Nat.le_refl _⟩
  ·exact ⟨_,_,_,rfl,rfl,h2⟩
 obtain ⟨A,n,c,rfl,rfl,hc⟩:=hA
 obtain ⟨xt,hxt,hd⟩:∃ xt,ts[1]?=some xt∧(P.underlying xt=some (.slice e)∨P.underlying xt=some .string):=by
  cases h:ts[1]? with
  | none=>simp [h] at hx
  | some xt=>rw [h] at hx;exact ⟨xt,rfl,hx⟩
 have hcl:cs.length=m*ρ.sz:=by rw [hC.1,hm]
 by_cases hroom:l.length+m≤c
 ·
  have hval:∃ w',(match A with | some a=>storeCells (a.add (l.length*ρ.sz)) cs.toArray.toList | none=>pure ():Sem Unit).run P w=.ok () w'∧Ext w w'∧St w' M F (Γ.set i (Row ρ e (.slice A (l.length+m) c) (l++l2))):=by
   rcases ha with ⟨O,rfl⟩ | ⟨b,cap,arr,O,h2,U,h4,h5,V⟩
   ·injection O with B e2 W
    subst B W;have a5:m=0:=by simp at hroom;omega
    subst a5;obtain rfl:l2=[]:=List.eq_nil_of_length_eq_zero hm;refine ⟨w,rfl,Ext.refl w,?_⟩;refine hch w _ Hp.emp (.inl ⟨rfl,rfl⟩) (fun b o h=>by cases h) (fun b o h _=>h) (fun b o h=>by cases h)
   ·injection O with B e2 W
    subst B W;have hb:w.heap[b]?=some (.cells arr e (0,0)):=Hp.of_get (hle _ _ U)
    have hfit:0+l.length*ρ.sz+cs.length≤arr.size:=by
     rw [h4,hcl,Nat.zero_add,← Nat.add_mul];exact Nat.mul_le_mul_right _ hroom
    obtain ⟨w',hr,hb',ho,hE⟩:=V0 (P:=P) (b:=b) (off:=0+l.length*ρ.sz) (t:=e) cs w arr 0 hb hC.ones (by simpa using hfit);refine ⟨w',by simp only [V1];exact hr,hE,?_⟩;have hlen:(l++l2).length=l.length+m:=by simp [hm]
    refine hch w' _ (Hp.single b (.cells (over arr (0+l.length*ρ.sz+0) cs) e (0,0))) (.inr ⟨b,c,over arr (0+l.length*ρ.sz+0) cs,by rw [hlen],by rw [hlen];exact hroom,by simp [Hp.single],by rw [UJ];exact h4,?_,V⟩) (Hp.single_le.2 (Hp.of_mk hb')) (fun y o hy hn=>?_) (fun y o hy=>?_)
    ·have B:(over arr (0+l.length*ρ.sz+0) cs).toList.take ((l++l2).length*ρ.sz)=arr.toList.take (l.length*ρ.sz)++cs:=by
      apply List.ext_getElem?
      intro j;simp only [Nat.zero_add,Nat.add_zero] at hfit ⊢;have htl:(arr.toList.take (l.length*ρ.sz)).length=l.length*ρ.sz:=by simp;omega
      rw [List.getElem?_take,List.getElem?_append,htl,Array.getElem?_toList,UX];rw [hlen,Nat.add_mul,← hcl]
      by_cases Y:j<l.length*ρ.sz
      ·rw [if_pos (by omega),if_neg (by omega),if_pos Y,List.getElem?_take,if_pos Y,Array.getElem?_toList]
      ·rw [if_neg Y]
       by_cases c2:j<l.length*ρ.sz+cs.length
       ·rw [if_pos c2,if_pos (by omega)]
       ·rw [if_neg c2,List.getElem?_eq_none (by omega)]
     rw [B];exact h5.append hC
    ·have hyb:y≠b:=fun e=>by subst e;rw [U] at hn;cases hn
     exact (Hp.of_congr (ho y hyb)).trans hy
    ·simp only [Hp.single] at hy
     split at hy
     ·rename_i ey;subst ey;left;rw [U];simp
     ·cases hy
  obtain ⟨w',hr,hE,S'⟩:=hval;refine ⟨_,w',?_,hE,S'⟩;rcases hd with hd | hd
  all_goals
   simp only [Builtin.append_,ht,List.getElem?_toArray,List.getElem?_cons_zero,List.getElem?_cons_succ,Sem.run_bind,run_underlying hu,Result.andThen_ok,T.sizeOf,hxt,run_underlying hd,Sem.run_pure,hs.len,hs.run w rfl,if_pos hroom,Bool.false_eq_true,if_false,Bool.not_false,if_true]
   cases A with
   | none=>simp only [Sem.run_pure,Sem.run_bind] at hr ⊢;injection hr with _ hw;subst hw;rfl
   | some a=>simp only [Sem.run_bind] at hr ⊢;rw [hr];rfl
 ·
  have hlt:c<l.length+m:=by omega
  have hcap:=nextslicecap_le hlt
  have hbig:¬ (Builtin.nextslicecap (l.length+m) c*bytes>2 ^ 48):=by
   have:=Nat.mul_le_mul_right bytes hcap;rw [Nat.mul_assoc] at this;omega
  have hneed:¬ (((l.length+m:Nat):Int)>IntKind.i64.max∧((false=true)∨bytes=0)):=fun ⟨_,h⟩=>by
   rcases h with h | h
   ·cases h
   ·omega
  have hold:∃ old:List Value,(∀ w1:World,w1.heap=w.heap→(Builtin.firstCells ρ.sz l.length (.slice A l.length c)).run P w1=.ok old.toArray w1)∧Cells ρ M l old:=by
   obtain ⟨cs',hs',hC'⟩:=Yt (P:=P) (RowAt.read ha hle) hsz;exact ⟨cs',hs'.run,hC'⟩
  obtain ⟨old,hold,hCold⟩:=hold;obtain ⟨ti,hti,ab,ac,Z⟩:=T.typeInfo (w:=w)
  have a0:∃ nc w1,(choose (.appendCap (l.length+m) c e)).run P w=.ok nc w1∧l.length+m≤nc∧nc<9223372036854775808∧w1.heap=w.heap∧Ext w w1:=by
   refine ⟨_,{ w with drawn:=w.drawn+1 },by simp [run_choose,Question.forced];rfl,by simp [Question.cut],?_,rfl,Ext.drew _ _⟩
   have h8:l.length+m<9223372036854775808:=by
    have:=Nat.le_mul_of_pos_right (l.length+m) a2;omega
   simp only [Question.cut];have:=Nat.mod_lt (w.tape w.drawn (.appendCap (l.length+m) c e)) (show 0<2 ^ 63-(l.length+m) by omega);omega
  obtain ⟨nc,w1,hnc,hge,V,E,a7⟩:=a0;have G:=hold w1 E;have K:=hs.run w1 E;refine ⟨.slice (some ⟨w1.heap.size,0,none⟩) (l.length+m) nc,w1.alloc (.cells (old.toArray++cs.toArray++Builtin.zeroCells z.cells (nc-(l.length+m))) e),?_,a7.trans (Ext.alloc _ _),?_⟩
  ·obtain ⟨tj,htj,ad,ae,a1⟩:=T.typeInfo (w:=w1)
   have hf:¬ (((l.length+m:Nat):Int)>IntKind.i64.max∧(False∨bytes=0)):=fun ⟨_,h⟩=>by
    rcases h with h | h
    ·exact h
    ·omega
   rcases hd with hd | hd
   all_goals
    simp only [Builtin.append_,ht,List.getElem?_toArray,List.getElem?_cons_zero,List.getElem?_cons_succ,Sem.run_bind,run_underlying hu,Result.andThen_ok,T.sizeOf,hxt,run_underlying hd,Sem.run_pure,hs.len,if_neg hroom,Bool.false_eq_true,if_false,Bool.not_false,if_true,
     hti,Z,Sem.run_ite,if_neg hneed,if_neg hbig,hnc,htj,a1,run_askRoom,G,K,T.zero,newRow,run_newObj,if_neg hf]
    rfl
  ·have hlen:(l++l2).length=l.length+m:=by simp [hm]
   have af:w1.heap.size=w.heap.size:=by rw [E]
   have a8:(old.toArray++cs.toArray++Builtin.zeroCells z.cells (nc-(l.length+m))).size=nc*ρ.sz:=by
    simp only [Array.size_append,List.size_toArray,hCold.1,hcl,Builtin.zeroCells,Array.size_map,Array.size_range,hz];rw [← Nat.add_mul,← Nat.add_mul];congr 1;omega
   refine hch _ _ (Hp.single w1.heap.size (.cells (old.toArray++cs.toArray++Builtin.zeroCells z.cells (nc-(l.length+m))) e)) (.inr ⟨_,nc,old.toArray++cs.toArray++Builtin.zeroCells z.cells (nc-(l.length+m)),by rw [hlen],by rw [hlen];exact hge,by simp [Hp.single],a8,?_,V⟩) (Hp.single_le.2 (Hp.of_alloc_new _ _)) (fun y o hy _=>?_) (fun y o hy=>?_)
   ·have B:(old.toArray++cs.toArray++Builtin.zeroCells z.cells (nc-(l.length+m))).toList.take ((l++l2).length*ρ.sz)=old++cs:=by
     simp only [Array.toList_append];rw [List.take_append_of_le_length (by simp [hCold.1,hcl,hlen,Nat.add_mul])];exact List.take_of_length_le (by simp [hCold.1,hcl,hlen,Nat.add_mul])
    rw [B];exact hCold.append hC
   ·have:=Hp.le_of_alloc w1 (.cells (old.toArray++cs.toArray++Builtin.zeroCells z.cells (nc-(l.length+m))) e) y o;refine this ?_;exact (Hp.of_congr (by rw [E])).trans hy
   ·simp only [Hp.single] at hy
    split at hy
    ·rename_i ey;right;omega
    ·cases hy
end Go.Proofs.YtnjbjpaiepefoaaGreatDoor
