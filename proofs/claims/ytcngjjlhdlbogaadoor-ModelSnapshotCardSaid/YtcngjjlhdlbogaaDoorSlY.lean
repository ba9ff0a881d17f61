import Derived.Test.YtcngjjlhdlbogaaDoorSlX
namespace Go.Proofs.YtcngjjlhdlbogaaDoor
open Go
set_option linter.unusedVariables false
set_option linter.unusedSimpArgs false
structure NR (α β:Type) where
  sz:Nat
  cells:α→Value→List Value
  get:α→List β
  ri:Rep β
  ti:TypeId
  len:∀ x v,(cells x v).length=sz
  one:∀ x v,v.oneCell'=true→∀ u∈cells x v,u.oneCell'=true
abbrev Hd:=Option Addr×Nat
namespace NR
variable {α β:Type} (N:NR α β)
def hval (p:α×Hd):Value:=.slice p.2.1 (N.get p.1).length p.2.2
def rep:Rep (α×Hd) where
  sz:=N.sz
  R:=fun _ p cs=>cs=N.cells p.1 (N.hval p)
  len:=fun h=>by subst h;exact N.len _ _
  one:=fun h=>by subst h;exact N.one _ _ rfl
  mono:=fun _ h=>h
def inn (l:List (α×Hd)):List Asr:=l.map fun p=>Row N.ri N.ti (N.hval p) (N.get p.1)
end NR
theorem Sats.insert {M:Hp}:∀ {Γ:List Asr} {i:Nat} {A:Asr} {h1 h2:Hp},Γ[i]?=some A→A.sat M h1→Sats M (Γ.eraseIdx i) h2→h1.disj h2→Sats M Γ (h1.union h2)
  | [],_,_,_,_,hi,_,_,_=>by cases hi
  | X::Γ,0,A,h1,h2,hi,ha,hs,hd=>by
    cases hi
    exact ⟨h1,h2,hd,rfl,ha,hs⟩
  | X::Γ,i+1,A,h1,h2,hi,ha,⟨g1,g2,hg,e,hx,hs⟩,hd=>by
    subst e
    have h3:=Hp.disj_union.1 hd
    have ih:=Sats.insert (Γ:=Γ) (i:=i) (by simpa using hi) ha hs h3.2
    refine ⟨g1,h1.union g2,Hp.disj_union.2 ⟨Hp.disj_symm h3.1,hg⟩,?_,hx,ih⟩
    rw [← Hp.union_assoc,← Hp.union_assoc,Hp.union_comm h3.1]
def Stk {α β:Type} (N:NR α β) (t:TypeId) (v:Value) (l:List α):Asr :=
  ⟨fun M g=>∃ hs:List Hd,hs.length=l.length∧∃ g1 g2:Hp,g1.disj g2∧g=g1.union g2∧RowAt N.rep t M g1 v (l.zip hs)∧Sats M (N.inn (l.zip hs)) g2,
   fun hM ⟨hs,e,g1,g2,hd,e2,hr,hi⟩=>⟨hs,e,g1,g2,hd,e2,(Row N.rep t v (l.zip hs)).mono hM hr,hi.mono hM⟩⟩
def StkX {α β:Type} (N:NR α β) (t:TypeId) (v:Value) (l:List α) (k:Nat) (x:α) (h:Hd):Asr :=
  ⟨fun M g=>∃ hs:List Hd,hs.length=l.length∧l[k]?=some x∧hs[k]?=some h∧∃ g1 g2:Hp,g1.disj g2∧g=g1.union g2∧RowAt N.rep t M g1 v (l.zip hs)∧Sats M ((N.inn (l.zip hs)).eraseIdx k) g2,
   fun hM ⟨hs,e,hx,hh,g1,g2,hd,e2,hr,hi⟩=>⟨hs,e,hx,hh,g1,g2,hd,e2,(Row N.rep t v (l.zip hs)).mono hM hr,hi.mono hM⟩⟩
section
variable {α β:Type} {N:NR α β} {t:TypeId} {v:Value} {l:List α} {w:World} {M F:Hp} {Γ:List Asr} {k:Nat} {x:α} {h:Hd}
theorem zip_get {hs:List Hd} (hx:l[k]?=some x) (hh:hs[k]?=some h):(l.zip hs)[k]?=some (x,h):=by
  rw [List.getElem?_zip_eq_some];exact ⟨hx,hh⟩
theorem inn_get {l:List (α×Hd)} {p:α×Hd} (h:l[k]?=some p):(N.inn l)[k]?=some (Row N.ri N.ti (N.hval p) (N.get p.1)):=by
  unfold NR.inn;rw [List.getElem?_map,h];rfl
theorem St.stk_nil (S:St w M F Γ) (N:NR α β) (t:TypeId):St w M F (Stk N t (.slice none 0 0) []::Γ):=by
  obtain ⟨g,hs,h1,h2,h3,h4,h5,h6⟩:=S.ex
  exact ⟨g,⟨Hp.emp,g,Hp.emp_disj _,(Hp.emp_union _).symm,⟨[],rfl,Hp.emp,Hp.emp,Hp.emp_disj _,(Hp.emp_union _).symm,.inl ⟨rfl,rfl⟩,trivial⟩,hs⟩,h1,h2,h3,h4,h5,h6⟩
theorem zip_len {hs:List Hd} (e:hs.length=l.length):(l.zip hs).length=l.length:=by simp [e]
theorem rowat_form {γ:Type} {r:Rep γ} {M h:Hp} {v:Value} {l:List γ} (hr:RowAt r t M h v l):∃ A c,v=.slice A l.length c∧l.length≤c:=by
  rcases hr with ⟨rfl,rfl⟩ | ⟨b,cap,cs,rfl,h2,_⟩
  · exact ⟨none,0,rfl,Nat.le_refl _⟩
  · exact ⟨_,_,rfl,h2⟩
theorem St.stk_form (S:St w M F Γ) (i:Nat) (hi:Γ[i]?=some (Stk N t v l)):∃ A c,v=.slice A l.length c∧l.length≤c:=by
  obtain ⟨_,⟨hs,e,_,_,_,_,hr,_⟩,_,_⟩:=S.change i hi
  obtain ⟨A,c,h1,h2⟩:=rowat_form hr
  rw [zip_len e] at h1 h2
  exact ⟨A,c,h1,h2⟩
theorem St.stk_out (S:St w M F Γ) (i:Nat) (hi:Γ[i]?=some (Stk N t v l)) (hk:l[k]?=some x):∃ (A:Option Addr) (c:Nat),St w M F (Row N.ri N.ti (.slice A (N.get x).length c) (N.get x)::Γ.set i (StkX N t v l k x (A,c))):=by
  obtain ⟨q,hq,d1,d2,d3,l1,l2,l3⟩:=S.ex
  obtain ⟨ga,gb,hd,e,⟨hs,he,g1,g2,hg,e2,hr,hin⟩,_,hf⟩:=hq.focus i hi
  subst e2;subst e
  have hkl:k<hs.length:=by rw [he];exact (List.getElem?_eq_some_iff.1 hk).1
  have hh:hs[k]?=some hs[k]:=List.getElem?_eq_getElem hkl
  obtain ⟨gr,go,hd2,e3,hrow,ho,_⟩:=hin.focus k (inn_get (zip_get hk hh))
  subst e3
  have dg:=Hp.disj_union.1 hg
  have dab:=Hp.union_disj.1 hd
  have dgb:=Hp.union_disj.1 dab.2
  refine ⟨hs[k].1,hs[k].2,gr.union ((g1.union go).union gb),⟨gr,_,?_,rfl,hrow,hf M (StkX N t v l k x hs[k]) (g1.union go) (Hp.le_refl _) (Hp.union_disj.2 ⟨dab.1,dgb.2⟩) ⟨hs,he,hk,hh,g1,go,dg.2,rfl,hr,ho⟩⟩,d1,?_,?_,l1,l2,?_⟩
  · exact Hp.disj_union.2 ⟨Hp.disj_union.2 ⟨Hp.disj_symm dg.1,hd2⟩,dgb.1⟩
  · have:=Hp.disj_union.1 d2
    have h4:=Hp.disj_union.1 this.1
    have h5:=Hp.disj_union.1 h4.2
    exact Hp.disj_union.2 ⟨h5.1,Hp.disj_union.2 ⟨Hp.disj_union.2 ⟨h4.1,h5.2⟩,this.2⟩⟩
  · have:=Hp.disj_union.1 d3
    have h4:=Hp.disj_union.1 this.1
    have h5:=Hp.disj_union.1 h4.2
    exact Hp.disj_union.2 ⟨h5.1,Hp.disj_union.2 ⟨Hp.disj_union.2 ⟨h4.1,h5.2⟩,this.2⟩⟩
  · have a1:=Hp.le_trans (Hp.le_union_left _ _) l3
    have a2:=Hp.le_trans (Hp.le_union_right hd) l3
    have b1:=Hp.le_trans (Hp.le_union_left _ _) a1
    have b2:=Hp.le_trans (Hp.le_union_right hg) a1
    exact Hp.union_le (Hp.le_trans (Hp.le_union_left _ _) b2) (Hp.union_le (Hp.union_le b1 (Hp.le_trans (Hp.le_union_right hd2) b2)) a2)
theorem St.stk_in (S:St w M F Γ) (i:Nat) (hi:Γ[i]?=some (StkX N t v l k x h)) (j:Nat) (hj:(Γ.eraseIdx i)[j]?=some (Row N.ri N.ti (.slice h.1 (N.get x).length h.2) (N.get x))):St w M F (Stk N t v l::((Γ.eraseIdx i).eraseIdx j)):=by
  refine S.sub fun {q} hq=>?_
  obtain ⟨ga,gb,hd,e,⟨hs,he,hk,hh,g1,g2,hg,e2,hr,hin⟩,hrest,_⟩:=hq.focus i hi
  subst e2;subst e
  obtain ⟨gr,go,hd2,e3,hrow,ho,_⟩:=hrest.focus j hj
  subst e3
  have dab:=Hp.union_disj.1 hd
  have d1:=Hp.disj_union.1 dab.1
  have d2:=Hp.disj_union.1 dab.2
  have hins:=Sats.insert (inn_get (N:=N) (zip_get hk hh)) hrow hin (Hp.disj_symm d2.1)
  refine ⟨(g1.union (gr.union g2)).union go,?_,_,go,?_,rfl,⟨hs,he,g1,gr.union g2,Hp.disj_union.2 ⟨d1.1,hg⟩,rfl,hr,hins⟩,ho⟩
  · intro b o hb
    simp only [Hp.union] at hb ⊢
    cases h1:g1 b with
    | some o1=>rw [h1] at hb;exact hb
    | none =>
      rw [h1] at hb
      simp only at hb ⊢
      cases h2:g2 b with
      | some o2 =>
        have:gr b=none:=by
          rcases d2.1 b with h | h
          · rw [h2] at h;cases h
          · exact h
        rw [this,h2] at hb;exact hb
      | none =>
        cases h3:gr b with
        | some o3=>rw [h3] at hb;exact hb
        | none=>rw [h3,h2] at hb;exact hb
  · exact Hp.union_disj.2 ⟨d1.2,Hp.union_disj.2 ⟨hd2,d2.2⟩⟩
theorem stkx_row (S:St w M F Γ) (i:Nat) {A:Option Addr} {n c:Nat} (hi:Γ[i]?=some (StkX N t (.slice A n c) l k x h)) :
    ∃ b cs,A=some ⟨b,0,none⟩∧w.heap[b]?=some (.cells cs t (0,0))∧k<l.length∧n=l.length∧∀ (j:Nat) (u:Value),(N.cells x (N.hval (x,h)))[j]?=some u→cs[0+k*N.sz+j]?=some u:=by
  obtain ⟨ga,⟨hs,he,hk,hh,g1,g2,hg,e2,hr,hin⟩,hle,_⟩:=S.change i hi
  subst e2
  have hkl:=(List.getElem?_eq_some_iff.1 hk).1
  have hz:=zip_len he
  rcases hr with ⟨_,h0⟩ | ⟨b,cap,cs,ev,h2,h3,h4,h5,h9⟩
  · rw [h0] at hz;simp at hz;omega
  · injection ev with e1 e3 e4
    refine ⟨b,cs,e1,Hp.of_get (hle _ _ (Hp.le_union_left _ _ _ _ h3)),hkl,by rw [e3,hz],fun j u hu=>?_⟩
    obtain ⟨vs,h6,h7⟩:=h5.2 k (x,h) (zip_get hk hh)
    have h6:vs=N.cells x (N.hval (x,h)):=h6
    subst h6
    have h8:=h7 j u hu
    rw [List.getElem?_take] at h8
    split at h8
    · rw [Array.getElem?_toList] at h8;rw [Nat.zero_add];exact h8
    · cases h8
theorem St.stkx_at (S:St w M F Γ) (i:Nat) {A:Option Addr} {n c:Nat} (hi:Γ[i]?=some (StkX N t (.slice A n c) l k x h)):∃ b,A=some ⟨b,0,none⟩:=by
  obtain ⟨b,_,e,_⟩:=stkx_row S i hi
  exact ⟨b,e⟩
end
section
variable {rn:Rd} {P:Program} {N0:Nat} {ops:Array Oper} {Q:Post} {rest:List Oper} {ρ:Rho} {w:World} {M F:Hp} {Γ:List Asr} {d:Nat} {x y:Operand} {v u z:Value} {ty t e T:TypeId} {ps:String} {af:Array Edge} {b o n bytes:Nat} {agg:Bool} {dst:Option Tmp} {g:Option (Nat×Bool)}
variable {α β:Type} {N:NR α β} {l:List α} {k:Nat} {xe:α} {h:Hd}
theorem x_load_stk (h':∃ Mx,M.le Mx∧St w Mx F Γ) (i:Nat) {A:Option Addr} {nn c:Nat} (hi:Γ[i]?=some (StkX N t (.slice A nn c) l k xe h)) (ee:A=some ⟨b,0,none⟩) (q:Nat) (hv:(N.cells xe (N.hval (xe,h)))[q]?=some v) (Ty:IsTy P ty false z 1 bytes)
    (hx:evR ρ x=.pointer (some ⟨b,0+k*N.sz+q,none⟩)):(execOp (evR ρ) ⟨dst,.load ty x,T,ps,af,g⟩).run P w=.ok (.value v) w:=by
  obtain ⟨Mx,_,S⟩:=h'
  obtain ⟨b',cs,e,hb,_,_,hc⟩:=stkx_row S i hi
  rw [ee] at e;injection e with e;injection e with e _;subst e
  exact x_load hb Ty hx (hc q v hv)
theorem x_loadA_stk {us:Array Value} (h':∃ Mx,M.le Mx∧St w Mx F Γ) (i:Nat) {A:Option Addr} {nn c:Nat} (hi:Γ[i]?=some (StkX N t (.slice A nn c) l k xe h)) (ee:A=some ⟨b,0,none⟩) (q:Nat) (hv:us.toList=((N.cells xe (N.hval (xe,h))).drop q).take us.size) (Ty:IsTy P ty true z n bytes)
    (hx:evR ρ x=.pointer (some ⟨b,0+k*N.sz+q,none⟩)) (hn:us.size=n) (hp:Nat.blt 0 n=true):(execOp (evR ρ) ⟨dst,.load ty x,T,ps,af,g⟩).run P w=.ok (.value (.agg us)) w:=by
  obtain ⟨Mx,_,S⟩:=h'
  obtain ⟨b',cs,e,hb,_,_,hc⟩:=stkx_row S i hi
  rw [ee] at e;injection e with e;injection e with e _;subst e
  exact x_loadA hb Ty hx (sub_el hc q hv) hn hp
theorem zip_set {α γ:Type}:∀ {l:List α} {m:List γ} {k:Nat} {a:α} {c:γ},(l.set k a).zip (m.set k c)=(l.zip m).set k (a,c)
  | [],m,k,a,c=>by simp
  | x::l,[],k,a,c=>by cases k<;>simp
  | x::l,y::m,0,a,c=>by simp
  | x::l,y::m,k+1,a,c=>by simp [zip_set (l:=l) (m:=m)]
theorem erase_set {α:Type}:∀ {l:List α} {k:Nat} {a:α},(l.set k a).eraseIdx k=l.eraseIdx k
  | [],k,a=>by simp
  | x::l,0,a=>by simp
  | x::l,k+1,a=>by simp [erase_set (l:=l)]
theorem W_stkset (S:St w M F Γ) (i:Nat) {A:Option Addr} {nn c:Nat} (hi:Γ[i]?=some (StkX N t (.slice A nn c) l k xe h)) (ee:A=some ⟨b,0,none⟩) (off:Nat) (Ty:IsTy P ty agg z n bytes)
    (hx:evR ρ x=.pointer (some ⟨b,0+k*N.sz+off,none⟩)) (hy:evR ρ y=u) (us:List Value) (hu:u.cells.toList=us) (hn:us.length=n) (h1:us.all (·.oneCell')=true) (hl:Nat.ble (off+us.length) N.sz=true) (x':α) (h':Hd) (hnew:overL (N.cells xe (N.hval (xe,h))) off us=N.cells x' (N.hval (x',h'))) {l':List α} (hl':l.set k x'=l')
    (K:∀ w',Ext w w'→St w' M F (Γ.set i (StkX N t (.slice A nn c) l' k x' h'))→Wl rn P N0 ops Q rest ρ w'):Wl rn P N0 ops Q (⟨none,.store ty x y,T,ps,af,none⟩::rest) ρ w:=by
  subst hu hl'
  have h1':∀ c∈u.cells.toList,c.oneCell'=true:=fun c hc=>List.all_eq_true.1 h1 c hc
  obtain ⟨q,hq,d1,d2,d3,l1,l2,l3⟩:=S.ex
  obtain ⟨ga,gb,hd,e,⟨hs,he,hk,hh,g1,g2,hg,e2,hr,hin⟩,_,hf⟩:=hq.focus i hi
  subst e2;subst e
  have d2':=Hp.disj_union.1 d2
  have d3':=Hp.disj_union.1 d3
  have dM:=Hp.disj_union.1 d2'.1
  have dF:=Hp.disj_union.1 d3'.1
  have db:=Hp.union_disj.1 hd
  have lga:=Hp.le_trans (Hp.le_union_left _ _) l3
  have lgb:=Hp.le_trans (Hp.le_union_right hd) l3
  have S0:St w M ((F.union g2).union gb) [Row N.rep t (.slice A nn c) (l.zip hs)]:=⟨g1,⟨g1,Hp.emp,Hp.disj_emp _,(Hp.union_emp _).symm,hr,trivial⟩,
    Hp.disj_union.2 ⟨Hp.disj_union.2 ⟨d1,dM.2⟩,d2'.2⟩,dM.1,Hp.union_disj.2 ⟨Hp.union_disj.2 ⟨dF.1,Hp.disj_symm hg⟩,Hp.disj_symm db.1⟩,l1,Hp.union_le (Hp.union_le l2 (Hp.le_trans (Hp.le_union_right hg) lga)) lgb,Hp.le_trans (Hp.le_union_left _ _) lga⟩
  have hz:=zip_get hk hh
  obtain ⟨cs,hb,ho,hfit,_⟩:=S0.row_set (w':=w) (x':=(x',h')) 0 rfl rfl ee k off _ hz u.cells.toList (Nat.le_of_ble_eq_true hl) h1' (fun cs hcs=>by
    have hcs:cs=N.cells xe (N.hval (xe,h)):=hcs
    subst hcs;exact hnew)
  obtain ⟨w',hrun,hb',hoth,hE⟩:=run_storeVar (P:=P) (off:=0+k*N.sz+off) Ty hb (v:=u) (by simpa using hn) h1' (by rw [← hn];exact hfit)
  obtain ⟨cs2,hb2,_,_,hS⟩:=S0.row_set (w':=w') (x':=(x',h')) 0 rfl rfl ee k off _ hz u.cells.toList (Nat.le_of_ble_eq_true hl) h1' (fun cs hcs=>by
    have hcs:cs=N.cells xe (N.hval (xe,h)):=hcs
    subst hcs;exact hnew)
  rw [hb] at hb2;cases hb2
  have S1:=hS hb' hoth
  refine Wl_unit rfl rfl (w':=w') ?_ hE (K w' hE ?_)
  · simp only [execOp,Instr.storeAt,Instr.sureAddr,hx,hy,Sem.run_bind,Sem.run_pure,Result.andThen_ok,hrun]
  · obtain ⟨q',⟨r1,r2,hd',e',hrow',_⟩,k1,k2,k3,k4,k5,k6⟩:=S1.ex
    subst e'
    have k1':=Hp.disj_union.1 k1
    have k1a:=Hp.disj_union.1 k1'.1
    have k2':=Hp.disj_union.1 k2
    have k3a:=Hp.union_disj.1 k3
    have k3b:=Hp.union_disj.1 k3a.1
    have kF:=Hp.disj_union.1 k3b.1
    have kg:=Hp.disj_union.1 k3b.2
    have kb:=Hp.disj_union.1 k3a.2
    have dFg:(F.union g2).disj gb:=Hp.union_disj.2 ⟨d3'.2,db.2⟩
    have lF:F.le (Hp.of w'):=Hp.le_trans (Hp.le_trans (Hp.le_union_left F g2) (Hp.le_union_left _ gb)) k5
    have lg2:g2.le (Hp.of w'):=Hp.le_trans (Hp.le_trans (Hp.le_union_right dF.2) (Hp.le_union_left _ gb)) k5
    have lb:gb.le (Hp.of w'):=Hp.le_trans (Hp.le_union_right dFg) k5
    have hkl:=(List.getElem?_eq_some_iff.1 hk).1
    have hkh:k<hs.length:=by rw [he];exact hkl
    have hrow2:RowAt N.rep t M r1 (.slice A nn c) ((l.set k x').zip (hs.set k h')):=by rw [zip_set];exact hrow'
    have hin2:Sats M ((N.inn ((l.set k x').zip (hs.set k h'))).eraseIdx k) g2:=by
      have e3:(N.inn ((l.set k x').zip (hs.set k h'))).eraseIdx k=(N.inn (l.zip hs)).eraseIdx k:=by
        rw [zip_set];unfold NR.inn;rw [List.map_set,erase_set]
      rw [e3];exact hin
    refine ⟨(r1.union g2).union gb,hf M (StkX N t (.slice A nn c) (l.set k x') k x' h') (r1.union g2) (Hp.le_refl _) (Hp.union_disj.2 ⟨Hp.disj_symm kb.1,db.2⟩) ⟨hs.set k h',by simp [he],by rw [List.getElem?_set_self hkl],by rw [List.getElem?_set_self hkh],r1,g2,Hp.disj_symm kg.1,rfl,hrow2,hin2⟩,d1,?_,?_,k4,lF,?_⟩
    · exact Hp.disj_union.2 ⟨Hp.disj_union.2 ⟨k2'.1,dM.2⟩,d2'.2⟩
    · exact Hp.disj_union.2 ⟨Hp.disj_union.2 ⟨kF.1,dF.2⟩,d3'.2⟩
    · exact Hp.union_le (Hp.union_le (Hp.le_trans (Hp.le_union_left _ _) k6) lg2) lb
theorem St.stk_one (S:St w M F Γ) (i:Nat) {cs:Array Value} (hi:Γ[i]?=some (Blk b (.cells cs t (0,0)))) (xe:α) (hc:cs.toList=N.cells xe (.slice none 0 0)) (hg:N.get xe=[]):St w M F (Γ.set i (Stk N t (.slice (some ⟨b,0,none⟩) 1 1) [xe])):=by
  obtain ⟨h1,ha,hle,hch⟩:=S.change i hi
  have hv:N.hval (xe,((none,0):Hd))=.slice none 0 0:=by unfold NR.hval;rw [hg];rfl
  have hl:=N.len xe (.slice none 0 0)
  have hcl:cs.size=N.sz:=by rw [← hl,← hc];simp
  have h9:(N.rep).R M (xe,((none,0):Hd)) cs.toList:=by show _=_;rw [hv];exact hc
  refine hch w _ h1 ⟨[(none,0)],rfl,h1,Hp.emp,Hp.disj_emp _,(Hp.union_emp _).symm,.inr ⟨b,1,cs,rfl,Nat.le_refl _,ha,by rw [Nat.one_mul];exact hcl,?_,by decide⟩,⟨Hp.emp,Hp.emp,Hp.emp_disj _,(Hp.emp_union _).symm,.inl ⟨hv,hg⟩,trivial⟩⟩ hle (fun c o h _=>h) (fun c o h=>.inl (by rw [h];simp))
  have h8:=Cells.one h9
  have e1:cs.toList.take ([(xe,((none,0):Hd))].length*N.rep.sz)=cs.toList:=List.take_of_length_le (by simp [hcl,NR.rep])
  show Cells _ _ [(xe,((none,0):Hd))] (cs.toList.take ([(xe,((none,0):Hd))].length*N.rep.sz))
  rw [e1];exact h8
theorem W_stkappend {l2:List α} {t':TypeId} (S:St w M F (Stk N e u l2::Γ)) (i:Nat) (hi:Γ[i]?=some (Stk N e v l)) (hx:evR ρ x=v) (hy:evR ρ y=u)
    (hu:P.underlying t=some (.slice e)) (hu':P.underlying t'=some (.slice e)) (Ty:IsTy P e agg z N.sz bytes) (hz:z.cells.size=N.sz) (hsz:0<N.sz) (hb0:0<bytes)
    (hlim:(l.length+l2.length)*bytes≤140737488355328) (hd:Nat.blt d N0=true)
    (K:∀ v' w',Ext w w'→St w' M F (Γ.set i (Stk N e v' (l++l2)))→Wl rn P N0 ops Q rest (upd ρ d v') w'):Wl rn P N0 ops Q (⟨some d,.call ⟨.builtin .append,#[x,y],#[t,t']⟩,T,ps,af,none⟩::rest) ρ w:=by
  obtain ⟨q,⟨ga,gb,hd1,e1,⟨hs2,he2,b1,b2,hb12,e2,hrow2,hin2⟩,hs⟩,d1,d2,d3,l1,l2',l3⟩:=S.ex
  subst e2;subst e1
  obtain ⟨gc,gd,hcd,e3,⟨hs1,he1,a1,a2,ha12,e4,hrow,hin1⟩,hr,hf⟩:=hs.focus i hi
  subst e4;subst e3
  have d2':=Hp.disj_union.1 d2
  have d3':=Hp.disj_union.1 d3
  have dMb:=Hp.disj_union.1 d2'.1
  have dFb:=Hp.disj_union.1 d3'.1
  have dMc:=Hp.disj_union.1 d2'.2
  have dFc:=Hp.disj_union.1 d3'.2
  have dM:=Hp.disj_union.1 dMc.1
  have dF:=Hp.disj_union.1 dFc.1
  have dac:=Hp.disj_union.1 hd1
  have dbc:=Hp.union_disj.1 dac.1
  have db1:=Hp.disj_union.1 dbc.1
  have db2:=Hp.disj_union.1 dbc.2
  have dbd:=Hp.union_disj.1 dac.2
  have dcd:=Hp.union_disj.1 hcd
  have lga:=Hp.le_trans (Hp.le_union_left _ _) l3
  have lgb:=Hp.le_trans (Hp.le_union_right hd1) l3
  have lc:=Hp.le_trans (Hp.le_union_left _ _) lgb
  have lgd:=Hp.le_trans (Hp.le_union_right hcd) lgb
  have lb2:=Hp.le_trans (Hp.le_union_right hb12) lga
  have la2:=Hp.le_trans (Hp.le_union_right ha12) lc
  have S1:St w M (((F.union gd).union a2).union b2) [Row N.rep e v (l.zip hs1)]:=⟨a1,⟨a1,Hp.emp,Hp.disj_emp _,(Hp.union_emp _).symm,hrow,trivial⟩,
    Hp.disj_union.2 ⟨Hp.disj_union.2 ⟨Hp.disj_union.2 ⟨d1,dMc.2⟩,dM.2⟩,dMb.2⟩,dM.1,
    Hp.union_disj.2 ⟨Hp.union_disj.2 ⟨Hp.union_disj.2 ⟨dF.1,Hp.disj_symm dcd.1⟩,Hp.disj_symm ha12⟩,db2.1⟩,
    l1,Hp.union_le (Hp.union_le (Hp.union_le l2' lgd) la2) lb2,Hp.le_trans (Hp.le_union_left _ _) lc⟩
  have hu2:SlW N.rep M (Hp.of w) u (l2.zip hs2):=RowAt.read hrow2 (Hp.le_trans (Hp.le_union_left _ _) lga)
  obtain ⟨cs,hsrc,hC⟩:=src_of_read (P:=P) hu2 hsz
  rw [zip_len he2] at hsrc
  obtain ⟨v',w',hrun,hE,S'⟩:=run_append (T':=T) (ts:=#[t,t']) S1 0 rfl hu (.inl (by simpa using hu')) rfl Ty hz hsz hsrc hC (zip_len he2) (by rw [zip_len he1];exact hlim) hb0
  refine Wl_val v' rfl rfl hd (w':=w') ?_ hE (K v' w' hE ?_)
  · simp only [execOp,resolve,invoke,builtin,Sem.run_bind,Sem.run_pure,Result.andThen_ok,List.map_toArray,List.map_cons,List.map_nil,hx,hy,hrun]
  · obtain ⟨q',⟨g1,g2,hd',e',hrow',_⟩,k1,k2,k3,k4,k5,k6⟩:=S'.ex
    subst e'
    have k2':=Hp.disj_union.1 k2
    have k3a:=Hp.union_disj.1 k3
    have k3b:=Hp.union_disj.1 k3a.1
    have k3c:=Hp.union_disj.1 k3b.1
    have kF:=Hp.disj_union.1 k3c.1
    have kd:=Hp.disj_union.1 k3c.2
    have ka:=Hp.disj_union.1 k3b.2
    have kb:=Hp.disj_union.1 k3a.2
    have x1:F.disj gd:=dFc.2
    have x2:(F.union gd).disj a2:=Hp.union_disj.2 ⟨dF.2,Hp.disj_symm dcd.2⟩
    have x3:((F.union gd).union a2).disj b2:=Hp.union_disj.2 ⟨Hp.union_disj.2 ⟨dFb.2,Hp.disj_symm dbd.2⟩,Hp.disj_symm db2.2⟩
    have m3:=Hp.le_trans (Hp.le_union_left ((F.union gd).union a2) b2) k5
    have m2:=Hp.le_trans (Hp.le_union_left (F.union gd) a2) m3
    have lF:F.le (Hp.of w'):=Hp.le_trans (Hp.le_union_left F gd) m2
    have lgd':gd.le (Hp.of w'):=Hp.le_trans (Hp.le_union_right x1) m2
    have la':a2.le (Hp.of w'):=Hp.le_trans (Hp.le_union_right x2) m3
    have lb':b2.le (Hp.of w'):=Hp.le_trans (Hp.le_union_right x3) k5
    have dab2:a2.disj b2:=Hp.disj_symm db2.2
    have hz2:(l.zip hs1)++(l2.zip hs2)=(l++l2).zip (hs1++hs2):=(List.zip_append he1.symm).symm
    have hin3:Sats M (N.inn ((l++l2).zip (hs1++hs2))) (a2.union b2):=by
      rw [← hz2];unfold NR.inn;rw [List.map_append];exact Sats.append dab2 hin1 hin2
    have hrow3:RowAt N.rep e M g1 v' ((l++l2).zip (hs1++hs2)):=by rw [← hz2];exact hrow'
    refine ⟨_,hf M (Stk N e v' (l++l2)) (g1.union (a2.union b2)) (Hp.le_refl _) (Hp.union_disj.2 ⟨Hp.disj_symm kd.1,Hp.union_disj.2 ⟨dcd.2,dbd.2⟩⟩) ⟨hs1++hs2,by simp [he1,he2],g1,a2.union b2,Hp.disj_union.2 ⟨Hp.disj_symm ka.1,Hp.disj_symm kb.1⟩,rfl,hrow3,hin3⟩,d1,?_,?_,k4,lF,?_⟩
    · exact Hp.disj_union.2 ⟨Hp.disj_union.2 ⟨k2'.1,Hp.disj_union.2 ⟨dM.2,dMb.2⟩⟩,dMc.2⟩
    · exact Hp.disj_union.2 ⟨Hp.disj_union.2 ⟨kF.1,Hp.disj_union.2 ⟨dF.2,dFb.2⟩⟩,dFc.2⟩
    · exact Hp.union_le (Hp.union_le (Hp.le_trans (Hp.le_union_left _ _) k6) (Hp.union_le la' lb')) lgd'
end
theorem run_appendNew {P:Program} {α:Type} {ρ:Rep α} {w:World} {M F:Hp} {Γ:List Asr} {A:Option Addr} {c:Nat} {x z:Value} {l l2:List α} {cs:List Value} {t e T':TypeId} {ts:Array TypeId} {agg:Bool} {bytes m:Nat} (S:St w M F Γ) (ha:SlW ρ M (Hp.of w) (.slice A l.length c) l)
    (hu:P.underlying t=some (.slice e)) (hx:(ts[1]?).bind P.underlying=some (.slice e)) (ht:ts[0]?=some t) (T:IsTy P e agg z ρ.sz bytes) (hz:z.cells.size=ρ.sz) (hsz:0<ρ.sz)
    (hs:Src P ρ.sz w x m cs) (hC:Cells ρ M l2 cs) (hm:l2.length=m) (hlt:c<l.length+m) (hlim:(l.length+m)*bytes≤140737488355328) (hb0:0<bytes) :
    ∃ (A':Option Addr) (c':Nat) (w':World),(Builtin.append_ ts T' #[.slice A l.length c,x]).run P w=.ok (.slice A' (l++l2).length c') w'∧Ext w w'∧St w' M F (Row ρ e (.slice A' (l++l2).length c') (l++l2)::Γ):=by
  obtain ⟨xt,hxt,hd⟩:∃ xt,ts[1]?=some xt∧P.underlying xt=some (.slice e):=by
    cases h:ts[1]? with
    | none=>simp [h] at hx
    | some xt=>rw [h] at hx;exact ⟨xt,rfl,hx⟩
  have hcl:cs.length=m*ρ.sz:=by rw [hC.1,hm]
  have hroom:¬ (l.length+m≤c):=by omega
  have hcap:=nextslicecap_le hlt
  have hbig:¬ (Builtin.nextslicecap (l.length+m) c*bytes>2 ^ 48):=by
    have:=Nat.mul_le_mul_right bytes hcap
    rw [Nat.mul_assoc] at this
    omega
  have hneed:¬ (((l.length+m:Nat):Int)>IntKind.i64.max∧((false=true)∨bytes=0)):=fun ⟨_,h⟩=>by
    rcases h with h | h
    · cases h
    · omega
  obtain ⟨old,hold',hCold⟩:=src_of_read (P:=P) ha hsz
  have hold:=hold'.run
  obtain ⟨ti,hti,hti1,hti2,hti3⟩:=T.typeInfo (w:=w)
  have hch2:∃ nc w1,(choose (.appendCap (l.length+m) c e)).run P w=.ok nc w1∧l.length+m≤nc∧nc<9223372036854775808∧w1.heap=w.heap∧Ext w w1:=by
    refine ⟨_,{ w with drawn:=w.drawn+1 },by simp [run_choose,Question.forced];rfl,by simp [Question.cut],?_,rfl,Ext.drew _ _⟩
    have h8:l.length+m<9223372036854775808:=by
      have:=Nat.le_mul_of_pos_right (l.length+m) hb0
      omega
    simp only [Question.cut]
    have:=Nat.mod_lt (w.tape w.drawn (.appendCap (l.length+m) c e)) (show 0<2 ^ 63-(l.length+m) by omega)
    omega
  obtain ⟨nc,w1,hnc,hge,h9,hw1,hE1⟩:=hch2
  have hold1:=hold w1 hw1
  have hnew1:=hs.run w1 hw1
  have hlen:(l++l2).length=l.length+m:=by simp [hm]
  refine ⟨some ⟨w1.heap.size,0,none⟩,nc,w1.alloc (.cells (old.toArray++cs.toArray++Builtin.zeroCells z.cells (nc-(l.length+m))) e),?_,hE1.trans (Ext.alloc _ _),?_⟩
  · obtain ⟨tj,htj,htj1,htj2,htj3⟩:=T.typeInfo (w:=w1)
    have hf:¬ (((l.length+m:Nat):Int)>IntKind.i64.max∧(False∨bytes=0)):=fun ⟨_,h⟩=>by
      rcases h with h | h
      · exact h
      · omega
    rw [hlen]
    simp only [Builtin.append_,ht,List.getElem?_toArray,List.getElem?_cons_zero,List.getElem?_cons_succ,Sem.run_bind,run_underlying hu,Result.andThen_ok,T.sizeOf,hxt,run_underlying hd,Sem.run_pure,hs.len,if_neg hroom,Bool.false_eq_true,if_false,Bool.not_false,if_true,
      hti,hti3,Sem.run_ite,if_neg hneed,if_neg hbig,hnc,htj,htj3,run_askRoom,hold1,hnew1,T.zero,newRow,run_newObj,if_neg hf]
    rfl
  · have S1:St w1 M F Γ:=S.heap hw1
    have hs2:(old.toArray++cs.toArray++Builtin.zeroCells z.cells (nc-(l.length+m))).size=nc*ρ.sz:=by
      simp only [Array.size_append,List.size_toArray,hCold.1,hcl,Builtin.zeroCells,Array.size_map,Array.size_range,hz]
      rw [← Nat.add_mul,← Nat.add_mul];congr 1;omega
    refine S1.row_new (l:=l++l2) _ nc (by rw [hlen];exact hge) hs2 ?_ h9
    have e1:(old.toArray++cs.toArray++Builtin.zeroCells z.cells (nc-(l.length+m))).toList.take ((l++l2).length*ρ.sz)=old++cs:=by
      simp only [Array.toList_append]
      rw [List.take_append_of_le_length (by simp [hCold.1,hcl,hlen,Nat.add_mul])]
      exact List.take_of_length_le (by simp [hCold.1,hcl,hlen,Nat.add_mul])
    rw [e1]
    exact hCold.append hC
theorem W_appendNew {rn:Rd} {P:Program} {N:Nat} {ops:Array Oper} {Q:Post} {rest:List Oper} {ρ:Rho} {w:World} {M F:Hp} {Γ:List Asr} {d:Nat} {x y:Operand} {u z:Value} {t e T:TypeId} {ps:String} {af:Array Edge} {bytes:Nat} {agg:Bool} {α:Type} {r:Rep α} {l l2:List α} {src:List Value} {m:Nat} {t':TypeId} {A:Option Addr} {c:Nat} (S:St w M F Γ) (ha:SlW r M (Hp.of w) (.slice A l.length c) l) (hx:evR ρ x=.slice A l.length c) (hy:evR ρ y=u)
    (hu:P.underlying t=some (.slice e)) (hu':P.underlying t'=some (.slice e)) (Ty:IsTy P e agg z r.sz bytes) (hz:z.cells.size=r.sz) (hsz:0<r.sz) (hb0:0<bytes)
    (hs:Src P r.sz w u m src) (hC:Cells r M l2 src) (hm:l2.length=m) (hlt:c<l.length+m) (hlim:(l.length+m)*bytes≤140737488355328) (hd:Nat.blt d N=true)
    (K:∀ (A':Option Addr) (c':Nat) w',Ext w w'→St w' M F (Row r e (.slice A' (l++l2).length c') (l++l2)::Γ)→Wl rn P N ops Q rest (upd ρ d (.slice A' (l++l2).length c')) w'):Wl rn P N ops Q (⟨some d,.call ⟨.builtin .append,#[x,y],#[t,t']⟩,T,ps,af,none⟩::rest) ρ w:=by
  obtain ⟨A',c',w',hr,hE,S'⟩:=run_appendNew (T':=T) (ts:=#[t,t']) S ha hu (by simpa using hu') rfl Ty hz hsz hs hC hm hlt hlim hb0
  refine Wl_val _ rfl rfl hd (w':=w') ?_ hE (K A' c' w' hE S')
  simp only [execOp,resolve,invoke,builtin,Sem.run_bind,Sem.run_pure,Result.andThen_ok,List.map_toArray,List.map_cons,List.map_nil,hx,hy,hr]
theorem rd_some {α:Type} [Inhabited α] {l:List α} {i:Int} (h0:0≤i) (h1:i<(l.length:Int)):l[i.toNat]?=some (rd l i):=by
  have hq:i.toNat<l.length:=by omega
  simp [rd,List.getD_eq_getElem?_getD,List.getElem?_eq_getElem hq]
end Go.Proofs.YtcngjjlhdlbogaaDoor
