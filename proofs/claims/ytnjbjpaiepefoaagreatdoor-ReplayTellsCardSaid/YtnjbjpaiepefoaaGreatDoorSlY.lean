import Derived.Test.YtnjbjpaiepefoaaGreatDoorSlX
namespace Go.Proofs.YtnjbjpaiepefoaaGreatDoor
open Go
set_option linter.unusedVariables false
set_option linter.unusedSimpArgs false
structure NR (α β:Type) where
  sz:Nat
  cells:α→Value→List Value
  get:α→List β
  ri:Rep β
  ti:TypeId
  len:∀ x v,(cells x v).length=sz
  one:∀ x v,v.oneCell'=true→∀ u∈cells x v,u.oneCell'=true
abbrev Hd:=Option Addr×Nat
namespace NR
variable {α β:Type} (N:NR α β)
def hval (p:α×Hd):Value:=.slice p.2.1 (N.get p.1).length p.2.2
def rep:Rep (α×Hd) where
  sz:=N.sz
  R:=fun _ p cs=>cs=N.cells p.1 (N.hval p)
  len:=fun h=>by subst h;exact N.len _ _
  one:=fun h=>by subst h;exact N.one _ _ rfl
  mono:=fun _ h=>h
def inn (l:List (α×Hd)):List Asr:=l.map fun p=>Row N.ri N.ti (N.hval p) (N.get p.1)
end NR
theorem Sats.insert {M:Hp}:∀ {Γ:List Asr} {i:Nat} {A:Asr} {B E:Hp},Γ[i]?=some A→A.sat M B→Sats M (Γ.eraseIdx i) E→B.disj E→Sats M Γ (B.union E)
  | [],_,_,_,_,hi,_,_,_=>by cases hi
  | X::Γ,0,A,B,E,hi,ha,hs,hd=>by
    cases hi
    exact ⟨B,E,hd,rfl,ha,hs⟩
  | X::Γ,i+1,A,B,E,hi,ha,⟨H,K,hg,e,hx,hs⟩,hd=>by
    subst e;have G:=Hp.disj_union.1 hd;have ih:=Sats.insert (Γ:=Γ) (i:=i) (by simpa using hi) ha hs G.2;refine ⟨H,B.union K,Hp.disj_union.2 ⟨Hp.disj_symm G.1,hg⟩,?_,hx,ih⟩;rw [← Hp.union_assoc,← Hp.union_assoc,Hp.union_comm G.1]
def Stk {α β:Type} (N:NR α β) (t:TypeId) (v:Value) (l:List α):Asr :=
  ⟨fun M g=>∃ hs:List Hd,hs.length=l.length∧∃ B E:Hp,B.disj E∧g=B.union E∧RowAt N.rep t M B v (l.zip hs)∧Sats M (N.inn (l.zip hs)) E,
   fun G ⟨hs,e,B,E,hd,H,hr,hi⟩=>⟨hs,e,B,E,hd,H,(Row N.rep t v (l.zip hs)).mono G hr,hi.mono G⟩⟩
def StkX {α β:Type} (N:NR α β) (t:TypeId) (v:Value) (l:List α) (k:Nat) (x:α) (h:Hd):Asr :=
  ⟨fun M g=>∃ hs:List Hd,hs.length=l.length∧l[k]?=some x∧hs[k]?=some h∧∃ B E:Hp,B.disj E∧g=B.union E∧RowAt N.rep t M B v (l.zip hs)∧Sats M ((N.inn (l.zip hs)).eraseIdx k) E,
   fun G ⟨hs,e,hx,hh,B,E,hd,H,hr,hi⟩=>⟨hs,e,hx,hh,B,E,hd,H,(Row N.rep t v (l.zip hs)).mono G hr,hi.mono G⟩⟩
section
variable {α β:Type} {N:NR α β} {t:TypeId} {v:Value} {l:List α} {w:World} {M F:Hp} {Γ:List Asr} {k:Nat} {x:α} {h:Hd}
theorem U7 {hs:List Hd} (hx:l[k]?=some x) (hh:hs[k]?=some h):(l.zip hs)[k]?=some (x,h):=by
  rw [List.getElem?_zip_eq_some];exact ⟨hx,hh⟩
theorem K1 {l:List (α×Hd)} {p:α×Hd} (h:l[k]?=some p):(N.inn l)[k]?=some (Row N.ri N.ti (N.hval p) (N.get p.1)):=by
  unfold NR.inn;rw [List.getElem?_map,h];rfl
theorem St.stk_nil (S:St w M F Γ) (N:NR α β) (t:TypeId):St w M F (Stk N t (.slice none 0 0) []::Γ):=by
  obtain ⟨g,hs,B,E,G,H,K,O⟩:=S.ex;exact ⟨g,⟨Hp.emp,g,Hp.emp_disj _,(Hp.emp_union _).symm,⟨[],rfl,Hp.emp,Hp.emp,Hp.emp_disj _,(Hp.emp_union _).symm,.inl ⟨rfl,rfl⟩,trivial⟩,hs⟩,B,E,G,H,K,O⟩
theorem U6 {hs:List Hd} (e:hs.length=l.length):(l.zip hs).length=l.length:=by simp [e]
theorem qr {γ:Type} {r:Rep γ} {M h:Hp} {v:Value} {l:List γ} (hr:RowAt r t M h v l):∃ A c,v=.slice A l.length c∧l.length≤c:=by
  rcases hr with ⟨rfl,rfl⟩ | ⟨b,cap,cs,rfl,B,_⟩
  · exact ⟨none,0,rfl,Nat.le_refl _⟩
  · exact ⟨_,_,rfl,B⟩
theorem St.stk_form (S:St w M F Γ) (i:Nat) (hi:Γ[i]?=some (Stk N t v l)):∃ A c,v=.slice A l.length c∧l.length≤c:=by
  obtain ⟨_,⟨hs,e,_,_,_,_,hr,_⟩,_,_⟩:=S.change i hi;obtain ⟨A,c,B,E⟩:=qr hr;rw [U6 e] at B E;exact ⟨A,c,B,E⟩
theorem St.stk_out (S:St w M F Γ) (i:Nat) (hi:Γ[i]?=some (Stk N t v l)) (hk:l[k]?=some x):∃ (A:Option Addr) (c:Nat),St w M F (Row N.ri N.ti (.slice A (N.get x).length c) (N.get x)::Γ.set i (StkX N t v l k x (A,c))):=by
  obtain ⟨q,hq,W,Y,Z,l1,l2,K⟩:=S.ex;obtain ⟨ga,gb,hd,e,⟨hs,O,H,g2,hg,e2,hr,hin⟩,_,hf⟩:=hq.focus i hi;subst e2;subst e;have hkl:k<hs.length:=by rw [O];exact (List.getElem?_eq_some_iff.1 hk).1
  have hh:hs[k]?=some hs[k]:=List.getElem?_eq_getElem hkl;obtain ⟨gr,go,G,e3,hrow,ho,_⟩:=hin.focus k (K1 (U7 hk hh));subst e3;have dg:=Hp.disj_union.1 hg;have dab:=Hp.union_disj.1 hd;have dgb:=Hp.union_disj.1 dab.2;refine ⟨hs[k].1,hs[k].2,gr.union ((H.union go).union gb),⟨gr,_,?_,rfl,hrow,hf M (StkX N t v l k x hs[k]) (H.union go) (Hp.le_refl _) (Hp.union_disj.2 ⟨dab.1,dgb.2⟩) ⟨hs,O,hk,hh,H,go,dg.2,rfl,hr,ho⟩⟩,W,?_,?_,l1,l2,?_⟩
  · exact Hp.disj_union.2 ⟨Hp.disj_union.2 ⟨Hp.disj_symm dg.1,G⟩,dgb.1⟩
  · have:=Hp.disj_union.1 Y;have B:=Hp.disj_union.1 this.1;have E:=Hp.disj_union.1 B.2;exact Hp.disj_union.2 ⟨E.1,Hp.disj_union.2 ⟨Hp.disj_union.2 ⟨B.1,E.2⟩,this.2⟩⟩
  · have:=Hp.disj_union.1 Z;have B:=Hp.disj_union.1 this.1;have E:=Hp.disj_union.1 B.2;exact Hp.disj_union.2 ⟨E.1,Hp.disj_union.2 ⟨Hp.disj_union.2 ⟨B.1,E.2⟩,this.2⟩⟩
  · have U:=Hp.le_trans (Hp.le_union_left _ _) K;have a2:=Hp.le_trans (Hp.le_union_right hd) K;have b1:=Hp.le_trans (Hp.le_union_left _ _) U;have V:=Hp.le_trans (Hp.le_union_right hg) U;exact Hp.union_le (Hp.le_trans (Hp.le_union_left _ _) V) (Hp.union_le (Hp.union_le b1 (Hp.le_trans (Hp.le_union_right G) V)) a2)
theorem St.stk_in (S:St w M F Γ) (i:Nat) (hi:Γ[i]?=some (StkX N t v l k x h)) (j:Nat) (hj:(Γ.eraseIdx i)[j]?=some (Row N.ri N.ti (.slice h.1 (N.get x).length h.2) (N.get x))):St w M F (Stk N t v l::((Γ.eraseIdx i).eraseIdx j)):=by
  refine S.sub fun {q} hq=>?_;obtain ⟨ga,gb,hd,e,⟨hs,Y,hk,hh,E,G,hg,Z,hr,hin⟩,B,_⟩:=hq.focus i hi;subst Z;subst e;obtain ⟨gr,go,O,e3,hrow,ho,_⟩:=B.focus j hj;subst e3;have dab:=Hp.union_disj.1 hd;have U:=Hp.disj_union.1 dab.1;have H:=Hp.disj_union.1 dab.2;have hins:=Sats.insert (K1 (N:=N) (U7 hk hh)) hrow hin (Hp.disj_symm H.1);refine ⟨(E.union (gr.union G)).union go,?_,_,go,?_,rfl,⟨hs,Y,E,gr.union G,Hp.disj_union.2 ⟨U.1,hg⟩,rfl,hr,hins⟩,ho⟩
  · intro b o hb;simp only [Hp.union] at hb ⊢
    cases V:E b with
    | some o1=>rw [V] at hb;exact hb
    | none =>
      rw [V] at hb;simp only at hb ⊢
      cases K:G b with
      | some o2 =>
        have:gr b=none:=by
          rcases H.1 b with h | h
          · rw [K] at h;cases h
          · exact h
        rw [this,K] at hb;exact hb
      | none =>
        cases W:gr b with
        | some o3=>rw [W] at hb;exact hb
        | none=>rw [W,K] at hb;exact hb
  · exact Hp.union_disj.2 ⟨U.2,Hp.union_disj.2 ⟨O,H.2⟩⟩
theorem Jv (S:St w M F Γ) (i:Nat) {A:Option Addr} {n c:Nat} (hi:Γ[i]?=some (StkX N t (.slice A n c) l k x h)) :
    ∃ b cs,A=some ⟨b,0,none⟩∧w.heap[b]?=some (.cells cs t (0,0))∧k<l.length∧n=l.length∧∀ (j:Nat) (u:Value),(N.cells x (N.hval (x,h)))[j]?=some u→cs[0+k*N.sz+j]?=some u:=by
  obtain ⟨ga,⟨hs,G,hk,hh,Y,Z,hg,H,hr,hin⟩,hle,_⟩:=S.change i hi;subst H;have hkl:=(List.getElem?_eq_some_iff.1 hk).1;have hz:=U6 G;rcases hr with ⟨_,h0⟩ | ⟨b,cap,cs,ev,h2,K,h4,O,h9⟩
  · rw [h0] at hz;simp at hz;omega
  · injection ev with U V e4
    refine ⟨b,cs,U,Hp.of_get (hle _ _ (Hp.le_union_left _ _ _ _ K)),hkl,by rw [V,hz],fun j u hu=>?_⟩;obtain ⟨vs,E,W⟩:=O.2 k (x,h) (U7 hk hh);have E:vs=N.cells x (N.hval (x,h)):=E;subst E;have B:=W j u hu;rw [List.getElem?_take] at B
    split at B
    · rw [Array.getElem?_toList] at B;rw [Nat.zero_add];exact B
    · cases B
theorem St.stkx_at (S:St w M F Γ) (i:Nat) {A:Option Addr} {n c:Nat} (hi:Γ[i]?=some (StkX N t (.slice A n c) l k x h)):∃ b,A=some ⟨b,0,none⟩:=by
  obtain ⟨b,_,e,_⟩:=Jv S i hi;exact ⟨b,e⟩
end
section
variable {rn:Rd} {P:Program} {N0:Nat} {ops:Array Oper} {Q:Post} {rest:List Oper} {ρ:Rho} {w:World} {M F:Hp} {Γ:List Asr} {d:Nat} {x y:Operand} {v u z:Value} {ty t e T:TypeId} {ps:String} {af:Array Edge} {b o n bytes:Nat} {agg:Bool} {dst:Option Tmp} {g:Option (Nat×Bool)}
variable {α β:Type} {N:NR α β} {l:List α} {k:Nat} {xe:α} {h:Hd}
theorem V7 (E:∃ B,M.le B∧St w B F Γ) (i:Nat) {A:Option Addr} {nn c:Nat} (hi:Γ[i]?=some (StkX N t (.slice A nn c) l k xe h)) (ee:A=some ⟨b,0,none⟩) (q:Nat) (hv:(N.cells xe (N.hval (xe,h)))[q]?=some v) (Ty:IsTy P ty false z 1 bytes)
    (hx:evR ρ x=.pointer (some ⟨b,0+k*N.sz+q,none⟩)):(execOp (evR ρ) ⟨dst,.load ty x,T,ps,af,g⟩).run P w=.ok (.value v) w:=by
  obtain ⟨B,_,S⟩:=E;obtain ⟨b',cs,e,hb,_,_,hc⟩:=Jv S i hi;rw [ee] at e;injection e with e;injection e with e _;subst e;exact YU hb Ty hx (hc q v hv)
theorem Jb {us:Array Value} (E:∃ B,M.le B∧St w B F Γ) (i:Nat) {A:Option Addr} {nn c:Nat} (hi:Γ[i]?=some (StkX N t (.slice A nn c) l k xe h)) (ee:A=some ⟨b,0,none⟩) (q:Nat) (hv:us.toList=((N.cells xe (N.hval (xe,h))).drop q).take us.size) (Ty:IsTy P ty true z n bytes)
    (hx:evR ρ x=.pointer (some ⟨b,0+k*N.sz+q,none⟩)) (hn:us.size=n) (hp:Nat.blt 0 n=true):(execOp (evR ρ) ⟨dst,.load ty x,T,ps,af,g⟩).run P w=.ok (.value (.agg us)) w:=by
  obtain ⟨B,_,S⟩:=E;obtain ⟨b',cs,e,hb,_,_,hc⟩:=Jv S i hi;rw [ee] at e;injection e with e;injection e with e _;subst e;exact Qf hb Ty hx (X6 hc q hv) hn hp
theorem Jk {α γ:Type}:∀ {l:List α} {m:List γ} {k:Nat} {a:α} {c:γ},(l.set k a).zip (m.set k c)=(l.zip m).set k (a,c)
  | [],m,k,a,c=>by simp
  | x::l,[],k,a,c=>by cases k<;>simp
  | x::l,y::m,0,a,c=>by simp
  | x::l,y::m,k+1,a,c=>by simp [Jk (l:=l) (m:=m)]
theorem JX {α:Type}:∀ {l:List α} {k:Nat} {a:α},(l.set k a).eraseIdx k=l.eraseIdx k
  | [],k,a=>by simp
  | x::l,0,a=>by simp
  | x::l,k+1,a=>by simp [JX (l:=l)]
theorem QBs (S:St w M F Γ) (i:Nat) {A:Option Addr} {nn c:Nat} (hi:Γ[i]?=some (StkX N t (.slice A nn c) l k xe h)) (ee:A=some ⟨b,0,none⟩) (off:Nat) (Ty:IsTy P ty agg z n bytes)
    (hx:evR ρ x=.pointer (some ⟨b,0+k*N.sz+off,none⟩)) (hy:evR ρ y=u) (us:List Value) (hu:u.cells.toList=us) (hn:us.length=n) (h1:us.all (·.oneCell')=true) (hl:Nat.ble (off+us.length) N.sz=true) (x':α) (B:Hd) (hnew:overL (N.cells xe (N.hval (xe,h))) off us=N.cells x' (N.hval (x',B))) {l':List α} (hl':l.set k x'=l')
    (K:∀ w',Ext w w'→St w' M F (Γ.set i (StkX N t (.slice A nn c) l' k x' B))→Wl rn P N0 ops Q rest ρ w'):Wl rn P N0 ops Q (⟨none,.store ty x y,T,ps,af,none⟩::rest) ρ w:=by
  subst hu hl';have G:∀ c∈u.cells.toList,c.oneCell'=true:=fun c hc=>List.all_eq_true.1 h1 c hc;obtain ⟨q,hq,d1,d2,d3,l1,l2,l3⟩:=S.ex;obtain ⟨ga,gb,hd,e,⟨hs,he,hk,hh,g1,E,hg,e2,hr,hin⟩,_,hf⟩:=hq.focus i hi;subst e2;subst e;have H:=Hp.disj_union.1 d2;have O:=Hp.disj_union.1 d3;have dM:=Hp.disj_union.1 H.1;have dF:=Hp.disj_union.1 O.1;have db:=Hp.union_disj.1 hd;have lga:=Hp.le_trans (Hp.le_union_left _ _) l3;have lgb:=Hp.le_trans (Hp.le_union_right hd) l3
  have S0:St w M ((F.union E).union gb) [Row N.rep t (.slice A nn c) (l.zip hs)]:=⟨g1,⟨g1,Hp.emp,Hp.disj_emp _,(Hp.union_emp _).symm,hr,trivial⟩,
    Hp.disj_union.2 ⟨Hp.disj_union.2 ⟨d1,dM.2⟩,H.2⟩,dM.1,Hp.union_disj.2 ⟨Hp.union_disj.2 ⟨dF.1,Hp.disj_symm hg⟩,Hp.disj_symm db.1⟩,l1,Hp.union_le (Hp.union_le l2 (Hp.le_trans (Hp.le_union_right hg) lga)) lgb,Hp.le_trans (Hp.le_union_left _ _) lga⟩
  have hz:=U7 hk hh
  obtain ⟨cs,hb,ho,hfit,_⟩:=S0.row_set (w':=w) (x':=(x',B)) 0 rfl rfl ee k off _ hz u.cells.toList (Nat.le_of_ble_eq_true hl) G (fun cs hcs=>by
    have hcs:cs=N.cells xe (N.hval (xe,h)):=hcs;subst hcs;exact hnew)
  obtain ⟨w',hrun,hb',hoth,hE⟩:=Uf (P:=P) (off:=0+k*N.sz+off) Ty hb (v:=u) (by simpa using hn) G (by rw [← hn];exact hfit)
  obtain ⟨ao,W,_,_,hS⟩:=S0.row_set (w':=w') (x':=(x',B)) 0 rfl rfl ee k off _ hz u.cells.toList (Nat.le_of_ble_eq_true hl) G (fun cs hcs=>by
    have hcs:cs=N.cells xe (N.hval (xe,h)):=hcs;subst hcs;exact hnew)
  rw [hb] at W;cases W;have S1:=hS hb' hoth;refine JK rfl rfl (w':=w') ?_ hE (K w' hE ?_)
  · simp only [execOp,Instr.storeAt,Instr.sureAddr,hx,hy,Sem.run_bind,Sem.run_pure,Result.andThen_ok,hrun]
  · obtain ⟨q',⟨U,r2,hd',e',hrow',_⟩,k1,k2,k3,k4,k5,k6⟩:=S1.ex;subst e';have a7:=Hp.disj_union.1 k1;have ap:=Hp.disj_union.1 a7.1;have a8:=Hp.disj_union.1 k2;have Y:=Hp.union_disj.1 k3;have Z:=Hp.union_disj.1 Y.1;have kF:=Hp.disj_union.1 Z.1;have kg:=Hp.disj_union.1 Z.2;have kb:=Hp.disj_union.1 Y.2;have dFg:(F.union E).disj gb:=Hp.union_disj.2 ⟨O.2,db.2⟩;have lF:F.le (Hp.of w'):=Hp.le_trans (Hp.le_trans (Hp.le_union_left F E) (Hp.le_union_left _ gb)) k5;have a9:E.le (Hp.of w'):=Hp.le_trans (Hp.le_trans (Hp.le_union_right dF.2) (Hp.le_union_left _ gb)) k5;have lb:gb.le (Hp.of w'):=Hp.le_trans (Hp.le_union_right dFg) k5;have hkl:=(List.getElem?_eq_some_iff.1 hk).1;have hkh:k<hs.length:=by rw [he];exact hkl
    have V:RowAt N.rep t M U (.slice A nn c) ((l.set k x').zip (hs.set k B)):=by rw [Jk];exact hrow'
    have a1:Sats M ((N.inn ((l.set k x').zip (hs.set k B))).eraseIdx k) E:=by
      have e3:(N.inn ((l.set k x').zip (hs.set k B))).eraseIdx k=(N.inn (l.zip hs)).eraseIdx k:=by
        rw [Jk];unfold NR.inn;rw [List.map_set,JX]
      rw [e3];exact hin
    refine ⟨(U.union E).union gb,hf M (StkX N t (.slice A nn c) (l.set k x') k x' B) (U.union E) (Hp.le_refl _) (Hp.union_disj.2 ⟨Hp.disj_symm kb.1,db.2⟩) ⟨hs.set k B,by simp [he],by rw [List.getElem?_set_self hkl],by rw [List.getElem?_set_self hkh],U,E,Hp.disj_symm kg.1,rfl,V,a1⟩,d1,?_,?_,k4,lF,?_⟩
    · exact Hp.disj_union.2 ⟨Hp.disj_union.2 ⟨a8.1,dM.2⟩,H.2⟩
    · exact Hp.disj_union.2 ⟨Hp.disj_union.2 ⟨kF.1,dF.2⟩,O.2⟩
    · exact Hp.union_le (Hp.union_le (Hp.le_trans (Hp.le_union_left _ _) k6) a9) lb
theorem St.stk_oneR (S:St w M F Γ) (i:Nat) {cs:Array Value} (hi:Γ[i]?=some (Blk b (.cells cs t (0,0)))) (xe:α) (j:Nat) {A:Option Addr} {c:Nat} (hj:(Γ.eraseIdx i)[j]?=some (Row N.ri N.ti (.slice A (N.get xe).length c) (N.get xe))) (hc:cs.toList=N.cells xe (.slice A (N.get xe).length c)):St w M F (Stk N t (.slice (some ⟨b,0,none⟩) 1 1) [xe]::((Γ.eraseIdx i).eraseIdx j)):=by
  refine S.sub fun {q} hq=>?_;obtain ⟨ga,gb,hd,e,ha,B,_⟩:=hq.focus i hi;subst e;obtain ⟨gr,go,E,G,hrow,ho,_⟩:=B.focus j hj;subst G;have hl:=N.len xe (.slice A (N.get xe).length c);have hcl:cs.size=N.sz:=by rw [← hl,← hc];simp
  have H:(N.rep).R M (xe,((A,c):Hd)) cs.toList:=hc;have K:=Cells.one H;have O:cs.toList.take ([(xe,((A,c):Hd))].length*N.rep.sz)=cs.toList:=List.take_of_length_le (by simp [hcl,NR.rep]);have U:Cells N.rep M [(xe,((A,c):Hd))] (cs.toList.take ([(xe,((A,c):Hd))].length*N.rep.sz)):=by rw [O];exact K
  have d:=Hp.disj_union.1 hd;refine ⟨(ga.union gr).union go,?_,_,go,?_,rfl,⟨[(A,c)],rfl,ga,gr,d.1,rfl,.inr ⟨b,1,cs,rfl,Nat.le_refl _,ha,by rw [Nat.one_mul];exact hcl,U,by decide⟩,⟨gr,Hp.emp,Hp.disj_emp _,(Hp.union_emp _).symm,hrow,trivial⟩⟩,ho⟩
  · intro b o hb;rw [Hp.union_assoc] at hb;exact hb
  · exact Hp.union_disj.2 ⟨d.2,E⟩
theorem QAB {xo x':α} {ho:Hd} {k:Nat} (hcells:N.cells x' (N.hval (x',ho))=N.cells xo (N.hval (xo,ho))) {L:List (α×Hd)} {cs:List Value} (hk:L[k]?=some (xo,ho)) (hc:Cells N.rep M L cs):Cells N.rep M (L.set k (x',ho)) cs:=by
  refine ⟨by rw [List.length_set];exact hc.1,fun i y hy=>?_⟩;rw [List.getElem?_set] at hy
  by_cases q:k=i
  · subst q;rw [if_pos rfl] at hy;obtain ⟨vs,B,E⟩:=hc.2 k _ hk;have B:vs=N.cells xo (N.hval (xo,ho)):=B
    split at hy
    · cases hy
      exact ⟨vs,by show vs=N.cells x' (N.hval (x',ho));rw [hcells];exact B,E⟩
    · cases hy
  · rw [if_neg q] at hy;exact hc.2 i y hy
theorem St.stk_inL (S:St w M F Γ) (i:Nat) (hi:Γ[i]?=some (StkX N t v l k xe h)) (x':α) (j:Nat) (hj:(Γ.eraseIdx i)[j]?=some (Row N.ri N.ti (.slice h.1 (N.get xe).length h.2) (N.get x'))) (hcells:∀ u,N.cells x' u=N.cells xe u) (hlen:(N.get x').length=(N.get xe).length):St w M F (Stk N t v (l.set k x')::((Γ.eraseIdx i).eraseIdx j)):=by
  rw [← hlen] at hj;refine S.sub fun {q} hq=>?_;obtain ⟨ga,gb,hd,e,⟨hs,he,hk,hh,B,E,hg,e2,hr,hin⟩,G,_⟩:=hq.focus i hi;subst e2;subst e;obtain ⟨gr,go,U,e3,hrow,ho,_⟩:=G.focus j hj;subst e3;have dab:=Hp.union_disj.1 hd;have V:=Hp.disj_union.1 dab.1;have H:=Hp.disj_union.1 dab.2;have hv:N.hval (x',h)=N.hval (xe,h):=by unfold NR.hval;simp only;rw [hlen]
  have hz:=U7 hk hh
  have hhs:hs.set k h=hs:=by
    refine List.ext_getElem? fun n=>?_;rw [List.getElem?_set]
    split
    · rename_i q;subst q
      split
      · exact hh.symm
      · rename_i q;rw [List.getElem?_eq_none (by omega)]
    · rfl
  have ez:(l.set k x').zip hs=(l.zip hs).set k (x',h):=by rw [← Jk,hhs]
  have hr':RowAt N.rep t M B v ((l.set k x').zip hs):=by
    rw [ez];rcases hr with ⟨W,K⟩ | ⟨b,cap,cs,W,K,r3,r4,r5,r6⟩
    · rw [K] at hz;cases hz
    · refine .inr ⟨b,cap,cs,by rw [List.length_set];exact W,by rw [List.length_set];exact K,r3,r4,?_,r6⟩;rw [List.length_set];exact QAB (by rw [hv];exact hcells _) hz r5
  have hz':((l.set k x').zip hs)[k]?=some (x',h):=by
    have:k<(l.zip hs).length:=by
      rcases Nat.lt_or_ge k (l.zip hs).length with c | c
      · exact c
      · rw [List.getElem?_eq_none c] at hz;cases hz
    rw [ez,List.getElem?_set,if_pos rfl,if_pos this]
  have hin':Sats M ((N.inn ((l.set k x').zip hs)).eraseIdx k) E:=by
    have:(N.inn ((l.set k x').zip hs)).eraseIdx k=(N.inn (l.zip hs)).eraseIdx k:=by
      rw [ez];unfold NR.inn;rw [List.map_set,JX]
    rw [this];exact hin
  have hins:=Sats.insert (K1 (N:=N) hz') hrow hin' (Hp.disj_symm H.1);refine ⟨(B.union (gr.union E)).union go,?_,_,go,?_,rfl,⟨hs,by rw [List.length_set];exact he,B,gr.union E,Hp.disj_union.2 ⟨V.1,hg⟩,rfl,hr',hins⟩,ho⟩
  · intro b o hb;simp only [Hp.union] at hb ⊢
    cases Y:B b with
    | some o1=>rw [Y] at hb;exact hb
    | none =>
      rw [Y] at hb;simp only at hb ⊢
      cases O:E b with
      | some o2 =>
        have:gr b=none:=by
          rcases H.1 b with h | h
          · rw [O] at h;cases h
          · exact h
        rw [this,O] at hb;exact hb
      | none =>
        cases Z:gr b with
        | some o3=>rw [Z] at hb;exact hb
        | none=>rw [Z,O] at hb;exact hb
  · exact Hp.union_disj.2 ⟨V.2,Hp.union_disj.2 ⟨U,H.2⟩⟩
theorem qg {l2:List α} {t':TypeId} (S:St w M F (Stk N e u l2::Γ)) (i:Nat) (hi:Γ[i]?=some (Stk N e v l)) (hx:evR ρ x=v) (hy:evR ρ y=u)
    (hu:P.underlying t=some (.slice e)) (hu':P.underlying t'=some (.slice e)) (Ty:IsTy P e agg z N.sz bytes) (hz:z.cells.size=N.sz) (hsz:0<N.sz) (ag:0<bytes)
    (hlim:(l.length+l2.length)*bytes≤140737488355328) (hd:Nat.blt d N0=true)
    (K:∀ v' w',Ext w w'→St w' M F (Γ.set i (Stk N e v' (l++l2)))→Wl rn P N0 ops Q rest (upd ρ d v') w'):Wl rn P N0 ops Q (⟨some d,.call ⟨.builtin .append,#[x,y],#[t,t']⟩,T,ps,af,none⟩::rest) ρ w:=by
  obtain ⟨q,⟨ga,gb,a0,e1,⟨E,O,b1,H,a9,e2,Y,aa⟩,hs⟩,d1,d2,d3,l1,ai,l3⟩:=S.ex;subst e2;subst e1;obtain ⟨gc,gd,hcd,e3,⟨G,U,a1,B,V,e4,hrow,ab⟩,hr,hf⟩:=hs.focus i hi;subst e4;subst e3;have a3:=Hp.disj_union.1 d2;have a4:=Hp.disj_union.1 d3;have dMb:=Hp.disj_union.1 a3.1;have dFb:=Hp.disj_union.1 a4.1;have dMc:=Hp.disj_union.1 a3.2;have dFc:=Hp.disj_union.1 a4.2;have dM:=Hp.disj_union.1 dMc.1;have dF:=Hp.disj_union.1 dFc.1;have dac:=Hp.disj_union.1 a0;have dbc:=Hp.union_disj.1 dac.1;have b9:=Hp.disj_union.1 dbc.1;have W:=Hp.disj_union.1 dbc.2;have dbd:=Hp.union_disj.1 dac.2;have dcd:=Hp.union_disj.1 hcd;have lga:=Hp.le_trans (Hp.le_union_left _ _) l3;have lgb:=Hp.le_trans (Hp.le_union_right a0) l3;have lc:=Hp.le_trans (Hp.le_union_left _ _) lgb;have lgd:=Hp.le_trans (Hp.le_union_right hcd) lgb;have al:=Hp.le_trans (Hp.le_union_right a9) lga;have am:=Hp.le_trans (Hp.le_union_right V) lc
  have S1:St w M (((F.union gd).union B).union H) [Row N.rep e v (l.zip G)]:=⟨a1,⟨a1,Hp.emp,Hp.disj_emp _,(Hp.union_emp _).symm,hrow,trivial⟩,
    Hp.disj_union.2 ⟨Hp.disj_union.2 ⟨Hp.disj_union.2 ⟨d1,dMc.2⟩,dM.2⟩,dMb.2⟩,dM.1,
    Hp.union_disj.2 ⟨Hp.union_disj.2 ⟨Hp.union_disj.2 ⟨dF.1,Hp.disj_symm dcd.1⟩,Hp.disj_symm V⟩,W.1⟩,
    l1,Hp.union_le (Hp.union_le (Hp.union_le ai lgd) am) al,Hp.le_trans (Hp.le_union_left _ _) lc⟩
  have an:SlW N.rep M (Hp.of w) u (l2.zip E):=RowAt.read Y (Hp.le_trans (Hp.le_union_left _ _) lga);obtain ⟨cs,hsrc,hC⟩:=Yt (P:=P) an hsz;rw [U6 O] at hsrc;obtain ⟨v',w',hrun,hE,S'⟩:=J1 (T':=T) (ts:=#[t,t']) S1 0 rfl hu (.inl (by simpa using hu')) rfl Ty hz hsz hsrc hC (U6 O) (by rw [U6 U];exact hlim) ag;refine UC v' rfl rfl hd (w':=w') ?_ hE (K v' w' hE ?_)
  · simp only [execOp,resolve,invoke,builtin,Sem.run_bind,Sem.run_pure,Result.andThen_ok,List.map_toArray,List.map_cons,List.map_nil,hx,hy,hrun]
  · obtain ⟨q',⟨g1,g2,hd',e',hrow',_⟩,k1,k2,k3,k4,k5,k6⟩:=S'.ex;subst e';have ap:=Hp.disj_union.1 k2;have a5:=Hp.union_disj.1 k3;have a6:=Hp.union_disj.1 a5.1;have a7:=Hp.union_disj.1 a6.1;have kF:=Hp.disj_union.1 a7.1;have kd:=Hp.disj_union.1 a7.2;have ka:=Hp.disj_union.1 a6.2;have kb:=Hp.disj_union.1 a5.2;have x1:F.disj gd:=dFc.2;have x2:(F.union gd).disj B:=Hp.union_disj.2 ⟨dF.2,Hp.disj_symm dcd.2⟩;have x3:((F.union gd).union B).disj H:=Hp.union_disj.2 ⟨Hp.union_disj.2 ⟨dFb.2,Hp.disj_symm dbd.2⟩,Hp.disj_symm W.2⟩;have m3:=Hp.le_trans (Hp.le_union_left ((F.union gd).union B) H) k5;have m2:=Hp.le_trans (Hp.le_union_left (F.union gd) B) m3;have lF:F.le (Hp.of w'):=Hp.le_trans (Hp.le_union_left F gd) m2;have lgd':gd.le (Hp.of w'):=Hp.le_trans (Hp.le_union_right x1) m2;have la':B.le (Hp.of w'):=Hp.le_trans (Hp.le_union_right x2) m3;have lb':H.le (Hp.of w'):=Hp.le_trans (Hp.le_union_right x3) k5;have ad:B.disj H:=Hp.disj_symm W.2;have a8:(l.zip G)++(l2.zip E)=(l++l2).zip (G++E):=(List.zip_append U.symm).symm
    have ae:Sats M (N.inn ((l++l2).zip (G++E))) (B.union H):=by
      rw [← a8];unfold NR.inn;rw [List.map_append];exact Sats.append ad ab aa
    have Z:RowAt N.rep e M g1 v' ((l++l2).zip (G++E)):=by rw [← a8];exact hrow'
    refine ⟨_,hf M (Stk N e v' (l++l2)) (g1.union (B.union H)) (Hp.le_refl _) (Hp.union_disj.2 ⟨Hp.disj_symm kd.1,Hp.union_disj.2 ⟨dcd.2,dbd.2⟩⟩) ⟨G++E,by simp [U,O],g1,B.union H,Hp.disj_union.2 ⟨Hp.disj_symm ka.1,Hp.disj_symm kb.1⟩,rfl,Z,ae⟩,d1,?_,?_,k4,lF,?_⟩
    · exact Hp.disj_union.2 ⟨Hp.disj_union.2 ⟨ap.1,Hp.disj_union.2 ⟨dM.2,dMb.2⟩⟩,dMc.2⟩
    · exact Hp.disj_union.2 ⟨Hp.disj_union.2 ⟨kF.1,Hp.disj_union.2 ⟨dF.2,dFb.2⟩⟩,dFc.2⟩
    · exact Hp.union_le (Hp.union_le (Hp.le_trans (Hp.le_union_left _ _) k6) (Hp.union_le la' lb')) lgd'
end
theorem Jl {α:Type} [Inhabited α] {l:List α} {i:Int} (h0:0≤i) (B:i<(l.length:Int)):l[i.toNat]?=some (rd l i):=by
  have hq:i.toNat<l.length:=by omega
  simp [rd,List.getD_eq_getElem?_getD,List.getElem?_eq_getElem hq]
end Go.Proofs.YtnjbjpaiepefoaaGreatDoor
