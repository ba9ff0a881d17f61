import Derived.Test.YtnjbjpaiepefoaaGreatDoorSlG
import Derived.Laws.BytesString
import Derived.Laws.MakeOwn
namespace Go.Proofs.YtnjbjpaiepefoaaGreatDoor
open Go
set_option linter.unusedVariables false
set_option linter.unusedSimpArgs false
def placesOf (P:Program):List Field→Option (List (Nat×Nat))
 | []=>some []
 | f::l=>match P.info? f.type with
  | none=>none
  | some i=>match placesOf P l with
   | none=>none
   | some r=>some ((f.offset,i.size)::r)
theorem Jx {P:Program} {w:World}:∀ (fs:List Field) (l:List (Nat×Nat)),placesOf P fs=some l→(fs.mapM (fun f=>do pure (f.offset,← sizeOf f.type)):Sem _).run P w=.ok l w
 | [],l,h=>by cases h;rfl
 | f::fs,l,h=>by
  unfold placesOf at h
  cases hi:P.info? f.type with
  | none=>rw [hi] at h;cases h
  | some i =>
   rw [hi] at h
   cases hr:placesOf P fs with
   | none=>rw [hr] at h;cases h
   | some r =>
    rw [hr] at h;cases h;have ih:=Jx (P:=P) (w:=w) fs r hr;have hs:(sizeOf f.type).run P w=.ok i.size w:=by simp [sizeOf,typeInfo,hi]
    simp only [List.mapM_cons,Sem.run_bind,hs,Sem.run_pure,Result.andThen_ok,ih]
section
variable {P:Program} {ρ:Rho} {w:World} {T t:TypeId} {ps:String} {af:Array Edge} {agg:Bool} {z:Value} {n bytes:Nat}
theorem QBD {parts:List (Nat×Operand)} {fs:Array Field} {pl:List (Nat×Nat)} {ps':List (Nat×Value)} {g:Option (Nat×Bool)} (cs:Array Value) (hu:P.underlying t=some (.struct fs)) (Ty:IsTy P t agg z n bytes) (hm:placesOf P fs.toList=some pl) (hp:parts.map (fun (i,x)=>(i,evR ρ x))=ps')
  (hf:Instr.fill (pl.toArray[·]?) z.cells ps'=some cs) {dst:Option Tmp}:(execOp (evR ρ) ⟨dst,.build t parts.toArray,T,ps,af,g⟩).run P w=.ok (.value (.agg cs)) w:=by
 refine QB1 cs hu Ty ?_ hp hf;have h:=Jx (P:=P) (w:=w) fs.toList pl hm
 have e:(fs.mapM (fun f=>do pure (f.offset,← sizeOf f.type)):Sem (Array (Nat×Nat)))=(List.toArray <$> fs.toList.mapM (fun f=>do pure (f.offset,← sizeOf f.type))):=by
  cases fs;simp
 rw [e,Sem.run_map,h];rfl
end
section
variable {P:Program} {w:World} {t e:TypeId} {a:Addr}
theorem JD (hu:P.underlying t=some (.pointer e)):(Op.equal t (.pointer none) (.pointer none)).run P w=.ok true w:=by
 have h:∀ d,(Op.equalIn (d+1) t (.pointer none) (.pointer none)).run P w=.ok true w:=fun d=>by simp only [Op.equalIn,Sem.run_bind,run_underlying hu,Result.andThen_ok,Sem.run_pure,Option.isNone_none]
 exact h 9999
theorem Vi (hu:P.underlying t=some (.pointer e)):(Op.equal t (.pointer (some a)) (.pointer none)).run P w=.ok false w:=by
 have h:∀ d,(Op.equalIn (d+1) t (.pointer (some a)) (.pointer none)).run P w=.ok false w:=fun d=>by simp only [Op.equalIn,Sem.run_bind,run_underlying hu,Result.andThen_ok,Sem.run_pure]
 exact h 9999
end
section
variable {P:Program} {ρ:Rho} {w:World} {c x y:Operand} {dst:Option Tmp} {T:TypeId} {ps:String} {af:Array Edge} {g:Option (Nat×Bool)} {k a b:Bool}
end
theorem Jf (z:Array Value) (n m:Nat) (hz:z.size=m) (hm:0<m):(madeCells z (n*m)).toList=(List.replicate n z.toList).flatten:=by
 induction n with
 | zero=>simp [madeCells,Array.range_zero']
 | succ n ih =>
  have e:(madeCells z ((n+1)*m)).toList=(madeCells z (n*m)).toList++z.toList:=by
   apply List.ext_getElem?
   intro i
   have hsz:∀ q,(madeCells z q).toList[i]?=if i<q then some (z[i % z.size]!) else none:=by
    intro q;simp only [madeCells,Array.toList_map,List.getElem?_map,Array.getElem?_toList,Array.getElem?_range]
    split
    ·rfl
    ·rfl
   have hlen:∀ q,(madeCells z q).toList.length=q:=by intro q;simp [madeCells]
   rw [List.getElem?_append,hlen,hsz,hsz,Nat.succ_mul]
   by_cases B:i<n*m
   ·rw [if_pos B,if_pos (by omega),if_pos B]
   ·rw [if_neg B]
    by_cases E:i<n*m+m
    ·rw [if_pos E,hz]
     have G:i % m=i-n*m:=by
      have:i=(i-n*m)+n*m:=by omega
      rw [this,Nat.add_mul_mod_self_right,Nat.mod_eq_of_lt (by omega)];omega
     rw [G,Array.getElem?_toList,getElem!_pos z (i-n*m) (by omega),Array.getElem?_eq_getElem (by omega)]
    ·rw [if_neg E,List.getElem?_eq_none (by simp;omega)]
  rw [e,ih,List.replicate_succ'];simp
theorem UH {α:Type} {r:Rep α} {M:Hp} {x:α} {vs:List Value} (h:r.R M x vs):∀ n:Nat,Cells r M (List.replicate n x) (List.replicate n vs).flatten
 | 0=>by simpa using (Cells.nil (ρ:=r) (M:=M))
 | n+1=>by simpa [List.replicate_succ] using Cells.cons h (UH h n)
section
variable {rn:Rd} {P:Program} {N:Nat} {ops:Array Oper} {Q:Post} {rest:List Oper} {ρ:Rho} {w:World} {M F:Hp} {Γ Γ2:List Asr} {d:Nat} {x y:Operand} {t e T ty:TypeId} {ps:String} {af:Array Edge} {bytes b o n:Nat} {agg:Bool} {z v u:Value}
theorem QAG {α:Type} {r:Rep α} {kl kc:IntKind} {l c:Int} (S:St w M F Γ) (B:α) (hu:P.underlying t=some (.slice e)) (Ty:IsTy P e agg z r.sz bytes) (hz:z.cells.size=r.sz) (hsz:0<r.sz) (hR:∀ M,r.R M B z.cells.toList) (hx:evR ρ x=.int kl l) (hy:evR ρ y=.int kc c)
  (h0:0≤l) (O:l≤c) (W:c*bytes≤140737488355328) (U:c≤9223372036854775807) (hd:Nat.blt d N=true)
  (K:∀ b w',Ext w w'→St w' M F (Row r e (.slice (some ⟨b,0,none⟩) (List.replicate l.toNat B).length c.toNat) (List.replicate l.toNat B)::Γ)→Wl rn P N ops Q rest (upd ρ d (.slice (some ⟨b,0,none⟩) (List.replicate l.toNat B).length c.toNat)) w'):Wl rn P N ops Q (⟨some d,.makeSlice t x y,T,ps,af,none⟩::rest) ρ w:=by
 obtain ⟨i,hi,G,E,H⟩:=Ty.get;have hb:(i.bytes:Int)*c≤281474976710656:=by rw [H,Int.mul_comm];omega
 have hr:=run_make (P:=P) w t e i z hu hi G kl kc l c h0 O hb U
 have hS:St (w.alloc (.cells (madeCells z.cells (c.toNat*i.size)) e)) M F (Row r e (.slice (some ⟨w.heap.size,0,none⟩) (List.replicate l.toNat B).length c.toNat) (List.replicate l.toNat B)::Γ):=by
  refine S.row_new (madeCells z.cells (c.toNat*i.size)) c.toNat (by simp;omega) (by rw [E];simp [madeCells]) ?_ (by omega);rw [E,Jf z.cells c.toNat r.sz hz hsz];have V:c.toNat=l.toNat+(c.toNat-l.toNat):=by omega
  rw [V,show List.replicate (l.toNat+(c.toNat-l.toNat)) z.cells.toList=List.replicate l.toNat z.cells.toList++List.replicate (c.toNat-l.toNat) z.cells.toList from by simp [List.replicate_append_replicate],List.flatten_append];have hc:=UH (hR M) l.toNat;rw [← hc.1,List.take_left' rfl];exact hc
 refine UC _ rfl rfl hd (w':=w.alloc (.cells (madeCells z.cells (c.toNat*i.size)) e)) ?_ (Ext.alloc _ _) (K _ _ (Ext.alloc _ _) hS);simp only [execOp,Sem.run_bind,hx,hy,hr,Result.andThen_ok,Sem.run_pure,List.length_replicate]
theorem Sats.row {α:Type} {r:Rep α} {M h:Hp} {Δ:List Asr} {t:TypeId} {v:Value} {l:List α} (hs:Sats M Δ h) (hd:M.disj h) (i:Nat) (hi:Δ[i]?=some (Row r t v l)):SlR r (M.union h) v l:=by
 obtain ⟨B,E,_,e,ha,_⟩:=hs.focus i hi;subst e;exact SlW.mono (RowAt.read ha (Hp.le_union_left B E)) (Hp.le_union_left M _) (Hp.le_union_right hd)
section
variable {rn:Rd} {P:Program} {N:Nat} {ops:Array Oper} {Q:Post} {rest:List Oper} {ρ:Rho} {w:World} {M F:Hp} {Δ Γ2:List Asr} {d:Nat} {T:TypeId} {ps:String} {af:Array Edge}
theorem Con.lent {f:FuncId} {args:Array Value} {Φ:Value→Hp→List Asr→Prop} (C:∀ h,Sats M Δ h→M.disj h→Con P f args (M.union h) [] Φ) (fl:∀ v M' B,Φ v M' B→FlatG B) (S:St w M F (Δ++Γ2)) :
  Calls P f args w fun e w'=>∃ v,e=.returned v∧∃ M' B,Ext w w'∧St w' M F (B++(Δ++Γ2))∧Φ v M' B:=by
 obtain ⟨q,hq,U,V,W,l1,l2,Y⟩:=S.ex;obtain ⟨h,g,hd,e,H,Z⟩:=hq.split;subst e;have E:=Hp.disj_union.1 V;have K:=Hp.disj_union.1 W;have hhw:h.le (Hp.of w):=Hp.le_trans (Hp.le_union_left _ _) Y;have hgw:g.le (Hp.of w):=Hp.le_trans (Hp.le_union_right hd) Y;have S1:St w (M.union h) (F.union g) []:=⟨Hp.emp,trivial,Hp.union_disj.2 ⟨Hp.disj_union.2 ⟨U,E.2⟩,Hp.disj_union.2 ⟨Hp.disj_symm K.1,hd⟩⟩,Hp.disj_emp _,Hp.disj_emp _,Hp.union_le l1 hhw,Hp.union_le l2 hgw,fun _ _ h=>by cases h⟩;refine Calls.mono (C h H E.1 w _ S1) ?_;rintro e w' ⟨v,he,M',B,G,hE,S',hΦ⟩;refine ⟨v,he,M',B,hE,?_,hΦ⟩;obtain ⟨k,hk,k1,k2,k3,k4,k5,k6⟩:=S'.ex;have low:∀ {x y z:Hp},x.disj y→z.le x→z.disj y:=fun hx hz=>Hp.disj_symm (Hp.disj_le (Hp.disj_symm hx) hz);have O:=Hp.union_disj.1 k3;have hMk:M.disj k:=low k2 (Hp.le_trans (Hp.le_union_left _ _) G);have hhk:h.disj k:=low k2 (Hp.le_trans (Hp.le_union_right E.1) G);have hall:Sats M (Δ++Γ2) (h.union g):=Sats.append hd H Z;refine ⟨k.union (h.union g),Sats.append (Hp.disj_union.2 ⟨Hp.disj_symm hhk,Hp.disj_symm O.2⟩) (fl _ _ _ hΦ _ _ _ hk) hall,U,Hp.disj_union.2 ⟨hMk,V⟩,Hp.disj_union.2 ⟨O.1,W⟩,Hp.le_trans (Hp.le_trans (Hp.le_union_left _ _) G) k4,Hp.le_trans (Hp.le_union_left _ _) k5,Hp.union_le k6 (Hp.union_le (Hp.le_trans (Hp.le_trans (Hp.le_union_right E.1) G) k4) (Hp.le_trans (Hp.le_union_right (Hp.disj_symm (Hp.disj_symm K.2))) k5))⟩
theorem QCd {f:FuncId} {as:List Operand} {ts:Array TypeId} {args:List Value} {Φ:Value→Hp→List Asr→Prop} (Fn:IsFn P f) (C:∀ h,Sats M Δ h→M.disj h→Con P f args.toArray (M.union h) [] Φ) (S:St w M F (Δ++Γ2)) (ha:as.map (evR ρ)=args) (hd:Nat.blt d N=true) (fl:∀ v M' B,Φ v M' B→FlatG B)
  (K:∀ v w' M' B,Ext w w'→St w' M F (B++(Δ++Γ2))→Φ v M' B→Wl rn P N ops Q rest (upd ρ d v) w'):Wl rn P N ops Q (⟨some d,.call ⟨.value (.func f),as.toArray,ts⟩,T,ps,af,none⟩::rest) ρ w:=by
 subst ha;obtain ⟨fn,hf,hb,hn⟩:=Fn.ex;refine UI (R:=fun v w'=>∃ M' B,Ext w w'∧St w' M F (B++(Δ++Γ2))∧Φ v M' B) rfl (JQ hf hb hn) (fun _ _ ⟨_,_,h,_⟩=>h) (Con.lent C fl S) hd ?_;rintro v w' ⟨M',B,hE,S',hΦ⟩;exact K v w' M' B hE S' hΦ
theorem V2 (n:Nat) {f:FuncId} {as:List Operand} {ts:Array TypeId} {args:List Value} {Φ:Value→Hp→List Asr→Prop} (Fn:IsFn P f) (C:∀ h,Sats M (Γ2.take n) h→M.disj h→Con P f args.toArray (M.union h) [] Φ) (S:St w M F Γ2) (ha:as.map (evR ρ)=args) (hd:Nat.blt d N=true) (fl:∀ v M' B,Φ v M' B→FlatG B)
  (K:∀ v w' M' B,Ext w w'→St w' M F (B++Γ2)→Φ v M' B→Wl rn P N ops Q rest (upd ρ d v) w'):Wl rn P N ops Q (⟨some d,.call ⟨.value (.func f),as.toArray,ts⟩,T,ps,af,none⟩::rest) ρ w:=by
 have S':St w M F (Γ2.take n++Γ2.drop n):=by rw [List.take_append_drop];exact S
 exact QCd Fn C S' ha hd fl (fun v w' M' B E G h=>K v w' M' B E (by rw [List.take_append_drop] at G;exact G) h)
end
section
variable {rn:Rd} {P:Program} {N:Nat} {ops:Array Oper} {Q:Post} {rest:List Oper} {ρ:Rho} {w:World} {M F:Hp} {Γ1 Γ2:List Asr} {d:Nat} {T:TypeId} {ps:String} {af:Array Edge}
theorem YZ {f:FuncId} {as:List Operand} {ts:Array TypeId} {args:List Value} {Φ:Value→Hp→List Asr→Prop} (Fn:IsFn P f) (C:Con P f args.toArray M Γ1 Φ) (S:St w M F (Γ1++Γ2)) (ha:as.map (evR ρ)=args) (hd:Nat.blt d N=true) (fl:∀ v M' B,Φ v M' B→FlatG B)
  (K:∀ v w' M' B,Ext w w'→St w' M F (B++Γ2)→Φ v M' B→Wl rn P N ops Q rest (upd ρ d v) w'):Wl rn P N ops Q (⟨some d,.call ⟨.value (.func f),as.toArray,ts⟩,T,ps,af,none⟩::rest) ρ w:=by
 subst ha;obtain ⟨fn,hf,hb,hn⟩:=Fn.ex;refine UI (R:=fun v w'=>∃ M' B,Ext w w'∧St w' M F (B++Γ2)∧Φ v M' B) rfl (JQ hf hb hn) (fun _ _ ⟨_,_,h,_⟩=>h) (C.flat fl S) hd ?_;rintro v w' ⟨M',B,hE,S',hΦ⟩;exact K v w' M' B hE S' hΦ
theorem Vr {f:FuncId} {as:List Operand} {ts:Array TypeId} {args fs cap:List Value} {tt:Tmp} {Φ:Value→Hp→List Asr→Prop} (Fn:IsFn P f) (ht:ρ tt=.func (.func f) fs.toArray cap.toArray) (C:Con P f args.toArray M Γ1 Φ) (S:St w M F (Γ1++Γ2)) (ha:fs++as.map (evR ρ)++cap=args) (hd:Nat.blt d N=true) (fl:∀ v M' B,Φ v M' B→FlatG B)
  (K:∀ v w' M' B,Ext w w'→St w' M F (B++Γ2)→Φ v M' B→Wl rn P N ops Q rest (upd ρ d v) w'):Wl rn P N ops Q (⟨some d,.call ⟨.value (.tmp tt),as.toArray,ts⟩,T,ps,af,none⟩::rest) ρ w:=by
 subst ha;obtain ⟨fn,hf,hb,hn⟩:=Fn.ex;refine UI (R:=fun v w'=>∃ M' B,Ext w w'∧St w' M F (B++Γ2)∧Φ v M' B) rfl (Kj ht hf hb hn) (fun _ _ ⟨_,_,h,_⟩=>h) (C.flat fl S) hd ?_;rintro v w' ⟨M',B,hE,S',hΦ⟩;exact K v w' M' B hE S' hΦ
end
theorem qo {α:Type} {r:Rep α} {M H:Hp} {A:Option Addr} {n c:Nat} {l:List α} {i:Int} (h:SlW r M H (.slice A n c) l) (h0:0≤i) (E:i≤(l.length:Int)) :
  ∀ {P:Program} {ρ:Rho} {w:World} {x y:Operand} {dst:Option Tmp} {t e T:TypeId} {ps:String} {af:Array Edge} {g:Option (Nat×Bool)} {bytes:Nat} {agg:Bool} {z:Value} {k:IntKind} (hu:P.underlying t=some (.slice e)) (Ty:IsTy P e agg z r.sz bytes) (hx:evR ρ x=.slice A n c) (hy:evR ρ y=.int k i),
   (execOp (evR ρ) ⟨dst,.slice t x none (some y) none,T,ps,af,g⟩).run P w=.ok (.value (.slice A (l.take i.toNat).length c)) w:=by
 intro P ρ w x y dst t e T ps af g bytes agg z k hu Ty hx hy;have hl:=h.len;have B:i.toNat=(l.take i.toNat).length:=by simp;omega
 rw [Jr hu Ty hx hy h0 (by omega),← B]
theorem St.row_take {α:Type} {r:Rep α} {w:World} {M F:Hp} {Γ:List Asr} {e:TypeId} {A:Option Addr} {n c:Nat} {l:List α} (S:St w M F Γ) (i:Nat) (hi:Γ[i]?=some (Row r e (.slice A n c) l)) (m:Nat) (hm:m≤l.length) :
  St w M F (Γ.set i (Row r e (.slice A (l.take m).length c) (l.take m))):=by
 obtain ⟨h1,ha,hle,hch⟩:=S.change i hi;rcases ha with ⟨G,rfl⟩ | ⟨b,cap,cs,G,h2,U,Z,V,H⟩
 ·injection G with K W O
  subst K W O;exact hch w _ Hp.emp (.inl ⟨by simp,by simp⟩) (fun b o h=>by cases h) (fun b o h _=>h) (fun b o h=>by cases h)
 ·injection G with K W O
  subst K O;refine hch w _ (Hp.single b (.cells cs e (0,0))) (.inr ⟨b,c,cs,rfl,by simp;omega,by simp [Hp.single],Z,?_,H⟩) (Hp.single_le.2 (hle _ _ U)) (fun c o h _=>h) (fun c o h=>?_)
  ·have hml:(l.take m).length=m:=by simp;omega
   refine ⟨?_,fun j y hy=>?_⟩
   ·have B:=V.1;rw [List.length_take] at B;have Y:m*r.sz≤l.length*r.sz:=Nat.mul_le_mul_right _ hm;rw [List.length_take,hml];omega
   ·have hj:j<m:=by have:=(List.getElem?_eq_some_iff.1 hy).1;omega
    rw [List.getElem?_take,if_pos hj] at hy;obtain ⟨vs,B,Y⟩:=V.2 j y hy;refine ⟨vs,B,fun q v hv=>?_⟩;have E:=Y q v hv;have hq:q<r.sz:=by have:=(List.getElem?_eq_some_iff.1 hv).1;rw [r.len B] at this;exact this
    have H:(j+1)*r.sz≤m*r.sz:=Nat.mul_le_mul_right _ hj;rw [Nat.succ_mul] at H;rw [List.getElem?_take] at E;rw [List.getElem?_take,hml,if_pos (by omega)]
    split at E
    ·exact E
    ·cases E
  ·simp only [Hp.single] at h
   split at h
   ·rename_i e;subst e;left;rw [U];simp
   ·cases h
theorem Kh (z:Array Value) (n:Nat):Builtin.zeroCells z n=madeCells z (n*z.size):=rfl
section
variable {rn:Rd} {P:Program} {N:Nat} {ops:Array Oper} {Q:Post} {rest:List Oper} {ρ:Rho} {w:World} {M F:Hp} {Γ:List Asr} {d:Nat} {x y:Operand} {t t' e T:TypeId} {ps:String} {af:Array Edge} {bytes:Nat} {agg:Bool} {z:Value}
end
def overL (cs:List Value) (off:Nat) (us:List Value):List Value:=cs.take off++us++cs.drop (off+us.length)
theorem QAs {cs us:List Value} {off j:Nat} (h:off+us.length≤cs.length):(overL cs off us)[j]?=if off≤j∧j<off+us.length then us[j-off]? else cs[j]?:=by
 unfold overL;have ht:(cs.take off).length=off:=by simp;omega
 rw [List.getElem?_append,List.length_append,ht]
 by_cases E:j<off+us.length
 ·rw [if_pos E,List.getElem?_append,ht]
  by_cases B:j<off
  ·rw [if_pos B,if_neg (by omega),List.getElem?_take,if_pos B]
  ·rw [if_neg B,if_pos (by omega)]
 ·rw [if_neg E,if_neg (by omega),List.getElem?_drop]
  congr 1;omega
theorem St.row_set {α:Type} {r:Rep α} {l:List α} {x':α} {w':World} (S:St w M F Γ) (i:Nat) (hi:Γ[i]?=some (Row r e v l)) {A:Option Addr} {nn cc:Nat} (hv:v=.slice A nn cc) (ee:A=some ⟨b,o,none⟩) (q off:Nat) (x:α) (hq:l[q]?=some x) (us:List Value) (hl:off+us.length≤r.sz) (h1:∀ u∈us,u.oneCell'=true)
  (hnew:∀ cs,r.R M x cs→r.R M x' (overL cs off us)) :
  ∃ cs,w.heap[b]?=some (.cells cs e (0,0))∧o=0∧o+q*r.sz+off+us.length≤cs.size ∧
   (w'.heap[b]?=some (.cells (over cs (o+q*r.sz+off) us) e (0,0))→(∀ c,c≠b→w'.heap[c]?=w.heap[c]?)→St w' M F (Γ.set i (Row r e v (l.set q x')))):=by
 obtain ⟨g1,ha,hle,hch⟩:=S.change i hi;subst hv ee;have hql:=(List.getElem?_eq_some_iff.1 hq).1;rcases ha with ⟨U,rfl⟩ | ⟨b',cap,cs,U,Z,K,V,O,h9⟩
 ·cases hq
 ·injection U with E e2 e3
  injection E with E
  injection E with E e4
  subst E e4 e2 e3
  have hfit:q*r.sz+off+us.length≤cs.size:=by
   have:(q+1)*r.sz≤cc*r.sz:=Nat.mul_le_mul_right _ (by omega);rw [Nat.succ_mul] at this;rw [V];omega
  refine ⟨cs,Hp.of_get (hle _ _ K),rfl,by omega,fun hb' ho=>?_⟩;refine hch w' _ (Hp.single b (.cells (over cs (0+q*r.sz+off) us) e (0,0))) (.inr ⟨b,cc,over cs (0+q*r.sz+off) us,by rw [List.length_set],by rw [List.length_set];exact Z,by simp [Hp.single],by rw [UJ];exact V,?_,h9⟩) (Hp.single_le.2 (Hp.of_mk hb')) (fun y o hy hn=>?_) (fun y o hy=>?_)
  ·obtain ⟨vs,G,W⟩:=O.2 q x hq;have hvl:=r.len G;have e5:(over cs (0+q*r.sz+off) us).toList.length=cs.toList.length:=by rw [Array.length_toList,UJ,Array.length_toList]
   refine ⟨by rw [List.length_set];have:=O.1;rw [List.length_take] at this ⊢;rw [e5];exact this,fun j y hy=>?_⟩
   by_cases hj:j=q
   ·subst hj;rw [List.getElem?_set_self hql] at hy;cases hy;refine ⟨overL vs off us,hnew vs G,fun k u hk=>?_⟩;rw [QAs (by omega)] at hk
    have hkl:k<r.sz:=by
     by_cases B:off≤k∧k<off+us.length
     ·omega
     ·rw [if_neg B] at hk;have:=(List.getElem?_eq_some_iff.1 hk).1;omega
    have hlt:j*r.sz+k<(l.set j x').length*r.sz:=by
     rw [List.length_set];have:(j+1)*r.sz≤l.length*r.sz:=Nat.mul_le_mul_right _ hql;rw [Nat.succ_mul] at this;omega
    rw [List.getElem?_take,if_pos hlt,Array.getElem?_toList,UX]
    by_cases B:off≤k∧k<off+us.length
    ·rw [if_pos B] at hk;rw [if_pos (by omega)];rw [show j*r.sz+k-(0+j*r.sz+off)=k-off by omega];exact hk
    ·rw [if_neg B] at hk;rw [if_neg (by omega)];have:=W k u hk;rw [List.getElem?_take] at this
     split at this
     ·simpa using this
     ·cases this
   ·rw [List.getElem?_set_ne (Ne.symm hj)] at hy;obtain ⟨vs',H,Y⟩:=O.2 j y hy;refine ⟨vs',H,fun k u hk=>?_⟩;have:=Y k u hk;have hkl:k<r.sz:=by have:=(List.getElem?_eq_some_iff.1 hk).1;rw [r.len H] at this;exact this
    rw [List.getElem?_take] at this;rw [List.getElem?_take,List.length_set]
    split at this
    ·rename_i hlt
     rw [if_pos hlt,Array.getElem?_toList,UX,if_neg]
     ·simpa using this
     ·rintro ⟨a1,a2,_⟩;rcases Nat.lt_or_gt_of_ne hj with hh | hh
      ·have:(j+1)*r.sz≤q*r.sz:=Nat.mul_le_mul_right _ hh;rw [Nat.succ_mul] at this;omega
      ·have:(q+1)*r.sz≤j*r.sz:=Nat.mul_le_mul_right _ hh;rw [Nat.succ_mul] at this;omega
    ·cases this
  ·have hyb:y≠b:=fun e=>by subst e;rw [K] at hn;cases hn
   exact (Hp.of_congr (ho y hyb)).trans hy
  ·simp only [Hp.single] at hy
   split at hy
   ·rename_i ey;subst ey;left;rw [K];simp
   ·cases hy
theorem Vh {α:Type} [Inhabited α] {r:Rep α} {l:List α} {q:Int} (S:St w M F Γ) (i:Nat) (hi:Γ[i]?=some (Row r e v l)) {A:Option Addr} {nn cc:Nat} (hv:v=.slice A nn cc) (ee:A=some ⟨b,o,none⟩) (H:0≤q) (hq:q<(l.length:Int)) (off:Nat) (Ty:IsTy P ty agg z n bytes)
  (hx:evR ρ x=.pointer (some ⟨b,o+q.toNat*r.sz+off,none⟩)) (hy:evR ρ y=u) (us:List Value) (hu:u.cells.toList=us) (hn:us.length=n) (G:us.all (·.oneCell')=true) (hl:Nat.ble (off+us.length) r.sz=true) (x':α) (hnew:∀ cs,r.R M (rd l q) cs→r.R M x' (overL cs off us)) {l':List α} (hl':l.set q.toNat x'=l')
  (K:∀ w',Ext w w'→St w' M F (Γ.set i (Row r e v l'))→Wl rn P N ops Q rest ρ w'):Wl rn P N ops Q (⟨none,.store ty x y,T,ps,af,none⟩::rest) ρ w:=by
 subst hu hl';have hql:q.toNat<l.length:=by omega
 have hrd:l[q.toNat]?=some (rd l q):=by simp [rd,List.getD_eq_getElem?_getD,List.getElem?_eq_getElem hql]
 have B:∀ c∈u.cells.toList,c.oneCell'=true:=fun c hc=>List.all_eq_true.1 G c hc;obtain ⟨cs,hb,ho,hfit,_⟩:=S.row_set (w':=w) i hi hv ee q.toNat off _ hrd u.cells.toList (by simpa using hl) B hnew;obtain ⟨w',hr,hb',hoth,hE⟩:=Uf (P:=P) (off:=o+q.toNat*r.sz+off) Ty hb (v:=u) (by simpa using hn) B (by rw [← hn];exact hfit);obtain ⟨O,E,_,_,hS⟩:=S.row_set (w':=w') i hi hv ee q.toNat off _ hrd u.cells.toList (by simpa using hl) B hnew;rw [hb] at E;cases E;refine JK rfl rfl (w':=w') ?_ hE (K w' hE (hS hb' hoth));simp only [execOp,Instr.storeAt,Instr.sureAddr,hx,hy,Sem.run_bind,Sem.run_pure,Result.andThen_ok,hr]
theorem qs {α:Type} [Inhabited α] {r:Rep α} {l:List α} {i:Int} {A:Option Addr} {nn cc o:Nat} (E:∃ B,M.le B∧St w B F Γ) (j:Nat) (hj:Γ[j]?=some (Row r e (.slice A nn cc) l)) (ee:A=some ⟨b,o,none⟩) (h0:0≤i) (G:i<(l.length:Int)) :
  ∃ B cs t fr vs,w.heap[b]?=some (.cells cs t fr)∧r.R B (rd l i) vs∧∀ (q:Nat) (v:Value),vs[q]?=some v→cs[o+i.toNat*r.sz+q]?=some v:=by
 obtain ⟨B,_,hS⟩:=E;obtain ⟨b',o',cs,t,fr,e',hb,vs,hR,hc⟩:=SlW.at' (hS.row_read j hj) h0 G;rw [ee] at e'
 injection e' with e'
 injection e' with H K
 subst H K;exact ⟨B,cs,t,fr,vs,Hp.of_get hb,hR,hc⟩
theorem VP {α:Type} [Inhabited α] {r:Rep α} {l:List α} {i:Int} {A:Option Addr} {nn cc o:Nat} {g:Option (Nat×Bool)} {dst:Option Tmp} (E:∃ B,M.le B∧St w B F Γ) (j:Nat) (hj:Γ[j]?=some (Row r e (.slice A nn cc) l)) (ee:A=some ⟨b,o,none⟩) (h0:0≤i) (G:i<(l.length:Int)) (off:Nat)
  (hR:∀ B vs,r.R B (rd l i) vs→vs[off]?=some v) (Ty:IsTy P ty false z 1 bytes) (hx:evR ρ x=.pointer (some ⟨b,o+i.toNat*r.sz+off,none⟩)):(execOp (evR ρ) ⟨dst,.load ty x,T,ps,af,g⟩).run P w=.ok (.value v) w:=by
 obtain ⟨B,cs,t,fr,vs,hb,hv,hc⟩:=qs E j hj ee h0 G;exact YU hb Ty hx (hc off v (hR B vs hv))
theorem St.row_cap {α:Type} {r:Rep α} {l:List α} {A:Option Addr} {nn cc:Nat} (S:St w M F Γ) (i:Nat) (hi:Γ[i]?=some (Row r e (.slice A nn cc) l)):cc<9223372036854775808:=by
 obtain ⟨K,ha,_,_⟩:=S.change i hi;rcases ha with ⟨B,rfl⟩ | ⟨b,cap,cs,B,_,_,_,_,O⟩
 ·injection B with E G H;omega
 ·injection B with E G H;omega
end
end Go.Proofs.YtnjbjpaiepefoaaGreatDoor
