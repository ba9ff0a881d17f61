import Derived.Test.YtnjbjpaiepefoaaGreatDoorSlE
import Derived.Laws.StructEq
import Derived.Laws.Cover3
import Derived.Laws.Externs
import Derived.Lib.Bytealg
namespace Go.Proofs.YtnjbjpaiepefoaaGreatDoor
open Go
set_option linter.unusedVariables false
set_option linter.unusedSimpArgs false
theorem QM {α β:Type} {x:Option α} {f:α→Option β} {r:β} (h:x.bind f=some r):∃ a,x=some a∧f a=some r:=by
 cases x with
 | none=>cases h
 | some a=>exact ⟨a,rfl,h⟩
theorem Q0 {β:Type} {b:Bool} {x y:Option β} {r:β} (h:(if b=true then x else y)=some r):(b=true∧x=some r)∨(b=false∧y=some r):=by
 cases b with
 | true=>exact .inl ⟨rfl,h⟩
 | false=>exact .inr ⟨rfl,h⟩
theorem Z3 {β:Type} {p:Prop} [Decidable p] {x:Option β} {r:β} (h:(if p then x else none)=some r):p∧x=some r:=by
 split at h
 ·exact ⟨‹p›,h⟩
 ·cases h
theorem elimL {α β γ:Type} {f:α→γ} {g:β→γ} {a:α} {r:γ} (h:Sum.elim f g (.inl a)=r):f a=r:=h
theorem elimR {α β γ:Type} {f:α→γ} {g:β→γ} {b:β} {r:γ} (h:Sum.elim f g (.inr b)=r):g b=r:=h
theorem Qr (b:Bool):b=false∨b=true:=by cases b<;>simp
theorem skT {b:Bool} (h:b=false):(some b==some true)=false:=by subst h;rfl
theorem skF {b:Bool} (h:b=true):(some b==some false)=false:=by subst h;rfl
def rd {α:Type} [Inhabited α] (l:List α) (i:Int):α:=l.getD i.toNat default
def OLe {α:Type} (x y:Option α):Prop:=∀ r,x=some r→y=some r
theorem OLe.none {α:Type} {y:Option α}:OLe none y:=fun _ h=>by cases h
theorem OLe.some {α:Type} {a:α}:OLe (some a) (some a):=fun _ h=>h
theorem OLe.bind {α β:Type} {x y:Option α} {f g:α→Option β} (h:OLe x y) (hf:∀ a,OLe (f a) (g a)):OLe (x.bind f) (y.bind g):=fun r hr=>by
 obtain ⟨a,B,E⟩:=QM hr;rw [h a B];exact hf a r E
theorem OLe.ite {α:Type} {c:Prop} [Decidable c] {a a' b b':Option α} (h:OLe a a') (k:OLe b b'):OLe (if c then a else b) (if c then a' else b'):=by
 split
 ·exact h
 ·exact k
theorem OLe.elim {α β γ:Type} {f f':α→Option γ} {g g':β→Option γ} {s:α⊕β} (h:∀ a,OLe (f a) (f' a)) (k:∀ b,OLe (g b) (g' b)):OLe (Sum.elim f g s) (Sum.elim f' g' s):=by
 cases s with
 | inl a=>exact h a
 | inr b=>exact k b
theorem OLe.up {α:Type} {f:Nat→Option α} (h:∀ k,OLe (f k) (f (k+1))) {k k':Nat} (hk:k≤k'):OLe (f k) (f k'):=by
 obtain ⟨d,rfl⟩:=Nat.exists_eq_add_of_le hk
 induction d with
 | zero=>exact fun _ h=>h
 | succ d ih=>exact fun r hr=>h _ r (ih (Nat.le_add_right _ _) r hr)
def QX (ρ:Rho):List (Nat×Value)→Prop
 | []=>True
 | (d,v)::l=>ρ d=v∧QX ρ l
def updL (ρ:Rho):List (Nat×Value)→Rho
 | []=>ρ
 | (d,v)::l=>upd (updL ρ l) d v
theorem KK {ρ:Rho}:∀ {l:List (Nat×Value)},QX ρ l→updL ρ l=ρ
 | [],_=>rfl
 | (d,v)::l,h=>by rw [updL,KK h.2];exact QB5 ρ d v h.1
theorem QC {ρ:Rho} {l:List (Nat×Value)} (h:QX ρ l):ρ=updL ρ l:=(KK h).symm
section
variable {rn:Rd} {P:Program} {N:Nat} {ops:Array Oper} {Q:Post} {l rest:List Oper} {ρ:Rho} {w:World} {x y c:Code} {id i:Nat} {J:Rho→World→Prop}
theorem tn {next:Rho→World→Prop} (h:next ρ w):thenR next Q .normal ρ w:=h
theorem tr {next:Rho→World→Prop} (h:Q .ret ρ w):thenR next Q .ret ρ w:=h
theorem tx {next:Rho→World→Prop} (h:Q (.exit i) ρ w):thenR next Q (.exit i) ρ w:=h
theorem bn (h:Q .normal ρ w):blockR id Q .normal ρ w:=h
theorem br (h:Q .ret ρ w):blockR id Q .ret ρ w:=h
theorem bsm (h:Q .normal ρ w):blockR id Q (.exit id) ρ w:=by simp only [blockR,Nat.beq_refl,cond_true];exact h
theorem bx (hn:Nat.beq i id=false) (h:Q (.exit i) ρ w):blockR id Q (.exit i) ρ w:=by simp only [blockR,hn,cond_false];exact h
theorem QO {rid:Nat} (h:Wl rn P N l.toArray Q l ρ w):Wp rn P N (.region rid l.toArray false) Q ρ w:=QA7 (by simpa using h)
theorem X3 (J:Rho→World→Prop) (B:Wp rn P N c (thenR J Q) ρ w) (E:∀ ρ w,J ρ w→Q .normal ρ w):Wp rn P N c Q ρ w:=B.mono fun e ρ w q=>by
 cases e<;>first | exact E _ _ q | exact q
theorem Zs (J:Rho→World→Prop) (B:Wp rn P N c (blockR id (thenR J Q)) ρ w) (E:∀ ρ w,J ρ w→Q .normal ρ w):Wp rn P N (.block id c) Q ρ w:=X3 J (Zg B) E
theorem Q7 (n:Nat) (J:Rho→World→Prop) (B:Wl rn P N ops (onlyN J) (l.take n) ρ w) (E:∀ ρ w,J ρ w→Wl rn P N ops Q (l.drop n) ρ w):Wl rn P N ops Q l ρ w:=by
 have h:=Wl_cut (Q:=Q) J (l1:=l.take n) (l2:=l.drop n) (ρ:=ρ) (w:=w) B E
 rwa [List.take_append_drop] at h
end
def ResAt (P:Program) (ρ:Rho) (w:World):ResultVar→Value→Prop
 | .tmp t,v=>ρ t=v
 | .cell a t,v=>∃ ad,ρ a=.pointer (some ad)∧(loadVar t ad).run P w=.ok v w
def tupOf:List Value→Value
 | [v]=>v
 | vs=>.tuple vs.toArray
inductive FA (R:ResultVar→Value→Prop):List ResultVar→List Value→Prop
 | nil:FA R [] []
 | cons {a:ResultVar} {b:Value} {l:List ResultVar} {m:List Value} (h:R a b) (k:FA R l m):FA R (a::l) (b::m)
theorem Zk {P:Program} {ρ:Rho} {w:World} {l:List ResultVar} {vs:List Value} (h:FA (ResAt P ρ w) l vs):(resR l.toArray ρ).run P w=.ok (tupOf vs) w:=by
 have key:(List.mapM (resV ρ) l).run P w=.ok vs w:=by
  induction h with
  | nil=>rfl
  | @cons a b l m hr _ ih =>
   have hx:(resV ρ a).run P w=.ok b w:=by
    cases a with
    | tmp t=>simp only [ResAt] at hr;simp [resV,hr]
    | cell a t=>obtain ⟨ad,B,E⟩:=hr;simp [resV,B,asAddr,E]
   simp only [List.mapM_cons,Sem.run_bind,hx,Result.andThen_ok,ih,Sem.run_pure]
 have hsz:tupOf vs=(if h:vs.toArray.size=1 then vs.toArray[0] else .tuple vs.toArray):=by
  match vs with
  | []=>rfl
  | [v]=>rfl
  | v::u::t=>simp [tupOf]
 rw [hsz];unfold resR;simp only [List.mapM_toArray,Sem.run_bind]
 have:(List.toArray <$> List.mapM (resV ρ) l).run P w=.ok vs.toArray w:=by
  rw [Sem.run_map,key];rfl
 rw [this]
 rfl
theorem SlW.at' {α:Type} [Inhabited α] {r:Rep α} {M H:Hp} {l:List α} {A:Option Addr} {n c:Nat} (h:SlW r M H (.slice A n c) l) {i:Int} (h0:0≤i) (B:i<(l.length:Int)) :
  ∃ b off cs t fr,A=some ⟨b,off,none⟩∧H b=some (.cells cs t fr)∧∃ vs:List Value,r.R M (rd l i) vs∧∀ (j:Nat) (v:Value),vs[j]?=some v→cs[off+i.toNat*r.sz+j]?=some v:=by
 obtain ⟨b,off,cs,t,fr,e,hb,vs,hR,hc⟩:=h.at i.toNat (by omega);refine ⟨b,off,cs,t,fr,e,hb,vs,?_,hc⟩;have:rd l i=l[i.toNat]'(by omega):=by simp [rd,List.getD_eq_getElem?_getD,List.getElem?_eq_getElem (show i.toNat<l.length by omega)]
 rw [this];exact hR
theorem X6 {vs:List Value} {us:Array Value} {cs:Array Value} {o:Nat} (h:∀ (j:Nat) (v:Value),vs[j]?=some v→cs[o+j]?=some v) (k:Nat) (e:us.toList=(vs.drop k).take us.size):∀ j v,us[j]?=some v→cs[o+k+j]?=some v:=by
 intro j v hj;rw [← Array.getElem?_toList,e,List.getElem?_take] at hj
 split at hj
 ·rw [List.getElem?_drop] at hj;have:=h _ _ hj;rw [← Nat.add_assoc] at this;exact this
 ·cases hj
theorem slA {A B:Option Addr} {n c:Nat} (h:A=B):Value.slice A n c=Value.slice B n c:=by rw [h]
theorem qf {b o b' o':Nat} (h:(some ⟨b,o,none⟩:Option Addr)=some ⟨b',o',none⟩):b'=b∧o'=o:=by
 injection h with h;injection h with B E;exact ⟨B.symm,E.symm⟩
theorem sl_hi {α:Type} {r:Rep α} {M:Hp} {A:Option Addr} {n c:Nat} {l:List α} {i:Int} (h:SlR r M (.slice A n c) l) (h0:0≤i) (E:i≤(l.length:Int)) :
  SlR r M (.slice A (l.take i.toNat).length c) (l.take i.toNat)∧∀ {P:Program} {ρ:Rho} {w:World} {x y:Operand} {dst:Option Tmp} {t e T:TypeId} {ps:String} {af:Array Edge} {g:Option (Nat×Bool)} {bytes:Nat} {agg:Bool} {z:Value} {k:IntKind} (hu:P.underlying t=some (.slice e)) (Ty:IsTy P e agg z r.sz bytes) (hx:evR ρ x=.slice A n c) (hy:evR ρ y=.int k i),
   (execOp (evR ρ) ⟨dst,.slice t x none (some y) none,T,ps,af,g⟩).run P w=.ok (.value (.slice A (l.take i.toNat).length c)) w:=by
 have hl:=h.len;have hs:=SlW.take h i.toNat c (by omega) (by omega);have B:i.toNat=(l.take i.toNat).length:=by simp;omega
 exact ⟨by rw [← B];exact hs,fun hu Ty hx hy=>by rw [Jr hu Ty hx hy h0 (by omega),← B]⟩
theorem sl_hm {α:Type} {r:Rep α} {M:Hp} {A:Option Addr} {n c:Nat} {l:List α} {i m:Int} (h:SlR r M (.slice A n c) l) (h0:0≤i) (G:i≤m) (H:m≤(l.length:Int)) :
  SlR r M (.slice A (l.take i.toNat).length m.toNat) (l.take i.toNat)∧∀ {P:Program} {ρ:Rho} {w:World} {x y B:Operand} {dst:Option Tmp} {t e T:TypeId} {ps:String} {af:Array Edge} {g:Option (Nat×Bool)} {bytes:Nat} {agg:Bool} {z:Value} {k k':IntKind} (hu:P.underlying t=some (.slice e)) (Ty:IsTy P e agg z r.sz bytes) (hx:evR ρ x=.slice A n c) (hy:evR ρ y=.int k i) (hz:evR ρ B=.int k' m),
   (execOp (evR ρ) ⟨dst,.slice t x none (some y) (some B),T,ps,af,g⟩).run P w=.ok (.value (.slice A (l.take i.toNat).length m.toNat)) w:=by
 have hl:=h.len;have hs:=SlW.take h i.toNat m.toNat (by omega) (by omega);have E:i.toNat=(l.take i.toNat).length:=by simp;omega
 exact ⟨by rw [← E];exact hs,fun hu Ty hx hy hz=>by rw [qh hu Ty hx hy hz h0 G (by omega),← E]⟩
section
variable {rn:Rd} {P:Program} {N:Nat} {ops:Array Oper} {Q:Post} {rest:List Oper} {ρ:Rho} {w:World} {M F:Hp} {Γ Γ2:List Asr} {d:Nat} {x y:Operand} {t e T:TypeId} {ps:String} {af:Array Edge} {bytes:Nat} {agg:Bool} {z:Value}
def FlatG (Γ:List Asr):Prop:=∀ (M M' h:Hp),Sats M Γ h→Sats M' Γ h
theorem Z9:FlatG []:=fun _ _ _ h=>h
theorem QK {A:Asr} (hA:∀ M M' h:Hp,A.sat M h→A.sat M' h) (h:FlatG Γ):FlatG (A::Γ):=fun M M' g ⟨B,E,hd,e,ha,hs⟩=>⟨B,E,hd,e,hA M M' B ha,h M M' E hs⟩
theorem YY {α:Type} {r:Rep α} {t:TypeId} {v:Value} {l:List α} (hr:∀ (M M':Hp) (x:α) (cs:List Value),r.R M x cs→r.R M' x cs):∀ M M' h:Hp,(Row r t v l).sat M h→(Row r t v l).sat M' h:=fun M M' h ha =>
 ha.imp id fun ⟨b,cap,cs,E,G,H,K,B,O⟩=>⟨b,cap,cs,E,G,H,K,⟨B.1,fun i x hx=>let ⟨vs,U,V⟩:=B.2 i x hx;⟨vs,hr _ _ _ _ U,V⟩⟩,O⟩
theorem ZK {b:Nat} {o:Obj}:∀ M M' h:Hp,(Blk b o).sat M h→(Blk b o).sat M' h:=fun _ _ _ h=>h
theorem Con.flat {f:FuncId} {args:Array Value} {Γ1:List Asr} {Φ:Value→Hp→List Asr→Prop} (h:Con P f args M Γ1 Φ) (fl:∀ v M' B,Φ v M' B→FlatG B) (S:St w M F (Γ1++Γ2)) :
  Calls P f args w fun e w'=>∃ v,e=.returned v∧∃ M' B,Ext w w'∧St w' M F (B++Γ2)∧Φ v M' B:=by
 obtain ⟨g,H,K,O,U⟩:=S.part;have hMF:M.disj F:=by obtain ⟨_,_,h,_⟩:=S.ex;exact h
 refine Calls.mono (h w _ U) ?_;rintro e w' ⟨v,V,M',B,E,hE,S',hΦ⟩;refine ⟨v,V,M',B,hE,?_,hΦ⟩;obtain ⟨k,hk,k1,W,Y,Z,k5,k6⟩:=S'.ex
 have G:M.disj k:=fun b=>by
  rcases W b with hb | hb
  ·cases e:M b with
   | none=>exact .inl rfl
   | some o=>rw [E _ _ e] at hb;cases hb
  ·exact .inr hb
 have S2:St w' M (F.union g) B:=⟨k,fl _ _ _ hΦ _ _ _ hk,Hp.disj_union.2 ⟨hMF,K⟩,G,Y,Hp.le_trans E Z,k5,k6⟩;exact S2.join (Hp.le_refl _) H O
theorem Zb {f:FuncId} {as:List Operand} {ts:Array TypeId} {args:List Value} {Φ:Value→Hp→List Asr→Prop} (Fn:IsFn P f) (C:Con P f args.toArray M [] Φ) (S:St w M F Γ2) (ha:as.map (evR ρ)=args) (hd:Nat.blt d N=true) (fl:∀ v M' B,Φ v M' B→FlatG B)
  (K:∀ v w' M' B,Ext w w'→St w' M F (B++Γ2)→Φ v M' B→Wl rn P N ops Q rest (upd ρ d v) w'):Wl rn P N ops Q (⟨some d,.call ⟨.value (.func f),as.toArray,ts⟩,T,ps,af,none⟩::rest) ρ w:=by
 subst ha;obtain ⟨fn,hf,hb,hn⟩:=Fn.ex;refine UI (R:=fun v w'=>∃ M' B,Ext w w'∧St w' M F (B++Γ2)∧Φ v M' B) rfl (JQ hf hb hn) (fun _ _ ⟨_,_,h,_⟩=>h) (C.flat fl (Γ1:=[]) (Γ2:=Γ2) S) hd ?_;rintro v w' ⟨M',B,hE,S',hΦ⟩;exact K v w' M' B hE S' hΦ
end
section
variable {P:Program} {d:Nat} {xs ys:Array Value} {f:Field} {fs:List Field} {a b:Value} {r s:Bool} {w:World} {t:TypeId}
theorem QCS:(Op.eqFields d xs ys []).run P w=.ok true w:=by simp [Op.eqFields]
theorem Ua (hn:(f.name == "_")=false) (ha:(part f.type xs f.offset).run P w=.ok a w) (hb:(part f.type ys f.offset).run P w=.ok b w) (B:(Op.equalIn d f.type a b).run P w=.ok r w) (hr:(Op.eqFields d xs ys fs).run P w=.ok s w):(Op.eqFields d xs ys (f::fs)).run P w=.ok (r&&s) w:=by
 have hn':f.name ≠ "_":=by simpa using hn
 rw [Op.eqFields];simp only [if_pos hn',Sem.run_bind,ha,hb,B,Result.andThen_ok]
 cases r
 ·simp
 ·simpa using hr
theorem KE (hn:(f.name == "_")=false) (ha:(part f.type xs f.offset).run P w=.ok a w) (hb:(part f.type ys f.offset).run P w=.ok b w) (B:(Op.equalIn d f.type a b).run P w=.ok r w):(Op.eqFields d xs ys [f]).run P w=.ok r w:=by
 have h:=Ua hn ha hb B (fs:=[]) QCS
 rwa [Bool.and_true] at h
theorem q6 {fs:Array Field} (hu:P.underlying t=some (.struct fs)) (hp:P.stoodInHeld t=false) (h:(Op.eqFields d xs ys fs.toList).run P w=.ok r w):(Op.equalIn (d+1) t (.agg xs) (.agg ys)).run P w=.ok r w:=by
 have hf:P.fieldsOf t=fs:=by simp [Program.fieldsOf,hu]
 rw [run_equalIn_struct (P:=P) w d t xs ys (by rw [hf];exact hu) hp,hf];exact h
theorem Vc {z:Value} {bytes off:Nat} {cs:Array Value} (T:IsTy P t false z 1 bytes) (h:cs[off]?=some a):(part t cs off).run P w=.ok a w:=by simp [part,T.isAgg,h]
theorem K2 {k:IntKind} {x y:Int} (hu:P.underlying t=some (.int k)):(Op.equalIn (d+1) t (.int k x) (.int k y)).run P w=.ok (x==y) w:=by
 simp only [Op.equalIn,Sem.run_bind,run_underlying hu,Result.andThen_ok,if_true,Sem.run_pure]
theorem QCR {x y:Bool} (hu:P.underlying t=some .bool):(Op.equalIn (d+1) t (.bool x) (.bool y)).run P w=.ok (x==y) w:=by
 simp only [Op.equalIn,Sem.run_bind,run_underlying hu,Result.andThen_ok,Sem.run_pure]
theorem QAD {x y:Str}:(bs x==bs y)=(x==y):=by
 show (List.toArray x==List.toArray y)=(x==y);rw [Bool.eq_iff_iff,beq_iff_eq,beq_iff_eq];exact ⟨fun h=>by simpa using congrArg Array.toList h,fun h=>h ▸ rfl⟩
theorem q5 {x y:Str} (hu:P.underlying t=some .string):(Op.equalIn (d+1) t (.string (bs x)) (.string (bs y))).run P w=.ok (x==y) w:=by
 simp only [Op.equalIn,Sem.run_bind,run_underlying hu,Result.andThen_ok,Sem.run_pure,QAD]
end
def IsCmp (P:Program) (f:FuncId):Prop:=∃ fn,P.funcs[f]?=some fn∧(fn.name == "runtime.NumGoroutine")=false∧fn.body.isNone=true∧Extern.findNext fn=none∧Extern.find fn=some Extern.BytealgCompare.compare
theorem x_cmp {P:Program} {ρ:Rho} {w:World} {x y:Operand} {dst:Option Tmp} {T:TypeId} {ps:String} {af:Array Edge} {g:Option (Nat×Bool)} {ts:Array TypeId} {f:FuncId} {a b:Str} (X:IsCmp P f) (hx:evR ρ x=.string (bs a)) (hy:evR ρ y=.string (bs b)) :
  (execOp (evR ρ) ⟨dst,.call ⟨.value (.func f),#[x,y],ts⟩,T,ps,af,g⟩).run P w=.ok (.value (.int .i64 (Lib.compareBytes a b))) w:=by
 obtain ⟨fn,B,E,G,H,K⟩:=X;have h:=run_callFunc_extern B E G H K #[.string (bs a),.string (bs b)] w;rw [Lib.run_compareString] at h;simp only [Result.andThen] at h;have O:evR ρ (.func f)=.func (.func f) #[] #[]:=rfl;have eb:∀ l:Str,(bs l).data.toList=l:=fun l=>by simp [bs]
 rw [eb,eb] at h
 simpa [execOp,resolve,invoke,Deferred.ofValue,O,hx,hy] using h
section
variable {P:Program} {ρ:Rho} {w:World} {x y:Operand} {dst:Option Tmp} {T t e:TypeId} {ps:String} {af:Array Edge} {g:Option (Nat×Bool)} {z ze v:Value} {bytes bytese n m sz:Nat} {agg:Bool} {i:Int} {k:IntKind} {cs vs:Array Value}
theorem ql {parts:List (Nat×Operand)} {ps':List (Nat×Value)} (cs:Array Value) (hu:P.underlying t=some (.array n e)) (Ty:IsTy P t true z m bytes) (Te:IsTy P e agg ze sz bytese) (hp:parts.map (fun (i,x)=>(i,evR ρ x))=ps')
  (hf:Instr.fill (fun i=>some (i*sz,sz)) z.cells ps'=some cs):(execOp (evR ρ) ⟨dst,.build t parts.toArray,T,ps,af,g⟩).run P w=.ok (.value (.agg cs)) w:=by
 subst hp;simp only [execOp,Instr.build,List.map_toArray,Sem.run_bind,Ty.zero,run_underlying hu,Result.andThen_ok,Te.sizeOf,hf,Sem.run_pure]
theorem qk (hu:P.underlying t=some (.array n e)) (Te:IsTy P e true ze sz bytese) (hx:evR ρ x=.agg cs) (hy:evR ρ y=.int k i) (h0:0≤i) (B:i<n) (hv:cs.extract (i.toNat*sz) (i.toNat*sz+sz)=vs) :
  (execOp (evR ρ) ⟨dst,.index t x y,T,ps,af,g⟩).run P w=.ok (.value (.agg vs)) w:=by
 simp [execOp,Instr.index,run_underlying hu,hx,hy,asIntOf,h0,B,Te.sizeOf,part,Te.isAgg,hv]
end
end Go.Proofs.YtnjbjpaiepefoaaGreatDoor
