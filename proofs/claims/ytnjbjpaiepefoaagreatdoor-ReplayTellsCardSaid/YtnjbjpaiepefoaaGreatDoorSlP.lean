import Derived.Test.YtnjbjpaiepefoaaGreatDoorSlM
namespace Go.Proofs.YtnjbjpaiepefoaaGreatDoor
open Go
set_option linter.unusedVariables false
set_option linter.unusedSimpArgs false
set_option linter.unusedSectionVars false
def onList {α β:Type} (l:List α) (a:β) (f:α→List α→β):β:=match l with
 | []=>a
 | x::t=>f x t
theorem V9 {α β:Type} (a:β) (f:α→List α→β):onList ([]:List α) a f=a:=rfl
theorem VZ {α β:Type} (x:α) (t:List α) (a:β) (f:α→List α→β):onList (x::t) a f=f x t:=rfl
theorem OLe.onList {α β:Type} {l:List α} {a a':Option β} {f f':α→List α→Option β} (h:OLe a a') (k:∀ x t,OLe (f x t) (f' x t)):OLe (onList l a f) (onList l a' f'):=by
 cases l with
 | nil=>exact h
 | cons x t=>exact k x t
section
variable {rn:Rd} {P:Program} {N:Nat} {ops:Array Oper} {Q:Post} {rest:List Oper} {ρ:Rho} {w:World} {M F:Hp} {Δ Γ1 Γ2:List Asr} {d:Nat} {T:TypeId} {ps:String} {af:Array Edge}
theorem Con.lentF {f:FuncId} {args:Array Value} {Φ:Value→Hp→List Asr→Prop} (C:∀ h,Sats M Δ h→M.disj h→Con P f args (M.union h) Γ1 Φ) (fl:∀ v M' B,Φ v M' B→FlatG B) (S:St w M F (Δ++(Γ1++Γ2))) :
  Calls P f args w fun e w'=>∃ v,e=.returned v∧∃ M' B,Ext w w'∧St w' M F (B++(Δ++Γ2))∧Φ v M' B:=by
 obtain ⟨q,hq,d1,d2,d3,l1,l2,l3⟩:=S.ex;obtain ⟨h,g0,O,e0,U,a2⟩:=hq.split;obtain ⟨Y,g,V,e1,a3,a4⟩:=a2.split;subst e1 e0;have hhg:=Hp.disj_union.1 O;have E:=Hp.disj_union.1 d2;have d2'':=Hp.disj_union.1 E.2;have G:=Hp.disj_union.1 d3;have d3'':=Hp.disj_union.1 G.2;have hhw:h.le (Hp.of w):=Hp.le_trans (Hp.le_union_left _ _) l3;have H:(Y.union g).le (Hp.of w):=Hp.le_trans (Hp.le_union_right O) l3;have Z:Y.le (Hp.of w):=Hp.le_trans (Hp.le_union_left _ _) H;have hgw:g.le (Hp.of w):=Hp.le_trans (Hp.le_union_right V) H;have S1:St w (M.union h) (F.union g) Γ1:=⟨Y,a3.mono (Hp.le_union_left _ _),Hp.union_disj.2 ⟨Hp.disj_union.2 ⟨d1,d2''.2⟩,Hp.disj_union.2 ⟨Hp.disj_symm G.1,hhg.2⟩⟩,Hp.union_disj.2 ⟨d2''.1,hhg.1⟩,Hp.union_disj.2 ⟨d3''.1,Hp.disj_symm V⟩,Hp.union_le l1 hhw,Hp.union_le l2 hgw,Z⟩;refine Calls.mono (C h U E.1 w _ S1) ?_;rintro e w' ⟨v,he,M',B,K,hE,S',hΦ⟩;refine ⟨v,he,M',B,hE,?_,hΦ⟩;obtain ⟨k,hk,k1,k2,k3,k4,k5,k6⟩:=S'.ex;have low:∀ {x y z:Hp},x.disj y→z.le x→z.disj y:=fun hx hz=>Hp.disj_symm (Hp.disj_le (Hp.disj_symm hx) hz);have W:=Hp.union_disj.1 k3;have hMk:M.disj k:=low k2 (Hp.le_trans (Hp.le_union_left _ _) K);have hhk:h.disj k:=low k2 (Hp.le_trans (Hp.le_union_right E.1) K);have hall:Sats M (Δ++Γ2) (h.union g):=Sats.append hhg.2 U a4;exact ⟨k.union (h.union g),Sats.append (Hp.disj_union.2 ⟨Hp.disj_symm hhk,Hp.disj_symm W.2⟩) (fl _ _ _ hΦ _ _ _ hk) hall,d1,Hp.disj_union.2 ⟨hMk,Hp.disj_union.2 ⟨E.1,d2''.2⟩⟩,Hp.disj_union.2 ⟨W.1,Hp.disj_union.2 ⟨G.1,d3''.2⟩⟩,Hp.le_trans (Hp.le_trans (Hp.le_union_left _ _) K) k4,Hp.le_trans (Hp.le_union_left _ _) k5,Hp.union_le k6 (Hp.union_le (Hp.le_trans (Hp.le_trans (Hp.le_union_right E.1) K) k4) (Hp.le_trans (Hp.le_union_right (Hp.disj_symm (Hp.disj_symm d3''.2))) k5))⟩
theorem QBt {f:FuncId} {as:List Operand} {ts:Array TypeId} {args:List Value} {Φ:Value→Hp→List Asr→Prop} (Fn:IsFn P f) (C:∀ h,Sats M Δ h→M.disj h→Con P f args.toArray (M.union h) Γ1 Φ) (S:St w M F (Δ++(Γ1++Γ2))) (ha:as.map (evR ρ)=args) (hd:Nat.blt d N=true) (fl:∀ v M' B,Φ v M' B→FlatG B)
  (K:∀ v w' M' B,Ext w w'→St w' M F (B++(Δ++Γ2))→Φ v M' B→Wl rn P N ops Q rest (upd ρ d v) w'):Wl rn P N ops Q (⟨some d,.call ⟨.value (.func f),as.toArray,ts⟩,T,ps,af,none⟩::rest) ρ w:=by
 subst ha;obtain ⟨fn,hf,hb,hn⟩:=Fn.ex;refine UI (R:=fun v w'=>∃ M' B,Ext w w'∧St w' M F (B++(Δ++Γ2))∧Φ v M' B) rfl (JQ hf hb hn) (fun _ _ ⟨_,_,h,_⟩=>h) (Con.lentF C fl S) hd ?_;rintro v w' ⟨M',B,hE,S',hΦ⟩;exact K v w' M' B hE S' hΦ
theorem Ja {f:FuncId} {as:List Operand} {ts:Array TypeId} {args fs cap:List Value} {tt:Tmp} {Φ:Value→Hp→List Asr→Prop} (Fn:IsFn P f) (ht:ρ tt=.func (.func f) fs.toArray cap.toArray) (C:∀ h,Sats M Δ h→M.disj h→Con P f args.toArray (M.union h) Γ1 Φ) (S:St w M F (Δ++(Γ1++Γ2))) (ha:fs++as.map (evR ρ)++cap=args) (hd:Nat.blt d N=true) (fl:∀ v M' B,Φ v M' B→FlatG B)
  (K:∀ v w' M' B,Ext w w'→St w' M F (B++(Δ++Γ2))→Φ v M' B→Wl rn P N ops Q rest (upd ρ d v) w'):Wl rn P N ops Q (⟨some d,.call ⟨.value (.tmp tt),as.toArray,ts⟩,T,ps,af,none⟩::rest) ρ w:=by
 subst ha;obtain ⟨fn,hf,hb,hn⟩:=Fn.ex;refine UI (R:=fun v w'=>∃ M' B,Ext w w'∧St w' M F (B++(Δ++Γ2))∧Φ v M' B) rfl (Kj ht hf hb hn) (fun _ _ ⟨_,_,h,_⟩=>h) (Con.lentF C fl S) hd ?_;rintro v w' ⟨M',B,hE,S',hΦ⟩;exact K v w' M' B hE S' hΦ
end
section
variable {rn:Rd} {P:Program} {N:Nat} {ops:Array Oper} {Q:Post} {rest:List Oper} {ρ:Rho} {w:World} {M F:Hp} {Γ:List Asr} {x y:Operand} {t e T:TypeId} {ps:String} {af:Array Edge} {g:Option (Nat×Bool)} {dst:Option Tmp} {bytes:Nat} {agg:Bool} {z:Value}
variable {α:Type} {r:Rep α} {l:List α} {A:Option Addr} {nn cc:Nat}
theorem KI {cs:List Value} (h:Cells r M l cs) {i:Nat} (hi:i≤l.length):Cells r M (l.take i) (cs.take (i*r.sz)):=by
 have hle:i*r.sz≤l.length*r.sz:=Nat.mul_le_mul_right _ hi;refine ⟨by rw [List.length_take,List.length_take,h.1];rw [Nat.min_eq_left hi,Nat.min_eq_left hle],fun j x hx=>?_⟩;rw [List.getElem?_take] at hx
 split at hx
 ·next hj =>
  obtain ⟨vs,B,E⟩:=h.2 j x hx;refine ⟨vs,B,fun q v hv=>?_⟩;have hq:q<r.sz:=by have:=(List.getElem?_eq_some_iff.1 hv).1;rwa [r.len B] at this
  have:(j+1)*r.sz≤i*r.sz:=Nat.mul_le_mul_right _ hj;rw [Nat.add_mul,Nat.one_mul] at this;rw [List.getElem?_take,if_pos (by omega)];exact E q v hv
 ·cases hx
theorem QAF {i:Int} (Z:α) (S:St w M F Γ) (q:Nat) (hq:Γ[q]?=some (Row r e (.slice A nn cc) l)) (h0:0≤i) (h1:i≤(l.length:Int)) (hu:P.underlying t=some (.slice e)) (Ty:IsTy P e agg z r.sz bytes) (hz:z.cells.size=r.sz) (hsz:0<r.sz) (hR:∀ M,r.R M Z z.cells.toList) {l':List α} (hl':l.take i.toNat++List.replicate (l.length-i.toNat) Z=l')
  (hx:evR ρ x=.slice (if cc=i.toNat then A else A.map (·.add (i.toNat*r.sz))) (nn-i.toNat) (cc-i.toNat))
  (K:∀ w',Ext w w'→St w' M F (Γ.set q (Row r e (.slice A nn cc) l'))→Wl rn P N ops Q rest ρ w'):Wl rn P N ops Q (⟨none,.call ⟨.builtin .clear,#[x],#[t]⟩,T,ps,af,none⟩::rest) ρ w:=by
 have key:∃ w',(Builtin.clear_ #[t] T #[evR ρ x]).run P w=.ok (.tuple #[]) w'∧Ext w w'∧St w' M F (Γ.set q (Row r e (.slice A nn cc) l')):=by
  obtain ⟨h',ha,hle,hch⟩:=S.change q hq;have hlen':l'.length=l.length:=by rw [← hl'];simp;omega
  have hrow:=ha;rcases ha with ⟨O,rfl⟩ | ⟨b,cap,cs,O,h2,U,V,h5,h9⟩
  ·injection O with B W Y
   subst B W Y;have G:i.toNat=0:=by simp at h1;omega
   have E:l'=[]:=by rw [← hl',G];simp
   subst E;refine ⟨w,?_,Ext.refl w,?_⟩
   ·rw [hx,G];simp [Builtin.clear_,run_underlying hu,Result.andThen]
   ·rw [Jw hq];exact S
  ·injection O with B W Y
   subst B W Y;have hb:w.heap[b]?=some (.cells cs e (0,0)):=Hp.of_get (hle _ _ U)
   by_cases H:l.length-i.toNat=0
   ·have E:l'=l:=by rw [← hl',H,List.take_of_length_le (by omega)];simp
    subst E;refine ⟨w,?_,Ext.refl w,by rw [Jw hq];exact S⟩;rw [hx,H]
    by_cases hc:cc=i.toNat<;>simp [hc,Builtin.clear_,run_underlying hu,Result.andThen]
   ·have hlt:i.toNat<l.length:=by omega
    have hne:¬ cc=i.toNat:=by omega
    have hfl:(Builtin.zeroCells z.cells (l.length-i.toNat)).toList=(List.replicate (l.length-i.toNat) z.cells.toList).flatten:=by
     rw [Kh,Jf z.cells (l.length-i.toNat) z.cells.size rfl (by omega)]
    have hCz:=UH (hR M) (l.length-i.toNat);have hzl:(Builtin.zeroCells z.cells (l.length-i.toNat)).toList.length=(l.length-i.toNat)*r.sz:=by rw [hfl,hCz.1,List.length_replicate]
    have hmul:i.toNat*r.sz+(l.length-i.toNat)*r.sz=l.length*r.sz:=by rw [← Nat.add_mul];congr 1;omega
    have hcapm:l.length*r.sz≤cc*r.sz:=Nat.mul_le_mul_right _ h2;obtain ⟨w',hr,hb',ho,hE⟩:=V0 (P:=P) (b:=b) (off:=0+i.toNat*r.sz) (t:=e) (Builtin.zeroCells z.cells (l.length-i.toNat)).toList w cs 0 hb (fun v hv=>hCz.ones v (by rw [← hfl];exact hv)) (by rw [hzl,V];omega);refine ⟨w',?_,hE,?_⟩
    ·rw [hx,if_neg hne];simp only [Builtin.clear_,List.getElem?_toArray,List.getElem?_cons_zero,Sem.run_bind,run_underlying hu,Result.andThen_ok,Option.map_some,V1]
     cases hm:l.length-i.toNat with
     | zero=>omega
     | succ m =>
      rw [hm] at hr;simp only [Sem.run_bind,Ty.zero,Result.andThen_ok,hr,Sem.run_pure]
    ·refine hch w' _ (Hp.single b (.cells (over cs (0+i.toNat*r.sz+0) (Builtin.zeroCells z.cells (l.length-i.toNat)).toList) e (0,0))) (.inr ⟨b,cc,over cs (0+i.toNat*r.sz+0) (Builtin.zeroCells z.cells (l.length-i.toNat)).toList,by rw [hlen'],by rw [hlen'];exact h2,by simp [Hp.single],by rw [UJ];exact V,?_,h9⟩) (Hp.single_le.2 (Hp.of_mk hb')) (fun y o hy hn=>?_) (fun y o hy=>?_)
     ·have B:(over cs (0+i.toNat*r.sz+0) (Builtin.zeroCells z.cells (l.length-i.toNat)).toList).toList.take (l'.length*r.sz)=(cs.toList.take (l.length*r.sz)).take (i.toNat*r.sz)++(List.replicate (l.length-i.toNat) z.cells.toList).flatten:=by
       rw [hlen',← hfl]
       apply List.ext_getElem?
       intro j;simp only [Nat.zero_add,Nat.add_zero]
       have htl:((cs.toList.take (l.length*r.sz)).take (i.toNat*r.sz)).length=i.toNat*r.sz:=by
        have:cs.toList.length=cc*r.sz:=by rw [Array.length_toList];exact V
        rw [List.length_take,List.length_take];omega
       rw [List.getElem?_take,List.getElem?_append,htl,Array.getElem?_toList,UX,List.getElem?_take,List.getElem?_take,Array.getElem?_toList,hzl]
       by_cases c1:j<i.toNat*r.sz
       ·have a1:j<l.length*r.sz:=by omega
        have a2:¬ (i.toNat*r.sz≤j∧j<i.toNat*r.sz+(l.length-i.toNat)*r.sz∧j<cs.size):=by omega
        simp only [a1,a2,c1,if_true,if_false];exact Array.getElem?_toList.symm
       ·rw [if_neg c1]
        by_cases c2:j<l.length*r.sz
        ·rw [if_pos c2,if_pos (by omega)]
        ·rw [if_neg c2]
         symm
         rw [← Array.getElem?_toList];exact List.getElem?_eq_none (by rw [hzl];omega)
      rw [B,← hl'];exact (KI h5 (by omega)).append hCz
     ·have hyb:y≠b:=fun e=>by subst e;rw [U] at hn;cases hn
      exact (Hp.of_congr (ho y hyb)).trans hy
     ·simp only [Hp.single] at hy
      split at hy
      ·rename_i ey;subst ey;left;rw [U];simp
      ·cases hy
 obtain ⟨w',hr,hE,S'⟩:=key;refine QAc (.tuple #[]) rfl rfl (w':=w') ?_ hE (K w' hE S');simp only [execOp,resolve,invoke,builtin,List.map_toArray,List.map_cons,List.map_nil,Sem.run_bind,Sem.run_pure,Result.andThen_ok,hr]
end
section
variable {rn:Rd} {P:Program} {N:Nat} {ops:Array Oper} {Q:Post} {rest:List Oper} {ρ:Rho} {w:World} {M F:Hp} {Γ:List Asr} {x y u s:Operand} {ty:TypeId} {ps:String} {af:Array Edge} {d:Nat}
variable {κ ν:Type} [DecidableEq κ] {enc:κ→Value} {encv:ν→Value} {l:List (κ×ν)} {A:Option Addr} {t kt vt:TypeId}
end
section
variable {P:Program} {w:World} {M F:Hp} {Γ:List Asr} {κ ν:Type} [DecidableEq κ] {enc:κ→Value} {encv:ν→Value} {l:List (κ×ν)} {A:Option Addr} {t kt vt ty:TypeId} {ρ:Rho} {x y:Operand} {ps:String} {af:Array Edge} {g:Option (Nat×Bool)} {dst:Option Tmp}
end
theorem QAq {κ σ R:Type} (f:Nat→σ→List κ→Option R) (ex:σ→Option R) (B:κ→σ→Option σ) (h0:∀ s t,f 0 s t=none) (E:∀ k s t,f (k+1) s t=onList t (ex s) (fun y t'=>Option.bind (B y s) fun s'=>f k s' t'))
  (hc:∀ y z s,Option.bind (B y s) (B z)=Option.bind (B z s) (B y)) {t t':List κ} (hp:t.Perm t'):∀ (k:Nat) (s:σ),f k s t=f k s t':=by
 induction hp with
 | nil=>intros;rfl
 | cons x _ ih =>
  intro k s
  cases k with
  | zero=>rw [h0,h0]
  | succ k=>rw [E,E,VZ,VZ];exact congrArg _ (funext fun s'=>ih k s')
 | swap x y l =>
  intro k s
  cases k with
  | zero=>rw [h0,h0]
  | succ k =>
   rw [E,E,VZ,VZ]
   cases k with
   | zero =>
    have e:∀ z:Option σ,∀ t:List κ,(Option.bind z fun s'=>f 0 s' t)=none:=fun z t=>by cases z with
     | none=>rfl
     | some a=>exact h0 a t
    rw [e,e]
   | succ k =>
    have e:∀ a b:κ,(Option.bind (B a s) fun s'=>f (k+1) s' (b::l))=Option.bind (Option.bind (B a s) (B b)) fun s'=>f k s' l:=fun a b=>by
     rw [Option.bind_assoc];exact congrArg _ (funext fun s'=>by rw [E,VZ])
    rw [e,e,hc]
 | trans _ _ G H=>intro k s;rw [G,H]
end Go.Proofs.YtnjbjpaiepefoaaGreatDoor
