import Derived.Test.YtnjbjpaiepefoaaGreatDoorSlP
import Derived.Test.YtnjbjpaiepefoaaGreatDoorSlS
namespace Go.Proofs.YtnjbjpaiepefoaaGreatDoor
open Go
set_option linter.unusedVariables false
set_option linter.unusedSimpArgs false
set_option linter.unusedSectionVars false
section
variable {P:Program} {ρ:Rho} {w:World} {x y:Operand} {t t' ty:TypeId} {ps:String} {af:Array Edge} {g:Option (Nat×Bool)} {dst:Option Tmp}
def iand (k:IntKind) (a b:Int):Int:=k.wrap (BitVec.ofInt k.bits a &&& BitVec.ofInt k.bits b).toNat
def ishr (k:IntKind) (a b:Int):Int:=a.fdiv (2 ^ (min b.toNat k.bits))
theorem QBE {k:IntKind} {a b:Int} (hx:evR ρ x=.int k a) (hy:evR ρ y=.int k b):(execOp (evR ρ) ⟨dst,.binOp .and t x y t',ty,ps,af,g⟩).run P w=.ok (.value (.int k (iand k a b))) w:=by
 simp [execOp,binOp,eqGuard,hx,hy,Op.intBits,iand]
theorem K7 {k E:IntKind} {a b:Int} (hx:evR ρ x=.int k a) (hy:evR ρ y=.int E b) (h:0≤b):(execOp (evR ρ) ⟨dst,.binOp .shr t x y t',ty,ps,af,g⟩).run P w=.ok (.value (.int k (ishr k a b))) w:=by
 have G:¬ b<0:=by omega
 simp [execOp,binOp,eqGuard,hx,hy,Op.shift,ishr,G]
end
section
variable {rn:Rd} {P:Program} {N:Nat} {ops:Array Oper} {Q:Post} {rest:List Oper} {ρ:Rho} {w:World} {M F:Hp} {Γ:List Asr} {x y:Operand} {t t2 e T:TypeId} {ps:String} {af:Array Edge} {bytes d:Nat} {agg:Bool} {z:Value}
variable {α:Type} {r:Rep α} {l:List α} {A B:Option Addr} {nn cc c2:Nat}
theorem QAC {cs:List Value} (h:Cells r M l cs) (i:Nat):Cells r M (l.drop i) (cs.drop (i*r.sz)):=by
 refine ⟨by rw [List.length_drop,List.length_drop,h.1,Nat.sub_mul],fun j x hx=>?_⟩;rw [List.getElem?_drop] at hx;obtain ⟨vs,E,G⟩:=h.2 (i+j) x hx;refine ⟨vs,E,fun q v hv=>?_⟩;rw [List.getElem?_drop,show i*r.sz+(j*r.sz+q)=(i+j)*r.sz+q by rw [Nat.add_mul];omega];exact G q v hv
theorem slW_le {α:Type} {r:Rep α} {M H:Hp} {A:Option Addr} {n c:Nat} {l:List α} (h:SlW r M H (.slice A n c) l):l.length≤c:=by
 obtain ⟨_,_,e,E,_⟩:=h
 injection e with K O G
 subst G;exact E
theorem QBK {α:Type} {r:Rep α} {M H:Hp} {A:Option Addr} {n c:Nat} {l:List α} {i:Int} (h:SlW r M H (.slice A n c) l) (h0:0≤i) (G:i≤(l.length:Int)):SlW r M H (.slice A (l.take i.toNat).length c) (l.take i.toNat):=by
 have hl:=h.len;have hs:=SlW.take h i.toNat c (by omega) (by omega);have E:i.toNat=(l.take i.toNat).length:=by simp;omega
 rw [← E];exact hs
theorem Kg {i:Nat} (S:St w M F Γ) (q:Nat) (hq:Γ[q]?=some (Row r e (.slice A nn cc) l)) (h1:i≤l.length) (hu:P.underlying t=some (.slice e)) (Ty:IsTy P e agg z r.sz bytes) (hsz:0<r.sz)
  {X:List α} {V:Value} (hs:SlW r M (Hp.of w) V X) (n:Nat) (hn:n=min X.length (l.length-i)) {l':List α} (hl':l.take i++X.take n++l.drop (i+n)=l')
  (hx:evR ρ x=.slice B (nn-i) c2) (hB:nn-i=0∨B=A.map (·.add (i*r.sz))∨(i=0∧B=A)) (hy:evR ρ y=V) (hd:Nat.blt d N=true)
  (K:∀ w',Ext w w'→St w' M F (Γ.set q (Row r e (.slice A nn cc) l'))→Wl rn P N ops Q rest (upd ρ d (.int .i64 (n:Int))) w'):Wl rn P N ops Q (⟨some d,.call ⟨.builtin .copy,#[x,y],#[t,t2]⟩,T,ps,af,none⟩::rest) ρ w:=by
 obtain ⟨E,hrun,O⟩:∃ E:List Value,(Builtin.firstCells r.sz n V).run P w=.ok E.toArray w∧Cells r M (X.take n) E:=by
  obtain ⟨B2,k2,rfl,ab⟩:=hs.form;have h':=SlW.take hs n k2 (by omega) (by omega);obtain ⟨cs,hsrc,hC⟩:=Yt (P:=P) h' hsz;refine ⟨cs,?_,hC⟩;have W:=hsrc.run w rfl;rw [List.length_take,Nat.min_eq_left (by omega)] at W
  cases B2<;>exact W
 have G:E.length=n*r.sz:=by rw [O.1,List.length_take,Nat.min_eq_left (by omega)]
 have hlen:(Builtin.lenOf V).run P w=.ok X.length w:=by
  obtain ⟨B2,k2,rfl,ab⟩:=hs.form;simp [Builtin.lenOf]
 have key:∃ w',(Builtin.copy_ #[t,t2] T #[evR ρ x,evR ρ y]).run P w=.ok (.int .i64 (n:Int)) w'∧Ext w w'∧St w' M F (Γ.set q (Row r e (.slice A nn cc) l')):=by
  obtain ⟨h',ha,hle,hch⟩:=S.change q hq
  have hnn:nn=l.length:=by
   rcases ha with ⟨H,rfl⟩ | ⟨b,cap,cs,H,_⟩
   ·injection H with U e2 Z
   ·injection H with U e2 Z
  have hl'l:l'.length=l.length:=by rw [← hl'];simp;omega
  have hmin:Nat.min X.length (nn-i)=n:=by rw [hnn,hn]
  obtain ⟨ti,hti,a0,a3,a4⟩:=Ty.typeInfo (w:=w);have hsize:(sizeOf e).run P w=.ok r.sz w:=by simp [sizeOf,hti,a0,a3,a4,Result.andThen]
  by_cases Y:n=0
  ·have hll:l'=l:=by rw [← hl',Y];simp
   subst hll;have a5:E=[]:=List.eq_nil_of_length_eq_zero (by rw [G,Y,Nat.zero_mul]);subst a5;refine ⟨w,?_,Ext.refl w,by rw [Jw hq];exact S⟩;rw [hx,hy];simp only [Builtin.copy_,List.getElem?_toArray,List.getElem?_cons_zero,List.getElem?_cons_succ,Sem.run_bind,run_underlying hu,Result.andThen_ok,hlen,hmin,hsize,hrun]
   cases B<;>simp [storeCells,goInt,Result.andThen]
  ·rcases ha with ⟨H,rfl⟩ | ⟨b,cap,cs,H,h2,h3,h4,h5,W⟩
   ·simp at hn;omega
   ·injection H with U e2 Z
    subst U Z;have hb:w.heap[b]?=some (.cells cs e (0,0)):=Hp.of_get (hle _ _ h3);have hlt:i<l.length:=by omega
    have hBv:B=some ⟨b,i*r.sz,none⟩:=by
     rcases hB with h | h | ⟨h,g⟩
     ·omega
     ·rw [h];simp [V1]
     ·rw [g,h];simp
    subst hBv;have hmul:(i+n)*r.sz≤l.length*r.sz:=Nat.mul_le_mul_right _ (by omega);have hcapm:l.length*r.sz≤cc*r.sz:=Nat.mul_le_mul_right _ h2;have him:(i+n)*r.sz=i*r.sz+n*r.sz:=Nat.add_mul _ _ _;obtain ⟨w',hr,hb',ho,hE⟩:=V0 (P:=P) (b:=b) (off:=i*r.sz) (t:=e) E w cs 0 hb (fun v hv=>O.ones v hv) (by rw [G,h4];omega);refine ⟨w',?_,hE,?_⟩
    ·rw [hx,hy];simp only [Builtin.copy_,List.getElem?_toArray,List.getElem?_cons_zero,List.getElem?_cons_succ,Sem.run_bind,run_underlying hu,Result.andThen_ok,hlen,hmin,hsize,hrun,hr,Sem.run_pure,goInt]
    ·refine hch w' _ (Hp.single b (.cells (over cs (i*r.sz+0) E) e (0,0))) (.inr ⟨b,cc,over cs (i*r.sz+0) E,by rw [hl'l,hnn],by rw [hl'l];exact h2,by simp [Hp.single],by rw [UJ];exact h4,?_,W⟩) (Hp.single_le.2 (Hp.of_mk hb')) (fun y o hy hn=>?_) (fun y o hy=>?_)
     ·have U:(over cs (i*r.sz+0) E).toList.take (l'.length*r.sz)=(cs.toList.take (l.length*r.sz)).take (i*r.sz)++E++(cs.toList.take (l.length*r.sz)).drop ((i+n)*r.sz):=by
       rw [hl'l]
       apply List.ext_getElem?
       intro j;have hcl:cs.toList.length=cc*r.sz:=by rw [Array.length_toList];exact h4
       have htl:((cs.toList.take (l.length*r.sz)).take (i*r.sz)).length=i*r.sz:=by rw [List.length_take,List.length_take];omega
       rw [List.getElem?_take,List.append_assoc,List.getElem?_append,htl,Array.getElem?_toList,UX,List.getElem?_take,List.getElem?_take,List.getElem?_append,G,List.getElem?_drop,List.getElem?_take]
       by_cases c1:j<i*r.sz
       ·have a1:j<l.length*r.sz:=by omega
        have a2:¬ (i*r.sz+0≤j∧j<i*r.sz+0+n*r.sz∧j<cs.size):=by omega
        simp only [a1,a2,c1,if_true,if_false,Array.getElem?_toList]
       ·rw [if_neg c1]
        by_cases c2:j<i*r.sz+n*r.sz
        ·have a1:j<l.length*r.sz:=by omega
         rw [if_pos a1,if_pos (by omega),if_pos (by omega)]
         congr 1
        ·rw [if_neg (show ¬ (j-i*r.sz<n*r.sz) by omega),if_neg (show ¬ (i*r.sz+0≤j∧j<i*r.sz+0+n*r.sz∧j<cs.size) by omega)];rw [show (i+n)*r.sz+(j-i*r.sz-n*r.sz)=j by omega]
         split
         ·rw [Array.getElem?_toList]
         ·rfl
      rw [U,← hl'];exact ((KI h5 (by omega)).append O).append (QAC h5 _)
     ·have hyb:y≠b:=fun e=>by subst e;rw [h3] at hn;cases hn
      exact (Hp.of_congr (ho y hyb)).trans hy
     ·simp only [Hp.single] at hy
      split at hy
      ·rename_i e;subst e;left;rw [h3];simp
      ·cases hy
 obtain ⟨w',hrun',hE,S'⟩:=key;refine UC (.int .i64 (n:Int)) rfl rfl hd (w':=w') ?_ hE (K w' hE S');simp only [execOp,resolve,invoke,builtin,List.map_toArray,List.map_cons,List.map_nil,Sem.run_bind,Sem.run_pure,Result.andThen_ok,hrun']
end
end Go.Proofs.YtnjbjpaiepefoaaGreatDoor
