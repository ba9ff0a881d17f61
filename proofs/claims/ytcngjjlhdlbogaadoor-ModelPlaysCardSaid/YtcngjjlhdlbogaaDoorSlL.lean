import Derived.Test.YtcngjjlhdlbogaaDoorSlK
import Derived.Maps.RangeRun
namespace Go.Proofs.YtcngjjlhdlbogaaDoor
open Go
open Go.ChangeMaps (setBlock)
set_option linter.unusedVariables false
set_option linter.unusedSimpArgs false
set_option linter.unusedSectionVars false
def bornAt (es:Array MapEntry) (p:Nat):Nat:=((es[p]?).map (·.born)).getD 0
section
variable {P:Program} {w:World} {M F:Hp} {Γ:List Asr} {κ ν:Type} [DecidableEq κ] {enc:κ→Value} {encv:ν→Value} {l:List (κ×ν)} {A:Option Addr} {bi:Nat} {done:List Nat} {t kt vt T:TypeId}
theorem K8 {es:Array MapEntry} (hp:(es.toList.map (·.born)).Pairwise (· < ·)) {p q:Nat} (h1:p < es.size) (h2:q < es.size) (h:bornAt es p=bornAt es q):p=q:=by
 have e:∀ i,(hi:i < es.size)→bornAt es i=(es.toList.map (·.born))[i]'(by simpa using hi):=fun i hi=>by simp [bornAt,hi]
 rw [e p h1,e q h2] at h
 rcases Nat.lt_trichotomy p q with c | c | c
 ·have:=List.pairwise_iff_getElem.1 hp p q (by simpa using h1) (by simpa using h2) c;omega
 ·exact c
 ·have:=List.pairwise_iff_getElem.1 hp q p (by simpa using h2) (by simpa using h1) c;omega
theorem Vi {a:List Nat} {n:Nat}:a.toArray.contains n=false↔n ∉ a:=by rw [← Bool.not_eq_true];simp
end
def IsClone (P:Program) (f:FuncId):Prop:=∃ fn,P.funcs[f]?=some fn∧(fn.name == "runtime.NumGoroutine")=false∧fn.body.isNone=true∧Extern.findNext fn=none∧Extern.find fn=some Extern.MapsClone.clone
section
variable {rn:Rd} {P:Program} {N:Nat} {ops:Array Oper} {Q:Post} {rest:List Oper} {ρ:Rho} {w:World} {M F:Hp} {Γ:List Asr} {x:Operand} {mt ty:TypeId} {ts:Array TypeId} {ps:String} {af:Array Edge} {d:Nat} {f:FuncId}
variable {κ ν:Type} [DecidableEq κ] {enc:κ→Value} {encv:ν→Value} {l:List (κ×ν)} {A:Option Addr}
theorem VQ (X:IsClone P f) (S:St w M F Γ) (i:Nat) (hi:Γ[i]?=some (QT enc encv A l)) (hx:evR ρ x=.iface mt (.map (mb A))) (hd:Nat.blt d N=true)
  (C:∀ b w',Ext w w'→St w' M F (QT enc encv (some ⟨b,0,none⟩) l::Γ)→Wl rn P N ops Q rest (upd ρ d (.iface mt (.map (mb (some ⟨b,0,none⟩))))) w'):Wl rn P N ops Q (⟨some d,.call ⟨.value (.func f),#[x],ts⟩,ty,ps,af,none⟩::rest) ρ w:=by
 obtain ⟨h1,⟨b,rfl,es,clock,hb1,hm,hp,hc⟩,hle,_⟩:=S.change i hi
 have hb:w.heap[b]?=some (.map es clock):=Hp.of_get (hle _ _ hb1)
 have S2:St (w.alloc (.map es clock)) M F (QT enc encv (some ⟨w.heap.size,0,none⟩) l::Γ):=S.alloc (.map es clock) _ ⟨w.heap.size,rfl,es,clock,by simp [Hp.single],hm,hp,hc⟩
 refine VB (.iface mt (.map (some w.heap.size))) rfl rfl hd (w':=w.alloc (.map es clock)) ?_ (Ext.alloc _ _) (C w.heap.size _ (Ext.alloc _ _) S2)
 obtain ⟨fn,h1,h2,h3,h4,h5⟩:=X
 have h:=run_callFunc_extern h1 h2 h3 h4 h5 #[.iface mt (.map (some b))] w
 have hr:(Extern.MapsClone.clone #[.iface mt (.map (some b))]).run P w=.ok (.iface mt (.map (some w.heap.size))) (w.alloc (.map es clock)):=by
  have e:Extern.MapsClone.clone #[.iface mt (.map (some b))]=(do
   let .map entries clock ← getObj b | stuck "maps.clone: a map expected"
   pure (.iface mt (.map (some (← newObj (.map entries clock)))))):=rfl
  rw [e]
  simp [Xf hb,Result.andThen,run_newObj]
 rw [hr] at h
 simp only [Result.andThen] at h
 have e0:evR ρ (.func f)=.func (.func f) #[] #[]:=rfl
 simpa [execOp,resolve,invoke,Deferred.ofValue,e0,hx,mb] using h
theorem Xz {v:Value} {kt vt:TypeId} {dst:Option Tmp} {g:Option (Nat×Bool)} (hu:P.underlying mt=some (.map kt vt)) (hx:evR ρ x=v):(execOp (evR ρ) ⟨dst,.makeInterface mt x,ty,ps,af,g⟩).run P w=.ok (.value (.iface mt v)) w:=by
 simp [execOp,Instr.makeInterface,run_underlying hu,Result.andThen,hx]
theorem VM {v:Value} {kt vt xt:TypeId} {dst:Option Tmp} {g:Option (Nat×Bool)} (hu:P.underlying mt=some (.map kt vt)) (hx:evR ρ x=.iface mt v):(execOp (evR ρ) ⟨dst,.typeAssert x xt mt false,ty,ps,af,g⟩).run P w=.ok (.value v) w:=by
 simp [execOp,Instr.typeAssert,run_underlying hu,Result.andThen,hx]
theorem VZ {kt vt t':TypeId} {y:Operand} {dst:Option Tmp} {g:Option (Nat×Bool)} {b:Nat} (hu:P.underlying mt=some (.map kt vt)) (hx:evR ρ x=.map (some b)) (hy:evR ρ y=.map none):(execOp (evR ρ) ⟨dst,.binOp .eql mt x y t',ty,ps,af,g⟩).run P w=.ok (.value (.bool false)) w:=by
 have h:∀ d,(Op.equalIn (d+1) mt (.map (some b)) (.map none)).run P w=.ok false w:=fun d=>by simp [Op.equalIn,run_underlying hu,Result.andThen]
 exact Xe (r:=false) (by rw [hx,hy];rfl) (by rw [hx,hy];rfl) (by rw [hx,hy];exact h 9999)
end
end Go.Proofs.YtcngjjlhdlbogaaDoor
