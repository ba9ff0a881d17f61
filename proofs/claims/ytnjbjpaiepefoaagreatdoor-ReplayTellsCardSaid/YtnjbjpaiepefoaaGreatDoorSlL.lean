import Derived.Test.YtnjbjpaiepefoaaGreatDoorSlK
import Derived.Maps.RangeRun
namespace Go.Proofs.YtnjbjpaiepefoaaGreatDoor
open Go
open Go.ChangeMaps (setBlock)
set_option linter.unusedVariables false
set_option linter.unusedSimpArgs false
set_option linter.unusedSectionVars false
def bornAt (es:Array MapEntry) (p:Nat):Nat:=((es[p]?).map (·.born)).getD 0
section
variable {P:Program} {w:World} {M F:Hp} {Γ:List Asr} {κ ν:Type} [DecidableEq κ] {enc:κ→Value} {encv:ν→Value} {l:List (κ×ν)} {A:Option Addr} {bi:Nat} {done:List Nat} {t kt vt T:TypeId}
theorem QBg {es:Array MapEntry} (hp:(es.toList.map (·.born)).Pairwise (·<·)) {p q:Nat} (B:p<es.size) (E:q<es.size) (h:bornAt es p=bornAt es q):p=q:=by
 have e:∀ i,(hi:i<es.size)→bornAt es i=(es.toList.map (·.born))[i]'(by simpa using hi):=fun i hi=>by simp [bornAt,hi]
 rw [e p B,e q E] at h;rcases Nat.lt_trichotomy p q with c | c | c
 ·have:=List.pairwise_iff_getElem.1 hp p q (by simpa using B) (by simpa using E) c;omega
 ·exact c
 ·have:=List.pairwise_iff_getElem.1 hp q p (by simpa using E) (by simpa using B) c;omega
theorem JF {a:List Nat} {n:Nat}:a.toArray.contains n=false↔n ∉ a:=by rw [← Bool.not_eq_true];simp
end
def IsClone (P:Program) (f:FuncId):Prop:=∃ fn,P.funcs[f]?=some fn∧(fn.name == "runtime.NumGoroutine")=false∧fn.body.isNone=true∧Extern.findNext fn=none∧Extern.find fn=some Extern.MapsClone.clone
section
variable {rn:Rd} {P:Program} {N:Nat} {ops:Array Oper} {Q:Post} {rest:List Oper} {ρ:Rho} {w:World} {M F:Hp} {Γ:List Asr} {x:Operand} {mt ty:TypeId} {ts:Array TypeId} {ps:String} {af:Array Edge} {d:Nat} {f:FuncId}
variable {κ ν:Type} [DecidableEq κ] {enc:κ→Value} {encv:ν→Value} {l:List (κ×ν)} {A:Option Addr}
theorem Ut (X:IsClone P f) (S:St w M F Γ) (i:Nat) (hi:Γ[i]?=some (Y3 enc encv A l)) (hx:evR ρ x=.iface mt (.map (mb A))) (hd:Nat.blt d N=true)
  (C:∀ b w',Ext w w'→St w' M F (Y3 enc encv (some ⟨b,0,none⟩) l::Γ)→Wl rn P N ops Q rest (upd ρ d (.iface mt (.map (mb (some ⟨b,0,none⟩))))) w'):Wl rn P N ops Q (⟨some d,.call ⟨.value (.func f),#[x],ts⟩,ty,ps,af,none⟩::rest) ρ w:=by
 obtain ⟨B,⟨b,rfl,es,clock,E,hm,hp,hc⟩,hle,_⟩:=S.change i hi;have hb:w.heap[b]?=some (.map es clock):=Hp.of_get (hle _ _ E);have G:St (w.alloc (.map es clock)) M F (Y3 enc encv (some ⟨w.heap.size,0,none⟩) l::Γ):=S.alloc (.map es clock) _ ⟨w.heap.size,rfl,es,clock,by simp [Hp.single],hm,hp,hc⟩;refine UC (.iface mt (.map (some w.heap.size))) rfl rfl hd (w':=w.alloc (.map es clock)) ?_ (Ext.alloc _ _) (C w.heap.size _ (Ext.alloc _ _) G);obtain ⟨fn,B,H,K,O,U⟩:=X;have h:=run_callFunc_extern B H K O U #[.iface mt (.map (some b))] w
 have hr:(Extern.MapsClone.clone #[.iface mt (.map (some b))]).run P w=.ok (.iface mt (.map (some w.heap.size))) (w.alloc (.map es clock)):=by
  have e:Extern.MapsClone.clone #[.iface mt (.map (some b))]=(do
   let .map entries clock ← getObj b | stuck "maps.clone: a map expected"
   pure (.iface mt (.map (some (← newObj (.map entries clock)))))):=rfl
  rw [e];simp [Vw hb,Result.andThen,run_newObj]
 rw [hr] at h;simp only [Result.andThen] at h;have V:evR ρ (.func f)=.func (.func f) #[] #[]:=rfl
 simpa [execOp,resolve,invoke,Deferred.ofValue,V,hx,mb] using h
theorem UM {v:Value} {kt vt:TypeId} {dst:Option Tmp} {g:Option (Nat×Bool)} (hu:P.underlying mt=some (.map kt vt)) (hx:evR ρ x=v):(execOp (evR ρ) ⟨dst,.makeInterface mt x,ty,ps,af,g⟩).run P w=.ok (.value (.iface mt v)) w:=by
 simp [execOp,Instr.makeInterface,run_underlying hu,Result.andThen,hx]
theorem Um {v:Value} {kt vt xt:TypeId} {dst:Option Tmp} {g:Option (Nat×Bool)} (hu:P.underlying mt=some (.map kt vt)) (hx:evR ρ x=.iface mt v):(execOp (evR ρ) ⟨dst,.typeAssert x xt mt false,ty,ps,af,g⟩).run P w=.ok (.value v) w:=by
 simp [execOp,Instr.typeAssert,run_underlying hu,Result.andThen,hx]
theorem U4 {kt vt t':TypeId} {y:Operand} {dst:Option Tmp} {g:Option (Nat×Bool)} {b:Nat} (hu:P.underlying mt=some (.map kt vt)) (hx:evR ρ x=.map (some b)) (hy:evR ρ y=.map none):(execOp (evR ρ) ⟨dst,.binOp .eql mt x y t',ty,ps,af,g⟩).run P w=.ok (.value (.bool false)) w:=by
 have h:∀ d,(Op.equalIn (d+1) mt (.map (some b)) (.map none)).run P w=.ok false w:=fun d=>by simp [Op.equalIn,run_underlying hu,Result.andThen]
 exact Va (r:=false) (by rw [hx,hy];rfl) (by rw [hx,hy];rfl) (by rw [hx,hy];exact h 9999)
end
end Go.Proofs.YtnjbjpaiepefoaaGreatDoor
