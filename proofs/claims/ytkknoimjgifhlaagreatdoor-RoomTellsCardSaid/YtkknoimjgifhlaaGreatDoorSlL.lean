import Derived.Test.YtkknoimjgifhlaaGreatDoorSlK
import Derived.Maps.RangeRun
namespace Go.Proofs.YtkknoimjgifhlaaGreatDoor
open Go
open Go.ChangeMaps (setBlock)
set_option linter.unusedVariables false
set_option linter.unusedSimpArgs false
set_option linter.unusedSectionVars false
def bornAt (es:Array MapEntry) (p:Nat):Nat:=((es[p]?).map (·.born)).getD 0
section
variable {P:Program} {w:World} {M F:Hp} {Γ:List Asr} {κ ν:Type} [DecidableEq κ] {enc:κ→Value} {encv:ν→Value} {l:List (κ×ν)} {A:Option Addr} {bi:Nat} {done:List Nat} {t kt vt T:TypeId}
theorem QAs {es:Array MapEntry} (hp:(es.toList.map (·.born)).Pairwise (·<·)) {p q:Nat} (h1:p<es.size) (h2:q<es.size) (h:bornAt es p=bornAt es q):p=q:=by
 have e:∀ i,(hi:i<es.size)→bornAt es i=(es.toList.map (·.born))[i]'(by simpa using hi):=fun i hi=>by simp [bornAt,hi]
 rw [e p h1,e q h2] at h
 rcases Nat.lt_trichotomy p q with c | c | c
 ·have:=List.pairwise_iff_getElem.1 hp p q (by simpa using h1) (by simpa using h2) c;omega
 ·exact c
 ·have:=List.pairwise_iff_getElem.1 hp q p (by simpa using h2) (by simpa using h1) c;omega
theorem Uf {a:List Nat} {n:Nat}:a.toArray.contains n=false↔n ∉ a:=by rw [← Bool.not_eq_true];simp
end
section
variable {rn:Rd} {P:Program} {N:Nat} {ops:Array Oper} {Q:Post} {rest:List Oper} {ρ:Rho} {w:World} {M F:Hp} {Γ:List Asr} {x:Operand} {mt ty:TypeId} {ts:Array TypeId} {ps:String} {af:Array Edge} {d:Nat} {f:FuncId}
variable {κ ν:Type} [DecidableEq κ] {enc:κ→Value} {encv:ν→Value} {l:List (κ×ν)} {A:Option Addr}
end
end Go.Proofs.YtkknoimjgifhlaaGreatDoor
