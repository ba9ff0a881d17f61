import Derived.Test.YtkknoimjgifhlaaGreatDoorSlP
import Derived.Test.YtkknoimjgifhlaaGreatDoorSlS
namespace Go.Proofs.YtkknoimjgifhlaaGreatDoor
open Go
set_option linter.unusedVariables false
set_option linter.unusedSimpArgs false
set_option linter.unusedSectionVars false
section
variable {P:Program} {ρ:Rho} {w:World} {x y:Operand} {t t' ty:TypeId} {ps:String} {af:Array Edge} {g:Option (Nat×Bool)} {dst:Option Tmp}
end
section
variable {rn:Rd} {P:Program} {N:Nat} {ops:Array Oper} {Q:Post} {rest:List Oper} {ρ:Rho} {w:World} {M F:Hp} {Γ:List Asr} {x y:Operand} {t t2 e T:TypeId} {ps:String} {af:Array Edge} {bytes d:Nat} {agg:Bool} {z:Value}
variable {α:Type} {r:Rep α} {l:List α} {A B:Option Addr} {nn cc c2:Nat}
end
end Go.Proofs.YtkknoimjgifhlaaGreatDoor
