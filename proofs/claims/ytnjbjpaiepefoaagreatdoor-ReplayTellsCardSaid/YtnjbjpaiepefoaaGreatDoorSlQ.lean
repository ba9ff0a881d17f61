import Derived.Test.YtnjbjpaiepefoaaGreatDoorSlF
namespace Go.Proofs.YtnjbjpaiepefoaaGreatDoor
open Go
theorem wr {x:Int} (h:-9223372036854775808≤x) (B:x≤9223372036854775807):IntKind.i64.wrap x=x:=by
 simp [IntKind.wrap,IntKind.bits,IntKind.signed];omega
theorem wr1 {i:Nat} (h:i+1≤9223372036854775807):IntKind.i64.wrap ((i:Int)+1)=((i+1:Nat):Int):=by rw [wr (by omega) (by omega)];rfl
theorem rdN {α:Type} [Inhabited α] {l:List α} {i:Nat} (h:i<l.length):rd l (i:Int)=l[i]:=by
 simp [rd,List.getD_eq_getElem?_getD,List.getElem?_eq_getElem h]
theorem inR {α:Type} {l:List α} {i:Nat} (h:i<l.length):0≤(i:Int)∧(i:Int)<(l.length:Int):=by omega
end Go.Proofs.YtnjbjpaiepefoaaGreatDoor
