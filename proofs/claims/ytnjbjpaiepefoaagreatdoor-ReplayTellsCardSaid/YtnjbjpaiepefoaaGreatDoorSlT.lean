import Derived.Test.YtnjbjpaiepefoaaGreatDoorSlN
namespace Go.Proofs.YtnjbjpaiepefoaaGreatDoor
open Go
set_option linter.unusedVariables false
set_option linter.unusedSimpArgs false
def cfS (x y:Str):Int:=Lib.compareBytes x y
abbrev ltS:Str→Str→Bool:=Go.Proofs.ltOf cfS
theorem JI:∀ a:Str,cfS a a=0
 | []=>rfl
 | x::a=>by
  have h:¬ x<x:=by simp [UInt8.lt_iff_toNat_lt]
  simp only [cfS,Lib.compareBytes,h,if_false];exact JI a
theorem qn {x y:UInt8} (h:¬ x<y) (B:¬ y<x):x=y:=by
 rw [UInt8.lt_iff_toNat_lt] at h B;exact UInt8.toNat_inj.1 (by omega)
theorem Ur (x y:UInt8) (a b:Str):cfS (x::a) (y::b)=if x<y then -1 else if y<x then 1 else cfS a b:=by simp only [cfS,Lib.compareBytes]
theorem UB:∀ a b:Str,ltS a b=false→ltS b a=false→a=b
 | [],[],_,_=>rfl
 | [],_::_,h,_=>by simp [Go.Proofs.ltOf,cfS,Lib.compareBytes] at h
 | _::_,[],_,h=>by simp [Go.Proofs.ltOf,cfS,Lib.compareBytes] at h
 | x::a,y::b,B,E=>by
  unfold ltS Go.Proofs.ltOf at B E;rw [Ur] at B E
  by_cases c:x<y
  ·simp [c] at B
  ·by_cases G:y<x
   ·simp [G] at E
   ·have e:=qn c G;subst e;simp only [c,if_false] at B E;rw [UB a b B E]
theorem Uw:∀ a b c:Str,ltS a b=true→ltS b c=true→ltS a c=true
 | [],_,[],_,h=>by cases ‹Str›<;>simp [Go.Proofs.ltOf,cfS,Lib.compareBytes] at h
 | [],_,_::_,_,_=>by simp [Go.Proofs.ltOf,cfS,Lib.compareBytes]
 | _::_,[],_,h,_=>by simp [Go.Proofs.ltOf,cfS,Lib.compareBytes] at h
 | _::_,_::_,[],_,h=>by simp [Go.Proofs.ltOf,cfS,Lib.compareBytes] at h
 | x::a,y::b,z::c,E,B=>by
  have ih:=Uw a b c;unfold ltS Go.Proofs.ltOf at *;rw [Ur] at *;simp only [UInt8.lt_iff_toNat_lt,decide_eq_true_eq] at *
  by_cases O:x.toNat<y.toNat
  ·by_cases G:y.toNat<z.toNat
   ·rw [if_pos (by omega)];decide
   ·rw [if_neg G] at B
    by_cases H:z.toNat<y.toNat
    ·rw [if_pos H] at B;omega
    ·rw [if_pos (by omega)];decide
  ·rw [if_neg O] at E
   by_cases G:y.toNat<x.toNat
   ·rw [if_pos G] at E;omega
   ·rw [if_neg G] at E
    by_cases H:y.toNat<z.toNat
    ·rw [if_pos (by omega)];decide
    ·rw [if_neg H] at B
     by_cases K:z.toNat<y.toNat
     ·rw [if_pos K] at B;omega
     ·rw [if_neg K] at B;rw [if_neg (by omega),if_neg (by omega)];exact ih E B
theorem UT:Go.Sort.SWO (Go.Proofs.ltOf cfS) where
 irrefl x:=by unfold Go.Proofs.ltOf;rw [JI];decide
 trans x y z E B:=Uw x y z E B
 ntrans x y z E B:=by
  cases h:ltS x z with
  | false=>exact h
  | true =>
   cases G:ltS y x with
   | true=>have:=Uw y x z G h;exact absurd this (by rw [show ltS y z=false from B];decide)
   | false =>
    have e:=UB x y E G;subst e;exact absurd h (by rw [show ltS x z=false from B];decide)
end Go.Proofs.YtnjbjpaiepefoaaGreatDoor
