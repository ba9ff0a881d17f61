import Derived.Test.YtnjbjpaiepefoaaDoorSlN
namespace Go.Proofs.YtnjbjpaiepefoaaDoor
open Go
set_option linter.unusedVariables false
set_option linter.unusedSimpArgs false
def cfS (x y:Str):Int:=Lib.compareBytes x y
abbrev ltS:Str→Str→Bool:=Go.Proofs.ltOf cfS
theorem JF:∀ a:Str,cfS a a=0
 | []=>rfl
 | x::a=>by
  have h:¬ x<x:=by simp [UInt8.lt_iff_toNat_lt]
  simp only [cfS,Lib.compareBytes,h,if_false];exact JF a
theorem qs {x y:UInt8} (h:¬ x<y) (B:¬ y<x):x=y:=by
 rw [UInt8.lt_iff_toNat_lt] at h B;exact UInt8.toNat_inj.1 (by omega)
theorem Up (x y:UInt8) (a b:Str):cfS (x::a) (y::b)=if x<y then -1 else if y<x then 1 else cfS a b:=by simp only [cfS,Lib.compareBytes]
theorem V9:∀ a b:Str,ltS a b=false→ltS b a=false→a=b
 | [],[],_,_=>rfl
 | [],_::_,h,_=>by simp [Go.Proofs.ltOf,cfS,Lib.compareBytes] at h
 | _::_,[],_,h=>by simp [Go.Proofs.ltOf,cfS,Lib.compareBytes] at h
 | x::a,y::b,B,E=>by
  unfold ltS Go.Proofs.ltOf at B E;rw [Up] at B E
  by_cases c:x<y
  ·simp [c] at B
  ·by_cases H:y<x
   ·simp [H] at E
   ·have e:=qs c H;subst e;simp only [c,if_false] at B E;rw [V9 a b B E]
theorem Uu:∀ a b c:Str,ltS a b=true→ltS b c=true→ltS a c=true
 | [],_,[],_,h=>by cases ‹Str›<;>simp [Go.Proofs.ltOf,cfS,Lib.compareBytes] at h
 | [],_,_::_,_,_=>by simp [Go.Proofs.ltOf,cfS,Lib.compareBytes]
 | _::_,[],_,h,_=>by simp [Go.Proofs.ltOf,cfS,Lib.compareBytes] at h
 | _::_,_::_,[],_,h=>by simp [Go.Proofs.ltOf,cfS,Lib.compareBytes] at h
 | x::a,y::b,z::c,E,B=>by
  have ih:=Uu a b c;unfold ltS Go.Proofs.ltOf at *;rw [Up] at *;simp only [UInt8.lt_iff_toNat_lt,decide_eq_true_eq] at *
  by_cases V:x.toNat<y.toNat
  ·by_cases H:y.toNat<z.toNat
   ·rw [if_pos (by omega)];decide
   ·rw [if_neg H] at B
    by_cases K:z.toNat<y.toNat
    ·rw [if_pos K] at B;omega
    ·rw [if_pos (by omega)];decide
  ·rw [if_neg V] at E
   by_cases H:y.toNat<x.toNat
   ·rw [if_pos H] at E;omega
   ·rw [if_neg H] at E
    by_cases K:y.toNat<z.toNat
    ·rw [if_pos (by omega)];decide
    ·rw [if_neg K] at B
     by_cases U:z.toNat<y.toNat
     ·rw [if_pos U] at B;omega
     ·rw [if_neg U] at B;rw [if_neg (by omega),if_neg (by omega)];exact ih E B
theorem US:Go.Sort.SWO (Go.Proofs.ltOf cfS) where
 irrefl x:=by unfold Go.Proofs.ltOf;rw [JF];decide
 trans x y z E B:=Uu x y z E B
 ntrans x y z E B:=by
  cases h:ltS x z with
  | false=>exact h
  | true =>
   cases H:ltS y x with
   | true=>have:=Uu y x z H h;exact absurd this (by rw [show ltS y z=false from B];decide)
   | false =>
    have e:=V9 x y E H;subst e;exact absurd h (by rw [show ltS x z=false from B];decide)
end Go.Proofs.YtnjbjpaiepefoaaDoor
