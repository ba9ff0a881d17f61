import Derived.Test.YtkknoimjgifhlaaGreatDoorSlN
namespace Go.Proofs.YtkknoimjgifhlaaGreatDoor
open Go
set_option linter.unusedVariables false
set_option linter.unusedSimpArgs false
def cfS (x y:Str):Int:=Lib.compareBytes x y
abbrev ltS:Str→Str→Bool:=Go.Proofs.ltOf cfS
theorem Ui:∀ a:Str,cfS a a=0
 | []=>rfl
 | x::a=>by
  have h:¬ x<x:=by simp [UInt8.lt_iff_toNat_lt]
  simp only [cfS,Lib.compareBytes,h,if_false];exact Ui a
theorem Kv {x y:UInt8} (h:¬ x<y) (h':¬ y<x):x=y:=by
 rw [UInt8.lt_iff_toNat_lt] at h h'
 exact UInt8.toNat_inj.1 (by omega)
theorem UI (x y:UInt8) (a b:Str):cfS (x::a) (y::b)=if x<y then -1 else if y<x then 1 else cfS a b:=by simp only [cfS,Lib.compareBytes]
theorem Vf:∀ a b:Str,ltS a b=false→ltS b a=false→a=b
 | [],[],_,_=>rfl
 | [],_::_,h,_=>by simp [Go.Proofs.ltOf,cfS,Lib.compareBytes] at h
 | _::_,[],_,h=>by simp [Go.Proofs.ltOf,cfS,Lib.compareBytes] at h
 | x::a,y::b,h1,h2=>by
  unfold ltS Go.Proofs.ltOf at h1 h2
  rw [UI] at h1 h2
  by_cases c:x<y
  ·simp [c] at h1
  ·by_cases c2:y<x
   ·simp [c2] at h2
   ·have e:=Kv c c2
    subst e
    simp only [c,if_false] at h1 h2
    rw [Vf a b h1 h2]
theorem UM:∀ a b c:Str,ltS a b=true→ltS b c=true→ltS a c=true
 | [],_,[],_,h=>by cases ‹Str›<;>simp [Go.Proofs.ltOf,cfS,Lib.compareBytes] at h
 | [],_,_::_,_,_=>by simp [Go.Proofs.ltOf,cfS,Lib.compareBytes]
 | _::_,[],_,h,_=>by simp [Go.Proofs.ltOf,cfS,Lib.compareBytes] at h
 | _::_,_::_,[],_,h=>by simp [Go.Proofs.ltOf,cfS,Lib.compareBytes] at h
 | x::a,y::b,z::c,h1,h2=>by
  have ih:=UM a b c
  unfold ltS Go.Proofs.ltOf at *
  rw [UI] at *
  simp only [UInt8.lt_iff_toNat_lt,decide_eq_true_eq] at *
  by_cases c1:x.toNat<y.toNat
  ·by_cases c2:y.toNat<z.toNat
   ·rw [if_pos (by omega)];decide
   ·rw [if_neg c2] at h2
    by_cases c3:z.toNat<y.toNat
    ·rw [if_pos c3] at h2;omega
    ·rw [if_pos (by omega)];decide
  ·rw [if_neg c1] at h1
   by_cases c2:y.toNat<x.toNat
   ·rw [if_pos c2] at h1;omega
   ·rw [if_neg c2] at h1
    by_cases c3:y.toNat<z.toNat
    ·rw [if_pos (by omega)];decide
    ·rw [if_neg c3] at h2
     by_cases c4:z.toNat<y.toNat
     ·rw [if_pos c4] at h2;omega
     ·rw [if_neg c4] at h2
      rw [if_neg (by omega),if_neg (by omega)]
      exact ih h1 h2
theorem Vw:Go.Sort.SWO (Go.Proofs.ltOf cfS) where
 irrefl x:=by unfold Go.Proofs.ltOf;rw [Ui];decide
 trans x y z h1 h2:=UM x y z h1 h2
 ntrans x y z h1 h2:=by
  cases h:ltS x z with
  | false=>exact h
  | true =>
   cases h3:ltS y x with
   | true=>have:=UM y x z h3 h;exact absurd this (by rw [show ltS y z=false from h2];decide)
   | false =>
    have e:=Vf x y h1 h3
    subst e
    exact absurd h (by rw [show ltS x z=false from h2];decide)
end Go.Proofs.YtkknoimjgifhlaaGreatDoor
