import Derived.Test.YtkknoimjgifhlaaGreatDoorSlM
namespace Go.Proofs.YtkknoimjgifhlaaGreatDoor
open Go
set_option linter.unusedVariables false
set_option linter.unusedSimpArgs false
set_option linter.unusedSectionVars false
def onList {α β:Type} (l:List α) (a:β) (f:α→List α→β):β:=match l with
 | []=>a
 | x::t=>f x t
theorem Vd {α β:Type} (a:β) (f:α→List α→β):onList ([]:List α) a f=a:=rfl
theorem X7 {α β:Type} (x:α) (t:List α) (a:β) (f:α→List α→β):onList (x::t) a f=f x t:=rfl
theorem OLe.onList {α β:Type} {l:List α} {a a':Option β} {f f':α→List α→Option β} (h:OLe a a') (k:∀ x t,OLe (f x t) (f' x t)):OLe (onList l a f) (onList l a' f'):=by
 cases l with
 | nil=>exact h
 | cons x t=>exact k x t
section
variable {rn:Rd} {P:Program} {N:Nat} {ops:Array Oper} {Q:Post} {rest:List Oper} {ρ:Rho} {w:World} {M F:Hp} {Δ Γ1 Γ2:List Asr} {d:Nat} {T:TypeId} {ps:String} {af:Array Edge}
end
section
variable {rn:Rd} {P:Program} {N:Nat} {ops:Array Oper} {Q:Post} {rest:List Oper} {ρ:Rho} {w:World} {M F:Hp} {Γ:List Asr} {x y:Operand} {t e T:TypeId} {ps:String} {af:Array Edge} {g:Option (Nat×Bool)} {dst:Option Tmp} {bytes:Nat} {agg:Bool} {z:Value}
variable {α:Type} {r:Rep α} {l:List α} {A:Option Addr} {nn cc:Nat}
end
section
variable {rn:Rd} {P:Program} {N:Nat} {ops:Array Oper} {Q:Post} {rest:List Oper} {ρ:Rho} {w:World} {M F:Hp} {Γ:List Asr} {x y u s:Operand} {ty:TypeId} {ps:String} {af:Array Edge} {d:Nat}
variable {κ ν:Type} [DecidableEq κ] {enc:κ→Value} {encv:ν→Value} {l:List (κ×ν)} {A:Option Addr} {t kt vt:TypeId}
end
section
variable {P:Program} {w:World} {M F:Hp} {Γ:List Asr} {κ ν:Type} [DecidableEq κ] {enc:κ→Value} {encv:ν→Value} {l:List (κ×ν)} {A:Option Addr} {t kt vt ty:TypeId} {ρ:Rho} {x y:Operand} {ps:String} {af:Array Edge} {g:Option (Nat×Bool)} {dst:Option Tmp}
end
theorem qq {κ σ R:Type} (f:Nat→σ→List κ→Option R) (ex:σ→Option R) (B:κ→σ→Option σ) (h0:∀ s t,f 0 s t=none) (h1:∀ k s t,f (k+1) s t=onList t (ex s) (fun y t'=>Option.bind (B y s) fun s'=>f k s' t'))
  (hc:∀ y z s,Option.bind (B y s) (B z)=Option.bind (B z s) (B y)) {t t':List κ} (hp:t.Perm t'):∀ (k:Nat) (s:σ),f k s t=f k s t':=by
 induction hp with
 | nil=>intros;rfl
 | cons x _ ih =>
  intro k s
  cases k with
  | zero=>rw [h0,h0]
  | succ k=>rw [h1,h1,X7,X7];exact congrArg _ (funext fun s'=>ih k s')
 | swap x y l =>
  intro k s
  cases k with
  | zero=>rw [h0,h0]
  | succ k =>
   rw [h1,h1,X7,X7]
   cases k with
   | zero =>
    have e:∀ z:Option σ,∀ t:List κ,(Option.bind z fun s'=>f 0 s' t)=none:=fun z t=>by cases z with
     | none=>rfl
     | some a=>exact h0 a t
    rw [e,e]
   | succ k =>
    have e:∀ a b:κ,(Option.bind (B a s) fun s'=>f (k+1) s' (b::l))=Option.bind (Option.bind (B a s) (B b)) fun s'=>f k s' l:=fun a b=>by
     rw [Option.bind_assoc]
     exact congrArg _ (funext fun s'=>by rw [h1,X7])
    rw [e,e,hc]
 | trans _ _ ih1 ih2=>intro k s;rw [ih1,ih2]
end Go.Proofs.YtkknoimjgifhlaaGreatDoor
