import Derived.Test.YtnjbjpaiepefoaaGreatDoorSlQ
namespace Go.Proofs.YtnjbjpaiepefoaaGreatDoor
open Go
set_option linter.unusedVariables false
set_option linter.unusedSimpArgs false
def Ev {α:Type} (f:Nat→Option α) (v:α):Prop:=∃ K,∀ k,K≤k→f k=some v
namespace Ev
variable {α β:Type} {f:Nat→Option α} {v:α}
theorem pure (v:α):Ev (fun _=>some v) v:=⟨0,fun _ _=>rfl⟩
theorem ex (h:Ev f v):∃ k,f k=some v:=h.elim fun K h=>⟨K,h K (Nat.le_refl _)⟩
theorem bind {g:Nat→α→Option β} {w:β} (h:Ev f v) (B:Ev (fun k=>g k v) w):Ev (fun k=>(f k).bind (g k)) w:=by
 obtain ⟨K,h⟩:=h;obtain ⟨L,B⟩:=B
 exact ⟨max K L,fun k hk=>by
  show (f k).bind (g k)=some w;rw [h k (by omega)];exact B k (by omega)⟩
theorem congr {g:Nat→Option α} (h:Ev g v) (e:∀ k,f k=g k):Ev f v:=h.elim fun K h=>⟨K,fun k hk=>(e k).trans (h k hk)⟩
theorem eq {w:α} (h:Ev f v) (e:v=w):Ev f w:=e ▸ h
theorem shift (n:Nat) (h:Ev (fun k=>f (k+n)) v):Ev f v:=by
 obtain ⟨K,h⟩:=h;refine ⟨K+n,fun k hk=>?_⟩;have B:f (k-n+n)=some v:=h (k-n) (by omega)
 rwa [Nat.sub_add_cancel (by omega)] at B
theorem ite {c:Prop} [Decidable c] {g:Nat→Option α} (h:c→Ev f v) (B:¬ c→Ev g v):Ev (fun k=>if c then f k else g k) v:=by
 by_cases hc:c
 ·exact (h hc).congr fun k=>if_pos hc
 ·exact (B hc).congr fun k=>if_neg hc
theorem chk {c:Prop} [Decidable c] (hc:c) (h:Ev f v):Ev (fun k=>if c then f k else none) v:=h.congr fun k=>if_pos hc
theorem pos {c:Prop} [Decidable c] {g:Nat→Option α} (hc:c) (h:Ev f v):Ev (fun k=>if c then f k else g k) v:=h.congr fun k=>if_pos hc
theorem neg {c:Prop} [Decidable c] {g:Nat→Option α} (hc:¬ c) (h:Ev f v):Ev (fun k=>if c then g k else f k) v:=h.congr fun k=>if_neg hc
end Ev
end Go.Proofs.YtnjbjpaiepefoaaGreatDoor
