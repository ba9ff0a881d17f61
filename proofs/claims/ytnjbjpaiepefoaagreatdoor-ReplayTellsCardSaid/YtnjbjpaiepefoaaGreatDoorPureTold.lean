import Derived.Test.YtnjbjpaiepefoaaGreatDoorPureRun28
namespace Go.Proofs.YtnjbjpaiepefoaaGreatDoor
open Go Go.RowKit
set_option linter.unusedVariables false
set_option linter.unusedSimpArgs false
set_option maxRecDepth 100000
theorem QB2 {p:Progs} {e:QB} (g:goodE p e):e.What=1∨e.What=2∨e.What=3:=by have:=g.2.1;have:=g.2.2.1;omega
theorem qO (p:Progs) (e:QB):∀ (l:List QB) (a:Int) (x y:Core),overC p l a x=some y→overC p (l++[e]) a x=if may p y e then some (goS p y (a+(l.length:Int)) e) else none
 | [],a,x,y,h=>by
  cases h
  show (if may p x e then some (goS p x a e) else none)=_;rw [List.length_nil,show a+((0:Nat):Int)=a by omega]
 | z::l,a,x,y,h=>by
  rw [overC] at h
  by_cases hm:may p x z
  ·rw [if_pos hm] at h;rw [List.cons_append,overC,if_pos hm,qO p e l (a+1) _ y h,List.length_cons,show a+1+(l.length:Int)=a+((l.length+1:Nat):Int) by omega]
  ·rw [if_neg hm] at h;cases h
def RTold (d:List QB) (y:Core):Prop:=∀ (j:Nat) (h:j<y.done.length),0≤y.done[j].Back→∃ b:Nat,y.done[j].Back=(b:Int)∧∃ hb:b<d.length,d[b].Answer=y.done[j].Answer
theorem RTold.step {T:Nat} {p:Progs} (hp:p.length≤T) {d:List QB} {y:Core} (D:DI T y) (R:RTold d y) {e:QB} (hm:may p y e) (ho:e.What=3→(rd y.done (rd y.last e.Task)).Answer=e.Answer):RTold (d++[e]) (goS p y (d.length:Int) e):=by
 have old:∀ (j:Nat) (h:j<y.done.length),0≤y.done[j].Back→∃ b:Nat,y.done[j].Back=(b:Int)∧∃ hb:b<(d++[e]).length,(d++[e])[b].Answer=y.done[j].Answer:=fun j h h0=>by
  obtain ⟨b,V,hb,W⟩:=R j h h0;exact ⟨b,V,by rw [List.length_append];omega,by rw [List.getElem_append_left hb];exact W⟩
 have w:=QB2 hm.1;intro j h h0
 by_cases G:e.What=1
 ·have E:(goS p y (d.length:Int) e).done=y.done:=by unfold goS;rw [if_pos G]
  simp only [E] at h h0 ⊢;exact old j h h0
 by_cases H:e.What=2
 ·have E:(goS p y (d.length:Int) e).done=y.done++[⟨e.Task,e.Call,(doS y.m e.Task (rd (rd p e.Task) e.Call)).1,(d.length:Int),-1⟩]:=by unfold goS;rw [if_neg G,if_pos H]
  simp only [E] at h h0 ⊢
  by_cases c:j<y.done.length
  ·rw [List.getElem_append_left c] at h0 ⊢;exact old j c h0
  ·rw [List.getElem_append_right (by omega)] at h0;have:j-y.done.length=0:=by simp at h;omega
   simp [this] at h0
 ·have K:e.What=3:=by omega
  obtain ⟨B,O,U,Y⟩:=D.find hp hm K
  have E:(goS p y (d.length:Int) e).done=y.done.set B ⟨y.done[B].Task,y.done[B].Call,y.done[B].Answer,y.done[B].Mark,(d.length:Int)⟩:=by
   unfold goS;rw [if_neg G,if_neg H,U,rdN O];rfl
  simp only [E] at h h0 ⊢;have hj:j<y.done.length:=by simpa using h
  rw [List.getElem_set] at h0 ⊢
  by_cases q:B=j
  ·subst q;rw [if_pos rfl];refine ⟨d.length,rfl,by simp,?_⟩;rw [List.getElem_append_right (by omega)];have:=ho K;rw [U,rdN O] at this;simp [this]
  ·rw [if_neg q] at h0 ⊢;exact old j hj h0
end Go.Proofs.YtnjbjpaiepefoaaGreatDoor
