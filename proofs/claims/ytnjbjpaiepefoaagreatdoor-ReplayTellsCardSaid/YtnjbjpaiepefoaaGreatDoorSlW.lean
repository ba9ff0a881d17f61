import Derived.Test.YtnjbjpaiepefoaaGreatDoorSlV
import Derived.KernelRfl
namespace Go.Proofs.YtnjbjpaiepefoaaGreatDoor
open Go
set_option linter.unusedVariables false
set_option linter.unusedSimpArgs false
set_option linter.unusedSectionVars false
abbrev vI (x:Int):Value:=.int .i64 x
abbrev vU (x:Int):Value:=.int .u8 x
abbrev vS (x:Str):Value:=.string (bs x)
theorem gup {M M':Hp} {b:Nat} {f:TypeId→Nat×Nat→Obj} (h:∃ gt fr,M b=some (f gt fr)) (B:M.le M'):∃ gt fr,M' b=some (f gt fr):=let ⟨gt,fr,E⟩:=h;⟨gt,fr,B _ _ E⟩
theorem mo {α:Type} {x y:Option α} (h:OLe x y:=by
 repeat' (first | with_reducible exact OLe.none | with_reducible exact OLe.some | with_reducible refine OLe.ite ?_ ?_ | with_reducible refine OLe.bind ?_ (fun _=>?_) | exact hrec _ _ | exact hrec _ _ _ | exact hrec _ _ _ _ | exact hrec _ _ _ _ _ | exact hrec _ _ _ _ _ _ | exact hrec _ _ _ _ _ _ _ | with_reducible exact m1 | with_reducible exact m2 | with_reducible exact m3 | with_reducible exact m4 | with_reducible exact m5 | with_reducible exact m6 | with_reducible exact m7 | with_reducible exact m8 | with_reducible exact m9 | with_reducible exact m10 | with_reducible exact m11 | with_reducible exact m12 | with_reducible exact m13 | with_reducible exact m14 | exact ih | refine OLe.bind ?_ (fun _=>?_) | refine OLe.ite ?_ ?_ | refine OLe.elim (fun _=>?_) (fun _=>?_) | refine OLe.onList ?_ (fun _ _=>?_) | split)):OLe x y:=h
section
variable {rn:Rd} {P:Program} {N d:Nat} {ops:Array Oper} {K:Rho→World→Prop} {S:World→Prop} {L fuel:Nat} {listed:Array Bool} {ρ:Rho} {w:World} {o:Oper}
theorem Wt (i:Nat) (hi:ops[i]?=some o) (hdst:o.dst=some d) (hd:Nat.blt d N=true) (v:Value) (hg:o.guard=none) (hy:∀ w,S w→(execOp (evR ρ) o).run P w=.ok (.value v) w) (hS:S w)
  (h:Wa rn P N ops K S L fuel (listed.setIfInBounds i true) (upd ρ d v) w) (hk:takeOK ops listed L i=true:=by as_aux_lemma=>kernel_rfl):Wa rn P N ops K S L (fuel+1) listed ρ w:=K4 hi hk hdst hd v hg hy hS h
theorem WtY (i:Nat) {j:Nat} {b:Bool} (hi:ops[i]?=some o) (hdst:o.dst=some d) (hd:Nat.blt d N=true) (v:Value) (hg:o.guard=some (j,b)) (hj:yR ops ρ j=some b) (hy:∀ w,S w→(execOp (evR ρ) o).run P w=.ok (.value v) w) (hS:S w)
  (h:Wa rn P N ops K S L fuel (listed.setIfInBounds i true) (upd ρ d v) w) (hk:takeOK ops listed L i=true:=by as_aux_lemma=>kernel_rfl):Wa rn P N ops K S L (fuel+1) listed ρ w:=KM hi hk hdst hd v hg hj hy hS h
theorem Wo (i:Nat) (hi:ops[i]?=some o) (h:Wl rn P N ops (onlyN fun ρ w=>(L≤i∨S w)∧Wa rn P N ops K S L fuel (listed.setIfInBounds i true) ρ w) [o] ρ w) (hr:Region.ready .any ops listed=[i]:=by as_aux_lemma=>kernel_rfl):Wa rn P N ops K S L (fuel+1) listed ρ w:=QCb hi hr h
theorem Wz (h:K ρ w) (hr:Region.ready .any ops listed=[]:=by as_aux_lemma=>kernel_rfl):Wa rn P N ops K S L fuel listed ρ w:=QCc hr h
end
theorem J {α:Sort _} {a:α}:a=a:=rfl
theorem cB {a b:Bool} (h:a=b):Value.bool a=Value.bool b:=congrArg Value.bool h
theorem cS {α:Type _} {a b:α} (h:a=b):some a=some b:=congrArg some h
theorem oi {α:Type _} {a b:α} (h:some a=some b):a=b:=Option.some.inj h
theorem St.pk {w:World} {M F:Hp} {Γ:List Asr} (S:St w M F Γ) (l:List Nat) (hn:l.Nodup:=by decide):St w M F (l.filterMap (Γ[·]?)):=S.pick l hn
end Go.Proofs.YtnjbjpaiepefoaaGreatDoor
