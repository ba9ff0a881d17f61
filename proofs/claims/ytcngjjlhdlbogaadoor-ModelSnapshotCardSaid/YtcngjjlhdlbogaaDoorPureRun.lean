import Derived.Test.YtcngjjlhdlbogaaDoorPureModel3
namespace Go.Proofs.YtcngjjlhdlbogaaDoor
open Go Go.RowKit
set_option linter.unusedVariables false
set_option linter.unusedSimpArgs false
set_option maxRecDepth 100000
abbrev Turn:=ferrymanlaw16_Turn
def doT (m:Mod) (t:Turn):api_Answer×Mod:=doS m t.Task t.Call
theorem scanL_len (m:Mod) (w:Int) (x:api_Call):∀ (L:List Str) (out:List api_Pair),(scanL m w x L out).length≤out.length+L.length
 | [],out=>by simp [scanL]
 | y::t,out=>by
  unfold scanL
  split
  ·omega
  ·refine Nat.le_trans (scanL_len m w x t _) ?_
   split<;>simp<;>omega
theorem ite_p {p:Prop} [Decidable p] {a b:api_Answer×Mod} {n:Nat} (h:a.1.Pairs.length≤n) (h':b.1.Pairs.length≤n):(if p then a else b).1.Pairs.length≤n:=by split<;>assumption
theorem doS_pairs {n:Nat} {m:Mod} (I:Inv n m) (t:Int) (x:api_Call):(doS m t x).1.Pairs.length≤n:=by
 have z:∀ e,(ans e).Pairs.length≤n:=fun e=>Nat.zero_le _
 have hg:∀ w,(getS m w x).Pairs.length≤n:=fun w=>by unfold getS;split<;>exact Nat.zero_le _
 have hs:∀ w,(scanS m w x).Pairs.length≤n:=fun w=>by
  have:=scanL_len m w x (keysS m) []
  have h2:=keysS_len m
  have h3:=I.rl
  show (scanL m w x (keysS m) []).length≤n
  simp at this;omega
 have hb:(beginS m t).1.Pairs.length≤n:=ite_p (z _) (z _)
 have hw:∀ k v,(writeS m k v).1.Pairs.length≤n:=fun k v=>ite_p (z _) (ite_p (z _) (ite_p (z _) (Nat.zero_le _)))
 have hc:∀ w,(commitS m w).1.Pairs.length≤n:=fun w=>ite_p (z _) (ite_p (z _) (z _))
 exact ite_p (z _) (ite_p hb (ite_p (hg _) (ite_p (hw _ _) (ite_p (hw _ _) (ite_p (hs _) (ite_p (hc _) (ite_p (z _) (ite_p (z _) (z _)))))))))
end Go.Proofs.YtcngjjlhdlbogaaDoor
