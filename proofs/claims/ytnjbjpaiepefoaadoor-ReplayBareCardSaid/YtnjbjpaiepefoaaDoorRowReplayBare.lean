/- The law ReplayBare holds of the given program: it returns true for every input; the arguments read as before. -/
import Derived.Test.YtnjbjpaiepefoaaDoorOpnp2
import Derived.Test.YtnjbjpaiepefoaaDoorPureReplayBare
import Derived.WalkKit
import Derived.ProofKit
import Derived.OpenShut
import Derived.ShutString
import Derived.ChangeOld
import Derived.Below
import Derived.SizedLaws
import Derived.Carry
import Derived.JoinedCond
import Derived.LaidMore
import Derived.SevenTiedAt
import Derived.Test.YtnjbjpaiepefoaaDoorCards
import Derived.Test.YtnjbjpaiepefoaaDoorTie
namespace Go.Proofs.YtnjbjpaiepefoaaDoor.replayBare
open Go Go.ChangeShapes Go.WideShapes Go.ChangeAt Go.RowKit
open Go.ChangeMaps (open_string shut_string)
set_option linter.unusedVariables false
set_option linter.unusedSimpArgs false
theorem own:ownKnob Tryd.prog.godebug = none:=by kernel_rfl
theorem laidOut:laidOutB Tryd.prog = true:=by kernel_rfl
set_option maxHeartbeats 4000000 in
set_option maxRecDepth 100000 in
theorem contract (H:Type) (enc:TypeId × Value → H) (W:World) (base:Nat) (args:Array Value) (ds gs:List (DataW H)) (before:List MemPlace)
  (hval0:∀ (j:Nat) t v,Tryd.f5.params[j]? = some t → args[j]? = some v → Value.okWide Tryd.prog W .any base t v)
  (hW:DataW.Whole enc Tryd.prog Tryd.f5.params.toList Rows.replayBareSpec.vars false W args.toList ds gs before) (hL:laidMetH Tryd.prog [("ferryman/model.does",Rows.laid_ferryman_model_does),("ferryman/replay.steps",Rows.laid_ferryman_replay_steps)] W) :
  Calls Tryd.prog 5 args W fun e W'=>∃ v,e = .returned v ∧ Rows.replayBareSpec.post enc Tryd.prog Tryd.f5 false true false false W args v W':=by
 have hval:∀ (j:Nat) t v,Tryd.f5.params[j]? = some t → args[j]? = some v → Value.okWide Tryd.prog W .any base t v:=hval0
 have hW':=hW
 obtain ⟨p,q,hA0,hV,rfl,hfz,hnd⟩:=hW
 have hA:DataW.TrodAll enc Tryd.prog W 0 (fun _=>true) true Tryd.f5.params.toList args.toList ds p:=hA0
 rw [Tryd.params5] at hA hval
 obtain ⟨v0,vs0,d0,ds0,p0,q0,hargs,rfl,rfl,h0,r0⟩:=trodAll_cons hA
 obtain ⟨v1,vs1,d1,ds1,p1,q1,rfl,rfl,rfl,h1,r1⟩:=trodAll_cons r0
 obtain ⟨v2,vs2,d2,ds2,p2,q2,rfl,rfl,rfl,h2,r2⟩:=trodAll_cons r1
 obtain ⟨v3,vs3,d3,ds3,p3,q3,rfl,rfl,rfl,h3,r3⟩:=trodAll_cons r2
 obtain ⟨rfl,rfl,rfl⟩:=trodAll_nil r3
 obtain rfl:args = #[v0,v1,v2,v3]:=by cases args; simp_all
 obtain ⟨rfl,rfl⟩:=trodVars_none hV
 have k0:=h0
 have lt0:∀ x ∈ p0,x.block < W.heap.size:=by obtain ⟨m,hm⟩:=k0; exact DataW.trod_lt m _ _ _ hm
 obtain ⟨z0,rfl⟩:=U3 Tryd.underlying23 (hval 0 23 v0 rfl rfl)
 obtain ⟨f0,hf0⟩:=h0
 obtain ⟨a0,hR0,wf0,hsz0⟩:=VE H enc W (fun _=>true) true f0 _ _ hf0
 replace hsz0:X2 a0 ≤ Rows.uptoBulk d0:=hsz0
 have e0:z0.toList = [.int .i64 a0.Tasks,.int .i64 a0.Active,.int .i64 a0.Keys,.int .i64 a0.Depth,.int .i64 a0.TS,.int .i64 a0.KeyLen,.int .i64 a0.ValLen,.int .i64 a0.Fan]:=hR0
 obtain rfl:z0 = #[.int .i64 a0.Tasks,.int .i64 a0.Active,.int .i64 a0.Keys,.int .i64 a0.Depth,.int .i64 a0.TS,.int .i64 a0.KeyLen,.int .i64 a0.ValLen,.int .i64 a0.Fan]:=by rw [← Array.toArray_toList (xs:=z0),e0]
 have k1:=h1
 have lt1:∀ x ∈ p1,x.block < W.heap.size:=by obtain ⟨m,hm⟩:=k1; exact DataW.trod_lt m _ _ _ hm
 obtain ⟨A1,n1,c1,rfl⟩:=okWide_slice Tryd.underlying24 (hval 1 24 v1 rfl rfl)
 obtain ⟨f1,hf1⟩:=h1
 obtain ⟨a1,hR1,wf1,hsz1⟩:=(XY Tryd.underlying24 (by kernel_rfl) (by decide) (XY Tryd.underlying44 (by kernel_rfl) (by decide) VQ)) H enc W (fun _=>true) true f1 _ _ hf1
 replace hsz1:(szSl (szSl VB)) a1 ≤ Rows.uptoBulk d1:=hsz1
 obtain ⟨_,hr1,e1⟩:=hR1
 cases e1
 obtain ⟨rfl,_⟩:=hr1.len
 have k2:=h2
 have lt2:∀ x ∈ p2,x.block < W.heap.size:=by obtain ⟨m,hm⟩:=k2; exact DataW.trod_lt m _ _ _ hm
 obtain ⟨A2,n2,c2,rfl⟩:=okWide_slice Tryd.underlying25 (hval 2 25 v2 rfl rfl)
 obtain ⟨f2,hf2⟩:=h2
 obtain ⟨a2,hR2,wf2,hsz2⟩:=(XY Tryd.underlying25 (by kernel_rfl) (by decide) Vf) H enc W (fun _=>true) true f2 _ _ hf2
 replace hsz2:(szSl VI) a2 ≤ Rows.uptoBulk d2:=hsz2
 obtain ⟨_,hr2,e2⟩:=hR2
 cases e2
 obtain ⟨rfl,_⟩:=hr2.len
 have k3:=h3
 have lt3:∀ x ∈ p3,x.block < W.heap.size:=by obtain ⟨m,hm⟩:=k3; exact DataW.trod_lt m _ _ _ hm
 obtain ⟨z3,rfl,_⟩:=open_int Tryd.underlying3 (hval 3 3 v3 rfl rfl) h3
 obtain ⟨f3,hf3⟩:=h3
 obtain ⟨a3,hR3,wf3,hsz3⟩:=(Y3 Tryd.underlying3) H enc W (fun _=>true) true f3 _ _ hf3
 replace hsz3:sz1 a3 ≤ Rows.uptoBulk d3:=hsz3
 have e3:[Value.int .i64 z3] = [Value.int .i64 a3]:=hR3
 cases e3
 obtain ⟨k,hpure⟩:=pure_ReplayBare a0 a1 a2 z3 wf0 wf1 wf2 wf3
 have hcon:=U0 (v0:=.bool true) (YZ.con k (Hp.of W) a0 A1 c1 a1 A2 c2 a2 z3 true hr1 hr2 (Uv hL) (UR hL) hpure) (fun v M Γ hΦ=>hΦ.1)
 refine hcon.mono fun e W' ⟨he,bel⟩=>?_
 subst he
 exact ⟨_,rfl,_,_,_,[],_,[],hW',trodAll_mk1 (shut_bool Tryd.underlying4 _),(trodAll_cons_mk (Below.trod laidOut (by kernel_rfl) (of_decide_eq_true (by kernel_rfl)) k0 bel lt0) (trodAll_cons_mk (Below.trod laidOut (by kernel_rfl) (of_decide_eq_true (by kernel_rfl)) k1 bel lt1) (trodAll_cons_mk (Below.trod laidOut (by kernel_rfl) (of_decide_eq_true (by kernel_rfl)) k2 bel lt2) (trodAll_cons_mk (Below.trod laidOut (by kernel_rfl) (of_decide_eq_true (by kernel_rfl)) k3 bel lt3) trodAll_mk0)))),rfl,bel.frame _,fun h=>by cases h⟩
set_option maxRecDepth 100000 in
theorem lifted (os:Os) (started:os.Started) (H:Type) (enc:TypeId × Value → H) :
  ReturnsInHanded {} Tryd.checked os 5 .any (fun w args=>(Rows.replayBareSpec.pre enc Tryd.prog Tryd.f5 [] false w args ∧ laidMetH Tryd.prog [("ferryman/model.does",Rows.laid_ferryman_model_does),("ferryman/replay.steps",Rows.laid_ferryman_replay_steps)] w) ∧ sizedMet enc Tryd.prog Tryd.f5 (OpenSpec.ofChange Rows.replayBareSpec) false w args) (Rows.replayBareSpec.post enc Tryd.prog Tryd.f5 false true false false):=by
 refine returnsInHanded_of_change_and (C:=Tryd.checked) (X:=fun w _=>laidMetH Tryd.prog [("ferryman/model.does",Rows.laid_ferryman_model_does),("ferryman/replay.steps",Rows.laid_ferryman_replay_steps)] w) (fun _ _ _ hh h=>h.of_heap hh) own started (by kernel_rfl) Tryd.func5
  (ChangeSpec.witness_shaped (enc:=enc) (C:=Tryd.checked) (os:=os) (X:=fun w _=>laidMetH Tryd.prog [("ferryman/model.does",Rows.laid_ferryman_model_does),("ferryman/replay.steps",Rows.laid_ferryman_replay_steps)] w) false (World.doorLaid Tryd.prog 400 os) #[.agg #[.int .i64 0,.int .i64 0,.int .i64 0,.int .i64 0,.int .i64 0,.int .i64 0,.int .i64 0,.int .i64 0],.slice none 0 0,.slice none 0 0,.int .i64 0] 8 rfl (World.shaped_of_RefB (by kernel_rfl) (by kernel_rfl)) (by kernel_rfl) (by kernel_rfl) (by kernel_rfl) (UY os _)) ?_
 intro W base args ds gs before hval0 hW _ hz hL _
 exact contract H enc W base args ds gs before hval0 hW hL
theorem over:Rows.ReplayBareSaid :=
 OpenClaim.holds_of_wide 5 Tryd.f5 rfl rfl rfl rfl rfl rfl rfl ⟨rfl,rfl,rfl,rfl,rfl⟩ rfl rfl rfl rfl rfl (by kernel_rfl) Tryd.func5 (by kernel_rfl)
  (of_decide_eq_true (by kernel_rfl)) (by unfold Func.isWrapper; first | (rw [if_pos (by decide +kernel)]; kernel_rfl) | (rw [if_neg (by decide +kernel)]; exact ⟨rfl,rfl⟩))
  (fun os started H enc _=>lifted os started H enc)
theorem proved:Rows.ReplayBareCardSaid :=
 Claim7.holds_tied_plain_at .later [] [.funcs,.funcs] true Rows.replayBareCard.stood.harness true
  over (fun _ h=>by cases h) (by kernel_rfl) (fun _ h=>by cases h) replayBare_row_tie rfl ⟨rfl,rfl⟩ (by kernel_rfl) rfl
  (fun f fn hf hfn=>by
   obtain rfl:f = 5:=Option.some.inj ((show Tryd.prog.funcNamed "ferryman/ferrymanlaw28.ReplayBare" = some 5 by kernel_rfl).symm.trans hf) |>.symm
   obtain rfl:fn = Tryd.f5:=(Option.some.inj (Tryd.func5.symm.trans hfn)).symm
   exact ⟨by kernel_rfl,fun j t ht=>by
    rw [Tryd.params5] at ht
    have hm:t ∈ [23,24,25,3]:=by simpa using Array.mem_of_getElem? ht
    have hall:(([23,24,25,3]:List Nat).all fun u=>!Tryd.prog.wantsStandIn u) = true:=by kernel_rfl
    exact (show Tryd.prog.wantsStandIn t = false by simpa using List.all_eq_true.1 hall t hm)⟩)
  (by kernel_rfl)
#print axioms proved
end Go.Proofs.YtnjbjpaiepefoaaDoor.replayBare
namespace Go.Proofs.YtnjbjpaiepefoaaDoor
theorem replayBare_holds:Rows.ReplayBareCardSaid:=replayBare.proved
end Go.Proofs.YtnjbjpaiepefoaaDoor
