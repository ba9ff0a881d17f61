/- The law ModelSnapshot holds of the given program: it returns true for every input; the arguments read as before. -/
import Derived.Test.YtcngjjlhdlbogaaDoorOpnm4
import Derived.Test.YtcngjjlhdlbogaaDoorPureModelSnapshot
import Derived.WalkKit
import Derived.ProofKit
import Derived.OpenShut
import Derived.ShutString
import Derived.ChangeOld
import Derived.Below
import Derived.SizedLaws
import Derived.Carry
import Derived.JoinedCond
import Derived.LaidMore
import Derived.SevenTiedAt
import Derived.Test.YtcngjjlhdlbogaaDoorCards
import Derived.Test.YtcngjjlhdlbogaaDoorTie
namespace Go.Proofs.YtcngjjlhdlbogaaDoor.modelSnapshot
open Go Go.ChangeShapes Go.WideShapes Go.ChangeAt Go.RowKit
open Go.ChangeMaps (open_string shut_string)
set_option linter.unusedVariables false
set_option linter.unusedSimpArgs false
theorem own:ownKnob Tryd.prog.godebug=none:=by kernel_rfl
theorem laidOut:laidOutB Tryd.prog=true:=by kernel_rfl
set_option maxHeartbeats 4000000 in
set_option maxRecDepth 100000 in
theorem contract (H:Type) (enc:TypeId×Value→H) (W:World) (base:Nat) (args:Array Value) (ds gs:List (DataW H)) (before:List MemPlace)
  (hval0:∀ (j:Nat) t v,Tryd.f3.params[j]?=some t→args[j]?=some v→Value.okWide Tryd.prog W .any base t v)
  (hW:DataW.Whole enc Tryd.prog Tryd.f3.params.toList Rows.modelSnapshotSpec.vars false W args.toList ds gs before) (hL:laidMetH Tryd.prog [("ferryman/model.does",Rows.laid_ferryman_model_does)] W) :
  Calls Tryd.prog 3 args W fun e W'=>∃ v,e=.returned v∧Rows.modelSnapshotSpec.post enc Tryd.prog Tryd.f3 false true false false W args v W':=by
 have hval:∀ (j:Nat) t v,Tryd.f3.params[j]?=some t→args[j]?=some v→Value.okWide Tryd.prog W .any base t v:=hval0
 have hW':=hW
 obtain ⟨p,q,hA0,hV,rfl,hfz,hnd⟩:=hW
 have hA:DataW.TrodAll enc Tryd.prog W 0 (fun _=>true) true Tryd.f3.params.toList args.toList ds p:=hA0
 rw [Tryd.params3] at hA hval
 obtain ⟨v0,vs0,d0,ds0,p0,q0,hargs,rfl,rfl,h0,r0⟩:=trodAll_cons hA
 obtain ⟨v1,vs1,d1,ds1,p1,q1,rfl,rfl,rfl,h1,r1⟩:=trodAll_cons r0
 obtain ⟨rfl,rfl,rfl⟩:=trodAll_nil r1
 obtain rfl:args=#[v0,v1]:=by cases args;simp_all
 obtain ⟨rfl,rfl⟩:=trodVars_none hV
 have k0:=h0
 have lt0:∀ x∈p0,x.block<W.heap.size:=by obtain ⟨m,hm⟩:=k0;exact DataW.trod_lt m _ _ _ hm
 obtain ⟨z0,rfl⟩:=agg_of Tryd.underlying23 (hval 0 23 v0 rfl rfl)
 obtain ⟨f0,hf0⟩:=h0
 obtain ⟨a0,hR0,wf0,hsz0⟩:=open_api_Config H enc W (fun _=>true) true f0 _ _ hf0
 replace hsz0:sz_api_Config a0≤Rows.uptoBulk d0:=hsz0
 have e0:z0.toList=[.int .i64 a0.Tasks,.int .i64 a0.Active,.int .i64 a0.Keys,.int .i64 a0.Depth,.int .i64 a0.TS,.int .i64 a0.KeyLen,.int .i64 a0.ValLen,.int .i64 a0.Fan]:=hR0
 obtain rfl:z0=#[.int .i64 a0.Tasks,.int .i64 a0.Active,.int .i64 a0.Keys,.int .i64 a0.Depth,.int .i64 a0.TS,.int .i64 a0.KeyLen,.int .i64 a0.ValLen,.int .i64 a0.Fan]:=by rw [← Array.toArray_toList (xs:=z0),e0]
 have k1:=h1
 have lt1:∀ x∈p1,x.block<W.heap.size:=by obtain ⟨m,hm⟩:=k1;exact DataW.trod_lt m _ _ _ hm
 obtain ⟨A1,n1,c1,rfl⟩:=okWide_slice Tryd.underlying24 (hval 1 24 v1 rfl rfl)
 obtain ⟨f1,hf1⟩:=h1
 obtain ⟨a1,hR1,wf1,hsz1⟩:=(opens_slice Tryd.underlying24 (by kernel_rfl) (by decide) open_ferrymanlaw16_Turn) H enc W (fun _=>true) true f1 _ _ hf1
 replace hsz1:(szSl sz_ferrymanlaw16_Turn) a1≤Rows.uptoBulk d1:=hsz1
 obtain ⟨_,hr1,e1⟩:=hR1
 cases e1
 obtain ⟨rfl,_⟩:=hr1.len
 obtain ⟨k,hpure⟩:=pure_ModelSnapshot a0 a1 wf0 wf1
 have hcon:=con_row (v0:=.bool true) (ferrymanlaw16_ModelSnapshot.con k (Hp.of W) a0 A1 c1 a1 true hr1 (of_laid hL) hpure) (fun v M Γ hΦ=>hΦ.1)
 refine hcon.mono fun e W' ⟨he,bel⟩=>?_
 subst he
 exact ⟨_,rfl,_,_,_,[],_,[],hW',trodAll_mk1 (shut_bool Tryd.underlying4 _),(trodAll_cons_mk (Below.trod laidOut (by kernel_rfl) (of_decide_eq_true (by kernel_rfl)) k0 bel lt0) (trodAll_cons_mk (Below.trod laidOut (by kernel_rfl) (of_decide_eq_true (by kernel_rfl)) k1 bel lt1) trodAll_mk0)),rfl,bel.frame _,fun h=>by cases h⟩
set_option maxRecDepth 100000 in
theorem lifted (os:Os) (started:os.Started) (H:Type) (enc:TypeId×Value→H) :
  ReturnsInHanded {} Tryd.checked os 3 .any (fun w args=>(Rows.modelSnapshotSpec.pre enc Tryd.prog Tryd.f3 [] false w args∧laidMetH Tryd.prog [("ferryman/model.does",Rows.laid_ferryman_model_does)] w)∧sizedMet enc Tryd.prog Tryd.f3 (OpenSpec.ofChange Rows.modelSnapshotSpec) false w args) (Rows.modelSnapshotSpec.post enc Tryd.prog Tryd.f3 false true false false):=by
 refine returnsInHanded_of_change_and (C:=Tryd.checked) (X:=fun w _=>laidMetH Tryd.prog [("ferryman/model.does",Rows.laid_ferryman_model_does)] w) (fun _ _ _ hh h=>h.of_heap hh) own started (by kernel_rfl) Tryd.func3
  (ChangeSpec.witness_shaped (enc:=enc) (C:=Tryd.checked) (os:=os) (X:=fun w _=>laidMetH Tryd.prog [("ferryman/model.does",Rows.laid_ferryman_model_does)] w) false (World.doorLaid Tryd.prog 400 os) #[.agg #[.int .i64 0,.int .i64 0,.int .i64 0,.int .i64 0,.int .i64 0,.int .i64 0,.int .i64 0,.int .i64 0],.slice none 0 0] 8 rfl (World.shaped_of_RefB (by kernel_rfl) (by kernel_rfl)) (by kernel_rfl) (by kernel_rfl) (by kernel_rfl) (door_met os _)) ?_
 intro W base args ds gs before hval0 hW _ hz hL _
 exact contract H enc W base args ds gs before hval0 hW hL
theorem over:Rows.ModelSnapshotSaid :=
 OpenClaim.holds_of_wide 3 Tryd.f3 rfl rfl rfl rfl rfl rfl rfl ⟨rfl,rfl,rfl,rfl,rfl⟩ rfl rfl rfl rfl rfl (by kernel_rfl) Tryd.func3 (by kernel_rfl)
  (of_decide_eq_true (by kernel_rfl)) (by unfold Func.isWrapper;first | (rw [if_pos (by decide +kernel)];kernel_rfl) | (rw [if_neg (by decide +kernel)];exact ⟨rfl,rfl⟩))
  (fun os started H enc _=>lifted os started H enc)
theorem proved:Rows.ModelSnapshotCardSaid :=
 Claim7.holds_tied_plain_at .later [] [.funcs] true Rows.modelSnapshotCard.stood.harness true
  over (fun _ h=>by cases h) (by kernel_rfl) (fun _ h=>by cases h) modelSnapshot_row_tie rfl ⟨rfl,rfl⟩ (by kernel_rfl) rfl
  (fun f fn hf hfn=>by
   obtain rfl:f=3:=Option.some.inj ((show Tryd.prog.funcNamed "ferryman/ferrymanlaw16.ModelSnapshot"=some 3 by kernel_rfl).symm.trans hf) |>.symm
   obtain rfl:fn=Tryd.f3:=(Option.some.inj (Tryd.func3.symm.trans hfn)).symm
   exact ⟨by kernel_rfl,fun j t ht=>by
    rw [Tryd.params3] at ht
    have hm:t∈[23,24]:=by simpa using Array.mem_of_getElem? ht
    have hall:(([23,24]:List Nat).all fun u=>!Tryd.prog.wantsStandIn u)=true:=by kernel_rfl
    exact (show Tryd.prog.wantsStandIn t=false by simpa using List.all_eq_true.1 hall t hm)⟩)
  (by kernel_rfl)
#print axioms proved
end Go.Proofs.YtcngjjlhdlbogaaDoor.modelSnapshot
namespace Go.Proofs.YtcngjjlhdlbogaaDoor
theorem modelSnapshot_holds:Rows.ModelSnapshotCardSaid:=modelSnapshot.proved
end Go.Proofs.YtcngjjlhdlbogaaDoor
