import Derived.Test.YtcngjjlhdlbogaaDoorGm4B
import Derived.Test.YtcngjjlhdlbogaaDoorSlH
import Derived.KernelRfl
import Derived.ProofKit
import Derived.LaidMore
import Derived.OpenShut
import Derived.FnData
import Derived.MakeChecks
import Derived.LaidHandle
import Derived.LaidLaws
namespace Go.Proofs.YtcngjjlhdlbogaaDoor
open Go Go.RowKit
set_option linter.unusedVariables false
set_option linter.unusedSimpArgs false
set_option maxRecDepth 100000
def wf_api_Config (x:api_Config):Prop:=(wfInt .i64) x.Tasks∧(wfInt .i64) x.Active∧(wfInt .i64) x.Keys∧(wfInt .i64) x.Depth∧(wfInt .i64) x.TS∧(wfInt .i64) x.KeyLen∧(wfInt .i64) x.ValLen∧(wfInt .i64) x.Fan
def sz_api_Config (x:api_Config):Nat:=sz1 x.Tasks+sz1 x.Active+sz1 x.Keys+sz1 x.Depth+sz1 x.TS+sz1 x.KeyLen+sz1 x.ValLen+sz1 x.Fan+1
theorem open_api_Config:Opens Tryd.prog 23 r_api_Config wf_api_Config sz_api_Config:=by
 intro H enc w sp held fuel cs x h
 obtain ⟨xs,n,rfl,rfl,hl,hxs,hf⟩:=DataW.trod_struct Tryd.underlying23 h
 have hl':cs.length=8:=hl.trans (by kernel_rfl)
 have hx':xs.length=8:=hxs.trans (by kernel_rfl)
 obtain ⟨y0,y1,y2,y3,y4,y5,y6,y7,rfl⟩:∃ y0 y1 y2 y3 y4 y5 y6 y7,xs=[y0,y1,y2,y3,y4,y5,y6,y7]:=by
  match xs,hx' with | [y0,y1,y2,y3,y4,y5,y6,y7],_=>exact ⟨y0,y1,y2,y3,y4,y5,y6,y7,rfl⟩
 obtain ⟨c0,c1,c2,c3,c4,c5,c6,c7,rfl⟩:∃ c0 c1 c2 c3 c4 c5 c6 c7,cs=[c0,c1,c2,c3,c4,c5,c6,c7]:=by
  match cs,hl' with | [c0,c1,c2,c3,c4,c5,c6,c7],_=>exact ⟨c0,c1,c2,c3,c4,c5,c6,c7,rfl⟩
 have h0:DataW.trod enc Tryd.prog w 0 sp held n 3 (([c0,c1,c2,c3,c4,c5,c6,c7].drop 0).take (Tryd.prog.cellsOf 3))=some y0:=hf 0 _ rfl
 rw [(by kernel_rfl:Tryd.prog.cellsOf 3=1)] at h0
 replace h0:DataW.trod enc Tryd.prog w 0 sp held n 3 [c0]=some y0:=h0
 obtain ⟨a0,r0,w0,s0⟩:=(opens_int Tryd.underlying3) H enc w sp held n _ _ h0
 have h1:DataW.trod enc Tryd.prog w 0 sp held n 3 (([c0,c1,c2,c3,c4,c5,c6,c7].drop 1).take (Tryd.prog.cellsOf 3))=some y1:=hf 1 _ rfl
 rw [(by kernel_rfl:Tryd.prog.cellsOf 3=1)] at h1
 replace h1:DataW.trod enc Tryd.prog w 0 sp held n 3 [c1]=some y1:=h1
 obtain ⟨a1,r1,w1,s1⟩:=(opens_int Tryd.underlying3) H enc w sp held n _ _ h1
 have h2:DataW.trod enc Tryd.prog w 0 sp held n 3 (([c0,c1,c2,c3,c4,c5,c6,c7].drop 2).take (Tryd.prog.cellsOf 3))=some y2:=hf 2 _ rfl
 rw [(by kernel_rfl:Tryd.prog.cellsOf 3=1)] at h2
 replace h2:DataW.trod enc Tryd.prog w 0 sp held n 3 [c2]=some y2:=h2
 obtain ⟨a2,r2,w2,s2⟩:=(opens_int Tryd.underlying3) H enc w sp held n _ _ h2
 have h3:DataW.trod enc Tryd.prog w 0 sp held n 3 (([c0,c1,c2,c3,c4,c5,c6,c7].drop 3).take (Tryd.prog.cellsOf 3))=some y3:=hf 3 _ rfl
 rw [(by kernel_rfl:Tryd.prog.cellsOf 3=1)] at h3
 replace h3:DataW.trod enc Tryd.prog w 0 sp held n 3 [c3]=some y3:=h3
 obtain ⟨a3,r3,w3,s3⟩:=(opens_int Tryd.underlying3) H enc w sp held n _ _ h3
 have h4:DataW.trod enc Tryd.prog w 0 sp held n 3 (([c0,c1,c2,c3,c4,c5,c6,c7].drop 4).take (Tryd.prog.cellsOf 3))=some y4:=hf 4 _ rfl
 rw [(by kernel_rfl:Tryd.prog.cellsOf 3=1)] at h4
 replace h4:DataW.trod enc Tryd.prog w 0 sp held n 3 [c4]=some y4:=h4
 obtain ⟨a4,r4,w4,s4⟩:=(opens_int Tryd.underlying3) H enc w sp held n _ _ h4
 have h5:DataW.trod enc Tryd.prog w 0 sp held n 3 (([c0,c1,c2,c3,c4,c5,c6,c7].drop 5).take (Tryd.prog.cellsOf 3))=some y5:=hf 5 _ rfl
 rw [(by kernel_rfl:Tryd.prog.cellsOf 3=1)] at h5
 replace h5:DataW.trod enc Tryd.prog w 0 sp held n 3 [c5]=some y5:=h5
 obtain ⟨a5,r5,w5,s5⟩:=(opens_int Tryd.underlying3) H enc w sp held n _ _ h5
 have h6:DataW.trod enc Tryd.prog w 0 sp held n 3 (([c0,c1,c2,c3,c4,c5,c6,c7].drop 6).take (Tryd.prog.cellsOf 3))=some y6:=hf 6 _ rfl
 rw [(by kernel_rfl:Tryd.prog.cellsOf 3=1)] at h6
 replace h6:DataW.trod enc Tryd.prog w 0 sp held n 3 [c6]=some y6:=h6
 obtain ⟨a6,r6,w6,s6⟩:=(opens_int Tryd.underlying3) H enc w sp held n _ _ h6
 have h7:DataW.trod enc Tryd.prog w 0 sp held n 3 (([c0,c1,c2,c3,c4,c5,c6,c7].drop 7).take (Tryd.prog.cellsOf 3))=some y7:=hf 7 _ rfl
 rw [(by kernel_rfl:Tryd.prog.cellsOf 3=1)] at h7
 replace h7:DataW.trod enc Tryd.prog w 0 sp held n 3 [c7]=some y7:=h7
 obtain ⟨a7,r7,w7,s7⟩:=(opens_int Tryd.underlying3) H enc w sp held n _ _ h7
 cases r0
 cases r1
 cases r2
 cases r3
 cases r4
 cases r5
 cases r6
 cases r7
 refine ⟨⟨a0,a1,a2,a3,a4,a5,a6,a7⟩,rfl,⟨w0,w1,w2,w3,w4,w5,w6,w7⟩,?_⟩
 simp only [sz_api_Config,Rows.uptoBulk,Rows.uptoBulkAll,List.map]
 omega
def wf_api_Call (x:api_Call):Prop:=(wfInt .u8) x.Kind∧(wfInt .i64) x.Tx∧wfStr x.Key∧wfStr x.End∧wfStr x.Value∧(wfInt .i64) x.Limit∧(wfInt .u8) x.Engine
def sz_api_Call (x:api_Call):Nat:=sz1 x.Kind+sz1 x.Tx+szStr x.Key+szStr x.End+szStr x.Value+sz1 x.Limit+sz1 x.Engine+1
theorem open_api_Call:Opens Tryd.prog 37 r_api_Call wf_api_Call sz_api_Call:=by
 intro H enc w sp held fuel cs x h
 obtain ⟨xs,n,rfl,rfl,hl,hxs,hf⟩:=DataW.trod_struct Tryd.underlying37 h
 have hl':cs.length=7:=hl.trans (by kernel_rfl)
 have hx':xs.length=7:=hxs.trans (by kernel_rfl)
 obtain ⟨y0,y1,y2,y3,y4,y5,y6,rfl⟩:∃ y0 y1 y2 y3 y4 y5 y6,xs=[y0,y1,y2,y3,y4,y5,y6]:=by
  match xs,hx' with | [y0,y1,y2,y3,y4,y5,y6],_=>exact ⟨y0,y1,y2,y3,y4,y5,y6,rfl⟩
 obtain ⟨c0,c1,c2,c3,c4,c5,c6,rfl⟩:∃ c0 c1 c2 c3 c4 c5 c6,cs=[c0,c1,c2,c3,c4,c5,c6]:=by
  match cs,hl' with | [c0,c1,c2,c3,c4,c5,c6],_=>exact ⟨c0,c1,c2,c3,c4,c5,c6,rfl⟩
 have h0:DataW.trod enc Tryd.prog w 0 sp held n 5 (([c0,c1,c2,c3,c4,c5,c6].drop 0).take (Tryd.prog.cellsOf 5))=some y0:=hf 0 _ rfl
 rw [(by kernel_rfl:Tryd.prog.cellsOf 5=1)] at h0
 replace h0:DataW.trod enc Tryd.prog w 0 sp held n 5 [c0]=some y0:=h0
 obtain ⟨a0,r0,w0,s0⟩:=(opens_int Tryd.underlying5) H enc w sp held n _ _ h0
 have h1:DataW.trod enc Tryd.prog w 0 sp held n 3 (([c0,c1,c2,c3,c4,c5,c6].drop 1).take (Tryd.prog.cellsOf 3))=some y1:=hf 1 _ rfl
 rw [(by kernel_rfl:Tryd.prog.cellsOf 3=1)] at h1
 replace h1:DataW.trod enc Tryd.prog w 0 sp held n 3 [c1]=some y1:=h1
 obtain ⟨a1,r1,w1,s1⟩:=(opens_int Tryd.underlying3) H enc w sp held n _ _ h1
 have h2:DataW.trod enc Tryd.prog w 0 sp held n 9 (([c0,c1,c2,c3,c4,c5,c6].drop 2).take (Tryd.prog.cellsOf 9))=some y2:=hf 2 _ rfl
 rw [(by kernel_rfl:Tryd.prog.cellsOf 9=1)] at h2
 replace h2:DataW.trod enc Tryd.prog w 0 sp held n 9 [c2]=some y2:=h2
 obtain ⟨a2,r2,w2,s2⟩:=(opens_str Tryd.underlying9) H enc w sp held n _ _ h2
 have h3:DataW.trod enc Tryd.prog w 0 sp held n 9 (([c0,c1,c2,c3,c4,c5,c6].drop 3).take (Tryd.prog.cellsOf 9))=some y3:=hf 3 _ rfl
 rw [(by kernel_rfl:Tryd.prog.cellsOf 9=1)] at h3
 replace h3:DataW.trod enc Tryd.prog w 0 sp held n 9 [c3]=some y3:=h3
 obtain ⟨a3,r3,w3,s3⟩:=(opens_str Tryd.underlying9) H enc w sp held n _ _ h3
 have h4:DataW.trod enc Tryd.prog w 0 sp held n 9 (([c0,c1,c2,c3,c4,c5,c6].drop 4).take (Tryd.prog.cellsOf 9))=some y4:=hf 4 _ rfl
 rw [(by kernel_rfl:Tryd.prog.cellsOf 9=1)] at h4
 replace h4:DataW.trod enc Tryd.prog w 0 sp held n 9 [c4]=some y4:=h4
 obtain ⟨a4,r4,w4,s4⟩:=(opens_str Tryd.underlying9) H enc w sp held n _ _ h4
 have h5:DataW.trod enc Tryd.prog w 0 sp held n 3 (([c0,c1,c2,c3,c4,c5,c6].drop 5).take (Tryd.prog.cellsOf 3))=some y5:=hf 5 _ rfl
 rw [(by kernel_rfl:Tryd.prog.cellsOf 3=1)] at h5
 replace h5:DataW.trod enc Tryd.prog w 0 sp held n 3 [c5]=some y5:=h5
 obtain ⟨a5,r5,w5,s5⟩:=(opens_int Tryd.underlying3) H enc w sp held n _ _ h5
 have h6:DataW.trod enc Tryd.prog w 0 sp held n 5 (([c0,c1,c2,c3,c4,c5,c6].drop 6).take (Tryd.prog.cellsOf 5))=some y6:=hf 6 _ rfl
 rw [(by kernel_rfl:Tryd.prog.cellsOf 5=1)] at h6
 replace h6:DataW.trod enc Tryd.prog w 0 sp held n 5 [c6]=some y6:=h6
 obtain ⟨a6,r6,w6,s6⟩:=(opens_int Tryd.underlying5) H enc w sp held n _ _ h6
 cases r0
 cases r1
 cases r2
 cases r3
 cases r4
 cases r5
 cases r6
 refine ⟨⟨a0,a1,a2,a3,a4,a5,a6⟩,rfl,⟨w0,w1,w2,w3,w4,w5,w6⟩,?_⟩
 simp only [sz_api_Call,Rows.uptoBulk,Rows.uptoBulkAll,List.map]
 omega
def wf_ferrymanlaw16_Turn (x:ferrymanlaw16_Turn):Prop:=(wfInt .i64) x.Task∧wf_api_Call x.Call
def sz_ferrymanlaw16_Turn (x:ferrymanlaw16_Turn):Nat:=sz1 x.Task+sz_api_Call x.Call+1
theorem open_ferrymanlaw16_Turn:Opens Tryd.prog 39 r_ferrymanlaw16_Turn wf_ferrymanlaw16_Turn sz_ferrymanlaw16_Turn:=by
 intro H enc w sp held fuel cs x h
 obtain ⟨xs,n,rfl,rfl,hl,hxs,hf⟩:=DataW.trod_struct Tryd.underlying39 h
 have hl':cs.length=8:=hl.trans (by kernel_rfl)
 have hx':xs.length=2:=hxs.trans (by kernel_rfl)
 obtain ⟨y0,y1,rfl⟩:∃ y0 y1,xs=[y0,y1]:=by
  match xs,hx' with | [y0,y1],_=>exact ⟨y0,y1,rfl⟩
 obtain ⟨c0,c1,c2,c3,c4,c5,c6,c7,rfl⟩:∃ c0 c1 c2 c3 c4 c5 c6 c7,cs=[c0,c1,c2,c3,c4,c5,c6,c7]:=by
  match cs,hl' with | [c0,c1,c2,c3,c4,c5,c6,c7],_=>exact ⟨c0,c1,c2,c3,c4,c5,c6,c7,rfl⟩
 have h0:DataW.trod enc Tryd.prog w 0 sp held n 3 (([c0,c1,c2,c3,c4,c5,c6,c7].drop 0).take (Tryd.prog.cellsOf 3))=some y0:=hf 0 _ rfl
 rw [(by kernel_rfl:Tryd.prog.cellsOf 3=1)] at h0
 replace h0:DataW.trod enc Tryd.prog w 0 sp held n 3 [c0]=some y0:=h0
 obtain ⟨a0,r0,w0,s0⟩:=(opens_int Tryd.underlying3) H enc w sp held n _ _ h0
 have h1:DataW.trod enc Tryd.prog w 0 sp held n 37 (([c0,c1,c2,c3,c4,c5,c6,c7].drop 1).take (Tryd.prog.cellsOf 37))=some y1:=hf 1 _ rfl
 rw [(by kernel_rfl:Tryd.prog.cellsOf 37=7)] at h1
 replace h1:DataW.trod enc Tryd.prog w 0 sp held n 37 [c1,c2,c3,c4,c5,c6,c7]=some y1:=h1
 obtain ⟨a1,r1,w1,s1⟩:=open_api_Call H enc w sp held n _ _ h1
 cases r0
 cases r1
 refine ⟨⟨a0,a1⟩,rfl,⟨w0,w1⟩,?_⟩
 simp only [sz_ferrymanlaw16_Turn,Rows.uptoBulk,Rows.uptoBulkAll,List.map]
 omega
set_option maxRecDepth 100000
theorem laid_name0:Tryd.prog.globalNamed "ferryman/model.does"=some 0:=by kernel_rfl
theorem laid_type0:(Tryd.prog.globals[0]?).map (·.type)=some 96:=by kernel_rfl
theorem door_met (os:Os) (args:Array Value):laidMetH Tryd.prog [("ferryman/model.does",Rows.laid_ferryman_model_does)] ((World.doorLaid Tryd.prog 400 os).forCall (fun _ _=>0) ⟨#[],args,[]⟩).memory :=
 laidMetH_of_parts3 (fuel:=8) (laidMet_of_run' 8 (by kernel_rfl) (by kernel_rfl)) (by kernel_rfl) (by kernel_rfl)
theorem nilFunc_of_trod {P:Program} {H:Type} {enc:TypeId×Value→H} {w:World} {base:Nat} {sp:Nat→Bool} {held:Bool} {fuel:Nat} {t:TypeId} {ps rs:Array TypeId} {va:Bool} {v:Value} {q:List MemPlace} (ht:P.underlying t=some (.func ps rs va)) (h:DataW.trod enc P w base sp held fuel t [v]=some (.nil,q)):v=.nilFunc:=by
 cases fuel with
 | zero=>simp [DataW.trod] at h
 | succ n=>cases v<;>simp [DataW.trod,ht] at h ⊢
theorem of_laid {W:World} (h:laidMetH Tryd.prog [("ferryman/model.does",Rows.laid_ferryman_model_does)] W):∃ gt fr,Hp.of W 0=some (.cells #[.nilFunc,.func (.func 124) #[] #[],.func (.func 125) #[] #[],.func (.func 126) #[] #[],.func (.func 127) #[] #[],.func (.func 128) #[] #[],.func (.func 129) #[] #[],.func (.func 130) #[] #[],.func (.func 131) #[] #[],.func (.func 132) #[] #[]] gt fr):=by
 obtain ⟨g,t,cs,fuel,p,hg0,ht0,hv0,hd0⟩:=h.funcs (n:= "ferryman/model.does") (List.mem_cons_self ..)
 obtain rfl:=Option.some.inj (laid_name0.symm.trans hg0)
 obtain rfl:=Option.some.inj (laid_type0.symm.trans ht0)
 replace hd0:DataW.trod (funcToken Tryd.prog) Tryd.prog W 0 (fun _=>true) true fuel 96 cs.toList=some (.agg [.nil,.held [40,42,102,101,114,114,121,109,97,110,47,109,111,100,101,108,46,77,111,100,101,108,41,46,98,101,103,105,110],.held [40,42,102,101,114,114,121,109,97,110,47,109,111,100,101,108,46,77,111,100,101,108,41,46,103,101,116],.held [40,42,102,101,114,114,121,109,97,110,47,109,111,100,101,108,46,77,111,100,101,108,41,46,112,117,116],.held [40,42,102,101,114,114,121,109,97,110,47,109,111,100,101,108,46,77,111,100,101,108,41,46,100,101,108],.held [40,42,102,101,114,114,121,109,97,110,47,109,111,100,101,108,46,77,111,100,101,108,41,46,115,99,97,110],.held [40,42,102,101,114,114,121,109,97,110,47,109,111,100,101,108,46,77,111,100,101,108,41,46,99,111,109,109,105,116],.held [40,42,102,101,114,114,121,109,97,110,47,109,111,100,101,108,46,77,111,100,101,108,41,46,97,98,111,114,116],.held [40,42,102,101,114,114,121,109,97,110,47,109,111,100,101,108,46,77,111,100,101,108,41,46,118,97,99,117,117,109],.held [40,42,102,101,114,114,121,109,97,110,47,109,111,100,101,108,46,77,111,100,101,108,41,46,109,105,103,114,97,116,101]],p):=hd0
 obtain ⟨xs,m1,rfl,hx1,hlen,hn3,hel⟩:=DataW.trod_array Tryd.underlying96 hd0
 have cA:Tryd.prog.cellsOf 96=10:=by kernel_rfl
 have cE:Tryd.prog.cellsOf 95=1:=by kernel_rfl
 rw [cA] at hlen
 simp only [cE] at hel
 obtain ⟨l0⟩:=cs
 obtain ⟨c0,c1,c2,c3,c4,c5,c6,c7,c8,c9,rfl⟩:∃ c0 c1 c2 c3 c4 c5 c6 c7 c8 c9,l0=[c0,c1,c2,c3,c4,c5,c6,c7,c8,c9]:=by
  match l0,hlen with | [c0,c1,c2,c3,c4,c5,c6,c7,c8,c9],_=>exact ⟨c0,c1,c2,c3,c4,c5,c6,c7,c8,c9,rfl⟩
 obtain ⟨y0,y1,y2,y3,y4,y5,y6,y7,y8,y9,rfl⟩:∃ y0 y1 y2 y3 y4 y5 y6 y7 y8 y9,xs=[y0,y1,y2,y3,y4,y5,y6,y7,y8,y9]:=by
  match xs,hn3 with | [y0,y1,y2,y3,y4,y5,y6,y7,y8,y9],_=>exact ⟨y0,y1,y2,y3,y4,y5,y6,y7,y8,y9,rfl⟩
 simp only [Prod.mk.injEq,DataW.agg.injEq,List.map_cons,List.map_nil,List.cons.injEq] at hx1
 obtain ⟨⟨x0,x1,x2,x3,x4,x5,x6,x7,x8,x9,_⟩,_⟩:=hx1
 have t0:DataW.trod (funcToken Tryd.prog) Tryd.prog W 0 (fun _=>true) true m1 95 [c0]=some (.nil,y0.2):=(hel 0 (by decide)).trans (by rw [show (.nil:DataW (List UInt8))=y0.1 from x0];rfl)
 obtain rfl:=nilFunc_of_trod Tryd.underlying95 t0
 have t1:DataW.trod (funcToken Tryd.prog) Tryd.prog W 0 (fun _=>true) true m1 95 [c1]=some (.held [40,42,102,101,114,114,121,109,97,110,47,109,111,100,101,108,46,77,111,100,101,108,41,46,98,101,103,105,110],y1.2):=(hel 1 (by decide)).trans (by rw [show (.held [40,42,102,101,114,114,121,109,97,110,47,109,111,100,101,108,46,77,111,100,101,108,41,46,98,101,103,105,110]:DataW (List UInt8))=y1.1 from x1];rfl)
 obtain rfl:=func_of_trod (f0:=124) Tryd.underlying95 (by kernel_rfl) t1
 have t2:DataW.trod (funcToken Tryd.prog) Tryd.prog W 0 (fun _=>true) true m1 95 [c2]=some (.held [40,42,102,101,114,114,121,109,97,110,47,109,111,100,101,108,46,77,111,100,101,108,41,46,103,101,116],y2.2):=(hel 2 (by decide)).trans (by rw [show (.held [40,42,102,101,114,114,121,109,97,110,47,109,111,100,101,108,46,77,111,100,101,108,41,46,103,101,116]:DataW (List UInt8))=y2.1 from x2];rfl)
 obtain rfl:=func_of_trod (f0:=125) Tryd.underlying95 (by kernel_rfl) t2
 have t3:DataW.trod (funcToken Tryd.prog) Tryd.prog W 0 (fun _=>true) true m1 95 [c3]=some (.held [40,42,102,101,114,114,121,109,97,110,47,109,111,100,101,108,46,77,111,100,101,108,41,46,112,117,116],y3.2):=(hel 3 (by decide)).trans (by rw [show (.held [40,42,102,101,114,114,121,109,97,110,47,109,111,100,101,108,46,77,111,100,101,108,41,46,112,117,116]:DataW (List UInt8))=y3.1 from x3];rfl)
 obtain rfl:=func_of_trod (f0:=126) Tryd.underlying95 (by kernel_rfl) t3
 have t4:DataW.trod (funcToken Tryd.prog) Tryd.prog W 0 (fun _=>true) true m1 95 [c4]=some (.held [40,42,102,101,114,114,121,109,97,110,47,109,111,100,101,108,46,77,111,100,101,108,41,46,100,101,108],y4.2):=(hel 4 (by decide)).trans (by rw [show (.held [40,42,102,101,114,114,121,109,97,110,47,109,111,100,101,108,46,77,111,100,101,108,41,46,100,101,108]:DataW (List UInt8))=y4.1 from x4];rfl)
 obtain rfl:=func_of_trod (f0:=127) Tryd.underlying95 (by kernel_rfl) t4
 have t5:DataW.trod (funcToken Tryd.prog) Tryd.prog W 0 (fun _=>true) true m1 95 [c5]=some (.held [40,42,102,101,114,114,121,109,97,110,47,109,111,100,101,108,46,77,111,100,101,108,41,46,115,99,97,110],y5.2):=(hel 5 (by decide)).trans (by rw [show (.held [40,42,102,101,114,114,121,109,97,110,47,109,111,100,101,108,46,77,111,100,101,108,41,46,115,99,97,110]:DataW (List UInt8))=y5.1 from x5];rfl)
 obtain rfl:=func_of_trod (f0:=128) Tryd.underlying95 (by kernel_rfl) t5
 have t6:DataW.trod (funcToken Tryd.prog) Tryd.prog W 0 (fun _=>true) true m1 95 [c6]=some (.held [40,42,102,101,114,114,121,109,97,110,47,109,111,100,101,108,46,77,111,100,101,108,41,46,99,111,109,109,105,116],y6.2):=(hel 6 (by decide)).trans (by rw [show (.held [40,42,102,101,114,114,121,109,97,110,47,109,111,100,101,108,46,77,111,100,101,108,41,46,99,111,109,109,105,116]:DataW (List UInt8))=y6.1 from x6];rfl)
 obtain rfl:=func_of_trod (f0:=129) Tryd.underlying95 (by kernel_rfl) t6
 have t7:DataW.trod (funcToken Tryd.prog) Tryd.prog W 0 (fun _=>true) true m1 95 [c7]=some (.held [40,42,102,101,114,114,121,109,97,110,47,109,111,100,101,108,46,77,111,100,101,108,41,46,97,98,111,114,116],y7.2):=(hel 7 (by decide)).trans (by rw [show (.held [40,42,102,101,114,114,121,109,97,110,47,109,111,100,101,108,46,77,111,100,101,108,41,46,97,98,111,114,116]:DataW (List UInt8))=y7.1 from x7];rfl)
 obtain rfl:=func_of_trod (f0:=130) Tryd.underlying95 (by kernel_rfl) t7
 have t8:DataW.trod (funcToken Tryd.prog) Tryd.prog W 0 (fun _=>true) true m1 95 [c8]=some (.held [40,42,102,101,114,114,121,109,97,110,47,109,111,100,101,108,46,77,111,100,101,108,41,46,118,97,99,117,117,109],y8.2):=(hel 8 (by decide)).trans (by rw [show (.held [40,42,102,101,114,114,121,109,97,110,47,109,111,100,101,108,46,77,111,100,101,108,41,46,118,97,99,117,117,109]:DataW (List UInt8))=y8.1 from x8];rfl)
 obtain rfl:=func_of_trod (f0:=131) Tryd.underlying95 (by kernel_rfl) t8
 have t9:DataW.trod (funcToken Tryd.prog) Tryd.prog W 0 (fun _=>true) true m1 95 [c9]=some (.held [40,42,102,101,114,114,121,109,97,110,47,109,111,100,101,108,46,77,111,100,101,108,41,46,109,105,103,114,97,116,101],y9.2):=(hel 9 (by decide)).trans (by rw [show (.held [40,42,102,101,114,114,121,109,97,110,47,109,111,100,101,108,46,77,111,100,101,108,41,46,109,105,103,114,97,116,101]:DataW (List UInt8))=y9.1 from x9];rfl)
 obtain rfl:=func_of_trod (f0:=132) Tryd.underlying95 (by kernel_rfl) t9
 simp only [World.var?,laid_name0,Option.bind_some] at hv0
 split at hv0
 ·next cs gt fr he =>
  obtain rfl:=Option.some.inj hv0
  exact ⟨gt,fr,Hp.of_mk he⟩
 ·cases hv0
end Go.Proofs.YtcngjjlhdlbogaaDoor
