import Derived.Test.YtnjbjpaiepefoaaDoorGq1B
import Derived.Test.YtnjbjpaiepefoaaDoorSlH
import Derived.KernelRfl
import Derived.ProofKit
import Derived.LaidMore
import Derived.OpenShut
import Derived.FnData
import Derived.MakeChecks
import Derived.LaidHandle
import Derived.LaidLaws
namespace Go.Proofs.YtnjbjpaiepefoaaDoor
open Go Go.RowKit
set_option linter.unusedVariables false
set_option linter.unusedSimpArgs false
set_option maxRecDepth 100000
def Ux (x:Qa):Prop:=(wfInt .i64) x.Tasks∧(wfInt .i64) x.Active∧(wfInt .i64) x.Keys∧(wfInt .i64) x.Depth∧(wfInt .i64) x.TS∧(wfInt .i64) x.KeyLen∧(wfInt .i64) x.ValLen∧(wfInt .i64) x.Fan
def UT (x:Qa):Nat:=sz1 x.Tasks+sz1 x.Active+sz1 x.Keys+sz1 x.Depth+sz1 x.TS+sz1 x.KeyLen+sz1 x.ValLen+sz1 x.Fan+1
theorem Jf:Opens Tryd.prog 23 Ku Ux UT:=by
 intro H enc w sp held fuel cs x h;obtain ⟨xs,n,rfl,rfl,hl,hxs,hf⟩:=DataW.trod_struct Tryd.underlying23 h;have hl':cs.length=8:=hl.trans (by kernel_rfl);have hx':xs.length=8:=hxs.trans (by kernel_rfl)
 obtain ⟨y0,y1,y2,y3,y4,y5,y6,y7,rfl⟩:∃ y0 y1 y2 y3 y4 y5 y6 y7,xs=[y0,y1,y2,y3,y4,y5,y6,y7]:=by
  match xs,hx' with | [y0,y1,y2,y3,y4,y5,y6,y7],_=>exact ⟨y0,y1,y2,y3,y4,y5,y6,y7,rfl⟩
 obtain ⟨B,E,K,U,V,W,Y,Z,rfl⟩:∃ B E K U V W Y Z,cs=[B,E,K,U,V,W,Y,Z]:=by
  match cs,hl' with | [B,E,K,U,V,W,Y,Z],_=>exact ⟨B,E,K,U,V,W,Y,Z,rfl⟩
 have h0:DataW.trod enc Tryd.prog w 0 sp held n 3 (([B,E,K,U,V,W,Y,Z].drop 0).take (Tryd.prog.cellsOf 3))=some y0:=hf 0 _ rfl;rw [(by kernel_rfl:Tryd.prog.cellsOf 3=1)] at h0;replace h0:DataW.trod enc Tryd.prog w 0 sp held n 3 [B]=some y0:=h0;obtain ⟨a0,r0,w0,s0⟩:=(VV Tryd.underlying3) H enc w sp held n _ _ h0;have h1:DataW.trod enc Tryd.prog w 0 sp held n 3 (([B,E,K,U,V,W,Y,Z].drop 1).take (Tryd.prog.cellsOf 3))=some y1:=hf 1 _ rfl;rw [(by kernel_rfl:Tryd.prog.cellsOf 3=1)] at h1;replace h1:DataW.trod enc Tryd.prog w 0 sp held n 3 [E]=some y1:=h1;obtain ⟨a1,r1,w1,s1⟩:=(VV Tryd.underlying3) H enc w sp held n _ _ h1;have h2:DataW.trod enc Tryd.prog w 0 sp held n 3 (([B,E,K,U,V,W,Y,Z].drop 2).take (Tryd.prog.cellsOf 3))=some y2:=hf 2 _ rfl;rw [(by kernel_rfl:Tryd.prog.cellsOf 3=1)] at h2;replace h2:DataW.trod enc Tryd.prog w 0 sp held n 3 [K]=some y2:=h2;obtain ⟨a2,r2,w2,s2⟩:=(VV Tryd.underlying3) H enc w sp held n _ _ h2;have h3:DataW.trod enc Tryd.prog w 0 sp held n 3 (([B,E,K,U,V,W,Y,Z].drop 3).take (Tryd.prog.cellsOf 3))=some y3:=hf 3 _ rfl;rw [(by kernel_rfl:Tryd.prog.cellsOf 3=1)] at h3;replace h3:DataW.trod enc Tryd.prog w 0 sp held n 3 [U]=some y3:=h3;obtain ⟨a3,r3,w3,s3⟩:=(VV Tryd.underlying3) H enc w sp held n _ _ h3;have h4:DataW.trod enc Tryd.prog w 0 sp held n 3 (([B,E,K,U,V,W,Y,Z].drop 4).take (Tryd.prog.cellsOf 3))=some y4:=hf 4 _ rfl;rw [(by kernel_rfl:Tryd.prog.cellsOf 3=1)] at h4;replace h4:DataW.trod enc Tryd.prog w 0 sp held n 3 [V]=some y4:=h4;obtain ⟨a4,r4,w4,s4⟩:=(VV Tryd.underlying3) H enc w sp held n _ _ h4;have h5:DataW.trod enc Tryd.prog w 0 sp held n 3 (([B,E,K,U,V,W,Y,Z].drop 5).take (Tryd.prog.cellsOf 3))=some y5:=hf 5 _ rfl;rw [(by kernel_rfl:Tryd.prog.cellsOf 3=1)] at h5;replace h5:DataW.trod enc Tryd.prog w 0 sp held n 3 [W]=some y5:=h5;obtain ⟨a5,r5,w5,s5⟩:=(VV Tryd.underlying3) H enc w sp held n _ _ h5;have h6:DataW.trod enc Tryd.prog w 0 sp held n 3 (([B,E,K,U,V,W,Y,Z].drop 6).take (Tryd.prog.cellsOf 3))=some y6:=hf 6 _ rfl;rw [(by kernel_rfl:Tryd.prog.cellsOf 3=1)] at h6;replace h6:DataW.trod enc Tryd.prog w 0 sp held n 3 [Y]=some y6:=h6;obtain ⟨a6,r6,w6,s6⟩:=(VV Tryd.underlying3) H enc w sp held n _ _ h6;have h7:DataW.trod enc Tryd.prog w 0 sp held n 3 (([B,E,K,U,V,W,Y,Z].drop 7).take (Tryd.prog.cellsOf 3))=some y7:=hf 7 _ rfl;rw [(by kernel_rfl:Tryd.prog.cellsOf 3=1)] at h7;replace h7:DataW.trod enc Tryd.prog w 0 sp held n 3 [Z]=some y7:=h7;obtain ⟨a7,r7,w7,s7⟩:=(VV Tryd.underlying3) H enc w sp held n _ _ h7
 cases r0
 cases r1
 cases r2
 cases r3
 cases r4
 cases r5
 cases r6
 cases r7
 refine ⟨⟨a0,a1,a2,a3,a4,a5,a6,a7⟩,rfl,⟨w0,w1,w2,w3,w4,w5,w6,w7⟩,?_⟩;simp only [UT,Rows.uptoBulk,Rows.uptoBulkAll,List.map];omega
def Ja (x:QV):Prop:=(wfInt .u8) x.Kind∧(wfInt .i64) x.Tx∧wfStr x.Key∧wfStr x.End∧wfStr x.Value∧(wfInt .i64) x.Limit∧(wfInt .u8) x.Engine
def Un (x:QV):Nat:=sz1 x.Kind+sz1 x.Tx+szStr x.Key+szStr x.End+szStr x.Value+sz1 x.Limit+sz1 x.Engine+1
theorem KQ:Opens Tryd.prog 47 YM Ja Un:=by
 intro H enc w sp held fuel cs x h;obtain ⟨xs,n,rfl,rfl,hl,hxs,hf⟩:=DataW.trod_struct Tryd.underlying47 h;have hl':cs.length=7:=hl.trans (by kernel_rfl);have hx':xs.length=7:=hxs.trans (by kernel_rfl)
 obtain ⟨Z,y1,y2,y3,y4,y5,y6,rfl⟩:∃ Z y1 y2 y3 y4 y5 y6,xs=[Z,y1,y2,y3,y4,y5,y6]:=by
  match xs,hx' with | [Z,y1,y2,y3,y4,y5,y6],_=>exact ⟨Z,y1,y2,y3,y4,y5,y6,rfl⟩
 obtain ⟨B,E,K,U,V,W,Y,rfl⟩:∃ B E K U V W Y,cs=[B,E,K,U,V,W,Y]:=by
  match cs,hl' with | [B,E,K,U,V,W,Y],_=>exact ⟨B,E,K,U,V,W,Y,rfl⟩
 have h0:DataW.trod enc Tryd.prog w 0 sp held n 5 (([B,E,K,U,V,W,Y].drop 0).take (Tryd.prog.cellsOf 5))=some Z:=hf 0 _ rfl;rw [(by kernel_rfl:Tryd.prog.cellsOf 5=1)] at h0;replace h0:DataW.trod enc Tryd.prog w 0 sp held n 5 [B]=some Z:=h0;obtain ⟨a0,r0,w0,s0⟩:=(VV Tryd.underlying5) H enc w sp held n _ _ h0;have h1:DataW.trod enc Tryd.prog w 0 sp held n 3 (([B,E,K,U,V,W,Y].drop 1).take (Tryd.prog.cellsOf 3))=some y1:=hf 1 _ rfl;rw [(by kernel_rfl:Tryd.prog.cellsOf 3=1)] at h1;replace h1:DataW.trod enc Tryd.prog w 0 sp held n 3 [E]=some y1:=h1;obtain ⟨a1,r1,w1,s1⟩:=(VV Tryd.underlying3) H enc w sp held n _ _ h1;have h2:DataW.trod enc Tryd.prog w 0 sp held n 9 (([B,E,K,U,V,W,Y].drop 2).take (Tryd.prog.cellsOf 9))=some y2:=hf 2 _ rfl;rw [(by kernel_rfl:Tryd.prog.cellsOf 9=1)] at h2;replace h2:DataW.trod enc Tryd.prog w 0 sp held n 9 [K]=some y2:=h2;obtain ⟨a2,r2,w2,s2⟩:=(UI Tryd.underlying9) H enc w sp held n _ _ h2;have h3:DataW.trod enc Tryd.prog w 0 sp held n 9 (([B,E,K,U,V,W,Y].drop 3).take (Tryd.prog.cellsOf 9))=some y3:=hf 3 _ rfl;rw [(by kernel_rfl:Tryd.prog.cellsOf 9=1)] at h3;replace h3:DataW.trod enc Tryd.prog w 0 sp held n 9 [U]=some y3:=h3;obtain ⟨a3,r3,w3,s3⟩:=(UI Tryd.underlying9) H enc w sp held n _ _ h3;have h4:DataW.trod enc Tryd.prog w 0 sp held n 9 (([B,E,K,U,V,W,Y].drop 4).take (Tryd.prog.cellsOf 9))=some y4:=hf 4 _ rfl;rw [(by kernel_rfl:Tryd.prog.cellsOf 9=1)] at h4;replace h4:DataW.trod enc Tryd.prog w 0 sp held n 9 [V]=some y4:=h4;obtain ⟨a4,r4,w4,s4⟩:=(UI Tryd.underlying9) H enc w sp held n _ _ h4;have h5:DataW.trod enc Tryd.prog w 0 sp held n 3 (([B,E,K,U,V,W,Y].drop 5).take (Tryd.prog.cellsOf 3))=some y5:=hf 5 _ rfl;rw [(by kernel_rfl:Tryd.prog.cellsOf 3=1)] at h5;replace h5:DataW.trod enc Tryd.prog w 0 sp held n 3 [W]=some y5:=h5;obtain ⟨a5,r5,w5,s5⟩:=(VV Tryd.underlying3) H enc w sp held n _ _ h5;have h6:DataW.trod enc Tryd.prog w 0 sp held n 5 (([B,E,K,U,V,W,Y].drop 6).take (Tryd.prog.cellsOf 5))=some y6:=hf 6 _ rfl;rw [(by kernel_rfl:Tryd.prog.cellsOf 5=1)] at h6;replace h6:DataW.trod enc Tryd.prog w 0 sp held n 5 [Y]=some y6:=h6;obtain ⟨a6,r6,w6,s6⟩:=(VV Tryd.underlying5) H enc w sp held n _ _ h6
 cases r0
 cases r1
 cases r2
 cases r3
 cases r4
 cases r5
 cases r6
 refine ⟨⟨a0,a1,a2,a3,a4,a5,a6⟩,rfl,⟨w0,w1,w2,w3,w4,w5,w6⟩,?_⟩;simp only [Un,Rows.uptoBulk,Rows.uptoBulkAll,List.map];omega
def JZ (x:Qn):Prop:=wfStr x.Key∧wfStr x.Value
def Um (x:Qn):Nat:=szStr x.Key+szStr x.Value+1
theorem KP:Opens Tryd.prog 72 Qr JZ Um:=by
 intro H enc w sp held fuel cs x h;obtain ⟨xs,n,rfl,rfl,hl,hxs,hf⟩:=DataW.trod_struct Tryd.underlying72 h;have hl':cs.length=2:=hl.trans (by kernel_rfl);have hx':xs.length=2:=hxs.trans (by kernel_rfl)
 obtain ⟨K,U,rfl⟩:∃ K U,xs=[K,U]:=by
  match xs,hx' with | [K,U],_=>exact ⟨K,U,rfl⟩
 obtain ⟨B,E,rfl⟩:∃ B E,cs=[B,E]:=by
  match cs,hl' with | [B,E],_=>exact ⟨B,E,rfl⟩
 have h0:DataW.trod enc Tryd.prog w 0 sp held n 9 (([B,E].drop 0).take (Tryd.prog.cellsOf 9))=some K:=hf 0 _ rfl;rw [(by kernel_rfl:Tryd.prog.cellsOf 9=1)] at h0;replace h0:DataW.trod enc Tryd.prog w 0 sp held n 9 [B]=some K:=h0;obtain ⟨W,Y,Z,s0⟩:=(UI Tryd.underlying9) H enc w sp held n _ _ h0;have V:DataW.trod enc Tryd.prog w 0 sp held n 9 (([B,E].drop 1).take (Tryd.prog.cellsOf 9))=some U:=hf 1 _ rfl;rw [(by kernel_rfl:Tryd.prog.cellsOf 9=1)] at V;replace V:DataW.trod enc Tryd.prog w 0 sp held n 9 [E]=some U:=V;obtain ⟨a1,r1,w1,s1⟩:=(UI Tryd.underlying9) H enc w sp held n _ _ V
 cases Y
 cases r1
 refine ⟨⟨W,a1⟩,rfl,⟨Z,w1⟩,?_⟩;simp only [Um,Rows.uptoBulk,Rows.uptoBulkAll,List.map];omega
def Uy (x:Qc):Prop:=(wfInt .i64) x.Err∧wfTrue x.Found∧wfStr x.Value∧(wfSl JZ) x.Pairs
def UU (x:Qc):Nat:=sz1 x.Err+sz1 x.Found+szStr x.Value+(szSl Um) x.Pairs+1
theorem Jg:Opens Tryd.prog 34 Kv Uy UU:=by
 intro H enc w sp held fuel cs x h;obtain ⟨xs,n,rfl,rfl,hl,hxs,hf⟩:=DataW.trod_struct Tryd.underlying34 h;have hl':cs.length=4:=hl.trans (by kernel_rfl);have hx':xs.length=4:=hxs.trans (by kernel_rfl)
 obtain ⟨V,W,Y,Z,rfl⟩:∃ V W Y Z,xs=[V,W,Y,Z]:=by
  match xs,hx' with | [V,W,Y,Z],_=>exact ⟨V,W,Y,Z,rfl⟩
 obtain ⟨B,E,K,U,rfl⟩:∃ B E K U,cs=[B,E,K,U]:=by
  match cs,hl' with | [B,E,K,U],_=>exact ⟨B,E,K,U,rfl⟩
 have h0:DataW.trod enc Tryd.prog w 0 sp held n 28 (([B,E,K,U].drop 0).take (Tryd.prog.cellsOf 28))=some V:=hf 0 _ rfl;rw [(by kernel_rfl:Tryd.prog.cellsOf 28=1)] at h0;replace h0:DataW.trod enc Tryd.prog w 0 sp held n 28 [B]=some V:=h0;obtain ⟨a0,r0,w0,s0⟩:=(VV Tryd.underlying28) H enc w sp held n _ _ h0;have h1:DataW.trod enc Tryd.prog w 0 sp held n 4 (([B,E,K,U].drop 1).take (Tryd.prog.cellsOf 4))=some W:=hf 1 _ rfl;rw [(by kernel_rfl:Tryd.prog.cellsOf 4=1)] at h1;replace h1:DataW.trod enc Tryd.prog w 0 sp held n 4 [E]=some W:=h1;obtain ⟨a1,r1,w1,s1⟩:=(q7 Tryd.underlying4) H enc w sp held n _ _ h1;have h2:DataW.trod enc Tryd.prog w 0 sp held n 9 (([B,E,K,U].drop 2).take (Tryd.prog.cellsOf 9))=some Y:=hf 2 _ rfl;rw [(by kernel_rfl:Tryd.prog.cellsOf 9=1)] at h2;replace h2:DataW.trod enc Tryd.prog w 0 sp held n 9 [K]=some Y:=h2;obtain ⟨a2,r2,w2,s2⟩:=(UI Tryd.underlying9) H enc w sp held n _ _ h2;have h3:DataW.trod enc Tryd.prog w 0 sp held n 32 (([B,E,K,U].drop 3).take (Tryd.prog.cellsOf 32))=some Z:=hf 3 _ rfl;rw [(by kernel_rfl:Tryd.prog.cellsOf 32=1)] at h3;replace h3:DataW.trod enc Tryd.prog w 0 sp held n 32 [U]=some Z:=h3;obtain ⟨a3,r3,w3,s3⟩:=(UQ Tryd.underlying32 (by kernel_rfl) (by decide) KP) H enc w sp held n _ _ h3
 cases r0
 cases r1
 cases r2
 obtain ⟨v3,g3,e3⟩:=r3
 cases e3
 refine ⟨⟨a0,a1,a2,a3⟩,⟨_,g3,rfl⟩,⟨w0,w1,w2,w3⟩,?_⟩;simp only [UU,Rows.uptoBulk,Rows.uptoBulkAll,List.map];omega
def U6 (x:QA):Prop:=(wfInt .u8) x.What∧(wfInt .i64) x.Task∧(wfInt .i64) x.Call∧Uy x.Answer
def Uf (x:QA):Nat:=sz1 x.What+sz1 x.Task+sz1 x.Call+UU x.Answer+1
theorem J0:Opens Tryd.prog 55 QH U6 Uf:=by
 intro H enc w sp held fuel cs x h;obtain ⟨xs,n,rfl,rfl,hl,hxs,hf⟩:=DataW.trod_struct Tryd.underlying55 h;have hl':cs.length=7:=hl.trans (by kernel_rfl);have hx':xs.length=4:=hxs.trans (by kernel_rfl)
 obtain ⟨Z,y1,y2,y3,rfl⟩:∃ Z y1 y2 y3,xs=[Z,y1,y2,y3]:=by
  match xs,hx' with | [Z,y1,y2,y3],_=>exact ⟨Z,y1,y2,y3,rfl⟩
 obtain ⟨B,E,K,U,V,W,Y,rfl⟩:∃ B E K U V W Y,cs=[B,E,K,U,V,W,Y]:=by
  match cs,hl' with | [B,E,K,U,V,W,Y],_=>exact ⟨B,E,K,U,V,W,Y,rfl⟩
 have h0:DataW.trod enc Tryd.prog w 0 sp held n 5 (([B,E,K,U,V,W,Y].drop 0).take (Tryd.prog.cellsOf 5))=some Z:=hf 0 _ rfl;rw [(by kernel_rfl:Tryd.prog.cellsOf 5=1)] at h0;replace h0:DataW.trod enc Tryd.prog w 0 sp held n 5 [B]=some Z:=h0;obtain ⟨a0,r0,w0,s0⟩:=(VV Tryd.underlying5) H enc w sp held n _ _ h0;have h1:DataW.trod enc Tryd.prog w 0 sp held n 3 (([B,E,K,U,V,W,Y].drop 1).take (Tryd.prog.cellsOf 3))=some y1:=hf 1 _ rfl;rw [(by kernel_rfl:Tryd.prog.cellsOf 3=1)] at h1;replace h1:DataW.trod enc Tryd.prog w 0 sp held n 3 [E]=some y1:=h1;obtain ⟨a1,r1,w1,s1⟩:=(VV Tryd.underlying3) H enc w sp held n _ _ h1;have h2:DataW.trod enc Tryd.prog w 0 sp held n 3 (([B,E,K,U,V,W,Y].drop 2).take (Tryd.prog.cellsOf 3))=some y2:=hf 2 _ rfl;rw [(by kernel_rfl:Tryd.prog.cellsOf 3=1)] at h2;replace h2:DataW.trod enc Tryd.prog w 0 sp held n 3 [K]=some y2:=h2;obtain ⟨a2,r2,w2,s2⟩:=(VV Tryd.underlying3) H enc w sp held n _ _ h2;have h3:DataW.trod enc Tryd.prog w 0 sp held n 34 (([B,E,K,U,V,W,Y].drop 3).take (Tryd.prog.cellsOf 34))=some y3:=hf 3 _ rfl;rw [(by kernel_rfl:Tryd.prog.cellsOf 34=4)] at h3;replace h3:DataW.trod enc Tryd.prog w 0 sp held n 34 [U,V,W,Y]=some y3:=h3;obtain ⟨a3,r3,w3,s3⟩:=Jg H enc w sp held n _ _ h3
 cases r0
 cases r1
 cases r2
 obtain ⟨v3_3,g3_3,e3⟩:=r3
 cases e3
 refine ⟨⟨a0,a1,a2,a3⟩,⟨_,g3_3,rfl⟩,⟨w0,w1,w2,w3⟩,?_⟩;simp only [Uf,Rows.uptoBulk,Rows.uptoBulkAll,List.map];omega
set_option maxRecDepth 100000
theorem J6:Tryd.prog.globalNamed "ferryman/model.does"=some 0:=by kernel_rfl
theorem QAB:(Tryd.prog.globals[0]?).map (·.type)=some 102:=by kernel_rfl
theorem QBz (os:Os) (args:Array Value):laidMetH Tryd.prog [("ferryman/model.does",Rows.laid_ferryman_model_does),("ferryman/replay.steps",Rows.laid_ferryman_replay_steps)] ((World.doorLaid Tryd.prog 400 os).forCall (fun _ _=>0) ⟨#[],args,[]⟩).memory :=
 laidMetH_of_parts3 (fuel:=8) (laidMet_of_run' 8 (by kernel_rfl) (by kernel_rfl)) (by kernel_rfl) (by kernel_rfl)
theorem Uj {P:Program} {H:Type} {enc:TypeId×Value→H} {w:World} {base:Nat} {sp:Nat→Bool} {held:Bool} {fuel:Nat} {t:TypeId} {ps rs:Array TypeId} {va:Bool} {v:Value} {q:List MemPlace} (ht:P.underlying t=some (.func ps rs va)) (h:DataW.trod enc P w base sp held fuel t [v]=some (.nil,q)):v=.nilFunc:=by
 cases fuel with
 | zero=>simp [DataW.trod] at h
 | succ n=>cases v<;>simp [DataW.trod,ht] at h ⊢
theorem QCZ {W:World} (h:laidMetH Tryd.prog [("ferryman/model.does",Rows.laid_ferryman_model_does),("ferryman/replay.steps",Rows.laid_ferryman_replay_steps)] W):∃ gt fr,Hp.of W 0=some (.cells #[.nilFunc,.func (.func 122) #[] #[],.func (.func 123) #[] #[],.func (.func 124) #[] #[],.func (.func 125) #[] #[],.func (.func 126) #[] #[],.func (.func 127) #[] #[],.func (.func 128) #[] #[],.func (.func 129) #[] #[],.func (.func 130) #[] #[]] gt fr):=by
 obtain ⟨g,t,cs,fuel,p,af,ag,B,a3⟩:=h.funcs (n:= "ferryman/model.does") (List.mem_cons_self ..);obtain rfl:=Option.some.inj (J6.symm.trans af);obtain rfl:=Option.some.inj (QAB.symm.trans ag);replace a3:DataW.trod (funcToken Tryd.prog) Tryd.prog W 0 (fun _=>true) true fuel 102 cs.toList=some (.agg [.nil,.held [40,42,102,101,114,114,121,109,97,110,47,109,111,100,101,108,46,77,111,100,101,108,41,46,98,101,103,105,110],.held [40,42,102,101,114,114,121,109,97,110,47,109,111,100,101,108,46,77,111,100,101,108,41,46,103,101,116],.held [40,42,102,101,114,114,121,109,97,110,47,109,111,100,101,108,46,77,111,100,101,108,41,46,112,117,116],.held [40,42,102,101,114,114,121,109,97,110,47,109,111,100,101,108,46,77,111,100,101,108,41,46,100,101,108],.held [40,42,102,101,114,114,121,109,97,110,47,109,111,100,101,108,46,77,111,100,101,108,41,46,115,99,97,110],.held [40,42,102,101,114,114,121,109,97,110,47,109,111,100,101,108,46,77,111,100,101,108,41,46,99,111,109,109,105,116],.held [40,42,102,101,114,114,121,109,97,110,47,109,111,100,101,108,46,77,111,100,101,108,41,46,97,98,111,114,116],.held [40,42,102,101,114,114,121,109,97,110,47,109,111,100,101,108,46,77,111,100,101,108,41,46,118,97,99,117,117,109],.held [40,42,102,101,114,114,121,109,97,110,47,109,111,100,101,108,46,77,111,100,101,108,41,46,109,105,103,114,97,116,101]],p):=a3;obtain ⟨xs,m1,rfl,ae,hlen,ah,hel⟩:=DataW.trod_array Tryd.underlying102 a3;have cA:Tryd.prog.cellsOf 102=10:=by kernel_rfl
 have cE:Tryd.prog.cellsOf 101=1:=by kernel_rfl
 rw [cA] at hlen;simp only [cE] at hel;obtain ⟨l0⟩:=cs
 obtain ⟨c0,c1,c2,c3,c4,c5,c6,c7,c8,c9,rfl⟩:∃ c0 c1 c2 c3 c4 c5 c6 c7 c8 c9,l0=[c0,c1,c2,c3,c4,c5,c6,c7,c8,c9]:=by
  match l0,hlen with | [c0,c1,c2,c3,c4,c5,c6,c7,c8,c9],_=>exact ⟨c0,c1,c2,c3,c4,c5,c6,c7,c8,c9,rfl⟩
 obtain ⟨E,H,K,U,V,Y,Z,y7,y8,y9,rfl⟩:∃ E H K U V Y Z y7 y8 y9,xs=[E,H,K,U,V,Y,Z,y7,y8,y9]:=by
  match xs,ah with | [E,H,K,U,V,Y,Z,y7,y8,y9],_=>exact ⟨E,H,K,U,V,Y,Z,y7,y8,y9,rfl⟩
 simp only [Prod.mk.injEq,DataW.agg.injEq,List.map_cons,List.map_nil,List.cons.injEq] at ae;obtain ⟨⟨x0,x1,x2,x3,x4,x5,x6,x7,x8,x9,_⟩,_⟩:=ae;have t0:DataW.trod (funcToken Tryd.prog) Tryd.prog W 0 (fun _=>true) true m1 101 [c0]=some (.nil,E.2):=(hel 0 (by decide)).trans (by rw [show (.nil:DataW (List UInt8))=E.1 from x0];rfl);obtain rfl:=Uj Tryd.underlying101 t0;have t1:DataW.trod (funcToken Tryd.prog) Tryd.prog W 0 (fun _=>true) true m1 101 [c1]=some (.held [40,42,102,101,114,114,121,109,97,110,47,109,111,100,101,108,46,77,111,100,101,108,41,46,98,101,103,105,110],H.2):=(hel 1 (by decide)).trans (by rw [show (.held [40,42,102,101,114,114,121,109,97,110,47,109,111,100,101,108,46,77,111,100,101,108,41,46,98,101,103,105,110]:DataW (List UInt8))=H.1 from x1];rfl);obtain rfl:=func_of_trod (f0:=122) Tryd.underlying101 (by kernel_rfl) t1;have t2:DataW.trod (funcToken Tryd.prog) Tryd.prog W 0 (fun _=>true) true m1 101 [c2]=some (.held [40,42,102,101,114,114,121,109,97,110,47,109,111,100,101,108,46,77,111,100,101,108,41,46,103,101,116],K.2):=(hel 2 (by decide)).trans (by rw [show (.held [40,42,102,101,114,114,121,109,97,110,47,109,111,100,101,108,46,77,111,100,101,108,41,46,103,101,116]:DataW (List UInt8))=K.1 from x2];rfl);obtain rfl:=func_of_trod (f0:=123) Tryd.underlying101 (by kernel_rfl) t2;have t3:DataW.trod (funcToken Tryd.prog) Tryd.prog W 0 (fun _=>true) true m1 101 [c3]=some (.held [40,42,102,101,114,114,121,109,97,110,47,109,111,100,101,108,46,77,111,100,101,108,41,46,112,117,116],U.2):=(hel 3 (by decide)).trans (by rw [show (.held [40,42,102,101,114,114,121,109,97,110,47,109,111,100,101,108,46,77,111,100,101,108,41,46,112,117,116]:DataW (List UInt8))=U.1 from x3];rfl);obtain rfl:=func_of_trod (f0:=124) Tryd.underlying101 (by kernel_rfl) t3;have t4:DataW.trod (funcToken Tryd.prog) Tryd.prog W 0 (fun _=>true) true m1 101 [c4]=some (.held [40,42,102,101,114,114,121,109,97,110,47,109,111,100,101,108,46,77,111,100,101,108,41,46,100,101,108],V.2):=(hel 4 (by decide)).trans (by rw [show (.held [40,42,102,101,114,114,121,109,97,110,47,109,111,100,101,108,46,77,111,100,101,108,41,46,100,101,108]:DataW (List UInt8))=V.1 from x4];rfl);obtain rfl:=func_of_trod (f0:=125) Tryd.underlying101 (by kernel_rfl) t4;have t5:DataW.trod (funcToken Tryd.prog) Tryd.prog W 0 (fun _=>true) true m1 101 [c5]=some (.held [40,42,102,101,114,114,121,109,97,110,47,109,111,100,101,108,46,77,111,100,101,108,41,46,115,99,97,110],Y.2):=(hel 5 (by decide)).trans (by rw [show (.held [40,42,102,101,114,114,121,109,97,110,47,109,111,100,101,108,46,77,111,100,101,108,41,46,115,99,97,110]:DataW (List UInt8))=Y.1 from x5];rfl);obtain rfl:=func_of_trod (f0:=126) Tryd.underlying101 (by kernel_rfl) t5;have t6:DataW.trod (funcToken Tryd.prog) Tryd.prog W 0 (fun _=>true) true m1 101 [c6]=some (.held [40,42,102,101,114,114,121,109,97,110,47,109,111,100,101,108,46,77,111,100,101,108,41,46,99,111,109,109,105,116],Z.2):=(hel 6 (by decide)).trans (by rw [show (.held [40,42,102,101,114,114,121,109,97,110,47,109,111,100,101,108,46,77,111,100,101,108,41,46,99,111,109,109,105,116]:DataW (List UInt8))=Z.1 from x6];rfl);obtain rfl:=func_of_trod (f0:=127) Tryd.underlying101 (by kernel_rfl) t6;have t7:DataW.trod (funcToken Tryd.prog) Tryd.prog W 0 (fun _=>true) true m1 101 [c7]=some (.held [40,42,102,101,114,114,121,109,97,110,47,109,111,100,101,108,46,77,111,100,101,108,41,46,97,98,111,114,116],y7.2):=(hel 7 (by decide)).trans (by rw [show (.held [40,42,102,101,114,114,121,109,97,110,47,109,111,100,101,108,46,77,111,100,101,108,41,46,97,98,111,114,116]:DataW (List UInt8))=y7.1 from x7];rfl);obtain rfl:=func_of_trod (f0:=128) Tryd.underlying101 (by kernel_rfl) t7;have t8:DataW.trod (funcToken Tryd.prog) Tryd.prog W 0 (fun _=>true) true m1 101 [c8]=some (.held [40,42,102,101,114,114,121,109,97,110,47,109,111,100,101,108,46,77,111,100,101,108,41,46,118,97,99,117,117,109],y8.2):=(hel 8 (by decide)).trans (by rw [show (.held [40,42,102,101,114,114,121,109,97,110,47,109,111,100,101,108,46,77,111,100,101,108,41,46,118,97,99,117,117,109]:DataW (List UInt8))=y8.1 from x8];rfl);obtain rfl:=func_of_trod (f0:=129) Tryd.underlying101 (by kernel_rfl) t8;have t9:DataW.trod (funcToken Tryd.prog) Tryd.prog W 0 (fun _=>true) true m1 101 [c9]=some (.held [40,42,102,101,114,114,121,109,97,110,47,109,111,100,101,108,46,77,111,100,101,108,41,46,109,105,103,114,97,116,101],y9.2):=(hel 9 (by decide)).trans (by rw [show (.held [40,42,102,101,114,114,121,109,97,110,47,109,111,100,101,108,46,77,111,100,101,108,41,46,109,105,103,114,97,116,101]:DataW (List UInt8))=y9.1 from x9];rfl);obtain rfl:=func_of_trod (f0:=130) Tryd.underlying101 (by kernel_rfl) t9;simp only [World.var?,J6,Option.bind_some] at B
 split at B
 ·next cs gt fr he =>
  obtain rfl:=Option.some.inj B;exact ⟨gt,fr,Hp.of_mk he⟩
 ·cases B
set_option maxRecDepth 100000
theorem J5:Tryd.prog.globalNamed "ferryman/replay.steps"=some 1:=by kernel_rfl
theorem QAA:(Tryd.prog.globals[1]?).map (·.type)=some 140:=by kernel_rfl
theorem door_met1 (os:Os) (args:Array Value):laidMetH Tryd.prog [("ferryman/model.does",Rows.laid_ferryman_model_does),("ferryman/replay.steps",Rows.laid_ferryman_replay_steps)] ((World.doorLaid Tryd.prog 400 os).forCall (fun _ _=>0) ⟨#[],args,[]⟩).memory :=
 laidMetH_of_parts3 (fuel:=8) (laidMet_of_run' 8 (by kernel_rfl) (by kernel_rfl)) (by kernel_rfl) (by kernel_rfl)
theorem QBg {W:World} (h:laidMetH Tryd.prog [("ferryman/model.does",Rows.laid_ferryman_model_does),("ferryman/replay.steps",Rows.laid_ferryman_replay_steps)] W):∃ gt fr,Hp.of W 1=some (.cells #[.nilFunc,.func (.func 173) #[] #[],.func (.func 175) #[] #[],.func (.func 177) #[] #[]] gt fr):=by
 obtain ⟨g,t,cs,fuel,p,a3,a4,B,V⟩:=h.funcs (n:= "ferryman/replay.steps") (List.mem_cons_of_mem _ (List.mem_cons_self ..));obtain rfl:=Option.some.inj (J5.symm.trans a3);obtain rfl:=Option.some.inj (QAA.symm.trans a4);replace V:DataW.trod (funcToken Tryd.prog) Tryd.prog W 0 (fun _=>true) true fuel 140 cs.toList=some (.agg [.nil,.held [102,101,114,114,121,109,97,110,47,114,101,112,108,97,121,46,115,116,101,112,115,36,49],.held [102,101,114,114,121,109,97,110,47,114,101,112,108,97,121,46,115,116,101,112,115,36,50],.held [102,101,114,114,121,109,97,110,47,114,101,112,108,97,121,46,115,116,101,112,115,36,51]],p):=V;obtain ⟨xs,m1,rfl,a2,hlen,a5,hel⟩:=DataW.trod_array Tryd.underlying140 V;have cA:Tryd.prog.cellsOf 140=4:=by kernel_rfl
 have cE:Tryd.prog.cellsOf 139=1:=by kernel_rfl
 rw [cA] at hlen;simp only [cE] at hel;obtain ⟨l0⟩:=cs
 obtain ⟨Y,Z,c2,c3,rfl⟩:∃ Y Z c2 c3,l0=[Y,Z,c2,c3]:=by
  match l0,hlen with | [Y,Z,c2,c3],_=>exact ⟨Y,Z,c2,c3,rfl⟩
 obtain ⟨E,H,K,U,rfl⟩:∃ E H K U,xs=[E,H,K,U]:=by
  match xs,a5 with | [E,H,K,U],_=>exact ⟨E,H,K,U,rfl⟩
 simp only [Prod.mk.injEq,DataW.agg.injEq,List.map_cons,List.map_nil,List.cons.injEq] at a2;obtain ⟨⟨x0,x1,x2,x3,_⟩,_⟩:=a2;have t0:DataW.trod (funcToken Tryd.prog) Tryd.prog W 0 (fun _=>true) true m1 139 [Y]=some (.nil,E.2):=(hel 0 (by decide)).trans (by rw [show (.nil:DataW (List UInt8))=E.1 from x0];rfl);obtain rfl:=Uj Tryd.underlying139 t0;have t1:DataW.trod (funcToken Tryd.prog) Tryd.prog W 0 (fun _=>true) true m1 139 [Z]=some (.held [102,101,114,114,121,109,97,110,47,114,101,112,108,97,121,46,115,116,101,112,115,36,49],H.2):=(hel 1 (by decide)).trans (by rw [show (.held [102,101,114,114,121,109,97,110,47,114,101,112,108,97,121,46,115,116,101,112,115,36,49]:DataW (List UInt8))=H.1 from x1];rfl);obtain rfl:=func_of_trod (f0:=173) Tryd.underlying139 (by kernel_rfl) t1;have t2:DataW.trod (funcToken Tryd.prog) Tryd.prog W 0 (fun _=>true) true m1 139 [c2]=some (.held [102,101,114,114,121,109,97,110,47,114,101,112,108,97,121,46,115,116,101,112,115,36,50],K.2):=(hel 2 (by decide)).trans (by rw [show (.held [102,101,114,114,121,109,97,110,47,114,101,112,108,97,121,46,115,116,101,112,115,36,50]:DataW (List UInt8))=K.1 from x2];rfl);obtain rfl:=func_of_trod (f0:=175) Tryd.underlying139 (by kernel_rfl) t2;have t3:DataW.trod (funcToken Tryd.prog) Tryd.prog W 0 (fun _=>true) true m1 139 [c3]=some (.held [102,101,114,114,121,109,97,110,47,114,101,112,108,97,121,46,115,116,101,112,115,36,51],U.2):=(hel 3 (by decide)).trans (by rw [show (.held [102,101,114,114,121,109,97,110,47,114,101,112,108,97,121,46,115,116,101,112,115,36,51]:DataW (List UInt8))=U.1 from x3];rfl);obtain rfl:=func_of_trod (f0:=177) Tryd.underlying139 (by kernel_rfl) t3;simp only [World.var?,J5,Option.bind_some] at B
 split at B
 ·next cs gt fr he =>
  obtain rfl:=Option.some.inj B;exact ⟨gt,fr,Hp.of_mk he⟩
 ·cases B
end Go.Proofs.YtnjbjpaiepefoaaDoor
