import Derived.Test.YtnjbjpaiepefoaaGreatDoorGt1B
import Derived.Test.YtnjbjpaiepefoaaGreatDoorSlH
import Derived.KernelRfl
import Derived.ProofKit
import Derived.LaidMore
import Derived.OpenShut
import Derived.FnData
import Derived.MakeChecks
import Derived.LaidHandle
import Derived.LaidLaws
namespace Go.Proofs.YtnjbjpaiepefoaaGreatDoor
open Go Go.RowKit
set_option linter.unusedVariables false
set_option linter.unusedSimpArgs false
set_option maxRecDepth 100000
def Uz (x:Qb):Prop:=(wfInt .i64) x.Tasks∧(wfInt .i64) x.Active∧(wfInt .i64) x.Keys∧(wfInt .i64) x.Depth∧(wfInt .i64) x.TS∧(wfInt .i64) x.KeyLen∧(wfInt .i64) x.ValLen∧(wfInt .i64) x.Fan
def UV (x:Qb):Nat:=sz1 x.Tasks+sz1 x.Active+sz1 x.Keys+sz1 x.Depth+sz1 x.TS+sz1 x.KeyLen+sz1 x.ValLen+sz1 x.Fan+1
theorem Ji:Opens Tryz.prog 23 Kr Uz UV:=by
 intro H enc w sp held fuel cs x h;obtain ⟨xs,n,rfl,rfl,hl,hxs,hf⟩:=DataW.trod_struct Tryz.underlying23 h;have hl':cs.length=8:=hl.trans (by kernel_rfl);have hx':xs.length=8:=hxs.trans (by kernel_rfl)
 obtain ⟨Y,Z,y2,y3,y4,y5,y6,y7,rfl⟩:∃ Y Z y2 y3 y4 y5 y6 y7,xs=[Y,Z,y2,y3,y4,y5,y6,y7]:=by
  match xs,hx' with | [Y,Z,y2,y3,y4,y5,y6,y7],_=>exact ⟨Y,Z,y2,y3,y4,y5,y6,y7,rfl⟩
 obtain ⟨B,E,G,K,O,U,V,W,rfl⟩:∃ B E G K O U V W,cs=[B,E,G,K,O,U,V,W]:=by
  match cs,hl' with | [B,E,G,K,O,U,V,W],_=>exact ⟨B,E,G,K,O,U,V,W,rfl⟩
 have h0:DataW.trod enc Tryz.prog w 0 sp held n 3 (([B,E,G,K,O,U,V,W].drop 0).take (Tryz.prog.cellsOf 3))=some Y:=hf 0 _ rfl;rw [(by kernel_rfl:Tryz.prog.cellsOf 3=1)] at h0;replace h0:DataW.trod enc Tryz.prog w 0 sp held n 3 [B]=some Y:=h0;obtain ⟨a0,r0,w0,s0⟩:=(VX Tryz.underlying3) H enc w sp held n _ _ h0;have h1:DataW.trod enc Tryz.prog w 0 sp held n 3 (([B,E,G,K,O,U,V,W].drop 1).take (Tryz.prog.cellsOf 3))=some Z:=hf 1 _ rfl;rw [(by kernel_rfl:Tryz.prog.cellsOf 3=1)] at h1;replace h1:DataW.trod enc Tryz.prog w 0 sp held n 3 [E]=some Z:=h1;obtain ⟨a1,r1,w1,s1⟩:=(VX Tryz.underlying3) H enc w sp held n _ _ h1;have h2:DataW.trod enc Tryz.prog w 0 sp held n 3 (([B,E,G,K,O,U,V,W].drop 2).take (Tryz.prog.cellsOf 3))=some y2:=hf 2 _ rfl;rw [(by kernel_rfl:Tryz.prog.cellsOf 3=1)] at h2;replace h2:DataW.trod enc Tryz.prog w 0 sp held n 3 [G]=some y2:=h2;obtain ⟨a2,r2,w2,s2⟩:=(VX Tryz.underlying3) H enc w sp held n _ _ h2;have h3:DataW.trod enc Tryz.prog w 0 sp held n 3 (([B,E,G,K,O,U,V,W].drop 3).take (Tryz.prog.cellsOf 3))=some y3:=hf 3 _ rfl;rw [(by kernel_rfl:Tryz.prog.cellsOf 3=1)] at h3;replace h3:DataW.trod enc Tryz.prog w 0 sp held n 3 [K]=some y3:=h3;obtain ⟨a3,r3,w3,s3⟩:=(VX Tryz.underlying3) H enc w sp held n _ _ h3;have h4:DataW.trod enc Tryz.prog w 0 sp held n 3 (([B,E,G,K,O,U,V,W].drop 4).take (Tryz.prog.cellsOf 3))=some y4:=hf 4 _ rfl;rw [(by kernel_rfl:Tryz.prog.cellsOf 3=1)] at h4;replace h4:DataW.trod enc Tryz.prog w 0 sp held n 3 [O]=some y4:=h4;obtain ⟨a4,r4,w4,s4⟩:=(VX Tryz.underlying3) H enc w sp held n _ _ h4;have h5:DataW.trod enc Tryz.prog w 0 sp held n 3 (([B,E,G,K,O,U,V,W].drop 5).take (Tryz.prog.cellsOf 3))=some y5:=hf 5 _ rfl;rw [(by kernel_rfl:Tryz.prog.cellsOf 3=1)] at h5;replace h5:DataW.trod enc Tryz.prog w 0 sp held n 3 [U]=some y5:=h5;obtain ⟨a5,r5,w5,s5⟩:=(VX Tryz.underlying3) H enc w sp held n _ _ h5;have h6:DataW.trod enc Tryz.prog w 0 sp held n 3 (([B,E,G,K,O,U,V,W].drop 6).take (Tryz.prog.cellsOf 3))=some y6:=hf 6 _ rfl;rw [(by kernel_rfl:Tryz.prog.cellsOf 3=1)] at h6;replace h6:DataW.trod enc Tryz.prog w 0 sp held n 3 [V]=some y6:=h6;obtain ⟨a6,r6,w6,s6⟩:=(VX Tryz.underlying3) H enc w sp held n _ _ h6;have h7:DataW.trod enc Tryz.prog w 0 sp held n 3 (([B,E,G,K,O,U,V,W].drop 7).take (Tryz.prog.cellsOf 3))=some y7:=hf 7 _ rfl;rw [(by kernel_rfl:Tryz.prog.cellsOf 3=1)] at h7;replace h7:DataW.trod enc Tryz.prog w 0 sp held n 3 [W]=some y7:=h7;obtain ⟨a7,r7,w7,s7⟩:=(VX Tryz.underlying3) H enc w sp held n _ _ h7
 cases r0
 cases r1
 cases r2
 cases r3
 cases r4
 cases r5
 cases r6
 cases r7
 refine ⟨⟨a0,a1,a2,a3,a4,a5,a6,a7⟩,rfl,⟨w0,w1,w2,w3,w4,w5,w6,w7⟩,?_⟩;simp only [UV,Rows.uptoBulk,Rows.uptoBulkAll,List.map];omega
def Jd (x:QZ):Prop:=(wfInt .u8) x.Kind∧(wfInt .i64) x.Tx∧wfStr x.Key∧wfStr x.End∧wfStr x.Value∧(wfInt .i64) x.Limit∧(wfInt .u8) x.Engine
def Uo (x:QZ):Nat:=sz1 x.Kind+sz1 x.Tx+szStr x.Key+szStr x.End+szStr x.Value+sz1 x.Limit+sz1 x.Engine+1
theorem KT:Opens Tryz.prog 69 Yp Jd Uo:=by
 intro H enc w sp held fuel cs x h;obtain ⟨xs,n,rfl,rfl,hl,hxs,hf⟩:=DataW.trod_struct Tryz.underlying69 h;have hl':cs.length=7:=hl.trans (by kernel_rfl);have hx':xs.length=7:=hxs.trans (by kernel_rfl)
 obtain ⟨W,Y,Z,y3,y4,y5,y6,rfl⟩:∃ W Y Z y3 y4 y5 y6,xs=[W,Y,Z,y3,y4,y5,y6]:=by
  match xs,hx' with | [W,Y,Z,y3,y4,y5,y6],_=>exact ⟨W,Y,Z,y3,y4,y5,y6,rfl⟩
 obtain ⟨B,E,G,K,O,U,V,rfl⟩:∃ B E G K O U V,cs=[B,E,G,K,O,U,V]:=by
  match cs,hl' with | [B,E,G,K,O,U,V],_=>exact ⟨B,E,G,K,O,U,V,rfl⟩
 have h0:DataW.trod enc Tryz.prog w 0 sp held n 5 (([B,E,G,K,O,U,V].drop 0).take (Tryz.prog.cellsOf 5))=some W:=hf 0 _ rfl;rw [(by kernel_rfl:Tryz.prog.cellsOf 5=1)] at h0;replace h0:DataW.trod enc Tryz.prog w 0 sp held n 5 [B]=some W:=h0;obtain ⟨a0,r0,w0,s0⟩:=(VX Tryz.underlying5) H enc w sp held n _ _ h0;have h1:DataW.trod enc Tryz.prog w 0 sp held n 3 (([B,E,G,K,O,U,V].drop 1).take (Tryz.prog.cellsOf 3))=some Y:=hf 1 _ rfl;rw [(by kernel_rfl:Tryz.prog.cellsOf 3=1)] at h1;replace h1:DataW.trod enc Tryz.prog w 0 sp held n 3 [E]=some Y:=h1;obtain ⟨a1,r1,w1,s1⟩:=(VX Tryz.underlying3) H enc w sp held n _ _ h1;have h2:DataW.trod enc Tryz.prog w 0 sp held n 9 (([B,E,G,K,O,U,V].drop 2).take (Tryz.prog.cellsOf 9))=some Z:=hf 2 _ rfl;rw [(by kernel_rfl:Tryz.prog.cellsOf 9=1)] at h2;replace h2:DataW.trod enc Tryz.prog w 0 sp held n 9 [G]=some Z:=h2;obtain ⟨a2,r2,w2,s2⟩:=(UK Tryz.underlying9) H enc w sp held n _ _ h2;have h3:DataW.trod enc Tryz.prog w 0 sp held n 9 (([B,E,G,K,O,U,V].drop 3).take (Tryz.prog.cellsOf 9))=some y3:=hf 3 _ rfl;rw [(by kernel_rfl:Tryz.prog.cellsOf 9=1)] at h3;replace h3:DataW.trod enc Tryz.prog w 0 sp held n 9 [K]=some y3:=h3;obtain ⟨a3,r3,w3,s3⟩:=(UK Tryz.underlying9) H enc w sp held n _ _ h3;have h4:DataW.trod enc Tryz.prog w 0 sp held n 9 (([B,E,G,K,O,U,V].drop 4).take (Tryz.prog.cellsOf 9))=some y4:=hf 4 _ rfl;rw [(by kernel_rfl:Tryz.prog.cellsOf 9=1)] at h4;replace h4:DataW.trod enc Tryz.prog w 0 sp held n 9 [O]=some y4:=h4;obtain ⟨a4,r4,w4,s4⟩:=(UK Tryz.underlying9) H enc w sp held n _ _ h4;have h5:DataW.trod enc Tryz.prog w 0 sp held n 3 (([B,E,G,K,O,U,V].drop 5).take (Tryz.prog.cellsOf 3))=some y5:=hf 5 _ rfl;rw [(by kernel_rfl:Tryz.prog.cellsOf 3=1)] at h5;replace h5:DataW.trod enc Tryz.prog w 0 sp held n 3 [U]=some y5:=h5;obtain ⟨a5,r5,w5,s5⟩:=(VX Tryz.underlying3) H enc w sp held n _ _ h5;have h6:DataW.trod enc Tryz.prog w 0 sp held n 5 (([B,E,G,K,O,U,V].drop 6).take (Tryz.prog.cellsOf 5))=some y6:=hf 6 _ rfl;rw [(by kernel_rfl:Tryz.prog.cellsOf 5=1)] at h6;replace h6:DataW.trod enc Tryz.prog w 0 sp held n 5 [V]=some y6:=h6;obtain ⟨a6,r6,w6,s6⟩:=(VX Tryz.underlying5) H enc w sp held n _ _ h6
 cases r0
 cases r1
 cases r2
 cases r3
 cases r4
 cases r5
 cases r6
 refine ⟨⟨a0,a1,a2,a3,a4,a5,a6⟩,rfl,⟨w0,w1,w2,w3,w4,w5,w6⟩,?_⟩;simp only [Uo,Rows.uptoBulk,Rows.uptoBulkAll,List.map];omega
def Jc (x:Qo):Prop:=wfStr x.Key∧wfStr x.Value
def Un (x:Qo):Nat:=szStr x.Key+szStr x.Value+1
theorem KS:Opens Tryz.prog 66 Ql Jc Un:=by
 intro H enc w sp held fuel cs x h;obtain ⟨xs,n,rfl,rfl,hl,hxs,hf⟩:=DataW.trod_struct Tryz.underlying66 h;have hl':cs.length=2:=hl.trans (by kernel_rfl);have hx':xs.length=2:=hxs.trans (by kernel_rfl)
 obtain ⟨G,K,rfl⟩:∃ G K,xs=[G,K]:=by
  match xs,hx' with | [G,K],_=>exact ⟨G,K,rfl⟩
 obtain ⟨B,E,rfl⟩:∃ B E,cs=[B,E]:=by
  match cs,hl' with | [B,E],_=>exact ⟨B,E,rfl⟩
 have h0:DataW.trod enc Tryz.prog w 0 sp held n 9 (([B,E].drop 0).take (Tryz.prog.cellsOf 9))=some G:=hf 0 _ rfl;rw [(by kernel_rfl:Tryz.prog.cellsOf 9=1)] at h0;replace h0:DataW.trod enc Tryz.prog w 0 sp held n 9 [B]=some G:=h0;obtain ⟨U,V,W,s0⟩:=(UK Tryz.underlying9) H enc w sp held n _ _ h0;have O:DataW.trod enc Tryz.prog w 0 sp held n 9 (([B,E].drop 1).take (Tryz.prog.cellsOf 9))=some K:=hf 1 _ rfl;rw [(by kernel_rfl:Tryz.prog.cellsOf 9=1)] at O;replace O:DataW.trod enc Tryz.prog w 0 sp held n 9 [E]=some K:=O;obtain ⟨Y,Z,w1,s1⟩:=(UK Tryz.underlying9) H enc w sp held n _ _ O
 cases V
 cases Z
 refine ⟨⟨U,Y⟩,rfl,⟨W,w1⟩,?_⟩;simp only [Un,Rows.uptoBulk,Rows.uptoBulkAll,List.map];omega
def U0 (x:Qk):Prop:=(wfInt .i64) x.Err∧wfTrue x.Found∧wfStr x.Value∧(wfSl Jc) x.Pairs
def UW (x:Qk):Nat:=sz1 x.Err+sz1 x.Found+szStr x.Value+(szSl Un) x.Pairs+1
theorem Jj:Opens Tryz.prog 62 Ks U0 UW:=by
 intro H enc w sp held fuel cs x h;obtain ⟨xs,n,rfl,rfl,hl,hxs,hf⟩:=DataW.trod_struct Tryz.underlying62 h;have hl':cs.length=4:=hl.trans (by kernel_rfl);have hx':xs.length=4:=hxs.trans (by kernel_rfl)
 obtain ⟨O,U,V,W,rfl⟩:∃ O U V W,xs=[O,U,V,W]:=by
  match xs,hx' with | [O,U,V,W],_=>exact ⟨O,U,V,W,rfl⟩
 obtain ⟨B,E,G,K,rfl⟩:∃ B E G K,cs=[B,E,G,K]:=by
  match cs,hl' with | [B,E,G,K],_=>exact ⟨B,E,G,K,rfl⟩
 have h0:DataW.trod enc Tryz.prog w 0 sp held n 28 (([B,E,G,K].drop 0).take (Tryz.prog.cellsOf 28))=some O:=hf 0 _ rfl;rw [(by kernel_rfl:Tryz.prog.cellsOf 28=1)] at h0;replace h0:DataW.trod enc Tryz.prog w 0 sp held n 28 [B]=some O:=h0;obtain ⟨a0,r0,w0,s0⟩:=(VX Tryz.underlying28) H enc w sp held n _ _ h0;have Y:DataW.trod enc Tryz.prog w 0 sp held n 4 (([B,E,G,K].drop 1).take (Tryz.prog.cellsOf 4))=some U:=hf 1 _ rfl;rw [(by kernel_rfl:Tryz.prog.cellsOf 4=1)] at Y;replace Y:DataW.trod enc Tryz.prog w 0 sp held n 4 [E]=some U:=Y;obtain ⟨a1,r1,w1,s1⟩:=(qw Tryz.underlying4) H enc w sp held n _ _ Y;have Z:DataW.trod enc Tryz.prog w 0 sp held n 9 (([B,E,G,K].drop 2).take (Tryz.prog.cellsOf 9))=some V:=hf 2 _ rfl;rw [(by kernel_rfl:Tryz.prog.cellsOf 9=1)] at Z;replace Z:DataW.trod enc Tryz.prog w 0 sp held n 9 [G]=some V:=Z;obtain ⟨a2,r2,w2,s2⟩:=(UK Tryz.underlying9) H enc w sp held n _ _ Z;have h3:DataW.trod enc Tryz.prog w 0 sp held n 60 (([B,E,G,K].drop 3).take (Tryz.prog.cellsOf 60))=some W:=hf 3 _ rfl;rw [(by kernel_rfl:Tryz.prog.cellsOf 60=1)] at h3;replace h3:DataW.trod enc Tryz.prog w 0 sp held n 60 [K]=some W:=h3;obtain ⟨a3,r3,w3,s3⟩:=(UR Tryz.underlying60 (by kernel_rfl) (by decide) KS) H enc w sp held n _ _ h3
 cases r0
 cases r1
 cases r2
 obtain ⟨v3,g3,e3⟩:=r3
 cases e3
 refine ⟨⟨a0,a1,a2,a3⟩,⟨_,g3,rfl⟩,⟨w0,w1,w2,w3⟩,?_⟩;simp only [UW,Rows.uptoBulk,Rows.uptoBulkAll,List.map];omega
def JB (x:QB):Prop:=(wfInt .u8) x.What∧(wfInt .i64) x.Task∧(wfInt .i64) x.Call∧U0 x.Answer
def Ue (x:QB):Nat:=sz1 x.What+sz1 x.Task+sz1 x.Call+UW x.Answer+1
theorem J2:Opens Tryz.prog 64 QV JB Ue:=by
 intro H enc w sp held fuel cs x h;obtain ⟨xs,n,rfl,rfl,hl,hxs,hf⟩:=DataW.trod_struct Tryz.underlying64 h;have hl':cs.length=7:=hl.trans (by kernel_rfl);have hx':xs.length=4:=hxs.trans (by kernel_rfl)
 obtain ⟨W,Y,Z,y3,rfl⟩:∃ W Y Z y3,xs=[W,Y,Z,y3]:=by
  match xs,hx' with | [W,Y,Z,y3],_=>exact ⟨W,Y,Z,y3,rfl⟩
 obtain ⟨B,E,G,K,O,U,V,rfl⟩:∃ B E G K O U V,cs=[B,E,G,K,O,U,V]:=by
  match cs,hl' with | [B,E,G,K,O,U,V],_=>exact ⟨B,E,G,K,O,U,V,rfl⟩
 have h0:DataW.trod enc Tryz.prog w 0 sp held n 5 (([B,E,G,K,O,U,V].drop 0).take (Tryz.prog.cellsOf 5))=some W:=hf 0 _ rfl;rw [(by kernel_rfl:Tryz.prog.cellsOf 5=1)] at h0;replace h0:DataW.trod enc Tryz.prog w 0 sp held n 5 [B]=some W:=h0;obtain ⟨a0,r0,w0,s0⟩:=(VX Tryz.underlying5) H enc w sp held n _ _ h0;have h1:DataW.trod enc Tryz.prog w 0 sp held n 3 (([B,E,G,K,O,U,V].drop 1).take (Tryz.prog.cellsOf 3))=some Y:=hf 1 _ rfl;rw [(by kernel_rfl:Tryz.prog.cellsOf 3=1)] at h1;replace h1:DataW.trod enc Tryz.prog w 0 sp held n 3 [E]=some Y:=h1;obtain ⟨a1,r1,w1,s1⟩:=(VX Tryz.underlying3) H enc w sp held n _ _ h1;have h2:DataW.trod enc Tryz.prog w 0 sp held n 3 (([B,E,G,K,O,U,V].drop 2).take (Tryz.prog.cellsOf 3))=some Z:=hf 2 _ rfl;rw [(by kernel_rfl:Tryz.prog.cellsOf 3=1)] at h2;replace h2:DataW.trod enc Tryz.prog w 0 sp held n 3 [G]=some Z:=h2;obtain ⟨a2,r2,w2,s2⟩:=(VX Tryz.underlying3) H enc w sp held n _ _ h2;have h3:DataW.trod enc Tryz.prog w 0 sp held n 62 (([B,E,G,K,O,U,V].drop 3).take (Tryz.prog.cellsOf 62))=some y3:=hf 3 _ rfl;rw [(by kernel_rfl:Tryz.prog.cellsOf 62=4)] at h3;replace h3:DataW.trod enc Tryz.prog w 0 sp held n 62 [K,O,U,V]=some y3:=h3;obtain ⟨a3,r3,w3,s3⟩:=Jj H enc w sp held n _ _ h3
 cases r0
 cases r1
 cases r2
 obtain ⟨v3_3,g3_3,e3⟩:=r3
 cases e3
 refine ⟨⟨a0,a1,a2,a3⟩,⟨_,g3_3,rfl⟩,⟨w0,w1,w2,w3⟩,?_⟩;simp only [Ue,Rows.uptoBulk,Rows.uptoBulkAll,List.map];omega
set_option maxRecDepth 100000
theorem J7:Tryz.prog.globalNamed "ferryman/model.does"=some 1:=by kernel_rfl
theorem qy:(Tryz.prog.globals[1]?).map (·.type)=some 154:=by kernel_rfl
theorem QBe (os:Os) (args:Array Value):laidMetH Tryz.prog [("ferryman/model.does",Rows.laid_ferryman_model_does),("ferryman/replay.steps",Rows.laid_ferryman_replay_steps)] ((World.doorLaid Tryz.prog 400 os).forCall (fun _ _=>0) ⟨#[],args,[]⟩).memory :=
 laidMetH_of_parts3 (fuel:=8) (laidMet_of_run' 8 (by kernel_rfl) (by kernel_rfl)) (by kernel_rfl) (by kernel_rfl)
theorem Uk {P:Program} {H:Type} {enc:TypeId×Value→H} {w:World} {base:Nat} {sp:Nat→Bool} {held:Bool} {fuel:Nat} {t:TypeId} {ps rs:Array TypeId} {va:Bool} {v:Value} {q:List MemPlace} (ht:P.underlying t=some (.func ps rs va)) (h:DataW.trod enc P w base sp held fuel t [v]=some (.nil,q)):v=.nilFunc:=by
 cases fuel with
 | zero=>simp [DataW.trod] at h
 | succ n=>cases v<;>simp [DataW.trod,ht] at h ⊢
theorem QCL {W:World} (h:laidMetH Tryz.prog [("ferryman/model.does",Rows.laid_ferryman_model_does),("ferryman/replay.steps",Rows.laid_ferryman_replay_steps)] W):∃ gt fr,Hp.of W 1=some (.cells #[.nilFunc,.func (.func 158) #[] #[],.func (.func 159) #[] #[],.func (.func 160) #[] #[],.func (.func 161) #[] #[],.func (.func 162) #[] #[],.func (.func 163) #[] #[],.func (.func 164) #[] #[],.func (.func 165) #[] #[],.func (.func 166) #[] #[]] gt fr):=by
 obtain ⟨g,t,cs,fuel,p,ad,ae,B,a1⟩:=h.funcs (n:= "ferryman/model.does") (List.mem_cons_self ..);obtain rfl:=Option.some.inj (J7.symm.trans ad);obtain rfl:=Option.some.inj (qy.symm.trans ae);replace a1:DataW.trod (funcToken Tryz.prog) Tryz.prog W 0 (fun _=>true) true fuel 154 cs.toList=some (.agg [.nil,.held [40,42,102,101,114,114,121,109,97,110,47,109,111,100,101,108,46,77,111,100,101,108,41,46,98,101,103,105,110],.held [40,42,102,101,114,114,121,109,97,110,47,109,111,100,101,108,46,77,111,100,101,108,41,46,103,101,116],.held [40,42,102,101,114,114,121,109,97,110,47,109,111,100,101,108,46,77,111,100,101,108,41,46,112,117,116],.held [40,42,102,101,114,114,121,109,97,110,47,109,111,100,101,108,46,77,111,100,101,108,41,46,100,101,108],.held [40,42,102,101,114,114,121,109,97,110,47,109,111,100,101,108,46,77,111,100,101,108,41,46,115,99,97,110],.held [40,42,102,101,114,114,121,109,97,110,47,109,111,100,101,108,46,77,111,100,101,108,41,46,99,111,109,109,105,116],.held [40,42,102,101,114,114,121,109,97,110,47,109,111,100,101,108,46,77,111,100,101,108,41,46,97,98,111,114,116],.held [40,42,102,101,114,114,121,109,97,110,47,109,111,100,101,108,46,77,111,100,101,108,41,46,118,97,99,117,117,109],.held [40,42,102,101,114,114,121,109,97,110,47,109,111,100,101,108,46,77,111,100,101,108,41,46,109,105,103,114,97,116,101]],p):=a1;obtain ⟨xs,m1,rfl,ac,hlen,af,hel⟩:=DataW.trod_array Tryz.underlying154 a1;have cA:Tryz.prog.cellsOf 154=10:=by kernel_rfl
 have cE:Tryz.prog.cellsOf 153=1:=by kernel_rfl
 rw [cA] at hlen;simp only [cE] at hel;obtain ⟨l0⟩:=cs
 obtain ⟨c0,c1,c2,c3,c4,c5,c6,c7,c8,c9,rfl⟩:∃ c0 c1 c2 c3 c4 c5 c6 c7 c8 c9,l0=[c0,c1,c2,c3,c4,c5,c6,c7,c8,c9]:=by
  match l0,hlen with | [c0,c1,c2,c3,c4,c5,c6,c7,c8,c9],_=>exact ⟨c0,c1,c2,c3,c4,c5,c6,c7,c8,c9,rfl⟩
 obtain ⟨E,G,H,K,O,U,V,Y,Z,y9,rfl⟩:∃ E G H K O U V Y Z y9,xs=[E,G,H,K,O,U,V,Y,Z,y9]:=by
  match xs,af with | [E,G,H,K,O,U,V,Y,Z,y9],_=>exact ⟨E,G,H,K,O,U,V,Y,Z,y9,rfl⟩
 simp only [Prod.mk.injEq,DataW.agg.injEq,List.map_cons,List.map_nil,List.cons.injEq] at ac;obtain ⟨⟨x0,x1,x2,x3,x4,x5,x6,x7,x8,x9,_⟩,_⟩:=ac;have t0:DataW.trod (funcToken Tryz.prog) Tryz.prog W 0 (fun _=>true) true m1 153 [c0]=some (.nil,E.2):=(hel 0 (by decide)).trans (by rw [show (.nil:DataW (List UInt8))=E.1 from x0];rfl);obtain rfl:=Uk Tryz.underlying153 t0;have t1:DataW.trod (funcToken Tryz.prog) Tryz.prog W 0 (fun _=>true) true m1 153 [c1]=some (.held [40,42,102,101,114,114,121,109,97,110,47,109,111,100,101,108,46,77,111,100,101,108,41,46,98,101,103,105,110],G.2):=(hel 1 (by decide)).trans (by rw [show (.held [40,42,102,101,114,114,121,109,97,110,47,109,111,100,101,108,46,77,111,100,101,108,41,46,98,101,103,105,110]:DataW (List UInt8))=G.1 from x1];rfl);obtain rfl:=func_of_trod (f0:=158) Tryz.underlying153 (by kernel_rfl) t1;have t2:DataW.trod (funcToken Tryz.prog) Tryz.prog W 0 (fun _=>true) true m1 153 [c2]=some (.held [40,42,102,101,114,114,121,109,97,110,47,109,111,100,101,108,46,77,111,100,101,108,41,46,103,101,116],H.2):=(hel 2 (by decide)).trans (by rw [show (.held [40,42,102,101,114,114,121,109,97,110,47,109,111,100,101,108,46,77,111,100,101,108,41,46,103,101,116]:DataW (List UInt8))=H.1 from x2];rfl);obtain rfl:=func_of_trod (f0:=159) Tryz.underlying153 (by kernel_rfl) t2;have t3:DataW.trod (funcToken Tryz.prog) Tryz.prog W 0 (fun _=>true) true m1 153 [c3]=some (.held [40,42,102,101,114,114,121,109,97,110,47,109,111,100,101,108,46,77,111,100,101,108,41,46,112,117,116],K.2):=(hel 3 (by decide)).trans (by rw [show (.held [40,42,102,101,114,114,121,109,97,110,47,109,111,100,101,108,46,77,111,100,101,108,41,46,112,117,116]:DataW (List UInt8))=K.1 from x3];rfl);obtain rfl:=func_of_trod (f0:=160) Tryz.underlying153 (by kernel_rfl) t3;have t4:DataW.trod (funcToken Tryz.prog) Tryz.prog W 0 (fun _=>true) true m1 153 [c4]=some (.held [40,42,102,101,114,114,121,109,97,110,47,109,111,100,101,108,46,77,111,100,101,108,41,46,100,101,108],O.2):=(hel 4 (by decide)).trans (by rw [show (.held [40,42,102,101,114,114,121,109,97,110,47,109,111,100,101,108,46,77,111,100,101,108,41,46,100,101,108]:DataW (List UInt8))=O.1 from x4];rfl);obtain rfl:=func_of_trod (f0:=161) Tryz.underlying153 (by kernel_rfl) t4;have t5:DataW.trod (funcToken Tryz.prog) Tryz.prog W 0 (fun _=>true) true m1 153 [c5]=some (.held [40,42,102,101,114,114,121,109,97,110,47,109,111,100,101,108,46,77,111,100,101,108,41,46,115,99,97,110],U.2):=(hel 5 (by decide)).trans (by rw [show (.held [40,42,102,101,114,114,121,109,97,110,47,109,111,100,101,108,46,77,111,100,101,108,41,46,115,99,97,110]:DataW (List UInt8))=U.1 from x5];rfl);obtain rfl:=func_of_trod (f0:=162) Tryz.underlying153 (by kernel_rfl) t5;have t6:DataW.trod (funcToken Tryz.prog) Tryz.prog W 0 (fun _=>true) true m1 153 [c6]=some (.held [40,42,102,101,114,114,121,109,97,110,47,109,111,100,101,108,46,77,111,100,101,108,41,46,99,111,109,109,105,116],V.2):=(hel 6 (by decide)).trans (by rw [show (.held [40,42,102,101,114,114,121,109,97,110,47,109,111,100,101,108,46,77,111,100,101,108,41,46,99,111,109,109,105,116]:DataW (List UInt8))=V.1 from x6];rfl);obtain rfl:=func_of_trod (f0:=163) Tryz.underlying153 (by kernel_rfl) t6;have t7:DataW.trod (funcToken Tryz.prog) Tryz.prog W 0 (fun _=>true) true m1 153 [c7]=some (.held [40,42,102,101,114,114,121,109,97,110,47,109,111,100,101,108,46,77,111,100,101,108,41,46,97,98,111,114,116],Y.2):=(hel 7 (by decide)).trans (by rw [show (.held [40,42,102,101,114,114,121,109,97,110,47,109,111,100,101,108,46,77,111,100,101,108,41,46,97,98,111,114,116]:DataW (List UInt8))=Y.1 from x7];rfl);obtain rfl:=func_of_trod (f0:=164) Tryz.underlying153 (by kernel_rfl) t7;have t8:DataW.trod (funcToken Tryz.prog) Tryz.prog W 0 (fun _=>true) true m1 153 [c8]=some (.held [40,42,102,101,114,114,121,109,97,110,47,109,111,100,101,108,46,77,111,100,101,108,41,46,118,97,99,117,117,109],Z.2):=(hel 8 (by decide)).trans (by rw [show (.held [40,42,102,101,114,114,121,109,97,110,47,109,111,100,101,108,46,77,111,100,101,108,41,46,118,97,99,117,117,109]:DataW (List UInt8))=Z.1 from x8];rfl);obtain rfl:=func_of_trod (f0:=165) Tryz.underlying153 (by kernel_rfl) t8;have t9:DataW.trod (funcToken Tryz.prog) Tryz.prog W 0 (fun _=>true) true m1 153 [c9]=some (.held [40,42,102,101,114,114,121,109,97,110,47,109,111,100,101,108,46,77,111,100,101,108,41,46,109,105,103,114,97,116,101],y9.2):=(hel 9 (by decide)).trans (by rw [show (.held [40,42,102,101,114,114,121,109,97,110,47,109,111,100,101,108,46,77,111,100,101,108,41,46,109,105,103,114,97,116,101]:DataW (List UInt8))=y9.1 from x9];rfl);obtain rfl:=func_of_trod (f0:=166) Tryz.underlying153 (by kernel_rfl) t9;simp only [World.var?,J7,Option.bind_some] at B
 split at B
 ·next cs gt fr he =>
  obtain rfl:=Option.some.inj B;exact ⟨gt,fr,Hp.of_mk he⟩
 ·cases B
set_option maxRecDepth 100000
theorem J8:Tryz.prog.globalNamed "ferryman/replay.steps"=some 0:=by kernel_rfl
theorem qz:(Tryz.prog.globals[0]?).map (·.type)=some 130:=by kernel_rfl
theorem door_met1 (os:Os) (args:Array Value):laidMetH Tryz.prog [("ferryman/model.does",Rows.laid_ferryman_model_does),("ferryman/replay.steps",Rows.laid_ferryman_replay_steps)] ((World.doorLaid Tryz.prog 400 os).forCall (fun _ _=>0) ⟨#[],args,[]⟩).memory :=
 laidMetH_of_parts3 (fuel:=8) (laidMet_of_run' 8 (by kernel_rfl) (by kernel_rfl)) (by kernel_rfl) (by kernel_rfl)
theorem QBN {W:World} (h:laidMetH Tryz.prog [("ferryman/model.does",Rows.laid_ferryman_model_does),("ferryman/replay.steps",Rows.laid_ferryman_replay_steps)] W):∃ gt fr,Hp.of W 0=some (.cells #[.nilFunc,.func (.func 151) #[] #[],.func (.func 153) #[] #[],.func (.func 155) #[] #[]] gt fr):=by
 obtain ⟨g,t,cs,fuel,p,a1,a2,B,O⟩:=h.funcs (n:= "ferryman/replay.steps") (List.mem_cons_of_mem _ (List.mem_cons_self ..));obtain rfl:=Option.some.inj (J8.symm.trans a1);obtain rfl:=Option.some.inj (qz.symm.trans a2);replace O:DataW.trod (funcToken Tryz.prog) Tryz.prog W 0 (fun _=>true) true fuel 130 cs.toList=some (.agg [.nil,.held [102,101,114,114,121,109,97,110,47,114,101,112,108,97,121,46,115,116,101,112,115,36,49],.held [102,101,114,114,121,109,97,110,47,114,101,112,108,97,121,46,115,116,101,112,115,36,50],.held [102,101,114,114,121,109,97,110,47,114,101,112,108,97,121,46,115,116,101,112,115,36,51]],p):=O;obtain ⟨xs,m1,rfl,a0,hlen,a3,hel⟩:=DataW.trod_array Tryz.underlying130 O;have cA:Tryz.prog.cellsOf 130=4:=by kernel_rfl
 have cE:Tryz.prog.cellsOf 129=1:=by kernel_rfl
 rw [cA] at hlen;simp only [cE] at hel;obtain ⟨l0⟩:=cs
 obtain ⟨U,V,Y,Z,rfl⟩:∃ U V Y Z,l0=[U,V,Y,Z]:=by
  match l0,hlen with | [U,V,Y,Z],_=>exact ⟨U,V,Y,Z,rfl⟩
 obtain ⟨E,G,H,K,rfl⟩:∃ E G H K,xs=[E,G,H,K]:=by
  match xs,a3 with | [E,G,H,K],_=>exact ⟨E,G,H,K,rfl⟩
 simp only [Prod.mk.injEq,DataW.agg.injEq,List.map_cons,List.map_nil,List.cons.injEq] at a0;obtain ⟨⟨x0,x1,x2,x3,_⟩,_⟩:=a0;have t0:DataW.trod (funcToken Tryz.prog) Tryz.prog W 0 (fun _=>true) true m1 129 [U]=some (.nil,E.2):=(hel 0 (by decide)).trans (by rw [show (.nil:DataW (List UInt8))=E.1 from x0];rfl);obtain rfl:=Uk Tryz.underlying129 t0;have t1:DataW.trod (funcToken Tryz.prog) Tryz.prog W 0 (fun _=>true) true m1 129 [V]=some (.held [102,101,114,114,121,109,97,110,47,114,101,112,108,97,121,46,115,116,101,112,115,36,49],G.2):=(hel 1 (by decide)).trans (by rw [show (.held [102,101,114,114,121,109,97,110,47,114,101,112,108,97,121,46,115,116,101,112,115,36,49]:DataW (List UInt8))=G.1 from x1];rfl);obtain rfl:=func_of_trod (f0:=151) Tryz.underlying129 (by kernel_rfl) t1;have t2:DataW.trod (funcToken Tryz.prog) Tryz.prog W 0 (fun _=>true) true m1 129 [Y]=some (.held [102,101,114,114,121,109,97,110,47,114,101,112,108,97,121,46,115,116,101,112,115,36,50],H.2):=(hel 2 (by decide)).trans (by rw [show (.held [102,101,114,114,121,109,97,110,47,114,101,112,108,97,121,46,115,116,101,112,115,36,50]:DataW (List UInt8))=H.1 from x2];rfl);obtain rfl:=func_of_trod (f0:=153) Tryz.underlying129 (by kernel_rfl) t2;have t3:DataW.trod (funcToken Tryz.prog) Tryz.prog W 0 (fun _=>true) true m1 129 [Z]=some (.held [102,101,114,114,121,109,97,110,47,114,101,112,108,97,121,46,115,116,101,112,115,36,51],K.2):=(hel 3 (by decide)).trans (by rw [show (.held [102,101,114,114,121,109,97,110,47,114,101,112,108,97,121,46,115,116,101,112,115,36,51]:DataW (List UInt8))=K.1 from x3];rfl);obtain rfl:=func_of_trod (f0:=155) Tryz.underlying129 (by kernel_rfl) t3;simp only [World.var?,J8,Option.bind_some] at B
 split at B
 ·next cs gt fr he =>
  obtain rfl:=Option.some.inj B;exact ⟨gt,fr,Hp.of_mk he⟩
 ·cases B
end Go.Proofs.YtnjbjpaiepefoaaGreatDoor
