import Derived.Test.YtnjbjpaiepefoaaGreatDoorPureModel3
namespace Go.Proofs.YtnjbjpaiepefoaaGreatDoor
open Go Go.RowKit
set_option linter.unusedVariables false
set_option linter.unusedSimpArgs false
set_option maxRecDepth 100000
theorem mnI (n:Nat):0≤imin (9000:Int) (n:Int)∧imin (9000:Int) (n:Int)≤9000∧(imin (9000:Int) (n:Int)<9000→n<9000):=by unfold imin;split<;>omega
theorem mnI1 (n:Nat):0≤imin (1000:Int) (n:Int)∧imin (1000:Int) (n:Int)≤1000∧(imin (1000:Int) (n:Int)<300→n<300):=by unfold imin;split<;>omega
theorem qV (L:List QB) (n:Nat) (hn:n<L.length) (hb:L[n].Answer.Pairs.length≤9223372036854775807):∀ (j i:Nat) (x:Int),i+j=L[n].Answer.Pairs.length→0≤x→x≤100000→∃ r:Int,Ev (fun k=>Zy L (n:Int) k x (i:Int)) r∧x≤r∧r≤100000:=by
 intro j
 induction j with
 | zero =>
  intro i x hi h0 B;refine ⟨x,Ev.shift 1 ⟨0,fun k _=>?_⟩,by omega,B⟩;show Zy L (n:Int) (k+1) x (i:Int)=some x;have:¬ ((i:Int)<(L[n].Answer.Pairs.length:Int)):=by omega
  rw [Zy.eq_2,if_pos (inR hn),rdN hn];simp [this]
 | succ j ih =>
  intro i x hi h0 B;have hlt:i<L[n].Answer.Pairs.length:=by omega
  have E:(i:Int)<(L[n].Answer.Pairs.length:Int):=by omega
  by_cases hx:x<9000
  ·have m1:=mnI (rd L[n].Answer.Pairs (i:Int)).Key.length;have m2:=mnI (rd L[n].Answer.Pairs (i:Int)).Value.length;obtain ⟨r,hr,H,G⟩:=ih (i+1) (x+imin (9000:Int) ((rd L[n].Answer.Pairs (i:Int)).Key.length:Int)+imin (9000:Int) ((rd L[n].Answer.Pairs (i:Int)).Value.length:Int)) (by omega) (by omega) (by omega);refine ⟨r,Ev.shift 1 (hr.congr fun k=>?_),by omega,G⟩;show Zy L (n:Int) (k+1) x (i:Int)=_;rw [Zy.eq_2];simp only [E,hx,decide_true,Bool.and_self,if_true,inR hn,inR hlt,and_self,rdN hn,wr1 (i:=i) (by omega)];rw [wr (x:=x+imin (9000:Int) ((rd L[n].Answer.Pairs (i:Int)).Key.length:Int)) (by omega) (by omega),wr (x:=x+_+_) (by omega) (by omega)]
  ·refine ⟨x,Ev.shift 1 ⟨0,fun k _=>?_⟩,by omega,B⟩;show Zy L (n:Int) (k+1) x (i:Int)=some x;rw [Zy.eq_2,if_pos (inR hn),rdN hn];simp [hx]
theorem qW (L:List QB) (hl:L.length≤9223372036854775807) (hb:∀ e∈L,e.Answer.Pairs.length≤9223372036854775807):∀ (j i:Nat) (x:Int),i+j=L.length→0≤x→x≤100000→∃ r:Int,Ev (fun k=>Zm L k x (i:Int)) r∧x≤r∧r≤100000∧(r<9000→∀ e∈L.drop i,e.Answer.Pairs.length<9000):=by
 intro j
 induction j with
 | zero =>
  intro i x hi h0 E;refine ⟨x,Ev.shift 1 ⟨0,fun k _=>?_⟩,by omega,E,fun _ e B=>by rw [List.drop_of_length_le (by omega)] at B;cases B⟩;show Zm L (k+1) x (i:Int)=some x;have:¬ ((i:Int)<(L.length:Int)):=by omega
  rw [Zm.eq_2];simp [this]
 | succ j ih =>
  intro i x hi h0 E;have hlt:i<L.length:=by omega
  have G:(i:Int)<(L.length:Int):=by omega
  by_cases hx:x<9000
  ·have m1:=mnI L[i].Answer.Value.length;have m2:=mnI L[i].Answer.Pairs.length;obtain ⟨q,hq,O,U⟩:=qV L i hlt (hb _ (List.getElem_mem hlt)) L[i].Answer.Pairs.length 0 (x+imin (9000:Int) (L[i].Answer.Value.length:Int)+imin (9000:Int) (L[i].Answer.Pairs.length:Int)) (by omega) (by omega) (by omega);obtain ⟨r,hr,V,H,K⟩:=ih (i+1) q (by omega) (by omega) (by omega);refine ⟨r,Ev.shift 1 (Ev.congr (g:=fun k=>(Zy L (i:Int) k (x+imin (9000:Int) (L[i].Answer.Value.length:Int)+imin (9000:Int) (L[i].Answer.Pairs.length:Int)) ((0:Nat):Int)).bind fun y=>Zm L k y ((i+1:Nat):Int)) (hq.bind hr) fun k=>?_),by omega,H,fun g e B=>?_⟩
   ·show Zm L (k+1) x (i:Int)=_;rw [Zm.eq_2];simp only [G,hx,decide_true,Bool.and_self,if_true,inR hlt,and_self,rdN hlt,wr1 (i:=i) (by omega)];rw [wr (x:=x+imin (9000:Int) (L[i].Answer.Value.length:Int)) (by omega) (by omega),wr (x:=x+_+_) (by omega) (by omega)]
    rfl
   ·rw [List.drop_eq_getElem_cons hlt] at B;rcases List.mem_cons.1 B with rfl | B
    ·exact m2.2.2 (by omega)
    ·exact K g e B
  ·refine ⟨x,Ev.shift 1 ⟨0,fun k _=>?_⟩,by omega,E,fun g=>absurd g hx⟩;show Zm L (k+1) x (i:Int)=some x;rw [Zm.eq_2];simp [hx]
theorem qT (L:(List (List QZ))) (n:Nat) (hn:n<L.length) (hb:L[n].length≤9223372036854775807):∀ (j i:Nat) (x:Int),i+j=L[n].length→0≤x→x≤100000→∃ r:Int,Ev (fun k=>Zx L (n:Int) k x (i:Int)) r∧x≤r∧r≤100000:=by
 intro j
 induction j with
 | zero =>
  intro i x hi h0 B;refine ⟨x,Ev.shift 1 ⟨0,fun k _=>?_⟩,by omega,B⟩;show Zx L (n:Int) (k+1) x (i:Int)=some x;have:¬ ((i:Int)<(L[n].length:Int)):=by omega
  rw [Zx.eq_2,if_pos (inR hn),rdN hn];simp [this]
 | succ j ih =>
  intro i x hi h0 B;have hlt:i<L[n].length:=by omega
  have E:(i:Int)<(L[n].length:Int):=by omega
  by_cases hx:x<9000
  ·have m1:=mnI (rd L[n] (i:Int)).Key.length;have m2:=mnI (rd L[n] (i:Int)).End.length;have m3:=mnI (rd L[n] (i:Int)).Value.length;obtain ⟨r,hr,H,G⟩:=ih (i+1) (x+5+imin (9000:Int) ((rd L[n] (i:Int)).Key.length:Int)+imin (9000:Int) ((rd L[n] (i:Int)).End.length:Int)+imin (9000:Int) ((rd L[n] (i:Int)).Value.length:Int)) (by omega) (by omega) (by omega);refine ⟨r,Ev.shift 1 (hr.congr fun k=>?_),by omega,G⟩;show Zx L (n:Int) (k+1) x (i:Int)=_;rw [Zx.eq_2];simp only [E,hx,decide_true,Bool.and_self,if_true,inR hn,inR hlt,and_self,rdN hn,wr1 (i:=i) (by omega)];rw [wr (x:=x+5) (by omega) (by omega),wr (x:=x+5+imin (9000:Int) ((rd L[n] (i:Int)).Key.length:Int)) (by omega) (by omega),wr (x:=x+5+_+imin (9000:Int) ((rd L[n] (i:Int)).End.length:Int)) (by omega) (by omega),wr (x:=x+5+_+_+_) (by omega) (by omega)]
  ·refine ⟨x,Ev.shift 1 ⟨0,fun k _=>?_⟩,by omega,B⟩;show Zx L (n:Int) (k+1) x (i:Int)=some x;rw [Zx.eq_2,if_pos (inR hn),rdN hn];simp [hx]
theorem qU (L:(List (List QZ))) (hl:L.length≤9223372036854775807) (hb:∀ e∈L,e.length≤9223372036854775807):∀ (j i:Nat) (x:Int),i+j=L.length→0≤x→x≤100000→∃ r:Int,Ev (fun k=>Zl L k x (i:Int)) r∧x≤r∧r≤100000:=by
 intro j
 induction j with
 | zero =>
  intro i x hi h0 B;refine ⟨x,Ev.shift 1 ⟨0,fun k _=>?_⟩,by omega,B⟩;show Zl L (k+1) x (i:Int)=some x;have:¬ ((i:Int)<(L.length:Int)):=by omega
  rw [Zl.eq_2];simp [this]
 | succ j ih =>
  intro i x hi h0 B;have hlt:i<L.length:=by omega
  have E:(i:Int)<(L.length:Int):=by omega
  by_cases hx:x<9000
  ·obtain ⟨q,hq,H,K⟩:=qT L i hlt (hb _ (List.getElem_mem hlt)) L[i].length 0 (x+1) (by omega) (by omega) (by omega);obtain ⟨r,hr,O,G⟩:=ih (i+1) q (by omega) (by omega) (by omega);refine ⟨r,Ev.shift 1 (Ev.congr (g:=fun k=>(Zx L (i:Int) k (x+1) ((0:Nat):Int)).bind fun y=>Zl L k y ((i+1:Nat):Int)) (hq.bind hr) fun k=>?_),by omega,G⟩;show Zl L (k+1) x (i:Int)=_;rw [Zl.eq_2];simp only [E,hx,decide_true,Bool.and_self,if_true,wr1 (i:=i) (by omega)];rw [wr (x:=x+1) (by omega) (by omega)]
   rfl
  ·refine ⟨x,Ev.shift 1 ⟨0,fun k _=>?_⟩,by omega,B⟩;show Zl L (k+1) x (i:Int)=some x;rw [Zl.eq_2];simp [hx]
theorem QBV (p:(List (List QZ))) (L:List QB) (hp:p.length≤9223372036854775807) (hpp:∀ e∈p,e.length≤9223372036854775807) (hl:L.length≤9223372036854775807) (hb:∀ e∈L,e.Answer.Pairs.length≤9223372036854775807) :
  ∃ b:Bool,Ev (fun k=>Xg k p L) b∧(b=false→L.length<300∧∀ e∈L,e.Answer.Pairs.length<9000):=by
 have m1:=mnI1 L.length;obtain ⟨q,hq,G,H,B⟩:=qW L hl hb L.length 0 (30*imin (1000:Int) (L.length:Int)) (by omega) (by omega) (by omega);obtain ⟨r,hr,K,O⟩:=qU p hp hpp p.length 0 q (by omega) (by omega) (by omega);refine ⟨decide (r≥9000),Ev.congr (g:=fun k=>(Zm L k (30*imin (1000:Int) (L.length:Int)) ((0:Nat):Int)).bind fun x=>(Zl p k x ((0:Nat):Int)).bind fun y=>some (decide (y≥(9000:Int)))) (hq.bind (hr.bind (Ev.pure _))) fun k=>?_,fun h=>?_⟩
 ·unfold Xg;rw [wr (x:=(30:Int)*imin (1000:Int) (L.length:Int)) (by omega) (by omega)]
  rfl
 ·have:¬ r≥9000:=by simpa using h
  exact ⟨m1.2.2 (by omega),fun e E=>B (by omega) e (by rw [List.drop_zero];exact E)⟩
theorem QBF:YE 200=some true:=by decide +kernel
theorem JA:Ev (fun k=>YE k) true:=⟨200,fun k hk=>OLe.up (f:=fun k=>YE k) (fun k=>YE.mono) hk _ QBF⟩
end Go.Proofs.YtnjbjpaiepefoaaGreatDoor
