import Derived.Test.YtkknoimjgifhlaaGreatDoorPureStep
namespace Go.Proofs.YtkknoimjgifhlaaGreatDoor
open Go Go.RowKit
set_option linter.unusedVariables false
set_option linter.unusedSimpArgs false
set_option maxRecDepth 100000
theorem imin8 (s:Nat):0≤imin (8000:Int) (s:Int)∧imin (8000:Int) (s:Int)≤8000∧imin (8000:Int) (s:Int)≤(s:Int):=by unfold imin;split<;>omega
theorem QBX (l:List QL) (hb:l.length≤9223372036854775807):∀ (j i:Nat) (n:Int),i+j=l.length→0≤n→n≤100000→∃ r:Int,(∀ k,j<k→YV l k n (i:Int)=some r)∧n≤r∧r≤100000∧(r<8000→∀ e∈l.drop i,e.Answer.Pairs.length≤100000):=by
 intro j
 induction j with
 | zero =>
  intro i n hi h0 h1
  refine ⟨n,fun k hk=>?_,Int.le_refl _,h1,fun _ e he=>by rw [List.drop_of_length_le (by omega)] at he;cases he⟩
  obtain ⟨k,rfl⟩:∃ k',k=k'+1:=⟨k-1,by omega⟩
  rw [YV.eq_2]
  have:¬ ((i:Int)<(l.length:Int)):=by omega
  simp [this]
 | succ j ih =>
  intro i n hi h0 h1
  have hlt:i<l.length:=by omega
  have h3:(i:Int)<(l.length:Int):=by omega
  by_cases hn:n<8000
  ·have m1:=imin8 l[i].Answer.Value.length
   have m2:=imin8 l[i].Answer.Pairs.length
   obtain ⟨r,g1,g2,g3,g4⟩:=ih (i+1) (n+imin 8000 (l[i].Answer.Value.length:Int)+5*imin 8000 (l[i].Answer.Pairs.length:Int)) (by omega) (by omega) (by omega)
   refine ⟨r,fun k hk=>?_,by omega,g3,fun hr e he=>?_⟩
   ·obtain ⟨k,rfl⟩:∃ k',k=k'+1:=⟨k-1,by omega⟩
    rw [YV.eq_2]
    simp only [h3,hn,decide_true,Bool.and_self,if_true,inR hlt,and_self,rdN hlt,wr1 (i:=i) (by omega)]
    rw [wr (x:=n+imin 8000 (l[i].Answer.Value.length:Int)) (by omega) (by omega),wr (x:=5*imin 8000 (l[i].Answer.Pairs.length:Int)) (by omega) (by omega),wr (x:=n+imin 8000 (l[i].Answer.Value.length:Int)+_) (by omega) (by omega)]
    exact g1 k (by omega)
   ·rw [List.drop_eq_getElem_cons hlt] at he
    rcases List.mem_cons.1 he with rfl | he
    ·have h5:imin (8000:Int) (l[i].Answer.Pairs.length:Int)<8000:=by omega
     unfold imin at h5
     split at h5<;>omega
    ·exact g4 hr e he
  ·refine ⟨n,fun k hk=>?_,Int.le_refl _,h1,fun h=>absurd h hn⟩
   obtain ⟨k,rfl⟩:∃ k',k=k'+1:=⟨k-1,by omega⟩
   rw [YV.eq_2]
   simp [hn]
theorem QBV (p:Progs) (q:Nat) (hq:q<p.length) (hb:p[q].length≤9223372036854775807):∀ (j i:Nat) (n:Int),i+j=p[q].length→0≤n→n≤200000→∃ r:Int,(∀ k,j<k→YU p (q:Int) k n (i:Int)=some r)∧n≤r∧r≤200000:=by
 intro j
 induction j with
 | zero =>
  intro i n hi h0 h1
  refine ⟨n,fun k hk=>?_,Int.le_refl _,h1⟩
  obtain ⟨k,rfl⟩:∃ k',k=k'+1:=⟨k-1,by omega⟩
  rw [YU.eq_2,if_pos (inR hq),rdN hq]
  have:¬ ((i:Int)<(p[q].length:Int)):=by omega
  simp [this]
 | succ j ih =>
  intro i n hi h0 h1
  have hlt:i<p[q].length:=by omega
  have h3:(i:Int)<(p[q].length:Int):=by omega
  by_cases hn:n<8000
  ·have m1:=imin8 p[q][i].Key.length
   have m2:=imin8 p[q][i].End.length
   have m3:=imin8 p[q][i].Value.length
   obtain ⟨r,g1,g2,g3⟩:=ih (i+1) (n+5+imin 8000 (p[q][i].Key.length:Int)+imin 8000 (p[q][i].End.length:Int)+imin 8000 (p[q][i].Value.length:Int)) (by omega) (by omega) (by omega)
   refine ⟨r,fun k hk=>?_,by omega,g3⟩
   obtain ⟨k,rfl⟩:∃ k',k=k'+1:=⟨k-1,by omega⟩
   rw [YU.eq_2]
   simp only [h3,hn,decide_true,Bool.and_self,if_true,inR hlt,inR hq,and_self,rdN hlt,rdN hq,wr1 (i:=i) (by omega)]
   rw [wr (x:=n+5) (by omega) (by omega),wr (x:=n+5+_) (by omega) (by omega),wr (x:=n+5+_+_) (by omega) (by omega),wr (x:=n+5+_+_+_) (by omega) (by omega)]
   exact g1 k (by omega)
  ·refine ⟨n,fun k hk=>?_,Int.le_refl _,h1⟩
   obtain ⟨k,rfl⟩:∃ k',k=k'+1:=⟨k-1,by omega⟩
   rw [YU.eq_2,if_pos (inR hq)]
   simp [hn]
theorem QBW (p:Progs) (hb:p.length≤9223372036854775807) (hB:∀ q∈p,q.length≤9223372036854775807):∀ (j i:Nat) (n:Int),i+j=p.length→0≤n→n≤200000→∃ r:Int,Ev (fun k=>Z7 p k n (i:Int)) r∧n≤r:=by
 intro j
 induction j with
 | zero =>
  intro i n hi h0 h1
  refine ⟨n,Ev.shift 1 ⟨0,fun k hk=>?_⟩,Int.le_refl _⟩
  show Z7 p (k+1) n (i:Int)=_
  rw [Z7.eq_2]
  have:¬ ((i:Int)<(p.length:Int)):=by omega
  simp [this]
 | succ j ih =>
  intro i n hi h0 h1
  have hlt:i<p.length:=by omega
  have h3:(i:Int)<(p.length:Int):=by omega
  by_cases hn:n<8000
  ·obtain ⟨r,g1,g2,g3⟩:=QBV p i hlt (hB _ (List.getElem_mem hlt)) p[i].length 0 (n+1) (by omega) (by omega) (by omega)
   obtain ⟨s,f1,f2⟩:=ih (i+1) r (by omega) (by omega) g3
   refine ⟨s,Ev.shift 1 (Ev.congr (g:=fun k=>_) ?_ (fun k=>by rw [Z7.eq_2])),by omega⟩
   rw [wr1 (i:=i) (by omega),wr (x:=n+1) (by omega) (by omega)]
   refine Ev.pos (by simp [h3,hn]) (Ev.bind (v:=r) ⟨p[i].length+1,fun k hk=>g1 k (by omega)⟩ f1)
  ·refine ⟨n,Ev.shift 1 ⟨0,fun k hk=>?_⟩,Int.le_refl _⟩
   show Z7 p (k+1) n (i:Int)=_
   rw [Z7.eq_2]
   simp [hn]
theorem QBY (p:Progs) (l:List QL) (hp:p.length≤9223372036854775807) (hP:∀ q∈p,q.length≤9223372036854775807) (hl:l.length≤9223372036854775807) :
  ∃ b:Bool,Ev (fun k=>XQ k p l) b∧(b=false→l.length≤300∧∀ e∈l,e.Answer.Pairs.length≤100000):=by
 have hm:0≤imin (1000:Int) (l.length:Int)∧imin (1000:Int) (l.length:Int)≤1000:=by unfold imin;split<;>omega
 obtain ⟨r,g1,g2,g3,g4⟩:=QBX l hl l.length 0 (30*imin 1000 (l.length:Int)) (by omega) (by omega) (by omega)
 obtain ⟨s,f1,f2⟩:=QBW p hp hP p.length 0 r (by omega) (by omega) (by omega)
 refine ⟨decide (s≥8000),?_,fun h=>?_⟩
 ·unfold XQ
  rw [wr (x:=30*imin 1000 (l.length:Int)) (by omega) (by omega)]
  exact Ev.bind (v:=r) ⟨l.length+1,fun k hk=>g1 k (by omega)⟩ (Ev.bind f1 (Ev.pure _))
 ·have hs:¬ s≥8000:=by simpa using h
  have hr:r<8000:=by omega
  refine ⟨?_,fun e he=>g4 hr e (by simpa using he)⟩
  have:30*imin (1000:Int) (l.length:Int)<8000:=by omega
  unfold imin at this
  split at this<;>omega
theorem QAN:YO 200=some true:=by decide +kernel
theorem KL:Ev (fun k=>YO k) true:=⟨200,fun k hk=>OLe.up (f:=fun k=>YO k) (fun k=>YO.mono) hk _ QAN⟩
end Go.Proofs.YtkknoimjgifhlaaGreatDoor
