import Derived.Test.YtcngjjlhdlbogaaDoorOpnp3
import Derived.Test.YtcngjjlhdlbogaaDoorPureRef6
namespace Go.Proofs.YtcngjjlhdlbogaaDoor
open Go Go.RowKit
set_option linter.unusedVariables false
set_option linter.unusedSimpArgs false
set_option maxRecDepth 100000
theorem JN (a:List YG) (hb:a.length≤9223372036854775807):∀ (j i:Nat) (n:Int),i+j=a.length→60*(i:Int)≤n→n≤50000→∀ k,j<k→∃ r:Int,Z6 a k n (i:Int)=some r∧(r<12000→60*(a.length:Int)≤r):=by
 intro j
 induction j with
 | zero =>
  intro i n hi h1 h2 k hk
  obtain ⟨k,rfl⟩:∃ k',k=k'+1:=⟨k-1,by omega⟩
  rw [Z6.eq_2]
  have:¬ ((i:Int)<(a.length:Int)):=by omega
  exact ⟨n,by simp [this],fun _=>by omega⟩
 | succ j ih =>
  intro i n hi h1 h2 k hk
  obtain ⟨k,rfl⟩:∃ k',k=k'+1:=⟨k-1,by omega⟩
  have hlt:i<a.length:=by omega
  have h3:(i:Int)<(a.length:Int):=by omega
  rw [Z6.eq_2]
  by_cases hn:n<12000
  ·have mn:∀ s:Str,0≤imin (9000:Int) (s.length:Int)∧imin (9000:Int) (s.length:Int)≤9000:=fun s=>by unfold imin;split<;>omega
   have m1:=mn a[i].Call.Key
   have m2:=mn a[i].Call.End
   have m3:=mn a[i].Call.Value
   simp only [h3,hn,decide_true,Bool.and_self,if_true,inR hlt,and_self,rdN hlt,wr1 (i:=i) (by omega)]
   rw [wr (x:=n+60) (by omega) (by omega),wr (x:=n+60+_) (by omega) (by omega),wr (x:=n+60+_+_) (by omega) (by omega),wr (x:=n+60+_+_+_) (by omega) (by omega)]
   exact ih (i+1) _ (by omega) (by omega) (by omega) k (by omega)
  ·exact ⟨n,by simp [hn],fun h=>absurd h hn⟩
theorem Ky (a:List YG) (hb:a.length≤9223372036854775807):∃ b,Ev (fun k=>Yr k a) b∧(b=false→a.length<200):=by
 obtain ⟨r,h1,h2⟩:=JN a hb a.length 0 0 (by omega) (by omega) (by omega) (a.length+1) (by omega)
 refine ⟨decide (r≥12000),⟨a.length+1,fun k hk=>?_⟩,fun h=>?_⟩
 ·obtain ⟨r',g1,_⟩:=JN a hb a.length 0 0 (by omega) (by omega) (by omega) k (by omega)
  have e:r'=r:=by
   have:=OLe.up (f:=fun k=>Z6 a k 0 ((0:Nat):Int)) (fun k=>Z6.mono) hk r h1
   exact Option.some.inj (g1.symm.trans this)
  simp only [Yr]
  show Option.bind (Z6 a k 0 ((0:Nat):Int)) _=_
  rw [g1,e];rfl
 ·have:¬ r≥12000:=by simpa using h
  have:=h2 (by omega)
  omega
theorem Kl:YF 60=some true:=by decide +kernel
theorem UD:Ev (fun k=>YF k) true:=⟨60,fun k hk=>OLe.up (f:=fun k=>YF k) (fun k=>YF.mono) hk _ Kl⟩
theorem KL:∀ (j i:Nat) (l:List Qf),i+j=l.length→l.length≤1000000→Ev (fun k=>ZZ k (i:Int) l) ():=by
 intro j
 induction j with
 | zero =>
  intro i l hi hl
  refine Ev.shift 1 ⟨0,fun k _=>?_⟩
  show ZZ (k+1) (i:Int) l=_
  rw [ZZ.eq_2,if_neg (by simp;omega)]
 | succ j ih =>
  intro i l hi hl
  have hlt:i<l.length:=by omega
  refine Ev.shift 1 (Ev.congr (g:=fun k=>_) ?_ (fun k=>by rw [ZZ.eq_2]))
  rw [wr1 (by omega)]
  exact Ev.pos (by simpa using hlt) (Ev.chk (inR hlt) (Ev.bind (Ev.pure _) (ih (i+1) _ (by simp;omega) (by simpa using hl))))
theorem KK:∀ (k:Nat) (i:Int) (l:List Qf),Zw k i l=ZZ k i l:=by
 intro k
 induction k with
 | zero=>intro i l;rfl
 | succ k ih=>intro i l;rw [Zw.eq_2,ZZ.eq_2];simp only [ih]
theorem q6 {n:Nat} {m:Mod} (I:Inv n m) (hn:n≤1000000) (k:Nat):Yb k m=some m:=by
 have:=I.tl
 simp only [Yb,Z7]
 rw [if_pos (by simp;omega)];rfl
theorem Jl (a1:List YG) (h1:a1.length<200):∀ (j i:Nat) (m:Mod) (x:RM),i+j=a1.length→Inv i m→Rel m x→Ev (fun k=>Zj a1 k (i:Int) x m) (.inr ()):=by
 intro j
 induction j with
 | zero =>
  intro i m x hi I R
  refine Ev.shift 1 ⟨0,fun k _=>?_⟩
  show Zj a1 (k+1) (i:Int) x m=_
  rw [Zj.eq_2,if_neg (by simp;omega)]
 | succ j ih =>
  intro i m x hi I R
  have hlt:i<a1.length:=by omega
  have hn:i≤1000000:=by omega
  obtain ⟨x',hx,R'⟩:=R.do_ev I (by omega) a1[i].Task a1[i].Call
  have hd:=do_ev I (by omega) a1[i].Task a1[i].Call
  have I':=I.do_ a1[i].Task a1[i].Call
  have hpr:=Kb I a1[i].Task a1[i].Call
  have herr:=qq m a1[i].Task a1[i].Call
  have hr1:Ev (fun k=>Za k m a1[i].Task a1[i].Call) (refS m a1[i].Task a1[i].Call):=⟨9,fun k hk=>UY I hn k hk _ _⟩
  have hr2:=R.ref_ev I hn a1[i].Task a1[i].Call
  have hnext:=fun m' I' x' R'=>ih (i+1) m' x' (by omega) I' R'
  generalize hdo:doS m a1[i].Task a1[i].Call=d at *
  obtain ⟨a,m'⟩:=d
  have hl:=R.like_ev I hn a1[i].Call.Key a1[i].Task a1[i].Call.Tx
  have hl':=R'.like_ev I' (by omega) a1[i].Call.Key a1[i].Task a1[i].Call.Tx
  have ha1:Ev (fun k=>YE k (⟨a.Err,a.Found,a.Value,a.Pairs⟩:Qc) (⟨a.Err,a.Found,a.Value,a.Pairs⟩:Qc)) true:=(KR a a (by have:a.Pairs.length≤i:=hpr;omega)).eq (by simp)
  have ha2:Ev (fun k=>Y4 k (⟨a.Err,a.Found,a.Value,a.Pairs⟩:Qc) (⟨a.Err,a.Found,a.Value,a.Pairs⟩:Qc)) true:=(JM a a (by have:a.Pairs.length≤i:=hpr;omega)).eq (by simp)
  have ha3:Ev (fun k=>Y4 k (⟨a.Err,a.Found,a.Value,a.Pairs⟩:Qc) cz4) false:=(JM a cz4 (by have:a.Pairs.length≤i:=hpr;omega)).eq (by
   have:a≠cz4:=fun e=>by
    have h0:0≤a.Err:=herr
    rw [e] at h0
    exact absurd h0 (by decide)
   simp [this])
  have hsp:=KL a.Pairs.length 0 a.Pairs (by omega) (by have:a.Pairs.length≤i:=hpr;omega)
  have hsp':Ev (fun k=>Zw k (0:Int) a.Pairs) ():=hsp.congr fun k=>KK k _ _
  have hboth:Ev (fun k=>Option.bind (Q5 k m a1[i].Task a1[i].Call) (fun t38088=>(Option.bind (Qe k x a1[i].Task a1[i].Call) (fun t38110=>some (t38088.1.Err,t38088.1.Found,t38088.1.Value,t38088.1.Pairs,t38110.1.Err,t38110.1.Found,t38110.1.Value,t38110.1.Pairs,t38110.2,t38088.2))))) (a.Err,a.Found,a.Value,a.Pairs,a.Err,a.Found,a.Value,a.Pairs,x',m'):=hd.bind (hx.bind (Ev.pure _))
  refine Ev.shift 1 (Ev.congr (g:=fun k=>_) ?_ (fun k=>by rw [Zj.eq_2]))
  rw [wr1 (by omega),rdN hlt]
  refine Ev.pos (by simpa using hlt) ?_
  by_cases q:((Int.tmod (i:Int) (6:Int))==(3:Int))=true
  ·refine Ev.pos q (Ev.bind ⟨0,fun k _=>q6 I hn k⟩ (Ev.bind (v:=x) ⟨0,fun k _=>rfl⟩ (Ev.chk (inR hlt) (hr1.bind (hr2.bind (Ev.neg (by simp) (hboth.bind (ha1.bind ?_))))))))
   refine Ev.bind (v:=false) (Ev.neg (by simp) (ha2.bind (Ev.pure _))) (Ev.bind (v:=false) (Ev.neg (by simp) (ha3.bind (Ev.pure _))) (Ev.bind (v:=false) (Ev.neg (by simp) (hl'.bind (Ev.pure _))) (Ev.bind (v:=false) (Ev.neg (by simp) (hl.bind (Ev.pure _))) (Ev.neg (by simp) (hsp.bind (hnext m' I' x' R'))))))
  ·refine Ev.neg q (Ev.chk (inR hlt) (hr1.bind (hr2.bind (Ev.neg (by simp) (hboth.bind (ha1.bind ?_))))))
   refine Ev.bind (v:=false) (Ev.neg (by simp) (ha2.bind (Ev.pure _))) (Ev.bind (v:=false) (Ev.neg (by simp) (ha3.bind (Ev.pure _))) (Ev.bind (v:=false) (Ev.neg (by simp) (hl'.bind (Ev.pure _))) (Ev.bind (v:=false) (Ev.neg (by simp) (hl'.bind (Ev.pure _))) (Ev.neg (by simp) (hsp'.bind (hnext m' I' x' R'))))))
theorem pure_ModelPlays (a0:Qw) (a1:(List YG)) (_:VX a0) (w1:(wfSl Xl) a1):∃ k,YZ k a0 a1=some true:=by
 refine Ev.ex (f:=fun k=>YZ k a0 a1) ?_
 have mx:maxLen≤9223372036854775807:=by decide
 obtain ⟨b,hb,hb2⟩:=Ky a1 (Nat.le_trans w1.1 mx)
 unfold YZ
 refine hb.bind ?_
 cases b with
 | true=>exact Ev.pos rfl (UD.bind (Ev.pure _))
 | false =>
  refine Ev.neg (by simp) ?_
  have hnew:Ev (fun k=>Y6 k a0) (if mayB a0=true then .inr (newS a0) else .inl ()):=⟨9,fun k hk=>New_eq k hk a0⟩
  have hnew2:Ev (fun k=>YK k a0) (if mayB a0=true then .inr ⟨a0,[],[],0,0⟩ else .inl ()):=⟨0,fun k _=>by
   show YK k a0=_
   unfold YK
   rw [V7,Option.bind_some]
   cases mayB a0<;>rfl⟩
  refine hnew.bind ?_
  by_cases hm:mayB a0=true
  ·rw [if_pos hm] at hnew2 ⊢
   exact hnew2.bind ((Jl a1 (hb2 rfl) a1.length 0 (newS a0) ⟨a0,[],[],0,0⟩ (by omega) (Inv.new a0) (Rel.new a0)).bind (UD.bind (Ev.pure _)))
  ·rw [if_neg hm] at hnew2 ⊢
   exact hnew2.bind (UD.bind (Ev.pure _))
end Go.Proofs.YtcngjjlhdlbogaaDoor
