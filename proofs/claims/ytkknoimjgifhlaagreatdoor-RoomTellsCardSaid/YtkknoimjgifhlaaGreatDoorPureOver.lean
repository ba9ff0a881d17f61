import Derived.Test.YtkknoimjgifhlaaGreatDoorPureModel3
namespace Go.Proofs.YtkknoimjgifhlaaGreatDoor
open Go Go.RowKit
set_option linter.unusedVariables false
set_option linter.unusedSimpArgs false
set_option maxRecDepth 100000
abbrev Run:=Z2
theorem Ev.all {α:Type} {f:Nat→Option α} {v:α} (h:∀ k,f k=some v):Ev f v:=⟨0,fun k _=>h k⟩
instance:DecidableEq Qp:=fun a b=>decidable_of_iff (a.Key=b.Key∧a.Value=b.Value) (by cases a;cases b;simp)
instance:DecidableEq Ql:=fun a b=>decidable_of_iff (a.Err=b.Err∧a.Found=b.Found∧a.Value=b.Value∧a.Pairs=b.Pairs) (by cases a;cases b;simp)
theorem KX (a b:Qp):((a.Key==b.Key)&&(a.Value==b.Value))=decide (a=b):=by
 cases a;cases b
 rw [Bool.eq_iff_iff];simp [Qp.mk.injEq]
theorem eqp_l0 (a b:List Qp) (hl:a.length=b.length) (hb:a.length≤1000000):∀ (j i:Nat),i+j=a.length→∀ k,j<k→ZB a b k (i:Int)=some (if a.drop i=b.drop i then .inr () else .inl false):=by
 intro j
 induction j with
 | zero =>
  intro i hi k hk
  obtain ⟨k,rfl⟩:∃ k',k=k'+1:=⟨k-1,by omega⟩
  rw [ZB.eq_2,List.drop_of_length_le (by omega),List.drop_of_length_le (by omega)]
  have:¬ ((i:Int)<(a.length:Int)):=by omega
  simp [this]
 | succ j ih =>
  intro i hi k hk
  obtain ⟨k,rfl⟩:∃ k',k=k'+1:=⟨k-1,by omega⟩
  have h1:i<a.length:=by omega
  have h2:i<b.length:=by omega
  have h3:(i:Int)<(a.length:Int):=by omega
  rw [ZB.eq_2,List.drop_eq_getElem_cons h1,List.drop_eq_getElem_cons h2]
  simp only [h3,decide_true,if_true,inR h1,inR h2,and_self,rdN h1,rdN h2,KX,wr1 (i:=i) (by omega),List.cons.injEq]
  by_cases hc:a[i]=b[i]
  ·simp only [hc,decide_true,Bool.not_true,Bool.false_eq_true,if_false,true_and]
   exact ih (i+1) (by omega) k (by omega)
  ·simp [hc]
theorem QAa (a b:Ql) (hb:a.Pairs.length≤1000000) (k:Nat) (hk:a.Pairs.length<k):Xv k a b=some (decide (a=b)):=by
 have key:a=b↔a.Err=b.Err∧a.Found=b.Found∧a.Value=b.Value∧a.Pairs=b.Pairs:=by
  cases a;cases b;simp [Ql.mk.injEq]
 have sn:sbin .eql a.Value b.Value=decide (a.Value=b.Value):=by
  simp only [sbin]
  by_cases h:a.Value=b.Value<;>simp [h]
 have h2:Zn k a.Pairs b.Pairs=some (decide (a.Pairs=b.Pairs)):=by
  unfold Zn
  by_cases hl:a.Pairs.length=b.Pairs.length
  ·rw [if_neg (by simp [hl])]
   have h:=eqp_l0 a.Pairs b.Pairs hl hb a.Pairs.length 0 (by omega) k hk
   show Option.bind (ZB a.Pairs b.Pairs k ((0:Nat):Int)) _=_
   rw [h,List.drop_zero,List.drop_zero]
   by_cases hc:a.Pairs=b.Pairs<;>simp [hc]
  ·rw [if_pos (by simp;omega)]
   have:a.Pairs≠b.Pairs:=fun e=>hl (by rw [e])
   simp [this]
 unfold Xv
 rw [sn,h2]
 by_cases h3:a.Err=b.Err
 ·by_cases h4:a.Found=b.Found
  ·by_cases h5:a.Value=b.Value
   ·simp [h3,h4,h5,key]
   ·have:a≠b:=fun e=>h5 (key.1 e).2.2.1
    simp [h3,h4,h5,this]
  ·have:a≠b:=fun e=>h4 (key.1 e).2.1
   simp [h3,h4,this]
 ·have:a≠b:=fun e=>h3 (key.1 e).1
  simp [h3,this]
theorem Kd (a b:Ql) (hb:a.Pairs.length≤1000000):Ev (fun k=>Xv k a b) (decide (a=b)):=⟨a.Pairs.length+1,fun k hk=>QAa a b hb k (by omega)⟩
structure RecOk (T i:Nat) (r:Qg):Prop where
 len:r.tasks.length=T
 at_:∀ t (h:t<r.tasks.length),0≤r.tasks[t].at_∧r.tasks[t].at_≤2
 cl:∀ t (h:t<r.tasks.length),0≤r.tasks[t].calls∧r.tasks[t].calls≤(i:Int)
 ll:r.l.length≤i
theorem rdI {α:Type} [Inhabited α] {l:List α} {x:Int} (h0:0≤x) (h1:x<(l.length:Int)):rd l x=l[x.toNat]'(by omega):=by
 obtain ⟨n,rfl⟩:=Int.eq_ofNat_of_zero_le h0
 rw [rdN (by omega)];rfl
theorem Jc {T i:Nat} {r:Qg} (R:RecOk T i r) (t:Int) (k:Nat):Zt k r t=some (if 0≤t∧t<(r.tasks.length:Int)∧(rd r.tasks t).at_≠0 then ((rd r.tasks t).calls,((rd r.tasks t).at_==(2:Int)),true) else (0,false,false)):=by
 unfold Zt
 by_cases c:0≤t∧t<(r.tasks.length:Int)
 ·have c1:¬ ((decide (t<(0:Int))||decide (t≥(r.tasks.length:Int)))=true):=by simp;omega
  rw [if_neg c1,if_pos c]
  by_cases d:(rd r.tasks t).at_=0
  ·simp [c.1,c.2,d]
  ·have:((rd r.tasks t).at_==(0:Int))=false:=by simpa using d
   simp only [Option.bind_some,this,Bool.false_eq_true,if_false]
   rw [if_pos c,if_pos ⟨c.1,c.2,d⟩]
 ·have c1:(decide (t<(0:Int))||decide (t≥(r.tasks.length:Int)))=true:=by simp;omega
  have c2:¬ (0≤t∧t<(r.tasks.length:Int)∧(rd r.tasks t).at_≠0):=fun h=>c ⟨h.1,h.2.1⟩
  rw [if_pos c1,if_neg c2];rfl
def nextT (x:YQ) (want:Int):YQ:=if want=2 then ⟨0,x.calls+1⟩ else ⟨want+1,x.calls⟩
theorem put_ev {T i:Nat} {r:Qg} (R:RecOk T i r) (hi:i≤100000) (t want:Int) (t0:0≤t) (t1:t<(T:Int)) (hw:0≤want∧want≤2) (e:QL) (he:e.Answer.Pairs.length≤2199023255552) :
  ∃ r',(∀ k,ZN k r t want e=some (if (rd r.tasks t).at_=want then 0 else 7,r'))∧RecOk T (i+1) r'∧r'.tasks=if (rd r.tasks t).at_=want then r.tasks.set t.toNat (nextT (rd r.tasks t) want) else r.tasks:=by
 have R1:RecOk T (i+1) r:=⟨R.len,R.at_,fun t h=>by have:=R.cl t h;omega,by have:=R.ll;omega⟩
 have hT:=R.len
 have c:0≤t∧t<(r.tasks.length:Int):=⟨t0,by omega⟩
 have c1:¬ ((decide (t<(0:Int))||decide (t≥(r.tasks.length:Int)))=true):=by simp;omega
 by_cases d:(rd r.tasks t).at_=want
 ·obtain ⟨n,rfl⟩:=Int.eq_ofNat_of_zero_le c.1
  have hn:n<r.tasks.length:=by omega
  have a1:=R.at_ n hn
  have a2:=R.cl n hn
  have a3:=R.ll
  rw [rdN hn] at d
  have hown:∀ (k:Nat) (w:Int) (cl:Int),VL k ⟨e.What,w,cl,⟨e.Answer.Err,e.Answer.Found,e.Answer.Value,e.Answer.Pairs⟩⟩=some ⟨e.What,w,cl,⟨e.Answer.Err,e.Answer.Found,e.Answer.Value,e.Answer.Pairs⟩⟩:=fun k w cl=>by
   simp only [VL,Z1]
   rw [if_pos (by simp;omega)];rfl
  have fin:∀ x:YQ,(x.at_=0∨x.at_=1∨x.at_=2)→0≤x.calls→x.calls≤(i:Int)+1→RecOk T (i+1) ⟨r.tasks.set n x,r.l++[⟨e.What,(n:Int),r.tasks[n].calls,⟨e.Answer.Err,e.Answer.Found,e.Answer.Value,e.Answer.Pairs⟩⟩]⟩:=fun x h1 h2 h3=>by
   refine ⟨by simp [hT],fun u hu=>?_,fun u hu=>?_,by simp;omega⟩
   ·simp only [List.getElem_set];split
    ·omega
    ·exact R.at_ u (by simpa using hu)
   ·simp only [List.getElem_set];split
    ·simp;omega
    ·have:=R.cl u (by simpa using hu);simp;omega
  have g0:rd (r.tasks.set (n:Int).toNat ⟨r.tasks[n].at_+1,r.tasks[n].calls⟩) (n:Int)=⟨r.tasks[n].at_+1,r.tasks[n].calls⟩:=by rw [rdN (by simpa using hn)];simp
  rw [rdN hn,if_pos d]
  by_cases w2:want=2
  ·refine ⟨⟨r.tasks.set n ⟨0,r.tasks[n].calls+1⟩,r.l++[⟨e.What,(n:Int),r.tasks[n].calls,⟨e.Answer.Err,e.Answer.Found,e.Answer.Value,e.Answer.Pairs⟩⟩]⟩,fun k=>?_,fin _ (.inl rfl) (by simp;omega) (by simp;omega),by simp [nextT,w2,d]⟩
   unfold ZN
   rw [if_neg c1,if_pos c,rdN hn,if_neg (by simp [d]),if_pos c,hown]
   simp only [Option.bind_some]
   rw [if_pos (by simp;omega),wr (x:=r.tasks[n].at_+1) (by omega) (by omega),g0]
   have g2:decide (r.tasks[n].at_+1>2)=true:=by simp;omega
   simp only [g2,if_true,Option.bind_some]
   have g3:rd ((r.tasks.set (n:Int).toNat ⟨r.tasks[n].at_+1,r.tasks[n].calls⟩).set (n:Int).toNat ⟨0,r.tasks[n].calls⟩) (n:Int)=⟨0,r.tasks[n].calls⟩:=by rw [rdN (by simpa using hn)];simp
   rw [g3,wr (x:=r.tasks[n].calls+1) (by omega) (by omega)]
   simp [List.set_set]
  ·refine ⟨⟨r.tasks.set n ⟨want+1,r.tasks[n].calls⟩,r.l++[⟨e.What,(n:Int),r.tasks[n].calls,⟨e.Answer.Err,e.Answer.Found,e.Answer.Value,e.Answer.Pairs⟩⟩]⟩,fun k=>?_,fin _ (by simp;omega) (by simp;omega) (by simp;omega),by simp [nextT,w2,d]⟩
   unfold ZN
   rw [if_neg c1,if_pos c,rdN hn,if_neg (by simp [d]),if_pos c,hown]
   simp only [Option.bind_some]
   rw [if_pos (by simp;omega),wr (x:=r.tasks[n].at_+1) (by omega) (by omega),g0]
   have g2:decide (r.tasks[n].at_+1>2)=false:=by simp;omega
   simp only [g2,Bool.false_eq_true,if_false,Option.bind_some]
   simp [d]
 ·refine ⟨r,fun k=>?_,R1,by rw [if_neg d]⟩
  unfold ZN
  rw [if_neg c1,if_pos c,if_pos (by simpa using d),if_neg d]
end Go.Proofs.YtkknoimjgifhlaaGreatDoor
