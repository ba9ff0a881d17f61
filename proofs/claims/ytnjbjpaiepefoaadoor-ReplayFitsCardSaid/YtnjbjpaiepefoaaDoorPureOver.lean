import Derived.Test.YtnjbjpaiepefoaaDoorPureModel3
namespace Go.Proofs.YtnjbjpaiepefoaaDoor
open Go Go.RowKit
set_option linter.unusedVariables false
set_option linter.unusedSimpArgs false
set_option maxRecDepth 100000
abbrev Run:=YD
theorem Ev.all {α:Type} {f:Nat→Option α} {v:α} (h:∀ k,f k=some v):Ev f v:=⟨0,fun k _=>h k⟩
instance:DecidableEq Qn:=fun a b=>decidable_of_iff (a.Key=b.Key∧a.Value=b.Value) (by cases a;cases b;simp)
instance:DecidableEq Qc:=fun a b=>decidable_of_iff (a.Err=b.Err∧a.Found=b.Found∧a.Value=b.Value∧a.Pairs=b.Pairs) (by cases a;cases b;simp)
theorem qQ (a b:Qn):((a.Key==b.Key)&&(a.Value==b.Value))=decide (a=b):=by
 cases a;cases b
 rw [Bool.eq_iff_iff];simp [Qn.mk.injEq]
theorem eqp_l0 (a b:List Qn) (hl:a.length=b.length) (hb:a.length≤1000000):∀ (j i:Nat),i+j=a.length→∀ k,j<k→ZK a b k (i:Int)=some (if a.drop i=b.drop i then .inr () else .inl false):=by
 intro j
 induction j with
 | zero =>
  intro i hi k hk;obtain ⟨k,rfl⟩:∃ k',k=k'+1:=⟨k-1,by omega⟩;rw [ZK.eq_2,List.drop_of_length_le (by omega),List.drop_of_length_le (by omega)];have:¬ ((i:Int)<(a.length:Int)):=by omega
  simp [this]
 | succ j ih =>
  intro i hi k hk;obtain ⟨k,rfl⟩:∃ k',k=k'+1:=⟨k-1,by omega⟩;have B:i<a.length:=by omega
  have E:i<b.length:=by omega
  have H:(i:Int)<(a.length:Int):=by omega
  rw [ZK.eq_2,List.drop_eq_getElem_cons B,List.drop_eq_getElem_cons E];simp only [H,decide_true,if_true,inR B,inR E,and_self,rdN B,rdN E,qQ,wr1 (i:=i) (by omega),List.cons.injEq]
  by_cases hc:a[i]=b[i]
  ·simp only [hc,decide_true,Bool.not_true,Bool.false_eq_true,if_false,true_and];exact ih (i+1) (by omega) k (by omega)
  ·simp [hc]
theorem QBj (a b:Qc) (hb:a.Pairs.length≤1000000) (k:Nat) (hk:a.Pairs.length<k):Xt k a b=some (decide (a=b)):=by
 have key:a=b↔a.Err=b.Err∧a.Found=b.Found∧a.Value=b.Value∧a.Pairs=b.Pairs:=by
  cases a;cases b;simp [Qc.mk.injEq]
 have sn:sbin .eql a.Value b.Value=decide (a.Value=b.Value):=by
  simp only [sbin]
  by_cases h:a.Value=b.Value<;>simp [h]
 have K:Z3 k a.Pairs b.Pairs=some (decide (a.Pairs=b.Pairs)):=by
  unfold Z3
  by_cases hl:a.Pairs.length=b.Pairs.length
  ·rw [if_neg (by simp [hl])];have h:=eqp_l0 a.Pairs b.Pairs hl hb a.Pairs.length 0 (by omega) k hk;show Option.bind (ZK a.Pairs b.Pairs k ((0:Nat):Int)) _=_;rw [h,List.drop_zero,List.drop_zero]
   by_cases hc:a.Pairs=b.Pairs<;>simp [hc]
  ·rw [if_pos (by simp;omega)];have:a.Pairs≠b.Pairs:=fun e=>hl (by rw [e]);simp [this]
 unfold Xt;rw [sn,K]
 by_cases B:a.Err=b.Err
 ·by_cases E:a.Found=b.Found
  ·by_cases H:a.Value=b.Value
   ·simp [B,E,H,key]
   ·have:a≠b:=fun e=>H (key.1 e).2.2.1;simp [B,E,H,this]
  ·have:a≠b:=fun e=>E (key.1 e).2.1;simp [B,E,this]
 ·have:a≠b:=fun e=>B (key.1 e).1;simp [B,this]
theorem JC (a b:Qc) (hb:a.Pairs.length≤1000000):Ev (fun k=>Xt k a b) (decide (a=b)):=⟨a.Pairs.length+1,fun k hk=>QBj a b hb k (by omega)⟩
structure RecOk (T i:Nat) (r:Qi):Prop where
 len:r.tasks.length=T
 at_:∀ t (h:t<r.tasks.length),0≤r.tasks[t].at_∧r.tasks[t].at_≤2
 cl:∀ t (h:t<r.tasks.length),0≤r.tasks[t].calls∧r.tasks[t].calls≤(i:Int)
 ll:r.l.length≤i
theorem rdI {α:Type} [Inhabited α] {l:List α} {x:Int} (h0:0≤x) (B:x<(l.length:Int)):rd l x=l[x.toNat]'(by omega):=by
 obtain ⟨n,rfl⟩:=Int.eq_ofNat_of_zero_le h0;rw [rdN (by omega)];rfl
theorem KN {T i:Nat} {r:Qi} (R:RecOk T i r) (t:Int) (k:Nat):YA k r t=some (if 0≤t∧t<(r.tasks.length:Int)∧(rd r.tasks t).at_≠0 then ((rd r.tasks t).calls,((rd r.tasks t).at_==(2:Int)),true) else (0,false,false)):=by
 unfold YA
 by_cases c:0≤t∧t<(r.tasks.length:Int)
 ·have B:¬ ((decide (t<(0:Int))||decide (t≥(r.tasks.length:Int)))=true):=by simp;omega
  rw [if_neg B,if_pos c]
  by_cases d:(rd r.tasks t).at_=0
  ·simp [c.1,c.2,d]
  ·have:((rd r.tasks t).at_==(0:Int))=false:=by simpa using d
   simp only [Option.bind_some,this,Bool.false_eq_true,if_false];rw [if_pos c,if_pos ⟨c.1,c.2,d⟩]
 ·have B:(decide (t<(0:Int))||decide (t≥(r.tasks.length:Int)))=true:=by simp;omega
  have E:¬ (0≤t∧t<(r.tasks.length:Int)∧(rd r.tasks t).at_≠0):=fun h=>c ⟨h.1,h.2.1⟩;rw [if_pos B,if_neg E];rfl
def nextT (x:Zu) (want:Int):Zu:=if want=2 then ⟨0,x.calls+1⟩ else ⟨want+1,x.calls⟩
theorem put_ev {T i:Nat} {r:Qi} (R:RecOk T i r) (hi:i≤100000) (t want:Int) (U:0≤t) (Y:t<(T:Int)) (hw:0≤want∧want≤2) (e:QA) (Z:e.Answer.Pairs.length≤2199023255552) :
  ∃ r',(∀ k,ZX k r t want e=some (if (rd r.tasks t).at_=want then 0 else 7,r'))∧RecOk T (i+1) r'∧r'.tasks=if (rd r.tasks t).at_=want then r.tasks.set t.toNat (nextT (rd r.tasks t) want) else r.tasks:=by
 have V:RecOk T (i+1) r:=⟨R.len,R.at_,fun t h=>by have:=R.cl t h;omega,by have:=R.ll;omega⟩;have hT:=R.len;have c:0≤t∧t<(r.tasks.length:Int):=⟨U,by omega⟩;have B:¬ ((decide (t<(0:Int))||decide (t≥(r.tasks.length:Int)))=true):=by simp;omega
 by_cases d:(rd r.tasks t).at_=want
 ·obtain ⟨n,rfl⟩:=Int.eq_ofNat_of_zero_le c.1;have hn:n<r.tasks.length:=by omega
  have a1:=R.at_ n hn;have a2:=R.cl n hn;have a3:=R.ll;rw [rdN hn] at d
  have hown:∀ (k:Nat) (w:Int) (cl:Int),Ve k ⟨e.What,w,cl,⟨e.Answer.Err,e.Answer.Found,e.Answer.Value,e.Answer.Pairs⟩⟩=some ⟨e.What,w,cl,⟨e.Answer.Err,e.Answer.Found,e.Answer.Value,e.Answer.Pairs⟩⟩:=fun k w cl=>by
   simp only [Ve,YI];rw [if_pos (by simp;omega)];rfl
  have fin:∀ x:Zu,(x.at_=0∨x.at_=1∨x.at_=2)→0≤x.calls→x.calls≤(i:Int)+1→RecOk T (i+1) ⟨r.tasks.set n x,r.l++[⟨e.What,(n:Int),r.tasks[n].calls,⟨e.Answer.Err,e.Answer.Found,e.Answer.Value,e.Answer.Pairs⟩⟩]⟩:=fun x h1 h2 h3=>by
   refine ⟨by simp [hT],fun u hu=>?_,fun u hu=>?_,by simp;omega⟩
   ·simp only [List.getElem_set];split
    ·omega
    ·exact R.at_ u (by simpa using hu)
   ·simp only [List.getElem_set];split
    ·simp;omega
    ·have:=R.cl u (by simpa using hu);simp;omega
  have H:rd (r.tasks.set (n:Int).toNat ⟨r.tasks[n].at_+1,r.tasks[n].calls⟩) (n:Int)=⟨r.tasks[n].at_+1,r.tasks[n].calls⟩:=by rw [rdN (by simpa using hn)];simp
  rw [rdN hn,if_pos d]
  by_cases K:want=2
  ·refine ⟨⟨r.tasks.set n ⟨0,r.tasks[n].calls+1⟩,r.l++[⟨e.What,(n:Int),r.tasks[n].calls,⟨e.Answer.Err,e.Answer.Found,e.Answer.Value,e.Answer.Pairs⟩⟩]⟩,fun k=>?_,fin _ (.inl rfl) (by simp;omega) (by simp;omega),by simp [nextT,K,d]⟩;unfold ZX;rw [if_neg B,if_pos c,rdN hn,if_neg (by simp [d]),if_pos c,hown];simp only [Option.bind_some];rw [if_pos (by simp;omega),wr (x:=r.tasks[n].at_+1) (by omega) (by omega),H];have E:decide (r.tasks[n].at_+1>2)=true:=by simp;omega
   simp only [E,if_true,Option.bind_some];have W:rd ((r.tasks.set (n:Int).toNat ⟨r.tasks[n].at_+1,r.tasks[n].calls⟩).set (n:Int).toNat ⟨0,r.tasks[n].calls⟩) (n:Int)=⟨0,r.tasks[n].calls⟩:=by rw [rdN (by simpa using hn)];simp
   rw [W,wr (x:=r.tasks[n].calls+1) (by omega) (by omega)];simp [List.set_set]
  ·refine ⟨⟨r.tasks.set n ⟨want+1,r.tasks[n].calls⟩,r.l++[⟨e.What,(n:Int),r.tasks[n].calls,⟨e.Answer.Err,e.Answer.Found,e.Answer.Value,e.Answer.Pairs⟩⟩]⟩,fun k=>?_,fin _ (by simp;omega) (by simp;omega) (by simp;omega),by simp [nextT,K,d]⟩;unfold ZX;rw [if_neg B,if_pos c,rdN hn,if_neg (by simp [d]),if_pos c,hown];simp only [Option.bind_some];rw [if_pos (by simp;omega),wr (x:=r.tasks[n].at_+1) (by omega) (by omega),H];have E:decide (r.tasks[n].at_+1>2)=false:=by simp;omega
   simp only [E,Bool.false_eq_true,if_false,Option.bind_some];simp [d]
 ·refine ⟨r,fun k=>?_,V,by rw [if_neg d]⟩;unfold ZX;rw [if_neg B,if_pos c,if_pos (by simpa using d),if_neg d]
end Go.Proofs.YtnjbjpaiepefoaaDoor
