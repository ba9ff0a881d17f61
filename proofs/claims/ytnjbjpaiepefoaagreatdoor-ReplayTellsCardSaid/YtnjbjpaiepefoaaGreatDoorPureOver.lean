import Derived.Test.YtnjbjpaiepefoaaGreatDoorPureModel3
namespace Go.Proofs.YtnjbjpaiepefoaaGreatDoor
open Go Go.RowKit
set_option linter.unusedVariables false
set_option linter.unusedSimpArgs false
set_option maxRecDepth 100000
abbrev Run:=XA
theorem Ev.all {α:Type} {f:Nat→Option α} {v:α} (h:∀ k,f k=some v):Ev f v:=⟨0,fun k _=>h k⟩
instance:DecidableEq Qo:=fun a b=>decidable_of_iff (a.Key=b.Key∧a.Value=b.Value) (by cases a;cases b;simp)
instance:DecidableEq Qk:=fun a b=>decidable_of_iff (a.Err=b.Err∧a.Found=b.Found∧a.Value=b.Value∧a.Pairs=b.Pairs) (by cases a;cases b;simp)
theorem qM (a b:Qo):((a.Key==b.Key)&&(a.Value==b.Value))=decide (a=b):=by
 cases a;cases b
 rw [Bool.eq_iff_iff];simp [Qo.mk.injEq]
theorem eqp_l0 (a b:List Qo) (hl:a.length=b.length) (hb:a.length≤1000000):∀ (j i:Nat),i+j=a.length→∀ k,j<k→ZL a b k (i:Int)=some (if a.drop i=b.drop i then .inr () else .inl false):=by
 intro j
 induction j with
 | zero =>
  intro i hi k hk;obtain ⟨k,rfl⟩:∃ k',k=k'+1:=⟨k-1,by omega⟩;rw [ZL.eq_2,List.drop_of_length_le (by omega),List.drop_of_length_le (by omega)];have:¬ ((i:Int)<(a.length:Int)):=by omega
  simp [this]
 | succ j ih =>
  intro i hi k hk;obtain ⟨k,rfl⟩:∃ k',k=k'+1:=⟨k-1,by omega⟩;have B:i<a.length:=by omega
  have E:i<b.length:=by omega
  have G:(i:Int)<(a.length:Int):=by omega
  rw [ZL.eq_2,List.drop_eq_getElem_cons B,List.drop_eq_getElem_cons E];simp only [G,decide_true,if_true,inR B,inR E,and_self,rdN B,rdN E,qM,wr1 (i:=i) (by omega),List.cons.injEq]
  by_cases hc:a[i]=b[i]
  ·simp only [hc,decide_true,Bool.not_true,Bool.false_eq_true,if_false,true_and];exact ih (i+1) (by omega) k (by omega)
  ·simp [hc]
theorem QBQ (a b:Qk) (hb:a.Pairs.length≤1000000) (k:Nat) (hk:a.Pairs.length<k):X7 k a b=some (decide (a=b)):=by
 have key:a=b↔a.Err=b.Err∧a.Found=b.Found∧a.Value=b.Value∧a.Pairs=b.Pairs:=by
  cases a;cases b;simp [Qk.mk.injEq]
 have sn:sbin .eql a.Value b.Value=decide (a.Value=b.Value):=by
  simp only [sbin]
  by_cases h:a.Value=b.Value<;>simp [h]
 have H:Z4 k a.Pairs b.Pairs=some (decide (a.Pairs=b.Pairs)):=by
  unfold Z4
  by_cases hl:a.Pairs.length=b.Pairs.length
  ·rw [if_neg (by simp [hl])];have h:=eqp_l0 a.Pairs b.Pairs hl hb a.Pairs.length 0 (by omega) k hk;show Option.bind (ZL a.Pairs b.Pairs k ((0:Nat):Int)) _=_;rw [h,List.drop_zero,List.drop_zero]
   by_cases hc:a.Pairs=b.Pairs<;>simp [hc]
  ·rw [if_pos (by simp;omega)];have:a.Pairs≠b.Pairs:=fun e=>hl (by rw [e]);simp [this]
 unfold X7;rw [sn,H]
 by_cases B:a.Err=b.Err
 ·by_cases E:a.Found=b.Found
  ·by_cases G:a.Value=b.Value
   ·simp [B,E,G,key]
   ·have:a≠b:=fun e=>G (key.1 e).2.2.1;simp [B,E,G,this]
  ·have:a≠b:=fun e=>E (key.1 e).2.1;simp [B,E,this]
 ·have:a≠b:=fun e=>B (key.1 e).1;simp [B,this]
theorem qS (a b:Qk) (hb:a.Pairs.length≤1000000):Ev (fun k=>X7 k a b) (decide (a=b)):=⟨a.Pairs.length+1,fun k hk=>QBQ a b hb k (by omega)⟩
structure RecOk (T i:Nat) (r:Qj):Prop where
 len:r.tasks.length=T
 at_:∀ t (h:t<r.tasks.length),0≤r.tasks[t].at_∧r.tasks[t].at_≤2
 cl:∀ t (h:t<r.tasks.length),0≤r.tasks[t].calls∧r.tasks[t].calls≤(i:Int)
 ll:r.l.length≤i
theorem rdI {α:Type} [Inhabited α] {l:List α} {x:Int} (h0:0≤x) (B:x<(l.length:Int)):rd l x=l[x.toNat]'(by omega):=by
 obtain ⟨n,rfl⟩:=Int.eq_ofNat_of_zero_le h0;rw [rdN (by omega)];rfl
theorem KO {T i:Nat} {r:Qj} (R:RecOk T i r) (t:Int) (k:Nat):YF k r t=some (if 0≤t∧t<(r.tasks.length:Int)∧(rd r.tasks t).at_≠0 then ((rd r.tasks t).calls,((rd r.tasks t).at_==(2:Int)),true) else (0,false,false)):=by
 unfold YF
 by_cases c:0≤t∧t<(r.tasks.length:Int)
 ·have B:¬ ((decide (t<(0:Int))||decide (t≥(r.tasks.length:Int)))=true):=by simp;omega
  rw [if_neg B,if_pos c]
  by_cases d:(rd r.tasks t).at_=0
  ·simp [c.1,c.2,d]
  ·have:((rd r.tasks t).at_==(0:Int))=false:=by simpa using d
   simp only [Option.bind_some,this,Bool.false_eq_true,if_false];rw [if_pos c,if_pos ⟨c.1,c.2,d⟩]
 ·have B:(decide (t<(0:Int))||decide (t≥(r.tasks.length:Int)))=true:=by simp;omega
  have E:¬ (0≤t∧t<(r.tasks.length:Int)∧(rd r.tasks t).at_≠0):=fun h=>c ⟨h.1,h.2.1⟩;rw [if_pos B,if_neg E];rfl
def nextT (x:Yh) (want:Int):Yh:=if want=2 then ⟨0,x.calls+1⟩ else ⟨want+1,x.calls⟩
theorem put_ev {T i:Nat} {r:Qj} (R:RecOk T i r) (hi:i≤100000) (t want:Int) (K:0≤t) (V:t<(T:Int)) (hw:0≤want∧want≤2) (e:QB) (W:e.Answer.Pairs.length≤2199023255552) :
  ∃ r',(∀ k,ZY k r t want e=some (if (rd r.tasks t).at_=want then 0 else 7,r'))∧RecOk T (i+1) r'∧r'.tasks=if (rd r.tasks t).at_=want then r.tasks.set t.toNat (nextT (rd r.tasks t) want) else r.tasks:=by
 have O:RecOk T (i+1) r:=⟨R.len,R.at_,fun t h=>by have:=R.cl t h;omega,by have:=R.ll;omega⟩;have hT:=R.len;have c:0≤t∧t<(r.tasks.length:Int):=⟨K,by omega⟩;have B:¬ ((decide (t<(0:Int))||decide (t≥(r.tasks.length:Int)))=true):=by simp;omega
 by_cases d:(rd r.tasks t).at_=want
 ·obtain ⟨n,rfl⟩:=Int.eq_ofNat_of_zero_le c.1;have hn:n<r.tasks.length:=by omega
  have Y:=R.at_ n hn;have Z:=R.cl n hn;have a3:=R.ll;rw [rdN hn] at d
  have hown:∀ (k:Nat) (w:Int) (cl:Int),Vg k ⟨e.What,w,cl,⟨e.Answer.Err,e.Answer.Found,e.Answer.Value,e.Answer.Pairs⟩⟩=some ⟨e.What,w,cl,⟨e.Answer.Err,e.Answer.Found,e.Answer.Value,e.Answer.Pairs⟩⟩:=fun k w cl=>by
   simp only [Vg,YO];rw [if_pos (by simp;omega)];rfl
  have fin:∀ x:Yh,(x.at_=0∨x.at_=1∨x.at_=2)→0≤x.calls→x.calls≤(i:Int)+1→RecOk T (i+1) ⟨r.tasks.set n x,r.l++[⟨e.What,(n:Int),r.tasks[n].calls,⟨e.Answer.Err,e.Answer.Found,e.Answer.Value,e.Answer.Pairs⟩⟩]⟩:=fun x h1 h2 h3=>by
   refine ⟨by simp [hT],fun u hu=>?_,fun u hu=>?_,by simp;omega⟩
   ·simp only [List.getElem_set];split
    ·omega
    ·exact R.at_ u (by simpa using hu)
   ·simp only [List.getElem_set];split
    ·simp;omega
    ·have:=R.cl u (by simpa using hu);simp;omega
  have G:rd (r.tasks.set (n:Int).toNat ⟨r.tasks[n].at_+1,r.tasks[n].calls⟩) (n:Int)=⟨r.tasks[n].at_+1,r.tasks[n].calls⟩:=by rw [rdN (by simpa using hn)];simp
  rw [rdN hn,if_pos d]
  by_cases H:want=2
  ·refine ⟨⟨r.tasks.set n ⟨0,r.tasks[n].calls+1⟩,r.l++[⟨e.What,(n:Int),r.tasks[n].calls,⟨e.Answer.Err,e.Answer.Found,e.Answer.Value,e.Answer.Pairs⟩⟩]⟩,fun k=>?_,fin _ (.inl rfl) (by simp;omega) (by simp;omega),by simp [nextT,H,d]⟩;unfold ZY;rw [if_neg B,if_pos c,rdN hn,if_neg (by simp [d]),if_pos c,hown];simp only [Option.bind_some];rw [if_pos (by simp;omega),wr (x:=r.tasks[n].at_+1) (by omega) (by omega),G];have E:decide (r.tasks[n].at_+1>2)=true:=by simp;omega
   simp only [E,if_true,Option.bind_some];have U:rd ((r.tasks.set (n:Int).toNat ⟨r.tasks[n].at_+1,r.tasks[n].calls⟩).set (n:Int).toNat ⟨0,r.tasks[n].calls⟩) (n:Int)=⟨0,r.tasks[n].calls⟩:=by rw [rdN (by simpa using hn)];simp
   rw [U,wr (x:=r.tasks[n].calls+1) (by omega) (by omega)];simp [List.set_set]
  ·refine ⟨⟨r.tasks.set n ⟨want+1,r.tasks[n].calls⟩,r.l++[⟨e.What,(n:Int),r.tasks[n].calls,⟨e.Answer.Err,e.Answer.Found,e.Answer.Value,e.Answer.Pairs⟩⟩]⟩,fun k=>?_,fin _ (by simp;omega) (by simp;omega) (by simp;omega),by simp [nextT,H,d]⟩;unfold ZY;rw [if_neg B,if_pos c,rdN hn,if_neg (by simp [d]),if_pos c,hown];simp only [Option.bind_some];rw [if_pos (by simp;omega),wr (x:=r.tasks[n].at_+1) (by omega) (by omega),G];have E:decide (r.tasks[n].at_+1>2)=false:=by simp;omega
   simp only [E,Bool.false_eq_true,if_false,Option.bind_some];simp [d]
 ·refine ⟨r,fun k=>?_,O,by rw [if_neg d]⟩;unfold ZY;rw [if_neg B,if_pos c,if_pos (by simpa using d),if_neg d]
end Go.Proofs.YtnjbjpaiepefoaaGreatDoor
