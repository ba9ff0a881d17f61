import Derived.Test.YtcngjjlhdlbogaaDoorPureRel
import Derived.Test.YtcngjjlhdlbogaaDoorGm4LModelSnapshot
namespace Go.Proofs.YtcngjjlhdlbogaaDoor
open Go Go.RowKit
set_option linter.unusedVariables false
set_option linter.unusedSimpArgs false
set_option maxRecDepth 100000
theorem cfS_zero:∀ a b:Str,cfS a b=0→a=b
 | [],[],_=>rfl
 | [],_::_,h=>by simp [cfS,Lib.compareBytes] at h
 | _::_,[],h=>by simp [cfS,Lib.compareBytes] at h
 | x::a,y::b,h=>by
  rw [cfS_cons] at h
  by_cases c:x<y
  ·rw [if_pos c] at h;exact absurd h (by decide)
  ·rw [if_neg c] at h
   by_cases c2:y<x
   ·rw [if_pos c2] at h;exact absurd h (by decide)
   ·rw [if_neg c2] at h
    rw [u8_eqS c c2,cfS_zero a b h]
def resC:Str→Str→Int⊕Unit
 | [],_=>.inr ()
 | _::_,[]=>.inr ()
 | x::a,y::b=>if x<y then .inl (-1) else if y<x then .inl 1 else resC a b
theorem compare_l0 (a b:Str) (ha:a.length≤9223372036854775807):∀ (j i:Nat),i+j=a.length→∀ k,j<k→ferrymanref02_Compare_l0 a b k (i:Int)=some (resC (a.drop i) (b.drop i)):=by
 intro j
 induction j with
 | zero =>
  intro i hi k hk
  obtain ⟨k,rfl⟩:∃ q,k=q+1:=⟨k-1,by omega⟩
  rw [ferrymanref02_Compare_l0.eq_2,if_neg (by simp;omega),List.drop_of_length_le (by omega)];rfl
 | succ j ih =>
  intro i hi k hk
  obtain ⟨k,rfl⟩:∃ q,k=q+1:=⟨k-1,by omega⟩
  have h1:i<a.length:=by omega
  rw [ferrymanref02_Compare_l0.eq_2,List.drop_eq_getElem_cons h1]
  by_cases h2:i<b.length
  ·have ea:a.getD ((i:Int)).toNat 0=a[i]:=by rw [show ((i:Int)).toNat=i from rfl,List.getD_eq_getElem?_getD,List.getElem?_eq_getElem h1];rfl
   have eb:b.getD ((i:Int)).toNat 0=b[i]:=by rw [show ((i:Int)).toNat=i from rfl,List.getD_eq_getElem?_getD,List.getElem?_eq_getElem h2];rfl
   rw [if_pos (by simp;omega),if_pos (inR h1),if_pos (inR h2),if_pos (inR h1),if_pos (inR h2),ea,eb,wr1 (by omega),List.drop_eq_getElem_cons h2,resC]
   by_cases c:a[i]<b[i]
   ·have c':=UInt8.lt_iff_toNat_lt.1 c
    rw [if_pos (by simpa using c'),if_pos c]
   ·have c':¬ a[i].toNat<b[i].toNat:=fun h=>c (UInt8.lt_iff_toNat_lt.2 h)
    rw [if_neg (by simpa using c'),if_neg c]
    by_cases d:b[i]<a[i]
    ·have d':=UInt8.lt_iff_toNat_lt.1 d
     rw [if_pos (by simpa using d'),if_pos d]
    ·have d':¬ b[i].toNat<a[i].toNat:=fun h=>d (UInt8.lt_iff_toNat_lt.2 h)
     rw [if_neg (by simpa using d'),if_neg d]
     exact ih (i+1) (by omega) k (by omega)
  ·rw [if_neg (by simp;omega),List.drop_of_length_le (show b.length≤i by omega)];rfl
theorem resC_fin:∀ (a b:Str) (n:Nat),Sum.elim (fun r'=>some r') (fun _=>(if (decide (((n+a.length:Nat):Int)<((n+b.length:Nat):Int)))=true then some (-1:Int) else (if (decide (((n+a.length:Nat):Int)>((n+b.length:Nat):Int)))=true then some (1:Int) else some (0:Int)))) (resC a b)=some (cfS a b)
 | [],[],n=>by simp [resC,cfS,Lib.compareBytes]
 | [],y::b,n=>by
  show (if _ then _ else _)=_
  rw [if_pos (by simp;omega)];rfl
 | x::a,[],n=>by
  show (if _ then _ else _)=_
  rw [if_neg (by simp;omega),if_pos (by simp;omega)];rfl
 | x::a,y::b,n=>by
  rw [cfS_cons,resC]
  by_cases c:x<y
  ·rw [if_pos c,if_pos c];rfl
  ·rw [if_neg c,if_neg c]
   by_cases d:y<x
   ·rw [if_pos d,if_pos d];rfl
   ·rw [if_neg d,if_neg d,← resC_fin a b (n+1)]
    rw [List.length_cons,List.length_cons,show n+(a.length+1)=n+1+a.length by omega,show n+(b.length+1)=n+1+b.length by omega]
theorem Compare_eq (k:Nat) (a b:Str) (ha:a.length≤9223372036854775807) (hk:a.length<k):ferrymanref02_Compare k a b=some (cfS a b):=by
 have h:ferrymanref02_Compare_l0 a b k (0:Int)=some (resC a b):=compare_l0 a b ha a.length 0 (by omega) k hk
 have g:=resC_fin a b 0
 simp only [Nat.zero_add] at g
 unfold ferrymanref02_Compare
 rw [h,Option.bind_some];exact g
theorem lt_neg {a b:Str}:ltS a b=true↔cfS a b<0:=by unfold ltS Go.Proofs.ltOf;simp
theorem less_cf:∀ a b:Str,sless a b=decide (cfS a b<0)
 | [],[]=>rfl
 | [],_::_=>rfl
 | _::_,[]=>rfl
 | x::a,y::b=>by
  have ih:=less_cf a b
  unfold sless at ih ⊢
  rw [cfS_cons]
  simp only [Op.bytesLess]
  by_cases h:x<y
  ·simp [h]
  ·by_cases h':y<x
   ·have:x≠y:=fun e=>by subst e;exact h h'
    simp [h,h',this]
   ·have e:=u8_eqS h h'
    subst e
    simp [h,ih]
theorem beq_cf (a b:Str):(a==b)=decide (cfS a b=0):=by
 by_cases h:a=b
 ·subst h;simp [cfS_self]
 ·have:cfS a b≠0:=fun e=>h (cfS_zero a b e)
  simp [h,this]
theorem sb_leq (a b:Str):sbin .leq a b=decide (cfS a b≤0):=by
 simp only [sbin,less_cf,beq_cf]
 by_cases h:cfS a b<0
 ·have:cfS a b≤0:=by omega
  simp [h,this]
 ·by_cases h2:cfS a b=0
  ·simp [h2]
  ·have:¬ cfS a b≤0:=by omega
   simp [h,h2,this]
theorem RWithin_eq (k:Nat) (a b c:Str) (ha:a.length≤9223372036854775807) (hb:b.length≤9223372036854775807) (h1:a.length<k) (h2:b.length<k):ferrymanref02_Within k a b c=some (withinB a b c):=by
 simp only [ferrymanref02_Within,Compare_eq k _ _ ha h1,Compare_eq k _ _ hb h2,Option.bind_some,withinB,sb_leq]
 have e:sbin .lss a c=decide (cfS a c<0):=less_cf a c
 rw [e]
 cases decide (cfS b a≤0)<;>cases sbin .eql c ([]:Str)<;>rfl
instance:DecidableEq api_Version:=fun a b=>decidable_of_iff (a.Writer=b.Writer∧a.TS=b.TS∧a.Tomb=b.Tomb∧a.Value=b.Value) (by cases a;cases b;simp)
instance:DecidableEq api_Pair:=fun a b=>decidable_of_iff (a.Key=b.Key∧a.Value=b.Value) (by cases a;cases b;simp)
instance:DecidableEq api_Answer:=fun a b=>decidable_of_iff (a.Err=b.Err∧a.Found=b.Found∧a.Value=b.Value∧a.Pairs=b.Pairs) (by cases a;cases b;simp)
theorem pair_beq (a b:api_Pair):((a.Key==b.Key)&&(a.Value==b.Value))=decide (a=b):=by
 cases a;cases b
 rw [Bool.eq_iff_iff];simp [api_Pair.mk.injEq]
theorem Ans_l0 (a b:api_Answer) (hl:a.Pairs.length=b.Pairs.length) (hb:a.Pairs.length≤1000000):∀ (j i:Nat),i+j=a.Pairs.length→∀ k,j<k→ferrymanref06_Answers_l0 a b k (i:Int)=some (if a.Pairs.drop i=b.Pairs.drop i then .inr () else .inl false):=by
 intro j
 induction j with
 | zero =>
  intro i hi k hk
  obtain ⟨k,rfl⟩:∃ k',k=k'+1:=⟨k-1,by omega⟩
  rw [ferrymanref06_Answers_l0.eq_2,List.drop_of_length_le (by omega),List.drop_of_length_le (by omega)]
  have:¬ ((i:Int)<(a.Pairs.length:Int)):=by omega
  simp [this]
 | succ j ih =>
  intro i hi k hk
  obtain ⟨k,rfl⟩:∃ k',k=k'+1:=⟨k-1,by omega⟩
  have h1:i<a.Pairs.length:=by omega
  have h2:i<b.Pairs.length:=by omega
  have h3:(i:Int)<(a.Pairs.length:Int):=by omega
  rw [ferrymanref06_Answers_l0.eq_2,List.drop_eq_getElem_cons h1,List.drop_eq_getElem_cons h2]
  simp only [h3,decide_true,if_true,inR h1,inR h2,and_self,rdN h1,rdN h2,pair_beq,wr1 (i:=i) (by omega),List.cons.injEq]
  by_cases hc:a.Pairs[i]=b.Pairs[i]
  ·simp only [hc,decide_true,Bool.not_true,Bool.false_eq_true,if_false,true_and]
   exact ih (i+1) (by omega) k (by omega)
  ·simp [hc]
theorem Answers_eq (a b:api_Answer) (hb:a.Pairs.length≤1000000) (k:Nat) (hk:a.Pairs.length<k):ferrymanref06_Answers k a b=some (decide (a=b)):=by
 unfold ferrymanref06_Answers
 have key:a=b↔a.Err=b.Err∧a.Found=b.Found∧a.Value=b.Value∧a.Pairs=b.Pairs:=by
  cases a;cases b;simp [api_Answer.mk.injEq]
 have sn:sbin .neq a.Value b.Value=!decide (a.Value=b.Value):=by
  simp only [sbin]
  by_cases h:a.Value=b.Value<;>simp [h]
 rw [sn]
 by_cases hc:a.Err=b.Err∧a.Found=b.Found∧a.Value=b.Value∧a.Pairs.length=b.Pairs.length
 ·rw [if_neg (by simp [hc])]
  have:=Ans_l0 a b hc.2.2.2 hb a.Pairs.length 0 (by omega) k hk
  rw [show ((0:Nat):Int)=0 from rfl,List.drop_zero,List.drop_zero] at this
  rw [this]
  by_cases hp:a.Pairs=b.Pairs
  ·have:a=b:=key.2 ⟨hc.1,hc.2.1,hc.2.2.1,hp⟩
   simp [this]
  ·have:a≠b:=fun e=>hp (key.1 e).2.2.2
   simp [hp,this]
 ·have:a≠b:=fun e=>hc (by subst e;exact ⟨rfl,rfl,rfl,rfl⟩)
  rw [if_pos ?_]
  ·simp [this]
  ·by_cases h1:a.Err=b.Err
   ·by_cases h2:a.Found=b.Found
    ·by_cases h3:a.Value=b.Value
     ·have h4:¬ (a.Pairs.length:Int)=(b.Pairs.length:Int):=fun e=>hc ⟨h1,h2,h3,by omega⟩
      simp [h4]
     ·simp [h3]
    ·simp [h2]
   ·simp [h1]
end Go.Proofs.YtcngjjlhdlbogaaDoor
