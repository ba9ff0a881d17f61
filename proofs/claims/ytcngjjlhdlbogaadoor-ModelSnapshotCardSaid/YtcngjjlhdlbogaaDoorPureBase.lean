import Derived.Test.YtcngjjlhdlbogaaDoorGm4
import Derived.Test.YtcngjjlhdlbogaaDoorSlU
import Derived.Test.YtcngjjlhdlbogaaDoorSlH
namespace Go.Proofs.YtcngjjlhdlbogaaDoor
open Go Go.RowKit
set_option linter.unusedVariables false
set_option linter.unusedSimpArgs false
set_option maxRecDepth 100000
abbrev Ver:=api_Version
def dflt:Ver:=⟨0,0,false,[]⟩
def seen:List Ver→Int→Ver×Bool
 | [],_=>(dflt,false)
 | v::t,n=>if v.TS≤n then (if v.Tomb then (dflt,false) else (v,true)) else seen t n
def kept:List Ver→Int→List Ver
 | [],_=>[]
 | v::t,n=>if v.TS≤n then (if v.Tomb then [] else [v]) else v::kept t n
def kpos:List Ver→Int→Nat
 | [],_=>0
 | v::t,n=>if v.TS≤n then (if v.Tomb then 0 else 1) else kpos t n+1
theorem kept_take:∀ (l:List Ver) (n:Int),kept l n=l.take (kpos l n)
 | [],_=>rfl
 | v::t,n=>by
  simp only [kept,kpos]
  split
  ·split<;>rfl
  ·rw [List.take_succ_cons,kept_take t n]
theorem kpos_le:∀ (l:List Ver) (n:Int),kpos l n≤l.length
 | [],_=>Nat.le_refl _
 | v::t,n=>by
  have:=kpos_le t n
  simp only [kpos,List.length_cons]
  split
  ·split<;>omega
  ·omega
def resSeen:List Ver→Int→((Unit⊕Ver)⊕(Unit⊕Ver))
 | [],_=>.inr (.inl ())
 | v::t,n=>if v.TS≤n then (if v.Tomb then .inl (.inl ()) else .inl (.inr v)) else resSeen t n
theorem seen_l0 (l:List Ver) (n:Int) (kk:Nat) (hl:l.length≤1000000):∀ (j k i:Nat),i+j=l.length→j<k →
  keep_till_1_l0 l n (keep_Seen_b0 l kk) k (i:Int) (.inl ())=some (resSeen (l.drop i) n):=by
 intro j
 induction j with
 | zero =>
  intro k i h1 h2
  obtain ⟨k,rfl⟩:∃ k',k=k'+1:=⟨k-1,by omega⟩
  rw [keep_till_1_l0.eq_2,List.drop_of_length_le (by omega)]
  have:¬ ((i:Int)<(l.length:Int)):=by omega
  simp [this,resSeen]
 | succ j ih =>
  intro k i h1 h2
  obtain ⟨k,rfl⟩:∃ k',k=k'+1:=⟨k-1,by omega⟩
  have hi:i<l.length:=by omega
  have hi1:(i:Int)<(l.length:Int):=by omega
  have hi0:(0:Int)≤(i:Int):=by omega
  rw [keep_till_1_l0.eq_2,List.drop_eq_getElem_cons hi,resSeen,wr (by omega) (by omega)]
  have ih':=ih k (i+1) (by omega) (by omega)
  rw [show ((i+1:Nat):Int)=(i:Int)+1 by omega] at ih'
  simp only [hi1,hi0,decide_true,and_self,if_true,toL,Option.bind_some,keep_Seen_b0,rdN hi]
  by_cases hn:l[i].TS≤n
  ·cases ht:l[i].Tomb<;>simp [hn,ht,isNorm]
  ·simp [hn,isNorm,ih']
theorem Seen_eq (l:List Ver) (n:Int) (k:Nat) (hl:l.length≤1000000) (hk:l.length<k):keep_Seen k l n=some (seen l n):=by
 have h:=seen_l0 l n k hl l.length k 0 (by omega) hk
 simp only [keep_Seen,keep_till_v,Option.bind_some,keep_till_1]
 rw [show ((0:Nat):Int)=0 from rfl] at h
 rw [h]
 simp only [Option.bind_some,List.drop_zero]
 have key:∀ l:List Ver,(Sum.elim (fun r'=>some r') (fun x79=>some x79) (resSeen l n)).bind (fun o167o=>Sum.elim (fun _=>some ((⟨(0:Int),(0:Int),false,([]:Str)⟩:api_Version),false)) (fun x166=>some (x166,true)) o167o)=some (seen l n):=by
  intro l
  induction l with
  | nil=>rfl
  | cons v t ih =>
   simp only [resSeen,seen]
   split
   ·split<;>rfl
   ·exact ih
 exact key l
def resKept:List Ver→Int→Int→((Int⊕Unit)⊕(Int⊕Unit))
 | [],_,z=>.inr (.inl z)
 | v::t,n,z=>if v.TS≤n then .inl (.inl (z-(t.length+1)+(if v.Tomb then 0 else 1))) else resKept t n z
theorem kept_l0 (l:List Ver) (n:Int) (kk:Nat) (hl:l.length≤1000000):∀ (j k i:Nat),i+j=l.length→j<k →
  keep_till_1_l0 l n (keep_Kept_b0 l kk) k (i:Int) (.inl (l.length:Int))=some (resKept (l.drop i) n l.length):=by
 intro j
 induction j with
 | zero =>
  intro k i h1 h2
  obtain ⟨k,rfl⟩:∃ k',k=k'+1:=⟨k-1,by omega⟩
  rw [keep_till_1_l0.eq_2,List.drop_of_length_le (by omega)]
  have:¬ ((i:Int)<(l.length:Int)):=by omega
  simp [this,resKept]
 | succ j ih =>
  intro k i h1 h2
  obtain ⟨k,rfl⟩:∃ k',k=k'+1:=⟨k-1,by omega⟩
  have hi:i<l.length:=by omega
  have hi1:(i:Int)<(l.length:Int):=by omega
  have hi0:(0:Int)≤(i:Int):=by omega
  have hlen:((l.drop (i+1)).length:Int)=l.length-i-1:=by rw [List.length_drop];omega
  rw [keep_till_1_l0.eq_2,List.drop_eq_getElem_cons hi,resKept,wr (by omega) (by omega)]
  have ih':=ih k (i+1) (by omega) (by omega)
  rw [show ((i+1:Nat):Int)=(i:Int)+1 by omega] at ih'
  simp only [hi1,hi0,decide_true,and_self,if_true,toL,Option.bind_some,keep_Kept_b0,rdN hi,hlen]
  by_cases hn:l[i].TS≤n
  ·have hw:=wr (x:=(i:Int)+1) (by omega) (by omega)
   cases ht:l[i].Tomb<;>simp [hn,ht,isNorm,hw]<;>omega
  ·simp [hn,isNorm,ih']
theorem Kept_eq (l:List Ver) (n:Int) (k:Nat) (hl:l.length≤1000000) (hk:l.length<k):keep_Kept k l n=some (kept l n):=by
 have h:=kept_l0 l n k hl l.length k 0 (by omega) hk
 simp only [keep_Kept,keep_till_v,Option.bind_some,keep_till_1]
 rw [show ((0:Nat):Int)=0 from rfl] at h
 rw [h]
 simp only [Option.bind_some,List.drop_zero]
 have key:∀ t:List Ver,∃ x,resKept t n l.length=x∧Sum.elim (fun r'=>some r') (fun x79=>some x79) x=some (Sum.inl ((l.length:Int)-t.length+kpos t n):Int⊕Unit):=by
  intro t
  induction t with
  | nil=>exact ⟨_,rfl,by simp [resKept,kpos]⟩
  | cons v t ih =>
   refine ⟨_,rfl,?_⟩
   simp only [resKept,kpos]
   split
   ·cases v.Tomb<;>simp<;>omega
   ·obtain ⟨_,rfl,e⟩:=ih
    rw [e];simp;omega
 obtain ⟨_,rfl,e⟩:=key l
 rw [e]
 have hp:=kpos_le l n
 have e2:(l.length:Int)-l.length+kpos l n=kpos l n:=by omega
 simp only [Option.bind_some,Sum.elim_inl,e2]
 rw [if_pos (by omega)]
 simp only [slices_Clone_api_Version_api_Version,Int.toNat_natCast,List.nil_append,List.length_nil,Nat.zero_add]
 rw [if_pos (by rw [List.length_take];omega),kept_take]
 rfl
def clash (l:List Ver) (n:Int):Bool:=match l with
 | []=>false
 | v::_=>decide (v.TS>n)
theorem Clash_eq (l:List Ver) (n:Int) (k:Nat):keep_Clash k l n=some (clash l n):=by
 cases l with
 | nil=>rfl
 | cons v t =>
  have h:(((v::t:List Ver).length:Int)>0):=by simp
  have h2:(0:Int)<((v::t:List Ver).length:Int):=h
  simp only [keep_Clash,h,h2,decide_true,if_true,Int.le_refl,and_self,Option.bind_some,clash]
  rfl
def legal:List Ver→Bool
 | []=>true
 | [v]=>decide (1≤v.TS)
 | v::u::t=>decide (1≤v.TS)&&decide (u.TS<v.TS)&&legal (u::t)
theorem seen_kept:∀ (l:List Ver) (f s:Int),f≤s→seen (kept l f) s=seen l s
 | [],_,_,_=>rfl
 | v::t,f,s,h=>by
  have ih:=seen_kept t f s h
  simp only [kept]
  by_cases h1:v.TS≤f
  ·have h2:v.TS≤s:=by omega
   cases ht:v.Tomb<;>simp [h1,h2,ht,seen]
  ·simp [h1,seen,ih]
theorem clash_kept:∀ (l:List Ver) (f s:Int),f≤s→clash (kept l f) s=clash l s
 | [],_,_,_=>rfl
 | v::t,f,s,h=>by
  simp only [kept]
  by_cases h1:v.TS≤f
  ·have h2:¬ (v.TS>s):=by omega
   cases ht:v.Tomb<;>simp [h1,ht,clash]<;>omega
  ·simp [h1,clash]
theorem wr' {x:Int} (h:-9223372036854775808≤x) (h':x≤9223372036854775807):IntKind.i64.wrap x=x:=wr h h'
def mayB (c:api_Config):Bool :=
 (decide (c.Tasks≥1)&&decide (c.Tasks≤6))&&(decide (c.Active≥1)&&decide (c.Active≤8))&&(decide (c.Keys≥1)&&decide (c.Keys≤64))&&(decide (c.Depth≥2)&&decide (c.Depth≤8)) &&
 (decide (c.TS≥1)&&decide (c.TS≤1048576))&&(decide (c.KeyLen≥1)&&decide (c.KeyLen≤64))&&(decide (c.ValLen≥0)&&decide (c.ValLen≤256))&&(decide (c.Fan≥3)&&decide (c.Fan≤8))
theorem rng {n lo hi:Int}:(decide (n<lo)||decide (n>hi))=!(decide (n≥lo)&&decide (n≤hi)):=by
 by_cases h1:n<lo
 ·have:¬ n≥lo:=by omega
  simp [h1,this]
 ·by_cases h2:n>hi
  ·have:¬ n≤hi:=by omega
   simp [h1,h2,this]
  ·have h3:n≥lo:=by omega
   have h4:n≤hi:=by omega
   simp [h1,h2,h3,h4]
def bnds (c:api_Config):List text_bound:=[⟨c.Tasks,1,6⟩,⟨c.Active,1,8⟩,⟨c.Keys,1,64⟩,⟨c.Depth,2,8⟩,⟨c.TS,1,1048576⟩,⟨c.KeyLen,1,64⟩,⟨c.ValLen,0,256⟩,⟨c.Fan,3,8⟩]
theorem May_step (c:api_Config) (k i:Nat) (hi:i<8):text_May_l0 c (k+1) (i:Int)=(if (!(decide ((rd (bnds c) (i:Int)).n≥(rd (bnds c) (i:Int)).low)&&decide ((rd (bnds c) (i:Int)).n≤(rd (bnds c) (i:Int)).high)))=true then some (.inl false) else text_May_l0 c k ((i+1:Nat):Int)):=by
 have h1:(i:Int)<8:=by omega
 have h2:0≤(i:Int)∧(i:Int)<8:=by omega
 rw [text_May_l0.eq_2,wr (x:=(i:Int)+1) (by omega) (by omega)]
 simp only [h1,decide_true,if_true,h2,and_self,rng,show ((i:Int)+1)=((i+1:Nat):Int) by omega,Option.bind_some,bnds]
 try rfl
theorem May_end (c:api_Config) (k:Nat):text_May_l0 c (k+1) ((8:Nat):Int)=some (.inr ()):=by
 rw [text_May_l0.eq_2];rfl
theorem May_def (k:Nat) (c:api_Config) (hk:9≤k):text_May k c=some (mayB c):=by
 obtain ⟨k,rfl⟩:∃ k',k=k'+9:=⟨k-9,by omega⟩
 unfold text_May
 rw [show (0:Int)=((0:Nat):Int) from rfl,May_step c (k+8) 0 (by omega),May_step c (k+7) 1 (by omega),May_step c (k+6) 2 (by omega),May_step c (k+5) 3 (by omega),May_step c (k+4) 4 (by omega),May_step c (k+3) 5 (by omega),May_step c (k+2) 6 (by omega),May_step c (k+1) 7 (by omega),May_end c k]
 simp only [rd,Int.toNat_natCast,List.getD_cons_zero,List.getD_cons_succ,Nat.zero_add,mayB,bnds]
 generalize (decide (c.Tasks≥1)&&decide (c.Tasks≤6))=b1
 generalize (decide (c.Active≥1)&&decide (c.Active≤8))=b2
 generalize (decide (c.Keys≥1)&&decide (c.Keys≤64))=b3
 generalize (decide (c.Depth≥2)&&decide (c.Depth≤8))=b4
 generalize (decide (c.TS≥1)&&decide (c.TS≤1048576))=b5
 generalize (decide (c.KeyLen≥1)&&decide (c.KeyLen≤64))=b6
 generalize (decide (c.ValLen≥0)&&decide (c.ValLen≤256))=b7
 generalize (decide (c.Fan≥3)&&decide (c.Fan≤8))=b8
 revert b1 b2 b3 b4 b5 b6 b7 b8
 decide
theorem Within_eq (k:Nat) (a b c:Str):text_Within k a b c=some ((sbin .leq b a)&&((sbin .eql c ([]:Str))||(sbin .lss a c))):=rfl
def keyB (c:api_Config) (s:Str):Bool:=mayB c&&decide ((s.length:Int)≥1)&&decide ((s.length:Int)≤c.KeyLen)
def valB (c:api_Config) (s:Str):Bool:=mayB c&&decide ((s.length:Int)≥0)&&decide ((s.length:Int)≤c.ValLen)
def bndB (c:api_Config) (s:Str):Bool:=mayB c&&decide ((s.length:Int)≥0)&&decide ((s.length:Int)≤c.KeyLen)
theorem Key_eq (k:Nat) (c:api_Config) (s:Str) (hk:9≤k):text_Key k c s=some (keyB c s):=by
 simp only [text_Key,text_length_v,text_length_1,Option.bind_some,May_def k c hk];rfl
theorem Value_eq (k:Nat) (c:api_Config) (s:Str) (hk:9≤k):text_Value k c s=some (valB c s):=by
 simp only [text_Value,text_length_v,text_length_1,Option.bind_some,May_def k c hk];rfl
theorem Bound_eq (k:Nat) (c:api_Config) (s:Str) (hk:9≤k):text_Bound k c s=some (bndB c s):=by
 simp only [text_Bound,text_length_v,text_length_1,Option.bind_some,May_def k c hk];rfl
theorem Seen_ev {l:List Ver} {n:Int} (h:l.length≤1000000):Ev (fun k=>keep_Seen k l n) (seen l n):=⟨l.length+1,fun k hk=>Seen_eq l n k h (by omega)⟩
theorem Kept_ev {l:List Ver} {n:Int} (h:l.length≤1000000):Ev (fun k=>keep_Kept k l n) (kept l n):=⟨l.length+1,fun k hk=>Kept_eq l n k h (by omega)⟩
theorem Clash_ev {l:List Ver} {n:Int}:Ev (fun k=>keep_Clash k l n) (clash l n):=⟨0,fun k _=>Clash_eq l n k⟩
theorem kept_len (l:List Ver) (n:Int):(kept l n).length≤l.length:=by rw [kept_take,List.length_take];omega
end Go.Proofs.YtcngjjlhdlbogaaDoor
