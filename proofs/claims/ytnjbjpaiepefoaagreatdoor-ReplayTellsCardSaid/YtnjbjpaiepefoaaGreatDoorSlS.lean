import Derived.Test.YtnjbjpaiepefoaaGreatDoorSlP
import Derived.Test.YtnjbjpaiepefoaaGreatDoorSlO
namespace Go.Proofs.YtnjbjpaiepefoaaGreatDoor
open Go
set_option linter.unusedVariables false
set_option linter.unusedSimpArgs false
set_option linter.unusedSectionVars false
section
variable {P:Program} {t:TypeId}
theorem KC {κ:Type} [DecidableEq κ] {enc:κ→Value} {u:TypeDesc} (h:∀ a b:κ,Instr.sameNow u (enc a) (enc b)=some (decide (a=b))) (k:κ):∀ (l:List MapEntry) (ks:List κ) (i:Nat),l.map (·.key)=ks.map enc →
  Instr.findNow u (enc k) l i=some ((findAt k ks i).bind fun j=>(l[j-i]?).map fun e=>(j,e.val))
 | [],ks,i,e=>by
  obtain rfl:ks=[]:=by cases ks with | nil=>rfl | cons a l=>simp at e
  rfl
 | e::l,[],i,B=>by simp at B
 | e::l,a::ks,i,B=>by
  simp only [List.map_cons,List.cons.injEq] at B;have ih:=KC h k l ks (i+1) B.2;rw [Instr.findNow,B.1,h,findAt]
  by_cases c:a=k
  ·subst c;simp
  ·have c':¬ k=a:=fun e=>c e.symm;simp only [c,c',decide_false,if_false];rw [ih]
   congr 1
   cases hf:findAt k ks (i+1) with
   | none=>rfl
   | some j =>
    have:=UA hf;simp only [Option.bind_some];rw [show j-i=(j-(i+1))+1 by omega,List.getElem?_cons_succ]
theorem qY {κ:Type} [DecidableEq κ] {enc:κ→Value} {u:TypeDesc} (hu:P.underlying t=some u) (h:∀ a b:κ,Instr.sameNow u (enc a) (enc b)=some (decide (a=b)))
  (chk:∀ (w:World) (e:Bool) (k:κ),(Instr.checkKey e 10000 t (enc k)).run P w=.ok () w) (bits:∀ k:κ,Instr.sameBits 10000 (enc k) (enc k)=true):KeyT P t enc where
 chk:=chk
 bits:=bits
 find:=by
  intro w k l ks hl;simp only [Instr.findKey,Sem.run_bind,run_underlying hu,Result.andThen_ok,KC h k l ks 0 hl,Nat.sub_zero]
  rfl
theorem QBX {k:IntKind} (hu:P.underlying t=some (.int k)):KeyT P t (Value.int k):=qY hu (fun a b=>by
  simp only [Instr.sameNow,if_true]
  congr 1) (fun w e x=>by
  have h:∀ n,(Instr.checkKey e (n+1) t (.int k x)).run P w=.ok () w:=fun n=>by simp [Instr.checkKey,run_underlying hu,Result.andThen]
  exact h 9999) (fun x=>by
  have h:∀ n,Instr.sameBits (n+1) (.int k x) (.int k x)=true:=fun n=>by simp [Instr.sameBits]
  exact h 9999)
def encS (s:Str):Value:=.string (bs s)
theorem QBW (hu:P.underlying t=some .string):KeyT P t encS:=qY hu (fun a b=>by
  simp only [encS,Instr.sameNow,QAD]
  congr 1
  rw [Bool.eq_iff_iff];simp) (fun w e x=>by
  have h:∀ n,(Instr.checkKey e (n+1) t (encS x)).run P w=.ok () w:=fun n=>by simp [encS,Instr.checkKey,run_underlying hu,Result.andThen]
  exact h 9999) (fun x=>by
  have h:∀ n,Instr.sameBits (n+1) (encS x) (encS x)=true:=fun n=>by simp only [encS,Instr.sameBits,QAD,beq_self_eq_true]
  exact h 9999)
end
inductive F2 {α β:Type} (R:α→β→Prop):List α→List β→Prop
 | nil:F2 R [] []
 | cons {a:α} {b:β} {l:List α} {m:List β} (h:R a b) (k:F2 R l m):F2 R (a::l) (b::m)
def Xn {κ ν:Type} (r:Rep ν) (M:Hp) (l:List (κ×ν)) (vs:List (κ×Value)):Prop :=
 F2 (fun (p:κ×ν) (q:κ×Value)=>p.1=q.1∧∃ cs,r.R M p.2 cs∧q.2=.agg cs.toArray) l vs
section
variable {κ ν:Type} [DecidableEq κ] {r:Rep ν} {M M':Hp} {l:List (κ×ν)} {vs:List (κ×Value)}
theorem Xn.nil:Xn (κ:=κ) r M [] []:=F2.nil
theorem Xn.mono (h:Xn r M l vs) (B:M.le M'):Xn r M' l vs:=by
 induction h with
 | nil=>exact F2.nil
 | cons h _ ih=>obtain ⟨E,cs,G,H⟩:=h;exact F2.cons ⟨E,cs,r.mono B G,H⟩ ih
theorem Xn.keys (h:Xn r M l vs):vs.map (·.1)=l.map (·.1):=by
 induction h with
 | nil=>rfl
 | cons h _ ih=>rw [List.map_cons,List.map_cons,ih,h.1]
theorem Xn.length (h:Xn r M l vs):vs.length=l.length:=by
 have:=congrArg List.length h.keys
 simpa using this
theorem Xn.some (h:Xn r M l vs) {k:κ} {x:ν}:mget l k=some x→∃ cs,mget vs k=some (.agg cs.toArray)∧r.R M x cs:=by
 induction h with
 | nil=>intro h;cases h
 | @cons p q l vs h _ ih =>
  obtain ⟨a,u⟩:=p;obtain ⟨b,v⟩:=q;obtain ⟨rfl,cs,B,rfl⟩:=h;rw [Vd,Vd]
  by_cases c:a=k
  ·rw [if_pos c,if_pos c];intro e;cases e;exact ⟨cs,rfl,B⟩
  ·rw [if_neg c,if_neg c];exact ih
theorem Xn.none (h:Xn r M l vs) {k:κ}:mget l k=none↔mget vs k=none:=by
 rw [UY,UY,h.keys]
theorem Xn.isSome (h:Xn r M l vs) (k:κ):(mget vs k).isSome=(mget l k).isSome:=by
 rw [Bool.eq_iff_iff,KZ,KZ,h.keys]
theorem Xn.get (h:Xn r M l vs) (k:κ) {z:ν} {zc:List Value} (hz:r.R M z zc):∃ cs,r.R M ((mget l k).getD z) cs∧(mget vs k).getD (.agg zc.toArray)=.agg cs.toArray:=by
 cases hl:mget l k with
 | none=>rw [h.none.1 hl];exact ⟨zc,hz,rfl⟩
 | some x =>
  obtain ⟨cs,B,E⟩:=h.some hl;rw [B];exact ⟨cs,E,rfl⟩
theorem Xn.put (h:Xn r M l vs) (k:κ) {x:ν} {cs:List Value} (hx:r.R M x cs):Xn r M (mput l k x) (mput vs k (.agg cs.toArray)):=by
 induction h with
 | nil=>exact F2.cons ⟨rfl,cs,hx,rfl⟩ F2.nil
 | @cons p q l vs h hs ih =>
  obtain ⟨a,u⟩:=p;obtain ⟨b,v⟩:=q;obtain ⟨rfl,ds,B,rfl⟩:=h;rw [VN,VN]
  by_cases c:a=k
  ·rw [if_pos c,if_pos c];exact F2.cons ⟨rfl,cs,hx,rfl⟩ hs
  ·rw [if_neg c,if_neg c];exact F2.cons ⟨rfl,ds,B,rfl⟩ ih
theorem Xn.del (h:Xn r M l vs) (k:κ):Xn r M (mdel l k) (mdel vs k):=by
 induction h with
 | nil=>exact F2.nil
 | @cons p q l vs h hs ih =>
  obtain ⟨a,u⟩:=p;obtain ⟨b,v⟩:=q;obtain ⟨rfl,ds,B,rfl⟩:=h;rw [VR,VR]
  by_cases c:a=k
  ·rw [if_pos c,if_pos c];exact hs
  ·rw [if_neg c,if_neg c];exact F2.cons ⟨rfl,ds,B,rfl⟩ ih
end
abbrev er {κ:Type} [DecidableEq κ] (l:List κ) (y:κ):List κ:=@List.erase κ instBEqOfDecidableEq l y
theorem permE {κ:Type} [DecidableEq κ] {y:κ} {l:List κ} (h:y∈l):l.Perm (y::er l y):=List.perm_cons_erase h
theorem er_len {κ:Type} [DecidableEq κ] {y:κ} {l:List κ} (h:y∈l):(er l y).length=l.length-1:=List.length_erase_of_mem h
section
variable {κ ν:Type} [DecidableEq κ]
theorem KY {y z:κ} (hyz:y≠z) (a b:ν):∀ {s:List (κ×ν)},y∈s.map (·.1)→z∈s.map (·.1)→mput (mput s y a) z b=mput (mput s z b) y a
 | [],h,_=>by cases h
 | (c,u)::s,H,G=>by
  rw [VN,VN]
  by_cases B:c=y
  ·subst B
   have hz:z∈s.map (·.1):=by
    rcases List.mem_cons.1 G with h | h
    ·exact absurd h.symm hyz
    ·exact h
   rw [if_pos rfl,if_neg hyz,VN,VN,if_neg hyz,if_pos rfl]
  ·by_cases E:c=z
   ·subst E;rw [if_neg B,if_pos rfl,VN,VN,if_pos rfl,if_neg B]
   ·have hy:y∈s.map (·.1):=by
     rcases List.mem_cons.1 H with h | h
     ·exact absurd h.symm B
     ·exact h
    have hz:z∈s.map (·.1):=by
     rcases List.mem_cons.1 G with h | h
     ·exact absurd h.symm E
     ·exact h
    rw [if_neg B,if_neg E,VN,VN,if_neg E,if_neg B,KY hyz a b hy hz]
theorem JU {y z:κ} (hyz:y≠z) (b:ν):∀ {s:List (κ×ν)},z∈s.map (·.1)→mdel (mput s z b) y=mput (mdel s y) z b
 | [],h=>by cases h
 | (c,u)::s,h=>by
  rw [VN,VR]
  by_cases B:c=y
  ·subst B;rw [if_neg hyz,if_pos rfl,VR,if_pos rfl]
  ·by_cases E:c=z
   ·subst E;rw [if_pos rfl,if_neg B,VR,if_neg B,VN,if_pos rfl]
   ·have hz:z∈s.map (·.1):=by
     rcases List.mem_cons.1 h with h | h
     ·exact absurd h.symm E
     ·exact h
    rw [if_neg E,if_neg B,VR,if_neg B,VN,if_neg E,JU hyz b hz]
theorem Kb {y z:κ}:∀ s:List (κ×ν),mdel (mdel s y) z=mdel (mdel s z) y
 | []=>rfl
 | (c,u)::s=>by
  by_cases G:y=z
  ·subst G;rfl
  ·rw [VR,VR]
   by_cases B:c=y
   ·subst B;rw [if_pos rfl,if_neg G,VR,if_pos rfl]
   ·by_cases E:c=z
    ·subst E;rw [if_neg B,if_pos rfl,VR,if_pos rfl]
    ·rw [if_neg B,if_neg E,VR,VR,if_neg E,if_neg B,Kb s]
def stp (dead:ν→Bool) (y:κ) (r:ν) (s:List (κ×ν)):List (κ×ν):=if dead r=true then mdel (mput s y r) y else mput s y r
theorem qQ {y z:κ} (hyz:y≠z):∀ {s:List (κ×ν)},z∈s.map (·.1)→z∈(mdel s y).map (·.1)
 | [],h=>by cases h
 | (c,u)::s,h=>by
  rw [VR]
  by_cases B:c=y
  ·subst B;rw [if_pos rfl];rcases List.mem_cons.1 h with h | h
   ·exact absurd h.symm hyz
   ·exact h
  ·rw [if_neg B,List.map_cons];rcases List.mem_cons.1 h with h | h
   ·exact List.mem_cons.2 (.inl h)
   ·exact List.mem_cons.2 (.inr (qQ hyz h))
theorem QAh {dead:ν→Bool} {y:κ} {r:ν} {s:List (κ×ν)} (h:(s.map (·.1)).Nodup):((stp dead y r s).map (·.1)).Nodup:=by
 unfold stp
 split
 ·exact qx (UN h)
 ·exact UN h
theorem Kk {dead:ν→Bool} {y z:κ} (hyz:y≠z) {r:ν} {s:List (κ×ν)} (hy:y∈s.map (·.1)) (h:z∈s.map (·.1)):z∈(stp dead y r s).map (·.1):=by
 have B:z∈(mput s y r).map (·.1):=by rw [JT r hy];exact h
 unfold stp
 split
 ·exact qQ hyz B
 ·exact B
theorem QAL {dead:ν→Bool} {y z:κ} (hyz:y≠z) {r:ν} {s:List (κ×ν)} (hn:(s.map (·.1)).Nodup):mget (stp dead y r s) z=mget s z:=by
 unfold stp
 split
 ·rw [Ka (UN hn),if_neg hyz,Vx,if_neg hyz]
 ·rw [Vx,if_neg hyz]
theorem QAK {dead:ν→Bool} {y z:κ} (hyz:y≠z) {a b:ν} {s:List (κ×ν)} (hy:y∈s.map (·.1)) (hz:z∈s.map (·.1)) :
  stp dead z b (stp dead y a s)=(if dead b=true then fun t=>mdel t z else id) ((if dead a=true then fun t=>mdel t y else id) (mput (mput s y a) z b)):=by
 have B:z∈(mput s y a).map (·.1):=by rw [JT a hy];exact hz
 unfold stp
 cases dead a<;>cases dead b<;>simp only [Bool.false_eq_true,if_false,if_true,id]
 ·rw [JU hyz b B]
 ·rw [JU hyz b B]
theorem QBI {dead:ν→Bool} {y z:κ} (hyz:y≠z) {a b:ν} {s:List (κ×ν)} (hy:y∈s.map (·.1)) (hz:z∈s.map (·.1)):stp dead z b (stp dead y a s)=stp dead y a (stp dead z b s):=by
 rw [QAK hyz hy hz,QAK hyz.symm hz hy,KY hyz a b hy hz]
 cases dead a<;>cases dead b<;>simp only [Bool.false_eq_true,if_false,if_true,id]
 exact Kb _
theorem KX {R:Type} {z0:ν} {d1:∀ (y:κ) (l:List κ),Decidable (y∈l)} {one:List (κ×ν)→ν→Option ν} {dead:ν→Bool} (f:Nat→List (κ×ν)→List κ→Option R) (ex:List (κ×ν)→Option R) (hone:∀ s s' r,one s r=one s' r) (h0:∀ s t,f 0 s t=none)
  (V:∀ k s t,f (k+1) s t=onList t (ex s) (fun y t'=>Option.bind (Option.bind (one s ((mget s y).getD z0)) (fun r=>if y∈s.map (fun p=>p.1) then Option.bind (some (mput s y r)) (fun K=>Option.bind (if dead r=true then (if y ∉ t' then Option.bind (some (mdel K y)) (fun x=>some x) else none) else some K) (fun x=>some x)) else none)) (fun s'=>f k s' t'))) :
  ∀ {t t':List κ},t.Perm t'→t.Nodup→∀ (k:Nat) (s:List (κ×ν)),(s.map (·.1)).Nodup→(∀ y∈t,y∈s.map (·.1))→f k s t=f k s t':=by
 have E:∀ (k:Nat) (s:List (κ×ν)) (y:κ) (t:List κ),y ∉ t→y∈s.map (·.1)→f (k+1) s (y::t)=Option.bind (one s ((mget s y).getD z0)) (fun r=>f k (stp dead y r s) t):=fun k s y t hy hm=>by
  rw [V,VZ]
  cases one s ((mget s y).getD z0) with
  | none=>rfl
  | some r =>
   simp only [Option.bind_some];rw [if_pos hm];unfold stp
   cases dead r
   ·rfl
   ·simp only [if_true,if_pos hy];rfl
 intro t t' hp
 induction hp with
 | nil=>intros;rfl
 | @cons x l l' hp ih =>
  intro hn k s hs hm;have hn':=List.nodup_cons.1 hn;have hx:=hm x List.mem_cons_self
  cases k with
  | zero=>rw [h0,h0]
  | succ k =>
   rw [E k s x l hn'.1 hx,E k s x l' (fun h=>hn'.1 (hp.mem_iff.2 h)) hx]
   congr 1
   funext r
   exact ih hn'.2 k _ (QAh hs) (fun y hy=>Kk (fun e=>hn'.1 (by rw [e];exact hy)) hx (hm y (List.mem_cons_of_mem _ hy)))
 | swap x y l =>
  intro hn k s hs hm;have B:=List.nodup_cons.1 hn;have G:=List.nodup_cons.1 B.2;have hyx:y≠x:=fun e=>B.1 (by rw [e];exact List.mem_cons_self);have hyl:y ∉ l:=fun h=>B.1 (List.mem_cons_of_mem _ h);have hy:=hm y List.mem_cons_self;have hx:=hm x (List.mem_cons_of_mem _ List.mem_cons_self)
  have hxyl:x ∉ y::l:=fun h=>by
   rcases List.mem_cons.1 h with h | h
   ·exact hyx h.symm
   ·exact G.1 h
  cases k with
  | zero=>rw [h0,h0]
  | succ k =>
   rw [E k s y (x::l) B.1 hy,E k s x (y::l) hxyl hx]
   cases k with
   | zero =>
    have e:∀ {α:Type} (z:Option α) (g:α→List (κ×ν)) (t:List κ),(Option.bind z fun r=>f 0 (g r) t)=none:=fun z g t=>by cases z with
     | none=>rfl
     | some a=>exact h0 _ t
    rw [e,e]
   | succ k =>
    have W:∀ r,f (k+1) (stp dead y r s) (x::l)=Option.bind (one s ((mget s x).getD z0)) (fun q=>f k (stp dead x q (stp dead y r s)) l):=fun r=>by
     rw [E k _ x l G.1 (Kk hyx hy hx),QAL hyx hs,hone _ s]
    have Y:∀ r,f (k+1) (stp dead x r s) (y::l)=Option.bind (one s ((mget s y).getD z0)) (fun q=>f k (stp dead y q (stp dead x r s)) l):=fun r=>by
     rw [E k _ y l hyl (Kk hyx.symm hx hy),QAL hyx.symm hs,hone _ s]
    simp only [W,Y]
    cases one s ((mget s y).getD z0) with
    | none=>cases one s ((mget s x).getD z0)<;>rfl
    | some a =>
     cases one s ((mget s x).getD z0) with
     | none=>rfl
     | some b=>simp only [Option.bind_some];rw [QBI hyx hy hx]
 | trans H Z O U =>
  intro hn k s hs hm;rw [O hn k s hs hm,U (H.nodup_iff.1 hn) k s hs (fun y hy=>hm y (H.mem_iff.2 hy))]
end
section
variable {rn:Rd} {P:Program} {N:Nat} {ops:Array Oper} {Q:Post} {rest:List Oper} {ρ:Rho} {w:World} {M F:Hp} {Γ:List Asr} {x y:Operand} {ty:TypeId} {ps:String} {af:Array Edge}
variable {κ ν:Type} [DecidableEq κ] {enc:κ→Value} {encv:ν→Value} {l:List (κ×ν)} {A:Option Addr} {bi:Nat} {todo:List κ} {last:Option κ} {t kt vt t2:TypeId}
theorem KN (S:St w M F Γ) (i:Nat) (hi:Γ[i]?=some (RangeM enc encv A bi l todo last)) (hu:P.underlying t=some (.map kt vt)) (K:KeyT P kt enc) (k:κ) (hk:k ∉ todo) {l':List (κ×ν)} (hl':mdel l k=l')
  (hx:evR ρ x=.map (mb A)) (hy:evR ρ y=enc k) (C:∀ w',Ext w w'→St w' M F (Γ.set i (RangeM enc encv A bi l' todo none))→Wl rn P N ops Q rest ρ w'):Wl rn P N ops Q (⟨none,.call ⟨.builtin .delete,#[x,y],#[t,t2]⟩,ty,ps,af,none⟩::rest) ρ w:=by
 subst hl';obtain ⟨w',hr,hE,B⟩:=qG S i hi hu K k hk ty t2;refine QAc (.tuple #[]) rfl rfl (w':=w') ?_ hE (C w' hE B);simp only [execOp,resolve,invoke,builtin,List.map_toArray,List.map_cons,List.map_nil,hx,hy,Sem.run_bind,hr,Result.andThen_ok,Sem.run_pure]
end
end Go.Proofs.YtnjbjpaiepefoaaGreatDoor
