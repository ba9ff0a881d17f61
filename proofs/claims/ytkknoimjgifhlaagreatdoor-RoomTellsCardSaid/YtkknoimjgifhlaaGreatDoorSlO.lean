import Derived.Test.YtkknoimjgifhlaaGreatDoorSlM
namespace Go.Proofs.YtkknoimjgifhlaaGreatDoor
open Go
set_option linter.unusedVariables false
set_option linter.unusedSimpArgs false
set_option linter.unusedSectionVars false
section
variable {κ ν:Type} [DecidableEq κ]
theorem Vv {k:κ}:∀ (l:List κ) (i:Nat),findAt k l (i+1)=(findAt k l i).map (·+1)
 | [],_=>rfl
 | a::l,i=>by
  unfold findAt
  split
  ·rfl
  ·exact Vv l (i+1)
@[simp] theorem mget_nil (k:κ):mget ([]:List (κ×ν)) k=none:=rfl
theorem VB (a:κ) (u:ν) (l:List (κ×ν)) (k:κ):mget ((a,u)::l) k=if a=k then some u else mget l k:=by
 unfold mget
 simp only [List.map_cons,findAt]
 by_cases h:a=k
 ·simp only [if_pos h];rfl
 ·simp only [if_neg h,Vv]
  cases findAt k (l.map (·.1)) 0<;>rfl
@[simp] theorem mput_nil (k:κ) (v:ν):mput ([]:List (κ×ν)) k v=[(k,v)]:=rfl
theorem Xz (a:κ) (u:ν) (l:List (κ×ν)) (k:κ) (v:ν):mput ((a,u)::l) k v=if a=k then (k,v)::l else (a,u)::mput l k v:=by
 unfold mput
 simp only [List.map_cons,findAt]
 by_cases h:a=k
 ·simp only [if_pos h];rfl
 ·simp only [if_neg h,Vv]
  cases findAt k (l.map (·.1)) 0<;>rfl
@[simp] theorem mdel_nil (k:κ):mdel ([]:List (κ×ν)) k=[]:=rfl
theorem X4 (a:κ) (u:ν) (l:List (κ×ν)) (k:κ):mdel ((a,u)::l) k=if a=k then l else (a,u)::mdel l k:=by
 unfold mdel
 simp only [List.map_cons,findAt]
 by_cases h:a=k
 ·simp only [if_pos h];rfl
 ·simp only [if_neg h,Vv]
  cases findAt k (l.map (·.1)) 0<;>rfl
theorem VR (k j:κ) (v:ν):∀ l:List (κ×ν),mget (mput l k v) j=if k=j then some v else mget l j
 | []=>by simp [VB]
 | (a,u)::l=>by
  rw [Xz]
  by_cases h:a=k
  ·subst h
   rw [if_pos rfl,VB,VB]
   by_cases c:a=j<;>simp [c]
  ·rw [if_neg h,VB,VB,VR k j v l]
   by_cases c:a=j
   ·subst c
    rw [if_pos rfl,if_pos rfl,if_neg (Ne.symm h)]
   ·simp [c]
theorem V0 {k:κ}:∀ {l:List (κ×ν)},mget l k=none↔k ∉ l.map (·.1)
 | []=>by simp
 | (a,u)::l=>by
  rw [VB]
  by_cases h:a=k
  ·subst h;simp
  ·rw [if_neg h,V0 (l:=l)]
   simp [Ne.symm h]
theorem Jq {k:κ} {l:List (κ×ν)}:(mget l k).isSome=true↔k∈l.map (·.1):=by
 rw [← Decidable.not_iff_not,← V0]
 cases mget l k<;>simp
theorem JI {k:κ} {v:ν}:∀ {l:List (κ×ν)},mget l k=some v→(k,v)∈l
 | [],h=>by simp at h
 | (a,u)::l,h=>by
  rw [VB] at h
  by_cases c:a=k
  ·subst c;rw [if_pos rfl] at h;cases h;exact List.mem_cons_self
  ·rw [if_neg c] at h;exact List.mem_cons_of_mem _ (JI h)
theorem QAZ {l:List (κ×ν)} (hn:(l.map (·.1)).Nodup) {p:κ×ν} (hp:p∈l):mget l p.1=some p.2:=by
 obtain ⟨i,hi⟩:=List.mem_iff_getElem?.1 hp
 exact KA hn hi
theorem Vi {k:κ} {v:ν}:∀ {l:List (κ×ν)},(l.map (·.1)).Nodup→∀ p,p∈mput l k v↔p=(k,v)∨(p∈l∧p.1≠k)
 | [],_,p=>by simp
 | (a,u)::l,hn,p=>by
  simp only [List.map_cons,List.nodup_cons] at hn
  rw [Xz]
  by_cases h:a=k
  ·subst h
   rw [if_pos rfl]
   simp only [List.mem_cons]
   constructor
   ·rintro (h | h)
    ·exact .inl h
    ·refine .inr ⟨.inr h,fun e=>hn.1 (e ▸ List.mem_map_of_mem h)⟩
   ·rintro (h | ⟨h | h,hne⟩)
    ·exact .inl h
    ·subst h;exact absurd rfl hne
    ·exact .inr h
  ·rw [if_neg h]
   simp only [List.mem_cons,Vi hn.2]
   constructor
   ·rintro (h' | h' | ⟨h',h2⟩)
    ·subst h';exact .inr ⟨.inl rfl,h⟩
    ·exact .inl h'
    ·exact .inr ⟨.inr h',h2⟩
   ·rintro (h' | ⟨h' | h',h2⟩)
    ·exact .inr (.inl h')
    ·exact .inl h'
    ·exact .inr (.inr ⟨h',h2⟩)
theorem Kb {k:κ}:∀ {l:List (κ×ν)},(mdel l k).Sublist l
 | []=>List.Sublist.refl _
 | (a,u)::l=>by
  rw [X4]
  split
  ·exact List.sublist_cons_self _ _
  ·exact Kb.cons_cons _
theorem Vp {k:κ} {v:ν}:∀ {l:List (κ×ν)},(l.map (·.1)).Nodup→((mput l k v).map (·.1)).Nodup
 | [],_=>by simp
 | (a,u)::l,hn=>by
  have hn':=hn
  simp only [List.map_cons,List.nodup_cons] at hn
  rw [Xz]
  by_cases h:a=k
  ·subst h;rw [if_pos rfl];exact hn'
  ·rw [if_neg h]
   simp only [List.map_cons,List.nodup_cons]
   refine ⟨fun hm=>?_,Vp hn.2⟩
   obtain ⟨p,hp,he⟩:=List.mem_map.1 hm
   rcases (Vi hn.2 p).1 hp with rfl | ⟨h2,_⟩
   ·exact h he.symm
   ·exact hn.1 (he ▸ List.mem_map_of_mem h2)
theorem K7 {k:κ} {l:List (κ×ν)} (hn:(l.map (·.1)).Nodup):((mdel l k).map (·.1)).Nodup:=hn.sublist (Kb.map _)
theorem Jr {k j:κ}:∀ {l:List (κ×ν)},(l.map (·.1)).Nodup→mget (mdel l k) j=if k=j then none else mget l j
 | [],_=>by simp
 | (a,u)::l,hn=>by
  simp only [List.map_cons,List.nodup_cons] at hn
  rw [X4]
  by_cases h:a=k
  ·subst h
   rw [if_pos rfl,VB]
   by_cases c:a=j
   ·subst c;rw [if_pos rfl,V0.2 hn.1]
   ·rw [if_neg c,if_neg c]
  ·rw [if_neg h,VB,VB,Jr hn.2]
   by_cases c:a=j
   ·subst c;rw [if_pos rfl,if_pos rfl,if_neg (Ne.symm h)]
   ·simp [c]
theorem Uy {k:κ} {v:ν}:∀ l:List (κ×ν),(mput l k v).length=if (mget l k).isSome=true then l.length else l.length+1
 | []=>by simp
 | (a,u)::l=>by
  rw [Xz,VB]
  by_cases h:a=k
  ·simp [h]
  ·simp only [if_neg h,List.length_cons,Uy l]
   split<;>rfl
end
end Go.Proofs.YtkknoimjgifhlaaGreatDoor
