import Derived.Test.YtnjbjpaiepefoaaGreatDoorSlM
namespace Go.Proofs.YtnjbjpaiepefoaaGreatDoor
open Go
set_option linter.unusedVariables false
set_option linter.unusedSimpArgs false
set_option linter.unusedSectionVars false
section
variable {κ ν:Type} [DecidableEq κ]
theorem US {k:κ}:∀ (l:List κ) (i:Nat),findAt k l (i+1)=(findAt k l i).map (·+1)
 | [],_=>rfl
 | a::l,i=>by
  unfold findAt
  split
  ·rfl
  ·exact US l (i+1)
@[simp] theorem mget_nil (k:κ):mget ([]:List (κ×ν)) k=none:=rfl
theorem Vd (a:κ) (u:ν) (l:List (κ×ν)) (k:κ):mget ((a,u)::l) k=if a=k then some u else mget l k:=by
 unfold mget;simp only [List.map_cons,findAt]
 by_cases h:a=k
 ·simp only [if_pos h];rfl
 ·simp only [if_neg h,US]
  cases findAt k (l.map (·.1)) 0<;>rfl
@[simp] theorem mput_nil (k:κ) (v:ν):mput ([]:List (κ×ν)) k v=[(k,v)]:=rfl
theorem VN (a:κ) (u:ν) (l:List (κ×ν)) (k:κ) (v:ν):mput ((a,u)::l) k v=if a=k then (k,v)::l else (a,u)::mput l k v:=by
 unfold mput;simp only [List.map_cons,findAt]
 by_cases h:a=k
 ·simp only [if_pos h];rfl
 ·simp only [if_neg h,US]
  cases findAt k (l.map (·.1)) 0<;>rfl
@[simp] theorem mdel_nil (k:κ):mdel ([]:List (κ×ν)) k=[]:=rfl
theorem VR (a:κ) (u:ν) (l:List (κ×ν)) (k:κ):mdel ((a,u)::l) k=if a=k then l else (a,u)::mdel l k:=by
 unfold mdel;simp only [List.map_cons,findAt]
 by_cases h:a=k
 ·simp only [if_pos h];rfl
 ·simp only [if_neg h,US]
  cases findAt k (l.map (·.1)) 0<;>rfl
theorem Vx (k j:κ) (v:ν):∀ l:List (κ×ν),mget (mput l k v) j=if k=j then some v else mget l j
 | []=>by simp [Vd]
 | (a,u)::l=>by
  rw [VN]
  by_cases h:a=k
  ·subst h;rw [if_pos rfl,Vd,Vd]
   by_cases c:a=j<;>simp [c]
  ·rw [if_neg h,Vd,Vd,Vx k j v l]
   by_cases c:a=j
   ·subst c;rw [if_pos rfl,if_pos rfl,if_neg (Ne.symm h)]
   ·simp [c]
theorem UY {k:κ}:∀ {l:List (κ×ν)},mget l k=none↔k ∉ l.map (·.1)
 | []=>by simp
 | (a,u)::l=>by
  rw [Vd]
  by_cases h:a=k
  ·subst h;simp
  ·rw [if_neg h,UY (l:=l)];simp [Ne.symm h]
theorem KZ {k:κ} {l:List (κ×ν)}:(mget l k).isSome=true↔k∈l.map (·.1):=by
 rw [← Decidable.not_iff_not,← UY]
 cases mget l k<;>simp
theorem J4 {k:κ} {v:ν}:∀ {l:List (κ×ν)},mget l k=some v→(k,v)∈l
 | [],h=>by simp at h
 | (a,u)::l,h=>by
  rw [Vd] at h
  by_cases c:a=k
  ·subst c;rw [if_pos rfl] at h;cases h;exact List.mem_cons_self
  ·rw [if_neg c] at h;exact List.mem_cons_of_mem _ (J4 h)
theorem QBP {l:List (κ×ν)} (hn:(l.map (·.1)).Nodup) {p:κ×ν} (hp:p∈l):mget l p.1=some p.2:=by
 obtain ⟨i,hi⟩:=List.mem_iff_getElem?.1 hp;exact Kw hn hi
theorem UE {k:κ} {v:ν}:∀ {l:List (κ×ν)},(l.map (·.1)).Nodup→∀ p,p∈mput l k v↔p=(k,v)∨(p∈l∧p.1≠k)
 | [],_,p=>by simp
 | (a,u)::l,hn,p=>by
  simp only [List.map_cons,List.nodup_cons] at hn;rw [VN]
  by_cases h:a=k
  ·subst h;rw [if_pos rfl];simp only [List.mem_cons]
   constructor
   ·rintro (h | h)
    ·exact .inl h
    ·refine .inr ⟨.inr h,fun e=>hn.1 (e ▸ List.mem_map_of_mem h)⟩
   ·rintro (h | ⟨h | h,hne⟩)
    ·exact .inl h
    ·subst h;exact absurd rfl hne
    ·exact .inr h
  ·rw [if_neg h];simp only [List.mem_cons,UE hn.2]
   constructor
   ·rintro (B | B | ⟨B,E⟩)
    ·subst B;exact .inr ⟨.inl rfl,h⟩
    ·exact .inl B
    ·exact .inr ⟨.inr B,E⟩
   ·rintro (B | ⟨B | B,E⟩)
    ·exact .inr (.inl B)
    ·exact .inl B
    ·exact .inr (.inr ⟨B,E⟩)
theorem qR {k:κ}:∀ {l:List (κ×ν)},(mdel l k).Sublist l
 | []=>List.Sublist.refl _
 | (a,u)::l=>by
  rw [VR]
  split
  ·exact List.sublist_cons_self _ _
  ·exact qR.cons_cons _
theorem UN {k:κ} {v:ν}:∀ {l:List (κ×ν)},(l.map (·.1)).Nodup→((mput l k v).map (·.1)).Nodup
 | [],_=>by simp
 | (a,u)::l,hn=>by
  have hn':=hn;simp only [List.map_cons,List.nodup_cons] at hn;rw [VN]
  by_cases h:a=k
  ·subst h;rw [if_pos rfl];exact hn'
  ·rw [if_neg h];simp only [List.map_cons,List.nodup_cons];refine ⟨fun hm=>?_,UN hn.2⟩;obtain ⟨p,hp,B⟩:=List.mem_map.1 hm;rcases (UE hn.2 p).1 hp with rfl | ⟨E,_⟩
   ·exact h B.symm
   ·exact hn.1 (B ▸ List.mem_map_of_mem E)
theorem qx {k:κ} {l:List (κ×ν)} (hn:(l.map (·.1)).Nodup):((mdel l k).map (·.1)).Nodup:=hn.sublist (qR.map _)
theorem Ka {k j:κ}:∀ {l:List (κ×ν)},(l.map (·.1)).Nodup→mget (mdel l k) j=if k=j then none else mget l j
 | [],_=>by simp
 | (a,u)::l,hn=>by
  simp only [List.map_cons,List.nodup_cons] at hn;rw [VR]
  by_cases h:a=k
  ·subst h;rw [if_pos rfl,Vd]
   by_cases c:a=j
   ·subst c;rw [if_pos rfl,UY.2 hn.1]
   ·rw [if_neg c,if_neg c]
  ·rw [if_neg h,Vd,Vd,Ka hn.2]
   by_cases c:a=j
   ·subst c;rw [if_pos rfl,if_pos rfl,if_neg (Ne.symm h)]
   ·simp [c]
theorem Je {k:κ} {v:ν}:∀ l:List (κ×ν),(mput l k v).length=if (mget l k).isSome=true then l.length else l.length+1
 | []=>by simp
 | (a,u)::l=>by
  rw [VN,Vd]
  by_cases h:a=k
  ·simp [h]
  ·simp only [if_neg h,List.length_cons,Je l]
   split<;>rfl
end
end Go.Proofs.YtnjbjpaiepefoaaGreatDoor
