import Derived.Test.YtcngjjlhdlbogaaDoorSlM
namespace Go.Proofs.YtcngjjlhdlbogaaDoor
open Go
set_option linter.unusedVariables false
set_option linter.unusedSimpArgs false
set_option linter.unusedSectionVars false
section
variable {κ ν:Type} [DecidableEq κ]
theorem findAt_succ {k:κ}:∀ (l:List κ) (i:Nat),findAt k l (i+1)=(findAt k l i).map (·+1)
 | [],_=>rfl
 | a::l,i=>by
  unfold findAt
  split
  ·rfl
  ·exact findAt_succ l (i+1)
@[simp] theorem mget_nil (k:κ):mget ([]:List (κ×ν)) k=none:=rfl
theorem mget_cons (a:κ) (u:ν) (l:List (κ×ν)) (k:κ):mget ((a,u)::l) k=if a=k then some u else mget l k:=by
 unfold mget
 simp only [List.map_cons,findAt]
 by_cases h:a=k
 ·simp only [if_pos h];rfl
 ·simp only [if_neg h,findAt_succ]
  cases findAt k (l.map (·.1)) 0<;>rfl
@[simp] theorem mput_nil (k:κ) (v:ν):mput ([]:List (κ×ν)) k v=[(k,v)]:=rfl
theorem mput_cons (a:κ) (u:ν) (l:List (κ×ν)) (k:κ) (v:ν):mput ((a,u)::l) k v=if a=k then (k,v)::l else (a,u)::mput l k v:=by
 unfold mput
 simp only [List.map_cons,findAt]
 by_cases h:a=k
 ·simp only [if_pos h];rfl
 ·simp only [if_neg h,findAt_succ]
  cases findAt k (l.map (·.1)) 0<;>rfl
@[simp] theorem mdel_nil (k:κ):mdel ([]:List (κ×ν)) k=[]:=rfl
theorem mdel_cons (a:κ) (u:ν) (l:List (κ×ν)) (k:κ):mdel ((a,u)::l) k=if a=k then l else (a,u)::mdel l k:=by
 unfold mdel
 simp only [List.map_cons,findAt]
 by_cases h:a=k
 ·simp only [if_pos h];rfl
 ·simp only [if_neg h,findAt_succ]
  cases findAt k (l.map (·.1)) 0<;>rfl
theorem mget_mput (k j:κ) (v:ν):∀ l:List (κ×ν),mget (mput l k v) j=if k=j then some v else mget l j
 | []=>by simp [mget_cons]
 | (a,u)::l=>by
  rw [mput_cons]
  by_cases h:a=k
  ·subst h
   rw [if_pos rfl,mget_cons,mget_cons]
   by_cases c:a=j<;>simp [c]
  ·rw [if_neg h,mget_cons,mget_cons,mget_mput k j v l]
   by_cases c:a=j
   ·subst c
    rw [if_pos rfl,if_pos rfl,if_neg (Ne.symm h)]
   ·simp [c]
theorem mget_none {k:κ}:∀ {l:List (κ×ν)},mget l k=none↔k ∉ l.map (·.1)
 | []=>by simp
 | (a,u)::l=>by
  rw [mget_cons]
  by_cases h:a=k
  ·subst h;simp
  ·rw [if_neg h,mget_none (l:=l)]
   simp [Ne.symm h]
theorem mget_some {k:κ} {l:List (κ×ν)}:(mget l k).isSome=true↔k∈l.map (·.1):=by
 rw [← Decidable.not_iff_not,← mget_none]
 cases mget l k<;>simp
theorem mget_mem {k:κ} {v:ν}:∀ {l:List (κ×ν)},mget l k=some v→(k,v)∈l
 | [],h=>by simp at h
 | (a,u)::l,h=>by
  rw [mget_cons] at h
  by_cases c:a=k
  ·subst c;rw [if_pos rfl] at h;cases h;exact List.mem_cons_self
  ·rw [if_neg c] at h;exact List.mem_cons_of_mem _ (mget_mem h)
theorem mput_mem {k:κ} {v:ν}:∀ {l:List (κ×ν)},(l.map (·.1)).Nodup→∀ p,p∈mput l k v↔p=(k,v)∨(p∈l∧p.1≠k)
 | [],_,p=>by simp
 | (a,u)::l,hn,p=>by
  simp only [List.map_cons,List.nodup_cons] at hn
  rw [mput_cons]
  by_cases h:a=k
  ·subst h
   rw [if_pos rfl]
   simp only [List.mem_cons]
   constructor
   ·rintro (h | h)
    ·exact .inl h
    ·refine .inr ⟨.inr h,fun e=>hn.1 (e ▸ List.mem_map_of_mem h)⟩
   ·rintro (h | ⟨h | h,hne⟩)
    ·exact .inl h
    ·subst h;exact absurd rfl hne
    ·exact .inr h
  ·rw [if_neg h]
   simp only [List.mem_cons,mput_mem hn.2]
   constructor
   ·rintro (h' | h' | ⟨h',h2⟩)
    ·subst h';exact .inr ⟨.inl rfl,h⟩
    ·exact .inl h'
    ·exact .inr ⟨.inr h',h2⟩
   ·rintro (h' | ⟨h' | h',h2⟩)
    ·exact .inr (.inl h')
    ·exact .inl h'
    ·exact .inr (.inr ⟨h',h2⟩)
theorem mdel_sub {k:κ}:∀ {l:List (κ×ν)},(mdel l k).Sublist l
 | []=>List.Sublist.refl _
 | (a,u)::l=>by
  rw [mdel_cons]
  split
  ·exact List.sublist_cons_self _ _
  ·exact mdel_sub.cons_cons _
theorem mput_nodup {k:κ} {v:ν}:∀ {l:List (κ×ν)},(l.map (·.1)).Nodup→((mput l k v).map (·.1)).Nodup
 | [],_=>by simp
 | (a,u)::l,hn=>by
  have hn':=hn
  simp only [List.map_cons,List.nodup_cons] at hn
  rw [mput_cons]
  by_cases h:a=k
  ·subst h;rw [if_pos rfl];exact hn'
  ·rw [if_neg h]
   simp only [List.map_cons,List.nodup_cons]
   refine ⟨fun hm=>?_,mput_nodup hn.2⟩
   obtain ⟨p,hp,he⟩:=List.mem_map.1 hm
   rcases (mput_mem hn.2 p).1 hp with rfl | ⟨h2,_⟩
   ·exact h he.symm
   ·exact hn.1 (he ▸ List.mem_map_of_mem h2)
theorem mdel_nodup {k:κ} {l:List (κ×ν)} (hn:(l.map (·.1)).Nodup):((mdel l k).map (·.1)).Nodup:=hn.sublist (mdel_sub.map _)
theorem mget_mdel {k j:κ}:∀ {l:List (κ×ν)},(l.map (·.1)).Nodup→mget (mdel l k) j=if k=j then none else mget l j
 | [],_=>by simp
 | (a,u)::l,hn=>by
  simp only [List.map_cons,List.nodup_cons] at hn
  rw [mdel_cons]
  by_cases h:a=k
  ·subst h
   rw [if_pos rfl,mget_cons]
   by_cases c:a=j
   ·subst c;rw [if_pos rfl,mget_none.2 hn.1]
   ·rw [if_neg c,if_neg c]
  ·rw [if_neg h,mget_cons,mget_cons,mget_mdel hn.2]
   by_cases c:a=j
   ·subst c;rw [if_pos rfl,if_pos rfl,if_neg (Ne.symm h)]
   ·simp [c]
theorem mput_length {k:κ} {v:ν}:∀ l:List (κ×ν),(mput l k v).length=if (mget l k).isSome=true then l.length else l.length+1
 | []=>by simp
 | (a,u)::l=>by
  rw [mput_cons,mget_cons]
  by_cases h:a=k
  ·simp [h]
  ·simp only [if_neg h,List.length_cons,mput_length l]
   split<;>rfl
end
end Go.Proofs.YtcngjjlhdlbogaaDoor
