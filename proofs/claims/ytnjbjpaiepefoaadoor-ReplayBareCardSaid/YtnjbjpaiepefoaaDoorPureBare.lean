import Derived.Test.YtnjbjpaiepefoaaDoorPureCfg
namespace Go.Proofs.YtnjbjpaiepefoaaDoor
open Go Go.RowKit
set_option linter.unusedVariables false
set_option linter.unusedSimpArgs false
set_option maxRecDepth 100000
theorem index_run {P:Nat → QG → Option Bool} {p:QG → Bool} {a:List QG} {F:Nat → Int → Option (Int ⊕ Unit)} (hP:∀ k x,P k x = some (p x))
  (hF:∀ k i,F (k + 1) i = (if (decide (i < (a.length:Int))) = true then (if 0 ≤ i ∧ i < (a.length:Int) then (Option.bind (P k (rd a i)) (fun t=>(if t = true then some (.inl i) else F k (IntKind.i64.wrap (i + (1:Int)))))) else none) else some (.inr ()))) (ha:a.length ≤ 9000) :
  ∀ (n k i:Nat),i + n = a.length → n < k → F k (i:Int) = some (if (a.drop i).any p = true then .inl ((i + ((a.drop i).takeWhile fun x=>!p x).length:Nat):Int) else .inr ()):=by
 intro n
 induction n with
 | zero =>
  intro k i hi hk
  obtain ⟨k,rfl⟩:∃ q,k = q + 1:=⟨k - 1,by omega⟩
  rw [hF,if_neg (by simp; omega),List.drop_of_length_le (by omega)]; rfl
 | succ n ih =>
  intro k i hi hk
  obtain ⟨k,rfl⟩:∃ q,k = q + 1:=⟨k - 1,by omega⟩
  have hlt:i < a.length:=by omega
  rw [hF,if_pos (by simpa using hlt),if_pos (inR hlt),hP,Option.bind_some,List.drop_eq_getElem_cons hlt,rdN hlt]
  cases hp:p a[i]
  ·rw [if_neg (by simp),wr1 (by omega),ih k (i + 1) (by omega) (by omega)]
   rw [List.takeWhile_cons_of_pos (by simp [hp]),List.any_cons,hp,Bool.false_or]
   congr 1
   split
   ·congr 1
    simp only [List.length_cons]; omega
   ·rfl
  ·rw [if_pos rfl,List.any_cons,hp,Bool.true_or,if_pos rfl,List.takeWhile_cons_of_neg (by simp [hp])]; rfl
theorem del_run {P:Nat → QG → Option Bool} {p:QG → Bool} {F:Nat → List QG → Int → Int → Option (List QG × Int)} (hP:∀ k x,P k x = some (p x))
  (hF:∀ k s w r,F (k + 1) s w r = (if (decide (r < (s.length:Int))) = true then (Option.bind (α:=List QG × Int) (if 0 ≤ r ∧ r < (s.length:Int) then (Option.bind (P k (rd s r)) (fun t=>(Option.bind (α:=List QG × Int) (if (!t) = true then (if 0 ≤ w ∧ w < (s.length:Int) then (Option.bind (α:=List QG) (some (List.set s w.toNat (rd s r))) (fun x=>some (x,(IntKind.i64.wrap (w + (1:Int)))))) else none) else some (s,w)) (fun ⟨a,b⟩=>some (a,b))))) else none) (fun ⟨a,b⟩=>F k a b (IntKind.i64.wrap (r + (1:Int))))) else some (s,w)))
  {a:List QG} (ha:a.length ≤ 9000):∀ (n k r w:Nat) (s:List QG),r + n = a.length → n < k → w ≤ r → s.length = a.length → s.take w = (a.take r).filter (fun x=>!p x) → s.drop r = a.drop r →
   ∃ (s':List QG) (w':Nat),F k s (w:Int) (r:Int) = some (s',(w':Int)) ∧ s'.length = a.length ∧ w' ≤ a.length ∧ s'.take w' = a.filter (fun x=>!p x):=by
 intro n
 induction n with
 | zero =>
  intro k r w s hr hk hw hl ht hd
  obtain ⟨k,rfl⟩:∃ q,k = q + 1:=⟨k - 1,by omega⟩
  refine ⟨s,w,by rw [hF,if_neg (by simp; omega)],hl,by omega,?_⟩
  rw [ht,List.take_of_length_le (by omega)]
 | succ n ih =>
  intro k r w s hr hk hw hl ht hd
  obtain ⟨k,rfl⟩:∃ q,k = q + 1:=⟨k - 1,by omega⟩
  have hlt:r < s.length:=by omega
  have hlt':r < a.length:=by omega
  have hsr:s[r] = a[r]:=by
   have:=congrArg (fun z:List QG=>z[0]?) hd
   simpa [List.getElem?_drop,List.getElem?_eq_getElem hlt,List.getElem?_eq_getElem hlt'] using this
  have htk:(a.take (r + 1)).filter (fun x=>!p x) = (a.take r).filter (fun x=>!p x) ++ if p a[r] = true then [] else [a[r]]:=by
   rw [List.take_add_one,List.filter_append,List.getElem?_eq_getElem hlt']
   cases hp:p a[r] <;> simp [hp]
  rw [hF,if_pos (by simpa using hlt),if_pos (inR hlt),hP,Option.bind_some,rdN hlt,hsr]
  cases hp:p a[r]
  ·rw [if_pos (by rfl),if_pos (by omega),Option.bind_some,Option.bind_some,Option.bind_some]
   dsimp only
   rw [wr1 (by omega),wr1 (by omega)]
   have hwl:w < s.length:=by omega
   refine ih k (r + 1) (w + 1) _ (by omega) (by omega) (by omega) (by simpa using hl) ?_ ?_
   ·rw [htk,hp,← ht]
    have:((w:Int)).toNat = w:=by omega
    rw [this,List.take_add_one,List.getElem?_set_self hwl,List.take_set_of_le (Nat.le_refl _)]
    simp
   ·have:((w:Int)).toNat = w:=by omega
    rw [this,List.drop_set_of_lt (by omega)]
    have:=congrArg (List.drop 1) hd
    rw [List.drop_drop,List.drop_drop] at this
    exact this
  ·rw [if_neg (by simp),Option.bind_some,Option.bind_some]
   dsimp only
   rw [wr1 (by omega)]
   refine ih k (r + 1) w _ (by omega) (by omega) (by omega) hl ?_ ?_
   ·rw [htk,hp,ht]; simp
   ·have:=congrArg (List.drop 1) hd
    rw [List.drop_drop,List.drop_drop] at this
    exact this
theorem tw_split (p:QG → Bool):∀ a:List QG,a.any p = true → ∃ j,(a.takeWhile fun x=>!p x).length = j ∧ ∃ h:j < a.length,p a[j] = true ∧ (a.take j).filter (fun x=>!p x) = a.take j
 | [],h=>by cases h
 | x :: a,h=>by
  cases hp:p x
  ·rw [List.any_cons,hp,Bool.false_or] at h
   obtain ⟨j,h1,h2,h3,h4⟩:=tw_split p a h
   refine ⟨j + 1,by rw [List.takeWhile_cons_of_pos (by simp [hp]),List.length_cons,h1],by simp only [List.length_cons]; omega,by simpa using h3,?_⟩
   rw [List.take_succ_cons,List.filter_cons_of_pos (by simp [hp]),h4]
  ·exact ⟨0,by rw [List.takeWhile_cons_of_neg (by simp [hp])]; rfl,by simp,by simpa using hp,rfl⟩
theorem del_all {P:Nat → QG → Option Bool} {p:QG → Bool} {F1:Nat → Int → Option (Int ⊕ Unit)} {F:Nat → List QG → Int → Int → Option (List QG × Int)} (hP:∀ k x,P k x = some (p x)) {a:List QG}
  (hF1:∀ k i,F1 (k + 1) i = (if (decide (i < (a.length:Int))) = true then (if 0 ≤ i ∧ i < (a.length:Int) then (Option.bind (P k (rd a i)) (fun t=>(if t = true then some (.inl i) else F1 k (IntKind.i64.wrap (i + (1:Int)))))) else none) else some (.inr ())))
  (hF:∀ k s w r,F (k + 1) s w r = (if (decide (r < (s.length:Int))) = true then (Option.bind (α:=List QG × Int) (if 0 ≤ r ∧ r < (s.length:Int) then (Option.bind (P k (rd s r)) (fun t=>(Option.bind (α:=List QG × Int) (if (!t) = true then (if 0 ≤ w ∧ w < (s.length:Int) then (Option.bind (α:=List QG) (some (List.set s w.toNat (rd s r))) (fun x=>some (x,(IntKind.i64.wrap (w + (1:Int)))))) else none) else some (s,w)) (fun ⟨a,b⟩=>some (a,b))))) else none) (fun ⟨a,b⟩=>F k a b (IntKind.i64.wrap (r + (1:Int))))) else some (s,w)))
  (ha:a.length ≤ 9000) {k:Nat} (hk:9000 < k) :
  (Option.bind (Option.bind (F1 k (0:Int)) (fun o=>Sum.elim (fun r'=>some r') (fun _=>some (-1:Int)) o)) (fun t1=>(if (t1 == (-1:Int)) = true then some a else (Option.bind (F k a t1 (IntKind.i64.wrap (t1 + (1:Int)))) (fun ⟨x,y⟩=>(if 0 ≤ y ∧ y ≤ (x.length:Int) then (Option.bind (α:=List QG) (some (List.take y.toNat x ++ List.replicate (x.length - y.toNat) (⟨0,0,0,⟨0,false,[],[]⟩⟩:QG))) (fun z=>(if 0 ≤ y ∧ y ≤ (z.length:Int) then some (List.take y.toNat z) else none))) else none)))))) = some (a.filter fun x=>!p x):=by
 have h1:=index_run hP hF1 ha a.length k 0 (by omega) (by omega)
 rw [show ((0:Nat):Int) = 0 from rfl,List.drop_zero] at h1
 rw [h1,Option.bind_some]
 by_cases hany:a.any p = true
 ·rw [if_pos hany]
  obtain ⟨j,hj,hjl,hpj,hall⟩:=tw_split p a hany
  rw [hj]
  rw [Nat.zero_add]
  simp only [Sum.elim_inl,Option.bind_some]
  rw [if_neg (by simp),wr1 (by omega)]
  obtain ⟨s',w',e1,e2,e3,e4⟩:=del_run hP hF ha (a.length - (j + 1)) k (j + 1) j a (by omega) (by omega) (by omega) rfl (by
   rw [List.take_add_one,List.filter_append,hall,List.getElem?_eq_getElem hjl]; simp [hpj]) rfl
  rw [e1,Option.bind_some]
  dsimp only
  have ew:((w':Int)).toNat = w':=by omega
  rw [if_pos (by omega),if_pos (by simp only [List.length_append,List.length_take,List.length_replicate]; omega),ew]
  rw [List.take_append_of_le_length (by simp; omega),List.take_take,Nat.min_self,e4]
 ·rw [if_neg hany]
  simp only [Sum.elim_inr,Option.bind_some]
  rw [if_pos (by decide)]
  congr 1
  symm
  rw [List.filter_eq_self]
  intro x hx
  cases hp:p x
  ·rfl
  ·exact absurd (List.any_eq_true.2 ⟨x,hx,hp⟩) hany
def bareL (l:List QG):List QG:=l.filter fun x=>!(x.What == 2)
theorem own_id (k:Nat) {e:QG} (h:e.Answer.Pairs.length ≤ 4398046511104):XT k e = some e:=by
 simp only [XT,Zl]
 rw [if_pos (by simp; omega)]; rfl
theorem owned_l0_eq (l:List QG) (hl:l.length ≤ 9000) (hA:∀ e ∈ l,e.Answer.Pairs.length ≤ 4398046511104):∀ (j i:Nat) (out:List QG),i + j = l.length → out.length = i → ∀ k,j < k → XI l k out (i:Int) = some (out ++ l.drop i):=by
 intro j
 induction j with
 | zero =>
  intro i out hi ho k hk
  obtain ⟨k,rfl⟩:∃ q,k = q + 1:=⟨k - 1,by omega⟩
  rw [XI.eq_2,if_neg (by simp; omega),List.drop_of_length_le (by omega),List.append_nil]
 | succ j ih =>
  intro i out hi ho k hk
  obtain ⟨k,rfl⟩:∃ q,k = q + 1:=⟨k - 1,by omega⟩
  have hlt:i < l.length:=by omega
  rw [XI.eq_2,if_pos (by simpa using hlt),if_pos (inR hlt),rdN hlt,own_id _ (hA _ (List.getElem_mem hlt)),Option.bind_some,if_pos (by simp; omega),wr1 (by omega),ih (i + 1) _ (by omega) (by simp; omega) k (by omega),List.drop_eq_getElem_cons hlt]
  simp
theorem Bare_ev (l:List QG) (hl:l.length ≤ 9000) (hA:∀ e ∈ l,e.Answer.Pairs.length ≤ 4398046511104):Ev (fun k=>XW k l) (bareL l):=by
 refine ⟨10000,fun k hk=>?_⟩
 show XW k l = _
 have h:XI l k [] (0:Int) = some l:=owned_l0_eq l hl hA l.length 0 [] (by omega) rfl k (by omega)
 unfold XW Qn ZD Xk
 rw [h,Option.bind_some,Option.bind_some]
 have g:=del_all (P:=Ys) (p:=fun x=>x.What == 2) (fun _ _=>rfl) (F1:=Q7 l) (fun _ _=>rfl) (F:=Qz) (fun _ _ _ _=>rfl) hl (k:=k) (by omega)
 rw [g]; rfl
end Go.Proofs.YtnjbjpaiepefoaaDoor
