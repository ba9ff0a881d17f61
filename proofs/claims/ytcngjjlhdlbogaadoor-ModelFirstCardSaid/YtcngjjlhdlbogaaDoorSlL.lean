/-  Ranges over maps of one's own, in whatever order. No program of its own. -/
import Derived.Test.YtcngjjlhdlbogaaDoorSlK
import Derived.Maps.RangeRun
namespace Go.Proofs.YtcngjjlhdlbogaaDoor
open Go
open Go.ChangeMaps (setBlock)
set_option linter.unusedVariables false
set_option linter.unusedSimpArgs false
set_option linter.unusedSectionVars false
/-- When an entry came. -/
def bornAt (es : Array MapEntry) (p : Nat) : Nat := ((es[p]?).map (·.born)).getD 0
/-- A map, and a loop over it: the places that it has met, one behind the other. -/
def RangeA {κ ν : Type} (enc : κ → Value) (encv : ν → Value) (A : Option Addr) (bi : Nat) (l : List (κ × ν)) (done : List Nat) : Asr :=
  ⟨fun _ h => ∃ (b : Nat) (es : Array MapEntry) (clock : Nat), A = some ⟨b, 0, none⟩ ∧ bi ≠ b ∧ h b = some (.map es clock) ∧ es.toList.map (fun e => (e.key, e.val)) = l.map (fun p => (enc p.1, encv p.2)) ∧ (es.toList.map fun e : MapEntry => e.born).Pairwise (fun a b : Nat => a < b) ∧ (∀ n ∈ es.toList.map (fun e : MapEntry => e.born), n < clock) ∧
    h bi = some (.mapIter (some b) clock (done.map (bornAt es)).toArray clock) ∧ (∀ p ∈ done, p < l.length), fun _ h => h⟩
section
variable {P : Program} {w : World} {M F : Hp} {Γ : List Asr} {κ ν : Type} [DecidableEq κ] {enc : κ → Value} {encv : ν → Value} {l : List (κ × ν)} {A : Option Addr} {bi : Nat} {done : List Nat} {t kt vt T : TypeId}
theorem born_inj {es : Array MapEntry} (hp : (es.toList.map (·.born)).Pairwise (· < ·)) {p q : Nat} (h1 : p < es.size) (h2 : q < es.size) (h : bornAt es p = bornAt es q) : p = q := by
  have e : ∀ i, (hi : i < es.size) → bornAt es i = (es.toList.map (·.born))[i]'(by simpa using hi) := fun i hi => by simp [bornAt, hi]
  rw [e p h1, e q h2] at h
  rcases Nat.lt_trichotomy p q with c | c | c
  · have := List.pairwise_iff_getElem.1 hp p q (by simpa using h1) (by simpa using h2) c; omega
  · exact c
  · have := List.pairwise_iff_getElem.1 hp q p (by simpa using h2) (by simpa using h1) c; omega
theorem not_contains {a : List Nat} {n : Nat} : a.toArray.contains n = false ↔ n ∉ a := by rw [← Bool.not_eq_true]; simp
theorem run_next (S : St w M F Γ) (i : Nat) (hi : Γ[i]? = some (RangeA enc encv A bi l done)) (T : TypeId) : ∃ w', Ext w w' ∧
    ((∃ p x, l[p]? = some x ∧ p ∉ done ∧ (Instr.next (.pointer (some ⟨bi, 0, none⟩)) false T).run P w = .ok (.tuple #[.bool true, enc x.1, encv x.2]) w' ∧ St w' M F (Γ.set i (RangeA enc encv A bi l (done ++ [p])))) ∨
     ((∀ p, p < l.length → p ∈ done) ∧ (Instr.next (.pointer (some ⟨bi, 0, none⟩)) false T).run P w = .ok (.tuple #[.bool false]) w' ∧ St w' M F (Γ.set i (RangeA enc encv A bi l done)))) := by
  obtain ⟨h1, ⟨b, es, clock, he, hne, hb1, hm, hp, hc, hi1, hd⟩, hle, hch⟩ := S.change i hi
  have hb : w.heap[b]? = some (.map es clock) := Hp.of_get (hle _ _ hb1)
  have hit : w.heap[bi]? = some (.mapIter (some b) clock (done.map (bornAt es)).toArray clock) := Hp.of_get (hle _ _ hi1)
  have hlen : es.size = l.length := by have := congrArg List.length hm; simpa using this
  have hold : ∀ x ∈ es.toList, x.born < clock := fun x hx => hc _ (List.mem_map_of_mem hx)
  rcases run_next_at (P := P) w T bi b clock clock (done.map (bornAt es)).toArray es clock hit hb hold (Nat.le_refl _) with ⟨h0, hrun⟩ | ⟨e, hel, w1, hw1, hrun⟩
  · refine ⟨w, Ext.refl w, .inr ⟨fun p hpl => ?_, hrun, ?_⟩⟩
    · apply Classical.byContradiction
      intro hnd
      have hpe : p < es.size := by omega
      have : es[p] ∈ (leftOf es (done.map (bornAt es)).toArray).toList := by
        unfold leftOf
        simp only [Array.toList_filter, List.mem_filter, Array.getElem_mem_toList, true_and]
        rw [Bool.not_eq_true', not_contains]
        intro hmem
        obtain ⟨q, hq, hb'⟩ := List.mem_map.1 hmem
        have hqe : q < es.size := by have := hd q hq; omega
        have hbp : bornAt es p = es[p].born := by simp [bornAt, hpe]
        exact hnd (born_inj hp hqe hpe (hb'.trans hbp.symm) ▸ hq)
      have h9 := List.length_pos_of_mem this
      rw [Array.length_toList, h0] at h9
      omega
    · have hsame : Γ.set i (RangeA enc encv A bi l done) = Γ := by
        apply List.ext_getElem?
        intro j
        rw [List.getElem?_set]
        split
        · next e => subst e; rw [hi]; have := (List.getElem?_eq_some_iff.1 hi).1; simp [this]
        · rfl
      rw [hsame]; exact S
  · have hel' := hel
    unfold leftOf at hel'
    simp only [Array.toList_filter, List.mem_filter] at hel'
    obtain ⟨hee, hns⟩ := hel'
    obtain ⟨p, hpl, hpe⟩ := List.mem_iff_getElem.1 hee
    have hpe' : p < es.size := by simpa using hpl
    have hpx : p < l.length := by omega
    have hbp : bornAt es p = e.born := by simp [bornAt, hpe', ← hpe]
    have hkv : (e.key, e.val) = (enc l[p].1, encv l[p].2) := by
      have := congrArg (fun z : List (Value × Value) => z[p]?) hm
      simpa [List.getElem?_map, hpe', hpx, hpe] using this
    have hnd : p ∉ done := fun hin => by
      rw [Bool.not_eq_true', not_contains] at hns
      exact hns (List.mem_map.2 ⟨p, hin, hbp⟩)
    have hw1h : w1.heap = w.heap := by rcases hw1 with rfl | rfl <;> rfl
    have hE1 : Ext w w1 := by rcases hw1 with rfl | rfl; exact Ext.refl _; exact Ext.drew _ _
    have hS1 := S.heap hw1h
    have hpush : (done.map (bornAt es)).toArray.push e.born = ((done ++ [p]).map (bornAt es)).toArray := by simp [hbp]
    have hlt : bi < w1.heap.size := by rw [hw1h]; exact (Array.getElem?_eq_some_iff.1 hit).1
    have hb' : (setBlock w1 bi (.mapIter (some b) clock ((done.map (bornAt es)).toArray.push e.born) clock)).heap[bi]? = some (.mapIter (some b) clock ((done ++ [p]).map (bornAt es)).toArray clock) := by
      rw [← hpush]; simp [setBlock, hlt]
    have hoth : ∀ c, c ≠ bi → (setBlock w1 bi (.mapIter (some b) clock ((done.map (bornAt es)).toArray.push e.born) clock)).heap[c]? = w.heap[c]? := fun c hcb => by
      rw [← hw1h]; simp only [setBlock]; rw [Array.getElem?_setIfInBounds, if_neg (fun e => hcb e.symm)]
    refine ⟨setBlock w1 bi (.mapIter (some b) clock ((done.map (bornAt es)).toArray.push e.born) clock), hE1.trans ⟨rfl, rfl, rfl, by simp [setBlock], fun c o hco hdf => ?_, fun c r hcr => ?_, Nat.le_refl _⟩, .inl ⟨p, l[p], List.getElem?_eq_getElem hpx, hnd, ?_, ?_⟩⟩
    · by_cases e9 : c = bi
      · subst e9; rw [hw1h, hit] at hco; cases hco; cases hdf
      · have h9 : w.heap[c]? = some o := by rw [← hw1h]; exact hco
        exact (hoth c e9).trans h9
    · by_cases e9 : c = bi
      · subst e9; rw [hw1h, hit] at hcr; cases hcr
      · have h9 : w.heap[c]? = some (.loop r) := by rw [← hw1h]; exact hcr
        exact ⟨r, (hoth c e9).trans h9⟩
    · have h7 : e.key = enc l[p].1 := congrArg Prod.fst hkv
      have h8 : e.val = encv l[p].2 := congrArg Prod.snd hkv
      rw [hrun, h7, h8]
    · refine hch _ _ (fun y => if y = bi then some (.mapIter (some b) clock ((done ++ [p]).map (bornAt es)).toArray clock) else h1 y) ⟨b, es, clock, he, hne, by simp [Ne.symm hne, hb1], hm, hp, hc, by simp, fun q hq => ?_⟩ (fun y o hy => ?_) (fun y o hy hn => ?_) (fun y o hy => ?_)
      · rcases List.mem_append.1 hq with hq | hq
        · exact hd q hq
        · simp at hq; omega
      · try simp only at hy
        split at hy
        · next e9 => subst e9; cases hy; exact Hp.of_mk hb'
        · next e9 => exact (Hp.of_congr (hoth y e9)).trans (hle _ _ hy)
      · have e9 : y ≠ bi := fun e9 => by subst e9; rw [hi1] at hn; cases hn
        exact (Hp.of_congr (hoth y e9)).trans hy
      · try simp only at hy
        split at hy
        · next e9 => subst e9; left; rw [hi1]; simp
        · left; rw [hy]; simp
/-- A loop over a map begins. -/
theorem run_range (S : St w M F Γ) (i : Nat) (hi : Γ[i]? = some (MapC enc encv A l)) (hu : P.underlying t = some (.map kt vt)) : ∃ bi w', (Instr.range t (.map (mb A))).run P w = .ok (.pointer (some ⟨bi, 0, none⟩)) w' ∧ Ext w w' ∧ St w' M F (Γ.set i (RangeA enc encv A bi l [])) := by
  obtain ⟨h1, ⟨b, rfl, es, clock, hb1, hm, hp, hc⟩, hle, hch⟩ := S.change i hi
  have hb : w.heap[b]? = some (.map es clock) := Hp.of_get (hle _ _ hb1)
  have hlt : b < w.heap.size := (Array.getElem?_eq_some_iff.1 hb).1
  have h1n : h1 w.heap.size = none := by
    cases e : h1 w.heap.size with
    | none => rfl
    | some o => have := Hp.of_lt (hle _ _ e); omega
  refine ⟨w.heap.size, w.alloc (.mapIter (some b) clock #[] clock), run_range_map w t kt vt b es clock hu hb, Ext.alloc _ _, ?_⟩
  have hnew := Hp.of_alloc_new w (.mapIter (some b) clock #[] clock)
  have hold := Hp.le_of_alloc w (.mapIter (some b) clock #[] clock)
  refine hch _ _ (fun y => if y = w.heap.size then some (.mapIter (some b) clock #[] clock) else h1 y) ⟨b, es, clock, rfl, by omega, by show (if b = w.heap.size then _ else h1 b) = _; rw [if_neg (by omega)]; exact hb1, hm, hp, hc, by simp, fun p hp => by cases hp⟩ (fun y o hy => ?_) (fun y o hy _ => hold _ _ hy) (fun y o hy => ?_)
  · try simp only at hy
    split at hy
    · next e => subst e; cases hy; exact hnew
    · exact hold _ _ (hle _ _ hy)
  · try simp only at hy
    split at hy
    · next e => right; omega
    · left; rw [hy]; simp
/-- A loop over a map is over. -/
theorem St.range_end (S : St w M F Γ) (i : Nat) (hi : Γ[i]? = some (RangeA enc encv A bi l done)) : St w M F (Γ.set i (MapC enc encv A l)) := by
  obtain ⟨h1, ⟨b, es, clock, he, hne, hb1, hm, hp, hc, _, _⟩, hle, hch⟩ := S.change i hi
  refine hch w _ (Hp.single b (.map es clock)) ⟨b, he, es, clock, by simp [Hp.single], hm, hp, hc⟩ (Hp.single_le.2 (hle _ _ hb1)) (fun c o h _ => h) (fun c o h => ?_)
  simp only [Hp.single] at h
  split at h
  · rename_i ec; subst ec; left; rw [hb1]; simp
  · cases h
/-- What a loop over a map has met last. -/
theorem run_entry (S : St w M F Γ) (i : Nat) {p : Nat} {x : κ × ν} (hi : Γ[i]? = some (RangeA enc encv A bi l (done ++ [p]))) (hx : l[p]? = some x) : (Instr.entry (.pointer (some ⟨bi, 0, none⟩))).run P w = .ok (.tuple #[enc x.1, encv x.2]) w := by
  obtain ⟨h1, ⟨b, es, clock, he, hne, hb1, hm, hp, hc, hi1, hd⟩, hle, hch⟩ := S.change i hi
  have hb : w.heap[b]? = some (.map es clock) := Hp.of_get (hle _ _ hb1)
  have hlen : es.size = l.length := by have := congrArg List.length hm; simpa using this
  have hpl : p < l.length := (List.getElem?_eq_some_iff.1 hx).1
  have hpe : p < es.size := by omega
  have hkv : (es[p].key, es[p].val) = (enc x.1, encv x.2) := by
    have := congrArg (fun z : List (Value × Value) => z[p]?) hm
    simpa [List.getElem?_map, hpe, hx] using this
  have hit : w.heap[bi]? = some (.mapIter (some b) clock ((done.map (bornAt es)).toArray.push es[p].born) clock) := by
    have h2 : ((done ++ [p]).map (bornAt es)).toArray = (done.map (bornAt es)).toArray.push es[p].born := by simp [bornAt, hpe]
    rw [← h2]; exact Hp.of_get (hle _ _ hi1)
  have hnd : (es.toList.map (·.born)).Nodup := hp.imp (fun h => by omega)
  have h7 : es[p].key = enc x.1 := congrArg Prod.fst hkv
  have h8 : es[p].val = encv x.2 := congrArg Prod.snd hkv
  rw [run_entry_at (P := P) w bi b clock (done.map (bornAt es)).toArray es clock es[p] hit hb (by simp) hnd, h7, h8]
end
/-! ### A map's copy -/
def IsClone (P : Program) (f : FuncId) : Prop := ∃ fn, P.funcs[f]? = some fn ∧ (fn.name == "runtime.NumGoroutine") = false ∧ fn.body.isNone = true ∧ Extern.findNext fn = none ∧ Extern.find fn = some Extern.MapsClone.clone
section
variable {rn : Rd} {P : Program} {N : Nat} {ops : Array Oper} {Q : Post} {rest : List Oper} {ρ : Rho} {w : World} {M F : Hp} {Γ : List Asr} {x : Operand} {mt ty : TypeId} {ts : Array TypeId} {ps : String} {af : Array Edge} {d : Nat} {f : FuncId}
variable {κ ν : Type} [DecidableEq κ] {enc : κ → Value} {encv : ν → Value} {l : List (κ × ν)} {A : Option Addr}
theorem W_mapsClone (X : IsClone P f) (S : St w M F Γ) (i : Nat) (hi : Γ[i]? = some (MapC enc encv A l)) (hx : evR ρ x = .iface mt (.map (mb A))) (hd : Nat.blt d N = true)
    (C : ∀ b w', Ext w w' → St w' M F (MapC enc encv (some ⟨b, 0, none⟩) l :: Γ) → Wl rn P N ops Q rest (upd ρ d (.iface mt (.map (mb (some ⟨b, 0, none⟩))))) w') : Wl rn P N ops Q (⟨some d, .call ⟨.value (.func f), #[x], ts⟩, ty, ps, af, none⟩ :: rest) ρ w := by
  obtain ⟨h1, ⟨b, rfl, es, clock, hb1, hm, hp, hc⟩, hle, _⟩ := S.change i hi
  have hb : w.heap[b]? = some (.map es clock) := Hp.of_get (hle _ _ hb1)
  have S2 : St (w.alloc (.map es clock)) M F (MapC enc encv (some ⟨w.heap.size, 0, none⟩) l :: Γ) := S.alloc (.map es clock) _ ⟨w.heap.size, rfl, es, clock, by simp [Hp.single], hm, hp, hc⟩
  refine Wl_val (.iface mt (.map (some w.heap.size))) rfl rfl hd (w' := w.alloc (.map es clock)) ?_ (Ext.alloc _ _) (C w.heap.size _ (Ext.alloc _ _) S2)
  obtain ⟨fn, h1, h2, h3, h4, h5⟩ := X
  have h := run_callFunc_extern h1 h2 h3 h4 h5 #[.iface mt (.map (some b))] w
  have hr : (Extern.MapsClone.clone #[.iface mt (.map (some b))]).run P w = .ok (.iface mt (.map (some w.heap.size))) (w.alloc (.map es clock)) := by
    have e : Extern.MapsClone.clone #[.iface mt (.map (some b))] = (do
      let .map entries clock ← getObj b | stuck "maps.clone: a map expected"
      pure (.iface mt (.map (some (← newObj (.map entries clock)))))) := rfl
    rw [e]
    simp [getObj_map hb, Result.andThen, run_newObj]
  rw [hr] at h
  simp only [Result.andThen] at h
  have e0 : evR ρ (.func f) = .func (.func f) #[] #[] := rfl
  simpa [execOp, resolve, invoke, Deferred.ofValue, e0, hx, mb] using h
theorem x_makeIfaceMap {v : Value} {kt vt : TypeId} {dst : Option Tmp} {g : Option (Nat × Bool)} (hu : P.underlying mt = some (.map kt vt)) (hx : evR ρ x = v) : (execOp (evR ρ) ⟨dst, .makeInterface mt x, ty, ps, af, g⟩).run P w = .ok (.value (.iface mt v)) w := by
  simp [execOp, Instr.makeInterface, run_underlying hu, Result.andThen, hx]
theorem x_assertMap {v : Value} {kt vt xt : TypeId} {dst : Option Tmp} {g : Option (Nat × Bool)} (hu : P.underlying mt = some (.map kt vt)) (hx : evR ρ x = .iface mt v) : (execOp (evR ρ) ⟨dst, .typeAssert x xt mt false, ty, ps, af, g⟩).run P w = .ok (.value v) w := by
  simp [execOp, Instr.typeAssert, run_underlying hu, Result.andThen, hx]
theorem x_mapEqNil {kt vt t' : TypeId} {y : Operand} {dst : Option Tmp} {g : Option (Nat × Bool)} {b : Nat} (hu : P.underlying mt = some (.map kt vt)) (hx : evR ρ x = .map (some b)) (hy : evR ρ y = .map none) : (execOp (evR ρ) ⟨dst, .binOp .eql mt x y t', ty, ps, af, g⟩).run P w = .ok (.value (.bool false)) w := by
  have h : ∀ d, (Op.equalIn (d + 1) mt (.map (some b)) (.map none)).run P w = .ok false w := fun d => by simp [Op.equalIn, run_underlying hu, Result.andThen]
  exact x_eq_of (r := false) (by rw [hx, hy]; rfl) (by rw [hx, hy]; rfl) (by rw [hx, hy]; exact h 9999)
theorem W_range {t kt vt : TypeId} (S : St w M F Γ) (i : Nat) (hi : Γ[i]? = some (MapC enc encv A l)) (hu : P.underlying t = some (.map kt vt)) (hx : evR ρ x = .map (mb A)) (hd : Nat.blt d N = true)
    (C : ∀ bi w', Ext w w' → St w' M F (Γ.set i (RangeA enc encv A bi l [])) → Wl rn P N ops Q rest (upd ρ d (.pointer (some ⟨bi, 0, none⟩))) w') : Wl rn P N ops Q (⟨some d, .range t x, ty, ps, af, none⟩ :: rest) ρ w := by
  obtain ⟨bi, w', hr, hE, S'⟩ := run_range S i hi hu
  refine Wl_val (.pointer (some ⟨bi, 0, none⟩)) rfl rfl hd (w' := w') ?_ hE (C bi w' hE S')
  simp only [execOp, hx, Sem.run_bind, hr, Result.andThen_ok, Sem.run_pure]
theorem W_next {bi : Nat} {done : List Nat} (S : St w M F Γ) (i : Nat) (hi : Γ[i]? = some (RangeA enc encv A bi l done)) (hx : evR ρ x = .pointer (some ⟨bi, 0, none⟩)) (hd : Nat.blt d N = true)
    (C1 : ∀ p y w', l[p]? = some y → p ∉ done → Ext w w' → St w' M F (Γ.set i (RangeA enc encv A bi l (done ++ [p]))) → Wl rn P N ops Q rest (upd ρ d (.tuple #[.bool true, enc y.1, encv y.2])) w')
    (C2 : ∀ w', (∀ p, p < l.length → p ∈ done) → Ext w w' → St w' M F (Γ.set i (RangeA enc encv A bi l done)) → Wl rn P N ops Q rest (upd ρ d (.tuple #[.bool false])) w') : Wl rn P N ops Q (⟨some d, .next x false, ty, ps, af, none⟩ :: rest) ρ w := by
  obtain ⟨w', hE, ⟨p, y, hp, hn, hr, S'⟩ | ⟨hall, hr, S'⟩⟩ := run_next (P := P) S i hi ty
  · refine Wl_val (.tuple #[.bool true, enc y.1, encv y.2]) rfl rfl hd (w' := w') ?_ hE (C1 p y w' hp hn hE S')
    simp only [execOp, hx, Sem.run_bind, hr, Result.andThen_ok, Sem.run_pure]
  · refine Wl_val (.tuple #[.bool false]) rfl rfl hd (w' := w') ?_ hE (C2 w' hall hE S')
    simp only [execOp, hx, Sem.run_bind, hr, Result.andThen_ok, Sem.run_pure]
theorem x_entry {bi : Nat} {done : List Nat} {p : Nat} {y : κ × ν} {dst : Option Tmp} {g : Option (Nat × Bool)} (S : St w M F Γ) (i : Nat) (hi : Γ[i]? = some (RangeA enc encv A bi l (done ++ [p]))) (hy : l[p]? = some y) (hx : evR ρ x = .pointer (some ⟨bi, 0, none⟩)) :
    (execOp (evR ρ) ⟨dst, .entry x, ty, ps, af, g⟩).run P w = .ok (.value (.tuple #[enc y.1, encv y.2])) w := by
  have := run_entry (P := P) S i hi hy
  simp only [execOp, hx, Sem.run_bind, this, Result.andThen_ok, Sem.run_pure]
end
/-! ### What a loop over a map has met when it is over -/
theorem done_perm {done : List Nat} {n : Nat} (hn : done.Nodup) (h1 : ∀ p ∈ done, p < n) (h2 : ∀ p, p < n → p ∈ done) : done.Perm (List.range n) :=
  (List.perm_ext_iff_of_nodup hn List.nodup_range).2 fun p => ⟨fun h => List.mem_range.2 (h1 p h), fun h => h2 p (List.mem_range.1 h)⟩
theorem map_range_get {α β : Type} (l : List α) (f : α → Option β) : (List.range l.length).filterMap (fun p => (l[p]?).bind f) = l.filterMap f := by
  induction l with
  | nil => rfl
  | cons a l ih =>
    rw [List.length_cons, List.range_succ_eq_map, List.filterMap_cons, List.filterMap_map]
    have e : ((fun p => ((a :: l)[p]?).bind f) ∘ Nat.succ) = fun p => (l[p]?).bind f := by funext p; simp
    rw [e, ih, List.filterMap_cons]
    simp
theorem met_perm {α β : Type} {l : List α} {done : List Nat} (f : α → Option β) (hn : done.Nodup) (h1 : ∀ p ∈ done, p < l.length) (h2 : ∀ p, p < l.length → p ∈ done) :
    (done.filterMap fun p => (l[p]?).bind f).Perm (l.filterMap f) := by
  rw [← map_range_get l f]
  exact (done_perm hn h1 h2).filterMap _
end Go.Proofs.YtcngjjlhdlbogaaDoor
