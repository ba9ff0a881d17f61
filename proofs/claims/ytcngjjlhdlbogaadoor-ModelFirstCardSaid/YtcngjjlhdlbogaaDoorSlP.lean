/-  Calls that are lent rows beside what they own; rows that are cleared; entries of maps. No program of its own. -/
import Derived.Test.YtcngjjlhdlbogaaDoorSlM
namespace Go.Proofs.YtcngjjlhdlbogaaDoor
open Go
set_option linter.unusedVariables false
set_option linter.unusedSimpArgs false
set_option linter.unusedSectionVars false
/-! ### The first one, and the others; or none -/
def onList {α β : Type} (l : List α) (a : β) (f : α → List α → β) : β := match l with
  | [] => a
  | x :: t => f x t
theorem onList_nil {α β : Type} (a : β) (f : α → List α → β) : onList ([] : List α) a f = a := rfl
theorem onList_cons {α β : Type} (x : α) (t : List α) (a : β) (f : α → List α → β) : onList (x :: t) a f = f x t := rfl
theorem OLe.onList {α β : Type} {l : List α} {a a' : Option β} {f f' : α → List α → Option β} (h : OLe a a') (k : ∀ x t, OLe (f x t) (f' x t)) : OLe (onList l a f) (onList l a' f') := by
  cases l with
  | nil => exact h
  | cons x t => exact k x t
/-! ### Calls -/
section
variable {rn : Rd} {P : Program} {N : Nat} {ops : Array Oper} {Q : Post} {rest : List Oper} {ρ : Rho} {w : World} {M F : Hp} {Δ Γ1 Γ2 : List Asr} {d : Nat} {T : TypeId} {ps : String} {af : Array Edge}
theorem Con.lentF {f : FuncId} {args : Array Value} {Φ : Value → Hp → List Asr → Prop} (C : ∀ h, Sats M Δ h → M.disj h → Con P f args (M.union h) Γ1 Φ) (fl : ∀ v M' Γ', Φ v M' Γ' → FlatG Γ') (S : St w M F (Δ ++ (Γ1 ++ Γ2))) :
    Calls P f args w fun e w' => ∃ v, e = .returned v ∧ ∃ M' Γ', Ext w w' ∧ St w' M F (Γ' ++ (Δ ++ Γ2)) ∧ Φ v M' Γ' := by
  obtain ⟨q, hq, d1, d2, d3, l1, l2, l3⟩ := S.ex
  obtain ⟨h, g0, hd0, e0, hs1, hs0⟩ := hq.split
  obtain ⟨g1, g, hd1, e1, hs2, hs3⟩ := hs0.split
  subst e1 e0
  have hhg := Hp.disj_union.1 hd0
  have d2' := Hp.disj_union.1 d2
  have d2'' := Hp.disj_union.1 d2'.2
  have d3' := Hp.disj_union.1 d3
  have d3'' := Hp.disj_union.1 d3'.2
  have hhw : h.le (Hp.of w) := Hp.le_trans (Hp.le_union_left _ _) l3
  have hg0w : (g1.union g).le (Hp.of w) := Hp.le_trans (Hp.le_union_right hd0) l3
  have hg1w : g1.le (Hp.of w) := Hp.le_trans (Hp.le_union_left _ _) hg0w
  have hgw : g.le (Hp.of w) := Hp.le_trans (Hp.le_union_right hd1) hg0w
  have S1 : St w (M.union h) (F.union g) Γ1 := ⟨g1, hs2.mono (Hp.le_union_left _ _), Hp.union_disj.2 ⟨Hp.disj_union.2 ⟨d1, d2''.2⟩, Hp.disj_union.2 ⟨Hp.disj_symm d3'.1, hhg.2⟩⟩, Hp.union_disj.2 ⟨d2''.1, hhg.1⟩, Hp.union_disj.2 ⟨d3''.1, Hp.disj_symm hd1⟩, Hp.union_le l1 hhw, Hp.union_le l2 hgw, hg1w⟩
  refine Calls.mono (C h hs1 d2'.1 w _ S1) ?_
  rintro e w' ⟨v, he, M', Γ', hM, hE, S', hΦ⟩
  refine ⟨v, he, M', Γ', hE, ?_, hΦ⟩
  obtain ⟨k, hk, k1, k2, k3, k4, k5, k6⟩ := S'.ex
  have low : ∀ {x y z : Hp}, x.disj y → z.le x → z.disj y := fun hx hz => Hp.disj_symm (Hp.disj_le (Hp.disj_symm hx) hz)
  have k3' := Hp.union_disj.1 k3
  have hMk : M.disj k := low k2 (Hp.le_trans (Hp.le_union_left _ _) hM)
  have hhk : h.disj k := low k2 (Hp.le_trans (Hp.le_union_right d2'.1) hM)
  have hall : Sats M (Δ ++ Γ2) (h.union g) := Sats.append hhg.2 hs1 hs3
  exact ⟨k.union (h.union g), Sats.append (Hp.disj_union.2 ⟨Hp.disj_symm hhk, Hp.disj_symm k3'.2⟩) (fl _ _ _ hΦ _ _ _ hk) hall, d1, Hp.disj_union.2 ⟨hMk, Hp.disj_union.2 ⟨d2'.1, d2''.2⟩⟩, Hp.disj_union.2 ⟨k3'.1, Hp.disj_union.2 ⟨d3'.1, d3''.2⟩⟩, Hp.le_trans (Hp.le_trans (Hp.le_union_left _ _) hM) k4, Hp.le_trans (Hp.le_union_left _ _) k5, Hp.union_le k6 (Hp.union_le (Hp.le_trans (Hp.le_trans (Hp.le_union_right d2'.1) hM) k4) (Hp.le_trans (Hp.le_union_right (Hp.disj_symm (Hp.disj_symm d3''.2))) k5))⟩
theorem W_callLF {f : FuncId} {as : List Operand} {ts : Array TypeId} {args : List Value} {Φ : Value → Hp → List Asr → Prop} (Fn : IsFn P f) (C : ∀ h, Sats M Δ h → M.disj h → Con P f args.toArray (M.union h) Γ1 Φ) (S : St w M F (Δ ++ (Γ1 ++ Γ2))) (ha : as.map (evR ρ) = args) (hd : Nat.blt d N = true) (fl : ∀ v M' Γ', Φ v M' Γ' → FlatG Γ')
    (K : ∀ v w' M' Γ', Ext w w' → St w' M F (Γ' ++ (Δ ++ Γ2)) → Φ v M' Γ' → Wl rn P N ops Q rest (upd ρ d v) w') : Wl rn P N ops Q (⟨some d, .call ⟨.value (.func f), as.toArray, ts⟩, T, ps, af, none⟩ :: rest) ρ w := by
  subst ha
  obtain ⟨fn, hf, hb, hn⟩ := Fn.ex
  refine Wl_call (R := fun v w' => ∃ M' Γ', Ext w w' ∧ St w' M F (Γ' ++ (Δ ++ Γ2)) ∧ Φ v M' Γ') rfl (x_call hf hb hn) (fun _ _ ⟨_, _, h, _⟩ => h) (Con.lentF C fl S) hd ?_
  rintro v w' ⟨M', Γ', hE, S', hΦ⟩
  exact K v w' M' Γ' hE S' hΦ
theorem W_callvLF {f : FuncId} {as : List Operand} {ts : Array TypeId} {args fs cap : List Value} {tt : Tmp} {Φ : Value → Hp → List Asr → Prop} (Fn : IsFn P f) (ht : ρ tt = .func (.func f) fs.toArray cap.toArray) (C : ∀ h, Sats M Δ h → M.disj h → Con P f args.toArray (M.union h) Γ1 Φ) (S : St w M F (Δ ++ (Γ1 ++ Γ2))) (ha : fs ++ as.map (evR ρ) ++ cap = args) (hd : Nat.blt d N = true) (fl : ∀ v M' Γ', Φ v M' Γ' → FlatG Γ')
    (K : ∀ v w' M' Γ', Ext w w' → St w' M F (Γ' ++ (Δ ++ Γ2)) → Φ v M' Γ' → Wl rn P N ops Q rest (upd ρ d v) w') : Wl rn P N ops Q (⟨some d, .call ⟨.value (.tmp tt), as.toArray, ts⟩, T, ps, af, none⟩ :: rest) ρ w := by
  subst ha
  obtain ⟨fn, hf, hb, hn⟩ := Fn.ex
  refine Wl_call (R := fun v w' => ∃ M' Γ', Ext w w' ∧ St w' M F (Γ' ++ (Δ ++ Γ2)) ∧ Φ v M' Γ') rfl (x_callv ht hf hb hn) (fun _ _ ⟨_, _, h, _⟩ => h) (Con.lentF C fl S) hd ?_
  rintro v w' ⟨M', Γ', hE, S', hΦ⟩
  exact K v w' M' Γ' hE S' hΦ
end
/-! ### A row's end is cleared -/
section
variable {rn : Rd} {P : Program} {N : Nat} {ops : Array Oper} {Q : Post} {rest : List Oper} {ρ : Rho} {w : World} {M F : Hp} {Γ : List Asr} {x y : Operand} {t e T : TypeId} {ps : String} {af : Array Edge} {g : Option (Nat × Bool)} {dst : Option Tmp} {bytes : Nat} {agg : Bool} {z : Value}
variable {α : Type} {r : Rep α} {l : List α} {A : Option Addr} {nn cc : Nat}
theorem cells_take {cs : List Value} (h : Cells r M l cs) {i : Nat} (hi : i ≤ l.length) : Cells r M (l.take i) (cs.take (i * r.sz)) := by
  have hle : i * r.sz ≤ l.length * r.sz := Nat.mul_le_mul_right _ hi
  refine ⟨by rw [List.length_take, List.length_take, h.1]; rw [Nat.min_eq_left hi, Nat.min_eq_left hle], fun j x hx => ?_⟩
  rw [List.getElem?_take] at hx
  split at hx
  · next hj =>
    obtain ⟨vs, h1, h2⟩ := h.2 j x hx
    refine ⟨vs, h1, fun q v hv => ?_⟩
    have hq : q < r.sz := by have := (List.getElem?_eq_some_iff.1 hv).1; rwa [r.len h1] at this
    have : (j + 1) * r.sz ≤ i * r.sz := Nat.mul_le_mul_right _ hj
    rw [Nat.add_mul, Nat.one_mul] at this
    rw [List.getElem?_take, if_pos (by omega)]
    exact h2 q v hv
  · cases hx
theorem W_rowclear {i : Int} (x0 : α) (S : St w M F Γ) (q : Nat) (hq : Γ[q]? = some (Row r e (.slice A nn cc) l)) (h0 : 0 ≤ i) (h1 : i ≤ (l.length : Int)) (hu : P.underlying t = some (.slice e)) (Ty : IsTy P e agg z r.sz bytes) (hz : z.cells.size = r.sz) (hsz : 0 < r.sz) (hR : ∀ M, r.R M x0 z.cells.toList) {l' : List α} (hl' : l.take i.toNat ++ List.replicate (l.length - i.toNat) x0 = l')
    (hx : evR ρ x = .slice (if cc = i.toNat then A else A.map (·.add (i.toNat * r.sz))) (nn - i.toNat) (cc - i.toNat))
    (K : ∀ w', Ext w w' → St w' M F (Γ.set q (Row r e (.slice A nn cc) l')) → Wl rn P N ops Q rest ρ w') : Wl rn P N ops Q (⟨none, .call ⟨.builtin .clear, #[x], #[t]⟩, T, ps, af, none⟩ :: rest) ρ w := by
  have key : ∃ w', (Builtin.clear_ #[t] T #[evR ρ x]).run P w = .ok (.tuple #[]) w' ∧ Ext w w' ∧ St w' M F (Γ.set q (Row r e (.slice A nn cc) l')) := by
    obtain ⟨h', ha, hle, hch⟩ := S.change q hq
    have hlen' : l'.length = l.length := by rw [← hl']; simp; omega
    have hrow := ha
    rcases ha with ⟨he, rfl⟩ | ⟨b, cap, cs, he, h2, h3, h4, h5, h9⟩
    · injection he with e1 e2 e3
      subst e1 e2 e3
      have hi0 : i.toNat = 0 := by simp at h1; omega
      have hl0 : l' = [] := by rw [← hl', hi0]; simp
      subst hl0
      refine ⟨w, ?_, Ext.refl w, ?_⟩
      · rw [hx, hi0]
        simp [Builtin.clear_, run_underlying hu, Result.andThen]
      · rw [set_self hq]; exact S
    · injection he with e1 e2 e3
      subst e1 e2 e3
      have hb : w.heap[b]? = some (.cells cs e (0, 0)) := Hp.of_get (hle _ _ h3)
      by_cases hn0 : l.length - i.toNat = 0
      · have hl0 : l' = l := by rw [← hl', hn0, List.take_of_length_le (by omega)]; simp
        subst hl0
        refine ⟨w, ?_, Ext.refl w, by rw [set_self hq]; exact S⟩
        rw [hx, hn0]
        by_cases hc : cc = i.toNat <;> simp [hc, Builtin.clear_, run_underlying hu, Result.andThen]
      · have hlt : i.toNat < l.length := by omega
        have hne : ¬ cc = i.toNat := by omega
        have hfl : (Builtin.zeroCells z.cells (l.length - i.toNat)).toList = (List.replicate (l.length - i.toNat) z.cells.toList).flatten := by
          rw [zeroCells_eq, made_toList z.cells (l.length - i.toNat) z.cells.size rfl (by omega)]
        have hCz := cells_replicate (hR M) (l.length - i.toNat)
        have hzl : (Builtin.zeroCells z.cells (l.length - i.toNat)).toList.length = (l.length - i.toNat) * r.sz := by rw [hfl, hCz.1, List.length_replicate]
        have hmul : i.toNat * r.sz + (l.length - i.toNat) * r.sz = l.length * r.sz := by rw [← Nat.add_mul]; congr 1; omega
        have hcapm : l.length * r.sz ≤ cc * r.sz := Nat.mul_le_mul_right _ h2
        obtain ⟨w', hr, hb', ho, hE⟩ := run_storeCells (P := P) (b := b) (off := 0 + i.toNat * r.sz) (t := e) (Builtin.zeroCells z.cells (l.length - i.toNat)).toList w cs 0 hb (fun v hv => hCz.ones v (by rw [← hfl]; exact hv)) (by rw [hzl, h4]; omega)
        refine ⟨w', ?_, hE, ?_⟩
        · rw [hx, if_neg hne]
          simp only [Builtin.clear_, List.getElem?_toArray, List.getElem?_cons_zero, Sem.run_bind, run_underlying hu, Result.andThen_ok, Option.map_some, addr_add]
          cases hm : l.length - i.toNat with
          | zero => omega
          | succ m =>
            rw [hm] at hr
            simp only [Sem.run_bind, Ty.zero, Result.andThen_ok, hr, Sem.run_pure]
        · refine hch w' _ (Hp.single b (.cells (over cs (0 + i.toNat * r.sz + 0) (Builtin.zeroCells z.cells (l.length - i.toNat)).toList) e (0, 0))) (.inr ⟨b, cc, over cs (0 + i.toNat * r.sz + 0) (Builtin.zeroCells z.cells (l.length - i.toNat)).toList, by rw [hlen'], by rw [hlen']; exact h2, by simp [Hp.single], by rw [over_size]; exact h4, ?_, h9⟩) (Hp.single_le.2 (Hp.of_mk hb')) (fun y o hy hn => ?_) (fun y o hy => ?_)
          · have e1 : (over cs (0 + i.toNat * r.sz + 0) (Builtin.zeroCells z.cells (l.length - i.toNat)).toList).toList.take (l'.length * r.sz) = (cs.toList.take (l.length * r.sz)).take (i.toNat * r.sz) ++ (List.replicate (l.length - i.toNat) z.cells.toList).flatten := by
              rw [hlen', ← hfl]
              apply List.ext_getElem?
              intro j
              simp only [Nat.zero_add, Nat.add_zero]
              have htl : ((cs.toList.take (l.length * r.sz)).take (i.toNat * r.sz)).length = i.toNat * r.sz := by
                have : cs.toList.length = cc * r.sz := by rw [Array.length_toList]; exact h4
                rw [List.length_take, List.length_take]; omega
              rw [List.getElem?_take, List.getElem?_append, htl, Array.getElem?_toList, over_get, List.getElem?_take, List.getElem?_take, Array.getElem?_toList, hzl]
              by_cases c1 : j < i.toNat * r.sz
              · have a1 : j < l.length * r.sz := by omega
                have a2 : ¬ (i.toNat * r.sz ≤ j ∧ j < i.toNat * r.sz + (l.length - i.toNat) * r.sz ∧ j < cs.size) := by omega
                simp only [a1, a2, c1, if_true, if_false]
                exact Array.getElem?_toList.symm
              · rw [if_neg c1]
                by_cases c2 : j < l.length * r.sz
                · rw [if_pos c2, if_pos (by omega)]
                · rw [if_neg c2]
                  symm
                  rw [← Array.getElem?_toList]
                  exact List.getElem?_eq_none (by rw [hzl]; omega)
            rw [e1, ← hl']
            exact (cells_take h5 (by omega)).append hCz
          · have hyb : y ≠ b := fun e => by subst e; rw [h3] at hn; cases hn
            exact (Hp.of_congr (ho y hyb)).trans hy
          · simp only [Hp.single] at hy
            split at hy
            · rename_i ey; subst ey; left; rw [h3]; simp
            · cases hy
  obtain ⟨w', hr, hE, S'⟩ := key
  refine Wl_val0 (.tuple #[]) rfl rfl (w' := w') ?_ hE (K w' hE S')
  simp only [execOp, resolve, invoke, builtin, List.map_toArray, List.map_cons, List.map_nil, Sem.run_bind, Sem.run_pure, Result.andThen_ok, hr]
end
/-! ### An entry of a map -/
def ment {κ ν : Type} [DecidableEq κ] (l : List (κ × ν)) (k : κ) (z : ν) : List (κ × ν) := if (mget l k).isSome = true then l else l ++ [(k, z)]
/-- A map; and its entry's stamp. -/
def MapE {κ ν : Type} (enc : κ → Value) (encv : ν → Value) (A : Option Addr) (l : List (κ × ν)) (k : κ) (n : Nat) : Asr :=
  ⟨fun _ h => ∃ (b p : Nat) (es : Array MapEntry) (clock : Nat), A = some ⟨b, 0, none⟩ ∧ h b = some (.map es clock) ∧ es.toList.map (fun e => (e.key, e.val)) = l.map (fun p => (enc p.1, encv p.2)) ∧ (es.toList.map fun e : MapEntry => e.born).Pairwise (fun a b : Nat => a < b) ∧ (∀ n ∈ es.toList.map (fun e : MapEntry => e.born), n < clock) ∧
    (l.map fun x : κ × ν => x.1)[p]? = some k ∧ (∀ q, q < p → (l.map fun x : κ × ν => x.1)[q]? ≠ some k) ∧ bornAt es p = n, fun _ h => h⟩
section
variable {rn : Rd} {P : Program} {N : Nat} {ops : Array Oper} {Q : Post} {rest : List Oper} {ρ : Rho} {w : World} {M F : Hp} {Γ : List Asr} {x y u s : Operand} {ty : TypeId} {ps : String} {af : Array Edge} {d : Nat}
variable {κ ν : Type} [DecidableEq κ] {enc : κ → Value} {encv : ν → Value} {l : List (κ × ν)} {A : Option Addr} {t kt vt : TypeId}
theorem findAt_first {k : κ} : ∀ {l : List κ} {i j : Nat}, findAt k l i = some j → ∀ q, i + q < j → l[q]? ≠ some k
  | [], _, _, h => by cases h
  | a :: l, i, j, h => by
    unfold findAt at h
    split at h
    · cases h; intro q hq; omega
    · next hne =>
      intro q hq
      cases q with
      | zero => simpa using hne
      | succ q => rw [List.getElem?_cons_succ]; exact findAt_first h q (by omega)
theorem findAt_not {k : κ} : ∀ {l : List κ} {i : Nat}, findAt k l i = none → k ∉ l
  | [], _, _ => List.not_mem_nil
  | a :: l, i, h => by
    unfold findAt at h
    split at h
    · cases h
    · next hne =>
      intro hm
      rcases List.mem_cons.1 hm with e | e
      · exact hne e.symm
      · exact findAt_not h e
theorem findAt_eq {k : κ} : ∀ {l : List κ} {p : Nat} (i : Nat), l[p]? = some k → (∀ q, q < p → l[q]? ≠ some k) → findAt k l i = some (i + p)
  | [], p, i, h, _ => by simp at h
  | a :: l, 0, i, h, _ => by simp at h; subst h; simp [findAt]
  | a :: l, p + 1, i, h, hf => by
    have hne : a ≠ k := fun e => hf 0 (by omega) (by simp [e])
    simp only [findAt, if_neg hne]
    rw [findAt_eq (p := p) (i + 1) (by simpa using h) (fun q hq => by have := hf (q + 1) (by omega); simpa using this)]
    congr 1; omega
theorem St.map_obj (S : St w M F Γ) (i : Nat) (hi : Γ[i]? = some (MapC enc encv A l)) : ∃ (b : Nat) (es : Array MapEntry) (clock : Nat), A = some ⟨b, 0, none⟩ ∧ w.heap[b]? = some (.map es clock) ∧ es.toList.map (fun e => (e.key, e.val)) = l.map (fun p => (enc p.1, encv p.2)) ∧ (es.toList.map fun e : MapEntry => e.born).Pairwise (fun a b : Nat => a < b) ∧ (∀ n ∈ es.toList.map (fun e : MapEntry => e.born), n < clock) ∧
    ∀ (es' : Array MapEntry) (clock' : Nat) (B : Asr), (∀ h : Hp, h b = some (.map es' clock') → B.sat M h) →
      (setObj b (.map es' clock')).run P w = .ok () { w with heap := w.heap.setIfInBounds b (.map es' clock') } ∧ St { w with heap := w.heap.setIfInBounds b (.map es' clock') } M F (Γ.set i B) ∧ Ext w { w with heap := w.heap.setIfInBounds b (.map es' clock') } := by
  obtain ⟨h1, ⟨b, he, es, clock, hb1, hm, hp, hc⟩, hle, hch⟩ := S.change i hi
  have hb : w.heap[b]? = some (.map es clock) := Hp.of_get (hle _ _ hb1)
  have hlt : b < w.heap.size := (Array.getElem?_eq_some_iff.1 hb).1
  refine ⟨b, es, clock, he, hb, hm, hp, hc, fun es' clock' B hB => ?_⟩
  have hb' : (w.heap.setIfInBounds b (.map es' clock'))[b]? = some (.map es' clock') := by simp [Array.getElem?_setIfInBounds, hlt]
  have hoth : ∀ c, c ≠ b → (w.heap.setIfInBounds b (.map es' clock'))[c]? = w.heap[c]? := fun c hcb => by
    rw [Array.getElem?_setIfInBounds, if_neg (fun e => hcb e.symm)]
  refine ⟨by simp [setObj, Sem.run, hb], ?_, ?_⟩
  · refine hch _ B (Hp.single b (.map es' clock')) (hB _ (by simp [Hp.single])) (Hp.single_le.2 (Hp.of_mk hb')) (fun y o hy hn => ?_) (fun y o hy => ?_)
    · have hyb : y ≠ b := fun e => by subst e; rw [hb1] at hn; cases hn
      exact (Hp.of_congr (hoth y hyb)).trans hy
    · simp only [Hp.single] at hy
      split at hy
      · rename_i ey; subst ey; left; rw [hb1]; simp
      · cases hy
  · refine ⟨rfl, rfl, rfl, by simp, fun c o hco hd => ?_, fun c r hcr => ?_, Nat.le_refl _⟩
    · by_cases e : c = b
      · subst e; rw [hb] at hco; cases hco; cases hd
      · exact (hoth c e).trans hco
    · by_cases e : c = b
      · subst e; rw [hb] at hcr; cases hcr
      · exact ⟨r, (hoth c e).trans hcr⟩
theorem run_mapEntry (S : St w M F Γ) (i : Nat) (hi : Γ[i]? = some (MapC enc encv A l)) (hu : P.underlying t = some (.map kt vt)) (K : KeyT P kt enc) (zv : ν) (hz : ∀ w : World, (zeroValue vt).run P w = .ok (encv zv) w) (k : κ) :
    ∃ (n : Nat) (w' : World), (Instr.mapEntry t (.map (mb A)) (enc k)).run P w = .ok (.tuple #[encv ((mget l k).getD zv), .int .i64 (n : Int)]) w' ∧ Ext w w' ∧ St w' M F (Γ.set i (MapE enc encv A (ment l k zv) k n)) := by
  obtain ⟨b, es, clock, rfl, hb, he, hp, hc, hset⟩ := S.map_obj (P := P) i hi
  have hf := find_map K he k w
  have hlen : es.size = l.length := by have := congrArg List.length he; simpa using this
  cases h1 : findAt k (l.map (·.1)) 0 with
  | none =>
    rw [h1] at hf
    have hg : mget l k = none := by unfold mget; rw [h1]; rfl
    have hme : ment l k zv = l ++ [(k, zv)] := by unfold ment; rw [hg]; rfl
    obtain ⟨hr, hS, hE⟩ := hset (es.push { key := enc k, val := encv zv, born := clock }) (clock + 1) (MapE enc encv (some ⟨b, 0, none⟩) (ment l k zv) k clock) (fun h hh => ⟨b, l.length, _, _, rfl, hh, by rw [hme]; simp [he], by
      simp only [Array.toList_push, List.map_append, List.map_cons, List.map_nil]
      rw [List.pairwise_append]
      exact ⟨hp, by simp, fun a ha c hcc => by simp at hcc; subst hcc; exact hc a ha⟩, by
      simp only [Array.toList_push, List.map_append, List.map_cons, List.map_nil, List.mem_append, List.mem_singleton]
      rintro n (h | h)
      · have := hc n h; omega
      · omega, by rw [hme]; simp, fun q hq hh2 => by
        rw [hme, List.map_append, List.getElem?_append_left (by simpa using hq)] at hh2
        exact findAt_not h1 (List.mem_of_getElem? hh2), by simp [bornAt, ← hlen]⟩)
    refine ⟨clock, _, ?_, hE, hS⟩
    simp [Instr.mapEntry, mb, run_underlying hu, getObj_map hb, K.chk, hf, Result.andThen, hr, hz, goInt, hg]
  | some j =>
    rw [h1] at hf
    obtain ⟨_, h2, hjk⟩ := findAt_lt h1
    simp only [Nat.sub_zero] at hjk
    have h3 : j < l.length := by simpa using h2
    have h4 : l[j]? = some l[j] := List.getElem?_eq_getElem h3
    have h6 : l[j].1 = k := by simpa [List.getElem?_map, h4] using hjk
    have hg : mget l k = some l[j].2 := by unfold mget; rw [h1, Option.bind_some, h4]; rfl
    have hme : ment l k zv = l := by unfold ment; rw [hg]; rfl
    have h7 : j < es.size := by omega
    have h8 : es[j]? = some es[j] := Array.getElem?_eq_getElem h7
    have h9 : (es[j]).key = enc k := by
      have := congrArg (fun z => z[j]?) (keys_of he)
      simpa [List.getElem?_map, h4, h8, h6] using this
    rw [Option.bind_some, h4] at hf
    have hml : (es.modify j fun e => { e with key := enc k }).toList = es.toList.modify j fun e => { e with key := enc k } := by simp
    have hsame : (es.modify j fun e => { e with key := enc k }) = es := by
      apply Array.ext_getElem?
      intro m
      rw [Array.getElem?_modify]
      split
      · next e => subst e; rw [h8]; simp [← h9]
      · rfl
    obtain ⟨hr, hS, hE⟩ := hset (es.modify j fun e => { e with key := enc k }) clock (MapE enc encv (some ⟨b, 0, none⟩) (ment l k zv) k es[j].born) (fun h hh => ⟨b, j, es, clock, rfl, by rw [← hsame]; exact hh, by rw [hme]; exact he, hp, hc, by rw [hme]; exact hjk, fun q hq => by rw [hme]; exact findAt_first h1 q (by omega), by simp [bornAt, h7]⟩)
    refine ⟨es[j].born, _, ?_, hE, hS⟩
    simp [Instr.mapEntry, mb, run_underlying hu, getObj_map hb, K.chk, hf, Result.andThen, h8, h9, Instr.keyThatStays, K.bits, hr, goInt, hg]
theorem ment_put (l : List (κ × ν)) (k : κ) (z v : ν) : mput (ment l k z) k v = mput l k v := by
  unfold ment
  cases h1 : findAt k (l.map (·.1)) 0 with
  | some j =>
    obtain ⟨_, h2, hjk⟩ := findAt_lt h1
    have h3 : j < l.length := by simpa using h2
    have : (mget l k).isSome = true := by unfold mget; rw [h1, Option.bind_some, List.getElem?_eq_getElem h3]; rfl
    rw [if_pos this]
  | none =>
    have : ¬ (mget l k).isSome = true := by unfold mget; rw [h1]; simp
    rw [if_neg this]
    have h2 : findAt k ((l ++ [(k, z)]).map (·.1)) 0 = some (0 + l.length) := findAt_eq 0 (by simp) (fun q hq hh => by
      rw [List.map_append, List.getElem?_append_left (by simpa using hq)] at hh
      exact findAt_not h1 (List.mem_of_getElem? hh))
    unfold mput
    rw [h2, h1, Nat.zero_add]
    apply List.ext_getElem?
    intro m
    rw [List.getElem?_set]
    by_cases e : l.length = m
    · subst e; simp
    · rw [if_neg e]
      rcases Nat.lt_or_gt_of_ne e with h | h
      · rw [List.getElem?_eq_none (by simp; omega), List.getElem?_eq_none (by simp; omega)]
      · rw [List.getElem?_append_left h, List.getElem?_append_left h]
theorem run_entryStore (S : St w M F Γ) (i : Nat) {k : κ} {n : Nat} (hi : Γ[i]? = some (MapE enc encv A l k n)) (v : ν) :
    ∃ w', (Instr.entryStore t (.map (mb A)) (.int .i64 (n : Int)) (encv v)).run P w = .ok () w' ∧ Ext w w' ∧ St w' M F (Γ.set i (MapC enc encv A (mput l k v))) := by
  obtain ⟨h1, ⟨b, p, es, clock, rfl, hb1, he, hp, hc, hpk, hfst, hbn⟩, hle, hch⟩ := S.change i hi
  have hb : w.heap[b]? = some (.map es clock) := Hp.of_get (hle _ _ hb1)
  have hlt : b < w.heap.size := (Array.getElem?_eq_some_iff.1 hb).1
  have hlen : es.size = l.length := by have := congrArg List.length he; simpa using this
  have hpl : p < l.length := by simpa using (List.getElem?_eq_some_iff.1 hpk).1
  have hpe : p < es.size := by omega
  have h4 : l[p]? = some l[p] := List.getElem?_eq_getElem hpl
  have h6 : l[p].1 = k := by simpa [List.getElem?_map, h4] using hpk
  have hfi : es.findIdx? (fun e => (e.born : Int) == (n : Int)) = some p := by
    rw [Array.findIdx?_eq_some_iff_getElem]
    refine ⟨hpe, ?_, fun j hj => ?_⟩
    · have : bornAt es p = es[p].born := by simp [bornAt, hpe]
      simp [← hbn, this]
    · have hje : j < es.size := by omega
      have e1 : bornAt es j = es[j].born := by simp [bornAt, hje]
      have hne : es[j].born ≠ n := fun h => by
        have := born_inj hp hje hpe (by rw [e1, h, hbn])
        omega
      simp; omega
  have hb' : (w.heap.setIfInBounds b (.map (es.modify p fun e => { e with val := encv v }) clock))[b]? = some (.map (es.modify p fun e => { e with val := encv v }) clock) := by simp [Array.getElem?_setIfInBounds, hlt]
  have hoth : ∀ c, c ≠ b → (w.heap.setIfInBounds b (.map (es.modify p fun e => { e with val := encv v }) clock))[c]? = w.heap[c]? := fun c hcb => by
    rw [Array.getElem?_setIfInBounds, if_neg (fun e => hcb e.symm)]
  have hml : (es.modify p fun e => { e with val := encv v }).toList = es.toList.modify p fun e => { e with val := encv v } := by simp
  have hbs : (es.modify p fun e => { e with val := encv v }).toList.map (·.born) = es.toList.map (·.born) := by
    rw [hml]
    apply List.ext_getElem?
    intro m
    simp only [List.getElem?_map]
    rw [List.getElem?_modify]
    cases hx : es.toList[m]? with
    | none => simp
    | some x => by_cases e : p = m <;> simp [e]
  have hmp : mput l k v = l.set p (k, v) := by
    unfold mput
    rw [findAt_eq 0 hpk hfst, Nat.zero_add]
  have hr : (setObj b (.map (es.modify p fun e => { e with val := encv v }) clock)).run P w = .ok () { w with heap := w.heap.setIfInBounds b (.map (es.modify p fun e => { e with val := encv v }) clock) } := by simp [setObj, Sem.run, hb]
  refine ⟨{ w with heap := w.heap.setIfInBounds b (.map (es.modify p fun e => { e with val := encv v }) clock) }, ?_, ⟨rfl, rfl, rfl, by simp, fun c o hco hd => ?_, fun c r hcr => ?_, Nat.le_refl _⟩, ?_⟩
  · simp [Instr.entryStore, mb, getObj_map hb, asInt, asIntOf, hfi, hr, Result.andThen]
  · by_cases e : c = b
    · subst e; rw [hb] at hco; cases hco; cases hd
    · exact (hoth c e).trans hco
  · by_cases e : c = b
    · subst e; rw [hb] at hcr; cases hcr
    · exact ⟨r, (hoth c e).trans hcr⟩
  · refine hch _ _ (Hp.single b (.map (es.modify p fun e => { e with val := encv v }) clock)) ⟨b, rfl, es.modify p fun e => { e with val := encv v }, clock, by simp [Hp.single], ?_, by rw [hbs]; exact hp, by rw [hbs]; exact hc⟩ (Hp.single_le.2 (Hp.of_mk hb')) (fun y o hy hn => ?_) (fun y o hy => ?_)
    · rw [hml, hmp]
      apply List.ext_getElem?
      intro m
      have hm := congrArg (fun z => z[m]?) he
      simp only [List.getElem?_map] at hm ⊢
      rw [List.getElem?_modify, List.getElem?_set]
      by_cases e : p = m
      · subst e
        have hk : es[p].key = enc k := by
          have := congrArg (fun z => z[p]?) (keys_of he)
          simpa [List.getElem?_map, h4, hpe, h6] using this
        simp [hpl, hpe, hk]
      · simp only [e, if_false, Option.map_eq_map, Option.map_map, Function.comp_def]
        exact hm
    · have hyb : y ≠ b := fun e => by subst e; rw [hb1] at hn; cases hn
      exact (Hp.of_congr (hoth y hyb)).trans hy
    · simp only [Hp.single] at hy
      split at hy
      · rename_i ey; subst ey; left; rw [hb1]; simp
      · cases hy
theorem W_mapEntry (S : St w M F Γ) (i : Nat) (hi : Γ[i]? = some (MapC enc encv A l)) (hu : P.underlying t = some (.map kt vt)) (K : KeyT P kt enc) (zv : ν) (hz : ∀ w : World, (zeroValue vt).run P w = .ok (encv zv) w) (k : κ) (hx : evR ρ x = .map (mb A)) (hy : evR ρ y = enc k) (hd : Nat.blt d N = true)
    (C : ∀ (n : Nat) w', Ext w w' → St w' M F (Γ.set i (MapE enc encv A (ment l k zv) k n)) → Wl rn P N ops Q rest (upd ρ d (.tuple #[encv ((mget l k).getD zv), .int .i64 (n : Int)])) w') : Wl rn P N ops Q (⟨some d, .mapEntry t x y, ty, ps, af, none⟩ :: rest) ρ w := by
  obtain ⟨n, w', hr, hE, S'⟩ := run_mapEntry S i hi hu K zv hz k
  refine Wl_val _ rfl rfl hd (w' := w') ?_ hE (C n w' hE S')
  simp only [execOp, hx, hy, Sem.run_bind, hr, Result.andThen_ok, Sem.run_pure]
theorem W_entryStore (S : St w M F Γ) (i : Nat) {k : κ} {n : Nat} {z : ν} (hi : Γ[i]? = some (MapE enc encv A (ment l k z) k n)) (v : ν) {l' : List (κ × ν)} (hl' : mput l k v = l') (hx : evR ρ x = .map (mb A)) (hs : evR ρ s = .int .i64 (n : Int)) (hv : evR ρ u = encv v)
    (C : ∀ w', Ext w w' → St w' M F (Γ.set i (MapC enc encv A l')) → Wl rn P N ops Q rest ρ w') : Wl rn P N ops Q (⟨none, .entryStore t x s u, ty, ps, af, none⟩ :: rest) ρ w := by
  obtain ⟨w', hr, hE, S'⟩ := run_entryStore (t := t) (P := P) S i hi v
  rw [ment_put, hl'] at S'
  refine Wl_unit rfl rfl (w' := w') ?_ hE (C w' hE S')
  simp only [execOp, hx, hs, hv, Sem.run_bind, hr, Result.andThen_ok, Sem.run_pure]
end
/-! ### A map, of which an entry may be there -/
/-- What the loads around `m[k]++` may count on, whether the entry has been put in or not. -/
def MapU {κ ν : Type} [DecidableEq κ] (enc : κ → Value) (encv : ν → Value) (A : Option Addr) (l : List (κ × ν)) (k : κ) (z : ν) : Asr :=
  ⟨fun M h => (MapC enc encv A l).sat M h ∨ (MapC enc encv A (ment l k z)).sat M h, fun _ h => h⟩
section
variable {P : Program} {w : World} {M F : Hp} {Γ : List Asr} {κ ν : Type} [DecidableEq κ] {enc : κ → Value} {encv : ν → Value} {l : List (κ × ν)} {A : Option Addr} {t kt vt ty : TypeId} {ρ : Rho} {x y : Operand} {ps : String} {af : Array Edge} {g : Option (Nat × Bool)} {dst : Option Tmp}
theorem St.mapUc (S : St w M F Γ) (i : Nat) (hi : Γ[i]? = some (MapC enc encv A l)) (k : κ) (z : ν) : St w M F (Γ.set i (MapU enc encv A l k z)) := by
  obtain ⟨h1, h, hle, hch⟩ := S.change i hi
  exact hch w _ h1 (.inl h) hle (fun c o h _ => h) (fun c o h => .inl (by rw [h]; simp))
theorem St.mapUe (S : St w M F Γ) (i : Nat) {k : κ} {z : ν} {n : Nat} (hi : Γ[i]? = some (MapE enc encv A (ment l k z) k n)) : St w M F (Γ.set i (MapU enc encv A l k z)) := by
  obtain ⟨h1, ⟨b, p, es, clock, he, hb1, hm, hp, hc, _⟩, hle, hch⟩ := S.change i hi
  exact hch w _ h1 (.inr ⟨b, he, es, clock, hb1, hm, hp, hc⟩) hle (fun c o h _ => h) (fun c o h => .inl (by rw [h]; simp))
theorem St.mapU_or (S : St w M F Γ) (i : Nat) {k : κ} {z : ν} (hi : Γ[i]? = some (MapU enc encv A l k z)) : St w M F (Γ.set i (MapC enc encv A l)) ∨ St w M F (Γ.set i (MapC enc encv A (ment l k z))) := by
  obtain ⟨h1, h, hle, hch⟩ := S.change i hi
  rcases h with h | h
  · exact .inl (hch w _ h1 h hle (fun c o h _ => h) (fun c o h => .inl (by rw [h]; simp)))
  · exact .inr (hch w _ h1 h hle (fun c o h _ => h) (fun c o h => .inl (by rw [h]; simp)))
theorem ment_get (l : List (κ × ν)) (k : κ) (z : ν) : (mget (ment l k z) k).getD z = (mget l k).getD z := by
  unfold ment
  split
  · rfl
  · next h =>
    have h1 : mget l k = none := by simpa using h
    have h0 : findAt k (l.map (·.1)) 0 = none := by
      unfold mget at h1
      cases hf : findAt k (l.map (·.1)) 0 with
      | none => rfl
      | some j =>
        obtain ⟨_, h2, _⟩ := findAt_lt hf
        have h3 : j < l.length := by simpa using h2
        rw [hf, Option.bind_some, List.getElem?_eq_getElem h3] at h1; cases h1
    have h2 : findAt k ((l ++ [(k, z)]).map (·.1)) 0 = some (0 + l.length) := findAt_eq 0 (by simp) (fun q hq hh => by
      rw [List.map_append, List.getElem?_append_left (by simpa using hq)] at hh
      exact findAt_not h0 (List.mem_of_getElem? hh))
    rw [h1]
    unfold mget
    rw [h2]
    simp
theorem x_lookupU (S : St w M F Γ) (i : Nat) {k : κ} {zv : ν} (hi : Γ[i]? = some (MapU enc encv A l k zv)) (hu : P.underlying t = some (.map kt vt)) (K : KeyT P kt enc) (hz : ∀ w : World, (zeroValue vt).run P w = .ok (encv zv) w)
    (hx : evR ρ x = .map (mb A)) (hy : evR ρ y = enc k) : (execOp (evR ρ) ⟨dst, .lookup t x y false, ty, ps, af, g⟩).run P w = .ok (.value (encv ((mget l k).getD zv))) w := by
  rcases S.mapU_or i hi with S' | S'
  · exact x_lookup S' i (set_get hi) hu K zv hz k hx hy
  · rw [← ment_get]
    exact x_lookup S' i (set_get hi) hu K zv hz k hx hy
end
/-! ### Loops over maps whose order does not matter -/
theorem perm_fold {κ σ R : Type} (f : Nat → σ → List κ → Option R) (ex : σ → Option R) (B : κ → σ → Option σ) (h0 : ∀ s t, f 0 s t = none) (h1 : ∀ k s t, f (k + 1) s t = onList t (ex s) (fun y t' => Option.bind (B y s) fun s' => f k s' t'))
    (hc : ∀ y z s, Option.bind (B y s) (B z) = Option.bind (B z s) (B y)) {t t' : List κ} (hp : t.Perm t') : ∀ (k : Nat) (s : σ), f k s t = f k s t' := by
  induction hp with
  | nil => intros; rfl
  | cons x _ ih =>
    intro k s
    cases k with
    | zero => rw [h0, h0]
    | succ k => rw [h1, h1, onList_cons, onList_cons]; exact congrArg _ (funext fun s' => ih k s')
  | swap x y l =>
    intro k s
    cases k with
    | zero => rw [h0, h0]
    | succ k =>
      rw [h1, h1, onList_cons, onList_cons]
      cases k with
      | zero =>
        have e : ∀ z : Option σ, ∀ t : List κ, (Option.bind z fun s' => f 0 s' t) = none := fun z t => by cases z with
          | none => rfl
          | some a => exact h0 a t
        rw [e, e]
      | succ k =>
        have e : ∀ a b : κ, (Option.bind (B a s) fun s' => f (k + 1) s' (b :: l)) = Option.bind (Option.bind (B a s) (B b)) fun s' => f k s' l := fun a b => by
          rw [Option.bind_assoc]
          exact congrArg _ (funext fun s' => by rw [h1, onList_cons])
        rw [e, e, hc]
  | trans _ _ ih1 ih2 => intro k s; rw [ih1, ih2]
end Go.Proofs.YtcngjjlhdlbogaaDoor
