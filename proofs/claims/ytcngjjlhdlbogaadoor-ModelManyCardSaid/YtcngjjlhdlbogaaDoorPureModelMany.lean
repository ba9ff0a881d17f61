/-  The plain law ModelMany. -/
import Derived.Test.YtcngjjlhdlbogaaDoorPureRun
import Derived.Test.YtcngjjlhdlbogaaDoorOpnm1
import Derived.Test.YtcngjjlhdlbogaaDoorGm1LModelMany
namespace Go.Proofs.YtcngjjlhdlbogaaDoor
open Go Go.RowKit
set_option linter.unusedVariables false
set_option linter.unusedSimpArgs false
set_option maxRecDepth 100000
def wgt (r : model_row) : Int := (r.l.length : Int) + (if r.intent.Writer ≠ 0 then 1 else 0)
def down (l : List Ver) : Prop := l.Pairwise fun a b => b.TS < a.TS
structure RowOk (c : api_Config) (clk : Int) (r : model_row) : Prop where
  lv : gone r = false
  dp : wgt r ≤ c.Depth
  dn : down r.l
  ts : ∀ v ∈ r.l, v.TS ≤ clk
structure Good (m : Mod) : Prop where
  ky : (m.rows.length : Int) ≤ m.c.Keys
  rw_ : ∀ p ∈ m.rows, RowOk m.c m.clock p.2
  ac : (activeN m : Int) ≤ m.c.Active
  ck : m.clock ≤ m.c.TS
  fl : m.floor ≤ m.clock
theorem gone_iff {r : model_row} : gone r = true ↔ r.l = [] ∧ r.intent.Writer = 0 := by
  simp [gone, List.length_eq_zero_iff]
theorem wgt_pos {r : model_row} (h : gone r = false) : 1 ≤ wgt r := by
  unfold wgt
  by_cases c : r.intent.Writer = 0
  · have : r.l ≠ [] := fun e => by
      have := gone_iff.2 ⟨e, c⟩
      rw [h] at this; cases this
    have := List.length_pos_iff.2 this
    simp [c]; omega
  · simp [c]; omega
theorem filter_set {l : List model_tx} {i : Nat} {x : model_tx} (hx : x.state ≠ 1) : ((l.set i x).filter fun x => decide (x.state = 1)).length ≤ (l.filter fun x => decide (x.state = 1)).length := by
  induction l generalizing i with
  | nil => simp
  | cons a l ih =>
    cases i with
    | zero =>
      simp only [List.set_cons_zero, List.filter_cons, hx, decide_false, Bool.false_eq_true, if_false]
      split <;> simp
    | succ i =>
      simp only [List.set_cons_succ, List.filter_cons]
      have := ih (i := i)
      split <;> simp <;> omega
theorem floorL_le : ∀ (l : List model_tx) (f : Int), floorL l f ≤ f
  | [], f => Int.le_refl _
  | x :: t, f => by
    unfold floorL
    refine Int.le_trans (floorL_le t _) ?_
    split
    · unfold imin; split <;> omega
    · exact Int.le_refl _
theorem kept_sub (l : List Ver) (f : Int) : (kept l f).Sublist l := by rw [kept_take]; exact List.take_sublist _ _
theorem RowOk.end_ {c : api_Config} {clk clk' : Int} {w ts : Int} {r : model_row} (h : RowOk c clk r) (hw : w ≠ 0) (h0 : clk ≤ clk') (ht : ts > 0 → ts = clk + 1 ∧ clk' = clk + 1) (hg : gone (endRow w ts r) = false) : RowOk c clk' (endRow w ts r) := by
  refine ⟨hg, ?_, ?_, ?_⟩
  · have := h.dp
    unfold endRow; unfold wgt at this ⊢
    by_cases e : r.intent.Writer = w
    · subst e
      simp only [ne_eq, hw, not_false_eq_true, if_true, not_true_eq_false, if_false] at this ⊢
      split <;> simp <;> omega
    · simp only [ne_eq, e, not_false_eq_true, if_true]; exact this
  · unfold endRow
    split
    · exact h.dn
    · split
      · next g =>
        refine List.pairwise_cons.2 ⟨fun b hb => ?_, h.dn⟩
        have := h.ts b hb
        have := ht g
        show b.TS < ts; omega
      · exact h.dn
  · unfold endRow
    split
    · intro v hv; have := h.ts v hv; omega
    · split
      · next g =>
        intro v hv
        rcases List.mem_cons.1 hv with rfl | hv
        · have := ht g; show ts ≤ clk'; omega
        · have := h.ts v hv; omega
      · intro v hv; have := h.ts v hv; omega
theorem Good.end_ {m : Mod} (G : Good m) {w st ts : Int} (hw : w ≠ 0) (hs : st ≠ 1) (ht : ¬ ts > 0) : Good (endS m w st ts) where
  ky := by have := G.ky; have h := eachS_len (endRow w ts) m.rows; show ((eachS (endRow w ts) m.rows).length : Int) ≤ m.c.Keys; omega
  rw_ := fun q hq => by
    obtain ⟨p, hp, hg, rfl⟩ := eachS_mem.1 hq
    exact (G.rw_ p hp).end_ hw (Int.le_refl _) (fun g => absurd g ht) hg
  ac := by
    have := G.ac
    have h := filter_set (l := m.txs) (i := (w - 1).toNat) (x := ⟨st, (rd m.txs (w - 1)).snapshot⟩) hs
    have : (activeN (endS m w st ts) : Int) ≤ (activeN m : Int) := by unfold activeN; show ((_ : Nat) : Int) ≤ ((_ : Nat) : Int); exact Int.ofNat_le.2 h
    show (activeN (endS m w st ts) : Int) ≤ m.c.Active; omega
  ck := G.ck
  fl := G.fl
theorem Good.end' {m : Mod} (G : Good m) {w st : Int} (hw : w ≠ 0) (hs : st ≠ 1) (hc : m.clock ≠ m.c.TS) : Good (endS { m with clock := m.clock + 1 } w st (m.clock + 1)) where
  ky := by have := G.ky; have h := eachS_len (endRow w (m.clock + 1)) m.rows; show ((eachS (endRow w (m.clock + 1)) m.rows).length : Int) ≤ m.c.Keys; omega
  rw_ := fun q hq => by
    obtain ⟨p, hp, hg, rfl⟩ := eachS_mem.1 hq
    exact (G.rw_ p hp).end_ hw (by show m.clock ≤ m.clock + 1; omega) (fun g => ⟨rfl, rfl⟩) hg
  ac := by
    have := G.ac
    have h := filter_set (l := m.txs) (i := (w - 1).toNat) (x := ⟨st, (rd m.txs (w - 1)).snapshot⟩) hs
    have : (activeN (endS { m with clock := m.clock + 1 } w st (m.clock + 1)) : Int) ≤ (activeN m : Int) := by unfold activeN; show ((_ : Nat) : Int) ≤ ((_ : Nat) : Int); exact Int.ofNat_le.2 h
    show (activeN (endS { m with clock := m.clock + 1 } w st (m.clock + 1)) : Int) ≤ m.c.Active; omega
  ck := by have := G.ck; show m.clock + 1 ≤ m.c.TS; omega
  fl := by have := G.fl; show m.floor ≤ m.clock + 1; omega
theorem Good.vac {m : Mod} (G : Good m) : Good (vacS m) where
  ky := by have := G.ky; have h := eachS_len (keptRow (floorL m.txs m.clock)) m.rows; show ((eachS (keptRow (floorL m.txs m.clock)) m.rows).length : Int) ≤ m.c.Keys; omega
  rw_ := fun q hq => by
    obtain ⟨p, hp, hg, rfl⟩ := eachS_mem.1 hq
    have h := G.rw_ p hp
    refine ⟨hg, ?_, h.dn.sublist (kept_sub _ _), fun v hv => h.ts v ((kept_sub _ _).subset hv)⟩
    have := h.dp
    have := kept_len p.2.l (floorL m.txs m.clock)
    unfold wgt at *
    show ((kept p.2.l (floorL m.txs m.clock)).length : Int) + (if p.2.intent.Writer ≠ 0 then 1 else 0) ≤ m.c.Depth
    omega
  ac := G.ac
  ck := G.ck
  fl := floorL_le _ _
theorem Good.begin {m : Mod} (G : Good m) (t : Int) : Good (beginS m t).2 := by
  unfold beginS
  split
  · exact G
  next h =>
    refine ⟨G.ky, G.rw_, ?_, G.ck, G.fl⟩
    have : activeN { m with txs := m.txs ++ [⟨1, m.clock⟩], many := mput m.many t ((mget m.many t).getD 0 + 1), names := mput m.names ⟨t, (mget m.many t).getD 0 + 1⟩ ((m.txs.length : Int) + 1) } = activeN m + 1 := by
      simp [activeN, List.filter_append]
    show (activeN _ : Int) ≤ m.c.Active
    rw [this]; omega
theorem Good.row {n : Nat} {m : Mod} (G : Good m) (key : Str) : rowOf m key = nil_row ∧ mget m.rows key = none ∨ RowOk m.c m.clock (rowOf m key) ∧ (mget m.rows key).isSome = true := by
  unfold rowOf
  cases h : mget m.rows key with
  | none => exact .inl ⟨rfl, rfl⟩
  | some r => exact .inr ⟨G.rw_ _ (mget_mem h), rfl⟩
theorem Good.write {n : Nat} {m : Mod} (I : Inv n m) (G : Good m) (hD : 2 ≤ m.c.Depth) (key : Str) (v : api_Version) (hv : 1 ≤ v.Writer) : Good (writeS m key v).2 := by
  unfold writeS
  dsimp only
  split
  · exact G
  next c1 =>
  split
  · exact G
  split
  · exact G
  next c3 =>
    have hv0 : v.Writer ≠ 0 := by omega
    refine ⟨?_, fun p hp => ?_, G.ac, G.ck, G.fl⟩
    · have := G.ky
      have h := mput_length (k := key) (v := (⟨(rowOf m key).l, v⟩ : model_row)) m.rows
      show ((mput m.rows key _).length : Int) ≤ m.c.Keys
      rw [h]
      rcases G.row (n := n) key with ⟨e, e2⟩ | ⟨_, e2⟩
      · have hk : ¬ (m.rows.length : Int) ≥ m.c.Keys := fun hk => c3 ⟨by rw [e], .inl ⟨by rw [e], hk⟩⟩
        rw [e2]; simp; omega
      · rw [if_pos e2]; exact this
    · rcases (mput_mem I.nd p).1 hp with rfl | ⟨h, _⟩
      · rcases G.row (n := n) key with ⟨e, e2⟩ | ⟨h, e2⟩
        · rw [e]
          exact ⟨by simp [gone, hv0], by simp [wgt, hv0]; omega, List.Pairwise.nil, fun v hv => by cases hv⟩
        · refine ⟨by simp [gone, hv0], ?_, h.dn, h.ts⟩
          have := h.dp
          unfold wgt at *
          simp only [ne_eq, hv0, not_false_eq_true, if_true]
          by_cases hw : (rowOf m key).intent.Writer = 0
          · have : ¬ ((rowOf m key).l.length : Int) ≥ m.c.Depth := fun hk => c3 ⟨hw, .inr hk⟩
            show ((rowOf m key).l.length : Int) + 1 ≤ m.c.Depth; omega
          · simp only [ne_eq, hw, not_false_eq_true, if_true] at this; exact this
      · exact G.rw_ p h
theorem Good.do_ {n : Nat} {m : Mod} (I : Inv n m) (G : Good m) (hD : 2 ≤ m.c.Depth) (t : Int) (x : api_Call) : Good (doS m t x).2 := by
  unfold doS
  by_cases h0 : refS m t x = 0
  · rw [if_neg (by simpa using h0)]
    have hw := fun hk => refS_tx I h0 hk
    unfold actS
    split
    · exact G.begin t
    split
    · exact G
    split
    · exact Good.write I G hD _ _ (by have := hw (by omega); exact this.1)
    split
    · exact Good.write I G hD _ _ (by have := hw (by omega); exact this.1)
    split
    · exact G
    split
    · have h1 := (hw (by omega)).1
      unfold commitS
      split
      · exact G.end_ (by omega) (by decide) (by decide)
      split
      · exact G.end_ (by omega) (by decide) (by decide)
      next hc => exact G.end' (by omega) (by decide) hc
    split
    · have h1 := (hw (by omega)).1
      exact G.end_ (by omega) (by decide) (by decide)
    split
    · exact G.vac
    · exact G
  · rw [if_pos (by simpa using h0)]; exact G
theorem ite_e {p : Prop} [Decidable p] {a b : api_Answer × Mod} {m : Mod} (h : a.1.Err ≠ 0 → a.1.Err ≠ 35 → a.2 = m) (h' : b.1.Err ≠ 0 → b.1.Err ≠ 35 → b.2 = m) : (if p then a else b).1.Err ≠ 0 → (if p then a else b).1.Err ≠ 35 → (if p then a else b).2 = m := by
  split <;> assumption
/-- What is answered by an error changes nothing. -/
theorem doS_err (m : Mod) (t : Int) (x : api_Call) : (doS m t x).1.Err ≠ 0 → (doS m t x).1.Err ≠ 35 → (doS m t x).2 = m := by
  have z : ∀ m' : Mod, (ans 0, m').1.Err ≠ 0 → (ans 0, m').1.Err ≠ 35 → (ans 0, m').2 = m := fun m' h _ => absurd rfl h
  have s : ∀ a : api_Answer, (a, m).1.Err ≠ 0 → (a, m).1.Err ≠ 35 → (a, m).2 = m := fun _ _ _ => rfl
  have hb : (beginS m t).1.Err ≠ 0 → (beginS m t).1.Err ≠ 35 → (beginS m t).2 = m := ite_e (s _) (z _)
  have hw : ∀ k v, (writeS m k v).1.Err ≠ 0 → (writeS m k v).1.Err ≠ 35 → (writeS m k v).2 = m := fun k v => ite_e (s _) (ite_e (s _) (ite_e (s _) (fun h _ => absurd rfl h)))
  have hc : ∀ w, (commitS m w).1.Err ≠ 0 → (commitS m w).1.Err ≠ 35 → (commitS m w).2 = m := fun w => ite_e (z _) (ite_e (fun _ h => absurd rfl h) (z _))
  exact ite_e (s _) (ite_e hb (ite_e (s _) (ite_e (hw _ _) (ite_e (hw _ _) (ite_e (s _) (ite_e (hc _) (ite_e (z _) (ite_e (z _) (z _)))))))))
/-! ### the loops -/
theorem many_l20 (l : List Ver) (hd : down l) (hb : l.length ≤ 1000000) : ∀ (j i : Nat), i + j = l.length → 1 ≤ i → ∀ k, j < k → ferrymanlaw16_ModelMany_l20 l k (i : Int) = some (.inr ()) := by
  intro j
  induction j with
  | zero =>
    intro i hi h1 k hk
    obtain ⟨k, rfl⟩ : ∃ k', k = k' + 1 := ⟨k - 1, by omega⟩
    rw [ferrymanlaw16_ModelMany_l20.eq_2]
    have : ¬ ((i : Int) < (l.length : Int)) := by omega
    simp [this]
  | succ j ih =>
    intro i hi h1 k hk
    obtain ⟨k, rfl⟩ : ∃ k', k = k' + 1 := ⟨k - 1, by omega⟩
    have hlt : i < l.length := by omega
    have h3 : (i : Int) < (l.length : Int) := by omega
    have hp : i - 1 < l.length := by omega
    have e : IntKind.i64.wrap ((i : Int) - 1) = ((i - 1 : Nat) : Int) := by rw [wr (by omega) (by omega)]; omega
    have hq : l[i].TS < l[i - 1].TS := (List.pairwise_iff_getElem.1 hd) (i - 1) i hp hlt (by omega)
    rw [ferrymanlaw16_ModelMany_l20.eq_2]
    simp only [h3, decide_true, if_true, inR hlt, and_self, e, inR hp, rdN hlt, rdN hp, wr1 (i := i) (by omega)]
    have hz : ¬ (l[i].TS ≥ l[i - 1].TS) := by omega
    rw [if_neg (by simpa using hq)]
    exact ih (i + 1) (by omega) (by omega) k (by omega)
theorem eq_l0 (a : List api_Pair) (hb : a.length ≤ 1000000) : ∀ (j i : Nat), i + j = a.length → ∀ k, j < k → slices_Equal_api_Pair_api_Pair_l0 a a k (i : Int) = some (.inr ()) := by
  intro j
  induction j with
  | zero =>
    intro i hi k hk
    obtain ⟨k, rfl⟩ : ∃ k', k = k' + 1 := ⟨k - 1, by omega⟩
    rw [slices_Equal_api_Pair_api_Pair_l0.eq_2]
    have : ¬ ((i : Int) < (a.length : Int)) := by omega
    simp [this]
  | succ j ih =>
    intro i hi k hk
    obtain ⟨k, rfl⟩ : ∃ k', k = k' + 1 := ⟨k - 1, by omega⟩
    have h1 : i < a.length := by omega
    have h3 : (i : Int) < (a.length : Int) := by omega
    rw [slices_Equal_api_Pair_api_Pair_l0.eq_2]
    simp only [h3, decide_true, if_true, inR h1, and_self, beq_self_eq_true, Bool.and_self, Bool.not_true, Bool.false_eq_true, if_false, wr1 (i := i) (by omega)]
    exact ih (i + 1) (by omega) k (by omega)
theorem mSame_refl (a : api_Answer) (hb : a.Pairs.length ≤ 1000000) (k : Nat) (hk : a.Pairs.length < k) : model_Same k a a = some true := by
  have h := eq_l0 a.Pairs hb a.Pairs.length 0 (by omega) k hk
  have e : slices_Equal_api_Pair_api_Pair k a.Pairs a.Pairs = some true := by
    unfold slices_Equal_api_Pair_api_Pair
    rw [if_neg (by simp)]
    show Option.bind (slices_Equal_api_Pair_api_Pair_l0 a.Pairs a.Pairs k ((0 : Nat) : Int)) _ = _
    rw [h]; rfl
  have s : sbin .eql a.Value a.Value = true := by simp [sbin]
  unfold model_Same
  simp [s, e]
theorem many_l18 {n : Nat} {m : Mod} (I : Inv n m) (G : Good m) (hn : n ≤ 1000000) (a : api_Answer) (ha : a.Pairs.length ≤ n) (L : List Str) (hL : L.length ≤ 1000000) (hm : ∀ y ∈ L, y ∈ m.rows.map (·.1)) : ∀ (j i : Nat) (s : Int), i + j = L.length → 0 ≤ s → s ≤ (i : Int) * ((n : Int) + 1) →
    ∀ k, j + n + 1 < k → ferrymanlaw16_ModelMany_l18 m.c a.Err a.Found a.Value a.Pairs m L k s (i : Int) = some (.inr (s + retS m (L.drop i))) := by
  intro j
  induction j with
  | zero =>
    intro i s hi h0 h1 k hk
    obtain ⟨k, rfl⟩ : ∃ k', k = k' + 1 := ⟨k - 1, by omega⟩
    rw [ferrymanlaw16_ModelMany_l18.eq_2, List.drop_of_length_le (by omega)]
    have : ¬ ((i : Int) < (L.length : Int)) := by omega
    simp [this, retS]
  | succ j ih =>
    intro i s hi h0 h1 k hk
    obtain ⟨k, rfl⟩ : ∃ k', k = k' + 1 := ⟨k - 1, by omega⟩
    have hlt : i < L.length := by omega
    have h3 : (i : Int) < (L.length : Int) := by omega
    have h := I.row L[i]
    have ok : RowOk m.c m.clock (rowOf m L[i]) := by
      rcases G.row (n := n) L[i] with ⟨_, e⟩ | ⟨h, _⟩
      · exact absurd (hm _ (List.getElem_mem hlt)) (mget_none.1 e)
      · exact h
    have e : ((i : Int) + 1) * ((n : Int) + 1) = (i : Int) * ((n : Int) + 1) + ((n : Int) + 1) := by rw [Int.add_mul, Int.one_mul]
    have hb : (i : Int) * ((n : Int) + 1) ≤ 1000000 * 1000001 := Int.mul_le_mul (by omega) (by omega) (by omega) (by omega)
    have hw : ((rowOf m L[i]).l.length : Int) + imin 1 (rowOf m L[i]).intent.Writer = wgt (rowOf m L[i]) := by
      unfold wgt imin
      have := h.2
      by_cases c : (rowOf m L[i]).intent.Writer = 0
      · simp [c]
      · simp only [ne_eq, c, not_false_eq_true, if_true]; split <;> omega
    have h1' := wgt_pos ok.lv
    have h2' := ok.dp
    have hu : wgt (rowOf m L[i]) ≤ (n : Int) + 1 := by unfold wgt; split <;> omega
    have h20 : ferrymanlaw16_ModelMany_l20 (rowOf m L[i]).l k (1 : Int) = some (.inr ()) := by
      by_cases hz : (rowOf m L[i]).l.length = 0
      · obtain ⟨k, rfl⟩ : ∃ k', k = k' + 1 := ⟨k - 1, by omega⟩
        rw [ferrymanlaw16_ModelMany_l20.eq_2]
        have : ¬ ((1 : Int) < ((rowOf m L[i]).l.length : Int)) := by omega
        simp [this]
      · exact many_l20 _ ok.dn (by omega) ((rowOf m L[i]).l.length - 1) 1 (by omega) (by omega) k (by omega)
    have hif : (if ((rowOf m L[i]).intent.Writer != (0 : Int)) = true then some (IntKind.i64.wrap (((rowOf m L[i]).l.length : Int) + (1 : Int))) else some (((rowOf m L[i]).l.length : Int))) = some (wgt (rowOf m L[i])) := by
      unfold wgt
      by_cases c : (rowOf m L[i]).intent.Writer = 0
      · simp [c]
      · rw [if_pos (by simpa using c), wr (by omega) (by omega)]; simp [c]
    have hlo : ¬ (wgt (rowOf m L[i]) < 1) := by omega
    have hhi : ¬ (wgt (rowOf m L[i]) > m.c.Depth) := by omega
    rw [ferrymanlaw16_ModelMany_l18.eq_2, List.drop_eq_getElem_cons hlt, retS, hw]
    simp only [h3, decide_true, if_true, inR hlt, and_self, rdN hlt, wr1 (i := i) (by omega), Vers_eq I hn, Intent_eq, Option.bind_some, hif, hlo, hhi, decide_false, Bool.or_self, Bool.false_eq_true, if_false, mSame_refl ⟨a.Err, a.Found, a.Value, a.Pairs⟩ (by show a.Pairs.length ≤ 1000000; omega) k (by show a.Pairs.length < k; omega), Bool.not_true, h20, Sum.elim_inr]
    rw [wr (x := s + wgt (rowOf m L[i])) (by omega) (by omega)]
    rw [ih (i + 1) _ (by omega) (by omega) (by rw [show (((i + 1 : Nat)) : Int) = (i : Int) + 1 from rfl, e]; omega) k (by omega)]
    congr 2; omega
theorem many_l10 (c : api_Config) (hD : 2 ≤ c.Depth) (a : List Turn) : ∀ (j i : Nat) (n : Nat) (m : Mod), i + j = a.length → a.length ≤ 100000 → Inv n m → Good m → m.c = c → n + j ≤ 999998 → Ev (fun k => ferrymanlaw16_ModelMany_l10 c a k (i : Int) m) (.inr ()) := by
  intro j
  induction j with
  | zero =>
    intro i n m hi hb I G hc hn
    refine Ev.shift 1 ⟨0, fun k hk => ?_⟩
    show ferrymanlaw16_ModelMany_l10 c a (k + 1) (i : Int) m = _
    rw [ferrymanlaw16_ModelMany_l10.eq_2]
    have : ¬ ((i : Int) < (a.length : Int)) := by omega
    simp [this]
  | succ j ih =>
    intro i n m hi hb I G hc hn
    have hlt : i < a.length := by omega
    have h3 : (i : Int) < (a.length : Int) := by omega
    refine Ev.shift 1 ?_
    refine Ev.congr (g := fun k => _) ?_ (fun k => by rw [ferrymanlaw16_ModelMany_l10.eq_2])
    rw [wr1 (i := i) (by omega), rdN hlt]
    refine Ev.pos (by simpa using h3) ?_
    refine Ev.bind ⟨0, fun k _ => Copy_eq I (by omega) k⟩ ?_
    refine Ev.pos (inR hlt) (Ev.pos (inR hlt) ?_)
    have I' := I.do_ a[i].Task a[i].Call
    have G' := Good.do_ I G (by rw [hc]; exact hD) a[i].Task a[i].Call
    have hc' : (doS m a[i].Task a[i].Call).2.c = c := (doS_c _ _ _).trans hc
    have hp := doS_pairs I a[i].Task a[i].Call
    have he := doS_err m a[i].Task a[i].Call
    refine Ev.bind (v := ((doS m a[i].Task a[i].Call).1.Err, (doS m a[i].Task a[i].Call).1.Found, (doS m a[i].Task a[i].Call).1.Value, (doS m a[i].Task a[i].Call).1.Pairs, (doS m a[i].Task a[i].Call).2)) ((do_ev I (by omega) a[i].Task a[i].Call).bind (Ev.pure _)) ?_
    generalize doS m a[i].Task a[i].Call = r at *
    obtain ⟨b, m'⟩ := r
    dsimp only at *
    refine Ev.bind (v := false) ?_ ?_
    · by_cases he2 : b.Err ≠ 0 ∧ b.Err ≠ 35
      · refine Ev.pos (by simpa using he2) ?_
        have := he he2.1 he2.2
        subst this
        refine Ev.eq (v := !sameS m' m') ((same_ev I I (by omega)).bind (Ev.pure _)) (by rw [sameS_refl]; rfl)
      · exact Ev.neg (by simpa using he2) (Ev.pure _)
    refine Ev.neg (by simp) ?_
    refine Ev.bind ⟨0, fun k _ => Keys_eq I' (by omega) k⟩ ?_
    have hr := I'.rl
    have hk := keysS_len m'
    have hK := G'.ky
    have hA := G'.ac
    have hC := G'.ck
    have hF := G'.fl
    rw [hc'] at hK hA hC
    refine Ev.bind (v := .inr (retS m' (keysS m'))) ⟨(keysS m').length + n + 4, fun k hk2 => ?_⟩ ?_
    · have := many_l18 I' G' (by omega) b (by omega) (keysS m') (by omega) (fun y hy => keysS_mem.1 hy) (keysS m').length 0 0 (by omega) (by omega) (by simp) k (by omega)
      rw [hc'] at this
      refine Eq.trans this ?_
      simp
    have z : ∀ (p : Prop) [Decidable p], ¬ p → decide p = false := fun p _ h => by simp [h]
    refine Ev.bind (v := false) (Ev.neg (by simp; omega) (Ev.eq (v := (retS m' (keysS m') != retS m' (keysS m'))) ((Ret_ev I' (by omega)).bind (Ev.pure _)) (by simp))) ?_
    refine Ev.bind (v := false) (Ev.neg (by simp) (Ev.eq (v := decide ((activeN m' : Int) > c.Active)) ((Active_ev I' (by omega)).bind (Ev.pure _)) (by simp; omega))) ?_
    refine Ev.bind (v := false) (Ev.neg (by simp) (Ev.eq (v := decide (m'.clock > c.TS)) ⟨0, fun k _ => rfl⟩ (by simp; omega))) ?_
    refine Ev.bind (v := false) (Ev.neg (by simp) (Ev.eq (v := decide (m'.floor > m'.clock)) ⟨0, fun k _ => rfl⟩ (by simp; omega))) ?_
    refine Ev.neg (by simp) ?_
    exact ih (i + 1) (n + 1) m' (by omega) hb I' G' hc' (by omega)
theorem pure_ModelMany (a0 : api_Config) (a1 : (List ferrymanlaw16_Turn)) (_ : wf_api_Config a0) (w1 : (wfSl wf_ferrymanlaw16_Turn) a1) : ∃ k, ferrymanlaw16_ModelMany k a0 a1 = some true := by
  refine Ev.ex (f := fun k => ferrymanlaw16_ModelMany k a0 a1) ?_
  have b1 : a1.length ≤ 9223372036854775807 := Nat.le_trans w1.1 (by decide)
  unfold ferrymanlaw16_ModelMany
  refine works_ev.bind ?_
  obtain ⟨x, hx, hx2⟩ := large_ev a1 b1
  refine Ev.bind (v := x) (Ev.neg (by simp) (hx.bind (Ev.pure _))) ?_
  cases x with
  | true => exact Ev.pos rfl (works_ev.bind (Ev.pure _))
  | false =>
    have l1 := hx2 rfl
    refine Ev.neg (by simp) ?_
    refine Ev.bind ⟨9, fun k hk => New_eq k hk a0⟩ ?_
    cases hm : mayB a0 with
    | false => exact Ev.pure _
    | true =>
      simp only [mayB, Bool.and_eq_true, decide_eq_true_eq] at hm
      have G0 : Good (newS a0) := ⟨by show (0 : Int) ≤ a0.Keys; omega, (fun p hp => by cases hp), by show (0 : Int) ≤ a0.Active; omega, by show (0 : Int) ≤ a0.TS; omega, Int.le_refl _⟩
      have h := many_l10 a0 (by omega) a1 a1.length 0 0 (newS a0) (by omega) (by omega) (Inv.new a0) G0 rfl (by omega)
      exact h.bind (Ev.pure _)
end Go.Proofs.YtcngjjlhdlbogaaDoor
