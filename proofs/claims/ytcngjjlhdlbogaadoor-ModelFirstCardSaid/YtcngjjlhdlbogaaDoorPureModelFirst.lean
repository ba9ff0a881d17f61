/-  The plain law ModelFirst. -/
import Derived.Test.YtcngjjlhdlbogaaDoorPureRel
import Derived.Test.YtcngjjlhdlbogaaDoorOpnm4
import Derived.Test.YtcngjjlhdlbogaaDoorGm4LModelFirst
namespace Go.Proofs.YtcngjjlhdlbogaaDoor
open Go Go.RowKit
set_option linter.unusedVariables false
set_option linter.unusedSimpArgs false
set_option maxRecDepth 100000
def wrote (x : Life) (y : Str) : Prop := ∃ f, lastW x.writes y = some f
theorem wrote_add {x : Life} {f : Fact} {y : Str} : wrote (addW x f) y ↔ f.key = y ∨ wrote x y := by
  unfold wrote
  show (∃ f', lastW (x.writes ++ [f]) y = some f') ↔ _
  rw [lastW_app]
  by_cases h : f.key = y
  · rw [if_pos h]; exact ⟨fun _ => .inl h, fun _ => ⟨f, rfl⟩⟩
  · rw [if_neg h]; exact ⟨.inr, fun h' => h'.resolve_left h⟩
structure Fs (m : Mod) (L : List Life) (p : Int) : Prop where
  bg : ∀ i (h : i < L.length), L[i].begun ≤ p ∧ L[i].over ≤ p
  st : ∀ i (h : i < L.length), (rd m.txs (i : Int)).state = 1 → L[i].over = 0
  sl : ∀ i, i < L.length → (rd m.txs (i : Int)).state = 1 → (rd m.txs (i : Int)).snapshot ≤ m.clock
  cl : ∀ i j (h : i < L.length) (h' : j < L.length), L[i].over ≠ 0 → (rd m.txs (j : Int)).state = 1 → ∀ y, wrote L[i] y → L[j].begun > L[i].over ∨ clash (rowOf m y).l (rd m.txs (j : Int)).snapshot = true
  ab : ∀ i j (h : i < L.length) (h' : j < L.length), L[i].over ≠ 0 → (rd m.txs (j : Int)).state = 1 → ∀ y, wrote L[i] y → wrote L[j] y → L[j].begun > L[i].over
  bb : ∀ i j (h : i < L.length) (h' : j < L.length), i ≠ j → L[i].over ≠ 0 → L[j].over ≠ 0 → ∀ y, wrote L[i] y → wrote L[j] y → L[i].begun > L[j].over ∨ L[j].begun > L[i].over
theorem get_set {L : List Life} {j : Nat} (x : Life) {i : Nat} (h : i < (L.set j x).length) : (L.set j x)[i] = if j = i then x else L[i]'(by simpa using h) := by rw [List.getElem_set]
theorem clash_new {l : List Ver} {s ts : Int} {v : Ver} (hv : v.TS = ts) (h : s < ts) : clash (v :: l) s = true := by
  unfold clash; simp; omega
theorem Fs.end_ {n : Nat} {m : Mod} {L : List Life} {p : Int} (I : Inv n m) (O : Ok m) (R : It m L) (hl : L.length = m.txs.length) (F : Fs m L p) (j : Nat) (hj : j < L.length) (hs : (rd m.txs (j : Int)).state = 1) (at_ ts c : Int) (hat : at_ = p + 1)
    (hc : (ts = 0 ∧ c = m.clock ∧ L[j].writes = []) ∨ (ts = m.clock + 1 ∧ c = ts ∧ 0 < ts)) :
    Fs (endS { m with clock := c } ((j : Int) + 1) 3 ts) (L.set j (endW L[j] at_)) (p + 1) := by
  have htx := end_txs { m with clock := c } j 3 ts
  have act : ∀ i, i < L.length → (rd (endS { m with clock := c } ((j : Int) + 1) 3 ts).txs (i : Int)).state = 1 → i ≠ j ∧ (rd m.txs (i : Int)).state = 1 := fun i hi h => by
    rw [htx] at h
    have hij : i ≠ j := fun z => by subst z; rw [rd_set_eq _ (by show i < m.txs.length; omega)] at h; cases h
    rw [rd_set_ne _ hij (by show i < m.txs.length; omega)] at h
    exact ⟨hij, h⟩
  have sn : ∀ i, i < L.length → (rd (endS { m with clock := c } ((j : Int) + 1) 3 ts).txs (i : Int)).snapshot = (rd m.txs (i : Int)).snapshot := fun i hi => by
    rw [htx]; exact rd_set_sn 3 (by show i < m.txs.length; omega)
  have wr : ∀ i (h : i < L.length) y, wrote (if j = i then endW L[j] at_ else L[i]) y ↔ wrote L[i] y := fun i h y => by
    split
    · next e => subst e; exact Iff.rfl
    · exact Iff.rfl
  have bgn : ∀ i (h : i < L.length), (if j = i then endW L[j] at_ else L[i]).begun = L[i].begun := fun i h => by
    split
    · next e => subst e; rfl
    · rfl
  have two : ∀ i, i < L.length → i ≠ j → (rd m.txs (i : Int)).state = 1 → ∀ (h : i < L.length) y, wrote L[i] y → wrote L[j] y → False := fun i hi hij hsi h y ⟨f, hf⟩ ⟨f', hf'⟩ => by
    have h1 := R.iw i h hsi y f hf
    have h2 := R.iw j hj hs y f' hf'
    omega
  have ov0 := F.st j hj hs
  have hcl : m.clock ≤ c := by omega
  refine ⟨fun i hi => ?_, fun i hi h => ?_, fun i hi h => ?_, fun i q hi hq ho ha y hw => ?_, fun i q hi hq ho ha y hw hw' => ?_, fun i q hi hq hne ho ho' y hw hw' => ?_⟩
  · have hi' : i < L.length := by simpa using hi
    have := F.bg i hi'
    rw [get_set, bgn i hi']
    split
    · exact ⟨by omega, by show at_ ≤ _; omega⟩
    · omega
  · have hi' : i < L.length := by simpa using hi
    obtain ⟨h1, h2⟩ := act i hi' h
    rw [get_set, if_neg (fun e => h1 e.symm)]; exact F.st i hi' h2
  · have hi' : i < L.length := by simpa using hi
    obtain ⟨h1, h2⟩ := act i hi' h
    rw [sn i hi']
    have := F.sl i hi' h2
    show _ ≤ c; omega
  · have hi' : i < L.length := by simpa using hi
    have hq' : q < L.length := by simpa using hq
    obtain ⟨h1, h2⟩ := act q hq' ha
    have h3 := F.sl q hq' h2
    rw [get_set, wr i hi' y] at hw
    rw [get_set] at ho
    rw [get_set, get_set, bgn q hq', sn q hq', row_end I O]
    by_cases e : j = i
    · subst e
      right
      rcases hc with ⟨_, _, h0⟩ | ⟨ht, hc2, hp⟩
      · obtain ⟨f, hf⟩ := hw; rw [h0] at hf; cases hf
      · obtain ⟨f, hf⟩ := hw
        have := R.iw j hj hs y f hf
        unfold endRow
        rw [if_neg (by simpa using this), if_pos hp]
        exact clash_new (ts := ts) rfl (by omega)
    · rw [if_neg e] at ho ⊢
      rcases F.cl i q hi' hq' ho h2 y hw with h | h
      · exact .inl h
      · right
        unfold endRow
        split
        · exact h
        · split
          · exact clash_new (ts := ts) rfl (by omega)
          · exact h
  · have hi' : i < L.length := by simpa using hi
    have hq' : q < L.length := by simpa using hq
    obtain ⟨h1, h2⟩ := act q hq' ha
    rw [get_set, wr i hi' y] at hw
    rw [get_set, wr q hq' y] at hw'
    rw [get_set] at ho
    rw [get_set, get_set, bgn q hq']
    by_cases e : j = i
    · subst e; exact (two q hq' h1 h2 hq' y hw' hw).elim
    · rw [if_neg e] at ho ⊢; exact F.ab i q hi' hq' ho h2 y hw hw'
  · have hi' : i < L.length := by simpa using hi
    have hq' : q < L.length := by simpa using hq
    rw [get_set, wr i hi' y] at hw
    rw [get_set, wr q hq' y] at hw'
    rw [get_set] at ho ho'
    rw [get_set, get_set, bgn q hq', bgn i hi']
    by_cases e : j = i
    · subst e
      rw [if_neg hne] at ho' ⊢
      exact .inl (F.ab q j hq' hi' ho' hs y hw' hw)
    · by_cases e2 : j = q
      · subst e2
        rw [if_neg e] at ho ⊢
        exact .inr (F.ab i j hi' hq' ho hs y hw hw')
      · rw [if_neg e] at ho ⊢; rw [if_neg e2] at ho' ⊢
        exact F.bb i q hi' hq' hne ho ho' y hw hw'
theorem Fs.mono {m : Mod} {L : List Life} {p : Int} (F : Fs m L p) : Fs m L (p + 1) :=
  ⟨fun i h => by have := F.bg i h; omega, F.st, F.sl, F.cl, F.ab, F.bb⟩
theorem Fs.next {n : Nat} {m m' : Mod} {g g' : Log} {p : Int} (I : Inv n m) (O : Ok m) (R : Lg m g) (hp : 0 ≤ p) (S : Step m g (p + 1) m' g') (F : Fs m g.lives p) : Fs m' g'.lives (p + 1) := by
  have hl := R.ln
  cases S with
  | same => exact F.mono
  | vac =>
    refine ⟨F.mono.bg, F.st, F.sl, fun i j h h' ho ha y hw => ?_, F.ab, F.bb⟩
    replace ha : (rd m.txs (j : Int)).state = 1 := ha
    rcases F.cl i j h h' ho ha y hw with h1 | h1
    · exact .inl h1
    · right
      rw [row_vac I O]
      show clash (kept (rowOf m y).l _) (rd m.txs (j : Int)).snapshot = true
      have hj : j < m.txs.length := by omega
      rw [clash_kept _ _ _ (floor_act m.txs m.clock _ (by rw [rdN hj]; exact List.getElem_mem hj) ha)]
      exact h1
  | begin t =>
    have nw : ∀ i (h : i < (g.lives ++ [(⟨t, ((1 + countS t g.lives : Nat) : Int), g.time, [], p + 1, 0⟩ : Life)]).length), i < g.lives.length ∨ (i = g.lives.length ∧ (g.lives ++ [(⟨t, ((1 + countS t g.lives : Nat) : Int), g.time, [], p + 1, 0⟩ : Life)])[i] = ⟨t, ((1 + countS t g.lives : Nat) : Int), g.time, [], p + 1, 0⟩) := fun i h => by
      by_cases c : i < g.lives.length
      · exact .inl c
      · have : i = g.lives.length := by simp at h; omega
        subst this
        exact .inr ⟨rfl, List.getElem_concat_length rfl _⟩
    refine ⟨fun i hi => ?_, fun i hi h => ?_, fun i hi h => ?_, fun i q hi hq ho ha y hw => ?_, fun i q hi hq ho ha y hw hw' => ?_, fun i q hi hq hne ho ho' y hw hw' => ?_⟩
    · show (g.lives ++ [_])[i].begun ≤ _ ∧ (g.lives ++ [_])[i].over ≤ _
      rcases nw i hi with c | ⟨_, e⟩
      · rw [List.getElem_append_left c]; have := F.bg i c; omega
      · rw [e]; exact ⟨by show p + 1 ≤ _; omega, by show (0 : Int) ≤ _; omega⟩
    · show (g.lives ++ [_])[i].over = 0
      rcases nw i hi with c | ⟨_, e⟩
      · rw [List.getElem_append_left c]; exact F.st i c (by rw [← rd_app_l ⟨1, m.clock⟩ (by omega)]; exact h)
      · rw [e]
    · show (rd (m.txs ++ [_]) (i : Int)).snapshot ≤ m.clock
      rcases nw i hi with c | ⟨c, _⟩
      · have h' : (rd m.txs (i : Int)).state = 1 := by rw [← rd_app_l ⟨1, m.clock⟩ (by omega)]; exact h
        rw [rd_app_l _ (by omega)]; exact F.sl i c h'
      · rw [rd_app_r _ (by omega)]; exact Int.le_refl _
    · show (g.lives ++ [_])[q].begun > (g.lives ++ [_])[i].over ∨ clash (rowOf m y).l (rd (m.txs ++ [_]) (q : Int)).snapshot = true
      rcases nw i hi with c | ⟨_, e⟩
      · have hw' : wrote g.lives[i] y := by rw [← List.getElem_append_left c (bs := [(⟨t, ((1 + countS t g.lives : Nat) : Int), g.time, [], p + 1, 0⟩ : Life)])]; exact hw
        have ho' : g.lives[i].over ≠ 0 := by rw [← List.getElem_append_left c (bs := [(⟨t, ((1 + countS t g.lives : Nat) : Int), g.time, [], p + 1, 0⟩ : Life)])]; exact ho
        rw [List.getElem_append_left c]
        rcases nw q hq with d | ⟨_, e⟩
        · have ha' : (rd m.txs (q : Int)).state = 1 := by rw [← rd_app_l ⟨1, m.clock⟩ (by omega)]; exact ha
          rw [List.getElem_append_left d, rd_app_l _ (by omega)]; exact F.cl i q c d ho' ha' y hw'
        · left; rw [e]; have := F.bg i c; show p + 1 > _; omega
      · obtain ⟨f, hf⟩ := hw
        replace hf : lastW ((g.lives ++ [_])[i]).writes y = some f := hf
        rw [e] at hf; cases hf
    · show (g.lives ++ [_])[q].begun > (g.lives ++ [_])[i].over
      rcases nw i hi with c | ⟨_, e⟩
      · have hwi : wrote g.lives[i] y := by rw [← List.getElem_append_left c (bs := [(⟨t, ((1 + countS t g.lives : Nat) : Int), g.time, [], p + 1, 0⟩ : Life)])]; exact hw
        have ho' : g.lives[i].over ≠ 0 := by rw [← List.getElem_append_left c (bs := [(⟨t, ((1 + countS t g.lives : Nat) : Int), g.time, [], p + 1, 0⟩ : Life)])]; exact ho
        rw [List.getElem_append_left c]
        rcases nw q hq with d | ⟨_, e⟩
        · have ha' : (rd m.txs (q : Int)).state = 1 := by rw [← rd_app_l ⟨1, m.clock⟩ (by omega)]; exact ha
          have hwq : wrote g.lives[q] y := by rw [← List.getElem_append_left d (bs := [(⟨t, ((1 + countS t g.lives : Nat) : Int), g.time, [], p + 1, 0⟩ : Life)])]; exact hw'
          rw [List.getElem_append_left d]; exact F.ab i q c d ho' ha' y hwi hwq
        · rw [e]; have := F.bg i c; show p + 1 > _; omega
      · obtain ⟨f, hf⟩ := hw
        replace hf : lastW ((g.lives ++ [_])[i]).writes y = some f := hf
        rw [e] at hf; cases hf
    · show (g.lives ++ [_])[i].begun > (g.lives ++ [_])[q].over ∨ (g.lives ++ [_])[q].begun > (g.lives ++ [_])[i].over
      replace ho : ((g.lives ++ [_])[i]).over ≠ 0 := ho
      replace ho' : ((g.lives ++ [_])[q]).over ≠ 0 := ho'
      replace hw : wrote ((g.lives ++ [_])[i]) y := hw
      replace hw' : wrote ((g.lives ++ [_])[q]) y := hw'
      rcases nw i hi with c | ⟨_, e⟩
      · rcases nw q hq with d | ⟨_, e⟩
        · rw [List.getElem_append_left c] at ho hw ⊢
          rw [List.getElem_append_left d] at ho' hw' ⊢
          exact F.bb i q c d hne ho ho' y hw hw'
        · rw [e] at ho'; exact absurd rfl ho'
      · rw [e] at ho; exact absurd rfl ho
  | write j hj f hs hi hc =>
    have ov0 := F.st j hj hs
    have ov : ∀ i (h : i < g.lives.length), (if j = i then addW g.lives[j] f else g.lives[i]).over = g.lives[i].over := fun i h => by
      split
      · next e => subst e; rfl
      · rfl
    have bg : ∀ i (h : i < g.lives.length), (if j = i then addW g.lives[j] f else g.lives[i]).begun = g.lives[i].begun := fun i h => by
      split
      · next e => subst e; rfl
      · rfl
    have hrow : ∀ y, (rowOf { m with rows := mput m.rows f.key ⟨(rowOf m f.key).l, ⟨(j : Int) + 1, 0, f.tomb, f.value⟩⟩ } y).l = (rowOf m y).l := fun y => by
      rw [row_put]; split
      · next e => rw [e]
      · rfl
    refine ⟨fun i hi => ?_, fun i hi h => ?_, fun i hi h => ?_, fun i q hi hq ho ha y hw => ?_, fun i q hi hq ho ha y hw hw' => ?_, fun i q hi hq hne ho ho' y hw hw' => ?_⟩
    · have hi' : i < g.lives.length := by simpa using hi
      have := F.bg i hi'
      show (g.lives.set j _)[i].begun ≤ _ ∧ (g.lives.set j _)[i].over ≤ _
      rw [get_set, bg i hi', ov i hi']; omega
    · have hi' : i < g.lives.length := by simpa using hi
      show (g.lives.set j _)[i].over = 0
      rw [get_set, ov i hi']; exact F.st i hi' h
    · exact F.sl i (by simpa using hi) h
    · have hi' : i < g.lives.length := by simpa using hi
      have hq' : q < g.lives.length := by simpa using hq
      replace ho : ((g.lives.set j _)[i]).over ≠ 0 := ho
      replace hw : wrote ((g.lives.set j _)[i]) y := hw
      show (g.lives.set j _)[q].begun > (g.lives.set j _)[i].over ∨ _
      rw [get_set, ov i hi'] at ho
      have hij : j ≠ i := fun e => by subst e; exact ho ov0
      rw [get_set, if_neg hij] at hw
      rw [get_set, get_set, bg q hq', ov i hi', hrow]
      exact F.cl i q hi' hq' ho ha y hw
    · have hi' : i < g.lives.length := by simpa using hi
      have hq' : q < g.lives.length := by simpa using hq
      replace ho : ((g.lives.set j _)[i]).over ≠ 0 := ho
      replace hw : wrote ((g.lives.set j _)[i]) y := hw
      replace hw' : wrote ((g.lives.set j _)[q]) y := hw'
      show (g.lives.set j _)[q].begun > (g.lives.set j _)[i].over
      rw [get_set, ov i hi'] at ho
      have hij : j ≠ i := fun e => by subst e; exact ho ov0
      rw [get_set, if_neg hij] at hw
      rw [get_set, get_set, bg q hq', ov i hi']
      rw [get_set] at hw'
      by_cases e : j = q
      · subst e
        rw [if_pos rfl, wrote_add] at hw'
        rcases hw' with e | h
        · rcases F.cl i j hi' hj ho hs y hw with h | h
          · exact h
          · rw [← e, hc] at h; cases h
        · exact F.ab i j hi' hj ho hs y hw h
      · rw [if_neg e] at hw'; exact F.ab i q hi' hq' ho ha y hw hw'
    · have hi' : i < g.lives.length := by simpa using hi
      have hq' : q < g.lives.length := by simpa using hq
      replace ho : ((g.lives.set j _)[i]).over ≠ 0 := ho
      replace ho' : ((g.lives.set j _)[q]).over ≠ 0 := ho'
      replace hw : wrote ((g.lives.set j _)[i]) y := hw
      replace hw' : wrote ((g.lives.set j _)[q]) y := hw'
      show (g.lives.set j _)[i].begun > (g.lives.set j _)[q].over ∨ (g.lives.set j _)[q].begun > (g.lives.set j _)[i].over
      rw [get_set, ov i hi'] at ho
      rw [get_set, ov q hq'] at ho'
      have hij : j ≠ i := fun e => by subst e; exact ho ov0
      have hqj : j ≠ q := fun e => by subst e; exact ho' ov0
      rw [get_set, if_neg hij] at hw
      rw [get_set, if_neg hqj] at hw'
      rw [get_set, get_set, if_neg hij, if_neg hqj]
      exact F.bb i q hi' hq' hne ho ho' y hw hw'
  | none j h hs hw => exact F.end_ I O R.it hl j h hs (p + 1) 0 m.clock rfl (.inl ⟨rfl, rfl, hw⟩)
  | commit j h hs hw => exact F.end_ I O R.it hl j h hs (p + 1) (m.clock + 1) (m.clock + 1) rfl (.inr ⟨rfl, rfl, by have := I.ck; omega⟩)
  | abort j hj hs =>
    have htx := end_txs m j 4 0
    have act : ∀ i, i < g.lives.length → (rd (endS m ((j : Int) + 1) 4 0).txs (i : Int)).state = 1 → (rd m.txs (i : Int)).state = 1 := fun i hi h => by
      rw [htx] at h
      have hij : i ≠ j := fun z => by subst z; rw [rd_set_eq _ (by omega)] at h; cases h
      rw [rd_set_ne _ hij (by omega)] at h; exact h
    have sn : ∀ i, i < g.lives.length → (rd (endS m ((j : Int) + 1) 4 0).txs (i : Int)).snapshot = (rd m.txs (i : Int)).snapshot := fun i hi => by rw [htx]; exact rd_set_sn 4 (by omega)
    have hrow : ∀ y, (rowOf (endS m ((j : Int) + 1) 4 0) y).l = (rowOf m y).l := fun y => by
      rw [row_end I O j 4 0 m.clock]; unfold endRow; split
      · rfl
      · rfl
    exact ⟨F.mono.bg, fun i h h' => F.st i h (act i h h'), fun i h h' => by rw [sn i h]; exact F.sl i h (act i h h'),
      fun i q h h' ho ha y hw => by rw [sn q h', hrow]; exact F.cl i q h h' ho (act q h' ha) y hw, fun i q h h' ho ha => F.ab i q h h' ho (act q h' ha), F.bb⟩
/-! ### the loops -/
theorem f65 (L : List Life) (a b : Nat) (ha : a < L.length) (hb : b < L.length) (i : Nat) (hi : i < L[a].writes.length) (hne : ∀ f ∈ L[b].writes, L[a].writes[i].key ≠ f.key) (hB : L[b].writes.length ≤ 1000000) : ∀ (n j : Nat), j + n = L[b].writes.length → ∀ k, n < k →
    ferrymanlaw16_ModelFirst_l65 L (a : Int) (b : Int) (i : Int) k (j : Int) = some (.inr ()) := by
  intro n
  induction n with
  | zero =>
    intro j hj k hk
    obtain ⟨k, rfl⟩ : ∃ k', k = k' + 1 := ⟨k - 1, by omega⟩
    rw [ferrymanlaw16_ModelFirst_l65.eq_2]
    have : ¬ ((j : Int) < (L[b].writes.length : Int)) := by omega
    simp [rdN hb, this]
  | succ n ih =>
    intro j hj k hk
    obtain ⟨k, rfl⟩ : ∃ k', k = k' + 1 := ⟨k - 1, by omega⟩
    have hlt : j < L[b].writes.length := by omega
    have h1 : (j : Int) < (L[b].writes.length : Int) := by omega
    rw [ferrymanlaw16_ModelFirst_l65.eq_2]
    simp only [rdN ha, rdN hb, h1, decide_true, if_true, inR hi, inR hlt, and_self, rdN hi, rdN hlt, wr1 (i := j) (by omega), sbe, hne _ (List.getElem_mem hlt), decide_false, Bool.false_eq_true, if_false]
    exact ih (j + 1) (by omega) k (by omega)
theorem f63 (L : List Life) (a b : Nat) (ha : a < L.length) (hb : b < L.length) (hne : ∀ f ∈ L[a].writes, ∀ f' ∈ L[b].writes, f.key ≠ f'.key) (hA : L[a].writes.length ≤ 1000000) (hB : L[b].writes.length ≤ 1000000) : ∀ (n i : Nat), i + n = L[a].writes.length → ∀ k, n + L[b].writes.length < k →
    ferrymanlaw16_ModelFirst_l63 L (a : Int) (b : Int) k (i : Int) = some (.inr ()) := by
  intro n
  induction n with
  | zero =>
    intro i hi k hk
    obtain ⟨k, rfl⟩ : ∃ k', k = k' + 1 := ⟨k - 1, by omega⟩
    rw [ferrymanlaw16_ModelFirst_l63.eq_2]
    have : ¬ ((i : Int) < (L[a].writes.length : Int)) := by omega
    simp [rdN ha, this]
  | succ n ih =>
    intro i hi k hk
    obtain ⟨k, rfl⟩ : ∃ k', k = k' + 1 := ⟨k - 1, by omega⟩
    have hlt : i < L[a].writes.length := by omega
    have h1 : (i : Int) < (L[a].writes.length : Int) := by omega
    rw [ferrymanlaw16_ModelFirst_l63.eq_2]
    have h := f65 L a b ha hb i hlt (hne _ (List.getElem_mem hlt)) hB L[b].writes.length 0 (by omega) k (by omega)
    simp only [rdN ha, h1, decide_true, if_true, wr1 (i := i) (by omega)]
    rw [show (0 : Int) = ((0 : Nat) : Int) from rfl, h]
    exact ih (i + 1) (by omega) k (by omega)
structure Fine (B : Nat) (L : List Life) : Prop where
  ln : L.length ≤ B
  wl : ∀ x ∈ L, x.writes.length ≤ B
  bb : ∀ i j (h : i < L.length) (h' : j < L.length), i ≠ j → L[i].over ≠ 0 → L[j].over ≠ 0 → ∀ y, wrote L[i] y → wrote L[j] y → L[i].begun > L[j].over ∨ L[j].begun > L[i].over
theorem f55 {B : Nat} {L : List Life} (F : Fine B L) (hB : B ≤ 1000000) (a : Nat) (ha : a < L.length) : ∀ (n b : Nat), b + n = a → ∀ k, n + 2 * B + 1 < k → ferrymanlaw16_ModelFirst_l55 L (a : Int) k (b : Int) = some (.inr ()) := by
  have hl := F.ln
  intro n
  induction n with
  | zero =>
    intro b hb k hk
    obtain ⟨k, rfl⟩ : ∃ k', k = k' + 1 := ⟨k - 1, by omega⟩
    rw [ferrymanlaw16_ModelFirst_l55.eq_2]
    have : ¬ ((b : Int) < (a : Int)) := by omega
    simp [this]
  | succ n ih =>
    intro b hb k hk
    obtain ⟨k, rfl⟩ : ∃ k', k = k' + 1 := ⟨k - 1, by omega⟩
    have hlt : b < L.length := by omega
    have h1 : (b : Int) < (a : Int) := by omega
    have hwa := F.wl _ (List.getElem_mem ha)
    have hwb := F.wl _ (List.getElem_mem hlt)
    rw [ferrymanlaw16_ModelFirst_l55.eq_2]
    simp only [h1, decide_true, if_true, inR ha, inR hlt, and_self, rdN ha, rdN hlt, Option.bind_some, wr1 (i := b) (by omega)]
    have hn := ih (b + 1) (by omega) k (by omega)
    by_cases hc : ((((L[a].over == (0 : Int)) || (L[b].over == (0 : Int))) || (decide (L[a].begun > L[b].over))) || (decide (L[b].begun > L[a].over))) = true
    · rw [if_pos hc]; exact hn
    · rw [if_neg hc]
      have hne : ∀ f ∈ L[a].writes, ∀ f' ∈ L[b].writes, f.key ≠ f'.key := fun f hf f' hf' e => by
        simp only [Bool.or_eq_true, beq_iff_eq, decide_eq_true_eq, not_or] at hc
        have := F.bb a b ha hlt (by omega) hc.1.1.1 hc.1.1.2 f.key (lastW_mem hf) (e ▸ lastW_mem hf')
        omega
      have h := f63 L a b ha hlt hne (by omega) (by omega) L[a].writes.length 0 (by omega) k (by omega)
      rw [show (0 : Int) = ((0 : Nat) : Int) from rfl, h]
      exact hn
theorem f23 {B : Nat} {L : List Life} (F : Fine B L) (hB : B ≤ 1000000) : ∀ (n a : Nat), a + n = L.length → ∀ k, n + 3 * B + 3 < k → ferrymanlaw16_ModelFirst_l23 L k (a : Int) = some (.inr ()) := by
  have hl := F.ln
  intro n
  induction n with
  | zero =>
    intro a hi k hk
    obtain ⟨k, rfl⟩ : ∃ k', k = k' + 1 := ⟨k - 1, by omega⟩
    rw [ferrymanlaw16_ModelFirst_l23.eq_2]
    have : ¬ ((a : Int) < (L.length : Int)) := by omega
    simp [this]
  | succ n ih =>
    intro a hi k hk
    obtain ⟨k, rfl⟩ : ∃ k', k = k' + 1 := ⟨k - 1, by omega⟩
    have hlt : a < L.length := by omega
    have h1 : (a : Int) < (L.length : Int) := by omega
    rw [ferrymanlaw16_ModelFirst_l23.eq_2]
    have h := f55 F hB a hlt a 0 (by omega) k (by omega)
    simp only [h1, decide_true, if_true, wr1 (i := a) (by omega)]
    rw [show (0 : Int) = ((0 : Nat) : Int) from rfl, h]
    exact ih (a + 1) (by omega) k (by omega)
theorem first_l0 (a : List Turn) (ha : a.length ≤ 500) : ∀ (j i : Nat) (m : Mod) (g : Log), i + j = a.length → Inv i m → Ok m → Lg m g → Bd i g → Fs m g.lives (i : Int) →
    ∃ r : Int × List Fact × List Life, Ev (fun k => ferrymanlaw16_ModelFirst_l0 a k (i : Int) g.time g.facts g.lives m) r ∧ Fine 500 r.2.2 := by
  intro j
  induction j with
  | zero =>
    intro i m g hi I O R B F
    refine ⟨(g.time, g.facts, g.lives), Ev.shift 1 ⟨0, fun k hk => ?_⟩, by have := B.lv; show g.lives.length ≤ 500; omega, fun x hx => by have := B.wr x hx; omega, F.bb⟩
    show ferrymanlaw16_ModelFirst_l0 a (k + 1) (i : Int) _ _ _ _ = _
    rw [ferrymanlaw16_ModelFirst_l0.eq_2]
    have : ¬ ((i : Int) < (a.length : Int)) := by omega
    simp [this]
  | succ j ih =>
    intro i m g hi I O R B F
    have hlt : i < a.length := by omega
    have h3 : (i : Int) < (a.length : Int) := by omega
    have S := R.step I ((i : Int) + 1) a[i]
    obtain ⟨r, hr, hr2⟩ := ih (i + 1) (doT m a[i]).2 (noteS g ((i : Int) + 1) a[i] (doT m a[i]).1) (by omega) (I.do_ _ _) (Ok.do_ I O _ _) (R.next I O S) (B.note (by omega) _ _ _) (F.next I O R (by omega) S)
    refine ⟨r, Ev.shift 1 (Ev.congr (g := fun k => _) ?_ (fun k => by rw [ferrymanlaw16_ModelFirst_l0.eq_2])), hr2⟩
    rw [wr1 (i := i) (by omega), rdN hlt]
    refine Ev.pos (by simpa using h3) (Ev.pos (inR hlt) (Ev.pos (inR hlt) (Ev.pos (inR hlt) ?_)))
    refine Ev.bind (v := doT m a[i]) (do_ev I (by omega) _ _) ?_
    exact Ev.bind (note_ev B (by omega) _ _ _) hr
theorem pure_ModelFirst (a0 : api_Config) (a1 : (List ferrymanlaw16_Turn)) (_ : wf_api_Config a0) (w1 : (wfSl wf_ferrymanlaw16_Turn) a1) : ∃ k, ferrymanlaw16_ModelFirst k a0 a1 = some true := by
  refine Ev.ex (f := fun k => ferrymanlaw16_ModelFirst k a0 a1) ?_
  have b1 : a1.length ≤ 9223372036854775807 := Nat.le_trans w1.1 (by decide)
  unfold ferrymanlaw16_ModelFirst
  refine works_ev.bind ?_
  obtain ⟨x, hx, hx2⟩ := large_ev a1 b1
  refine Ev.bind (v := x) (Ev.neg (by simp) (hx.bind (Ev.pure _))) ?_
  cases x with
  | true => exact Ev.pos rfl (works_ev.bind (Ev.pure _))
  | false =>
    have l1 := hx2 rfl
    refine Ev.neg (by simp) ?_
    refine Ev.bind ⟨9, fun k hk => New_eq k hk a0⟩ ?_
    cases hm : mayB a0 with
    | false => exact Ev.pure _
    | true =>
      have O0 : Ok (newS a0) := ⟨fun p hp => (by cases hp), fun p hp => (by cases hp)⟩
      have R0 : Lg (newS a0) ⟨0, [], []⟩ := ⟨rfl, ⟨rfl, fun t n w => ⟨fun h => (by cases h), fun ⟨i, h, _⟩ => (by cases h)⟩, fun t => rfl, fun i h => (by cases h), fun i h => (by cases h)⟩, ⟨fun y hy => absurd rfl hy, fun i h => (by cases h)⟩⟩
      have B0 : Bd 0 (⟨0, [], []⟩ : Log) := ⟨by simp, fun x hx => (by cases hx), by simp, by simp⟩
      have F0 : Fs (newS a0) [] ((0 : Nat) : Int) := ⟨fun i h => (by cases h), fun i h => (by cases h), fun i h => (by cases h), fun i _ h => (by cases h), fun i _ h => (by cases h), fun i _ h => (by cases h)⟩
      obtain ⟨r, hr, hr2⟩ := first_l0 a1 (by omega) a1.length 0 (newS a0) ⟨0, [], []⟩ (by omega) (Inv.new a0) O0 R0 B0 F0
      refine Ev.bind hr ?_
      obtain ⟨r1, r2, r3⟩ := r
      refine Ev.bind (v := .inr ()) ⟨r3.length + 2000, fun k hk => ?_⟩ (Ev.pure _)
      have hr3 : Fine 500 r3 := hr2
      exact f23 hr3 (by decide) r3.length 0 (by omega) k (by omega)
end Go.Proofs.YtcngjjlhdlbogaaDoor
