/-  Two models, one of which was vacuumed: what is told is the same. -/
import Derived.Test.YtcngjjlhdlbogaaDoorPureRun
namespace Go.Proofs.YtcngjjlhdlbogaaDoor
open Go Go.RowKit
set_option linter.unusedVariables false
set_option linter.unusedSimpArgs false
set_option maxRecDepth 100000
theorem kept_kept : ∀ (l : List Ver) (f g : Int), kept (kept l f) g = kept l (if f ≤ g then g else f)
  | [], _, _ => by simp [kept]
  | v :: t, f, g => by
    have ih := kept_kept t f g
    by_cases h : f ≤ g
    · simp only [h, if_true] at ih ⊢
      by_cases h1 : v.TS ≤ f
      · have h2 : v.TS ≤ g := by omega
        cases ht : v.Tomb <;> simp [kept, h1, h2, ht]
      · by_cases h2 : v.TS ≤ g
        · simp [kept, h1, h2]
        · simp [kept, h1, h2, ih]
    · simp only [h, if_false] at ih ⊢
      by_cases h1 : v.TS ≤ f
      · by_cases h2 : v.TS ≤ g
        · cases ht : v.Tomb <;> simp [kept, h1, h2, ht]
        · cases ht : v.Tomb <;> simp [kept, h1, h2, ht]
      · have h2 : ¬ v.TS ≤ g := by omega
        simp [kept, h1, h2, ih]
theorem floor_le : ∀ (l : List model_tx) (f : Int), floorL l f ≤ f
  | [], f => Int.le_refl _
  | x :: t, f => by
    unfold floorL
    refine Int.le_trans (floor_le t _) ?_
    split
    · unfold imin; split <;> omega
    · exact Int.le_refl _
theorem floor_act : ∀ (l : List model_tx) (f : Int), ∀ x ∈ l, x.state = 1 → floorL l f ≤ x.snapshot
  | [], f, x, hx, _ => by cases hx
  | a :: t, f, x, hx, h => by
    unfold floorL
    rcases List.mem_cons.1 hx with rfl | hx
    · refine Int.le_trans (floor_le t _) ?_
      rw [if_pos h]; unfold imin; split <;> omega
    · exact floor_act t _ x hx h
theorem gone_nil {r : model_row} : gone r = true ↔ r.l = [] ∧ r.intent.Writer = 0 := by simp [gone, List.length_eq_zero_iff]
/-! ### rows -/
structure Ok (m : Mod) : Prop where
  gn : ∀ p ∈ m.rows, gone p.2 = false
  iw : ∀ p ∈ m.rows, p.2.intent.Writer = 0 → p.2.intent = ⟨0, 0, false, []⟩
theorem mget_in {k : Str} {v : model_row} : ∀ {l : List (Str × model_row)}, (l.map (·.1)).Nodup → (k, v) ∈ l → mget l k = some v
  | [], _, h => by cases h
  | (a, b) :: l, hn, h => by
    have h2 := List.nodup_cons.1 (show (a :: l.map (·.1)).Nodup from hn)
    rw [mget_cons]
    rcases List.mem_cons.1 h with h | h
    · cases h; rw [if_pos rfl]
    · rw [if_neg (fun e => h2.1 (by subst e; exact List.mem_map_of_mem (f := (·.1)) h))]
      exact mget_in h2.2 h
theorem row_in {n : Nat} {m : Mod} (I : Inv n m) {p : Str × model_row} (hp : p ∈ m.rows) : rowOf m p.1 = p.2 := by
  unfold rowOf; rw [mget_in I.nd hp]; rfl
theorem Ok.row {m : Mod} (O : Ok m) (y : Str) : (rowOf m y).intent.Writer = 0 → (rowOf m y).intent = ⟨0, 0, false, []⟩ := by
  unfold rowOf
  cases h : mget m.rows y with
  | none => intro _; rfl
  | some r => exact O.iw _ (mget_mem h)
theorem Ok.key {m : Mod} (O : Ok m) (y : Str) : y ∈ m.rows.map (·.1) ↔ gone (rowOf m y) = false := by
  unfold rowOf
  cases h : mget m.rows y with
  | none => exact ⟨fun g => absurd g (mget_none.1 h), fun g => by cases g⟩
  | some r => exact ⟨fun _ => O.gn _ (mget_mem h), fun _ => mget_some.1 (by rw [h]; rfl)⟩
theorem mget_each {one : model_row → model_row} {y : Str} : ∀ {l : List (Str × model_row)}, (l.map (·.1)).Nodup → mget (eachS one l) y = (mget l y).bind fun r => if gone (one r) = true then none else some (one r)
  | [], _ => rfl
  | (a, u) :: l, hn => by
    have h2 := List.nodup_cons.1 (show (a :: l.map (·.1)).Nodup from hn)
    have ih := mget_each (one := one) (y := y) h2.2
    have hr : (eachS one ((a, u) :: l)) = (if gone (one u) = true then [] else [(a, one u)]) ++ eachS one l := by
      simp only [eachS, List.filterMap_cons]; split <;> simp_all
    rw [hr, mget_cons]
    by_cases e : a = y
    · subst e
      rw [if_pos rfl, Option.bind_some]
      have h0 : mget (eachS one l) a = none := mget_none.2 fun h => h2.1 ((eachS_keys one l).subset h)
      cases hg : gone (one u) with
      | true => simp [h0]
      | false => simp [mget_cons]
    · rw [if_neg e, ← ih]
      cases hg : gone (one u) with
      | true => simp
      | false => simp [mget_cons, e]
theorem row_each {n : Nat} {m : Mod} (I : Inv n m) (O : Ok m) {one : model_row → model_row} (h0 : one nil_row = nil_row) (h1 : ∀ r : model_row, (r.intent.Writer = 0 → r.intent = ⟨0, 0, false, []⟩) → gone (one r) = true → one r = nil_row) (m' : Mod) (hm : m'.rows = eachS one m.rows) (y : Str) : rowOf m' y = one (rowOf m y) := by
  have hr := O.row y
  unfold rowOf at hr ⊢
  rw [hm, mget_each I.nd]
  cases h : mget m.rows y with
  | none => simp [h0]
  | some r =>
    rw [h] at hr
    simp only [Option.bind_some, Option.getD_some] at hr ⊢
    cases hg : gone (one r) with
    | true => simp [h1 r hr hg]
    | false => simp
theorem kept_gone (f : Int) (r : model_row) (h : r.intent.Writer = 0 → r.intent = ⟨0, 0, false, []⟩) (g : gone (keptRow f r) = true) : keptRow f r = nil_row := by
  have h2 := gone_nil.1 g
  have h3 : (keptRow f r).intent = ⟨0, 0, false, []⟩ := h h2.2
  generalize keptRow f r = q at *
  cases q; simp_all [nil_row]
theorem endRow_iw {w ts : Int} {r : model_row} (h : r.intent.Writer = 0 → r.intent = ⟨0, 0, false, []⟩) : (endRow w ts r).intent.Writer = 0 → (endRow w ts r).intent = ⟨0, 0, false, []⟩ := by
  unfold endRow
  split
  · exact h
  · intro _; rfl
theorem end_gone {w ts : Int} (r : model_row) (h : r.intent.Writer = 0 → r.intent = ⟨0, 0, false, []⟩) (g : gone (endRow w ts r) = true) : endRow w ts r = nil_row := by
  have h2 := gone_nil.1 g
  have h3 := endRow_iw (w := w) (ts := ts) h h2.2
  generalize endRow w ts r = q at *
  cases q; simp_all [nil_row]
theorem end_nil {w ts : Int} (hw : 1 ≤ w) : endRow w ts nil_row = nil_row := by
  unfold endRow; rw [if_pos (by show (0 : Int) ≠ w; omega)]
theorem Ok.each {m : Mod} (O : Ok m) {one : model_row → model_row} (h : ∀ r : model_row, (r.intent.Writer = 0 → r.intent = ⟨0, 0, false, []⟩) → (one r).intent.Writer = 0 → (one r).intent = ⟨0, 0, false, []⟩) (m' : Mod) (hm : m'.rows = eachS one m.rows) : Ok m' where
  gn := fun q hq => by rw [hm] at hq; obtain ⟨p, _, hg, rfl⟩ := eachS_mem.1 hq; exact hg
  iw := fun q hq => by rw [hm] at hq; obtain ⟨p, hp, _, rfl⟩ := eachS_mem.1 hq; exact h _ (O.iw p hp)
theorem Ok.vac {m : Mod} (O : Ok m) : Ok (vacS m) := O.each (one := keptRow (floorL m.txs m.clock)) (fun r h => h) _ rfl
theorem Ok.end_ {m : Mod} (O : Ok m) (w st ts : Int) (c : Int) : Ok (endS { m with clock := c } w st ts) := O.each (one := endRow w ts) (fun r h => endRow_iw h) _ rfl
theorem Ok.write {n : Nat} {m : Mod} (I : Inv n m) (O : Ok m) (key : Str) (v : api_Version) (hv : 1 ≤ v.Writer) : Ok (writeS m key v).2 := by
  unfold writeS
  dsimp only
  split
  · exact O
  split
  · exact O
  split
  · exact O
  have h0 : v.Writer ≠ 0 := by omega
  refine ⟨fun p hp => ?_, fun p hp => ?_⟩
  · rcases (mput_mem I.nd p).1 hp with rfl | ⟨h, _⟩
    · simp [gone, h0]
    · exact O.gn p h
  · rcases (mput_mem I.nd p).1 hp with rfl | ⟨h, _⟩
    · exact fun h => absurd h h0
    · exact O.iw p h
theorem Ok.do_ {n : Nat} {m : Mod} (I : Inv n m) (O : Ok m) (t : Int) (x : api_Call) : Ok (doS m t x).2 := by
  unfold doS
  by_cases h0 : refS m t x = 0
  · rw [if_neg (by simpa using h0)]
    have hw := fun hk => refS_tx I h0 hk
    unfold actS
    split
    · unfold beginS; split
      · exact O
      · exact ⟨O.gn, O.iw⟩
    split
    · exact O
    split
    · exact Ok.write I O _ _ (hw (by omega)).1
    split
    · exact Ok.write I O _ _ (hw (by omega)).1
    split
    · exact O
    split
    · unfold commitS
      split
      · exact O.end_ _ _ _ m.clock
      split
      · exact O.end_ _ _ _ m.clock
      · exact O.end_ _ _ _ _
    split
    · exact O.end_ _ _ _ m.clock
    split
    · exact O.vac
    · exact O
  · rw [if_pos (by simpa using h0)]; exact O
/-! ### keys are not too many -/
def Ky (m : Mod) : Prop := (m.rows.length : Int) ≤ m.c.Keys
theorem Ky.each {m m' : Mod} (K : Ky m) (one : model_row → model_row) (hm : m'.rows = eachS one m.rows) (hc : m'.c = m.c) : Ky m' := by
  have h := eachS_len one m.rows
  unfold Ky at *
  rw [hm, hc]; omega
theorem Ky.write {m : Mod} (K : Ky m) (key : Str) (v : api_Version) : Ky (writeS m key v).2 := by
  unfold writeS
  dsimp only
  split
  · exact K
  split
  · exact K
  split
  · exact K
  next c3 =>
    unfold Ky at *
    show ((mput m.rows key _).length : Int) ≤ m.c.Keys
    rw [mput_length]
    cases h : mget m.rows key with
    | some r => simpa using K
    | none =>
      have e : rowOf m key = nil_row := by unfold rowOf; rw [h]; rfl
      have hk : ¬ (m.rows.length : Int) ≥ m.c.Keys := fun hk => c3 ⟨by rw [e], .inl ⟨by rw [e], hk⟩⟩
      simp; omega
theorem Ky.do_ {m : Mod} (K : Ky m) (t : Int) (x : api_Call) : Ky (doS m t x).2 := by
  unfold doS
  split
  · exact K
  unfold actS
  split
  · unfold beginS; split <;> exact K
  split
  · exact K
  split
  · exact K.write _ _
  split
  · exact K.write _ _
  split
  · exact K
  split
  · unfold commitS
    split
    · exact K.each (endRow _ 0) rfl rfl
    split
    · exact K.each (endRow _ 0) rfl rfl
    · exact K.each (m' := endS { m with clock := m.clock + 1 } (txS m t x.Tx).1 3 (m.clock + 1)) (endRow _ (m.clock + 1)) rfl rfl
  split
  · exact K.each (endRow _ 0) rfl rfl
  split
  · exact K.each (keptRow _) rfl rfl
  · exact K
/-! ### one of two is vacuumed -/
def Fl (m : Mod) (f : Int) : Prop := f ≤ m.clock ∧ ∀ x ∈ m.txs, x.state = 1 → f ≤ x.snapshot
structure Vc (m n : Mod) : Prop where
  c : n.c = m.c
  tx : n.txs = m.txs
  nm : n.names = m.names
  mn : n.many = m.many
  ck : n.clock = m.clock
  rw_ : ∀ y, ∃ f, Fl m f ∧ rowOf n y = ⟨kept (rowOf m y).l f, (rowOf m y).intent⟩
theorem Vc.vac {b : Nat} {m n : Mod} (V : Vc m n) (J : Inv b n) (O : Ok n) : Vc m (vacS n) where
  c := V.c
  tx := V.tx
  nm := V.nm
  mn := V.mn
  ck := V.ck
  rw_ := fun y => by
    obtain ⟨f, hf, e⟩ := V.rw_ y
    have hF : Fl m (floorL n.txs n.clock) := ⟨by rw [← V.ck]; exact floor_le _ _, fun x hx h => floor_act _ _ x (by rw [V.tx]; exact hx) h⟩
    refine ⟨if f ≤ floorL n.txs n.clock then floorL n.txs n.clock else f, by split <;> assumption, ?_⟩
    rw [row_each J O (one := keptRow (floorL n.txs n.clock)) rfl (fun r h g => kept_gone _ r h g) (vacS n) rfl y, e]
    unfold keptRow
    rw [kept_kept]
theorem Vc.see {m n : Mod} (V : Vc m n) {w : Int} (h1 : 1 ≤ w) (h2 : w ≤ (m.txs.length : Int)) (ha : (rd m.txs (w - 1)).state = 1) (y : Str) : seeS n w (rowOf n y) = seeS m w (rowOf m y) := by
  obtain ⟨f, hf, e⟩ := V.rw_ y
  obtain ⟨j, hj⟩ := Int.eq_ofNat_of_zero_le (show 0 ≤ w - 1 by omega)
  have hjl : j < m.txs.length := by omega
  have hs : f ≤ (rd m.txs (w - 1)).snapshot := by
    rw [hj, rdN hjl] at ha ⊢
    exact hf.2 _ (List.getElem_mem hjl) ha
  unfold seeS
  rw [e, V.tx]
  dsimp only
  rw [seen_kept _ _ _ hs]
theorem Vc.clash {m n : Mod} (V : Vc m n) {w : Int} (h1 : 1 ≤ w) (h2 : w ≤ (m.txs.length : Int)) (ha : (rd m.txs (w - 1)).state = 1) (y : Str) : clash (rowOf n y).l (rd n.txs (w - 1)).snapshot = clash (rowOf m y).l (rd m.txs (w - 1)).snapshot := by
  obtain ⟨f, hf, e⟩ := V.rw_ y
  obtain ⟨j, hj⟩ := Int.eq_ofNat_of_zero_le (show 0 ≤ w - 1 by omega)
  have hjl : j < m.txs.length := by omega
  have hs : f ≤ (rd m.txs (w - 1)).snapshot := by
    rw [hj, rdN hjl] at ha ⊢
    exact hf.2 _ (List.getElem_mem hjl) ha
  rw [e, V.tx]
  exact clash_kept _ _ _ hs
theorem Vc.key {m n : Mod} (V : Vc m n) (O : Ok m) (Q : Ok n) {y : Str} (h : y ∈ n.rows.map (·.1)) : y ∈ m.rows.map (·.1) := by
  rw [O.key]; rw [Q.key] at h
  obtain ⟨f, hf, e⟩ := V.rw_ y
  cases hg : gone (rowOf m y) with
  | false => rfl
  | true =>
    have h2 := gone_nil.1 hg
    rw [e] at h
    have : gone ⟨kept (rowOf m y).l f, (rowOf m y).intent⟩ = true := gone_nil.2 ⟨by rw [h2.1]; rfl, h2.2⟩
    rw [this] at h; cases h
theorem nodup_len {A B : List Str} (hA : A.Nodup) (h : ∀ y ∈ A, y ∈ B) : A.length ≤ B.length := by
  induction A generalizing B with
  | nil => simp
  | cons a A ih =>
    obtain ⟨u, v, e⟩ := List.append_of_mem (h a List.mem_cons_self)
    have h2 := List.nodup_cons.1 hA
    have := ih (B := u ++ v) h2.2 fun y hy => by
      have := h y (List.mem_cons_of_mem _ hy)
      rw [e] at this
      rcases List.mem_append.1 this with g | g
      · exact List.mem_append_left _ g
      · rcases List.mem_cons.1 g with g | g
        · subst g; exact absurd hy h2.1
        · exact List.mem_append_right _ g
    rw [e]; simp at this ⊢; omega
theorem Vc.len {a b : Nat} {m n : Mod} (V : Vc m n) (I : Inv a m) (J : Inv b n) (O : Ok m) (Q : Ok n) : n.rows.length ≤ m.rows.length := by
  have := nodup_len J.nd (B := m.rows.map (·.1)) fun y hy => V.key O Q hy
  simpa using this
theorem Vc.less {a b : Nat} {m n : Mod} (V : Vc m n) (I : Inv a m) (J : Inv b n) (O : Ok m) (Q : Ok n) {y : Str} (h : y ∈ m.rows.map (·.1)) (h2 : y ∉ n.rows.map (·.1)) : n.rows.length + 1 ≤ m.rows.length := by
  have := nodup_len (A := y :: n.rows.map (·.1)) (List.nodup_cons.2 ⟨h2, J.nd⟩) (B := m.rows.map (·.1)) fun z hz => by
    rcases List.mem_cons.1 hz with rfl | hz
    · exact h
    · exact V.key O Q hz
  simpa using this
theorem Vc.act {m n : Mod} (V : Vc m n) : activeN n = activeN m := by unfold activeN; rw [V.tx]
theorem Vc.tx_ {m n : Mod} (V : Vc m n) (t x : Int) : txS n t x = txS m t x := by unfold txS; rw [V.nm, V.tx]
theorem Vc.ref {m n : Mod} (V : Vc m n) (t : Int) (x : api_Call) : refS n t x = refS m t x := by unfold refS; rw [V.tx_, V.c]
theorem Vc.end_ {a b : Nat} {m n : Mod} (V : Vc m n) (I : Inv a m) (J : Inv b n) (O : Ok m) (Q : Ok n) {w st ts c : Int} (hw : 1 ≤ w) (hs : st ≠ 1) (ht : ts > 0 → m.clock < ts) (hc : m.clock ≤ c) :
    Vc (endS { m with clock := c } w st ts) (endS { n with clock := c } w st ts) where
  c := V.c
  tx := by unfold endS; dsimp only; rw [V.tx]
  nm := V.nm
  mn := V.mn
  ck := rfl
  rw_ := fun y => by
    obtain ⟨f, hf, e⟩ := V.rw_ y
    refine ⟨f, ⟨Int.le_trans hf.1 hc, fun x hx h => ?_⟩, ?_⟩
    · rcases List.mem_or_eq_of_mem_set hx with g | g
      · exact hf.2 x g h
      · subst g; exact absurd h hs
    · rw [row_each J Q (one := endRow w ts) (end_nil hw) (fun r h g => end_gone r h g) (endS { n with clock := c } w st ts) rfl y, row_each I O (one := endRow w ts) (end_nil hw) (fun r h g => end_gone r h g) (endS { m with clock := c } w st ts) rfl y, e]
      unfold endRow
      dsimp only
      by_cases q : (rowOf m y).intent.Writer ≠ w
      · rw [if_pos q, if_pos q]
      · rw [if_neg q, if_neg q]
        by_cases g : ts > 0
        · have h1 := ht g
          have h2 := hf.1
          have h3 : ¬ ts ≤ f := by omega
          simp only [g, if_true, kept, h3, if_false]
        · simp only [g, if_false]
theorem any_row {a : Nat} {m : Mod} (I : Inv a m) {w : Int} (hw : 1 ≤ w) : (m.rows.any fun p => p.2.intent.Writer == w) = true ↔ ∃ y, (rowOf m y).intent.Writer = w := by
  rw [List.any_eq_true]
  constructor
  · rintro ⟨p, hp, h⟩
    exact ⟨p.1, by rw [row_in I hp]; simpa using h⟩
  · rintro ⟨y, h⟩
    unfold rowOf at h
    cases hm : mget m.rows y with
    | none => rw [hm] at h; exact absurd h (by show (0 : Int) ≠ w; omega)
    | some r => rw [hm] at h; exact ⟨_, mget_mem hm, by simpa using h⟩
theorem Vc.any {a b : Nat} {m n : Mod} (V : Vc m n) (I : Inv a m) (J : Inv b n) {w : Int} (hw : 1 ≤ w) : (n.rows.any fun p => p.2.intent.Writer == w) = (m.rows.any fun p => p.2.intent.Writer == w) := by
  rw [Bool.eq_iff_iff, any_row I hw, any_row J hw]
  have h : ∀ y, (rowOf n y).intent = (rowOf m y).intent := fun y => by obtain ⟨f, _, e⟩ := V.rw_ y; rw [e]
  simp only [h]
/-! ### scans -/
theorem scanL_full {m : Mod} {w : Int} {x : api_Call} {out : List api_Pair} (h : (out.length : Int) = x.Limit) : ∀ L : List Str, scanL m w x L out = out
  | [] => rfl
  | y :: t => by unfold scanL; rw [if_pos h]
def vis (m : Mod) (w : Int) (x : api_Call) (y : Str) : Bool := (seeS m w (rowOf m y)).2 && withinB y x.Key x.End
theorem scanL_vis (m : Mod) (w : Int) (x : api_Call) : ∀ (L : List Str) (out : List api_Pair), scanL m w x L out = scanL m w x (L.filter (vis m w x)) out
  | [], out => rfl
  | y :: t, out => by
    by_cases h : (out.length : Int) = x.Limit
    · rw [scanL_full h, scanL_full h]
    · have ih := scanL_vis m w x t
      rw [List.filter_cons]
      by_cases q : (seeS m w (rowOf m y)).2 = true ∧ withinB y x.Key x.End = true
      · have hv : vis m w x y = true := by simp [vis, q]
        rw [if_pos hv]
        unfold scanL
        rw [if_neg h, if_neg h, if_pos q]
        exact ih _
      · have hv : ¬ vis m w x y = true := by simpa [vis] using q
        rw [if_neg hv]
        conv => lhs; unfold scanL
        rw [if_neg h, if_neg q]
        exact ih _
theorem scanL_congr {m n : Mod} {w : Int} {x : api_Call} (h : ∀ y, seeS n w (rowOf n y) = seeS m w (rowOf m y)) : ∀ (L : List Str) (out : List api_Pair), scanL n w x L out = scanL m w x L out
  | [], out => rfl
  | y :: t, out => by
    unfold scanL
    rw [h y]
    split
    · rfl
    · exact scanL_congr h t _
theorem keysS_nodup {a : Nat} {m : Mod} (I : Inv a m) : (keysS m).Nodup := by unfold keysS; exact (isort_perm _).nodup_iff.2 I.nd
theorem Vc.scan {a b : Nat} {m n : Mod} (V : Vc m n) (I : Inv a m) (J : Inv b n) (O : Ok m) (Q : Ok n) {w : Int} (h1 : 1 ≤ w) (h2 : w ≤ (m.txs.length : Int)) (ha : (rd m.txs (w - 1)).state = 1) (x : api_Call) : scanS n w x = scanS m w x := by
  have hs := V.see h1 h2 ha
  unfold scanS
  congr 1
  rw [scanL_vis m, scanL_vis n, scanL_congr hs]
  have hv : vis n w x = vis m w x := by funext y; unfold vis; rw [hs y]
  rw [hv]
  congr 1
  refine sorted_eq cfS_total ?_ ((isort_sorted cfS_swo _).filter _) ((isort_sorted cfS_swo _).filter _)
  refine (List.perm_ext_iff_of_nodup ((keysS_nodup J).filter _) ((keysS_nodup I).filter _)).2 fun y => ?_
  rw [List.mem_filter, List.mem_filter, keysS_mem, keysS_mem]
  constructor
  · rintro ⟨h, g⟩; exact ⟨V.key O Q h, g⟩
  · rintro ⟨h, g⟩
    refine ⟨?_, g⟩
    rw [Q.key]
    cases hg : gone (rowOf n y) with
    | false => rfl
    | true =>
      have h3 := gone_nil.1 hg
      have h4 : (seeS n w (rowOf n y)).2 = false := by
        unfold seeS
        rw [h3.1, h3.2, if_neg (by omega)]; rfl
      rw [← hv] at g
      simp [vis, h4] at g
/-! ### what is retained -/
theorem retS_app (m : Mod) : ∀ A B : List Str, retS m (A ++ B) = retS m A + retS m B
  | [], B => by simp [retS]
  | y :: t, B => by simp only [List.cons_append, retS, retS_app m t B]; omega
theorem retS_nn {a : Nat} {m : Mod} (I : Inv a m) (L : List Str) : 0 ≤ retS m L := (retS_bound I L).1
theorem ret_mono {a : Nat} {m n : Mod} (I : Inv a m) (h : ∀ y, ((rowOf n y).l.length : Int) + imin 1 (rowOf n y).intent.Writer ≤ ((rowOf m y).l.length : Int) + imin 1 (rowOf m y).intent.Writer) : ∀ A B : List Str, A.Nodup → (∀ y ∈ A, y ∈ B) → retS n A ≤ retS m B
  | [], B, _, _ => by have := retS_nn I B; simpa [retS] using this
  | y :: A, B, hn, hB => by
    obtain ⟨u, v, e⟩ := List.append_of_mem (hB y List.mem_cons_self)
    have h2 := List.nodup_cons.1 hn
    have ih := ret_mono I h A (u ++ v) h2.2 fun z hz => by
      have := hB z (List.mem_cons_of_mem _ hz)
      rw [e] at this
      rcases List.mem_append.1 this with g | g
      · exact List.mem_append_left _ g
      · rcases List.mem_cons.1 g with g | g
        · subst g; exact absurd hz h2.1
        · exact List.mem_append_right _ g
    have := h y
    rw [e]
    rw [retS_app] at ih ⊢
    simp only [retS]; omega
theorem Vc.ret {a b : Nat} {m n : Mod} (V : Vc m n) (I : Inv a m) (J : Inv b n) (O : Ok m) (Q : Ok n) : retS n (keysS n) ≤ retS m (keysS m) := by
  refine ret_mono I (fun y => ?_) _ _ (keysS_nodup J) fun y hy => keysS_mem.2 (V.key O Q (keysS_mem.1 hy))
  obtain ⟨f, _, e⟩ := V.rw_ y
  have := kept_len (rowOf m y).l f
  rw [e]; dsimp only; omega
/-! ### a call -/
theorem Vc.do_ {a b : Nat} {m n : Mod} (V : Vc m n) (I : Inv a m) (J : Inv b n) (O : Ok m) (Q : Ok n) (K : Ky m) (t : Int) (x : api_Call) (h8 : x.Kind ≠ 8) (hf : (doS m t x).1.Err ≠ 34) :
    (doS n t x).1 = (doS m t x).1 ∧ Vc (doS m t x).2 (doS n t x).2 := by
  unfold doS at hf ⊢
  rw [V.ref]
  by_cases h0 : refS m t x = 0
  case neg => rw [if_pos h0, if_pos h0]; exact ⟨rfl, V⟩
  rw [if_neg (by simpa using h0)] at hf
  rw [if_neg (by simpa using h0), if_neg (by simpa using h0), V.tx_]
  have hw := fun hk => refS_tx I h0 hk
  generalize (txS m t x.Tx).1 = w at *
  unfold actS at hf ⊢
  by_cases c1 : x.Kind = 1
  · rw [if_pos c1] at hf
    rw [if_pos c1, if_pos c1]
    unfold beginS at hf ⊢
    rw [V.act, V.c]
    by_cases ca : (activeN m : Int) ≥ m.c.Active
    · rw [if_pos ca] at hf; exact absurd rfl hf
    · rw [if_neg ca, if_neg ca]
      refine ⟨rfl, (by first | exact V.c | rfl), by simp only [V.tx, V.ck], by simp only [V.nm, V.mn, V.tx], by simp only [V.mn], V.ck, fun y => ?_⟩
      obtain ⟨f, hf, e⟩ := V.rw_ y
      refine ⟨f, ⟨hf.1, fun z hz h => ?_⟩, e⟩
      rcases List.mem_append.1 hz with g | g
      · exact hf.2 z g h
      · simp only [List.mem_singleton] at g
        subst g; exact hf.1
  rw [if_neg c1] at hf
  rw [if_neg c1, if_neg c1]
  by_cases c2 : x.Kind = 2
  · obtain ⟨w1, w2, _, w4⟩ := hw (by omega)
    rw [if_pos c2, if_pos c2]
    refine ⟨?_, V⟩
    show getS n w x = getS m w x
    unfold getS
    rw [V.see w1 w2 w4]
  rw [if_neg c2] at hf
  rw [if_neg c2, if_neg c2]
  have wr_ : ∀ v : api_Version, v.Writer = w → 1 ≤ w → w ≤ (m.txs.length : Int) → (rd m.txs (w - 1)).state = 1 → (writeS m x.Key v).1.Err ≠ 34 → (writeS n x.Key v).1 = (writeS m x.Key v).1 ∧ Vc (writeS m x.Key v).2 (writeS n x.Key v).2 := fun v hv w1 w2 w4 hf => by
    obtain ⟨f, hF, e⟩ := V.rw_ x.Key
    have hi : (rowOf n x.Key).intent = (rowOf m x.Key).intent := by rw [e]
    have hl : (rowOf n x.Key).l = kept (rowOf m x.Key).l f := by rw [e]
    unfold writeS at hf ⊢
    dsimp only at hf ⊢
    rw [hv] at hf ⊢
    rw [V.clash w1 w2 w4, V.see w1 w2 w4, hi]
    by_cases d1 : (rowOf m x.Key).intent.Writer ≠ w ∧ (rowOf m x.Key).intent.Writer ≠ 0 ∨ Go.Proofs.YtcngjjlhdlbogaaDoor.clash (rowOf m x.Key).l (rd m.txs (w - 1)).snapshot = true
    · rw [if_pos d1, if_pos d1]; exact ⟨rfl, V⟩
    rw [if_neg d1] at hf
    rw [if_neg d1, if_neg d1]
    by_cases d2 : v.Tomb = true ∧ (seeS m w (rowOf m x.Key)).2 = false
    · rw [if_pos d2, if_pos d2]; exact ⟨rfl, V⟩
    rw [if_neg d2] at hf
    rw [if_neg d2, if_neg d2]
    by_cases d3 : (rowOf m x.Key).intent.Writer = 0 ∧ ((rowOf m x.Key).l = [] ∧ (m.rows.length : Int) ≥ m.c.Keys ∨ ((rowOf m x.Key).l.length : Int) ≥ m.c.Depth)
    · rw [if_pos d3] at hf; exact absurd rfl hf
    have d4 : ¬ ((rowOf m x.Key).intent.Writer = 0 ∧ ((rowOf n x.Key).l = [] ∧ (n.rows.length : Int) ≥ n.c.Keys ∨ ((rowOf n x.Key).l.length : Int) ≥ n.c.Depth)) := by
      rintro ⟨g0, g⟩
      rw [V.c, hl] at g
      have hk := kept_len (rowOf m x.Key).l f
      have hn := V.len I J O Q
      rcases g with ⟨g1, g2⟩ | g1
      · by_cases hz : (rowOf m x.Key).l = []
        · exact d3 ⟨g0, .inl ⟨hz, by omega⟩⟩
        · have i1 : x.Key ∈ m.rows.map (·.1) := by
            rw [O.key]
            cases hg : gone (rowOf m x.Key) with
            | false => rfl
            | true => exact absurd (gone_nil.1 hg).1 hz
          have i2 : x.Key ∉ n.rows.map (·.1) := fun h => by
            rw [Q.key] at h
            have : gone (rowOf n x.Key) = true := gone_nil.2 ⟨by rw [hl]; exact g1, by rw [hi]; exact g0⟩
            rw [this] at h; cases h
          have := V.less I J O Q i1 i2
          unfold Ky at K
          omega
      · exact d3 ⟨g0, .inr (by omega)⟩
    rw [if_neg d3, if_neg d4]
    refine ⟨rfl, V.c, V.tx, V.nm, V.mn, V.ck, fun y => ?_⟩
    unfold rowOf
    dsimp only
    rw [mget_mput, mget_mput]
    by_cases hy : x.Key = y
    · rw [if_pos hy, if_pos hy]
      exact ⟨f, hF, by simp only [Option.getD_some]; rw [show (((mget n.rows x.Key).getD nil_row).l) = kept (rowOf m x.Key).l f from hl]; rfl⟩
    · rw [if_neg hy, if_neg hy]
      exact V.rw_ y
  by_cases c3 : x.Kind = 3
  · obtain ⟨w1, w2, _, w4⟩ := hw (by omega)
    rw [if_pos c3] at hf
    rw [if_pos c3, if_pos c3]
    exact wr_ _ rfl w1 w2 w4 hf
  rw [if_neg c3] at hf
  rw [if_neg c3, if_neg c3]
  by_cases c4 : x.Kind = 4
  · obtain ⟨w1, w2, _, w4⟩ := hw (by omega)
    rw [if_pos c4] at hf
    rw [if_pos c4, if_pos c4]
    exact wr_ _ rfl w1 w2 w4 hf
  rw [if_neg c4] at hf
  rw [if_neg c4, if_neg c4]
  by_cases c5 : x.Kind = 5
  · obtain ⟨w1, w2, _, w4⟩ := hw (by omega)
    rw [if_pos c5, if_pos c5]
    exact ⟨V.scan I J O Q w1 w2 w4 x, V⟩
  rw [if_neg c5, if_neg c5]
  by_cases c6 : x.Kind = 6
  · obtain ⟨w1, w2, _, w4⟩ := hw (by omega)
    rw [if_pos c6, if_pos c6]
    unfold commitS
    rw [V.any I J w1, V.ck, V.c]
    split
    · refine ⟨rfl, ?_⟩
      have := V.end_ I J O Q (st := 3) (ts := 0) (c := m.clock) w1 (by decide) (fun h => absurd h (by decide)) (Int.le_refl _)
      have e : ({ n with clock := m.clock } : Mod) = n := by rw [← V.ck]
      rw [e] at this; exact this
    split
    · refine ⟨rfl, ?_⟩
      have := V.end_ I J O Q (st := 4) (ts := 0) (c := m.clock) w1 (by decide) (fun h => absurd h (by decide)) (Int.le_refl _)
      have e : ({ n with clock := m.clock } : Mod) = n := by rw [← V.ck]
      rw [e] at this; exact this
    · have h := V.end_ I J O Q (st := 3) (ts := m.clock + 1) (c := m.clock + 1) w1 (by decide) (by omega) (by omega)
      rw [V.c] at h
      exact ⟨rfl, h⟩
  rw [if_neg c6, if_neg c6]
  by_cases c7 : x.Kind = 7
  · obtain ⟨w1, w2, _, w4⟩ := hw (by omega)
    rw [if_pos c7, if_pos c7]
    refine ⟨rfl, ?_⟩
    have := V.end_ I J O Q (st := 4) (ts := 0) (c := m.clock) w1 (by decide) (fun h => absurd h (by decide)) (Int.le_refl _)
    have e : ({ n with clock := m.clock } : Mod) = n := by rw [← V.ck]
    rw [e] at this; exact this
  rw [if_neg c7, if_neg c7, if_neg h8, if_neg h8]
  exact ⟨rfl, V⟩
end Go.Proofs.YtcngjjlhdlbogaaDoor
