/-  The plain law RoomBelow. -/
import Derived.Test.YtkknoimjgifhlaaDoorPureSums3
import Derived.Test.YtkknoimjgifhlaaDoorGr1LRoomBelow
namespace Go.Proofs.YtkknoimjgifhlaaDoor
open Go Go.RowKit
set_option linter.unusedVariables false
set_option linter.unusedSimpArgs false
set_option maxRecDepth 100000
/-! ### the bounds -/
def slotsS (c : api_Config) : Int := c.Keys * c.Depth + c.Tasks * imax (c.Keys * c.Depth) (c.Depth + 1)
def anchS (c : api_Config) : Int := c.Keys + c.Tasks * (c.Keys * c.Depth)
structure Cf (c : api_Config) : Prop where
  t : 1 ≤ c.Tasks ∧ c.Tasks ≤ 6
  k : 1 ≤ c.Keys ∧ c.Keys ≤ 64
  d : 2 ≤ c.Depth ∧ c.Depth ≤ 8
  f : 3 ≤ c.Fan ∧ c.Fan ≤ 8
theorem Cf.of {c : api_Config} (h : mayB c = true) : Cf c := by
  simp only [mayB, Bool.and_eq_true, decide_eq_true_eq] at h
  exact ⟨by omega, by omega, by omega, by omega⟩
theorem mulLe {a b c d : Int} (h : a ≤ c) (h' : b ≤ d) (h0 : 0 ≤ b) (h1 : 0 ≤ c) : a * b ≤ c * d := Int.mul_le_mul h h' h0 h1
theorem Cf.kd {c : api_Config} (o : Cf c) : 2 ≤ c.Keys * c.Depth ∧ c.Keys * c.Depth ≤ 512 := by
  obtain ⟨_, k, d, _⟩ := o
  have h1 := mulLe (a := 1) (b := 2) (c := c.Keys) (d := c.Depth) k.1 d.1 (by omega) (by omega)
  have h2 := mulLe (a := c.Keys) (b := c.Depth) (c := 64) (d := 8) k.2 d.2 (by omega) (by omega)
  omega
theorem Cf.mx {c : api_Config} (o : Cf c) : 2 ≤ imax (c.Keys * c.Depth) (c.Depth + 1) ∧ imax (c.Keys * c.Depth) (c.Depth + 1) ≤ 512 := by
  have := o.kd
  have := o.d
  unfold imax; split <;> omega
theorem Cf.tm {c : api_Config} (o : Cf c) {x : Int} (h0 : 2 ≤ x) (h1 : x ≤ 512) : 2 ≤ c.Tasks * x ∧ c.Tasks * x ≤ 3072 := by
  have h2 := mulLe (a := 1) (b := 2) (c := c.Tasks) (d := x) o.t.1 h0 (by omega) (by have := o.t; omega)
  have h3 := mulLe (a := c.Tasks) (b := x) (c := 6) (d := 512) o.t.2 h1 (by omega) (by omega)
  omega
theorem Cf.sl {c : api_Config} (o : Cf c) : 4 ≤ slotsS c ∧ slotsS c ≤ 3584 := by
  have := o.kd
  have := o.tm o.mx.1 o.mx.2
  unfold slotsS; omega
theorem Cf.an {c : api_Config} (o : Cf c) : 3 ≤ anchS c ∧ anchS c ≤ 3136 := by
  have := o.k
  have := o.tm o.kd.1 o.kd.2
  unfold anchS; omega
theorem Bound_l0 (c : api_Config) (o : Cf c) (k : Nat) : room_Bound_l0 c (k + 3) 0 0 0 = some (slotsS c, anchS c) := by
  have h1 := o.kd
  have h2 := o.mx
  have h3 := o.tm h2.1 h2.2
  have h4 := o.tm h1.1 h1.2
  have h5 := o.k
  have h6 := o.d
  have e1 : IntKind.i64.wrap (c.Keys * c.Depth) = c.Keys * c.Depth := wr (by omega) (by omega)
  have e2 : IntKind.i64.wrap (c.Depth + 1) = c.Depth + 1 := wr (by omega) (by omega)
  rw [room_Bound_l0.eq_2]
  simp only [show (0 : Int) < 2 from by decide, decide_true, if_true, Int.le_refl, and_self, e1, e2, rd, Int.toNat_zero, List.getD_cons_zero]
  rw [wr (x := 1 * (c.Keys * c.Depth)) (by omega) (by omega), wr (x := 1 * c.Keys) (by omega) (by omega), wr (x := 0 + 1 * (c.Keys * c.Depth)) (by omega) (by omega), wr (x := 0 + 1 * c.Keys) (by omega) (by omega), wr (x := 0 + 1) (by omega) (by omega)]
  rw [room_Bound_l0.eq_2]
  simp only [show (0 + 1 : Int) < 2 from by decide, show (0 : Int) ≤ 0 + 1 from by decide, decide_true, if_true, and_self, e1, e2, rd, show (0 + 1 : Int).toNat = 1 from rfl, List.getD_cons_succ, List.getD_cons_zero]
  rw [wr (x := c.Tasks * imax (c.Keys * c.Depth) (c.Depth + 1)) (by omega) (by omega), wr (x := c.Tasks * (c.Keys * c.Depth)) (by omega) (by omega), wr (x := 0 + 1 * (c.Keys * c.Depth) + _) (by omega) (by omega), wr (x := 0 + 1 * c.Keys + _) (by omega) (by omega), wr (x := 0 + 1 + 1) (by omega) (by omega)]
  rw [room_Bound_l0.eq_2]
  simp only [show ¬ ((0 + 1 + 1 : Int) < 2) from by decide, decide_false, Bool.false_eq_true, if_false]
  simp only [slotsS, anchS]
  congr 2 <;> omega
theorem Bound_eq' (c : api_Config) (hm : mayB c = true) (k : Nat) (hk : 9 ≤ k) : room_Bound k c = some (slotsS c, anchS c) := by
  obtain ⟨q, rfl⟩ : ∃ q, k = q + 3 := ⟨k - 3, by omega⟩
  unfold room_Bound
  rw [May_def _ c hk, hm]
  simp only [Option.bind_some, Bool.not_true, Bool.false_eq_true, if_false]
  rw [Bound_l0 c (Cf.of hm) q]; rfl
/-! ### the sums -/
def sA (c : api_Config) (p : Progs) (x : Run) : Int := retS x.m (keysS x.m) + (sums c p (newS c) x.done).1
def sB (c : api_Config) (p : Progs) (x : Run) : Int := ((keysS x.m).length : Int) + (sums c p (newS c) x.done).2
theorem now_ev (c : api_Config) (hm : mayB c = true) (p : Progs) (L : List api_Event) {T : Nat} {n : Nat} (hn : n ≤ 900) {x : Run} (R : RI T p n x) (ho : Ev (fun k => replay_over_v k c p L) (.inr (.inr x))) : Ev (fun k => room_Now k c p L) (sA c p x, sB c p x, 0) := by
  have hm2 := hm
  simp only [mayB, Bool.and_eq_true, decide_eq_true_eq] at hm2
  have hA : Ev (fun k => replay_Answers k c p L) x.done := Ev.bind ho (Ev.pure _)
  have hM : Ev (fun k => replay_Model_v k c p L) (.inr (.inr x.m)) := Ev.bind ho (Ev.pure _)
  have hret := Ret_ev R.iv (by omega)
  have hkey : Ev (fun k => model_Model_Keys_POOOO k x.m) (keysS x.m) := ⟨0, fun k _ => Keys_eq R.iv (by omega) k⟩
  have hnew : Ev (fun k => model_New_v k c) (.inr (newS c)) := ⟨9, fun k hk => by show model_New_v k c = _; rw [New_eq k hk c, hm]; rfl⟩
  have hdl := R.dl
  have hr := ret_le R.iv (by omega)
  have hkl := keysS_len x.m
  have hrl := R.iv.rl
  have hs := now_sums c (by omega) p x.done (by omega) (fun d hd => (R.dn d hd).1) x.done.length 0 0 (newS c) (retS x.m (keysS x.m)) ((keysS x.m).length : Int) (by omega) (Inv.new c) (by omega) hr.1 (by omega) (by omega) (by omega)
  rw [List.drop_zero] at hs
  unfold room_Now
  refine Ev.bind hM (Ev.bind hret (Ev.bind hkey (Ev.bind hnew (Ev.bind hA ?_))))
  exact Ev.bind hs (Ev.pure _)
theorem ov_over {c : api_Config} {p : Progs} {x0 y : Run} {L : List api_Event} (hb : Ev (fun k => replay_begun_v k c p) (.inr (.inl x0))) (h : Ev (OV L 0 x0) (.inr (tup y))) : Ev (fun k => replay_over_v k c p L) (.inr (.inr y)) := by
  unfold replay_over_v
  exact Ev.bind hb (Ev.bind h (Ev.pure _))
/-! ### a model is not more than full -/
def wt (r : model_row) : Int := (r.l.length : Int) + imin 1 r.intent.Writer
structure Gd (m : Mod) : Prop where
  ky : (m.rows.length : Int) ≤ m.c.Keys
  dp : ∀ q ∈ m.rows, wt q.2 ≤ m.c.Depth
theorem imin_le (x : Int) : imin 1 x ≤ 1 ∧ imin 1 x ≤ x := by unfold imin; split <;> omega
theorem imin_one {x : Int} (h : 1 ≤ x) : imin 1 x = 1 := by unfold imin; split <;> omega
theorem imin_nil : imin 1 (0 : Int) = 0 := rfl
theorem Gd.row {m : Mod} (G : Gd m) (h0 : 0 ≤ m.c.Depth) (y : Str) : wt (rowOf m y) ≤ m.c.Depth := by
  unfold rowOf
  cases h : mget m.rows y with
  | none => exact h0
  | some r => exact G.dp _ (mget_mem h)
theorem Gd.each {m m' : Mod} (G : Gd m) {one : model_row → model_row} (h : ∀ p ∈ m.rows, wt (one p.2) ≤ wt p.2) (hr : m'.rows = eachS one m.rows) (hc : m'.c = m.c) : Gd m' where
  ky := by have := G.ky; have h := eachS_len one m.rows; rw [hr, hc]; omega
  dp := fun q hq => by
    rw [hr] at hq
    obtain ⟨p, hp, _, rfl⟩ := eachS_mem.1 hq
    have := h p hp; have := G.dp p hp; rw [hc]; dsimp only; omega
theorem wt_end {w ts : Int} (hw : 1 ≤ w) (r : model_row) : wt (endRow w ts r) ≤ wt r := by
  unfold endRow
  split
  · exact Int.le_refl _
  · next h =>
    have e : r.intent.Writer = w := by simpa using h
    unfold wt
    rw [e, imin_one hw]
    split <;> simp [imin_nil] <;> omega
theorem wt_kept (f : Int) (r : model_row) : wt (keptRow f r) ≤ wt r := by
  have := kept_len r.l f
  unfold wt keptRow; dsimp only; omega
theorem Gd.write {n : Nat} {m : Mod} (I : Inv n m) (G : Gd m) (hD : 2 ≤ m.c.Depth) (key : Str) (v : api_Version) (hv : 1 ≤ v.Writer) : Gd (writeS m key v).2 := by
  unfold writeS
  dsimp only
  split
  · exact G
  next c1 =>
  split
  · exact G
  split
  · exact G
  next c3 =>
    refine ⟨?_, fun p hp => ?_⟩
    · have := G.ky
      show ((mput m.rows key _).length : Int) ≤ m.c.Keys
      rw [mput_length]
      cases h : mget m.rows key with
      | some r => simpa using this
      | none =>
        have e : rowOf m key = nil_row := by unfold rowOf; rw [h]; rfl
        have hk : ¬ (m.rows.length : Int) ≥ m.c.Keys := fun hk => c3 ⟨by rw [e], .inl ⟨by rw [e], hk⟩⟩
        simp; omega
    · rcases (mput_mem I.nd p).1 hp with rfl | ⟨h, _⟩
      · have h1 := G.row (by omega) key
        have h2 := (I.row key).2
        show ((rowOf m key).l.length : Int) + imin 1 v.Writer ≤ m.c.Depth
        rw [imin_one hv]
        by_cases hw : (rowOf m key).intent.Writer = 0
        · have : ¬ ((rowOf m key).l.length : Int) ≥ m.c.Depth := fun hk => c3 ⟨hw, .inr hk⟩
          omega
        · unfold wt at h1
          rw [imin_one (by omega)] at h1; exact h1
      · exact G.dp p h
theorem Gd.do_ {n : Nat} {m : Mod} (I : Inv n m) (G : Gd m) (hD : 2 ≤ m.c.Depth) (t : Int) (x : api_Call) : Gd (doS m t x).2 := by
  unfold doS
  by_cases h0 : refS m t x = 0
  · rw [if_neg (by simpa using h0)]
    have hw := fun hk => refS_tx I h0 hk
    have en : ∀ (w st ts c : Int), 1 ≤ w → Gd (endS { m with clock := c } w st ts) := fun w st ts c w1 => G.each (one := endRow w ts) (fun p _ => wt_end w1 p.2) rfl rfl
    unfold actS
    split
    · unfold beginS; split
      · exact G
      · exact ⟨G.ky, G.dp⟩
    split
    · exact G
    split
    · exact Gd.write I G hD _ _ (hw (by omega)).1
    split
    · exact Gd.write I G hD _ _ (hw (by omega)).1
    split
    · exact G
    split
    · have h1 := (hw (by omega)).1
      unfold commitS
      split
      · exact en _ _ _ m.clock h1
      split
      · exact en _ _ _ m.clock h1
      · exact en _ _ _ _ h1
    split
    · exact en _ _ _ m.clock (hw (by omega)).1
    split
    · exact G.each (one := keptRow (floorL m.txs m.clock)) (fun p _ => wt_kept _ p.2) rfl rfl
    · exact G
  · rw [if_pos (by simpa using h0)]; exact G
theorem Gd.ret {m : Mod} (G : Gd m) (h0 : 0 ≤ m.c.Depth) : ∀ L : List Str, retS m L ≤ (L.length : Int) * m.c.Depth
  | [] => by simp [retS]
  | y :: t => by
    have ih := G.ret h0 t
    have h := G.row h0 y
    unfold wt at h
    have e : ((t.length : Int) + 1) * m.c.Depth = (t.length : Int) * m.c.Depth + m.c.Depth := by rw [Int.add_mul, Int.one_mul]
    simp only [retS, List.length_cons]
    rw [show (((t.length + 1 : Nat)) : Int) = (t.length : Int) + 1 from rfl, e]
    omega
theorem Gd.retK {m : Mod} (G : Gd m) (h0 : 0 ≤ m.c.Depth) : retS m (keysS m) ≤ m.c.Keys * m.c.Depth := by
  have h := G.ret h0 (keysS m)
  have h2 := G.ky
  rw [keysS_len] at h
  exact Int.le_trans h (Int.mul_le_mul_of_nonneg_right h2 h0)
/-! ### who is under way -/
def cnt (D : List replay_Done) : Nat := (D.filter fun d => decide (d.Back < 0)).length
theorem cnt_ix : ∀ D : List replay_Done, ∃ U : List Nat, U.Pairwise (· < ·) ∧ U.length = cnt D ∧ ∀ u ∈ U, ∃ h : u < D.length, D[u].Back < 0
  | [] => ⟨[], List.Pairwise.nil, rfl, fun u hu => by cases hu⟩
  | d :: D => by
    obtain ⟨U, h1, h2, h3⟩ := cnt_ix D
    have k1 : (U.map (· + 1)).Pairwise (· < ·) := List.pairwise_map.2 (h1.imp fun h => by omega)
    have k3 : ∀ u ∈ U.map (· + 1), ∃ h : u < (d :: D).length, (d :: D)[u].Back < 0 := fun u hu => by
      obtain ⟨v, hv, rfl⟩ := List.mem_map.1 hu
      obtain ⟨h, g⟩ := h3 v hv
      exact ⟨by simpa using h, by simpa using g⟩
    by_cases c : d.Back < 0
    · refine ⟨0 :: U.map (· + 1), List.pairwise_cons.2 ⟨fun u hu => ?_, k1⟩, by simp [cnt, c, List.filter_cons] at h2 ⊢; exact h2, fun u hu => ?_⟩
      · obtain ⟨v, _, rfl⟩ := List.mem_map.1 hu; omega
      · rcases List.mem_cons.1 hu with rfl | hu
        · exact ⟨by simp, by simpa using c⟩
        · exact k3 u hu
    · exact ⟨U.map (· + 1), k1, by simp [cnt, c, List.filter_cons] at h2 ⊢; exact h2, k3⟩
theorem nodup_len {α : Type} {A B : List α} (hA : A.Nodup) (h : ∀ y ∈ A, y ∈ B) : A.length ≤ B.length := by
  induction A generalizing B with
  | nil => simp
  | cons a A ih =>
    obtain ⟨u, v, e⟩ := List.append_of_mem (h a List.mem_cons_self)
    have h2 := List.nodup_cons.1 hA
    have := ih (B := u ++ v) h2.2 fun y hy => by
      have := h y (List.mem_cons_of_mem _ hy)
      rw [e] at this
      rcases List.mem_append.1 this with g | g
      · exact List.mem_append_left _ g
      · rcases List.mem_cons.1 g with g | g
        · subst g; exact absurd hy h2.1
        · exact List.mem_append_right _ g
    rw [e]; simp at this ⊢; omega
structure RJ (T : Nat) (c : api_Config) (x : Run) : Prop where
  gd : Gd x.m
  hc : x.m.c = c
  ub : ∀ (u : Nat) (h : u < x.done.length), x.done[u].Back < 0 → ∃ t : Nat, t < T ∧ (rd x.r.tasks (t : Int)).at_ = 2 ∧ rd x.last (t : Int) = (u : Int)
theorem RJ.cnt {T : Nat} {c : api_Config} {x : Run} (Q : RJ T c x) : cnt x.done ≤ T := by
  obtain ⟨U, h1, h2, h3⟩ := cnt_ix x.done
  have := nodup_len (A := U) (B := (List.range T).map fun t : Nat => (rd x.last (t : Int)).toNat) (h1.imp fun h => by omega) fun u hu => by
    obtain ⟨h, g⟩ := h3 u hu
    obtain ⟨t, t1, _, t3⟩ := Q.ub u h g
    exact List.mem_map.2 ⟨t, List.mem_range.2 t1, by rw [t3]; rfl⟩
  simp at this; omega
theorem RJ.step {T : Nat} {p : Progs} {c : api_Config} (hD : 2 ≤ c.Depth) (i : Nat) (x x' : Run) (e : api_Event) (R : RI T p i x) (Q : RJ T c x) (t : Turns p T x e x') : RJ T c x' := by
  obtain ⟨⟨g1, g2⟩, t0, t1, h⟩ := t
  obtain ⟨n, hn⟩ := Int.eq_ofNat_of_zero_le t0
  rcases h with ⟨w, em, ed, el⟩ | ⟨w, em, ⟨d, _, _, db, ed⟩, el⟩ | ⟨w, em, el, j, hj, b, lj, b0, ed⟩
  · refine ⟨by rw [em]; exact Q.gd, by rw [em]; exact Q.hc, fun u h hb => ?_⟩
    simp only [ed] at h hb
    obtain ⟨t, h1, h2, h3⟩ := Q.ub u h hb
    refine ⟨t, h1, ?_, by rw [el]; exact h3⟩
    rw [g2 t h1, if_neg ?_]
    · exact h2
    · intro q; rw [q, g1] at h2; omega
  · refine ⟨by rw [em]; exact Gd.do_ R.iv Q.gd (by rw [Q.hc]; exact hD) _ _, by rw [em, doS_c]; exact Q.hc, fun u h hb => ?_⟩
    have hlen : ∀ t : Nat, t < T → t < x.last.length := fun t ht => by rw [R.la]; exact ht
    have hlast : ∀ t : Nat, t < T → rd x'.last (t : Int) = if n = t then (x.done.length : Int) else rd x.last (t : Int) := fun t ht => by
      rw [el, hn, rdN (by rw [List.length_set]; exact hlen t ht), rdN (hlen t ht), List.getElem_set]; rfl
    simp only [ed, List.length_append, List.length_singleton] at h
    by_cases hu : u < x.done.length
    · simp only [ed] at hb
      rw [List.getElem_append_left hu] at hb
      obtain ⟨t, h1, h2, h3⟩ := Q.ub u hu hb
      have hne : ¬ ((t : Int) = e.Task) := by intro q; rw [q, g1] at h2; omega
      refine ⟨t, h1, by rw [g2 t h1, if_neg hne]; exact h2, ?_⟩
      rw [hlast t h1, if_neg (by omega)]; exact h3
    · have hu2 : u = x.done.length := by omega
      refine ⟨n, by omega, by rw [g2 n (by omega), if_pos (by omega), if_neg (by omega)]; exact w, ?_⟩
      rw [hlast n (by omega), if_pos rfl, hu2]
  · refine ⟨by rw [em]; exact Q.gd, by rw [em]; exact Q.hc, fun u h hb => ?_⟩
    simp only [ed, List.length_set] at h
    simp only [ed, List.getElem_set] at hb
    by_cases hu : j = u
    · rw [if_pos hu] at hb; dsimp only at hb; omega
    · rw [if_neg hu] at hb
      obtain ⟨t, h1, h2, h3⟩ := Q.ub u h hb
      have hne : ¬ ((t : Int) = e.Task) := by intro q; rw [q, lj] at h3; omega
      exact ⟨t, h1, by rw [g2 t h1, if_neg hne]; exact h2, by rw [el]; exact h3⟩
/-! ### the sums are not above the bounds -/
theorem sums_cnt (c : api_Config) (o : Cf c) (p : Progs) : ∀ (D : List replay_Done) (n : Nat) (m : Mod), Inv n m → Gd m → m.c = c →
    0 ≤ (sums c p m D).1 ∧ (sums c p m D).1 ≤ (cnt D : Int) * imax (c.Keys * c.Depth) (c.Depth + 1) ∧ 0 ≤ (sums c p m D).2 ∧ (sums c p m D).2 ≤ (cnt D : Int) * (c.Keys * c.Depth)
  | [], n, m, I, G, hc => by simp [sums, cnt]
  | d :: t, n, m, I, G, hc => by
    have hd := o.d
    have hk := o.kd
    have I' := I.do_ d.Task (rd (rd p d.Task) d.Call)
    have ih := sums_cnt c o p t (n + 1) _ I' (Gd.do_ I G (by rw [hc]; exact hd.1) d.Task (rd (rd p d.Task) d.Call)) ((doS_c _ _ _).trans hc)
    have hr := G.retK (by rw [hc]; omega)
    rw [hc] at hr
    have hr0 := (retS_bound I (keysS m)).1
    have hr1 := (retS_bound I' (keysS (doS m d.Task (rd (rd p d.Task) d.Call)).2)).1
    have hx : c.Keys * c.Depth ≤ imax (c.Keys * c.Depth) (c.Depth + 1) ∧ c.Depth + 1 ≤ imax (c.Keys * c.Depth) (c.Depth + 1) := by unfold imax; split <;> omega
    have ht : 0 ≤ tookS m d.Task (rd (rd p d.Task) d.Call) ∧ tookS m d.Task (rd (rd p d.Task) d.Call) ≤ c.Keys * c.Depth := by
      unfold tookS
      generalize retS m (keysS m) = A at *
      generalize retS (doS m d.Task (rd (rd p d.Task) d.Call)).2 (keysS (doS m d.Task (rd (rd p d.Task) d.Call)).2) = B at *
      unfold imax; split <;> omega
    have ha : 0 ≤ (askS c (rd (rd p d.Task) d.Call) (tookS m d.Task (rd (rd p d.Task) d.Call))).1 ∧ (askS c (rd (rd p d.Task) d.Call) (tookS m d.Task (rd (rd p d.Task) d.Call))).1 ≤ imax (c.Keys * c.Depth) (c.Depth + 1) ∧ 0 ≤ (askS c (rd (rd p d.Task) d.Call) (tookS m d.Task (rd (rd p d.Task) d.Call))).2 ∧ (askS c (rd (rd p d.Task) d.Call) (tookS m d.Task (rd (rd p d.Task) d.Call))).2 ≤ c.Keys * c.Depth := by
      unfold askS
      split
      · dsimp only; omega
      split
      · dsimp only; omega
      · dsimp only; omega
    unfold sums
    dsimp only
    by_cases hb : d.Back < 0
    · rw [if_pos hb]
      have e : cnt (d :: t) = cnt t + 1 := by simp [cnt, hb, List.filter_cons]
      have e1 : ((cnt t : Int) + 1) * imax (c.Keys * c.Depth) (c.Depth + 1) = (cnt t : Int) * imax (c.Keys * c.Depth) (c.Depth + 1) + imax (c.Keys * c.Depth) (c.Depth + 1) := by rw [Int.add_mul, Int.one_mul]
      have e2 : ((cnt t : Int) + 1) * (c.Keys * c.Depth) = (cnt t : Int) * (c.Keys * c.Depth) + c.Keys * c.Depth := by rw [Int.add_mul, Int.one_mul]
      rw [e, show ((cnt t + 1 : Nat) : Int) = (cnt t : Int) + 1 from rfl, e1, e2]
      dsimp only; omega
    · rw [if_neg hb]
      have e : cnt (d :: t) = cnt t := by simp [cnt, hb, List.filter_cons]
      rw [e]; exact ih
theorem Gd.new (c : api_Config) (o : Cf c) : Gd (newS c) := ⟨by have := o.k; show (0 : Int) ≤ c.Keys; omega, fun q hq => by cases hq⟩
theorem below {c : api_Config} (o : Cf c) {p : Progs} {i : Nat} {x : Run} (R : RI c.Tasks.toNat p i x) (Q : RJ c.Tasks.toNat c x) : 0 ≤ sA c p x ∧ 0 ≤ sB c p x ∧ sA c p x ≤ slotsS c ∧ sB c p x ≤ anchS c := by
  have hs := sums_cnt c o p x.done 0 (newS c) (Inv.new c) (Gd.new c o) rfl
  have hn := Q.cnt
  have ht := o.t
  have hk := o.kd
  have hx := o.mx
  have hd := o.d
  have h1 := Q.gd.retK (by rw [Q.hc]; omega)
  have h2 := Q.gd.ky
  have h3 := (retS_bound R.iv (keysS x.m)).1
  have h4 := keysS_len x.m
  rw [Q.hc] at h1 h2
  have m1 : (cnt x.done : Int) * imax (c.Keys * c.Depth) (c.Depth + 1) ≤ c.Tasks * imax (c.Keys * c.Depth) (c.Depth + 1) := Int.mul_le_mul_of_nonneg_right (by omega) (by omega)
  have m2 : (cnt x.done : Int) * (c.Keys * c.Depth) ≤ c.Tasks * (c.Keys * c.Depth) := Int.mul_le_mul_of_nonneg_right (by omega) (by omega)
  unfold sA sB slotsS anchS
  omega
theorem pure_RoomBelow (a0 : api_Config) (a1 : (List (List api_Call))) (a2 : (List api_Event)) (_ : wf_api_Config a0) (w1 : (wfSl (wfSl wf_api_Call)) a1) (w2 : (wfSl wf_api_Event) a2) : ∃ k, ferrymanlaw30_RoomBelow k a0 a1 a2 = some true := by
  refine Ev.ex (f := fun k => ferrymanlaw30_RoomBelow k a0 a1 a2) ?_
  have b1 : a1.length ≤ 9223372036854775807 := Nat.le_trans w1.1 (by decide)
  have b3 : ∀ q ∈ a1, q.length ≤ 9223372036854775807 := fun q hq => Nat.le_trans (w1.2 q hq).1 (by decide)
  have b2 : a2.length ≤ 9223372036854775807 := Nat.le_trans w2.1 (by decide)
  unfold ferrymanlaw30_RoomBelow
  refine works_ev.bind ?_
  obtain ⟨x, hx, hx2⟩ := long_ev a1 a2 b1 b3 b2
  refine Ev.bind (v := x) (Ev.neg (by simp) (hx.bind (Ev.pure _))) ?_
  cases x with
  | true => exact Ev.pos rfl (works_ev.bind (Ev.pure _))
  | false =>
    refine Ev.neg (by simp) ?_
    obtain ⟨l1, l2⟩ := hx2 rfl
    have bad : ∀ e : Int, e ≠ 0 → Ev (fun k => room_Now k a0 a1 a2) (0, 0, e) → Ev (fun k => Option.bind (room_Now k a0 a1 a2) (fun t24 => (if (t24.2.2 != (0 : Int)) = true then some ((t24.1 == (0 : Int)) && (t24.2.1 == (0 : Int))) else (Option.bind (room_Bound k a0) (fun t29 => some ((((decide (t24.1 ≥ (0 : Int))) && (decide (t24.2.1 ≥ (0 : Int)))) && (decide (t24.1 ≤ t29.1))) && (decide (t24.2.1 ≤ t29.2)))))))) true := fun e he h => Ev.bind h (Ev.pos (by simpa using he) (Ev.pure _))
    rcases beg_ev a0 a1 with hb | ⟨hm, hp, x0, R0, ⟨e1, e2⟩, hb⟩
    · have ho : Ev (fun k => replay_over_v k a0 a1 a2) (.inl ()) := by unfold replay_over_v; exact Ev.bind hb (Ev.pure _)
      have hM : Ev (fun k => replay_Model_v k a0 a1 a2) (.inl ()) := Ev.bind ho (Ev.pure _)
      exact bad 1 (by decide) (Ev.bind hM (Ev.pure _))
    · have o := Cf.of hm
      have Q0 : RJ a0.Tasks.toNat a0 x0 := ⟨by rw [e1]; exact Gd.new a0 o, by rw [e1]; rfl, fun u h => by rw [e2] at h; simp at h⟩
      rcases ov_all hp (RJ a0.Tasks.toNat a0) (fun i x x' e R Q t => RJ.step o.d.1 i x x' e R Q t) a2 (by omega) l2 a2.length 0 x0 (by omega) R0 Q0 with h | ⟨y, hy, Q, h⟩
      · have ho : Ev (fun k => replay_over_v k a0 a1 a2) (.inr (.inl ())) := by unfold replay_over_v; exact Ev.bind hb (Ev.bind h (Ev.pure _))
        have hM : Ev (fun k => replay_Model_v k a0 a1 a2) (.inr (.inl ())) := Ev.bind ho (Ev.pure _)
        exact bad 4 (by decide) (Ev.bind hM (Ev.pure _))
      · have hnow := now_ev a0 hm a1 a2 (by omega) hy (ov_over hb h)
        have hB := below o hy Q
        refine Ev.bind hnow (Ev.neg (by simp) (Ev.bind ⟨9, fun k hk => Bound_eq' a0 hm k hk⟩ ((Ev.pure _).eq ?_)))
        simp only [Bool.and_eq_true, decide_eq_true_eq]
        omega
end Go.Proofs.YtkknoimjgifhlaaDoor
