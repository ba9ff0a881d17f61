/-  The plain law RoomLarger. -/
import Derived.Test.YtkknoimjgifhlaaDoorPureMay
import Derived.Test.YtkknoimjgifhlaaDoorGr1LRoomLarger
namespace Go.Proofs.YtkknoimjgifhlaaDoor
open Go Go.RowKit
set_option linter.unusedVariables false
set_option linter.unusedSimpArgs false
set_option maxRecDepth 100000
def slotsS (c : api_Config) : Int := c.Keys * c.Depth + c.Tasks * imax (c.Keys * c.Depth) (c.Depth + 1)
def anchS (c : api_Config) : Int := c.Keys + c.Tasks * (c.Keys * c.Depth)
structure Ok (c : api_Config) : Prop where
  t : 1 ≤ c.Tasks ∧ c.Tasks ≤ 6
  k : 1 ≤ c.Keys ∧ c.Keys ≤ 64
  d : 2 ≤ c.Depth ∧ c.Depth ≤ 8
  f : 3 ≤ c.Fan ∧ c.Fan ≤ 8
theorem Ok.of {c : api_Config} (h : mayB c = true) : Ok c := by
  simp only [mayB, Bool.and_eq_true, decide_eq_true_eq] at h
  exact ⟨by omega, by omega, by omega, by omega⟩
theorem mulLe {a b c d : Int} (h : a ≤ c) (h' : b ≤ d) (h0 : 0 ≤ b) (h1 : 0 ≤ c) : a * b ≤ c * d := Int.mul_le_mul h h' h0 h1
theorem Ok.kd {c : api_Config} (o : Ok c) : 2 ≤ c.Keys * c.Depth ∧ c.Keys * c.Depth ≤ 512 := by
  obtain ⟨_, k, d, _⟩ := o
  have h1 := mulLe (a := 1) (b := 2) (c := c.Keys) (d := c.Depth) k.1 d.1 (by omega) (by omega)
  have h2 := mulLe (a := c.Keys) (b := c.Depth) (c := 64) (d := 8) k.2 d.2 (by omega) (by omega)
  omega
theorem Ok.mx {c : api_Config} (o : Ok c) : 2 ≤ imax (c.Keys * c.Depth) (c.Depth + 1) ∧ imax (c.Keys * c.Depth) (c.Depth + 1) ≤ 512 := by
  have := o.kd
  have := o.d
  unfold imax; split <;> omega
theorem Ok.tm {c : api_Config} (o : Ok c) {x : Int} (h0 : 2 ≤ x) (h1 : x ≤ 512) : 2 ≤ c.Tasks * x ∧ c.Tasks * x ≤ 3072 := by
  have h2 := mulLe (a := 1) (b := 2) (c := c.Tasks) (d := x) o.t.1 h0 (by omega) (by have := o.t; omega)
  have h3 := mulLe (a := c.Tasks) (b := x) (c := 6) (d := 512) o.t.2 h1 (by omega) (by omega)
  omega
theorem Ok.sl {c : api_Config} (o : Ok c) : 4 ≤ slotsS c ∧ slotsS c ≤ 3584 := by
  have := o.kd
  have := o.tm o.mx.1 o.mx.2
  unfold slotsS; omega
theorem Ok.an {c : api_Config} (o : Ok c) : 3 ≤ anchS c ∧ anchS c ≤ 3136 := by
  have := o.k
  have := o.tm o.kd.1 o.kd.2
  unfold anchS; omega
theorem Bound_l0 (c : api_Config) (o : Ok c) (k : Nat) : room_Bound_l0 c (k + 3) 0 0 0 = some (slotsS c, anchS c) := by
  have h1 := o.kd
  have h2 := o.mx
  have h3 := o.tm h2.1 h2.2
  have h4 := o.tm h1.1 h1.2
  have h5 := o.k
  have h6 := o.d
  have e1 : IntKind.i64.wrap (c.Keys * c.Depth) = c.Keys * c.Depth := wr (by omega) (by omega)
  have e2 : IntKind.i64.wrap (c.Depth + 1) = c.Depth + 1 := wr (by omega) (by omega)
  rw [room_Bound_l0.eq_2]
  simp only [show (0 : Int) < 2 from by decide, decide_true, if_true, Int.le_refl, and_self, e1, e2, rd, Int.toNat_zero, List.getD_cons_zero]
  rw [wr (x := 1 * (c.Keys * c.Depth)) (by omega) (by omega), wr (x := 1 * c.Keys) (by omega) (by omega), wr (x := 0 + 1 * (c.Keys * c.Depth)) (by omega) (by omega), wr (x := 0 + 1 * c.Keys) (by omega) (by omega), wr (x := 0 + 1) (by omega) (by omega)]
  rw [room_Bound_l0.eq_2]
  simp only [show (0 + 1 : Int) < 2 from by decide, show (0 : Int) ≤ 0 + 1 from by decide, decide_true, if_true, and_self, e1, e2, rd, show (0 + 1 : Int).toNat = 1 from rfl, List.getD_cons_succ, List.getD_cons_zero]
  rw [wr (x := c.Tasks * imax (c.Keys * c.Depth) (c.Depth + 1)) (by omega) (by omega), wr (x := c.Tasks * (c.Keys * c.Depth)) (by omega) (by omega), wr (x := 0 + 1 * (c.Keys * c.Depth) + _) (by omega) (by omega), wr (x := 0 + 1 * c.Keys + _) (by omega) (by omega), wr (x := 0 + 1 + 1) (by omega) (by omega)]
  rw [room_Bound_l0.eq_2]
  simp only [show ¬ ((0 + 1 + 1 : Int) < 2) from by decide, decide_false, Bool.false_eq_true, if_false]
  simp only [slotsS, anchS]
  congr 2 <;> omega
theorem Bound_eq' (c : api_Config) (hm : mayB c = true) (k : Nat) (hk : 9 ≤ k) : room_Bound k c = some (slotsS c, anchS c) := by
  obtain ⟨q, rfl⟩ : ∃ q, k = q + 3 := ⟨k - 3, by omega⟩
  unfold room_Bound
  rw [May_def _ c hk, hm]
  simp only [Option.bind_some, Bool.not_true, Bool.false_eq_true, if_false]
  rw [Bound_l0 c (Ok.of hm) q]; rfl
def lev (c : api_Config) : Int := (anchS c - 1) / c.Fan + 1
def keyC (c : api_Config) : Int := 5 * lev c + 24
def allC (c : api_Config) : Int := 8 * (slotsS c + 2 * c.Tasks + 1)
def stepsS (c : api_Config) (x : Int) : Int :=
  if x = 1 then 3 else if x = 2 ∨ x = 3 ∨ x = 4 then keyC c + allC c else if x = 6 ∨ x = 7 then 4 + c.Keys * keyC c + allC c
  else if x = 5 ∨ x = 8 ∨ x = 9 then 6 + (anchS c + c.Tasks + 1) * keyC c + allC c else 2
theorem Ok.lv {c : api_Config} (o : Ok c) : 1 ≤ lev c ∧ lev c ≤ 3136 := by
  have h := o.an
  have h0 : 0 ≤ (anchS c - 1) / c.Fan := Int.ediv_nonneg (by omega) (by have := o.f; omega)
  have h1 : (anchS c - 1) / c.Fan ≤ anchS c - 1 := Int.ediv_le_self _ (by omega)
  unfold lev; omega
theorem Ok.ky {c : api_Config} (o : Ok c) : 29 ≤ keyC c ∧ keyC c ≤ 15704 := by have := o.lv; unfold keyC; omega
theorem Ok.al {c : api_Config} (o : Ok c) : 0 ≤ allC c ∧ allC c ≤ 30000 := by have := o.sl; have := o.t; unfold allC; omega
theorem Ok.m1 {c : api_Config} (o : Ok c) : 0 ≤ c.Keys * keyC c ∧ c.Keys * keyC c ≤ 1005056 := by
  have h := o.ky
  have k := o.k
  have h1 := Int.mul_nonneg (a := c.Keys) (b := keyC c) (by omega) (by omega)
  have h2 := mulLe (a := c.Keys) (b := keyC c) (c := 64) (d := 15704) k.2 h.2 (by omega) (by omega)
  omega
theorem Ok.m2 {c : api_Config} (o : Ok c) : 0 ≤ (anchS c + c.Tasks + 1) * keyC c ∧ (anchS c + c.Tasks + 1) * keyC c ≤ 49357672 := by
  have h := o.ky
  have a := o.an
  have t := o.t
  have h1 := Int.mul_nonneg (a := anchS c + c.Tasks + 1) (b := keyC c) (by omega) (by omega)
  have h2 := mulLe (a := anchS c + c.Tasks + 1) (b := keyC c) (c := 3143) (d := 15704) (by omega) h.2 (by omega) (by omega)
  omega
theorem Ok.st {c : api_Config} (o : Ok c) (x : Int) : 0 ≤ stepsS c x ∧ stepsS c x ≤ 50000000 := by
  have := o.ky
  have := o.al
  have := o.m1
  have := o.m2
  unfold stepsS
  split
  · omega
  split
  · omega
  split
  · omega
  split <;> omega
theorem Steps_eq (c : api_Config) (hm : mayB c = true) (x : Int) (k : Nat) (hk : 9 ≤ k) : room_Steps k c x = some (stepsS c x) := by
  have o := Ok.of hm
  have hs := o.sl
  have ha := o.an
  have hf := o.f
  have ht := o.t
  have hl := o.lv
  have hy := o.ky
  have hA := o.al
  have h1 := o.m1
  have h2 := o.m2
  have n0 : (slotsS c == (0 : Int)) = false := by simp; omega
  have nf : c.Fan ≠ 0 := by omega
  have ed : Int.tdiv (anchS c - 1) c.Fan = (anchS c - 1) / c.Fan := Int.tdiv_eq_ediv_of_nonneg (by omega)
  have hd : (anchS c - 1) / c.Fan = lev c - 1 := by unfold lev; omega
  have ek : 5 * lev c + 24 = keyC c := rfl
  have ea : 8 * (slotsS c + 2 * c.Tasks + 1) = allC c := rfl
  have w1 : IntKind.i64.wrap (anchS c - 1) = anchS c - 1 := wr (by omega) (by omega)
  have w2 : IntKind.i64.wrap (lev c - 1) = lev c - 1 := wr (by omega) (by omega)
  have w3 : IntKind.i64.wrap (lev c - 1 + 1) = lev c := by rw [wr (by omega) (by omega)]; omega
  have w4 : IntKind.i64.wrap (5 * lev c) = 5 * lev c := wr (by omega) (by omega)
  have w5 : IntKind.i64.wrap (5 * lev c + 24) = keyC c := by rw [wr (by omega) (by omega)]; rfl
  have w6 : IntKind.i64.wrap (2 * c.Tasks) = 2 * c.Tasks := wr (by omega) (by omega)
  have w7 : IntKind.i64.wrap (slotsS c + 2 * c.Tasks) = slotsS c + 2 * c.Tasks := wr (by omega) (by omega)
  have w8 : IntKind.i64.wrap (slotsS c + 2 * c.Tasks + 1) = slotsS c + 2 * c.Tasks + 1 := wr (by omega) (by omega)
  have w9 : IntKind.i64.wrap (8 * (slotsS c + 2 * c.Tasks + 1)) = allC c := by rw [wr (by omega) (by omega)]; rfl
  have v1 : IntKind.i64.wrap (c.Keys * keyC c) = c.Keys * keyC c := wr (by omega) (by omega)
  have v2 : IntKind.i64.wrap (4 + c.Keys * keyC c) = 4 + c.Keys * keyC c := wr (by omega) (by omega)
  have v3 : IntKind.i64.wrap (anchS c + c.Tasks) = anchS c + c.Tasks := wr (by omega) (by omega)
  have v4 : IntKind.i64.wrap (anchS c + c.Tasks + 1) = anchS c + c.Tasks + 1 := wr (by omega) (by omega)
  have v5 : IntKind.i64.wrap ((anchS c + c.Tasks + 1) * keyC c) = (anchS c + c.Tasks + 1) * keyC c := wr (by omega) (by omega)
  have v6 : IntKind.i64.wrap (6 + (anchS c + c.Tasks + 1) * keyC c) = 6 + (anchS c + c.Tasks + 1) * keyC c := wr (by omega) (by omega)
  have u1 : IntKind.i64.wrap (keyC c + allC c) = keyC c + allC c := wr (by omega) (by omega)
  have u2 : IntKind.i64.wrap (4 + c.Keys * keyC c + allC c) = 4 + c.Keys * keyC c + allC c := wr (by omega) (by omega)
  have u3 : IntKind.i64.wrap (6 + (anchS c + c.Tasks + 1) * keyC c + allC c) = 6 + (anchS c + c.Tasks + 1) * keyC c + allC c := wr (by omega) (by omega)
  unfold room_Steps
  simp only [Bound_eq' c hm k hk, Option.bind_some, n0, Bool.false_eq_true, if_false, nf, ne_eq, not_false_eq_true, if_true, w1, ed, hd, w2, w3, w4, w5, w6, w7, w8, w9, v1, v2, v3, v4, v5, v6, u1, u2, u3, stepsS]
  by_cases c1 : x = 1
  · simp [c1]
  by_cases c2 : x = 2
  · simp [c2]
  by_cases c3 : x = 3
  · simp [c3]
  by_cases c4 : x = 4
  · simp [c4]
  by_cases c5 : x = 5
  · simp [c5]
  by_cases c6 : x = 6
  · simp [c6]
  by_cases c7 : x = 7
  · simp [c7]
  by_cases c8 : x = 8
  · simp [c8]
  by_cases c9 : x = 9
  · simp [c9]
  simp [c1, c2, c3, c4, c5, c6, c7, c8, c9]
/-- The most of the kinds from x on, j of them. -/
def most (c : api_Config) : Nat → Int → Int → Int
  | 0, m, _ => m
  | j + 1, m, x => most c j (imax m (stepsS c x)) (x + 1)
theorem Rounds_l0 (c : api_Config) (hm : mayB c = true) : ∀ (j i : Nat) (m : Int), i + j = 10 → ∀ k, j + 9 < k → room_Rounds_l0 c k m (i : Int) = some (most c j m (i : Int)) := by
  intro j
  induction j with
  | zero =>
    intro i m hi k hk
    obtain ⟨k, rfl⟩ : ∃ k', k = k' + 1 := ⟨k - 1, by omega⟩
    obtain rfl : i = 10 := by omega
    rw [room_Rounds_l0.eq_2]; rfl
  | succ j ih =>
    intro i m hi k hk
    obtain ⟨k, rfl⟩ : ∃ k', k = k' + 1 := ⟨k - 1, by omega⟩
    have h3 : (i : Int) < 10 := by omega
    have e : IntKind.u8.wrap ((i : Int) + 1) = ((i + 1 : Nat) : Int) := by
      simp [IntKind.wrap, IntKind.bits, IntKind.signed]; omega
    rw [room_Rounds_l0.eq_2, most]
    simp only [h3, decide_true, if_true, Steps_eq c hm _ k (by omega), Option.bind_some, e]
    exact ih (i + 1) _ (by omega) k (by omega)
theorem most_bound (c : api_Config) (o : Ok c) : ∀ (j : Nat) (m x : Int), 0 ≤ m → m ≤ 50000000 → 0 ≤ most c j m x ∧ most c j m x ≤ 50000000
  | 0, m, x, h0, h1 => ⟨h0, h1⟩
  | j + 1, m, x, h0, h1 => by
    have := o.st x
    exact most_bound c o j _ _ (by unfold imax; split <;> omega) (by unfold imax; split <;> omega)
theorem Rounds_eq (c : api_Config) (hm : mayB c = true) (k : Nat) (hk : 20 ≤ k) : room_Rounds k c = some (c.Tasks * most c 10 0 0) := by
  have o := Ok.of hm
  have b := most_bound c o 10 0 0 (by omega) (by omega)
  have t := o.t
  have h1 := Int.mul_nonneg (a := c.Tasks) (b := most c 10 0 0) (by omega) (by omega)
  have h2 := mulLe (a := c.Tasks) (b := most c 10 0 0) (c := 6) (d := 50000000) t.2 b.2 b.1 (by omega)
  unfold room_Rounds
  rw [May_def _ c (by omega), hm]
  simp only [Option.bind_some, Bool.not_true, Bool.false_eq_true, if_false]
  show Option.bind (room_Rounds_l0 c k 0 ((0 : Nat) : Int)) _ = _
  rw [Rounds_l0 c hm 10 0 0 (by omega) k (by omega)]
  show some (IntKind.i64.wrap (c.Tasks * most c 10 0 0)) = _
  rw [wr (by omega) (by omega)]
/-! ### what is larger is not less -/
structure Le (c d : api_Config) : Prop where
  t : c.Tasks ≤ d.Tasks
  k : c.Keys ≤ d.Keys
  dp : c.Depth ≤ d.Depth
  f : d.Fan = c.Fan
section
variable {c d : api_Config} (o : Ok c) (p : Ok d) (h : Le c d)
include o p h
theorem le_kd : c.Keys * c.Depth ≤ d.Keys * d.Depth := mulLe h.k h.dp (by have := o.d; omega) (by have := p.k; omega)
theorem le_an : anchS c ≤ anchS d := by
  have h1 := le_kd o p h
  have := o.kd
  have := p.t
  have h2 := mulLe h.t h1 (by omega) (by omega)
  have := h.k
  unfold anchS; omega
theorem le_sl : slotsS c ≤ slotsS d := by
  have h1 := le_kd o p h
  have h2 : imax (c.Keys * c.Depth) (c.Depth + 1) ≤ imax (d.Keys * d.Depth) (d.Depth + 1) := by
    have := h.dp
    unfold imax; split <;> split <;> omega
  have := o.mx
  have := p.t
  have h3 := mulLe h.t h2 (by omega) (by omega)
  unfold slotsS; omega
theorem le_lev : lev c ≤ lev d := by
  have h1 := le_an o p h
  have hf := o.f
  have : (anchS c - 1) / c.Fan ≤ (anchS d - 1) / c.Fan := Int.ediv_le_ediv (by omega) (by omega)
  unfold lev; rw [h.f]; omega
theorem le_key : keyC c ≤ keyC d := by have := le_lev o p h; unfold keyC; omega
theorem le_all : allC c ≤ allC d := by have := le_sl o p h; have := h.t; unfold allC; omega
theorem le_st (x : Int) : stepsS c x ≤ stepsS d x := by
  have h1 := le_key o p h
  have h2 := le_all o p h
  have k1 := o.ky
  have k2 := p.k
  have h3 := mulLe h.k h1 (by omega) (by omega)
  have h4 := le_an o p h
  have a1 := p.an
  have t1 := h.t
  have t2 := p.t
  have h5 := mulLe (a := anchS c + c.Tasks + 1) (b := keyC c) (c := anchS d + d.Tasks + 1) (d := keyC d) (by omega) h1 (by omega) (by omega)
  unfold stepsS
  split
  · omega
  split
  · omega
  split
  · omega
  split <;> omega
theorem le_most : ∀ (j : Nat) (m n x : Int), m ≤ n → most c j m x ≤ most d j n x
  | 0, m, n, x, e => e
  | j + 1, m, n, x, e => by
    have := le_st o p h x
    exact le_most j _ _ _ (by unfold imax; split <;> split <;> omega)
end
theorem imax_ge (a b : Int) : a ≤ imax a b ∧ b ≤ imax a b := by unfold imax; split <;> omega
theorem larger_may {c d : api_Config} (h : mayB c = true) (g : mayB d = true) : mayB ⟨imax c.Tasks d.Tasks, imax c.Active d.Active, imax c.Keys d.Keys, imax c.Depth d.Depth, imax c.TS d.TS, imax c.KeyLen d.KeyLen, imax c.ValLen d.ValLen, c.Fan⟩ = true := by
  simp only [mayB, Bool.and_eq_true, decide_eq_true_eq] at h g ⊢
  have i1 : ∀ a b lo hi : Int, lo ≤ a → a ≤ hi → b ≤ hi → imax a b ≥ lo ∧ imax a b ≤ hi := fun a b lo hi _ _ _ => by unfold imax; split <;> omega
  have x1 := i1 c.Tasks d.Tasks 1 6 (by omega) (by omega) (by omega)
  have x2 := i1 c.Active d.Active 1 8 (by omega) (by omega) (by omega)
  have x3 := i1 c.Keys d.Keys 1 64 (by omega) (by omega) (by omega)
  have x4 := i1 c.Depth d.Depth 2 8 (by omega) (by omega) (by omega)
  have x5 := i1 c.TS d.TS 1 1048576 (by omega) (by omega) (by omega)
  have x6 := i1 c.KeyLen d.KeyLen 1 64 (by omega) (by omega) (by omega)
  have x7 := i1 c.ValLen d.ValLen 0 256 (by omega) (by omega) (by omega)
  refine ⟨⟨⟨⟨⟨⟨⟨⟨x1.1, x1.2⟩, ⟨x2.1, x2.2⟩⟩, ⟨x3.1, x3.2⟩⟩, ⟨x4.1, x4.2⟩⟩, ⟨x5.1, x5.2⟩⟩, ⟨x6.1, x6.2⟩⟩, ⟨x7.1, x7.2⟩⟩, by omega⟩
theorem works_at : ferrymanlaw30_works 60 = some true := by decide +kernel
theorem works_ev : Ev (fun k => ferrymanlaw30_works k) true := ⟨60, fun k hk => OLe.up (f := fun k => ferrymanlaw30_works k) (fun k => ferrymanlaw30_works.mono) hk _ works_at⟩
theorem pure_RoomLarger (a0 : api_Config) (a1 : api_Config) (a2 : Int) (_ : wf_api_Config a0) (_ : wf_api_Config a1) (_ : (wfInt .u8) a2) : ∃ k, ferrymanlaw30_RoomLarger k a0 a1 a2 = some true := by
  refine Ev.ex (f := fun k => ferrymanlaw30_RoomLarger k a0 a1 a2) ?_
  unfold ferrymanlaw30_RoomLarger
  refine works_ev.bind ?_
  refine Ev.bind (v := !mayB a0) (Ev.neg (by simp) (Ev.bind ⟨9, fun k hk => May_def k a0 hk⟩ (Ev.pure _))) ?_
  cases h0 : mayB a0 with
  | false => exact Ev.bind (v := true) (Ev.pos rfl (Ev.pure _)) (Ev.pos rfl (works_ev.bind (Ev.pure _)))
  | true =>
    refine Ev.bind (v := !mayB a1) (Ev.neg (by simp) (Ev.bind ⟨9, fun k hk => May_def k a1 hk⟩ (Ev.pure _))) ?_
    cases h1 : mayB a1 with
    | false => exact Ev.pos rfl (works_ev.bind (Ev.pure _))
    | true =>
      refine Ev.neg (by simp) ?_
      refine Ev.bind (Ev.pure _) (Ev.bind (Ev.pure _) ?_)
      have hm := larger_may h0 h1
      have L : Le a0 ⟨imax a0.Tasks a1.Tasks, imax a0.Active a1.Active, imax a0.Keys a1.Keys, imax a0.Depth a1.Depth, imax a0.TS a1.TS, imax a0.KeyLen a1.KeyLen, imax a0.ValLen a1.ValLen, a0.Fan⟩ := ⟨(imax_ge _ _).1, (imax_ge _ _).1, (imax_ge _ _).1, rfl⟩
      generalize (⟨imax a0.Tasks a1.Tasks, imax a0.Active a1.Active, imax a0.Keys a1.Keys, imax a0.Depth a1.Depth, imax a0.TS a1.TS, imax a0.KeyLen a1.KeyLen, imax a0.ValLen a1.ValLen, a0.Fan⟩ : api_Config) = d at *
      have o := Ok.of h0
      have p := Ok.of hm
      refine Ev.bind ⟨9, fun k hk => Bound_eq' a0 h0 k hk⟩ ?_
      refine Ev.bind ⟨9, fun k hk => Bound_eq' d hm k hk⟩ ?_
      have s := le_sl o p L
      have a := le_an o p L
      have st := le_st o p L a2
      have mo := le_most o p L 10 0 0 0 (Int.le_refl _)
      have mb := most_bound a0 o 10 0 0 (by omega) (by omega)
      have rt := mulLe L.t mo mb.1 (by have := p.t; omega)
      refine Ev.bind (v := true) (Ev.pos (by simp [s, a]) (Ev.bind ⟨9, fun k hk => Steps_eq a0 h0 a2 k hk⟩ (Ev.bind ⟨9, fun k hk => Steps_eq d hm a2 k hk⟩ ((Ev.pure _).eq (by simp [st]))))) ?_
      refine Ev.bind (v := true) (Ev.pos rfl (Ev.bind ⟨20, fun k hk => Rounds_eq a0 h0 k hk⟩ (Ev.bind ⟨20, fun k hk => Rounds_eq d hm k hk⟩ ((Ev.pure _).eq (by simp [rt]))))) ?_
      exact Ev.pure _
end Go.Proofs.YtkknoimjgifhlaaDoor
