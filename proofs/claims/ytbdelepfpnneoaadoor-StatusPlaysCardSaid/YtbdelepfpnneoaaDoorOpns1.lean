import Derived.Test.YtbdelepfpnneoaaDoorGs1
import Derived.Test.YtbdelepfpnneoaaDoorSlH
import Derived.KernelRfl
import Derived.ProofKit
import Derived.LaidMore
import Derived.OpenShut
import Derived.FnData
import Derived.MakeChecks
import Derived.LaidHandle
import Derived.LaidLaws
namespace Go.Proofs.YtbdelepfpnneoaaDoor
open Go Go.RowKit
set_option linter.unusedVariables false
set_option linter.unusedSimpArgs false
def wf_ferrymanlaw08_Step (x : ferrymanlaw08_Step) : Prop := (wfInt .u8) x.What ∧ (wfInt .i64) x.W ∧ (wfInt .i64) x.TS
def sz_ferrymanlaw08_Step (x : ferrymanlaw08_Step) : Nat := sz1 x.What + sz1 x.W + sz1 x.TS + 1
theorem open_ferrymanlaw08_Step : Opens Tryd.prog 30 r_ferrymanlaw08_Step wf_ferrymanlaw08_Step sz_ferrymanlaw08_Step := by
  intro H enc w sp held fuel cs x h
  obtain ⟨xs, n, rfl, rfl, hl, hxs, hf⟩ := DataW.trod_struct Tryd.underlying30 h
  have hl' : cs.length = 3 := hl.trans (by kernel_rfl)
  have hx' : xs.length = 3 := hxs.trans (by kernel_rfl)
  obtain ⟨y0, y1, y2, rfl⟩ : ∃ y0 y1 y2, xs = [y0, y1, y2] := by
    match xs, hx' with | [y0, y1, y2], _ => exact ⟨y0, y1, y2, rfl⟩
  obtain ⟨c0, c1, c2, rfl⟩ : ∃ c0 c1 c2, cs = [c0, c1, c2] := by
    match cs, hl' with | [c0, c1, c2], _ => exact ⟨c0, c1, c2, rfl⟩
  have h0 : DataW.trod enc Tryd.prog w 0 sp held n 5 (([c0, c1, c2].drop 0).take (Tryd.prog.cellsOf 5)) = some y0 := hf 0 _ rfl
  rw [(by kernel_rfl : Tryd.prog.cellsOf 5 = 1)] at h0
  replace h0 : DataW.trod enc Tryd.prog w 0 sp held n 5 [c0] = some y0 := h0
  obtain ⟨a0, r0, w0, s0⟩ := (opens_int Tryd.underlying5) H enc w sp held n _ _ h0
  have h1 : DataW.trod enc Tryd.prog w 0 sp held n 3 (([c0, c1, c2].drop 1).take (Tryd.prog.cellsOf 3)) = some y1 := hf 1 _ rfl
  rw [(by kernel_rfl : Tryd.prog.cellsOf 3 = 1)] at h1
  replace h1 : DataW.trod enc Tryd.prog w 0 sp held n 3 [c1] = some y1 := h1
  obtain ⟨a1, r1, w1, s1⟩ := (opens_int Tryd.underlying3) H enc w sp held n _ _ h1
  have h2 : DataW.trod enc Tryd.prog w 0 sp held n 3 (([c0, c1, c2].drop 2).take (Tryd.prog.cellsOf 3)) = some y2 := hf 2 _ rfl
  rw [(by kernel_rfl : Tryd.prog.cellsOf 3 = 1)] at h2
  replace h2 : DataW.trod enc Tryd.prog w 0 sp held n 3 [c2] = some y2 := h2
  obtain ⟨a2, r2, w2, s2⟩ := (opens_int Tryd.underlying3) H enc w sp held n _ _ h2
  cases r0
  cases r1
  cases r2
  refine ⟨⟨a0, a1, a2⟩, rfl, ⟨w0, w1, w2⟩, ?_⟩
  simp only [sz_ferrymanlaw08_Step, Rows.uptoBulk, Rows.uptoBulkAll, List.map]
  omega
set_option maxRecDepth 100000
theorem laid_name0 : Tryd.prog.globalNamed "ferryman/status.before" = some 0 := by kernel_rfl
theorem laid_type0 : (Tryd.prog.globals[0]?).map (·.type) = some 66 := by kernel_rfl
theorem door_met (os : Os) (args : Array Value) : laidMetH Tryd.prog [("ferryman/status.before", Rows.laid_ferryman_status_before)] ((World.doorLaid Tryd.prog 400 os).forCall (fun _ _ => 0) ⟨#[], args, []⟩).memory :=
  laidMetH_of_parts3 (fuel := 8) (laidMet_of_run' 8 (by kernel_rfl) (by kernel_rfl)) (by kernel_rfl) (by kernel_rfl)
theorem of_laid {W : World} (h : laidMetH Tryd.prog [("ferryman/status.before", Rows.laid_ferryman_status_before)] W) : ∃ gt fr, Hp.of W 0 = some (.cells #[.int .u8 0, .int .u8 0, .int .u8 1, .int .u8 1, .int .u8 2] gt fr) := by
  rw [MakeChecks.laidMetH_plain _ _ _ (by kernel_rfl)] at h
  obtain ⟨ps, ⟨g0, t0, cs0, f0, p0, q0, hg0, ht0, hv0, hd0, _, _⟩, _, _⟩ := h
  obtain rfl := Option.some.inj (laid_name0.symm.trans hg0)
  obtain rfl := Option.some.inj (laid_type0.symm.trans ht0)
  obtain ⟨xs, m1, rfl, hx1, hlen, hn3, hel⟩ := DataW.trod_array Tryd.underlying66 hd0
  have cA : Tryd.prog.cellsOf 66 = 5 := by kernel_rfl
  have cE : Tryd.prog.cellsOf 5 = 1 := by kernel_rfl
  rw [cA] at hlen
  simp only [cE] at hel
  obtain ⟨l0⟩ := cs0
  obtain ⟨c0, c1, c2, c3, c4, rfl⟩ : ∃ c0 c1 c2 c3 c4, l0 = [c0, c1, c2, c3, c4] := by
    match l0, hlen with | [c0, c1, c2, c3, c4], _ => exact ⟨c0, c1, c2, c3, c4, rfl⟩
  obtain ⟨y0, y1, y2, y3, y4, rfl⟩ : ∃ y0 y1 y2 y3 y4, xs = [y0, y1, y2, y3, y4] := by
    match xs, hn3 with | [y0, y1, y2, y3, y4], _ => exact ⟨y0, y1, y2, y3, y4, rfl⟩
  simp only [Rows.laid_ferryman_status_before, Prod.mk.injEq, DataW.agg.injEq, List.map_cons, List.map_nil, List.cons.injEq] at hx1
  obtain ⟨⟨x0, x1, x2, x3, x4, _⟩, _⟩ := hx1
  obtain ⟨k0, e0, z0, _⟩ := DataW.trod_int Tryd.underlying5 (show DataW.trod _ Tryd.prog W 0 _ false m1 5 [c0] = some y0 from hel 0 (by decide))
  obtain rfl : k0 = 0 := by rw [z0] at x0; simpa using x0.symm
  obtain rfl : c0 = .int .u8 0 := by simpa using e0
  obtain ⟨k1, e1, z1, _⟩ := DataW.trod_int Tryd.underlying5 (show DataW.trod _ Tryd.prog W 0 _ false m1 5 [c1] = some y1 from hel 1 (by decide))
  obtain rfl : k1 = 0 := by rw [z1] at x1; simpa using x1.symm
  obtain rfl : c1 = .int .u8 0 := by simpa using e1
  obtain ⟨k2, e2, z2, _⟩ := DataW.trod_int Tryd.underlying5 (show DataW.trod _ Tryd.prog W 0 _ false m1 5 [c2] = some y2 from hel 2 (by decide))
  obtain rfl : k2 = 1 := by rw [z2] at x2; simpa using x2.symm
  obtain rfl : c2 = .int .u8 1 := by simpa using e2
  obtain ⟨k3, e3, z3, _⟩ := DataW.trod_int Tryd.underlying5 (show DataW.trod _ Tryd.prog W 0 _ false m1 5 [c3] = some y3 from hel 3 (by decide))
  obtain rfl : k3 = 1 := by rw [z3] at x3; simpa using x3.symm
  obtain rfl : c3 = .int .u8 1 := by simpa using e3
  obtain ⟨k4, e4, z4, _⟩ := DataW.trod_int Tryd.underlying5 (show DataW.trod _ Tryd.prog W 0 _ false m1 5 [c4] = some y4 from hel 4 (by decide))
  obtain rfl : k4 = 2 := by rw [z4] at x4; simpa using x4.symm
  obtain rfl : c4 = .int .u8 2 := by simpa using e4
  simp only [World.var?, laid_name0, Option.bind_some] at hv0
  split at hv0
  · next cs gt fr he =>
    obtain rfl := Option.some.inj hv0
    exact ⟨gt, fr, Hp.of_mk he⟩
  · cases hv0
end Go.Proofs.YtbdelepfpnneoaaDoor
