import Derived.Test.YtnfeinhialojnaaGt1
import Derived.Test.YtnfeinhialojnaaSlH
import Derived.KernelRfl
namespace Go.Proofs.Ytnfeinhialojnaa
open Go Go.RowKit
set_option linter.unusedVariables false
set_option linter.unusedSimpArgs false
def wf_api_Config (x : api_Config) : Prop := (wfInt .i64) x.Tasks ∧ (wfInt .i64) x.Active ∧ (wfInt .i64) x.Keys ∧ (wfInt .i64) x.Depth ∧ (wfInt .i64) x.TS ∧ (wfInt .i64) x.KeyLen ∧ (wfInt .i64) x.ValLen ∧ (wfInt .i64) x.Fan
def sz_api_Config (x : api_Config) : Nat := sz1 x.Tasks + sz1 x.Active + sz1 x.Keys + sz1 x.Depth + sz1 x.TS + sz1 x.KeyLen + sz1 x.ValLen + sz1 x.Fan + 1
theorem open_api_Config : Opens Try.prog 37 r_api_Config wf_api_Config sz_api_Config := by
  intro H enc w sp held fuel cs x h
  obtain ⟨xs, n, rfl, rfl, hl, hxs, hf⟩ := DataW.trod_struct Try.underlying37 h
  have hl' : cs.length = 8 := hl.trans (by kernel_rfl)
  have hx' : xs.length = 8 := hxs.trans (by kernel_rfl)
  obtain ⟨y0, y1, y2, y3, y4, y5, y6, y7, rfl⟩ : ∃ y0 y1 y2 y3 y4 y5 y6 y7, xs = [y0, y1, y2, y3, y4, y5, y6, y7] := by
    match xs, hx' with | [y0, y1, y2, y3, y4, y5, y6, y7], _ => exact ⟨y0, y1, y2, y3, y4, y5, y6, y7, rfl⟩
  obtain ⟨c0, c1, c2, c3, c4, c5, c6, c7, rfl⟩ : ∃ c0 c1 c2 c3 c4 c5 c6 c7, cs = [c0, c1, c2, c3, c4, c5, c6, c7] := by
    match cs, hl' with | [c0, c1, c2, c3, c4, c5, c6, c7], _ => exact ⟨c0, c1, c2, c3, c4, c5, c6, c7, rfl⟩
  have h0 : DataW.trod enc Try.prog w 0 sp held n 3 (([c0, c1, c2, c3, c4, c5, c6, c7].drop 0).take (Try.prog.cellsOf 3)) = some y0 := hf 0 _ rfl
  rw [(by kernel_rfl : Try.prog.cellsOf 3 = 1)] at h0
  replace h0 : DataW.trod enc Try.prog w 0 sp held n 3 [c0] = some y0 := h0
  obtain ⟨a0, r0, w0, s0⟩ := (opens_int Try.underlying3) H enc w sp held n _ _ h0
  have h1 : DataW.trod enc Try.prog w 0 sp held n 3 (([c0, c1, c2, c3, c4, c5, c6, c7].drop 1).take (Try.prog.cellsOf 3)) = some y1 := hf 1 _ rfl
  rw [(by kernel_rfl : Try.prog.cellsOf 3 = 1)] at h1
  replace h1 : DataW.trod enc Try.prog w 0 sp held n 3 [c1] = some y1 := h1
  obtain ⟨a1, r1, w1, s1⟩ := (opens_int Try.underlying3) H enc w sp held n _ _ h1
  have h2 : DataW.trod enc Try.prog w 0 sp held n 3 (([c0, c1, c2, c3, c4, c5, c6, c7].drop 2).take (Try.prog.cellsOf 3)) = some y2 := hf 2 _ rfl
  rw [(by kernel_rfl : Try.prog.cellsOf 3 = 1)] at h2
  replace h2 : DataW.trod enc Try.prog w 0 sp held n 3 [c2] = some y2 := h2
  obtain ⟨a2, r2, w2, s2⟩ := (opens_int Try.underlying3) H enc w sp held n _ _ h2
  have h3 : DataW.trod enc Try.prog w 0 sp held n 3 (([c0, c1, c2, c3, c4, c5, c6, c7].drop 3).take (Try.prog.cellsOf 3)) = some y3 := hf 3 _ rfl
  rw [(by kernel_rfl : Try.prog.cellsOf 3 = 1)] at h3
  replace h3 : DataW.trod enc Try.prog w 0 sp held n 3 [c3] = some y3 := h3
  obtain ⟨a3, r3, w3, s3⟩ := (opens_int Try.underlying3) H enc w sp held n _ _ h3
  have h4 : DataW.trod enc Try.prog w 0 sp held n 3 (([c0, c1, c2, c3, c4, c5, c6, c7].drop 4).take (Try.prog.cellsOf 3)) = some y4 := hf 4 _ rfl
  rw [(by kernel_rfl : Try.prog.cellsOf 3 = 1)] at h4
  replace h4 : DataW.trod enc Try.prog w 0 sp held n 3 [c4] = some y4 := h4
  obtain ⟨a4, r4, w4, s4⟩ := (opens_int Try.underlying3) H enc w sp held n _ _ h4
  have h5 : DataW.trod enc Try.prog w 0 sp held n 3 (([c0, c1, c2, c3, c4, c5, c6, c7].drop 5).take (Try.prog.cellsOf 3)) = some y5 := hf 5 _ rfl
  rw [(by kernel_rfl : Try.prog.cellsOf 3 = 1)] at h5
  replace h5 : DataW.trod enc Try.prog w 0 sp held n 3 [c5] = some y5 := h5
  obtain ⟨a5, r5, w5, s5⟩ := (opens_int Try.underlying3) H enc w sp held n _ _ h5
  have h6 : DataW.trod enc Try.prog w 0 sp held n 3 (([c0, c1, c2, c3, c4, c5, c6, c7].drop 6).take (Try.prog.cellsOf 3)) = some y6 := hf 6 _ rfl
  rw [(by kernel_rfl : Try.prog.cellsOf 3 = 1)] at h6
  replace h6 : DataW.trod enc Try.prog w 0 sp held n 3 [c6] = some y6 := h6
  obtain ⟨a6, r6, w6, s6⟩ := (opens_int Try.underlying3) H enc w sp held n _ _ h6
  have h7 : DataW.trod enc Try.prog w 0 sp held n 3 (([c0, c1, c2, c3, c4, c5, c6, c7].drop 7).take (Try.prog.cellsOf 3)) = some y7 := hf 7 _ rfl
  rw [(by kernel_rfl : Try.prog.cellsOf 3 = 1)] at h7
  replace h7 : DataW.trod enc Try.prog w 0 sp held n 3 [c7] = some y7 := h7
  obtain ⟨a7, r7, w7, s7⟩ := (opens_int Try.underlying3) H enc w sp held n _ _ h7
  cases r0
  cases r1
  cases r2
  cases r3
  cases r4
  cases r5
  cases r6
  cases r7
  refine ⟨⟨a0, a1, a2, a3, a4, a5, a6, a7⟩, rfl, ⟨w0, w1, w2, w3, w4, w5, w6, w7⟩, ?_⟩
  simp only [sz_api_Config, Rows.uptoBulk, Rows.uptoBulkAll, List.map]
  omega
end Go.Proofs.Ytnfeinhialojnaa
