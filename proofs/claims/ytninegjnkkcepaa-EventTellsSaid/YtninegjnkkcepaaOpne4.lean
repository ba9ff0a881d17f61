import Derived.Test.YtninegjnkkcepaaGe4B
import Derived.Test.YtninegjnkkcepaaSlH
import Derived.KernelRfl
namespace Go.Proofs.Ytninegjnkkcepaa
open Go Go.RowKit
set_option linter.unusedVariables false
set_option linter.unusedSimpArgs false
set_option maxRecDepth 100000
def wf_api_Pair (x : api_Pair) : Prop := wfStr x.Key ∧ wfStr x.Value
def sz_api_Pair (x : api_Pair) : Nat := szStr x.Key + szStr x.Value + 1
theorem open_api_Pair : Opens Try.prog 43 r_api_Pair wf_api_Pair sz_api_Pair := by
  intro H enc w sp held fuel cs x h
  obtain ⟨xs, n, rfl, rfl, hl, hxs, hf⟩ := DataW.trod_struct Try.underlying43 h
  have hl' : cs.length = 2 := hl.trans (by kernel_rfl)
  have hx' : xs.length = 2 := hxs.trans (by kernel_rfl)
  obtain ⟨y0, y1, rfl⟩ : ∃ y0 y1, xs = [y0, y1] := by
    match xs, hx' with | [y0, y1], _ => exact ⟨y0, y1, rfl⟩
  obtain ⟨c0, c1, rfl⟩ : ∃ c0 c1, cs = [c0, c1] := by
    match cs, hl' with | [c0, c1], _ => exact ⟨c0, c1, rfl⟩
  have h0 : DataW.trod enc Try.prog w 0 sp held n 9 (([c0, c1].drop 0).take (Try.prog.cellsOf 9)) = some y0 := hf 0 _ rfl
  rw [(by kernel_rfl : Try.prog.cellsOf 9 = 1)] at h0
  replace h0 : DataW.trod enc Try.prog w 0 sp held n 9 [c0] = some y0 := h0
  obtain ⟨a0, r0, w0, s0⟩ := (opens_str Try.underlying9) H enc w sp held n _ _ h0
  have h1 : DataW.trod enc Try.prog w 0 sp held n 9 (([c0, c1].drop 1).take (Try.prog.cellsOf 9)) = some y1 := hf 1 _ rfl
  rw [(by kernel_rfl : Try.prog.cellsOf 9 = 1)] at h1
  replace h1 : DataW.trod enc Try.prog w 0 sp held n 9 [c1] = some y1 := h1
  obtain ⟨a1, r1, w1, s1⟩ := (opens_str Try.underlying9) H enc w sp held n _ _ h1
  cases r0
  cases r1
  refine ⟨⟨a0, a1⟩, rfl, ⟨w0, w1⟩, ?_⟩
  simp only [sz_api_Pair, Rows.uptoBulk, Rows.uptoBulkAll, List.map]
  omega
def wf_api_Answer (x : api_Answer) : Prop := (wfInt .i64) x.Err ∧ wfTrue x.Found ∧ wfStr x.Value ∧ (wfSl wf_api_Pair) x.Pairs
def sz_api_Answer (x : api_Answer) : Nat := sz1 x.Err + sz1 x.Found + szStr x.Value + (szSl sz_api_Pair) x.Pairs + 1
theorem open_api_Answer : Opens Try.prog 30 r_api_Answer wf_api_Answer sz_api_Answer := by
  intro H enc w sp held fuel cs x h
  obtain ⟨xs, n, rfl, rfl, hl, hxs, hf⟩ := DataW.trod_struct Try.underlying30 h
  have hl' : cs.length = 4 := hl.trans (by kernel_rfl)
  have hx' : xs.length = 4 := hxs.trans (by kernel_rfl)
  obtain ⟨y0, y1, y2, y3, rfl⟩ : ∃ y0 y1 y2 y3, xs = [y0, y1, y2, y3] := by
    match xs, hx' with | [y0, y1, y2, y3], _ => exact ⟨y0, y1, y2, y3, rfl⟩
  obtain ⟨c0, c1, c2, c3, rfl⟩ : ∃ c0 c1 c2 c3, cs = [c0, c1, c2, c3] := by
    match cs, hl' with | [c0, c1, c2, c3], _ => exact ⟨c0, c1, c2, c3, rfl⟩
  have h0 : DataW.trod enc Try.prog w 0 sp held n 27 (([c0, c1, c2, c3].drop 0).take (Try.prog.cellsOf 27)) = some y0 := hf 0 _ rfl
  rw [(by kernel_rfl : Try.prog.cellsOf 27 = 1)] at h0
  replace h0 : DataW.trod enc Try.prog w 0 sp held n 27 [c0] = some y0 := h0
  obtain ⟨a0, r0, w0, s0⟩ := (opens_int Try.underlying27) H enc w sp held n _ _ h0
  have h1 : DataW.trod enc Try.prog w 0 sp held n 4 (([c0, c1, c2, c3].drop 1).take (Try.prog.cellsOf 4)) = some y1 := hf 1 _ rfl
  rw [(by kernel_rfl : Try.prog.cellsOf 4 = 1)] at h1
  replace h1 : DataW.trod enc Try.prog w 0 sp held n 4 [c1] = some y1 := h1
  obtain ⟨a1, r1, w1, s1⟩ := (opens_bool Try.underlying4) H enc w sp held n _ _ h1
  have h2 : DataW.trod enc Try.prog w 0 sp held n 9 (([c0, c1, c2, c3].drop 2).take (Try.prog.cellsOf 9)) = some y2 := hf 2 _ rfl
  rw [(by kernel_rfl : Try.prog.cellsOf 9 = 1)] at h2
  replace h2 : DataW.trod enc Try.prog w 0 sp held n 9 [c2] = some y2 := h2
  obtain ⟨a2, r2, w2, s2⟩ := (opens_str Try.underlying9) H enc w sp held n _ _ h2
  have h3 : DataW.trod enc Try.prog w 0 sp held n 28 (([c0, c1, c2, c3].drop 3).take (Try.prog.cellsOf 28)) = some y3 := hf 3 _ rfl
  rw [(by kernel_rfl : Try.prog.cellsOf 28 = 1)] at h3
  replace h3 : DataW.trod enc Try.prog w 0 sp held n 28 [c3] = some y3 := h3
  obtain ⟨a3, r3, w3, s3⟩ := (opens_slice Try.underlying28 (by kernel_rfl) (by decide) open_api_Pair) H enc w sp held n _ _ h3
  cases r0
  cases r1
  cases r2
  obtain ⟨v3, g3, e3⟩ := r3
  cases e3
  refine ⟨⟨a0, a1, a2, a3⟩, ⟨_, g3, rfl⟩, ⟨w0, w1, w2, w3⟩, ?_⟩
  simp only [sz_api_Answer, Rows.uptoBulk, Rows.uptoBulkAll, List.map]
  omega
def wf_ferrymanlaw06_Step (x : ferrymanlaw06_Step) : Prop := (wfInt .u8) x.What ∧ (wfInt .i64) x.Task ∧ wf_api_Answer x.Answer
def sz_ferrymanlaw06_Step (x : ferrymanlaw06_Step) : Nat := sz1 x.What + sz1 x.Task + sz_api_Answer x.Answer + 1
theorem open_ferrymanlaw06_Step : Opens Try.prog 40 r_ferrymanlaw06_Step wf_ferrymanlaw06_Step sz_ferrymanlaw06_Step := by
  intro H enc w sp held fuel cs x h
  obtain ⟨xs, n, rfl, rfl, hl, hxs, hf⟩ := DataW.trod_struct Try.underlying40 h
  have hl' : cs.length = 6 := hl.trans (by kernel_rfl)
  have hx' : xs.length = 3 := hxs.trans (by kernel_rfl)
  obtain ⟨y0, y1, y2, rfl⟩ : ∃ y0 y1 y2, xs = [y0, y1, y2] := by
    match xs, hx' with | [y0, y1, y2], _ => exact ⟨y0, y1, y2, rfl⟩
  obtain ⟨c0, c1, c2, c3, c4, c5, rfl⟩ : ∃ c0 c1 c2 c3 c4 c5, cs = [c0, c1, c2, c3, c4, c5] := by
    match cs, hl' with | [c0, c1, c2, c3, c4, c5], _ => exact ⟨c0, c1, c2, c3, c4, c5, rfl⟩
  have h0 : DataW.trod enc Try.prog w 0 sp held n 5 (([c0, c1, c2, c3, c4, c5].drop 0).take (Try.prog.cellsOf 5)) = some y0 := hf 0 _ rfl
  rw [(by kernel_rfl : Try.prog.cellsOf 5 = 1)] at h0
  replace h0 : DataW.trod enc Try.prog w 0 sp held n 5 [c0] = some y0 := h0
  obtain ⟨a0, r0, w0, s0⟩ := (opens_int Try.underlying5) H enc w sp held n _ _ h0
  have h1 : DataW.trod enc Try.prog w 0 sp held n 3 (([c0, c1, c2, c3, c4, c5].drop 1).take (Try.prog.cellsOf 3)) = some y1 := hf 1 _ rfl
  rw [(by kernel_rfl : Try.prog.cellsOf 3 = 1)] at h1
  replace h1 : DataW.trod enc Try.prog w 0 sp held n 3 [c1] = some y1 := h1
  obtain ⟨a1, r1, w1, s1⟩ := (opens_int Try.underlying3) H enc w sp held n _ _ h1
  have h2 : DataW.trod enc Try.prog w 0 sp held n 30 (([c0, c1, c2, c3, c4, c5].drop 2).take (Try.prog.cellsOf 30)) = some y2 := hf 2 _ rfl
  rw [(by kernel_rfl : Try.prog.cellsOf 30 = 4)] at h2
  replace h2 : DataW.trod enc Try.prog w 0 sp held n 30 [c2, c3, c4, c5] = some y2 := h2
  obtain ⟨a2, r2, w2, s2⟩ := open_api_Answer H enc w sp held n _ _ h2
  cases r0
  cases r1
  obtain ⟨v2_3, g2_3, e2⟩ := r2
  cases e2
  refine ⟨⟨a0, a1, a2⟩, ⟨_, g2_3, rfl⟩, ⟨w0, w1, w2⟩, ?_⟩
  simp only [sz_ferrymanlaw06_Step, Rows.uptoBulk, Rows.uptoBulkAll, List.map]
  omega
def wf_api_Event (x : api_Event) : Prop := (wfInt .u8) x.What ∧ (wfInt .i64) x.Task ∧ (wfInt .i64) x.Call ∧ wf_api_Answer x.Answer
def sz_api_Event (x : api_Event) : Nat := sz1 x.What + sz1 x.Task + sz1 x.Call + sz_api_Answer x.Answer + 1
theorem open_api_Event : Opens Try.prog 32 r_api_Event wf_api_Event sz_api_Event := by
  intro H enc w sp held fuel cs x h
  obtain ⟨xs, n, rfl, rfl, hl, hxs, hf⟩ := DataW.trod_struct Try.underlying32 h
  have hl' : cs.length = 7 := hl.trans (by kernel_rfl)
  have hx' : xs.length = 4 := hxs.trans (by kernel_rfl)
  obtain ⟨y0, y1, y2, y3, rfl⟩ : ∃ y0 y1 y2 y3, xs = [y0, y1, y2, y3] := by
    match xs, hx' with | [y0, y1, y2, y3], _ => exact ⟨y0, y1, y2, y3, rfl⟩
  obtain ⟨c0, c1, c2, c3, c4, c5, c6, rfl⟩ : ∃ c0 c1 c2 c3 c4 c5 c6, cs = [c0, c1, c2, c3, c4, c5, c6] := by
    match cs, hl' with | [c0, c1, c2, c3, c4, c5, c6], _ => exact ⟨c0, c1, c2, c3, c4, c5, c6, rfl⟩
  have h0 : DataW.trod enc Try.prog w 0 sp held n 5 (([c0, c1, c2, c3, c4, c5, c6].drop 0).take (Try.prog.cellsOf 5)) = some y0 := hf 0 _ rfl
  rw [(by kernel_rfl : Try.prog.cellsOf 5 = 1)] at h0
  replace h0 : DataW.trod enc Try.prog w 0 sp held n 5 [c0] = some y0 := h0
  obtain ⟨a0, r0, w0, s0⟩ := (opens_int Try.underlying5) H enc w sp held n _ _ h0
  have h1 : DataW.trod enc Try.prog w 0 sp held n 3 (([c0, c1, c2, c3, c4, c5, c6].drop 1).take (Try.prog.cellsOf 3)) = some y1 := hf 1 _ rfl
  rw [(by kernel_rfl : Try.prog.cellsOf 3 = 1)] at h1
  replace h1 : DataW.trod enc Try.prog w 0 sp held n 3 [c1] = some y1 := h1
  obtain ⟨a1, r1, w1, s1⟩ := (opens_int Try.underlying3) H enc w sp held n _ _ h1
  have h2 : DataW.trod enc Try.prog w 0 sp held n 3 (([c0, c1, c2, c3, c4, c5, c6].drop 2).take (Try.prog.cellsOf 3)) = some y2 := hf 2 _ rfl
  rw [(by kernel_rfl : Try.prog.cellsOf 3 = 1)] at h2
  replace h2 : DataW.trod enc Try.prog w 0 sp held n 3 [c2] = some y2 := h2
  obtain ⟨a2, r2, w2, s2⟩ := (opens_int Try.underlying3) H enc w sp held n _ _ h2
  have h3 : DataW.trod enc Try.prog w 0 sp held n 30 (([c0, c1, c2, c3, c4, c5, c6].drop 3).take (Try.prog.cellsOf 30)) = some y3 := hf 3 _ rfl
  rw [(by kernel_rfl : Try.prog.cellsOf 30 = 4)] at h3
  replace h3 : DataW.trod enc Try.prog w 0 sp held n 30 [c3, c4, c5, c6] = some y3 := h3
  obtain ⟨a3, r3, w3, s3⟩ := open_api_Answer H enc w sp held n _ _ h3
  cases r0
  cases r1
  cases r2
  obtain ⟨v3_3, g3_3, e3⟩ := r3
  cases e3
  refine ⟨⟨a0, a1, a2, a3⟩, ⟨_, g3_3, rfl⟩, ⟨w0, w1, w2, w3⟩, ?_⟩
  simp only [sz_api_Event, Rows.uptoBulk, Rows.uptoBulkAll, List.map]
  omega
def wf_ferrymanref06_Place (x : ferrymanref06_Place) : Prop := (wfInt .i64) x.Task ∧ (wfInt .i64) x.Call
def sz_ferrymanref06_Place (x : ferrymanref06_Place) : Nat := sz1 x.Task + sz1 x.Call + 1
theorem open_ferrymanref06_Place : Opens Try.prog 81 r_ferrymanref06_Place wf_ferrymanref06_Place sz_ferrymanref06_Place := by
  intro H enc w sp held fuel cs x h
  obtain ⟨xs, n, rfl, rfl, hl, hxs, hf⟩ := DataW.trod_struct Try.underlying81 h
  have hl' : cs.length = 2 := hl.trans (by kernel_rfl)
  have hx' : xs.length = 2 := hxs.trans (by kernel_rfl)
  obtain ⟨y0, y1, rfl⟩ : ∃ y0 y1, xs = [y0, y1] := by
    match xs, hx' with | [y0, y1], _ => exact ⟨y0, y1, rfl⟩
  obtain ⟨c0, c1, rfl⟩ : ∃ c0 c1, cs = [c0, c1] := by
    match cs, hl' with | [c0, c1], _ => exact ⟨c0, c1, rfl⟩
  have h0 : DataW.trod enc Try.prog w 0 sp held n 3 (([c0, c1].drop 0).take (Try.prog.cellsOf 3)) = some y0 := hf 0 _ rfl
  rw [(by kernel_rfl : Try.prog.cellsOf 3 = 1)] at h0
  replace h0 : DataW.trod enc Try.prog w 0 sp held n 3 [c0] = some y0 := h0
  obtain ⟨a0, r0, w0, s0⟩ := (opens_int Try.underlying3) H enc w sp held n _ _ h0
  have h1 : DataW.trod enc Try.prog w 0 sp held n 3 (([c0, c1].drop 1).take (Try.prog.cellsOf 3)) = some y1 := hf 1 _ rfl
  rw [(by kernel_rfl : Try.prog.cellsOf 3 = 1)] at h1
  replace h1 : DataW.trod enc Try.prog w 0 sp held n 3 [c1] = some y1 := h1
  obtain ⟨a1, r1, w1, s1⟩ := (opens_int Try.underlying3) H enc w sp held n _ _ h1
  cases r0
  cases r1
  refine ⟨⟨a0, a1⟩, rfl, ⟨w0, w1⟩, ?_⟩
  simp only [sz_ferrymanref06_Place, Rows.uptoBulk, Rows.uptoBulkAll, List.map]
  omega
end Go.Proofs.Ytninegjnkkcepaa
