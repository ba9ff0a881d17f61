import Derived.Test.YtgnbccjpgoeplaaGl1
import Derived.Test.YtgnbccjpgoeplaaSlH
import Derived.KernelRfl
import Derived.SizedLaws
namespace Go.Proofs.Ytgnbccjpgoeplaa
open Go Go.RowKit
set_option linter.unusedVariables false
set_option linter.unusedSimpArgs false
def wf_latch_Name (x : latch_Name) : Prop := (wfInt .u8) x.Kind ∧ (wfInt .u64) x.ID
def sz_latch_Name (x : latch_Name) : Nat := sz1 x.Kind + sz1 x.ID + 1
theorem open_latch_Name : Opens Try.prog 25 r_latch_Name wf_latch_Name sz_latch_Name := by
  intro H enc w sp held fuel cs x h
  obtain ⟨xs, n, rfl, rfl, hl, hxs, hf⟩ := DataW.trod_struct Try.underlying25 h
  have hl' : cs.length = 2 := hl.trans (by kernel_rfl)
  have hx' : xs.length = 2 := hxs.trans (by kernel_rfl)
  obtain ⟨y0, y1, rfl⟩ : ∃ y0 y1, xs = [y0, y1] := by
    match xs, hx' with | [y0, y1], _ => exact ⟨y0, y1, rfl⟩
  obtain ⟨c0, c1, rfl⟩ : ∃ c0 c1, cs = [c0, c1] := by
    match cs, hl' with | [c0, c1], _ => exact ⟨c0, c1, rfl⟩
  have h0 : DataW.trod enc Try.prog w 0 sp held n 5 (([c0, c1].drop 0).take (Try.prog.cellsOf 5)) = some y0 := hf 0 _ rfl
  rw [(by kernel_rfl : Try.prog.cellsOf 5 = 1)] at h0
  replace h0 : DataW.trod enc Try.prog w 0 sp held n 5 [c0] = some y0 := h0
  obtain ⟨a0, r0, w0, s0⟩ := (opens_int Try.underlying5) H enc w sp held n _ _ h0
  have h1 : DataW.trod enc Try.prog w 0 sp held n 23 (([c0, c1].drop 1).take (Try.prog.cellsOf 23)) = some y1 := hf 1 _ rfl
  rw [(by kernel_rfl : Try.prog.cellsOf 23 = 1)] at h1
  replace h1 : DataW.trod enc Try.prog w 0 sp held n 23 [c1] = some y1 := h1
  obtain ⟨a1, r1, w1, s1⟩ := (opens_int Try.underlying23) H enc w sp held n _ _ h1
  cases r0
  cases r1
  refine ⟨⟨a0, a1⟩, rfl, ⟨w0, w1⟩, ?_⟩
  simp only [sz_latch_Name, Rows.uptoBulk, Rows.uptoBulkAll, List.map]
  omega
def wf_ferrymanlaw05_Step (x : ferrymanlaw05_Step) : Prop := wfTrue x.Drop ∧ wf_latch_Name x.N ∧ (wfInt .i64) x.Task
def sz_ferrymanlaw05_Step (x : ferrymanlaw05_Step) : Nat := sz1 x.Drop + sz_latch_Name x.N + sz1 x.Task + 1
theorem open_ferrymanlaw05_Step : Opens Try.prog 30 r_ferrymanlaw05_Step wf_ferrymanlaw05_Step sz_ferrymanlaw05_Step := by
  intro H enc w sp held fuel cs x h
  obtain ⟨xs, n, rfl, rfl, hl, hxs, hf⟩ := DataW.trod_struct Try.underlying30 h
  have hl' : cs.length = 4 := hl.trans (by kernel_rfl)
  have hx' : xs.length = 3 := hxs.trans (by kernel_rfl)
  obtain ⟨y0, y1, y2, rfl⟩ : ∃ y0 y1 y2, xs = [y0, y1, y2] := by
    match xs, hx' with | [y0, y1, y2], _ => exact ⟨y0, y1, y2, rfl⟩
  obtain ⟨c0, c1, c2, c3, rfl⟩ : ∃ c0 c1 c2 c3, cs = [c0, c1, c2, c3] := by
    match cs, hl' with | [c0, c1, c2, c3], _ => exact ⟨c0, c1, c2, c3, rfl⟩
  have h0 : DataW.trod enc Try.prog w 0 sp held n 4 (([c0, c1, c2, c3].drop 0).take (Try.prog.cellsOf 4)) = some y0 := hf 0 _ rfl
  rw [(by kernel_rfl : Try.prog.cellsOf 4 = 1)] at h0
  replace h0 : DataW.trod enc Try.prog w 0 sp held n 4 [c0] = some y0 := h0
  obtain ⟨a0, r0, w0, s0⟩ := (opens_bool Try.underlying4) H enc w sp held n _ _ h0
  have h1 : DataW.trod enc Try.prog w 0 sp held n 25 (([c0, c1, c2, c3].drop 1).take (Try.prog.cellsOf 25)) = some y1 := hf 1 _ rfl
  rw [(by kernel_rfl : Try.prog.cellsOf 25 = 2)] at h1
  replace h1 : DataW.trod enc Try.prog w 0 sp held n 25 [c1, c2] = some y1 := h1
  obtain ⟨a1, r1, w1, s1⟩ := open_latch_Name H enc w sp held n _ _ h1
  have h2 : DataW.trod enc Try.prog w 0 sp held n 3 (([c0, c1, c2, c3].drop 3).take (Try.prog.cellsOf 3)) = some y2 := hf 2 _ rfl
  rw [(by kernel_rfl : Try.prog.cellsOf 3 = 1)] at h2
  replace h2 : DataW.trod enc Try.prog w 0 sp held n 3 [c3] = some y2 := h2
  obtain ⟨a2, r2, w2, s2⟩ := (opens_int Try.underlying3) H enc w sp held n _ _ h2
  cases r0
  cases r1
  cases r2
  refine ⟨⟨a0, a1, a2⟩, rfl, ⟨w0, w1, w2⟩, ?_⟩
  simp only [sz_ferrymanlaw05_Step, Rows.uptoBulk, Rows.uptoBulkAll, List.map]
  omega
theorem wt_sl {H : Type} {enc : TypeId × Value → H} {w : World} {sp : Nat → Bool} {held : Bool} {base fuel : Nat} {t e : TypeId} {Ad : Option Addr} {n c : Nat} {x : DataW H × List MemPlace} (hu : Try.prog.underlying t = some (.slice e)) (h : DataW.trod enc Try.prog w base sp held fuel t [.slice Ad n c] = some x) (hw : ∀ m ∈ x.1.weights Try.prog t, m ≤ reachBytes) : n * Try.prog.bytesOf e ≤ reachBytes := by
  rcases DataW.trod_slice hu h with ⟨he, rfl⟩ | ⟨a, len, cap, elems, rest, n', _, he, rfl, _, hl, hm, hlen, _⟩
  · injection he with he _; injection he with _ e2 _; subst e2; simp
  · injection he with he _; injection he with _ e2 _; subst e2
    have := hw (((elems.map (·.1)).length + (rest.map (·.1)).length) * Try.prog.bytesOf e) (by simp [DataW.weights, hu])
    rw [List.length_map, hlen] at this
    exact Nat.le_trans (Nat.mul_le_mul_right _ (Nat.le_add_right _ _)) this
end Go.Proofs.Ytgnbccjpgoeplaa
