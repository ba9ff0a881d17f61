import Derived.Test.YtmoackfjfklfaaaGm1
import Derived.Test.YtmoackfjfklfaaaSlH
import Derived.KernelRfl
import Derived.SizedLaws
namespace Go.Proofs.Ytmoackfjfklfaaa
open Go Go.RowKit
set_option linter.unusedVariables false
set_option linter.unusedSimpArgs false
def wf_api_Version (x : api_Version) : Prop := (wfInt .i64) x.Writer ∧ (wfInt .i64) x.TS ∧ wfTrue x.Tomb ∧ wfStr x.Value
def sz_api_Version (x : api_Version) : Nat := sz1 x.Writer + sz1 x.TS + sz1 x.Tomb + szStr x.Value + 1
theorem open_api_Version : Opens Try.prog 27 r_api_Version wf_api_Version sz_api_Version := by
  intro H enc w sp held fuel cs x h
  obtain ⟨xs, n, rfl, rfl, hl, hxs, hf⟩ := DataW.trod_struct Try.underlying27 h
  have hl' : cs.length = 4 := hl.trans (by kernel_rfl)
  have hx' : xs.length = 4 := hxs.trans (by kernel_rfl)
  obtain ⟨y0, y1, y2, y3, rfl⟩ : ∃ y0 y1 y2 y3, xs = [y0, y1, y2, y3] := by
    match xs, hx' with | [y0, y1, y2, y3], _ => exact ⟨y0, y1, y2, y3, rfl⟩
  obtain ⟨c0, c1, c2, c3, rfl⟩ : ∃ c0 c1 c2 c3, cs = [c0, c1, c2, c3] := by
    match cs, hl' with | [c0, c1, c2, c3], _ => exact ⟨c0, c1, c2, c3, rfl⟩
  have h0 : DataW.trod enc Try.prog w 0 sp held n 3 (([c0, c1, c2, c3].drop 0).take (Try.prog.cellsOf 3)) = some y0 := hf 0 _ rfl
  rw [(by kernel_rfl : Try.prog.cellsOf 3 = 1)] at h0
  replace h0 : DataW.trod enc Try.prog w 0 sp held n 3 [c0] = some y0 := h0
  obtain ⟨a0, r0, w0, s0⟩ := (opens_int Try.underlying3) H enc w sp held n _ _ h0
  have h1 : DataW.trod enc Try.prog w 0 sp held n 3 (([c0, c1, c2, c3].drop 1).take (Try.prog.cellsOf 3)) = some y1 := hf 1 _ rfl
  rw [(by kernel_rfl : Try.prog.cellsOf 3 = 1)] at h1
  replace h1 : DataW.trod enc Try.prog w 0 sp held n 3 [c1] = some y1 := h1
  obtain ⟨a1, r1, w1, s1⟩ := (opens_int Try.underlying3) H enc w sp held n _ _ h1
  have h2 : DataW.trod enc Try.prog w 0 sp held n 4 (([c0, c1, c2, c3].drop 2).take (Try.prog.cellsOf 4)) = some y2 := hf 2 _ rfl
  rw [(by kernel_rfl : Try.prog.cellsOf 4 = 1)] at h2
  replace h2 : DataW.trod enc Try.prog w 0 sp held n 4 [c2] = some y2 := h2
  obtain ⟨a2, r2, w2, s2⟩ := (opens_bool Try.underlying4) H enc w sp held n _ _ h2
  have h3 : DataW.trod enc Try.prog w 0 sp held n 9 (([c0, c1, c2, c3].drop 3).take (Try.prog.cellsOf 9)) = some y3 := hf 3 _ rfl
  rw [(by kernel_rfl : Try.prog.cellsOf 9 = 1)] at h3
  replace h3 : DataW.trod enc Try.prog w 0 sp held n 9 [c3] = some y3 := h3
  obtain ⟨a3, r3, w3, s3⟩ := (opens_str Try.underlying9) H enc w sp held n _ _ h3
  cases r0
  cases r1
  cases r2
  cases r3
  refine ⟨⟨a0, a1, a2, a3⟩, rfl, ⟨w0, w1, w2, w3⟩, ?_⟩
  simp only [sz_api_Version, Rows.uptoBulk, Rows.uptoBulkAll, List.map]
  omega
theorem wt_sl {H : Type} {enc : TypeId × Value → H} {w : World} {sp : Nat → Bool} {held : Bool} {base fuel : Nat} {t e : TypeId} {Ad : Option Addr} {n c : Nat} {x : DataW H × List MemPlace} (hu : Try.prog.underlying t = some (.slice e)) (h : DataW.trod enc Try.prog w base sp held fuel t [.slice Ad n c] = some x) (hw : ∀ m ∈ x.1.weights Try.prog t, m ≤ reachBytes) : n * Try.prog.bytesOf e ≤ reachBytes := by
  rcases DataW.trod_slice hu h with ⟨he, rfl⟩ | ⟨a, len, cap, elems, rest, n', _, he, rfl, _, hl, hm, hlen, _⟩
  · injection he with he _; injection he with _ e2 _; subst e2; simp
  · injection he with he _; injection he with _ e2 _; subst e2
    have := hw (((elems.map (·.1)).length + (rest.map (·.1)).length) * Try.prog.bytesOf e) (by simp [DataW.weights, hu])
    rw [List.length_map, hlen] at this
    exact Nat.le_trans (Nat.mul_le_mul_right _ (Nat.le_add_right _ _)) this
end Go.Proofs.Ytmoackfjfklfaaa
