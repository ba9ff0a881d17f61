import Derived.Test.YtdommjjhfplcaaaGf2
import Derived.Test.YtdommjjhfplcaaaSlH
import Derived.KernelRfl
import Derived.SizedLaws
namespace Go.Proofs.Ytdommjjhfplcaaa
open Go Go.RowKit
set_option linter.unusedVariables false
set_option linter.unusedSimpArgs false
def wf_fork_Node (x : fork_Node) : Prop := wfTrue x.Leaf ∧ (wfSl wfStr) x.Keys ∧ (wfSl (wfInt .i64)) x.Kids ∧ (wfSl (wfInt .u64)) x.Rows
def sz_fork_Node (x : fork_Node) : Nat := sz1 x.Leaf + (szSl szStr) x.Keys + (szSl sz1) x.Kids + (szSl sz1) x.Rows + 1
theorem open_fork_Node : Opens Try.prog 26 r_fork_Node wf_fork_Node sz_fork_Node := by
  intro H enc w sp held fuel cs x h
  obtain ⟨xs, n, rfl, rfl, hl, hxs, hf⟩ := DataW.trod_struct Try.underlying26 h
  have hl' : cs.length = 4 := hl.trans (by kernel_rfl)
  have hx' : xs.length = 4 := hxs.trans (by kernel_rfl)
  obtain ⟨y0, y1, y2, y3, rfl⟩ : ∃ y0 y1 y2 y3, xs = [y0, y1, y2, y3] := by
    match xs, hx' with | [y0, y1, y2, y3], _ => exact ⟨y0, y1, y2, y3, rfl⟩
  obtain ⟨c0, c1, c2, c3, rfl⟩ : ∃ c0 c1 c2 c3, cs = [c0, c1, c2, c3] := by
    match cs, hl' with | [c0, c1, c2, c3], _ => exact ⟨c0, c1, c2, c3, rfl⟩
  have h0 : DataW.trod enc Try.prog w 0 sp held n 4 (([c0, c1, c2, c3].drop 0).take (Try.prog.cellsOf 4)) = some y0 := hf 0 _ rfl
  rw [(by kernel_rfl : Try.prog.cellsOf 4 = 1)] at h0
  replace h0 : DataW.trod enc Try.prog w 0 sp held n 4 [c0] = some y0 := h0
  obtain ⟨a0, r0, w0, s0⟩ := (opens_bool Try.underlying4) H enc w sp held n _ _ h0
  have h1 : DataW.trod enc Try.prog w 0 sp held n 22 (([c0, c1, c2, c3].drop 1).take (Try.prog.cellsOf 22)) = some y1 := hf 1 _ rfl
  rw [(by kernel_rfl : Try.prog.cellsOf 22 = 1)] at h1
  replace h1 : DataW.trod enc Try.prog w 0 sp held n 22 [c1] = some y1 := h1
  obtain ⟨a1, r1, w1, s1⟩ := (opens_slice Try.underlying22 (by kernel_rfl) (by decide) (opens_str Try.underlying9)) H enc w sp held n _ _ h1
  have h2 : DataW.trod enc Try.prog w 0 sp held n 23 (([c0, c1, c2, c3].drop 2).take (Try.prog.cellsOf 23)) = some y2 := hf 2 _ rfl
  rw [(by kernel_rfl : Try.prog.cellsOf 23 = 1)] at h2
  replace h2 : DataW.trod enc Try.prog w 0 sp held n 23 [c2] = some y2 := h2
  obtain ⟨a2, r2, w2, s2⟩ := (opens_slice Try.underlying23 (by kernel_rfl) (by decide) (opens_int Try.underlying3)) H enc w sp held n _ _ h2
  have h3 : DataW.trod enc Try.prog w 0 sp held n 24 (([c0, c1, c2, c3].drop 3).take (Try.prog.cellsOf 24)) = some y3 := hf 3 _ rfl
  rw [(by kernel_rfl : Try.prog.cellsOf 24 = 1)] at h3
  replace h3 : DataW.trod enc Try.prog w 0 sp held n 24 [c3] = some y3 := h3
  obtain ⟨a3, r3, w3, s3⟩ := (opens_slice Try.underlying24 (by kernel_rfl) (by decide) (opens_int Try.underlying41)) H enc w sp held n _ _ h3
  cases r0
  obtain ⟨v1, g1, e1⟩ := r1
  cases e1
  obtain ⟨v2, g2, e2⟩ := r2
  cases e2
  obtain ⟨v3, g3, e3⟩ := r3
  cases e3
  refine ⟨⟨a0, a1, a2, a3⟩, ⟨_, _, _, g1, g2, g3, rfl⟩, ⟨w0, w1, w2, w3⟩, ?_⟩
  simp only [sz_fork_Node, Rows.uptoBulk, Rows.uptoBulkAll, List.map]
  omega
theorem wt_sl {H : Type} {enc : TypeId × Value → H} {w : World} {sp : Nat → Bool} {held : Bool} {base fuel : Nat} {t e : TypeId} {Ad : Option Addr} {n c : Nat} {x : DataW H × List MemPlace} (hu : Try.prog.underlying t = some (.slice e)) (h : DataW.trod enc Try.prog w base sp held fuel t [.slice Ad n c] = some x) (hw : ∀ m ∈ x.1.weights Try.prog t, m ≤ reachBytes) : n * Try.prog.bytesOf e ≤ reachBytes := by
  rcases DataW.trod_slice hu h with ⟨he, rfl⟩ | ⟨a, len, cap, elems, rest, n', _, he, rfl, _, hl, hm, hlen, _⟩
  · injection he with he _; injection he with _ e2 _; subst e2; simp
  · injection he with he _; injection he with _ e2 _; subst e2
    have := hw (((elems.map (·.1)).length + (rest.map (·.1)).length) * Try.prog.bytesOf e) (by simp [DataW.weights, hu])
    rw [List.length_map, hlen] at this
    exact Nat.le_trans (Nat.mul_le_mul_right _ (Nat.le_add_right _ _)) this
theorem wt_fork_Node {H : Type} {enc : TypeId × Value → H} {w : World} {sp : Nat → Bool} {held : Bool} {fuel : Nat} {cs : List Value} {M : Hp} {a : fork_Node} {x : DataW H × List MemPlace} (h : DataW.trod enc Try.prog w 0 sp held fuel 26 cs = some x) (hR : r_fork_Node.R M a cs) (hw : ∀ m ∈ x.1.weights Try.prog 26, m ≤ reachBytes) : a.Keys.length * 16 ≤ 140737488351232 ∧ a.Kids.length * 8 ≤ 140737488351232 ∧ a.Rows.length * 8 ≤ 140737488351232 := by
  obtain ⟨xs, n, rfl, rfl, hl, hxs, hf⟩ := DataW.trod_struct Try.underlying26 h
  have hx' : xs.length = 4 := hxs.trans (by kernel_rfl)
  obtain ⟨y0, y1, y2, y3, rfl⟩ : ∃ y0 y1 y2 y3, xs = [y0, y1, y2, y3] := by
    match xs, hx' with | [y0, y1, y2, y3], _ => exact ⟨y0, y1, y2, y3, rfl⟩
  obtain ⟨v0, v1, v2, g0, g1, g2, rfl⟩ := hR
  obtain ⟨A0, c0, rfl, _⟩ := g0.form
  obtain ⟨A1, c1, rfl, _⟩ := g1.form
  obtain ⟨A2, c2, rfl, _⟩ := g2.form
  have h0 : DataW.trod enc Try.prog w 0 sp held n 22 (([.bool a.Leaf, .slice A0 a.Keys.length c0, .slice A1 a.Kids.length c1, .slice A2 a.Rows.length c2].drop 1).take (Try.prog.cellsOf 22)) = some y1 := hf 1 _ rfl
  rw [(by kernel_rfl : Try.prog.cellsOf 22 = 1)] at h0
  replace h0 : DataW.trod enc Try.prog w 0 sp held n 22 [.slice A0 a.Keys.length c0] = some y1 := h0
  have k0 := wt_sl (Ad := A0) (n := a.Keys.length) (c := c0) Try.underlying22 h0 (fun m hm => hw m (by simp only [DataW.weights, Try.underlying26]; exact DataW.weights_mem_each (j := 1) rfl rfl m hm))
  rw [(by kernel_rfl : Try.prog.bytesOf 9 = 16), (by decide : reachBytes = 140737488351232)] at k0
  have h1 : DataW.trod enc Try.prog w 0 sp held n 23 (([.bool a.Leaf, .slice A0 a.Keys.length c0, .slice A1 a.Kids.length c1, .slice A2 a.Rows.length c2].drop 2).take (Try.prog.cellsOf 23)) = some y2 := hf 2 _ rfl
  rw [(by kernel_rfl : Try.prog.cellsOf 23 = 1)] at h1
  replace h1 : DataW.trod enc Try.prog w 0 sp held n 23 [.slice A1 a.Kids.length c1] = some y2 := h1
  have k1 := wt_sl (Ad := A1) (n := a.Kids.length) (c := c1) Try.underlying23 h1 (fun m hm => hw m (by simp only [DataW.weights, Try.underlying26]; exact DataW.weights_mem_each (j := 2) rfl rfl m hm))
  rw [(by kernel_rfl : Try.prog.bytesOf 3 = 8), (by decide : reachBytes = 140737488351232)] at k1
  have h2 : DataW.trod enc Try.prog w 0 sp held n 24 (([.bool a.Leaf, .slice A0 a.Keys.length c0, .slice A1 a.Kids.length c1, .slice A2 a.Rows.length c2].drop 3).take (Try.prog.cellsOf 24)) = some y3 := hf 3 _ rfl
  rw [(by kernel_rfl : Try.prog.cellsOf 24 = 1)] at h2
  replace h2 : DataW.trod enc Try.prog w 0 sp held n 24 [.slice A2 a.Rows.length c2] = some y3 := h2
  have k2 := wt_sl (Ad := A2) (n := a.Rows.length) (c := c2) Try.underlying24 h2 (fun m hm => hw m (by simp only [DataW.weights, Try.underlying26]; exact DataW.weights_mem_each (j := 3) rfl rfl m hm))
  rw [(by kernel_rfl : Try.prog.bytesOf 41 = 8), (by decide : reachBytes = 140737488351232)] at k2
  exact ⟨k0, k1, k2⟩
end Go.Proofs.Ytdommjjhfplcaaa
