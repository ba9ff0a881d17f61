import Derived.Test.YtnjbjpaiepefoaaDoorGp1B
import Derived.Test.YtnjbjpaiepefoaaDoorSlH
import Derived.KernelRfl
import Derived.ProofKit
import Derived.LaidMore
import Derived.OpenShut
import Derived.FnData
import Derived.MakeChecks
import Derived.LaidHandle
import Derived.LaidLaws
namespace Go.Proofs.YtnjbjpaiepefoaaDoor
open Go Go.RowKit
set_option linter.unusedVariables false
set_option linter.unusedSimpArgs false
set_option maxRecDepth 100000
set_option maxRecDepth 100000
theorem Vv : Tryd.prog.globalNamed "ferryman/model.does" = some 0 := by kernel_rfl
theorem Ut : (Tryd.prog.globals[0]?).map (·.type) = some 102 := by kernel_rfl
theorem Jf (os : Os) (args : Array Value) : laidMetH Tryd.prog [("ferryman/model.does", Rows.laid_ferryman_model_does), ("ferryman/replay.steps", Rows.laid_ferryman_replay_steps)] ((World.doorLaid Tryd.prog 400 os).forCall (fun _ _ => 0) ⟨#[], args, []⟩).memory :=
  laidMetH_of_parts3 (fuel := 8) (laidMet_of_run' 8 (by kernel_rfl) (by kernel_rfl)) (by kernel_rfl) (by kernel_rfl)
theorem X9 {P : Program} {H : Type} {enc : TypeId × Value → H} {w : World} {base : Nat} {sp : Nat → Bool} {held : Bool} {fuel : Nat} {t : TypeId} {ps rs : Array TypeId} {va : Bool} {v : Value} {q : List MemPlace} (ht : P.underlying t = some (.func ps rs va)) (h : DataW.trod enc P w base sp held fuel t [v] = some (.nil, q)) : v = .nilFunc := by
  cases fuel with
  | zero => simp [DataW.trod] at h
  | succ n => cases v <;> simp [DataW.trod, ht] at h ⊢
theorem Js {W : World} (h : laidMetH Tryd.prog [("ferryman/model.does", Rows.laid_ferryman_model_does), ("ferryman/replay.steps", Rows.laid_ferryman_replay_steps)] W) : ∃ gt fr, Hp.of W 0 = some (.cells #[.nilFunc, .func (.func 122) #[] #[], .func (.func 123) #[] #[], .func (.func 124) #[] #[], .func (.func 125) #[] #[], .func (.func 126) #[] #[], .func (.func 127) #[] #[], .func (.func 128) #[] #[], .func (.func 129) #[] #[], .func (.func 130) #[] #[]] gt fr) := by
  obtain ⟨g, t, cs, fuel, p, hg0, ht0, hv0, hd0⟩ := h.funcs (n := "ferryman/model.does") (List.mem_cons_self ..)
  obtain rfl := Option.some.inj (Vv.symm.trans hg0)
  obtain rfl := Option.some.inj (Ut.symm.trans ht0)
  replace hd0 : DataW.trod (funcToken Tryd.prog) Tryd.prog W 0 (fun _ => true) true fuel 102 cs.toList = some (.agg [.nil, .held [40, 42, 102, 101, 114, 114, 121, 109, 97, 110, 47, 109, 111, 100, 101, 108, 46, 77, 111, 100, 101, 108, 41, 46, 98, 101, 103, 105, 110], .held [40, 42, 102, 101, 114, 114, 121, 109, 97, 110, 47, 109, 111, 100, 101, 108, 46, 77, 111, 100, 101, 108, 41, 46, 103, 101, 116], .held [40, 42, 102, 101, 114, 114, 121, 109, 97, 110, 47, 109, 111, 100, 101, 108, 46, 77, 111, 100, 101, 108, 41, 46, 112, 117, 116], .held [40, 42, 102, 101, 114, 114, 121, 109, 97, 110, 47, 109, 111, 100, 101, 108, 46, 77, 111, 100, 101, 108, 41, 46, 100, 101, 108], .held [40, 42, 102, 101, 114, 114, 121, 109, 97, 110, 47, 109, 111, 100, 101, 108, 46, 77, 111, 100, 101, 108, 41, 46, 115, 99, 97, 110], .held [40, 42, 102, 101, 114, 114, 121, 109, 97, 110, 47, 109, 111, 100, 101, 108, 46, 77, 111, 100, 101, 108, 41, 46, 99, 111, 109, 109, 105, 116], .held [40, 42, 102, 101, 114, 114, 121, 109, 97, 110, 47, 109, 111, 100, 101, 108, 46, 77, 111, 100, 101, 108, 41, 46, 97, 98, 111, 114, 116], .held [40, 42, 102, 101, 114, 114, 121, 109, 97, 110, 47, 109, 111, 100, 101, 108, 46, 77, 111, 100, 101, 108, 41, 46, 118, 97, 99, 117, 117, 109], .held [40, 42, 102, 101, 114, 114, 121, 109, 97, 110, 47, 109, 111, 100, 101, 108, 46, 77, 111, 100, 101, 108, 41, 46, 109, 105, 103, 114, 97, 116, 101]], p) := hd0
  obtain ⟨xs, m1, rfl, hx1, hlen, hn3, hel⟩ := DataW.trod_array Tryd.underlying102 hd0
  have cA : Tryd.prog.cellsOf 102 = 10 := by kernel_rfl
  have cE : Tryd.prog.cellsOf 101 = 1 := by kernel_rfl
  rw [cA] at hlen
  simp only [cE] at hel
  obtain ⟨l0⟩ := cs
  obtain ⟨c0, c1, c2, c3, c4, c5, c6, c7, c8, c9, rfl⟩ : ∃ c0 c1 c2 c3 c4 c5 c6 c7 c8 c9, l0 = [c0, c1, c2, c3, c4, c5, c6, c7, c8, c9] := by
    match l0, hlen with | [c0, c1, c2, c3, c4, c5, c6, c7, c8, c9], _ => exact ⟨c0, c1, c2, c3, c4, c5, c6, c7, c8, c9, rfl⟩
  obtain ⟨y0, y1, y2, y3, y4, y5, y6, y7, y8, y9, rfl⟩ : ∃ y0 y1 y2 y3 y4 y5 y6 y7 y8 y9, xs = [y0, y1, y2, y3, y4, y5, y6, y7, y8, y9] := by
    match xs, hn3 with | [y0, y1, y2, y3, y4, y5, y6, y7, y8, y9], _ => exact ⟨y0, y1, y2, y3, y4, y5, y6, y7, y8, y9, rfl⟩
  simp only [Prod.mk.injEq, DataW.agg.injEq, List.map_cons, List.map_nil, List.cons.injEq] at hx1
  obtain ⟨⟨x0, x1, x2, x3, x4, x5, x6, x7, x8, x9, _⟩, _⟩ := hx1
  have t0 : DataW.trod (funcToken Tryd.prog) Tryd.prog W 0 (fun _ => true) true m1 101 [c0] = some (.nil, y0.2) := (hel 0 (by decide)).trans (by rw [show (.nil : DataW (List UInt8)) = y0.1 from x0]; rfl)
  obtain rfl := X9 Tryd.underlying101 t0
  have t1 : DataW.trod (funcToken Tryd.prog) Tryd.prog W 0 (fun _ => true) true m1 101 [c1] = some (.held [40, 42, 102, 101, 114, 114, 121, 109, 97, 110, 47, 109, 111, 100, 101, 108, 46, 77, 111, 100, 101, 108, 41, 46, 98, 101, 103, 105, 110], y1.2) := (hel 1 (by decide)).trans (by rw [show (.held [40, 42, 102, 101, 114, 114, 121, 109, 97, 110, 47, 109, 111, 100, 101, 108, 46, 77, 111, 100, 101, 108, 41, 46, 98, 101, 103, 105, 110] : DataW (List UInt8)) = y1.1 from x1]; rfl)
  obtain rfl := func_of_trod (f0 := 122) Tryd.underlying101 (by kernel_rfl) t1
  have t2 : DataW.trod (funcToken Tryd.prog) Tryd.prog W 0 (fun _ => true) true m1 101 [c2] = some (.held [40, 42, 102, 101, 114, 114, 121, 109, 97, 110, 47, 109, 111, 100, 101, 108, 46, 77, 111, 100, 101, 108, 41, 46, 103, 101, 116], y2.2) := (hel 2 (by decide)).trans (by rw [show (.held [40, 42, 102, 101, 114, 114, 121, 109, 97, 110, 47, 109, 111, 100, 101, 108, 46, 77, 111, 100, 101, 108, 41, 46, 103, 101, 116] : DataW (List UInt8)) = y2.1 from x2]; rfl)
  obtain rfl := func_of_trod (f0 := 123) Tryd.underlying101 (by kernel_rfl) t2
  have t3 : DataW.trod (funcToken Tryd.prog) Tryd.prog W 0 (fun _ => true) true m1 101 [c3] = some (.held [40, 42, 102, 101, 114, 114, 121, 109, 97, 110, 47, 109, 111, 100, 101, 108, 46, 77, 111, 100, 101, 108, 41, 46, 112, 117, 116], y3.2) := (hel 3 (by decide)).trans (by rw [show (.held [40, 42, 102, 101, 114, 114, 121, 109, 97, 110, 47, 109, 111, 100, 101, 108, 46, 77, 111, 100, 101, 108, 41, 46, 112, 117, 116] : DataW (List UInt8)) = y3.1 from x3]; rfl)
  obtain rfl := func_of_trod (f0 := 124) Tryd.underlying101 (by kernel_rfl) t3
  have t4 : DataW.trod (funcToken Tryd.prog) Tryd.prog W 0 (fun _ => true) true m1 101 [c4] = some (.held [40, 42, 102, 101, 114, 114, 121, 109, 97, 110, 47, 109, 111, 100, 101, 108, 46, 77, 111, 100, 101, 108, 41, 46, 100, 101, 108], y4.2) := (hel 4 (by decide)).trans (by rw [show (.held [40, 42, 102, 101, 114, 114, 121, 109, 97, 110, 47, 109, 111, 100, 101, 108, 46, 77, 111, 100, 101, 108, 41, 46, 100, 101, 108] : DataW (List UInt8)) = y4.1 from x4]; rfl)
  obtain rfl := func_of_trod (f0 := 125) Tryd.underlying101 (by kernel_rfl) t4
  have t5 : DataW.trod (funcToken Tryd.prog) Tryd.prog W 0 (fun _ => true) true m1 101 [c5] = some (.held [40, 42, 102, 101, 114, 114, 121, 109, 97, 110, 47, 109, 111, 100, 101, 108, 46, 77, 111, 100, 101, 108, 41, 46, 115, 99, 97, 110], y5.2) := (hel 5 (by decide)).trans (by rw [show (.held [40, 42, 102, 101, 114, 114, 121, 109, 97, 110, 47, 109, 111, 100, 101, 108, 46, 77, 111, 100, 101, 108, 41, 46, 115, 99, 97, 110] : DataW (List UInt8)) = y5.1 from x5]; rfl)
  obtain rfl := func_of_trod (f0 := 126) Tryd.underlying101 (by kernel_rfl) t5
  have t6 : DataW.trod (funcToken Tryd.prog) Tryd.prog W 0 (fun _ => true) true m1 101 [c6] = some (.held [40, 42, 102, 101, 114, 114, 121, 109, 97, 110, 47, 109, 111, 100, 101, 108, 46, 77, 111, 100, 101, 108, 41, 46, 99, 111, 109, 109, 105, 116], y6.2) := (hel 6 (by decide)).trans (by rw [show (.held [40, 42, 102, 101, 114, 114, 121, 109, 97, 110, 47, 109, 111, 100, 101, 108, 46, 77, 111, 100, 101, 108, 41, 46, 99, 111, 109, 109, 105, 116] : DataW (List UInt8)) = y6.1 from x6]; rfl)
  obtain rfl := func_of_trod (f0 := 127) Tryd.underlying101 (by kernel_rfl) t6
  have t7 : DataW.trod (funcToken Tryd.prog) Tryd.prog W 0 (fun _ => true) true m1 101 [c7] = some (.held [40, 42, 102, 101, 114, 114, 121, 109, 97, 110, 47, 109, 111, 100, 101, 108, 46, 77, 111, 100, 101, 108, 41, 46, 97, 98, 111, 114, 116], y7.2) := (hel 7 (by decide)).trans (by rw [show (.held [40, 42, 102, 101, 114, 114, 121, 109, 97, 110, 47, 109, 111, 100, 101, 108, 46, 77, 111, 100, 101, 108, 41, 46, 97, 98, 111, 114, 116] : DataW (List UInt8)) = y7.1 from x7]; rfl)
  obtain rfl := func_of_trod (f0 := 128) Tryd.underlying101 (by kernel_rfl) t7
  have t8 : DataW.trod (funcToken Tryd.prog) Tryd.prog W 0 (fun _ => true) true m1 101 [c8] = some (.held [40, 42, 102, 101, 114, 114, 121, 109, 97, 110, 47, 109, 111, 100, 101, 108, 46, 77, 111, 100, 101, 108, 41, 46, 118, 97, 99, 117, 117, 109], y8.2) := (hel 8 (by decide)).trans (by rw [show (.held [40, 42, 102, 101, 114, 114, 121, 109, 97, 110, 47, 109, 111, 100, 101, 108, 46, 77, 111, 100, 101, 108, 41, 46, 118, 97, 99, 117, 117, 109] : DataW (List UInt8)) = y8.1 from x8]; rfl)
  obtain rfl := func_of_trod (f0 := 129) Tryd.underlying101 (by kernel_rfl) t8
  have t9 : DataW.trod (funcToken Tryd.prog) Tryd.prog W 0 (fun _ => true) true m1 101 [c9] = some (.held [40, 42, 102, 101, 114, 114, 121, 109, 97, 110, 47, 109, 111, 100, 101, 108, 46, 77, 111, 100, 101, 108, 41, 46, 109, 105, 103, 114, 97, 116, 101], y9.2) := (hel 9 (by decide)).trans (by rw [show (.held [40, 42, 102, 101, 114, 114, 121, 109, 97, 110, 47, 109, 111, 100, 101, 108, 46, 77, 111, 100, 101, 108, 41, 46, 109, 105, 103, 114, 97, 116, 101] : DataW (List UInt8)) = y9.1 from x9]; rfl)
  obtain rfl := func_of_trod (f0 := 130) Tryd.underlying101 (by kernel_rfl) t9
  simp only [World.var?, Vv, Option.bind_some] at hv0
  split at hv0
  · next cs gt fr he =>
    obtain rfl := Option.some.inj hv0
    exact ⟨gt, fr, Hp.of_mk he⟩
  · cases hv0
set_option maxRecDepth 100000
theorem Vu : Tryd.prog.globalNamed "ferryman/replay.steps" = some 1 := by kernel_rfl
theorem Us : (Tryd.prog.globals[1]?).map (·.type) = some 140 := by kernel_rfl
theorem door_met1 (os : Os) (args : Array Value) : laidMetH Tryd.prog [("ferryman/model.does", Rows.laid_ferryman_model_does), ("ferryman/replay.steps", Rows.laid_ferryman_replay_steps)] ((World.doorLaid Tryd.prog 400 os).forCall (fun _ _ => 0) ⟨#[], args, []⟩).memory :=
  laidMetH_of_parts3 (fuel := 8) (laidMet_of_run' 8 (by kernel_rfl) (by kernel_rfl)) (by kernel_rfl) (by kernel_rfl)
theorem JX {W : World} (h : laidMetH Tryd.prog [("ferryman/model.does", Rows.laid_ferryman_model_does), ("ferryman/replay.steps", Rows.laid_ferryman_replay_steps)] W) : ∃ gt fr, Hp.of W 1 = some (.cells #[.nilFunc, .func (.func 173) #[] #[], .func (.func 175) #[] #[], .func (.func 177) #[] #[]] gt fr) := by
  obtain ⟨g, t, cs, fuel, p, hg0, ht0, hv0, hd0⟩ := h.funcs (n := "ferryman/replay.steps") (List.mem_cons_of_mem _ (List.mem_cons_self ..))
  obtain rfl := Option.some.inj (Vu.symm.trans hg0)
  obtain rfl := Option.some.inj (Us.symm.trans ht0)
  replace hd0 : DataW.trod (funcToken Tryd.prog) Tryd.prog W 0 (fun _ => true) true fuel 140 cs.toList = some (.agg [.nil, .held [102, 101, 114, 114, 121, 109, 97, 110, 47, 114, 101, 112, 108, 97, 121, 46, 115, 116, 101, 112, 115, 36, 49], .held [102, 101, 114, 114, 121, 109, 97, 110, 47, 114, 101, 112, 108, 97, 121, 46, 115, 116, 101, 112, 115, 36, 50], .held [102, 101, 114, 114, 121, 109, 97, 110, 47, 114, 101, 112, 108, 97, 121, 46, 115, 116, 101, 112, 115, 36, 51]], p) := hd0
  obtain ⟨xs, m1, rfl, hx1, hlen, hn3, hel⟩ := DataW.trod_array Tryd.underlying140 hd0
  have cA : Tryd.prog.cellsOf 140 = 4 := by kernel_rfl
  have cE : Tryd.prog.cellsOf 139 = 1 := by kernel_rfl
  rw [cA] at hlen
  simp only [cE] at hel
  obtain ⟨l0⟩ := cs
  obtain ⟨c0, c1, c2, c3, rfl⟩ : ∃ c0 c1 c2 c3, l0 = [c0, c1, c2, c3] := by
    match l0, hlen with | [c0, c1, c2, c3], _ => exact ⟨c0, c1, c2, c3, rfl⟩
  obtain ⟨y0, y1, y2, y3, rfl⟩ : ∃ y0 y1 y2 y3, xs = [y0, y1, y2, y3] := by
    match xs, hn3 with | [y0, y1, y2, y3], _ => exact ⟨y0, y1, y2, y3, rfl⟩
  simp only [Prod.mk.injEq, DataW.agg.injEq, List.map_cons, List.map_nil, List.cons.injEq] at hx1
  obtain ⟨⟨x0, x1, x2, x3, _⟩, _⟩ := hx1
  have t0 : DataW.trod (funcToken Tryd.prog) Tryd.prog W 0 (fun _ => true) true m1 139 [c0] = some (.nil, y0.2) := (hel 0 (by decide)).trans (by rw [show (.nil : DataW (List UInt8)) = y0.1 from x0]; rfl)
  obtain rfl := X9 Tryd.underlying139 t0
  have t1 : DataW.trod (funcToken Tryd.prog) Tryd.prog W 0 (fun _ => true) true m1 139 [c1] = some (.held [102, 101, 114, 114, 121, 109, 97, 110, 47, 114, 101, 112, 108, 97, 121, 46, 115, 116, 101, 112, 115, 36, 49], y1.2) := (hel 1 (by decide)).trans (by rw [show (.held [102, 101, 114, 114, 121, 109, 97, 110, 47, 114, 101, 112, 108, 97, 121, 46, 115, 116, 101, 112, 115, 36, 49] : DataW (List UInt8)) = y1.1 from x1]; rfl)
  obtain rfl := func_of_trod (f0 := 173) Tryd.underlying139 (by kernel_rfl) t1
  have t2 : DataW.trod (funcToken Tryd.prog) Tryd.prog W 0 (fun _ => true) true m1 139 [c2] = some (.held [102, 101, 114, 114, 121, 109, 97, 110, 47, 114, 101, 112, 108, 97, 121, 46, 115, 116, 101, 112, 115, 36, 50], y2.2) := (hel 2 (by decide)).trans (by rw [show (.held [102, 101, 114, 114, 121, 109, 97, 110, 47, 114, 101, 112, 108, 97, 121, 46, 115, 116, 101, 112, 115, 36, 50] : DataW (List UInt8)) = y2.1 from x2]; rfl)
  obtain rfl := func_of_trod (f0 := 175) Tryd.underlying139 (by kernel_rfl) t2
  have t3 : DataW.trod (funcToken Tryd.prog) Tryd.prog W 0 (fun _ => true) true m1 139 [c3] = some (.held [102, 101, 114, 114, 121, 109, 97, 110, 47, 114, 101, 112, 108, 97, 121, 46, 115, 116, 101, 112, 115, 36, 51], y3.2) := (hel 3 (by decide)).trans (by rw [show (.held [102, 101, 114, 114, 121, 109, 97, 110, 47, 114, 101, 112, 108, 97, 121, 46, 115, 116, 101, 112, 115, 36, 51] : DataW (List UInt8)) = y3.1 from x3]; rfl)
  obtain rfl := func_of_trod (f0 := 177) Tryd.underlying139 (by kernel_rfl) t3
  simp only [World.var?, Vu, Option.bind_some] at hv0
  split at hv0
  · next cs gt fr he =>
    obtain rfl := Option.some.inj hv0
    exact ⟨gt, fr, Hp.of_mk he⟩
  · cases hv0
end Go.Proofs.YtnjbjpaiepefoaaDoor
