import Derived.Test.YtmoackfjfklfaaaProg
import Derived.Test.YtmoackfjfklfaaaSlI
import Derived.KernelRfl
namespace Go.Proofs.Ytmoackfjfklfaaa
open Go
set_option linter.unusedVariables false
set_option linter.unusedSimpArgs false
theorem ty3 : IsTy Try.prog 3 false (.int .i64 0) 1 8 := ⟨by kernel_rfl, by kernel_rfl⟩
theorem ty4 : IsTy Try.prog 4 false (.bool false) 1 1 := ⟨by kernel_rfl, by kernel_rfl⟩
theorem ty9 : IsTy Try.prog 9 false (.string ⟨#[]⟩) 1 16 := ⟨by kernel_rfl, by kernel_rfl⟩
theorem ty22 : IsTy Try.prog 22 false (.slice none 0 0) 1 24 := ⟨by kernel_rfl, by kernel_rfl⟩
theorem ty27 : IsTy Try.prog 27 true (.agg #[.int .i64 0, .int .i64 0, .bool false, .string ⟨#[]⟩]) 4 40 := ⟨by kernel_rfl, by kernel_rfl⟩
theorem fn9 : IsFn Try.prog 9 := ⟨⟨_, Try.func9, by kernel_rfl, by kernel_rfl⟩⟩
theorem fn10 : IsFn Try.prog 10 := ⟨⟨_, Try.func10, by kernel_rfl, by kernel_rfl⟩⟩
theorem fn11 : IsFn Try.prog 11 := ⟨⟨_, Try.func11, by kernel_rfl, by kernel_rfl⟩⟩
theorem fn12 : IsFn Try.prog 12 := ⟨⟨_, Try.func12, by kernel_rfl, by kernel_rfl⟩⟩
theorem fn13 : IsFn Try.prog 13 := ⟨⟨_, Try.func13, by kernel_rfl, by kernel_rfl⟩⟩
theorem fn15 : IsFn Try.prog 15 := ⟨⟨_, Try.func15, by kernel_rfl, by kernel_rfl⟩⟩
theorem fn16 : IsFn Try.prog 16 := ⟨⟨_, Try.func16, by kernel_rfl, by kernel_rfl⟩⟩
theorem fn22 : IsFn Try.prog 22 := ⟨⟨_, Try.func22, by kernel_rfl, by kernel_rfl⟩⟩
theorem fn23 : IsFn Try.prog 23 := ⟨⟨_, Try.func23, by kernel_rfl, by kernel_rfl⟩⟩
theorem fn27 : IsFn Try.prog 27 := ⟨⟨_, Try.func27, by kernel_rfl, by kernel_rfl⟩⟩
theorem mixed : Try.prog.follows .mixedOrders = true := by kernel_rfl
theorem gd27 : Try.prog.eqGuardType Try.prog.depth 27 = false := by kernel_rfl
theorem eg27 (x y : Operand) (a b : Array Value) {w : World} : (eqGuard .eql 27 x y (.agg a) (.agg b)).run Try.prog w = .ok () w := by simp [eqGuard, gd27]
theorem en27 (x y : Operand) (a b : Array Value) {w : World} : (eqGuard .neq 27 x y (.agg a) (.agg b)).run Try.prog w = .ok () w := by simp [eqGuard, gd27]
theorem eq27 (w : World) (x0 : Int) (x1 : Int) (x2 : Bool) (x3 : Str) (y0 : Int) (y1 : Int) (y2 : Bool) (y3 : Str) : (Op.equal 27 (.agg #[.int .i64 x0, .int .i64 x1, .bool x2, .string (bs x3)]) (.agg #[.int .i64 y0, .int .i64 y1, .bool y2, .string (bs y3)])).run Try.prog w = .ok ((x0 == y0) && ((x1 == y1) && ((x2 == y2) && (x3 == y3)))) w := eqS_of (d := 9999) Try.underlying27 (by kernel_rfl) (eqS_cons rfl (part_one ty3 rfl) (part_one ty3 rfl) (eq_int (d := 9998) Try.underlying3) (eqS_cons rfl (part_one ty3 rfl) (part_one ty3 rfl) (eq_int (d := 9998) Try.underlying3) (eqS_cons rfl (part_one ty4 rfl) (part_one ty4 rfl) (eq_bool (d := 9998) Try.underlying4) (eqS_last rfl (part_one ty9 rfl) (part_one ty9 rfl) (eq_str (d := 9998) Try.underlying9) ))))
end Go.Proofs.Ytmoackfjfklfaaa
