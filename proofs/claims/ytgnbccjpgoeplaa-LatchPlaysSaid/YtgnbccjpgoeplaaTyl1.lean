import Derived.Test.YtgnbccjpgoeplaaProg
import Derived.Test.YtgnbccjpgoeplaaSlM
import Derived.KernelRfl
import Derived.Test.YtgnbccjpgoeplaaSlN
import Derived.Test.YtgnbccjpgoeplaaSort
namespace Go.Proofs.Ytgnbccjpgoeplaa
open Go
set_option linter.unusedVariables false
set_option linter.unusedSimpArgs false
theorem ty3 : IsTy Try.prog 3 false (.int .i64 0) 1 8 := ⟨by kernel_rfl, by kernel_rfl⟩
theorem ty4 : IsTy Try.prog 4 false (.bool false) 1 1 := ⟨by kernel_rfl, by kernel_rfl⟩
theorem ty5 : IsTy Try.prog 5 false (.int .u8 0) 1 1 := ⟨by kernel_rfl, by kernel_rfl⟩
theorem ty23 : IsTy Try.prog 23 false (.int .u64 0) 1 8 := ⟨by kernel_rfl, by kernel_rfl⟩
theorem ty25 : IsTy Try.prog 25 true (.agg #[.int .u8 0, .int .u64 0]) 2 16 := ⟨by kernel_rfl, by kernel_rfl⟩
theorem ty30 : IsTy Try.prog 30 true (.agg #[.bool false, .int .u8 0, .int .u64 0, .int .i64 0]) 4 32 := ⟨by kernel_rfl, by kernel_rfl⟩
theorem ty44 : IsTy Try.prog 44 true (.agg #[.int .u8 0, .int .u64 0]) 2 16 := ⟨by kernel_rfl, by kernel_rfl⟩
theorem ty46 : IsTy Try.prog 46 false (.slice none 0 0) 1 24 := ⟨by kernel_rfl, by kernel_rfl⟩
theorem ty48 : IsTy Try.prog 48 true (.agg #[.slice none 0 0]) 1 24 := ⟨by kernel_rfl, by kernel_rfl⟩
theorem ty54 : IsTy Try.prog 54 false (.map none) 1 8 := ⟨by kernel_rfl, by kernel_rfl⟩
theorem ty56 : IsTy Try.prog 56 true (.agg #[.map none]) 1 8 := ⟨by kernel_rfl, by kernel_rfl⟩
theorem ty64 : IsTy Try.prog 64 true (.agg #[.int .u8 0, .int .u64 0, .int .i64 0]) 3 24 := ⟨by kernel_rfl, by kernel_rfl⟩
theorem fn9 : IsFn Try.prog 9 := ⟨⟨_, Try.func9, by kernel_rfl, by kernel_rfl⟩⟩
theorem fn10 : IsFn Try.prog 10 := ⟨⟨_, Try.func10, by kernel_rfl, by kernel_rfl⟩⟩
theorem fn11 : IsFn Try.prog 11 := ⟨⟨_, Try.func11, by kernel_rfl, by kernel_rfl⟩⟩
theorem fn12 : IsFn Try.prog 12 := ⟨⟨_, Try.func12, by kernel_rfl, by kernel_rfl⟩⟩
theorem fn13 : IsFn Try.prog 13 := ⟨⟨_, Try.func13, by kernel_rfl, by kernel_rfl⟩⟩
theorem fn14 : IsFn Try.prog 14 := ⟨⟨_, Try.func14, by kernel_rfl, by kernel_rfl⟩⟩
theorem fn15 : IsFn Try.prog 15 := ⟨⟨_, Try.func15, by kernel_rfl, by kernel_rfl⟩⟩
theorem fn16 : IsFn Try.prog 16 := ⟨⟨_, Try.func16, by kernel_rfl, by kernel_rfl⟩⟩
theorem fn17 : IsFn Try.prog 17 := ⟨⟨_, Try.func17, by kernel_rfl, by kernel_rfl⟩⟩
theorem fn18 : IsFn Try.prog 18 := ⟨⟨_, Try.func18, by kernel_rfl, by kernel_rfl⟩⟩
theorem fn19 : IsFn Try.prog 19 := ⟨⟨_, Try.func19, by kernel_rfl, by kernel_rfl⟩⟩
theorem fn20 : IsFn Try.prog 20 := ⟨⟨_, Try.func20, by kernel_rfl, by kernel_rfl⟩⟩
theorem fn21 : IsFn Try.prog 21 := ⟨⟨_, Try.func21, by kernel_rfl, by kernel_rfl⟩⟩
theorem fn22 : IsFn Try.prog 22 := ⟨⟨_, Try.func22, by kernel_rfl, by kernel_rfl⟩⟩
theorem fn23 : IsFn Try.prog 23 := ⟨⟨_, Try.func23, by kernel_rfl, by kernel_rfl⟩⟩
theorem fn24 : IsFn Try.prog 24 := ⟨⟨_, Try.func24, by kernel_rfl, by kernel_rfl⟩⟩
theorem fn25 : IsFn Try.prog 25 := ⟨⟨_, Try.func25, by kernel_rfl, by kernel_rfl⟩⟩
theorem fn26 : IsFn Try.prog 26 := ⟨⟨_, Try.func26, by kernel_rfl, by kernel_rfl⟩⟩
theorem fn27 : IsFn Try.prog 27 := ⟨⟨_, Try.func27, by kernel_rfl, by kernel_rfl⟩⟩
theorem fn28 : IsFn Try.prog 28 := ⟨⟨_, Try.func28, by kernel_rfl, by kernel_rfl⟩⟩
theorem fn29 : IsFn Try.prog 29 := ⟨⟨_, Try.func29, by kernel_rfl, by kernel_rfl⟩⟩
theorem fn30 : IsFn Try.prog 30 := ⟨⟨_, Try.func30, by kernel_rfl, by kernel_rfl⟩⟩
theorem fn31 : IsFn Try.prog 31 := ⟨⟨_, Try.func31, by kernel_rfl, by kernel_rfl⟩⟩
theorem fn34 : IsFn Try.prog 34 := ⟨⟨_, Try.func34, by kernel_rfl, by kernel_rfl⟩⟩
theorem fn35 : IsFn Try.prog 35 := ⟨⟨_, Try.func35, by kernel_rfl, by kernel_rfl⟩⟩
theorem mixed : Try.prog.follows .mixedOrders = true := by kernel_rfl
theorem gd25 : Try.prog.eqGuardType Try.prog.depth 25 = false := by kernel_rfl
theorem eg25 (x y : Operand) (a b : Array Value) {w : World} : (eqGuard .eql 25 x y (.agg a) (.agg b)).run Try.prog w = .ok () w := by simp [eqGuard, gd25]
theorem en25 (x y : Operand) (a b : Array Value) {w : World} : (eqGuard .neq 25 x y (.agg a) (.agg b)).run Try.prog w = .ok () w := by simp [eqGuard, gd25]
theorem eq25 (w : World) (x0 : Int) (x1 : Int) (y0 : Int) (y1 : Int) : (Op.equal 25 (.agg #[.int .u8 x0, .int .u64 x1]) (.agg #[.int .u8 y0, .int .u64 y1])).run Try.prog w = .ok ((x0 == y0) && (x1 == y1)) w := eqS_of (d := 9999) Try.underlying25 (by kernel_rfl) (eqS_cons rfl (part_one ty5 rfl) (part_one ty5 rfl) (eq_int (d := 9998) Try.underlying5) (eqS_last rfl (part_one ty23 rfl) (part_one ty23 rfl) (eq_int (d := 9998) Try.underlying23) ))
theorem gd44 : Try.prog.eqGuardType Try.prog.depth 44 = false := by kernel_rfl
theorem eg44 (x y : Operand) (a b : Array Value) {w : World} : (eqGuard .eql 44 x y (.agg a) (.agg b)).run Try.prog w = .ok () w := by simp [eqGuard, gd44]
theorem en44 (x y : Operand) (a b : Array Value) {w : World} : (eqGuard .neq 44 x y (.agg a) (.agg b)).run Try.prog w = .ok () w := by simp [eqGuard, gd44]
theorem eq44 (w : World) (x0 : Int) (x1 : Int) (y0 : Int) (y1 : Int) : (Op.equal 44 (.agg #[.int .u8 x0, .int .u64 x1]) (.agg #[.int .u8 y0, .int .u64 y1])).run Try.prog w = .ok ((x0 == y0) && (x1 == y1)) w := eqS_of (d := 9999) Try.underlying44 (by kernel_rfl) (eqS_cons rfl (part_one ty5 rfl) (part_one ty5 rfl) (eq_int (d := 9998) Try.underlying5) (eqS_last rfl (part_one ty23 rfl) (part_one ty23 rfl) (eq_int (d := 9998) Try.underlying23) ))
end Go.Proofs.Ytgnbccjpgoeplaa
