import Derived.Test.YtninegjnkkcepaaProg
import Derived.Test.YtninegjnkkcepaaSlV
import Derived.KernelRfl
import Derived.Test.YtninegjnkkcepaaSlX
namespace Go.Proofs.Ytninegjnkkcepaa
open Go
set_option linter.unusedVariables false
set_option linter.unusedSimpArgs false
theorem ty3 : IsTy Try.prog 3 false (.int .i64 0) 1 8 := ⟨by kernel_rfl, by kernel_rfl⟩
theorem ty4 : IsTy Try.prog 4 false (.bool false) 1 1 := ⟨by kernel_rfl, by kernel_rfl⟩
theorem ty5 : IsTy Try.prog 5 false (.int .u8 0) 1 1 := ⟨by kernel_rfl, by kernel_rfl⟩
theorem ty9 : IsTy Try.prog 9 false (.string ⟨#[]⟩) 1 16 := ⟨by kernel_rfl, by kernel_rfl⟩
theorem ty22 : IsTy Try.prog 22 false (.slice none 0 0) 1 24 := ⟨by kernel_rfl, by kernel_rfl⟩
theorem ty27 : IsTy Try.prog 27 false (.int .i64 0) 1 8 := ⟨by kernel_rfl, by kernel_rfl⟩
theorem ty28 : IsTy Try.prog 28 false (.slice none 0 0) 1 24 := ⟨by kernel_rfl, by kernel_rfl⟩
theorem ty30 : IsTy Try.prog 30 true (.agg #[.int .i64 0, .bool false, .string ⟨#[]⟩, .slice none 0 0]) 4 56 := ⟨by kernel_rfl, by kernel_rfl⟩
theorem ty32 : IsTy Try.prog 32 true (.agg #[.int .u8 0, .int .i64 0, .int .i64 0, .int .i64 0, .bool false, .string ⟨#[]⟩, .slice none 0 0]) 7 80 := ⟨by kernel_rfl, by kernel_rfl⟩
theorem ty40 : IsTy Try.prog 40 true (.agg #[.int .u8 0, .int .i64 0, .int .i64 0, .bool false, .string ⟨#[]⟩, .slice none 0 0]) 6 72 := ⟨by kernel_rfl, by kernel_rfl⟩
theorem ty43 : IsTy Try.prog 43 true (.agg #[.string ⟨#[]⟩, .string ⟨#[]⟩]) 2 32 := ⟨by kernel_rfl, by kernel_rfl⟩
theorem ty62 : IsTy Try.prog 62 true (.agg #[.int .i64 0, .int .i64 0]) 2 16 := ⟨by kernel_rfl, by kernel_rfl⟩
theorem ty70 : IsTy Try.prog 70 true (.agg #[.int .i64 0, .int .i64 0]) 2 16 := ⟨by kernel_rfl, by kernel_rfl⟩
theorem ty71 : IsTy Try.prog 71 false (.slice none 0 0) 1 24 := ⟨by kernel_rfl, by kernel_rfl⟩
theorem ty73 : IsTy Try.prog 73 true (.agg #[.slice none 0 0, .slice none 0 0]) 2 48 := ⟨by kernel_rfl, by kernel_rfl⟩
theorem ty80 : IsTy Try.prog 80 false (.map none) 1 8 := ⟨by kernel_rfl, by kernel_rfl⟩
theorem ty81 : IsTy Try.prog 81 true (.agg #[.int .i64 0, .int .i64 0]) 2 16 := ⟨by kernel_rfl, by kernel_rfl⟩
theorem fn10 : IsFn Try.prog 10 := ⟨⟨_, Try.func10, by kernel_rfl, by kernel_rfl⟩⟩
theorem fn11 : IsFn Try.prog 11 := ⟨⟨_, Try.func11, by kernel_rfl, by kernel_rfl⟩⟩
theorem fn12 : IsFn Try.prog 12 := ⟨⟨_, Try.func12, by kernel_rfl, by kernel_rfl⟩⟩
theorem fn13 : IsFn Try.prog 13 := ⟨⟨_, Try.func13, by kernel_rfl, by kernel_rfl⟩⟩
theorem fn14 : IsFn Try.prog 14 := ⟨⟨_, Try.func14, by kernel_rfl, by kernel_rfl⟩⟩
theorem fn15 : IsFn Try.prog 15 := ⟨⟨_, Try.func15, by kernel_rfl, by kernel_rfl⟩⟩
theorem fn16 : IsFn Try.prog 16 := ⟨⟨_, Try.func16, by kernel_rfl, by kernel_rfl⟩⟩
theorem fn17 : IsFn Try.prog 17 := ⟨⟨_, Try.func17, by kernel_rfl, by kernel_rfl⟩⟩
theorem fn18 : IsFn Try.prog 18 := ⟨⟨_, Try.func18, by kernel_rfl, by kernel_rfl⟩⟩
theorem fn19 : IsFn Try.prog 19 := ⟨⟨_, Try.func19, by kernel_rfl, by kernel_rfl⟩⟩
theorem fn20 : IsFn Try.prog 20 := ⟨⟨_, Try.func20, by kernel_rfl, by kernel_rfl⟩⟩
theorem fn21 : IsFn Try.prog 21 := ⟨⟨_, Try.func21, by kernel_rfl, by kernel_rfl⟩⟩
theorem fn22 : IsFn Try.prog 22 := ⟨⟨_, Try.func22, by kernel_rfl, by kernel_rfl⟩⟩
theorem fn23 : IsFn Try.prog 23 := ⟨⟨_, Try.func23, by kernel_rfl, by kernel_rfl⟩⟩
theorem fn24 : IsFn Try.prog 24 := ⟨⟨_, Try.func24, by kernel_rfl, by kernel_rfl⟩⟩
theorem fn25 : IsFn Try.prog 25 := ⟨⟨_, Try.func25, by kernel_rfl, by kernel_rfl⟩⟩
theorem fn26 : IsFn Try.prog 26 := ⟨⟨_, Try.func26, by kernel_rfl, by kernel_rfl⟩⟩
theorem fn27 : IsFn Try.prog 27 := ⟨⟨_, Try.func27, by kernel_rfl, by kernel_rfl⟩⟩
theorem fn28 : IsFn Try.prog 28 := ⟨⟨_, Try.func28, by kernel_rfl, by kernel_rfl⟩⟩
theorem fn30 : IsFn Try.prog 30 := ⟨⟨_, Try.func30, by kernel_rfl, by kernel_rfl⟩⟩
theorem fn31 : IsFn Try.prog 31 := ⟨⟨_, Try.func31, by kernel_rfl, by kernel_rfl⟩⟩
theorem fn32 : IsFn Try.prog 32 := ⟨⟨_, Try.func32, by kernel_rfl, by kernel_rfl⟩⟩
theorem fn33 : IsFn Try.prog 33 := ⟨⟨_, Try.func33, by kernel_rfl, by kernel_rfl⟩⟩
theorem fn34 : IsFn Try.prog 34 := ⟨⟨_, Try.func34, by kernel_rfl, by kernel_rfl⟩⟩
theorem fn35 : IsFn Try.prog 35 := ⟨⟨_, Try.func35, by kernel_rfl, by kernel_rfl⟩⟩
theorem fn36 : IsFn Try.prog 36 := ⟨⟨_, Try.func36, by kernel_rfl, by kernel_rfl⟩⟩
theorem fn37 : IsFn Try.prog 37 := ⟨⟨_, Try.func37, by kernel_rfl, by kernel_rfl⟩⟩
theorem fn38 : IsFn Try.prog 38 := ⟨⟨_, Try.func38, by kernel_rfl, by kernel_rfl⟩⟩
theorem fn39 : IsFn Try.prog 39 := ⟨⟨_, Try.func39, by kernel_rfl, by kernel_rfl⟩⟩
theorem fn40 : IsFn Try.prog 40 := ⟨⟨_, Try.func40, by kernel_rfl, by kernel_rfl⟩⟩
theorem fn41 : IsFn Try.prog 41 := ⟨⟨_, Try.func41, by kernel_rfl, by kernel_rfl⟩⟩
theorem fn42 : IsFn Try.prog 42 := ⟨⟨_, Try.func42, by kernel_rfl, by kernel_rfl⟩⟩
theorem fn43 : IsFn Try.prog 43 := ⟨⟨_, Try.func43, by kernel_rfl, by kernel_rfl⟩⟩
theorem fn44 : IsFn Try.prog 44 := ⟨⟨_, Try.func44, by kernel_rfl, by kernel_rfl⟩⟩
theorem fn47 : IsFn Try.prog 47 := ⟨⟨_, Try.func47, by kernel_rfl, by kernel_rfl⟩⟩
theorem fn48 : IsFn Try.prog 48 := ⟨⟨_, Try.func48, by kernel_rfl, by kernel_rfl⟩⟩
theorem fn49 : IsFn Try.prog 49 := ⟨⟨_, Try.func49, by kernel_rfl, by kernel_rfl⟩⟩
theorem mixed : Try.prog.follows .mixedOrders = true := by kernel_rfl
theorem gd43 : Try.prog.eqGuardType Try.prog.depth 43 = false := by kernel_rfl
theorem eg43 (x y : Operand) (a b : Array Value) {w : World} : (eqGuard .eql 43 x y (.agg a) (.agg b)).run Try.prog w = .ok () w := by simp [eqGuard, gd43]
theorem en43 (x y : Operand) (a b : Array Value) {w : World} : (eqGuard .neq 43 x y (.agg a) (.agg b)).run Try.prog w = .ok () w := by simp [eqGuard, gd43]
theorem eq43 (w : World) (x0 : Str) (x1 : Str) (y0 : Str) (y1 : Str) : (Op.equal 43 (.agg #[.string (bs x0), .string (bs x1)]) (.agg #[.string (bs y0), .string (bs y1)])).run Try.prog w = .ok ((x0 == y0) && (x1 == y1)) w := eqS_of (d := 9999) Try.underlying43 (by kernel_rfl) (eqS_cons rfl (part_one ty9 rfl) (part_one ty9 rfl) (eq_str (d := 9998) Try.underlying9) (eqS_last rfl (part_one ty9 rfl) (part_one ty9 rfl) (eq_str (d := 9998) Try.underlying9) ))
theorem gd62 : Try.prog.eqGuardType Try.prog.depth 62 = false := by kernel_rfl
theorem eg62 (x y : Operand) (a b : Array Value) {w : World} : (eqGuard .eql 62 x y (.agg a) (.agg b)).run Try.prog w = .ok () w := by simp [eqGuard, gd62]
theorem en62 (x y : Operand) (a b : Array Value) {w : World} : (eqGuard .neq 62 x y (.agg a) (.agg b)).run Try.prog w = .ok () w := by simp [eqGuard, gd62]
theorem eq62 (w : World) (x0 : Int) (x1 : Int) (y0 : Int) (y1 : Int) : (Op.equal 62 (.agg #[.int .i64 x0, .int .i64 x1]) (.agg #[.int .i64 y0, .int .i64 y1])).run Try.prog w = .ok ((x0 == y0) && (x1 == y1)) w := eqS_of (d := 9999) Try.underlying62 (by kernel_rfl) (eqS_cons rfl (part_one ty3 rfl) (part_one ty3 rfl) (eq_int (d := 9998) Try.underlying3) (eqS_last rfl (part_one ty3 rfl) (part_one ty3 rfl) (eq_int (d := 9998) Try.underlying3) ))
theorem gd81 : Try.prog.eqGuardType Try.prog.depth 81 = false := by kernel_rfl
theorem eg81 (x y : Operand) (a b : Array Value) {w : World} : (eqGuard .eql 81 x y (.agg a) (.agg b)).run Try.prog w = .ok () w := by simp [eqGuard, gd81]
theorem en81 (x y : Operand) (a b : Array Value) {w : World} : (eqGuard .neq 81 x y (.agg a) (.agg b)).run Try.prog w = .ok () w := by simp [eqGuard, gd81]
theorem eq81 (w : World) (x0 : Int) (x1 : Int) (y0 : Int) (y1 : Int) : (Op.equal 81 (.agg #[.int .i64 x0, .int .i64 x1]) (.agg #[.int .i64 y0, .int .i64 y1])).run Try.prog w = .ok ((x0 == y0) && (x1 == y1)) w := eqS_of (d := 9999) Try.underlying81 (by kernel_rfl) (eqS_cons rfl (part_one ty3 rfl) (part_one ty3 rfl) (eq_int (d := 9998) Try.underlying3) (eqS_last rfl (part_one ty3 rfl) (part_one ty3 rfl) (eq_int (d := 9998) Try.underlying3) ))
end Go.Proofs.Ytninegjnkkcepaa
