import Derived.Test.YtkknoimjgifhlaaDoorProg
import Derived.Test.YtkknoimjgifhlaaDoorSlS
import Derived.KernelRfl
import Derived.Test.YtkknoimjgifhlaaDoorSlT
import Derived.Test.YtkknoimjgifhlaaDoorSort
namespace Go.Proofs.YtkknoimjgifhlaaDoor
open Go
set_option linter.unusedVariables false
set_option linter.unusedSimpArgs false
theorem ty3 : IsTy Tryd.prog 3 false (.int .i64 0) 1 8 := ⟨by kernel_rfl, by kernel_rfl⟩
theorem ty4 : IsTy Tryd.prog 4 false (.bool false) 1 1 := ⟨by kernel_rfl, by kernel_rfl⟩
theorem ty5 : IsTy Tryd.prog 5 false (.int .u8 0) 1 1 := ⟨by kernel_rfl, by kernel_rfl⟩
theorem ty9 : IsTy Tryd.prog 9 false (.string ⟨#[]⟩) 1 16 := ⟨by kernel_rfl, by kernel_rfl⟩
theorem ty23 : IsTy Tryd.prog 23 true (.agg #[.int .i64 0, .int .i64 0, .int .i64 0, .int .i64 0, .int .i64 0, .int .i64 0, .int .i64 0, .int .i64 0]) 8 64 := ⟨by kernel_rfl, by kernel_rfl⟩
theorem ty30 : IsTy Tryd.prog 30 false (.slice none 0 0) 1 24 := ⟨by kernel_rfl, by kernel_rfl⟩
theorem ty31 : IsTy Tryd.prog 31 false (.int .i64 0) 1 8 := ⟨by kernel_rfl, by kernel_rfl⟩
theorem ty34 : IsTy Tryd.prog 34 false (.slice none 0 0) 1 24 := ⟨by kernel_rfl, by kernel_rfl⟩
theorem ty36 : IsTy Tryd.prog 36 true (.agg #[.int .i64 0, .bool false, .string ⟨#[]⟩, .slice none 0 0]) 4 56 := ⟨by kernel_rfl, by kernel_rfl⟩
theorem ty38 : IsTy Tryd.prog 38 true (.agg #[.int .u8 0, .int .i64 0, .int .i64 0, .int .i64 0, .bool false, .string ⟨#[]⟩, .slice none 0 0]) 7 80 := ⟨by kernel_rfl, by kernel_rfl⟩
theorem ty39 : IsTy Tryd.prog 39 false (.slice none 0 0) 1 24 := ⟨by kernel_rfl, by kernel_rfl⟩
theorem ty42 : IsTy Tryd.prog 42 true (.agg #[.int .u8 0, .int .i64 0, .string ⟨#[]⟩, .string ⟨#[]⟩, .string ⟨#[]⟩, .int .i64 0, .int .u8 0]) 7 80 := ⟨by kernel_rfl, by kernel_rfl⟩
theorem ty43 : IsTy Tryd.prog 43 false (.slice none 0 0) 1 24 := ⟨by kernel_rfl, by kernel_rfl⟩
theorem ty44 : IsTy Tryd.prog 44 false (.slice none 0 0) 1 24 := ⟨by kernel_rfl, by kernel_rfl⟩
theorem ty50 : IsTy Tryd.prog 50 false (.slice none 0 0) 1 24 := ⟨by kernel_rfl, by kernel_rfl⟩
theorem ty53 : IsTy Tryd.prog 53 true (.agg #[.int .i64 0, .int .i64 0, .int .i64 0, .bool false, .string ⟨#[]⟩, .slice none 0 0, .int .i64 0, .int .i64 0]) 8 88 := ⟨by kernel_rfl, by kernel_rfl⟩
theorem ty54 : IsTy Tryd.prog 54 false (.pointer none) 1 8 := ⟨by kernel_rfl, by kernel_rfl⟩
theorem ty58 : IsTy Tryd.prog 58 false (.slice none 0 0) 1 24 := ⟨by kernel_rfl, by kernel_rfl⟩
theorem ty62 : IsTy Tryd.prog 62 true (.agg #[.int .i64 0, .int .i64 0, .int .i64 0]) 3 24 := ⟨by kernel_rfl, by kernel_rfl⟩
theorem ty63 : IsTy Tryd.prog 63 true (.agg #[.int .i64 0, .int .i64 0, .int .i64 0, .int .i64 0, .int .i64 0, .int .i64 0]) 6 48 := ⟨by kernel_rfl, by kernel_rfl⟩
theorem ty70 : IsTy Tryd.prog 70 false (.pointer none) 1 8 := ⟨by kernel_rfl, by kernel_rfl⟩
theorem ty72 : IsTy Tryd.prog 72 true (.agg #[.slice none 0 0, .pointer none, .pointer none, .slice none 0 0, .slice none 0 0]) 5 88 := ⟨by kernel_rfl, by kernel_rfl⟩
theorem ty73 : IsTy Tryd.prog 73 false (.slice none 0 0) 1 24 := ⟨by kernel_rfl, by kernel_rfl⟩
theorem ty75 : IsTy Tryd.prog 75 true (.agg #[.int .i64 0, .int .i64 0, .bool false, .string ⟨#[]⟩]) 4 40 := ⟨by kernel_rfl, by kernel_rfl⟩
theorem ty77 : IsTy Tryd.prog 77 true (.agg #[.slice none 0 0, .int .i64 0, .int .i64 0, .bool false, .string ⟨#[]⟩]) 5 64 := ⟨by kernel_rfl, by kernel_rfl⟩
theorem ty78 : IsTy Tryd.prog 78 false (.map none) 1 8 := ⟨by kernel_rfl, by kernel_rfl⟩
theorem ty79 : IsTy Tryd.prog 79 false (.map none) 1 8 := ⟨by kernel_rfl, by kernel_rfl⟩
theorem ty80 : IsTy Tryd.prog 80 false (.slice none 0 0) 1 24 := ⟨by kernel_rfl, by kernel_rfl⟩
theorem ty81 : IsTy Tryd.prog 81 false (.map none) 1 8 := ⟨by kernel_rfl, by kernel_rfl⟩
theorem ty83 : IsTy Tryd.prog 83 true (.agg #[.int .i64 0, .int .i64 0, .int .i64 0, .int .i64 0, .int .i64 0, .int .i64 0, .int .i64 0, .int .i64 0, .map none, .map none, .slice none 0 0, .map none, .int .i64 0, .int .i64 0]) 14 128 := ⟨by kernel_rfl, by kernel_rfl⟩
theorem ty90 : IsTy Tryd.prog 90 true (.agg #[.int .i64 0, .int .i64 0, .int .i64 0]) 3 24 := ⟨by kernel_rfl, by kernel_rfl⟩
theorem ty91 : IsTy Tryd.prog 91 true (.agg #[.int .i64 0, .int .i64 0, .int .i64 0, .int .i64 0, .int .i64 0, .int .i64 0, .int .i64 0, .int .i64 0, .int .i64 0, .int .i64 0, .int .i64 0, .int .i64 0, .int .i64 0, .int .i64 0, .int .i64 0, .int .i64 0, .int .i64 0, .int .i64 0, .int .i64 0, .int .i64 0, .int .i64 0, .int .i64 0, .int .i64 0, .int .i64 0]) 24 192 := ⟨by kernel_rfl, by kernel_rfl⟩
theorem ty95 : IsTy Tryd.prog 95 false (.nilFunc) 1 8 := ⟨by kernel_rfl, by kernel_rfl⟩
theorem ty107 : IsTy Tryd.prog 107 true (.agg #[.int .i64 0, .int .i64 0]) 2 16 := ⟨by kernel_rfl, by kernel_rfl⟩
theorem ty109 : IsTy Tryd.prog 109 true (.agg #[.int .u8 0, .int .i64 0]) 2 16 := ⟨by kernel_rfl, by kernel_rfl⟩
theorem ty118 : IsTy Tryd.prog 118 false (.nilFunc) 1 8 := ⟨by kernel_rfl, by kernel_rfl⟩
theorem ty128 : IsTy Tryd.prog 128 false (.slice none 0 0) 1 24 := ⟨by kernel_rfl, by kernel_rfl⟩
theorem ty130 : IsTy Tryd.prog 130 true (.agg #[.slice none 0 0, .slice none 0 0]) 2 48 := ⟨by kernel_rfl, by kernel_rfl⟩
theorem ty133 : IsTy Tryd.prog 133 true (.agg #[.string ⟨#[]⟩, .string ⟨#[]⟩]) 2 32 := ⟨by kernel_rfl, by kernel_rfl⟩
theorem ty135 : IsTy Tryd.prog 135 true (.agg #[.int .i64 0, .int .i64 0]) 2 16 := ⟨by kernel_rfl, by kernel_rfl⟩
theorem fn8 : IsFn Tryd.prog 8 := ⟨⟨_, Tryd.func8, by kernel_rfl, by kernel_rfl⟩⟩
theorem fn9 : IsFn Tryd.prog 9 := ⟨⟨_, Tryd.func9, by kernel_rfl, by kernel_rfl⟩⟩
theorem fn10 : IsFn Tryd.prog 10 := ⟨⟨_, Tryd.func10, by kernel_rfl, by kernel_rfl⟩⟩
theorem fn11 : IsFn Tryd.prog 11 := ⟨⟨_, Tryd.func11, by kernel_rfl, by kernel_rfl⟩⟩
theorem fn12 : IsFn Tryd.prog 12 := ⟨⟨_, Tryd.func12, by kernel_rfl, by kernel_rfl⟩⟩
theorem fn13 : IsFn Tryd.prog 13 := ⟨⟨_, Tryd.func13, by kernel_rfl, by kernel_rfl⟩⟩
theorem fn14 : IsFn Tryd.prog 14 := ⟨⟨_, Tryd.func14, by kernel_rfl, by kernel_rfl⟩⟩
theorem fn15 : IsFn Tryd.prog 15 := ⟨⟨_, Tryd.func15, by kernel_rfl, by kernel_rfl⟩⟩
theorem fn16 : IsFn Tryd.prog 16 := ⟨⟨_, Tryd.func16, by kernel_rfl, by kernel_rfl⟩⟩
theorem fn17 : IsFn Tryd.prog 17 := ⟨⟨_, Tryd.func17, by kernel_rfl, by kernel_rfl⟩⟩
theorem fn18 : IsFn Tryd.prog 18 := ⟨⟨_, Tryd.func18, by kernel_rfl, by kernel_rfl⟩⟩
theorem fn19 : IsFn Tryd.prog 19 := ⟨⟨_, Tryd.func19, by kernel_rfl, by kernel_rfl⟩⟩
theorem fn20 : IsFn Tryd.prog 20 := ⟨⟨_, Tryd.func20, by kernel_rfl, by kernel_rfl⟩⟩
theorem fn21 : IsFn Tryd.prog 21 := ⟨⟨_, Tryd.func21, by kernel_rfl, by kernel_rfl⟩⟩
theorem fn22 : IsFn Tryd.prog 22 := ⟨⟨_, Tryd.func22, by kernel_rfl, by kernel_rfl⟩⟩
theorem fn23 : IsFn Tryd.prog 23 := ⟨⟨_, Tryd.func23, by kernel_rfl, by kernel_rfl⟩⟩
theorem fn24 : IsFn Tryd.prog 24 := ⟨⟨_, Tryd.func24, by kernel_rfl, by kernel_rfl⟩⟩
theorem fn25 : IsFn Tryd.prog 25 := ⟨⟨_, Tryd.func25, by kernel_rfl, by kernel_rfl⟩⟩
theorem fn26 : IsFn Tryd.prog 26 := ⟨⟨_, Tryd.func26, by kernel_rfl, by kernel_rfl⟩⟩
theorem fn27 : IsFn Tryd.prog 27 := ⟨⟨_, Tryd.func27, by kernel_rfl, by kernel_rfl⟩⟩
theorem fn28 : IsFn Tryd.prog 28 := ⟨⟨_, Tryd.func28, by kernel_rfl, by kernel_rfl⟩⟩
theorem fn29 : IsFn Tryd.prog 29 := ⟨⟨_, Tryd.func29, by kernel_rfl, by kernel_rfl⟩⟩
theorem fn30 : IsFn Tryd.prog 30 := ⟨⟨_, Tryd.func30, by kernel_rfl, by kernel_rfl⟩⟩
theorem fn31 : IsFn Tryd.prog 31 := ⟨⟨_, Tryd.func31, by kernel_rfl, by kernel_rfl⟩⟩
theorem fn32 : IsFn Tryd.prog 32 := ⟨⟨_, Tryd.func32, by kernel_rfl, by kernel_rfl⟩⟩
theorem fn33 : IsFn Tryd.prog 33 := ⟨⟨_, Tryd.func33, by kernel_rfl, by kernel_rfl⟩⟩
theorem fn34 : IsFn Tryd.prog 34 := ⟨⟨_, Tryd.func34, by kernel_rfl, by kernel_rfl⟩⟩
theorem fn35 : IsFn Tryd.prog 35 := ⟨⟨_, Tryd.func35, by kernel_rfl, by kernel_rfl⟩⟩
theorem fn36 : IsFn Tryd.prog 36 := ⟨⟨_, Tryd.func36, by kernel_rfl, by kernel_rfl⟩⟩
theorem fn37 : IsFn Tryd.prog 37 := ⟨⟨_, Tryd.func37, by kernel_rfl, by kernel_rfl⟩⟩
theorem fn38 : IsFn Tryd.prog 38 := ⟨⟨_, Tryd.func38, by kernel_rfl, by kernel_rfl⟩⟩
theorem fn39 : IsFn Tryd.prog 39 := ⟨⟨_, Tryd.func39, by kernel_rfl, by kernel_rfl⟩⟩
theorem fn40 : IsFn Tryd.prog 40 := ⟨⟨_, Tryd.func40, by kernel_rfl, by kernel_rfl⟩⟩
theorem fn41 : IsFn Tryd.prog 41 := ⟨⟨_, Tryd.func41, by kernel_rfl, by kernel_rfl⟩⟩
theorem fn42 : IsFn Tryd.prog 42 := ⟨⟨_, Tryd.func42, by kernel_rfl, by kernel_rfl⟩⟩
theorem fn43 : IsFn Tryd.prog 43 := ⟨⟨_, Tryd.func43, by kernel_rfl, by kernel_rfl⟩⟩
theorem fn44 : IsFn Tryd.prog 44 := ⟨⟨_, Tryd.func44, by kernel_rfl, by kernel_rfl⟩⟩
theorem fn46 : IsFn Tryd.prog 46 := ⟨⟨_, Tryd.func46, by kernel_rfl, by kernel_rfl⟩⟩
theorem fn47 : IsFn Tryd.prog 47 := ⟨⟨_, Tryd.func47, by kernel_rfl, by kernel_rfl⟩⟩
theorem fn48 : IsFn Tryd.prog 48 := ⟨⟨_, Tryd.func48, by kernel_rfl, by kernel_rfl⟩⟩
theorem fn49 : IsFn Tryd.prog 49 := ⟨⟨_, Tryd.func49, by kernel_rfl, by kernel_rfl⟩⟩
theorem fn50 : IsFn Tryd.prog 50 := ⟨⟨_, Tryd.func50, by kernel_rfl, by kernel_rfl⟩⟩
theorem fn51 : IsFn Tryd.prog 51 := ⟨⟨_, Tryd.func51, by kernel_rfl, by kernel_rfl⟩⟩
theorem fn52 : IsFn Tryd.prog 52 := ⟨⟨_, Tryd.func52, by kernel_rfl, by kernel_rfl⟩⟩
theorem fn53 : IsFn Tryd.prog 53 := ⟨⟨_, Tryd.func53, by kernel_rfl, by kernel_rfl⟩⟩
theorem fn63 : IsFn Tryd.prog 63 := ⟨⟨_, Tryd.func63, by kernel_rfl, by kernel_rfl⟩⟩
theorem fn65 : IsFn Tryd.prog 65 := ⟨⟨_, Tryd.func65, by kernel_rfl, by kernel_rfl⟩⟩
theorem fn66 : IsFn Tryd.prog 66 := ⟨⟨_, Tryd.func66, by kernel_rfl, by kernel_rfl⟩⟩
theorem fn72 : IsFn Tryd.prog 72 := ⟨⟨_, Tryd.func72, by kernel_rfl, by kernel_rfl⟩⟩
theorem fn90 : IsFn Tryd.prog 90 := ⟨⟨_, Tryd.func90, by kernel_rfl, by kernel_rfl⟩⟩
theorem fn92 : IsFn Tryd.prog 92 := ⟨⟨_, Tryd.func92, by kernel_rfl, by kernel_rfl⟩⟩
theorem fn93 : IsFn Tryd.prog 93 := ⟨⟨_, Tryd.func93, by kernel_rfl, by kernel_rfl⟩⟩
theorem fn94 : IsFn Tryd.prog 94 := ⟨⟨_, Tryd.func94, by kernel_rfl, by kernel_rfl⟩⟩
theorem fn95 : IsFn Tryd.prog 95 := ⟨⟨_, Tryd.func95, by kernel_rfl, by kernel_rfl⟩⟩
theorem fn96 : IsFn Tryd.prog 96 := ⟨⟨_, Tryd.func96, by kernel_rfl, by kernel_rfl⟩⟩
theorem fn97 : IsFn Tryd.prog 97 := ⟨⟨_, Tryd.func97, by kernel_rfl, by kernel_rfl⟩⟩
theorem fn98 : IsFn Tryd.prog 98 := ⟨⟨_, Tryd.func98, by kernel_rfl, by kernel_rfl⟩⟩
theorem fn99 : IsFn Tryd.prog 99 := ⟨⟨_, Tryd.func99, by kernel_rfl, by kernel_rfl⟩⟩
theorem fn100 : IsFn Tryd.prog 100 := ⟨⟨_, Tryd.func100, by kernel_rfl, by kernel_rfl⟩⟩
theorem fn101 : IsFn Tryd.prog 101 := ⟨⟨_, Tryd.func101, by kernel_rfl, by kernel_rfl⟩⟩
theorem fn102 : IsFn Tryd.prog 102 := ⟨⟨_, Tryd.func102, by kernel_rfl, by kernel_rfl⟩⟩
theorem fn103 : IsFn Tryd.prog 103 := ⟨⟨_, Tryd.func103, by kernel_rfl, by kernel_rfl⟩⟩
theorem fn104 : IsFn Tryd.prog 104 := ⟨⟨_, Tryd.func104, by kernel_rfl, by kernel_rfl⟩⟩
theorem fn105 : IsFn Tryd.prog 105 := ⟨⟨_, Tryd.func105, by kernel_rfl, by kernel_rfl⟩⟩
theorem fn106 : IsFn Tryd.prog 106 := ⟨⟨_, Tryd.func106, by kernel_rfl, by kernel_rfl⟩⟩
theorem fn107 : IsFn Tryd.prog 107 := ⟨⟨_, Tryd.func107, by kernel_rfl, by kernel_rfl⟩⟩
theorem fn108 : IsFn Tryd.prog 108 := ⟨⟨_, Tryd.func108, by kernel_rfl, by kernel_rfl⟩⟩
theorem fn109 : IsFn Tryd.prog 109 := ⟨⟨_, Tryd.func109, by kernel_rfl, by kernel_rfl⟩⟩
theorem fn110 : IsFn Tryd.prog 110 := ⟨⟨_, Tryd.func110, by kernel_rfl, by kernel_rfl⟩⟩
theorem fn111 : IsFn Tryd.prog 111 := ⟨⟨_, Tryd.func111, by kernel_rfl, by kernel_rfl⟩⟩
theorem fn112 : IsFn Tryd.prog 112 := ⟨⟨_, Tryd.func112, by kernel_rfl, by kernel_rfl⟩⟩
theorem fn113 : IsFn Tryd.prog 113 := ⟨⟨_, Tryd.func113, by kernel_rfl, by kernel_rfl⟩⟩
theorem fn114 : IsFn Tryd.prog 114 := ⟨⟨_, Tryd.func114, by kernel_rfl, by kernel_rfl⟩⟩
theorem fn115 : IsFn Tryd.prog 115 := ⟨⟨_, Tryd.func115, by kernel_rfl, by kernel_rfl⟩⟩
theorem fn116 : IsFn Tryd.prog 116 := ⟨⟨_, Tryd.func116, by kernel_rfl, by kernel_rfl⟩⟩
theorem fn117 : IsFn Tryd.prog 117 := ⟨⟨_, Tryd.func117, by kernel_rfl, by kernel_rfl⟩⟩
theorem fn118 : IsFn Tryd.prog 118 := ⟨⟨_, Tryd.func118, by kernel_rfl, by kernel_rfl⟩⟩
theorem fn119 : IsFn Tryd.prog 119 := ⟨⟨_, Tryd.func119, by kernel_rfl, by kernel_rfl⟩⟩
theorem fn120 : IsFn Tryd.prog 120 := ⟨⟨_, Tryd.func120, by kernel_rfl, by kernel_rfl⟩⟩
theorem fn121 : IsFn Tryd.prog 121 := ⟨⟨_, Tryd.func121, by kernel_rfl, by kernel_rfl⟩⟩
theorem fn122 : IsFn Tryd.prog 122 := ⟨⟨_, Tryd.func122, by kernel_rfl, by kernel_rfl⟩⟩
theorem cmp64 : IsCmp Tryd.prog 64 := ⟨_, Tryd.func64, by kernel_rfl, by kernel_rfl, by kernel_rfl, by kernel_rfl⟩
theorem mixed : Tryd.prog.follows .mixedOrders = true := by kernel_rfl
theorem gd107 : Tryd.prog.eqGuardType Tryd.prog.depth 107 = false := by kernel_rfl
theorem eg107 (x y : Operand) (a b : Array Value) {w : World} : (eqGuard .eql 107 x y (.agg a) (.agg b)).run Tryd.prog w = .ok () w := by simp [eqGuard, gd107]
theorem en107 (x y : Operand) (a b : Array Value) {w : World} : (eqGuard .neq 107 x y (.agg a) (.agg b)).run Tryd.prog w = .ok () w := by simp [eqGuard, gd107]
theorem eq107 (w : World) (x0 : Int) (x1 : Int) (y0 : Int) (y1 : Int) : (Op.equal 107 (.agg #[.int .i64 x0, .int .i64 x1]) (.agg #[.int .i64 y0, .int .i64 y1])).run Tryd.prog w = .ok ((x0 == y0) && (x1 == y1)) w := eqS_of (d := 9999) Tryd.underlying107 (by kernel_rfl) (eqS_cons rfl (part_one ty3 rfl) (part_one ty3 rfl) (eq_int (d := 9998) Tryd.underlying3) (eqS_last rfl (part_one ty3 rfl) (part_one ty3 rfl) (eq_int (d := 9998) Tryd.underlying3) ))
theorem gd133 : Tryd.prog.eqGuardType Tryd.prog.depth 133 = false := by kernel_rfl
theorem eg133 (x y : Operand) (a b : Array Value) {w : World} : (eqGuard .eql 133 x y (.agg a) (.agg b)).run Tryd.prog w = .ok () w := by simp [eqGuard, gd133]
theorem en133 (x y : Operand) (a b : Array Value) {w : World} : (eqGuard .neq 133 x y (.agg a) (.agg b)).run Tryd.prog w = .ok () w := by simp [eqGuard, gd133]
theorem eq133 (w : World) (x0 : Str) (x1 : Str) (y0 : Str) (y1 : Str) : (Op.equal 133 (.agg #[.string (bs x0), .string (bs x1)]) (.agg #[.string (bs y0), .string (bs y1)])).run Tryd.prog w = .ok ((x0 == y0) && (x1 == y1)) w := eqS_of (d := 9999) Tryd.underlying133 (by kernel_rfl) (eqS_cons rfl (part_one ty9 rfl) (part_one ty9 rfl) (eq_str (d := 9998) Tryd.underlying9) (eqS_last rfl (part_one ty9 rfl) (part_one ty9 rfl) (eq_str (d := 9998) Tryd.underlying9) ))
end Go.Proofs.YtkknoimjgifhlaaDoor
