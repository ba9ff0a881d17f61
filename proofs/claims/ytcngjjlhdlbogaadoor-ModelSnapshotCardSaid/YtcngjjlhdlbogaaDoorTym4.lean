import Derived.Test.YtcngjjlhdlbogaaDoorProg
import Derived.Test.YtcngjjlhdlbogaaDoorSlV
import Derived.KernelRfl
import Derived.Test.YtcngjjlhdlbogaaDoorSlY
import Derived.Test.YtcngjjlhdlbogaaDoorSlT
import Derived.Test.YtcngjjlhdlbogaaDoorSlY
import Derived.Test.YtcngjjlhdlbogaaDoorSort
namespace Go.Proofs.YtcngjjlhdlbogaaDoor
open Go
set_option linter.unusedVariables false
set_option linter.unusedSimpArgs false
theorem ty3:IsTy Tryd.prog 3 false (.int .i64 0) 1 8:=⟨by kernel_rfl,by kernel_rfl⟩
theorem ty4:IsTy Tryd.prog 4 false (.bool false) 1 1:=⟨by kernel_rfl,by kernel_rfl⟩
theorem ty5:IsTy Tryd.prog 5 false (.int .u8 0) 1 1:=⟨by kernel_rfl,by kernel_rfl⟩
theorem ty9:IsTy Tryd.prog 9 false (.string ⟨#[]⟩) 1 16:=⟨by kernel_rfl,by kernel_rfl⟩
theorem ty23:IsTy Tryd.prog 23 true (.agg #[.int .i64 0,.int .i64 0,.int .i64 0,.int .i64 0,.int .i64 0,.int .i64 0,.int .i64 0,.int .i64 0]) 8 64:=⟨by kernel_rfl,by kernel_rfl⟩
theorem ty27:IsTy Tryd.prog 27 false (.pointer none) 1 8:=⟨by kernel_rfl,by kernel_rfl⟩
theorem ty28:IsTy Tryd.prog 28 false (.int .i64 0) 1 8:=⟨by kernel_rfl,by kernel_rfl⟩
theorem ty32:IsTy Tryd.prog 32 false (.slice none 0 0) 1 24:=⟨by kernel_rfl,by kernel_rfl⟩
theorem ty33:IsTy Tryd.prog 33 false (.slice none 0 0) 1 24:=⟨by kernel_rfl,by kernel_rfl⟩
theorem ty35:IsTy Tryd.prog 35 true (.agg #[.int .i64 0,.slice none 0 0,.slice none 0 0]) 3 56:=⟨by kernel_rfl,by kernel_rfl⟩
theorem ty37:IsTy Tryd.prog 37 true (.agg #[.int .u8 0,.int .i64 0,.string ⟨#[]⟩,.string ⟨#[]⟩,.string ⟨#[]⟩,.int .i64 0,.int .u8 0]) 7 80:=⟨by kernel_rfl,by kernel_rfl⟩
theorem ty39:IsTy Tryd.prog 39 true (.agg #[.int .i64 0,.int .u8 0,.int .i64 0,.string ⟨#[]⟩,.string ⟨#[]⟩,.string ⟨#[]⟩,.int .i64 0,.int .u8 0]) 8 88:=⟨by kernel_rfl,by kernel_rfl⟩
theorem ty41:IsTy Tryd.prog 41 false (.slice none 0 0) 1 24:=⟨by kernel_rfl,by kernel_rfl⟩
theorem ty43:IsTy Tryd.prog 43 true (.agg #[.int .i64 0,.bool false,.string ⟨#[]⟩,.slice none 0 0]) 4 56:=⟨by kernel_rfl,by kernel_rfl⟩
theorem ty52:IsTy Tryd.prog 52 true (.agg #[.int .i64 0,.int .i64 0,.int .i64 0,.slice none 0 0,.int .i64 0,.int .i64 0]) 6 64:=⟨by kernel_rfl,by kernel_rfl⟩
theorem ty54:IsTy Tryd.prog 54 true (.agg #[.int .i64 0,.string ⟨#[]⟩,.bool false,.string ⟨#[]⟩]) 4 48:=⟨by kernel_rfl,by kernel_rfl⟩
theorem ty61:IsTy Tryd.prog 61 true (.agg #[.int .i64 0,.int .i64 0,.bool false,.string ⟨#[]⟩]) 4 40:=⟨by kernel_rfl,by kernel_rfl⟩
theorem ty65:IsTy Tryd.prog 65 false (.slice none 0 0) 1 24:=⟨by kernel_rfl,by kernel_rfl⟩
theorem ty67:IsTy Tryd.prog 67 false (.slice none 0 0) 1 24:=⟨by kernel_rfl,by kernel_rfl⟩
theorem ty87:IsTy Tryd.prog 87 true (.agg #[.string ⟨#[]⟩,.string ⟨#[]⟩]) 2 32:=⟨by kernel_rfl,by kernel_rfl⟩
theorem ty89:IsTy Tryd.prog 89 false (.map none) 1 8:=⟨by kernel_rfl,by kernel_rfl⟩
theorem ty90:IsTy Tryd.prog 90 false (.map none) 1 8:=⟨by kernel_rfl,by kernel_rfl⟩
theorem ty91:IsTy Tryd.prog 91 false (.map none) 1 8:=⟨by kernel_rfl,by kernel_rfl⟩
theorem ty92:IsTy Tryd.prog 92 false (.slice none 0 0) 1 24:=⟨by kernel_rfl,by kernel_rfl⟩
theorem ty94:IsTy Tryd.prog 94 true (.agg #[.int .i64 0,.int .i64 0,.int .i64 0,.int .i64 0,.int .i64 0,.int .i64 0,.int .i64 0,.int .i64 0,.map none,.map none,.slice none 0 0,.map none,.int .i64 0,.int .i64 0]) 14 128:=⟨by kernel_rfl,by kernel_rfl⟩
theorem ty95:IsTy Tryd.prog 95 false (.nilFunc) 1 8:=⟨by kernel_rfl,by kernel_rfl⟩
theorem ty99:IsTy Tryd.prog 99 true (.agg #[.int .u8 0,.int .i64 0]) 2 16:=⟨by kernel_rfl,by kernel_rfl⟩
theorem ty101:IsTy Tryd.prog 101 true (.agg #[.slice none 0 0,.int .i64 0,.int .i64 0,.bool false,.string ⟨#[]⟩]) 5 64:=⟨by kernel_rfl,by kernel_rfl⟩
theorem ty104:IsTy Tryd.prog 104 true (.agg #[.int .i64 0,.int .i64 0]) 2 16:=⟨by kernel_rfl,by kernel_rfl⟩
theorem ty135:IsTy Tryd.prog 135 true (.agg #[.int .i64 0,.int .i64 0,.int .i64 0]) 3 24:=⟨by kernel_rfl,by kernel_rfl⟩
theorem ty136:IsTy Tryd.prog 136 true (.agg #[.int .i64 0,.int .i64 0,.int .i64 0,.int .i64 0,.int .i64 0,.int .i64 0,.int .i64 0,.int .i64 0,.int .i64 0,.int .i64 0,.int .i64 0,.int .i64 0,.int .i64 0,.int .i64 0,.int .i64 0,.int .i64 0,.int .i64 0,.int .i64 0,.int .i64 0,.int .i64 0,.int .i64 0,.int .i64 0,.int .i64 0,.int .i64 0]) 24 192:=⟨by kernel_rfl,by kernel_rfl⟩
theorem fn11:IsFn Tryd.prog 11:=⟨⟨_,Tryd.func11,by kernel_rfl,by kernel_rfl⟩⟩
theorem fn12:IsFn Tryd.prog 12:=⟨⟨_,Tryd.func12,by kernel_rfl,by kernel_rfl⟩⟩
theorem fn13:IsFn Tryd.prog 13:=⟨⟨_,Tryd.func13,by kernel_rfl,by kernel_rfl⟩⟩
theorem fn14:IsFn Tryd.prog 14:=⟨⟨_,Tryd.func14,by kernel_rfl,by kernel_rfl⟩⟩
theorem fn15:IsFn Tryd.prog 15:=⟨⟨_,Tryd.func15,by kernel_rfl,by kernel_rfl⟩⟩
theorem fn16:IsFn Tryd.prog 16:=⟨⟨_,Tryd.func16,by kernel_rfl,by kernel_rfl⟩⟩
theorem fn17:IsFn Tryd.prog 17:=⟨⟨_,Tryd.func17,by kernel_rfl,by kernel_rfl⟩⟩
theorem fn18:IsFn Tryd.prog 18:=⟨⟨_,Tryd.func18,by kernel_rfl,by kernel_rfl⟩⟩
theorem fn19:IsFn Tryd.prog 19:=⟨⟨_,Tryd.func19,by kernel_rfl,by kernel_rfl⟩⟩
theorem fn20:IsFn Tryd.prog 20:=⟨⟨_,Tryd.func20,by kernel_rfl,by kernel_rfl⟩⟩
theorem fn21:IsFn Tryd.prog 21:=⟨⟨_,Tryd.func21,by kernel_rfl,by kernel_rfl⟩⟩
theorem fn23:IsFn Tryd.prog 23:=⟨⟨_,Tryd.func23,by kernel_rfl,by kernel_rfl⟩⟩
theorem fn25:IsFn Tryd.prog 25:=⟨⟨_,Tryd.func25,by kernel_rfl,by kernel_rfl⟩⟩
theorem fn26:IsFn Tryd.prog 26:=⟨⟨_,Tryd.func26,by kernel_rfl,by kernel_rfl⟩⟩
theorem fn27:IsFn Tryd.prog 27:=⟨⟨_,Tryd.func27,by kernel_rfl,by kernel_rfl⟩⟩
theorem fn30:IsFn Tryd.prog 30:=⟨⟨_,Tryd.func30,by kernel_rfl,by kernel_rfl⟩⟩
theorem fn31:IsFn Tryd.prog 31:=⟨⟨_,Tryd.func31,by kernel_rfl,by kernel_rfl⟩⟩
theorem fn32:IsFn Tryd.prog 32:=⟨⟨_,Tryd.func32,by kernel_rfl,by kernel_rfl⟩⟩
theorem fn41:IsFn Tryd.prog 41:=⟨⟨_,Tryd.func41,by kernel_rfl,by kernel_rfl⟩⟩
theorem fn42:IsFn Tryd.prog 42:=⟨⟨_,Tryd.func42,by kernel_rfl,by kernel_rfl⟩⟩
theorem fn43:IsFn Tryd.prog 43:=⟨⟨_,Tryd.func43,by kernel_rfl,by kernel_rfl⟩⟩
theorem fn44:IsFn Tryd.prog 44:=⟨⟨_,Tryd.func44,by kernel_rfl,by kernel_rfl⟩⟩
theorem fn45:IsFn Tryd.prog 45:=⟨⟨_,Tryd.func45,by kernel_rfl,by kernel_rfl⟩⟩
theorem fn46:IsFn Tryd.prog 46:=⟨⟨_,Tryd.func46,by kernel_rfl,by kernel_rfl⟩⟩
theorem fn47:IsFn Tryd.prog 47:=⟨⟨_,Tryd.func47,by kernel_rfl,by kernel_rfl⟩⟩
theorem fn48:IsFn Tryd.prog 48:=⟨⟨_,Tryd.func48,by kernel_rfl,by kernel_rfl⟩⟩
theorem fn69:IsFn Tryd.prog 69:=⟨⟨_,Tryd.func69,by kernel_rfl,by kernel_rfl⟩⟩
theorem fn70:IsFn Tryd.prog 70:=⟨⟨_,Tryd.func70,by kernel_rfl,by kernel_rfl⟩⟩
theorem fn71:IsFn Tryd.prog 71:=⟨⟨_,Tryd.func71,by kernel_rfl,by kernel_rfl⟩⟩
theorem fn72:IsFn Tryd.prog 72:=⟨⟨_,Tryd.func72,by kernel_rfl,by kernel_rfl⟩⟩
theorem fn73:IsFn Tryd.prog 73:=⟨⟨_,Tryd.func73,by kernel_rfl,by kernel_rfl⟩⟩
theorem fn74:IsFn Tryd.prog 74:=⟨⟨_,Tryd.func74,by kernel_rfl,by kernel_rfl⟩⟩
theorem fn75:IsFn Tryd.prog 75:=⟨⟨_,Tryd.func75,by kernel_rfl,by kernel_rfl⟩⟩
theorem fn76:IsFn Tryd.prog 76:=⟨⟨_,Tryd.func76,by kernel_rfl,by kernel_rfl⟩⟩
theorem fn83:IsFn Tryd.prog 83:=⟨⟨_,Tryd.func83,by kernel_rfl,by kernel_rfl⟩⟩
theorem fn84:IsFn Tryd.prog 84:=⟨⟨_,Tryd.func84,by kernel_rfl,by kernel_rfl⟩⟩
theorem fn86:IsFn Tryd.prog 86:=⟨⟨_,Tryd.func86,by kernel_rfl,by kernel_rfl⟩⟩
theorem fn87:IsFn Tryd.prog 87:=⟨⟨_,Tryd.func87,by kernel_rfl,by kernel_rfl⟩⟩
theorem fn89:IsFn Tryd.prog 89:=⟨⟨_,Tryd.func89,by kernel_rfl,by kernel_rfl⟩⟩
theorem fn99:IsFn Tryd.prog 99:=⟨⟨_,Tryd.func99,by kernel_rfl,by kernel_rfl⟩⟩
theorem fn124:IsFn Tryd.prog 124:=⟨⟨_,Tryd.func124,by kernel_rfl,by kernel_rfl⟩⟩
theorem fn125:IsFn Tryd.prog 125:=⟨⟨_,Tryd.func125,by kernel_rfl,by kernel_rfl⟩⟩
theorem fn126:IsFn Tryd.prog 126:=⟨⟨_,Tryd.func126,by kernel_rfl,by kernel_rfl⟩⟩
theorem fn127:IsFn Tryd.prog 127:=⟨⟨_,Tryd.func127,by kernel_rfl,by kernel_rfl⟩⟩
theorem fn128:IsFn Tryd.prog 128:=⟨⟨_,Tryd.func128,by kernel_rfl,by kernel_rfl⟩⟩
theorem fn129:IsFn Tryd.prog 129:=⟨⟨_,Tryd.func129,by kernel_rfl,by kernel_rfl⟩⟩
theorem fn130:IsFn Tryd.prog 130:=⟨⟨_,Tryd.func130,by kernel_rfl,by kernel_rfl⟩⟩
theorem fn131:IsFn Tryd.prog 131:=⟨⟨_,Tryd.func131,by kernel_rfl,by kernel_rfl⟩⟩
theorem fn132:IsFn Tryd.prog 132:=⟨⟨_,Tryd.func132,by kernel_rfl,by kernel_rfl⟩⟩
theorem fn133:IsFn Tryd.prog 133:=⟨⟨_,Tryd.func133,by kernel_rfl,by kernel_rfl⟩⟩
theorem fn134:IsFn Tryd.prog 134:=⟨⟨_,Tryd.func134,by kernel_rfl,by kernel_rfl⟩⟩
theorem fn135:IsFn Tryd.prog 135:=⟨⟨_,Tryd.func135,by kernel_rfl,by kernel_rfl⟩⟩
theorem fn136:IsFn Tryd.prog 136:=⟨⟨_,Tryd.func136,by kernel_rfl,by kernel_rfl⟩⟩
theorem fn137:IsFn Tryd.prog 137:=⟨⟨_,Tryd.func137,by kernel_rfl,by kernel_rfl⟩⟩
theorem fn138:IsFn Tryd.prog 138:=⟨⟨_,Tryd.func138,by kernel_rfl,by kernel_rfl⟩⟩
theorem fn139:IsFn Tryd.prog 139:=⟨⟨_,Tryd.func139,by kernel_rfl,by kernel_rfl⟩⟩
theorem fn140:IsFn Tryd.prog 140:=⟨⟨_,Tryd.func140,by kernel_rfl,by kernel_rfl⟩⟩
theorem fn141:IsFn Tryd.prog 141:=⟨⟨_,Tryd.func141,by kernel_rfl,by kernel_rfl⟩⟩
theorem fn142:IsFn Tryd.prog 142:=⟨⟨_,Tryd.func142,by kernel_rfl,by kernel_rfl⟩⟩
theorem fn143:IsFn Tryd.prog 143:=⟨⟨_,Tryd.func143,by kernel_rfl,by kernel_rfl⟩⟩
theorem fn144:IsFn Tryd.prog 144:=⟨⟨_,Tryd.func144,by kernel_rfl,by kernel_rfl⟩⟩
theorem cmp100:IsCmp Tryd.prog 100:=⟨_,Tryd.func100,by kernel_rfl,by kernel_rfl,by kernel_rfl,by kernel_rfl⟩
theorem mixed:Tryd.prog.follows .mixedOrders=true:=by kernel_rfl
theorem gd87:Tryd.prog.eqGuardType Tryd.prog.depth 87=false:=by kernel_rfl
theorem eg87 (x y:Operand) (a b:Array Value) {w:World}:(eqGuard .eql 87 x y (.agg a) (.agg b)).run Tryd.prog w=.ok () w:=by simp [eqGuard,gd87]
theorem en87 (x y:Operand) (a b:Array Value) {w:World}:(eqGuard .neq 87 x y (.agg a) (.agg b)).run Tryd.prog w=.ok () w:=by simp [eqGuard,gd87]
theorem eq87 (w:World) (x0:Str) (x1:Str) (y0:Str) (y1:Str):(Op.equal 87 (.agg #[.string (bs x0),.string (bs x1)]) (.agg #[.string (bs y0),.string (bs y1)])).run Tryd.prog w=.ok ((x0==y0)&&(x1==y1)) w:=eqS_of (d:=9999) Tryd.underlying87 (by kernel_rfl) (eqS_cons rfl (part_one ty9 rfl) (part_one ty9 rfl) (eq_str (d:=9998) Tryd.underlying9) (eqS_last rfl (part_one ty9 rfl) (part_one ty9 rfl) (eq_str (d:=9998) Tryd.underlying9) ))
theorem gd104:Tryd.prog.eqGuardType Tryd.prog.depth 104=false:=by kernel_rfl
theorem eg104 (x y:Operand) (a b:Array Value) {w:World}:(eqGuard .eql 104 x y (.agg a) (.agg b)).run Tryd.prog w=.ok () w:=by simp [eqGuard,gd104]
theorem en104 (x y:Operand) (a b:Array Value) {w:World}:(eqGuard .neq 104 x y (.agg a) (.agg b)).run Tryd.prog w=.ok () w:=by simp [eqGuard,gd104]
theorem eq104 (w:World) (x0:Int) (x1:Int) (y0:Int) (y1:Int):(Op.equal 104 (.agg #[.int .i64 x0,.int .i64 x1]) (.agg #[.int .i64 y0,.int .i64 y1])).run Tryd.prog w=.ok ((x0==y0)&&(x1==y1)) w:=eqS_of (d:=9999) Tryd.underlying104 (by kernel_rfl) (eqS_cons rfl (part_one ty3 rfl) (part_one ty3 rfl) (eq_int (d:=9998) Tryd.underlying3) (eqS_last rfl (part_one ty3 rfl) (part_one ty3 rfl) (eq_int (d:=9998) Tryd.underlying3) ))
end Go.Proofs.YtcngjjlhdlbogaaDoor
