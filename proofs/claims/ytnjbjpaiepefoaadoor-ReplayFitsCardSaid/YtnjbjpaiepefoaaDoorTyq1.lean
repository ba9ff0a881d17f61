import Derived.Test.YtnjbjpaiepefoaaDoorProg
import Derived.Test.YtnjbjpaiepefoaaDoorSlZ
import Derived.KernelRfl
import Derived.Test.YtnjbjpaiepefoaaDoorSlT
import Derived.Test.YtnjbjpaiepefoaaDoorSort
import Derived.Test.YtnjbjpaiepefoaaDoorSlZ
namespace Go.Proofs.YtnjbjpaiepefoaaDoor
open Go
set_option linter.unusedVariables false
set_option linter.unusedSimpArgs false
theorem ty3:IsTy Tryd.prog 3 false (.int .i64 0) 1 8:=⟨by kernel_rfl,by kernel_rfl⟩
theorem ty4:IsTy Tryd.prog 4 false (.bool false) 1 1:=⟨by kernel_rfl,by kernel_rfl⟩
theorem ty5:IsTy Tryd.prog 5 false (.int .u8 0) 1 1:=⟨by kernel_rfl,by kernel_rfl⟩
theorem ty9:IsTy Tryd.prog 9 false (.string ⟨#[]⟩) 1 16:=⟨by kernel_rfl,by kernel_rfl⟩
theorem ty23:IsTy Tryd.prog 23 true (.agg #[.int .i64 0,.int .i64 0,.int .i64 0,.int .i64 0,.int .i64 0,.int .i64 0,.int .i64 0,.int .i64 0]) 8 64:=⟨by kernel_rfl,by kernel_rfl⟩
theorem ty24:IsTy Tryd.prog 24 false (.slice none 0 0) 1 24:=⟨by kernel_rfl,by kernel_rfl⟩
theorem ty25:IsTy Tryd.prog 25 false (.slice none 0 0) 1 24:=⟨by kernel_rfl,by kernel_rfl⟩
theorem ty28:IsTy Tryd.prog 28 false (.int .i64 0) 1 8:=⟨by kernel_rfl,by kernel_rfl⟩
theorem ty32:IsTy Tryd.prog 32 false (.slice none 0 0) 1 24:=⟨by kernel_rfl,by kernel_rfl⟩
theorem ty34:IsTy Tryd.prog 34 true (.agg #[.int .i64 0,.bool false,.string ⟨#[]⟩,.slice none 0 0]) 4 56:=⟨by kernel_rfl,by kernel_rfl⟩
theorem ty36:IsTy Tryd.prog 36 false (.slice none 0 0) 1 24:=⟨by kernel_rfl,by kernel_rfl⟩
theorem ty39:IsTy Tryd.prog 39 false (.pointer none) 1 8:=⟨by kernel_rfl,by kernel_rfl⟩
theorem ty44:IsTy Tryd.prog 44 false (.slice none 0 0) 1 24:=⟨by kernel_rfl,by kernel_rfl⟩
theorem ty47:IsTy Tryd.prog 47 true (.agg #[.int .u8 0,.int .i64 0,.string ⟨#[]⟩,.string ⟨#[]⟩,.string ⟨#[]⟩,.int .i64 0,.int .u8 0]) 7 80:=⟨by kernel_rfl,by kernel_rfl⟩
theorem ty55:IsTy Tryd.prog 55 true (.agg #[.int .u8 0,.int .i64 0,.int .i64 0,.int .i64 0,.bool false,.string ⟨#[]⟩,.slice none 0 0]) 7 80:=⟨by kernel_rfl,by kernel_rfl⟩
theorem ty62:IsTy Tryd.prog 62 false (.slice none 0 0) 1 24:=⟨by kernel_rfl,by kernel_rfl⟩
theorem ty69:IsTy Tryd.prog 69 true (.agg #[.int .i64 0,.int .i64 0,.int .i64 0,.bool false,.string ⟨#[]⟩,.slice none 0 0,.int .i64 0,.int .i64 0]) 8 88:=⟨by kernel_rfl,by kernel_rfl⟩
theorem ty72:IsTy Tryd.prog 72 true (.agg #[.string ⟨#[]⟩,.string ⟨#[]⟩]) 2 32:=⟨by kernel_rfl,by kernel_rfl⟩
theorem ty81:IsTy Tryd.prog 81 false (.nilFunc) 1 8:=⟨by kernel_rfl,by kernel_rfl⟩
theorem ty82:IsTy Tryd.prog 82 false (.nilFunc) 1 8:=⟨by kernel_rfl,by kernel_rfl⟩
theorem ty90:IsTy Tryd.prog 90 false (.map none) 1 8:=⟨by kernel_rfl,by kernel_rfl⟩
theorem ty91:IsTy Tryd.prog 91 false (.map none) 1 8:=⟨by kernel_rfl,by kernel_rfl⟩
theorem ty92:IsTy Tryd.prog 92 false (.map none) 1 8:=⟨by kernel_rfl,by kernel_rfl⟩
theorem ty93:IsTy Tryd.prog 93 false (.slice none 0 0) 1 24:=⟨by kernel_rfl,by kernel_rfl⟩
theorem ty95:IsTy Tryd.prog 95 true (.agg #[.int .i64 0,.int .i64 0,.int .i64 0,.int .i64 0,.int .i64 0,.int .i64 0,.int .i64 0,.int .i64 0,.map none,.map none,.slice none 0 0,.map none,.int .i64 0,.int .i64 0]) 14 128:=⟨by kernel_rfl,by kernel_rfl⟩
theorem ty101:IsTy Tryd.prog 101 false (.nilFunc) 1 8:=⟨by kernel_rfl,by kernel_rfl⟩
theorem ty105:IsTy Tryd.prog 105 false (.pointer none) 1 8:=⟨by kernel_rfl,by kernel_rfl⟩
theorem ty107:IsTy Tryd.prog 107 true (.agg #[.slice none 0 0,.pointer none,.pointer none,.slice none 0 0,.slice none 0 0]) 5 88:=⟨by kernel_rfl,by kernel_rfl⟩
theorem ty112:IsTy Tryd.prog 112 true (.agg #[.int .i64 0,.int .i64 0]) 2 16:=⟨by kernel_rfl,by kernel_rfl⟩
theorem ty115:IsTy Tryd.prog 115 false (.slice none 0 0) 1 24:=⟨by kernel_rfl,by kernel_rfl⟩
theorem ty117:IsTy Tryd.prog 117 true (.agg #[.int .i64 0,.int .i64 0,.bool false,.string ⟨#[]⟩]) 4 40:=⟨by kernel_rfl,by kernel_rfl⟩
theorem ty119:IsTy Tryd.prog 119 true (.agg #[.slice none 0 0,.int .i64 0,.int .i64 0,.bool false,.string ⟨#[]⟩]) 5 64:=⟨by kernel_rfl,by kernel_rfl⟩
theorem ty122:IsTy Tryd.prog 122 true (.agg #[.int .u8 0,.int .i64 0]) 2 16:=⟨by kernel_rfl,by kernel_rfl⟩
theorem ty129:IsTy Tryd.prog 129 true (.agg #[.int .i64 0,.int .i64 0,.int .i64 0]) 3 24:=⟨by kernel_rfl,by kernel_rfl⟩
theorem ty130:IsTy Tryd.prog 130 true (.agg #[.int .i64 0,.int .i64 0,.int .i64 0,.int .i64 0,.int .i64 0,.int .i64 0,.int .i64 0,.int .i64 0,.int .i64 0,.int .i64 0,.int .i64 0,.int .i64 0,.int .i64 0,.int .i64 0,.int .i64 0,.int .i64 0,.int .i64 0,.int .i64 0,.int .i64 0,.int .i64 0,.int .i64 0,.int .i64 0,.int .i64 0,.int .i64 0]) 24 192:=⟨by kernel_rfl,by kernel_rfl⟩
theorem ty139:IsTy Tryd.prog 139 false (.nilFunc) 1 8:=⟨by kernel_rfl,by kernel_rfl⟩
theorem ty142:IsTy Tryd.prog 142 false (.slice none 0 0) 1 24:=⟨by kernel_rfl,by kernel_rfl⟩
theorem ty144:IsTy Tryd.prog 144 true (.agg #[.slice none 0 0,.slice none 0 0]) 2 48:=⟨by kernel_rfl,by kernel_rfl⟩
theorem ty157:IsTy Tryd.prog 157 true (.agg #[.int .i64 0,.int .i64 0,.int .i64 0,.bool false,.string ⟨#[]⟩,.slice none 0 0,.int .i64 0,.int .i64 0]) 8 88:=⟨by kernel_rfl,by kernel_rfl⟩
theorem ty161:IsTy Tryd.prog 161 true (.agg #[.int .i64 0,.int .i64 0]) 2 16:=⟨by kernel_rfl,by kernel_rfl⟩
theorem ty166:IsTy Tryd.prog 166 false (.slice none 0 0) 1 24:=⟨by kernel_rfl,by kernel_rfl⟩
theorem ty167:IsTy Tryd.prog 167 false (.slice none 0 0) 1 24:=⟨by kernel_rfl,by kernel_rfl⟩
theorem ty169:IsTy Tryd.prog 169 true (.agg #[.int .i64 0,.int .i64 0,.int .i64 0,.int .i64 0,.int .i64 0,.int .i64 0,.int .i64 0,.int .i64 0,.slice none 0 0,.slice none 0 0,.int .i64 0,.int .i64 0]) 12 128:=⟨by kernel_rfl,by kernel_rfl⟩
theorem ty172:IsTy Tryd.prog 172 true (.agg #[.int .i64 0,.int .i64 0,.int .u8 0,.int .i64 0]) 4 32:=⟨by kernel_rfl,by kernel_rfl⟩
theorem ty176:IsTy Tryd.prog 176 true (.agg #[.string ⟨#[]⟩,.slice none 0 0,.bool false,.int .i64 0,.int .i64 0,.bool false,.string ⟨#[]⟩]) 7 88:=⟨by kernel_rfl,by kernel_rfl⟩
theorem ty207:IsTy Tryd.prog 207 false (.slice none 0 0) 1 24:=⟨by kernel_rfl,by kernel_rfl⟩
theorem fn8:IsFn Tryd.prog 8:=⟨⟨_,Tryd.func8,by kernel_rfl,by kernel_rfl⟩⟩
theorem fn9:IsFn Tryd.prog 9:=⟨⟨_,Tryd.func9,by kernel_rfl,by kernel_rfl⟩⟩
theorem fn10:IsFn Tryd.prog 10:=⟨⟨_,Tryd.func10,by kernel_rfl,by kernel_rfl⟩⟩
theorem fn11:IsFn Tryd.prog 11:=⟨⟨_,Tryd.func11,by kernel_rfl,by kernel_rfl⟩⟩
theorem fn12:IsFn Tryd.prog 12:=⟨⟨_,Tryd.func12,by kernel_rfl,by kernel_rfl⟩⟩
theorem fn13:IsFn Tryd.prog 13:=⟨⟨_,Tryd.func13,by kernel_rfl,by kernel_rfl⟩⟩
theorem fn14:IsFn Tryd.prog 14:=⟨⟨_,Tryd.func14,by kernel_rfl,by kernel_rfl⟩⟩
theorem fn15:IsFn Tryd.prog 15:=⟨⟨_,Tryd.func15,by kernel_rfl,by kernel_rfl⟩⟩
theorem fn16:IsFn Tryd.prog 16:=⟨⟨_,Tryd.func16,by kernel_rfl,by kernel_rfl⟩⟩
theorem fn17:IsFn Tryd.prog 17:=⟨⟨_,Tryd.func17,by kernel_rfl,by kernel_rfl⟩⟩
theorem fn18:IsFn Tryd.prog 18:=⟨⟨_,Tryd.func18,by kernel_rfl,by kernel_rfl⟩⟩
theorem fn20:IsFn Tryd.prog 20:=⟨⟨_,Tryd.func20,by kernel_rfl,by kernel_rfl⟩⟩
theorem fn21:IsFn Tryd.prog 21:=⟨⟨_,Tryd.func21,by kernel_rfl,by kernel_rfl⟩⟩
theorem fn22:IsFn Tryd.prog 22:=⟨⟨_,Tryd.func22,by kernel_rfl,by kernel_rfl⟩⟩
theorem fn25:IsFn Tryd.prog 25:=⟨⟨_,Tryd.func25,by kernel_rfl,by kernel_rfl⟩⟩
theorem fn26:IsFn Tryd.prog 26:=⟨⟨_,Tryd.func26,by kernel_rfl,by kernel_rfl⟩⟩
theorem fn27:IsFn Tryd.prog 27:=⟨⟨_,Tryd.func27,by kernel_rfl,by kernel_rfl⟩⟩
theorem fn28:IsFn Tryd.prog 28:=⟨⟨_,Tryd.func28,by kernel_rfl,by kernel_rfl⟩⟩
theorem fn29:IsFn Tryd.prog 29:=⟨⟨_,Tryd.func29,by kernel_rfl,by kernel_rfl⟩⟩
theorem fn30:IsFn Tryd.prog 30:=⟨⟨_,Tryd.func30,by kernel_rfl,by kernel_rfl⟩⟩
theorem fn31:IsFn Tryd.prog 31:=⟨⟨_,Tryd.func31,by kernel_rfl,by kernel_rfl⟩⟩
theorem fn32:IsFn Tryd.prog 32:=⟨⟨_,Tryd.func32,by kernel_rfl,by kernel_rfl⟩⟩
theorem fn33:IsFn Tryd.prog 33:=⟨⟨_,Tryd.func33,by kernel_rfl,by kernel_rfl⟩⟩
theorem fn34:IsFn Tryd.prog 34:=⟨⟨_,Tryd.func34,by kernel_rfl,by kernel_rfl⟩⟩
theorem fn35:IsFn Tryd.prog 35:=⟨⟨_,Tryd.func35,by kernel_rfl,by kernel_rfl⟩⟩
theorem fn36:IsFn Tryd.prog 36:=⟨⟨_,Tryd.func36,by kernel_rfl,by kernel_rfl⟩⟩
theorem fn37:IsFn Tryd.prog 37:=⟨⟨_,Tryd.func37,by kernel_rfl,by kernel_rfl⟩⟩
theorem fn38:IsFn Tryd.prog 38:=⟨⟨_,Tryd.func38,by kernel_rfl,by kernel_rfl⟩⟩
theorem fn39:IsFn Tryd.prog 39:=⟨⟨_,Tryd.func39,by kernel_rfl,by kernel_rfl⟩⟩
theorem fn40:IsFn Tryd.prog 40:=⟨⟨_,Tryd.func40,by kernel_rfl,by kernel_rfl⟩⟩
theorem fn41:IsFn Tryd.prog 41:=⟨⟨_,Tryd.func41,by kernel_rfl,by kernel_rfl⟩⟩
theorem fn42:IsFn Tryd.prog 42:=⟨⟨_,Tryd.func42,by kernel_rfl,by kernel_rfl⟩⟩
theorem fn43:IsFn Tryd.prog 43:=⟨⟨_,Tryd.func43,by kernel_rfl,by kernel_rfl⟩⟩
theorem fn44:IsFn Tryd.prog 44:=⟨⟨_,Tryd.func44,by kernel_rfl,by kernel_rfl⟩⟩
theorem fn45:IsFn Tryd.prog 45:=⟨⟨_,Tryd.func45,by kernel_rfl,by kernel_rfl⟩⟩
theorem fn46:IsFn Tryd.prog 46:=⟨⟨_,Tryd.func46,by kernel_rfl,by kernel_rfl⟩⟩
theorem fn47:IsFn Tryd.prog 47:=⟨⟨_,Tryd.func47,by kernel_rfl,by kernel_rfl⟩⟩
theorem fn48:IsFn Tryd.prog 48:=⟨⟨_,Tryd.func48,by kernel_rfl,by kernel_rfl⟩⟩
theorem fn49:IsFn Tryd.prog 49:=⟨⟨_,Tryd.func49,by kernel_rfl,by kernel_rfl⟩⟩
theorem fn50:IsFn Tryd.prog 50:=⟨⟨_,Tryd.func50,by kernel_rfl,by kernel_rfl⟩⟩
theorem fn51:IsFn Tryd.prog 51:=⟨⟨_,Tryd.func51,by kernel_rfl,by kernel_rfl⟩⟩
theorem fn52:IsFn Tryd.prog 52:=⟨⟨_,Tryd.func52,by kernel_rfl,by kernel_rfl⟩⟩
theorem fn53:IsFn Tryd.prog 53:=⟨⟨_,Tryd.func53,by kernel_rfl,by kernel_rfl⟩⟩
theorem fn54:IsFn Tryd.prog 54:=⟨⟨_,Tryd.func54,by kernel_rfl,by kernel_rfl⟩⟩
theorem fn55:IsFn Tryd.prog 55:=⟨⟨_,Tryd.func55,by kernel_rfl,by kernel_rfl⟩⟩
theorem fn56:IsFn Tryd.prog 56:=⟨⟨_,Tryd.func56,by kernel_rfl,by kernel_rfl⟩⟩
theorem fn57:IsFn Tryd.prog 57:=⟨⟨_,Tryd.func57,by kernel_rfl,by kernel_rfl⟩⟩
theorem fn58:IsFn Tryd.prog 58:=⟨⟨_,Tryd.func58,by kernel_rfl,by kernel_rfl⟩⟩
theorem fn59:IsFn Tryd.prog 59:=⟨⟨_,Tryd.func59,by kernel_rfl,by kernel_rfl⟩⟩
theorem fn60:IsFn Tryd.prog 60:=⟨⟨_,Tryd.func60,by kernel_rfl,by kernel_rfl⟩⟩
theorem fn61:IsFn Tryd.prog 61:=⟨⟨_,Tryd.func61,by kernel_rfl,by kernel_rfl⟩⟩
theorem fn62:IsFn Tryd.prog 62:=⟨⟨_,Tryd.func62,by kernel_rfl,by kernel_rfl⟩⟩
theorem fn63:IsFn Tryd.prog 63:=⟨⟨_,Tryd.func63,by kernel_rfl,by kernel_rfl⟩⟩
theorem fn64:IsFn Tryd.prog 64:=⟨⟨_,Tryd.func64,by kernel_rfl,by kernel_rfl⟩⟩
theorem fn65:IsFn Tryd.prog 65:=⟨⟨_,Tryd.func65,by kernel_rfl,by kernel_rfl⟩⟩
theorem fn66:IsFn Tryd.prog 66:=⟨⟨_,Tryd.func66,by kernel_rfl,by kernel_rfl⟩⟩
theorem fn67:IsFn Tryd.prog 67:=⟨⟨_,Tryd.func67,by kernel_rfl,by kernel_rfl⟩⟩
theorem fn68:IsFn Tryd.prog 68:=⟨⟨_,Tryd.func68,by kernel_rfl,by kernel_rfl⟩⟩
theorem fn69:IsFn Tryd.prog 69:=⟨⟨_,Tryd.func69,by kernel_rfl,by kernel_rfl⟩⟩
theorem fn70:IsFn Tryd.prog 70:=⟨⟨_,Tryd.func70,by kernel_rfl,by kernel_rfl⟩⟩
theorem fn73:IsFn Tryd.prog 73:=⟨⟨_,Tryd.func73,by kernel_rfl,by kernel_rfl⟩⟩
theorem fn74:IsFn Tryd.prog 74:=⟨⟨_,Tryd.func74,by kernel_rfl,by kernel_rfl⟩⟩
theorem fn75:IsFn Tryd.prog 75:=⟨⟨_,Tryd.func75,by kernel_rfl,by kernel_rfl⟩⟩
theorem fn76:IsFn Tryd.prog 76:=⟨⟨_,Tryd.func76,by kernel_rfl,by kernel_rfl⟩⟩
theorem fn77:IsFn Tryd.prog 77:=⟨⟨_,Tryd.func77,by kernel_rfl,by kernel_rfl⟩⟩
theorem fn78:IsFn Tryd.prog 78:=⟨⟨_,Tryd.func78,by kernel_rfl,by kernel_rfl⟩⟩
theorem fn79:IsFn Tryd.prog 79:=⟨⟨_,Tryd.func79,by kernel_rfl,by kernel_rfl⟩⟩
theorem fn80:IsFn Tryd.prog 80:=⟨⟨_,Tryd.func80,by kernel_rfl,by kernel_rfl⟩⟩
theorem fn81:IsFn Tryd.prog 81:=⟨⟨_,Tryd.func81,by kernel_rfl,by kernel_rfl⟩⟩
theorem fn82:IsFn Tryd.prog 82:=⟨⟨_,Tryd.func82,by kernel_rfl,by kernel_rfl⟩⟩
theorem fn83:IsFn Tryd.prog 83:=⟨⟨_,Tryd.func83,by kernel_rfl,by kernel_rfl⟩⟩
theorem fn84:IsFn Tryd.prog 84:=⟨⟨_,Tryd.func84,by kernel_rfl,by kernel_rfl⟩⟩
theorem fn85:IsFn Tryd.prog 85:=⟨⟨_,Tryd.func85,by kernel_rfl,by kernel_rfl⟩⟩
theorem fn86:IsFn Tryd.prog 86:=⟨⟨_,Tryd.func86,by kernel_rfl,by kernel_rfl⟩⟩
theorem fn87:IsFn Tryd.prog 87:=⟨⟨_,Tryd.func87,by kernel_rfl,by kernel_rfl⟩⟩
theorem fn88:IsFn Tryd.prog 88:=⟨⟨_,Tryd.func88,by kernel_rfl,by kernel_rfl⟩⟩
theorem fn89:IsFn Tryd.prog 89:=⟨⟨_,Tryd.func89,by kernel_rfl,by kernel_rfl⟩⟩
theorem fn90:IsFn Tryd.prog 90:=⟨⟨_,Tryd.func90,by kernel_rfl,by kernel_rfl⟩⟩
theorem fn91:IsFn Tryd.prog 91:=⟨⟨_,Tryd.func91,by kernel_rfl,by kernel_rfl⟩⟩
theorem fn92:IsFn Tryd.prog 92:=⟨⟨_,Tryd.func92,by kernel_rfl,by kernel_rfl⟩⟩
theorem fn93:IsFn Tryd.prog 93:=⟨⟨_,Tryd.func93,by kernel_rfl,by kernel_rfl⟩⟩
theorem fn94:IsFn Tryd.prog 94:=⟨⟨_,Tryd.func94,by kernel_rfl,by kernel_rfl⟩⟩
theorem fn95:IsFn Tryd.prog 95:=⟨⟨_,Tryd.func95,by kernel_rfl,by kernel_rfl⟩⟩
theorem fn96:IsFn Tryd.prog 96:=⟨⟨_,Tryd.func96,by kernel_rfl,by kernel_rfl⟩⟩
theorem fn97:IsFn Tryd.prog 97:=⟨⟨_,Tryd.func97,by kernel_rfl,by kernel_rfl⟩⟩
theorem fn98:IsFn Tryd.prog 98:=⟨⟨_,Tryd.func98,by kernel_rfl,by kernel_rfl⟩⟩
theorem fn99:IsFn Tryd.prog 99:=⟨⟨_,Tryd.func99,by kernel_rfl,by kernel_rfl⟩⟩
theorem fn100:IsFn Tryd.prog 100:=⟨⟨_,Tryd.func100,by kernel_rfl,by kernel_rfl⟩⟩
theorem fn101:IsFn Tryd.prog 101:=⟨⟨_,Tryd.func101,by kernel_rfl,by kernel_rfl⟩⟩
theorem fn102:IsFn Tryd.prog 102:=⟨⟨_,Tryd.func102,by kernel_rfl,by kernel_rfl⟩⟩
theorem fn103:IsFn Tryd.prog 103:=⟨⟨_,Tryd.func103,by kernel_rfl,by kernel_rfl⟩⟩
theorem fn120:IsFn Tryd.prog 120:=⟨⟨_,Tryd.func120,by kernel_rfl,by kernel_rfl⟩⟩
theorem fn122:IsFn Tryd.prog 122:=⟨⟨_,Tryd.func122,by kernel_rfl,by kernel_rfl⟩⟩
theorem fn123:IsFn Tryd.prog 123:=⟨⟨_,Tryd.func123,by kernel_rfl,by kernel_rfl⟩⟩
theorem fn124:IsFn Tryd.prog 124:=⟨⟨_,Tryd.func124,by kernel_rfl,by kernel_rfl⟩⟩
theorem fn125:IsFn Tryd.prog 125:=⟨⟨_,Tryd.func125,by kernel_rfl,by kernel_rfl⟩⟩
theorem fn126:IsFn Tryd.prog 126:=⟨⟨_,Tryd.func126,by kernel_rfl,by kernel_rfl⟩⟩
theorem fn127:IsFn Tryd.prog 127:=⟨⟨_,Tryd.func127,by kernel_rfl,by kernel_rfl⟩⟩
theorem fn128:IsFn Tryd.prog 128:=⟨⟨_,Tryd.func128,by kernel_rfl,by kernel_rfl⟩⟩
theorem fn129:IsFn Tryd.prog 129:=⟨⟨_,Tryd.func129,by kernel_rfl,by kernel_rfl⟩⟩
theorem fn130:IsFn Tryd.prog 130:=⟨⟨_,Tryd.func130,by kernel_rfl,by kernel_rfl⟩⟩
theorem fn131:IsFn Tryd.prog 131:=⟨⟨_,Tryd.func131,by kernel_rfl,by kernel_rfl⟩⟩
theorem fn132:IsFn Tryd.prog 132:=⟨⟨_,Tryd.func132,by kernel_rfl,by kernel_rfl⟩⟩
theorem fn133:IsFn Tryd.prog 133:=⟨⟨_,Tryd.func133,by kernel_rfl,by kernel_rfl⟩⟩
theorem fn134:IsFn Tryd.prog 134:=⟨⟨_,Tryd.func134,by kernel_rfl,by kernel_rfl⟩⟩
theorem fn135:IsFn Tryd.prog 135:=⟨⟨_,Tryd.func135,by kernel_rfl,by kernel_rfl⟩⟩
theorem fn136:IsFn Tryd.prog 136:=⟨⟨_,Tryd.func136,by kernel_rfl,by kernel_rfl⟩⟩
theorem fn137:IsFn Tryd.prog 137:=⟨⟨_,Tryd.func137,by kernel_rfl,by kernel_rfl⟩⟩
theorem fn138:IsFn Tryd.prog 138:=⟨⟨_,Tryd.func138,by kernel_rfl,by kernel_rfl⟩⟩
theorem fn139:IsFn Tryd.prog 139:=⟨⟨_,Tryd.func139,by kernel_rfl,by kernel_rfl⟩⟩
theorem fn140:IsFn Tryd.prog 140:=⟨⟨_,Tryd.func140,by kernel_rfl,by kernel_rfl⟩⟩
theorem fn141:IsFn Tryd.prog 141:=⟨⟨_,Tryd.func141,by kernel_rfl,by kernel_rfl⟩⟩
theorem fn142:IsFn Tryd.prog 142:=⟨⟨_,Tryd.func142,by kernel_rfl,by kernel_rfl⟩⟩
theorem fn143:IsFn Tryd.prog 143:=⟨⟨_,Tryd.func143,by kernel_rfl,by kernel_rfl⟩⟩
theorem fn144:IsFn Tryd.prog 144:=⟨⟨_,Tryd.func144,by kernel_rfl,by kernel_rfl⟩⟩
theorem fn145:IsFn Tryd.prog 145:=⟨⟨_,Tryd.func145,by kernel_rfl,by kernel_rfl⟩⟩
theorem fn146:IsFn Tryd.prog 146:=⟨⟨_,Tryd.func146,by kernel_rfl,by kernel_rfl⟩⟩
theorem fn147:IsFn Tryd.prog 147:=⟨⟨_,Tryd.func147,by kernel_rfl,by kernel_rfl⟩⟩
theorem fn148:IsFn Tryd.prog 148:=⟨⟨_,Tryd.func148,by kernel_rfl,by kernel_rfl⟩⟩
theorem fn149:IsFn Tryd.prog 149:=⟨⟨_,Tryd.func149,by kernel_rfl,by kernel_rfl⟩⟩
theorem fn150:IsFn Tryd.prog 150:=⟨⟨_,Tryd.func150,by kernel_rfl,by kernel_rfl⟩⟩
theorem fn151:IsFn Tryd.prog 151:=⟨⟨_,Tryd.func151,by kernel_rfl,by kernel_rfl⟩⟩
theorem fn152:IsFn Tryd.prog 152:=⟨⟨_,Tryd.func152,by kernel_rfl,by kernel_rfl⟩⟩
theorem fn154:IsFn Tryd.prog 154:=⟨⟨_,Tryd.func154,by kernel_rfl,by kernel_rfl⟩⟩
theorem fn155:IsFn Tryd.prog 155:=⟨⟨_,Tryd.func155,by kernel_rfl,by kernel_rfl⟩⟩
theorem fn165:IsFn Tryd.prog 165:=⟨⟨_,Tryd.func165,by kernel_rfl,by kernel_rfl⟩⟩
theorem fn173:IsFn Tryd.prog 173:=⟨⟨_,Tryd.func173,by kernel_rfl,by kernel_rfl⟩⟩
theorem fn174:IsFn Tryd.prog 174:=⟨⟨_,Tryd.func174,by kernel_rfl,by kernel_rfl⟩⟩
theorem fn175:IsFn Tryd.prog 175:=⟨⟨_,Tryd.func175,by kernel_rfl,by kernel_rfl⟩⟩
theorem fn176:IsFn Tryd.prog 176:=⟨⟨_,Tryd.func176,by kernel_rfl,by kernel_rfl⟩⟩
theorem fn177:IsFn Tryd.prog 177:=⟨⟨_,Tryd.func177,by kernel_rfl,by kernel_rfl⟩⟩
theorem fn178:IsFn Tryd.prog 178:=⟨⟨_,Tryd.func178,by kernel_rfl,by kernel_rfl⟩⟩
theorem fn179:IsFn Tryd.prog 179:=⟨⟨_,Tryd.func179,by kernel_rfl,by kernel_rfl⟩⟩
theorem cmp166:IsCmp Tryd.prog 166:=⟨_,Tryd.func166,by kernel_rfl,by kernel_rfl,by kernel_rfl,by kernel_rfl⟩
theorem mixed:Tryd.prog.follows .mixedOrders=true:=by kernel_rfl
theorem gd72:Tryd.prog.eqGuardType Tryd.prog.depth 72=false:=by kernel_rfl
theorem eg72 (x y:Operand) (a b:Array Value) {w:World}:(eqGuard .eql 72 x y (.agg a) (.agg b)).run Tryd.prog w=.ok () w:=by simp [eqGuard,gd72]
theorem en72 (x y:Operand) (a b:Array Value) {w:World}:(eqGuard .neq 72 x y (.agg a) (.agg b)).run Tryd.prog w=.ok () w:=by simp [eqGuard,gd72]
theorem eq72 (w:World) (x0:Str) (x1:Str) (y0:Str) (y1:Str):(Op.equal 72 (.agg #[.string (bs x0),.string (bs x1)]) (.agg #[.string (bs y0),.string (bs y1)])).run Tryd.prog w=.ok ((x0==y0)&&(x1==y1)) w:=QBy (d:=9999) Tryd.underlying72 (by kernel_rfl) (KD rfl (V1 ty9 rfl) (V1 ty9 rfl) (QBw (d:=9998) Tryd.underlying9) (qf rfl (V1 ty9 rfl) (V1 ty9 rfl) (QBw (d:=9998) Tryd.underlying9) ))
theorem gd112:Tryd.prog.eqGuardType Tryd.prog.depth 112=false:=by kernel_rfl
theorem eg112 (x y:Operand) (a b:Array Value) {w:World}:(eqGuard .eql 112 x y (.agg a) (.agg b)).run Tryd.prog w=.ok () w:=by simp [eqGuard,gd112]
theorem en112 (x y:Operand) (a b:Array Value) {w:World}:(eqGuard .neq 112 x y (.agg a) (.agg b)).run Tryd.prog w=.ok () w:=by simp [eqGuard,gd112]
theorem eq112 (w:World) (x0:Int) (x1:Int) (y0:Int) (y1:Int):(Op.equal 112 (.agg #[.int .i64 x0,.int .i64 x1]) (.agg #[.int .i64 y0,.int .i64 y1])).run Tryd.prog w=.ok ((x0==y0)&&(x1==y1)) w:=QBy (d:=9999) Tryd.underlying112 (by kernel_rfl) (KD rfl (V1 ty3 rfl) (V1 ty3 rfl) (QBx (d:=9998) Tryd.underlying3) (qf rfl (V1 ty3 rfl) (V1 ty3 rfl) (QBx (d:=9998) Tryd.underlying3) ))
end Go.Proofs.YtnjbjpaiepefoaaDoor
