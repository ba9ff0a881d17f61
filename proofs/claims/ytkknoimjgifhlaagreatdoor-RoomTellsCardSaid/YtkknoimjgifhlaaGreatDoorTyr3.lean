import Derived.Test.YtkknoimjgifhlaaGreatDoorProg
import Derived.Test.YtkknoimjgifhlaaGreatDoorSlZ
import Derived.KernelRfl
import Derived.Test.YtkknoimjgifhlaaGreatDoorSlT
import Derived.Test.YtkknoimjgifhlaaGreatDoorSort
import Derived.Test.YtkknoimjgifhlaaGreatDoorSlZ
namespace Go.Proofs.YtkknoimjgifhlaaGreatDoor
open Go
set_option linter.unusedVariables false
set_option linter.unusedSimpArgs false
theorem ty3:IsTy Tryz.prog 3 false (.int .i64 0) 1 8:=⟨by kernel_rfl,by kernel_rfl⟩
theorem ty4:IsTy Tryz.prog 4 false (.bool false) 1 1:=⟨by kernel_rfl,by kernel_rfl⟩
theorem ty5:IsTy Tryz.prog 5 false (.int .u8 0) 1 1:=⟨by kernel_rfl,by kernel_rfl⟩
theorem ty9:IsTy Tryz.prog 9 false (.string ⟨#[]⟩) 1 16:=⟨by kernel_rfl,by kernel_rfl⟩
theorem ty23:IsTy Tryz.prog 23 true (.agg #[.int .i64 0,.int .i64 0,.int .i64 0,.int .i64 0,.int .i64 0,.int .i64 0,.int .i64 0,.int .i64 0]) 8 64:=⟨by kernel_rfl,by kernel_rfl⟩
theorem ty24:IsTy Tryz.prog 24 false (.slice none 0 0) 1 24:=⟨by kernel_rfl,by kernel_rfl⟩
theorem ty25:IsTy Tryz.prog 25 false (.slice none 0 0) 1 24:=⟨by kernel_rfl,by kernel_rfl⟩
theorem ty30:IsTy Tryz.prog 30 false (.int .i64 0) 1 8:=⟨by kernel_rfl,by kernel_rfl⟩
theorem ty36:IsTy Tryz.prog 36 false (.slice none 0 0) 1 24:=⟨by kernel_rfl,by kernel_rfl⟩
theorem ty38:IsTy Tryz.prog 38 true (.agg #[.int .i64 0,.bool false,.string ⟨#[]⟩,.slice none 0 0]) 4 56:=⟨by kernel_rfl,by kernel_rfl⟩
theorem ty40:IsTy Tryz.prog 40 true (.agg #[.int .u8 0,.int .i64 0,.int .i64 0,.int .i64 0,.bool false,.string ⟨#[]⟩,.slice none 0 0]) 7 80:=⟨by kernel_rfl,by kernel_rfl⟩
theorem ty41:IsTy Tryz.prog 41 false (.slice none 0 0) 1 24:=⟨by kernel_rfl,by kernel_rfl⟩
theorem ty43:IsTy Tryz.prog 43 true (.agg #[.int .u8 0,.int .i64 0,.string ⟨#[]⟩,.string ⟨#[]⟩,.string ⟨#[]⟩,.int .i64 0,.int .u8 0]) 7 80:=⟨by kernel_rfl,by kernel_rfl⟩
theorem ty48:IsTy Tryz.prog 48 true (.agg #[.int .i64 0,.int .i64 0,.int .i64 0]) 3 24:=⟨by kernel_rfl,by kernel_rfl⟩
theorem ty49:IsTy Tryz.prog 49 true (.agg #[.int .i64 0,.int .i64 0,.int .i64 0,.int .i64 0,.int .i64 0,.int .i64 0]) 6 48:=⟨by kernel_rfl,by kernel_rfl⟩
theorem ty50:IsTy Tryz.prog 50 false (.pointer none) 1 8:=⟨by kernel_rfl,by kernel_rfl⟩
theorem ty54:IsTy Tryz.prog 54 false (.slice none 0 0) 1 24:=⟨by kernel_rfl,by kernel_rfl⟩
theorem ty58:IsTy Tryz.prog 58 false (.slice none 0 0) 1 24:=⟨by kernel_rfl,by kernel_rfl⟩
theorem ty61:IsTy Tryz.prog 61 true (.agg #[.int .i64 0,.int .i64 0,.int .i64 0,.bool false,.string ⟨#[]⟩,.slice none 0 0,.int .i64 0,.int .i64 0]) 8 88:=⟨by kernel_rfl,by kernel_rfl⟩
theorem ty66:IsTy Tryz.prog 66 false (.slice none 0 0) 1 24:=⟨by kernel_rfl,by kernel_rfl⟩
theorem ty67:IsTy Tryz.prog 67 false (.slice none 0 0) 1 24:=⟨by kernel_rfl,by kernel_rfl⟩
theorem ty69:IsTy Tryz.prog 69 true (.agg #[.int .i64 0,.int .i64 0,.int .i64 0,.int .i64 0,.int .i64 0,.int .i64 0,.int .i64 0,.int .i64 0,.slice none 0 0,.slice none 0 0,.int .i64 0,.int .i64 0]) 12 128:=⟨by kernel_rfl,by kernel_rfl⟩
theorem ty74:IsTy Tryz.prog 74 true (.agg #[.int .i64 0,.int .i64 0,.int .i64 0,.bool false,.string ⟨#[]⟩,.slice none 0 0,.int .i64 0,.int .i64 0]) 8 88:=⟨by kernel_rfl,by kernel_rfl⟩
theorem ty76:IsTy Tryz.prog 76 true (.agg #[.int .i64 0,.int .i64 0,.int .i64 0]) 3 24:=⟨by kernel_rfl,by kernel_rfl⟩
theorem ty77:IsTy Tryz.prog 77 true (.agg #[.int .i64 0,.int .i64 0,.int .i64 0,.int .i64 0,.int .i64 0,.int .i64 0,.int .i64 0,.int .i64 0,.int .i64 0,.int .i64 0,.int .i64 0,.int .i64 0,.int .i64 0,.int .i64 0,.int .i64 0,.int .i64 0,.int .i64 0,.int .i64 0,.int .i64 0,.int .i64 0,.int .i64 0,.int .i64 0,.int .i64 0,.int .i64 0]) 24 192:=⟨by kernel_rfl,by kernel_rfl⟩
theorem ty82:IsTy Tryz.prog 82 false (.pointer none) 1 8:=⟨by kernel_rfl,by kernel_rfl⟩
theorem ty83:IsTy Tryz.prog 83 false (.slice none 0 0) 1 24:=⟨by kernel_rfl,by kernel_rfl⟩
theorem ty85:IsTy Tryz.prog 85 true (.agg #[.slice none 0 0,.pointer none,.pointer none,.slice none 0 0,.slice none 0 0]) 5 88:=⟨by kernel_rfl,by kernel_rfl⟩
theorem ty86:IsTy Tryz.prog 86 false (.slice none 0 0) 1 24:=⟨by kernel_rfl,by kernel_rfl⟩
theorem ty88:IsTy Tryz.prog 88 true (.agg #[.int .i64 0,.int .i64 0,.bool false,.string ⟨#[]⟩]) 4 40:=⟨by kernel_rfl,by kernel_rfl⟩
theorem ty90:IsTy Tryz.prog 90 true (.agg #[.slice none 0 0,.int .i64 0,.int .i64 0,.bool false,.string ⟨#[]⟩]) 5 64:=⟨by kernel_rfl,by kernel_rfl⟩
theorem ty91:IsTy Tryz.prog 91 false (.map none) 1 8:=⟨by kernel_rfl,by kernel_rfl⟩
theorem ty92:IsTy Tryz.prog 92 false (.map none) 1 8:=⟨by kernel_rfl,by kernel_rfl⟩
theorem ty93:IsTy Tryz.prog 93 false (.slice none 0 0) 1 24:=⟨by kernel_rfl,by kernel_rfl⟩
theorem ty94:IsTy Tryz.prog 94 false (.map none) 1 8:=⟨by kernel_rfl,by kernel_rfl⟩
theorem ty96:IsTy Tryz.prog 96 true (.agg #[.int .i64 0,.int .i64 0,.int .i64 0,.int .i64 0,.int .i64 0,.int .i64 0,.int .i64 0,.int .i64 0,.map none,.map none,.slice none 0 0,.map none,.int .i64 0,.int .i64 0]) 14 128:=⟨by kernel_rfl,by kernel_rfl⟩
theorem ty105:IsTy Tryz.prog 105 false (.nilFunc) 1 8:=⟨by kernel_rfl,by kernel_rfl⟩
theorem ty110:IsTy Tryz.prog 110 true (.agg #[.string ⟨#[]⟩,.slice none 0 0,.bool false,.int .i64 0,.int .i64 0,.bool false,.string ⟨#[]⟩]) 7 88:=⟨by kernel_rfl,by kernel_rfl⟩
theorem ty112:IsTy Tryz.prog 112 true (.agg #[.int .i64 0,.int .i64 0,.int .u8 0,.int .i64 0]) 4 32:=⟨by kernel_rfl,by kernel_rfl⟩
theorem ty119:IsTy Tryz.prog 119 true (.agg #[.string ⟨#[]⟩,.string ⟨#[]⟩]) 2 32:=⟨by kernel_rfl,by kernel_rfl⟩
theorem ty132:IsTy Tryz.prog 132 true (.agg #[.int .i64 0,.int .i64 0]) 2 16:=⟨by kernel_rfl,by kernel_rfl⟩
theorem ty134:IsTy Tryz.prog 134 true (.agg #[.int .u8 0,.int .i64 0]) 2 16:=⟨by kernel_rfl,by kernel_rfl⟩
theorem ty149:IsTy Tryz.prog 149 false (.nilFunc) 1 8:=⟨by kernel_rfl,by kernel_rfl⟩
theorem ty160:IsTy Tryz.prog 160 false (.slice none 0 0) 1 24:=⟨by kernel_rfl,by kernel_rfl⟩
theorem ty162:IsTy Tryz.prog 162 true (.agg #[.slice none 0 0,.slice none 0 0]) 2 48:=⟨by kernel_rfl,by kernel_rfl⟩
theorem ty165:IsTy Tryz.prog 165 true (.agg #[.int .i64 0,.int .i64 0]) 2 16:=⟨by kernel_rfl,by kernel_rfl⟩
theorem fn4:IsFn Tryz.prog 4:=⟨⟨_,Tryz.func4,by kernel_rfl,by kernel_rfl⟩⟩
theorem fn5:IsFn Tryz.prog 5:=⟨⟨_,Tryz.func5,by kernel_rfl,by kernel_rfl⟩⟩
theorem fn6:IsFn Tryz.prog 6:=⟨⟨_,Tryz.func6,by kernel_rfl,by kernel_rfl⟩⟩
theorem fn7:IsFn Tryz.prog 7:=⟨⟨_,Tryz.func7,by kernel_rfl,by kernel_rfl⟩⟩
theorem fn8:IsFn Tryz.prog 8:=⟨⟨_,Tryz.func8,by kernel_rfl,by kernel_rfl⟩⟩
theorem fn9:IsFn Tryz.prog 9:=⟨⟨_,Tryz.func9,by kernel_rfl,by kernel_rfl⟩⟩
theorem fn10:IsFn Tryz.prog 10:=⟨⟨_,Tryz.func10,by kernel_rfl,by kernel_rfl⟩⟩
theorem fn11:IsFn Tryz.prog 11:=⟨⟨_,Tryz.func11,by kernel_rfl,by kernel_rfl⟩⟩
theorem fn12:IsFn Tryz.prog 12:=⟨⟨_,Tryz.func12,by kernel_rfl,by kernel_rfl⟩⟩
theorem fn13:IsFn Tryz.prog 13:=⟨⟨_,Tryz.func13,by kernel_rfl,by kernel_rfl⟩⟩
theorem fn14:IsFn Tryz.prog 14:=⟨⟨_,Tryz.func14,by kernel_rfl,by kernel_rfl⟩⟩
theorem fn15:IsFn Tryz.prog 15:=⟨⟨_,Tryz.func15,by kernel_rfl,by kernel_rfl⟩⟩
theorem fn16:IsFn Tryz.prog 16:=⟨⟨_,Tryz.func16,by kernel_rfl,by kernel_rfl⟩⟩
theorem fn17:IsFn Tryz.prog 17:=⟨⟨_,Tryz.func17,by kernel_rfl,by kernel_rfl⟩⟩
theorem fn18:IsFn Tryz.prog 18:=⟨⟨_,Tryz.func18,by kernel_rfl,by kernel_rfl⟩⟩
theorem fn19:IsFn Tryz.prog 19:=⟨⟨_,Tryz.func19,by kernel_rfl,by kernel_rfl⟩⟩
theorem fn20:IsFn Tryz.prog 20:=⟨⟨_,Tryz.func20,by kernel_rfl,by kernel_rfl⟩⟩
theorem fn21:IsFn Tryz.prog 21:=⟨⟨_,Tryz.func21,by kernel_rfl,by kernel_rfl⟩⟩
theorem fn22:IsFn Tryz.prog 22:=⟨⟨_,Tryz.func22,by kernel_rfl,by kernel_rfl⟩⟩
theorem fn23:IsFn Tryz.prog 23:=⟨⟨_,Tryz.func23,by kernel_rfl,by kernel_rfl⟩⟩
theorem fn24:IsFn Tryz.prog 24:=⟨⟨_,Tryz.func24,by kernel_rfl,by kernel_rfl⟩⟩
theorem fn25:IsFn Tryz.prog 25:=⟨⟨_,Tryz.func25,by kernel_rfl,by kernel_rfl⟩⟩
theorem fn26:IsFn Tryz.prog 26:=⟨⟨_,Tryz.func26,by kernel_rfl,by kernel_rfl⟩⟩
theorem fn27:IsFn Tryz.prog 27:=⟨⟨_,Tryz.func27,by kernel_rfl,by kernel_rfl⟩⟩
theorem fn28:IsFn Tryz.prog 28:=⟨⟨_,Tryz.func28,by kernel_rfl,by kernel_rfl⟩⟩
theorem fn29:IsFn Tryz.prog 29:=⟨⟨_,Tryz.func29,by kernel_rfl,by kernel_rfl⟩⟩
theorem fn30:IsFn Tryz.prog 30:=⟨⟨_,Tryz.func30,by kernel_rfl,by kernel_rfl⟩⟩
theorem fn31:IsFn Tryz.prog 31:=⟨⟨_,Tryz.func31,by kernel_rfl,by kernel_rfl⟩⟩
theorem fn32:IsFn Tryz.prog 32:=⟨⟨_,Tryz.func32,by kernel_rfl,by kernel_rfl⟩⟩
theorem fn33:IsFn Tryz.prog 33:=⟨⟨_,Tryz.func33,by kernel_rfl,by kernel_rfl⟩⟩
theorem fn34:IsFn Tryz.prog 34:=⟨⟨_,Tryz.func34,by kernel_rfl,by kernel_rfl⟩⟩
theorem fn35:IsFn Tryz.prog 35:=⟨⟨_,Tryz.func35,by kernel_rfl,by kernel_rfl⟩⟩
theorem fn36:IsFn Tryz.prog 36:=⟨⟨_,Tryz.func36,by kernel_rfl,by kernel_rfl⟩⟩
theorem fn37:IsFn Tryz.prog 37:=⟨⟨_,Tryz.func37,by kernel_rfl,by kernel_rfl⟩⟩
theorem fn38:IsFn Tryz.prog 38:=⟨⟨_,Tryz.func38,by kernel_rfl,by kernel_rfl⟩⟩
theorem fn39:IsFn Tryz.prog 39:=⟨⟨_,Tryz.func39,by kernel_rfl,by kernel_rfl⟩⟩
theorem fn40:IsFn Tryz.prog 40:=⟨⟨_,Tryz.func40,by kernel_rfl,by kernel_rfl⟩⟩
theorem fn41:IsFn Tryz.prog 41:=⟨⟨_,Tryz.func41,by kernel_rfl,by kernel_rfl⟩⟩
theorem fn42:IsFn Tryz.prog 42:=⟨⟨_,Tryz.func42,by kernel_rfl,by kernel_rfl⟩⟩
theorem fn43:IsFn Tryz.prog 43:=⟨⟨_,Tryz.func43,by kernel_rfl,by kernel_rfl⟩⟩
theorem fn44:IsFn Tryz.prog 44:=⟨⟨_,Tryz.func44,by kernel_rfl,by kernel_rfl⟩⟩
theorem fn45:IsFn Tryz.prog 45:=⟨⟨_,Tryz.func45,by kernel_rfl,by kernel_rfl⟩⟩
theorem fn46:IsFn Tryz.prog 46:=⟨⟨_,Tryz.func46,by kernel_rfl,by kernel_rfl⟩⟩
theorem fn47:IsFn Tryz.prog 47:=⟨⟨_,Tryz.func47,by kernel_rfl,by kernel_rfl⟩⟩
theorem fn48:IsFn Tryz.prog 48:=⟨⟨_,Tryz.func48,by kernel_rfl,by kernel_rfl⟩⟩
theorem fn49:IsFn Tryz.prog 49:=⟨⟨_,Tryz.func49,by kernel_rfl,by kernel_rfl⟩⟩
theorem fn50:IsFn Tryz.prog 50:=⟨⟨_,Tryz.func50,by kernel_rfl,by kernel_rfl⟩⟩
theorem fn51:IsFn Tryz.prog 51:=⟨⟨_,Tryz.func51,by kernel_rfl,by kernel_rfl⟩⟩
theorem fn52:IsFn Tryz.prog 52:=⟨⟨_,Tryz.func52,by kernel_rfl,by kernel_rfl⟩⟩
theorem fn53:IsFn Tryz.prog 53:=⟨⟨_,Tryz.func53,by kernel_rfl,by kernel_rfl⟩⟩
theorem fn54:IsFn Tryz.prog 54:=⟨⟨_,Tryz.func54,by kernel_rfl,by kernel_rfl⟩⟩
theorem fn55:IsFn Tryz.prog 55:=⟨⟨_,Tryz.func55,by kernel_rfl,by kernel_rfl⟩⟩
theorem fn56:IsFn Tryz.prog 56:=⟨⟨_,Tryz.func56,by kernel_rfl,by kernel_rfl⟩⟩
theorem fn57:IsFn Tryz.prog 57:=⟨⟨_,Tryz.func57,by kernel_rfl,by kernel_rfl⟩⟩
theorem fn58:IsFn Tryz.prog 58:=⟨⟨_,Tryz.func58,by kernel_rfl,by kernel_rfl⟩⟩
theorem fn59:IsFn Tryz.prog 59:=⟨⟨_,Tryz.func59,by kernel_rfl,by kernel_rfl⟩⟩
theorem fn60:IsFn Tryz.prog 60:=⟨⟨_,Tryz.func60,by kernel_rfl,by kernel_rfl⟩⟩
theorem fn61:IsFn Tryz.prog 61:=⟨⟨_,Tryz.func61,by kernel_rfl,by kernel_rfl⟩⟩
theorem fn62:IsFn Tryz.prog 62:=⟨⟨_,Tryz.func62,by kernel_rfl,by kernel_rfl⟩⟩
theorem fn63:IsFn Tryz.prog 63:=⟨⟨_,Tryz.func63,by kernel_rfl,by kernel_rfl⟩⟩
theorem fn64:IsFn Tryz.prog 64:=⟨⟨_,Tryz.func64,by kernel_rfl,by kernel_rfl⟩⟩
theorem fn65:IsFn Tryz.prog 65:=⟨⟨_,Tryz.func65,by kernel_rfl,by kernel_rfl⟩⟩
theorem fn66:IsFn Tryz.prog 66:=⟨⟨_,Tryz.func66,by kernel_rfl,by kernel_rfl⟩⟩
theorem fn67:IsFn Tryz.prog 67:=⟨⟨_,Tryz.func67,by kernel_rfl,by kernel_rfl⟩⟩
theorem fn68:IsFn Tryz.prog 68:=⟨⟨_,Tryz.func68,by kernel_rfl,by kernel_rfl⟩⟩
theorem fn69:IsFn Tryz.prog 69:=⟨⟨_,Tryz.func69,by kernel_rfl,by kernel_rfl⟩⟩
theorem fn70:IsFn Tryz.prog 70:=⟨⟨_,Tryz.func70,by kernel_rfl,by kernel_rfl⟩⟩
theorem fn71:IsFn Tryz.prog 71:=⟨⟨_,Tryz.func71,by kernel_rfl,by kernel_rfl⟩⟩
theorem fn72:IsFn Tryz.prog 72:=⟨⟨_,Tryz.func72,by kernel_rfl,by kernel_rfl⟩⟩
theorem fn74:IsFn Tryz.prog 74:=⟨⟨_,Tryz.func74,by kernel_rfl,by kernel_rfl⟩⟩
theorem fn75:IsFn Tryz.prog 75:=⟨⟨_,Tryz.func75,by kernel_rfl,by kernel_rfl⟩⟩
theorem fn76:IsFn Tryz.prog 76:=⟨⟨_,Tryz.func76,by kernel_rfl,by kernel_rfl⟩⟩
theorem fn77:IsFn Tryz.prog 77:=⟨⟨_,Tryz.func77,by kernel_rfl,by kernel_rfl⟩⟩
theorem fn78:IsFn Tryz.prog 78:=⟨⟨_,Tryz.func78,by kernel_rfl,by kernel_rfl⟩⟩
theorem fn79:IsFn Tryz.prog 79:=⟨⟨_,Tryz.func79,by kernel_rfl,by kernel_rfl⟩⟩
theorem fn80:IsFn Tryz.prog 80:=⟨⟨_,Tryz.func80,by kernel_rfl,by kernel_rfl⟩⟩
theorem fn81:IsFn Tryz.prog 81:=⟨⟨_,Tryz.func81,by kernel_rfl,by kernel_rfl⟩⟩
theorem fn82:IsFn Tryz.prog 82:=⟨⟨_,Tryz.func82,by kernel_rfl,by kernel_rfl⟩⟩
theorem fn83:IsFn Tryz.prog 83:=⟨⟨_,Tryz.func83,by kernel_rfl,by kernel_rfl⟩⟩
theorem fn84:IsFn Tryz.prog 84:=⟨⟨_,Tryz.func84,by kernel_rfl,by kernel_rfl⟩⟩
theorem fn94:IsFn Tryz.prog 94:=⟨⟨_,Tryz.func94,by kernel_rfl,by kernel_rfl⟩⟩
theorem fn96:IsFn Tryz.prog 96:=⟨⟨_,Tryz.func96,by kernel_rfl,by kernel_rfl⟩⟩
theorem fn97:IsFn Tryz.prog 97:=⟨⟨_,Tryz.func97,by kernel_rfl,by kernel_rfl⟩⟩
theorem fn103:IsFn Tryz.prog 103:=⟨⟨_,Tryz.func103,by kernel_rfl,by kernel_rfl⟩⟩
theorem fn121:IsFn Tryz.prog 121:=⟨⟨_,Tryz.func121,by kernel_rfl,by kernel_rfl⟩⟩
theorem fn123:IsFn Tryz.prog 123:=⟨⟨_,Tryz.func123,by kernel_rfl,by kernel_rfl⟩⟩
theorem fn124:IsFn Tryz.prog 124:=⟨⟨_,Tryz.func124,by kernel_rfl,by kernel_rfl⟩⟩
theorem fn125:IsFn Tryz.prog 125:=⟨⟨_,Tryz.func125,by kernel_rfl,by kernel_rfl⟩⟩
theorem fn126:IsFn Tryz.prog 126:=⟨⟨_,Tryz.func126,by kernel_rfl,by kernel_rfl⟩⟩
theorem fn127:IsFn Tryz.prog 127:=⟨⟨_,Tryz.func127,by kernel_rfl,by kernel_rfl⟩⟩
theorem fn128:IsFn Tryz.prog 128:=⟨⟨_,Tryz.func128,by kernel_rfl,by kernel_rfl⟩⟩
theorem fn129:IsFn Tryz.prog 129:=⟨⟨_,Tryz.func129,by kernel_rfl,by kernel_rfl⟩⟩
theorem fn130:IsFn Tryz.prog 130:=⟨⟨_,Tryz.func130,by kernel_rfl,by kernel_rfl⟩⟩
theorem fn131:IsFn Tryz.prog 131:=⟨⟨_,Tryz.func131,by kernel_rfl,by kernel_rfl⟩⟩
theorem fn132:IsFn Tryz.prog 132:=⟨⟨_,Tryz.func132,by kernel_rfl,by kernel_rfl⟩⟩
theorem fn133:IsFn Tryz.prog 133:=⟨⟨_,Tryz.func133,by kernel_rfl,by kernel_rfl⟩⟩
theorem fn134:IsFn Tryz.prog 134:=⟨⟨_,Tryz.func134,by kernel_rfl,by kernel_rfl⟩⟩
theorem fn135:IsFn Tryz.prog 135:=⟨⟨_,Tryz.func135,by kernel_rfl,by kernel_rfl⟩⟩
theorem fn136:IsFn Tryz.prog 136:=⟨⟨_,Tryz.func136,by kernel_rfl,by kernel_rfl⟩⟩
theorem fn137:IsFn Tryz.prog 137:=⟨⟨_,Tryz.func137,by kernel_rfl,by kernel_rfl⟩⟩
theorem fn138:IsFn Tryz.prog 138:=⟨⟨_,Tryz.func138,by kernel_rfl,by kernel_rfl⟩⟩
theorem fn139:IsFn Tryz.prog 139:=⟨⟨_,Tryz.func139,by kernel_rfl,by kernel_rfl⟩⟩
theorem fn140:IsFn Tryz.prog 140:=⟨⟨_,Tryz.func140,by kernel_rfl,by kernel_rfl⟩⟩
theorem fn141:IsFn Tryz.prog 141:=⟨⟨_,Tryz.func141,by kernel_rfl,by kernel_rfl⟩⟩
theorem fn142:IsFn Tryz.prog 142:=⟨⟨_,Tryz.func142,by kernel_rfl,by kernel_rfl⟩⟩
theorem fn143:IsFn Tryz.prog 143:=⟨⟨_,Tryz.func143,by kernel_rfl,by kernel_rfl⟩⟩
theorem fn144:IsFn Tryz.prog 144:=⟨⟨_,Tryz.func144,by kernel_rfl,by kernel_rfl⟩⟩
theorem fn145:IsFn Tryz.prog 145:=⟨⟨_,Tryz.func145,by kernel_rfl,by kernel_rfl⟩⟩
theorem fn146:IsFn Tryz.prog 146:=⟨⟨_,Tryz.func146,by kernel_rfl,by kernel_rfl⟩⟩
theorem fn147:IsFn Tryz.prog 147:=⟨⟨_,Tryz.func147,by kernel_rfl,by kernel_rfl⟩⟩
theorem fn148:IsFn Tryz.prog 148:=⟨⟨_,Tryz.func148,by kernel_rfl,by kernel_rfl⟩⟩
theorem fn149:IsFn Tryz.prog 149:=⟨⟨_,Tryz.func149,by kernel_rfl,by kernel_rfl⟩⟩
theorem fn150:IsFn Tryz.prog 150:=⟨⟨_,Tryz.func150,by kernel_rfl,by kernel_rfl⟩⟩
theorem fn151:IsFn Tryz.prog 151:=⟨⟨_,Tryz.func151,by kernel_rfl,by kernel_rfl⟩⟩
theorem fn152:IsFn Tryz.prog 152:=⟨⟨_,Tryz.func152,by kernel_rfl,by kernel_rfl⟩⟩
theorem fn153:IsFn Tryz.prog 153:=⟨⟨_,Tryz.func153,by kernel_rfl,by kernel_rfl⟩⟩
theorem cmp95:IsCmp Tryz.prog 95:=⟨_,Tryz.func95,by kernel_rfl,by kernel_rfl,by kernel_rfl,by kernel_rfl⟩
theorem mixed:Tryz.prog.follows .mixedOrders=true:=by kernel_rfl
theorem gd119:Tryz.prog.eqGuardType Tryz.prog.depth 119=false:=by kernel_rfl
theorem eg119 (x y:Operand) (a b:Array Value) {w:World}:(eqGuard .eql 119 x y (.agg a) (.agg b)).run Tryz.prog w=.ok () w:=by simp [eqGuard,gd119]
theorem en119 (x y:Operand) (a b:Array Value) {w:World}:(eqGuard .neq 119 x y (.agg a) (.agg b)).run Tryz.prog w=.ok () w:=by simp [eqGuard,gd119]
theorem eq119 (w:World) (x0:Str) (x1:Str) (y0:Str) (y1:Str):(Op.equal 119 (.agg #[.string (bs x0),.string (bs x1)]) (.agg #[.string (bs y0),.string (bs y1)])).run Tryz.prog w=.ok ((x0==y0)&&(x1==y1)) w:=QAp (d:=9999) Tryz.underlying119 (by kernel_rfl) (JS rfl (VW ty9 rfl) (VW ty9 rfl) (QAn (d:=9998) Tryz.underlying9) (Kj rfl (VW ty9 rfl) (VW ty9 rfl) (QAn (d:=9998) Tryz.underlying9) ))
theorem gd132:Tryz.prog.eqGuardType Tryz.prog.depth 132=false:=by kernel_rfl
theorem eg132 (x y:Operand) (a b:Array Value) {w:World}:(eqGuard .eql 132 x y (.agg a) (.agg b)).run Tryz.prog w=.ok () w:=by simp [eqGuard,gd132]
theorem en132 (x y:Operand) (a b:Array Value) {w:World}:(eqGuard .neq 132 x y (.agg a) (.agg b)).run Tryz.prog w=.ok () w:=by simp [eqGuard,gd132]
theorem eq132 (w:World) (x0:Int) (x1:Int) (y0:Int) (y1:Int):(Op.equal 132 (.agg #[.int .i64 x0,.int .i64 x1]) (.agg #[.int .i64 y0,.int .i64 y1])).run Tryz.prog w=.ok ((x0==y0)&&(x1==y1)) w:=QAp (d:=9999) Tryz.underlying132 (by kernel_rfl) (JS rfl (VW ty3 rfl) (VW ty3 rfl) (QAo (d:=9998) Tryz.underlying3) (Kj rfl (VW ty3 rfl) (VW ty3 rfl) (QAo (d:=9998) Tryz.underlying3) ))
end Go.Proofs.YtkknoimjgifhlaaGreatDoor
