import Derived.Test.YtnjbjpaiepefoaaGreatDoorProg
import Derived.Test.YtnjbjpaiepefoaaGreatDoorSlZ
import Derived.KernelRfl
import Derived.Test.YtnjbjpaiepefoaaGreatDoorSlY
import Derived.Test.YtnjbjpaiepefoaaGreatDoorSlT
import Derived.Test.YtnjbjpaiepefoaaGreatDoorSlY
import Derived.Test.YtnjbjpaiepefoaaGreatDoorSort
import Derived.Test.YtnjbjpaiepefoaaGreatDoorSlZ
namespace Go.Proofs.YtnjbjpaiepefoaaGreatDoor
open Go
set_option linter.unusedVariables false
set_option linter.unusedSimpArgs false
theorem ty3:IsTy Tryz.prog 3 false (.int .i64 0) 1 8:=⟨by kernel_rfl,by kernel_rfl⟩
theorem ty4:IsTy Tryz.prog 4 false (.bool false) 1 1:=⟨by kernel_rfl,by kernel_rfl⟩
theorem ty5:IsTy Tryz.prog 5 false (.int .u8 0) 1 1:=⟨by kernel_rfl,by kernel_rfl⟩
theorem ty9:IsTy Tryz.prog 9 false (.string ⟨#[]⟩) 1 16:=⟨by kernel_rfl,by kernel_rfl⟩
theorem ty23:IsTy Tryz.prog 23 true (.agg #[.int .i64 0,.int .i64 0,.int .i64 0,.int .i64 0,.int .i64 0,.int .i64 0,.int .i64 0,.int .i64 0]) 8 64:=⟨by kernel_rfl,by kernel_rfl⟩
theorem ty24:IsTy Tryz.prog 24 false (.slice none 0 0) 1 24:=⟨by kernel_rfl,by kernel_rfl⟩
theorem ty25:IsTy Tryz.prog 25 false (.slice none 0 0) 1 24:=⟨by kernel_rfl,by kernel_rfl⟩
theorem ty28:IsTy Tryz.prog 28 false (.int .i64 0) 1 8:=⟨by kernel_rfl,by kernel_rfl⟩
theorem ty31:IsTy Tryz.prog 31 false (.pointer none) 1 8:=⟨by kernel_rfl,by kernel_rfl⟩
theorem ty39:IsTy Tryz.prog 39 false (.slice none 0 0) 1 24:=⟨by kernel_rfl,by kernel_rfl⟩
theorem ty43:IsTy Tryz.prog 43 false (.slice none 0 0) 1 24:=⟨by kernel_rfl,by kernel_rfl⟩
theorem ty45:IsTy Tryz.prog 45 false (.slice none 0 0) 1 24:=⟨by kernel_rfl,by kernel_rfl⟩
theorem ty46:IsTy Tryz.prog 46 false (.slice none 0 0) 1 24:=⟨by kernel_rfl,by kernel_rfl⟩
theorem ty48:IsTy Tryz.prog 48 true (.agg #[.int .i64 0,.int .i64 0,.int .i64 0,.int .i64 0,.int .i64 0,.int .i64 0,.int .i64 0,.int .i64 0,.slice none 0 0,.slice none 0 0,.int .i64 0,.int .i64 0]) 12 128:=⟨by kernel_rfl,by kernel_rfl⟩
theorem ty51:IsTy Tryz.prog 51 true (.agg #[.int .i64 0,.int .i64 0,.bool false,.string ⟨#[]⟩]) 4 40:=⟨by kernel_rfl,by kernel_rfl⟩
theorem ty54:IsTy Tryz.prog 54 false (.slice none 0 0) 1 24:=⟨by kernel_rfl,by kernel_rfl⟩
theorem ty56:IsTy Tryz.prog 56 true (.agg #[.string ⟨#[]⟩,.slice none 0 0,.bool false,.int .i64 0,.int .i64 0,.bool false,.string ⟨#[]⟩]) 7 88:=⟨by kernel_rfl,by kernel_rfl⟩
theorem ty60:IsTy Tryz.prog 60 false (.slice none 0 0) 1 24:=⟨by kernel_rfl,by kernel_rfl⟩
theorem ty62:IsTy Tryz.prog 62 true (.agg #[.int .i64 0,.bool false,.string ⟨#[]⟩,.slice none 0 0]) 4 56:=⟨by kernel_rfl,by kernel_rfl⟩
theorem ty64:IsTy Tryz.prog 64 true (.agg #[.int .u8 0,.int .i64 0,.int .i64 0,.int .i64 0,.bool false,.string ⟨#[]⟩,.slice none 0 0]) 7 80:=⟨by kernel_rfl,by kernel_rfl⟩
theorem ty66:IsTy Tryz.prog 66 true (.agg #[.string ⟨#[]⟩,.string ⟨#[]⟩]) 2 32:=⟨by kernel_rfl,by kernel_rfl⟩
theorem ty67:IsTy Tryz.prog 67 false (.slice none 0 0) 1 24:=⟨by kernel_rfl,by kernel_rfl⟩
theorem ty69:IsTy Tryz.prog 69 true (.agg #[.int .u8 0,.int .i64 0,.string ⟨#[]⟩,.string ⟨#[]⟩,.string ⟨#[]⟩,.int .i64 0,.int .u8 0]) 7 80:=⟨by kernel_rfl,by kernel_rfl⟩
theorem ty83:IsTy Tryz.prog 83 false (.pointer none) 1 8:=⟨by kernel_rfl,by kernel_rfl⟩
theorem ty84:IsTy Tryz.prog 84 false (.slice none 0 0) 1 24:=⟨by kernel_rfl,by kernel_rfl⟩
theorem ty86:IsTy Tryz.prog 86 true (.agg #[.slice none 0 0,.pointer none,.pointer none,.slice none 0 0,.slice none 0 0]) 5 88:=⟨by kernel_rfl,by kernel_rfl⟩
theorem ty93:IsTy Tryz.prog 93 true (.agg #[.int .i64 0,.int .i64 0,.int .i64 0,.bool false,.string ⟨#[]⟩,.slice none 0 0,.int .i64 0,.int .i64 0]) 8 88:=⟨by kernel_rfl,by kernel_rfl⟩
theorem ty94:IsTy Tryz.prog 94 true (.agg #[.int .i64 0,.int .i64 0,.int .i64 0,.bool false,.string ⟨#[]⟩,.slice none 0 0,.int .i64 0,.int .i64 0]) 8 88:=⟨by kernel_rfl,by kernel_rfl⟩
theorem ty100:IsTy Tryz.prog 100 false (.map none) 1 8:=⟨by kernel_rfl,by kernel_rfl⟩
theorem ty102:IsTy Tryz.prog 102 true (.agg #[.slice none 0 0,.int .i64 0,.int .i64 0,.bool false,.string ⟨#[]⟩]) 5 64:=⟨by kernel_rfl,by kernel_rfl⟩
theorem ty103:IsTy Tryz.prog 103 false (.map none) 1 8:=⟨by kernel_rfl,by kernel_rfl⟩
theorem ty104:IsTy Tryz.prog 104 false (.map none) 1 8:=⟨by kernel_rfl,by kernel_rfl⟩
theorem ty105:IsTy Tryz.prog 105 false (.slice none 0 0) 1 24:=⟨by kernel_rfl,by kernel_rfl⟩
theorem ty107:IsTy Tryz.prog 107 true (.agg #[.int .i64 0,.int .i64 0,.int .i64 0,.int .i64 0,.int .i64 0,.int .i64 0,.int .i64 0,.int .i64 0,.map none,.map none,.slice none 0 0,.map none,.int .i64 0,.int .i64 0]) 14 128:=⟨by kernel_rfl,by kernel_rfl⟩
theorem ty115:IsTy Tryz.prog 115 false (.nilFunc) 1 8:=⟨by kernel_rfl,by kernel_rfl⟩
theorem ty116:IsTy Tryz.prog 116 false (.nilFunc) 1 8:=⟨by kernel_rfl,by kernel_rfl⟩
theorem ty129:IsTy Tryz.prog 129 false (.nilFunc) 1 8:=⟨by kernel_rfl,by kernel_rfl⟩
theorem ty135:IsTy Tryz.prog 135 true (.agg #[.int .i64 0,.int .i64 0,.int .i64 0]) 3 24:=⟨by kernel_rfl,by kernel_rfl⟩
theorem ty136:IsTy Tryz.prog 136 true (.agg #[.int .i64 0,.int .i64 0,.int .i64 0,.int .i64 0,.int .i64 0,.int .i64 0,.int .i64 0,.int .i64 0,.int .i64 0,.int .i64 0,.int .i64 0,.int .i64 0,.int .i64 0,.int .i64 0,.int .i64 0,.int .i64 0,.int .i64 0,.int .i64 0,.int .i64 0,.int .i64 0,.int .i64 0,.int .i64 0,.int .i64 0,.int .i64 0]) 24 192:=⟨by kernel_rfl,by kernel_rfl⟩
theorem ty144:IsTy Tryz.prog 144 true (.agg #[.int .i64 0,.int .i64 0]) 2 16:=⟨by kernel_rfl,by kernel_rfl⟩
theorem ty149:IsTy Tryz.prog 149 true (.agg #[.int .u8 0,.int .i64 0]) 2 16:=⟨by kernel_rfl,by kernel_rfl⟩
theorem ty153:IsTy Tryz.prog 153 false (.nilFunc) 1 8:=⟨by kernel_rfl,by kernel_rfl⟩
theorem ty160:IsTy Tryz.prog 160 false (.slice none 0 0) 1 24:=⟨by kernel_rfl,by kernel_rfl⟩
theorem ty162:IsTy Tryz.prog 162 true (.agg #[.slice none 0 0,.slice none 0 0]) 2 48:=⟨by kernel_rfl,by kernel_rfl⟩
theorem ty164:IsTy Tryz.prog 164 true (.agg #[.int .i64 0,.int .i64 0]) 2 16:=⟨by kernel_rfl,by kernel_rfl⟩
theorem ty167:IsTy Tryz.prog 167 true (.agg #[.int .i64 0,.int .i64 0,.int .u8 0,.int .i64 0]) 4 32:=⟨by kernel_rfl,by kernel_rfl⟩
theorem fn4:IsFn Tryz.prog 4:=⟨⟨_,Tryz.func4,by kernel_rfl,by kernel_rfl⟩⟩
theorem fn5:IsFn Tryz.prog 5:=⟨⟨_,Tryz.func5,by kernel_rfl,by kernel_rfl⟩⟩
theorem fn6:IsFn Tryz.prog 6:=⟨⟨_,Tryz.func6,by kernel_rfl,by kernel_rfl⟩⟩
theorem fn7:IsFn Tryz.prog 7:=⟨⟨_,Tryz.func7,by kernel_rfl,by kernel_rfl⟩⟩
theorem fn8:IsFn Tryz.prog 8:=⟨⟨_,Tryz.func8,by kernel_rfl,by kernel_rfl⟩⟩
theorem fn9:IsFn Tryz.prog 9:=⟨⟨_,Tryz.func9,by kernel_rfl,by kernel_rfl⟩⟩
theorem fn10:IsFn Tryz.prog 10:=⟨⟨_,Tryz.func10,by kernel_rfl,by kernel_rfl⟩⟩
theorem fn11:IsFn Tryz.prog 11:=⟨⟨_,Tryz.func11,by kernel_rfl,by kernel_rfl⟩⟩
theorem fn12:IsFn Tryz.prog 12:=⟨⟨_,Tryz.func12,by kernel_rfl,by kernel_rfl⟩⟩
theorem fn13:IsFn Tryz.prog 13:=⟨⟨_,Tryz.func13,by kernel_rfl,by kernel_rfl⟩⟩
theorem fn14:IsFn Tryz.prog 14:=⟨⟨_,Tryz.func14,by kernel_rfl,by kernel_rfl⟩⟩
theorem fn15:IsFn Tryz.prog 15:=⟨⟨_,Tryz.func15,by kernel_rfl,by kernel_rfl⟩⟩
theorem fn16:IsFn Tryz.prog 16:=⟨⟨_,Tryz.func16,by kernel_rfl,by kernel_rfl⟩⟩
theorem fn17:IsFn Tryz.prog 17:=⟨⟨_,Tryz.func17,by kernel_rfl,by kernel_rfl⟩⟩
theorem fn18:IsFn Tryz.prog 18:=⟨⟨_,Tryz.func18,by kernel_rfl,by kernel_rfl⟩⟩
theorem fn19:IsFn Tryz.prog 19:=⟨⟨_,Tryz.func19,by kernel_rfl,by kernel_rfl⟩⟩
theorem fn20:IsFn Tryz.prog 20:=⟨⟨_,Tryz.func20,by kernel_rfl,by kernel_rfl⟩⟩
theorem fn21:IsFn Tryz.prog 21:=⟨⟨_,Tryz.func21,by kernel_rfl,by kernel_rfl⟩⟩
theorem fn22:IsFn Tryz.prog 22:=⟨⟨_,Tryz.func22,by kernel_rfl,by kernel_rfl⟩⟩
theorem fn23:IsFn Tryz.prog 23:=⟨⟨_,Tryz.func23,by kernel_rfl,by kernel_rfl⟩⟩
theorem fn24:IsFn Tryz.prog 24:=⟨⟨_,Tryz.func24,by kernel_rfl,by kernel_rfl⟩⟩
theorem fn25:IsFn Tryz.prog 25:=⟨⟨_,Tryz.func25,by kernel_rfl,by kernel_rfl⟩⟩
theorem fn26:IsFn Tryz.prog 26:=⟨⟨_,Tryz.func26,by kernel_rfl,by kernel_rfl⟩⟩
theorem fn27:IsFn Tryz.prog 27:=⟨⟨_,Tryz.func27,by kernel_rfl,by kernel_rfl⟩⟩
theorem fn28:IsFn Tryz.prog 28:=⟨⟨_,Tryz.func28,by kernel_rfl,by kernel_rfl⟩⟩
theorem fn29:IsFn Tryz.prog 29:=⟨⟨_,Tryz.func29,by kernel_rfl,by kernel_rfl⟩⟩
theorem fn30:IsFn Tryz.prog 30:=⟨⟨_,Tryz.func30,by kernel_rfl,by kernel_rfl⟩⟩
theorem fn31:IsFn Tryz.prog 31:=⟨⟨_,Tryz.func31,by kernel_rfl,by kernel_rfl⟩⟩
theorem fn32:IsFn Tryz.prog 32:=⟨⟨_,Tryz.func32,by kernel_rfl,by kernel_rfl⟩⟩
theorem fn33:IsFn Tryz.prog 33:=⟨⟨_,Tryz.func33,by kernel_rfl,by kernel_rfl⟩⟩
theorem fn34:IsFn Tryz.prog 34:=⟨⟨_,Tryz.func34,by kernel_rfl,by kernel_rfl⟩⟩
theorem fn35:IsFn Tryz.prog 35:=⟨⟨_,Tryz.func35,by kernel_rfl,by kernel_rfl⟩⟩
theorem fn36:IsFn Tryz.prog 36:=⟨⟨_,Tryz.func36,by kernel_rfl,by kernel_rfl⟩⟩
theorem fn37:IsFn Tryz.prog 37:=⟨⟨_,Tryz.func37,by kernel_rfl,by kernel_rfl⟩⟩
theorem fn38:IsFn Tryz.prog 38:=⟨⟨_,Tryz.func38,by kernel_rfl,by kernel_rfl⟩⟩
theorem fn39:IsFn Tryz.prog 39:=⟨⟨_,Tryz.func39,by kernel_rfl,by kernel_rfl⟩⟩
theorem fn40:IsFn Tryz.prog 40:=⟨⟨_,Tryz.func40,by kernel_rfl,by kernel_rfl⟩⟩
theorem fn41:IsFn Tryz.prog 41:=⟨⟨_,Tryz.func41,by kernel_rfl,by kernel_rfl⟩⟩
theorem fn42:IsFn Tryz.prog 42:=⟨⟨_,Tryz.func42,by kernel_rfl,by kernel_rfl⟩⟩
theorem fn43:IsFn Tryz.prog 43:=⟨⟨_,Tryz.func43,by kernel_rfl,by kernel_rfl⟩⟩
theorem fn44:IsFn Tryz.prog 44:=⟨⟨_,Tryz.func44,by kernel_rfl,by kernel_rfl⟩⟩
theorem fn45:IsFn Tryz.prog 45:=⟨⟨_,Tryz.func45,by kernel_rfl,by kernel_rfl⟩⟩
theorem fn46:IsFn Tryz.prog 46:=⟨⟨_,Tryz.func46,by kernel_rfl,by kernel_rfl⟩⟩
theorem fn47:IsFn Tryz.prog 47:=⟨⟨_,Tryz.func47,by kernel_rfl,by kernel_rfl⟩⟩
theorem fn48:IsFn Tryz.prog 48:=⟨⟨_,Tryz.func48,by kernel_rfl,by kernel_rfl⟩⟩
theorem fn49:IsFn Tryz.prog 49:=⟨⟨_,Tryz.func49,by kernel_rfl,by kernel_rfl⟩⟩
theorem fn50:IsFn Tryz.prog 50:=⟨⟨_,Tryz.func50,by kernel_rfl,by kernel_rfl⟩⟩
theorem fn51:IsFn Tryz.prog 51:=⟨⟨_,Tryz.func51,by kernel_rfl,by kernel_rfl⟩⟩
theorem fn52:IsFn Tryz.prog 52:=⟨⟨_,Tryz.func52,by kernel_rfl,by kernel_rfl⟩⟩
theorem fn53:IsFn Tryz.prog 53:=⟨⟨_,Tryz.func53,by kernel_rfl,by kernel_rfl⟩⟩
theorem fn54:IsFn Tryz.prog 54:=⟨⟨_,Tryz.func54,by kernel_rfl,by kernel_rfl⟩⟩
theorem fn55:IsFn Tryz.prog 55:=⟨⟨_,Tryz.func55,by kernel_rfl,by kernel_rfl⟩⟩
theorem fn56:IsFn Tryz.prog 56:=⟨⟨_,Tryz.func56,by kernel_rfl,by kernel_rfl⟩⟩
theorem fn57:IsFn Tryz.prog 57:=⟨⟨_,Tryz.func57,by kernel_rfl,by kernel_rfl⟩⟩
theorem fn58:IsFn Tryz.prog 58:=⟨⟨_,Tryz.func58,by kernel_rfl,by kernel_rfl⟩⟩
theorem fn59:IsFn Tryz.prog 59:=⟨⟨_,Tryz.func59,by kernel_rfl,by kernel_rfl⟩⟩
theorem fn60:IsFn Tryz.prog 60:=⟨⟨_,Tryz.func60,by kernel_rfl,by kernel_rfl⟩⟩
theorem fn61:IsFn Tryz.prog 61:=⟨⟨_,Tryz.func61,by kernel_rfl,by kernel_rfl⟩⟩
theorem fn62:IsFn Tryz.prog 62:=⟨⟨_,Tryz.func62,by kernel_rfl,by kernel_rfl⟩⟩
theorem fn63:IsFn Tryz.prog 63:=⟨⟨_,Tryz.func63,by kernel_rfl,by kernel_rfl⟩⟩
theorem fn64:IsFn Tryz.prog 64:=⟨⟨_,Tryz.func64,by kernel_rfl,by kernel_rfl⟩⟩
theorem fn65:IsFn Tryz.prog 65:=⟨⟨_,Tryz.func65,by kernel_rfl,by kernel_rfl⟩⟩
theorem fn66:IsFn Tryz.prog 66:=⟨⟨_,Tryz.func66,by kernel_rfl,by kernel_rfl⟩⟩
theorem fn67:IsFn Tryz.prog 67:=⟨⟨_,Tryz.func67,by kernel_rfl,by kernel_rfl⟩⟩
theorem fn68:IsFn Tryz.prog 68:=⟨⟨_,Tryz.func68,by kernel_rfl,by kernel_rfl⟩⟩
theorem fn69:IsFn Tryz.prog 69:=⟨⟨_,Tryz.func69,by kernel_rfl,by kernel_rfl⟩⟩
theorem fn70:IsFn Tryz.prog 70:=⟨⟨_,Tryz.func70,by kernel_rfl,by kernel_rfl⟩⟩
theorem fn71:IsFn Tryz.prog 71:=⟨⟨_,Tryz.func71,by kernel_rfl,by kernel_rfl⟩⟩
theorem fn72:IsFn Tryz.prog 72:=⟨⟨_,Tryz.func72,by kernel_rfl,by kernel_rfl⟩⟩
theorem fn73:IsFn Tryz.prog 73:=⟨⟨_,Tryz.func73,by kernel_rfl,by kernel_rfl⟩⟩
theorem fn74:IsFn Tryz.prog 74:=⟨⟨_,Tryz.func74,by kernel_rfl,by kernel_rfl⟩⟩
theorem fn75:IsFn Tryz.prog 75:=⟨⟨_,Tryz.func75,by kernel_rfl,by kernel_rfl⟩⟩
theorem fn76:IsFn Tryz.prog 76:=⟨⟨_,Tryz.func76,by kernel_rfl,by kernel_rfl⟩⟩
theorem fn77:IsFn Tryz.prog 77:=⟨⟨_,Tryz.func77,by kernel_rfl,by kernel_rfl⟩⟩
theorem fn78:IsFn Tryz.prog 78:=⟨⟨_,Tryz.func78,by kernel_rfl,by kernel_rfl⟩⟩
theorem fn79:IsFn Tryz.prog 79:=⟨⟨_,Tryz.func79,by kernel_rfl,by kernel_rfl⟩⟩
theorem fn80:IsFn Tryz.prog 80:=⟨⟨_,Tryz.func80,by kernel_rfl,by kernel_rfl⟩⟩
theorem fn81:IsFn Tryz.prog 81:=⟨⟨_,Tryz.func81,by kernel_rfl,by kernel_rfl⟩⟩
theorem fn82:IsFn Tryz.prog 82:=⟨⟨_,Tryz.func82,by kernel_rfl,by kernel_rfl⟩⟩
theorem fn83:IsFn Tryz.prog 83:=⟨⟨_,Tryz.func83,by kernel_rfl,by kernel_rfl⟩⟩
theorem fn84:IsFn Tryz.prog 84:=⟨⟨_,Tryz.func84,by kernel_rfl,by kernel_rfl⟩⟩
theorem fn85:IsFn Tryz.prog 85:=⟨⟨_,Tryz.func85,by kernel_rfl,by kernel_rfl⟩⟩
theorem fn86:IsFn Tryz.prog 86:=⟨⟨_,Tryz.func86,by kernel_rfl,by kernel_rfl⟩⟩
theorem fn87:IsFn Tryz.prog 87:=⟨⟨_,Tryz.func87,by kernel_rfl,by kernel_rfl⟩⟩
theorem fn88:IsFn Tryz.prog 88:=⟨⟨_,Tryz.func88,by kernel_rfl,by kernel_rfl⟩⟩
theorem fn89:IsFn Tryz.prog 89:=⟨⟨_,Tryz.func89,by kernel_rfl,by kernel_rfl⟩⟩
theorem fn90:IsFn Tryz.prog 90:=⟨⟨_,Tryz.func90,by kernel_rfl,by kernel_rfl⟩⟩
theorem fn91:IsFn Tryz.prog 91:=⟨⟨_,Tryz.func91,by kernel_rfl,by kernel_rfl⟩⟩
theorem fn92:IsFn Tryz.prog 92:=⟨⟨_,Tryz.func92,by kernel_rfl,by kernel_rfl⟩⟩
theorem fn94:IsFn Tryz.prog 94:=⟨⟨_,Tryz.func94,by kernel_rfl,by kernel_rfl⟩⟩
theorem fn95:IsFn Tryz.prog 95:=⟨⟨_,Tryz.func95,by kernel_rfl,by kernel_rfl⟩⟩
theorem fn97:IsFn Tryz.prog 97:=⟨⟨_,Tryz.func97,by kernel_rfl,by kernel_rfl⟩⟩
theorem fn98:IsFn Tryz.prog 98:=⟨⟨_,Tryz.func98,by kernel_rfl,by kernel_rfl⟩⟩
theorem fn100:IsFn Tryz.prog 100:=⟨⟨_,Tryz.func100,by kernel_rfl,by kernel_rfl⟩⟩
theorem fn101:IsFn Tryz.prog 101:=⟨⟨_,Tryz.func101,by kernel_rfl,by kernel_rfl⟩⟩
theorem fn102:IsFn Tryz.prog 102:=⟨⟨_,Tryz.func102,by kernel_rfl,by kernel_rfl⟩⟩
theorem fn103:IsFn Tryz.prog 103:=⟨⟨_,Tryz.func103,by kernel_rfl,by kernel_rfl⟩⟩
theorem fn104:IsFn Tryz.prog 104:=⟨⟨_,Tryz.func104,by kernel_rfl,by kernel_rfl⟩⟩
theorem fn105:IsFn Tryz.prog 105:=⟨⟨_,Tryz.func105,by kernel_rfl,by kernel_rfl⟩⟩
theorem fn106:IsFn Tryz.prog 106:=⟨⟨_,Tryz.func106,by kernel_rfl,by kernel_rfl⟩⟩
theorem fn107:IsFn Tryz.prog 107:=⟨⟨_,Tryz.func107,by kernel_rfl,by kernel_rfl⟩⟩
theorem fn108:IsFn Tryz.prog 108:=⟨⟨_,Tryz.func108,by kernel_rfl,by kernel_rfl⟩⟩
theorem fn109:IsFn Tryz.prog 109:=⟨⟨_,Tryz.func109,by kernel_rfl,by kernel_rfl⟩⟩
theorem fn119:IsFn Tryz.prog 119:=⟨⟨_,Tryz.func119,by kernel_rfl,by kernel_rfl⟩⟩
theorem fn121:IsFn Tryz.prog 121:=⟨⟨_,Tryz.func121,by kernel_rfl,by kernel_rfl⟩⟩
theorem fn122:IsFn Tryz.prog 122:=⟨⟨_,Tryz.func122,by kernel_rfl,by kernel_rfl⟩⟩
theorem fn123:IsFn Tryz.prog 123:=⟨⟨_,Tryz.func123,by kernel_rfl,by kernel_rfl⟩⟩
theorem fn124:IsFn Tryz.prog 124:=⟨⟨_,Tryz.func124,by kernel_rfl,by kernel_rfl⟩⟩
theorem fn130:IsFn Tryz.prog 130:=⟨⟨_,Tryz.func130,by kernel_rfl,by kernel_rfl⟩⟩
theorem fn132:IsFn Tryz.prog 132:=⟨⟨_,Tryz.func132,by kernel_rfl,by kernel_rfl⟩⟩
theorem fn149:IsFn Tryz.prog 149:=⟨⟨_,Tryz.func149,by kernel_rfl,by kernel_rfl⟩⟩
theorem fn151:IsFn Tryz.prog 151:=⟨⟨_,Tryz.func151,by kernel_rfl,by kernel_rfl⟩⟩
theorem fn152:IsFn Tryz.prog 152:=⟨⟨_,Tryz.func152,by kernel_rfl,by kernel_rfl⟩⟩
theorem fn153:IsFn Tryz.prog 153:=⟨⟨_,Tryz.func153,by kernel_rfl,by kernel_rfl⟩⟩
theorem fn154:IsFn Tryz.prog 154:=⟨⟨_,Tryz.func154,by kernel_rfl,by kernel_rfl⟩⟩
theorem fn155:IsFn Tryz.prog 155:=⟨⟨_,Tryz.func155,by kernel_rfl,by kernel_rfl⟩⟩
theorem fn156:IsFn Tryz.prog 156:=⟨⟨_,Tryz.func156,by kernel_rfl,by kernel_rfl⟩⟩
theorem fn157:IsFn Tryz.prog 157:=⟨⟨_,Tryz.func157,by kernel_rfl,by kernel_rfl⟩⟩
theorem fn158:IsFn Tryz.prog 158:=⟨⟨_,Tryz.func158,by kernel_rfl,by kernel_rfl⟩⟩
theorem fn159:IsFn Tryz.prog 159:=⟨⟨_,Tryz.func159,by kernel_rfl,by kernel_rfl⟩⟩
theorem fn160:IsFn Tryz.prog 160:=⟨⟨_,Tryz.func160,by kernel_rfl,by kernel_rfl⟩⟩
theorem fn161:IsFn Tryz.prog 161:=⟨⟨_,Tryz.func161,by kernel_rfl,by kernel_rfl⟩⟩
theorem fn162:IsFn Tryz.prog 162:=⟨⟨_,Tryz.func162,by kernel_rfl,by kernel_rfl⟩⟩
theorem fn163:IsFn Tryz.prog 163:=⟨⟨_,Tryz.func163,by kernel_rfl,by kernel_rfl⟩⟩
theorem fn164:IsFn Tryz.prog 164:=⟨⟨_,Tryz.func164,by kernel_rfl,by kernel_rfl⟩⟩
theorem fn165:IsFn Tryz.prog 165:=⟨⟨_,Tryz.func165,by kernel_rfl,by kernel_rfl⟩⟩
theorem fn166:IsFn Tryz.prog 166:=⟨⟨_,Tryz.func166,by kernel_rfl,by kernel_rfl⟩⟩
theorem fn167:IsFn Tryz.prog 167:=⟨⟨_,Tryz.func167,by kernel_rfl,by kernel_rfl⟩⟩
theorem fn168:IsFn Tryz.prog 168:=⟨⟨_,Tryz.func168,by kernel_rfl,by kernel_rfl⟩⟩
theorem fn169:IsFn Tryz.prog 169:=⟨⟨_,Tryz.func169,by kernel_rfl,by kernel_rfl⟩⟩
theorem fn170:IsFn Tryz.prog 170:=⟨⟨_,Tryz.func170,by kernel_rfl,by kernel_rfl⟩⟩
theorem fn171:IsFn Tryz.prog 171:=⟨⟨_,Tryz.func171,by kernel_rfl,by kernel_rfl⟩⟩
theorem fn172:IsFn Tryz.prog 172:=⟨⟨_,Tryz.func172,by kernel_rfl,by kernel_rfl⟩⟩
theorem fn173:IsFn Tryz.prog 173:=⟨⟨_,Tryz.func173,by kernel_rfl,by kernel_rfl⟩⟩
theorem fn174:IsFn Tryz.prog 174:=⟨⟨_,Tryz.func174,by kernel_rfl,by kernel_rfl⟩⟩
theorem fn175:IsFn Tryz.prog 175:=⟨⟨_,Tryz.func175,by kernel_rfl,by kernel_rfl⟩⟩
theorem fn176:IsFn Tryz.prog 176:=⟨⟨_,Tryz.func176,by kernel_rfl,by kernel_rfl⟩⟩
theorem fn177:IsFn Tryz.prog 177:=⟨⟨_,Tryz.func177,by kernel_rfl,by kernel_rfl⟩⟩
theorem fn178:IsFn Tryz.prog 178:=⟨⟨_,Tryz.func178,by kernel_rfl,by kernel_rfl⟩⟩
theorem cmp120:IsCmp Tryz.prog 120:=⟨_,Tryz.func120,by kernel_rfl,by kernel_rfl,by kernel_rfl,by kernel_rfl⟩
theorem mixed:Tryz.prog.follows .mixedOrders=true:=by kernel_rfl
theorem gd51:Tryz.prog.eqGuardType Tryz.prog.depth 51=false:=by kernel_rfl
theorem eg51 (x y:Operand) (a b:Array Value) {w:World}:(eqGuard .eql 51 x y (.agg a) (.agg b)).run Tryz.prog w=.ok () w:=by simp [eqGuard,gd51]
theorem en51 (x y:Operand) (a b:Array Value) {w:World}:(eqGuard .neq 51 x y (.agg a) (.agg b)).run Tryz.prog w=.ok () w:=by simp [eqGuard,gd51]
theorem eq51 (w:World) (x0:Int) (x1:Int) (x2:Bool) (x3:Str) (y0:Int) (y1:Int) (y2:Bool) (y3:Str):(Op.equal 51 (.agg #[.int .i64 x0,.int .i64 x1,.bool x2,.string (bs x3)]) (.agg #[.int .i64 y0,.int .i64 y1,.bool y2,.string (bs y3)])).run Tryz.prog w=.ok ((x0==y0)&&((x1==y1)&&((x2==y2)&&(x3==y3)))) w:=q6 (d:=9999) Tryz.underlying51 (by kernel_rfl) (Ua rfl (Vc ty3 rfl) (Vc ty3 rfl) (K2 (d:=9998) Tryz.underlying3) (Ua rfl (Vc ty3 rfl) (Vc ty3 rfl) (K2 (d:=9998) Tryz.underlying3) (Ua rfl (Vc ty4 rfl) (Vc ty4 rfl) (QCR (d:=9998) Tryz.underlying4) (KE rfl (Vc ty9 rfl) (Vc ty9 rfl) (q5 (d:=9998) Tryz.underlying9) ))))
theorem gd66:Tryz.prog.eqGuardType Tryz.prog.depth 66=false:=by kernel_rfl
theorem eg66 (x y:Operand) (a b:Array Value) {w:World}:(eqGuard .eql 66 x y (.agg a) (.agg b)).run Tryz.prog w=.ok () w:=by simp [eqGuard,gd66]
theorem en66 (x y:Operand) (a b:Array Value) {w:World}:(eqGuard .neq 66 x y (.agg a) (.agg b)).run Tryz.prog w=.ok () w:=by simp [eqGuard,gd66]
theorem eq66 (w:World) (x0:Str) (x1:Str) (y0:Str) (y1:Str):(Op.equal 66 (.agg #[.string (bs x0),.string (bs x1)]) (.agg #[.string (bs y0),.string (bs y1)])).run Tryz.prog w=.ok ((x0==y0)&&(x1==y1)) w:=q6 (d:=9999) Tryz.underlying66 (by kernel_rfl) (Ua rfl (Vc ty9 rfl) (Vc ty9 rfl) (q5 (d:=9998) Tryz.underlying9) (KE rfl (Vc ty9 rfl) (Vc ty9 rfl) (q5 (d:=9998) Tryz.underlying9) ))
theorem gd144:Tryz.prog.eqGuardType Tryz.prog.depth 144=false:=by kernel_rfl
theorem eg144 (x y:Operand) (a b:Array Value) {w:World}:(eqGuard .eql 144 x y (.agg a) (.agg b)).run Tryz.prog w=.ok () w:=by simp [eqGuard,gd144]
theorem en144 (x y:Operand) (a b:Array Value) {w:World}:(eqGuard .neq 144 x y (.agg a) (.agg b)).run Tryz.prog w=.ok () w:=by simp [eqGuard,gd144]
theorem eq144 (w:World) (x0:Int) (x1:Int) (y0:Int) (y1:Int):(Op.equal 144 (.agg #[.int .i64 x0,.int .i64 x1]) (.agg #[.int .i64 y0,.int .i64 y1])).run Tryz.prog w=.ok ((x0==y0)&&(x1==y1)) w:=q6 (d:=9999) Tryz.underlying144 (by kernel_rfl) (Ua rfl (Vc ty3 rfl) (Vc ty3 rfl) (K2 (d:=9998) Tryz.underlying3) (KE rfl (Vc ty3 rfl) (Vc ty3 rfl) (K2 (d:=9998) Tryz.underlying3) ))
end Go.Proofs.YtnjbjpaiepefoaaGreatDoor
