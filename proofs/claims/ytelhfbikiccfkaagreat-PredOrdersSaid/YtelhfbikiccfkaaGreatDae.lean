import Derived.Test.YtelhfbikiccfkaaGreatProg
import Derived.KernelRfl
import Derived.Test.YtelhfbikiccfkaaGreatDad
set_option linter.unusedSimpArgs false
set_option linter.unusedVariables false
/- The types of the seat, as the pure machine wants them: closed facts, each by the kernel. -/
namespace Go.Proofs.YtelhfbikiccfkaaGreat
open Go Pm
def ti2:TI:=.int .i64
theorem atr:cX Tryz.prog 2 ti2:=⟨by kernel_rfl,(aF (v:=.int .i64 0) (by kernel_rfl) rfl (by kernel_rfl) rfl (by decide))⟩
def ti3:TI:=.int .i64
theorem att:cX Tryz.prog 3 ti3:=⟨by kernel_rfl,(aF (v:=.int .i64 0) (by kernel_rfl) rfl (by kernel_rfl) rfl (by decide))⟩
def ti4:TI:=.bool
theorem atu:cX Tryz.prog 4 ti4:=⟨by kernel_rfl,(aF (v:=.bool false) (by kernel_rfl) rfl (by kernel_rfl) rfl (by decide))⟩
def ti5:TI:=.int .u8
theorem atv:cX Tryz.prog 5 ti5:=⟨by kernel_rfl,(aF (v:=.int .u8 0) (by kernel_rfl) rfl (by kernel_rfl) rfl (by decide))⟩
def ti6:TI:=.int .u8
theorem atw:cX Tryz.prog 6 ti6:=⟨by kernel_rfl,(aF (v:=.int .u8 0) (by kernel_rfl) rfl (by kernel_rfl) rfl (by decide))⟩
def ti7:TI:=.struct [(0,1,false),(1,1,false),(2,1,false),(3,1,false)] [.int .i64 0, .int .i64 0, .bool false, .int .u8 0]
theorem atx:cX Tryz.prog 7 ti7:=⟨bI (by kernel_rfl),(aF (v:=.agg #[.int .i64 0, .int .i64 0, .bool false, .int .u8 0]) (by kernel_rfl) rfl (by kernel_rfl) rfl (by decide))⟩
def ti8:TI:=.struct [(0,1,false),(1,1,false),(2,1,false),(3,1,false)] [.int .i64 0, .int .i64 0, .bool false, .int .u8 0]
theorem aty:cX Tryz.prog 8 ti8:=⟨bI (by kernel_rfl),(aF (v:=.agg #[.int .i64 0, .int .i64 0, .bool false, .int .u8 0]) (by kernel_rfl) rfl (by kernel_rfl) rfl (by decide))⟩
def ti9:TI:=.str
theorem atz:cX Tryz.prog 9 ti9:=⟨by kernel_rfl,(aF (v:=.string ⟨#[]⟩) (by kernel_rfl) rfl (by kernel_rfl) rfl (by decide))⟩
def atA:TI:=.str
theorem anF:cX Tryz.prog 10 atA:=⟨by kernel_rfl,(aF (v:=.string ⟨#[]⟩) (by kernel_rfl) rfl (by kernel_rfl) rfl (by decide))⟩
def atB:TI:=.str
theorem anG:cX Tryz.prog 11 atB:=⟨by kernel_rfl,(aF (v:=.string ⟨#[]⟩) (by kernel_rfl) rfl (by kernel_rfl) rfl (by decide))⟩
def atC:TI:=.int .u64
theorem anH:cX Tryz.prog 12 atC:=⟨by kernel_rfl,(aF (v:=.int .u64 0) (by kernel_rfl) rfl (by kernel_rfl) rfl (by decide))⟩
def atD:TI:=.struct [(0,1,false),(1,1,false)] [.str ⟨#[]⟩, .int .u64 0]
theorem anI:cX Tryz.prog 13 atD:=⟨bI (by kernel_rfl),(aF (v:=.agg #[.string ⟨#[]⟩, .int .u64 0]) (by kernel_rfl) rfl (by kernel_rfl) rfl (by decide))⟩
def atE:TI:=.struct [(0,1,false),(1,1,false)] [.str ⟨#[]⟩, .int .u64 0]
theorem anJ:cX Tryz.prog 14 atE:=⟨bI (by kernel_rfl),(aF (v:=.agg #[.string ⟨#[]⟩, .int .u64 0]) (by kernel_rfl) rfl (by kernel_rfl) rfl (by decide))⟩
def atF:TI:=.int .i32
theorem anK:cX Tryz.prog 21 atF:=⟨by kernel_rfl,(aF (v:=.int .i32 0) (by kernel_rfl) rfl (by kernel_rfl) rfl (by decide))⟩
def atG:TI:=.slice 3 1 8 [.int .i64 0]
theorem anL:cX Tryz.prog 22 atG:=⟨by kernel_rfl,(aF (v:=.slice none 0 0) (by kernel_rfl) rfl (by kernel_rfl) rfl (by decide)),(aF (v:=.int .i64 0) (by kernel_rfl) rfl (by kernel_rfl) rfl (by decide)),c9 (by kernel_rfl)⟩
def atH:TI:=.slice 38 2 32 [.bool false, .nil]
theorem anM:cX Tryz.prog 23 atH:=⟨by kernel_rfl,(aF (v:=.slice none 0 0) (by kernel_rfl) rfl (by kernel_rfl) rfl (by decide)),(aF (v:=.agg #[.bool false, .slice none 0 0]) (by kernel_rfl) rfl (by kernel_rfl) rfl (by decide)),c9 (by kernel_rfl)⟩
def atI:TI:=.slice 38 2 32 [.bool false, .nil]
theorem anN:cX Tryz.prog 24 atI:=⟨by kernel_rfl,(aF (v:=.slice none 0 0) (by kernel_rfl) rfl (by kernel_rfl) rfl (by decide)),(aF (v:=.agg #[.bool false, .slice none 0 0]) (by kernel_rfl) rfl (by kernel_rfl) rfl (by decide)),c9 (by kernel_rfl)⟩
def atJ:TI:=.slice 31 4 64 [.nil, .bool false, .nil, .bool false]
theorem anO:cX Tryz.prog 26 atJ:=⟨by kernel_rfl,(aF (v:=.slice none 0 0) (by kernel_rfl) rfl (by kernel_rfl) rfl (by decide)),(aF (v:=.agg #[.slice none 0 0, .bool false, .slice none 0 0, .bool false]) (by kernel_rfl) rfl (by kernel_rfl) rfl (by decide)),c9 (by kernel_rfl)⟩
def atK:TI:=.slice 3 1 8 [.int .i64 0]
theorem anP:cX Tryz.prog 27 atK:=⟨by kernel_rfl,(aF (v:=.slice none 0 0) (by kernel_rfl) rfl (by kernel_rfl) rfl (by decide)),(aF (v:=.int .i64 0) (by kernel_rfl) rfl (by kernel_rfl) rfl (by decide)),c9 (by kernel_rfl)⟩
def atL:TI:=.struct [(0,1,false),(1,1,false)] [.nil, .bool false]
theorem anQ:cX Tryz.prog 28 atL:=⟨bI (by kernel_rfl),(aF (v:=.agg #[.slice none 0 0, .bool false]) (by kernel_rfl) rfl (by kernel_rfl) rfl (by decide))⟩
def atM:TI:=.struct [(0,1,false),(1,1,false)] [.nil, .bool false]
theorem anR:cX Tryz.prog 29 atM:=⟨bI (by kernel_rfl),(aF (v:=.agg #[.slice none 0 0, .bool false]) (by kernel_rfl) rfl (by kernel_rfl) rfl (by decide))⟩
def atN:TI:=.struct [(0,2,true),(2,2,true)] [.nil, .bool false, .nil, .bool false]
theorem anS:cX Tryz.prog 30 atN:=⟨bI (by kernel_rfl),(aF (v:=.agg #[.slice none 0 0, .bool false, .slice none 0 0, .bool false]) (by kernel_rfl) rfl (by kernel_rfl) rfl (by decide))⟩
def atO:TI:=.struct [(0,2,true),(2,2,true)] [.nil, .bool false, .nil, .bool false]
theorem anT:cX Tryz.prog 31 atO:=⟨bI (by kernel_rfl),(aF (v:=.agg #[.slice none 0 0, .bool false, .slice none 0 0, .bool false]) (by kernel_rfl) rfl (by kernel_rfl) rfl (by decide))⟩
def atP:TI:=.slice 182 1 4 [.int .u32 0]
theorem anU:cX Tryz.prog 36 atP:=⟨by kernel_rfl,(aF (v:=.slice none 0 0) (by kernel_rfl) rfl (by kernel_rfl) rfl (by decide)),(aF (v:=.int .u32 0) (by kernel_rfl) rfl (by kernel_rfl) rfl (by decide)),c9 (by kernel_rfl)⟩
def atQ:TI:=.struct [(0,1,false),(1,1,false)] [.bool false, .nil]
theorem anV:cX Tryz.prog 37 atQ:=⟨bI (by kernel_rfl),(aF (v:=.agg #[.bool false, .slice none 0 0]) (by kernel_rfl) rfl (by kernel_rfl) rfl (by decide))⟩
def atS:TI:=.struct [(0,1,false),(1,1,false)] [.bool false, .nil]
theorem anW:cX Tryz.prog 38 atS:=⟨bI (by kernel_rfl),(aF (v:=.agg #[.bool false, .slice none 0 0]) (by kernel_rfl) rfl (by kernel_rfl) rfl (by decide))⟩
def atT:TI:=.slice 54 9 152 [.nil, .bool false, .nil, .bool false, .nil, .bool false, .nil, .bool false, .nil]
theorem anX:cX Tryz.prog 41 atT:=⟨by kernel_rfl,(aF (v:=.slice none 0 0) (by kernel_rfl) rfl (by kernel_rfl) rfl (by decide)),(aF (v:=.agg #[.slice none 0 0, .bool false, .slice none 0 0, .bool false, .slice none 0 0, .bool false, .slice none 0 0, .bool false, .slice none 0 0]) (by kernel_rfl) rfl (by kernel_rfl) rfl (by decide)),c9 (by kernel_rfl)⟩
def atU:TI:=.int .i64
theorem anY:cX Tryz.prog 42 atU:=⟨by kernel_rfl,(aF (v:=.int .i64 0) (by kernel_rfl) rfl (by kernel_rfl) rfl (by decide))⟩
def atV:TI:=.slice 31 4 64 [.nil, .bool false, .nil, .bool false]
theorem anZ:cX Tryz.prog 46 atV:=⟨by kernel_rfl,(aF (v:=.slice none 0 0) (by kernel_rfl) rfl (by kernel_rfl) rfl (by decide)),(aF (v:=.agg #[.slice none 0 0, .bool false, .slice none 0 0, .bool false]) (by kernel_rfl) rfl (by kernel_rfl) rfl (by decide)),c9 (by kernel_rfl)⟩
def atW:TI:=.slice 46 1 24 [.nil]
theorem an0:cX Tryz.prog 47 atW:=⟨by kernel_rfl,(aF (v:=.slice none 0 0) (by kernel_rfl) rfl (by kernel_rfl) rfl (by decide)),(aF (v:=.slice none 0 0) (by kernel_rfl) rfl (by kernel_rfl) rfl (by decide)),c9 (by kernel_rfl)⟩
def atX:TI:=.struct [(0,1,false),(1,1,false),(2,4,true),(6,4,true)] [.nil, .nil, .nil, .bool false, .nil, .bool false, .nil, .bool false, .nil, .bool false]
theorem an1:cX Tryz.prog 48 atX:=⟨bI (by kernel_rfl),(aF (v:=.agg #[.slice none 0 0, .slice none 0 0, .slice none 0 0, .bool false, .slice none 0 0, .bool false, .slice none 0 0, .bool false, .slice none 0 0, .bool false]) (by kernel_rfl) rfl (by kernel_rfl) rfl (by decide))⟩
def atY:TI:=.struct [(0,1,false),(1,1,false),(2,4,true),(6,4,true)] [.nil, .nil, .nil, .bool false, .nil, .bool false, .nil, .bool false, .nil, .bool false]
theorem an2:cX Tryz.prog 49 atY:=⟨bI (by kernel_rfl),(aF (v:=.agg #[.slice none 0 0, .slice none 0 0, .slice none 0 0, .bool false, .slice none 0 0, .bool false, .slice none 0 0, .bool false, .slice none 0 0, .bool false]) (by kernel_rfl) rfl (by kernel_rfl) rfl (by decide))⟩
def atZ:TI:=.struct [(0,2,true),(2,2,true)] [.bool false, .nil, .bool false, .nil]
theorem an3:cX Tryz.prog 51 atZ:=⟨bI (by kernel_rfl),(aF (v:=.agg #[.bool false, .slice none 0 0, .bool false, .slice none 0 0]) (by kernel_rfl) rfl (by kernel_rfl) rfl (by decide))⟩
def at0:TI:=.struct [(0,2,true),(2,2,true)] [.bool false, .nil, .bool false, .nil]
theorem an4:cX Tryz.prog 52 at0:=⟨bI (by kernel_rfl),(aF (v:=.agg #[.bool false, .slice none 0 0, .bool false, .slice none 0 0]) (by kernel_rfl) rfl (by kernel_rfl) rfl (by decide))⟩
def at1:TI:=.struct [(0,1,false),(1,4,true),(5,4,true)] [.nil, .bool false, .nil, .bool false, .nil, .bool false, .nil, .bool false, .nil]
theorem an5:cX Tryz.prog 53 at1:=⟨bI (by kernel_rfl),(aF (v:=.agg #[.slice none 0 0, .bool false, .slice none 0 0, .bool false, .slice none 0 0, .bool false, .slice none 0 0, .bool false, .slice none 0 0]) (by kernel_rfl) rfl (by kernel_rfl) rfl (by decide))⟩
def at2:TI:=.struct [(0,1,false),(1,4,true),(5,4,true)] [.nil, .bool false, .nil, .bool false, .nil, .bool false, .nil, .bool false, .nil]
theorem an6:cX Tryz.prog 54 at2:=⟨bI (by kernel_rfl),(aF (v:=.agg #[.slice none 0 0, .bool false, .slice none 0 0, .bool false, .slice none 0 0, .bool false, .slice none 0 0, .bool false, .slice none 0 0]) (by kernel_rfl) rfl (by kernel_rfl) rfl (by decide))⟩
def at3:TI:=.slice 49 10 176 [.nil, .nil, .nil, .bool false, .nil, .bool false, .nil, .bool false, .nil, .bool false]
theorem an7:cX Tryz.prog 72 at3:=⟨by kernel_rfl,(aF (v:=.slice none 0 0) (by kernel_rfl) rfl (by kernel_rfl) rfl (by decide)),(aF (v:=.agg #[.slice none 0 0, .slice none 0 0, .slice none 0 0, .bool false, .slice none 0 0, .bool false, .slice none 0 0, .bool false, .slice none 0 0, .bool false]) (by kernel_rfl) rfl (by kernel_rfl) rfl (by decide)),c9 (by kernel_rfl)⟩
def at4:TI:=.slice 94 5 88 [.nil, .nil, .bool false, .nil, .int .i64 0]
theorem an8:cX Tryz.prog 80 at4:=⟨by kernel_rfl,(aF (v:=.slice none 0 0) (by kernel_rfl) rfl (by kernel_rfl) rfl (by decide)),(aF (v:=.agg #[.slice none 0 0, .slice none 0 0, .bool false, .slice none 0 0, .int .i64 0]) (by kernel_rfl) rfl (by kernel_rfl) rfl (by decide)),c9 (by kernel_rfl)⟩
def at5:TI:=.slice 90 7 136 [.nil, .nil, .nil, .nil, .bool false, .nil, .int .i64 0]
theorem an9:cX Tryz.prog 81 at5:=⟨by kernel_rfl,(aF (v:=.slice none 0 0) (by kernel_rfl) rfl (by kernel_rfl) rfl (by decide)),(aF (v:=.agg #[.slice none 0 0, .slice none 0 0, .slice none 0 0, .slice none 0 0, .bool false, .slice none 0 0, .int .i64 0]) (by kernel_rfl) rfl (by kernel_rfl) rfl (by decide)),c9 (by kernel_rfl)⟩
def at6:TI:=.struct [(0,1,false),(1,1,false),(2,2,true)] [.nil, .nil, .bool false, .nil]
theorem aoa:cX Tryz.prog 85 at6:=⟨bI (by kernel_rfl),(aF (v:=.agg #[.slice none 0 0, .slice none 0 0, .bool false, .slice none 0 0]) (by kernel_rfl) rfl (by kernel_rfl) rfl (by decide))⟩
def at7:TI:=.struct [(0,1,false),(1,1,false),(2,2,true)] [.nil, .nil, .bool false, .nil]
theorem aob:cX Tryz.prog 86 at7:=⟨bI (by kernel_rfl),(aF (v:=.agg #[.slice none 0 0, .slice none 0 0, .bool false, .slice none 0 0]) (by kernel_rfl) rfl (by kernel_rfl) rfl (by decide))⟩
def at8:TI:=.struct [(0,1,false),(1,1,false),(2,4,true)] [.nil, .nil, .nil, .nil, .bool false, .nil]
theorem aoc:cX Tryz.prog 87 at8:=⟨bI (by kernel_rfl),(aF (v:=.agg #[.slice none 0 0, .slice none 0 0, .slice none 0 0, .slice none 0 0, .bool false, .slice none 0 0]) (by kernel_rfl) rfl (by kernel_rfl) rfl (by decide))⟩
def at9:TI:=.struct [(0,1,false),(1,1,false),(2,4,true)] [.nil, .nil, .nil, .nil, .bool false, .nil]
theorem aod:cX Tryz.prog 88 at9:=⟨bI (by kernel_rfl),(aF (v:=.agg #[.slice none 0 0, .slice none 0 0, .slice none 0 0, .slice none 0 0, .bool false, .slice none 0 0]) (by kernel_rfl) rfl (by kernel_rfl) rfl (by decide))⟩
def aua:TI:=.struct [(0,6,true),(6,1,false)] [.nil, .nil, .nil, .nil, .bool false, .nil, .int .i64 0]
theorem aoe:cX Tryz.prog 89 aua:=⟨bI (by kernel_rfl),(aF (v:=.agg #[.slice none 0 0, .slice none 0 0, .slice none 0 0, .slice none 0 0, .bool false, .slice none 0 0, .int .i64 0]) (by kernel_rfl) rfl (by kernel_rfl) rfl (by decide))⟩
def aub:TI:=.struct [(0,6,true),(6,1,false)] [.nil, .nil, .nil, .nil, .bool false, .nil, .int .i64 0]
theorem aof:cX Tryz.prog 90 aub:=⟨bI (by kernel_rfl),(aF (v:=.agg #[.slice none 0 0, .slice none 0 0, .slice none 0 0, .slice none 0 0, .bool false, .slice none 0 0, .int .i64 0]) (by kernel_rfl) rfl (by kernel_rfl) rfl (by decide))⟩
def auc:TI:=.fnT
theorem aog:cX Tryz.prog 92 auc:=⟨by kernel_rfl,(aF (v:=.nilFunc) (by kernel_rfl) rfl (by kernel_rfl) rfl (by decide))⟩
def aud:TI:=.struct [(0,4,true),(4,1,false)] [.nil, .nil, .bool false, .nil, .int .i64 0]
theorem aoh:cX Tryz.prog 93 aud:=⟨bI (by kernel_rfl),(aF (v:=.agg #[.slice none 0 0, .slice none 0 0, .bool false, .slice none 0 0, .int .i64 0]) (by kernel_rfl) rfl (by kernel_rfl) rfl (by decide))⟩
def aue:TI:=.struct [(0,4,true),(4,1,false)] [.nil, .nil, .bool false, .nil, .int .i64 0]
theorem aoi:cX Tryz.prog 94 aue:=⟨bI (by kernel_rfl),(aF (v:=.agg #[.slice none 0 0, .slice none 0 0, .bool false, .slice none 0 0, .int .i64 0]) (by kernel_rfl) rfl (by kernel_rfl) rfl (by decide))⟩
def auf:TI:=.slice 92 1 8 [.undef]
theorem aoj:cX Tryz.prog 97 auf:=⟨by kernel_rfl,(aF (v:=.slice none 0 0) (by kernel_rfl) rfl (by kernel_rfl) rfl (by decide)),(aF (v:=.nilFunc) (by kernel_rfl) rfl (by kernel_rfl) rfl (by decide)),c9 (by kernel_rfl)⟩
def akJ:TI:=.slice 109 5 40 [.int .i64 0, .int .i64 0, .int .i64 0, .int .i64 0, .int .i64 0]
theorem ahT:cX Tryz.prog 106 akJ:=⟨by kernel_rfl,(aF (v:=.slice none 0 0) (by kernel_rfl) rfl (by kernel_rfl) rfl (by decide)),(aF (v:=.agg #[.int .i64 0, .int .i64 0, .int .i64 0, .int .i64 0, .int .i64 0]) (by kernel_rfl) rfl (by kernel_rfl) rfl (by decide)),c9 (by kernel_rfl)⟩
def akK:TI:=.arr 3 4 1 [.int .i64 0, .int .i64 0, .int .i64 0, .int .i64 0]
theorem ahU:cX Tryz.prog 107 akK:=⟨by kernel_rfl,(aF (v:=.agg #[.int .i64 0, .int .i64 0, .int .i64 0, .int .i64 0]) (by kernel_rfl) rfl (by kernel_rfl) rfl (by decide)),HV (by kernel_rfl)⟩
def akL:TI:=.struct [(0,1,false),(1,4,true)] [.int .i64 0, .int .i64 0, .int .i64 0, .int .i64 0, .int .i64 0]
theorem ahV:cX Tryz.prog 108 akL:=⟨bI (by kernel_rfl),(aF (v:=.agg #[.int .i64 0, .int .i64 0, .int .i64 0, .int .i64 0, .int .i64 0]) (by kernel_rfl) rfl (by kernel_rfl) rfl (by decide))⟩
def akM:TI:=.struct [(0,1,false),(1,4,true)] [.int .i64 0, .int .i64 0, .int .i64 0, .int .i64 0, .int .i64 0]
theorem ahW:cX Tryz.prog 109 akM:=⟨bI (by kernel_rfl),(aF (v:=.agg #[.int .i64 0, .int .i64 0, .int .i64 0, .int .i64 0, .int .i64 0]) (by kernel_rfl) rfl (by kernel_rfl) rfl (by decide))⟩
def akN:TI:=.slice 113 7 72 [.int .i64 0, .int .i64 0, .int .i64 0, .int .i64 0, .int .i64 0, .nil, .int .i64 0]
theorem ahX:cX Tryz.prog 110 akN:=⟨by kernel_rfl,(aF (v:=.slice none 0 0) (by kernel_rfl) rfl (by kernel_rfl) rfl (by decide)),(aF (v:=.agg #[.int .i64 0, .int .i64 0, .int .i64 0, .int .i64 0, .int .i64 0, .slice none 0 0, .int .i64 0]) (by kernel_rfl) rfl (by kernel_rfl) rfl (by decide)),c9 (by kernel_rfl)⟩
def akO:TI:=.slice 115 9 104 [.int .i64 0, .int .i64 0, .int .i64 0, .int .i64 0, .int .i64 0, .nil, .int .i64 0, .nil, .bool false]
theorem ahY:cX Tryz.prog 111 akO:=⟨by kernel_rfl,(aF (v:=.slice none 0 0) (by kernel_rfl) rfl (by kernel_rfl) rfl (by decide)),(aF (v:=.agg #[.int .i64 0, .int .i64 0, .int .i64 0, .int .i64 0, .int .i64 0, .slice none 0 0, .int .i64 0, .slice none 0 0, .bool false]) (by kernel_rfl) rfl (by kernel_rfl) rfl (by decide)),c9 (by kernel_rfl)⟩
def akP:TI:=.struct [(0,5,true),(5,1,false),(6,1,false)] [.int .i64 0, .int .i64 0, .int .i64 0, .int .i64 0, .int .i64 0, .nil, .int .i64 0]
theorem ahZ:cX Tryz.prog 112 akP:=⟨bI (by kernel_rfl),(aF (v:=.agg #[.int .i64 0, .int .i64 0, .int .i64 0, .int .i64 0, .int .i64 0, .slice none 0 0, .int .i64 0]) (by kernel_rfl) rfl (by kernel_rfl) rfl (by decide))⟩
def akQ:TI:=.struct [(0,5,true),(5,1,false),(6,1,false)] [.int .i64 0, .int .i64 0, .int .i64 0, .int .i64 0, .int .i64 0, .nil, .int .i64 0]
theorem ah0:cX Tryz.prog 113 akQ:=⟨bI (by kernel_rfl),(aF (v:=.agg #[.int .i64 0, .int .i64 0, .int .i64 0, .int .i64 0, .int .i64 0, .slice none 0 0, .int .i64 0]) (by kernel_rfl) rfl (by kernel_rfl) rfl (by decide))⟩
def akR:TI:=.struct [(0,5,true),(5,1,false),(6,1,false),(7,1,false),(8,1,false)] [.int .i64 0, .int .i64 0, .int .i64 0, .int .i64 0, .int .i64 0, .nil, .int .i64 0, .nil, .bool false]
theorem ah1:cX Tryz.prog 114 akR:=⟨bI (by kernel_rfl),(aF (v:=.agg #[.int .i64 0, .int .i64 0, .int .i64 0, .int .i64 0, .int .i64 0, .slice none 0 0, .int .i64 0, .slice none 0 0, .bool false]) (by kernel_rfl) rfl (by kernel_rfl) rfl (by decide))⟩
def akS:TI:=.struct [(0,5,true),(5,1,false),(6,1,false),(7,1,false),(8,1,false)] [.int .i64 0, .int .i64 0, .int .i64 0, .int .i64 0, .int .i64 0, .nil, .int .i64 0, .nil, .bool false]
theorem ah2:cX Tryz.prog 115 akS:=⟨bI (by kernel_rfl),(aF (v:=.agg #[.int .i64 0, .int .i64 0, .int .i64 0, .int .i64 0, .int .i64 0, .slice none 0 0, .int .i64 0, .slice none 0 0, .bool false]) (by kernel_rfl) rfl (by kernel_rfl) rfl (by decide))⟩
def akT:TI:=.slice 24 1 24 [.nil]
theorem ah3:cX Tryz.prog 173 akT:=⟨by kernel_rfl,(aF (v:=.slice none 0 0) (by kernel_rfl) rfl (by kernel_rfl) rfl (by decide)),(aF (v:=.slice none 0 0) (by kernel_rfl) rfl (by kernel_rfl) rfl (by decide)),c9 (by kernel_rfl)⟩
def akU:TI:=.int .u64
theorem ah4:cX Tryz.prog 179 akU:=⟨by kernel_rfl,(aF (v:=.int .u64 0) (by kernel_rfl) rfl (by kernel_rfl) rfl (by decide))⟩
def akV:TI:=.int .u32
theorem ah5:cX Tryz.prog 182 akV:=⟨by kernel_rfl,(aF (v:=.int .u32 0) (by kernel_rfl) rfl (by kernel_rfl) rfl (by decide))⟩
def akW:TI:=.int .u64
theorem ah6:cX Tryz.prog 183 akW:=⟨by kernel_rfl,(aF (v:=.int .u64 0) (by kernel_rfl) rfl (by kernel_rfl) rfl (by decide))⟩
def akX:TI:=.struct [(0,1,false)] [.nil]
theorem ah7:cX Tryz.prog 193 akX:=⟨bI (by kernel_rfl),(aF (v:=.agg #[.slice none 0 0]) (by kernel_rfl) rfl (by kernel_rfl) rfl (by decide))⟩
def akY:TI:=.struct [(0,1,false)] [.nil]
theorem ah8:cX Tryz.prog 194 akY:=⟨bI (by kernel_rfl),(aF (v:=.agg #[.slice none 0 0]) (by kernel_rfl) rfl (by kernel_rfl) rfl (by decide))⟩
def akZ:TI:=.slice 52 4 64 [.bool false, .nil, .bool false, .nil]
theorem ah9:cX Tryz.prog 210 akZ:=⟨by kernel_rfl,(aF (v:=.slice none 0 0) (by kernel_rfl) rfl (by kernel_rfl) rfl (by decide)),(aF (v:=.agg #[.bool false, .slice none 0 0, .bool false, .slice none 0 0]) (by kernel_rfl) rfl (by kernel_rfl) rfl (by decide)),c9 (by kernel_rfl)⟩
def ak0:TI:=.slice 173 1 24 [.nil]
theorem aia:cX Tryz.prog 256 ak0:=⟨by kernel_rfl,(aF (v:=.slice none 0 0) (by kernel_rfl) rfl (by kernel_rfl) rfl (by decide)),(aF (v:=.slice none 0 0) (by kernel_rfl) rfl (by kernel_rfl) rfl (by decide)),c9 (by kernel_rfl)⟩
def ak1:TI:=.int .u8
theorem aib:cX Tryz.prog 279 ak1:=⟨by kernel_rfl,(aF (v:=.int .u8 0) (by kernel_rfl) rfl (by kernel_rfl) rfl (by decide))⟩
def ak2:TI:=.int .u8
theorem aic:cX Tryz.prog 280 ak2:=⟨by kernel_rfl,(aF (v:=.int .u8 0) (by kernel_rfl) rfl (by kernel_rfl) rfl (by decide))⟩
def ak3:TI:=.int .i32
theorem aid:cX Tryz.prog 283 ak3:=⟨by kernel_rfl,(aF (v:=.int .i32 0) (by kernel_rfl) rfl (by kernel_rfl) rfl (by decide))⟩
def ak4:TI:=.int .i32
theorem aie:cX Tryz.prog 284 ak4:=⟨by kernel_rfl,(aF (v:=.int .i32 0) (by kernel_rfl) rfl (by kernel_rfl) rfl (by decide))⟩
def tyF:TypeId→TI
  | 2=>ti2
  | 3=>ti3
  | 4=>ti4
  | 5=>ti5
  | 6=>ti6
  | 7=>ti7
  | 8=>ti8
  | 9=>ti9
  | 10=>atA
  | 11=>atB
  | 12=>atC
  | 13=>atD
  | 14=>atE
  | 21=>atF
  | 22=>atG
  | 23=>atH
  | 24=>atI
  | 26=>atJ
  | 27=>atK
  | 28=>atL
  | 29=>atM
  | 30=>atN
  | 31=>atO
  | 36=>atP
  | 37=>atQ
  | 38=>atS
  | 41=>atT
  | 42=>atU
  | 46=>atV
  | 47=>atW
  | 48=>atX
  | 49=>atY
  | 51=>atZ
  | 52=>at0
  | 53=>at1
  | 54=>at2
  | 72=>at3
  | 80=>at4
  | 81=>at5
  | 85=>at6
  | 86=>at7
  | 87=>at8
  | 88=>at9
  | 89=>aua
  | 90=>aub
  | 92=>auc
  | 93=>aud
  | 94=>aue
  | 97=>auf
  | 106=>akJ
  | 107=>akK
  | 108=>akL
  | 109=>akM
  | 110=>akN
  | 111=>akO
  | 112=>akP
  | 113=>akQ
  | 114=>akR
  | 115=>akS
  | 173=>akT
  | 179=>akU
  | 182=>akV
  | 183=>akW
  | 193=>akX
  | 194=>akY
  | 210=>akZ
  | 256=>ak0
  | 279=>ak1
  | 280=>ak2
  | 283=>ak3
  | 284=>ak4
  | _ => .other
theorem ayS(t:TypeId):cX Tryz.prog t (tyF t):=by
  unfold tyF
  split
  · exact atr
  · exact att
  · exact atu
  · exact atv
  · exact atw
  · exact atx
  · exact aty
  · exact atz
  · exact anF
  · exact anG
  · exact anH
  · exact anI
  · exact anJ
  · exact anK
  · exact anL
  · exact anM
  · exact anN
  · exact anO
  · exact anP
  · exact anQ
  · exact anR
  · exact anS
  · exact anT
  · exact anU
  · exact anV
  · exact anW
  · exact anX
  · exact anY
  · exact anZ
  · exact an0
  · exact an1
  · exact an2
  · exact an3
  · exact an4
  · exact an5
  · exact an6
  · exact an7
  · exact an8
  · exact an9
  · exact aoa
  · exact aob
  · exact aoc
  · exact aod
  · exact aoe
  · exact aof
  · exact aog
  · exact aoh
  · exact aoi
  · exact aoj
  · exact ahT
  · exact ahU
  · exact ahV
  · exact ahW
  · exact ahX
  · exact ahY
  · exact ahZ
  · exact ah0
  · exact ah1
  · exact ah2
  · exact ah3
  · exact ah4
  · exact ah5
  · exact ah6
  · exact ah7
  · exact ah8
  · exact ah9
  · exact aia
  · exact aib
  · exact aic
  · exact aid
  · exact aie
  · trivial
theorem aif:Tryz.prog.follows .mixedOrders=true:=by kernel_rfl
def KU(g:FuncId):Bool:=g==76 || g==181 || g==264 || g==265
noncomputable def env:Env:=⟨Tryz.prog,tyF,ayS,aif,KU⟩
@[simp] theorem aw7:env.writes=KU:=rfl
attribute [simp] KU
@[simp] theorem aEA:env.ty 2 = .int .i64:=rfl
@[simp] theorem ayT:env.ty 3 = .int .i64:=rfl
@[simp] theorem aEB:env.ty 4 = .bool:=rfl
@[simp] theorem aug:env.ty 5 = .int .u8:=rfl
@[simp] theorem aEC:env.ty 6 = .int .u8:=rfl
@[simp] theorem aED:env.ty 7 = .struct [(0,1,false),(1,1,false),(2,1,false),(3,1,false)] [.int .i64 0, .int .i64 0, .bool false, .int .u8 0]:=rfl
@[simp] theorem aEE:env.ty 8 = .struct [(0,1,false),(1,1,false),(2,1,false),(3,1,false)] [.int .i64 0, .int .i64 0, .bool false, .int .u8 0]:=rfl
@[simp] theorem aEF:env.ty 9 = .str:=rfl
@[simp] theorem aB7:env.ty 10 = .str:=rfl
@[simp] theorem aB8:env.ty 11 = .str:=rfl
@[simp] theorem aB9:env.ty 12 = .int .u64:=rfl
@[simp] theorem aCa:env.ty 13 = .struct [(0,1,false),(1,1,false)] [.str ⟨#[]⟩, .int .u64 0]:=rfl
@[simp] theorem aCb:env.ty 14 = .struct [(0,1,false),(1,1,false)] [.str ⟨#[]⟩, .int .u64 0]:=rfl
@[simp] theorem aCc:env.ty 21 = .int .i32:=rfl
@[simp] theorem aCd:env.ty 22 = .slice 3 1 8 [.int .i64 0]:=rfl
@[simp] theorem aCe:env.ty 23 = .slice 38 2 32 [.bool false, .nil]:=rfl
@[simp] theorem aCf:env.ty 24 = .slice 38 2 32 [.bool false, .nil]:=rfl
@[simp] theorem aCg:env.ty 26 = .slice 31 4 64 [.nil, .bool false, .nil, .bool false]:=rfl
@[simp] theorem aCh:env.ty 27 = .slice 3 1 8 [.int .i64 0]:=rfl
@[simp] theorem aCi:env.ty 28 = .struct [(0,1,false),(1,1,false)] [.nil, .bool false]:=rfl
@[simp] theorem aCj:env.ty 29 = .struct [(0,1,false),(1,1,false)] [.nil, .bool false]:=rfl
@[simp] theorem aCk:env.ty 30 = .struct [(0,2,true),(2,2,true)] [.nil, .bool false, .nil, .bool false]:=rfl
@[simp] theorem aCl:env.ty 31 = .struct [(0,2,true),(2,2,true)] [.nil, .bool false, .nil, .bool false]:=rfl
@[simp] theorem aCm:env.ty 36 = .slice 182 1 4 [.int .u32 0]:=rfl
@[simp] theorem aCn:env.ty 37 = .struct [(0,1,false),(1,1,false)] [.bool false, .nil]:=rfl
@[simp] theorem aCo:env.ty 38 = .struct [(0,1,false),(1,1,false)] [.bool false, .nil]:=rfl
@[simp] theorem aCp:env.ty 41 = .slice 54 9 152 [.nil, .bool false, .nil, .bool false, .nil, .bool false, .nil, .bool false, .nil]:=rfl
@[simp] theorem aCq:env.ty 42 = .int .i64:=rfl
@[simp] theorem aCr:env.ty 46 = .slice 31 4 64 [.nil, .bool false, .nil, .bool false]:=rfl
@[simp] theorem aCs:env.ty 47 = .slice 46 1 24 [.nil]:=rfl
@[simp] theorem aCt:env.ty 48 = .struct [(0,1,false),(1,1,false),(2,4,true),(6,4,true)] [.nil, .nil, .nil, .bool false, .nil, .bool false, .nil, .bool false, .nil, .bool false]:=rfl
@[simp] theorem aCu:env.ty 49 = .struct [(0,1,false),(1,1,false),(2,4,true),(6,4,true)] [.nil, .nil, .nil, .bool false, .nil, .bool false, .nil, .bool false, .nil, .bool false]:=rfl
@[simp] theorem aCv:env.ty 51 = .struct [(0,2,true),(2,2,true)] [.bool false, .nil, .bool false, .nil]:=rfl
@[simp] theorem aCw:env.ty 52 = .struct [(0,2,true),(2,2,true)] [.bool false, .nil, .bool false, .nil]:=rfl
@[simp] theorem aCx:env.ty 53 = .struct [(0,1,false),(1,4,true),(5,4,true)] [.nil, .bool false, .nil, .bool false, .nil, .bool false, .nil, .bool false, .nil]:=rfl
@[simp] theorem aCy:env.ty 54 = .struct [(0,1,false),(1,4,true),(5,4,true)] [.nil, .bool false, .nil, .bool false, .nil, .bool false, .nil, .bool false, .nil]:=rfl
@[simp] theorem aCz:env.ty 72 = .slice 49 10 176 [.nil, .nil, .nil, .bool false, .nil, .bool false, .nil, .bool false, .nil, .bool false]:=rfl
@[simp] theorem aCA:env.ty 80 = .slice 94 5 88 [.nil, .nil, .bool false, .nil, .int .i64 0]:=rfl
@[simp] theorem aCB:env.ty 81 = .slice 90 7 136 [.nil, .nil, .nil, .nil, .bool false, .nil, .int .i64 0]:=rfl
@[simp] theorem aCC:env.ty 85 = .struct [(0,1,false),(1,1,false),(2,2,true)] [.nil, .nil, .bool false, .nil]:=rfl
@[simp] theorem aCD:env.ty 86 = .struct [(0,1,false),(1,1,false),(2,2,true)] [.nil, .nil, .bool false, .nil]:=rfl
@[simp] theorem aCE:env.ty 87 = .struct [(0,1,false),(1,1,false),(2,4,true)] [.nil, .nil, .nil, .nil, .bool false, .nil]:=rfl
@[simp] theorem aCF:env.ty 88 = .struct [(0,1,false),(1,1,false),(2,4,true)] [.nil, .nil, .nil, .nil, .bool false, .nil]:=rfl
@[simp] theorem aCG:env.ty 89 = .struct [(0,6,true),(6,1,false)] [.nil, .nil, .nil, .nil, .bool false, .nil, .int .i64 0]:=rfl
@[simp] theorem aCH:env.ty 90 = .struct [(0,6,true),(6,1,false)] [.nil, .nil, .nil, .nil, .bool false, .nil, .int .i64 0]:=rfl
@[simp] theorem aCI:env.ty 92 = .fnT:=rfl
@[simp] theorem aCJ:env.ty 93 = .struct [(0,4,true),(4,1,false)] [.nil, .nil, .bool false, .nil, .int .i64 0]:=rfl
@[simp] theorem aCK:env.ty 94 = .struct [(0,4,true),(4,1,false)] [.nil, .nil, .bool false, .nil, .int .i64 0]:=rfl
@[simp] theorem aCL:env.ty 97 = .slice 92 1 8 [.undef]:=rfl
@[simp] theorem ayU:env.ty 106 = .slice 109 5 40 [.int .i64 0, .int .i64 0, .int .i64 0, .int .i64 0, .int .i64 0]:=rfl
@[simp] theorem ayV:env.ty 107 = .arr 3 4 1 [.int .i64 0, .int .i64 0, .int .i64 0, .int .i64 0]:=rfl
@[simp] theorem ayW:env.ty 108 = .struct [(0,1,false),(1,4,true)] [.int .i64 0, .int .i64 0, .int .i64 0, .int .i64 0, .int .i64 0]:=rfl
@[simp] theorem ayX:env.ty 109 = .struct [(0,1,false),(1,4,true)] [.int .i64 0, .int .i64 0, .int .i64 0, .int .i64 0, .int .i64 0]:=rfl
@[simp] theorem ayY:env.ty 110 = .slice 113 7 72 [.int .i64 0, .int .i64 0, .int .i64 0, .int .i64 0, .int .i64 0, .nil, .int .i64 0]:=rfl
@[simp] theorem ayZ:env.ty 111 = .slice 115 9 104 [.int .i64 0, .int .i64 0, .int .i64 0, .int .i64 0, .int .i64 0, .nil, .int .i64 0, .nil, .bool false]:=rfl
@[simp] theorem ay0:env.ty 112 = .struct [(0,5,true),(5,1,false),(6,1,false)] [.int .i64 0, .int .i64 0, .int .i64 0, .int .i64 0, .int .i64 0, .nil, .int .i64 0]:=rfl
@[simp] theorem ay1:env.ty 113 = .struct [(0,5,true),(5,1,false),(6,1,false)] [.int .i64 0, .int .i64 0, .int .i64 0, .int .i64 0, .int .i64 0, .nil, .int .i64 0]:=rfl
@[simp] theorem ay2:env.ty 114 = .struct [(0,5,true),(5,1,false),(6,1,false),(7,1,false),(8,1,false)] [.int .i64 0, .int .i64 0, .int .i64 0, .int .i64 0, .int .i64 0, .nil, .int .i64 0, .nil, .bool false]:=rfl
@[simp] theorem ay3:env.ty 115 = .struct [(0,5,true),(5,1,false),(6,1,false),(7,1,false),(8,1,false)] [.int .i64 0, .int .i64 0, .int .i64 0, .int .i64 0, .int .i64 0, .nil, .int .i64 0, .nil, .bool false]:=rfl
@[simp] theorem ay4:env.ty 173 = .slice 24 1 24 [.nil]:=rfl
@[simp] theorem ay5:env.ty 179 = .int .u64:=rfl
@[simp] theorem aok:env.ty 182 = .int .u32:=rfl
@[simp] theorem ay6:env.ty 183 = .int .u64:=rfl
@[simp] theorem ay7:env.ty 193 = .struct [(0,1,false)] [.nil]:=rfl
@[simp] theorem ay8:env.ty 194 = .struct [(0,1,false)] [.nil]:=rfl
@[simp] theorem ay9:env.ty 210 = .slice 52 4 64 [.bool false, .nil, .bool false, .nil]:=rfl
@[simp] theorem aza:env.ty 256 = .slice 173 1 24 [.nil]:=rfl
@[simp] theorem azb:env.ty 279 = .int .u8:=rfl
@[simp] theorem azc:env.ty 280 = .int .u8:=rfl
@[simp] theorem azd:env.ty 283 = .int .i32:=rfl
@[simp] theorem aze:env.ty 284 = .int .i32:=rfl
end Go.Proofs.YtelhfbikiccfkaaGreat
