import Derived.Test.YtiobceocpabjdaaGreatProg
import Derived.KernelRfl
import Derived.Test.YtiobceocpabjdaaGreatOad
set_option linter.unusedSimpArgs false
set_option linter.unusedVariables false
/- The types of the seat, as the pure machine wants them: closed facts, each by the kernel. -/
namespace Go.Proofs.YtiobceocpabjdaaGreat
open Go Pm
def ti2:TI:=.int .i64
theorem as4:cA Tryz.prog 2 ti2:=⟨by kernel_rfl,(aD (v:=.int .i64 0) (by kernel_rfl) rfl (by kernel_rfl) rfl (by decide))⟩
def ti3:TI:=.int .i64
theorem as5:cA Tryz.prog 3 ti3:=⟨by kernel_rfl,(aD (v:=.int .i64 0) (by kernel_rfl) rfl (by kernel_rfl) rfl (by decide))⟩
def ti4:TI:=.bool
theorem as6:cA Tryz.prog 4 ti4:=⟨by kernel_rfl,(aD (v:=.bool false) (by kernel_rfl) rfl (by kernel_rfl) rfl (by decide))⟩
def ti5:TI:=.int .u8
theorem as7:cA Tryz.prog 5 ti5:=⟨by kernel_rfl,(aD (v:=.int .u8 0) (by kernel_rfl) rfl (by kernel_rfl) rfl (by decide))⟩
def ti6:TI:=.int .u8
theorem as8:cA Tryz.prog 6 ti6:=⟨by kernel_rfl,(aD (v:=.int .u8 0) (by kernel_rfl) rfl (by kernel_rfl) rfl (by decide))⟩
def ti7:TI:=.struct [(0,1,false),(1,1,false),(2,1,false),(3,1,false)] [.int .i64 0, .int .i64 0, .bool false, .int .u8 0]
theorem as9:cA Tryz.prog 7 ti7:=⟨aT (by kernel_rfl),(aD (v:=.agg #[.int .i64 0, .int .i64 0, .bool false, .int .u8 0]) (by kernel_rfl) rfl (by kernel_rfl) rfl (by decide))⟩
def ti8:TI:=.struct [(0,1,false),(1,1,false),(2,1,false),(3,1,false)] [.int .i64 0, .int .i64 0, .bool false, .int .u8 0]
theorem ata:cA Tryz.prog 8 ti8:=⟨aT (by kernel_rfl),(aD (v:=.agg #[.int .i64 0, .int .i64 0, .bool false, .int .u8 0]) (by kernel_rfl) rfl (by kernel_rfl) rfl (by decide))⟩
def ti9:TI:=.str
theorem atb:cA Tryz.prog 9 ti9:=⟨by kernel_rfl,(aD (v:=.string ⟨#[]⟩) (by kernel_rfl) rfl (by kernel_rfl) rfl (by decide))⟩
def atc:TI:=.str
theorem amN:cA Tryz.prog 10 atc:=⟨by kernel_rfl,(aD (v:=.string ⟨#[]⟩) (by kernel_rfl) rfl (by kernel_rfl) rfl (by decide))⟩
def atd:TI:=.str
theorem amO:cA Tryz.prog 11 atd:=⟨by kernel_rfl,(aD (v:=.string ⟨#[]⟩) (by kernel_rfl) rfl (by kernel_rfl) rfl (by decide))⟩
def ate:TI:=.int .u64
theorem amP:cA Tryz.prog 12 ate:=⟨by kernel_rfl,(aD (v:=.int .u64 0) (by kernel_rfl) rfl (by kernel_rfl) rfl (by decide))⟩
def atf:TI:=.struct [(0,1,false),(1,1,false)] [.str ⟨#[]⟩, .int .u64 0]
theorem amQ:cA Tryz.prog 13 atf:=⟨aT (by kernel_rfl),(aD (v:=.agg #[.string ⟨#[]⟩, .int .u64 0]) (by kernel_rfl) rfl (by kernel_rfl) rfl (by decide))⟩
def atg:TI:=.struct [(0,1,false),(1,1,false)] [.str ⟨#[]⟩, .int .u64 0]
theorem amR:cA Tryz.prog 14 atg:=⟨aT (by kernel_rfl),(aD (v:=.agg #[.string ⟨#[]⟩, .int .u64 0]) (by kernel_rfl) rfl (by kernel_rfl) rfl (by decide))⟩
def ath:TI:=.int .i32
theorem amS:cA Tryz.prog 21 ath:=⟨by kernel_rfl,(aD (v:=.int .i32 0) (by kernel_rfl) rfl (by kernel_rfl) rfl (by decide))⟩
def ati:TI:=.slice 3 1 8 [.int .i64 0]
theorem amT:cA Tryz.prog 22 ati:=⟨by kernel_rfl,(aD (v:=.slice none 0 0) (by kernel_rfl) rfl (by kernel_rfl) rfl (by decide)),(aD (v:=.int .i64 0) (by kernel_rfl) rfl (by kernel_rfl) rfl (by decide)),bZ (by kernel_rfl)⟩
def atj:TI:=.slice 38 2 32 [.bool false, .nil]
theorem amU:cA Tryz.prog 23 atj:=⟨by kernel_rfl,(aD (v:=.slice none 0 0) (by kernel_rfl) rfl (by kernel_rfl) rfl (by decide)),(aD (v:=.agg #[.bool false, .slice none 0 0]) (by kernel_rfl) rfl (by kernel_rfl) rfl (by decide)),bZ (by kernel_rfl)⟩
def atk:TI:=.slice 38 2 32 [.bool false, .nil]
theorem amV:cA Tryz.prog 24 atk:=⟨by kernel_rfl,(aD (v:=.slice none 0 0) (by kernel_rfl) rfl (by kernel_rfl) rfl (by decide)),(aD (v:=.agg #[.bool false, .slice none 0 0]) (by kernel_rfl) rfl (by kernel_rfl) rfl (by decide)),bZ (by kernel_rfl)⟩
def atl:TI:=.slice 31 4 64 [.nil, .bool false, .nil, .bool false]
theorem amW:cA Tryz.prog 26 atl:=⟨by kernel_rfl,(aD (v:=.slice none 0 0) (by kernel_rfl) rfl (by kernel_rfl) rfl (by decide)),(aD (v:=.agg #[.slice none 0 0, .bool false, .slice none 0 0, .bool false]) (by kernel_rfl) rfl (by kernel_rfl) rfl (by decide)),bZ (by kernel_rfl)⟩
def atm:TI:=.slice 3 1 8 [.int .i64 0]
theorem amX:cA Tryz.prog 27 atm:=⟨by kernel_rfl,(aD (v:=.slice none 0 0) (by kernel_rfl) rfl (by kernel_rfl) rfl (by decide)),(aD (v:=.int .i64 0) (by kernel_rfl) rfl (by kernel_rfl) rfl (by decide)),bZ (by kernel_rfl)⟩
def atn:TI:=.struct [(0,1,false),(1,1,false)] [.nil, .bool false]
theorem amY:cA Tryz.prog 28 atn:=⟨aT (by kernel_rfl),(aD (v:=.agg #[.slice none 0 0, .bool false]) (by kernel_rfl) rfl (by kernel_rfl) rfl (by decide))⟩
def ato:TI:=.struct [(0,1,false),(1,1,false)] [.nil, .bool false]
theorem amZ:cA Tryz.prog 29 ato:=⟨aT (by kernel_rfl),(aD (v:=.agg #[.slice none 0 0, .bool false]) (by kernel_rfl) rfl (by kernel_rfl) rfl (by decide))⟩
def atp:TI:=.struct [(0,2,true),(2,2,true)] [.nil, .bool false, .nil, .bool false]
theorem am0:cA Tryz.prog 30 atp:=⟨aT (by kernel_rfl),(aD (v:=.agg #[.slice none 0 0, .bool false, .slice none 0 0, .bool false]) (by kernel_rfl) rfl (by kernel_rfl) rfl (by decide))⟩
def atq:TI:=.struct [(0,2,true),(2,2,true)] [.nil, .bool false, .nil, .bool false]
theorem am1:cA Tryz.prog 31 atq:=⟨aT (by kernel_rfl),(aD (v:=.agg #[.slice none 0 0, .bool false, .slice none 0 0, .bool false]) (by kernel_rfl) rfl (by kernel_rfl) rfl (by decide))⟩
def atr:TI:=.slice 185 1 4 [.int .u32 0]
theorem am2:cA Tryz.prog 36 atr:=⟨by kernel_rfl,(aD (v:=.slice none 0 0) (by kernel_rfl) rfl (by kernel_rfl) rfl (by decide)),(aD (v:=.int .u32 0) (by kernel_rfl) rfl (by kernel_rfl) rfl (by decide)),bZ (by kernel_rfl)⟩
def att:TI:=.struct [(0,1,false),(1,1,false)] [.bool false, .nil]
theorem am3:cA Tryz.prog 37 att:=⟨aT (by kernel_rfl),(aD (v:=.agg #[.bool false, .slice none 0 0]) (by kernel_rfl) rfl (by kernel_rfl) rfl (by decide))⟩
def atu:TI:=.struct [(0,1,false),(1,1,false)] [.bool false, .nil]
theorem am4:cA Tryz.prog 38 atu:=⟨aT (by kernel_rfl),(aD (v:=.agg #[.bool false, .slice none 0 0]) (by kernel_rfl) rfl (by kernel_rfl) rfl (by decide))⟩
def atv:TI:=.slice 54 9 152 [.nil, .bool false, .nil, .bool false, .nil, .bool false, .nil, .bool false, .nil]
theorem am5:cA Tryz.prog 41 atv:=⟨by kernel_rfl,(aD (v:=.slice none 0 0) (by kernel_rfl) rfl (by kernel_rfl) rfl (by decide)),(aD (v:=.agg #[.slice none 0 0, .bool false, .slice none 0 0, .bool false, .slice none 0 0, .bool false, .slice none 0 0, .bool false, .slice none 0 0]) (by kernel_rfl) rfl (by kernel_rfl) rfl (by decide)),bZ (by kernel_rfl)⟩
def atw:TI:=.int .i64
theorem am6:cA Tryz.prog 42 atw:=⟨by kernel_rfl,(aD (v:=.int .i64 0) (by kernel_rfl) rfl (by kernel_rfl) rfl (by decide))⟩
def atx:TI:=.slice 31 4 64 [.nil, .bool false, .nil, .bool false]
theorem am7:cA Tryz.prog 46 atx:=⟨by kernel_rfl,(aD (v:=.slice none 0 0) (by kernel_rfl) rfl (by kernel_rfl) rfl (by decide)),(aD (v:=.agg #[.slice none 0 0, .bool false, .slice none 0 0, .bool false]) (by kernel_rfl) rfl (by kernel_rfl) rfl (by decide)),bZ (by kernel_rfl)⟩
def aty:TI:=.slice 46 1 24 [.nil]
theorem am8:cA Tryz.prog 47 aty:=⟨by kernel_rfl,(aD (v:=.slice none 0 0) (by kernel_rfl) rfl (by kernel_rfl) rfl (by decide)),(aD (v:=.slice none 0 0) (by kernel_rfl) rfl (by kernel_rfl) rfl (by decide)),bZ (by kernel_rfl)⟩
def atz:TI:=.struct [(0,1,false),(1,1,false),(2,4,true),(6,4,true)] [.nil, .nil, .nil, .bool false, .nil, .bool false, .nil, .bool false, .nil, .bool false]
theorem am9:cA Tryz.prog 48 atz:=⟨aT (by kernel_rfl),(aD (v:=.agg #[.slice none 0 0, .slice none 0 0, .slice none 0 0, .bool false, .slice none 0 0, .bool false, .slice none 0 0, .bool false, .slice none 0 0, .bool false]) (by kernel_rfl) rfl (by kernel_rfl) rfl (by decide))⟩
def atA:TI:=.struct [(0,1,false),(1,1,false),(2,4,true),(6,4,true)] [.nil, .nil, .nil, .bool false, .nil, .bool false, .nil, .bool false, .nil, .bool false]
theorem ana:cA Tryz.prog 49 atA:=⟨aT (by kernel_rfl),(aD (v:=.agg #[.slice none 0 0, .slice none 0 0, .slice none 0 0, .bool false, .slice none 0 0, .bool false, .slice none 0 0, .bool false, .slice none 0 0, .bool false]) (by kernel_rfl) rfl (by kernel_rfl) rfl (by decide))⟩
def atB:TI:=.struct [(0,2,true),(2,2,true)] [.bool false, .nil, .bool false, .nil]
theorem anb:cA Tryz.prog 51 atB:=⟨aT (by kernel_rfl),(aD (v:=.agg #[.bool false, .slice none 0 0, .bool false, .slice none 0 0]) (by kernel_rfl) rfl (by kernel_rfl) rfl (by decide))⟩
def atC:TI:=.struct [(0,2,true),(2,2,true)] [.bool false, .nil, .bool false, .nil]
theorem anc:cA Tryz.prog 52 atC:=⟨aT (by kernel_rfl),(aD (v:=.agg #[.bool false, .slice none 0 0, .bool false, .slice none 0 0]) (by kernel_rfl) rfl (by kernel_rfl) rfl (by decide))⟩
def atD:TI:=.struct [(0,1,false),(1,4,true),(5,4,true)] [.nil, .bool false, .nil, .bool false, .nil, .bool false, .nil, .bool false, .nil]
theorem ane:cA Tryz.prog 53 atD:=⟨aT (by kernel_rfl),(aD (v:=.agg #[.slice none 0 0, .bool false, .slice none 0 0, .bool false, .slice none 0 0, .bool false, .slice none 0 0, .bool false, .slice none 0 0]) (by kernel_rfl) rfl (by kernel_rfl) rfl (by decide))⟩
def atE:TI:=.struct [(0,1,false),(1,4,true),(5,4,true)] [.nil, .bool false, .nil, .bool false, .nil, .bool false, .nil, .bool false, .nil]
theorem anf:cA Tryz.prog 54 atE:=⟨aT (by kernel_rfl),(aD (v:=.agg #[.slice none 0 0, .bool false, .slice none 0 0, .bool false, .slice none 0 0, .bool false, .slice none 0 0, .bool false, .slice none 0 0]) (by kernel_rfl) rfl (by kernel_rfl) rfl (by decide))⟩
def atF:TI:=.slice 73 5 88 [.nil, .nil, .bool false, .nil, .int .i64 0]
theorem ang:cA Tryz.prog 62 atF:=⟨by kernel_rfl,(aD (v:=.slice none 0 0) (by kernel_rfl) rfl (by kernel_rfl) rfl (by decide)),(aD (v:=.agg #[.slice none 0 0, .slice none 0 0, .bool false, .slice none 0 0, .int .i64 0]) (by kernel_rfl) rfl (by kernel_rfl) rfl (by decide)),bZ (by kernel_rfl)⟩
def atG:TI:=.slice 155 7 136 [.nil, .nil, .nil, .nil, .bool false, .nil, .int .i64 0]
theorem anh:cA Tryz.prog 63 atG:=⟨by kernel_rfl,(aD (v:=.slice none 0 0) (by kernel_rfl) rfl (by kernel_rfl) rfl (by decide)),(aD (v:=.agg #[.slice none 0 0, .slice none 0 0, .slice none 0 0, .slice none 0 0, .bool false, .slice none 0 0, .int .i64 0]) (by kernel_rfl) rfl (by kernel_rfl) rfl (by decide)),bZ (by kernel_rfl)⟩
def atH:TI:=.fnT
theorem ani:cA Tryz.prog 68 atH:=⟨by kernel_rfl,(aD (v:=.nilFunc) (by kernel_rfl) rfl (by kernel_rfl) rfl (by decide))⟩
def atI:TI:=.slice 68 1 8 [.undef]
theorem anj:cA Tryz.prog 69 atI:=⟨by kernel_rfl,(aD (v:=.slice none 0 0) (by kernel_rfl) rfl (by kernel_rfl) rfl (by decide)),(aD (v:=.nilFunc) (by kernel_rfl) rfl (by kernel_rfl) rfl (by decide)),bZ (by kernel_rfl)⟩
def atJ:TI:=.struct [(0,1,false),(1,1,false),(2,2,true)] [.nil, .nil, .bool false, .nil]
theorem ank:cA Tryz.prog 70 atJ:=⟨aT (by kernel_rfl),(aD (v:=.agg #[.slice none 0 0, .slice none 0 0, .bool false, .slice none 0 0]) (by kernel_rfl) rfl (by kernel_rfl) rfl (by decide))⟩
def atK:TI:=.struct [(0,1,false),(1,1,false),(2,2,true)] [.nil, .nil, .bool false, .nil]
theorem anl:cA Tryz.prog 71 atK:=⟨aT (by kernel_rfl),(aD (v:=.agg #[.slice none 0 0, .slice none 0 0, .bool false, .slice none 0 0]) (by kernel_rfl) rfl (by kernel_rfl) rfl (by decide))⟩
def atL:TI:=.struct [(0,4,true),(4,1,false)] [.nil, .nil, .bool false, .nil, .int .i64 0]
theorem anm:cA Tryz.prog 72 atL:=⟨aT (by kernel_rfl),(aD (v:=.agg #[.slice none 0 0, .slice none 0 0, .bool false, .slice none 0 0, .int .i64 0]) (by kernel_rfl) rfl (by kernel_rfl) rfl (by decide))⟩
def atM:TI:=.struct [(0,4,true),(4,1,false)] [.nil, .nil, .bool false, .nil, .int .i64 0]
theorem ann:cA Tryz.prog 73 atM:=⟨aT (by kernel_rfl),(aD (v:=.agg #[.slice none 0 0, .slice none 0 0, .bool false, .slice none 0 0, .int .i64 0]) (by kernel_rfl) rfl (by kernel_rfl) rfl (by decide))⟩
def atN:TI:=.slice 78 5 40 [.int .i64 0, .int .i64 0, .int .i64 0, .int .i64 0, .int .i64 0]
theorem ano:cA Tryz.prog 75 atN:=⟨by kernel_rfl,(aD (v:=.slice none 0 0) (by kernel_rfl) rfl (by kernel_rfl) rfl (by decide)),(aD (v:=.agg #[.int .i64 0, .int .i64 0, .int .i64 0, .int .i64 0, .int .i64 0]) (by kernel_rfl) rfl (by kernel_rfl) rfl (by decide)),bZ (by kernel_rfl)⟩
def atO:TI:=.arr 3 4 1 [.int .i64 0, .int .i64 0, .int .i64 0, .int .i64 0]
theorem anp:cA Tryz.prog 76 atO:=⟨by kernel_rfl,(aD (v:=.agg #[.int .i64 0, .int .i64 0, .int .i64 0, .int .i64 0]) (by kernel_rfl) rfl (by kernel_rfl) rfl (by decide)),FZ (by kernel_rfl)⟩
def atP:TI:=.struct [(0,1,false),(1,4,true)] [.int .i64 0, .int .i64 0, .int .i64 0, .int .i64 0, .int .i64 0]
theorem anq:cA Tryz.prog 77 atP:=⟨aT (by kernel_rfl),(aD (v:=.agg #[.int .i64 0, .int .i64 0, .int .i64 0, .int .i64 0, .int .i64 0]) (by kernel_rfl) rfl (by kernel_rfl) rfl (by decide))⟩
def atQ:TI:=.struct [(0,1,false),(1,4,true)] [.int .i64 0, .int .i64 0, .int .i64 0, .int .i64 0, .int .i64 0]
theorem anr:cA Tryz.prog 78 atQ:=⟨aT (by kernel_rfl),(aD (v:=.agg #[.int .i64 0, .int .i64 0, .int .i64 0, .int .i64 0, .int .i64 0]) (by kernel_rfl) rfl (by kernel_rfl) rfl (by decide))⟩
def atS:TI:=.slice 82 7 72 [.int .i64 0, .int .i64 0, .int .i64 0, .int .i64 0, .int .i64 0, .nil, .int .i64 0]
theorem ans:cA Tryz.prog 79 atS:=⟨by kernel_rfl,(aD (v:=.slice none 0 0) (by kernel_rfl) rfl (by kernel_rfl) rfl (by decide)),(aD (v:=.agg #[.int .i64 0, .int .i64 0, .int .i64 0, .int .i64 0, .int .i64 0, .slice none 0 0, .int .i64 0]) (by kernel_rfl) rfl (by kernel_rfl) rfl (by decide)),bZ (by kernel_rfl)⟩
def atT:TI:=.slice 85 9 104 [.int .i64 0, .int .i64 0, .int .i64 0, .int .i64 0, .int .i64 0, .nil, .int .i64 0, .nil, .bool false]
theorem ant:cA Tryz.prog 80 atT:=⟨by kernel_rfl,(aD (v:=.slice none 0 0) (by kernel_rfl) rfl (by kernel_rfl) rfl (by decide)),(aD (v:=.agg #[.int .i64 0, .int .i64 0, .int .i64 0, .int .i64 0, .int .i64 0, .slice none 0 0, .int .i64 0, .slice none 0 0, .bool false]) (by kernel_rfl) rfl (by kernel_rfl) rfl (by decide)),bZ (by kernel_rfl)⟩
def atU:TI:=.struct [(0,5,true),(5,1,false),(6,1,false)] [.int .i64 0, .int .i64 0, .int .i64 0, .int .i64 0, .int .i64 0, .nil, .int .i64 0]
theorem anu:cA Tryz.prog 81 atU:=⟨aT (by kernel_rfl),(aD (v:=.agg #[.int .i64 0, .int .i64 0, .int .i64 0, .int .i64 0, .int .i64 0, .slice none 0 0, .int .i64 0]) (by kernel_rfl) rfl (by kernel_rfl) rfl (by decide))⟩
def atV:TI:=.struct [(0,5,true),(5,1,false),(6,1,false)] [.int .i64 0, .int .i64 0, .int .i64 0, .int .i64 0, .int .i64 0, .nil, .int .i64 0]
theorem anv:cA Tryz.prog 82 atV:=⟨aT (by kernel_rfl),(aD (v:=.agg #[.int .i64 0, .int .i64 0, .int .i64 0, .int .i64 0, .int .i64 0, .slice none 0 0, .int .i64 0]) (by kernel_rfl) rfl (by kernel_rfl) rfl (by decide))⟩
def atW:TI:=.slice 49 10 176 [.nil, .nil, .nil, .bool false, .nil, .bool false, .nil, .bool false, .nil, .bool false]
theorem anw:cA Tryz.prog 83 atW:=⟨by kernel_rfl,(aD (v:=.slice none 0 0) (by kernel_rfl) rfl (by kernel_rfl) rfl (by decide)),(aD (v:=.agg #[.slice none 0 0, .slice none 0 0, .slice none 0 0, .bool false, .slice none 0 0, .bool false, .slice none 0 0, .bool false, .slice none 0 0, .bool false]) (by kernel_rfl) rfl (by kernel_rfl) rfl (by decide)),bZ (by kernel_rfl)⟩
def atX:TI:=.struct [(0,5,true),(5,1,false),(6,1,false),(7,1,false),(8,1,false)] [.int .i64 0, .int .i64 0, .int .i64 0, .int .i64 0, .int .i64 0, .nil, .int .i64 0, .nil, .bool false]
theorem anx:cA Tryz.prog 84 atX:=⟨aT (by kernel_rfl),(aD (v:=.agg #[.int .i64 0, .int .i64 0, .int .i64 0, .int .i64 0, .int .i64 0, .slice none 0 0, .int .i64 0, .slice none 0 0, .bool false]) (by kernel_rfl) rfl (by kernel_rfl) rfl (by decide))⟩
def atY:TI:=.struct [(0,5,true),(5,1,false),(6,1,false),(7,1,false),(8,1,false)] [.int .i64 0, .int .i64 0, .int .i64 0, .int .i64 0, .int .i64 0, .nil, .int .i64 0, .nil, .bool false]
theorem anz:cA Tryz.prog 85 atY:=⟨aT (by kernel_rfl),(aD (v:=.agg #[.int .i64 0, .int .i64 0, .int .i64 0, .int .i64 0, .int .i64 0, .slice none 0 0, .int .i64 0, .slice none 0 0, .bool false]) (by kernel_rfl) rfl (by kernel_rfl) rfl (by decide))⟩
def atZ:TI:=.slice 179 18 232 [.int .i64 0, .int .i64 0, .int .i64 0, .int .i64 0, .int .i64 0, .nil, .int .i64 0, .bool false, .bool false, .nil, .bool false, .nil, .bool false, .nil, .bool false, .nil, .bool false, .nil]
theorem anA:cA Tryz.prog 93 atZ:=⟨by kernel_rfl,(aD (v:=.slice none 0 0) (by kernel_rfl) rfl (by kernel_rfl) rfl (by decide)),(aD (v:=.agg #[.int .i64 0, .int .i64 0, .int .i64 0, .int .i64 0, .int .i64 0, .slice none 0 0, .int .i64 0, .bool false, .bool false, .slice none 0 0, .bool false, .slice none 0 0, .bool false, .slice none 0 0, .bool false, .slice none 0 0, .bool false, .slice none 0 0]) (by kernel_rfl) rfl (by kernel_rfl) rfl (by decide)),bZ (by kernel_rfl)⟩
def at0:TI:=.struct [(0,1,false),(1,9,true),(10,1,false),(11,1,false)] [.bool false, .nil, .bool false, .nil, .bool false, .nil, .bool false, .nil, .bool false, .nil, .nil, .int .i64 0]
theorem anB:cA Tryz.prog 94 at0:=⟨aT (by kernel_rfl),(aD (v:=.agg #[.bool false, .slice none 0 0, .bool false, .slice none 0 0, .bool false, .slice none 0 0, .bool false, .slice none 0 0, .bool false, .slice none 0 0, .slice none 0 0, .int .i64 0]) (by kernel_rfl) rfl (by kernel_rfl) rfl (by decide))⟩
def at1:TI:=.struct [(0,1,false),(1,9,true),(10,1,false),(11,1,false)] [.bool false, .nil, .bool false, .nil, .bool false, .nil, .bool false, .nil, .bool false, .nil, .nil, .int .i64 0]
theorem anC:cA Tryz.prog 95 at1:=⟨aT (by kernel_rfl),(aD (v:=.agg #[.bool false, .slice none 0 0, .bool false, .slice none 0 0, .bool false, .slice none 0 0, .bool false, .slice none 0 0, .bool false, .slice none 0 0, .slice none 0 0, .int .i64 0]) (by kernel_rfl) rfl (by kernel_rfl) rfl (by decide))⟩
def ajQ:TI:=.slice 22 1 24 [.nil]
theorem agK:cA Tryz.prog 102 ajQ:=⟨by kernel_rfl,(aD (v:=.slice none 0 0) (by kernel_rfl) rfl (by kernel_rfl) rfl (by decide)),(aD (v:=.slice none 0 0) (by kernel_rfl) rfl (by kernel_rfl) rfl (by decide)),bZ (by kernel_rfl)⟩
def ajR:TI:=.slice 115 14 192 [.int .i64 0, .int .i64 0, .int .i64 0, .int .i64 0, .int .i64 0, .nil, .bool false, .nil, .bool false, .nil, .bool false, .nil, .bool false, .nil]
theorem agL:cA Tryz.prog 110 ajR:=⟨by kernel_rfl,(aD (v:=.slice none 0 0) (by kernel_rfl) rfl (by kernel_rfl) rfl (by decide)),(aD (v:=.agg #[.int .i64 0, .int .i64 0, .int .i64 0, .int .i64 0, .int .i64 0, .slice none 0 0, .bool false, .slice none 0 0, .bool false, .slice none 0 0, .bool false, .slice none 0 0, .bool false, .slice none 0 0]) (by kernel_rfl) rfl (by kernel_rfl) rfl (by decide)),bZ (by kernel_rfl)⟩
def ajS:TI:=.struct [(0,5,true),(5,9,true)] [.int .i64 0, .int .i64 0, .int .i64 0, .int .i64 0, .int .i64 0, .nil, .bool false, .nil, .bool false, .nil, .bool false, .nil, .bool false, .nil]
theorem agM:cA Tryz.prog 114 ajS:=⟨aT (by kernel_rfl),(aD (v:=.agg #[.int .i64 0, .int .i64 0, .int .i64 0, .int .i64 0, .int .i64 0, .slice none 0 0, .bool false, .slice none 0 0, .bool false, .slice none 0 0, .bool false, .slice none 0 0, .bool false, .slice none 0 0]) (by kernel_rfl) rfl (by kernel_rfl) rfl (by decide))⟩
def ajT:TI:=.struct [(0,5,true),(5,9,true)] [.int .i64 0, .int .i64 0, .int .i64 0, .int .i64 0, .int .i64 0, .nil, .bool false, .nil, .bool false, .nil, .bool false, .nil, .bool false, .nil]
theorem agN:cA Tryz.prog 115 ajT:=⟨aT (by kernel_rfl),(aD (v:=.agg #[.int .i64 0, .int .i64 0, .int .i64 0, .int .i64 0, .int .i64 0, .slice none 0 0, .bool false, .slice none 0 0, .bool false, .slice none 0 0, .bool false, .slice none 0 0, .bool false, .slice none 0 0]) (by kernel_rfl) rfl (by kernel_rfl) rfl (by decide))⟩
def ajU:TI:=.struct [(0,1,false),(1,1,false),(2,4,true)] [.nil, .nil, .nil, .nil, .bool false, .nil]
theorem agO:cA Tryz.prog 152 ajU:=⟨aT (by kernel_rfl),(aD (v:=.agg #[.slice none 0 0, .slice none 0 0, .slice none 0 0, .slice none 0 0, .bool false, .slice none 0 0]) (by kernel_rfl) rfl (by kernel_rfl) rfl (by decide))⟩
def ajV:TI:=.struct [(0,1,false),(1,1,false),(2,4,true)] [.nil, .nil, .nil, .nil, .bool false, .nil]
theorem agP:cA Tryz.prog 153 ajV:=⟨aT (by kernel_rfl),(aD (v:=.agg #[.slice none 0 0, .slice none 0 0, .slice none 0 0, .slice none 0 0, .bool false, .slice none 0 0]) (by kernel_rfl) rfl (by kernel_rfl) rfl (by decide))⟩
def ajW:TI:=.struct [(0,6,true),(6,1,false)] [.nil, .nil, .nil, .nil, .bool false, .nil, .int .i64 0]
theorem agQ:cA Tryz.prog 154 ajW:=⟨aT (by kernel_rfl),(aD (v:=.agg #[.slice none 0 0, .slice none 0 0, .slice none 0 0, .slice none 0 0, .bool false, .slice none 0 0, .int .i64 0]) (by kernel_rfl) rfl (by kernel_rfl) rfl (by decide))⟩
def ajX:TI:=.struct [(0,6,true),(6,1,false)] [.nil, .nil, .nil, .nil, .bool false, .nil, .int .i64 0]
theorem agR:cA Tryz.prog 155 ajX:=⟨aT (by kernel_rfl),(aD (v:=.agg #[.slice none 0 0, .slice none 0 0, .slice none 0 0, .slice none 0 0, .bool false, .slice none 0 0, .int .i64 0]) (by kernel_rfl) rfl (by kernel_rfl) rfl (by decide))⟩
def ajY:TI:=.struct [(0,7,true),(7,1,false),(8,1,false),(9,9,true)] [.int .i64 0, .int .i64 0, .int .i64 0, .int .i64 0, .int .i64 0, .nil, .int .i64 0, .bool false, .bool false, .nil, .bool false, .nil, .bool false, .nil, .bool false, .nil, .bool false, .nil]
theorem agS:cA Tryz.prog 178 ajY:=⟨aT (by kernel_rfl),(aD (v:=.agg #[.int .i64 0, .int .i64 0, .int .i64 0, .int .i64 0, .int .i64 0, .slice none 0 0, .int .i64 0, .bool false, .bool false, .slice none 0 0, .bool false, .slice none 0 0, .bool false, .slice none 0 0, .bool false, .slice none 0 0, .bool false, .slice none 0 0]) (by kernel_rfl) rfl (by kernel_rfl) rfl (by decide))⟩
def ajZ:TI:=.struct [(0,7,true),(7,1,false),(8,1,false),(9,9,true)] [.int .i64 0, .int .i64 0, .int .i64 0, .int .i64 0, .int .i64 0, .nil, .int .i64 0, .bool false, .bool false, .nil, .bool false, .nil, .bool false, .nil, .bool false, .nil, .bool false, .nil]
theorem agT:cA Tryz.prog 179 ajZ:=⟨aT (by kernel_rfl),(aD (v:=.agg #[.int .i64 0, .int .i64 0, .int .i64 0, .int .i64 0, .int .i64 0, .slice none 0 0, .int .i64 0, .bool false, .bool false, .slice none 0 0, .bool false, .slice none 0 0, .bool false, .slice none 0 0, .bool false, .slice none 0 0, .bool false, .slice none 0 0]) (by kernel_rfl) rfl (by kernel_rfl) rfl (by decide))⟩
def aj0:TI:=.int .u64
theorem agU:cA Tryz.prog 182 aj0:=⟨by kernel_rfl,(aD (v:=.int .u64 0) (by kernel_rfl) rfl (by kernel_rfl) rfl (by decide))⟩
def aj1:TI:=.int .u32
theorem agV:cA Tryz.prog 185 aj1:=⟨by kernel_rfl,(aD (v:=.int .u32 0) (by kernel_rfl) rfl (by kernel_rfl) rfl (by decide))⟩
def aj2:TI:=.int .u64
theorem agW:cA Tryz.prog 186 aj2:=⟨by kernel_rfl,(aD (v:=.int .u64 0) (by kernel_rfl) rfl (by kernel_rfl) rfl (by decide))⟩
def aj3:TI:=.slice 24 1 24 [.nil]
theorem agX:cA Tryz.prog 197 aj3:=⟨by kernel_rfl,(aD (v:=.slice none 0 0) (by kernel_rfl) rfl (by kernel_rfl) rfl (by decide)),(aD (v:=.slice none 0 0) (by kernel_rfl) rfl (by kernel_rfl) rfl (by decide)),bZ (by kernel_rfl)⟩
def aj4:TI:=.struct [(0,1,false)] [.nil]
theorem agY:cA Tryz.prog 198 aj4:=⟨aT (by kernel_rfl),(aD (v:=.agg #[.slice none 0 0]) (by kernel_rfl) rfl (by kernel_rfl) rfl (by decide))⟩
def aj5:TI:=.struct [(0,1,false)] [.nil]
theorem agZ:cA Tryz.prog 199 aj5:=⟨aT (by kernel_rfl),(aD (v:=.agg #[.slice none 0 0]) (by kernel_rfl) rfl (by kernel_rfl) rfl (by decide))⟩
def aj6:TI:=.slice 52 4 64 [.bool false, .nil, .bool false, .nil]
theorem ag0:cA Tryz.prog 218 aj6:=⟨by kernel_rfl,(aD (v:=.slice none 0 0) (by kernel_rfl) rfl (by kernel_rfl) rfl (by decide)),(aD (v:=.agg #[.bool false, .slice none 0 0, .bool false, .slice none 0 0]) (by kernel_rfl) rfl (by kernel_rfl) rfl (by decide)),bZ (by kernel_rfl)⟩
def aj7:TI:=.slice 197 1 24 [.nil]
theorem ag1:cA Tryz.prog 269 aj7:=⟨by kernel_rfl,(aD (v:=.slice none 0 0) (by kernel_rfl) rfl (by kernel_rfl) rfl (by decide)),(aD (v:=.slice none 0 0) (by kernel_rfl) rfl (by kernel_rfl) rfl (by decide)),bZ (by kernel_rfl)⟩
def aj8:TI:=.int .u8
theorem ag2:cA Tryz.prog 298 aj8:=⟨by kernel_rfl,(aD (v:=.int .u8 0) (by kernel_rfl) rfl (by kernel_rfl) rfl (by decide))⟩
def aj9:TI:=.int .u8
theorem ag3:cA Tryz.prog 299 aj9:=⟨by kernel_rfl,(aD (v:=.int .u8 0) (by kernel_rfl) rfl (by kernel_rfl) rfl (by decide))⟩
def aka:TI:=.int .i32
theorem ag4:cA Tryz.prog 302 aka:=⟨by kernel_rfl,(aD (v:=.int .i32 0) (by kernel_rfl) rfl (by kernel_rfl) rfl (by decide))⟩
def akb:TI:=.int .i32
theorem ag5:cA Tryz.prog 303 akb:=⟨by kernel_rfl,(aD (v:=.int .i32 0) (by kernel_rfl) rfl (by kernel_rfl) rfl (by decide))⟩
def tyF:TypeId→TI
  | 2=>ti2
  | 3=>ti3
  | 4=>ti4
  | 5=>ti5
  | 6=>ti6
  | 7=>ti7
  | 8=>ti8
  | 9=>ti9
  | 10=>atc
  | 11=>atd
  | 12=>ate
  | 13=>atf
  | 14=>atg
  | 21=>ath
  | 22=>ati
  | 23=>atj
  | 24=>atk
  | 26=>atl
  | 27=>atm
  | 28=>atn
  | 29=>ato
  | 30=>atp
  | 31=>atq
  | 36=>atr
  | 37=>att
  | 38=>atu
  | 41=>atv
  | 42=>atw
  | 46=>atx
  | 47=>aty
  | 48=>atz
  | 49=>atA
  | 51=>atB
  | 52=>atC
  | 53=>atD
  | 54=>atE
  | 62=>atF
  | 63=>atG
  | 68=>atH
  | 69=>atI
  | 70=>atJ
  | 71=>atK
  | 72=>atL
  | 73=>atM
  | 75=>atN
  | 76=>atO
  | 77=>atP
  | 78=>atQ
  | 79=>atS
  | 80=>atT
  | 81=>atU
  | 82=>atV
  | 83=>atW
  | 84=>atX
  | 85=>atY
  | 93=>atZ
  | 94=>at0
  | 95=>at1
  | 102=>ajQ
  | 110=>ajR
  | 114=>ajS
  | 115=>ajT
  | 152=>ajU
  | 153=>ajV
  | 154=>ajW
  | 155=>ajX
  | 178=>ajY
  | 179=>ajZ
  | 182=>aj0
  | 185=>aj1
  | 186=>aj2
  | 197=>aj3
  | 198=>aj4
  | 199=>aj5
  | 218=>aj6
  | 269=>aj7
  | 298=>aj8
  | 299=>aj9
  | 302=>aka
  | 303=>akb
  | _ => .other
theorem ayG(t:TypeId):cA Tryz.prog t (tyF t):=by
  unfold tyF
  split
  · exact as4
  · exact as5
  · exact as6
  · exact as7
  · exact as8
  · exact as9
  · exact ata
  · exact atb
  · exact amN
  · exact amO
  · exact amP
  · exact amQ
  · exact amR
  · exact amS
  · exact amT
  · exact amU
  · exact amV
  · exact amW
  · exact amX
  · exact amY
  · exact amZ
  · exact am0
  · exact am1
  · exact am2
  · exact am3
  · exact am4
  · exact am5
  · exact am6
  · exact am7
  · exact am8
  · exact am9
  · exact ana
  · exact anb
  · exact anc
  · exact ane
  · exact anf
  · exact ang
  · exact anh
  · exact ani
  · exact anj
  · exact ank
  · exact anl
  · exact anm
  · exact ann
  · exact ano
  · exact anp
  · exact anq
  · exact anr
  · exact ans
  · exact ant
  · exact anu
  · exact anv
  · exact anw
  · exact anx
  · exact anz
  · exact anA
  · exact anB
  · exact anC
  · exact agK
  · exact agL
  · exact agM
  · exact agN
  · exact agO
  · exact agP
  · exact agQ
  · exact agR
  · exact agS
  · exact agT
  · exact agU
  · exact agV
  · exact agW
  · exact agX
  · exact agY
  · exact agZ
  · exact ag0
  · exact ag1
  · exact ag2
  · exact ag3
  · exact ag4
  · exact ag5
  · trivial
theorem ag6:Tryz.prog.follows .mixedOrders=true:=by kernel_rfl
def I7(g:FuncId):Bool:=g==72 || g==184 || g==270 || g==271
def wF(g:FuncId):Bool:=g==42 || g==43 || g==44 || g==47 || g==49 || g==51 || g==52 || g==109 || g==120 || g==191
noncomputable def env:Env:=⟨Tryz.prog,tyF,ayG,ag6,I7,wF⟩
@[simp] theorem awQ:env.writes=I7:=rfl
@[simp] theorem at2:env.HW=wF:=rfl
attribute [simp] I7 wF
@[simp] theorem aEo:env.ty 2 = .int .i64:=rfl
@[simp] theorem ayH:env.ty 3 = .int .i64:=rfl
@[simp] theorem aEp:env.ty 4 = .bool:=rfl
@[simp] theorem at3:env.ty 5 = .int .u8:=rfl
@[simp] theorem aEq:env.ty 6 = .int .u8:=rfl
@[simp] theorem aEr:env.ty 7 = .struct [(0,1,false),(1,1,false),(2,1,false),(3,1,false)] [.int .i64 0, .int .i64 0, .bool false, .int .u8 0]:=rfl
@[simp] theorem aEs:env.ty 8 = .struct [(0,1,false),(1,1,false),(2,1,false),(3,1,false)] [.int .i64 0, .int .i64 0, .bool false, .int .u8 0]:=rfl
@[simp] theorem aEt:env.ty 9 = .str:=rfl
@[simp] theorem aBQ:env.ty 10 = .str:=rfl
@[simp] theorem aBR:env.ty 11 = .str:=rfl
@[simp] theorem aBS:env.ty 12 = .int .u64:=rfl
@[simp] theorem aBT:env.ty 13 = .struct [(0,1,false),(1,1,false)] [.str ⟨#[]⟩, .int .u64 0]:=rfl
@[simp] theorem aBU:env.ty 14 = .struct [(0,1,false),(1,1,false)] [.str ⟨#[]⟩, .int .u64 0]:=rfl
@[simp] theorem aBV:env.ty 21 = .int .i32:=rfl
@[simp] theorem aBW:env.ty 22 = .slice 3 1 8 [.int .i64 0]:=rfl
@[simp] theorem aBX:env.ty 23 = .slice 38 2 32 [.bool false, .nil]:=rfl
@[simp] theorem aBY:env.ty 24 = .slice 38 2 32 [.bool false, .nil]:=rfl
@[simp] theorem aBZ:env.ty 26 = .slice 31 4 64 [.nil, .bool false, .nil, .bool false]:=rfl
@[simp] theorem aB0:env.ty 27 = .slice 3 1 8 [.int .i64 0]:=rfl
@[simp] theorem aB1:env.ty 28 = .struct [(0,1,false),(1,1,false)] [.nil, .bool false]:=rfl
@[simp] theorem aB2:env.ty 29 = .struct [(0,1,false),(1,1,false)] [.nil, .bool false]:=rfl
@[simp] theorem aB3:env.ty 30 = .struct [(0,2,true),(2,2,true)] [.nil, .bool false, .nil, .bool false]:=rfl
@[simp] theorem aB4:env.ty 31 = .struct [(0,2,true),(2,2,true)] [.nil, .bool false, .nil, .bool false]:=rfl
@[simp] theorem aB5:env.ty 36 = .slice 185 1 4 [.int .u32 0]:=rfl
@[simp] theorem aB6:env.ty 37 = .struct [(0,1,false),(1,1,false)] [.bool false, .nil]:=rfl
@[simp] theorem aB7:env.ty 38 = .struct [(0,1,false),(1,1,false)] [.bool false, .nil]:=rfl
@[simp] theorem aB8:env.ty 41 = .slice 54 9 152 [.nil, .bool false, .nil, .bool false, .nil, .bool false, .nil, .bool false, .nil]:=rfl
@[simp] theorem aB9:env.ty 42 = .int .i64:=rfl
@[simp] theorem aCa:env.ty 46 = .slice 31 4 64 [.nil, .bool false, .nil, .bool false]:=rfl
@[simp] theorem aCb:env.ty 47 = .slice 46 1 24 [.nil]:=rfl
@[simp] theorem aCc:env.ty 48 = .struct [(0,1,false),(1,1,false),(2,4,true),(6,4,true)] [.nil, .nil, .nil, .bool false, .nil, .bool false, .nil, .bool false, .nil, .bool false]:=rfl
@[simp] theorem aCd:env.ty 49 = .struct [(0,1,false),(1,1,false),(2,4,true),(6,4,true)] [.nil, .nil, .nil, .bool false, .nil, .bool false, .nil, .bool false, .nil, .bool false]:=rfl
@[simp] theorem aCe:env.ty 51 = .struct [(0,2,true),(2,2,true)] [.bool false, .nil, .bool false, .nil]:=rfl
@[simp] theorem aCf:env.ty 52 = .struct [(0,2,true),(2,2,true)] [.bool false, .nil, .bool false, .nil]:=rfl
@[simp] theorem aCg:env.ty 53 = .struct [(0,1,false),(1,4,true),(5,4,true)] [.nil, .bool false, .nil, .bool false, .nil, .bool false, .nil, .bool false, .nil]:=rfl
@[simp] theorem aCh:env.ty 54 = .struct [(0,1,false),(1,4,true),(5,4,true)] [.nil, .bool false, .nil, .bool false, .nil, .bool false, .nil, .bool false, .nil]:=rfl
@[simp] theorem aCi:env.ty 62 = .slice 73 5 88 [.nil, .nil, .bool false, .nil, .int .i64 0]:=rfl
@[simp] theorem aCj:env.ty 63 = .slice 155 7 136 [.nil, .nil, .nil, .nil, .bool false, .nil, .int .i64 0]:=rfl
@[simp] theorem aCk:env.ty 68 = .fnT:=rfl
@[simp] theorem aCl:env.ty 69 = .slice 68 1 8 [.undef]:=rfl
@[simp] theorem aCm:env.ty 70 = .struct [(0,1,false),(1,1,false),(2,2,true)] [.nil, .nil, .bool false, .nil]:=rfl
@[simp] theorem aCn:env.ty 71 = .struct [(0,1,false),(1,1,false),(2,2,true)] [.nil, .nil, .bool false, .nil]:=rfl
@[simp] theorem aCo:env.ty 72 = .struct [(0,4,true),(4,1,false)] [.nil, .nil, .bool false, .nil, .int .i64 0]:=rfl
@[simp] theorem aCp:env.ty 73 = .struct [(0,4,true),(4,1,false)] [.nil, .nil, .bool false, .nil, .int .i64 0]:=rfl
@[simp] theorem aCq:env.ty 75 = .slice 78 5 40 [.int .i64 0, .int .i64 0, .int .i64 0, .int .i64 0, .int .i64 0]:=rfl
@[simp] theorem aCr:env.ty 76 = .arr 3 4 1 [.int .i64 0, .int .i64 0, .int .i64 0, .int .i64 0]:=rfl
@[simp] theorem aCs:env.ty 77 = .struct [(0,1,false),(1,4,true)] [.int .i64 0, .int .i64 0, .int .i64 0, .int .i64 0, .int .i64 0]:=rfl
@[simp] theorem aCt:env.ty 78 = .struct [(0,1,false),(1,4,true)] [.int .i64 0, .int .i64 0, .int .i64 0, .int .i64 0, .int .i64 0]:=rfl
@[simp] theorem aCu:env.ty 79 = .slice 82 7 72 [.int .i64 0, .int .i64 0, .int .i64 0, .int .i64 0, .int .i64 0, .nil, .int .i64 0]:=rfl
@[simp] theorem aCv:env.ty 80 = .slice 85 9 104 [.int .i64 0, .int .i64 0, .int .i64 0, .int .i64 0, .int .i64 0, .nil, .int .i64 0, .nil, .bool false]:=rfl
@[simp] theorem aCw:env.ty 81 = .struct [(0,5,true),(5,1,false),(6,1,false)] [.int .i64 0, .int .i64 0, .int .i64 0, .int .i64 0, .int .i64 0, .nil, .int .i64 0]:=rfl
@[simp] theorem aCx:env.ty 82 = .struct [(0,5,true),(5,1,false),(6,1,false)] [.int .i64 0, .int .i64 0, .int .i64 0, .int .i64 0, .int .i64 0, .nil, .int .i64 0]:=rfl
@[simp] theorem aCy:env.ty 83 = .slice 49 10 176 [.nil, .nil, .nil, .bool false, .nil, .bool false, .nil, .bool false, .nil, .bool false]:=rfl
@[simp] theorem aCz:env.ty 84 = .struct [(0,5,true),(5,1,false),(6,1,false),(7,1,false),(8,1,false)] [.int .i64 0, .int .i64 0, .int .i64 0, .int .i64 0, .int .i64 0, .nil, .int .i64 0, .nil, .bool false]:=rfl
@[simp] theorem aCA:env.ty 85 = .struct [(0,5,true),(5,1,false),(6,1,false),(7,1,false),(8,1,false)] [.int .i64 0, .int .i64 0, .int .i64 0, .int .i64 0, .int .i64 0, .nil, .int .i64 0, .nil, .bool false]:=rfl
@[simp] theorem aCB:env.ty 93 = .slice 179 18 232 [.int .i64 0, .int .i64 0, .int .i64 0, .int .i64 0, .int .i64 0, .nil, .int .i64 0, .bool false, .bool false, .nil, .bool false, .nil, .bool false, .nil, .bool false, .nil, .bool false, .nil]:=rfl
@[simp] theorem aCC:env.ty 94 = .struct [(0,1,false),(1,9,true),(10,1,false),(11,1,false)] [.bool false, .nil, .bool false, .nil, .bool false, .nil, .bool false, .nil, .bool false, .nil, .nil, .int .i64 0]:=rfl
@[simp] theorem aCD:env.ty 95 = .struct [(0,1,false),(1,9,true),(10,1,false),(11,1,false)] [.bool false, .nil, .bool false, .nil, .bool false, .nil, .bool false, .nil, .bool false, .nil, .nil, .int .i64 0]:=rfl
@[simp] theorem ayI:env.ty 102 = .slice 22 1 24 [.nil]:=rfl
@[simp] theorem ayJ:env.ty 110 = .slice 115 14 192 [.int .i64 0, .int .i64 0, .int .i64 0, .int .i64 0, .int .i64 0, .nil, .bool false, .nil, .bool false, .nil, .bool false, .nil, .bool false, .nil]:=rfl
@[simp] theorem ayK:env.ty 114 = .struct [(0,5,true),(5,9,true)] [.int .i64 0, .int .i64 0, .int .i64 0, .int .i64 0, .int .i64 0, .nil, .bool false, .nil, .bool false, .nil, .bool false, .nil, .bool false, .nil]:=rfl
@[simp] theorem ayL:env.ty 115 = .struct [(0,5,true),(5,9,true)] [.int .i64 0, .int .i64 0, .int .i64 0, .int .i64 0, .int .i64 0, .nil, .bool false, .nil, .bool false, .nil, .bool false, .nil, .bool false, .nil]:=rfl
@[simp] theorem ayM:env.ty 152 = .struct [(0,1,false),(1,1,false),(2,4,true)] [.nil, .nil, .nil, .nil, .bool false, .nil]:=rfl
@[simp] theorem ayN:env.ty 153 = .struct [(0,1,false),(1,1,false),(2,4,true)] [.nil, .nil, .nil, .nil, .bool false, .nil]:=rfl
@[simp] theorem ayO:env.ty 154 = .struct [(0,6,true),(6,1,false)] [.nil, .nil, .nil, .nil, .bool false, .nil, .int .i64 0]:=rfl
@[simp] theorem ayP:env.ty 155 = .struct [(0,6,true),(6,1,false)] [.nil, .nil, .nil, .nil, .bool false, .nil, .int .i64 0]:=rfl
@[simp] theorem ayQ:env.ty 178 = .struct [(0,7,true),(7,1,false),(8,1,false),(9,9,true)] [.int .i64 0, .int .i64 0, .int .i64 0, .int .i64 0, .int .i64 0, .nil, .int .i64 0, .bool false, .bool false, .nil, .bool false, .nil, .bool false, .nil, .bool false, .nil, .bool false, .nil]:=rfl
@[simp] theorem ayR:env.ty 179 = .struct [(0,7,true),(7,1,false),(8,1,false),(9,9,true)] [.int .i64 0, .int .i64 0, .int .i64 0, .int .i64 0, .int .i64 0, .nil, .int .i64 0, .bool false, .bool false, .nil, .bool false, .nil, .bool false, .nil, .bool false, .nil, .bool false, .nil]:=rfl
@[simp] theorem ayS:env.ty 182 = .int .u64:=rfl
@[simp] theorem anD:env.ty 185 = .int .u32:=rfl
@[simp] theorem ayT:env.ty 186 = .int .u64:=rfl
@[simp] theorem ayU:env.ty 197 = .slice 24 1 24 [.nil]:=rfl
@[simp] theorem ayV:env.ty 198 = .struct [(0,1,false)] [.nil]:=rfl
@[simp] theorem ayW:env.ty 199 = .struct [(0,1,false)] [.nil]:=rfl
@[simp] theorem ayX:env.ty 218 = .slice 52 4 64 [.bool false, .nil, .bool false, .nil]:=rfl
@[simp] theorem ayY:env.ty 269 = .slice 197 1 24 [.nil]:=rfl
@[simp] theorem ayZ:env.ty 298 = .int .u8:=rfl
@[simp] theorem ay0:env.ty 299 = .int .u8:=rfl
@[simp] theorem ay1:env.ty 302 = .int .i32:=rfl
@[simp] theorem ay2:env.ty 303 = .int .i32:=rfl
end Go.Proofs.YtiobceocpabjdaaGreat
