import Derived.Test.YtiobceocpabjdaaGreatProg
import Derived.KernelRfl
import Derived.Test.YtiobceocpabjdaaGreatEad
set_option linter.unusedSimpArgs false
set_option linter.unusedVariables false
/- The types of the seat, as the pure machine wants them: closed facts, each by the kernel. -/
namespace Go.Proofs.YtiobceocpabjdaaGreat
open Go Pm
def ti2:TI:=.int .i64
theorem aqq:b6 Tryz.prog 2 ti2:=⟨by kernel_rfl,(aB (v:=.int .i64 0) (by kernel_rfl) rfl (by kernel_rfl) rfl (by decide))⟩
def ti3:TI:=.int .i64
theorem aqr:b6 Tryz.prog 3 ti3:=⟨by kernel_rfl,(aB (v:=.int .i64 0) (by kernel_rfl) rfl (by kernel_rfl) rfl (by decide))⟩
def ti4:TI:=.bool
theorem aqs:b6 Tryz.prog 4 ti4:=⟨by kernel_rfl,(aB (v:=.bool false) (by kernel_rfl) rfl (by kernel_rfl) rfl (by decide))⟩
def ti5:TI:=.int .u8
theorem aqt:b6 Tryz.prog 5 ti5:=⟨by kernel_rfl,(aB (v:=.int .u8 0) (by kernel_rfl) rfl (by kernel_rfl) rfl (by decide))⟩
def ti6:TI:=.int .u8
theorem aqu:b6 Tryz.prog 6 ti6:=⟨by kernel_rfl,(aB (v:=.int .u8 0) (by kernel_rfl) rfl (by kernel_rfl) rfl (by decide))⟩
def ti7:TI:=.struct [(0,1,false),(1,1,false),(2,1,false),(3,1,false)] [.int .i64 0, .int .i64 0, .bool false, .int .u8 0]
theorem aqv:b6 Tryz.prog 7 ti7:=⟨aR (by kernel_rfl),(aB (v:=.agg #[.int .i64 0, .int .i64 0, .bool false, .int .u8 0]) (by kernel_rfl) rfl (by kernel_rfl) rfl (by decide))⟩
def ti8:TI:=.struct [(0,1,false),(1,1,false),(2,1,false),(3,1,false)] [.int .i64 0, .int .i64 0, .bool false, .int .u8 0]
theorem aqw:b6 Tryz.prog 8 ti8:=⟨aR (by kernel_rfl),(aB (v:=.agg #[.int .i64 0, .int .i64 0, .bool false, .int .u8 0]) (by kernel_rfl) rfl (by kernel_rfl) rfl (by decide))⟩
def ti9:TI:=.str
theorem aqx:b6 Tryz.prog 9 ti9:=⟨by kernel_rfl,(aB (v:=.string ⟨#[]⟩) (by kernel_rfl) rfl (by kernel_rfl) rfl (by decide))⟩
def aqy:TI:=.str
theorem aku:b6 Tryz.prog 10 aqy:=⟨by kernel_rfl,(aB (v:=.string ⟨#[]⟩) (by kernel_rfl) rfl (by kernel_rfl) rfl (by decide))⟩
def aqz:TI:=.str
theorem akv:b6 Tryz.prog 11 aqz:=⟨by kernel_rfl,(aB (v:=.string ⟨#[]⟩) (by kernel_rfl) rfl (by kernel_rfl) rfl (by decide))⟩
def aqA:TI:=.int .u64
theorem akw:b6 Tryz.prog 12 aqA:=⟨by kernel_rfl,(aB (v:=.int .u64 0) (by kernel_rfl) rfl (by kernel_rfl) rfl (by decide))⟩
def aqB:TI:=.struct [(0,1,false),(1,1,false)] [.str ⟨#[]⟩, .int .u64 0]
theorem akx:b6 Tryz.prog 13 aqB:=⟨aR (by kernel_rfl),(aB (v:=.agg #[.string ⟨#[]⟩, .int .u64 0]) (by kernel_rfl) rfl (by kernel_rfl) rfl (by decide))⟩
def aqC:TI:=.struct [(0,1,false),(1,1,false)] [.str ⟨#[]⟩, .int .u64 0]
theorem aky:b6 Tryz.prog 14 aqC:=⟨aR (by kernel_rfl),(aB (v:=.agg #[.string ⟨#[]⟩, .int .u64 0]) (by kernel_rfl) rfl (by kernel_rfl) rfl (by decide))⟩
def aqD:TI:=.int .i32
theorem akz:b6 Tryz.prog 21 aqD:=⟨by kernel_rfl,(aB (v:=.int .i32 0) (by kernel_rfl) rfl (by kernel_rfl) rfl (by decide))⟩
def aqE:TI:=.slice 3 1 8 [.int .i64 0]
theorem akA:b6 Tryz.prog 22 aqE:=⟨by kernel_rfl,(aB (v:=.slice none 0 0) (by kernel_rfl) rfl (by kernel_rfl) rfl (by decide)),(aB (v:=.int .i64 0) (by kernel_rfl) rfl (by kernel_rfl) rfl (by decide)),bW (by kernel_rfl)⟩
def aqF:TI:=.slice 38 2 32 [.bool false, .nil]
theorem akB:b6 Tryz.prog 23 aqF:=⟨by kernel_rfl,(aB (v:=.slice none 0 0) (by kernel_rfl) rfl (by kernel_rfl) rfl (by decide)),(aB (v:=.agg #[.bool false, .slice none 0 0]) (by kernel_rfl) rfl (by kernel_rfl) rfl (by decide)),bW (by kernel_rfl)⟩
def aqG:TI:=.slice 38 2 32 [.bool false, .nil]
theorem akC:b6 Tryz.prog 24 aqG:=⟨by kernel_rfl,(aB (v:=.slice none 0 0) (by kernel_rfl) rfl (by kernel_rfl) rfl (by decide)),(aB (v:=.agg #[.bool false, .slice none 0 0]) (by kernel_rfl) rfl (by kernel_rfl) rfl (by decide)),bW (by kernel_rfl)⟩
def aqH:TI:=.slice 31 4 64 [.nil, .bool false, .nil, .bool false]
theorem akD:b6 Tryz.prog 26 aqH:=⟨by kernel_rfl,(aB (v:=.slice none 0 0) (by kernel_rfl) rfl (by kernel_rfl) rfl (by decide)),(aB (v:=.agg #[.slice none 0 0, .bool false, .slice none 0 0, .bool false]) (by kernel_rfl) rfl (by kernel_rfl) rfl (by decide)),bW (by kernel_rfl)⟩
def aqI:TI:=.slice 3 1 8 [.int .i64 0]
theorem akE:b6 Tryz.prog 27 aqI:=⟨by kernel_rfl,(aB (v:=.slice none 0 0) (by kernel_rfl) rfl (by kernel_rfl) rfl (by decide)),(aB (v:=.int .i64 0) (by kernel_rfl) rfl (by kernel_rfl) rfl (by decide)),bW (by kernel_rfl)⟩
def aqJ:TI:=.struct [(0,1,false),(1,1,false)] [.nil, .bool false]
theorem akF:b6 Tryz.prog 28 aqJ:=⟨aR (by kernel_rfl),(aB (v:=.agg #[.slice none 0 0, .bool false]) (by kernel_rfl) rfl (by kernel_rfl) rfl (by decide))⟩
def aqK:TI:=.struct [(0,1,false),(1,1,false)] [.nil, .bool false]
theorem akG:b6 Tryz.prog 29 aqK:=⟨aR (by kernel_rfl),(aB (v:=.agg #[.slice none 0 0, .bool false]) (by kernel_rfl) rfl (by kernel_rfl) rfl (by decide))⟩
def aqL:TI:=.struct [(0,2,true),(2,2,true)] [.nil, .bool false, .nil, .bool false]
theorem akH:b6 Tryz.prog 30 aqL:=⟨aR (by kernel_rfl),(aB (v:=.agg #[.slice none 0 0, .bool false, .slice none 0 0, .bool false]) (by kernel_rfl) rfl (by kernel_rfl) rfl (by decide))⟩
def aqM:TI:=.struct [(0,2,true),(2,2,true)] [.nil, .bool false, .nil, .bool false]
theorem akI:b6 Tryz.prog 31 aqM:=⟨aR (by kernel_rfl),(aB (v:=.agg #[.slice none 0 0, .bool false, .slice none 0 0, .bool false]) (by kernel_rfl) rfl (by kernel_rfl) rfl (by decide))⟩
def aqN:TI:=.slice 185 1 4 [.int .u32 0]
theorem akJ:b6 Tryz.prog 36 aqN:=⟨by kernel_rfl,(aB (v:=.slice none 0 0) (by kernel_rfl) rfl (by kernel_rfl) rfl (by decide)),(aB (v:=.int .u32 0) (by kernel_rfl) rfl (by kernel_rfl) rfl (by decide)),bW (by kernel_rfl)⟩
def aqO:TI:=.struct [(0,1,false),(1,1,false)] [.bool false, .nil]
theorem akK:b6 Tryz.prog 37 aqO:=⟨aR (by kernel_rfl),(aB (v:=.agg #[.bool false, .slice none 0 0]) (by kernel_rfl) rfl (by kernel_rfl) rfl (by decide))⟩
def aqP:TI:=.struct [(0,1,false),(1,1,false)] [.bool false, .nil]
theorem akL:b6 Tryz.prog 38 aqP:=⟨aR (by kernel_rfl),(aB (v:=.agg #[.bool false, .slice none 0 0]) (by kernel_rfl) rfl (by kernel_rfl) rfl (by decide))⟩
def aqQ:TI:=.slice 54 9 152 [.nil, .bool false, .nil, .bool false, .nil, .bool false, .nil, .bool false, .nil]
theorem akM:b6 Tryz.prog 41 aqQ:=⟨by kernel_rfl,(aB (v:=.slice none 0 0) (by kernel_rfl) rfl (by kernel_rfl) rfl (by decide)),(aB (v:=.agg #[.slice none 0 0, .bool false, .slice none 0 0, .bool false, .slice none 0 0, .bool false, .slice none 0 0, .bool false, .slice none 0 0]) (by kernel_rfl) rfl (by kernel_rfl) rfl (by decide)),bW (by kernel_rfl)⟩
def aqR:TI:=.int .i64
theorem akN:b6 Tryz.prog 42 aqR:=⟨by kernel_rfl,(aB (v:=.int .i64 0) (by kernel_rfl) rfl (by kernel_rfl) rfl (by decide))⟩
def aqS:TI:=.slice 31 4 64 [.nil, .bool false, .nil, .bool false]
theorem akO:b6 Tryz.prog 46 aqS:=⟨by kernel_rfl,(aB (v:=.slice none 0 0) (by kernel_rfl) rfl (by kernel_rfl) rfl (by decide)),(aB (v:=.agg #[.slice none 0 0, .bool false, .slice none 0 0, .bool false]) (by kernel_rfl) rfl (by kernel_rfl) rfl (by decide)),bW (by kernel_rfl)⟩
def aqT:TI:=.slice 46 1 24 [.nil]
theorem akP:b6 Tryz.prog 47 aqT:=⟨by kernel_rfl,(aB (v:=.slice none 0 0) (by kernel_rfl) rfl (by kernel_rfl) rfl (by decide)),(aB (v:=.slice none 0 0) (by kernel_rfl) rfl (by kernel_rfl) rfl (by decide)),bW (by kernel_rfl)⟩
def aqU:TI:=.struct [(0,1,false),(1,1,false),(2,4,true),(6,4,true)] [.nil, .nil, .nil, .bool false, .nil, .bool false, .nil, .bool false, .nil, .bool false]
theorem akQ:b6 Tryz.prog 48 aqU:=⟨aR (by kernel_rfl),(aB (v:=.agg #[.slice none 0 0, .slice none 0 0, .slice none 0 0, .bool false, .slice none 0 0, .bool false, .slice none 0 0, .bool false, .slice none 0 0, .bool false]) (by kernel_rfl) rfl (by kernel_rfl) rfl (by decide))⟩
def aqV:TI:=.struct [(0,1,false),(1,1,false),(2,4,true),(6,4,true)] [.nil, .nil, .nil, .bool false, .nil, .bool false, .nil, .bool false, .nil, .bool false]
theorem akR:b6 Tryz.prog 49 aqV:=⟨aR (by kernel_rfl),(aB (v:=.agg #[.slice none 0 0, .slice none 0 0, .slice none 0 0, .bool false, .slice none 0 0, .bool false, .slice none 0 0, .bool false, .slice none 0 0, .bool false]) (by kernel_rfl) rfl (by kernel_rfl) rfl (by decide))⟩
def aqW:TI:=.struct [(0,2,true),(2,2,true)] [.bool false, .nil, .bool false, .nil]
theorem akS:b6 Tryz.prog 51 aqW:=⟨aR (by kernel_rfl),(aB (v:=.agg #[.bool false, .slice none 0 0, .bool false, .slice none 0 0]) (by kernel_rfl) rfl (by kernel_rfl) rfl (by decide))⟩
def aqX:TI:=.struct [(0,2,true),(2,2,true)] [.bool false, .nil, .bool false, .nil]
theorem akT:b6 Tryz.prog 52 aqX:=⟨aR (by kernel_rfl),(aB (v:=.agg #[.bool false, .slice none 0 0, .bool false, .slice none 0 0]) (by kernel_rfl) rfl (by kernel_rfl) rfl (by decide))⟩
def aqY:TI:=.struct [(0,1,false),(1,4,true),(5,4,true)] [.nil, .bool false, .nil, .bool false, .nil, .bool false, .nil, .bool false, .nil]
theorem akU:b6 Tryz.prog 53 aqY:=⟨aR (by kernel_rfl),(aB (v:=.agg #[.slice none 0 0, .bool false, .slice none 0 0, .bool false, .slice none 0 0, .bool false, .slice none 0 0, .bool false, .slice none 0 0]) (by kernel_rfl) rfl (by kernel_rfl) rfl (by decide))⟩
def aqZ:TI:=.struct [(0,1,false),(1,4,true),(5,4,true)] [.nil, .bool false, .nil, .bool false, .nil, .bool false, .nil, .bool false, .nil]
theorem akV:b6 Tryz.prog 54 aqZ:=⟨aR (by kernel_rfl),(aB (v:=.agg #[.slice none 0 0, .bool false, .slice none 0 0, .bool false, .slice none 0 0, .bool false, .slice none 0 0, .bool false, .slice none 0 0]) (by kernel_rfl) rfl (by kernel_rfl) rfl (by decide))⟩
def aq0:TI:=.slice 73 5 88 [.nil, .nil, .bool false, .nil, .int .i64 0]
theorem akW:b6 Tryz.prog 62 aq0:=⟨by kernel_rfl,(aB (v:=.slice none 0 0) (by kernel_rfl) rfl (by kernel_rfl) rfl (by decide)),(aB (v:=.agg #[.slice none 0 0, .slice none 0 0, .bool false, .slice none 0 0, .int .i64 0]) (by kernel_rfl) rfl (by kernel_rfl) rfl (by decide)),bW (by kernel_rfl)⟩
def aq1:TI:=.slice 155 7 136 [.nil, .nil, .nil, .nil, .bool false, .nil, .int .i64 0]
theorem akX:b6 Tryz.prog 63 aq1:=⟨by kernel_rfl,(aB (v:=.slice none 0 0) (by kernel_rfl) rfl (by kernel_rfl) rfl (by decide)),(aB (v:=.agg #[.slice none 0 0, .slice none 0 0, .slice none 0 0, .slice none 0 0, .bool false, .slice none 0 0, .int .i64 0]) (by kernel_rfl) rfl (by kernel_rfl) rfl (by decide)),bW (by kernel_rfl)⟩
def aq2:TI:=.fnT
theorem akY:b6 Tryz.prog 68 aq2:=⟨by kernel_rfl,(aB (v:=.nilFunc) (by kernel_rfl) rfl (by kernel_rfl) rfl (by decide))⟩
def aq3:TI:=.slice 68 1 8 [.undef]
theorem akZ:b6 Tryz.prog 69 aq3:=⟨by kernel_rfl,(aB (v:=.slice none 0 0) (by kernel_rfl) rfl (by kernel_rfl) rfl (by decide)),(aB (v:=.nilFunc) (by kernel_rfl) rfl (by kernel_rfl) rfl (by decide)),bW (by kernel_rfl)⟩
def aq4:TI:=.struct [(0,1,false),(1,1,false),(2,2,true)] [.nil, .nil, .bool false, .nil]
theorem ak0:b6 Tryz.prog 70 aq4:=⟨aR (by kernel_rfl),(aB (v:=.agg #[.slice none 0 0, .slice none 0 0, .bool false, .slice none 0 0]) (by kernel_rfl) rfl (by kernel_rfl) rfl (by decide))⟩
def aq5:TI:=.struct [(0,1,false),(1,1,false),(2,2,true)] [.nil, .nil, .bool false, .nil]
theorem ak1:b6 Tryz.prog 71 aq5:=⟨aR (by kernel_rfl),(aB (v:=.agg #[.slice none 0 0, .slice none 0 0, .bool false, .slice none 0 0]) (by kernel_rfl) rfl (by kernel_rfl) rfl (by decide))⟩
def aq6:TI:=.struct [(0,4,true),(4,1,false)] [.nil, .nil, .bool false, .nil, .int .i64 0]
theorem ak2:b6 Tryz.prog 72 aq6:=⟨aR (by kernel_rfl),(aB (v:=.agg #[.slice none 0 0, .slice none 0 0, .bool false, .slice none 0 0, .int .i64 0]) (by kernel_rfl) rfl (by kernel_rfl) rfl (by decide))⟩
def aq7:TI:=.struct [(0,4,true),(4,1,false)] [.nil, .nil, .bool false, .nil, .int .i64 0]
theorem ak3:b6 Tryz.prog 73 aq7:=⟨aR (by kernel_rfl),(aB (v:=.agg #[.slice none 0 0, .slice none 0 0, .bool false, .slice none 0 0, .int .i64 0]) (by kernel_rfl) rfl (by kernel_rfl) rfl (by decide))⟩
def aq8:TI:=.slice 78 5 40 [.int .i64 0, .int .i64 0, .int .i64 0, .int .i64 0, .int .i64 0]
theorem ak4:b6 Tryz.prog 75 aq8:=⟨by kernel_rfl,(aB (v:=.slice none 0 0) (by kernel_rfl) rfl (by kernel_rfl) rfl (by decide)),(aB (v:=.agg #[.int .i64 0, .int .i64 0, .int .i64 0, .int .i64 0, .int .i64 0]) (by kernel_rfl) rfl (by kernel_rfl) rfl (by decide)),bW (by kernel_rfl)⟩
def aq9:TI:=.arr 3 4 1 [.int .i64 0, .int .i64 0, .int .i64 0, .int .i64 0]
theorem ak5:b6 Tryz.prog 76 aq9:=⟨by kernel_rfl,(aB (v:=.agg #[.int .i64 0, .int .i64 0, .int .i64 0, .int .i64 0]) (by kernel_rfl) rfl (by kernel_rfl) rfl (by decide)),EO (by kernel_rfl)⟩
def ara:TI:=.struct [(0,1,false),(1,4,true)] [.int .i64 0, .int .i64 0, .int .i64 0, .int .i64 0, .int .i64 0]
theorem ak6:b6 Tryz.prog 77 ara:=⟨aR (by kernel_rfl),(aB (v:=.agg #[.int .i64 0, .int .i64 0, .int .i64 0, .int .i64 0, .int .i64 0]) (by kernel_rfl) rfl (by kernel_rfl) rfl (by decide))⟩
def arb:TI:=.struct [(0,1,false),(1,4,true)] [.int .i64 0, .int .i64 0, .int .i64 0, .int .i64 0, .int .i64 0]
theorem ak7:b6 Tryz.prog 78 arb:=⟨aR (by kernel_rfl),(aB (v:=.agg #[.int .i64 0, .int .i64 0, .int .i64 0, .int .i64 0, .int .i64 0]) (by kernel_rfl) rfl (by kernel_rfl) rfl (by decide))⟩
def arc:TI:=.slice 82 7 72 [.int .i64 0, .int .i64 0, .int .i64 0, .int .i64 0, .int .i64 0, .nil, .int .i64 0]
theorem ak8:b6 Tryz.prog 79 arc:=⟨by kernel_rfl,(aB (v:=.slice none 0 0) (by kernel_rfl) rfl (by kernel_rfl) rfl (by decide)),(aB (v:=.agg #[.int .i64 0, .int .i64 0, .int .i64 0, .int .i64 0, .int .i64 0, .slice none 0 0, .int .i64 0]) (by kernel_rfl) rfl (by kernel_rfl) rfl (by decide)),bW (by kernel_rfl)⟩
def ard:TI:=.slice 85 9 104 [.int .i64 0, .int .i64 0, .int .i64 0, .int .i64 0, .int .i64 0, .nil, .int .i64 0, .nil, .bool false]
theorem ak9:b6 Tryz.prog 80 ard:=⟨by kernel_rfl,(aB (v:=.slice none 0 0) (by kernel_rfl) rfl (by kernel_rfl) rfl (by decide)),(aB (v:=.agg #[.int .i64 0, .int .i64 0, .int .i64 0, .int .i64 0, .int .i64 0, .slice none 0 0, .int .i64 0, .slice none 0 0, .bool false]) (by kernel_rfl) rfl (by kernel_rfl) rfl (by decide)),bW (by kernel_rfl)⟩
def arf:TI:=.struct [(0,5,true),(5,1,false),(6,1,false)] [.int .i64 0, .int .i64 0, .int .i64 0, .int .i64 0, .int .i64 0, .nil, .int .i64 0]
theorem ala:b6 Tryz.prog 81 arf:=⟨aR (by kernel_rfl),(aB (v:=.agg #[.int .i64 0, .int .i64 0, .int .i64 0, .int .i64 0, .int .i64 0, .slice none 0 0, .int .i64 0]) (by kernel_rfl) rfl (by kernel_rfl) rfl (by decide))⟩
def arh:TI:=.struct [(0,5,true),(5,1,false),(6,1,false)] [.int .i64 0, .int .i64 0, .int .i64 0, .int .i64 0, .int .i64 0, .nil, .int .i64 0]
theorem alb:b6 Tryz.prog 82 arh:=⟨aR (by kernel_rfl),(aB (v:=.agg #[.int .i64 0, .int .i64 0, .int .i64 0, .int .i64 0, .int .i64 0, .slice none 0 0, .int .i64 0]) (by kernel_rfl) rfl (by kernel_rfl) rfl (by decide))⟩
def ari:TI:=.slice 49 10 176 [.nil, .nil, .nil, .bool false, .nil, .bool false, .nil, .bool false, .nil, .bool false]
theorem alc:b6 Tryz.prog 83 ari:=⟨by kernel_rfl,(aB (v:=.slice none 0 0) (by kernel_rfl) rfl (by kernel_rfl) rfl (by decide)),(aB (v:=.agg #[.slice none 0 0, .slice none 0 0, .slice none 0 0, .bool false, .slice none 0 0, .bool false, .slice none 0 0, .bool false, .slice none 0 0, .bool false]) (by kernel_rfl) rfl (by kernel_rfl) rfl (by decide)),bW (by kernel_rfl)⟩
def arj:TI:=.struct [(0,5,true),(5,1,false),(6,1,false),(7,1,false),(8,1,false)] [.int .i64 0, .int .i64 0, .int .i64 0, .int .i64 0, .int .i64 0, .nil, .int .i64 0, .nil, .bool false]
theorem ald:b6 Tryz.prog 84 arj:=⟨aR (by kernel_rfl),(aB (v:=.agg #[.int .i64 0, .int .i64 0, .int .i64 0, .int .i64 0, .int .i64 0, .slice none 0 0, .int .i64 0, .slice none 0 0, .bool false]) (by kernel_rfl) rfl (by kernel_rfl) rfl (by decide))⟩
def ark:TI:=.struct [(0,5,true),(5,1,false),(6,1,false),(7,1,false),(8,1,false)] [.int .i64 0, .int .i64 0, .int .i64 0, .int .i64 0, .int .i64 0, .nil, .int .i64 0, .nil, .bool false]
theorem ale:b6 Tryz.prog 85 ark:=⟨aR (by kernel_rfl),(aB (v:=.agg #[.int .i64 0, .int .i64 0, .int .i64 0, .int .i64 0, .int .i64 0, .slice none 0 0, .int .i64 0, .slice none 0 0, .bool false]) (by kernel_rfl) rfl (by kernel_rfl) rfl (by decide))⟩
def arl:TI:=.slice 179 18 232 [.int .i64 0, .int .i64 0, .int .i64 0, .int .i64 0, .int .i64 0, .nil, .int .i64 0, .bool false, .bool false, .nil, .bool false, .nil, .bool false, .nil, .bool false, .nil, .bool false, .nil]
theorem alf:b6 Tryz.prog 93 arl:=⟨by kernel_rfl,(aB (v:=.slice none 0 0) (by kernel_rfl) rfl (by kernel_rfl) rfl (by decide)),(aB (v:=.agg #[.int .i64 0, .int .i64 0, .int .i64 0, .int .i64 0, .int .i64 0, .slice none 0 0, .int .i64 0, .bool false, .bool false, .slice none 0 0, .bool false, .slice none 0 0, .bool false, .slice none 0 0, .bool false, .slice none 0 0, .bool false, .slice none 0 0]) (by kernel_rfl) rfl (by kernel_rfl) rfl (by decide)),bW (by kernel_rfl)⟩
def arn:TI:=.struct [(0,1,false),(1,9,true),(10,1,false),(11,1,false)] [.bool false, .nil, .bool false, .nil, .bool false, .nil, .bool false, .nil, .bool false, .nil, .nil, .int .i64 0]
theorem alg:b6 Tryz.prog 94 arn:=⟨aR (by kernel_rfl),(aB (v:=.agg #[.bool false, .slice none 0 0, .bool false, .slice none 0 0, .bool false, .slice none 0 0, .bool false, .slice none 0 0, .bool false, .slice none 0 0, .slice none 0 0, .int .i64 0]) (by kernel_rfl) rfl (by kernel_rfl) rfl (by decide))⟩
def aro:TI:=.struct [(0,1,false),(1,9,true),(10,1,false),(11,1,false)] [.bool false, .nil, .bool false, .nil, .bool false, .nil, .bool false, .nil, .bool false, .nil, .nil, .int .i64 0]
theorem alh:b6 Tryz.prog 95 aro:=⟨aR (by kernel_rfl),(aB (v:=.agg #[.bool false, .slice none 0 0, .bool false, .slice none 0 0, .bool false, .slice none 0 0, .bool false, .slice none 0 0, .bool false, .slice none 0 0, .slice none 0 0, .int .i64 0]) (by kernel_rfl) rfl (by kernel_rfl) rfl (by decide))⟩
def ahS:TI:=.slice 22 1 24 [.nil]
theorem aeW:b6 Tryz.prog 102 ahS:=⟨by kernel_rfl,(aB (v:=.slice none 0 0) (by kernel_rfl) rfl (by kernel_rfl) rfl (by decide)),(aB (v:=.slice none 0 0) (by kernel_rfl) rfl (by kernel_rfl) rfl (by decide)),bW (by kernel_rfl)⟩
def ahT:TI:=.slice 115 14 192 [.int .i64 0, .int .i64 0, .int .i64 0, .int .i64 0, .int .i64 0, .nil, .bool false, .nil, .bool false, .nil, .bool false, .nil, .bool false, .nil]
theorem aeX:b6 Tryz.prog 110 ahT:=⟨by kernel_rfl,(aB (v:=.slice none 0 0) (by kernel_rfl) rfl (by kernel_rfl) rfl (by decide)),(aB (v:=.agg #[.int .i64 0, .int .i64 0, .int .i64 0, .int .i64 0, .int .i64 0, .slice none 0 0, .bool false, .slice none 0 0, .bool false, .slice none 0 0, .bool false, .slice none 0 0, .bool false, .slice none 0 0]) (by kernel_rfl) rfl (by kernel_rfl) rfl (by decide)),bW (by kernel_rfl)⟩
def ahU:TI:=.struct [(0,5,true),(5,9,true)] [.int .i64 0, .int .i64 0, .int .i64 0, .int .i64 0, .int .i64 0, .nil, .bool false, .nil, .bool false, .nil, .bool false, .nil, .bool false, .nil]
theorem aeY:b6 Tryz.prog 114 ahU:=⟨aR (by kernel_rfl),(aB (v:=.agg #[.int .i64 0, .int .i64 0, .int .i64 0, .int .i64 0, .int .i64 0, .slice none 0 0, .bool false, .slice none 0 0, .bool false, .slice none 0 0, .bool false, .slice none 0 0, .bool false, .slice none 0 0]) (by kernel_rfl) rfl (by kernel_rfl) rfl (by decide))⟩
def ahV:TI:=.struct [(0,5,true),(5,9,true)] [.int .i64 0, .int .i64 0, .int .i64 0, .int .i64 0, .int .i64 0, .nil, .bool false, .nil, .bool false, .nil, .bool false, .nil, .bool false, .nil]
theorem aeZ:b6 Tryz.prog 115 ahV:=⟨aR (by kernel_rfl),(aB (v:=.agg #[.int .i64 0, .int .i64 0, .int .i64 0, .int .i64 0, .int .i64 0, .slice none 0 0, .bool false, .slice none 0 0, .bool false, .slice none 0 0, .bool false, .slice none 0 0, .bool false, .slice none 0 0]) (by kernel_rfl) rfl (by kernel_rfl) rfl (by decide))⟩
def ahW:TI:=.struct [(0,1,false),(1,1,false),(2,4,true)] [.nil, .nil, .nil, .nil, .bool false, .nil]
theorem ae0:b6 Tryz.prog 152 ahW:=⟨aR (by kernel_rfl),(aB (v:=.agg #[.slice none 0 0, .slice none 0 0, .slice none 0 0, .slice none 0 0, .bool false, .slice none 0 0]) (by kernel_rfl) rfl (by kernel_rfl) rfl (by decide))⟩
def ahX:TI:=.struct [(0,1,false),(1,1,false),(2,4,true)] [.nil, .nil, .nil, .nil, .bool false, .nil]
theorem ae1:b6 Tryz.prog 153 ahX:=⟨aR (by kernel_rfl),(aB (v:=.agg #[.slice none 0 0, .slice none 0 0, .slice none 0 0, .slice none 0 0, .bool false, .slice none 0 0]) (by kernel_rfl) rfl (by kernel_rfl) rfl (by decide))⟩
def ahY:TI:=.struct [(0,6,true),(6,1,false)] [.nil, .nil, .nil, .nil, .bool false, .nil, .int .i64 0]
theorem ae2:b6 Tryz.prog 154 ahY:=⟨aR (by kernel_rfl),(aB (v:=.agg #[.slice none 0 0, .slice none 0 0, .slice none 0 0, .slice none 0 0, .bool false, .slice none 0 0, .int .i64 0]) (by kernel_rfl) rfl (by kernel_rfl) rfl (by decide))⟩
def ahZ:TI:=.struct [(0,6,true),(6,1,false)] [.nil, .nil, .nil, .nil, .bool false, .nil, .int .i64 0]
theorem ae3:b6 Tryz.prog 155 ahZ:=⟨aR (by kernel_rfl),(aB (v:=.agg #[.slice none 0 0, .slice none 0 0, .slice none 0 0, .slice none 0 0, .bool false, .slice none 0 0, .int .i64 0]) (by kernel_rfl) rfl (by kernel_rfl) rfl (by decide))⟩
def ah0:TI:=.struct [(0,7,true),(7,1,false),(8,1,false),(9,9,true)] [.int .i64 0, .int .i64 0, .int .i64 0, .int .i64 0, .int .i64 0, .nil, .int .i64 0, .bool false, .bool false, .nil, .bool false, .nil, .bool false, .nil, .bool false, .nil, .bool false, .nil]
theorem ae4:b6 Tryz.prog 178 ah0:=⟨aR (by kernel_rfl),(aB (v:=.agg #[.int .i64 0, .int .i64 0, .int .i64 0, .int .i64 0, .int .i64 0, .slice none 0 0, .int .i64 0, .bool false, .bool false, .slice none 0 0, .bool false, .slice none 0 0, .bool false, .slice none 0 0, .bool false, .slice none 0 0, .bool false, .slice none 0 0]) (by kernel_rfl) rfl (by kernel_rfl) rfl (by decide))⟩
def ah1:TI:=.struct [(0,7,true),(7,1,false),(8,1,false),(9,9,true)] [.int .i64 0, .int .i64 0, .int .i64 0, .int .i64 0, .int .i64 0, .nil, .int .i64 0, .bool false, .bool false, .nil, .bool false, .nil, .bool false, .nil, .bool false, .nil, .bool false, .nil]
theorem ae5:b6 Tryz.prog 179 ah1:=⟨aR (by kernel_rfl),(aB (v:=.agg #[.int .i64 0, .int .i64 0, .int .i64 0, .int .i64 0, .int .i64 0, .slice none 0 0, .int .i64 0, .bool false, .bool false, .slice none 0 0, .bool false, .slice none 0 0, .bool false, .slice none 0 0, .bool false, .slice none 0 0, .bool false, .slice none 0 0]) (by kernel_rfl) rfl (by kernel_rfl) rfl (by decide))⟩
def ah2:TI:=.int .u64
theorem ae6:b6 Tryz.prog 182 ah2:=⟨by kernel_rfl,(aB (v:=.int .u64 0) (by kernel_rfl) rfl (by kernel_rfl) rfl (by decide))⟩
def ah3:TI:=.int .u32
theorem ae7:b6 Tryz.prog 185 ah3:=⟨by kernel_rfl,(aB (v:=.int .u32 0) (by kernel_rfl) rfl (by kernel_rfl) rfl (by decide))⟩
def ah4:TI:=.int .u64
theorem ae8:b6 Tryz.prog 186 ah4:=⟨by kernel_rfl,(aB (v:=.int .u64 0) (by kernel_rfl) rfl (by kernel_rfl) rfl (by decide))⟩
def ah5:TI:=.slice 24 1 24 [.nil]
theorem ae9:b6 Tryz.prog 197 ah5:=⟨by kernel_rfl,(aB (v:=.slice none 0 0) (by kernel_rfl) rfl (by kernel_rfl) rfl (by decide)),(aB (v:=.slice none 0 0) (by kernel_rfl) rfl (by kernel_rfl) rfl (by decide)),bW (by kernel_rfl)⟩
def ah6:TI:=.struct [(0,1,false)] [.nil]
theorem afa:b6 Tryz.prog 198 ah6:=⟨aR (by kernel_rfl),(aB (v:=.agg #[.slice none 0 0]) (by kernel_rfl) rfl (by kernel_rfl) rfl (by decide))⟩
def ah7:TI:=.struct [(0,1,false)] [.nil]
theorem afb:b6 Tryz.prog 199 ah7:=⟨aR (by kernel_rfl),(aB (v:=.agg #[.slice none 0 0]) (by kernel_rfl) rfl (by kernel_rfl) rfl (by decide))⟩
def ah8:TI:=.slice 52 4 64 [.bool false, .nil, .bool false, .nil]
theorem afc:b6 Tryz.prog 218 ah8:=⟨by kernel_rfl,(aB (v:=.slice none 0 0) (by kernel_rfl) rfl (by kernel_rfl) rfl (by decide)),(aB (v:=.agg #[.bool false, .slice none 0 0, .bool false, .slice none 0 0]) (by kernel_rfl) rfl (by kernel_rfl) rfl (by decide)),bW (by kernel_rfl)⟩
def ah9:TI:=.slice 197 1 24 [.nil]
theorem afd:b6 Tryz.prog 269 ah9:=⟨by kernel_rfl,(aB (v:=.slice none 0 0) (by kernel_rfl) rfl (by kernel_rfl) rfl (by decide)),(aB (v:=.slice none 0 0) (by kernel_rfl) rfl (by kernel_rfl) rfl (by decide)),bW (by kernel_rfl)⟩
def aia:TI:=.int .u8
theorem afe:b6 Tryz.prog 298 aia:=⟨by kernel_rfl,(aB (v:=.int .u8 0) (by kernel_rfl) rfl (by kernel_rfl) rfl (by decide))⟩
def aib:TI:=.int .u8
theorem aff:b6 Tryz.prog 299 aib:=⟨by kernel_rfl,(aB (v:=.int .u8 0) (by kernel_rfl) rfl (by kernel_rfl) rfl (by decide))⟩
def aic:TI:=.int .i32
theorem afg:b6 Tryz.prog 302 aic:=⟨by kernel_rfl,(aB (v:=.int .i32 0) (by kernel_rfl) rfl (by kernel_rfl) rfl (by decide))⟩
def aid:TI:=.int .i32
theorem afh:b6 Tryz.prog 303 aid:=⟨by kernel_rfl,(aB (v:=.int .i32 0) (by kernel_rfl) rfl (by kernel_rfl) rfl (by decide))⟩
def tyF:TypeId→TI
  | 2=>ti2
  | 3=>ti3
  | 4=>ti4
  | 5=>ti5
  | 6=>ti6
  | 7=>ti7
  | 8=>ti8
  | 9=>ti9
  | 10=>aqy
  | 11=>aqz
  | 12=>aqA
  | 13=>aqB
  | 14=>aqC
  | 21=>aqD
  | 22=>aqE
  | 23=>aqF
  | 24=>aqG
  | 26=>aqH
  | 27=>aqI
  | 28=>aqJ
  | 29=>aqK
  | 30=>aqL
  | 31=>aqM
  | 36=>aqN
  | 37=>aqO
  | 38=>aqP
  | 41=>aqQ
  | 42=>aqR
  | 46=>aqS
  | 47=>aqT
  | 48=>aqU
  | 49=>aqV
  | 51=>aqW
  | 52=>aqX
  | 53=>aqY
  | 54=>aqZ
  | 62=>aq0
  | 63=>aq1
  | 68=>aq2
  | 69=>aq3
  | 70=>aq4
  | 71=>aq5
  | 72=>aq6
  | 73=>aq7
  | 75=>aq8
  | 76=>aq9
  | 77=>ara
  | 78=>arb
  | 79=>arc
  | 80=>ard
  | 81=>arf
  | 82=>arh
  | 83=>ari
  | 84=>arj
  | 85=>ark
  | 93=>arl
  | 94=>arn
  | 95=>aro
  | 102=>ahS
  | 110=>ahT
  | 114=>ahU
  | 115=>ahV
  | 152=>ahW
  | 153=>ahX
  | 154=>ahY
  | 155=>ahZ
  | 178=>ah0
  | 179=>ah1
  | 182=>ah2
  | 185=>ah3
  | 186=>ah4
  | 197=>ah5
  | 198=>ah6
  | 199=>ah7
  | 218=>ah8
  | 269=>ah9
  | 298=>aia
  | 299=>aib
  | 302=>aic
  | 303=>aid
  | _ => .other
theorem avM(t:TypeId):b6 Tryz.prog t (tyF t):=by
  unfold tyF
  split
  · exact aqq
  · exact aqr
  · exact aqs
  · exact aqt
  · exact aqu
  · exact aqv
  · exact aqw
  · exact aqx
  · exact aku
  · exact akv
  · exact akw
  · exact akx
  · exact aky
  · exact akz
  · exact akA
  · exact akB
  · exact akC
  · exact akD
  · exact akE
  · exact akF
  · exact akG
  · exact akH
  · exact akI
  · exact akJ
  · exact akK
  · exact akL
  · exact akM
  · exact akN
  · exact akO
  · exact akP
  · exact akQ
  · exact akR
  · exact akS
  · exact akT
  · exact akU
  · exact akV
  · exact akW
  · exact akX
  · exact akY
  · exact akZ
  · exact ak0
  · exact ak1
  · exact ak2
  · exact ak3
  · exact ak4
  · exact ak5
  · exact ak6
  · exact ak7
  · exact ak8
  · exact ak9
  · exact ala
  · exact alb
  · exact alc
  · exact ald
  · exact ale
  · exact alf
  · exact alg
  · exact alh
  · exact aeW
  · exact aeX
  · exact aeY
  · exact aeZ
  · exact ae0
  · exact ae1
  · exact ae2
  · exact ae3
  · exact ae4
  · exact ae5
  · exact ae6
  · exact ae7
  · exact ae8
  · exact ae9
  · exact afa
  · exact afb
  · exact afc
  · exact afd
  · exact afe
  · exact aff
  · exact afg
  · exact afh
  · trivial
theorem afi:Tryz.prog.follows .mixedOrders=true:=by kernel_rfl
def G3(g:FuncId):Bool:=g==72 || g==184 || g==270 || g==271
noncomputable def env:Env:=⟨Tryz.prog,tyF,avM,afi,G3⟩
@[simp] theorem at1:env.writes=G3:=rfl
attribute [simp] G3
@[simp] theorem aBo:env.ty 2 = .int .i64:=rfl
@[simp] theorem avN:env.ty 3 = .int .i64:=rfl
@[simp] theorem aBp:env.ty 4 = .bool:=rfl
@[simp] theorem arp:env.ty 5 = .int .u8:=rfl
@[simp] theorem aBq:env.ty 6 = .int .u8:=rfl
@[simp] theorem aBr:env.ty 7 = .struct [(0,1,false),(1,1,false),(2,1,false),(3,1,false)] [.int .i64 0, .int .i64 0, .bool false, .int .u8 0]:=rfl
@[simp] theorem aBs:env.ty 8 = .struct [(0,1,false),(1,1,false),(2,1,false),(3,1,false)] [.int .i64 0, .int .i64 0, .bool false, .int .u8 0]:=rfl
@[simp] theorem aBt:env.ty 9 = .str:=rfl
@[simp] theorem ayT:env.ty 10 = .str:=rfl
@[simp] theorem ayU:env.ty 11 = .str:=rfl
@[simp] theorem ayV:env.ty 12 = .int .u64:=rfl
@[simp] theorem ayW:env.ty 13 = .struct [(0,1,false),(1,1,false)] [.str ⟨#[]⟩, .int .u64 0]:=rfl
@[simp] theorem ayX:env.ty 14 = .struct [(0,1,false),(1,1,false)] [.str ⟨#[]⟩, .int .u64 0]:=rfl
@[simp] theorem ayY:env.ty 21 = .int .i32:=rfl
@[simp] theorem ayZ:env.ty 22 = .slice 3 1 8 [.int .i64 0]:=rfl
@[simp] theorem ay0:env.ty 23 = .slice 38 2 32 [.bool false, .nil]:=rfl
@[simp] theorem ay1:env.ty 24 = .slice 38 2 32 [.bool false, .nil]:=rfl
@[simp] theorem ay2:env.ty 26 = .slice 31 4 64 [.nil, .bool false, .nil, .bool false]:=rfl
@[simp] theorem ay3:env.ty 27 = .slice 3 1 8 [.int .i64 0]:=rfl
@[simp] theorem ay4:env.ty 28 = .struct [(0,1,false),(1,1,false)] [.nil, .bool false]:=rfl
@[simp] theorem ay5:env.ty 29 = .struct [(0,1,false),(1,1,false)] [.nil, .bool false]:=rfl
@[simp] theorem ay6:env.ty 30 = .struct [(0,2,true),(2,2,true)] [.nil, .bool false, .nil, .bool false]:=rfl
@[simp] theorem ay7:env.ty 31 = .struct [(0,2,true),(2,2,true)] [.nil, .bool false, .nil, .bool false]:=rfl
@[simp] theorem ay8:env.ty 36 = .slice 185 1 4 [.int .u32 0]:=rfl
@[simp] theorem ay9:env.ty 37 = .struct [(0,1,false),(1,1,false)] [.bool false, .nil]:=rfl
@[simp] theorem aza:env.ty 38 = .struct [(0,1,false),(1,1,false)] [.bool false, .nil]:=rfl
@[simp] theorem azb:env.ty 41 = .slice 54 9 152 [.nil, .bool false, .nil, .bool false, .nil, .bool false, .nil, .bool false, .nil]:=rfl
@[simp] theorem azc:env.ty 42 = .int .i64:=rfl
@[simp] theorem azd:env.ty 46 = .slice 31 4 64 [.nil, .bool false, .nil, .bool false]:=rfl
@[simp] theorem aze:env.ty 47 = .slice 46 1 24 [.nil]:=rfl
@[simp] theorem azf:env.ty 48 = .struct [(0,1,false),(1,1,false),(2,4,true),(6,4,true)] [.nil, .nil, .nil, .bool false, .nil, .bool false, .nil, .bool false, .nil, .bool false]:=rfl
@[simp] theorem azg:env.ty 49 = .struct [(0,1,false),(1,1,false),(2,4,true),(6,4,true)] [.nil, .nil, .nil, .bool false, .nil, .bool false, .nil, .bool false, .nil, .bool false]:=rfl
@[simp] theorem azh:env.ty 51 = .struct [(0,2,true),(2,2,true)] [.bool false, .nil, .bool false, .nil]:=rfl
@[simp] theorem azi:env.ty 52 = .struct [(0,2,true),(2,2,true)] [.bool false, .nil, .bool false, .nil]:=rfl
@[simp] theorem azj:env.ty 53 = .struct [(0,1,false),(1,4,true),(5,4,true)] [.nil, .bool false, .nil, .bool false, .nil, .bool false, .nil, .bool false, .nil]:=rfl
@[simp] theorem azk:env.ty 54 = .struct [(0,1,false),(1,4,true),(5,4,true)] [.nil, .bool false, .nil, .bool false, .nil, .bool false, .nil, .bool false, .nil]:=rfl
@[simp] theorem azl:env.ty 62 = .slice 73 5 88 [.nil, .nil, .bool false, .nil, .int .i64 0]:=rfl
@[simp] theorem azm:env.ty 63 = .slice 155 7 136 [.nil, .nil, .nil, .nil, .bool false, .nil, .int .i64 0]:=rfl
@[simp] theorem azn:env.ty 68 = .fnT:=rfl
@[simp] theorem azo:env.ty 69 = .slice 68 1 8 [.undef]:=rfl
@[simp] theorem azp:env.ty 70 = .struct [(0,1,false),(1,1,false),(2,2,true)] [.nil, .nil, .bool false, .nil]:=rfl
@[simp] theorem azq:env.ty 71 = .struct [(0,1,false),(1,1,false),(2,2,true)] [.nil, .nil, .bool false, .nil]:=rfl
@[simp] theorem azr:env.ty 72 = .struct [(0,4,true),(4,1,false)] [.nil, .nil, .bool false, .nil, .int .i64 0]:=rfl
@[simp] theorem azs:env.ty 73 = .struct [(0,4,true),(4,1,false)] [.nil, .nil, .bool false, .nil, .int .i64 0]:=rfl
@[simp] theorem azt:env.ty 75 = .slice 78 5 40 [.int .i64 0, .int .i64 0, .int .i64 0, .int .i64 0, .int .i64 0]:=rfl
@[simp] theorem azu:env.ty 76 = .arr 3 4 1 [.int .i64 0, .int .i64 0, .int .i64 0, .int .i64 0]:=rfl
@[simp] theorem azv:env.ty 77 = .struct [(0,1,false),(1,4,true)] [.int .i64 0, .int .i64 0, .int .i64 0, .int .i64 0, .int .i64 0]:=rfl
@[simp] theorem azw:env.ty 78 = .struct [(0,1,false),(1,4,true)] [.int .i64 0, .int .i64 0, .int .i64 0, .int .i64 0, .int .i64 0]:=rfl
@[simp] theorem azx:env.ty 79 = .slice 82 7 72 [.int .i64 0, .int .i64 0, .int .i64 0, .int .i64 0, .int .i64 0, .nil, .int .i64 0]:=rfl
@[simp] theorem azy:env.ty 80 = .slice 85 9 104 [.int .i64 0, .int .i64 0, .int .i64 0, .int .i64 0, .int .i64 0, .nil, .int .i64 0, .nil, .bool false]:=rfl
@[simp] theorem azz:env.ty 81 = .struct [(0,5,true),(5,1,false),(6,1,false)] [.int .i64 0, .int .i64 0, .int .i64 0, .int .i64 0, .int .i64 0, .nil, .int .i64 0]:=rfl
@[simp] theorem azA:env.ty 82 = .struct [(0,5,true),(5,1,false),(6,1,false)] [.int .i64 0, .int .i64 0, .int .i64 0, .int .i64 0, .int .i64 0, .nil, .int .i64 0]:=rfl
@[simp] theorem azB:env.ty 83 = .slice 49 10 176 [.nil, .nil, .nil, .bool false, .nil, .bool false, .nil, .bool false, .nil, .bool false]:=rfl
@[simp] theorem azC:env.ty 84 = .struct [(0,5,true),(5,1,false),(6,1,false),(7,1,false),(8,1,false)] [.int .i64 0, .int .i64 0, .int .i64 0, .int .i64 0, .int .i64 0, .nil, .int .i64 0, .nil, .bool false]:=rfl
@[simp] theorem azD:env.ty 85 = .struct [(0,5,true),(5,1,false),(6,1,false),(7,1,false),(8,1,false)] [.int .i64 0, .int .i64 0, .int .i64 0, .int .i64 0, .int .i64 0, .nil, .int .i64 0, .nil, .bool false]:=rfl
@[simp] theorem azE:env.ty 93 = .slice 179 18 232 [.int .i64 0, .int .i64 0, .int .i64 0, .int .i64 0, .int .i64 0, .nil, .int .i64 0, .bool false, .bool false, .nil, .bool false, .nil, .bool false, .nil, .bool false, .nil, .bool false, .nil]:=rfl
@[simp] theorem azF:env.ty 94 = .struct [(0,1,false),(1,9,true),(10,1,false),(11,1,false)] [.bool false, .nil, .bool false, .nil, .bool false, .nil, .bool false, .nil, .bool false, .nil, .nil, .int .i64 0]:=rfl
@[simp] theorem azG:env.ty 95 = .struct [(0,1,false),(1,9,true),(10,1,false),(11,1,false)] [.bool false, .nil, .bool false, .nil, .bool false, .nil, .bool false, .nil, .bool false, .nil, .nil, .int .i64 0]:=rfl
@[simp] theorem avO:env.ty 102 = .slice 22 1 24 [.nil]:=rfl
@[simp] theorem avP:env.ty 110 = .slice 115 14 192 [.int .i64 0, .int .i64 0, .int .i64 0, .int .i64 0, .int .i64 0, .nil, .bool false, .nil, .bool false, .nil, .bool false, .nil, .bool false, .nil]:=rfl
@[simp] theorem avQ:env.ty 114 = .struct [(0,5,true),(5,9,true)] [.int .i64 0, .int .i64 0, .int .i64 0, .int .i64 0, .int .i64 0, .nil, .bool false, .nil, .bool false, .nil, .bool false, .nil, .bool false, .nil]:=rfl
@[simp] theorem avR:env.ty 115 = .struct [(0,5,true),(5,9,true)] [.int .i64 0, .int .i64 0, .int .i64 0, .int .i64 0, .int .i64 0, .nil, .bool false, .nil, .bool false, .nil, .bool false, .nil, .bool false, .nil]:=rfl
@[simp] theorem avS:env.ty 152 = .struct [(0,1,false),(1,1,false),(2,4,true)] [.nil, .nil, .nil, .nil, .bool false, .nil]:=rfl
@[simp] theorem avT:env.ty 153 = .struct [(0,1,false),(1,1,false),(2,4,true)] [.nil, .nil, .nil, .nil, .bool false, .nil]:=rfl
@[simp] theorem avU:env.ty 154 = .struct [(0,6,true),(6,1,false)] [.nil, .nil, .nil, .nil, .bool false, .nil, .int .i64 0]:=rfl
@[simp] theorem avV:env.ty 155 = .struct [(0,6,true),(6,1,false)] [.nil, .nil, .nil, .nil, .bool false, .nil, .int .i64 0]:=rfl
@[simp] theorem avW:env.ty 178 = .struct [(0,7,true),(7,1,false),(8,1,false),(9,9,true)] [.int .i64 0, .int .i64 0, .int .i64 0, .int .i64 0, .int .i64 0, .nil, .int .i64 0, .bool false, .bool false, .nil, .bool false, .nil, .bool false, .nil, .bool false, .nil, .bool false, .nil]:=rfl
@[simp] theorem avX:env.ty 179 = .struct [(0,7,true),(7,1,false),(8,1,false),(9,9,true)] [.int .i64 0, .int .i64 0, .int .i64 0, .int .i64 0, .int .i64 0, .nil, .int .i64 0, .bool false, .bool false, .nil, .bool false, .nil, .bool false, .nil, .bool false, .nil, .bool false, .nil]:=rfl
@[simp] theorem avY:env.ty 182 = .int .u64:=rfl
@[simp] theorem ali:env.ty 185 = .int .u32:=rfl
@[simp] theorem avZ:env.ty 186 = .int .u64:=rfl
@[simp] theorem av0:env.ty 197 = .slice 24 1 24 [.nil]:=rfl
@[simp] theorem av1:env.ty 198 = .struct [(0,1,false)] [.nil]:=rfl
@[simp] theorem av2:env.ty 199 = .struct [(0,1,false)] [.nil]:=rfl
@[simp] theorem av3:env.ty 218 = .slice 52 4 64 [.bool false, .nil, .bool false, .nil]:=rfl
@[simp] theorem av4:env.ty 269 = .slice 197 1 24 [.nil]:=rfl
@[simp] theorem av5:env.ty 298 = .int .u8:=rfl
@[simp] theorem av6:env.ty 299 = .int .u8:=rfl
@[simp] theorem av7:env.ty 302 = .int .i32:=rfl
@[simp] theorem av8:env.ty 303 = .int .i32:=rfl
end Go.Proofs.YtiobceocpabjdaaGreat
