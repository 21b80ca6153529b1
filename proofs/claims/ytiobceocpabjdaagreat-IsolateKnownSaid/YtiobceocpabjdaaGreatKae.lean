import Derived.Test.YtiobceocpabjdaaGreatProg
import Derived.KernelRfl
import Derived.Test.YtiobceocpabjdaaGreatKad
set_option linter.unusedSimpArgs false
set_option linter.unusedVariables false
/- The types of the seat, as the pure machine wants them: closed facts, each by the kernel. -/
namespace Go.Proofs.YtiobceocpabjdaaGreat
open Go Pm
def ti2:TI:=.int .i64
theorem am5:bQ Tryz.prog 2 ti2:=⟨by kernel_rfl,(aB (v:=.int .i64 0) (by kernel_rfl) rfl (by kernel_rfl) rfl (by decide))⟩
def ti3:TI:=.int .i64
theorem am6:bQ Tryz.prog 3 ti3:=⟨by kernel_rfl,(aB (v:=.int .i64 0) (by kernel_rfl) rfl (by kernel_rfl) rfl (by decide))⟩
def ti4:TI:=.bool
theorem am7:bQ Tryz.prog 4 ti4:=⟨by kernel_rfl,(aB (v:=.bool false) (by kernel_rfl) rfl (by kernel_rfl) rfl (by decide))⟩
def ti5:TI:=.int .u8
theorem am8:bQ Tryz.prog 5 ti5:=⟨by kernel_rfl,(aB (v:=.int .u8 0) (by kernel_rfl) rfl (by kernel_rfl) rfl (by decide))⟩
def ti6:TI:=.int .u8
theorem am9:bQ Tryz.prog 6 ti6:=⟨by kernel_rfl,(aB (v:=.int .u8 0) (by kernel_rfl) rfl (by kernel_rfl) rfl (by decide))⟩
def ti7:TI:=.struct [(0,1,false),(1,1,false),(2,1,false),(3,1,false)] [.int .i64 0, .int .i64 0, .bool false, .int .u8 0]
theorem ana:bQ Tryz.prog 7 ti7:=⟨aP (by kernel_rfl),(aB (v:=.agg #[.int .i64 0, .int .i64 0, .bool false, .int .u8 0]) (by kernel_rfl) rfl (by kernel_rfl) rfl (by decide))⟩
def ti8:TI:=.struct [(0,1,false),(1,1,false),(2,1,false),(3,1,false)] [.int .i64 0, .int .i64 0, .bool false, .int .u8 0]
theorem anb:bQ Tryz.prog 8 ti8:=⟨aP (by kernel_rfl),(aB (v:=.agg #[.int .i64 0, .int .i64 0, .bool false, .int .u8 0]) (by kernel_rfl) rfl (by kernel_rfl) rfl (by decide))⟩
def ti9:TI:=.str
theorem anc:bQ Tryz.prog 9 ti9:=⟨by kernel_rfl,(aB (v:=.string ⟨#[]⟩) (by kernel_rfl) rfl (by kernel_rfl) rfl (by decide))⟩
def ane:TI:=.str
theorem ahg:bQ Tryz.prog 10 ane:=⟨by kernel_rfl,(aB (v:=.string ⟨#[]⟩) (by kernel_rfl) rfl (by kernel_rfl) rfl (by decide))⟩
def anf:TI:=.str
theorem ahh:bQ Tryz.prog 11 anf:=⟨by kernel_rfl,(aB (v:=.string ⟨#[]⟩) (by kernel_rfl) rfl (by kernel_rfl) rfl (by decide))⟩
def ang:TI:=.int .u64
theorem ahj:bQ Tryz.prog 12 ang:=⟨by kernel_rfl,(aB (v:=.int .u64 0) (by kernel_rfl) rfl (by kernel_rfl) rfl (by decide))⟩
def anh:TI:=.struct [(0,1,false),(1,1,false)] [.str ⟨#[]⟩, .int .u64 0]
theorem ahk:bQ Tryz.prog 13 anh:=⟨aP (by kernel_rfl),(aB (v:=.agg #[.string ⟨#[]⟩, .int .u64 0]) (by kernel_rfl) rfl (by kernel_rfl) rfl (by decide))⟩
def ani:TI:=.struct [(0,1,false),(1,1,false)] [.str ⟨#[]⟩, .int .u64 0]
theorem ahl:bQ Tryz.prog 14 ani:=⟨aP (by kernel_rfl),(aB (v:=.agg #[.string ⟨#[]⟩, .int .u64 0]) (by kernel_rfl) rfl (by kernel_rfl) rfl (by decide))⟩
def anj:TI:=.int .i32
theorem ahm:bQ Tryz.prog 21 anj:=⟨by kernel_rfl,(aB (v:=.int .i32 0) (by kernel_rfl) rfl (by kernel_rfl) rfl (by decide))⟩
def ank:TI:=.slice 3 1 8 [.int .i64 0]
theorem ahn:bQ Tryz.prog 22 ank:=⟨by kernel_rfl,(aB (v:=.slice none 0 0) (by kernel_rfl) rfl (by kernel_rfl) rfl (by decide)),(aB (v:=.int .i64 0) (by kernel_rfl) rfl (by kernel_rfl) rfl (by decide)),bO (by kernel_rfl)⟩
def anl:TI:=.slice 38 2 32 [.bool false, .nil]
theorem aho:bQ Tryz.prog 23 anl:=⟨by kernel_rfl,(aB (v:=.slice none 0 0) (by kernel_rfl) rfl (by kernel_rfl) rfl (by decide)),(aB (v:=.agg #[.bool false, .slice none 0 0]) (by kernel_rfl) rfl (by kernel_rfl) rfl (by decide)),bO (by kernel_rfl)⟩
def anm:TI:=.slice 38 2 32 [.bool false, .nil]
theorem ahp:bQ Tryz.prog 24 anm:=⟨by kernel_rfl,(aB (v:=.slice none 0 0) (by kernel_rfl) rfl (by kernel_rfl) rfl (by decide)),(aB (v:=.agg #[.bool false, .slice none 0 0]) (by kernel_rfl) rfl (by kernel_rfl) rfl (by decide)),bO (by kernel_rfl)⟩
def ann:TI:=.slice 31 4 64 [.nil, .bool false, .nil, .bool false]
theorem ahq:bQ Tryz.prog 26 ann:=⟨by kernel_rfl,(aB (v:=.slice none 0 0) (by kernel_rfl) rfl (by kernel_rfl) rfl (by decide)),(aB (v:=.agg #[.slice none 0 0, .bool false, .slice none 0 0, .bool false]) (by kernel_rfl) rfl (by kernel_rfl) rfl (by decide)),bO (by kernel_rfl)⟩
def ano:TI:=.slice 3 1 8 [.int .i64 0]
theorem ahr:bQ Tryz.prog 27 ano:=⟨by kernel_rfl,(aB (v:=.slice none 0 0) (by kernel_rfl) rfl (by kernel_rfl) rfl (by decide)),(aB (v:=.int .i64 0) (by kernel_rfl) rfl (by kernel_rfl) rfl (by decide)),bO (by kernel_rfl)⟩
def anp:TI:=.struct [(0,1,false),(1,1,false)] [.nil, .bool false]
theorem ahs:bQ Tryz.prog 28 anp:=⟨aP (by kernel_rfl),(aB (v:=.agg #[.slice none 0 0, .bool false]) (by kernel_rfl) rfl (by kernel_rfl) rfl (by decide))⟩
def anq:TI:=.struct [(0,1,false),(1,1,false)] [.nil, .bool false]
theorem aht:bQ Tryz.prog 29 anq:=⟨aP (by kernel_rfl),(aB (v:=.agg #[.slice none 0 0, .bool false]) (by kernel_rfl) rfl (by kernel_rfl) rfl (by decide))⟩
def anr:TI:=.struct [(0,2,true),(2,2,true)] [.nil, .bool false, .nil, .bool false]
theorem ahu:bQ Tryz.prog 30 anr:=⟨aP (by kernel_rfl),(aB (v:=.agg #[.slice none 0 0, .bool false, .slice none 0 0, .bool false]) (by kernel_rfl) rfl (by kernel_rfl) rfl (by decide))⟩
def ans:TI:=.struct [(0,2,true),(2,2,true)] [.nil, .bool false, .nil, .bool false]
theorem ahv:bQ Tryz.prog 31 ans:=⟨aP (by kernel_rfl),(aB (v:=.agg #[.slice none 0 0, .bool false, .slice none 0 0, .bool false]) (by kernel_rfl) rfl (by kernel_rfl) rfl (by decide))⟩
def ant:TI:=.slice 185 1 4 [.int .u32 0]
theorem ahw:bQ Tryz.prog 36 ant:=⟨by kernel_rfl,(aB (v:=.slice none 0 0) (by kernel_rfl) rfl (by kernel_rfl) rfl (by decide)),(aB (v:=.int .u32 0) (by kernel_rfl) rfl (by kernel_rfl) rfl (by decide)),bO (by kernel_rfl)⟩
def anu:TI:=.struct [(0,1,false),(1,1,false)] [.bool false, .nil]
theorem ahx:bQ Tryz.prog 37 anu:=⟨aP (by kernel_rfl),(aB (v:=.agg #[.bool false, .slice none 0 0]) (by kernel_rfl) rfl (by kernel_rfl) rfl (by decide))⟩
def anv:TI:=.struct [(0,1,false),(1,1,false)] [.bool false, .nil]
theorem ahy:bQ Tryz.prog 38 anv:=⟨aP (by kernel_rfl),(aB (v:=.agg #[.bool false, .slice none 0 0]) (by kernel_rfl) rfl (by kernel_rfl) rfl (by decide))⟩
def anw:TI:=.slice 54 9 152 [.nil, .bool false, .nil, .bool false, .nil, .bool false, .nil, .bool false, .nil]
theorem ahz:bQ Tryz.prog 41 anw:=⟨by kernel_rfl,(aB (v:=.slice none 0 0) (by kernel_rfl) rfl (by kernel_rfl) rfl (by decide)),(aB (v:=.agg #[.slice none 0 0, .bool false, .slice none 0 0, .bool false, .slice none 0 0, .bool false, .slice none 0 0, .bool false, .slice none 0 0]) (by kernel_rfl) rfl (by kernel_rfl) rfl (by decide)),bO (by kernel_rfl)⟩
def anx:TI:=.int .i64
theorem ahA:bQ Tryz.prog 42 anx:=⟨by kernel_rfl,(aB (v:=.int .i64 0) (by kernel_rfl) rfl (by kernel_rfl) rfl (by decide))⟩
def anz:TI:=.slice 31 4 64 [.nil, .bool false, .nil, .bool false]
theorem ahB:bQ Tryz.prog 46 anz:=⟨by kernel_rfl,(aB (v:=.slice none 0 0) (by kernel_rfl) rfl (by kernel_rfl) rfl (by decide)),(aB (v:=.agg #[.slice none 0 0, .bool false, .slice none 0 0, .bool false]) (by kernel_rfl) rfl (by kernel_rfl) rfl (by decide)),bO (by kernel_rfl)⟩
def anA:TI:=.slice 46 1 24 [.nil]
theorem ahC:bQ Tryz.prog 47 anA:=⟨by kernel_rfl,(aB (v:=.slice none 0 0) (by kernel_rfl) rfl (by kernel_rfl) rfl (by decide)),(aB (v:=.slice none 0 0) (by kernel_rfl) rfl (by kernel_rfl) rfl (by decide)),bO (by kernel_rfl)⟩
def anB:TI:=.struct [(0,1,false),(1,1,false),(2,4,true),(6,4,true)] [.nil, .nil, .nil, .bool false, .nil, .bool false, .nil, .bool false, .nil, .bool false]
theorem ahD:bQ Tryz.prog 48 anB:=⟨aP (by kernel_rfl),(aB (v:=.agg #[.slice none 0 0, .slice none 0 0, .slice none 0 0, .bool false, .slice none 0 0, .bool false, .slice none 0 0, .bool false, .slice none 0 0, .bool false]) (by kernel_rfl) rfl (by kernel_rfl) rfl (by decide))⟩
def anC:TI:=.struct [(0,1,false),(1,1,false),(2,4,true),(6,4,true)] [.nil, .nil, .nil, .bool false, .nil, .bool false, .nil, .bool false, .nil, .bool false]
theorem ahE:bQ Tryz.prog 49 anC:=⟨aP (by kernel_rfl),(aB (v:=.agg #[.slice none 0 0, .slice none 0 0, .slice none 0 0, .bool false, .slice none 0 0, .bool false, .slice none 0 0, .bool false, .slice none 0 0, .bool false]) (by kernel_rfl) rfl (by kernel_rfl) rfl (by decide))⟩
def anD:TI:=.struct [(0,2,true),(2,2,true)] [.bool false, .nil, .bool false, .nil]
theorem ahF:bQ Tryz.prog 51 anD:=⟨aP (by kernel_rfl),(aB (v:=.agg #[.bool false, .slice none 0 0, .bool false, .slice none 0 0]) (by kernel_rfl) rfl (by kernel_rfl) rfl (by decide))⟩
def anE:TI:=.struct [(0,2,true),(2,2,true)] [.bool false, .nil, .bool false, .nil]
theorem ahG:bQ Tryz.prog 52 anE:=⟨aP (by kernel_rfl),(aB (v:=.agg #[.bool false, .slice none 0 0, .bool false, .slice none 0 0]) (by kernel_rfl) rfl (by kernel_rfl) rfl (by decide))⟩
def anF:TI:=.struct [(0,1,false),(1,4,true),(5,4,true)] [.nil, .bool false, .nil, .bool false, .nil, .bool false, .nil, .bool false, .nil]
theorem ahH:bQ Tryz.prog 53 anF:=⟨aP (by kernel_rfl),(aB (v:=.agg #[.slice none 0 0, .bool false, .slice none 0 0, .bool false, .slice none 0 0, .bool false, .slice none 0 0, .bool false, .slice none 0 0]) (by kernel_rfl) rfl (by kernel_rfl) rfl (by decide))⟩
def anG:TI:=.struct [(0,1,false),(1,4,true),(5,4,true)] [.nil, .bool false, .nil, .bool false, .nil, .bool false, .nil, .bool false, .nil]
theorem ahI:bQ Tryz.prog 54 anG:=⟨aP (by kernel_rfl),(aB (v:=.agg #[.slice none 0 0, .bool false, .slice none 0 0, .bool false, .slice none 0 0, .bool false, .slice none 0 0, .bool false, .slice none 0 0]) (by kernel_rfl) rfl (by kernel_rfl) rfl (by decide))⟩
def anH:TI:=.slice 73 5 88 [.nil, .nil, .bool false, .nil, .int .i64 0]
theorem ahJ:bQ Tryz.prog 62 anH:=⟨by kernel_rfl,(aB (v:=.slice none 0 0) (by kernel_rfl) rfl (by kernel_rfl) rfl (by decide)),(aB (v:=.agg #[.slice none 0 0, .slice none 0 0, .bool false, .slice none 0 0, .int .i64 0]) (by kernel_rfl) rfl (by kernel_rfl) rfl (by decide)),bO (by kernel_rfl)⟩
def anI:TI:=.slice 155 7 136 [.nil, .nil, .nil, .nil, .bool false, .nil, .int .i64 0]
theorem ahK:bQ Tryz.prog 63 anI:=⟨by kernel_rfl,(aB (v:=.slice none 0 0) (by kernel_rfl) rfl (by kernel_rfl) rfl (by decide)),(aB (v:=.agg #[.slice none 0 0, .slice none 0 0, .slice none 0 0, .slice none 0 0, .bool false, .slice none 0 0, .int .i64 0]) (by kernel_rfl) rfl (by kernel_rfl) rfl (by decide)),bO (by kernel_rfl)⟩
def anJ:TI:=.fnT
theorem ahL:bQ Tryz.prog 68 anJ:=⟨by kernel_rfl,(aB (v:=.nilFunc) (by kernel_rfl) rfl (by kernel_rfl) rfl (by decide))⟩
def anK:TI:=.slice 68 1 8 [.undef]
theorem ahM:bQ Tryz.prog 69 anK:=⟨by kernel_rfl,(aB (v:=.slice none 0 0) (by kernel_rfl) rfl (by kernel_rfl) rfl (by decide)),(aB (v:=.nilFunc) (by kernel_rfl) rfl (by kernel_rfl) rfl (by decide)),bO (by kernel_rfl)⟩
def anL:TI:=.struct [(0,1,false),(1,1,false),(2,2,true)] [.nil, .nil, .bool false, .nil]
theorem ahN:bQ Tryz.prog 70 anL:=⟨aP (by kernel_rfl),(aB (v:=.agg #[.slice none 0 0, .slice none 0 0, .bool false, .slice none 0 0]) (by kernel_rfl) rfl (by kernel_rfl) rfl (by decide))⟩
def anM:TI:=.struct [(0,1,false),(1,1,false),(2,2,true)] [.nil, .nil, .bool false, .nil]
theorem ahO:bQ Tryz.prog 71 anM:=⟨aP (by kernel_rfl),(aB (v:=.agg #[.slice none 0 0, .slice none 0 0, .bool false, .slice none 0 0]) (by kernel_rfl) rfl (by kernel_rfl) rfl (by decide))⟩
def anN:TI:=.struct [(0,4,true),(4,1,false)] [.nil, .nil, .bool false, .nil, .int .i64 0]
theorem ahP:bQ Tryz.prog 72 anN:=⟨aP (by kernel_rfl),(aB (v:=.agg #[.slice none 0 0, .slice none 0 0, .bool false, .slice none 0 0, .int .i64 0]) (by kernel_rfl) rfl (by kernel_rfl) rfl (by decide))⟩
def anO:TI:=.struct [(0,4,true),(4,1,false)] [.nil, .nil, .bool false, .nil, .int .i64 0]
theorem ahQ:bQ Tryz.prog 73 anO:=⟨aP (by kernel_rfl),(aB (v:=.agg #[.slice none 0 0, .slice none 0 0, .bool false, .slice none 0 0, .int .i64 0]) (by kernel_rfl) rfl (by kernel_rfl) rfl (by decide))⟩
def anP:TI:=.slice 78 5 40 [.int .i64 0, .int .i64 0, .int .i64 0, .int .i64 0, .int .i64 0]
theorem ahR:bQ Tryz.prog 75 anP:=⟨by kernel_rfl,(aB (v:=.slice none 0 0) (by kernel_rfl) rfl (by kernel_rfl) rfl (by decide)),(aB (v:=.agg #[.int .i64 0, .int .i64 0, .int .i64 0, .int .i64 0, .int .i64 0]) (by kernel_rfl) rfl (by kernel_rfl) rfl (by decide)),bO (by kernel_rfl)⟩
def anQ:TI:=.arr 3 4 1 [.int .i64 0, .int .i64 0, .int .i64 0, .int .i64 0]
theorem ahS:bQ Tryz.prog 76 anQ:=⟨by kernel_rfl,(aB (v:=.agg #[.int .i64 0, .int .i64 0, .int .i64 0, .int .i64 0]) (by kernel_rfl) rfl (by kernel_rfl) rfl (by decide)),BR (by kernel_rfl)⟩
def anR:TI:=.struct [(0,1,false),(1,4,true)] [.int .i64 0, .int .i64 0, .int .i64 0, .int .i64 0, .int .i64 0]
theorem ahT:bQ Tryz.prog 77 anR:=⟨aP (by kernel_rfl),(aB (v:=.agg #[.int .i64 0, .int .i64 0, .int .i64 0, .int .i64 0, .int .i64 0]) (by kernel_rfl) rfl (by kernel_rfl) rfl (by decide))⟩
def anS:TI:=.struct [(0,1,false),(1,4,true)] [.int .i64 0, .int .i64 0, .int .i64 0, .int .i64 0, .int .i64 0]
theorem ahU:bQ Tryz.prog 78 anS:=⟨aP (by kernel_rfl),(aB (v:=.agg #[.int .i64 0, .int .i64 0, .int .i64 0, .int .i64 0, .int .i64 0]) (by kernel_rfl) rfl (by kernel_rfl) rfl (by decide))⟩
def anT:TI:=.slice 82 7 72 [.int .i64 0, .int .i64 0, .int .i64 0, .int .i64 0, .int .i64 0, .nil, .int .i64 0]
theorem ahV:bQ Tryz.prog 79 anT:=⟨by kernel_rfl,(aB (v:=.slice none 0 0) (by kernel_rfl) rfl (by kernel_rfl) rfl (by decide)),(aB (v:=.agg #[.int .i64 0, .int .i64 0, .int .i64 0, .int .i64 0, .int .i64 0, .slice none 0 0, .int .i64 0]) (by kernel_rfl) rfl (by kernel_rfl) rfl (by decide)),bO (by kernel_rfl)⟩
def anU:TI:=.slice 85 9 104 [.int .i64 0, .int .i64 0, .int .i64 0, .int .i64 0, .int .i64 0, .nil, .int .i64 0, .nil, .bool false]
theorem ahW:bQ Tryz.prog 80 anU:=⟨by kernel_rfl,(aB (v:=.slice none 0 0) (by kernel_rfl) rfl (by kernel_rfl) rfl (by decide)),(aB (v:=.agg #[.int .i64 0, .int .i64 0, .int .i64 0, .int .i64 0, .int .i64 0, .slice none 0 0, .int .i64 0, .slice none 0 0, .bool false]) (by kernel_rfl) rfl (by kernel_rfl) rfl (by decide)),bO (by kernel_rfl)⟩
def anV:TI:=.struct [(0,5,true),(5,1,false),(6,1,false)] [.int .i64 0, .int .i64 0, .int .i64 0, .int .i64 0, .int .i64 0, .nil, .int .i64 0]
theorem ahX:bQ Tryz.prog 81 anV:=⟨aP (by kernel_rfl),(aB (v:=.agg #[.int .i64 0, .int .i64 0, .int .i64 0, .int .i64 0, .int .i64 0, .slice none 0 0, .int .i64 0]) (by kernel_rfl) rfl (by kernel_rfl) rfl (by decide))⟩
def anW:TI:=.struct [(0,5,true),(5,1,false),(6,1,false)] [.int .i64 0, .int .i64 0, .int .i64 0, .int .i64 0, .int .i64 0, .nil, .int .i64 0]
theorem ahY:bQ Tryz.prog 82 anW:=⟨aP (by kernel_rfl),(aB (v:=.agg #[.int .i64 0, .int .i64 0, .int .i64 0, .int .i64 0, .int .i64 0, .slice none 0 0, .int .i64 0]) (by kernel_rfl) rfl (by kernel_rfl) rfl (by decide))⟩
def anX:TI:=.slice 49 10 176 [.nil, .nil, .nil, .bool false, .nil, .bool false, .nil, .bool false, .nil, .bool false]
theorem ahZ:bQ Tryz.prog 83 anX:=⟨by kernel_rfl,(aB (v:=.slice none 0 0) (by kernel_rfl) rfl (by kernel_rfl) rfl (by decide)),(aB (v:=.agg #[.slice none 0 0, .slice none 0 0, .slice none 0 0, .bool false, .slice none 0 0, .bool false, .slice none 0 0, .bool false, .slice none 0 0, .bool false]) (by kernel_rfl) rfl (by kernel_rfl) rfl (by decide)),bO (by kernel_rfl)⟩
def anY:TI:=.struct [(0,5,true),(5,1,false),(6,1,false),(7,1,false),(8,1,false)] [.int .i64 0, .int .i64 0, .int .i64 0, .int .i64 0, .int .i64 0, .nil, .int .i64 0, .nil, .bool false]
theorem ah0:bQ Tryz.prog 84 anY:=⟨aP (by kernel_rfl),(aB (v:=.agg #[.int .i64 0, .int .i64 0, .int .i64 0, .int .i64 0, .int .i64 0, .slice none 0 0, .int .i64 0, .slice none 0 0, .bool false]) (by kernel_rfl) rfl (by kernel_rfl) rfl (by decide))⟩
def anZ:TI:=.struct [(0,5,true),(5,1,false),(6,1,false),(7,1,false),(8,1,false)] [.int .i64 0, .int .i64 0, .int .i64 0, .int .i64 0, .int .i64 0, .nil, .int .i64 0, .nil, .bool false]
theorem ah1:bQ Tryz.prog 85 anZ:=⟨aP (by kernel_rfl),(aB (v:=.agg #[.int .i64 0, .int .i64 0, .int .i64 0, .int .i64 0, .int .i64 0, .slice none 0 0, .int .i64 0, .slice none 0 0, .bool false]) (by kernel_rfl) rfl (by kernel_rfl) rfl (by decide))⟩
def an0:TI:=.slice 179 18 232 [.int .i64 0, .int .i64 0, .int .i64 0, .int .i64 0, .int .i64 0, .nil, .int .i64 0, .bool false, .bool false, .nil, .bool false, .nil, .bool false, .nil, .bool false, .nil, .bool false, .nil]
theorem ah2:bQ Tryz.prog 93 an0:=⟨by kernel_rfl,(aB (v:=.slice none 0 0) (by kernel_rfl) rfl (by kernel_rfl) rfl (by decide)),(aB (v:=.agg #[.int .i64 0, .int .i64 0, .int .i64 0, .int .i64 0, .int .i64 0, .slice none 0 0, .int .i64 0, .bool false, .bool false, .slice none 0 0, .bool false, .slice none 0 0, .bool false, .slice none 0 0, .bool false, .slice none 0 0, .bool false, .slice none 0 0]) (by kernel_rfl) rfl (by kernel_rfl) rfl (by decide)),bO (by kernel_rfl)⟩
def an1:TI:=.struct [(0,1,false),(1,9,true),(10,1,false),(11,1,false)] [.bool false, .nil, .bool false, .nil, .bool false, .nil, .bool false, .nil, .bool false, .nil, .nil, .int .i64 0]
theorem ah3:bQ Tryz.prog 94 an1:=⟨aP (by kernel_rfl),(aB (v:=.agg #[.bool false, .slice none 0 0, .bool false, .slice none 0 0, .bool false, .slice none 0 0, .bool false, .slice none 0 0, .bool false, .slice none 0 0, .slice none 0 0, .int .i64 0]) (by kernel_rfl) rfl (by kernel_rfl) rfl (by decide))⟩
def an2:TI:=.struct [(0,1,false),(1,9,true),(10,1,false),(11,1,false)] [.bool false, .nil, .bool false, .nil, .bool false, .nil, .bool false, .nil, .bool false, .nil, .nil, .int .i64 0]
theorem ah4:bQ Tryz.prog 95 an2:=⟨aP (by kernel_rfl),(aB (v:=.agg #[.bool false, .slice none 0 0, .bool false, .slice none 0 0, .bool false, .slice none 0 0, .bool false, .slice none 0 0, .bool false, .slice none 0 0, .slice none 0 0, .int .i64 0]) (by kernel_rfl) rfl (by kernel_rfl) rfl (by decide))⟩
def aeB:TI:=.slice 22 1 24 [.nil]
theorem abO:bQ Tryz.prog 102 aeB:=⟨by kernel_rfl,(aB (v:=.slice none 0 0) (by kernel_rfl) rfl (by kernel_rfl) rfl (by decide)),(aB (v:=.slice none 0 0) (by kernel_rfl) rfl (by kernel_rfl) rfl (by decide)),bO (by kernel_rfl)⟩
def aeC:TI:=.slice 115 14 192 [.int .i64 0, .int .i64 0, .int .i64 0, .int .i64 0, .int .i64 0, .nil, .bool false, .nil, .bool false, .nil, .bool false, .nil, .bool false, .nil]
theorem abP:bQ Tryz.prog 110 aeC:=⟨by kernel_rfl,(aB (v:=.slice none 0 0) (by kernel_rfl) rfl (by kernel_rfl) rfl (by decide)),(aB (v:=.agg #[.int .i64 0, .int .i64 0, .int .i64 0, .int .i64 0, .int .i64 0, .slice none 0 0, .bool false, .slice none 0 0, .bool false, .slice none 0 0, .bool false, .slice none 0 0, .bool false, .slice none 0 0]) (by kernel_rfl) rfl (by kernel_rfl) rfl (by decide)),bO (by kernel_rfl)⟩
def aeD:TI:=.struct [(0,5,true),(5,9,true)] [.int .i64 0, .int .i64 0, .int .i64 0, .int .i64 0, .int .i64 0, .nil, .bool false, .nil, .bool false, .nil, .bool false, .nil, .bool false, .nil]
theorem abQ:bQ Tryz.prog 114 aeD:=⟨aP (by kernel_rfl),(aB (v:=.agg #[.int .i64 0, .int .i64 0, .int .i64 0, .int .i64 0, .int .i64 0, .slice none 0 0, .bool false, .slice none 0 0, .bool false, .slice none 0 0, .bool false, .slice none 0 0, .bool false, .slice none 0 0]) (by kernel_rfl) rfl (by kernel_rfl) rfl (by decide))⟩
def aeE:TI:=.struct [(0,5,true),(5,9,true)] [.int .i64 0, .int .i64 0, .int .i64 0, .int .i64 0, .int .i64 0, .nil, .bool false, .nil, .bool false, .nil, .bool false, .nil, .bool false, .nil]
theorem abR:bQ Tryz.prog 115 aeE:=⟨aP (by kernel_rfl),(aB (v:=.agg #[.int .i64 0, .int .i64 0, .int .i64 0, .int .i64 0, .int .i64 0, .slice none 0 0, .bool false, .slice none 0 0, .bool false, .slice none 0 0, .bool false, .slice none 0 0, .bool false, .slice none 0 0]) (by kernel_rfl) rfl (by kernel_rfl) rfl (by decide))⟩
def aeF:TI:=.struct [(0,1,false),(1,1,false),(2,4,true)] [.nil, .nil, .nil, .nil, .bool false, .nil]
theorem abS:bQ Tryz.prog 152 aeF:=⟨aP (by kernel_rfl),(aB (v:=.agg #[.slice none 0 0, .slice none 0 0, .slice none 0 0, .slice none 0 0, .bool false, .slice none 0 0]) (by kernel_rfl) rfl (by kernel_rfl) rfl (by decide))⟩
def aeG:TI:=.struct [(0,1,false),(1,1,false),(2,4,true)] [.nil, .nil, .nil, .nil, .bool false, .nil]
theorem abT:bQ Tryz.prog 153 aeG:=⟨aP (by kernel_rfl),(aB (v:=.agg #[.slice none 0 0, .slice none 0 0, .slice none 0 0, .slice none 0 0, .bool false, .slice none 0 0]) (by kernel_rfl) rfl (by kernel_rfl) rfl (by decide))⟩
def aeH:TI:=.struct [(0,6,true),(6,1,false)] [.nil, .nil, .nil, .nil, .bool false, .nil, .int .i64 0]
theorem abU:bQ Tryz.prog 154 aeH:=⟨aP (by kernel_rfl),(aB (v:=.agg #[.slice none 0 0, .slice none 0 0, .slice none 0 0, .slice none 0 0, .bool false, .slice none 0 0, .int .i64 0]) (by kernel_rfl) rfl (by kernel_rfl) rfl (by decide))⟩
def aeI:TI:=.struct [(0,6,true),(6,1,false)] [.nil, .nil, .nil, .nil, .bool false, .nil, .int .i64 0]
theorem abV:bQ Tryz.prog 155 aeI:=⟨aP (by kernel_rfl),(aB (v:=.agg #[.slice none 0 0, .slice none 0 0, .slice none 0 0, .slice none 0 0, .bool false, .slice none 0 0, .int .i64 0]) (by kernel_rfl) rfl (by kernel_rfl) rfl (by decide))⟩
def aeJ:TI:=.struct [(0,7,true),(7,1,false),(8,1,false),(9,9,true)] [.int .i64 0, .int .i64 0, .int .i64 0, .int .i64 0, .int .i64 0, .nil, .int .i64 0, .bool false, .bool false, .nil, .bool false, .nil, .bool false, .nil, .bool false, .nil, .bool false, .nil]
theorem abW:bQ Tryz.prog 178 aeJ:=⟨aP (by kernel_rfl),(aB (v:=.agg #[.int .i64 0, .int .i64 0, .int .i64 0, .int .i64 0, .int .i64 0, .slice none 0 0, .int .i64 0, .bool false, .bool false, .slice none 0 0, .bool false, .slice none 0 0, .bool false, .slice none 0 0, .bool false, .slice none 0 0, .bool false, .slice none 0 0]) (by kernel_rfl) rfl (by kernel_rfl) rfl (by decide))⟩
def aeK:TI:=.struct [(0,7,true),(7,1,false),(8,1,false),(9,9,true)] [.int .i64 0, .int .i64 0, .int .i64 0, .int .i64 0, .int .i64 0, .nil, .int .i64 0, .bool false, .bool false, .nil, .bool false, .nil, .bool false, .nil, .bool false, .nil, .bool false, .nil]
theorem abX:bQ Tryz.prog 179 aeK:=⟨aP (by kernel_rfl),(aB (v:=.agg #[.int .i64 0, .int .i64 0, .int .i64 0, .int .i64 0, .int .i64 0, .slice none 0 0, .int .i64 0, .bool false, .bool false, .slice none 0 0, .bool false, .slice none 0 0, .bool false, .slice none 0 0, .bool false, .slice none 0 0, .bool false, .slice none 0 0]) (by kernel_rfl) rfl (by kernel_rfl) rfl (by decide))⟩
def aeL:TI:=.int .u64
theorem abY:bQ Tryz.prog 182 aeL:=⟨by kernel_rfl,(aB (v:=.int .u64 0) (by kernel_rfl) rfl (by kernel_rfl) rfl (by decide))⟩
def aeM:TI:=.int .u32
theorem abZ:bQ Tryz.prog 185 aeM:=⟨by kernel_rfl,(aB (v:=.int .u32 0) (by kernel_rfl) rfl (by kernel_rfl) rfl (by decide))⟩
def aeN:TI:=.int .u64
theorem ab0:bQ Tryz.prog 186 aeN:=⟨by kernel_rfl,(aB (v:=.int .u64 0) (by kernel_rfl) rfl (by kernel_rfl) rfl (by decide))⟩
def aeO:TI:=.slice 24 1 24 [.nil]
theorem ab1:bQ Tryz.prog 197 aeO:=⟨by kernel_rfl,(aB (v:=.slice none 0 0) (by kernel_rfl) rfl (by kernel_rfl) rfl (by decide)),(aB (v:=.slice none 0 0) (by kernel_rfl) rfl (by kernel_rfl) rfl (by decide)),bO (by kernel_rfl)⟩
def aeP:TI:=.struct [(0,1,false)] [.nil]
theorem ab2:bQ Tryz.prog 198 aeP:=⟨aP (by kernel_rfl),(aB (v:=.agg #[.slice none 0 0]) (by kernel_rfl) rfl (by kernel_rfl) rfl (by decide))⟩
def aeQ:TI:=.struct [(0,1,false)] [.nil]
theorem ab3:bQ Tryz.prog 199 aeQ:=⟨aP (by kernel_rfl),(aB (v:=.agg #[.slice none 0 0]) (by kernel_rfl) rfl (by kernel_rfl) rfl (by decide))⟩
def aeR:TI:=.slice 52 4 64 [.bool false, .nil, .bool false, .nil]
theorem ab4:bQ Tryz.prog 218 aeR:=⟨by kernel_rfl,(aB (v:=.slice none 0 0) (by kernel_rfl) rfl (by kernel_rfl) rfl (by decide)),(aB (v:=.agg #[.bool false, .slice none 0 0, .bool false, .slice none 0 0]) (by kernel_rfl) rfl (by kernel_rfl) rfl (by decide)),bO (by kernel_rfl)⟩
def aeS:TI:=.slice 197 1 24 [.nil]
theorem ab5:bQ Tryz.prog 269 aeS:=⟨by kernel_rfl,(aB (v:=.slice none 0 0) (by kernel_rfl) rfl (by kernel_rfl) rfl (by decide)),(aB (v:=.slice none 0 0) (by kernel_rfl) rfl (by kernel_rfl) rfl (by decide)),bO (by kernel_rfl)⟩
def aeT:TI:=.int .u8
theorem ab6:bQ Tryz.prog 298 aeT:=⟨by kernel_rfl,(aB (v:=.int .u8 0) (by kernel_rfl) rfl (by kernel_rfl) rfl (by decide))⟩
def aeU:TI:=.int .u8
theorem ab7:bQ Tryz.prog 299 aeU:=⟨by kernel_rfl,(aB (v:=.int .u8 0) (by kernel_rfl) rfl (by kernel_rfl) rfl (by decide))⟩
def aeV:TI:=.int .i32
theorem ab8:bQ Tryz.prog 302 aeV:=⟨by kernel_rfl,(aB (v:=.int .i32 0) (by kernel_rfl) rfl (by kernel_rfl) rfl (by decide))⟩
def aeW:TI:=.int .i32
theorem ab9:bQ Tryz.prog 303 aeW:=⟨by kernel_rfl,(aB (v:=.int .i32 0) (by kernel_rfl) rfl (by kernel_rfl) rfl (by decide))⟩
def tyF:TypeId→TI
  | 2=>ti2
  | 3=>ti3
  | 4=>ti4
  | 5=>ti5
  | 6=>ti6
  | 7=>ti7
  | 8=>ti8
  | 9=>ti9
  | 10=>ane
  | 11=>anf
  | 12=>ang
  | 13=>anh
  | 14=>ani
  | 21=>anj
  | 22=>ank
  | 23=>anl
  | 24=>anm
  | 26=>ann
  | 27=>ano
  | 28=>anp
  | 29=>anq
  | 30=>anr
  | 31=>ans
  | 36=>ant
  | 37=>anu
  | 38=>anv
  | 41=>anw
  | 42=>anx
  | 46=>anz
  | 47=>anA
  | 48=>anB
  | 49=>anC
  | 51=>anD
  | 52=>anE
  | 53=>anF
  | 54=>anG
  | 62=>anH
  | 63=>anI
  | 68=>anJ
  | 69=>anK
  | 70=>anL
  | 71=>anM
  | 72=>anN
  | 73=>anO
  | 75=>anP
  | 76=>anQ
  | 77=>anR
  | 78=>anS
  | 79=>anT
  | 80=>anU
  | 81=>anV
  | 82=>anW
  | 83=>anX
  | 84=>anY
  | 85=>anZ
  | 93=>an0
  | 94=>an1
  | 95=>an2
  | 102=>aeB
  | 110=>aeC
  | 114=>aeD
  | 115=>aeE
  | 152=>aeF
  | 153=>aeG
  | 154=>aeH
  | 155=>aeI
  | 178=>aeJ
  | 179=>aeK
  | 182=>aeL
  | 185=>aeM
  | 186=>aeN
  | 197=>aeO
  | 198=>aeP
  | 199=>aeQ
  | 218=>aeR
  | 269=>aeS
  | 298=>aeT
  | 299=>aeU
  | 302=>aeV
  | 303=>aeW
  | _ => .other
theorem asv(t:TypeId):bQ Tryz.prog t (tyF t):=by
  unfold tyF
  split
  · exact am5
  · exact am6
  · exact am7
  · exact am8
  · exact am9
  · exact ana
  · exact anb
  · exact anc
  · exact ahg
  · exact ahh
  · exact ahj
  · exact ahk
  · exact ahl
  · exact ahm
  · exact ahn
  · exact aho
  · exact ahp
  · exact ahq
  · exact ahr
  · exact ahs
  · exact aht
  · exact ahu
  · exact ahv
  · exact ahw
  · exact ahx
  · exact ahy
  · exact ahz
  · exact ahA
  · exact ahB
  · exact ahC
  · exact ahD
  · exact ahE
  · exact ahF
  · exact ahG
  · exact ahH
  · exact ahI
  · exact ahJ
  · exact ahK
  · exact ahL
  · exact ahM
  · exact ahN
  · exact ahO
  · exact ahP
  · exact ahQ
  · exact ahR
  · exact ahS
  · exact ahT
  · exact ahU
  · exact ahV
  · exact ahW
  · exact ahX
  · exact ahY
  · exact ahZ
  · exact ah0
  · exact ah1
  · exact ah2
  · exact ah3
  · exact ah4
  · exact abO
  · exact abP
  · exact abQ
  · exact abR
  · exact abS
  · exact abT
  · exact abU
  · exact abV
  · exact abW
  · exact abX
  · exact abY
  · exact abZ
  · exact ab0
  · exact ab1
  · exact ab2
  · exact ab3
  · exact ab4
  · exact ab5
  · exact ab6
  · exact ab7
  · exact ab8
  · exact ab9
  · trivial
theorem aca:Tryz.prog.follows .mixedOrders=true:=by kernel_rfl
def LZ(g:FuncId):Bool:=g==72 || g==184 || g==270 || g==271
noncomputable def env:Env:=⟨Tryz.prog,tyF,asv,aca,LZ⟩
@[simp] theorem aqG:env.writes=LZ:=rfl
attribute [simp] LZ
@[simp] theorem axp:env.ty 2 = .int .i64:=rfl
@[simp] theorem asw:env.ty 3 = .int .i64:=rfl
@[simp] theorem axq:env.ty 4 = .bool:=rfl
@[simp] theorem an3:env.ty 5 = .int .u8:=rfl
@[simp] theorem axr:env.ty 6 = .int .u8:=rfl
@[simp] theorem axs:env.ty 7 = .struct [(0,1,false),(1,1,false),(2,1,false),(3,1,false)] [.int .i64 0, .int .i64 0, .bool false, .int .u8 0]:=rfl
@[simp] theorem axt:env.ty 8 = .struct [(0,1,false),(1,1,false),(2,1,false),(3,1,false)] [.int .i64 0, .int .i64 0, .bool false, .int .u8 0]:=rfl
@[simp] theorem axu:env.ty 9 = .str:=rfl
@[simp] theorem au5:env.ty 10 = .str:=rfl
@[simp] theorem au6:env.ty 11 = .str:=rfl
@[simp] theorem au7:env.ty 12 = .int .u64:=rfl
@[simp] theorem au8:env.ty 13 = .struct [(0,1,false),(1,1,false)] [.str ⟨#[]⟩, .int .u64 0]:=rfl
@[simp] theorem au9:env.ty 14 = .struct [(0,1,false),(1,1,false)] [.str ⟨#[]⟩, .int .u64 0]:=rfl
@[simp] theorem ava:env.ty 21 = .int .i32:=rfl
@[simp] theorem avb:env.ty 22 = .slice 3 1 8 [.int .i64 0]:=rfl
@[simp] theorem avc:env.ty 23 = .slice 38 2 32 [.bool false, .nil]:=rfl
@[simp] theorem avd:env.ty 24 = .slice 38 2 32 [.bool false, .nil]:=rfl
@[simp] theorem ave:env.ty 26 = .slice 31 4 64 [.nil, .bool false, .nil, .bool false]:=rfl
@[simp] theorem avf:env.ty 27 = .slice 3 1 8 [.int .i64 0]:=rfl
@[simp] theorem avg:env.ty 28 = .struct [(0,1,false),(1,1,false)] [.nil, .bool false]:=rfl
@[simp] theorem avh:env.ty 29 = .struct [(0,1,false),(1,1,false)] [.nil, .bool false]:=rfl
@[simp] theorem avi:env.ty 30 = .struct [(0,2,true),(2,2,true)] [.nil, .bool false, .nil, .bool false]:=rfl
@[simp] theorem avj:env.ty 31 = .struct [(0,2,true),(2,2,true)] [.nil, .bool false, .nil, .bool false]:=rfl
@[simp] theorem avk:env.ty 36 = .slice 185 1 4 [.int .u32 0]:=rfl
@[simp] theorem avl:env.ty 37 = .struct [(0,1,false),(1,1,false)] [.bool false, .nil]:=rfl
@[simp] theorem avm:env.ty 38 = .struct [(0,1,false),(1,1,false)] [.bool false, .nil]:=rfl
@[simp] theorem avn:env.ty 41 = .slice 54 9 152 [.nil, .bool false, .nil, .bool false, .nil, .bool false, .nil, .bool false, .nil]:=rfl
@[simp] theorem avo:env.ty 42 = .int .i64:=rfl
@[simp] theorem avp:env.ty 46 = .slice 31 4 64 [.nil, .bool false, .nil, .bool false]:=rfl
@[simp] theorem avq:env.ty 47 = .slice 46 1 24 [.nil]:=rfl
@[simp] theorem avr:env.ty 48 = .struct [(0,1,false),(1,1,false),(2,4,true),(6,4,true)] [.nil, .nil, .nil, .bool false, .nil, .bool false, .nil, .bool false, .nil, .bool false]:=rfl
@[simp] theorem avs:env.ty 49 = .struct [(0,1,false),(1,1,false),(2,4,true),(6,4,true)] [.nil, .nil, .nil, .bool false, .nil, .bool false, .nil, .bool false, .nil, .bool false]:=rfl
@[simp] theorem avt:env.ty 51 = .struct [(0,2,true),(2,2,true)] [.bool false, .nil, .bool false, .nil]:=rfl
@[simp] theorem avu:env.ty 52 = .struct [(0,2,true),(2,2,true)] [.bool false, .nil, .bool false, .nil]:=rfl
@[simp] theorem avv:env.ty 53 = .struct [(0,1,false),(1,4,true),(5,4,true)] [.nil, .bool false, .nil, .bool false, .nil, .bool false, .nil, .bool false, .nil]:=rfl
@[simp] theorem avw:env.ty 54 = .struct [(0,1,false),(1,4,true),(5,4,true)] [.nil, .bool false, .nil, .bool false, .nil, .bool false, .nil, .bool false, .nil]:=rfl
@[simp] theorem avx:env.ty 62 = .slice 73 5 88 [.nil, .nil, .bool false, .nil, .int .i64 0]:=rfl
@[simp] theorem avy:env.ty 63 = .slice 155 7 136 [.nil, .nil, .nil, .nil, .bool false, .nil, .int .i64 0]:=rfl
@[simp] theorem avz:env.ty 68 = .fnT:=rfl
@[simp] theorem avA:env.ty 69 = .slice 68 1 8 [.undef]:=rfl
@[simp] theorem avB:env.ty 70 = .struct [(0,1,false),(1,1,false),(2,2,true)] [.nil, .nil, .bool false, .nil]:=rfl
@[simp] theorem avC:env.ty 71 = .struct [(0,1,false),(1,1,false),(2,2,true)] [.nil, .nil, .bool false, .nil]:=rfl
@[simp] theorem avD:env.ty 72 = .struct [(0,4,true),(4,1,false)] [.nil, .nil, .bool false, .nil, .int .i64 0]:=rfl
@[simp] theorem avE:env.ty 73 = .struct [(0,4,true),(4,1,false)] [.nil, .nil, .bool false, .nil, .int .i64 0]:=rfl
@[simp] theorem avF:env.ty 75 = .slice 78 5 40 [.int .i64 0, .int .i64 0, .int .i64 0, .int .i64 0, .int .i64 0]:=rfl
@[simp] theorem avG:env.ty 76 = .arr 3 4 1 [.int .i64 0, .int .i64 0, .int .i64 0, .int .i64 0]:=rfl
@[simp] theorem avH:env.ty 77 = .struct [(0,1,false),(1,4,true)] [.int .i64 0, .int .i64 0, .int .i64 0, .int .i64 0, .int .i64 0]:=rfl
@[simp] theorem avI:env.ty 78 = .struct [(0,1,false),(1,4,true)] [.int .i64 0, .int .i64 0, .int .i64 0, .int .i64 0, .int .i64 0]:=rfl
@[simp] theorem avJ:env.ty 79 = .slice 82 7 72 [.int .i64 0, .int .i64 0, .int .i64 0, .int .i64 0, .int .i64 0, .nil, .int .i64 0]:=rfl
@[simp] theorem avK:env.ty 80 = .slice 85 9 104 [.int .i64 0, .int .i64 0, .int .i64 0, .int .i64 0, .int .i64 0, .nil, .int .i64 0, .nil, .bool false]:=rfl
@[simp] theorem avL:env.ty 81 = .struct [(0,5,true),(5,1,false),(6,1,false)] [.int .i64 0, .int .i64 0, .int .i64 0, .int .i64 0, .int .i64 0, .nil, .int .i64 0]:=rfl
@[simp] theorem avM:env.ty 82 = .struct [(0,5,true),(5,1,false),(6,1,false)] [.int .i64 0, .int .i64 0, .int .i64 0, .int .i64 0, .int .i64 0, .nil, .int .i64 0]:=rfl
@[simp] theorem avN:env.ty 83 = .slice 49 10 176 [.nil, .nil, .nil, .bool false, .nil, .bool false, .nil, .bool false, .nil, .bool false]:=rfl
@[simp] theorem avO:env.ty 84 = .struct [(0,5,true),(5,1,false),(6,1,false),(7,1,false),(8,1,false)] [.int .i64 0, .int .i64 0, .int .i64 0, .int .i64 0, .int .i64 0, .nil, .int .i64 0, .nil, .bool false]:=rfl
@[simp] theorem avP:env.ty 85 = .struct [(0,5,true),(5,1,false),(6,1,false),(7,1,false),(8,1,false)] [.int .i64 0, .int .i64 0, .int .i64 0, .int .i64 0, .int .i64 0, .nil, .int .i64 0, .nil, .bool false]:=rfl
@[simp] theorem avQ:env.ty 93 = .slice 179 18 232 [.int .i64 0, .int .i64 0, .int .i64 0, .int .i64 0, .int .i64 0, .nil, .int .i64 0, .bool false, .bool false, .nil, .bool false, .nil, .bool false, .nil, .bool false, .nil, .bool false, .nil]:=rfl
@[simp] theorem avR:env.ty 94 = .struct [(0,1,false),(1,9,true),(10,1,false),(11,1,false)] [.bool false, .nil, .bool false, .nil, .bool false, .nil, .bool false, .nil, .bool false, .nil, .nil, .int .i64 0]:=rfl
@[simp] theorem avS:env.ty 95 = .struct [(0,1,false),(1,9,true),(10,1,false),(11,1,false)] [.bool false, .nil, .bool false, .nil, .bool false, .nil, .bool false, .nil, .bool false, .nil, .nil, .int .i64 0]:=rfl
@[simp] theorem asx:env.ty 102 = .slice 22 1 24 [.nil]:=rfl
@[simp] theorem asy:env.ty 110 = .slice 115 14 192 [.int .i64 0, .int .i64 0, .int .i64 0, .int .i64 0, .int .i64 0, .nil, .bool false, .nil, .bool false, .nil, .bool false, .nil, .bool false, .nil]:=rfl
@[simp] theorem asz:env.ty 114 = .struct [(0,5,true),(5,9,true)] [.int .i64 0, .int .i64 0, .int .i64 0, .int .i64 0, .int .i64 0, .nil, .bool false, .nil, .bool false, .nil, .bool false, .nil, .bool false, .nil]:=rfl
@[simp] theorem asA:env.ty 115 = .struct [(0,5,true),(5,9,true)] [.int .i64 0, .int .i64 0, .int .i64 0, .int .i64 0, .int .i64 0, .nil, .bool false, .nil, .bool false, .nil, .bool false, .nil, .bool false, .nil]:=rfl
@[simp] theorem asB:env.ty 152 = .struct [(0,1,false),(1,1,false),(2,4,true)] [.nil, .nil, .nil, .nil, .bool false, .nil]:=rfl
@[simp] theorem asC:env.ty 153 = .struct [(0,1,false),(1,1,false),(2,4,true)] [.nil, .nil, .nil, .nil, .bool false, .nil]:=rfl
@[simp] theorem asD:env.ty 154 = .struct [(0,6,true),(6,1,false)] [.nil, .nil, .nil, .nil, .bool false, .nil, .int .i64 0]:=rfl
@[simp] theorem asE:env.ty 155 = .struct [(0,6,true),(6,1,false)] [.nil, .nil, .nil, .nil, .bool false, .nil, .int .i64 0]:=rfl
@[simp] theorem asF:env.ty 178 = .struct [(0,7,true),(7,1,false),(8,1,false),(9,9,true)] [.int .i64 0, .int .i64 0, .int .i64 0, .int .i64 0, .int .i64 0, .nil, .int .i64 0, .bool false, .bool false, .nil, .bool false, .nil, .bool false, .nil, .bool false, .nil, .bool false, .nil]:=rfl
@[simp] theorem asG:env.ty 179 = .struct [(0,7,true),(7,1,false),(8,1,false),(9,9,true)] [.int .i64 0, .int .i64 0, .int .i64 0, .int .i64 0, .int .i64 0, .nil, .int .i64 0, .bool false, .bool false, .nil, .bool false, .nil, .bool false, .nil, .bool false, .nil, .bool false, .nil]:=rfl
@[simp] theorem asH:env.ty 182 = .int .u64:=rfl
@[simp] theorem ah5:env.ty 185 = .int .u32:=rfl
@[simp] theorem asI:env.ty 186 = .int .u64:=rfl
@[simp] theorem asJ:env.ty 197 = .slice 24 1 24 [.nil]:=rfl
@[simp] theorem asK:env.ty 198 = .struct [(0,1,false)] [.nil]:=rfl
@[simp] theorem asL:env.ty 199 = .struct [(0,1,false)] [.nil]:=rfl
@[simp] theorem asM:env.ty 218 = .slice 52 4 64 [.bool false, .nil, .bool false, .nil]:=rfl
@[simp] theorem asN:env.ty 269 = .slice 197 1 24 [.nil]:=rfl
@[simp] theorem asO:env.ty 298 = .int .u8:=rfl
@[simp] theorem asP:env.ty 299 = .int .u8:=rfl
@[simp] theorem asQ:env.ty 302 = .int .i32:=rfl
@[simp] theorem asR:env.ty 303 = .int .i32:=rfl
end Go.Proofs.YtiobceocpabjdaaGreat
