import Derived.Test.YtiobceocpabjdaaGreatProg
import Derived.KernelRfl
import Derived.Test.YtiobceocpabjdaaGreatZad
set_option linter.unusedSimpArgs false
set_option linter.unusedVariables false
/- The types of the seat, as the pure machine wants them: closed facts, each by the kernel. -/
namespace Go.Proofs.YtiobceocpabjdaaGreat
open Go Pm
def ti2:TI:=.int .i64
theorem asd:b6 Tryz.prog 2 ti2:=⟨by kernel_rfl,(aD (v:=.int .i64 0) (by kernel_rfl) rfl (by kernel_rfl) rfl (by decide))⟩
def ti3:TI:=.int .i64
theorem ase:b6 Tryz.prog 3 ti3:=⟨by kernel_rfl,(aD (v:=.int .i64 0) (by kernel_rfl) rfl (by kernel_rfl) rfl (by decide))⟩
def ti4:TI:=.bool
theorem asf:b6 Tryz.prog 4 ti4:=⟨by kernel_rfl,(aD (v:=.bool false) (by kernel_rfl) rfl (by kernel_rfl) rfl (by decide))⟩
def ti5:TI:=.int .u8
theorem asg:b6 Tryz.prog 5 ti5:=⟨by kernel_rfl,(aD (v:=.int .u8 0) (by kernel_rfl) rfl (by kernel_rfl) rfl (by decide))⟩
def ti6:TI:=.int .u8
theorem ash:b6 Tryz.prog 6 ti6:=⟨by kernel_rfl,(aD (v:=.int .u8 0) (by kernel_rfl) rfl (by kernel_rfl) rfl (by decide))⟩
def ti7:TI:=.struct [(0,1,false),(1,1,false),(2,1,false),(3,1,false)] [.int .i64 0, .int .i64 0, .bool false, .int .u8 0]
theorem asi:b6 Tryz.prog 7 ti7:=⟨aS (by kernel_rfl),(aD (v:=.agg #[.int .i64 0, .int .i64 0, .bool false, .int .u8 0]) (by kernel_rfl) rfl (by kernel_rfl) rfl (by decide))⟩
def ti8:TI:=.struct [(0,1,false),(1,1,false),(2,1,false),(3,1,false)] [.int .i64 0, .int .i64 0, .bool false, .int .u8 0]
theorem asj:b6 Tryz.prog 8 ti8:=⟨aS (by kernel_rfl),(aD (v:=.agg #[.int .i64 0, .int .i64 0, .bool false, .int .u8 0]) (by kernel_rfl) rfl (by kernel_rfl) rfl (by decide))⟩
def ti9:TI:=.str
theorem asl:b6 Tryz.prog 9 ti9:=⟨by kernel_rfl,(aD (v:=.string ⟨#[]⟩) (by kernel_rfl) rfl (by kernel_rfl) rfl (by decide))⟩
def asm:TI:=.str
theorem amb:b6 Tryz.prog 10 asm:=⟨by kernel_rfl,(aD (v:=.string ⟨#[]⟩) (by kernel_rfl) rfl (by kernel_rfl) rfl (by decide))⟩
def asn:TI:=.str
theorem amc:b6 Tryz.prog 11 asn:=⟨by kernel_rfl,(aD (v:=.string ⟨#[]⟩) (by kernel_rfl) rfl (by kernel_rfl) rfl (by decide))⟩
def aso:TI:=.int .u64
theorem amd:b6 Tryz.prog 12 aso:=⟨by kernel_rfl,(aD (v:=.int .u64 0) (by kernel_rfl) rfl (by kernel_rfl) rfl (by decide))⟩
def asp:TI:=.struct [(0,1,false),(1,1,false)] [.str ⟨#[]⟩, .int .u64 0]
theorem ame:b6 Tryz.prog 13 asp:=⟨aS (by kernel_rfl),(aD (v:=.agg #[.string ⟨#[]⟩, .int .u64 0]) (by kernel_rfl) rfl (by kernel_rfl) rfl (by decide))⟩
def asq:TI:=.struct [(0,1,false),(1,1,false)] [.str ⟨#[]⟩, .int .u64 0]
theorem amf:b6 Tryz.prog 14 asq:=⟨aS (by kernel_rfl),(aD (v:=.agg #[.string ⟨#[]⟩, .int .u64 0]) (by kernel_rfl) rfl (by kernel_rfl) rfl (by decide))⟩
def asr:TI:=.int .i32
theorem amg:b6 Tryz.prog 21 asr:=⟨by kernel_rfl,(aD (v:=.int .i32 0) (by kernel_rfl) rfl (by kernel_rfl) rfl (by decide))⟩
def ass:TI:=.slice 3 1 8 [.int .i64 0]
theorem amh:b6 Tryz.prog 22 ass:=⟨by kernel_rfl,(aD (v:=.slice none 0 0) (by kernel_rfl) rfl (by kernel_rfl) rfl (by decide)),(aD (v:=.int .i64 0) (by kernel_rfl) rfl (by kernel_rfl) rfl (by decide)),bY (by kernel_rfl)⟩
def ast:TI:=.slice 38 2 32 [.bool false, .nil]
theorem ami:b6 Tryz.prog 23 ast:=⟨by kernel_rfl,(aD (v:=.slice none 0 0) (by kernel_rfl) rfl (by kernel_rfl) rfl (by decide)),(aD (v:=.agg #[.bool false, .slice none 0 0]) (by kernel_rfl) rfl (by kernel_rfl) rfl (by decide)),bY (by kernel_rfl)⟩
def asu:TI:=.slice 38 2 32 [.bool false, .nil]
theorem amj:b6 Tryz.prog 24 asu:=⟨by kernel_rfl,(aD (v:=.slice none 0 0) (by kernel_rfl) rfl (by kernel_rfl) rfl (by decide)),(aD (v:=.agg #[.bool false, .slice none 0 0]) (by kernel_rfl) rfl (by kernel_rfl) rfl (by decide)),bY (by kernel_rfl)⟩
def asv:TI:=.slice 31 4 64 [.nil, .bool false, .nil, .bool false]
theorem amk:b6 Tryz.prog 26 asv:=⟨by kernel_rfl,(aD (v:=.slice none 0 0) (by kernel_rfl) rfl (by kernel_rfl) rfl (by decide)),(aD (v:=.agg #[.slice none 0 0, .bool false, .slice none 0 0, .bool false]) (by kernel_rfl) rfl (by kernel_rfl) rfl (by decide)),bY (by kernel_rfl)⟩
def asw:TI:=.slice 3 1 8 [.int .i64 0]
theorem aml:b6 Tryz.prog 27 asw:=⟨by kernel_rfl,(aD (v:=.slice none 0 0) (by kernel_rfl) rfl (by kernel_rfl) rfl (by decide)),(aD (v:=.int .i64 0) (by kernel_rfl) rfl (by kernel_rfl) rfl (by decide)),bY (by kernel_rfl)⟩
def asx:TI:=.struct [(0,1,false),(1,1,false)] [.nil, .bool false]
theorem amm:b6 Tryz.prog 28 asx:=⟨aS (by kernel_rfl),(aD (v:=.agg #[.slice none 0 0, .bool false]) (by kernel_rfl) rfl (by kernel_rfl) rfl (by decide))⟩
def asy:TI:=.struct [(0,1,false),(1,1,false)] [.nil, .bool false]
theorem amn:b6 Tryz.prog 29 asy:=⟨aS (by kernel_rfl),(aD (v:=.agg #[.slice none 0 0, .bool false]) (by kernel_rfl) rfl (by kernel_rfl) rfl (by decide))⟩
def asz:TI:=.struct [(0,2,true),(2,2,true)] [.nil, .bool false, .nil, .bool false]
theorem amo:b6 Tryz.prog 30 asz:=⟨aS (by kernel_rfl),(aD (v:=.agg #[.slice none 0 0, .bool false, .slice none 0 0, .bool false]) (by kernel_rfl) rfl (by kernel_rfl) rfl (by decide))⟩
def asA:TI:=.struct [(0,2,true),(2,2,true)] [.nil, .bool false, .nil, .bool false]
theorem amp:b6 Tryz.prog 31 asA:=⟨aS (by kernel_rfl),(aD (v:=.agg #[.slice none 0 0, .bool false, .slice none 0 0, .bool false]) (by kernel_rfl) rfl (by kernel_rfl) rfl (by decide))⟩
def asB:TI:=.slice 185 1 4 [.int .u32 0]
theorem amq:b6 Tryz.prog 36 asB:=⟨by kernel_rfl,(aD (v:=.slice none 0 0) (by kernel_rfl) rfl (by kernel_rfl) rfl (by decide)),(aD (v:=.int .u32 0) (by kernel_rfl) rfl (by kernel_rfl) rfl (by decide)),bY (by kernel_rfl)⟩
def asC:TI:=.struct [(0,1,false),(1,1,false)] [.bool false, .nil]
theorem amr:b6 Tryz.prog 37 asC:=⟨aS (by kernel_rfl),(aD (v:=.agg #[.bool false, .slice none 0 0]) (by kernel_rfl) rfl (by kernel_rfl) rfl (by decide))⟩
def asD:TI:=.struct [(0,1,false),(1,1,false)] [.bool false, .nil]
theorem ams:b6 Tryz.prog 38 asD:=⟨aS (by kernel_rfl),(aD (v:=.agg #[.bool false, .slice none 0 0]) (by kernel_rfl) rfl (by kernel_rfl) rfl (by decide))⟩
def asE:TI:=.slice 54 9 152 [.nil, .bool false, .nil, .bool false, .nil, .bool false, .nil, .bool false, .nil]
theorem amt:b6 Tryz.prog 41 asE:=⟨by kernel_rfl,(aD (v:=.slice none 0 0) (by kernel_rfl) rfl (by kernel_rfl) rfl (by decide)),(aD (v:=.agg #[.slice none 0 0, .bool false, .slice none 0 0, .bool false, .slice none 0 0, .bool false, .slice none 0 0, .bool false, .slice none 0 0]) (by kernel_rfl) rfl (by kernel_rfl) rfl (by decide)),bY (by kernel_rfl)⟩
def asF:TI:=.int .i64
theorem amu:b6 Tryz.prog 42 asF:=⟨by kernel_rfl,(aD (v:=.int .i64 0) (by kernel_rfl) rfl (by kernel_rfl) rfl (by decide))⟩
def asG:TI:=.slice 31 4 64 [.nil, .bool false, .nil, .bool false]
theorem amv:b6 Tryz.prog 46 asG:=⟨by kernel_rfl,(aD (v:=.slice none 0 0) (by kernel_rfl) rfl (by kernel_rfl) rfl (by decide)),(aD (v:=.agg #[.slice none 0 0, .bool false, .slice none 0 0, .bool false]) (by kernel_rfl) rfl (by kernel_rfl) rfl (by decide)),bY (by kernel_rfl)⟩
def asH:TI:=.slice 46 1 24 [.nil]
theorem amw:b6 Tryz.prog 47 asH:=⟨by kernel_rfl,(aD (v:=.slice none 0 0) (by kernel_rfl) rfl (by kernel_rfl) rfl (by decide)),(aD (v:=.slice none 0 0) (by kernel_rfl) rfl (by kernel_rfl) rfl (by decide)),bY (by kernel_rfl)⟩
def asI:TI:=.struct [(0,1,false),(1,1,false),(2,4,true),(6,4,true)] [.nil, .nil, .nil, .bool false, .nil, .bool false, .nil, .bool false, .nil, .bool false]
theorem amx:b6 Tryz.prog 48 asI:=⟨aS (by kernel_rfl),(aD (v:=.agg #[.slice none 0 0, .slice none 0 0, .slice none 0 0, .bool false, .slice none 0 0, .bool false, .slice none 0 0, .bool false, .slice none 0 0, .bool false]) (by kernel_rfl) rfl (by kernel_rfl) rfl (by decide))⟩
def asJ:TI:=.struct [(0,1,false),(1,1,false),(2,4,true),(6,4,true)] [.nil, .nil, .nil, .bool false, .nil, .bool false, .nil, .bool false, .nil, .bool false]
theorem amy:b6 Tryz.prog 49 asJ:=⟨aS (by kernel_rfl),(aD (v:=.agg #[.slice none 0 0, .slice none 0 0, .slice none 0 0, .bool false, .slice none 0 0, .bool false, .slice none 0 0, .bool false, .slice none 0 0, .bool false]) (by kernel_rfl) rfl (by kernel_rfl) rfl (by decide))⟩
def asK:TI:=.struct [(0,2,true),(2,2,true)] [.bool false, .nil, .bool false, .nil]
theorem amz:b6 Tryz.prog 51 asK:=⟨aS (by kernel_rfl),(aD (v:=.agg #[.bool false, .slice none 0 0, .bool false, .slice none 0 0]) (by kernel_rfl) rfl (by kernel_rfl) rfl (by decide))⟩
def asL:TI:=.struct [(0,2,true),(2,2,true)] [.bool false, .nil, .bool false, .nil]
theorem amA:b6 Tryz.prog 52 asL:=⟨aS (by kernel_rfl),(aD (v:=.agg #[.bool false, .slice none 0 0, .bool false, .slice none 0 0]) (by kernel_rfl) rfl (by kernel_rfl) rfl (by decide))⟩
def asM:TI:=.struct [(0,1,false),(1,4,true),(5,4,true)] [.nil, .bool false, .nil, .bool false, .nil, .bool false, .nil, .bool false, .nil]
theorem amB:b6 Tryz.prog 53 asM:=⟨aS (by kernel_rfl),(aD (v:=.agg #[.slice none 0 0, .bool false, .slice none 0 0, .bool false, .slice none 0 0, .bool false, .slice none 0 0, .bool false, .slice none 0 0]) (by kernel_rfl) rfl (by kernel_rfl) rfl (by decide))⟩
def asN:TI:=.struct [(0,1,false),(1,4,true),(5,4,true)] [.nil, .bool false, .nil, .bool false, .nil, .bool false, .nil, .bool false, .nil]
theorem amC:b6 Tryz.prog 54 asN:=⟨aS (by kernel_rfl),(aD (v:=.agg #[.slice none 0 0, .bool false, .slice none 0 0, .bool false, .slice none 0 0, .bool false, .slice none 0 0, .bool false, .slice none 0 0]) (by kernel_rfl) rfl (by kernel_rfl) rfl (by decide))⟩
def asO:TI:=.slice 73 5 88 [.nil, .nil, .bool false, .nil, .int .i64 0]
theorem amD:b6 Tryz.prog 62 asO:=⟨by kernel_rfl,(aD (v:=.slice none 0 0) (by kernel_rfl) rfl (by kernel_rfl) rfl (by decide)),(aD (v:=.agg #[.slice none 0 0, .slice none 0 0, .bool false, .slice none 0 0, .int .i64 0]) (by kernel_rfl) rfl (by kernel_rfl) rfl (by decide)),bY (by kernel_rfl)⟩
def asP:TI:=.slice 155 7 136 [.nil, .nil, .nil, .nil, .bool false, .nil, .int .i64 0]
theorem amE:b6 Tryz.prog 63 asP:=⟨by kernel_rfl,(aD (v:=.slice none 0 0) (by kernel_rfl) rfl (by kernel_rfl) rfl (by decide)),(aD (v:=.agg #[.slice none 0 0, .slice none 0 0, .slice none 0 0, .slice none 0 0, .bool false, .slice none 0 0, .int .i64 0]) (by kernel_rfl) rfl (by kernel_rfl) rfl (by decide)),bY (by kernel_rfl)⟩
def asQ:TI:=.fnT
theorem amF:b6 Tryz.prog 68 asQ:=⟨by kernel_rfl,(aD (v:=.nilFunc) (by kernel_rfl) rfl (by kernel_rfl) rfl (by decide))⟩
def asR:TI:=.slice 68 1 8 [.undef]
theorem amG:b6 Tryz.prog 69 asR:=⟨by kernel_rfl,(aD (v:=.slice none 0 0) (by kernel_rfl) rfl (by kernel_rfl) rfl (by decide)),(aD (v:=.nilFunc) (by kernel_rfl) rfl (by kernel_rfl) rfl (by decide)),bY (by kernel_rfl)⟩
def asS:TI:=.struct [(0,1,false),(1,1,false),(2,2,true)] [.nil, .nil, .bool false, .nil]
theorem amH:b6 Tryz.prog 70 asS:=⟨aS (by kernel_rfl),(aD (v:=.agg #[.slice none 0 0, .slice none 0 0, .bool false, .slice none 0 0]) (by kernel_rfl) rfl (by kernel_rfl) rfl (by decide))⟩
def asT:TI:=.struct [(0,1,false),(1,1,false),(2,2,true)] [.nil, .nil, .bool false, .nil]
theorem amI:b6 Tryz.prog 71 asT:=⟨aS (by kernel_rfl),(aD (v:=.agg #[.slice none 0 0, .slice none 0 0, .bool false, .slice none 0 0]) (by kernel_rfl) rfl (by kernel_rfl) rfl (by decide))⟩
def asU:TI:=.struct [(0,4,true),(4,1,false)] [.nil, .nil, .bool false, .nil, .int .i64 0]
theorem amJ:b6 Tryz.prog 72 asU:=⟨aS (by kernel_rfl),(aD (v:=.agg #[.slice none 0 0, .slice none 0 0, .bool false, .slice none 0 0, .int .i64 0]) (by kernel_rfl) rfl (by kernel_rfl) rfl (by decide))⟩
def asV:TI:=.struct [(0,4,true),(4,1,false)] [.nil, .nil, .bool false, .nil, .int .i64 0]
theorem amK:b6 Tryz.prog 73 asV:=⟨aS (by kernel_rfl),(aD (v:=.agg #[.slice none 0 0, .slice none 0 0, .bool false, .slice none 0 0, .int .i64 0]) (by kernel_rfl) rfl (by kernel_rfl) rfl (by decide))⟩
def asW:TI:=.slice 78 5 40 [.int .i64 0, .int .i64 0, .int .i64 0, .int .i64 0, .int .i64 0]
theorem amL:b6 Tryz.prog 75 asW:=⟨by kernel_rfl,(aD (v:=.slice none 0 0) (by kernel_rfl) rfl (by kernel_rfl) rfl (by decide)),(aD (v:=.agg #[.int .i64 0, .int .i64 0, .int .i64 0, .int .i64 0, .int .i64 0]) (by kernel_rfl) rfl (by kernel_rfl) rfl (by decide)),bY (by kernel_rfl)⟩
def asX:TI:=.arr 3 4 1 [.int .i64 0, .int .i64 0, .int .i64 0, .int .i64 0]
theorem amM:b6 Tryz.prog 76 asX:=⟨by kernel_rfl,(aD (v:=.agg #[.int .i64 0, .int .i64 0, .int .i64 0, .int .i64 0]) (by kernel_rfl) rfl (by kernel_rfl) rfl (by decide)),FI (by kernel_rfl)⟩
def asY:TI:=.struct [(0,1,false),(1,4,true)] [.int .i64 0, .int .i64 0, .int .i64 0, .int .i64 0, .int .i64 0]
theorem amN:b6 Tryz.prog 77 asY:=⟨aS (by kernel_rfl),(aD (v:=.agg #[.int .i64 0, .int .i64 0, .int .i64 0, .int .i64 0, .int .i64 0]) (by kernel_rfl) rfl (by kernel_rfl) rfl (by decide))⟩
def asZ:TI:=.struct [(0,1,false),(1,4,true)] [.int .i64 0, .int .i64 0, .int .i64 0, .int .i64 0, .int .i64 0]
theorem amO:b6 Tryz.prog 78 asZ:=⟨aS (by kernel_rfl),(aD (v:=.agg #[.int .i64 0, .int .i64 0, .int .i64 0, .int .i64 0, .int .i64 0]) (by kernel_rfl) rfl (by kernel_rfl) rfl (by decide))⟩
def as0:TI:=.slice 82 7 72 [.int .i64 0, .int .i64 0, .int .i64 0, .int .i64 0, .int .i64 0, .nil, .int .i64 0]
theorem amP:b6 Tryz.prog 79 as0:=⟨by kernel_rfl,(aD (v:=.slice none 0 0) (by kernel_rfl) rfl (by kernel_rfl) rfl (by decide)),(aD (v:=.agg #[.int .i64 0, .int .i64 0, .int .i64 0, .int .i64 0, .int .i64 0, .slice none 0 0, .int .i64 0]) (by kernel_rfl) rfl (by kernel_rfl) rfl (by decide)),bY (by kernel_rfl)⟩
def as1:TI:=.slice 85 9 104 [.int .i64 0, .int .i64 0, .int .i64 0, .int .i64 0, .int .i64 0, .nil, .int .i64 0, .nil, .bool false]
theorem amQ:b6 Tryz.prog 80 as1:=⟨by kernel_rfl,(aD (v:=.slice none 0 0) (by kernel_rfl) rfl (by kernel_rfl) rfl (by decide)),(aD (v:=.agg #[.int .i64 0, .int .i64 0, .int .i64 0, .int .i64 0, .int .i64 0, .slice none 0 0, .int .i64 0, .slice none 0 0, .bool false]) (by kernel_rfl) rfl (by kernel_rfl) rfl (by decide)),bY (by kernel_rfl)⟩
def as2:TI:=.struct [(0,5,true),(5,1,false),(6,1,false)] [.int .i64 0, .int .i64 0, .int .i64 0, .int .i64 0, .int .i64 0, .nil, .int .i64 0]
theorem amR:b6 Tryz.prog 81 as2:=⟨aS (by kernel_rfl),(aD (v:=.agg #[.int .i64 0, .int .i64 0, .int .i64 0, .int .i64 0, .int .i64 0, .slice none 0 0, .int .i64 0]) (by kernel_rfl) rfl (by kernel_rfl) rfl (by decide))⟩
def as3:TI:=.struct [(0,5,true),(5,1,false),(6,1,false)] [.int .i64 0, .int .i64 0, .int .i64 0, .int .i64 0, .int .i64 0, .nil, .int .i64 0]
theorem amS:b6 Tryz.prog 82 as3:=⟨aS (by kernel_rfl),(aD (v:=.agg #[.int .i64 0, .int .i64 0, .int .i64 0, .int .i64 0, .int .i64 0, .slice none 0 0, .int .i64 0]) (by kernel_rfl) rfl (by kernel_rfl) rfl (by decide))⟩
def as4:TI:=.slice 49 10 176 [.nil, .nil, .nil, .bool false, .nil, .bool false, .nil, .bool false, .nil, .bool false]
theorem amT:b6 Tryz.prog 83 as4:=⟨by kernel_rfl,(aD (v:=.slice none 0 0) (by kernel_rfl) rfl (by kernel_rfl) rfl (by decide)),(aD (v:=.agg #[.slice none 0 0, .slice none 0 0, .slice none 0 0, .bool false, .slice none 0 0, .bool false, .slice none 0 0, .bool false, .slice none 0 0, .bool false]) (by kernel_rfl) rfl (by kernel_rfl) rfl (by decide)),bY (by kernel_rfl)⟩
def as5:TI:=.struct [(0,5,true),(5,1,false),(6,1,false),(7,1,false),(8,1,false)] [.int .i64 0, .int .i64 0, .int .i64 0, .int .i64 0, .int .i64 0, .nil, .int .i64 0, .nil, .bool false]
theorem amU:b6 Tryz.prog 84 as5:=⟨aS (by kernel_rfl),(aD (v:=.agg #[.int .i64 0, .int .i64 0, .int .i64 0, .int .i64 0, .int .i64 0, .slice none 0 0, .int .i64 0, .slice none 0 0, .bool false]) (by kernel_rfl) rfl (by kernel_rfl) rfl (by decide))⟩
def as6:TI:=.struct [(0,5,true),(5,1,false),(6,1,false),(7,1,false),(8,1,false)] [.int .i64 0, .int .i64 0, .int .i64 0, .int .i64 0, .int .i64 0, .nil, .int .i64 0, .nil, .bool false]
theorem amV:b6 Tryz.prog 85 as6:=⟨aS (by kernel_rfl),(aD (v:=.agg #[.int .i64 0, .int .i64 0, .int .i64 0, .int .i64 0, .int .i64 0, .slice none 0 0, .int .i64 0, .slice none 0 0, .bool false]) (by kernel_rfl) rfl (by kernel_rfl) rfl (by decide))⟩
def as7:TI:=.slice 179 18 232 [.int .i64 0, .int .i64 0, .int .i64 0, .int .i64 0, .int .i64 0, .nil, .int .i64 0, .bool false, .bool false, .nil, .bool false, .nil, .bool false, .nil, .bool false, .nil, .bool false, .nil]
theorem amW:b6 Tryz.prog 93 as7:=⟨by kernel_rfl,(aD (v:=.slice none 0 0) (by kernel_rfl) rfl (by kernel_rfl) rfl (by decide)),(aD (v:=.agg #[.int .i64 0, .int .i64 0, .int .i64 0, .int .i64 0, .int .i64 0, .slice none 0 0, .int .i64 0, .bool false, .bool false, .slice none 0 0, .bool false, .slice none 0 0, .bool false, .slice none 0 0, .bool false, .slice none 0 0, .bool false, .slice none 0 0]) (by kernel_rfl) rfl (by kernel_rfl) rfl (by decide)),bY (by kernel_rfl)⟩
def as8:TI:=.struct [(0,1,false),(1,9,true),(10,1,false),(11,1,false)] [.bool false, .nil, .bool false, .nil, .bool false, .nil, .bool false, .nil, .bool false, .nil, .nil, .int .i64 0]
theorem amX:b6 Tryz.prog 94 as8:=⟨aS (by kernel_rfl),(aD (v:=.agg #[.bool false, .slice none 0 0, .bool false, .slice none 0 0, .bool false, .slice none 0 0, .bool false, .slice none 0 0, .bool false, .slice none 0 0, .slice none 0 0, .int .i64 0]) (by kernel_rfl) rfl (by kernel_rfl) rfl (by decide))⟩
def as9:TI:=.struct [(0,1,false),(1,9,true),(10,1,false),(11,1,false)] [.bool false, .nil, .bool false, .nil, .bool false, .nil, .bool false, .nil, .bool false, .nil, .nil, .int .i64 0]
theorem amY:b6 Tryz.prog 95 as9:=⟨aS (by kernel_rfl),(aD (v:=.agg #[.bool false, .slice none 0 0, .bool false, .slice none 0 0, .bool false, .slice none 0 0, .bool false, .slice none 0 0, .bool false, .slice none 0 0, .slice none 0 0, .int .i64 0]) (by kernel_rfl) rfl (by kernel_rfl) rfl (by decide))⟩
def ajf:TI:=.slice 22 1 24 [.nil]
theorem af4:b6 Tryz.prog 102 ajf:=⟨by kernel_rfl,(aD (v:=.slice none 0 0) (by kernel_rfl) rfl (by kernel_rfl) rfl (by decide)),(aD (v:=.slice none 0 0) (by kernel_rfl) rfl (by kernel_rfl) rfl (by decide)),bY (by kernel_rfl)⟩
def ajg:TI:=.slice 115 14 192 [.int .i64 0, .int .i64 0, .int .i64 0, .int .i64 0, .int .i64 0, .nil, .bool false, .nil, .bool false, .nil, .bool false, .nil, .bool false, .nil]
theorem af5:b6 Tryz.prog 110 ajg:=⟨by kernel_rfl,(aD (v:=.slice none 0 0) (by kernel_rfl) rfl (by kernel_rfl) rfl (by decide)),(aD (v:=.agg #[.int .i64 0, .int .i64 0, .int .i64 0, .int .i64 0, .int .i64 0, .slice none 0 0, .bool false, .slice none 0 0, .bool false, .slice none 0 0, .bool false, .slice none 0 0, .bool false, .slice none 0 0]) (by kernel_rfl) rfl (by kernel_rfl) rfl (by decide)),bY (by kernel_rfl)⟩
def ajh:TI:=.struct [(0,5,true),(5,9,true)] [.int .i64 0, .int .i64 0, .int .i64 0, .int .i64 0, .int .i64 0, .nil, .bool false, .nil, .bool false, .nil, .bool false, .nil, .bool false, .nil]
theorem af6:b6 Tryz.prog 114 ajh:=⟨aS (by kernel_rfl),(aD (v:=.agg #[.int .i64 0, .int .i64 0, .int .i64 0, .int .i64 0, .int .i64 0, .slice none 0 0, .bool false, .slice none 0 0, .bool false, .slice none 0 0, .bool false, .slice none 0 0, .bool false, .slice none 0 0]) (by kernel_rfl) rfl (by kernel_rfl) rfl (by decide))⟩
def aji:TI:=.struct [(0,5,true),(5,9,true)] [.int .i64 0, .int .i64 0, .int .i64 0, .int .i64 0, .int .i64 0, .nil, .bool false, .nil, .bool false, .nil, .bool false, .nil, .bool false, .nil]
theorem af7:b6 Tryz.prog 115 aji:=⟨aS (by kernel_rfl),(aD (v:=.agg #[.int .i64 0, .int .i64 0, .int .i64 0, .int .i64 0, .int .i64 0, .slice none 0 0, .bool false, .slice none 0 0, .bool false, .slice none 0 0, .bool false, .slice none 0 0, .bool false, .slice none 0 0]) (by kernel_rfl) rfl (by kernel_rfl) rfl (by decide))⟩
def ajj:TI:=.struct [(0,1,false),(1,1,false),(2,4,true)] [.nil, .nil, .nil, .nil, .bool false, .nil]
theorem af8:b6 Tryz.prog 152 ajj:=⟨aS (by kernel_rfl),(aD (v:=.agg #[.slice none 0 0, .slice none 0 0, .slice none 0 0, .slice none 0 0, .bool false, .slice none 0 0]) (by kernel_rfl) rfl (by kernel_rfl) rfl (by decide))⟩
def ajk:TI:=.struct [(0,1,false),(1,1,false),(2,4,true)] [.nil, .nil, .nil, .nil, .bool false, .nil]
theorem af9:b6 Tryz.prog 153 ajk:=⟨aS (by kernel_rfl),(aD (v:=.agg #[.slice none 0 0, .slice none 0 0, .slice none 0 0, .slice none 0 0, .bool false, .slice none 0 0]) (by kernel_rfl) rfl (by kernel_rfl) rfl (by decide))⟩
def ajl:TI:=.struct [(0,6,true),(6,1,false)] [.nil, .nil, .nil, .nil, .bool false, .nil, .int .i64 0]
theorem aga:b6 Tryz.prog 154 ajl:=⟨aS (by kernel_rfl),(aD (v:=.agg #[.slice none 0 0, .slice none 0 0, .slice none 0 0, .slice none 0 0, .bool false, .slice none 0 0, .int .i64 0]) (by kernel_rfl) rfl (by kernel_rfl) rfl (by decide))⟩
def ajm:TI:=.struct [(0,6,true),(6,1,false)] [.nil, .nil, .nil, .nil, .bool false, .nil, .int .i64 0]
theorem agb:b6 Tryz.prog 155 ajm:=⟨aS (by kernel_rfl),(aD (v:=.agg #[.slice none 0 0, .slice none 0 0, .slice none 0 0, .slice none 0 0, .bool false, .slice none 0 0, .int .i64 0]) (by kernel_rfl) rfl (by kernel_rfl) rfl (by decide))⟩
def ajn:TI:=.struct [(0,7,true),(7,1,false),(8,1,false),(9,9,true)] [.int .i64 0, .int .i64 0, .int .i64 0, .int .i64 0, .int .i64 0, .nil, .int .i64 0, .bool false, .bool false, .nil, .bool false, .nil, .bool false, .nil, .bool false, .nil, .bool false, .nil]
theorem agc:b6 Tryz.prog 178 ajn:=⟨aS (by kernel_rfl),(aD (v:=.agg #[.int .i64 0, .int .i64 0, .int .i64 0, .int .i64 0, .int .i64 0, .slice none 0 0, .int .i64 0, .bool false, .bool false, .slice none 0 0, .bool false, .slice none 0 0, .bool false, .slice none 0 0, .bool false, .slice none 0 0, .bool false, .slice none 0 0]) (by kernel_rfl) rfl (by kernel_rfl) rfl (by decide))⟩
def ajo:TI:=.struct [(0,7,true),(7,1,false),(8,1,false),(9,9,true)] [.int .i64 0, .int .i64 0, .int .i64 0, .int .i64 0, .int .i64 0, .nil, .int .i64 0, .bool false, .bool false, .nil, .bool false, .nil, .bool false, .nil, .bool false, .nil, .bool false, .nil]
theorem agd:b6 Tryz.prog 179 ajo:=⟨aS (by kernel_rfl),(aD (v:=.agg #[.int .i64 0, .int .i64 0, .int .i64 0, .int .i64 0, .int .i64 0, .slice none 0 0, .int .i64 0, .bool false, .bool false, .slice none 0 0, .bool false, .slice none 0 0, .bool false, .slice none 0 0, .bool false, .slice none 0 0, .bool false, .slice none 0 0]) (by kernel_rfl) rfl (by kernel_rfl) rfl (by decide))⟩
def ajp:TI:=.int .u64
theorem age:b6 Tryz.prog 182 ajp:=⟨by kernel_rfl,(aD (v:=.int .u64 0) (by kernel_rfl) rfl (by kernel_rfl) rfl (by decide))⟩
def ajq:TI:=.int .u32
theorem agf:b6 Tryz.prog 185 ajq:=⟨by kernel_rfl,(aD (v:=.int .u32 0) (by kernel_rfl) rfl (by kernel_rfl) rfl (by decide))⟩
def ajr:TI:=.int .u64
theorem agh:b6 Tryz.prog 186 ajr:=⟨by kernel_rfl,(aD (v:=.int .u64 0) (by kernel_rfl) rfl (by kernel_rfl) rfl (by decide))⟩
def ajs:TI:=.slice 24 1 24 [.nil]
theorem agi:b6 Tryz.prog 197 ajs:=⟨by kernel_rfl,(aD (v:=.slice none 0 0) (by kernel_rfl) rfl (by kernel_rfl) rfl (by decide)),(aD (v:=.slice none 0 0) (by kernel_rfl) rfl (by kernel_rfl) rfl (by decide)),bY (by kernel_rfl)⟩
def ajt:TI:=.struct [(0,1,false)] [.nil]
theorem agj:b6 Tryz.prog 198 ajt:=⟨aS (by kernel_rfl),(aD (v:=.agg #[.slice none 0 0]) (by kernel_rfl) rfl (by kernel_rfl) rfl (by decide))⟩
def aju:TI:=.struct [(0,1,false)] [.nil]
theorem agk:b6 Tryz.prog 199 aju:=⟨aS (by kernel_rfl),(aD (v:=.agg #[.slice none 0 0]) (by kernel_rfl) rfl (by kernel_rfl) rfl (by decide))⟩
def ajv:TI:=.slice 52 4 64 [.bool false, .nil, .bool false, .nil]
theorem agl:b6 Tryz.prog 218 ajv:=⟨by kernel_rfl,(aD (v:=.slice none 0 0) (by kernel_rfl) rfl (by kernel_rfl) rfl (by decide)),(aD (v:=.agg #[.bool false, .slice none 0 0, .bool false, .slice none 0 0]) (by kernel_rfl) rfl (by kernel_rfl) rfl (by decide)),bY (by kernel_rfl)⟩
def ajw:TI:=.slice 197 1 24 [.nil]
theorem agm:b6 Tryz.prog 269 ajw:=⟨by kernel_rfl,(aD (v:=.slice none 0 0) (by kernel_rfl) rfl (by kernel_rfl) rfl (by decide)),(aD (v:=.slice none 0 0) (by kernel_rfl) rfl (by kernel_rfl) rfl (by decide)),bY (by kernel_rfl)⟩
def ajx:TI:=.int .u8
theorem agn:b6 Tryz.prog 298 ajx:=⟨by kernel_rfl,(aD (v:=.int .u8 0) (by kernel_rfl) rfl (by kernel_rfl) rfl (by decide))⟩
def ajy:TI:=.int .u8
theorem ago:b6 Tryz.prog 299 ajy:=⟨by kernel_rfl,(aD (v:=.int .u8 0) (by kernel_rfl) rfl (by kernel_rfl) rfl (by decide))⟩
def ajz:TI:=.int .i32
theorem agp:b6 Tryz.prog 302 ajz:=⟨by kernel_rfl,(aD (v:=.int .i32 0) (by kernel_rfl) rfl (by kernel_rfl) rfl (by decide))⟩
def ajA:TI:=.int .i32
theorem agq:b6 Tryz.prog 303 ajA:=⟨by kernel_rfl,(aD (v:=.int .i32 0) (by kernel_rfl) rfl (by kernel_rfl) rfl (by decide))⟩
def tyF:TypeId→TI
  | 2=>ti2
  | 3=>ti3
  | 4=>ti4
  | 5=>ti5
  | 6=>ti6
  | 7=>ti7
  | 8=>ti8
  | 9=>ti9
  | 10=>asm
  | 11=>asn
  | 12=>aso
  | 13=>asp
  | 14=>asq
  | 21=>asr
  | 22=>ass
  | 23=>ast
  | 24=>asu
  | 26=>asv
  | 27=>asw
  | 28=>asx
  | 29=>asy
  | 30=>asz
  | 31=>asA
  | 36=>asB
  | 37=>asC
  | 38=>asD
  | 41=>asE
  | 42=>asF
  | 46=>asG
  | 47=>asH
  | 48=>asI
  | 49=>asJ
  | 51=>asK
  | 52=>asL
  | 53=>asM
  | 54=>asN
  | 62=>asO
  | 63=>asP
  | 68=>asQ
  | 69=>asR
  | 70=>asS
  | 71=>asT
  | 72=>asU
  | 73=>asV
  | 75=>asW
  | 76=>asX
  | 77=>asY
  | 78=>asZ
  | 79=>as0
  | 80=>as1
  | 81=>as2
  | 82=>as3
  | 83=>as4
  | 84=>as5
  | 85=>as6
  | 93=>as7
  | 94=>as8
  | 95=>as9
  | 102=>ajf
  | 110=>ajg
  | 114=>ajh
  | 115=>aji
  | 152=>ajj
  | 153=>ajk
  | 154=>ajl
  | 155=>ajm
  | 178=>ajn
  | 179=>ajo
  | 182=>ajp
  | 185=>ajq
  | 186=>ajr
  | 197=>ajs
  | 198=>ajt
  | 199=>aju
  | 218=>ajv
  | 269=>ajw
  | 298=>ajx
  | 299=>ajy
  | 302=>ajz
  | 303=>ajA
  | _ => .other
theorem axG(t:TypeId):b6 Tryz.prog t (tyF t):=by
  unfold tyF
  split
  · exact asd
  · exact ase
  · exact asf
  · exact asg
  · exact ash
  · exact asi
  · exact asj
  · exact asl
  · exact amb
  · exact amc
  · exact amd
  · exact ame
  · exact amf
  · exact amg
  · exact amh
  · exact ami
  · exact amj
  · exact amk
  · exact aml
  · exact amm
  · exact amn
  · exact amo
  · exact amp
  · exact amq
  · exact amr
  · exact ams
  · exact amt
  · exact amu
  · exact amv
  · exact amw
  · exact amx
  · exact amy
  · exact amz
  · exact amA
  · exact amB
  · exact amC
  · exact amD
  · exact amE
  · exact amF
  · exact amG
  · exact amH
  · exact amI
  · exact amJ
  · exact amK
  · exact amL
  · exact amM
  · exact amN
  · exact amO
  · exact amP
  · exact amQ
  · exact amR
  · exact amS
  · exact amT
  · exact amU
  · exact amV
  · exact amW
  · exact amX
  · exact amY
  · exact af4
  · exact af5
  · exact af6
  · exact af7
  · exact af8
  · exact af9
  · exact aga
  · exact agb
  · exact agc
  · exact agd
  · exact age
  · exact agf
  · exact agh
  · exact agi
  · exact agj
  · exact agk
  · exact agl
  · exact agm
  · exact agn
  · exact ago
  · exact agp
  · exact agq
  · trivial
theorem agr:Tryz.prog.follows .mixedOrders=true:=by kernel_rfl
def IF(g:FuncId):Bool:=g==72 || g==184 || g==270 || g==271
def vM(g:FuncId):Bool:=g==42 || g==43 || g==44 || g==47 || g==49 || g==51 || g==52 || g==109 || g==120 || g==191
noncomputable def env:Env:=⟨Tryz.prog,tyF,axG,agr,IF,vM⟩
@[simp] theorem avR:env.writes=IF:=rfl
@[simp] theorem ata:env.HD=vM:=rfl
attribute [simp] IF vM
@[simp] theorem aDh:env.ty 2 = .int .i64:=rfl
@[simp] theorem axH:env.ty 3 = .int .i64:=rfl
@[simp] theorem aDi:env.ty 4 = .bool:=rfl
@[simp] theorem atb:env.ty 5 = .int .u8:=rfl
@[simp] theorem aDj:env.ty 6 = .int .u8:=rfl
@[simp] theorem aDk:env.ty 7 = .struct [(0,1,false),(1,1,false),(2,1,false),(3,1,false)] [.int .i64 0, .int .i64 0, .bool false, .int .u8 0]:=rfl
@[simp] theorem aDl:env.ty 8 = .struct [(0,1,false),(1,1,false),(2,1,false),(3,1,false)] [.int .i64 0, .int .i64 0, .bool false, .int .u8 0]:=rfl
@[simp] theorem aDm:env.ty 9 = .str:=rfl
@[simp] theorem aAL:env.ty 10 = .str:=rfl
@[simp] theorem aAM:env.ty 11 = .str:=rfl
@[simp] theorem aAN:env.ty 12 = .int .u64:=rfl
@[simp] theorem aAO:env.ty 13 = .struct [(0,1,false),(1,1,false)] [.str ⟨#[]⟩, .int .u64 0]:=rfl
@[simp] theorem aAP:env.ty 14 = .struct [(0,1,false),(1,1,false)] [.str ⟨#[]⟩, .int .u64 0]:=rfl
@[simp] theorem aAQ:env.ty 21 = .int .i32:=rfl
@[simp] theorem aAR:env.ty 22 = .slice 3 1 8 [.int .i64 0]:=rfl
@[simp] theorem aAS:env.ty 23 = .slice 38 2 32 [.bool false, .nil]:=rfl
@[simp] theorem aAT:env.ty 24 = .slice 38 2 32 [.bool false, .nil]:=rfl
@[simp] theorem aAU:env.ty 26 = .slice 31 4 64 [.nil, .bool false, .nil, .bool false]:=rfl
@[simp] theorem aAV:env.ty 27 = .slice 3 1 8 [.int .i64 0]:=rfl
@[simp] theorem aAW:env.ty 28 = .struct [(0,1,false),(1,1,false)] [.nil, .bool false]:=rfl
@[simp] theorem aAX:env.ty 29 = .struct [(0,1,false),(1,1,false)] [.nil, .bool false]:=rfl
@[simp] theorem aAY:env.ty 30 = .struct [(0,2,true),(2,2,true)] [.nil, .bool false, .nil, .bool false]:=rfl
@[simp] theorem aAZ:env.ty 31 = .struct [(0,2,true),(2,2,true)] [.nil, .bool false, .nil, .bool false]:=rfl
@[simp] theorem aA0:env.ty 36 = .slice 185 1 4 [.int .u32 0]:=rfl
@[simp] theorem aA1:env.ty 37 = .struct [(0,1,false),(1,1,false)] [.bool false, .nil]:=rfl
@[simp] theorem aA2:env.ty 38 = .struct [(0,1,false),(1,1,false)] [.bool false, .nil]:=rfl
@[simp] theorem aA3:env.ty 41 = .slice 54 9 152 [.nil, .bool false, .nil, .bool false, .nil, .bool false, .nil, .bool false, .nil]:=rfl
@[simp] theorem aA4:env.ty 42 = .int .i64:=rfl
@[simp] theorem aA5:env.ty 46 = .slice 31 4 64 [.nil, .bool false, .nil, .bool false]:=rfl
@[simp] theorem aA6:env.ty 47 = .slice 46 1 24 [.nil]:=rfl
@[simp] theorem aA7:env.ty 48 = .struct [(0,1,false),(1,1,false),(2,4,true),(6,4,true)] [.nil, .nil, .nil, .bool false, .nil, .bool false, .nil, .bool false, .nil, .bool false]:=rfl
@[simp] theorem aA8:env.ty 49 = .struct [(0,1,false),(1,1,false),(2,4,true),(6,4,true)] [.nil, .nil, .nil, .bool false, .nil, .bool false, .nil, .bool false, .nil, .bool false]:=rfl
@[simp] theorem aA9:env.ty 51 = .struct [(0,2,true),(2,2,true)] [.bool false, .nil, .bool false, .nil]:=rfl
@[simp] theorem aBa:env.ty 52 = .struct [(0,2,true),(2,2,true)] [.bool false, .nil, .bool false, .nil]:=rfl
@[simp] theorem aBb:env.ty 53 = .struct [(0,1,false),(1,4,true),(5,4,true)] [.nil, .bool false, .nil, .bool false, .nil, .bool false, .nil, .bool false, .nil]:=rfl
@[simp] theorem aBc:env.ty 54 = .struct [(0,1,false),(1,4,true),(5,4,true)] [.nil, .bool false, .nil, .bool false, .nil, .bool false, .nil, .bool false, .nil]:=rfl
@[simp] theorem aBd:env.ty 62 = .slice 73 5 88 [.nil, .nil, .bool false, .nil, .int .i64 0]:=rfl
@[simp] theorem aBe:env.ty 63 = .slice 155 7 136 [.nil, .nil, .nil, .nil, .bool false, .nil, .int .i64 0]:=rfl
@[simp] theorem aBf:env.ty 68 = .fnT:=rfl
@[simp] theorem aBg:env.ty 69 = .slice 68 1 8 [.undef]:=rfl
@[simp] theorem aBh:env.ty 70 = .struct [(0,1,false),(1,1,false),(2,2,true)] [.nil, .nil, .bool false, .nil]:=rfl
@[simp] theorem aBi:env.ty 71 = .struct [(0,1,false),(1,1,false),(2,2,true)] [.nil, .nil, .bool false, .nil]:=rfl
@[simp] theorem aBj:env.ty 72 = .struct [(0,4,true),(4,1,false)] [.nil, .nil, .bool false, .nil, .int .i64 0]:=rfl
@[simp] theorem aBk:env.ty 73 = .struct [(0,4,true),(4,1,false)] [.nil, .nil, .bool false, .nil, .int .i64 0]:=rfl
@[simp] theorem aBl:env.ty 75 = .slice 78 5 40 [.int .i64 0, .int .i64 0, .int .i64 0, .int .i64 0, .int .i64 0]:=rfl
@[simp] theorem aBm:env.ty 76 = .arr 3 4 1 [.int .i64 0, .int .i64 0, .int .i64 0, .int .i64 0]:=rfl
@[simp] theorem aBn:env.ty 77 = .struct [(0,1,false),(1,4,true)] [.int .i64 0, .int .i64 0, .int .i64 0, .int .i64 0, .int .i64 0]:=rfl
@[simp] theorem aBo:env.ty 78 = .struct [(0,1,false),(1,4,true)] [.int .i64 0, .int .i64 0, .int .i64 0, .int .i64 0, .int .i64 0]:=rfl
@[simp] theorem aBp:env.ty 79 = .slice 82 7 72 [.int .i64 0, .int .i64 0, .int .i64 0, .int .i64 0, .int .i64 0, .nil, .int .i64 0]:=rfl
@[simp] theorem aBq:env.ty 80 = .slice 85 9 104 [.int .i64 0, .int .i64 0, .int .i64 0, .int .i64 0, .int .i64 0, .nil, .int .i64 0, .nil, .bool false]:=rfl
@[simp] theorem aBr:env.ty 81 = .struct [(0,5,true),(5,1,false),(6,1,false)] [.int .i64 0, .int .i64 0, .int .i64 0, .int .i64 0, .int .i64 0, .nil, .int .i64 0]:=rfl
@[simp] theorem aBs:env.ty 82 = .struct [(0,5,true),(5,1,false),(6,1,false)] [.int .i64 0, .int .i64 0, .int .i64 0, .int .i64 0, .int .i64 0, .nil, .int .i64 0]:=rfl
@[simp] theorem aBt:env.ty 83 = .slice 49 10 176 [.nil, .nil, .nil, .bool false, .nil, .bool false, .nil, .bool false, .nil, .bool false]:=rfl
@[simp] theorem aBu:env.ty 84 = .struct [(0,5,true),(5,1,false),(6,1,false),(7,1,false),(8,1,false)] [.int .i64 0, .int .i64 0, .int .i64 0, .int .i64 0, .int .i64 0, .nil, .int .i64 0, .nil, .bool false]:=rfl
@[simp] theorem aBv:env.ty 85 = .struct [(0,5,true),(5,1,false),(6,1,false),(7,1,false),(8,1,false)] [.int .i64 0, .int .i64 0, .int .i64 0, .int .i64 0, .int .i64 0, .nil, .int .i64 0, .nil, .bool false]:=rfl
@[simp] theorem aBw:env.ty 93 = .slice 179 18 232 [.int .i64 0, .int .i64 0, .int .i64 0, .int .i64 0, .int .i64 0, .nil, .int .i64 0, .bool false, .bool false, .nil, .bool false, .nil, .bool false, .nil, .bool false, .nil, .bool false, .nil]:=rfl
@[simp] theorem aBx:env.ty 94 = .struct [(0,1,false),(1,9,true),(10,1,false),(11,1,false)] [.bool false, .nil, .bool false, .nil, .bool false, .nil, .bool false, .nil, .bool false, .nil, .nil, .int .i64 0]:=rfl
@[simp] theorem aBy:env.ty 95 = .struct [(0,1,false),(1,9,true),(10,1,false),(11,1,false)] [.bool false, .nil, .bool false, .nil, .bool false, .nil, .bool false, .nil, .bool false, .nil, .nil, .int .i64 0]:=rfl
@[simp] theorem axI:env.ty 102 = .slice 22 1 24 [.nil]:=rfl
@[simp] theorem axJ:env.ty 110 = .slice 115 14 192 [.int .i64 0, .int .i64 0, .int .i64 0, .int .i64 0, .int .i64 0, .nil, .bool false, .nil, .bool false, .nil, .bool false, .nil, .bool false, .nil]:=rfl
@[simp] theorem axK:env.ty 114 = .struct [(0,5,true),(5,9,true)] [.int .i64 0, .int .i64 0, .int .i64 0, .int .i64 0, .int .i64 0, .nil, .bool false, .nil, .bool false, .nil, .bool false, .nil, .bool false, .nil]:=rfl
@[simp] theorem axL:env.ty 115 = .struct [(0,5,true),(5,9,true)] [.int .i64 0, .int .i64 0, .int .i64 0, .int .i64 0, .int .i64 0, .nil, .bool false, .nil, .bool false, .nil, .bool false, .nil, .bool false, .nil]:=rfl
@[simp] theorem axM:env.ty 152 = .struct [(0,1,false),(1,1,false),(2,4,true)] [.nil, .nil, .nil, .nil, .bool false, .nil]:=rfl
@[simp] theorem axN:env.ty 153 = .struct [(0,1,false),(1,1,false),(2,4,true)] [.nil, .nil, .nil, .nil, .bool false, .nil]:=rfl
@[simp] theorem axO:env.ty 154 = .struct [(0,6,true),(6,1,false)] [.nil, .nil, .nil, .nil, .bool false, .nil, .int .i64 0]:=rfl
@[simp] theorem axP:env.ty 155 = .struct [(0,6,true),(6,1,false)] [.nil, .nil, .nil, .nil, .bool false, .nil, .int .i64 0]:=rfl
@[simp] theorem axQ:env.ty 178 = .struct [(0,7,true),(7,1,false),(8,1,false),(9,9,true)] [.int .i64 0, .int .i64 0, .int .i64 0, .int .i64 0, .int .i64 0, .nil, .int .i64 0, .bool false, .bool false, .nil, .bool false, .nil, .bool false, .nil, .bool false, .nil, .bool false, .nil]:=rfl
@[simp] theorem axR:env.ty 179 = .struct [(0,7,true),(7,1,false),(8,1,false),(9,9,true)] [.int .i64 0, .int .i64 0, .int .i64 0, .int .i64 0, .int .i64 0, .nil, .int .i64 0, .bool false, .bool false, .nil, .bool false, .nil, .bool false, .nil, .bool false, .nil, .bool false, .nil]:=rfl
@[simp] theorem axS:env.ty 182 = .int .u64:=rfl
@[simp] theorem amZ:env.ty 185 = .int .u32:=rfl
@[simp] theorem axT:env.ty 186 = .int .u64:=rfl
@[simp] theorem axU:env.ty 197 = .slice 24 1 24 [.nil]:=rfl
@[simp] theorem axV:env.ty 198 = .struct [(0,1,false)] [.nil]:=rfl
@[simp] theorem axW:env.ty 199 = .struct [(0,1,false)] [.nil]:=rfl
@[simp] theorem axX:env.ty 218 = .slice 52 4 64 [.bool false, .nil, .bool false, .nil]:=rfl
@[simp] theorem axY:env.ty 269 = .slice 197 1 24 [.nil]:=rfl
@[simp] theorem axZ:env.ty 298 = .int .u8:=rfl
@[simp] theorem ax0:env.ty 299 = .int .u8:=rfl
@[simp] theorem ax1:env.ty 302 = .int .i32:=rfl
@[simp] theorem ax2:env.ty 303 = .int .i32:=rfl
end Go.Proofs.YtiobceocpabjdaaGreat
