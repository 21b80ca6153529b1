import Derived.Test.YtelhfbikiccfkaaGreatProg
import Derived.KernelRfl
import Derived.Test.YtelhfbikiccfkaaGreatCad
set_option linter.unusedSimpArgs false
set_option linter.unusedVariables false
/- The types of the seat, as the pure machine wants them: closed facts, each by the kernel. -/
namespace Go.Proofs.YtelhfbikiccfkaaGreat
open Go Pm
def ti2:TI:=.int .i64
theorem ar0:cK Tryz.prog 2 ti2:=⟨by kernel_rfl,(aF (v:=.int .i64 0) (by kernel_rfl) rfl (by kernel_rfl) rfl (by decide))⟩
def ti3:TI:=.int .i64
theorem ar1:cK Tryz.prog 3 ti3:=⟨by kernel_rfl,(aF (v:=.int .i64 0) (by kernel_rfl) rfl (by kernel_rfl) rfl (by decide))⟩
def ti4:TI:=.bool
theorem ar2:cK Tryz.prog 4 ti4:=⟨by kernel_rfl,(aF (v:=.bool false) (by kernel_rfl) rfl (by kernel_rfl) rfl (by decide))⟩
def ti5:TI:=.int .u8
theorem ar3:cK Tryz.prog 5 ti5:=⟨by kernel_rfl,(aF (v:=.int .u8 0) (by kernel_rfl) rfl (by kernel_rfl) rfl (by decide))⟩
def ti6:TI:=.int .u8
theorem ar4:cK Tryz.prog 6 ti6:=⟨by kernel_rfl,(aF (v:=.int .u8 0) (by kernel_rfl) rfl (by kernel_rfl) rfl (by decide))⟩
def ti7:TI:=.struct [(0,1,false),(1,1,false),(2,1,false),(3,1,false)] [.int .i64 0, .int .i64 0, .bool false, .int .u8 0]
theorem ar5:cK Tryz.prog 7 ti7:=⟨bE (by kernel_rfl),(aF (v:=.agg #[.int .i64 0, .int .i64 0, .bool false, .int .u8 0]) (by kernel_rfl) rfl (by kernel_rfl) rfl (by decide))⟩
def ti8:TI:=.struct [(0,1,false),(1,1,false),(2,1,false),(3,1,false)] [.int .i64 0, .int .i64 0, .bool false, .int .u8 0]
theorem ar6:cK Tryz.prog 8 ti8:=⟨bE (by kernel_rfl),(aF (v:=.agg #[.int .i64 0, .int .i64 0, .bool false, .int .u8 0]) (by kernel_rfl) rfl (by kernel_rfl) rfl (by decide))⟩
def ti9:TI:=.str
theorem ar7:cK Tryz.prog 9 ti9:=⟨by kernel_rfl,(aF (v:=.string ⟨#[]⟩) (by kernel_rfl) rfl (by kernel_rfl) rfl (by decide))⟩
def ar8:TI:=.str
theorem amg:cK Tryz.prog 10 ar8:=⟨by kernel_rfl,(aF (v:=.string ⟨#[]⟩) (by kernel_rfl) rfl (by kernel_rfl) rfl (by decide))⟩
def ar9:TI:=.str
theorem amh:cK Tryz.prog 11 ar9:=⟨by kernel_rfl,(aF (v:=.string ⟨#[]⟩) (by kernel_rfl) rfl (by kernel_rfl) rfl (by decide))⟩
def asa:TI:=.int .u64
theorem ami:cK Tryz.prog 12 asa:=⟨by kernel_rfl,(aF (v:=.int .u64 0) (by kernel_rfl) rfl (by kernel_rfl) rfl (by decide))⟩
def asb:TI:=.struct [(0,1,false),(1,1,false)] [.str ⟨#[]⟩, .int .u64 0]
theorem amj:cK Tryz.prog 13 asb:=⟨bE (by kernel_rfl),(aF (v:=.agg #[.string ⟨#[]⟩, .int .u64 0]) (by kernel_rfl) rfl (by kernel_rfl) rfl (by decide))⟩
def asc:TI:=.struct [(0,1,false),(1,1,false)] [.str ⟨#[]⟩, .int .u64 0]
theorem amk:cK Tryz.prog 14 asc:=⟨bE (by kernel_rfl),(aF (v:=.agg #[.string ⟨#[]⟩, .int .u64 0]) (by kernel_rfl) rfl (by kernel_rfl) rfl (by decide))⟩
def asd:TI:=.int .i32
theorem aml:cK Tryz.prog 21 asd:=⟨by kernel_rfl,(aF (v:=.int .i32 0) (by kernel_rfl) rfl (by kernel_rfl) rfl (by decide))⟩
def ase:TI:=.slice 3 1 8 [.int .i64 0]
theorem amm:cK Tryz.prog 22 ase:=⟨by kernel_rfl,(aF (v:=.slice none 0 0) (by kernel_rfl) rfl (by kernel_rfl) rfl (by decide)),(aF (v:=.int .i64 0) (by kernel_rfl) rfl (by kernel_rfl) rfl (by decide)),cP (by kernel_rfl)⟩
def asf:TI:=.slice 38 2 32 [.bool false, .nil]
theorem amn:cK Tryz.prog 23 asf:=⟨by kernel_rfl,(aF (v:=.slice none 0 0) (by kernel_rfl) rfl (by kernel_rfl) rfl (by decide)),(aF (v:=.agg #[.bool false, .slice none 0 0]) (by kernel_rfl) rfl (by kernel_rfl) rfl (by decide)),cP (by kernel_rfl)⟩
def asg:TI:=.slice 38 2 32 [.bool false, .nil]
theorem amo:cK Tryz.prog 24 asg:=⟨by kernel_rfl,(aF (v:=.slice none 0 0) (by kernel_rfl) rfl (by kernel_rfl) rfl (by decide)),(aF (v:=.agg #[.bool false, .slice none 0 0]) (by kernel_rfl) rfl (by kernel_rfl) rfl (by decide)),cP (by kernel_rfl)⟩
def ash:TI:=.slice 31 4 64 [.nil, .bool false, .nil, .bool false]
theorem amp:cK Tryz.prog 26 ash:=⟨by kernel_rfl,(aF (v:=.slice none 0 0) (by kernel_rfl) rfl (by kernel_rfl) rfl (by decide)),(aF (v:=.agg #[.slice none 0 0, .bool false, .slice none 0 0, .bool false]) (by kernel_rfl) rfl (by kernel_rfl) rfl (by decide)),cP (by kernel_rfl)⟩
def asi:TI:=.slice 3 1 8 [.int .i64 0]
theorem amq:cK Tryz.prog 27 asi:=⟨by kernel_rfl,(aF (v:=.slice none 0 0) (by kernel_rfl) rfl (by kernel_rfl) rfl (by decide)),(aF (v:=.int .i64 0) (by kernel_rfl) rfl (by kernel_rfl) rfl (by decide)),cP (by kernel_rfl)⟩
def asj:TI:=.struct [(0,1,false),(1,1,false)] [.nil, .bool false]
theorem amr:cK Tryz.prog 28 asj:=⟨bE (by kernel_rfl),(aF (v:=.agg #[.slice none 0 0, .bool false]) (by kernel_rfl) rfl (by kernel_rfl) rfl (by decide))⟩
def asl:TI:=.struct [(0,1,false),(1,1,false)] [.nil, .bool false]
theorem ams:cK Tryz.prog 29 asl:=⟨bE (by kernel_rfl),(aF (v:=.agg #[.slice none 0 0, .bool false]) (by kernel_rfl) rfl (by kernel_rfl) rfl (by decide))⟩
def asm:TI:=.struct [(0,2,true),(2,2,true)] [.nil, .bool false, .nil, .bool false]
theorem amt:cK Tryz.prog 30 asm:=⟨bE (by kernel_rfl),(aF (v:=.agg #[.slice none 0 0, .bool false, .slice none 0 0, .bool false]) (by kernel_rfl) rfl (by kernel_rfl) rfl (by decide))⟩
def asn:TI:=.struct [(0,2,true),(2,2,true)] [.nil, .bool false, .nil, .bool false]
theorem amu:cK Tryz.prog 31 asn:=⟨bE (by kernel_rfl),(aF (v:=.agg #[.slice none 0 0, .bool false, .slice none 0 0, .bool false]) (by kernel_rfl) rfl (by kernel_rfl) rfl (by decide))⟩
def aso:TI:=.slice 182 1 4 [.int .u32 0]
theorem amv:cK Tryz.prog 36 aso:=⟨by kernel_rfl,(aF (v:=.slice none 0 0) (by kernel_rfl) rfl (by kernel_rfl) rfl (by decide)),(aF (v:=.int .u32 0) (by kernel_rfl) rfl (by kernel_rfl) rfl (by decide)),cP (by kernel_rfl)⟩
def asp:TI:=.struct [(0,1,false),(1,1,false)] [.bool false, .nil]
theorem amw:cK Tryz.prog 37 asp:=⟨bE (by kernel_rfl),(aF (v:=.agg #[.bool false, .slice none 0 0]) (by kernel_rfl) rfl (by kernel_rfl) rfl (by decide))⟩
def asq:TI:=.struct [(0,1,false),(1,1,false)] [.bool false, .nil]
theorem amx:cK Tryz.prog 38 asq:=⟨bE (by kernel_rfl),(aF (v:=.agg #[.bool false, .slice none 0 0]) (by kernel_rfl) rfl (by kernel_rfl) rfl (by decide))⟩
def asr:TI:=.slice 54 9 152 [.nil, .bool false, .nil, .bool false, .nil, .bool false, .nil, .bool false, .nil]
theorem amy:cK Tryz.prog 41 asr:=⟨by kernel_rfl,(aF (v:=.slice none 0 0) (by kernel_rfl) rfl (by kernel_rfl) rfl (by decide)),(aF (v:=.agg #[.slice none 0 0, .bool false, .slice none 0 0, .bool false, .slice none 0 0, .bool false, .slice none 0 0, .bool false, .slice none 0 0]) (by kernel_rfl) rfl (by kernel_rfl) rfl (by decide)),cP (by kernel_rfl)⟩
def ass:TI:=.int .i64
theorem amz:cK Tryz.prog 42 ass:=⟨by kernel_rfl,(aF (v:=.int .i64 0) (by kernel_rfl) rfl (by kernel_rfl) rfl (by decide))⟩
def ast:TI:=.slice 31 4 64 [.nil, .bool false, .nil, .bool false]
theorem amA:cK Tryz.prog 46 ast:=⟨by kernel_rfl,(aF (v:=.slice none 0 0) (by kernel_rfl) rfl (by kernel_rfl) rfl (by decide)),(aF (v:=.agg #[.slice none 0 0, .bool false, .slice none 0 0, .bool false]) (by kernel_rfl) rfl (by kernel_rfl) rfl (by decide)),cP (by kernel_rfl)⟩
def asu:TI:=.slice 46 1 24 [.nil]
theorem amB:cK Tryz.prog 47 asu:=⟨by kernel_rfl,(aF (v:=.slice none 0 0) (by kernel_rfl) rfl (by kernel_rfl) rfl (by decide)),(aF (v:=.slice none 0 0) (by kernel_rfl) rfl (by kernel_rfl) rfl (by decide)),cP (by kernel_rfl)⟩
def asv:TI:=.struct [(0,1,false),(1,1,false),(2,4,true),(6,4,true)] [.nil, .nil, .nil, .bool false, .nil, .bool false, .nil, .bool false, .nil, .bool false]
theorem amC:cK Tryz.prog 48 asv:=⟨bE (by kernel_rfl),(aF (v:=.agg #[.slice none 0 0, .slice none 0 0, .slice none 0 0, .bool false, .slice none 0 0, .bool false, .slice none 0 0, .bool false, .slice none 0 0, .bool false]) (by kernel_rfl) rfl (by kernel_rfl) rfl (by decide))⟩
def asw:TI:=.struct [(0,1,false),(1,1,false),(2,4,true),(6,4,true)] [.nil, .nil, .nil, .bool false, .nil, .bool false, .nil, .bool false, .nil, .bool false]
theorem amD:cK Tryz.prog 49 asw:=⟨bE (by kernel_rfl),(aF (v:=.agg #[.slice none 0 0, .slice none 0 0, .slice none 0 0, .bool false, .slice none 0 0, .bool false, .slice none 0 0, .bool false, .slice none 0 0, .bool false]) (by kernel_rfl) rfl (by kernel_rfl) rfl (by decide))⟩
def asx:TI:=.struct [(0,2,true),(2,2,true)] [.bool false, .nil, .bool false, .nil]
theorem amE:cK Tryz.prog 51 asx:=⟨bE (by kernel_rfl),(aF (v:=.agg #[.bool false, .slice none 0 0, .bool false, .slice none 0 0]) (by kernel_rfl) rfl (by kernel_rfl) rfl (by decide))⟩
def asy:TI:=.struct [(0,2,true),(2,2,true)] [.bool false, .nil, .bool false, .nil]
theorem amF:cK Tryz.prog 52 asy:=⟨bE (by kernel_rfl),(aF (v:=.agg #[.bool false, .slice none 0 0, .bool false, .slice none 0 0]) (by kernel_rfl) rfl (by kernel_rfl) rfl (by decide))⟩
def asz:TI:=.struct [(0,1,false),(1,4,true),(5,4,true)] [.nil, .bool false, .nil, .bool false, .nil, .bool false, .nil, .bool false, .nil]
theorem amG:cK Tryz.prog 53 asz:=⟨bE (by kernel_rfl),(aF (v:=.agg #[.slice none 0 0, .bool false, .slice none 0 0, .bool false, .slice none 0 0, .bool false, .slice none 0 0, .bool false, .slice none 0 0]) (by kernel_rfl) rfl (by kernel_rfl) rfl (by decide))⟩
def asA:TI:=.struct [(0,1,false),(1,4,true),(5,4,true)] [.nil, .bool false, .nil, .bool false, .nil, .bool false, .nil, .bool false, .nil]
theorem amH:cK Tryz.prog 54 asA:=⟨bE (by kernel_rfl),(aF (v:=.agg #[.slice none 0 0, .bool false, .slice none 0 0, .bool false, .slice none 0 0, .bool false, .slice none 0 0, .bool false, .slice none 0 0]) (by kernel_rfl) rfl (by kernel_rfl) rfl (by decide))⟩
def asB:TI:=.slice 49 10 176 [.nil, .nil, .nil, .bool false, .nil, .bool false, .nil, .bool false, .nil, .bool false]
theorem amI:cK Tryz.prog 72 asB:=⟨by kernel_rfl,(aF (v:=.slice none 0 0) (by kernel_rfl) rfl (by kernel_rfl) rfl (by decide)),(aF (v:=.agg #[.slice none 0 0, .slice none 0 0, .slice none 0 0, .bool false, .slice none 0 0, .bool false, .slice none 0 0, .bool false, .slice none 0 0, .bool false]) (by kernel_rfl) rfl (by kernel_rfl) rfl (by decide)),cP (by kernel_rfl)⟩
def asC:TI:=.slice 94 5 88 [.nil, .nil, .bool false, .nil, .int .i64 0]
theorem amJ:cK Tryz.prog 80 asC:=⟨by kernel_rfl,(aF (v:=.slice none 0 0) (by kernel_rfl) rfl (by kernel_rfl) rfl (by decide)),(aF (v:=.agg #[.slice none 0 0, .slice none 0 0, .bool false, .slice none 0 0, .int .i64 0]) (by kernel_rfl) rfl (by kernel_rfl) rfl (by decide)),cP (by kernel_rfl)⟩
def asD:TI:=.slice 90 7 136 [.nil, .nil, .nil, .nil, .bool false, .nil, .int .i64 0]
theorem amK:cK Tryz.prog 81 asD:=⟨by kernel_rfl,(aF (v:=.slice none 0 0) (by kernel_rfl) rfl (by kernel_rfl) rfl (by decide)),(aF (v:=.agg #[.slice none 0 0, .slice none 0 0, .slice none 0 0, .slice none 0 0, .bool false, .slice none 0 0, .int .i64 0]) (by kernel_rfl) rfl (by kernel_rfl) rfl (by decide)),cP (by kernel_rfl)⟩
def asE:TI:=.struct [(0,1,false),(1,1,false),(2,2,true)] [.nil, .nil, .bool false, .nil]
theorem amL:cK Tryz.prog 85 asE:=⟨bE (by kernel_rfl),(aF (v:=.agg #[.slice none 0 0, .slice none 0 0, .bool false, .slice none 0 0]) (by kernel_rfl) rfl (by kernel_rfl) rfl (by decide))⟩
def asF:TI:=.struct [(0,1,false),(1,1,false),(2,2,true)] [.nil, .nil, .bool false, .nil]
theorem amM:cK Tryz.prog 86 asF:=⟨bE (by kernel_rfl),(aF (v:=.agg #[.slice none 0 0, .slice none 0 0, .bool false, .slice none 0 0]) (by kernel_rfl) rfl (by kernel_rfl) rfl (by decide))⟩
def asG:TI:=.struct [(0,1,false),(1,1,false),(2,4,true)] [.nil, .nil, .nil, .nil, .bool false, .nil]
theorem amN:cK Tryz.prog 87 asG:=⟨bE (by kernel_rfl),(aF (v:=.agg #[.slice none 0 0, .slice none 0 0, .slice none 0 0, .slice none 0 0, .bool false, .slice none 0 0]) (by kernel_rfl) rfl (by kernel_rfl) rfl (by decide))⟩
def asH:TI:=.struct [(0,1,false),(1,1,false),(2,4,true)] [.nil, .nil, .nil, .nil, .bool false, .nil]
theorem amO:cK Tryz.prog 88 asH:=⟨bE (by kernel_rfl),(aF (v:=.agg #[.slice none 0 0, .slice none 0 0, .slice none 0 0, .slice none 0 0, .bool false, .slice none 0 0]) (by kernel_rfl) rfl (by kernel_rfl) rfl (by decide))⟩
def asI:TI:=.struct [(0,6,true),(6,1,false)] [.nil, .nil, .nil, .nil, .bool false, .nil, .int .i64 0]
theorem amP:cK Tryz.prog 89 asI:=⟨bE (by kernel_rfl),(aF (v:=.agg #[.slice none 0 0, .slice none 0 0, .slice none 0 0, .slice none 0 0, .bool false, .slice none 0 0, .int .i64 0]) (by kernel_rfl) rfl (by kernel_rfl) rfl (by decide))⟩
def asJ:TI:=.struct [(0,6,true),(6,1,false)] [.nil, .nil, .nil, .nil, .bool false, .nil, .int .i64 0]
theorem amQ:cK Tryz.prog 90 asJ:=⟨bE (by kernel_rfl),(aF (v:=.agg #[.slice none 0 0, .slice none 0 0, .slice none 0 0, .slice none 0 0, .bool false, .slice none 0 0, .int .i64 0]) (by kernel_rfl) rfl (by kernel_rfl) rfl (by decide))⟩
def asK:TI:=.fnT
theorem amR:cK Tryz.prog 92 asK:=⟨by kernel_rfl,(aF (v:=.nilFunc) (by kernel_rfl) rfl (by kernel_rfl) rfl (by decide))⟩
def asL:TI:=.struct [(0,4,true),(4,1,false)] [.nil, .nil, .bool false, .nil, .int .i64 0]
theorem amS:cK Tryz.prog 93 asL:=⟨bE (by kernel_rfl),(aF (v:=.agg #[.slice none 0 0, .slice none 0 0, .bool false, .slice none 0 0, .int .i64 0]) (by kernel_rfl) rfl (by kernel_rfl) rfl (by decide))⟩
def asM:TI:=.struct [(0,4,true),(4,1,false)] [.nil, .nil, .bool false, .nil, .int .i64 0]
theorem amT:cK Tryz.prog 94 asM:=⟨bE (by kernel_rfl),(aF (v:=.agg #[.slice none 0 0, .slice none 0 0, .bool false, .slice none 0 0, .int .i64 0]) (by kernel_rfl) rfl (by kernel_rfl) rfl (by decide))⟩
def asN:TI:=.slice 92 1 8 [.undef]
theorem amU:cK Tryz.prog 97 asN:=⟨by kernel_rfl,(aF (v:=.slice none 0 0) (by kernel_rfl) rfl (by kernel_rfl) rfl (by decide)),(aF (v:=.nilFunc) (by kernel_rfl) rfl (by kernel_rfl) rfl (by decide)),cP (by kernel_rfl)⟩
def ajw:TI:=.slice 109 5 40 [.int .i64 0, .int .i64 0, .int .i64 0, .int .i64 0, .int .i64 0]
theorem agw:cK Tryz.prog 106 ajw:=⟨by kernel_rfl,(aF (v:=.slice none 0 0) (by kernel_rfl) rfl (by kernel_rfl) rfl (by decide)),(aF (v:=.agg #[.int .i64 0, .int .i64 0, .int .i64 0, .int .i64 0, .int .i64 0]) (by kernel_rfl) rfl (by kernel_rfl) rfl (by decide)),cP (by kernel_rfl)⟩
def ajx:TI:=.arr 3 4 1 [.int .i64 0, .int .i64 0, .int .i64 0, .int .i64 0]
theorem agx:cK Tryz.prog 107 ajx:=⟨by kernel_rfl,(aF (v:=.agg #[.int .i64 0, .int .i64 0, .int .i64 0, .int .i64 0]) (by kernel_rfl) rfl (by kernel_rfl) rfl (by decide)),F5 (by kernel_rfl)⟩
def ajy:TI:=.struct [(0,1,false),(1,4,true)] [.int .i64 0, .int .i64 0, .int .i64 0, .int .i64 0, .int .i64 0]
theorem agy:cK Tryz.prog 108 ajy:=⟨bE (by kernel_rfl),(aF (v:=.agg #[.int .i64 0, .int .i64 0, .int .i64 0, .int .i64 0, .int .i64 0]) (by kernel_rfl) rfl (by kernel_rfl) rfl (by decide))⟩
def ajz:TI:=.struct [(0,1,false),(1,4,true)] [.int .i64 0, .int .i64 0, .int .i64 0, .int .i64 0, .int .i64 0]
theorem agz:cK Tryz.prog 109 ajz:=⟨bE (by kernel_rfl),(aF (v:=.agg #[.int .i64 0, .int .i64 0, .int .i64 0, .int .i64 0, .int .i64 0]) (by kernel_rfl) rfl (by kernel_rfl) rfl (by decide))⟩
def ajA:TI:=.slice 113 7 72 [.int .i64 0, .int .i64 0, .int .i64 0, .int .i64 0, .int .i64 0, .nil, .int .i64 0]
theorem agA:cK Tryz.prog 110 ajA:=⟨by kernel_rfl,(aF (v:=.slice none 0 0) (by kernel_rfl) rfl (by kernel_rfl) rfl (by decide)),(aF (v:=.agg #[.int .i64 0, .int .i64 0, .int .i64 0, .int .i64 0, .int .i64 0, .slice none 0 0, .int .i64 0]) (by kernel_rfl) rfl (by kernel_rfl) rfl (by decide)),cP (by kernel_rfl)⟩
def ajB:TI:=.slice 115 9 104 [.int .i64 0, .int .i64 0, .int .i64 0, .int .i64 0, .int .i64 0, .nil, .int .i64 0, .nil, .bool false]
theorem agB:cK Tryz.prog 111 ajB:=⟨by kernel_rfl,(aF (v:=.slice none 0 0) (by kernel_rfl) rfl (by kernel_rfl) rfl (by decide)),(aF (v:=.agg #[.int .i64 0, .int .i64 0, .int .i64 0, .int .i64 0, .int .i64 0, .slice none 0 0, .int .i64 0, .slice none 0 0, .bool false]) (by kernel_rfl) rfl (by kernel_rfl) rfl (by decide)),cP (by kernel_rfl)⟩
def ajC:TI:=.struct [(0,5,true),(5,1,false),(6,1,false)] [.int .i64 0, .int .i64 0, .int .i64 0, .int .i64 0, .int .i64 0, .nil, .int .i64 0]
theorem agC:cK Tryz.prog 112 ajC:=⟨bE (by kernel_rfl),(aF (v:=.agg #[.int .i64 0, .int .i64 0, .int .i64 0, .int .i64 0, .int .i64 0, .slice none 0 0, .int .i64 0]) (by kernel_rfl) rfl (by kernel_rfl) rfl (by decide))⟩
def ajD:TI:=.struct [(0,5,true),(5,1,false),(6,1,false)] [.int .i64 0, .int .i64 0, .int .i64 0, .int .i64 0, .int .i64 0, .nil, .int .i64 0]
theorem agD:cK Tryz.prog 113 ajD:=⟨bE (by kernel_rfl),(aF (v:=.agg #[.int .i64 0, .int .i64 0, .int .i64 0, .int .i64 0, .int .i64 0, .slice none 0 0, .int .i64 0]) (by kernel_rfl) rfl (by kernel_rfl) rfl (by decide))⟩
def ajE:TI:=.struct [(0,5,true),(5,1,false),(6,1,false),(7,1,false),(8,1,false)] [.int .i64 0, .int .i64 0, .int .i64 0, .int .i64 0, .int .i64 0, .nil, .int .i64 0, .nil, .bool false]
theorem agE:cK Tryz.prog 114 ajE:=⟨bE (by kernel_rfl),(aF (v:=.agg #[.int .i64 0, .int .i64 0, .int .i64 0, .int .i64 0, .int .i64 0, .slice none 0 0, .int .i64 0, .slice none 0 0, .bool false]) (by kernel_rfl) rfl (by kernel_rfl) rfl (by decide))⟩
def ajF:TI:=.struct [(0,5,true),(5,1,false),(6,1,false),(7,1,false),(8,1,false)] [.int .i64 0, .int .i64 0, .int .i64 0, .int .i64 0, .int .i64 0, .nil, .int .i64 0, .nil, .bool false]
theorem agF:cK Tryz.prog 115 ajF:=⟨bE (by kernel_rfl),(aF (v:=.agg #[.int .i64 0, .int .i64 0, .int .i64 0, .int .i64 0, .int .i64 0, .slice none 0 0, .int .i64 0, .slice none 0 0, .bool false]) (by kernel_rfl) rfl (by kernel_rfl) rfl (by decide))⟩
def ajG:TI:=.slice 24 1 24 [.nil]
theorem agG:cK Tryz.prog 173 ajG:=⟨by kernel_rfl,(aF (v:=.slice none 0 0) (by kernel_rfl) rfl (by kernel_rfl) rfl (by decide)),(aF (v:=.slice none 0 0) (by kernel_rfl) rfl (by kernel_rfl) rfl (by decide)),cP (by kernel_rfl)⟩
def ajH:TI:=.int .u64
theorem agH:cK Tryz.prog 179 ajH:=⟨by kernel_rfl,(aF (v:=.int .u64 0) (by kernel_rfl) rfl (by kernel_rfl) rfl (by decide))⟩
def ajI:TI:=.int .u32
theorem agI:cK Tryz.prog 182 ajI:=⟨by kernel_rfl,(aF (v:=.int .u32 0) (by kernel_rfl) rfl (by kernel_rfl) rfl (by decide))⟩
def ajJ:TI:=.int .u64
theorem agJ:cK Tryz.prog 183 ajJ:=⟨by kernel_rfl,(aF (v:=.int .u64 0) (by kernel_rfl) rfl (by kernel_rfl) rfl (by decide))⟩
def ajK:TI:=.struct [(0,1,false)] [.nil]
theorem agK:cK Tryz.prog 193 ajK:=⟨bE (by kernel_rfl),(aF (v:=.agg #[.slice none 0 0]) (by kernel_rfl) rfl (by kernel_rfl) rfl (by decide))⟩
def ajL:TI:=.struct [(0,1,false)] [.nil]
theorem agL:cK Tryz.prog 194 ajL:=⟨bE (by kernel_rfl),(aF (v:=.agg #[.slice none 0 0]) (by kernel_rfl) rfl (by kernel_rfl) rfl (by decide))⟩
def ajM:TI:=.slice 52 4 64 [.bool false, .nil, .bool false, .nil]
theorem agM:cK Tryz.prog 210 ajM:=⟨by kernel_rfl,(aF (v:=.slice none 0 0) (by kernel_rfl) rfl (by kernel_rfl) rfl (by decide)),(aF (v:=.agg #[.bool false, .slice none 0 0, .bool false, .slice none 0 0]) (by kernel_rfl) rfl (by kernel_rfl) rfl (by decide)),cP (by kernel_rfl)⟩
def ajN:TI:=.slice 173 1 24 [.nil]
theorem agN:cK Tryz.prog 256 ajN:=⟨by kernel_rfl,(aF (v:=.slice none 0 0) (by kernel_rfl) rfl (by kernel_rfl) rfl (by decide)),(aF (v:=.slice none 0 0) (by kernel_rfl) rfl (by kernel_rfl) rfl (by decide)),cP (by kernel_rfl)⟩
def ajO:TI:=.int .u8
theorem agO:cK Tryz.prog 279 ajO:=⟨by kernel_rfl,(aF (v:=.int .u8 0) (by kernel_rfl) rfl (by kernel_rfl) rfl (by decide))⟩
def ajP:TI:=.int .u8
theorem agP:cK Tryz.prog 280 ajP:=⟨by kernel_rfl,(aF (v:=.int .u8 0) (by kernel_rfl) rfl (by kernel_rfl) rfl (by decide))⟩
def ajQ:TI:=.int .i32
theorem agQ:cK Tryz.prog 283 ajQ:=⟨by kernel_rfl,(aF (v:=.int .i32 0) (by kernel_rfl) rfl (by kernel_rfl) rfl (by decide))⟩
def ajR:TI:=.int .i32
theorem agR:cK Tryz.prog 284 ajR:=⟨by kernel_rfl,(aF (v:=.int .i32 0) (by kernel_rfl) rfl (by kernel_rfl) rfl (by decide))⟩
def tyF:TypeId→TI
  | 2=>ti2
  | 3=>ti3
  | 4=>ti4
  | 5=>ti5
  | 6=>ti6
  | 7=>ti7
  | 8=>ti8
  | 9=>ti9
  | 10=>ar8
  | 11=>ar9
  | 12=>asa
  | 13=>asb
  | 14=>asc
  | 21=>asd
  | 22=>ase
  | 23=>asf
  | 24=>asg
  | 26=>ash
  | 27=>asi
  | 28=>asj
  | 29=>asl
  | 30=>asm
  | 31=>asn
  | 36=>aso
  | 37=>asp
  | 38=>asq
  | 41=>asr
  | 42=>ass
  | 46=>ast
  | 47=>asu
  | 48=>asv
  | 49=>asw
  | 51=>asx
  | 52=>asy
  | 53=>asz
  | 54=>asA
  | 72=>asB
  | 80=>asC
  | 81=>asD
  | 85=>asE
  | 86=>asF
  | 87=>asG
  | 88=>asH
  | 89=>asI
  | 90=>asJ
  | 92=>asK
  | 93=>asL
  | 94=>asM
  | 97=>asN
  | 106=>ajw
  | 107=>ajx
  | 108=>ajy
  | 109=>ajz
  | 110=>ajA
  | 111=>ajB
  | 112=>ajC
  | 113=>ajD
  | 114=>ajE
  | 115=>ajF
  | 173=>ajG
  | 179=>ajH
  | 182=>ajI
  | 183=>ajJ
  | 193=>ajK
  | 194=>ajL
  | 210=>ajM
  | 256=>ajN
  | 279=>ajO
  | 280=>ajP
  | 283=>ajQ
  | 284=>ajR
  | _ => .other
theorem axs(t:TypeId):cK Tryz.prog t (tyF t):=by
  unfold tyF
  split
  · exact ar0
  · exact ar1
  · exact ar2
  · exact ar3
  · exact ar4
  · exact ar5
  · exact ar6
  · exact ar7
  · exact amg
  · exact amh
  · exact ami
  · exact amj
  · exact amk
  · exact aml
  · exact amm
  · exact amn
  · exact amo
  · exact amp
  · exact amq
  · exact amr
  · exact ams
  · exact amt
  · exact amu
  · exact amv
  · exact amw
  · exact amx
  · exact amy
  · exact amz
  · exact amA
  · exact amB
  · exact amC
  · exact amD
  · exact amE
  · exact amF
  · exact amG
  · exact amH
  · exact amI
  · exact amJ
  · exact amK
  · exact amL
  · exact amM
  · exact amN
  · exact amO
  · exact amP
  · exact amQ
  · exact amR
  · exact amS
  · exact amT
  · exact amU
  · exact agw
  · exact agx
  · exact agy
  · exact agz
  · exact agA
  · exact agB
  · exact agC
  · exact agD
  · exact agE
  · exact agF
  · exact agG
  · exact agH
  · exact agI
  · exact agJ
  · exact agK
  · exact agL
  · exact agM
  · exact agN
  · exact agO
  · exact agP
  · exact agQ
  · exact agR
  · trivial
theorem agS:Tryz.prog.follows .mixedOrders=true:=by kernel_rfl
def JA(g:FuncId):Bool:=g==76 || g==181 || g==264 || g==265
noncomputable def env:Env:=⟨Tryz.prog,tyF,axs,agS,JA⟩
@[simp] theorem avz:env.writes=JA:=rfl
attribute [simp] JA
@[simp] theorem aC8:env.ty 2 = .int .i64:=rfl
@[simp] theorem axt:env.ty 3 = .int .i64:=rfl
@[simp] theorem aC9:env.ty 4 = .bool:=rfl
@[simp] theorem asO:env.ty 5 = .int .u8:=rfl
@[simp] theorem aDa:env.ty 6 = .int .u8:=rfl
@[simp] theorem aDb:env.ty 7 = .struct [(0,1,false),(1,1,false),(2,1,false),(3,1,false)] [.int .i64 0, .int .i64 0, .bool false, .int .u8 0]:=rfl
@[simp] theorem aDc:env.ty 8 = .struct [(0,1,false),(1,1,false),(2,1,false),(3,1,false)] [.int .i64 0, .int .i64 0, .bool false, .int .u8 0]:=rfl
@[simp] theorem aDd:env.ty 9 = .str:=rfl
@[simp] theorem aAI:env.ty 10 = .str:=rfl
@[simp] theorem aAJ:env.ty 11 = .str:=rfl
@[simp] theorem aAK:env.ty 12 = .int .u64:=rfl
@[simp] theorem aAL:env.ty 13 = .struct [(0,1,false),(1,1,false)] [.str ⟨#[]⟩, .int .u64 0]:=rfl
@[simp] theorem aAM:env.ty 14 = .struct [(0,1,false),(1,1,false)] [.str ⟨#[]⟩, .int .u64 0]:=rfl
@[simp] theorem aAN:env.ty 21 = .int .i32:=rfl
@[simp] theorem aAO:env.ty 22 = .slice 3 1 8 [.int .i64 0]:=rfl
@[simp] theorem aAP:env.ty 23 = .slice 38 2 32 [.bool false, .nil]:=rfl
@[simp] theorem aAQ:env.ty 24 = .slice 38 2 32 [.bool false, .nil]:=rfl
@[simp] theorem aAR:env.ty 26 = .slice 31 4 64 [.nil, .bool false, .nil, .bool false]:=rfl
@[simp] theorem aAS:env.ty 27 = .slice 3 1 8 [.int .i64 0]:=rfl
@[simp] theorem aAT:env.ty 28 = .struct [(0,1,false),(1,1,false)] [.nil, .bool false]:=rfl
@[simp] theorem aAU:env.ty 29 = .struct [(0,1,false),(1,1,false)] [.nil, .bool false]:=rfl
@[simp] theorem aAV:env.ty 30 = .struct [(0,2,true),(2,2,true)] [.nil, .bool false, .nil, .bool false]:=rfl
@[simp] theorem aAW:env.ty 31 = .struct [(0,2,true),(2,2,true)] [.nil, .bool false, .nil, .bool false]:=rfl
@[simp] theorem aAX:env.ty 36 = .slice 182 1 4 [.int .u32 0]:=rfl
@[simp] theorem aAY:env.ty 37 = .struct [(0,1,false),(1,1,false)] [.bool false, .nil]:=rfl
@[simp] theorem aAZ:env.ty 38 = .struct [(0,1,false),(1,1,false)] [.bool false, .nil]:=rfl
@[simp] theorem aA0:env.ty 41 = .slice 54 9 152 [.nil, .bool false, .nil, .bool false, .nil, .bool false, .nil, .bool false, .nil]:=rfl
@[simp] theorem aA1:env.ty 42 = .int .i64:=rfl
@[simp] theorem aA2:env.ty 46 = .slice 31 4 64 [.nil, .bool false, .nil, .bool false]:=rfl
@[simp] theorem aA3:env.ty 47 = .slice 46 1 24 [.nil]:=rfl
@[simp] theorem aA4:env.ty 48 = .struct [(0,1,false),(1,1,false),(2,4,true),(6,4,true)] [.nil, .nil, .nil, .bool false, .nil, .bool false, .nil, .bool false, .nil, .bool false]:=rfl
@[simp] theorem aA5:env.ty 49 = .struct [(0,1,false),(1,1,false),(2,4,true),(6,4,true)] [.nil, .nil, .nil, .bool false, .nil, .bool false, .nil, .bool false, .nil, .bool false]:=rfl
@[simp] theorem aA6:env.ty 51 = .struct [(0,2,true),(2,2,true)] [.bool false, .nil, .bool false, .nil]:=rfl
@[simp] theorem aA7:env.ty 52 = .struct [(0,2,true),(2,2,true)] [.bool false, .nil, .bool false, .nil]:=rfl
@[simp] theorem aA8:env.ty 53 = .struct [(0,1,false),(1,4,true),(5,4,true)] [.nil, .bool false, .nil, .bool false, .nil, .bool false, .nil, .bool false, .nil]:=rfl
@[simp] theorem aA9:env.ty 54 = .struct [(0,1,false),(1,4,true),(5,4,true)] [.nil, .bool false, .nil, .bool false, .nil, .bool false, .nil, .bool false, .nil]:=rfl
@[simp] theorem aBa:env.ty 72 = .slice 49 10 176 [.nil, .nil, .nil, .bool false, .nil, .bool false, .nil, .bool false, .nil, .bool false]:=rfl
@[simp] theorem aBb:env.ty 80 = .slice 94 5 88 [.nil, .nil, .bool false, .nil, .int .i64 0]:=rfl
@[simp] theorem aBc:env.ty 81 = .slice 90 7 136 [.nil, .nil, .nil, .nil, .bool false, .nil, .int .i64 0]:=rfl
@[simp] theorem aBd:env.ty 85 = .struct [(0,1,false),(1,1,false),(2,2,true)] [.nil, .nil, .bool false, .nil]:=rfl
@[simp] theorem aBe:env.ty 86 = .struct [(0,1,false),(1,1,false),(2,2,true)] [.nil, .nil, .bool false, .nil]:=rfl
@[simp] theorem aBf:env.ty 87 = .struct [(0,1,false),(1,1,false),(2,4,true)] [.nil, .nil, .nil, .nil, .bool false, .nil]:=rfl
@[simp] theorem aBg:env.ty 88 = .struct [(0,1,false),(1,1,false),(2,4,true)] [.nil, .nil, .nil, .nil, .bool false, .nil]:=rfl
@[simp] theorem aBh:env.ty 89 = .struct [(0,6,true),(6,1,false)] [.nil, .nil, .nil, .nil, .bool false, .nil, .int .i64 0]:=rfl
@[simp] theorem aBi:env.ty 90 = .struct [(0,6,true),(6,1,false)] [.nil, .nil, .nil, .nil, .bool false, .nil, .int .i64 0]:=rfl
@[simp] theorem aBj:env.ty 92 = .fnT:=rfl
@[simp] theorem aBk:env.ty 93 = .struct [(0,4,true),(4,1,false)] [.nil, .nil, .bool false, .nil, .int .i64 0]:=rfl
@[simp] theorem aBl:env.ty 94 = .struct [(0,4,true),(4,1,false)] [.nil, .nil, .bool false, .nil, .int .i64 0]:=rfl
@[simp] theorem aBm:env.ty 97 = .slice 92 1 8 [.undef]:=rfl
@[simp] theorem axu:env.ty 106 = .slice 109 5 40 [.int .i64 0, .int .i64 0, .int .i64 0, .int .i64 0, .int .i64 0]:=rfl
@[simp] theorem axv:env.ty 107 = .arr 3 4 1 [.int .i64 0, .int .i64 0, .int .i64 0, .int .i64 0]:=rfl
@[simp] theorem axw:env.ty 108 = .struct [(0,1,false),(1,4,true)] [.int .i64 0, .int .i64 0, .int .i64 0, .int .i64 0, .int .i64 0]:=rfl
@[simp] theorem axx:env.ty 109 = .struct [(0,1,false),(1,4,true)] [.int .i64 0, .int .i64 0, .int .i64 0, .int .i64 0, .int .i64 0]:=rfl
@[simp] theorem axy:env.ty 110 = .slice 113 7 72 [.int .i64 0, .int .i64 0, .int .i64 0, .int .i64 0, .int .i64 0, .nil, .int .i64 0]:=rfl
@[simp] theorem axz:env.ty 111 = .slice 115 9 104 [.int .i64 0, .int .i64 0, .int .i64 0, .int .i64 0, .int .i64 0, .nil, .int .i64 0, .nil, .bool false]:=rfl
@[simp] theorem axA:env.ty 112 = .struct [(0,5,true),(5,1,false),(6,1,false)] [.int .i64 0, .int .i64 0, .int .i64 0, .int .i64 0, .int .i64 0, .nil, .int .i64 0]:=rfl
@[simp] theorem axB:env.ty 113 = .struct [(0,5,true),(5,1,false),(6,1,false)] [.int .i64 0, .int .i64 0, .int .i64 0, .int .i64 0, .int .i64 0, .nil, .int .i64 0]:=rfl
@[simp] theorem axC:env.ty 114 = .struct [(0,5,true),(5,1,false),(6,1,false),(7,1,false),(8,1,false)] [.int .i64 0, .int .i64 0, .int .i64 0, .int .i64 0, .int .i64 0, .nil, .int .i64 0, .nil, .bool false]:=rfl
@[simp] theorem axD:env.ty 115 = .struct [(0,5,true),(5,1,false),(6,1,false),(7,1,false),(8,1,false)] [.int .i64 0, .int .i64 0, .int .i64 0, .int .i64 0, .int .i64 0, .nil, .int .i64 0, .nil, .bool false]:=rfl
@[simp] theorem axE:env.ty 173 = .slice 24 1 24 [.nil]:=rfl
@[simp] theorem axF:env.ty 179 = .int .u64:=rfl
@[simp] theorem amV:env.ty 182 = .int .u32:=rfl
@[simp] theorem axG:env.ty 183 = .int .u64:=rfl
@[simp] theorem axH:env.ty 193 = .struct [(0,1,false)] [.nil]:=rfl
@[simp] theorem axI:env.ty 194 = .struct [(0,1,false)] [.nil]:=rfl
@[simp] theorem axJ:env.ty 210 = .slice 52 4 64 [.bool false, .nil, .bool false, .nil]:=rfl
@[simp] theorem axK:env.ty 256 = .slice 173 1 24 [.nil]:=rfl
@[simp] theorem axL:env.ty 279 = .int .u8:=rfl
@[simp] theorem axM:env.ty 280 = .int .u8:=rfl
@[simp] theorem axN:env.ty 283 = .int .i32:=rfl
@[simp] theorem axO:env.ty 284 = .int .i32:=rfl
end Go.Proofs.YtelhfbikiccfkaaGreat
