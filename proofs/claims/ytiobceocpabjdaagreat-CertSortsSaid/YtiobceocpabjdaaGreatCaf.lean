import Derived.Test.YtiobceocpabjdaaGreatProg
import Derived.KernelRfl
import Derived.Test.YtiobceocpabjdaaGreatCad
set_option linter.unusedSimpArgs false
set_option linter.unusedVariables false
/- The types of the seat, as the pure machine wants them: closed facts, each by the kernel. -/
namespace Go.Proofs.YtiobceocpabjdaaGreat
open Go Pm
def ti2:TI:=.int .i64
theorem aiY:bM Tryz.prog 2 ti2:=⟨by kernel_rfl,(aA (v:=.int .i64 0) (by kernel_rfl) rfl (by kernel_rfl) rfl (by decide))⟩
def ti3:TI:=.int .i64
theorem aiZ:bM Tryz.prog 3 ti3:=⟨by kernel_rfl,(aA (v:=.int .i64 0) (by kernel_rfl) rfl (by kernel_rfl) rfl (by decide))⟩
def ti4:TI:=.bool
theorem ai0:bM Tryz.prog 4 ti4:=⟨by kernel_rfl,(aA (v:=.bool false) (by kernel_rfl) rfl (by kernel_rfl) rfl (by decide))⟩
def ti5:TI:=.int .u8
theorem ai1:bM Tryz.prog 5 ti5:=⟨by kernel_rfl,(aA (v:=.int .u8 0) (by kernel_rfl) rfl (by kernel_rfl) rfl (by decide))⟩
def ti6:TI:=.int .u8
theorem ai2:bM Tryz.prog 6 ti6:=⟨by kernel_rfl,(aA (v:=.int .u8 0) (by kernel_rfl) rfl (by kernel_rfl) rfl (by decide))⟩
def ti7:TI:=.struct [(0,1,false),(1,1,false),(2,1,false),(3,1,false)] [.int .i64 0, .int .i64 0, .bool false, .int .u8 0]
theorem ai3:bM Tryz.prog 7 ti7:=⟨aP (by kernel_rfl),(aA (v:=.agg #[.int .i64 0, .int .i64 0, .bool false, .int .u8 0]) (by kernel_rfl) rfl (by kernel_rfl) rfl (by decide))⟩
def ti8:TI:=.struct [(0,1,false),(1,1,false),(2,1,false),(3,1,false)] [.int .i64 0, .int .i64 0, .bool false, .int .u8 0]
theorem ai4:bM Tryz.prog 8 ti8:=⟨aP (by kernel_rfl),(aA (v:=.agg #[.int .i64 0, .int .i64 0, .bool false, .int .u8 0]) (by kernel_rfl) rfl (by kernel_rfl) rfl (by decide))⟩
def ti9:TI:=.str
theorem ai5:bM Tryz.prog 9 ti9:=⟨by kernel_rfl,(aA (v:=.string ⟨#[]⟩) (by kernel_rfl) rfl (by kernel_rfl) rfl (by decide))⟩
def ai6:TI:=.str
theorem adm:bM Tryz.prog 10 ai6:=⟨by kernel_rfl,(aA (v:=.string ⟨#[]⟩) (by kernel_rfl) rfl (by kernel_rfl) rfl (by decide))⟩
def ai7:TI:=.str
theorem adn:bM Tryz.prog 11 ai7:=⟨by kernel_rfl,(aA (v:=.string ⟨#[]⟩) (by kernel_rfl) rfl (by kernel_rfl) rfl (by decide))⟩
def ai8:TI:=.int .u64
theorem ado:bM Tryz.prog 12 ai8:=⟨by kernel_rfl,(aA (v:=.int .u64 0) (by kernel_rfl) rfl (by kernel_rfl) rfl (by decide))⟩
def ai9:TI:=.struct [(0,1,false),(1,1,false)] [.str ⟨#[]⟩, .int .u64 0]
theorem adp:bM Tryz.prog 13 ai9:=⟨aP (by kernel_rfl),(aA (v:=.agg #[.string ⟨#[]⟩, .int .u64 0]) (by kernel_rfl) rfl (by kernel_rfl) rfl (by decide))⟩
def aja:TI:=.struct [(0,1,false),(1,1,false)] [.str ⟨#[]⟩, .int .u64 0]
theorem adq:bM Tryz.prog 14 aja:=⟨aP (by kernel_rfl),(aA (v:=.agg #[.string ⟨#[]⟩, .int .u64 0]) (by kernel_rfl) rfl (by kernel_rfl) rfl (by decide))⟩
def ajb:TI:=.int .i32
theorem adr:bM Tryz.prog 21 ajb:=⟨by kernel_rfl,(aA (v:=.int .i32 0) (by kernel_rfl) rfl (by kernel_rfl) rfl (by decide))⟩
def ajc:TI:=.slice 3 1 8 [.int .i64 0]
theorem ads:bM Tryz.prog 22 ajc:=⟨by kernel_rfl,(aA (v:=.slice none 0 0) (by kernel_rfl) rfl (by kernel_rfl) rfl (by decide)),(aA (v:=.int .i64 0) (by kernel_rfl) rfl (by kernel_rfl) rfl (by decide)),bJ (by kernel_rfl)⟩
def ajd:TI:=.slice 38 2 32 [.bool false, .nil]
theorem adt:bM Tryz.prog 23 ajd:=⟨by kernel_rfl,(aA (v:=.slice none 0 0) (by kernel_rfl) rfl (by kernel_rfl) rfl (by decide)),(aA (v:=.agg #[.bool false, .slice none 0 0]) (by kernel_rfl) rfl (by kernel_rfl) rfl (by decide)),bJ (by kernel_rfl)⟩
def aje:TI:=.slice 38 2 32 [.bool false, .nil]
theorem adu:bM Tryz.prog 24 aje:=⟨by kernel_rfl,(aA (v:=.slice none 0 0) (by kernel_rfl) rfl (by kernel_rfl) rfl (by decide)),(aA (v:=.agg #[.bool false, .slice none 0 0]) (by kernel_rfl) rfl (by kernel_rfl) rfl (by decide)),bJ (by kernel_rfl)⟩
def ajf:TI:=.slice 31 4 64 [.nil, .bool false, .nil, .bool false]
theorem adw:bM Tryz.prog 26 ajf:=⟨by kernel_rfl,(aA (v:=.slice none 0 0) (by kernel_rfl) rfl (by kernel_rfl) rfl (by decide)),(aA (v:=.agg #[.slice none 0 0, .bool false, .slice none 0 0, .bool false]) (by kernel_rfl) rfl (by kernel_rfl) rfl (by decide)),bJ (by kernel_rfl)⟩
def ajg:TI:=.slice 3 1 8 [.int .i64 0]
theorem adx:bM Tryz.prog 27 ajg:=⟨by kernel_rfl,(aA (v:=.slice none 0 0) (by kernel_rfl) rfl (by kernel_rfl) rfl (by decide)),(aA (v:=.int .i64 0) (by kernel_rfl) rfl (by kernel_rfl) rfl (by decide)),bJ (by kernel_rfl)⟩
def ajh:TI:=.struct [(0,1,false),(1,1,false)] [.nil, .bool false]
theorem ady:bM Tryz.prog 28 ajh:=⟨aP (by kernel_rfl),(aA (v:=.agg #[.slice none 0 0, .bool false]) (by kernel_rfl) rfl (by kernel_rfl) rfl (by decide))⟩
def aji:TI:=.struct [(0,1,false),(1,1,false)] [.nil, .bool false]
theorem adz:bM Tryz.prog 29 aji:=⟨aP (by kernel_rfl),(aA (v:=.agg #[.slice none 0 0, .bool false]) (by kernel_rfl) rfl (by kernel_rfl) rfl (by decide))⟩
def ajj:TI:=.struct [(0,2,true),(2,2,true)] [.nil, .bool false, .nil, .bool false]
theorem adA:bM Tryz.prog 30 ajj:=⟨aP (by kernel_rfl),(aA (v:=.agg #[.slice none 0 0, .bool false, .slice none 0 0, .bool false]) (by kernel_rfl) rfl (by kernel_rfl) rfl (by decide))⟩
def ajk:TI:=.struct [(0,2,true),(2,2,true)] [.nil, .bool false, .nil, .bool false]
theorem adB:bM Tryz.prog 31 ajk:=⟨aP (by kernel_rfl),(aA (v:=.agg #[.slice none 0 0, .bool false, .slice none 0 0, .bool false]) (by kernel_rfl) rfl (by kernel_rfl) rfl (by decide))⟩
def ajl:TI:=.slice 185 1 4 [.int .u32 0]
theorem adC:bM Tryz.prog 36 ajl:=⟨by kernel_rfl,(aA (v:=.slice none 0 0) (by kernel_rfl) rfl (by kernel_rfl) rfl (by decide)),(aA (v:=.int .u32 0) (by kernel_rfl) rfl (by kernel_rfl) rfl (by decide)),bJ (by kernel_rfl)⟩
def ajm:TI:=.struct [(0,1,false),(1,1,false)] [.bool false, .nil]
theorem adD:bM Tryz.prog 37 ajm:=⟨aP (by kernel_rfl),(aA (v:=.agg #[.bool false, .slice none 0 0]) (by kernel_rfl) rfl (by kernel_rfl) rfl (by decide))⟩
def ajn:TI:=.struct [(0,1,false),(1,1,false)] [.bool false, .nil]
theorem adE:bM Tryz.prog 38 ajn:=⟨aP (by kernel_rfl),(aA (v:=.agg #[.bool false, .slice none 0 0]) (by kernel_rfl) rfl (by kernel_rfl) rfl (by decide))⟩
def ajo:TI:=.slice 54 9 152 [.nil, .bool false, .nil, .bool false, .nil, .bool false, .nil, .bool false, .nil]
theorem adF:bM Tryz.prog 41 ajo:=⟨by kernel_rfl,(aA (v:=.slice none 0 0) (by kernel_rfl) rfl (by kernel_rfl) rfl (by decide)),(aA (v:=.agg #[.slice none 0 0, .bool false, .slice none 0 0, .bool false, .slice none 0 0, .bool false, .slice none 0 0, .bool false, .slice none 0 0]) (by kernel_rfl) rfl (by kernel_rfl) rfl (by decide)),bJ (by kernel_rfl)⟩
def ajp:TI:=.int .i64
theorem adG:bM Tryz.prog 42 ajp:=⟨by kernel_rfl,(aA (v:=.int .i64 0) (by kernel_rfl) rfl (by kernel_rfl) rfl (by decide))⟩
def ajq:TI:=.slice 31 4 64 [.nil, .bool false, .nil, .bool false]
theorem adH:bM Tryz.prog 46 ajq:=⟨by kernel_rfl,(aA (v:=.slice none 0 0) (by kernel_rfl) rfl (by kernel_rfl) rfl (by decide)),(aA (v:=.agg #[.slice none 0 0, .bool false, .slice none 0 0, .bool false]) (by kernel_rfl) rfl (by kernel_rfl) rfl (by decide)),bJ (by kernel_rfl)⟩
def ajr:TI:=.slice 46 1 24 [.nil]
theorem adI:bM Tryz.prog 47 ajr:=⟨by kernel_rfl,(aA (v:=.slice none 0 0) (by kernel_rfl) rfl (by kernel_rfl) rfl (by decide)),(aA (v:=.slice none 0 0) (by kernel_rfl) rfl (by kernel_rfl) rfl (by decide)),bJ (by kernel_rfl)⟩
def ajs:TI:=.struct [(0,1,false),(1,1,false),(2,4,true),(6,4,true)] [.nil, .nil, .nil, .bool false, .nil, .bool false, .nil, .bool false, .nil, .bool false]
theorem adJ:bM Tryz.prog 48 ajs:=⟨aP (by kernel_rfl),(aA (v:=.agg #[.slice none 0 0, .slice none 0 0, .slice none 0 0, .bool false, .slice none 0 0, .bool false, .slice none 0 0, .bool false, .slice none 0 0, .bool false]) (by kernel_rfl) rfl (by kernel_rfl) rfl (by decide))⟩
def ajt:TI:=.struct [(0,1,false),(1,1,false),(2,4,true),(6,4,true)] [.nil, .nil, .nil, .bool false, .nil, .bool false, .nil, .bool false, .nil, .bool false]
theorem adK:bM Tryz.prog 49 ajt:=⟨aP (by kernel_rfl),(aA (v:=.agg #[.slice none 0 0, .slice none 0 0, .slice none 0 0, .bool false, .slice none 0 0, .bool false, .slice none 0 0, .bool false, .slice none 0 0, .bool false]) (by kernel_rfl) rfl (by kernel_rfl) rfl (by decide))⟩
def aju:TI:=.struct [(0,2,true),(2,2,true)] [.bool false, .nil, .bool false, .nil]
theorem adL:bM Tryz.prog 51 aju:=⟨aP (by kernel_rfl),(aA (v:=.agg #[.bool false, .slice none 0 0, .bool false, .slice none 0 0]) (by kernel_rfl) rfl (by kernel_rfl) rfl (by decide))⟩
def ajv:TI:=.struct [(0,2,true),(2,2,true)] [.bool false, .nil, .bool false, .nil]
theorem adM:bM Tryz.prog 52 ajv:=⟨aP (by kernel_rfl),(aA (v:=.agg #[.bool false, .slice none 0 0, .bool false, .slice none 0 0]) (by kernel_rfl) rfl (by kernel_rfl) rfl (by decide))⟩
def ajw:TI:=.struct [(0,1,false),(1,4,true),(5,4,true)] [.nil, .bool false, .nil, .bool false, .nil, .bool false, .nil, .bool false, .nil]
theorem adN:bM Tryz.prog 53 ajw:=⟨aP (by kernel_rfl),(aA (v:=.agg #[.slice none 0 0, .bool false, .slice none 0 0, .bool false, .slice none 0 0, .bool false, .slice none 0 0, .bool false, .slice none 0 0]) (by kernel_rfl) rfl (by kernel_rfl) rfl (by decide))⟩
def ajx:TI:=.struct [(0,1,false),(1,4,true),(5,4,true)] [.nil, .bool false, .nil, .bool false, .nil, .bool false, .nil, .bool false, .nil]
theorem adO:bM Tryz.prog 54 ajx:=⟨aP (by kernel_rfl),(aA (v:=.agg #[.slice none 0 0, .bool false, .slice none 0 0, .bool false, .slice none 0 0, .bool false, .slice none 0 0, .bool false, .slice none 0 0]) (by kernel_rfl) rfl (by kernel_rfl) rfl (by decide))⟩
def ajy:TI:=.slice 73 5 88 [.nil, .nil, .bool false, .nil, .int .i64 0]
theorem adP:bM Tryz.prog 62 ajy:=⟨by kernel_rfl,(aA (v:=.slice none 0 0) (by kernel_rfl) rfl (by kernel_rfl) rfl (by decide)),(aA (v:=.agg #[.slice none 0 0, .slice none 0 0, .bool false, .slice none 0 0, .int .i64 0]) (by kernel_rfl) rfl (by kernel_rfl) rfl (by decide)),bJ (by kernel_rfl)⟩
def ajz:TI:=.slice 155 7 136 [.nil, .nil, .nil, .nil, .bool false, .nil, .int .i64 0]
theorem adQ:bM Tryz.prog 63 ajz:=⟨by kernel_rfl,(aA (v:=.slice none 0 0) (by kernel_rfl) rfl (by kernel_rfl) rfl (by decide)),(aA (v:=.agg #[.slice none 0 0, .slice none 0 0, .slice none 0 0, .slice none 0 0, .bool false, .slice none 0 0, .int .i64 0]) (by kernel_rfl) rfl (by kernel_rfl) rfl (by decide)),bJ (by kernel_rfl)⟩
def ajA:TI:=.fnT
theorem adR:bM Tryz.prog 68 ajA:=⟨by kernel_rfl,(aA (v:=.nilFunc) (by kernel_rfl) rfl (by kernel_rfl) rfl (by decide))⟩
def ajB:TI:=.slice 68 1 8 [.undef]
theorem adS:bM Tryz.prog 69 ajB:=⟨by kernel_rfl,(aA (v:=.slice none 0 0) (by kernel_rfl) rfl (by kernel_rfl) rfl (by decide)),(aA (v:=.nilFunc) (by kernel_rfl) rfl (by kernel_rfl) rfl (by decide)),bJ (by kernel_rfl)⟩
def ajC:TI:=.struct [(0,1,false),(1,1,false),(2,2,true)] [.nil, .nil, .bool false, .nil]
theorem adT:bM Tryz.prog 70 ajC:=⟨aP (by kernel_rfl),(aA (v:=.agg #[.slice none 0 0, .slice none 0 0, .bool false, .slice none 0 0]) (by kernel_rfl) rfl (by kernel_rfl) rfl (by decide))⟩
def ajD:TI:=.struct [(0,1,false),(1,1,false),(2,2,true)] [.nil, .nil, .bool false, .nil]
theorem adU:bM Tryz.prog 71 ajD:=⟨aP (by kernel_rfl),(aA (v:=.agg #[.slice none 0 0, .slice none 0 0, .bool false, .slice none 0 0]) (by kernel_rfl) rfl (by kernel_rfl) rfl (by decide))⟩
def ajE:TI:=.struct [(0,4,true),(4,1,false)] [.nil, .nil, .bool false, .nil, .int .i64 0]
theorem adV:bM Tryz.prog 72 ajE:=⟨aP (by kernel_rfl),(aA (v:=.agg #[.slice none 0 0, .slice none 0 0, .bool false, .slice none 0 0, .int .i64 0]) (by kernel_rfl) rfl (by kernel_rfl) rfl (by decide))⟩
def ajF:TI:=.struct [(0,4,true),(4,1,false)] [.nil, .nil, .bool false, .nil, .int .i64 0]
theorem adW:bM Tryz.prog 73 ajF:=⟨aP (by kernel_rfl),(aA (v:=.agg #[.slice none 0 0, .slice none 0 0, .bool false, .slice none 0 0, .int .i64 0]) (by kernel_rfl) rfl (by kernel_rfl) rfl (by decide))⟩
def ajG:TI:=.slice 78 5 40 [.int .i64 0, .int .i64 0, .int .i64 0, .int .i64 0, .int .i64 0]
theorem adX:bM Tryz.prog 75 ajG:=⟨by kernel_rfl,(aA (v:=.slice none 0 0) (by kernel_rfl) rfl (by kernel_rfl) rfl (by decide)),(aA (v:=.agg #[.int .i64 0, .int .i64 0, .int .i64 0, .int .i64 0, .int .i64 0]) (by kernel_rfl) rfl (by kernel_rfl) rfl (by decide)),bJ (by kernel_rfl)⟩
def ajH:TI:=.arr 3 4 1 [.int .i64 0, .int .i64 0, .int .i64 0, .int .i64 0]
theorem adY:bM Tryz.prog 76 ajH:=⟨by kernel_rfl,(aA (v:=.agg #[.int .i64 0, .int .i64 0, .int .i64 0, .int .i64 0]) (by kernel_rfl) rfl (by kernel_rfl) rfl (by decide)),xU (by kernel_rfl)⟩
def ajI:TI:=.struct [(0,1,false),(1,4,true)] [.int .i64 0, .int .i64 0, .int .i64 0, .int .i64 0, .int .i64 0]
theorem adZ:bM Tryz.prog 77 ajI:=⟨aP (by kernel_rfl),(aA (v:=.agg #[.int .i64 0, .int .i64 0, .int .i64 0, .int .i64 0, .int .i64 0]) (by kernel_rfl) rfl (by kernel_rfl) rfl (by decide))⟩
def ajJ:TI:=.struct [(0,1,false),(1,4,true)] [.int .i64 0, .int .i64 0, .int .i64 0, .int .i64 0, .int .i64 0]
theorem ad1:bM Tryz.prog 78 ajJ:=⟨aP (by kernel_rfl),(aA (v:=.agg #[.int .i64 0, .int .i64 0, .int .i64 0, .int .i64 0, .int .i64 0]) (by kernel_rfl) rfl (by kernel_rfl) rfl (by decide))⟩
def ajK:TI:=.slice 82 7 72 [.int .i64 0, .int .i64 0, .int .i64 0, .int .i64 0, .int .i64 0, .nil, .int .i64 0]
theorem ad2:bM Tryz.prog 79 ajK:=⟨by kernel_rfl,(aA (v:=.slice none 0 0) (by kernel_rfl) rfl (by kernel_rfl) rfl (by decide)),(aA (v:=.agg #[.int .i64 0, .int .i64 0, .int .i64 0, .int .i64 0, .int .i64 0, .slice none 0 0, .int .i64 0]) (by kernel_rfl) rfl (by kernel_rfl) rfl (by decide)),bJ (by kernel_rfl)⟩
def ajL:TI:=.slice 85 9 104 [.int .i64 0, .int .i64 0, .int .i64 0, .int .i64 0, .int .i64 0, .nil, .int .i64 0, .nil, .bool false]
theorem ad3:bM Tryz.prog 80 ajL:=⟨by kernel_rfl,(aA (v:=.slice none 0 0) (by kernel_rfl) rfl (by kernel_rfl) rfl (by decide)),(aA (v:=.agg #[.int .i64 0, .int .i64 0, .int .i64 0, .int .i64 0, .int .i64 0, .slice none 0 0, .int .i64 0, .slice none 0 0, .bool false]) (by kernel_rfl) rfl (by kernel_rfl) rfl (by decide)),bJ (by kernel_rfl)⟩
def ajM:TI:=.struct [(0,5,true),(5,1,false),(6,1,false)] [.int .i64 0, .int .i64 0, .int .i64 0, .int .i64 0, .int .i64 0, .nil, .int .i64 0]
theorem ad4:bM Tryz.prog 81 ajM:=⟨aP (by kernel_rfl),(aA (v:=.agg #[.int .i64 0, .int .i64 0, .int .i64 0, .int .i64 0, .int .i64 0, .slice none 0 0, .int .i64 0]) (by kernel_rfl) rfl (by kernel_rfl) rfl (by decide))⟩
def ajN:TI:=.struct [(0,5,true),(5,1,false),(6,1,false)] [.int .i64 0, .int .i64 0, .int .i64 0, .int .i64 0, .int .i64 0, .nil, .int .i64 0]
theorem ad5:bM Tryz.prog 82 ajN:=⟨aP (by kernel_rfl),(aA (v:=.agg #[.int .i64 0, .int .i64 0, .int .i64 0, .int .i64 0, .int .i64 0, .slice none 0 0, .int .i64 0]) (by kernel_rfl) rfl (by kernel_rfl) rfl (by decide))⟩
def ajO:TI:=.slice 49 10 176 [.nil, .nil, .nil, .bool false, .nil, .bool false, .nil, .bool false, .nil, .bool false]
theorem ad6:bM Tryz.prog 83 ajO:=⟨by kernel_rfl,(aA (v:=.slice none 0 0) (by kernel_rfl) rfl (by kernel_rfl) rfl (by decide)),(aA (v:=.agg #[.slice none 0 0, .slice none 0 0, .slice none 0 0, .bool false, .slice none 0 0, .bool false, .slice none 0 0, .bool false, .slice none 0 0, .bool false]) (by kernel_rfl) rfl (by kernel_rfl) rfl (by decide)),bJ (by kernel_rfl)⟩
def ajP:TI:=.struct [(0,5,true),(5,1,false),(6,1,false),(7,1,false),(8,1,false)] [.int .i64 0, .int .i64 0, .int .i64 0, .int .i64 0, .int .i64 0, .nil, .int .i64 0, .nil, .bool false]
theorem ad7:bM Tryz.prog 84 ajP:=⟨aP (by kernel_rfl),(aA (v:=.agg #[.int .i64 0, .int .i64 0, .int .i64 0, .int .i64 0, .int .i64 0, .slice none 0 0, .int .i64 0, .slice none 0 0, .bool false]) (by kernel_rfl) rfl (by kernel_rfl) rfl (by decide))⟩
def ajQ:TI:=.struct [(0,5,true),(5,1,false),(6,1,false),(7,1,false),(8,1,false)] [.int .i64 0, .int .i64 0, .int .i64 0, .int .i64 0, .int .i64 0, .nil, .int .i64 0, .nil, .bool false]
theorem ad8:bM Tryz.prog 85 ajQ:=⟨aP (by kernel_rfl),(aA (v:=.agg #[.int .i64 0, .int .i64 0, .int .i64 0, .int .i64 0, .int .i64 0, .slice none 0 0, .int .i64 0, .slice none 0 0, .bool false]) (by kernel_rfl) rfl (by kernel_rfl) rfl (by decide))⟩
def ajR:TI:=.slice 179 18 232 [.int .i64 0, .int .i64 0, .int .i64 0, .int .i64 0, .int .i64 0, .nil, .int .i64 0, .bool false, .bool false, .nil, .bool false, .nil, .bool false, .nil, .bool false, .nil, .bool false, .nil]
theorem ad9:bM Tryz.prog 93 ajR:=⟨by kernel_rfl,(aA (v:=.slice none 0 0) (by kernel_rfl) rfl (by kernel_rfl) rfl (by decide)),(aA (v:=.agg #[.int .i64 0, .int .i64 0, .int .i64 0, .int .i64 0, .int .i64 0, .slice none 0 0, .int .i64 0, .bool false, .bool false, .slice none 0 0, .bool false, .slice none 0 0, .bool false, .slice none 0 0, .bool false, .slice none 0 0, .bool false, .slice none 0 0]) (by kernel_rfl) rfl (by kernel_rfl) rfl (by decide)),bJ (by kernel_rfl)⟩
def ajS:TI:=.struct [(0,1,false),(1,9,true),(10,1,false),(11,1,false)] [.bool false, .nil, .bool false, .nil, .bool false, .nil, .bool false, .nil, .bool false, .nil, .nil, .int .i64 0]
theorem aea:bM Tryz.prog 94 ajS:=⟨aP (by kernel_rfl),(aA (v:=.agg #[.bool false, .slice none 0 0, .bool false, .slice none 0 0, .bool false, .slice none 0 0, .bool false, .slice none 0 0, .bool false, .slice none 0 0, .slice none 0 0, .int .i64 0]) (by kernel_rfl) rfl (by kernel_rfl) rfl (by decide))⟩
def ajT:TI:=.struct [(0,1,false),(1,9,true),(10,1,false),(11,1,false)] [.bool false, .nil, .bool false, .nil, .bool false, .nil, .bool false, .nil, .bool false, .nil, .nil, .int .i64 0]
theorem aeb:bM Tryz.prog 95 ajT:=⟨aP (by kernel_rfl),(aA (v:=.agg #[.bool false, .slice none 0 0, .bool false, .slice none 0 0, .bool false, .slice none 0 0, .bool false, .slice none 0 0, .bool false, .slice none 0 0, .slice none 0 0, .int .i64 0]) (by kernel_rfl) rfl (by kernel_rfl) rfl (by decide))⟩
def aaW:TI:=.slice 22 1 24 [.nil]
theorem W3:bM Tryz.prog 102 aaW:=⟨by kernel_rfl,(aA (v:=.slice none 0 0) (by kernel_rfl) rfl (by kernel_rfl) rfl (by decide)),(aA (v:=.slice none 0 0) (by kernel_rfl) rfl (by kernel_rfl) rfl (by decide)),bJ (by kernel_rfl)⟩
def aaX:TI:=.slice 115 14 192 [.int .i64 0, .int .i64 0, .int .i64 0, .int .i64 0, .int .i64 0, .nil, .bool false, .nil, .bool false, .nil, .bool false, .nil, .bool false, .nil]
theorem W4:bM Tryz.prog 110 aaX:=⟨by kernel_rfl,(aA (v:=.slice none 0 0) (by kernel_rfl) rfl (by kernel_rfl) rfl (by decide)),(aA (v:=.agg #[.int .i64 0, .int .i64 0, .int .i64 0, .int .i64 0, .int .i64 0, .slice none 0 0, .bool false, .slice none 0 0, .bool false, .slice none 0 0, .bool false, .slice none 0 0, .bool false, .slice none 0 0]) (by kernel_rfl) rfl (by kernel_rfl) rfl (by decide)),bJ (by kernel_rfl)⟩
def aaY:TI:=.struct [(0,5,true),(5,9,true)] [.int .i64 0, .int .i64 0, .int .i64 0, .int .i64 0, .int .i64 0, .nil, .bool false, .nil, .bool false, .nil, .bool false, .nil, .bool false, .nil]
theorem W5:bM Tryz.prog 114 aaY:=⟨aP (by kernel_rfl),(aA (v:=.agg #[.int .i64 0, .int .i64 0, .int .i64 0, .int .i64 0, .int .i64 0, .slice none 0 0, .bool false, .slice none 0 0, .bool false, .slice none 0 0, .bool false, .slice none 0 0, .bool false, .slice none 0 0]) (by kernel_rfl) rfl (by kernel_rfl) rfl (by decide))⟩
def aaZ:TI:=.struct [(0,5,true),(5,9,true)] [.int .i64 0, .int .i64 0, .int .i64 0, .int .i64 0, .int .i64 0, .nil, .bool false, .nil, .bool false, .nil, .bool false, .nil, .bool false, .nil]
theorem W6:bM Tryz.prog 115 aaZ:=⟨aP (by kernel_rfl),(aA (v:=.agg #[.int .i64 0, .int .i64 0, .int .i64 0, .int .i64 0, .int .i64 0, .slice none 0 0, .bool false, .slice none 0 0, .bool false, .slice none 0 0, .bool false, .slice none 0 0, .bool false, .slice none 0 0]) (by kernel_rfl) rfl (by kernel_rfl) rfl (by decide))⟩
def aa0:TI:=.struct [(0,1,false),(1,1,false),(2,4,true)] [.nil, .nil, .nil, .nil, .bool false, .nil]
theorem W7:bM Tryz.prog 152 aa0:=⟨aP (by kernel_rfl),(aA (v:=.agg #[.slice none 0 0, .slice none 0 0, .slice none 0 0, .slice none 0 0, .bool false, .slice none 0 0]) (by kernel_rfl) rfl (by kernel_rfl) rfl (by decide))⟩
def aa1:TI:=.struct [(0,1,false),(1,1,false),(2,4,true)] [.nil, .nil, .nil, .nil, .bool false, .nil]
theorem W8:bM Tryz.prog 153 aa1:=⟨aP (by kernel_rfl),(aA (v:=.agg #[.slice none 0 0, .slice none 0 0, .slice none 0 0, .slice none 0 0, .bool false, .slice none 0 0]) (by kernel_rfl) rfl (by kernel_rfl) rfl (by decide))⟩
def aa2:TI:=.struct [(0,6,true),(6,1,false)] [.nil, .nil, .nil, .nil, .bool false, .nil, .int .i64 0]
theorem W9:bM Tryz.prog 154 aa2:=⟨aP (by kernel_rfl),(aA (v:=.agg #[.slice none 0 0, .slice none 0 0, .slice none 0 0, .slice none 0 0, .bool false, .slice none 0 0, .int .i64 0]) (by kernel_rfl) rfl (by kernel_rfl) rfl (by decide))⟩
def aa3:TI:=.struct [(0,6,true),(6,1,false)] [.nil, .nil, .nil, .nil, .bool false, .nil, .int .i64 0]
theorem XA:bM Tryz.prog 155 aa3:=⟨aP (by kernel_rfl),(aA (v:=.agg #[.slice none 0 0, .slice none 0 0, .slice none 0 0, .slice none 0 0, .bool false, .slice none 0 0, .int .i64 0]) (by kernel_rfl) rfl (by kernel_rfl) rfl (by decide))⟩
def aa4:TI:=.struct [(0,7,true),(7,1,false),(8,1,false),(9,9,true)] [.int .i64 0, .int .i64 0, .int .i64 0, .int .i64 0, .int .i64 0, .nil, .int .i64 0, .bool false, .bool false, .nil, .bool false, .nil, .bool false, .nil, .bool false, .nil, .bool false, .nil]
theorem XB:bM Tryz.prog 178 aa4:=⟨aP (by kernel_rfl),(aA (v:=.agg #[.int .i64 0, .int .i64 0, .int .i64 0, .int .i64 0, .int .i64 0, .slice none 0 0, .int .i64 0, .bool false, .bool false, .slice none 0 0, .bool false, .slice none 0 0, .bool false, .slice none 0 0, .bool false, .slice none 0 0, .bool false, .slice none 0 0]) (by kernel_rfl) rfl (by kernel_rfl) rfl (by decide))⟩
def aa5:TI:=.struct [(0,7,true),(7,1,false),(8,1,false),(9,9,true)] [.int .i64 0, .int .i64 0, .int .i64 0, .int .i64 0, .int .i64 0, .nil, .int .i64 0, .bool false, .bool false, .nil, .bool false, .nil, .bool false, .nil, .bool false, .nil, .bool false, .nil]
theorem XC:bM Tryz.prog 179 aa5:=⟨aP (by kernel_rfl),(aA (v:=.agg #[.int .i64 0, .int .i64 0, .int .i64 0, .int .i64 0, .int .i64 0, .slice none 0 0, .int .i64 0, .bool false, .bool false, .slice none 0 0, .bool false, .slice none 0 0, .bool false, .slice none 0 0, .bool false, .slice none 0 0, .bool false, .slice none 0 0]) (by kernel_rfl) rfl (by kernel_rfl) rfl (by decide))⟩
def aa6:TI:=.int .u64
theorem XD:bM Tryz.prog 182 aa6:=⟨by kernel_rfl,(aA (v:=.int .u64 0) (by kernel_rfl) rfl (by kernel_rfl) rfl (by decide))⟩
def aa7:TI:=.int .u32
theorem XE:bM Tryz.prog 185 aa7:=⟨by kernel_rfl,(aA (v:=.int .u32 0) (by kernel_rfl) rfl (by kernel_rfl) rfl (by decide))⟩
def aa8:TI:=.int .u64
theorem XF:bM Tryz.prog 186 aa8:=⟨by kernel_rfl,(aA (v:=.int .u64 0) (by kernel_rfl) rfl (by kernel_rfl) rfl (by decide))⟩
def aa9:TI:=.slice 24 1 24 [.nil]
theorem XG:bM Tryz.prog 197 aa9:=⟨by kernel_rfl,(aA (v:=.slice none 0 0) (by kernel_rfl) rfl (by kernel_rfl) rfl (by decide)),(aA (v:=.slice none 0 0) (by kernel_rfl) rfl (by kernel_rfl) rfl (by decide)),bJ (by kernel_rfl)⟩
def aba:TI:=.struct [(0,1,false)] [.nil]
theorem XH:bM Tryz.prog 198 aba:=⟨aP (by kernel_rfl),(aA (v:=.agg #[.slice none 0 0]) (by kernel_rfl) rfl (by kernel_rfl) rfl (by decide))⟩
def abb:TI:=.struct [(0,1,false)] [.nil]
theorem XI:bM Tryz.prog 199 abb:=⟨aP (by kernel_rfl),(aA (v:=.agg #[.slice none 0 0]) (by kernel_rfl) rfl (by kernel_rfl) rfl (by decide))⟩
def abc:TI:=.slice 52 4 64 [.bool false, .nil, .bool false, .nil]
theorem XJ:bM Tryz.prog 218 abc:=⟨by kernel_rfl,(aA (v:=.slice none 0 0) (by kernel_rfl) rfl (by kernel_rfl) rfl (by decide)),(aA (v:=.agg #[.bool false, .slice none 0 0, .bool false, .slice none 0 0]) (by kernel_rfl) rfl (by kernel_rfl) rfl (by decide)),bJ (by kernel_rfl)⟩
def abd:TI:=.slice 197 1 24 [.nil]
theorem XK:bM Tryz.prog 269 abd:=⟨by kernel_rfl,(aA (v:=.slice none 0 0) (by kernel_rfl) rfl (by kernel_rfl) rfl (by decide)),(aA (v:=.slice none 0 0) (by kernel_rfl) rfl (by kernel_rfl) rfl (by decide)),bJ (by kernel_rfl)⟩
def abe:TI:=.int .u8
theorem XL:bM Tryz.prog 298 abe:=⟨by kernel_rfl,(aA (v:=.int .u8 0) (by kernel_rfl) rfl (by kernel_rfl) rfl (by decide))⟩
def abf:TI:=.int .u8
theorem XM:bM Tryz.prog 299 abf:=⟨by kernel_rfl,(aA (v:=.int .u8 0) (by kernel_rfl) rfl (by kernel_rfl) rfl (by decide))⟩
def abg:TI:=.int .i32
theorem XN:bM Tryz.prog 302 abg:=⟨by kernel_rfl,(aA (v:=.int .i32 0) (by kernel_rfl) rfl (by kernel_rfl) rfl (by decide))⟩
def abh:TI:=.int .i32
theorem XO:bM Tryz.prog 303 abh:=⟨by kernel_rfl,(aA (v:=.int .i32 0) (by kernel_rfl) rfl (by kernel_rfl) rfl (by decide))⟩
def tyF:TypeId→TI
  | 2=>ti2
  | 3=>ti3
  | 4=>ti4
  | 5=>ti5
  | 6=>ti6
  | 7=>ti7
  | 8=>ti8
  | 9=>ti9
  | 10=>ai6
  | 11=>ai7
  | 12=>ai8
  | 13=>ai9
  | 14=>aja
  | 21=>ajb
  | 22=>ajc
  | 23=>ajd
  | 24=>aje
  | 26=>ajf
  | 27=>ajg
  | 28=>ajh
  | 29=>aji
  | 30=>ajj
  | 31=>ajk
  | 36=>ajl
  | 37=>ajm
  | 38=>ajn
  | 41=>ajo
  | 42=>ajp
  | 46=>ajq
  | 47=>ajr
  | 48=>ajs
  | 49=>ajt
  | 51=>aju
  | 52=>ajv
  | 53=>ajw
  | 54=>ajx
  | 62=>ajy
  | 63=>ajz
  | 68=>ajA
  | 69=>ajB
  | 70=>ajC
  | 71=>ajD
  | 72=>ajE
  | 73=>ajF
  | 75=>ajG
  | 76=>ajH
  | 77=>ajI
  | 78=>ajJ
  | 79=>ajK
  | 80=>ajL
  | 81=>ajM
  | 82=>ajN
  | 83=>ajO
  | 84=>ajP
  | 85=>ajQ
  | 93=>ajR
  | 94=>ajS
  | 95=>ajT
  | 102=>aaW
  | 110=>aaX
  | 114=>aaY
  | 115=>aaZ
  | 152=>aa0
  | 153=>aa1
  | 154=>aa2
  | 155=>aa3
  | 178=>aa4
  | 179=>aa5
  | 182=>aa6
  | 185=>aa7
  | 186=>aa8
  | 197=>aa9
  | 198=>aba
  | 199=>abb
  | 218=>abc
  | 269=>abd
  | 298=>abe
  | 299=>abf
  | 302=>abg
  | 303=>abh
  | _ => .other
theorem an0(t:TypeId):bM Tryz.prog t (tyF t):=by
  unfold tyF
  split
  · exact aiY
  · exact aiZ
  · exact ai0
  · exact ai1
  · exact ai2
  · exact ai3
  · exact ai4
  · exact ai5
  · exact adm
  · exact adn
  · exact ado
  · exact adp
  · exact adq
  · exact adr
  · exact ads
  · exact adt
  · exact adu
  · exact adw
  · exact adx
  · exact ady
  · exact adz
  · exact adA
  · exact adB
  · exact adC
  · exact adD
  · exact adE
  · exact adF
  · exact adG
  · exact adH
  · exact adI
  · exact adJ
  · exact adK
  · exact adL
  · exact adM
  · exact adN
  · exact adO
  · exact adP
  · exact adQ
  · exact adR
  · exact adS
  · exact adT
  · exact adU
  · exact adV
  · exact adW
  · exact adX
  · exact adY
  · exact adZ
  · exact ad1
  · exact ad2
  · exact ad3
  · exact ad4
  · exact ad5
  · exact ad6
  · exact ad7
  · exact ad8
  · exact ad9
  · exact aea
  · exact aeb
  · exact W3
  · exact W4
  · exact W5
  · exact W6
  · exact W7
  · exact W8
  · exact W9
  · exact XA
  · exact XB
  · exact XC
  · exact XD
  · exact XE
  · exact XF
  · exact XG
  · exact XH
  · exact XI
  · exact XJ
  · exact XK
  · exact XL
  · exact XM
  · exact XN
  · exact XO
  · trivial
theorem XP:Tryz.prog.follows .mixedOrders=true:=by kernel_rfl
def G3(g:FuncId):Bool:=g==72 || g==184 || g==270 || g==271
noncomputable def env:Env:=⟨Tryz.prog,tyF,an0,XP,G3⟩
@[simp] theorem amc:env.writes=G3:=rfl
attribute [simp] G3
@[simp] theorem ate:env.ty 2 = .int .i64:=rfl
@[simp] theorem an1:env.ty 3 = .int .i64:=rfl
@[simp] theorem atf:env.ty 4 = .bool:=rfl
@[simp] theorem ajU:env.ty 5 = .int .u8:=rfl
@[simp] theorem atg:env.ty 6 = .int .u8:=rfl
@[simp] theorem ath:env.ty 7 = .struct [(0,1,false),(1,1,false),(2,1,false),(3,1,false)] [.int .i64 0, .int .i64 0, .bool false, .int .u8 0]:=rfl
@[simp] theorem ati:env.ty 8 = .struct [(0,1,false),(1,1,false),(2,1,false),(3,1,false)] [.int .i64 0, .int .i64 0, .bool false, .int .u8 0]:=rfl
@[simp] theorem atj:env.ty 9 = .str:=rfl
@[simp] theorem aqN:env.ty 10 = .str:=rfl
@[simp] theorem aqO:env.ty 11 = .str:=rfl
@[simp] theorem aqP:env.ty 12 = .int .u64:=rfl
@[simp] theorem aqQ:env.ty 13 = .struct [(0,1,false),(1,1,false)] [.str ⟨#[]⟩, .int .u64 0]:=rfl
@[simp] theorem aqR:env.ty 14 = .struct [(0,1,false),(1,1,false)] [.str ⟨#[]⟩, .int .u64 0]:=rfl
@[simp] theorem aqS:env.ty 21 = .int .i32:=rfl
@[simp] theorem aqT:env.ty 22 = .slice 3 1 8 [.int .i64 0]:=rfl
@[simp] theorem aqU:env.ty 23 = .slice 38 2 32 [.bool false, .nil]:=rfl
@[simp] theorem aqV:env.ty 24 = .slice 38 2 32 [.bool false, .nil]:=rfl
@[simp] theorem aqW:env.ty 26 = .slice 31 4 64 [.nil, .bool false, .nil, .bool false]:=rfl
@[simp] theorem aqX:env.ty 27 = .slice 3 1 8 [.int .i64 0]:=rfl
@[simp] theorem aqY:env.ty 28 = .struct [(0,1,false),(1,1,false)] [.nil, .bool false]:=rfl
@[simp] theorem aqZ:env.ty 29 = .struct [(0,1,false),(1,1,false)] [.nil, .bool false]:=rfl
@[simp] theorem aq0:env.ty 30 = .struct [(0,2,true),(2,2,true)] [.nil, .bool false, .nil, .bool false]:=rfl
@[simp] theorem aq1:env.ty 31 = .struct [(0,2,true),(2,2,true)] [.nil, .bool false, .nil, .bool false]:=rfl
@[simp] theorem aq2:env.ty 36 = .slice 185 1 4 [.int .u32 0]:=rfl
@[simp] theorem aq3:env.ty 37 = .struct [(0,1,false),(1,1,false)] [.bool false, .nil]:=rfl
@[simp] theorem aq4:env.ty 38 = .struct [(0,1,false),(1,1,false)] [.bool false, .nil]:=rfl
@[simp] theorem aq5:env.ty 41 = .slice 54 9 152 [.nil, .bool false, .nil, .bool false, .nil, .bool false, .nil, .bool false, .nil]:=rfl
@[simp] theorem aq6:env.ty 42 = .int .i64:=rfl
@[simp] theorem aq7:env.ty 46 = .slice 31 4 64 [.nil, .bool false, .nil, .bool false]:=rfl
@[simp] theorem aq8:env.ty 47 = .slice 46 1 24 [.nil]:=rfl
@[simp] theorem aq9:env.ty 48 = .struct [(0,1,false),(1,1,false),(2,4,true),(6,4,true)] [.nil, .nil, .nil, .bool false, .nil, .bool false, .nil, .bool false, .nil, .bool false]:=rfl
@[simp] theorem ara:env.ty 49 = .struct [(0,1,false),(1,1,false),(2,4,true),(6,4,true)] [.nil, .nil, .nil, .bool false, .nil, .bool false, .nil, .bool false, .nil, .bool false]:=rfl
@[simp] theorem arb:env.ty 51 = .struct [(0,2,true),(2,2,true)] [.bool false, .nil, .bool false, .nil]:=rfl
@[simp] theorem arc:env.ty 52 = .struct [(0,2,true),(2,2,true)] [.bool false, .nil, .bool false, .nil]:=rfl
@[simp] theorem ard:env.ty 53 = .struct [(0,1,false),(1,4,true),(5,4,true)] [.nil, .bool false, .nil, .bool false, .nil, .bool false, .nil, .bool false, .nil]:=rfl
@[simp] theorem arf:env.ty 54 = .struct [(0,1,false),(1,4,true),(5,4,true)] [.nil, .bool false, .nil, .bool false, .nil, .bool false, .nil, .bool false, .nil]:=rfl
@[simp] theorem arh:env.ty 62 = .slice 73 5 88 [.nil, .nil, .bool false, .nil, .int .i64 0]:=rfl
@[simp] theorem ari:env.ty 63 = .slice 155 7 136 [.nil, .nil, .nil, .nil, .bool false, .nil, .int .i64 0]:=rfl
@[simp] theorem arj:env.ty 68 = .fnT:=rfl
@[simp] theorem ark:env.ty 69 = .slice 68 1 8 [.undef]:=rfl
@[simp] theorem arl:env.ty 70 = .struct [(0,1,false),(1,1,false),(2,2,true)] [.nil, .nil, .bool false, .nil]:=rfl
@[simp] theorem arn:env.ty 71 = .struct [(0,1,false),(1,1,false),(2,2,true)] [.nil, .nil, .bool false, .nil]:=rfl
@[simp] theorem aro:env.ty 72 = .struct [(0,4,true),(4,1,false)] [.nil, .nil, .bool false, .nil, .int .i64 0]:=rfl
@[simp] theorem arp:env.ty 73 = .struct [(0,4,true),(4,1,false)] [.nil, .nil, .bool false, .nil, .int .i64 0]:=rfl
@[simp] theorem arq:env.ty 75 = .slice 78 5 40 [.int .i64 0, .int .i64 0, .int .i64 0, .int .i64 0, .int .i64 0]:=rfl
@[simp] theorem ars:env.ty 76 = .arr 3 4 1 [.int .i64 0, .int .i64 0, .int .i64 0, .int .i64 0]:=rfl
@[simp] theorem art:env.ty 77 = .struct [(0,1,false),(1,4,true)] [.int .i64 0, .int .i64 0, .int .i64 0, .int .i64 0, .int .i64 0]:=rfl
@[simp] theorem aru:env.ty 78 = .struct [(0,1,false),(1,4,true)] [.int .i64 0, .int .i64 0, .int .i64 0, .int .i64 0, .int .i64 0]:=rfl
@[simp] theorem arv:env.ty 79 = .slice 82 7 72 [.int .i64 0, .int .i64 0, .int .i64 0, .int .i64 0, .int .i64 0, .nil, .int .i64 0]:=rfl
@[simp] theorem arw:env.ty 80 = .slice 85 9 104 [.int .i64 0, .int .i64 0, .int .i64 0, .int .i64 0, .int .i64 0, .nil, .int .i64 0, .nil, .bool false]:=rfl
@[simp] theorem arx:env.ty 81 = .struct [(0,5,true),(5,1,false),(6,1,false)] [.int .i64 0, .int .i64 0, .int .i64 0, .int .i64 0, .int .i64 0, .nil, .int .i64 0]:=rfl
@[simp] theorem ary:env.ty 82 = .struct [(0,5,true),(5,1,false),(6,1,false)] [.int .i64 0, .int .i64 0, .int .i64 0, .int .i64 0, .int .i64 0, .nil, .int .i64 0]:=rfl
@[simp] theorem arz:env.ty 83 = .slice 49 10 176 [.nil, .nil, .nil, .bool false, .nil, .bool false, .nil, .bool false, .nil, .bool false]:=rfl
@[simp] theorem arA:env.ty 84 = .struct [(0,5,true),(5,1,false),(6,1,false),(7,1,false),(8,1,false)] [.int .i64 0, .int .i64 0, .int .i64 0, .int .i64 0, .int .i64 0, .nil, .int .i64 0, .nil, .bool false]:=rfl
@[simp] theorem arB:env.ty 85 = .struct [(0,5,true),(5,1,false),(6,1,false),(7,1,false),(8,1,false)] [.int .i64 0, .int .i64 0, .int .i64 0, .int .i64 0, .int .i64 0, .nil, .int .i64 0, .nil, .bool false]:=rfl
@[simp] theorem arC:env.ty 93 = .slice 179 18 232 [.int .i64 0, .int .i64 0, .int .i64 0, .int .i64 0, .int .i64 0, .nil, .int .i64 0, .bool false, .bool false, .nil, .bool false, .nil, .bool false, .nil, .bool false, .nil, .bool false, .nil]:=rfl
@[simp] theorem arD:env.ty 94 = .struct [(0,1,false),(1,9,true),(10,1,false),(11,1,false)] [.bool false, .nil, .bool false, .nil, .bool false, .nil, .bool false, .nil, .bool false, .nil, .nil, .int .i64 0]:=rfl
@[simp] theorem arE:env.ty 95 = .struct [(0,1,false),(1,9,true),(10,1,false),(11,1,false)] [.bool false, .nil, .bool false, .nil, .bool false, .nil, .bool false, .nil, .bool false, .nil, .nil, .int .i64 0]:=rfl
@[simp] theorem an2:env.ty 102 = .slice 22 1 24 [.nil]:=rfl
@[simp] theorem an3:env.ty 110 = .slice 115 14 192 [.int .i64 0, .int .i64 0, .int .i64 0, .int .i64 0, .int .i64 0, .nil, .bool false, .nil, .bool false, .nil, .bool false, .nil, .bool false, .nil]:=rfl
@[simp] theorem an4:env.ty 114 = .struct [(0,5,true),(5,9,true)] [.int .i64 0, .int .i64 0, .int .i64 0, .int .i64 0, .int .i64 0, .nil, .bool false, .nil, .bool false, .nil, .bool false, .nil, .bool false, .nil]:=rfl
@[simp] theorem an5:env.ty 115 = .struct [(0,5,true),(5,9,true)] [.int .i64 0, .int .i64 0, .int .i64 0, .int .i64 0, .int .i64 0, .nil, .bool false, .nil, .bool false, .nil, .bool false, .nil, .bool false, .nil]:=rfl
@[simp] theorem an6:env.ty 152 = .struct [(0,1,false),(1,1,false),(2,4,true)] [.nil, .nil, .nil, .nil, .bool false, .nil]:=rfl
@[simp] theorem an7:env.ty 153 = .struct [(0,1,false),(1,1,false),(2,4,true)] [.nil, .nil, .nil, .nil, .bool false, .nil]:=rfl
@[simp] theorem an8:env.ty 154 = .struct [(0,6,true),(6,1,false)] [.nil, .nil, .nil, .nil, .bool false, .nil, .int .i64 0]:=rfl
@[simp] theorem an9:env.ty 155 = .struct [(0,6,true),(6,1,false)] [.nil, .nil, .nil, .nil, .bool false, .nil, .int .i64 0]:=rfl
@[simp] theorem aoa:env.ty 178 = .struct [(0,7,true),(7,1,false),(8,1,false),(9,9,true)] [.int .i64 0, .int .i64 0, .int .i64 0, .int .i64 0, .int .i64 0, .nil, .int .i64 0, .bool false, .bool false, .nil, .bool false, .nil, .bool false, .nil, .bool false, .nil, .bool false, .nil]:=rfl
@[simp] theorem aob:env.ty 179 = .struct [(0,7,true),(7,1,false),(8,1,false),(9,9,true)] [.int .i64 0, .int .i64 0, .int .i64 0, .int .i64 0, .int .i64 0, .nil, .int .i64 0, .bool false, .bool false, .nil, .bool false, .nil, .bool false, .nil, .bool false, .nil, .bool false, .nil]:=rfl
@[simp] theorem aoc:env.ty 182 = .int .u64:=rfl
@[simp] theorem aec:env.ty 185 = .int .u32:=rfl
@[simp] theorem aod:env.ty 186 = .int .u64:=rfl
@[simp] theorem aoe:env.ty 197 = .slice 24 1 24 [.nil]:=rfl
@[simp] theorem aof:env.ty 198 = .struct [(0,1,false)] [.nil]:=rfl
@[simp] theorem aog:env.ty 199 = .struct [(0,1,false)] [.nil]:=rfl
@[simp] theorem aoh:env.ty 218 = .slice 52 4 64 [.bool false, .nil, .bool false, .nil]:=rfl
@[simp] theorem aoi:env.ty 269 = .slice 197 1 24 [.nil]:=rfl
@[simp] theorem aoj:env.ty 298 = .int .u8:=rfl
@[simp] theorem aok:env.ty 299 = .int .u8:=rfl
@[simp] theorem aol:env.ty 302 = .int .i32:=rfl
@[simp] theorem aom:env.ty 303 = .int .i32:=rfl
end Go.Proofs.YtiobceocpabjdaaGreat
