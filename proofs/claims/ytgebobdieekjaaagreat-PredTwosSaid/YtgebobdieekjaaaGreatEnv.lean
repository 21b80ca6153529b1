/- The types of the seat, as the pure machine wants them: closed facts, each by the kernel. -/
import Derived.Test.YtgebobdieekjaaaGreatProg
import Derived.Test.YtgebobdieekjaaaGreatMd
import Derived.KernelRfl
namespace Go.Proofs.YtgebobdieekjaaaGreat
open Go Pm
def ti2 : TI := .int .i64
theorem tyOK2 : TyOK Tryz.prog 2 ti2 := ⟨by kernel_rfl, (zeroOK_of (v := .int .i64 0) (by kernel_rfl) rfl (by kernel_rfl) rfl (by decide))⟩
def ti3 : TI := .int .i64
theorem tyOK3 : TyOK Tryz.prog 3 ti3 := ⟨by kernel_rfl, (zeroOK_of (v := .int .i64 0) (by kernel_rfl) rfl (by kernel_rfl) rfl (by decide))⟩
def ti4 : TI := .bool
theorem tyOK4 : TyOK Tryz.prog 4 ti4 := ⟨by kernel_rfl, (zeroOK_of (v := .bool false) (by kernel_rfl) rfl (by kernel_rfl) rfl (by decide))⟩
def ti5 : TI := .int .u8
theorem tyOK5 : TyOK Tryz.prog 5 ti5 := ⟨by kernel_rfl, (zeroOK_of (v := .int .u8 0) (by kernel_rfl) rfl (by kernel_rfl) rfl (by decide))⟩
def ti6 : TI := .int .u8
theorem tyOK6 : TyOK Tryz.prog 6 ti6 := ⟨by kernel_rfl, (zeroOK_of (v := .int .u8 0) (by kernel_rfl) rfl (by kernel_rfl) rfl (by decide))⟩
def ti7 : TI := .struct [(0, 1, false), (1, 1, false), (2, 1, false), (3, 1, false)] [.int .i64 0, .int .i64 0, .bool false, .int .u8 0]
theorem tyOK7 : TyOK Tryz.prog 7 ti7 := ⟨structOK_of (by kernel_rfl), (zeroOK_of (v := .agg #[.int .i64 0, .int .i64 0, .bool false, .int .u8 0]) (by kernel_rfl) rfl (by kernel_rfl) rfl (by decide))⟩
def ti8 : TI := .struct [(0, 1, false), (1, 1, false), (2, 1, false), (3, 1, false)] [.int .i64 0, .int .i64 0, .bool false, .int .u8 0]
theorem tyOK8 : TyOK Tryz.prog 8 ti8 := ⟨structOK_of (by kernel_rfl), (zeroOK_of (v := .agg #[.int .i64 0, .int .i64 0, .bool false, .int .u8 0]) (by kernel_rfl) rfl (by kernel_rfl) rfl (by decide))⟩
def ti9 : TI := .str
theorem tyOK9 : TyOK Tryz.prog 9 ti9 := ⟨by kernel_rfl, (zeroOK_of (v := .string ⟨#[]⟩) (by kernel_rfl) rfl (by kernel_rfl) rfl (by decide))⟩
def ti10 : TI := .str
theorem tyOK10 : TyOK Tryz.prog 10 ti10 := ⟨by kernel_rfl, (zeroOK_of (v := .string ⟨#[]⟩) (by kernel_rfl) rfl (by kernel_rfl) rfl (by decide))⟩
def ti11 : TI := .str
theorem tyOK11 : TyOK Tryz.prog 11 ti11 := ⟨by kernel_rfl, (zeroOK_of (v := .string ⟨#[]⟩) (by kernel_rfl) rfl (by kernel_rfl) rfl (by decide))⟩
def ti12 : TI := .int .u64
theorem tyOK12 : TyOK Tryz.prog 12 ti12 := ⟨by kernel_rfl, (zeroOK_of (v := .int .u64 0) (by kernel_rfl) rfl (by kernel_rfl) rfl (by decide))⟩
def ti13 : TI := .struct [(0, 1, false), (1, 1, false)] [.str ⟨#[]⟩, .int .u64 0]
theorem tyOK13 : TyOK Tryz.prog 13 ti13 := ⟨structOK_of (by kernel_rfl), (zeroOK_of (v := .agg #[.string ⟨#[]⟩, .int .u64 0]) (by kernel_rfl) rfl (by kernel_rfl) rfl (by decide))⟩
def ti14 : TI := .struct [(0, 1, false), (1, 1, false)] [.str ⟨#[]⟩, .int .u64 0]
theorem tyOK14 : TyOK Tryz.prog 14 ti14 := ⟨structOK_of (by kernel_rfl), (zeroOK_of (v := .agg #[.string ⟨#[]⟩, .int .u64 0]) (by kernel_rfl) rfl (by kernel_rfl) rfl (by decide))⟩
def ti21 : TI := .int .i32
theorem tyOK21 : TyOK Tryz.prog 21 ti21 := ⟨by kernel_rfl, (zeroOK_of (v := .int .i32 0) (by kernel_rfl) rfl (by kernel_rfl) rfl (by decide))⟩
def ti22 : TI := .slice 3 1 8 [.int .i64 0]
theorem tyOK22 : TyOK Tryz.prog 22 ti22 := ⟨by kernel_rfl, (zeroOK_of (v := .slice none 0 0) (by kernel_rfl) rfl (by kernel_rfl) rfl (by decide)), (zeroOK_of (v := .int .i64 0) (by kernel_rfl) rfl (by kernel_rfl) rfl (by decide)), bytesOK_of (by kernel_rfl)⟩
def ti23 : TI := .slice 50 4 64 [.nil, .bool false, .nil, .bool false]
theorem tyOK23 : TyOK Tryz.prog 23 ti23 := ⟨by kernel_rfl, (zeroOK_of (v := .slice none 0 0) (by kernel_rfl) rfl (by kernel_rfl) rfl (by decide)), (zeroOK_of (v := .agg #[.slice none 0 0, .bool false, .slice none 0 0, .bool false]) (by kernel_rfl) rfl (by kernel_rfl) rfl (by decide)), bytesOK_of (by kernel_rfl)⟩
def ti24 : TI := .slice 50 4 64 [.nil, .bool false, .nil, .bool false]
theorem tyOK24 : TyOK Tryz.prog 24 ti24 := ⟨by kernel_rfl, (zeroOK_of (v := .slice none 0 0) (by kernel_rfl) rfl (by kernel_rfl) rfl (by decide)), (zeroOK_of (v := .agg #[.slice none 0 0, .bool false, .slice none 0 0, .bool false]) (by kernel_rfl) rfl (by kernel_rfl) rfl (by decide)), bytesOK_of (by kernel_rfl)⟩
def ti26 : TI := .slice 60 2 32 [.bool false, .nil]
theorem tyOK26 : TyOK Tryz.prog 26 ti26 := ⟨by kernel_rfl, (zeroOK_of (v := .slice none 0 0) (by kernel_rfl) rfl (by kernel_rfl) rfl (by decide)), (zeroOK_of (v := .agg #[.bool false, .slice none 0 0]) (by kernel_rfl) rfl (by kernel_rfl) rfl (by decide)), bytesOK_of (by kernel_rfl)⟩
def ti27 : TI := .slice 60 2 32 [.bool false, .nil]
theorem tyOK27 : TyOK Tryz.prog 27 ti27 := ⟨by kernel_rfl, (zeroOK_of (v := .slice none 0 0) (by kernel_rfl) rfl (by kernel_rfl) rfl (by decide)), (zeroOK_of (v := .agg #[.bool false, .slice none 0 0]) (by kernel_rfl) rfl (by kernel_rfl) rfl (by decide)), bytesOK_of (by kernel_rfl)⟩
def ti29 : TI := .slice 24 1 24 [.nil]
theorem tyOK29 : TyOK Tryz.prog 29 ti29 := ⟨by kernel_rfl, (zeroOK_of (v := .slice none 0 0) (by kernel_rfl) rfl (by kernel_rfl) rfl (by decide)), (zeroOK_of (v := .slice none 0 0) (by kernel_rfl) rfl (by kernel_rfl) rfl (by decide)), bytesOK_of (by kernel_rfl)⟩
def ti31 : TI := .slice 27 1 24 [.nil]
theorem tyOK31 : TyOK Tryz.prog 31 ti31 := ⟨by kernel_rfl, (zeroOK_of (v := .slice none 0 0) (by kernel_rfl) rfl (by kernel_rfl) rfl (by decide)), (zeroOK_of (v := .slice none 0 0) (by kernel_rfl) rfl (by kernel_rfl) rfl (by decide)), bytesOK_of (by kernel_rfl)⟩
def ti46 : TI := .slice 3 1 8 [.int .i64 0]
theorem tyOK46 : TyOK Tryz.prog 46 ti46 := ⟨by kernel_rfl, (zeroOK_of (v := .slice none 0 0) (by kernel_rfl) rfl (by kernel_rfl) rfl (by decide)), (zeroOK_of (v := .int .i64 0) (by kernel_rfl) rfl (by kernel_rfl) rfl (by decide)), bytesOK_of (by kernel_rfl)⟩
def ti47 : TI := .struct [(0, 1, false), (1, 1, false)] [.nil, .bool false]
theorem tyOK47 : TyOK Tryz.prog 47 ti47 := ⟨structOK_of (by kernel_rfl), (zeroOK_of (v := .agg #[.slice none 0 0, .bool false]) (by kernel_rfl) rfl (by kernel_rfl) rfl (by decide))⟩
def ti48 : TI := .struct [(0, 1, false), (1, 1, false)] [.nil, .bool false]
theorem tyOK48 : TyOK Tryz.prog 48 ti48 := ⟨structOK_of (by kernel_rfl), (zeroOK_of (v := .agg #[.slice none 0 0, .bool false]) (by kernel_rfl) rfl (by kernel_rfl) rfl (by decide))⟩
def ti49 : TI := .struct [(0, 2, true), (2, 2, true)] [.nil, .bool false, .nil, .bool false]
theorem tyOK49 : TyOK Tryz.prog 49 ti49 := ⟨structOK_of (by kernel_rfl), (zeroOK_of (v := .agg #[.slice none 0 0, .bool false, .slice none 0 0, .bool false]) (by kernel_rfl) rfl (by kernel_rfl) rfl (by decide))⟩
def ti50 : TI := .struct [(0, 2, true), (2, 2, true)] [.nil, .bool false, .nil, .bool false]
theorem tyOK50 : TyOK Tryz.prog 50 ti50 := ⟨structOK_of (by kernel_rfl), (zeroOK_of (v := .agg #[.slice none 0 0, .bool false, .slice none 0 0, .bool false]) (by kernel_rfl) rfl (by kernel_rfl) rfl (by decide))⟩
def ti58 : TI := .slice 155 1 4 [.int .u32 0]
theorem tyOK58 : TyOK Tryz.prog 58 ti58 := ⟨by kernel_rfl, (zeroOK_of (v := .slice none 0 0) (by kernel_rfl) rfl (by kernel_rfl) rfl (by decide)), (zeroOK_of (v := .int .u32 0) (by kernel_rfl) rfl (by kernel_rfl) rfl (by decide)), bytesOK_of (by kernel_rfl)⟩
def ti59 : TI := .struct [(0, 1, false), (1, 1, false)] [.bool false, .nil]
theorem tyOK59 : TyOK Tryz.prog 59 ti59 := ⟨structOK_of (by kernel_rfl), (zeroOK_of (v := .agg #[.bool false, .slice none 0 0]) (by kernel_rfl) rfl (by kernel_rfl) rfl (by decide))⟩
def ti60 : TI := .struct [(0, 1, false), (1, 1, false)] [.bool false, .nil]
theorem tyOK60 : TyOK Tryz.prog 60 ti60 := ⟨structOK_of (by kernel_rfl), (zeroOK_of (v := .agg #[.bool false, .slice none 0 0]) (by kernel_rfl) rfl (by kernel_rfl) rfl (by decide))⟩
def ti62 : TI := .slice 119 5 88 [.nil, .nil, .bool false, .nil, .int .i64 0]
theorem tyOK62 : TyOK Tryz.prog 62 ti62 := ⟨by kernel_rfl, (zeroOK_of (v := .slice none 0 0) (by kernel_rfl) rfl (by kernel_rfl) rfl (by decide)), (zeroOK_of (v := .agg #[.slice none 0 0, .slice none 0 0, .bool false, .slice none 0 0, .int .i64 0]) (by kernel_rfl) rfl (by kernel_rfl) rfl (by decide)), bytesOK_of (by kernel_rfl)⟩
def ti63 : TI := .struct [(0, 1, false), (1, 1, false), (2, 2, true)] [.nil, .nil, .bool false, .nil]
theorem tyOK63 : TyOK Tryz.prog 63 ti63 := ⟨structOK_of (by kernel_rfl), (zeroOK_of (v := .agg #[.slice none 0 0, .slice none 0 0, .bool false, .slice none 0 0]) (by kernel_rfl) rfl (by kernel_rfl) rfl (by decide))⟩
def ti64 : TI := .struct [(0, 1, false), (1, 1, false), (2, 2, true)] [.nil, .nil, .bool false, .nil]
theorem tyOK64 : TyOK Tryz.prog 64 ti64 := ⟨structOK_of (by kernel_rfl), (zeroOK_of (v := .agg #[.slice none 0 0, .slice none 0 0, .bool false, .slice none 0 0]) (by kernel_rfl) rfl (by kernel_rfl) rfl (by decide))⟩
def ti65 : TI := .arr 64 4 4 [.nil, .nil, .bool false, .nil, .nil, .nil, .bool false, .nil, .nil, .nil, .bool false, .nil, .nil, .nil, .bool false, .nil]
theorem tyOK65 : TyOK Tryz.prog 65 ti65 := ⟨by kernel_rfl, (zeroOK_of (v := .agg #[.slice none 0 0, .slice none 0 0, .bool false, .slice none 0 0, .slice none 0 0, .slice none 0 0, .bool false, .slice none 0 0, .slice none 0 0, .slice none 0 0, .bool false, .slice none 0 0, .slice none 0 0, .slice none 0 0, .bool false, .slice none 0 0]) (by kernel_rfl) rfl (by kernel_rfl) rfl (by decide)), sizeOK_of (by kernel_rfl)⟩
def ti66 : TI := .struct [(0, 1, false), (1, 1, false), (2, 4, true)] [.nil, .nil, .nil, .nil, .bool false, .nil]
theorem tyOK66 : TyOK Tryz.prog 66 ti66 := ⟨structOK_of (by kernel_rfl), (zeroOK_of (v := .agg #[.slice none 0 0, .slice none 0 0, .slice none 0 0, .slice none 0 0, .bool false, .slice none 0 0]) (by kernel_rfl) rfl (by kernel_rfl) rfl (by decide))⟩
def ti67 : TI := .struct [(0, 1, false), (1, 1, false), (2, 4, true)] [.nil, .nil, .nil, .nil, .bool false, .nil]
theorem tyOK67 : TyOK Tryz.prog 67 ti67 := ⟨structOK_of (by kernel_rfl), (zeroOK_of (v := .agg #[.slice none 0 0, .slice none 0 0, .slice none 0 0, .slice none 0 0, .bool false, .slice none 0 0]) (by kernel_rfl) rfl (by kernel_rfl) rfl (by decide))⟩
def ti68 : TI := .arr 67 4 6 [.nil, .nil, .nil, .nil, .bool false, .nil, .nil, .nil, .nil, .nil, .bool false, .nil, .nil, .nil, .nil, .nil, .bool false, .nil, .nil, .nil, .nil, .nil, .bool false, .nil]
theorem tyOK68 : TyOK Tryz.prog 68 ti68 := ⟨by kernel_rfl, (zeroOK_of (v := .agg #[.slice none 0 0, .slice none 0 0, .slice none 0 0, .slice none 0 0, .bool false, .slice none 0 0, .slice none 0 0, .slice none 0 0, .slice none 0 0, .slice none 0 0, .bool false, .slice none 0 0, .slice none 0 0, .slice none 0 0, .slice none 0 0, .slice none 0 0, .bool false, .slice none 0 0, .slice none 0 0, .slice none 0 0, .slice none 0 0, .slice none 0 0, .bool false, .slice none 0 0]) (by kernel_rfl) rfl (by kernel_rfl) rfl (by decide)), sizeOK_of (by kernel_rfl)⟩
def ti76 : TI := .arr 3 2 1 [.int .i64 0, .int .i64 0]
theorem tyOK76 : TyOK Tryz.prog 76 ti76 := ⟨by kernel_rfl, (zeroOK_of (v := .agg #[.int .i64 0, .int .i64 0]) (by kernel_rfl) rfl (by kernel_rfl) rfl (by decide)), sizeOK_of (by kernel_rfl)⟩
def ti77 : TI := .slice 76 2 16 [.int .i64 0, .int .i64 0]
theorem tyOK77 : TyOK Tryz.prog 77 ti77 := ⟨by kernel_rfl, (zeroOK_of (v := .slice none 0 0) (by kernel_rfl) rfl (by kernel_rfl) rfl (by decide)), (zeroOK_of (v := .agg #[.int .i64 0, .int .i64 0]) (by kernel_rfl) rfl (by kernel_rfl) rfl (by decide)), bytesOK_of (by kernel_rfl)⟩
def ti80 : TI := .struct [(0, 1, false), (1, 1, false), (2, 4, true), (6, 4, true)] [.nil, .nil, .nil, .bool false, .nil, .bool false, .nil, .bool false, .nil, .bool false]
theorem tyOK80 : TyOK Tryz.prog 80 ti80 := ⟨structOK_of (by kernel_rfl), (zeroOK_of (v := .agg #[.slice none 0 0, .slice none 0 0, .slice none 0 0, .bool false, .slice none 0 0, .bool false, .slice none 0 0, .bool false, .slice none 0 0, .bool false]) (by kernel_rfl) rfl (by kernel_rfl) rfl (by decide))⟩
def ti81 : TI := .struct [(0, 1, false), (1, 1, false), (2, 4, true), (6, 4, true)] [.nil, .nil, .nil, .bool false, .nil, .bool false, .nil, .bool false, .nil, .bool false]
theorem tyOK81 : TyOK Tryz.prog 81 ti81 := ⟨structOK_of (by kernel_rfl), (zeroOK_of (v := .agg #[.slice none 0 0, .slice none 0 0, .slice none 0 0, .bool false, .slice none 0 0, .bool false, .slice none 0 0, .bool false, .slice none 0 0, .bool false]) (by kernel_rfl) rfl (by kernel_rfl) rfl (by decide))⟩
def ti88 : TI := .int .i64
theorem tyOK88 : TyOK Tryz.prog 88 ti88 := ⟨by kernel_rfl, (zeroOK_of (v := .int .i64 0) (by kernel_rfl) rfl (by kernel_rfl) rfl (by decide))⟩
def ti118 : TI := .struct [(0, 4, true), (4, 1, false)] [.nil, .nil, .bool false, .nil, .int .i64 0]
theorem tyOK118 : TyOK Tryz.prog 118 ti118 := ⟨structOK_of (by kernel_rfl), (zeroOK_of (v := .agg #[.slice none 0 0, .slice none 0 0, .bool false, .slice none 0 0, .int .i64 0]) (by kernel_rfl) rfl (by kernel_rfl) rfl (by decide))⟩
def ti119 : TI := .struct [(0, 4, true), (4, 1, false)] [.nil, .nil, .bool false, .nil, .int .i64 0]
theorem tyOK119 : TyOK Tryz.prog 119 ti119 := ⟨structOK_of (by kernel_rfl), (zeroOK_of (v := .agg #[.slice none 0 0, .slice none 0 0, .bool false, .slice none 0 0, .int .i64 0]) (by kernel_rfl) rfl (by kernel_rfl) rfl (by decide))⟩
def ti123 : TI := .slice 29 1 24 [.nil]
theorem tyOK123 : TyOK Tryz.prog 123 ti123 := ⟨by kernel_rfl, (zeroOK_of (v := .slice none 0 0) (by kernel_rfl) rfl (by kernel_rfl) rfl (by decide)), (zeroOK_of (v := .slice none 0 0) (by kernel_rfl) rfl (by kernel_rfl) rfl (by decide)), bytesOK_of (by kernel_rfl)⟩
def ti124 : TI := .slice 67 6 128 [.nil, .nil, .nil, .nil, .bool false, .nil]
theorem tyOK124 : TyOK Tryz.prog 124 ti124 := ⟨by kernel_rfl, (zeroOK_of (v := .slice none 0 0) (by kernel_rfl) rfl (by kernel_rfl) rfl (by decide)), (zeroOK_of (v := .agg #[.slice none 0 0, .slice none 0 0, .slice none 0 0, .slice none 0 0, .bool false, .slice none 0 0]) (by kernel_rfl) rfl (by kernel_rfl) rfl (by decide)), bytesOK_of (by kernel_rfl)⟩
def ti153 : TI := .int .u64
theorem tyOK153 : TyOK Tryz.prog 153 ti153 := ⟨by kernel_rfl, (zeroOK_of (v := .int .u64 0) (by kernel_rfl) rfl (by kernel_rfl) rfl (by decide))⟩
def ti155 : TI := .int .u32
theorem tyOK155 : TyOK Tryz.prog 155 ti155 := ⟨by kernel_rfl, (zeroOK_of (v := .int .u32 0) (by kernel_rfl) rfl (by kernel_rfl) rfl (by decide))⟩
def ti156 : TI := .int .u64
theorem tyOK156 : TyOK Tryz.prog 156 ti156 := ⟨by kernel_rfl, (zeroOK_of (v := .int .u64 0) (by kernel_rfl) rfl (by kernel_rfl) rfl (by decide))⟩
def ti160 : TI := .slice 31 1 24 [.nil]
theorem tyOK160 : TyOK Tryz.prog 160 ti160 := ⟨by kernel_rfl, (zeroOK_of (v := .slice none 0 0) (by kernel_rfl) rfl (by kernel_rfl) rfl (by decide)), (zeroOK_of (v := .slice none 0 0) (by kernel_rfl) rfl (by kernel_rfl) rfl (by decide)), bytesOK_of (by kernel_rfl)⟩
def ti203 : TI := .int .u8
theorem tyOK203 : TyOK Tryz.prog 203 ti203 := ⟨by kernel_rfl, (zeroOK_of (v := .int .u8 0) (by kernel_rfl) rfl (by kernel_rfl) rfl (by decide))⟩
def ti204 : TI := .int .u8
theorem tyOK204 : TyOK Tryz.prog 204 ti204 := ⟨by kernel_rfl, (zeroOK_of (v := .int .u8 0) (by kernel_rfl) rfl (by kernel_rfl) rfl (by decide))⟩
def ti207 : TI := .int .i32
theorem tyOK207 : TyOK Tryz.prog 207 ti207 := ⟨by kernel_rfl, (zeroOK_of (v := .int .i32 0) (by kernel_rfl) rfl (by kernel_rfl) rfl (by decide))⟩
def ti208 : TI := .int .i32
theorem tyOK208 : TyOK Tryz.prog 208 ti208 := ⟨by kernel_rfl, (zeroOK_of (v := .int .i32 0) (by kernel_rfl) rfl (by kernel_rfl) rfl (by decide))⟩
def tyF : TypeId → TI
  | 2 => ti2
  | 3 => ti3
  | 4 => ti4
  | 5 => ti5
  | 6 => ti6
  | 7 => ti7
  | 8 => ti8
  | 9 => ti9
  | 10 => ti10
  | 11 => ti11
  | 12 => ti12
  | 13 => ti13
  | 14 => ti14
  | 21 => ti21
  | 22 => ti22
  | 23 => ti23
  | 24 => ti24
  | 26 => ti26
  | 27 => ti27
  | 29 => ti29
  | 31 => ti31
  | 46 => ti46
  | 47 => ti47
  | 48 => ti48
  | 49 => ti49
  | 50 => ti50
  | 58 => ti58
  | 59 => ti59
  | 60 => ti60
  | 62 => ti62
  | 63 => ti63
  | 64 => ti64
  | 65 => ti65
  | 66 => ti66
  | 67 => ti67
  | 68 => ti68
  | 76 => ti76
  | 77 => ti77
  | 80 => ti80
  | 81 => ti81
  | 88 => ti88
  | 118 => ti118
  | 119 => ti119
  | 123 => ti123
  | 124 => ti124
  | 153 => ti153
  | 155 => ti155
  | 156 => ti156
  | 160 => ti160
  | 203 => ti203
  | 204 => ti204
  | 207 => ti207
  | 208 => ti208
  | _ => .other
theorem tyOK (t : TypeId) : TyOK Tryz.prog t (tyF t) := by
  unfold tyF
  split
  · exact tyOK2
  · exact tyOK3
  · exact tyOK4
  · exact tyOK5
  · exact tyOK6
  · exact tyOK7
  · exact tyOK8
  · exact tyOK9
  · exact tyOK10
  · exact tyOK11
  · exact tyOK12
  · exact tyOK13
  · exact tyOK14
  · exact tyOK21
  · exact tyOK22
  · exact tyOK23
  · exact tyOK24
  · exact tyOK26
  · exact tyOK27
  · exact tyOK29
  · exact tyOK31
  · exact tyOK46
  · exact tyOK47
  · exact tyOK48
  · exact tyOK49
  · exact tyOK50
  · exact tyOK58
  · exact tyOK59
  · exact tyOK60
  · exact tyOK62
  · exact tyOK63
  · exact tyOK64
  · exact tyOK65
  · exact tyOK66
  · exact tyOK67
  · exact tyOK68
  · exact tyOK76
  · exact tyOK77
  · exact tyOK80
  · exact tyOK81
  · exact tyOK88
  · exact tyOK118
  · exact tyOK119
  · exact tyOK123
  · exact tyOK124
  · exact tyOK153
  · exact tyOK155
  · exact tyOK156
  · exact tyOK160
  · exact tyOK203
  · exact tyOK204
  · exact tyOK207
  · exact tyOK208
  · trivial
theorem mixedOK : Tryz.prog.follows .mixedOrders = true := by kernel_rfl
def mutF (g : FuncId) : Bool := g == 196 || g == 197
noncomputable def env : Env := ⟨Tryz.prog, tyF, tyOK, mixedOK, mutF⟩
@[simp] theorem env_mut : env.writes = mutF := rfl
attribute [simp] mutF
@[simp] theorem ety2 : env.ty 2 = .int .i64 := rfl
@[simp] theorem ety3 : env.ty 3 = .int .i64 := rfl
@[simp] theorem ety4 : env.ty 4 = .bool := rfl
@[simp] theorem ety5 : env.ty 5 = .int .u8 := rfl
@[simp] theorem ety6 : env.ty 6 = .int .u8 := rfl
@[simp] theorem ety7 : env.ty 7 = .struct [(0, 1, false), (1, 1, false), (2, 1, false), (3, 1, false)] [.int .i64 0, .int .i64 0, .bool false, .int .u8 0] := rfl
@[simp] theorem ety8 : env.ty 8 = .struct [(0, 1, false), (1, 1, false), (2, 1, false), (3, 1, false)] [.int .i64 0, .int .i64 0, .bool false, .int .u8 0] := rfl
@[simp] theorem ety9 : env.ty 9 = .str := rfl
@[simp] theorem ety10 : env.ty 10 = .str := rfl
@[simp] theorem ety11 : env.ty 11 = .str := rfl
@[simp] theorem ety12 : env.ty 12 = .int .u64 := rfl
@[simp] theorem ety13 : env.ty 13 = .struct [(0, 1, false), (1, 1, false)] [.str ⟨#[]⟩, .int .u64 0] := rfl
@[simp] theorem ety14 : env.ty 14 = .struct [(0, 1, false), (1, 1, false)] [.str ⟨#[]⟩, .int .u64 0] := rfl
@[simp] theorem ety21 : env.ty 21 = .int .i32 := rfl
@[simp] theorem ety22 : env.ty 22 = .slice 3 1 8 [.int .i64 0] := rfl
@[simp] theorem ety23 : env.ty 23 = .slice 50 4 64 [.nil, .bool false, .nil, .bool false] := rfl
@[simp] theorem ety24 : env.ty 24 = .slice 50 4 64 [.nil, .bool false, .nil, .bool false] := rfl
@[simp] theorem ety26 : env.ty 26 = .slice 60 2 32 [.bool false, .nil] := rfl
@[simp] theorem ety27 : env.ty 27 = .slice 60 2 32 [.bool false, .nil] := rfl
@[simp] theorem ety29 : env.ty 29 = .slice 24 1 24 [.nil] := rfl
@[simp] theorem ety31 : env.ty 31 = .slice 27 1 24 [.nil] := rfl
@[simp] theorem ety46 : env.ty 46 = .slice 3 1 8 [.int .i64 0] := rfl
@[simp] theorem ety47 : env.ty 47 = .struct [(0, 1, false), (1, 1, false)] [.nil, .bool false] := rfl
@[simp] theorem ety48 : env.ty 48 = .struct [(0, 1, false), (1, 1, false)] [.nil, .bool false] := rfl
@[simp] theorem ety49 : env.ty 49 = .struct [(0, 2, true), (2, 2, true)] [.nil, .bool false, .nil, .bool false] := rfl
@[simp] theorem ety50 : env.ty 50 = .struct [(0, 2, true), (2, 2, true)] [.nil, .bool false, .nil, .bool false] := rfl
@[simp] theorem ety58 : env.ty 58 = .slice 155 1 4 [.int .u32 0] := rfl
@[simp] theorem ety59 : env.ty 59 = .struct [(0, 1, false), (1, 1, false)] [.bool false, .nil] := rfl
@[simp] theorem ety60 : env.ty 60 = .struct [(0, 1, false), (1, 1, false)] [.bool false, .nil] := rfl
@[simp] theorem ety62 : env.ty 62 = .slice 119 5 88 [.nil, .nil, .bool false, .nil, .int .i64 0] := rfl
@[simp] theorem ety63 : env.ty 63 = .struct [(0, 1, false), (1, 1, false), (2, 2, true)] [.nil, .nil, .bool false, .nil] := rfl
@[simp] theorem ety64 : env.ty 64 = .struct [(0, 1, false), (1, 1, false), (2, 2, true)] [.nil, .nil, .bool false, .nil] := rfl
@[simp] theorem ety65 : env.ty 65 = .arr 64 4 4 [.nil, .nil, .bool false, .nil, .nil, .nil, .bool false, .nil, .nil, .nil, .bool false, .nil, .nil, .nil, .bool false, .nil] := rfl
@[simp] theorem ety66 : env.ty 66 = .struct [(0, 1, false), (1, 1, false), (2, 4, true)] [.nil, .nil, .nil, .nil, .bool false, .nil] := rfl
@[simp] theorem ety67 : env.ty 67 = .struct [(0, 1, false), (1, 1, false), (2, 4, true)] [.nil, .nil, .nil, .nil, .bool false, .nil] := rfl
@[simp] theorem ety68 : env.ty 68 = .arr 67 4 6 [.nil, .nil, .nil, .nil, .bool false, .nil, .nil, .nil, .nil, .nil, .bool false, .nil, .nil, .nil, .nil, .nil, .bool false, .nil, .nil, .nil, .nil, .nil, .bool false, .nil] := rfl
@[simp] theorem ety76 : env.ty 76 = .arr 3 2 1 [.int .i64 0, .int .i64 0] := rfl
@[simp] theorem ety77 : env.ty 77 = .slice 76 2 16 [.int .i64 0, .int .i64 0] := rfl
@[simp] theorem ety80 : env.ty 80 = .struct [(0, 1, false), (1, 1, false), (2, 4, true), (6, 4, true)] [.nil, .nil, .nil, .bool false, .nil, .bool false, .nil, .bool false, .nil, .bool false] := rfl
@[simp] theorem ety81 : env.ty 81 = .struct [(0, 1, false), (1, 1, false), (2, 4, true), (6, 4, true)] [.nil, .nil, .nil, .bool false, .nil, .bool false, .nil, .bool false, .nil, .bool false] := rfl
@[simp] theorem ety88 : env.ty 88 = .int .i64 := rfl
@[simp] theorem ety118 : env.ty 118 = .struct [(0, 4, true), (4, 1, false)] [.nil, .nil, .bool false, .nil, .int .i64 0] := rfl
@[simp] theorem ety119 : env.ty 119 = .struct [(0, 4, true), (4, 1, false)] [.nil, .nil, .bool false, .nil, .int .i64 0] := rfl
@[simp] theorem ety123 : env.ty 123 = .slice 29 1 24 [.nil] := rfl
@[simp] theorem ety124 : env.ty 124 = .slice 67 6 128 [.nil, .nil, .nil, .nil, .bool false, .nil] := rfl
@[simp] theorem ety153 : env.ty 153 = .int .u64 := rfl
@[simp] theorem ety155 : env.ty 155 = .int .u32 := rfl
@[simp] theorem ety156 : env.ty 156 = .int .u64 := rfl
@[simp] theorem ety160 : env.ty 160 = .slice 31 1 24 [.nil] := rfl
@[simp] theorem ety203 : env.ty 203 = .int .u8 := rfl
@[simp] theorem ety204 : env.ty 204 = .int .u8 := rfl
@[simp] theorem ety207 : env.ty 207 = .int .i32 := rfl
@[simp] theorem ety208 : env.ty 208 = .int .i32 := rfl
end Go.Proofs.YtgebobdieekjaaaGreat
