/- The types of the seat, as the pure machine wants them: closed facts, each by the kernel. -/
import Derived.Test.YtdiladmkbpnhoaaGreatProg
import Derived.Test.YtdiladmkbpnhoaaGreatMd
import Derived.KernelRfl
namespace Go.Proofs.YtdiladmkbpnhoaaGreat
open Go Pm
def ti2 : TI := .int .i64
theorem tyOK2 : TyOK Tryz.prog 2 ti2 := ⟨by kernel_rfl, (zeroOK_of (v := .int .i64 0) (by kernel_rfl) rfl (by kernel_rfl) rfl (by decide))⟩
def ti3 : TI := .int .i64
theorem tyOK3 : TyOK Tryz.prog 3 ti3 := ⟨by kernel_rfl, (zeroOK_of (v := .int .i64 0) (by kernel_rfl) rfl (by kernel_rfl) rfl (by decide))⟩
def ti4 : TI := .bool
theorem tyOK4 : TyOK Tryz.prog 4 ti4 := ⟨by kernel_rfl, (zeroOK_of (v := .bool false) (by kernel_rfl) rfl (by kernel_rfl) rfl (by decide))⟩
def ti5 : TI := .int .u8
theorem tyOK5 : TyOK Tryz.prog 5 ti5 := ⟨by kernel_rfl, (zeroOK_of (v := .int .u8 0) (by kernel_rfl) rfl (by kernel_rfl) rfl (by decide))⟩
def ti6 : TI := .int .u8
theorem tyOK6 : TyOK Tryz.prog 6 ti6 := ⟨by kernel_rfl, (zeroOK_of (v := .int .u8 0) (by kernel_rfl) rfl (by kernel_rfl) rfl (by decide))⟩
def ti7 : TI := .struct [(0, 1, false), (1, 1, false), (2, 1, false), (3, 1, false)] [.int .i64 0, .int .i64 0, .bool false, .int .u8 0]
theorem tyOK7 : TyOK Tryz.prog 7 ti7 := ⟨structOK_of (by kernel_rfl), (zeroOK_of (v := .agg #[.int .i64 0, .int .i64 0, .bool false, .int .u8 0]) (by kernel_rfl) rfl (by kernel_rfl) rfl (by decide))⟩
def ti8 : TI := .struct [(0, 1, false), (1, 1, false), (2, 1, false), (3, 1, false)] [.int .i64 0, .int .i64 0, .bool false, .int .u8 0]
theorem tyOK8 : TyOK Tryz.prog 8 ti8 := ⟨structOK_of (by kernel_rfl), (zeroOK_of (v := .agg #[.int .i64 0, .int .i64 0, .bool false, .int .u8 0]) (by kernel_rfl) rfl (by kernel_rfl) rfl (by decide))⟩
def ti9 : TI := .str
theorem tyOK9 : TyOK Tryz.prog 9 ti9 := ⟨by kernel_rfl, (zeroOK_of (v := .string ⟨#[]⟩) (by kernel_rfl) rfl (by kernel_rfl) rfl (by decide))⟩
def ti10 : TI := .str
theorem tyOK10 : TyOK Tryz.prog 10 ti10 := ⟨by kernel_rfl, (zeroOK_of (v := .string ⟨#[]⟩) (by kernel_rfl) rfl (by kernel_rfl) rfl (by decide))⟩
def ti11 : TI := .str
theorem tyOK11 : TyOK Tryz.prog 11 ti11 := ⟨by kernel_rfl, (zeroOK_of (v := .string ⟨#[]⟩) (by kernel_rfl) rfl (by kernel_rfl) rfl (by decide))⟩
def ti12 : TI := .int .u64
theorem tyOK12 : TyOK Tryz.prog 12 ti12 := ⟨by kernel_rfl, (zeroOK_of (v := .int .u64 0) (by kernel_rfl) rfl (by kernel_rfl) rfl (by decide))⟩
def ti13 : TI := .struct [(0, 1, false), (1, 1, false)] [.str ⟨#[]⟩, .int .u64 0]
theorem tyOK13 : TyOK Tryz.prog 13 ti13 := ⟨structOK_of (by kernel_rfl), (zeroOK_of (v := .agg #[.string ⟨#[]⟩, .int .u64 0]) (by kernel_rfl) rfl (by kernel_rfl) rfl (by decide))⟩
def ti14 : TI := .struct [(0, 1, false), (1, 1, false)] [.str ⟨#[]⟩, .int .u64 0]
theorem tyOK14 : TyOK Tryz.prog 14 ti14 := ⟨structOK_of (by kernel_rfl), (zeroOK_of (v := .agg #[.string ⟨#[]⟩, .int .u64 0]) (by kernel_rfl) rfl (by kernel_rfl) rfl (by decide))⟩
def ti21 : TI := .int .i32
theorem tyOK21 : TyOK Tryz.prog 21 ti21 := ⟨by kernel_rfl, (zeroOK_of (v := .int .i32 0) (by kernel_rfl) rfl (by kernel_rfl) rfl (by decide))⟩
def ti23 : TI := .slice 27 2 32 [.bool false, .nil]
theorem tyOK23 : TyOK Tryz.prog 23 ti23 := ⟨by kernel_rfl, (zeroOK_of (v := .slice none 0 0) (by kernel_rfl) rfl (by kernel_rfl) rfl (by decide)), (zeroOK_of (v := .agg #[.bool false, .slice none 0 0]) (by kernel_rfl) rfl (by kernel_rfl) rfl (by decide)), bytesOK_of (by kernel_rfl)⟩
def ti24 : TI := .slice 27 2 32 [.bool false, .nil]
theorem tyOK24 : TyOK Tryz.prog 24 ti24 := ⟨by kernel_rfl, (zeroOK_of (v := .slice none 0 0) (by kernel_rfl) rfl (by kernel_rfl) rfl (by decide)), (zeroOK_of (v := .agg #[.bool false, .slice none 0 0]) (by kernel_rfl) rfl (by kernel_rfl) rfl (by decide)), bytesOK_of (by kernel_rfl)⟩
def ti25 : TI := .slice 169 1 4 [.int .u32 0]
theorem tyOK25 : TyOK Tryz.prog 25 ti25 := ⟨by kernel_rfl, (zeroOK_of (v := .slice none 0 0) (by kernel_rfl) rfl (by kernel_rfl) rfl (by decide)), (zeroOK_of (v := .int .u32 0) (by kernel_rfl) rfl (by kernel_rfl) rfl (by decide)), bytesOK_of (by kernel_rfl)⟩
def ti26 : TI := .struct [(0, 1, false), (1, 1, false)] [.bool false, .nil]
theorem tyOK26 : TyOK Tryz.prog 26 ti26 := ⟨structOK_of (by kernel_rfl), (zeroOK_of (v := .agg #[.bool false, .slice none 0 0]) (by kernel_rfl) rfl (by kernel_rfl) rfl (by decide))⟩
def ti27 : TI := .struct [(0, 1, false), (1, 1, false)] [.bool false, .nil]
theorem tyOK27 : TyOK Tryz.prog 27 ti27 := ⟨structOK_of (by kernel_rfl), (zeroOK_of (v := .agg #[.bool false, .slice none 0 0]) (by kernel_rfl) rfl (by kernel_rfl) rfl (by decide))⟩
def ti28 : TI := .struct [(0, 1, false), (1, 1, false), (2, 2, true)] [.nil, .nil, .bool false, .nil]
theorem tyOK28 : TyOK Tryz.prog 28 ti28 := ⟨structOK_of (by kernel_rfl), (zeroOK_of (v := .agg #[.slice none 0 0, .slice none 0 0, .bool false, .slice none 0 0]) (by kernel_rfl) rfl (by kernel_rfl) rfl (by decide))⟩
def ti29 : TI := .struct [(0, 1, false), (1, 1, false), (2, 2, true)] [.nil, .nil, .bool false, .nil]
theorem tyOK29 : TyOK Tryz.prog 29 ti29 := ⟨structOK_of (by kernel_rfl), (zeroOK_of (v := .agg #[.slice none 0 0, .slice none 0 0, .bool false, .slice none 0 0]) (by kernel_rfl) rfl (by kernel_rfl) rfl (by decide))⟩
def ti30 : TI := .fnT
theorem tyOK30 : TyOK Tryz.prog 30 ti30 := ⟨by kernel_rfl, (zeroOK_of (v := .nilFunc) (by kernel_rfl) rfl (by kernel_rfl) rfl (by decide))⟩
def ti31 : TI := .arr 3 2 1 [.int .i64 0, .int .i64 0]
theorem tyOK31 : TyOK Tryz.prog 31 ti31 := ⟨by kernel_rfl, (zeroOK_of (v := .agg #[.int .i64 0, .int .i64 0]) (by kernel_rfl) rfl (by kernel_rfl) rfl (by decide)), sizeOK_of (by kernel_rfl)⟩
def ti32 : TI := .slice 31 2 16 [.int .i64 0, .int .i64 0]
theorem tyOK32 : TyOK Tryz.prog 32 ti32 := ⟨by kernel_rfl, (zeroOK_of (v := .slice none 0 0) (by kernel_rfl) rfl (by kernel_rfl) rfl (by decide)), (zeroOK_of (v := .agg #[.int .i64 0, .int .i64 0]) (by kernel_rfl) rfl (by kernel_rfl) rfl (by decide)), bytesOK_of (by kernel_rfl)⟩
def ti35 : TI := .slice 43 4 64 [.nil, .bool false, .nil, .bool false]
theorem tyOK35 : TyOK Tryz.prog 35 ti35 := ⟨by kernel_rfl, (zeroOK_of (v := .slice none 0 0) (by kernel_rfl) rfl (by kernel_rfl) rfl (by decide)), (zeroOK_of (v := .agg #[.slice none 0 0, .bool false, .slice none 0 0, .bool false]) (by kernel_rfl) rfl (by kernel_rfl) rfl (by decide)), bytesOK_of (by kernel_rfl)⟩
def ti36 : TI := .slice 43 4 64 [.nil, .bool false, .nil, .bool false]
theorem tyOK36 : TyOK Tryz.prog 36 ti36 := ⟨by kernel_rfl, (zeroOK_of (v := .slice none 0 0) (by kernel_rfl) rfl (by kernel_rfl) rfl (by decide)), (zeroOK_of (v := .agg #[.slice none 0 0, .bool false, .slice none 0 0, .bool false]) (by kernel_rfl) rfl (by kernel_rfl) rfl (by decide)), bytesOK_of (by kernel_rfl)⟩
def ti37 : TI := .slice 36 1 24 [.nil]
theorem tyOK37 : TyOK Tryz.prog 37 ti37 := ⟨by kernel_rfl, (zeroOK_of (v := .slice none 0 0) (by kernel_rfl) rfl (by kernel_rfl) rfl (by decide)), (zeroOK_of (v := .slice none 0 0) (by kernel_rfl) rfl (by kernel_rfl) rfl (by decide)), bytesOK_of (by kernel_rfl)⟩
def ti38 : TI := .slice 3 1 8 [.int .i64 0]
theorem tyOK38 : TyOK Tryz.prog 38 ti38 := ⟨by kernel_rfl, (zeroOK_of (v := .slice none 0 0) (by kernel_rfl) rfl (by kernel_rfl) rfl (by decide)), (zeroOK_of (v := .int .i64 0) (by kernel_rfl) rfl (by kernel_rfl) rfl (by decide)), bytesOK_of (by kernel_rfl)⟩
def ti39 : TI := .slice 3 1 8 [.int .i64 0]
theorem tyOK39 : TyOK Tryz.prog 39 ti39 := ⟨by kernel_rfl, (zeroOK_of (v := .slice none 0 0) (by kernel_rfl) rfl (by kernel_rfl) rfl (by decide)), (zeroOK_of (v := .int .i64 0) (by kernel_rfl) rfl (by kernel_rfl) rfl (by decide)), bytesOK_of (by kernel_rfl)⟩
def ti40 : TI := .struct [(0, 1, false), (1, 1, false)] [.nil, .bool false]
theorem tyOK40 : TyOK Tryz.prog 40 ti40 := ⟨structOK_of (by kernel_rfl), (zeroOK_of (v := .agg #[.slice none 0 0, .bool false]) (by kernel_rfl) rfl (by kernel_rfl) rfl (by decide))⟩
def ti41 : TI := .struct [(0, 1, false), (1, 1, false)] [.nil, .bool false]
theorem tyOK41 : TyOK Tryz.prog 41 ti41 := ⟨structOK_of (by kernel_rfl), (zeroOK_of (v := .agg #[.slice none 0 0, .bool false]) (by kernel_rfl) rfl (by kernel_rfl) rfl (by decide))⟩
def ti42 : TI := .struct [(0, 2, true), (2, 2, true)] [.nil, .bool false, .nil, .bool false]
theorem tyOK42 : TyOK Tryz.prog 42 ti42 := ⟨structOK_of (by kernel_rfl), (zeroOK_of (v := .agg #[.slice none 0 0, .bool false, .slice none 0 0, .bool false]) (by kernel_rfl) rfl (by kernel_rfl) rfl (by decide))⟩
def ti43 : TI := .struct [(0, 2, true), (2, 2, true)] [.nil, .bool false, .nil, .bool false]
theorem tyOK43 : TyOK Tryz.prog 43 ti43 := ⟨structOK_of (by kernel_rfl), (zeroOK_of (v := .agg #[.slice none 0 0, .bool false, .slice none 0 0, .bool false]) (by kernel_rfl) rfl (by kernel_rfl) rfl (by decide))⟩
def ti44 : TI := .struct [(0, 1, false), (1, 1, false), (2, 4, true), (6, 4, true)] [.nil, .nil, .nil, .bool false, .nil, .bool false, .nil, .bool false, .nil, .bool false]
theorem tyOK44 : TyOK Tryz.prog 44 ti44 := ⟨structOK_of (by kernel_rfl), (zeroOK_of (v := .agg #[.slice none 0 0, .slice none 0 0, .slice none 0 0, .bool false, .slice none 0 0, .bool false, .slice none 0 0, .bool false, .slice none 0 0, .bool false]) (by kernel_rfl) rfl (by kernel_rfl) rfl (by decide))⟩
def ti45 : TI := .struct [(0, 1, false), (1, 1, false), (2, 4, true), (6, 4, true)] [.nil, .nil, .nil, .bool false, .nil, .bool false, .nil, .bool false, .nil, .bool false]
theorem tyOK45 : TyOK Tryz.prog 45 ti45 := ⟨structOK_of (by kernel_rfl), (zeroOK_of (v := .agg #[.slice none 0 0, .slice none 0 0, .slice none 0 0, .bool false, .slice none 0 0, .bool false, .slice none 0 0, .bool false, .slice none 0 0, .bool false]) (by kernel_rfl) rfl (by kernel_rfl) rfl (by decide))⟩
def ti54 : TI := .slice 138 5 88 [.nil, .nil, .bool false, .nil, .int .i64 0]
theorem tyOK54 : TyOK Tryz.prog 54 ti54 := ⟨by kernel_rfl, (zeroOK_of (v := .slice none 0 0) (by kernel_rfl) rfl (by kernel_rfl) rfl (by decide)), (zeroOK_of (v := .agg #[.slice none 0 0, .slice none 0 0, .bool false, .slice none 0 0, .int .i64 0]) (by kernel_rfl) rfl (by kernel_rfl) rfl (by decide)), bytesOK_of (by kernel_rfl)⟩
def ti55 : TI := .arr 29 4 4 [.nil, .nil, .bool false, .nil, .nil, .nil, .bool false, .nil, .nil, .nil, .bool false, .nil, .nil, .nil, .bool false, .nil]
theorem tyOK55 : TyOK Tryz.prog 55 ti55 := ⟨by kernel_rfl, (zeroOK_of (v := .agg #[.slice none 0 0, .slice none 0 0, .bool false, .slice none 0 0, .slice none 0 0, .slice none 0 0, .bool false, .slice none 0 0, .slice none 0 0, .slice none 0 0, .bool false, .slice none 0 0, .slice none 0 0, .slice none 0 0, .bool false, .slice none 0 0]) (by kernel_rfl) rfl (by kernel_rfl) rfl (by decide)), sizeOK_of (by kernel_rfl)⟩
def ti56 : TI := .struct [(0, 1, false), (1, 1, false), (2, 4, true)] [.nil, .nil, .nil, .nil, .bool false, .nil]
theorem tyOK56 : TyOK Tryz.prog 56 ti56 := ⟨structOK_of (by kernel_rfl), (zeroOK_of (v := .agg #[.slice none 0 0, .slice none 0 0, .slice none 0 0, .slice none 0 0, .bool false, .slice none 0 0]) (by kernel_rfl) rfl (by kernel_rfl) rfl (by decide))⟩
def ti57 : TI := .struct [(0, 1, false), (1, 1, false), (2, 4, true)] [.nil, .nil, .nil, .nil, .bool false, .nil]
theorem tyOK57 : TyOK Tryz.prog 57 ti57 := ⟨structOK_of (by kernel_rfl), (zeroOK_of (v := .agg #[.slice none 0 0, .slice none 0 0, .slice none 0 0, .slice none 0 0, .bool false, .slice none 0 0]) (by kernel_rfl) rfl (by kernel_rfl) rfl (by decide))⟩
def ti58 : TI := .arr 57 4 6 [.nil, .nil, .nil, .nil, .bool false, .nil, .nil, .nil, .nil, .nil, .bool false, .nil, .nil, .nil, .nil, .nil, .bool false, .nil, .nil, .nil, .nil, .nil, .bool false, .nil]
theorem tyOK58 : TyOK Tryz.prog 58 ti58 := ⟨by kernel_rfl, (zeroOK_of (v := .agg #[.slice none 0 0, .slice none 0 0, .slice none 0 0, .slice none 0 0, .bool false, .slice none 0 0, .slice none 0 0, .slice none 0 0, .slice none 0 0, .slice none 0 0, .bool false, .slice none 0 0, .slice none 0 0, .slice none 0 0, .slice none 0 0, .slice none 0 0, .bool false, .slice none 0 0, .slice none 0 0, .slice none 0 0, .slice none 0 0, .slice none 0 0, .bool false, .slice none 0 0]) (by kernel_rfl) rfl (by kernel_rfl) rfl (by decide)), sizeOK_of (by kernel_rfl)⟩
def ti61 : TI := .int .i64
theorem tyOK61 : TyOK Tryz.prog 61 ti61 := ⟨by kernel_rfl, (zeroOK_of (v := .int .i64 0) (by kernel_rfl) rfl (by kernel_rfl) rfl (by decide))⟩
def ti77 : TI := .ptrT
theorem tyOK77 : TyOK Tryz.prog 77 ti77 := ⟨by kernel_rfl, (zeroOK_of (v := .pointer none) (by kernel_rfl) rfl (by kernel_rfl) rfl (by decide))⟩
def ti80 : TI := .struct [(0, 2, true), (2, 2, true)] [.bool false, .nil, .bool false, .nil]
theorem tyOK80 : TyOK Tryz.prog 80 ti80 := ⟨structOK_of (by kernel_rfl), (zeroOK_of (v := .agg #[.bool false, .slice none 0 0, .bool false, .slice none 0 0]) (by kernel_rfl) rfl (by kernel_rfl) rfl (by decide))⟩
def ti81 : TI := .struct [(0, 2, true), (2, 2, true)] [.bool false, .nil, .bool false, .nil]
theorem tyOK81 : TyOK Tryz.prog 81 ti81 := ⟨structOK_of (by kernel_rfl), (zeroOK_of (v := .agg #[.bool false, .slice none 0 0, .bool false, .slice none 0 0]) (by kernel_rfl) rfl (by kernel_rfl) rfl (by decide))⟩
def ti99 : TI := .slice 108 9 152 [.nil, .bool false, .nil, .bool false, .nil, .bool false, .nil, .bool false, .nil]
theorem tyOK99 : TyOK Tryz.prog 99 ti99 := ⟨by kernel_rfl, (zeroOK_of (v := .slice none 0 0) (by kernel_rfl) rfl (by kernel_rfl) rfl (by decide)), (zeroOK_of (v := .agg #[.slice none 0 0, .bool false, .slice none 0 0, .bool false, .slice none 0 0, .bool false, .slice none 0 0, .bool false, .slice none 0 0]) (by kernel_rfl) rfl (by kernel_rfl) rfl (by decide)), bytesOK_of (by kernel_rfl)⟩
def ti103 : TI := .slice 45 10 176 [.nil, .nil, .nil, .bool false, .nil, .bool false, .nil, .bool false, .nil, .bool false]
theorem tyOK103 : TyOK Tryz.prog 103 ti103 := ⟨by kernel_rfl, (zeroOK_of (v := .slice none 0 0) (by kernel_rfl) rfl (by kernel_rfl) rfl (by decide)), (zeroOK_of (v := .agg #[.slice none 0 0, .slice none 0 0, .slice none 0 0, .bool false, .slice none 0 0, .bool false, .slice none 0 0, .bool false, .slice none 0 0, .bool false]) (by kernel_rfl) rfl (by kernel_rfl) rfl (by decide)), bytesOK_of (by kernel_rfl)⟩
def ti107 : TI := .struct [(0, 1, false), (1, 4, true), (5, 4, true)] [.nil, .bool false, .nil, .bool false, .nil, .bool false, .nil, .bool false, .nil]
theorem tyOK107 : TyOK Tryz.prog 107 ti107 := ⟨structOK_of (by kernel_rfl), (zeroOK_of (v := .agg #[.slice none 0 0, .bool false, .slice none 0 0, .bool false, .slice none 0 0, .bool false, .slice none 0 0, .bool false, .slice none 0 0]) (by kernel_rfl) rfl (by kernel_rfl) rfl (by decide))⟩
def ti108 : TI := .struct [(0, 1, false), (1, 4, true), (5, 4, true)] [.nil, .bool false, .nil, .bool false, .nil, .bool false, .nil, .bool false, .nil]
theorem tyOK108 : TyOK Tryz.prog 108 ti108 := ⟨structOK_of (by kernel_rfl), (zeroOK_of (v := .agg #[.slice none 0 0, .bool false, .slice none 0 0, .bool false, .slice none 0 0, .bool false, .slice none 0 0, .bool false, .slice none 0 0]) (by kernel_rfl) rfl (by kernel_rfl) rfl (by decide))⟩
def ti125 : TI := .slice 24 1 24 [.nil]
theorem tyOK125 : TyOK Tryz.prog 125 ti125 := ⟨by kernel_rfl, (zeroOK_of (v := .slice none 0 0) (by kernel_rfl) rfl (by kernel_rfl) rfl (by decide)), (zeroOK_of (v := .slice none 0 0) (by kernel_rfl) rfl (by kernel_rfl) rfl (by decide)), bytesOK_of (by kernel_rfl)⟩
def ti137 : TI := .struct [(0, 4, true), (4, 1, false)] [.nil, .nil, .bool false, .nil, .int .i64 0]
theorem tyOK137 : TyOK Tryz.prog 137 ti137 := ⟨structOK_of (by kernel_rfl), (zeroOK_of (v := .agg #[.slice none 0 0, .slice none 0 0, .bool false, .slice none 0 0, .int .i64 0]) (by kernel_rfl) rfl (by kernel_rfl) rfl (by decide))⟩
def ti138 : TI := .struct [(0, 4, true), (4, 1, false)] [.nil, .nil, .bool false, .nil, .int .i64 0]
theorem tyOK138 : TyOK Tryz.prog 138 ti138 := ⟨structOK_of (by kernel_rfl), (zeroOK_of (v := .agg #[.slice none 0 0, .slice none 0 0, .bool false, .slice none 0 0, .int .i64 0]) (by kernel_rfl) rfl (by kernel_rfl) rfl (by decide))⟩
def ti149 : TI := .struct [(0, 1, false)] [.nil]
theorem tyOK149 : TyOK Tryz.prog 149 ti149 := ⟨structOK_of (by kernel_rfl), (zeroOK_of (v := .agg #[.slice none 0 0]) (by kernel_rfl) rfl (by kernel_rfl) rfl (by decide))⟩
def ti150 : TI := .struct [(0, 1, false)] [.nil]
theorem tyOK150 : TyOK Tryz.prog 150 ti150 := ⟨structOK_of (by kernel_rfl), (zeroOK_of (v := .agg #[.slice none 0 0]) (by kernel_rfl) rfl (by kernel_rfl) rfl (by decide))⟩
def ti169 : TI := .int .u32
theorem tyOK169 : TyOK Tryz.prog 169 ti169 := ⟨by kernel_rfl, (zeroOK_of (v := .int .u32 0) (by kernel_rfl) rfl (by kernel_rfl) rfl (by decide))⟩
def ti182 : TI := .slice 125 1 24 [.nil]
theorem tyOK182 : TyOK Tryz.prog 182 ti182 := ⟨by kernel_rfl, (zeroOK_of (v := .slice none 0 0) (by kernel_rfl) rfl (by kernel_rfl) rfl (by decide)), (zeroOK_of (v := .slice none 0 0) (by kernel_rfl) rfl (by kernel_rfl) rfl (by decide)), bytesOK_of (by kernel_rfl)⟩
def ti195 : TI := .int .u64
theorem tyOK195 : TyOK Tryz.prog 195 ti195 := ⟨by kernel_rfl, (zeroOK_of (v := .int .u64 0) (by kernel_rfl) rfl (by kernel_rfl) rfl (by decide))⟩
def ti196 : TI := .int .u64
theorem tyOK196 : TyOK Tryz.prog 196 ti196 := ⟨by kernel_rfl, (zeroOK_of (v := .int .u64 0) (by kernel_rfl) rfl (by kernel_rfl) rfl (by decide))⟩
def ti217 : TI := .slice 81 4 64 [.bool false, .nil, .bool false, .nil]
theorem tyOK217 : TyOK Tryz.prog 217 ti217 := ⟨by kernel_rfl, (zeroOK_of (v := .slice none 0 0) (by kernel_rfl) rfl (by kernel_rfl) rfl (by decide)), (zeroOK_of (v := .agg #[.bool false, .slice none 0 0, .bool false, .slice none 0 0]) (by kernel_rfl) rfl (by kernel_rfl) rfl (by decide)), bytesOK_of (by kernel_rfl)⟩
def ti240 : TI := .int .u8
theorem tyOK240 : TyOK Tryz.prog 240 ti240 := ⟨by kernel_rfl, (zeroOK_of (v := .int .u8 0) (by kernel_rfl) rfl (by kernel_rfl) rfl (by decide))⟩
def ti241 : TI := .int .u8
theorem tyOK241 : TyOK Tryz.prog 241 ti241 := ⟨by kernel_rfl, (zeroOK_of (v := .int .u8 0) (by kernel_rfl) rfl (by kernel_rfl) rfl (by decide))⟩
def ti244 : TI := .int .i32
theorem tyOK244 : TyOK Tryz.prog 244 ti244 := ⟨by kernel_rfl, (zeroOK_of (v := .int .i32 0) (by kernel_rfl) rfl (by kernel_rfl) rfl (by decide))⟩
def ti245 : TI := .int .i32
theorem tyOK245 : TyOK Tryz.prog 245 ti245 := ⟨by kernel_rfl, (zeroOK_of (v := .int .i32 0) (by kernel_rfl) rfl (by kernel_rfl) rfl (by decide))⟩
def tyF : TypeId → TI
  | 2 => ti2
  | 3 => ti3
  | 4 => ti4
  | 5 => ti5
  | 6 => ti6
  | 7 => ti7
  | 8 => ti8
  | 9 => ti9
  | 10 => ti10
  | 11 => ti11
  | 12 => ti12
  | 13 => ti13
  | 14 => ti14
  | 21 => ti21
  | 23 => ti23
  | 24 => ti24
  | 25 => ti25
  | 26 => ti26
  | 27 => ti27
  | 28 => ti28
  | 29 => ti29
  | 30 => ti30
  | 31 => ti31
  | 32 => ti32
  | 35 => ti35
  | 36 => ti36
  | 37 => ti37
  | 38 => ti38
  | 39 => ti39
  | 40 => ti40
  | 41 => ti41
  | 42 => ti42
  | 43 => ti43
  | 44 => ti44
  | 45 => ti45
  | 54 => ti54
  | 55 => ti55
  | 56 => ti56
  | 57 => ti57
  | 58 => ti58
  | 61 => ti61
  | 77 => ti77
  | 80 => ti80
  | 81 => ti81
  | 99 => ti99
  | 103 => ti103
  | 107 => ti107
  | 108 => ti108
  | 125 => ti125
  | 137 => ti137
  | 138 => ti138
  | 149 => ti149
  | 150 => ti150
  | 169 => ti169
  | 182 => ti182
  | 195 => ti195
  | 196 => ti196
  | 217 => ti217
  | 240 => ti240
  | 241 => ti241
  | 244 => ti244
  | 245 => ti245
  | _ => .other
theorem tyOK (t : TypeId) : TyOK Tryz.prog t (tyF t) := by
  unfold tyF
  split
  · exact tyOK2
  · exact tyOK3
  · exact tyOK4
  · exact tyOK5
  · exact tyOK6
  · exact tyOK7
  · exact tyOK8
  · exact tyOK9
  · exact tyOK10
  · exact tyOK11
  · exact tyOK12
  · exact tyOK13
  · exact tyOK14
  · exact tyOK21
  · exact tyOK23
  · exact tyOK24
  · exact tyOK25
  · exact tyOK26
  · exact tyOK27
  · exact tyOK28
  · exact tyOK29
  · exact tyOK30
  · exact tyOK31
  · exact tyOK32
  · exact tyOK35
  · exact tyOK36
  · exact tyOK37
  · exact tyOK38
  · exact tyOK39
  · exact tyOK40
  · exact tyOK41
  · exact tyOK42
  · exact tyOK43
  · exact tyOK44
  · exact tyOK45
  · exact tyOK54
  · exact tyOK55
  · exact tyOK56
  · exact tyOK57
  · exact tyOK58
  · exact tyOK61
  · exact tyOK77
  · exact tyOK80
  · exact tyOK81
  · exact tyOK99
  · exact tyOK103
  · exact tyOK107
  · exact tyOK108
  · exact tyOK125
  · exact tyOK137
  · exact tyOK138
  · exact tyOK149
  · exact tyOK150
  · exact tyOK169
  · exact tyOK182
  · exact tyOK195
  · exact tyOK196
  · exact tyOK217
  · exact tyOK240
  · exact tyOK241
  · exact tyOK244
  · exact tyOK245
  · trivial
theorem mixedOK : Tryz.prog.follows .mixedOrders = true := by kernel_rfl
def mutF (g : FuncId) : Bool := g == 74 || g == 222 || g == 223
noncomputable def env : Env := ⟨Tryz.prog, tyF, tyOK, mixedOK, mutF⟩
@[simp] theorem env_mut : env.writes = mutF := rfl
attribute [simp] mutF
@[simp] theorem ety2 : env.ty 2 = .int .i64 := rfl
@[simp] theorem ety3 : env.ty 3 = .int .i64 := rfl
@[simp] theorem ety4 : env.ty 4 = .bool := rfl
@[simp] theorem ety5 : env.ty 5 = .int .u8 := rfl
@[simp] theorem ety6 : env.ty 6 = .int .u8 := rfl
@[simp] theorem ety7 : env.ty 7 = .struct [(0, 1, false), (1, 1, false), (2, 1, false), (3, 1, false)] [.int .i64 0, .int .i64 0, .bool false, .int .u8 0] := rfl
@[simp] theorem ety8 : env.ty 8 = .struct [(0, 1, false), (1, 1, false), (2, 1, false), (3, 1, false)] [.int .i64 0, .int .i64 0, .bool false, .int .u8 0] := rfl
@[simp] theorem ety9 : env.ty 9 = .str := rfl
@[simp] theorem ety10 : env.ty 10 = .str := rfl
@[simp] theorem ety11 : env.ty 11 = .str := rfl
@[simp] theorem ety12 : env.ty 12 = .int .u64 := rfl
@[simp] theorem ety13 : env.ty 13 = .struct [(0, 1, false), (1, 1, false)] [.str ⟨#[]⟩, .int .u64 0] := rfl
@[simp] theorem ety14 : env.ty 14 = .struct [(0, 1, false), (1, 1, false)] [.str ⟨#[]⟩, .int .u64 0] := rfl
@[simp] theorem ety21 : env.ty 21 = .int .i32 := rfl
@[simp] theorem ety23 : env.ty 23 = .slice 27 2 32 [.bool false, .nil] := rfl
@[simp] theorem ety24 : env.ty 24 = .slice 27 2 32 [.bool false, .nil] := rfl
@[simp] theorem ety25 : env.ty 25 = .slice 169 1 4 [.int .u32 0] := rfl
@[simp] theorem ety26 : env.ty 26 = .struct [(0, 1, false), (1, 1, false)] [.bool false, .nil] := rfl
@[simp] theorem ety27 : env.ty 27 = .struct [(0, 1, false), (1, 1, false)] [.bool false, .nil] := rfl
@[simp] theorem ety28 : env.ty 28 = .struct [(0, 1, false), (1, 1, false), (2, 2, true)] [.nil, .nil, .bool false, .nil] := rfl
@[simp] theorem ety29 : env.ty 29 = .struct [(0, 1, false), (1, 1, false), (2, 2, true)] [.nil, .nil, .bool false, .nil] := rfl
@[simp] theorem ety30 : env.ty 30 = .fnT := rfl
@[simp] theorem ety31 : env.ty 31 = .arr 3 2 1 [.int .i64 0, .int .i64 0] := rfl
@[simp] theorem ety32 : env.ty 32 = .slice 31 2 16 [.int .i64 0, .int .i64 0] := rfl
@[simp] theorem ety35 : env.ty 35 = .slice 43 4 64 [.nil, .bool false, .nil, .bool false] := rfl
@[simp] theorem ety36 : env.ty 36 = .slice 43 4 64 [.nil, .bool false, .nil, .bool false] := rfl
@[simp] theorem ety37 : env.ty 37 = .slice 36 1 24 [.nil] := rfl
@[simp] theorem ety38 : env.ty 38 = .slice 3 1 8 [.int .i64 0] := rfl
@[simp] theorem ety39 : env.ty 39 = .slice 3 1 8 [.int .i64 0] := rfl
@[simp] theorem ety40 : env.ty 40 = .struct [(0, 1, false), (1, 1, false)] [.nil, .bool false] := rfl
@[simp] theorem ety41 : env.ty 41 = .struct [(0, 1, false), (1, 1, false)] [.nil, .bool false] := rfl
@[simp] theorem ety42 : env.ty 42 = .struct [(0, 2, true), (2, 2, true)] [.nil, .bool false, .nil, .bool false] := rfl
@[simp] theorem ety43 : env.ty 43 = .struct [(0, 2, true), (2, 2, true)] [.nil, .bool false, .nil, .bool false] := rfl
@[simp] theorem ety44 : env.ty 44 = .struct [(0, 1, false), (1, 1, false), (2, 4, true), (6, 4, true)] [.nil, .nil, .nil, .bool false, .nil, .bool false, .nil, .bool false, .nil, .bool false] := rfl
@[simp] theorem ety45 : env.ty 45 = .struct [(0, 1, false), (1, 1, false), (2, 4, true), (6, 4, true)] [.nil, .nil, .nil, .bool false, .nil, .bool false, .nil, .bool false, .nil, .bool false] := rfl
@[simp] theorem ety54 : env.ty 54 = .slice 138 5 88 [.nil, .nil, .bool false, .nil, .int .i64 0] := rfl
@[simp] theorem ety55 : env.ty 55 = .arr 29 4 4 [.nil, .nil, .bool false, .nil, .nil, .nil, .bool false, .nil, .nil, .nil, .bool false, .nil, .nil, .nil, .bool false, .nil] := rfl
@[simp] theorem ety56 : env.ty 56 = .struct [(0, 1, false), (1, 1, false), (2, 4, true)] [.nil, .nil, .nil, .nil, .bool false, .nil] := rfl
@[simp] theorem ety57 : env.ty 57 = .struct [(0, 1, false), (1, 1, false), (2, 4, true)] [.nil, .nil, .nil, .nil, .bool false, .nil] := rfl
@[simp] theorem ety58 : env.ty 58 = .arr 57 4 6 [.nil, .nil, .nil, .nil, .bool false, .nil, .nil, .nil, .nil, .nil, .bool false, .nil, .nil, .nil, .nil, .nil, .bool false, .nil, .nil, .nil, .nil, .nil, .bool false, .nil] := rfl
@[simp] theorem ety61 : env.ty 61 = .int .i64 := rfl
@[simp] theorem ety77 : env.ty 77 = .ptrT := rfl
@[simp] theorem ety80 : env.ty 80 = .struct [(0, 2, true), (2, 2, true)] [.bool false, .nil, .bool false, .nil] := rfl
@[simp] theorem ety81 : env.ty 81 = .struct [(0, 2, true), (2, 2, true)] [.bool false, .nil, .bool false, .nil] := rfl
@[simp] theorem ety99 : env.ty 99 = .slice 108 9 152 [.nil, .bool false, .nil, .bool false, .nil, .bool false, .nil, .bool false, .nil] := rfl
@[simp] theorem ety103 : env.ty 103 = .slice 45 10 176 [.nil, .nil, .nil, .bool false, .nil, .bool false, .nil, .bool false, .nil, .bool false] := rfl
@[simp] theorem ety107 : env.ty 107 = .struct [(0, 1, false), (1, 4, true), (5, 4, true)] [.nil, .bool false, .nil, .bool false, .nil, .bool false, .nil, .bool false, .nil] := rfl
@[simp] theorem ety108 : env.ty 108 = .struct [(0, 1, false), (1, 4, true), (5, 4, true)] [.nil, .bool false, .nil, .bool false, .nil, .bool false, .nil, .bool false, .nil] := rfl
@[simp] theorem ety125 : env.ty 125 = .slice 24 1 24 [.nil] := rfl
@[simp] theorem ety137 : env.ty 137 = .struct [(0, 4, true), (4, 1, false)] [.nil, .nil, .bool false, .nil, .int .i64 0] := rfl
@[simp] theorem ety138 : env.ty 138 = .struct [(0, 4, true), (4, 1, false)] [.nil, .nil, .bool false, .nil, .int .i64 0] := rfl
@[simp] theorem ety149 : env.ty 149 = .struct [(0, 1, false)] [.nil] := rfl
@[simp] theorem ety150 : env.ty 150 = .struct [(0, 1, false)] [.nil] := rfl
@[simp] theorem ety169 : env.ty 169 = .int .u32 := rfl
@[simp] theorem ety182 : env.ty 182 = .slice 125 1 24 [.nil] := rfl
@[simp] theorem ety195 : env.ty 195 = .int .u64 := rfl
@[simp] theorem ety196 : env.ty 196 = .int .u64 := rfl
@[simp] theorem ety217 : env.ty 217 = .slice 81 4 64 [.bool false, .nil, .bool false, .nil] := rfl
@[simp] theorem ety240 : env.ty 240 = .int .u8 := rfl
@[simp] theorem ety241 : env.ty 241 = .int .u8 := rfl
@[simp] theorem ety244 : env.ty 244 = .int .i32 := rfl
@[simp] theorem ety245 : env.ty 245 = .int .i32 := rfl
end Go.Proofs.YtdiladmkbpnhoaaGreat
