import Derived.Test.YtbbjgncblhfegaaGreatProg
import Derived.KernelRfl
import Derived.Test.YtbbjgncblhfegaaGreatQad
set_option linter.unusedSimpArgs false
set_option linter.unusedVariables false
/- The types of the seat, as the pure machine wants them: closed facts, each by the kernel. -/
namespace Go.Proofs.YtbbjgncblhfegaaGreat
open Go Pm
def ti2 : TI := .int .i64
theorem amZ : cE Tryz.prog 2 ti2 := ⟨by kernel_rfl, (aD (v := .int .i64 0) (by kernel_rfl) rfl (by kernel_rfl) rfl (by decide))⟩
def ti3 : TI := .int .i64
theorem am0 : cE Tryz.prog 3 ti3 := ⟨by kernel_rfl, (aD (v := .int .i64 0) (by kernel_rfl) rfl (by kernel_rfl) rfl (by decide))⟩
def ti4 : TI := .bool
theorem am1 : cE Tryz.prog 4 ti4 := ⟨by kernel_rfl, (aD (v := .bool false) (by kernel_rfl) rfl (by kernel_rfl) rfl (by decide))⟩
def ti5 : TI := .int .u8
theorem am2 : cE Tryz.prog 5 ti5 := ⟨by kernel_rfl, (aD (v := .int .u8 0) (by kernel_rfl) rfl (by kernel_rfl) rfl (by decide))⟩
def ti6 : TI := .int .u8
theorem am3 : cE Tryz.prog 6 ti6 := ⟨by kernel_rfl, (aD (v := .int .u8 0) (by kernel_rfl) rfl (by kernel_rfl) rfl (by decide))⟩
def ti7 : TI := .struct [(0, 1, false), (1, 1, false), (2, 1, false), (3, 1, false)] [.int .i64 0, .int .i64 0, .bool false, .int .u8 0]
theorem am4 : cE Tryz.prog 7 ti7 := ⟨bA (by kernel_rfl), (aD (v := .agg #[.int .i64 0, .int .i64 0, .bool false, .int .u8 0]) (by kernel_rfl) rfl (by kernel_rfl) rfl (by decide))⟩
def ti8 : TI := .struct [(0, 1, false), (1, 1, false), (2, 1, false), (3, 1, false)] [.int .i64 0, .int .i64 0, .bool false, .int .u8 0]
theorem am5 : cE Tryz.prog 8 ti8 := ⟨bA (by kernel_rfl), (aD (v := .agg #[.int .i64 0, .int .i64 0, .bool false, .int .u8 0]) (by kernel_rfl) rfl (by kernel_rfl) rfl (by decide))⟩
def ti9 : TI := .str
theorem am6 : cE Tryz.prog 9 ti9 := ⟨by kernel_rfl, (aD (v := .string ⟨#[]⟩) (by kernel_rfl) rfl (by kernel_rfl) rfl (by decide))⟩
def am7 : TI := .str
theorem ahO : cE Tryz.prog 10 am7 := ⟨by kernel_rfl, (aD (v := .string ⟨#[]⟩) (by kernel_rfl) rfl (by kernel_rfl) rfl (by decide))⟩
def am8 : TI := .str
theorem ahP : cE Tryz.prog 11 am8 := ⟨by kernel_rfl, (aD (v := .string ⟨#[]⟩) (by kernel_rfl) rfl (by kernel_rfl) rfl (by decide))⟩
def am9 : TI := .int .u64
theorem ahQ : cE Tryz.prog 12 am9 := ⟨by kernel_rfl, (aD (v := .int .u64 0) (by kernel_rfl) rfl (by kernel_rfl) rfl (by decide))⟩
def ana : TI := .struct [(0, 1, false), (1, 1, false)] [.str ⟨#[]⟩, .int .u64 0]
theorem ahR : cE Tryz.prog 13 ana := ⟨bA (by kernel_rfl), (aD (v := .agg #[.string ⟨#[]⟩, .int .u64 0]) (by kernel_rfl) rfl (by kernel_rfl) rfl (by decide))⟩
def anb : TI := .struct [(0, 1, false), (1, 1, false)] [.str ⟨#[]⟩, .int .u64 0]
theorem ahS : cE Tryz.prog 14 anb := ⟨bA (by kernel_rfl), (aD (v := .agg #[.string ⟨#[]⟩, .int .u64 0]) (by kernel_rfl) rfl (by kernel_rfl) rfl (by decide))⟩
def anc : TI := .int .i32
theorem ahT : cE Tryz.prog 21 anc := ⟨by kernel_rfl, (aD (v := .int .i32 0) (by kernel_rfl) rfl (by kernel_rfl) rfl (by decide))⟩
def ane : TI := .slice 3 1 8 [.int .i64 0]
theorem ahU : cE Tryz.prog 22 ane := ⟨by kernel_rfl, (aD (v := .slice none 0 0) (by kernel_rfl) rfl (by kernel_rfl) rfl (by decide)), (aD (v := .int .i64 0) (by kernel_rfl) rfl (by kernel_rfl) rfl (by decide)), cK (by kernel_rfl)⟩
def anf : TI := .slice 50 4 64 [.nil, .bool false, .nil, .bool false]
theorem ahV : cE Tryz.prog 23 anf := ⟨by kernel_rfl, (aD (v := .slice none 0 0) (by kernel_rfl) rfl (by kernel_rfl) rfl (by decide)), (aD (v := .agg #[.slice none 0 0, .bool false, .slice none 0 0, .bool false]) (by kernel_rfl) rfl (by kernel_rfl) rfl (by decide)), cK (by kernel_rfl)⟩
def ang : TI := .slice 50 4 64 [.nil, .bool false, .nil, .bool false]
theorem ahW : cE Tryz.prog 24 ang := ⟨by kernel_rfl, (aD (v := .slice none 0 0) (by kernel_rfl) rfl (by kernel_rfl) rfl (by decide)), (aD (v := .agg #[.slice none 0 0, .bool false, .slice none 0 0, .bool false]) (by kernel_rfl) rfl (by kernel_rfl) rfl (by decide)), cK (by kernel_rfl)⟩
def anh : TI := .slice 44 9 152 [.nil, .bool false, .nil, .bool false, .nil, .bool false, .nil, .bool false, .nil]
theorem ahX : cE Tryz.prog 26 anh := ⟨by kernel_rfl, (aD (v := .slice none 0 0) (by kernel_rfl) rfl (by kernel_rfl) rfl (by decide)), (aD (v := .agg #[.slice none 0 0, .bool false, .slice none 0 0, .bool false, .slice none 0 0, .bool false, .slice none 0 0, .bool false, .slice none 0 0]) (by kernel_rfl) rfl (by kernel_rfl) rfl (by decide)), cK (by kernel_rfl)⟩
def ani : TI := .int .i64
theorem ahY : cE Tryz.prog 27 ani := ⟨by kernel_rfl, (aD (v := .int .i64 0) (by kernel_rfl) rfl (by kernel_rfl) rfl (by decide))⟩
def anj : TI := .slice 40 2 32 [.bool false, .nil]
theorem ahZ : cE Tryz.prog 30 anj := ⟨by kernel_rfl, (aD (v := .slice none 0 0) (by kernel_rfl) rfl (by kernel_rfl) rfl (by decide)), (aD (v := .agg #[.bool false, .slice none 0 0]) (by kernel_rfl) rfl (by kernel_rfl) rfl (by decide)), cK (by kernel_rfl)⟩
def ank : TI := .slice 40 2 32 [.bool false, .nil]
theorem ah0 : cE Tryz.prog 31 ank := ⟨by kernel_rfl, (aD (v := .slice none 0 0) (by kernel_rfl) rfl (by kernel_rfl) rfl (by decide)), (aD (v := .agg #[.bool false, .slice none 0 0]) (by kernel_rfl) rfl (by kernel_rfl) rfl (by decide)), cK (by kernel_rfl)⟩
def anl : TI := .slice 68 10 176 [.nil, .nil, .nil, .bool false, .nil, .bool false, .nil, .bool false, .nil, .bool false]
theorem ah1 : cE Tryz.prog 34 anl := ⟨by kernel_rfl, (aD (v := .slice none 0 0) (by kernel_rfl) rfl (by kernel_rfl) rfl (by decide)), (aD (v := .agg #[.slice none 0 0, .slice none 0 0, .slice none 0 0, .bool false, .slice none 0 0, .bool false, .slice none 0 0, .bool false, .slice none 0 0, .bool false]) (by kernel_rfl) rfl (by kernel_rfl) rfl (by decide)), cK (by kernel_rfl)⟩
def anm : TI := .slice 143 1 4 [.int .u32 0]
theorem ah2 : cE Tryz.prog 38 anm := ⟨by kernel_rfl, (aD (v := .slice none 0 0) (by kernel_rfl) rfl (by kernel_rfl) rfl (by decide)), (aD (v := .int .u32 0) (by kernel_rfl) rfl (by kernel_rfl) rfl (by decide)), cK (by kernel_rfl)⟩
def ann : TI := .struct [(0, 1, false), (1, 1, false)] [.bool false, .nil]
theorem ah3 : cE Tryz.prog 39 ann := ⟨bA (by kernel_rfl), (aD (v := .agg #[.bool false, .slice none 0 0]) (by kernel_rfl) rfl (by kernel_rfl) rfl (by decide))⟩
def ano : TI := .struct [(0, 1, false), (1, 1, false)] [.bool false, .nil]
theorem ah4 : cE Tryz.prog 40 ano := ⟨bA (by kernel_rfl), (aD (v := .agg #[.bool false, .slice none 0 0]) (by kernel_rfl) rfl (by kernel_rfl) rfl (by decide))⟩
def anp : TI := .struct [(0, 2, true), (2, 2, true)] [.bool false, .nil, .bool false, .nil]
theorem ah5 : cE Tryz.prog 41 anp := ⟨bA (by kernel_rfl), (aD (v := .agg #[.bool false, .slice none 0 0, .bool false, .slice none 0 0]) (by kernel_rfl) rfl (by kernel_rfl) rfl (by decide))⟩
def anq : TI := .struct [(0, 2, true), (2, 2, true)] [.bool false, .nil, .bool false, .nil]
theorem ah6 : cE Tryz.prog 42 anq := ⟨bA (by kernel_rfl), (aD (v := .agg #[.bool false, .slice none 0 0, .bool false, .slice none 0 0]) (by kernel_rfl) rfl (by kernel_rfl) rfl (by decide))⟩
def anr : TI := .struct [(0, 1, false), (1, 4, true), (5, 4, true)] [.nil, .bool false, .nil, .bool false, .nil, .bool false, .nil, .bool false, .nil]
theorem ah7 : cE Tryz.prog 43 anr := ⟨bA (by kernel_rfl), (aD (v := .agg #[.slice none 0 0, .bool false, .slice none 0 0, .bool false, .slice none 0 0, .bool false, .slice none 0 0, .bool false, .slice none 0 0]) (by kernel_rfl) rfl (by kernel_rfl) rfl (by decide))⟩
def ans : TI := .struct [(0, 1, false), (1, 4, true), (5, 4, true)] [.nil, .bool false, .nil, .bool false, .nil, .bool false, .nil, .bool false, .nil]
theorem ah8 : cE Tryz.prog 44 ans := ⟨bA (by kernel_rfl), (aD (v := .agg #[.slice none 0 0, .bool false, .slice none 0 0, .bool false, .slice none 0 0, .bool false, .slice none 0 0, .bool false, .slice none 0 0]) (by kernel_rfl) rfl (by kernel_rfl) rfl (by decide))⟩
def ant : TI := .slice 3 1 8 [.int .i64 0]
theorem ah9 : cE Tryz.prog 46 ant := ⟨by kernel_rfl, (aD (v := .slice none 0 0) (by kernel_rfl) rfl (by kernel_rfl) rfl (by decide)), (aD (v := .int .i64 0) (by kernel_rfl) rfl (by kernel_rfl) rfl (by decide)), cK (by kernel_rfl)⟩
def anu : TI := .struct [(0, 1, false), (1, 1, false)] [.nil, .bool false]
theorem aia : cE Tryz.prog 47 anu := ⟨bA (by kernel_rfl), (aD (v := .agg #[.slice none 0 0, .bool false]) (by kernel_rfl) rfl (by kernel_rfl) rfl (by decide))⟩
def anv : TI := .struct [(0, 1, false), (1, 1, false)] [.nil, .bool false]
theorem aib : cE Tryz.prog 48 anv := ⟨bA (by kernel_rfl), (aD (v := .agg #[.slice none 0 0, .bool false]) (by kernel_rfl) rfl (by kernel_rfl) rfl (by decide))⟩
def anw : TI := .struct [(0, 2, true), (2, 2, true)] [.nil, .bool false, .nil, .bool false]
theorem aic : cE Tryz.prog 49 anw := ⟨bA (by kernel_rfl), (aD (v := .agg #[.slice none 0 0, .bool false, .slice none 0 0, .bool false]) (by kernel_rfl) rfl (by kernel_rfl) rfl (by decide))⟩
def anx : TI := .struct [(0, 2, true), (2, 2, true)] [.nil, .bool false, .nil, .bool false]
theorem aid : cE Tryz.prog 50 anx := ⟨bA (by kernel_rfl), (aD (v := .agg #[.slice none 0 0, .bool false, .slice none 0 0, .bool false]) (by kernel_rfl) rfl (by kernel_rfl) rfl (by decide))⟩
def anz : TI := .slice 24 1 24 [.nil]
theorem aie : cE Tryz.prog 66 anz := ⟨by kernel_rfl, (aD (v := .slice none 0 0) (by kernel_rfl) rfl (by kernel_rfl) rfl (by decide)), (aD (v := .slice none 0 0) (by kernel_rfl) rfl (by kernel_rfl) rfl (by decide)), cK (by kernel_rfl)⟩
def anA : TI := .struct [(0, 1, false), (1, 1, false), (2, 4, true), (6, 4, true)] [.nil, .nil, .nil, .bool false, .nil, .bool false, .nil, .bool false, .nil, .bool false]
theorem aif : cE Tryz.prog 67 anA := ⟨bA (by kernel_rfl), (aD (v := .agg #[.slice none 0 0, .slice none 0 0, .slice none 0 0, .bool false, .slice none 0 0, .bool false, .slice none 0 0, .bool false, .slice none 0 0, .bool false]) (by kernel_rfl) rfl (by kernel_rfl) rfl (by decide))⟩
def anB : TI := .struct [(0, 1, false), (1, 1, false), (2, 4, true), (6, 4, true)] [.nil, .nil, .nil, .bool false, .nil, .bool false, .nil, .bool false, .nil, .bool false]
theorem aih : cE Tryz.prog 68 anB := ⟨bA (by kernel_rfl), (aD (v := .agg #[.slice none 0 0, .slice none 0 0, .slice none 0 0, .bool false, .slice none 0 0, .bool false, .slice none 0 0, .bool false, .slice none 0 0, .bool false]) (by kernel_rfl) rfl (by kernel_rfl) rfl (by decide))⟩
def afe : TI := .slice 119 5 88 [.nil, .nil, .bool false, .nil, .int .i64 0]
theorem acu : cE Tryz.prog 106 afe := ⟨by kernel_rfl, (aD (v := .slice none 0 0) (by kernel_rfl) rfl (by kernel_rfl) rfl (by decide)), (aD (v := .agg #[.slice none 0 0, .slice none 0 0, .bool false, .slice none 0 0, .int .i64 0]) (by kernel_rfl) rfl (by kernel_rfl) rfl (by decide)), cK (by kernel_rfl)⟩
def aff : TI := .slice 116 7 136 [.nil, .nil, .nil, .nil, .bool false, .nil, .int .i64 0]
theorem acv : cE Tryz.prog 107 aff := ⟨by kernel_rfl, (aD (v := .slice none 0 0) (by kernel_rfl) rfl (by kernel_rfl) rfl (by decide)), (aD (v := .agg #[.slice none 0 0, .slice none 0 0, .slice none 0 0, .slice none 0 0, .bool false, .slice none 0 0, .int .i64 0]) (by kernel_rfl) rfl (by kernel_rfl) rfl (by decide)), cK (by kernel_rfl)⟩
def afg : TI := .struct [(0, 1, false), (1, 1, false), (2, 2, true)] [.nil, .nil, .bool false, .nil]
theorem acw : cE Tryz.prog 111 afg := ⟨bA (by kernel_rfl), (aD (v := .agg #[.slice none 0 0, .slice none 0 0, .bool false, .slice none 0 0]) (by kernel_rfl) rfl (by kernel_rfl) rfl (by decide))⟩
def afh : TI := .struct [(0, 1, false), (1, 1, false), (2, 2, true)] [.nil, .nil, .bool false, .nil]
theorem acx : cE Tryz.prog 112 afh := ⟨bA (by kernel_rfl), (aD (v := .agg #[.slice none 0 0, .slice none 0 0, .bool false, .slice none 0 0]) (by kernel_rfl) rfl (by kernel_rfl) rfl (by decide))⟩
def afi : TI := .struct [(0, 1, false), (1, 1, false), (2, 4, true)] [.nil, .nil, .nil, .nil, .bool false, .nil]
theorem acy : cE Tryz.prog 113 afi := ⟨bA (by kernel_rfl), (aD (v := .agg #[.slice none 0 0, .slice none 0 0, .slice none 0 0, .slice none 0 0, .bool false, .slice none 0 0]) (by kernel_rfl) rfl (by kernel_rfl) rfl (by decide))⟩
def afj : TI := .struct [(0, 1, false), (1, 1, false), (2, 4, true)] [.nil, .nil, .nil, .nil, .bool false, .nil]
theorem acz : cE Tryz.prog 114 afj := ⟨bA (by kernel_rfl), (aD (v := .agg #[.slice none 0 0, .slice none 0 0, .slice none 0 0, .slice none 0 0, .bool false, .slice none 0 0]) (by kernel_rfl) rfl (by kernel_rfl) rfl (by decide))⟩
def afk : TI := .struct [(0, 6, true), (6, 1, false)] [.nil, .nil, .nil, .nil, .bool false, .nil, .int .i64 0]
theorem acA : cE Tryz.prog 115 afk := ⟨bA (by kernel_rfl), (aD (v := .agg #[.slice none 0 0, .slice none 0 0, .slice none 0 0, .slice none 0 0, .bool false, .slice none 0 0, .int .i64 0]) (by kernel_rfl) rfl (by kernel_rfl) rfl (by decide))⟩
def afl : TI := .struct [(0, 6, true), (6, 1, false)] [.nil, .nil, .nil, .nil, .bool false, .nil, .int .i64 0]
theorem acB : cE Tryz.prog 116 afl := ⟨bA (by kernel_rfl), (aD (v := .agg #[.slice none 0 0, .slice none 0 0, .slice none 0 0, .slice none 0 0, .bool false, .slice none 0 0, .int .i64 0]) (by kernel_rfl) rfl (by kernel_rfl) rfl (by decide))⟩
def afm : TI := .fnT
theorem acC : cE Tryz.prog 117 afm := ⟨by kernel_rfl, (aD (v := .nilFunc) (by kernel_rfl) rfl (by kernel_rfl) rfl (by decide))⟩
def afn : TI := .struct [(0, 4, true), (4, 1, false)] [.nil, .nil, .bool false, .nil, .int .i64 0]
theorem acD : cE Tryz.prog 118 afn := ⟨bA (by kernel_rfl), (aD (v := .agg #[.slice none 0 0, .slice none 0 0, .bool false, .slice none 0 0, .int .i64 0]) (by kernel_rfl) rfl (by kernel_rfl) rfl (by decide))⟩
def afo : TI := .struct [(0, 4, true), (4, 1, false)] [.nil, .nil, .bool false, .nil, .int .i64 0]
theorem acE : cE Tryz.prog 119 afo := ⟨bA (by kernel_rfl), (aD (v := .agg #[.slice none 0 0, .slice none 0 0, .bool false, .slice none 0 0, .int .i64 0]) (by kernel_rfl) rfl (by kernel_rfl) rfl (by decide))⟩
def afp : TI := .slice 117 1 8 [.undef]
theorem acF : cE Tryz.prog 122 afp := ⟨by kernel_rfl, (aD (v := .slice none 0 0) (by kernel_rfl) rfl (by kernel_rfl) rfl (by decide)), (aD (v := .nilFunc) (by kernel_rfl) rfl (by kernel_rfl) rfl (by decide)), cK (by kernel_rfl)⟩
def afq : TI := .int .u32
theorem acG : cE Tryz.prog 143 afq := ⟨by kernel_rfl, (aD (v := .int .u32 0) (by kernel_rfl) rfl (by kernel_rfl) rfl (by decide))⟩
def afr : TI := .slice 31 1 24 [.nil]
theorem acH : cE Tryz.prog 163 afr := ⟨by kernel_rfl, (aD (v := .slice none 0 0) (by kernel_rfl) rfl (by kernel_rfl) rfl (by decide)), (aD (v := .slice none 0 0) (by kernel_rfl) rfl (by kernel_rfl) rfl (by decide)), cK (by kernel_rfl)⟩
def afs : TI := .struct [(0, 1, false)] [.nil]
theorem acI : cE Tryz.prog 179 afs := ⟨bA (by kernel_rfl), (aD (v := .agg #[.slice none 0 0]) (by kernel_rfl) rfl (by kernel_rfl) rfl (by decide))⟩
def aft : TI := .struct [(0, 1, false)] [.nil]
theorem acJ : cE Tryz.prog 180 aft := ⟨bA (by kernel_rfl), (aD (v := .agg #[.slice none 0 0]) (by kernel_rfl) rfl (by kernel_rfl) rfl (by decide))⟩
def afu : TI := .slice 42 4 64 [.bool false, .nil, .bool false, .nil]
theorem acK : cE Tryz.prog 206 afu := ⟨by kernel_rfl, (aD (v := .slice none 0 0) (by kernel_rfl) rfl (by kernel_rfl) rfl (by decide)), (aD (v := .agg #[.bool false, .slice none 0 0, .bool false, .slice none 0 0]) (by kernel_rfl) rfl (by kernel_rfl) rfl (by decide)), cK (by kernel_rfl)⟩
def afv : TI := .int .u64
theorem acL : cE Tryz.prog 208 afv := ⟨by kernel_rfl, (aD (v := .int .u64 0) (by kernel_rfl) rfl (by kernel_rfl) rfl (by decide))⟩
def afw : TI := .int .u64
theorem acM : cE Tryz.prog 210 afw := ⟨by kernel_rfl, (aD (v := .int .u64 0) (by kernel_rfl) rfl (by kernel_rfl) rfl (by decide))⟩
def afx : TI := .slice 163 1 24 [.nil]
theorem acN : cE Tryz.prog 242 afx := ⟨by kernel_rfl, (aD (v := .slice none 0 0) (by kernel_rfl) rfl (by kernel_rfl) rfl (by decide)), (aD (v := .slice none 0 0) (by kernel_rfl) rfl (by kernel_rfl) rfl (by decide)), cK (by kernel_rfl)⟩
def afy : TI := .int .u8
theorem acO : cE Tryz.prog 264 afy := ⟨by kernel_rfl, (aD (v := .int .u8 0) (by kernel_rfl) rfl (by kernel_rfl) rfl (by decide))⟩
def afz : TI := .int .u8
theorem acP : cE Tryz.prog 265 afz := ⟨by kernel_rfl, (aD (v := .int .u8 0) (by kernel_rfl) rfl (by kernel_rfl) rfl (by decide))⟩
def afA : TI := .int .i32
theorem acQ : cE Tryz.prog 268 afA := ⟨by kernel_rfl, (aD (v := .int .i32 0) (by kernel_rfl) rfl (by kernel_rfl) rfl (by decide))⟩
def afB : TI := .int .i32
theorem acR : cE Tryz.prog 269 afB := ⟨by kernel_rfl, (aD (v := .int .i32 0) (by kernel_rfl) rfl (by kernel_rfl) rfl (by decide))⟩
def tyF : TypeId → TI
  | 2 => ti2
  | 3 => ti3
  | 4 => ti4
  | 5 => ti5
  | 6 => ti6
  | 7 => ti7
  | 8 => ti8
  | 9 => ti9
  | 10 => am7
  | 11 => am8
  | 12 => am9
  | 13 => ana
  | 14 => anb
  | 21 => anc
  | 22 => ane
  | 23 => anf
  | 24 => ang
  | 26 => anh
  | 27 => ani
  | 30 => anj
  | 31 => ank
  | 34 => anl
  | 38 => anm
  | 39 => ann
  | 40 => ano
  | 41 => anp
  | 42 => anq
  | 43 => anr
  | 44 => ans
  | 46 => ant
  | 47 => anu
  | 48 => anv
  | 49 => anw
  | 50 => anx
  | 66 => anz
  | 67 => anA
  | 68 => anB
  | 106 => afe
  | 107 => aff
  | 111 => afg
  | 112 => afh
  | 113 => afi
  | 114 => afj
  | 115 => afk
  | 116 => afl
  | 117 => afm
  | 118 => afn
  | 119 => afo
  | 122 => afp
  | 143 => afq
  | 163 => afr
  | 179 => afs
  | 180 => aft
  | 206 => afu
  | 208 => afv
  | 210 => afw
  | 242 => afx
  | 264 => afy
  | 265 => afz
  | 268 => afA
  | 269 => afB
  | _ => .other
theorem ar0 (t : TypeId) : cE Tryz.prog t (tyF t) := by
  unfold tyF
  split
  · exact amZ
  · exact am0
  · exact am1
  · exact am2
  · exact am3
  · exact am4
  · exact am5
  · exact am6
  · exact ahO
  · exact ahP
  · exact ahQ
  · exact ahR
  · exact ahS
  · exact ahT
  · exact ahU
  · exact ahV
  · exact ahW
  · exact ahX
  · exact ahY
  · exact ahZ
  · exact ah0
  · exact ah1
  · exact ah2
  · exact ah3
  · exact ah4
  · exact ah5
  · exact ah6
  · exact ah7
  · exact ah8
  · exact ah9
  · exact aia
  · exact aib
  · exact aic
  · exact aid
  · exact aie
  · exact aif
  · exact aih
  · exact acu
  · exact acv
  · exact acw
  · exact acx
  · exact acy
  · exact acz
  · exact acA
  · exact acB
  · exact acC
  · exact acD
  · exact acE
  · exact acF
  · exact acG
  · exact acH
  · exact acI
  · exact acJ
  · exact acK
  · exact acL
  · exact acM
  · exact acN
  · exact acO
  · exact acP
  · exact acQ
  · exact acR
  · trivial
theorem acS : Tryz.prog.follows .mixedOrders = true := by kernel_rfl
def L9 (g : FuncId) : Bool := g == 40 || g == 85 || g == 89 || g == 259 || g == 260
noncomputable def env : Env := ⟨Tryz.prog, tyF, ar0, acS, L9⟩
@[simp] theorem ap9 : env.writes = L9 := rfl
attribute [simp] L9
@[simp] theorem aw8 : env.ty 2 = .int .i64 := rfl
@[simp] theorem ar1 : env.ty 3 = .int .i64 := rfl
@[simp] theorem aw9 : env.ty 4 = .bool := rfl
@[simp] theorem anC : env.ty 5 = .int .u8 := rfl
@[simp] theorem axa : env.ty 6 = .int .u8 := rfl
@[simp] theorem axb : env.ty 7 = .struct [(0, 1, false), (1, 1, false), (2, 1, false), (3, 1, false)] [.int .i64 0, .int .i64 0, .bool false, .int .u8 0] := rfl
@[simp] theorem axc : env.ty 8 = .struct [(0, 1, false), (1, 1, false), (2, 1, false), (3, 1, false)] [.int .i64 0, .int .i64 0, .bool false, .int .u8 0] := rfl
@[simp] theorem axd : env.ty 9 = .str := rfl
@[simp] theorem au3 : env.ty 10 = .str := rfl
@[simp] theorem au4 : env.ty 11 = .str := rfl
@[simp] theorem au5 : env.ty 12 = .int .u64 := rfl
@[simp] theorem au6 : env.ty 13 = .struct [(0, 1, false), (1, 1, false)] [.str ⟨#[]⟩, .int .u64 0] := rfl
@[simp] theorem au7 : env.ty 14 = .struct [(0, 1, false), (1, 1, false)] [.str ⟨#[]⟩, .int .u64 0] := rfl
@[simp] theorem au8 : env.ty 21 = .int .i32 := rfl
@[simp] theorem au9 : env.ty 22 = .slice 3 1 8 [.int .i64 0] := rfl
@[simp] theorem ava : env.ty 23 = .slice 50 4 64 [.nil, .bool false, .nil, .bool false] := rfl
@[simp] theorem avb : env.ty 24 = .slice 50 4 64 [.nil, .bool false, .nil, .bool false] := rfl
@[simp] theorem avc : env.ty 26 = .slice 44 9 152 [.nil, .bool false, .nil, .bool false, .nil, .bool false, .nil, .bool false, .nil] := rfl
@[simp] theorem avd : env.ty 27 = .int .i64 := rfl
@[simp] theorem ave : env.ty 30 = .slice 40 2 32 [.bool false, .nil] := rfl
@[simp] theorem avf : env.ty 31 = .slice 40 2 32 [.bool false, .nil] := rfl
@[simp] theorem avg : env.ty 34 = .slice 68 10 176 [.nil, .nil, .nil, .bool false, .nil, .bool false, .nil, .bool false, .nil, .bool false] := rfl
@[simp] theorem avh : env.ty 38 = .slice 143 1 4 [.int .u32 0] := rfl
@[simp] theorem avi : env.ty 39 = .struct [(0, 1, false), (1, 1, false)] [.bool false, .nil] := rfl
@[simp] theorem avj : env.ty 40 = .struct [(0, 1, false), (1, 1, false)] [.bool false, .nil] := rfl
@[simp] theorem avk : env.ty 41 = .struct [(0, 2, true), (2, 2, true)] [.bool false, .nil, .bool false, .nil] := rfl
@[simp] theorem avl : env.ty 42 = .struct [(0, 2, true), (2, 2, true)] [.bool false, .nil, .bool false, .nil] := rfl
@[simp] theorem avm : env.ty 43 = .struct [(0, 1, false), (1, 4, true), (5, 4, true)] [.nil, .bool false, .nil, .bool false, .nil, .bool false, .nil, .bool false, .nil] := rfl
@[simp] theorem avn : env.ty 44 = .struct [(0, 1, false), (1, 4, true), (5, 4, true)] [.nil, .bool false, .nil, .bool false, .nil, .bool false, .nil, .bool false, .nil] := rfl
@[simp] theorem avo : env.ty 46 = .slice 3 1 8 [.int .i64 0] := rfl
@[simp] theorem avp : env.ty 47 = .struct [(0, 1, false), (1, 1, false)] [.nil, .bool false] := rfl
@[simp] theorem avq : env.ty 48 = .struct [(0, 1, false), (1, 1, false)] [.nil, .bool false] := rfl
@[simp] theorem avr : env.ty 49 = .struct [(0, 2, true), (2, 2, true)] [.nil, .bool false, .nil, .bool false] := rfl
@[simp] theorem avs : env.ty 50 = .struct [(0, 2, true), (2, 2, true)] [.nil, .bool false, .nil, .bool false] := rfl
@[simp] theorem avt : env.ty 66 = .slice 24 1 24 [.nil] := rfl
@[simp] theorem avu : env.ty 67 = .struct [(0, 1, false), (1, 1, false), (2, 4, true), (6, 4, true)] [.nil, .nil, .nil, .bool false, .nil, .bool false, .nil, .bool false, .nil, .bool false] := rfl
@[simp] theorem avv : env.ty 68 = .struct [(0, 1, false), (1, 1, false), (2, 4, true), (6, 4, true)] [.nil, .nil, .nil, .bool false, .nil, .bool false, .nil, .bool false, .nil, .bool false] := rfl
@[simp] theorem ar2 : env.ty 106 = .slice 119 5 88 [.nil, .nil, .bool false, .nil, .int .i64 0] := rfl
@[simp] theorem ar3 : env.ty 107 = .slice 116 7 136 [.nil, .nil, .nil, .nil, .bool false, .nil, .int .i64 0] := rfl
@[simp] theorem ar4 : env.ty 111 = .struct [(0, 1, false), (1, 1, false), (2, 2, true)] [.nil, .nil, .bool false, .nil] := rfl
@[simp] theorem ar5 : env.ty 112 = .struct [(0, 1, false), (1, 1, false), (2, 2, true)] [.nil, .nil, .bool false, .nil] := rfl
@[simp] theorem ar6 : env.ty 113 = .struct [(0, 1, false), (1, 1, false), (2, 4, true)] [.nil, .nil, .nil, .nil, .bool false, .nil] := rfl
@[simp] theorem ar7 : env.ty 114 = .struct [(0, 1, false), (1, 1, false), (2, 4, true)] [.nil, .nil, .nil, .nil, .bool false, .nil] := rfl
@[simp] theorem ar8 : env.ty 115 = .struct [(0, 6, true), (6, 1, false)] [.nil, .nil, .nil, .nil, .bool false, .nil, .int .i64 0] := rfl
@[simp] theorem ar9 : env.ty 116 = .struct [(0, 6, true), (6, 1, false)] [.nil, .nil, .nil, .nil, .bool false, .nil, .int .i64 0] := rfl
@[simp] theorem asa : env.ty 117 = .fnT := rfl
@[simp] theorem asb : env.ty 118 = .struct [(0, 4, true), (4, 1, false)] [.nil, .nil, .bool false, .nil, .int .i64 0] := rfl
@[simp] theorem asc : env.ty 119 = .struct [(0, 4, true), (4, 1, false)] [.nil, .nil, .bool false, .nil, .int .i64 0] := rfl
@[simp] theorem asd : env.ty 122 = .slice 117 1 8 [.undef] := rfl
@[simp] theorem aii : env.ty 143 = .int .u32 := rfl
@[simp] theorem ase : env.ty 163 = .slice 31 1 24 [.nil] := rfl
@[simp] theorem asf : env.ty 179 = .struct [(0, 1, false)] [.nil] := rfl
@[simp] theorem asg : env.ty 180 = .struct [(0, 1, false)] [.nil] := rfl
@[simp] theorem ash : env.ty 206 = .slice 42 4 64 [.bool false, .nil, .bool false, .nil] := rfl
@[simp] theorem asi : env.ty 208 = .int .u64 := rfl
@[simp] theorem asj : env.ty 210 = .int .u64 := rfl
@[simp] theorem asl : env.ty 242 = .slice 163 1 24 [.nil] := rfl
@[simp] theorem asm : env.ty 264 = .int .u8 := rfl
@[simp] theorem asn : env.ty 265 = .int .u8 := rfl
@[simp] theorem aso : env.ty 268 = .int .i32 := rfl
@[simp] theorem asp : env.ty 269 = .int .i32 := rfl
end Go.Proofs.YtbbjgncblhfegaaGreat
