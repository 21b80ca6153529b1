import Derived.Test.YtbbjgncblhfegaaGreatProg
import Derived.KernelRfl
import Derived.Test.YtbbjgncblhfegaaGreatPad
set_option linter.unusedSimpArgs false
set_option linter.unusedVariables false
/- The types of the seat, as the pure machine wants them: closed facts, each by the kernel. -/
namespace Go.Proofs.YtbbjgncblhfegaaGreat
open Go Pm
def ti2 : TI := .int .i64
theorem anr : cF Tryz.prog 2 ti2 := ⟨by kernel_rfl, (aD (v := .int .i64 0) (by kernel_rfl) rfl (by kernel_rfl) rfl (by decide))⟩
def ti3 : TI := .int .i64
theorem ans : cF Tryz.prog 3 ti3 := ⟨by kernel_rfl, (aD (v := .int .i64 0) (by kernel_rfl) rfl (by kernel_rfl) rfl (by decide))⟩
def ti4 : TI := .bool
theorem ant : cF Tryz.prog 4 ti4 := ⟨by kernel_rfl, (aD (v := .bool false) (by kernel_rfl) rfl (by kernel_rfl) rfl (by decide))⟩
def ti5 : TI := .int .u8
theorem anu : cF Tryz.prog 5 ti5 := ⟨by kernel_rfl, (aD (v := .int .u8 0) (by kernel_rfl) rfl (by kernel_rfl) rfl (by decide))⟩
def ti6 : TI := .int .u8
theorem anv : cF Tryz.prog 6 ti6 := ⟨by kernel_rfl, (aD (v := .int .u8 0) (by kernel_rfl) rfl (by kernel_rfl) rfl (by decide))⟩
def ti7 : TI := .struct [(0, 1, false), (1, 1, false), (2, 1, false), (3, 1, false)] [.int .i64 0, .int .i64 0, .bool false, .int .u8 0]
theorem anw : cF Tryz.prog 7 ti7 := ⟨bC (by kernel_rfl), (aD (v := .agg #[.int .i64 0, .int .i64 0, .bool false, .int .u8 0]) (by kernel_rfl) rfl (by kernel_rfl) rfl (by decide))⟩
def ti8 : TI := .struct [(0, 1, false), (1, 1, false), (2, 1, false), (3, 1, false)] [.int .i64 0, .int .i64 0, .bool false, .int .u8 0]
theorem anx : cF Tryz.prog 8 ti8 := ⟨bC (by kernel_rfl), (aD (v := .agg #[.int .i64 0, .int .i64 0, .bool false, .int .u8 0]) (by kernel_rfl) rfl (by kernel_rfl) rfl (by decide))⟩
def ti9 : TI := .str
theorem anz : cF Tryz.prog 9 ti9 := ⟨by kernel_rfl, (aD (v := .string ⟨#[]⟩) (by kernel_rfl) rfl (by kernel_rfl) rfl (by decide))⟩
def anA : TI := .str
theorem aic : cF Tryz.prog 10 anA := ⟨by kernel_rfl, (aD (v := .string ⟨#[]⟩) (by kernel_rfl) rfl (by kernel_rfl) rfl (by decide))⟩
def anB : TI := .str
theorem aid : cF Tryz.prog 11 anB := ⟨by kernel_rfl, (aD (v := .string ⟨#[]⟩) (by kernel_rfl) rfl (by kernel_rfl) rfl (by decide))⟩
def anC : TI := .int .u64
theorem aie : cF Tryz.prog 12 anC := ⟨by kernel_rfl, (aD (v := .int .u64 0) (by kernel_rfl) rfl (by kernel_rfl) rfl (by decide))⟩
def anD : TI := .struct [(0, 1, false), (1, 1, false)] [.str ⟨#[]⟩, .int .u64 0]
theorem aif : cF Tryz.prog 13 anD := ⟨bC (by kernel_rfl), (aD (v := .agg #[.string ⟨#[]⟩, .int .u64 0]) (by kernel_rfl) rfl (by kernel_rfl) rfl (by decide))⟩
def anE : TI := .struct [(0, 1, false), (1, 1, false)] [.str ⟨#[]⟩, .int .u64 0]
theorem aih : cF Tryz.prog 14 anE := ⟨bC (by kernel_rfl), (aD (v := .agg #[.string ⟨#[]⟩, .int .u64 0]) (by kernel_rfl) rfl (by kernel_rfl) rfl (by decide))⟩
def anF : TI := .int .i32
theorem aii : cF Tryz.prog 21 anF := ⟨by kernel_rfl, (aD (v := .int .i32 0) (by kernel_rfl) rfl (by kernel_rfl) rfl (by decide))⟩
def anG : TI := .slice 3 1 8 [.int .i64 0]
theorem aij : cF Tryz.prog 22 anG := ⟨by kernel_rfl, (aD (v := .slice none 0 0) (by kernel_rfl) rfl (by kernel_rfl) rfl (by decide)), (aD (v := .int .i64 0) (by kernel_rfl) rfl (by kernel_rfl) rfl (by decide)), cK (by kernel_rfl)⟩
def anH : TI := .slice 50 4 64 [.nil, .bool false, .nil, .bool false]
theorem aik : cF Tryz.prog 23 anH := ⟨by kernel_rfl, (aD (v := .slice none 0 0) (by kernel_rfl) rfl (by kernel_rfl) rfl (by decide)), (aD (v := .agg #[.slice none 0 0, .bool false, .slice none 0 0, .bool false]) (by kernel_rfl) rfl (by kernel_rfl) rfl (by decide)), cK (by kernel_rfl)⟩
def anI : TI := .slice 50 4 64 [.nil, .bool false, .nil, .bool false]
theorem ail : cF Tryz.prog 24 anI := ⟨by kernel_rfl, (aD (v := .slice none 0 0) (by kernel_rfl) rfl (by kernel_rfl) rfl (by decide)), (aD (v := .agg #[.slice none 0 0, .bool false, .slice none 0 0, .bool false]) (by kernel_rfl) rfl (by kernel_rfl) rfl (by decide)), cK (by kernel_rfl)⟩
def anJ : TI := .slice 44 9 152 [.nil, .bool false, .nil, .bool false, .nil, .bool false, .nil, .bool false, .nil]
theorem aim : cF Tryz.prog 26 anJ := ⟨by kernel_rfl, (aD (v := .slice none 0 0) (by kernel_rfl) rfl (by kernel_rfl) rfl (by decide)), (aD (v := .agg #[.slice none 0 0, .bool false, .slice none 0 0, .bool false, .slice none 0 0, .bool false, .slice none 0 0, .bool false, .slice none 0 0]) (by kernel_rfl) rfl (by kernel_rfl) rfl (by decide)), cK (by kernel_rfl)⟩
def anK : TI := .int .i64
theorem ain : cF Tryz.prog 27 anK := ⟨by kernel_rfl, (aD (v := .int .i64 0) (by kernel_rfl) rfl (by kernel_rfl) rfl (by decide))⟩
def anL : TI := .slice 40 2 32 [.bool false, .nil]
theorem aio : cF Tryz.prog 30 anL := ⟨by kernel_rfl, (aD (v := .slice none 0 0) (by kernel_rfl) rfl (by kernel_rfl) rfl (by decide)), (aD (v := .agg #[.bool false, .slice none 0 0]) (by kernel_rfl) rfl (by kernel_rfl) rfl (by decide)), cK (by kernel_rfl)⟩
def anM : TI := .slice 40 2 32 [.bool false, .nil]
theorem aip : cF Tryz.prog 31 anM := ⟨by kernel_rfl, (aD (v := .slice none 0 0) (by kernel_rfl) rfl (by kernel_rfl) rfl (by decide)), (aD (v := .agg #[.bool false, .slice none 0 0]) (by kernel_rfl) rfl (by kernel_rfl) rfl (by decide)), cK (by kernel_rfl)⟩
def anN : TI := .slice 68 10 176 [.nil, .nil, .nil, .bool false, .nil, .bool false, .nil, .bool false, .nil, .bool false]
theorem aiq : cF Tryz.prog 34 anN := ⟨by kernel_rfl, (aD (v := .slice none 0 0) (by kernel_rfl) rfl (by kernel_rfl) rfl (by decide)), (aD (v := .agg #[.slice none 0 0, .slice none 0 0, .slice none 0 0, .bool false, .slice none 0 0, .bool false, .slice none 0 0, .bool false, .slice none 0 0, .bool false]) (by kernel_rfl) rfl (by kernel_rfl) rfl (by decide)), cK (by kernel_rfl)⟩
def anO : TI := .slice 143 1 4 [.int .u32 0]
theorem air : cF Tryz.prog 38 anO := ⟨by kernel_rfl, (aD (v := .slice none 0 0) (by kernel_rfl) rfl (by kernel_rfl) rfl (by decide)), (aD (v := .int .u32 0) (by kernel_rfl) rfl (by kernel_rfl) rfl (by decide)), cK (by kernel_rfl)⟩
def anP : TI := .struct [(0, 1, false), (1, 1, false)] [.bool false, .nil]
theorem ais : cF Tryz.prog 39 anP := ⟨bC (by kernel_rfl), (aD (v := .agg #[.bool false, .slice none 0 0]) (by kernel_rfl) rfl (by kernel_rfl) rfl (by decide))⟩
def anQ : TI := .struct [(0, 1, false), (1, 1, false)] [.bool false, .nil]
theorem ait : cF Tryz.prog 40 anQ := ⟨bC (by kernel_rfl), (aD (v := .agg #[.bool false, .slice none 0 0]) (by kernel_rfl) rfl (by kernel_rfl) rfl (by decide))⟩
def anR : TI := .struct [(0, 2, true), (2, 2, true)] [.bool false, .nil, .bool false, .nil]
theorem aiu : cF Tryz.prog 41 anR := ⟨bC (by kernel_rfl), (aD (v := .agg #[.bool false, .slice none 0 0, .bool false, .slice none 0 0]) (by kernel_rfl) rfl (by kernel_rfl) rfl (by decide))⟩
def anS : TI := .struct [(0, 2, true), (2, 2, true)] [.bool false, .nil, .bool false, .nil]
theorem aiv : cF Tryz.prog 42 anS := ⟨bC (by kernel_rfl), (aD (v := .agg #[.bool false, .slice none 0 0, .bool false, .slice none 0 0]) (by kernel_rfl) rfl (by kernel_rfl) rfl (by decide))⟩
def anT : TI := .struct [(0, 1, false), (1, 4, true), (5, 4, true)] [.nil, .bool false, .nil, .bool false, .nil, .bool false, .nil, .bool false, .nil]
theorem aiw : cF Tryz.prog 43 anT := ⟨bC (by kernel_rfl), (aD (v := .agg #[.slice none 0 0, .bool false, .slice none 0 0, .bool false, .slice none 0 0, .bool false, .slice none 0 0, .bool false, .slice none 0 0]) (by kernel_rfl) rfl (by kernel_rfl) rfl (by decide))⟩
def anU : TI := .struct [(0, 1, false), (1, 4, true), (5, 4, true)] [.nil, .bool false, .nil, .bool false, .nil, .bool false, .nil, .bool false, .nil]
theorem aix : cF Tryz.prog 44 anU := ⟨bC (by kernel_rfl), (aD (v := .agg #[.slice none 0 0, .bool false, .slice none 0 0, .bool false, .slice none 0 0, .bool false, .slice none 0 0, .bool false, .slice none 0 0]) (by kernel_rfl) rfl (by kernel_rfl) rfl (by decide))⟩
def anV : TI := .slice 3 1 8 [.int .i64 0]
theorem aiy : cF Tryz.prog 46 anV := ⟨by kernel_rfl, (aD (v := .slice none 0 0) (by kernel_rfl) rfl (by kernel_rfl) rfl (by decide)), (aD (v := .int .i64 0) (by kernel_rfl) rfl (by kernel_rfl) rfl (by decide)), cK (by kernel_rfl)⟩
def anW : TI := .struct [(0, 1, false), (1, 1, false)] [.nil, .bool false]
theorem aiz : cF Tryz.prog 47 anW := ⟨bC (by kernel_rfl), (aD (v := .agg #[.slice none 0 0, .bool false]) (by kernel_rfl) rfl (by kernel_rfl) rfl (by decide))⟩
def anX : TI := .struct [(0, 1, false), (1, 1, false)] [.nil, .bool false]
theorem aiA : cF Tryz.prog 48 anX := ⟨bC (by kernel_rfl), (aD (v := .agg #[.slice none 0 0, .bool false]) (by kernel_rfl) rfl (by kernel_rfl) rfl (by decide))⟩
def anY : TI := .struct [(0, 2, true), (2, 2, true)] [.nil, .bool false, .nil, .bool false]
theorem aiB : cF Tryz.prog 49 anY := ⟨bC (by kernel_rfl), (aD (v := .agg #[.slice none 0 0, .bool false, .slice none 0 0, .bool false]) (by kernel_rfl) rfl (by kernel_rfl) rfl (by decide))⟩
def anZ : TI := .struct [(0, 2, true), (2, 2, true)] [.nil, .bool false, .nil, .bool false]
theorem aiC : cF Tryz.prog 50 anZ := ⟨bC (by kernel_rfl), (aD (v := .agg #[.slice none 0 0, .bool false, .slice none 0 0, .bool false]) (by kernel_rfl) rfl (by kernel_rfl) rfl (by decide))⟩
def an0 : TI := .slice 24 1 24 [.nil]
theorem aiD : cF Tryz.prog 66 an0 := ⟨by kernel_rfl, (aD (v := .slice none 0 0) (by kernel_rfl) rfl (by kernel_rfl) rfl (by decide)), (aD (v := .slice none 0 0) (by kernel_rfl) rfl (by kernel_rfl) rfl (by decide)), cK (by kernel_rfl)⟩
def an1 : TI := .struct [(0, 1, false), (1, 1, false), (2, 4, true), (6, 4, true)] [.nil, .nil, .nil, .bool false, .nil, .bool false, .nil, .bool false, .nil, .bool false]
theorem aiE : cF Tryz.prog 67 an1 := ⟨bC (by kernel_rfl), (aD (v := .agg #[.slice none 0 0, .slice none 0 0, .slice none 0 0, .bool false, .slice none 0 0, .bool false, .slice none 0 0, .bool false, .slice none 0 0, .bool false]) (by kernel_rfl) rfl (by kernel_rfl) rfl (by decide))⟩
def an2 : TI := .struct [(0, 1, false), (1, 1, false), (2, 4, true), (6, 4, true)] [.nil, .nil, .nil, .bool false, .nil, .bool false, .nil, .bool false, .nil, .bool false]
theorem aiF : cF Tryz.prog 68 an2 := ⟨bC (by kernel_rfl), (aD (v := .agg #[.slice none 0 0, .slice none 0 0, .slice none 0 0, .bool false, .slice none 0 0, .bool false, .slice none 0 0, .bool false, .slice none 0 0, .bool false]) (by kernel_rfl) rfl (by kernel_rfl) rfl (by decide))⟩
def afB : TI := .slice 119 5 88 [.nil, .nil, .bool false, .nil, .int .i64 0]
theorem acQ : cF Tryz.prog 106 afB := ⟨by kernel_rfl, (aD (v := .slice none 0 0) (by kernel_rfl) rfl (by kernel_rfl) rfl (by decide)), (aD (v := .agg #[.slice none 0 0, .slice none 0 0, .bool false, .slice none 0 0, .int .i64 0]) (by kernel_rfl) rfl (by kernel_rfl) rfl (by decide)), cK (by kernel_rfl)⟩
def afC : TI := .slice 116 7 136 [.nil, .nil, .nil, .nil, .bool false, .nil, .int .i64 0]
theorem acR : cF Tryz.prog 107 afC := ⟨by kernel_rfl, (aD (v := .slice none 0 0) (by kernel_rfl) rfl (by kernel_rfl) rfl (by decide)), (aD (v := .agg #[.slice none 0 0, .slice none 0 0, .slice none 0 0, .slice none 0 0, .bool false, .slice none 0 0, .int .i64 0]) (by kernel_rfl) rfl (by kernel_rfl) rfl (by decide)), cK (by kernel_rfl)⟩
def afD : TI := .struct [(0, 1, false), (1, 1, false), (2, 2, true)] [.nil, .nil, .bool false, .nil]
theorem acS : cF Tryz.prog 111 afD := ⟨bC (by kernel_rfl), (aD (v := .agg #[.slice none 0 0, .slice none 0 0, .bool false, .slice none 0 0]) (by kernel_rfl) rfl (by kernel_rfl) rfl (by decide))⟩
def afE : TI := .struct [(0, 1, false), (1, 1, false), (2, 2, true)] [.nil, .nil, .bool false, .nil]
theorem acT : cF Tryz.prog 112 afE := ⟨bC (by kernel_rfl), (aD (v := .agg #[.slice none 0 0, .slice none 0 0, .bool false, .slice none 0 0]) (by kernel_rfl) rfl (by kernel_rfl) rfl (by decide))⟩
def afF : TI := .struct [(0, 1, false), (1, 1, false), (2, 4, true)] [.nil, .nil, .nil, .nil, .bool false, .nil]
theorem acU : cF Tryz.prog 113 afF := ⟨bC (by kernel_rfl), (aD (v := .agg #[.slice none 0 0, .slice none 0 0, .slice none 0 0, .slice none 0 0, .bool false, .slice none 0 0]) (by kernel_rfl) rfl (by kernel_rfl) rfl (by decide))⟩
def afG : TI := .struct [(0, 1, false), (1, 1, false), (2, 4, true)] [.nil, .nil, .nil, .nil, .bool false, .nil]
theorem acV : cF Tryz.prog 114 afG := ⟨bC (by kernel_rfl), (aD (v := .agg #[.slice none 0 0, .slice none 0 0, .slice none 0 0, .slice none 0 0, .bool false, .slice none 0 0]) (by kernel_rfl) rfl (by kernel_rfl) rfl (by decide))⟩
def afH : TI := .struct [(0, 6, true), (6, 1, false)] [.nil, .nil, .nil, .nil, .bool false, .nil, .int .i64 0]
theorem acW : cF Tryz.prog 115 afH := ⟨bC (by kernel_rfl), (aD (v := .agg #[.slice none 0 0, .slice none 0 0, .slice none 0 0, .slice none 0 0, .bool false, .slice none 0 0, .int .i64 0]) (by kernel_rfl) rfl (by kernel_rfl) rfl (by decide))⟩
def afI : TI := .struct [(0, 6, true), (6, 1, false)] [.nil, .nil, .nil, .nil, .bool false, .nil, .int .i64 0]
theorem acX : cF Tryz.prog 116 afI := ⟨bC (by kernel_rfl), (aD (v := .agg #[.slice none 0 0, .slice none 0 0, .slice none 0 0, .slice none 0 0, .bool false, .slice none 0 0, .int .i64 0]) (by kernel_rfl) rfl (by kernel_rfl) rfl (by decide))⟩
def afJ : TI := .fnT
theorem acY : cF Tryz.prog 117 afJ := ⟨by kernel_rfl, (aD (v := .nilFunc) (by kernel_rfl) rfl (by kernel_rfl) rfl (by decide))⟩
def afK : TI := .struct [(0, 4, true), (4, 1, false)] [.nil, .nil, .bool false, .nil, .int .i64 0]
theorem acZ : cF Tryz.prog 118 afK := ⟨bC (by kernel_rfl), (aD (v := .agg #[.slice none 0 0, .slice none 0 0, .bool false, .slice none 0 0, .int .i64 0]) (by kernel_rfl) rfl (by kernel_rfl) rfl (by decide))⟩
def afL : TI := .struct [(0, 4, true), (4, 1, false)] [.nil, .nil, .bool false, .nil, .int .i64 0]
theorem ac0 : cF Tryz.prog 119 afL := ⟨bC (by kernel_rfl), (aD (v := .agg #[.slice none 0 0, .slice none 0 0, .bool false, .slice none 0 0, .int .i64 0]) (by kernel_rfl) rfl (by kernel_rfl) rfl (by decide))⟩
def afM : TI := .slice 117 1 8 [.undef]
theorem ac1 : cF Tryz.prog 122 afM := ⟨by kernel_rfl, (aD (v := .slice none 0 0) (by kernel_rfl) rfl (by kernel_rfl) rfl (by decide)), (aD (v := .nilFunc) (by kernel_rfl) rfl (by kernel_rfl) rfl (by decide)), cK (by kernel_rfl)⟩
def afN : TI := .int .u32
theorem ac2 : cF Tryz.prog 143 afN := ⟨by kernel_rfl, (aD (v := .int .u32 0) (by kernel_rfl) rfl (by kernel_rfl) rfl (by decide))⟩
def afO : TI := .slice 31 1 24 [.nil]
theorem ac3 : cF Tryz.prog 163 afO := ⟨by kernel_rfl, (aD (v := .slice none 0 0) (by kernel_rfl) rfl (by kernel_rfl) rfl (by decide)), (aD (v := .slice none 0 0) (by kernel_rfl) rfl (by kernel_rfl) rfl (by decide)), cK (by kernel_rfl)⟩
def afP : TI := .struct [(0, 1, false)] [.nil]
theorem ac4 : cF Tryz.prog 179 afP := ⟨bC (by kernel_rfl), (aD (v := .agg #[.slice none 0 0]) (by kernel_rfl) rfl (by kernel_rfl) rfl (by decide))⟩
def afQ : TI := .struct [(0, 1, false)] [.nil]
theorem ac5 : cF Tryz.prog 180 afQ := ⟨bC (by kernel_rfl), (aD (v := .agg #[.slice none 0 0]) (by kernel_rfl) rfl (by kernel_rfl) rfl (by decide))⟩
def afR : TI := .slice 42 4 64 [.bool false, .nil, .bool false, .nil]
theorem ac6 : cF Tryz.prog 206 afR := ⟨by kernel_rfl, (aD (v := .slice none 0 0) (by kernel_rfl) rfl (by kernel_rfl) rfl (by decide)), (aD (v := .agg #[.bool false, .slice none 0 0, .bool false, .slice none 0 0]) (by kernel_rfl) rfl (by kernel_rfl) rfl (by decide)), cK (by kernel_rfl)⟩
def afS : TI := .int .u64
theorem ac7 : cF Tryz.prog 208 afS := ⟨by kernel_rfl, (aD (v := .int .u64 0) (by kernel_rfl) rfl (by kernel_rfl) rfl (by decide))⟩
def afT : TI := .int .u64
theorem ac8 : cF Tryz.prog 210 afT := ⟨by kernel_rfl, (aD (v := .int .u64 0) (by kernel_rfl) rfl (by kernel_rfl) rfl (by decide))⟩
def afU : TI := .slice 163 1 24 [.nil]
theorem ac9 : cF Tryz.prog 242 afU := ⟨by kernel_rfl, (aD (v := .slice none 0 0) (by kernel_rfl) rfl (by kernel_rfl) rfl (by decide)), (aD (v := .slice none 0 0) (by kernel_rfl) rfl (by kernel_rfl) rfl (by decide)), cK (by kernel_rfl)⟩
def afV : TI := .int .u8
theorem ada : cF Tryz.prog 264 afV := ⟨by kernel_rfl, (aD (v := .int .u8 0) (by kernel_rfl) rfl (by kernel_rfl) rfl (by decide))⟩
def afW : TI := .int .u8
theorem adb : cF Tryz.prog 265 afW := ⟨by kernel_rfl, (aD (v := .int .u8 0) (by kernel_rfl) rfl (by kernel_rfl) rfl (by decide))⟩
def afX : TI := .int .i32
theorem ade : cF Tryz.prog 268 afX := ⟨by kernel_rfl, (aD (v := .int .i32 0) (by kernel_rfl) rfl (by kernel_rfl) rfl (by decide))⟩
def afY : TI := .int .i32
theorem adf : cF Tryz.prog 269 afY := ⟨by kernel_rfl, (aD (v := .int .i32 0) (by kernel_rfl) rfl (by kernel_rfl) rfl (by decide))⟩
def tyF : TypeId → TI
  | 2 => ti2
  | 3 => ti3
  | 4 => ti4
  | 5 => ti5
  | 6 => ti6
  | 7 => ti7
  | 8 => ti8
  | 9 => ti9
  | 10 => anA
  | 11 => anB
  | 12 => anC
  | 13 => anD
  | 14 => anE
  | 21 => anF
  | 22 => anG
  | 23 => anH
  | 24 => anI
  | 26 => anJ
  | 27 => anK
  | 30 => anL
  | 31 => anM
  | 34 => anN
  | 38 => anO
  | 39 => anP
  | 40 => anQ
  | 41 => anR
  | 42 => anS
  | 43 => anT
  | 44 => anU
  | 46 => anV
  | 47 => anW
  | 48 => anX
  | 49 => anY
  | 50 => anZ
  | 66 => an0
  | 67 => an1
  | 68 => an2
  | 106 => afB
  | 107 => afC
  | 111 => afD
  | 112 => afE
  | 113 => afF
  | 114 => afG
  | 115 => afH
  | 116 => afI
  | 117 => afJ
  | 118 => afK
  | 119 => afL
  | 122 => afM
  | 143 => afN
  | 163 => afO
  | 179 => afP
  | 180 => afQ
  | 206 => afR
  | 208 => afS
  | 210 => afT
  | 242 => afU
  | 264 => afV
  | 265 => afW
  | 268 => afX
  | 269 => afY
  | _ => .other
theorem asy (t : TypeId) : cF Tryz.prog t (tyF t) := by
  unfold tyF
  split
  · exact anr
  · exact ans
  · exact ant
  · exact anu
  · exact anv
  · exact anw
  · exact anx
  · exact anz
  · exact aic
  · exact aid
  · exact aie
  · exact aif
  · exact aih
  · exact aii
  · exact aij
  · exact aik
  · exact ail
  · exact aim
  · exact ain
  · exact aio
  · exact aip
  · exact aiq
  · exact air
  · exact ais
  · exact ait
  · exact aiu
  · exact aiv
  · exact aiw
  · exact aix
  · exact aiy
  · exact aiz
  · exact aiA
  · exact aiB
  · exact aiC
  · exact aiD
  · exact aiE
  · exact aiF
  · exact acQ
  · exact acR
  · exact acS
  · exact acT
  · exact acU
  · exact acV
  · exact acW
  · exact acX
  · exact acY
  · exact acZ
  · exact ac0
  · exact ac1
  · exact ac2
  · exact ac3
  · exact ac4
  · exact ac5
  · exact ac6
  · exact ac7
  · exact ac8
  · exact ac9
  · exact ada
  · exact adb
  · exact ade
  · exact adf
  · trivial
theorem adg : Tryz.prog.follows .mixedOrders = true := by kernel_rfl
def MY (g : FuncId) : Bool := g == 40 || g == 85 || g == 89 || g == 259 || g == 260
noncomputable def env : Env := ⟨Tryz.prog, tyF, asy, adg, MY⟩
@[simp] theorem aqF : env.writes = MY := rfl
attribute [simp] MY
@[simp] theorem axy : env.ty 2 = .int .i64 := rfl
@[simp] theorem asz : env.ty 3 = .int .i64 := rfl
@[simp] theorem axz : env.ty 4 = .bool := rfl
@[simp] theorem an3 : env.ty 5 = .int .u8 := rfl
@[simp] theorem axA : env.ty 6 = .int .u8 := rfl
@[simp] theorem axB : env.ty 7 = .struct [(0, 1, false), (1, 1, false), (2, 1, false), (3, 1, false)] [.int .i64 0, .int .i64 0, .bool false, .int .u8 0] := rfl
@[simp] theorem axC : env.ty 8 = .struct [(0, 1, false), (1, 1, false), (2, 1, false), (3, 1, false)] [.int .i64 0, .int .i64 0, .bool false, .int .u8 0] := rfl
@[simp] theorem axD : env.ty 9 = .str := rfl
@[simp] theorem avt : env.ty 10 = .str := rfl
@[simp] theorem avu : env.ty 11 = .str := rfl
@[simp] theorem avv : env.ty 12 = .int .u64 := rfl
@[simp] theorem avw : env.ty 13 = .struct [(0, 1, false), (1, 1, false)] [.str ⟨#[]⟩, .int .u64 0] := rfl
@[simp] theorem avx : env.ty 14 = .struct [(0, 1, false), (1, 1, false)] [.str ⟨#[]⟩, .int .u64 0] := rfl
@[simp] theorem avy : env.ty 21 = .int .i32 := rfl
@[simp] theorem avz : env.ty 22 = .slice 3 1 8 [.int .i64 0] := rfl
@[simp] theorem avA : env.ty 23 = .slice 50 4 64 [.nil, .bool false, .nil, .bool false] := rfl
@[simp] theorem avB : env.ty 24 = .slice 50 4 64 [.nil, .bool false, .nil, .bool false] := rfl
@[simp] theorem avC : env.ty 26 = .slice 44 9 152 [.nil, .bool false, .nil, .bool false, .nil, .bool false, .nil, .bool false, .nil] := rfl
@[simp] theorem avD : env.ty 27 = .int .i64 := rfl
@[simp] theorem avE : env.ty 30 = .slice 40 2 32 [.bool false, .nil] := rfl
@[simp] theorem avF : env.ty 31 = .slice 40 2 32 [.bool false, .nil] := rfl
@[simp] theorem avG : env.ty 34 = .slice 68 10 176 [.nil, .nil, .nil, .bool false, .nil, .bool false, .nil, .bool false, .nil, .bool false] := rfl
@[simp] theorem avH : env.ty 38 = .slice 143 1 4 [.int .u32 0] := rfl
@[simp] theorem avI : env.ty 39 = .struct [(0, 1, false), (1, 1, false)] [.bool false, .nil] := rfl
@[simp] theorem avJ : env.ty 40 = .struct [(0, 1, false), (1, 1, false)] [.bool false, .nil] := rfl
@[simp] theorem avK : env.ty 41 = .struct [(0, 2, true), (2, 2, true)] [.bool false, .nil, .bool false, .nil] := rfl
@[simp] theorem avL : env.ty 42 = .struct [(0, 2, true), (2, 2, true)] [.bool false, .nil, .bool false, .nil] := rfl
@[simp] theorem avM : env.ty 43 = .struct [(0, 1, false), (1, 4, true), (5, 4, true)] [.nil, .bool false, .nil, .bool false, .nil, .bool false, .nil, .bool false, .nil] := rfl
@[simp] theorem avN : env.ty 44 = .struct [(0, 1, false), (1, 4, true), (5, 4, true)] [.nil, .bool false, .nil, .bool false, .nil, .bool false, .nil, .bool false, .nil] := rfl
@[simp] theorem avO : env.ty 46 = .slice 3 1 8 [.int .i64 0] := rfl
@[simp] theorem avP : env.ty 47 = .struct [(0, 1, false), (1, 1, false)] [.nil, .bool false] := rfl
@[simp] theorem avQ : env.ty 48 = .struct [(0, 1, false), (1, 1, false)] [.nil, .bool false] := rfl
@[simp] theorem avR : env.ty 49 = .struct [(0, 2, true), (2, 2, true)] [.nil, .bool false, .nil, .bool false] := rfl
@[simp] theorem avS : env.ty 50 = .struct [(0, 2, true), (2, 2, true)] [.nil, .bool false, .nil, .bool false] := rfl
@[simp] theorem avT : env.ty 66 = .slice 24 1 24 [.nil] := rfl
@[simp] theorem avU : env.ty 67 = .struct [(0, 1, false), (1, 1, false), (2, 4, true), (6, 4, true)] [.nil, .nil, .nil, .bool false, .nil, .bool false, .nil, .bool false, .nil, .bool false] := rfl
@[simp] theorem avV : env.ty 68 = .struct [(0, 1, false), (1, 1, false), (2, 4, true), (6, 4, true)] [.nil, .nil, .nil, .bool false, .nil, .bool false, .nil, .bool false, .nil, .bool false] := rfl
@[simp] theorem asA : env.ty 106 = .slice 119 5 88 [.nil, .nil, .bool false, .nil, .int .i64 0] := rfl
@[simp] theorem asB : env.ty 107 = .slice 116 7 136 [.nil, .nil, .nil, .nil, .bool false, .nil, .int .i64 0] := rfl
@[simp] theorem asC : env.ty 111 = .struct [(0, 1, false), (1, 1, false), (2, 2, true)] [.nil, .nil, .bool false, .nil] := rfl
@[simp] theorem asD : env.ty 112 = .struct [(0, 1, false), (1, 1, false), (2, 2, true)] [.nil, .nil, .bool false, .nil] := rfl
@[simp] theorem asE : env.ty 113 = .struct [(0, 1, false), (1, 1, false), (2, 4, true)] [.nil, .nil, .nil, .nil, .bool false, .nil] := rfl
@[simp] theorem asF : env.ty 114 = .struct [(0, 1, false), (1, 1, false), (2, 4, true)] [.nil, .nil, .nil, .nil, .bool false, .nil] := rfl
@[simp] theorem asG : env.ty 115 = .struct [(0, 6, true), (6, 1, false)] [.nil, .nil, .nil, .nil, .bool false, .nil, .int .i64 0] := rfl
@[simp] theorem asH : env.ty 116 = .struct [(0, 6, true), (6, 1, false)] [.nil, .nil, .nil, .nil, .bool false, .nil, .int .i64 0] := rfl
@[simp] theorem asI : env.ty 117 = .fnT := rfl
@[simp] theorem asJ : env.ty 118 = .struct [(0, 4, true), (4, 1, false)] [.nil, .nil, .bool false, .nil, .int .i64 0] := rfl
@[simp] theorem asK : env.ty 119 = .struct [(0, 4, true), (4, 1, false)] [.nil, .nil, .bool false, .nil, .int .i64 0] := rfl
@[simp] theorem asL : env.ty 122 = .slice 117 1 8 [.undef] := rfl
@[simp] theorem aiG : env.ty 143 = .int .u32 := rfl
@[simp] theorem asM : env.ty 163 = .slice 31 1 24 [.nil] := rfl
@[simp] theorem asN : env.ty 179 = .struct [(0, 1, false)] [.nil] := rfl
@[simp] theorem asO : env.ty 180 = .struct [(0, 1, false)] [.nil] := rfl
@[simp] theorem asP : env.ty 206 = .slice 42 4 64 [.bool false, .nil, .bool false, .nil] := rfl
@[simp] theorem asQ : env.ty 208 = .int .u64 := rfl
@[simp] theorem asR : env.ty 210 = .int .u64 := rfl
@[simp] theorem asS : env.ty 242 = .slice 163 1 24 [.nil] := rfl
@[simp] theorem asT : env.ty 264 = .int .u8 := rfl
@[simp] theorem asU : env.ty 265 = .int .u8 := rfl
@[simp] theorem asV : env.ty 268 = .int .i32 := rfl
@[simp] theorem asW : env.ty 269 = .int .i32 := rfl
end Go.Proofs.YtbbjgncblhfegaaGreat
