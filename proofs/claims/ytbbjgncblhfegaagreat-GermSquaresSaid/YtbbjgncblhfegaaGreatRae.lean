import Derived.Test.YtbbjgncblhfegaaGreatProg
import Derived.KernelRfl
import Derived.Test.YtbbjgncblhfegaaGreatRad
set_option linter.unusedSimpArgs false
set_option linter.unusedVariables false
/- The types of the seat, as the pure machine wants them: closed facts, each by the kernel. -/
namespace Go.Proofs.YtbbjgncblhfegaaGreat
open Go Pm
def ti2 : TI := .int .i64
theorem anv : cD Tryz.prog 2 ti2 := ⟨by kernel_rfl, (aF (v := .int .i64 0) (by kernel_rfl) rfl (by kernel_rfl) rfl (by decide))⟩
def ti3 : TI := .int .i64
theorem anw : cD Tryz.prog 3 ti3 := ⟨by kernel_rfl, (aF (v := .int .i64 0) (by kernel_rfl) rfl (by kernel_rfl) rfl (by decide))⟩
def ti4 : TI := .bool
theorem anx : cD Tryz.prog 4 ti4 := ⟨by kernel_rfl, (aF (v := .bool false) (by kernel_rfl) rfl (by kernel_rfl) rfl (by decide))⟩
def ti5 : TI := .int .u8
theorem anz : cD Tryz.prog 5 ti5 := ⟨by kernel_rfl, (aF (v := .int .u8 0) (by kernel_rfl) rfl (by kernel_rfl) rfl (by decide))⟩
def ti6 : TI := .int .u8
theorem anA : cD Tryz.prog 6 ti6 := ⟨by kernel_rfl, (aF (v := .int .u8 0) (by kernel_rfl) rfl (by kernel_rfl) rfl (by decide))⟩
def ti7 : TI := .struct [(0, 1, false), (1, 1, false), (2, 1, false), (3, 1, false)] [.int .i64 0, .int .i64 0, .bool false, .int .u8 0]
theorem anB : cD Tryz.prog 7 ti7 := ⟨bA (by kernel_rfl), (aF (v := .agg #[.int .i64 0, .int .i64 0, .bool false, .int .u8 0]) (by kernel_rfl) rfl (by kernel_rfl) rfl (by decide))⟩
def ti8 : TI := .struct [(0, 1, false), (1, 1, false), (2, 1, false), (3, 1, false)] [.int .i64 0, .int .i64 0, .bool false, .int .u8 0]
theorem anC : cD Tryz.prog 8 ti8 := ⟨bA (by kernel_rfl), (aF (v := .agg #[.int .i64 0, .int .i64 0, .bool false, .int .u8 0]) (by kernel_rfl) rfl (by kernel_rfl) rfl (by decide))⟩
def ti9 : TI := .str
theorem anD : cD Tryz.prog 9 ti9 := ⟨by kernel_rfl, (aF (v := .string ⟨#[]⟩) (by kernel_rfl) rfl (by kernel_rfl) rfl (by decide))⟩
def anE : TI := .str
theorem ain : cD Tryz.prog 10 anE := ⟨by kernel_rfl, (aF (v := .string ⟨#[]⟩) (by kernel_rfl) rfl (by kernel_rfl) rfl (by decide))⟩
def anF : TI := .str
theorem aio : cD Tryz.prog 11 anF := ⟨by kernel_rfl, (aF (v := .string ⟨#[]⟩) (by kernel_rfl) rfl (by kernel_rfl) rfl (by decide))⟩
def anG : TI := .int .u64
theorem aip : cD Tryz.prog 12 anG := ⟨by kernel_rfl, (aF (v := .int .u64 0) (by kernel_rfl) rfl (by kernel_rfl) rfl (by decide))⟩
def anH : TI := .struct [(0, 1, false), (1, 1, false)] [.str ⟨#[]⟩, .int .u64 0]
theorem aiq : cD Tryz.prog 13 anH := ⟨bA (by kernel_rfl), (aF (v := .agg #[.string ⟨#[]⟩, .int .u64 0]) (by kernel_rfl) rfl (by kernel_rfl) rfl (by decide))⟩
def anI : TI := .struct [(0, 1, false), (1, 1, false)] [.str ⟨#[]⟩, .int .u64 0]
theorem air : cD Tryz.prog 14 anI := ⟨bA (by kernel_rfl), (aF (v := .agg #[.string ⟨#[]⟩, .int .u64 0]) (by kernel_rfl) rfl (by kernel_rfl) rfl (by decide))⟩
def anJ : TI := .int .i32
theorem ais : cD Tryz.prog 21 anJ := ⟨by kernel_rfl, (aF (v := .int .i32 0) (by kernel_rfl) rfl (by kernel_rfl) rfl (by decide))⟩
def anK : TI := .slice 3 1 8 [.int .i64 0]
theorem ait : cD Tryz.prog 22 anK := ⟨by kernel_rfl, (aF (v := .slice none 0 0) (by kernel_rfl) rfl (by kernel_rfl) rfl (by decide)), (aF (v := .int .i64 0) (by kernel_rfl) rfl (by kernel_rfl) rfl (by decide)), cH (by kernel_rfl)⟩
def anL : TI := .slice 50 4 64 [.nil, .bool false, .nil, .bool false]
theorem aiu : cD Tryz.prog 23 anL := ⟨by kernel_rfl, (aF (v := .slice none 0 0) (by kernel_rfl) rfl (by kernel_rfl) rfl (by decide)), (aF (v := .agg #[.slice none 0 0, .bool false, .slice none 0 0, .bool false]) (by kernel_rfl) rfl (by kernel_rfl) rfl (by decide)), cH (by kernel_rfl)⟩
def anM : TI := .slice 50 4 64 [.nil, .bool false, .nil, .bool false]
theorem aiv : cD Tryz.prog 24 anM := ⟨by kernel_rfl, (aF (v := .slice none 0 0) (by kernel_rfl) rfl (by kernel_rfl) rfl (by decide)), (aF (v := .agg #[.slice none 0 0, .bool false, .slice none 0 0, .bool false]) (by kernel_rfl) rfl (by kernel_rfl) rfl (by decide)), cH (by kernel_rfl)⟩
def anN : TI := .slice 44 9 152 [.nil, .bool false, .nil, .bool false, .nil, .bool false, .nil, .bool false, .nil]
theorem aiw : cD Tryz.prog 26 anN := ⟨by kernel_rfl, (aF (v := .slice none 0 0) (by kernel_rfl) rfl (by kernel_rfl) rfl (by decide)), (aF (v := .agg #[.slice none 0 0, .bool false, .slice none 0 0, .bool false, .slice none 0 0, .bool false, .slice none 0 0, .bool false, .slice none 0 0]) (by kernel_rfl) rfl (by kernel_rfl) rfl (by decide)), cH (by kernel_rfl)⟩
def anO : TI := .int .i64
theorem aix : cD Tryz.prog 27 anO := ⟨by kernel_rfl, (aF (v := .int .i64 0) (by kernel_rfl) rfl (by kernel_rfl) rfl (by decide))⟩
def anP : TI := .slice 40 2 32 [.bool false, .nil]
theorem aiy : cD Tryz.prog 30 anP := ⟨by kernel_rfl, (aF (v := .slice none 0 0) (by kernel_rfl) rfl (by kernel_rfl) rfl (by decide)), (aF (v := .agg #[.bool false, .slice none 0 0]) (by kernel_rfl) rfl (by kernel_rfl) rfl (by decide)), cH (by kernel_rfl)⟩
def anQ : TI := .slice 40 2 32 [.bool false, .nil]
theorem aiz : cD Tryz.prog 31 anQ := ⟨by kernel_rfl, (aF (v := .slice none 0 0) (by kernel_rfl) rfl (by kernel_rfl) rfl (by decide)), (aF (v := .agg #[.bool false, .slice none 0 0]) (by kernel_rfl) rfl (by kernel_rfl) rfl (by decide)), cH (by kernel_rfl)⟩
def anR : TI := .slice 68 10 176 [.nil, .nil, .nil, .bool false, .nil, .bool false, .nil, .bool false, .nil, .bool false]
theorem aiA : cD Tryz.prog 34 anR := ⟨by kernel_rfl, (aF (v := .slice none 0 0) (by kernel_rfl) rfl (by kernel_rfl) rfl (by decide)), (aF (v := .agg #[.slice none 0 0, .slice none 0 0, .slice none 0 0, .bool false, .slice none 0 0, .bool false, .slice none 0 0, .bool false, .slice none 0 0, .bool false]) (by kernel_rfl) rfl (by kernel_rfl) rfl (by decide)), cH (by kernel_rfl)⟩
def anS : TI := .slice 143 1 4 [.int .u32 0]
theorem aiB : cD Tryz.prog 38 anS := ⟨by kernel_rfl, (aF (v := .slice none 0 0) (by kernel_rfl) rfl (by kernel_rfl) rfl (by decide)), (aF (v := .int .u32 0) (by kernel_rfl) rfl (by kernel_rfl) rfl (by decide)), cH (by kernel_rfl)⟩
def anT : TI := .struct [(0, 1, false), (1, 1, false)] [.bool false, .nil]
theorem aiC : cD Tryz.prog 39 anT := ⟨bA (by kernel_rfl), (aF (v := .agg #[.bool false, .slice none 0 0]) (by kernel_rfl) rfl (by kernel_rfl) rfl (by decide))⟩
def anU : TI := .struct [(0, 1, false), (1, 1, false)] [.bool false, .nil]
theorem aiD : cD Tryz.prog 40 anU := ⟨bA (by kernel_rfl), (aF (v := .agg #[.bool false, .slice none 0 0]) (by kernel_rfl) rfl (by kernel_rfl) rfl (by decide))⟩
def anV : TI := .struct [(0, 2, true), (2, 2, true)] [.bool false, .nil, .bool false, .nil]
theorem aiE : cD Tryz.prog 41 anV := ⟨bA (by kernel_rfl), (aF (v := .agg #[.bool false, .slice none 0 0, .bool false, .slice none 0 0]) (by kernel_rfl) rfl (by kernel_rfl) rfl (by decide))⟩
def anW : TI := .struct [(0, 2, true), (2, 2, true)] [.bool false, .nil, .bool false, .nil]
theorem aiF : cD Tryz.prog 42 anW := ⟨bA (by kernel_rfl), (aF (v := .agg #[.bool false, .slice none 0 0, .bool false, .slice none 0 0]) (by kernel_rfl) rfl (by kernel_rfl) rfl (by decide))⟩
def anX : TI := .struct [(0, 1, false), (1, 4, true), (5, 4, true)] [.nil, .bool false, .nil, .bool false, .nil, .bool false, .nil, .bool false, .nil]
theorem aiG : cD Tryz.prog 43 anX := ⟨bA (by kernel_rfl), (aF (v := .agg #[.slice none 0 0, .bool false, .slice none 0 0, .bool false, .slice none 0 0, .bool false, .slice none 0 0, .bool false, .slice none 0 0]) (by kernel_rfl) rfl (by kernel_rfl) rfl (by decide))⟩
def anY : TI := .struct [(0, 1, false), (1, 4, true), (5, 4, true)] [.nil, .bool false, .nil, .bool false, .nil, .bool false, .nil, .bool false, .nil]
theorem aiH : cD Tryz.prog 44 anY := ⟨bA (by kernel_rfl), (aF (v := .agg #[.slice none 0 0, .bool false, .slice none 0 0, .bool false, .slice none 0 0, .bool false, .slice none 0 0, .bool false, .slice none 0 0]) (by kernel_rfl) rfl (by kernel_rfl) rfl (by decide))⟩
def anZ : TI := .slice 3 1 8 [.int .i64 0]
theorem aiI : cD Tryz.prog 46 anZ := ⟨by kernel_rfl, (aF (v := .slice none 0 0) (by kernel_rfl) rfl (by kernel_rfl) rfl (by decide)), (aF (v := .int .i64 0) (by kernel_rfl) rfl (by kernel_rfl) rfl (by decide)), cH (by kernel_rfl)⟩
def an0 : TI := .struct [(0, 1, false), (1, 1, false)] [.nil, .bool false]
theorem aiJ : cD Tryz.prog 47 an0 := ⟨bA (by kernel_rfl), (aF (v := .agg #[.slice none 0 0, .bool false]) (by kernel_rfl) rfl (by kernel_rfl) rfl (by decide))⟩
def an1 : TI := .struct [(0, 1, false), (1, 1, false)] [.nil, .bool false]
theorem aiK : cD Tryz.prog 48 an1 := ⟨bA (by kernel_rfl), (aF (v := .agg #[.slice none 0 0, .bool false]) (by kernel_rfl) rfl (by kernel_rfl) rfl (by decide))⟩
def an2 : TI := .struct [(0, 2, true), (2, 2, true)] [.nil, .bool false, .nil, .bool false]
theorem aiL : cD Tryz.prog 49 an2 := ⟨bA (by kernel_rfl), (aF (v := .agg #[.slice none 0 0, .bool false, .slice none 0 0, .bool false]) (by kernel_rfl) rfl (by kernel_rfl) rfl (by decide))⟩
def an3 : TI := .struct [(0, 2, true), (2, 2, true)] [.nil, .bool false, .nil, .bool false]
theorem aiM : cD Tryz.prog 50 an3 := ⟨bA (by kernel_rfl), (aF (v := .agg #[.slice none 0 0, .bool false, .slice none 0 0, .bool false]) (by kernel_rfl) rfl (by kernel_rfl) rfl (by decide))⟩
def an4 : TI := .slice 24 1 24 [.nil]
theorem aiN : cD Tryz.prog 66 an4 := ⟨by kernel_rfl, (aF (v := .slice none 0 0) (by kernel_rfl) rfl (by kernel_rfl) rfl (by decide)), (aF (v := .slice none 0 0) (by kernel_rfl) rfl (by kernel_rfl) rfl (by decide)), cH (by kernel_rfl)⟩
def an5 : TI := .struct [(0, 1, false), (1, 1, false), (2, 4, true), (6, 4, true)] [.nil, .nil, .nil, .bool false, .nil, .bool false, .nil, .bool false, .nil, .bool false]
theorem aiO : cD Tryz.prog 67 an5 := ⟨bA (by kernel_rfl), (aF (v := .agg #[.slice none 0 0, .slice none 0 0, .slice none 0 0, .bool false, .slice none 0 0, .bool false, .slice none 0 0, .bool false, .slice none 0 0, .bool false]) (by kernel_rfl) rfl (by kernel_rfl) rfl (by decide))⟩
def an6 : TI := .struct [(0, 1, false), (1, 1, false), (2, 4, true), (6, 4, true)] [.nil, .nil, .nil, .bool false, .nil, .bool false, .nil, .bool false, .nil, .bool false]
theorem aiP : cD Tryz.prog 68 an6 := ⟨bA (by kernel_rfl), (aF (v := .agg #[.slice none 0 0, .slice none 0 0, .slice none 0 0, .bool false, .slice none 0 0, .bool false, .slice none 0 0, .bool false, .slice none 0 0, .bool false]) (by kernel_rfl) rfl (by kernel_rfl) rfl (by decide))⟩
def afM : TI := .slice 119 5 88 [.nil, .nil, .bool false, .nil, .int .i64 0]
theorem acU : cD Tryz.prog 106 afM := ⟨by kernel_rfl, (aF (v := .slice none 0 0) (by kernel_rfl) rfl (by kernel_rfl) rfl (by decide)), (aF (v := .agg #[.slice none 0 0, .slice none 0 0, .bool false, .slice none 0 0, .int .i64 0]) (by kernel_rfl) rfl (by kernel_rfl) rfl (by decide)), cH (by kernel_rfl)⟩
def afN : TI := .slice 116 7 136 [.nil, .nil, .nil, .nil, .bool false, .nil, .int .i64 0]
theorem acV : cD Tryz.prog 107 afN := ⟨by kernel_rfl, (aF (v := .slice none 0 0) (by kernel_rfl) rfl (by kernel_rfl) rfl (by decide)), (aF (v := .agg #[.slice none 0 0, .slice none 0 0, .slice none 0 0, .slice none 0 0, .bool false, .slice none 0 0, .int .i64 0]) (by kernel_rfl) rfl (by kernel_rfl) rfl (by decide)), cH (by kernel_rfl)⟩
def afO : TI := .struct [(0, 1, false), (1, 1, false), (2, 2, true)] [.nil, .nil, .bool false, .nil]
theorem acW : cD Tryz.prog 111 afO := ⟨bA (by kernel_rfl), (aF (v := .agg #[.slice none 0 0, .slice none 0 0, .bool false, .slice none 0 0]) (by kernel_rfl) rfl (by kernel_rfl) rfl (by decide))⟩
def afP : TI := .struct [(0, 1, false), (1, 1, false), (2, 2, true)] [.nil, .nil, .bool false, .nil]
theorem acX : cD Tryz.prog 112 afP := ⟨bA (by kernel_rfl), (aF (v := .agg #[.slice none 0 0, .slice none 0 0, .bool false, .slice none 0 0]) (by kernel_rfl) rfl (by kernel_rfl) rfl (by decide))⟩
def afQ : TI := .struct [(0, 1, false), (1, 1, false), (2, 4, true)] [.nil, .nil, .nil, .nil, .bool false, .nil]
theorem acY : cD Tryz.prog 113 afQ := ⟨bA (by kernel_rfl), (aF (v := .agg #[.slice none 0 0, .slice none 0 0, .slice none 0 0, .slice none 0 0, .bool false, .slice none 0 0]) (by kernel_rfl) rfl (by kernel_rfl) rfl (by decide))⟩
def afR : TI := .struct [(0, 1, false), (1, 1, false), (2, 4, true)] [.nil, .nil, .nil, .nil, .bool false, .nil]
theorem acZ : cD Tryz.prog 114 afR := ⟨bA (by kernel_rfl), (aF (v := .agg #[.slice none 0 0, .slice none 0 0, .slice none 0 0, .slice none 0 0, .bool false, .slice none 0 0]) (by kernel_rfl) rfl (by kernel_rfl) rfl (by decide))⟩
def afS : TI := .struct [(0, 6, true), (6, 1, false)] [.nil, .nil, .nil, .nil, .bool false, .nil, .int .i64 0]
theorem ac0 : cD Tryz.prog 115 afS := ⟨bA (by kernel_rfl), (aF (v := .agg #[.slice none 0 0, .slice none 0 0, .slice none 0 0, .slice none 0 0, .bool false, .slice none 0 0, .int .i64 0]) (by kernel_rfl) rfl (by kernel_rfl) rfl (by decide))⟩
def afT : TI := .struct [(0, 6, true), (6, 1, false)] [.nil, .nil, .nil, .nil, .bool false, .nil, .int .i64 0]
theorem ac1 : cD Tryz.prog 116 afT := ⟨bA (by kernel_rfl), (aF (v := .agg #[.slice none 0 0, .slice none 0 0, .slice none 0 0, .slice none 0 0, .bool false, .slice none 0 0, .int .i64 0]) (by kernel_rfl) rfl (by kernel_rfl) rfl (by decide))⟩
def afU : TI := .fnT
theorem ac2 : cD Tryz.prog 117 afU := ⟨by kernel_rfl, (aF (v := .nilFunc) (by kernel_rfl) rfl (by kernel_rfl) rfl (by decide))⟩
def afV : TI := .struct [(0, 4, true), (4, 1, false)] [.nil, .nil, .bool false, .nil, .int .i64 0]
theorem ac3 : cD Tryz.prog 118 afV := ⟨bA (by kernel_rfl), (aF (v := .agg #[.slice none 0 0, .slice none 0 0, .bool false, .slice none 0 0, .int .i64 0]) (by kernel_rfl) rfl (by kernel_rfl) rfl (by decide))⟩
def afW : TI := .struct [(0, 4, true), (4, 1, false)] [.nil, .nil, .bool false, .nil, .int .i64 0]
theorem ac4 : cD Tryz.prog 119 afW := ⟨bA (by kernel_rfl), (aF (v := .agg #[.slice none 0 0, .slice none 0 0, .bool false, .slice none 0 0, .int .i64 0]) (by kernel_rfl) rfl (by kernel_rfl) rfl (by decide))⟩
def afX : TI := .slice 117 1 8 [.undef]
theorem ac5 : cD Tryz.prog 122 afX := ⟨by kernel_rfl, (aF (v := .slice none 0 0) (by kernel_rfl) rfl (by kernel_rfl) rfl (by decide)), (aF (v := .nilFunc) (by kernel_rfl) rfl (by kernel_rfl) rfl (by decide)), cH (by kernel_rfl)⟩
def afY : TI := .int .u32
theorem ac6 : cD Tryz.prog 143 afY := ⟨by kernel_rfl, (aF (v := .int .u32 0) (by kernel_rfl) rfl (by kernel_rfl) rfl (by decide))⟩
def afZ : TI := .slice 31 1 24 [.nil]
theorem ac7 : cD Tryz.prog 163 afZ := ⟨by kernel_rfl, (aF (v := .slice none 0 0) (by kernel_rfl) rfl (by kernel_rfl) rfl (by decide)), (aF (v := .slice none 0 0) (by kernel_rfl) rfl (by kernel_rfl) rfl (by decide)), cH (by kernel_rfl)⟩
def af0 : TI := .struct [(0, 1, false)] [.nil]
theorem ac8 : cD Tryz.prog 179 af0 := ⟨bA (by kernel_rfl), (aF (v := .agg #[.slice none 0 0]) (by kernel_rfl) rfl (by kernel_rfl) rfl (by decide))⟩
def af1 : TI := .struct [(0, 1, false)] [.nil]
theorem ac9 : cD Tryz.prog 180 af1 := ⟨bA (by kernel_rfl), (aF (v := .agg #[.slice none 0 0]) (by kernel_rfl) rfl (by kernel_rfl) rfl (by decide))⟩
def af2 : TI := .slice 42 4 64 [.bool false, .nil, .bool false, .nil]
theorem ada : cD Tryz.prog 206 af2 := ⟨by kernel_rfl, (aF (v := .slice none 0 0) (by kernel_rfl) rfl (by kernel_rfl) rfl (by decide)), (aF (v := .agg #[.bool false, .slice none 0 0, .bool false, .slice none 0 0]) (by kernel_rfl) rfl (by kernel_rfl) rfl (by decide)), cH (by kernel_rfl)⟩
def af3 : TI := .int .u64
theorem adb : cD Tryz.prog 208 af3 := ⟨by kernel_rfl, (aF (v := .int .u64 0) (by kernel_rfl) rfl (by kernel_rfl) rfl (by decide))⟩
def af4 : TI := .int .u64
theorem ade : cD Tryz.prog 210 af4 := ⟨by kernel_rfl, (aF (v := .int .u64 0) (by kernel_rfl) rfl (by kernel_rfl) rfl (by decide))⟩
def af5 : TI := .slice 163 1 24 [.nil]
theorem adf : cD Tryz.prog 242 af5 := ⟨by kernel_rfl, (aF (v := .slice none 0 0) (by kernel_rfl) rfl (by kernel_rfl) rfl (by decide)), (aF (v := .slice none 0 0) (by kernel_rfl) rfl (by kernel_rfl) rfl (by decide)), cH (by kernel_rfl)⟩
def af6 : TI := .int .u8
theorem adg : cD Tryz.prog 264 af6 := ⟨by kernel_rfl, (aF (v := .int .u8 0) (by kernel_rfl) rfl (by kernel_rfl) rfl (by decide))⟩
def af7 : TI := .int .u8
theorem adh : cD Tryz.prog 265 af7 := ⟨by kernel_rfl, (aF (v := .int .u8 0) (by kernel_rfl) rfl (by kernel_rfl) rfl (by decide))⟩
def af8 : TI := .int .i32
theorem adi : cD Tryz.prog 268 af8 := ⟨by kernel_rfl, (aF (v := .int .i32 0) (by kernel_rfl) rfl (by kernel_rfl) rfl (by decide))⟩
def af9 : TI := .int .i32
theorem adj : cD Tryz.prog 269 af9 := ⟨by kernel_rfl, (aF (v := .int .i32 0) (by kernel_rfl) rfl (by kernel_rfl) rfl (by decide))⟩
def tyF : TypeId → TI
  | 2 => ti2
  | 3 => ti3
  | 4 => ti4
  | 5 => ti5
  | 6 => ti6
  | 7 => ti7
  | 8 => ti8
  | 9 => ti9
  | 10 => anE
  | 11 => anF
  | 12 => anG
  | 13 => anH
  | 14 => anI
  | 21 => anJ
  | 22 => anK
  | 23 => anL
  | 24 => anM
  | 26 => anN
  | 27 => anO
  | 30 => anP
  | 31 => anQ
  | 34 => anR
  | 38 => anS
  | 39 => anT
  | 40 => anU
  | 41 => anV
  | 42 => anW
  | 43 => anX
  | 44 => anY
  | 46 => anZ
  | 47 => an0
  | 48 => an1
  | 49 => an2
  | 50 => an3
  | 66 => an4
  | 67 => an5
  | 68 => an6
  | 106 => afM
  | 107 => afN
  | 111 => afO
  | 112 => afP
  | 113 => afQ
  | 114 => afR
  | 115 => afS
  | 116 => afT
  | 117 => afU
  | 118 => afV
  | 119 => afW
  | 122 => afX
  | 143 => afY
  | 163 => afZ
  | 179 => af0
  | 180 => af1
  | 206 => af2
  | 208 => af3
  | 210 => af4
  | 242 => af5
  | 264 => af6
  | 265 => af7
  | 268 => af8
  | 269 => af9
  | _ => .other
theorem asv (t : TypeId) : cD Tryz.prog t (tyF t) := by
  unfold tyF
  split
  · exact anv
  · exact anw
  · exact anx
  · exact anz
  · exact anA
  · exact anB
  · exact anC
  · exact anD
  · exact ain
  · exact aio
  · exact aip
  · exact aiq
  · exact air
  · exact ais
  · exact ait
  · exact aiu
  · exact aiv
  · exact aiw
  · exact aix
  · exact aiy
  · exact aiz
  · exact aiA
  · exact aiB
  · exact aiC
  · exact aiD
  · exact aiE
  · exact aiF
  · exact aiG
  · exact aiH
  · exact aiI
  · exact aiJ
  · exact aiK
  · exact aiL
  · exact aiM
  · exact aiN
  · exact aiO
  · exact aiP
  · exact acU
  · exact acV
  · exact acW
  · exact acX
  · exact acY
  · exact acZ
  · exact ac0
  · exact ac1
  · exact ac2
  · exact ac3
  · exact ac4
  · exact ac5
  · exact ac6
  · exact ac7
  · exact ac8
  · exact ac9
  · exact ada
  · exact adb
  · exact ade
  · exact adf
  · exact adg
  · exact adh
  · exact adi
  · exact adj
  · trivial
theorem adk : Tryz.prog.follows .mixedOrders = true := by kernel_rfl
def E3 (g : FuncId) : Bool := g == 40 || g == 85 || g == 89 || g == 259 || g == 260
noncomputable def env : Env := ⟨Tryz.prog, tyF, asv, adk, E3⟩
@[simp] theorem aqC : env.writes = E3 := rfl
attribute [simp] E3
@[simp] theorem axu : env.ty 2 = .int .i64 := rfl
@[simp] theorem asw : env.ty 3 = .int .i64 := rfl
@[simp] theorem axv : env.ty 4 = .bool := rfl
@[simp] theorem an7 : env.ty 5 = .int .u8 := rfl
@[simp] theorem axw : env.ty 6 = .int .u8 := rfl
@[simp] theorem axx : env.ty 7 = .struct [(0, 1, false), (1, 1, false), (2, 1, false), (3, 1, false)] [.int .i64 0, .int .i64 0, .bool false, .int .u8 0] := rfl
@[simp] theorem axy : env.ty 8 = .struct [(0, 1, false), (1, 1, false), (2, 1, false), (3, 1, false)] [.int .i64 0, .int .i64 0, .bool false, .int .u8 0] := rfl
@[simp] theorem axz : env.ty 9 = .str := rfl
@[simp] theorem avt : env.ty 10 = .str := rfl
@[simp] theorem avu : env.ty 11 = .str := rfl
@[simp] theorem avv : env.ty 12 = .int .u64 := rfl
@[simp] theorem avw : env.ty 13 = .struct [(0, 1, false), (1, 1, false)] [.str ⟨#[]⟩, .int .u64 0] := rfl
@[simp] theorem avx : env.ty 14 = .struct [(0, 1, false), (1, 1, false)] [.str ⟨#[]⟩, .int .u64 0] := rfl
@[simp] theorem avy : env.ty 21 = .int .i32 := rfl
@[simp] theorem avz : env.ty 22 = .slice 3 1 8 [.int .i64 0] := rfl
@[simp] theorem avA : env.ty 23 = .slice 50 4 64 [.nil, .bool false, .nil, .bool false] := rfl
@[simp] theorem avB : env.ty 24 = .slice 50 4 64 [.nil, .bool false, .nil, .bool false] := rfl
@[simp] theorem avC : env.ty 26 = .slice 44 9 152 [.nil, .bool false, .nil, .bool false, .nil, .bool false, .nil, .bool false, .nil] := rfl
@[simp] theorem avD : env.ty 27 = .int .i64 := rfl
@[simp] theorem avE : env.ty 30 = .slice 40 2 32 [.bool false, .nil] := rfl
@[simp] theorem avF : env.ty 31 = .slice 40 2 32 [.bool false, .nil] := rfl
@[simp] theorem avG : env.ty 34 = .slice 68 10 176 [.nil, .nil, .nil, .bool false, .nil, .bool false, .nil, .bool false, .nil, .bool false] := rfl
@[simp] theorem avH : env.ty 38 = .slice 143 1 4 [.int .u32 0] := rfl
@[simp] theorem avI : env.ty 39 = .struct [(0, 1, false), (1, 1, false)] [.bool false, .nil] := rfl
@[simp] theorem avJ : env.ty 40 = .struct [(0, 1, false), (1, 1, false)] [.bool false, .nil] := rfl
@[simp] theorem avK : env.ty 41 = .struct [(0, 2, true), (2, 2, true)] [.bool false, .nil, .bool false, .nil] := rfl
@[simp] theorem avL : env.ty 42 = .struct [(0, 2, true), (2, 2, true)] [.bool false, .nil, .bool false, .nil] := rfl
@[simp] theorem avM : env.ty 43 = .struct [(0, 1, false), (1, 4, true), (5, 4, true)] [.nil, .bool false, .nil, .bool false, .nil, .bool false, .nil, .bool false, .nil] := rfl
@[simp] theorem avN : env.ty 44 = .struct [(0, 1, false), (1, 4, true), (5, 4, true)] [.nil, .bool false, .nil, .bool false, .nil, .bool false, .nil, .bool false, .nil] := rfl
@[simp] theorem avO : env.ty 46 = .slice 3 1 8 [.int .i64 0] := rfl
@[simp] theorem avP : env.ty 47 = .struct [(0, 1, false), (1, 1, false)] [.nil, .bool false] := rfl
@[simp] theorem avQ : env.ty 48 = .struct [(0, 1, false), (1, 1, false)] [.nil, .bool false] := rfl
@[simp] theorem avR : env.ty 49 = .struct [(0, 2, true), (2, 2, true)] [.nil, .bool false, .nil, .bool false] := rfl
@[simp] theorem avS : env.ty 50 = .struct [(0, 2, true), (2, 2, true)] [.nil, .bool false, .nil, .bool false] := rfl
@[simp] theorem avT : env.ty 66 = .slice 24 1 24 [.nil] := rfl
@[simp] theorem avU : env.ty 67 = .struct [(0, 1, false), (1, 1, false), (2, 4, true), (6, 4, true)] [.nil, .nil, .nil, .bool false, .nil, .bool false, .nil, .bool false, .nil, .bool false] := rfl
@[simp] theorem avV : env.ty 68 = .struct [(0, 1, false), (1, 1, false), (2, 4, true), (6, 4, true)] [.nil, .nil, .nil, .bool false, .nil, .bool false, .nil, .bool false, .nil, .bool false] := rfl
@[simp] theorem asx : env.ty 106 = .slice 119 5 88 [.nil, .nil, .bool false, .nil, .int .i64 0] := rfl
@[simp] theorem asy : env.ty 107 = .slice 116 7 136 [.nil, .nil, .nil, .nil, .bool false, .nil, .int .i64 0] := rfl
@[simp] theorem asz : env.ty 111 = .struct [(0, 1, false), (1, 1, false), (2, 2, true)] [.nil, .nil, .bool false, .nil] := rfl
@[simp] theorem asA : env.ty 112 = .struct [(0, 1, false), (1, 1, false), (2, 2, true)] [.nil, .nil, .bool false, .nil] := rfl
@[simp] theorem asB : env.ty 113 = .struct [(0, 1, false), (1, 1, false), (2, 4, true)] [.nil, .nil, .nil, .nil, .bool false, .nil] := rfl
@[simp] theorem asC : env.ty 114 = .struct [(0, 1, false), (1, 1, false), (2, 4, true)] [.nil, .nil, .nil, .nil, .bool false, .nil] := rfl
@[simp] theorem asD : env.ty 115 = .struct [(0, 6, true), (6, 1, false)] [.nil, .nil, .nil, .nil, .bool false, .nil, .int .i64 0] := rfl
@[simp] theorem asE : env.ty 116 = .struct [(0, 6, true), (6, 1, false)] [.nil, .nil, .nil, .nil, .bool false, .nil, .int .i64 0] := rfl
@[simp] theorem asF : env.ty 117 = .fnT := rfl
@[simp] theorem asG : env.ty 118 = .struct [(0, 4, true), (4, 1, false)] [.nil, .nil, .bool false, .nil, .int .i64 0] := rfl
@[simp] theorem asH : env.ty 119 = .struct [(0, 4, true), (4, 1, false)] [.nil, .nil, .bool false, .nil, .int .i64 0] := rfl
@[simp] theorem asI : env.ty 122 = .slice 117 1 8 [.undef] := rfl
@[simp] theorem aiQ : env.ty 143 = .int .u32 := rfl
@[simp] theorem asJ : env.ty 163 = .slice 31 1 24 [.nil] := rfl
@[simp] theorem asK : env.ty 179 = .struct [(0, 1, false)] [.nil] := rfl
@[simp] theorem asL : env.ty 180 = .struct [(0, 1, false)] [.nil] := rfl
@[simp] theorem asM : env.ty 206 = .slice 42 4 64 [.bool false, .nil, .bool false, .nil] := rfl
@[simp] theorem asN : env.ty 208 = .int .u64 := rfl
@[simp] theorem asO : env.ty 210 = .int .u64 := rfl
@[simp] theorem asP : env.ty 242 = .slice 163 1 24 [.nil] := rfl
@[simp] theorem asQ : env.ty 264 = .int .u8 := rfl
@[simp] theorem asR : env.ty 265 = .int .u8 := rfl
@[simp] theorem asS : env.ty 268 = .int .i32 := rfl
@[simp] theorem asT : env.ty 269 = .int .i32 := rfl
end Go.Proofs.YtbbjgncblhfegaaGreat
