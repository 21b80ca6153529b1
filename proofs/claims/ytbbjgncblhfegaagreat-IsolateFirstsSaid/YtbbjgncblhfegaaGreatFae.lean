import Derived.Test.YtbbjgncblhfegaaGreatProg
import Derived.KernelRfl
import Derived.Test.YtbbjgncblhfegaaGreatFad
set_option linter.unusedSimpArgs false
set_option linter.unusedVariables false
/- The types of the seat, as the pure machine wants them: closed facts, each by the kernel. -/
namespace Go.Proofs.YtbbjgncblhfegaaGreat
open Go Pm
def ti2 : TI := .int .i64
theorem anW : cJ Tryz.prog 2 ti2 := ⟨by kernel_rfl, (aD (v := .int .i64 0) (by kernel_rfl) rfl (by kernel_rfl) rfl (by decide))⟩
def ti3 : TI := .int .i64
theorem anX : cJ Tryz.prog 3 ti3 := ⟨by kernel_rfl, (aD (v := .int .i64 0) (by kernel_rfl) rfl (by kernel_rfl) rfl (by decide))⟩
def ti4 : TI := .bool
theorem anY : cJ Tryz.prog 4 ti4 := ⟨by kernel_rfl, (aD (v := .bool false) (by kernel_rfl) rfl (by kernel_rfl) rfl (by decide))⟩
def ti5 : TI := .int .u8
theorem anZ : cJ Tryz.prog 5 ti5 := ⟨by kernel_rfl, (aD (v := .int .u8 0) (by kernel_rfl) rfl (by kernel_rfl) rfl (by decide))⟩
def ti6 : TI := .int .u8
theorem an0 : cJ Tryz.prog 6 ti6 := ⟨by kernel_rfl, (aD (v := .int .u8 0) (by kernel_rfl) rfl (by kernel_rfl) rfl (by decide))⟩
def ti7 : TI := .struct [(0, 1, false), (1, 1, false), (2, 1, false), (3, 1, false)] [.int .i64 0, .int .i64 0, .bool false, .int .u8 0]
theorem an1 : cJ Tryz.prog 7 ti7 := ⟨bC (by kernel_rfl), (aD (v := .agg #[.int .i64 0, .int .i64 0, .bool false, .int .u8 0]) (by kernel_rfl) rfl (by kernel_rfl) rfl (by decide))⟩
def ti8 : TI := .struct [(0, 1, false), (1, 1, false), (2, 1, false), (3, 1, false)] [.int .i64 0, .int .i64 0, .bool false, .int .u8 0]
theorem an2 : cJ Tryz.prog 8 ti8 := ⟨bC (by kernel_rfl), (aD (v := .agg #[.int .i64 0, .int .i64 0, .bool false, .int .u8 0]) (by kernel_rfl) rfl (by kernel_rfl) rfl (by decide))⟩
def ti9 : TI := .str
theorem an3 : cJ Tryz.prog 9 ti9 := ⟨by kernel_rfl, (aD (v := .string ⟨#[]⟩) (by kernel_rfl) rfl (by kernel_rfl) rfl (by decide))⟩
def an4 : TI := .str
theorem aiz : cJ Tryz.prog 10 an4 := ⟨by kernel_rfl, (aD (v := .string ⟨#[]⟩) (by kernel_rfl) rfl (by kernel_rfl) rfl (by decide))⟩
def an5 : TI := .str
theorem aiA : cJ Tryz.prog 11 an5 := ⟨by kernel_rfl, (aD (v := .string ⟨#[]⟩) (by kernel_rfl) rfl (by kernel_rfl) rfl (by decide))⟩
def an6 : TI := .int .u64
theorem aiB : cJ Tryz.prog 12 an6 := ⟨by kernel_rfl, (aD (v := .int .u64 0) (by kernel_rfl) rfl (by kernel_rfl) rfl (by decide))⟩
def an7 : TI := .struct [(0, 1, false), (1, 1, false)] [.str ⟨#[]⟩, .int .u64 0]
theorem aiC : cJ Tryz.prog 13 an7 := ⟨bC (by kernel_rfl), (aD (v := .agg #[.string ⟨#[]⟩, .int .u64 0]) (by kernel_rfl) rfl (by kernel_rfl) rfl (by decide))⟩
def an8 : TI := .struct [(0, 1, false), (1, 1, false)] [.str ⟨#[]⟩, .int .u64 0]
theorem aiD : cJ Tryz.prog 14 an8 := ⟨bC (by kernel_rfl), (aD (v := .agg #[.string ⟨#[]⟩, .int .u64 0]) (by kernel_rfl) rfl (by kernel_rfl) rfl (by decide))⟩
def an9 : TI := .int .i32
theorem aiE : cJ Tryz.prog 21 an9 := ⟨by kernel_rfl, (aD (v := .int .i32 0) (by kernel_rfl) rfl (by kernel_rfl) rfl (by decide))⟩
def aoa : TI := .slice 3 1 8 [.int .i64 0]
theorem aiF : cJ Tryz.prog 22 aoa := ⟨by kernel_rfl, (aD (v := .slice none 0 0) (by kernel_rfl) rfl (by kernel_rfl) rfl (by decide)), (aD (v := .int .i64 0) (by kernel_rfl) rfl (by kernel_rfl) rfl (by decide)), cN (by kernel_rfl)⟩
def aob : TI := .slice 50 4 64 [.nil, .bool false, .nil, .bool false]
theorem aiG : cJ Tryz.prog 23 aob := ⟨by kernel_rfl, (aD (v := .slice none 0 0) (by kernel_rfl) rfl (by kernel_rfl) rfl (by decide)), (aD (v := .agg #[.slice none 0 0, .bool false, .slice none 0 0, .bool false]) (by kernel_rfl) rfl (by kernel_rfl) rfl (by decide)), cN (by kernel_rfl)⟩
def aoc : TI := .slice 50 4 64 [.nil, .bool false, .nil, .bool false]
theorem aiH : cJ Tryz.prog 24 aoc := ⟨by kernel_rfl, (aD (v := .slice none 0 0) (by kernel_rfl) rfl (by kernel_rfl) rfl (by decide)), (aD (v := .agg #[.slice none 0 0, .bool false, .slice none 0 0, .bool false]) (by kernel_rfl) rfl (by kernel_rfl) rfl (by decide)), cN (by kernel_rfl)⟩
def aod : TI := .slice 44 9 152 [.nil, .bool false, .nil, .bool false, .nil, .bool false, .nil, .bool false, .nil]
theorem aiI : cJ Tryz.prog 26 aod := ⟨by kernel_rfl, (aD (v := .slice none 0 0) (by kernel_rfl) rfl (by kernel_rfl) rfl (by decide)), (aD (v := .agg #[.slice none 0 0, .bool false, .slice none 0 0, .bool false, .slice none 0 0, .bool false, .slice none 0 0, .bool false, .slice none 0 0]) (by kernel_rfl) rfl (by kernel_rfl) rfl (by decide)), cN (by kernel_rfl)⟩
def aoe : TI := .int .i64
theorem aiJ : cJ Tryz.prog 27 aoe := ⟨by kernel_rfl, (aD (v := .int .i64 0) (by kernel_rfl) rfl (by kernel_rfl) rfl (by decide))⟩
def aof : TI := .slice 40 2 32 [.bool false, .nil]
theorem aiK : cJ Tryz.prog 30 aof := ⟨by kernel_rfl, (aD (v := .slice none 0 0) (by kernel_rfl) rfl (by kernel_rfl) rfl (by decide)), (aD (v := .agg #[.bool false, .slice none 0 0]) (by kernel_rfl) rfl (by kernel_rfl) rfl (by decide)), cN (by kernel_rfl)⟩
def aog : TI := .slice 40 2 32 [.bool false, .nil]
theorem aiL : cJ Tryz.prog 31 aog := ⟨by kernel_rfl, (aD (v := .slice none 0 0) (by kernel_rfl) rfl (by kernel_rfl) rfl (by decide)), (aD (v := .agg #[.bool false, .slice none 0 0]) (by kernel_rfl) rfl (by kernel_rfl) rfl (by decide)), cN (by kernel_rfl)⟩
def aoh : TI := .slice 68 10 176 [.nil, .nil, .nil, .bool false, .nil, .bool false, .nil, .bool false, .nil, .bool false]
theorem aiM : cJ Tryz.prog 34 aoh := ⟨by kernel_rfl, (aD (v := .slice none 0 0) (by kernel_rfl) rfl (by kernel_rfl) rfl (by decide)), (aD (v := .agg #[.slice none 0 0, .slice none 0 0, .slice none 0 0, .bool false, .slice none 0 0, .bool false, .slice none 0 0, .bool false, .slice none 0 0, .bool false]) (by kernel_rfl) rfl (by kernel_rfl) rfl (by decide)), cN (by kernel_rfl)⟩
def aoi : TI := .slice 143 1 4 [.int .u32 0]
theorem aiN : cJ Tryz.prog 38 aoi := ⟨by kernel_rfl, (aD (v := .slice none 0 0) (by kernel_rfl) rfl (by kernel_rfl) rfl (by decide)), (aD (v := .int .u32 0) (by kernel_rfl) rfl (by kernel_rfl) rfl (by decide)), cN (by kernel_rfl)⟩
def aoj : TI := .struct [(0, 1, false), (1, 1, false)] [.bool false, .nil]
theorem aiO : cJ Tryz.prog 39 aoj := ⟨bC (by kernel_rfl), (aD (v := .agg #[.bool false, .slice none 0 0]) (by kernel_rfl) rfl (by kernel_rfl) rfl (by decide))⟩
def aok : TI := .struct [(0, 1, false), (1, 1, false)] [.bool false, .nil]
theorem aiP : cJ Tryz.prog 40 aok := ⟨bC (by kernel_rfl), (aD (v := .agg #[.bool false, .slice none 0 0]) (by kernel_rfl) rfl (by kernel_rfl) rfl (by decide))⟩
def aol : TI := .struct [(0, 2, true), (2, 2, true)] [.bool false, .nil, .bool false, .nil]
theorem aiQ : cJ Tryz.prog 41 aol := ⟨bC (by kernel_rfl), (aD (v := .agg #[.bool false, .slice none 0 0, .bool false, .slice none 0 0]) (by kernel_rfl) rfl (by kernel_rfl) rfl (by decide))⟩
def aom : TI := .struct [(0, 2, true), (2, 2, true)] [.bool false, .nil, .bool false, .nil]
theorem aiR : cJ Tryz.prog 42 aom := ⟨bC (by kernel_rfl), (aD (v := .agg #[.bool false, .slice none 0 0, .bool false, .slice none 0 0]) (by kernel_rfl) rfl (by kernel_rfl) rfl (by decide))⟩
def aon : TI := .struct [(0, 1, false), (1, 4, true), (5, 4, true)] [.nil, .bool false, .nil, .bool false, .nil, .bool false, .nil, .bool false, .nil]
theorem aiS : cJ Tryz.prog 43 aon := ⟨bC (by kernel_rfl), (aD (v := .agg #[.slice none 0 0, .bool false, .slice none 0 0, .bool false, .slice none 0 0, .bool false, .slice none 0 0, .bool false, .slice none 0 0]) (by kernel_rfl) rfl (by kernel_rfl) rfl (by decide))⟩
def aoo : TI := .struct [(0, 1, false), (1, 4, true), (5, 4, true)] [.nil, .bool false, .nil, .bool false, .nil, .bool false, .nil, .bool false, .nil]
theorem aiT : cJ Tryz.prog 44 aoo := ⟨bC (by kernel_rfl), (aD (v := .agg #[.slice none 0 0, .bool false, .slice none 0 0, .bool false, .slice none 0 0, .bool false, .slice none 0 0, .bool false, .slice none 0 0]) (by kernel_rfl) rfl (by kernel_rfl) rfl (by decide))⟩
def aop : TI := .slice 3 1 8 [.int .i64 0]
theorem aiU : cJ Tryz.prog 46 aop := ⟨by kernel_rfl, (aD (v := .slice none 0 0) (by kernel_rfl) rfl (by kernel_rfl) rfl (by decide)), (aD (v := .int .i64 0) (by kernel_rfl) rfl (by kernel_rfl) rfl (by decide)), cN (by kernel_rfl)⟩
def aoq : TI := .struct [(0, 1, false), (1, 1, false)] [.nil, .bool false]
theorem aiV : cJ Tryz.prog 47 aoq := ⟨bC (by kernel_rfl), (aD (v := .agg #[.slice none 0 0, .bool false]) (by kernel_rfl) rfl (by kernel_rfl) rfl (by decide))⟩
def aor : TI := .struct [(0, 1, false), (1, 1, false)] [.nil, .bool false]
theorem aiW : cJ Tryz.prog 48 aor := ⟨bC (by kernel_rfl), (aD (v := .agg #[.slice none 0 0, .bool false]) (by kernel_rfl) rfl (by kernel_rfl) rfl (by decide))⟩
def aos : TI := .struct [(0, 2, true), (2, 2, true)] [.nil, .bool false, .nil, .bool false]
theorem aiX : cJ Tryz.prog 49 aos := ⟨bC (by kernel_rfl), (aD (v := .agg #[.slice none 0 0, .bool false, .slice none 0 0, .bool false]) (by kernel_rfl) rfl (by kernel_rfl) rfl (by decide))⟩
def aot : TI := .struct [(0, 2, true), (2, 2, true)] [.nil, .bool false, .nil, .bool false]
theorem aiY : cJ Tryz.prog 50 aot := ⟨bC (by kernel_rfl), (aD (v := .agg #[.slice none 0 0, .bool false, .slice none 0 0, .bool false]) (by kernel_rfl) rfl (by kernel_rfl) rfl (by decide))⟩
def aou : TI := .slice 24 1 24 [.nil]
theorem aiZ : cJ Tryz.prog 66 aou := ⟨by kernel_rfl, (aD (v := .slice none 0 0) (by kernel_rfl) rfl (by kernel_rfl) rfl (by decide)), (aD (v := .slice none 0 0) (by kernel_rfl) rfl (by kernel_rfl) rfl (by decide)), cN (by kernel_rfl)⟩
def aov : TI := .struct [(0, 1, false), (1, 1, false), (2, 4, true), (6, 4, true)] [.nil, .nil, .nil, .bool false, .nil, .bool false, .nil, .bool false, .nil, .bool false]
theorem ai0 : cJ Tryz.prog 67 aov := ⟨bC (by kernel_rfl), (aD (v := .agg #[.slice none 0 0, .slice none 0 0, .slice none 0 0, .bool false, .slice none 0 0, .bool false, .slice none 0 0, .bool false, .slice none 0 0, .bool false]) (by kernel_rfl) rfl (by kernel_rfl) rfl (by decide))⟩
def aow : TI := .struct [(0, 1, false), (1, 1, false), (2, 4, true), (6, 4, true)] [.nil, .nil, .nil, .bool false, .nil, .bool false, .nil, .bool false, .nil, .bool false]
theorem ai1 : cJ Tryz.prog 68 aow := ⟨bC (by kernel_rfl), (aD (v := .agg #[.slice none 0 0, .slice none 0 0, .slice none 0 0, .bool false, .slice none 0 0, .bool false, .slice none 0 0, .bool false, .slice none 0 0, .bool false]) (by kernel_rfl) rfl (by kernel_rfl) rfl (by decide))⟩
def afW : TI := .slice 119 5 88 [.nil, .nil, .bool false, .nil, .int .i64 0]
theorem ac4 : cJ Tryz.prog 106 afW := ⟨by kernel_rfl, (aD (v := .slice none 0 0) (by kernel_rfl) rfl (by kernel_rfl) rfl (by decide)), (aD (v := .agg #[.slice none 0 0, .slice none 0 0, .bool false, .slice none 0 0, .int .i64 0]) (by kernel_rfl) rfl (by kernel_rfl) rfl (by decide)), cN (by kernel_rfl)⟩
def afX : TI := .slice 116 7 136 [.nil, .nil, .nil, .nil, .bool false, .nil, .int .i64 0]
theorem ac5 : cJ Tryz.prog 107 afX := ⟨by kernel_rfl, (aD (v := .slice none 0 0) (by kernel_rfl) rfl (by kernel_rfl) rfl (by decide)), (aD (v := .agg #[.slice none 0 0, .slice none 0 0, .slice none 0 0, .slice none 0 0, .bool false, .slice none 0 0, .int .i64 0]) (by kernel_rfl) rfl (by kernel_rfl) rfl (by decide)), cN (by kernel_rfl)⟩
def afY : TI := .struct [(0, 1, false), (1, 1, false), (2, 2, true)] [.nil, .nil, .bool false, .nil]
theorem ac6 : cJ Tryz.prog 111 afY := ⟨bC (by kernel_rfl), (aD (v := .agg #[.slice none 0 0, .slice none 0 0, .bool false, .slice none 0 0]) (by kernel_rfl) rfl (by kernel_rfl) rfl (by decide))⟩
def afZ : TI := .struct [(0, 1, false), (1, 1, false), (2, 2, true)] [.nil, .nil, .bool false, .nil]
theorem ac7 : cJ Tryz.prog 112 afZ := ⟨bC (by kernel_rfl), (aD (v := .agg #[.slice none 0 0, .slice none 0 0, .bool false, .slice none 0 0]) (by kernel_rfl) rfl (by kernel_rfl) rfl (by decide))⟩
def af0 : TI := .struct [(0, 1, false), (1, 1, false), (2, 4, true)] [.nil, .nil, .nil, .nil, .bool false, .nil]
theorem ac8 : cJ Tryz.prog 113 af0 := ⟨bC (by kernel_rfl), (aD (v := .agg #[.slice none 0 0, .slice none 0 0, .slice none 0 0, .slice none 0 0, .bool false, .slice none 0 0]) (by kernel_rfl) rfl (by kernel_rfl) rfl (by decide))⟩
def af1 : TI := .struct [(0, 1, false), (1, 1, false), (2, 4, true)] [.nil, .nil, .nil, .nil, .bool false, .nil]
theorem ac9 : cJ Tryz.prog 114 af1 := ⟨bC (by kernel_rfl), (aD (v := .agg #[.slice none 0 0, .slice none 0 0, .slice none 0 0, .slice none 0 0, .bool false, .slice none 0 0]) (by kernel_rfl) rfl (by kernel_rfl) rfl (by decide))⟩
def af2 : TI := .struct [(0, 6, true), (6, 1, false)] [.nil, .nil, .nil, .nil, .bool false, .nil, .int .i64 0]
theorem ada : cJ Tryz.prog 115 af2 := ⟨bC (by kernel_rfl), (aD (v := .agg #[.slice none 0 0, .slice none 0 0, .slice none 0 0, .slice none 0 0, .bool false, .slice none 0 0, .int .i64 0]) (by kernel_rfl) rfl (by kernel_rfl) rfl (by decide))⟩
def af3 : TI := .struct [(0, 6, true), (6, 1, false)] [.nil, .nil, .nil, .nil, .bool false, .nil, .int .i64 0]
theorem adb : cJ Tryz.prog 116 af3 := ⟨bC (by kernel_rfl), (aD (v := .agg #[.slice none 0 0, .slice none 0 0, .slice none 0 0, .slice none 0 0, .bool false, .slice none 0 0, .int .i64 0]) (by kernel_rfl) rfl (by kernel_rfl) rfl (by decide))⟩
def af4 : TI := .fnT
theorem ade : cJ Tryz.prog 117 af4 := ⟨by kernel_rfl, (aD (v := .nilFunc) (by kernel_rfl) rfl (by kernel_rfl) rfl (by decide))⟩
def af5 : TI := .struct [(0, 4, true), (4, 1, false)] [.nil, .nil, .bool false, .nil, .int .i64 0]
theorem adf : cJ Tryz.prog 118 af5 := ⟨bC (by kernel_rfl), (aD (v := .agg #[.slice none 0 0, .slice none 0 0, .bool false, .slice none 0 0, .int .i64 0]) (by kernel_rfl) rfl (by kernel_rfl) rfl (by decide))⟩
def af6 : TI := .struct [(0, 4, true), (4, 1, false)] [.nil, .nil, .bool false, .nil, .int .i64 0]
theorem adg : cJ Tryz.prog 119 af6 := ⟨bC (by kernel_rfl), (aD (v := .agg #[.slice none 0 0, .slice none 0 0, .bool false, .slice none 0 0, .int .i64 0]) (by kernel_rfl) rfl (by kernel_rfl) rfl (by decide))⟩
def af7 : TI := .slice 117 1 8 [.undef]
theorem adh : cJ Tryz.prog 122 af7 := ⟨by kernel_rfl, (aD (v := .slice none 0 0) (by kernel_rfl) rfl (by kernel_rfl) rfl (by decide)), (aD (v := .nilFunc) (by kernel_rfl) rfl (by kernel_rfl) rfl (by decide)), cN (by kernel_rfl)⟩
def af8 : TI := .int .u32
theorem adi : cJ Tryz.prog 143 af8 := ⟨by kernel_rfl, (aD (v := .int .u32 0) (by kernel_rfl) rfl (by kernel_rfl) rfl (by decide))⟩
def af9 : TI := .slice 31 1 24 [.nil]
theorem adj : cJ Tryz.prog 163 af9 := ⟨by kernel_rfl, (aD (v := .slice none 0 0) (by kernel_rfl) rfl (by kernel_rfl) rfl (by decide)), (aD (v := .slice none 0 0) (by kernel_rfl) rfl (by kernel_rfl) rfl (by decide)), cN (by kernel_rfl)⟩
def aga : TI := .struct [(0, 1, false)] [.nil]
theorem adk : cJ Tryz.prog 179 aga := ⟨bC (by kernel_rfl), (aD (v := .agg #[.slice none 0 0]) (by kernel_rfl) rfl (by kernel_rfl) rfl (by decide))⟩
def agb : TI := .struct [(0, 1, false)] [.nil]
theorem adl : cJ Tryz.prog 180 agb := ⟨bC (by kernel_rfl), (aD (v := .agg #[.slice none 0 0]) (by kernel_rfl) rfl (by kernel_rfl) rfl (by decide))⟩
def agc : TI := .slice 42 4 64 [.bool false, .nil, .bool false, .nil]
theorem adm : cJ Tryz.prog 206 agc := ⟨by kernel_rfl, (aD (v := .slice none 0 0) (by kernel_rfl) rfl (by kernel_rfl) rfl (by decide)), (aD (v := .agg #[.bool false, .slice none 0 0, .bool false, .slice none 0 0]) (by kernel_rfl) rfl (by kernel_rfl) rfl (by decide)), cN (by kernel_rfl)⟩
def agd : TI := .int .u64
theorem adn : cJ Tryz.prog 208 agd := ⟨by kernel_rfl, (aD (v := .int .u64 0) (by kernel_rfl) rfl (by kernel_rfl) rfl (by decide))⟩
def age : TI := .int .u64
theorem ado : cJ Tryz.prog 210 age := ⟨by kernel_rfl, (aD (v := .int .u64 0) (by kernel_rfl) rfl (by kernel_rfl) rfl (by decide))⟩
def agf : TI := .slice 163 1 24 [.nil]
theorem adp : cJ Tryz.prog 242 agf := ⟨by kernel_rfl, (aD (v := .slice none 0 0) (by kernel_rfl) rfl (by kernel_rfl) rfl (by decide)), (aD (v := .slice none 0 0) (by kernel_rfl) rfl (by kernel_rfl) rfl (by decide)), cN (by kernel_rfl)⟩
def agh : TI := .int .u8
theorem adq : cJ Tryz.prog 264 agh := ⟨by kernel_rfl, (aD (v := .int .u8 0) (by kernel_rfl) rfl (by kernel_rfl) rfl (by decide))⟩
def agi : TI := .int .u8
theorem adr : cJ Tryz.prog 265 agi := ⟨by kernel_rfl, (aD (v := .int .u8 0) (by kernel_rfl) rfl (by kernel_rfl) rfl (by decide))⟩
def agj : TI := .int .i32
theorem ads : cJ Tryz.prog 268 agj := ⟨by kernel_rfl, (aD (v := .int .i32 0) (by kernel_rfl) rfl (by kernel_rfl) rfl (by decide))⟩
def agk : TI := .int .i32
theorem adt : cJ Tryz.prog 269 agk := ⟨by kernel_rfl, (aD (v := .int .i32 0) (by kernel_rfl) rfl (by kernel_rfl) rfl (by decide))⟩
def tyF : TypeId → TI
  | 2 => ti2
  | 3 => ti3
  | 4 => ti4
  | 5 => ti5
  | 6 => ti6
  | 7 => ti7
  | 8 => ti8
  | 9 => ti9
  | 10 => an4
  | 11 => an5
  | 12 => an6
  | 13 => an7
  | 14 => an8
  | 21 => an9
  | 22 => aoa
  | 23 => aob
  | 24 => aoc
  | 26 => aod
  | 27 => aoe
  | 30 => aof
  | 31 => aog
  | 34 => aoh
  | 38 => aoi
  | 39 => aoj
  | 40 => aok
  | 41 => aol
  | 42 => aom
  | 43 => aon
  | 44 => aoo
  | 46 => aop
  | 47 => aoq
  | 48 => aor
  | 49 => aos
  | 50 => aot
  | 66 => aou
  | 67 => aov
  | 68 => aow
  | 106 => afW
  | 107 => afX
  | 111 => afY
  | 112 => afZ
  | 113 => af0
  | 114 => af1
  | 115 => af2
  | 116 => af3
  | 117 => af4
  | 118 => af5
  | 119 => af6
  | 122 => af7
  | 143 => af8
  | 163 => af9
  | 179 => aga
  | 180 => agb
  | 206 => agc
  | 208 => agd
  | 210 => age
  | 242 => agf
  | 264 => agh
  | 265 => agi
  | 268 => agj
  | 269 => agk
  | _ => .other
theorem asY (t : TypeId) : cJ Tryz.prog t (tyF t) := by
  unfold tyF
  split
  · exact anW
  · exact anX
  · exact anY
  · exact anZ
  · exact an0
  · exact an1
  · exact an2
  · exact an3
  · exact aiz
  · exact aiA
  · exact aiB
  · exact aiC
  · exact aiD
  · exact aiE
  · exact aiF
  · exact aiG
  · exact aiH
  · exact aiI
  · exact aiJ
  · exact aiK
  · exact aiL
  · exact aiM
  · exact aiN
  · exact aiO
  · exact aiP
  · exact aiQ
  · exact aiR
  · exact aiS
  · exact aiT
  · exact aiU
  · exact aiV
  · exact aiW
  · exact aiX
  · exact aiY
  · exact aiZ
  · exact ai0
  · exact ai1
  · exact ac4
  · exact ac5
  · exact ac6
  · exact ac7
  · exact ac8
  · exact ac9
  · exact ada
  · exact adb
  · exact ade
  · exact adf
  · exact adg
  · exact adh
  · exact adi
  · exact adj
  · exact adk
  · exact adl
  · exact adm
  · exact adn
  · exact ado
  · exact adp
  · exact adq
  · exact adr
  · exact ads
  · exact adt
  · trivial
theorem adu : Tryz.prog.follows .mixedOrders = true := by kernel_rfl
def NC (g : FuncId) : Bool := g == 40 || g == 85 || g == 89 || g == 259 || g == 260
noncomputable def env : Env := ⟨Tryz.prog, tyF, asY, adu, NC⟩
@[simp] theorem aq3 : env.writes = NC := rfl
attribute [simp] NC
@[simp] theorem axZ : env.ty 2 = .int .i64 := rfl
@[simp] theorem asZ : env.ty 3 = .int .i64 := rfl
@[simp] theorem ax0 : env.ty 4 = .bool := rfl
@[simp] theorem aox : env.ty 5 = .int .u8 := rfl
@[simp] theorem ax1 : env.ty 6 = .int .u8 := rfl
@[simp] theorem ax2 : env.ty 7 = .struct [(0, 1, false), (1, 1, false), (2, 1, false), (3, 1, false)] [.int .i64 0, .int .i64 0, .bool false, .int .u8 0] := rfl
@[simp] theorem ax3 : env.ty 8 = .struct [(0, 1, false), (1, 1, false), (2, 1, false), (3, 1, false)] [.int .i64 0, .int .i64 0, .bool false, .int .u8 0] := rfl
@[simp] theorem ax4 : env.ty 9 = .str := rfl
@[simp] theorem avT : env.ty 10 = .str := rfl
@[simp] theorem avU : env.ty 11 = .str := rfl
@[simp] theorem avV : env.ty 12 = .int .u64 := rfl
@[simp] theorem avW : env.ty 13 = .struct [(0, 1, false), (1, 1, false)] [.str ⟨#[]⟩, .int .u64 0] := rfl
@[simp] theorem avX : env.ty 14 = .struct [(0, 1, false), (1, 1, false)] [.str ⟨#[]⟩, .int .u64 0] := rfl
@[simp] theorem avY : env.ty 21 = .int .i32 := rfl
@[simp] theorem avZ : env.ty 22 = .slice 3 1 8 [.int .i64 0] := rfl
@[simp] theorem av0 : env.ty 23 = .slice 50 4 64 [.nil, .bool false, .nil, .bool false] := rfl
@[simp] theorem av1 : env.ty 24 = .slice 50 4 64 [.nil, .bool false, .nil, .bool false] := rfl
@[simp] theorem av2 : env.ty 26 = .slice 44 9 152 [.nil, .bool false, .nil, .bool false, .nil, .bool false, .nil, .bool false, .nil] := rfl
@[simp] theorem av3 : env.ty 27 = .int .i64 := rfl
@[simp] theorem av4 : env.ty 30 = .slice 40 2 32 [.bool false, .nil] := rfl
@[simp] theorem av5 : env.ty 31 = .slice 40 2 32 [.bool false, .nil] := rfl
@[simp] theorem av6 : env.ty 34 = .slice 68 10 176 [.nil, .nil, .nil, .bool false, .nil, .bool false, .nil, .bool false, .nil, .bool false] := rfl
@[simp] theorem av7 : env.ty 38 = .slice 143 1 4 [.int .u32 0] := rfl
@[simp] theorem av8 : env.ty 39 = .struct [(0, 1, false), (1, 1, false)] [.bool false, .nil] := rfl
@[simp] theorem av9 : env.ty 40 = .struct [(0, 1, false), (1, 1, false)] [.bool false, .nil] := rfl
@[simp] theorem awa : env.ty 41 = .struct [(0, 2, true), (2, 2, true)] [.bool false, .nil, .bool false, .nil] := rfl
@[simp] theorem awb : env.ty 42 = .struct [(0, 2, true), (2, 2, true)] [.bool false, .nil, .bool false, .nil] := rfl
@[simp] theorem awc : env.ty 43 = .struct [(0, 1, false), (1, 4, true), (5, 4, true)] [.nil, .bool false, .nil, .bool false, .nil, .bool false, .nil, .bool false, .nil] := rfl
@[simp] theorem awd : env.ty 44 = .struct [(0, 1, false), (1, 4, true), (5, 4, true)] [.nil, .bool false, .nil, .bool false, .nil, .bool false, .nil, .bool false, .nil] := rfl
@[simp] theorem awe : env.ty 46 = .slice 3 1 8 [.int .i64 0] := rfl
@[simp] theorem awf : env.ty 47 = .struct [(0, 1, false), (1, 1, false)] [.nil, .bool false] := rfl
@[simp] theorem awg : env.ty 48 = .struct [(0, 1, false), (1, 1, false)] [.nil, .bool false] := rfl
@[simp] theorem awh : env.ty 49 = .struct [(0, 2, true), (2, 2, true)] [.nil, .bool false, .nil, .bool false] := rfl
@[simp] theorem awi : env.ty 50 = .struct [(0, 2, true), (2, 2, true)] [.nil, .bool false, .nil, .bool false] := rfl
@[simp] theorem awj : env.ty 66 = .slice 24 1 24 [.nil] := rfl
@[simp] theorem awk : env.ty 67 = .struct [(0, 1, false), (1, 1, false), (2, 4, true), (6, 4, true)] [.nil, .nil, .nil, .bool false, .nil, .bool false, .nil, .bool false, .nil, .bool false] := rfl
@[simp] theorem awl : env.ty 68 = .struct [(0, 1, false), (1, 1, false), (2, 4, true), (6, 4, true)] [.nil, .nil, .nil, .bool false, .nil, .bool false, .nil, .bool false, .nil, .bool false] := rfl
@[simp] theorem as0 : env.ty 106 = .slice 119 5 88 [.nil, .nil, .bool false, .nil, .int .i64 0] := rfl
@[simp] theorem as1 : env.ty 107 = .slice 116 7 136 [.nil, .nil, .nil, .nil, .bool false, .nil, .int .i64 0] := rfl
@[simp] theorem as2 : env.ty 111 = .struct [(0, 1, false), (1, 1, false), (2, 2, true)] [.nil, .nil, .bool false, .nil] := rfl
@[simp] theorem as3 : env.ty 112 = .struct [(0, 1, false), (1, 1, false), (2, 2, true)] [.nil, .nil, .bool false, .nil] := rfl
@[simp] theorem as4 : env.ty 113 = .struct [(0, 1, false), (1, 1, false), (2, 4, true)] [.nil, .nil, .nil, .nil, .bool false, .nil] := rfl
@[simp] theorem as5 : env.ty 114 = .struct [(0, 1, false), (1, 1, false), (2, 4, true)] [.nil, .nil, .nil, .nil, .bool false, .nil] := rfl
@[simp] theorem as6 : env.ty 115 = .struct [(0, 6, true), (6, 1, false)] [.nil, .nil, .nil, .nil, .bool false, .nil, .int .i64 0] := rfl
@[simp] theorem as7 : env.ty 116 = .struct [(0, 6, true), (6, 1, false)] [.nil, .nil, .nil, .nil, .bool false, .nil, .int .i64 0] := rfl
@[simp] theorem as8 : env.ty 117 = .fnT := rfl
@[simp] theorem as9 : env.ty 118 = .struct [(0, 4, true), (4, 1, false)] [.nil, .nil, .bool false, .nil, .int .i64 0] := rfl
@[simp] theorem ata : env.ty 119 = .struct [(0, 4, true), (4, 1, false)] [.nil, .nil, .bool false, .nil, .int .i64 0] := rfl
@[simp] theorem atb : env.ty 122 = .slice 117 1 8 [.undef] := rfl
@[simp] theorem ai2 : env.ty 143 = .int .u32 := rfl
@[simp] theorem atc : env.ty 163 = .slice 31 1 24 [.nil] := rfl
@[simp] theorem atd : env.ty 179 = .struct [(0, 1, false)] [.nil] := rfl
@[simp] theorem ate : env.ty 180 = .struct [(0, 1, false)] [.nil] := rfl
@[simp] theorem atf : env.ty 206 = .slice 42 4 64 [.bool false, .nil, .bool false, .nil] := rfl
@[simp] theorem atg : env.ty 208 = .int .u64 := rfl
@[simp] theorem ath : env.ty 210 = .int .u64 := rfl
@[simp] theorem ati : env.ty 242 = .slice 163 1 24 [.nil] := rfl
@[simp] theorem atj : env.ty 264 = .int .u8 := rfl
@[simp] theorem atk : env.ty 265 = .int .u8 := rfl
@[simp] theorem atl : env.ty 268 = .int .i32 := rfl
@[simp] theorem atm : env.ty 269 = .int .i32 := rfl
end Go.Proofs.YtbbjgncblhfegaaGreat
