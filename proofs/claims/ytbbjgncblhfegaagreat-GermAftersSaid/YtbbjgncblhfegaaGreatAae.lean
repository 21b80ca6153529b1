import Derived.Test.YtbbjgncblhfegaaGreatProg
import Derived.KernelRfl
import Derived.Test.YtbbjgncblhfegaaGreatAad
set_option linter.unusedSimpArgs false
set_option linter.unusedVariables false
/- The types of the seat, as the pure machine wants them: closed facts, each by the kernel. -/
namespace Go.Proofs.YtbbjgncblhfegaaGreat
open Go Pm
def ti2 : TI := .int .i64
theorem anY : cF Tryz.prog 2 ti2 := ⟨by kernel_rfl, (aG (v := .int .i64 0) (by kernel_rfl) rfl (by kernel_rfl) rfl (by decide))⟩
def ti3 : TI := .int .i64
theorem anZ : cF Tryz.prog 3 ti3 := ⟨by kernel_rfl, (aG (v := .int .i64 0) (by kernel_rfl) rfl (by kernel_rfl) rfl (by decide))⟩
def ti4 : TI := .bool
theorem an0 : cF Tryz.prog 4 ti4 := ⟨by kernel_rfl, (aG (v := .bool false) (by kernel_rfl) rfl (by kernel_rfl) rfl (by decide))⟩
def ti5 : TI := .int .u8
theorem an1 : cF Tryz.prog 5 ti5 := ⟨by kernel_rfl, (aG (v := .int .u8 0) (by kernel_rfl) rfl (by kernel_rfl) rfl (by decide))⟩
def ti6 : TI := .int .u8
theorem an2 : cF Tryz.prog 6 ti6 := ⟨by kernel_rfl, (aG (v := .int .u8 0) (by kernel_rfl) rfl (by kernel_rfl) rfl (by decide))⟩
def ti7 : TI := .struct [(0, 1, false), (1, 1, false), (2, 1, false), (3, 1, false)] [.int .i64 0, .int .i64 0, .bool false, .int .u8 0]
theorem an3 : cF Tryz.prog 7 ti7 := ⟨bA (by kernel_rfl), (aG (v := .agg #[.int .i64 0, .int .i64 0, .bool false, .int .u8 0]) (by kernel_rfl) rfl (by kernel_rfl) rfl (by decide))⟩
def ti8 : TI := .struct [(0, 1, false), (1, 1, false), (2, 1, false), (3, 1, false)] [.int .i64 0, .int .i64 0, .bool false, .int .u8 0]
theorem an4 : cF Tryz.prog 8 ti8 := ⟨bA (by kernel_rfl), (aG (v := .agg #[.int .i64 0, .int .i64 0, .bool false, .int .u8 0]) (by kernel_rfl) rfl (by kernel_rfl) rfl (by decide))⟩
def ti9 : TI := .str
theorem an5 : cF Tryz.prog 9 ti9 := ⟨by kernel_rfl, (aG (v := .string ⟨#[]⟩) (by kernel_rfl) rfl (by kernel_rfl) rfl (by decide))⟩
def an6 : TI := .str
theorem aiG : cF Tryz.prog 10 an6 := ⟨by kernel_rfl, (aG (v := .string ⟨#[]⟩) (by kernel_rfl) rfl (by kernel_rfl) rfl (by decide))⟩
def an7 : TI := .str
theorem aiH : cF Tryz.prog 11 an7 := ⟨by kernel_rfl, (aG (v := .string ⟨#[]⟩) (by kernel_rfl) rfl (by kernel_rfl) rfl (by decide))⟩
def an8 : TI := .int .u64
theorem aiI : cF Tryz.prog 12 an8 := ⟨by kernel_rfl, (aG (v := .int .u64 0) (by kernel_rfl) rfl (by kernel_rfl) rfl (by decide))⟩
def an9 : TI := .struct [(0, 1, false), (1, 1, false)] [.str ⟨#[]⟩, .int .u64 0]
theorem aiJ : cF Tryz.prog 13 an9 := ⟨bA (by kernel_rfl), (aG (v := .agg #[.string ⟨#[]⟩, .int .u64 0]) (by kernel_rfl) rfl (by kernel_rfl) rfl (by decide))⟩
def aoa : TI := .struct [(0, 1, false), (1, 1, false)] [.str ⟨#[]⟩, .int .u64 0]
theorem aiK : cF Tryz.prog 14 aoa := ⟨bA (by kernel_rfl), (aG (v := .agg #[.string ⟨#[]⟩, .int .u64 0]) (by kernel_rfl) rfl (by kernel_rfl) rfl (by decide))⟩
def aob : TI := .int .i32
theorem aiL : cF Tryz.prog 21 aob := ⟨by kernel_rfl, (aG (v := .int .i32 0) (by kernel_rfl) rfl (by kernel_rfl) rfl (by decide))⟩
def aoc : TI := .slice 3 1 8 [.int .i64 0]
theorem aiM : cF Tryz.prog 22 aoc := ⟨by kernel_rfl, (aG (v := .slice none 0 0) (by kernel_rfl) rfl (by kernel_rfl) rfl (by decide)), (aG (v := .int .i64 0) (by kernel_rfl) rfl (by kernel_rfl) rfl (by decide)), cH (by kernel_rfl)⟩
def aod : TI := .slice 50 4 64 [.nil, .bool false, .nil, .bool false]
theorem aiN : cF Tryz.prog 23 aod := ⟨by kernel_rfl, (aG (v := .slice none 0 0) (by kernel_rfl) rfl (by kernel_rfl) rfl (by decide)), (aG (v := .agg #[.slice none 0 0, .bool false, .slice none 0 0, .bool false]) (by kernel_rfl) rfl (by kernel_rfl) rfl (by decide)), cH (by kernel_rfl)⟩
def aoe : TI := .slice 50 4 64 [.nil, .bool false, .nil, .bool false]
theorem aiO : cF Tryz.prog 24 aoe := ⟨by kernel_rfl, (aG (v := .slice none 0 0) (by kernel_rfl) rfl (by kernel_rfl) rfl (by decide)), (aG (v := .agg #[.slice none 0 0, .bool false, .slice none 0 0, .bool false]) (by kernel_rfl) rfl (by kernel_rfl) rfl (by decide)), cH (by kernel_rfl)⟩
def aof : TI := .slice 44 9 152 [.nil, .bool false, .nil, .bool false, .nil, .bool false, .nil, .bool false, .nil]
theorem aiP : cF Tryz.prog 26 aof := ⟨by kernel_rfl, (aG (v := .slice none 0 0) (by kernel_rfl) rfl (by kernel_rfl) rfl (by decide)), (aG (v := .agg #[.slice none 0 0, .bool false, .slice none 0 0, .bool false, .slice none 0 0, .bool false, .slice none 0 0, .bool false, .slice none 0 0]) (by kernel_rfl) rfl (by kernel_rfl) rfl (by decide)), cH (by kernel_rfl)⟩
def aog : TI := .int .i64
theorem aiQ : cF Tryz.prog 27 aog := ⟨by kernel_rfl, (aG (v := .int .i64 0) (by kernel_rfl) rfl (by kernel_rfl) rfl (by decide))⟩
def aoh : TI := .slice 40 2 32 [.bool false, .nil]
theorem aiR : cF Tryz.prog 30 aoh := ⟨by kernel_rfl, (aG (v := .slice none 0 0) (by kernel_rfl) rfl (by kernel_rfl) rfl (by decide)), (aG (v := .agg #[.bool false, .slice none 0 0]) (by kernel_rfl) rfl (by kernel_rfl) rfl (by decide)), cH (by kernel_rfl)⟩
def aoi : TI := .slice 40 2 32 [.bool false, .nil]
theorem aiS : cF Tryz.prog 31 aoi := ⟨by kernel_rfl, (aG (v := .slice none 0 0) (by kernel_rfl) rfl (by kernel_rfl) rfl (by decide)), (aG (v := .agg #[.bool false, .slice none 0 0]) (by kernel_rfl) rfl (by kernel_rfl) rfl (by decide)), cH (by kernel_rfl)⟩
def aoj : TI := .slice 68 10 176 [.nil, .nil, .nil, .bool false, .nil, .bool false, .nil, .bool false, .nil, .bool false]
theorem aiT : cF Tryz.prog 34 aoj := ⟨by kernel_rfl, (aG (v := .slice none 0 0) (by kernel_rfl) rfl (by kernel_rfl) rfl (by decide)), (aG (v := .agg #[.slice none 0 0, .slice none 0 0, .slice none 0 0, .bool false, .slice none 0 0, .bool false, .slice none 0 0, .bool false, .slice none 0 0, .bool false]) (by kernel_rfl) rfl (by kernel_rfl) rfl (by decide)), cH (by kernel_rfl)⟩
def aok : TI := .slice 143 1 4 [.int .u32 0]
theorem aiU : cF Tryz.prog 38 aok := ⟨by kernel_rfl, (aG (v := .slice none 0 0) (by kernel_rfl) rfl (by kernel_rfl) rfl (by decide)), (aG (v := .int .u32 0) (by kernel_rfl) rfl (by kernel_rfl) rfl (by decide)), cH (by kernel_rfl)⟩
def aol : TI := .struct [(0, 1, false), (1, 1, false)] [.bool false, .nil]
theorem aiV : cF Tryz.prog 39 aol := ⟨bA (by kernel_rfl), (aG (v := .agg #[.bool false, .slice none 0 0]) (by kernel_rfl) rfl (by kernel_rfl) rfl (by decide))⟩
def aom : TI := .struct [(0, 1, false), (1, 1, false)] [.bool false, .nil]
theorem aiW : cF Tryz.prog 40 aom := ⟨bA (by kernel_rfl), (aG (v := .agg #[.bool false, .slice none 0 0]) (by kernel_rfl) rfl (by kernel_rfl) rfl (by decide))⟩
def aon : TI := .struct [(0, 2, true), (2, 2, true)] [.bool false, .nil, .bool false, .nil]
theorem aiX : cF Tryz.prog 41 aon := ⟨bA (by kernel_rfl), (aG (v := .agg #[.bool false, .slice none 0 0, .bool false, .slice none 0 0]) (by kernel_rfl) rfl (by kernel_rfl) rfl (by decide))⟩
def aoo : TI := .struct [(0, 2, true), (2, 2, true)] [.bool false, .nil, .bool false, .nil]
theorem aiY : cF Tryz.prog 42 aoo := ⟨bA (by kernel_rfl), (aG (v := .agg #[.bool false, .slice none 0 0, .bool false, .slice none 0 0]) (by kernel_rfl) rfl (by kernel_rfl) rfl (by decide))⟩
def aop : TI := .struct [(0, 1, false), (1, 4, true), (5, 4, true)] [.nil, .bool false, .nil, .bool false, .nil, .bool false, .nil, .bool false, .nil]
theorem aiZ : cF Tryz.prog 43 aop := ⟨bA (by kernel_rfl), (aG (v := .agg #[.slice none 0 0, .bool false, .slice none 0 0, .bool false, .slice none 0 0, .bool false, .slice none 0 0, .bool false, .slice none 0 0]) (by kernel_rfl) rfl (by kernel_rfl) rfl (by decide))⟩
def aoq : TI := .struct [(0, 1, false), (1, 4, true), (5, 4, true)] [.nil, .bool false, .nil, .bool false, .nil, .bool false, .nil, .bool false, .nil]
theorem ai0 : cF Tryz.prog 44 aoq := ⟨bA (by kernel_rfl), (aG (v := .agg #[.slice none 0 0, .bool false, .slice none 0 0, .bool false, .slice none 0 0, .bool false, .slice none 0 0, .bool false, .slice none 0 0]) (by kernel_rfl) rfl (by kernel_rfl) rfl (by decide))⟩
def aor : TI := .slice 3 1 8 [.int .i64 0]
theorem ai1 : cF Tryz.prog 46 aor := ⟨by kernel_rfl, (aG (v := .slice none 0 0) (by kernel_rfl) rfl (by kernel_rfl) rfl (by decide)), (aG (v := .int .i64 0) (by kernel_rfl) rfl (by kernel_rfl) rfl (by decide)), cH (by kernel_rfl)⟩
def aos : TI := .struct [(0, 1, false), (1, 1, false)] [.nil, .bool false]
theorem ai2 : cF Tryz.prog 47 aos := ⟨bA (by kernel_rfl), (aG (v := .agg #[.slice none 0 0, .bool false]) (by kernel_rfl) rfl (by kernel_rfl) rfl (by decide))⟩
def aot : TI := .struct [(0, 1, false), (1, 1, false)] [.nil, .bool false]
theorem ai3 : cF Tryz.prog 48 aot := ⟨bA (by kernel_rfl), (aG (v := .agg #[.slice none 0 0, .bool false]) (by kernel_rfl) rfl (by kernel_rfl) rfl (by decide))⟩
def aou : TI := .struct [(0, 2, true), (2, 2, true)] [.nil, .bool false, .nil, .bool false]
theorem ai4 : cF Tryz.prog 49 aou := ⟨bA (by kernel_rfl), (aG (v := .agg #[.slice none 0 0, .bool false, .slice none 0 0, .bool false]) (by kernel_rfl) rfl (by kernel_rfl) rfl (by decide))⟩
def aov : TI := .struct [(0, 2, true), (2, 2, true)] [.nil, .bool false, .nil, .bool false]
theorem ai5 : cF Tryz.prog 50 aov := ⟨bA (by kernel_rfl), (aG (v := .agg #[.slice none 0 0, .bool false, .slice none 0 0, .bool false]) (by kernel_rfl) rfl (by kernel_rfl) rfl (by decide))⟩
def aow : TI := .slice 24 1 24 [.nil]
theorem ai6 : cF Tryz.prog 66 aow := ⟨by kernel_rfl, (aG (v := .slice none 0 0) (by kernel_rfl) rfl (by kernel_rfl) rfl (by decide)), (aG (v := .slice none 0 0) (by kernel_rfl) rfl (by kernel_rfl) rfl (by decide)), cH (by kernel_rfl)⟩
def aox : TI := .struct [(0, 1, false), (1, 1, false), (2, 4, true), (6, 4, true)] [.nil, .nil, .nil, .bool false, .nil, .bool false, .nil, .bool false, .nil, .bool false]
theorem ai7 : cF Tryz.prog 67 aox := ⟨bA (by kernel_rfl), (aG (v := .agg #[.slice none 0 0, .slice none 0 0, .slice none 0 0, .bool false, .slice none 0 0, .bool false, .slice none 0 0, .bool false, .slice none 0 0, .bool false]) (by kernel_rfl) rfl (by kernel_rfl) rfl (by decide))⟩
def aoy : TI := .struct [(0, 1, false), (1, 1, false), (2, 4, true), (6, 4, true)] [.nil, .nil, .nil, .bool false, .nil, .bool false, .nil, .bool false, .nil, .bool false]
theorem ai8 : cF Tryz.prog 68 aoy := ⟨bA (by kernel_rfl), (aG (v := .agg #[.slice none 0 0, .slice none 0 0, .slice none 0 0, .bool false, .slice none 0 0, .bool false, .slice none 0 0, .bool false, .slice none 0 0, .bool false]) (by kernel_rfl) rfl (by kernel_rfl) rfl (by decide))⟩
def af3 : TI := .slice 119 5 88 [.nil, .nil, .bool false, .nil, .int .i64 0]
theorem ac9 : cF Tryz.prog 106 af3 := ⟨by kernel_rfl, (aG (v := .slice none 0 0) (by kernel_rfl) rfl (by kernel_rfl) rfl (by decide)), (aG (v := .agg #[.slice none 0 0, .slice none 0 0, .bool false, .slice none 0 0, .int .i64 0]) (by kernel_rfl) rfl (by kernel_rfl) rfl (by decide)), cH (by kernel_rfl)⟩
def af4 : TI := .slice 116 7 136 [.nil, .nil, .nil, .nil, .bool false, .nil, .int .i64 0]
theorem ada : cF Tryz.prog 107 af4 := ⟨by kernel_rfl, (aG (v := .slice none 0 0) (by kernel_rfl) rfl (by kernel_rfl) rfl (by decide)), (aG (v := .agg #[.slice none 0 0, .slice none 0 0, .slice none 0 0, .slice none 0 0, .bool false, .slice none 0 0, .int .i64 0]) (by kernel_rfl) rfl (by kernel_rfl) rfl (by decide)), cH (by kernel_rfl)⟩
def af5 : TI := .struct [(0, 1, false), (1, 1, false), (2, 2, true)] [.nil, .nil, .bool false, .nil]
theorem adb : cF Tryz.prog 111 af5 := ⟨bA (by kernel_rfl), (aG (v := .agg #[.slice none 0 0, .slice none 0 0, .bool false, .slice none 0 0]) (by kernel_rfl) rfl (by kernel_rfl) rfl (by decide))⟩
def af6 : TI := .struct [(0, 1, false), (1, 1, false), (2, 2, true)] [.nil, .nil, .bool false, .nil]
theorem ade : cF Tryz.prog 112 af6 := ⟨bA (by kernel_rfl), (aG (v := .agg #[.slice none 0 0, .slice none 0 0, .bool false, .slice none 0 0]) (by kernel_rfl) rfl (by kernel_rfl) rfl (by decide))⟩
def af7 : TI := .struct [(0, 1, false), (1, 1, false), (2, 4, true)] [.nil, .nil, .nil, .nil, .bool false, .nil]
theorem adf : cF Tryz.prog 113 af7 := ⟨bA (by kernel_rfl), (aG (v := .agg #[.slice none 0 0, .slice none 0 0, .slice none 0 0, .slice none 0 0, .bool false, .slice none 0 0]) (by kernel_rfl) rfl (by kernel_rfl) rfl (by decide))⟩
def af8 : TI := .struct [(0, 1, false), (1, 1, false), (2, 4, true)] [.nil, .nil, .nil, .nil, .bool false, .nil]
theorem adg : cF Tryz.prog 114 af8 := ⟨bA (by kernel_rfl), (aG (v := .agg #[.slice none 0 0, .slice none 0 0, .slice none 0 0, .slice none 0 0, .bool false, .slice none 0 0]) (by kernel_rfl) rfl (by kernel_rfl) rfl (by decide))⟩
def af9 : TI := .struct [(0, 6, true), (6, 1, false)] [.nil, .nil, .nil, .nil, .bool false, .nil, .int .i64 0]
theorem adh : cF Tryz.prog 115 af9 := ⟨bA (by kernel_rfl), (aG (v := .agg #[.slice none 0 0, .slice none 0 0, .slice none 0 0, .slice none 0 0, .bool false, .slice none 0 0, .int .i64 0]) (by kernel_rfl) rfl (by kernel_rfl) rfl (by decide))⟩
def aga : TI := .struct [(0, 6, true), (6, 1, false)] [.nil, .nil, .nil, .nil, .bool false, .nil, .int .i64 0]
theorem adi : cF Tryz.prog 116 aga := ⟨bA (by kernel_rfl), (aG (v := .agg #[.slice none 0 0, .slice none 0 0, .slice none 0 0, .slice none 0 0, .bool false, .slice none 0 0, .int .i64 0]) (by kernel_rfl) rfl (by kernel_rfl) rfl (by decide))⟩
def agb : TI := .fnT
theorem adj : cF Tryz.prog 117 agb := ⟨by kernel_rfl, (aG (v := .nilFunc) (by kernel_rfl) rfl (by kernel_rfl) rfl (by decide))⟩
def agc : TI := .struct [(0, 4, true), (4, 1, false)] [.nil, .nil, .bool false, .nil, .int .i64 0]
theorem adk : cF Tryz.prog 118 agc := ⟨bA (by kernel_rfl), (aG (v := .agg #[.slice none 0 0, .slice none 0 0, .bool false, .slice none 0 0, .int .i64 0]) (by kernel_rfl) rfl (by kernel_rfl) rfl (by decide))⟩
def agd : TI := .struct [(0, 4, true), (4, 1, false)] [.nil, .nil, .bool false, .nil, .int .i64 0]
theorem adl : cF Tryz.prog 119 agd := ⟨bA (by kernel_rfl), (aG (v := .agg #[.slice none 0 0, .slice none 0 0, .bool false, .slice none 0 0, .int .i64 0]) (by kernel_rfl) rfl (by kernel_rfl) rfl (by decide))⟩
def age : TI := .slice 117 1 8 [.undef]
theorem adm : cF Tryz.prog 122 age := ⟨by kernel_rfl, (aG (v := .slice none 0 0) (by kernel_rfl) rfl (by kernel_rfl) rfl (by decide)), (aG (v := .nilFunc) (by kernel_rfl) rfl (by kernel_rfl) rfl (by decide)), cH (by kernel_rfl)⟩
def agf : TI := .int .u32
theorem adn : cF Tryz.prog 143 agf := ⟨by kernel_rfl, (aG (v := .int .u32 0) (by kernel_rfl) rfl (by kernel_rfl) rfl (by decide))⟩
def agh : TI := .slice 31 1 24 [.nil]
theorem ado : cF Tryz.prog 163 agh := ⟨by kernel_rfl, (aG (v := .slice none 0 0) (by kernel_rfl) rfl (by kernel_rfl) rfl (by decide)), (aG (v := .slice none 0 0) (by kernel_rfl) rfl (by kernel_rfl) rfl (by decide)), cH (by kernel_rfl)⟩
def agi : TI := .struct [(0, 1, false)] [.nil]
theorem adp : cF Tryz.prog 179 agi := ⟨bA (by kernel_rfl), (aG (v := .agg #[.slice none 0 0]) (by kernel_rfl) rfl (by kernel_rfl) rfl (by decide))⟩
def agj : TI := .struct [(0, 1, false)] [.nil]
theorem adq : cF Tryz.prog 180 agj := ⟨bA (by kernel_rfl), (aG (v := .agg #[.slice none 0 0]) (by kernel_rfl) rfl (by kernel_rfl) rfl (by decide))⟩
def agk : TI := .slice 42 4 64 [.bool false, .nil, .bool false, .nil]
theorem adr : cF Tryz.prog 206 agk := ⟨by kernel_rfl, (aG (v := .slice none 0 0) (by kernel_rfl) rfl (by kernel_rfl) rfl (by decide)), (aG (v := .agg #[.bool false, .slice none 0 0, .bool false, .slice none 0 0]) (by kernel_rfl) rfl (by kernel_rfl) rfl (by decide)), cH (by kernel_rfl)⟩
def agl : TI := .int .u64
theorem ads : cF Tryz.prog 208 agl := ⟨by kernel_rfl, (aG (v := .int .u64 0) (by kernel_rfl) rfl (by kernel_rfl) rfl (by decide))⟩
def agm : TI := .int .u64
theorem adt : cF Tryz.prog 210 agm := ⟨by kernel_rfl, (aG (v := .int .u64 0) (by kernel_rfl) rfl (by kernel_rfl) rfl (by decide))⟩
def agn : TI := .slice 163 1 24 [.nil]
theorem adu : cF Tryz.prog 242 agn := ⟨by kernel_rfl, (aG (v := .slice none 0 0) (by kernel_rfl) rfl (by kernel_rfl) rfl (by decide)), (aG (v := .slice none 0 0) (by kernel_rfl) rfl (by kernel_rfl) rfl (by decide)), cH (by kernel_rfl)⟩
def ago : TI := .int .u8
theorem adw : cF Tryz.prog 264 ago := ⟨by kernel_rfl, (aG (v := .int .u8 0) (by kernel_rfl) rfl (by kernel_rfl) rfl (by decide))⟩
def agp : TI := .int .u8
theorem adx : cF Tryz.prog 265 agp := ⟨by kernel_rfl, (aG (v := .int .u8 0) (by kernel_rfl) rfl (by kernel_rfl) rfl (by decide))⟩
def agq : TI := .int .i32
theorem ady : cF Tryz.prog 268 agq := ⟨by kernel_rfl, (aG (v := .int .i32 0) (by kernel_rfl) rfl (by kernel_rfl) rfl (by decide))⟩
def agr : TI := .int .i32
theorem adz : cF Tryz.prog 269 agr := ⟨by kernel_rfl, (aG (v := .int .i32 0) (by kernel_rfl) rfl (by kernel_rfl) rfl (by decide))⟩
def tyF : TypeId → TI
  | 2 => ti2
  | 3 => ti3
  | 4 => ti4
  | 5 => ti5
  | 6 => ti6
  | 7 => ti7
  | 8 => ti8
  | 9 => ti9
  | 10 => an6
  | 11 => an7
  | 12 => an8
  | 13 => an9
  | 14 => aoa
  | 21 => aob
  | 22 => aoc
  | 23 => aod
  | 24 => aoe
  | 26 => aof
  | 27 => aog
  | 30 => aoh
  | 31 => aoi
  | 34 => aoj
  | 38 => aok
  | 39 => aol
  | 40 => aom
  | 41 => aon
  | 42 => aoo
  | 43 => aop
  | 44 => aoq
  | 46 => aor
  | 47 => aos
  | 48 => aot
  | 49 => aou
  | 50 => aov
  | 66 => aow
  | 67 => aox
  | 68 => aoy
  | 106 => af3
  | 107 => af4
  | 111 => af5
  | 112 => af6
  | 113 => af7
  | 114 => af8
  | 115 => af9
  | 116 => aga
  | 117 => agb
  | 118 => agc
  | 119 => agd
  | 122 => age
  | 143 => agf
  | 163 => agh
  | 179 => agi
  | 180 => agj
  | 206 => agk
  | 208 => agl
  | 210 => agm
  | 242 => agn
  | 264 => ago
  | 265 => agp
  | 268 => agq
  | 269 => agr
  | _ => .other
theorem asZ (t : TypeId) : cF Tryz.prog t (tyF t) := by
  unfold tyF
  split
  · exact anY
  · exact anZ
  · exact an0
  · exact an1
  · exact an2
  · exact an3
  · exact an4
  · exact an5
  · exact aiG
  · exact aiH
  · exact aiI
  · exact aiJ
  · exact aiK
  · exact aiL
  · exact aiM
  · exact aiN
  · exact aiO
  · exact aiP
  · exact aiQ
  · exact aiR
  · exact aiS
  · exact aiT
  · exact aiU
  · exact aiV
  · exact aiW
  · exact aiX
  · exact aiY
  · exact aiZ
  · exact ai0
  · exact ai1
  · exact ai2
  · exact ai3
  · exact ai4
  · exact ai5
  · exact ai6
  · exact ai7
  · exact ai8
  · exact ac9
  · exact ada
  · exact adb
  · exact ade
  · exact adf
  · exact adg
  · exact adh
  · exact adi
  · exact adj
  · exact adk
  · exact adl
  · exact adm
  · exact adn
  · exact ado
  · exact adp
  · exact adq
  · exact adr
  · exact ads
  · exact adt
  · exact adu
  · exact adw
  · exact adx
  · exact ady
  · exact adz
  · trivial
theorem adA : Tryz.prog.follows .mixedOrders = true := by kernel_rfl
def E9 (g : FuncId) : Bool := g == 40 || g == 85 || g == 89 || g == 259 || g == 260
noncomputable def env : Env := ⟨Tryz.prog, tyF, asZ, adA, E9⟩
@[simp] theorem aq5 : env.writes = E9 := rfl
attribute [simp] E9
@[simp] theorem ax1 : env.ty 2 = .int .i64 := rfl
@[simp] theorem as0 : env.ty 3 = .int .i64 := rfl
@[simp] theorem ax2 : env.ty 4 = .bool := rfl
@[simp] theorem aoz : env.ty 5 = .int .u8 := rfl
@[simp] theorem ax3 : env.ty 6 = .int .u8 := rfl
@[simp] theorem ax4 : env.ty 7 = .struct [(0, 1, false), (1, 1, false), (2, 1, false), (3, 1, false)] [.int .i64 0, .int .i64 0, .bool false, .int .u8 0] := rfl
@[simp] theorem ax5 : env.ty 8 = .struct [(0, 1, false), (1, 1, false), (2, 1, false), (3, 1, false)] [.int .i64 0, .int .i64 0, .bool false, .int .u8 0] := rfl
@[simp] theorem ax6 : env.ty 9 = .str := rfl
@[simp] theorem av2 : env.ty 10 = .str := rfl
@[simp] theorem av3 : env.ty 11 = .str := rfl
@[simp] theorem av4 : env.ty 12 = .int .u64 := rfl
@[simp] theorem av5 : env.ty 13 = .struct [(0, 1, false), (1, 1, false)] [.str ⟨#[]⟩, .int .u64 0] := rfl
@[simp] theorem av6 : env.ty 14 = .struct [(0, 1, false), (1, 1, false)] [.str ⟨#[]⟩, .int .u64 0] := rfl
@[simp] theorem av7 : env.ty 21 = .int .i32 := rfl
@[simp] theorem av8 : env.ty 22 = .slice 3 1 8 [.int .i64 0] := rfl
@[simp] theorem av9 : env.ty 23 = .slice 50 4 64 [.nil, .bool false, .nil, .bool false] := rfl
@[simp] theorem awa : env.ty 24 = .slice 50 4 64 [.nil, .bool false, .nil, .bool false] := rfl
@[simp] theorem awb : env.ty 26 = .slice 44 9 152 [.nil, .bool false, .nil, .bool false, .nil, .bool false, .nil, .bool false, .nil] := rfl
@[simp] theorem awc : env.ty 27 = .int .i64 := rfl
@[simp] theorem awd : env.ty 30 = .slice 40 2 32 [.bool false, .nil] := rfl
@[simp] theorem awe : env.ty 31 = .slice 40 2 32 [.bool false, .nil] := rfl
@[simp] theorem awf : env.ty 34 = .slice 68 10 176 [.nil, .nil, .nil, .bool false, .nil, .bool false, .nil, .bool false, .nil, .bool false] := rfl
@[simp] theorem awg : env.ty 38 = .slice 143 1 4 [.int .u32 0] := rfl
@[simp] theorem awh : env.ty 39 = .struct [(0, 1, false), (1, 1, false)] [.bool false, .nil] := rfl
@[simp] theorem awi : env.ty 40 = .struct [(0, 1, false), (1, 1, false)] [.bool false, .nil] := rfl
@[simp] theorem awj : env.ty 41 = .struct [(0, 2, true), (2, 2, true)] [.bool false, .nil, .bool false, .nil] := rfl
@[simp] theorem awk : env.ty 42 = .struct [(0, 2, true), (2, 2, true)] [.bool false, .nil, .bool false, .nil] := rfl
@[simp] theorem awl : env.ty 43 = .struct [(0, 1, false), (1, 4, true), (5, 4, true)] [.nil, .bool false, .nil, .bool false, .nil, .bool false, .nil, .bool false, .nil] := rfl
@[simp] theorem awm : env.ty 44 = .struct [(0, 1, false), (1, 4, true), (5, 4, true)] [.nil, .bool false, .nil, .bool false, .nil, .bool false, .nil, .bool false, .nil] := rfl
@[simp] theorem awn : env.ty 46 = .slice 3 1 8 [.int .i64 0] := rfl
@[simp] theorem awo : env.ty 47 = .struct [(0, 1, false), (1, 1, false)] [.nil, .bool false] := rfl
@[simp] theorem awp : env.ty 48 = .struct [(0, 1, false), (1, 1, false)] [.nil, .bool false] := rfl
@[simp] theorem awq : env.ty 49 = .struct [(0, 2, true), (2, 2, true)] [.nil, .bool false, .nil, .bool false] := rfl
@[simp] theorem awr : env.ty 50 = .struct [(0, 2, true), (2, 2, true)] [.nil, .bool false, .nil, .bool false] := rfl
@[simp] theorem aws : env.ty 66 = .slice 24 1 24 [.nil] := rfl
@[simp] theorem awt : env.ty 67 = .struct [(0, 1, false), (1, 1, false), (2, 4, true), (6, 4, true)] [.nil, .nil, .nil, .bool false, .nil, .bool false, .nil, .bool false, .nil, .bool false] := rfl
@[simp] theorem awu : env.ty 68 = .struct [(0, 1, false), (1, 1, false), (2, 4, true), (6, 4, true)] [.nil, .nil, .nil, .bool false, .nil, .bool false, .nil, .bool false, .nil, .bool false] := rfl
@[simp] theorem as1 : env.ty 106 = .slice 119 5 88 [.nil, .nil, .bool false, .nil, .int .i64 0] := rfl
@[simp] theorem as2 : env.ty 107 = .slice 116 7 136 [.nil, .nil, .nil, .nil, .bool false, .nil, .int .i64 0] := rfl
@[simp] theorem as3 : env.ty 111 = .struct [(0, 1, false), (1, 1, false), (2, 2, true)] [.nil, .nil, .bool false, .nil] := rfl
@[simp] theorem as4 : env.ty 112 = .struct [(0, 1, false), (1, 1, false), (2, 2, true)] [.nil, .nil, .bool false, .nil] := rfl
@[simp] theorem as5 : env.ty 113 = .struct [(0, 1, false), (1, 1, false), (2, 4, true)] [.nil, .nil, .nil, .nil, .bool false, .nil] := rfl
@[simp] theorem as6 : env.ty 114 = .struct [(0, 1, false), (1, 1, false), (2, 4, true)] [.nil, .nil, .nil, .nil, .bool false, .nil] := rfl
@[simp] theorem as7 : env.ty 115 = .struct [(0, 6, true), (6, 1, false)] [.nil, .nil, .nil, .nil, .bool false, .nil, .int .i64 0] := rfl
@[simp] theorem as8 : env.ty 116 = .struct [(0, 6, true), (6, 1, false)] [.nil, .nil, .nil, .nil, .bool false, .nil, .int .i64 0] := rfl
@[simp] theorem as9 : env.ty 117 = .fnT := rfl
@[simp] theorem ata : env.ty 118 = .struct [(0, 4, true), (4, 1, false)] [.nil, .nil, .bool false, .nil, .int .i64 0] := rfl
@[simp] theorem atb : env.ty 119 = .struct [(0, 4, true), (4, 1, false)] [.nil, .nil, .bool false, .nil, .int .i64 0] := rfl
@[simp] theorem atc : env.ty 122 = .slice 117 1 8 [.undef] := rfl
@[simp] theorem ai9 : env.ty 143 = .int .u32 := rfl
@[simp] theorem atd : env.ty 163 = .slice 31 1 24 [.nil] := rfl
@[simp] theorem ate : env.ty 179 = .struct [(0, 1, false)] [.nil] := rfl
@[simp] theorem atf : env.ty 180 = .struct [(0, 1, false)] [.nil] := rfl
@[simp] theorem atg : env.ty 206 = .slice 42 4 64 [.bool false, .nil, .bool false, .nil] := rfl
@[simp] theorem ath : env.ty 208 = .int .u64 := rfl
@[simp] theorem ati : env.ty 210 = .int .u64 := rfl
@[simp] theorem atj : env.ty 242 = .slice 163 1 24 [.nil] := rfl
@[simp] theorem atk : env.ty 264 = .int .u8 := rfl
@[simp] theorem atl : env.ty 265 = .int .u8 := rfl
@[simp] theorem atm : env.ty 268 = .int .i32 := rfl
@[simp] theorem atn : env.ty 269 = .int .i32 := rfl
end Go.Proofs.YtbbjgncblhfegaaGreat
