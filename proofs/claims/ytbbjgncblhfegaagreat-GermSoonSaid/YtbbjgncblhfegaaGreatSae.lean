import Derived.Test.YtbbjgncblhfegaaGreatProg
import Derived.KernelRfl
import Derived.Test.YtbbjgncblhfegaaGreatSad
set_option linter.unusedSimpArgs false
set_option linter.unusedVariables false
/- The types of the seat, as the pure machine wants them: closed facts, each by the kernel. -/
namespace Go.Proofs.YtbbjgncblhfegaaGreat
open Go Pm
def ti2 : TI := .int .i64
theorem anY : cG Tryz.prog 2 ti2 := ⟨by kernel_rfl, (aG (v := .int .i64 0) (by kernel_rfl) rfl (by kernel_rfl) rfl (by decide))⟩
def ti3 : TI := .int .i64
theorem anZ : cG Tryz.prog 3 ti3 := ⟨by kernel_rfl, (aG (v := .int .i64 0) (by kernel_rfl) rfl (by kernel_rfl) rfl (by decide))⟩
def ti4 : TI := .bool
theorem an0 : cG Tryz.prog 4 ti4 := ⟨by kernel_rfl, (aG (v := .bool false) (by kernel_rfl) rfl (by kernel_rfl) rfl (by decide))⟩
def ti5 : TI := .int .u8
theorem an1 : cG Tryz.prog 5 ti5 := ⟨by kernel_rfl, (aG (v := .int .u8 0) (by kernel_rfl) rfl (by kernel_rfl) rfl (by decide))⟩
def ti6 : TI := .int .u8
theorem an2 : cG Tryz.prog 6 ti6 := ⟨by kernel_rfl, (aG (v := .int .u8 0) (by kernel_rfl) rfl (by kernel_rfl) rfl (by decide))⟩
def ti7 : TI := .struct [(0, 1, false), (1, 1, false), (2, 1, false), (3, 1, false)] [.int .i64 0, .int .i64 0, .bool false, .int .u8 0]
theorem an3 : cG Tryz.prog 7 ti7 := ⟨bA (by kernel_rfl), (aG (v := .agg #[.int .i64 0, .int .i64 0, .bool false, .int .u8 0]) (by kernel_rfl) rfl (by kernel_rfl) rfl (by decide))⟩
def ti8 : TI := .struct [(0, 1, false), (1, 1, false), (2, 1, false), (3, 1, false)] [.int .i64 0, .int .i64 0, .bool false, .int .u8 0]
theorem an4 : cG Tryz.prog 8 ti8 := ⟨bA (by kernel_rfl), (aG (v := .agg #[.int .i64 0, .int .i64 0, .bool false, .int .u8 0]) (by kernel_rfl) rfl (by kernel_rfl) rfl (by decide))⟩
def ti9 : TI := .str
theorem an5 : cG Tryz.prog 9 ti9 := ⟨by kernel_rfl, (aG (v := .string ⟨#[]⟩) (by kernel_rfl) rfl (by kernel_rfl) rfl (by decide))⟩
def an6 : TI := .str
theorem aiK : cG Tryz.prog 10 an6 := ⟨by kernel_rfl, (aG (v := .string ⟨#[]⟩) (by kernel_rfl) rfl (by kernel_rfl) rfl (by decide))⟩
def an7 : TI := .str
theorem aiL : cG Tryz.prog 11 an7 := ⟨by kernel_rfl, (aG (v := .string ⟨#[]⟩) (by kernel_rfl) rfl (by kernel_rfl) rfl (by decide))⟩
def an8 : TI := .int .u64
theorem aiM : cG Tryz.prog 12 an8 := ⟨by kernel_rfl, (aG (v := .int .u64 0) (by kernel_rfl) rfl (by kernel_rfl) rfl (by decide))⟩
def an9 : TI := .struct [(0, 1, false), (1, 1, false)] [.str ⟨#[]⟩, .int .u64 0]
theorem aiN : cG Tryz.prog 13 an9 := ⟨bA (by kernel_rfl), (aG (v := .agg #[.string ⟨#[]⟩, .int .u64 0]) (by kernel_rfl) rfl (by kernel_rfl) rfl (by decide))⟩
def aoa : TI := .struct [(0, 1, false), (1, 1, false)] [.str ⟨#[]⟩, .int .u64 0]
theorem aiO : cG Tryz.prog 14 aoa := ⟨bA (by kernel_rfl), (aG (v := .agg #[.string ⟨#[]⟩, .int .u64 0]) (by kernel_rfl) rfl (by kernel_rfl) rfl (by decide))⟩
def aob : TI := .int .i32
theorem aiP : cG Tryz.prog 21 aob := ⟨by kernel_rfl, (aG (v := .int .i32 0) (by kernel_rfl) rfl (by kernel_rfl) rfl (by decide))⟩
def aoc : TI := .slice 3 1 8 [.int .i64 0]
theorem aiQ : cG Tryz.prog 22 aoc := ⟨by kernel_rfl, (aG (v := .slice none 0 0) (by kernel_rfl) rfl (by kernel_rfl) rfl (by decide)), (aG (v := .int .i64 0) (by kernel_rfl) rfl (by kernel_rfl) rfl (by decide)), cI (by kernel_rfl)⟩
def aod : TI := .slice 50 4 64 [.nil, .bool false, .nil, .bool false]
theorem aiR : cG Tryz.prog 23 aod := ⟨by kernel_rfl, (aG (v := .slice none 0 0) (by kernel_rfl) rfl (by kernel_rfl) rfl (by decide)), (aG (v := .agg #[.slice none 0 0, .bool false, .slice none 0 0, .bool false]) (by kernel_rfl) rfl (by kernel_rfl) rfl (by decide)), cI (by kernel_rfl)⟩
def aoe : TI := .slice 50 4 64 [.nil, .bool false, .nil, .bool false]
theorem aiS : cG Tryz.prog 24 aoe := ⟨by kernel_rfl, (aG (v := .slice none 0 0) (by kernel_rfl) rfl (by kernel_rfl) rfl (by decide)), (aG (v := .agg #[.slice none 0 0, .bool false, .slice none 0 0, .bool false]) (by kernel_rfl) rfl (by kernel_rfl) rfl (by decide)), cI (by kernel_rfl)⟩
def aof : TI := .slice 44 9 152 [.nil, .bool false, .nil, .bool false, .nil, .bool false, .nil, .bool false, .nil]
theorem aiT : cG Tryz.prog 26 aof := ⟨by kernel_rfl, (aG (v := .slice none 0 0) (by kernel_rfl) rfl (by kernel_rfl) rfl (by decide)), (aG (v := .agg #[.slice none 0 0, .bool false, .slice none 0 0, .bool false, .slice none 0 0, .bool false, .slice none 0 0, .bool false, .slice none 0 0]) (by kernel_rfl) rfl (by kernel_rfl) rfl (by decide)), cI (by kernel_rfl)⟩
def aog : TI := .int .i64
theorem aiU : cG Tryz.prog 27 aog := ⟨by kernel_rfl, (aG (v := .int .i64 0) (by kernel_rfl) rfl (by kernel_rfl) rfl (by decide))⟩
def aoh : TI := .slice 40 2 32 [.bool false, .nil]
theorem aiV : cG Tryz.prog 30 aoh := ⟨by kernel_rfl, (aG (v := .slice none 0 0) (by kernel_rfl) rfl (by kernel_rfl) rfl (by decide)), (aG (v := .agg #[.bool false, .slice none 0 0]) (by kernel_rfl) rfl (by kernel_rfl) rfl (by decide)), cI (by kernel_rfl)⟩
def aoi : TI := .slice 40 2 32 [.bool false, .nil]
theorem aiW : cG Tryz.prog 31 aoi := ⟨by kernel_rfl, (aG (v := .slice none 0 0) (by kernel_rfl) rfl (by kernel_rfl) rfl (by decide)), (aG (v := .agg #[.bool false, .slice none 0 0]) (by kernel_rfl) rfl (by kernel_rfl) rfl (by decide)), cI (by kernel_rfl)⟩
def aoj : TI := .slice 68 10 176 [.nil, .nil, .nil, .bool false, .nil, .bool false, .nil, .bool false, .nil, .bool false]
theorem aiX : cG Tryz.prog 34 aoj := ⟨by kernel_rfl, (aG (v := .slice none 0 0) (by kernel_rfl) rfl (by kernel_rfl) rfl (by decide)), (aG (v := .agg #[.slice none 0 0, .slice none 0 0, .slice none 0 0, .bool false, .slice none 0 0, .bool false, .slice none 0 0, .bool false, .slice none 0 0, .bool false]) (by kernel_rfl) rfl (by kernel_rfl) rfl (by decide)), cI (by kernel_rfl)⟩
def aok : TI := .slice 143 1 4 [.int .u32 0]
theorem aiY : cG Tryz.prog 38 aok := ⟨by kernel_rfl, (aG (v := .slice none 0 0) (by kernel_rfl) rfl (by kernel_rfl) rfl (by decide)), (aG (v := .int .u32 0) (by kernel_rfl) rfl (by kernel_rfl) rfl (by decide)), cI (by kernel_rfl)⟩
def aol : TI := .struct [(0, 1, false), (1, 1, false)] [.bool false, .nil]
theorem aiZ : cG Tryz.prog 39 aol := ⟨bA (by kernel_rfl), (aG (v := .agg #[.bool false, .slice none 0 0]) (by kernel_rfl) rfl (by kernel_rfl) rfl (by decide))⟩
def aom : TI := .struct [(0, 1, false), (1, 1, false)] [.bool false, .nil]
theorem ai0 : cG Tryz.prog 40 aom := ⟨bA (by kernel_rfl), (aG (v := .agg #[.bool false, .slice none 0 0]) (by kernel_rfl) rfl (by kernel_rfl) rfl (by decide))⟩
def aon : TI := .struct [(0, 2, true), (2, 2, true)] [.bool false, .nil, .bool false, .nil]
theorem ai1 : cG Tryz.prog 41 aon := ⟨bA (by kernel_rfl), (aG (v := .agg #[.bool false, .slice none 0 0, .bool false, .slice none 0 0]) (by kernel_rfl) rfl (by kernel_rfl) rfl (by decide))⟩
def aoo : TI := .struct [(0, 2, true), (2, 2, true)] [.bool false, .nil, .bool false, .nil]
theorem ai2 : cG Tryz.prog 42 aoo := ⟨bA (by kernel_rfl), (aG (v := .agg #[.bool false, .slice none 0 0, .bool false, .slice none 0 0]) (by kernel_rfl) rfl (by kernel_rfl) rfl (by decide))⟩
def aop : TI := .struct [(0, 1, false), (1, 4, true), (5, 4, true)] [.nil, .bool false, .nil, .bool false, .nil, .bool false, .nil, .bool false, .nil]
theorem ai3 : cG Tryz.prog 43 aop := ⟨bA (by kernel_rfl), (aG (v := .agg #[.slice none 0 0, .bool false, .slice none 0 0, .bool false, .slice none 0 0, .bool false, .slice none 0 0, .bool false, .slice none 0 0]) (by kernel_rfl) rfl (by kernel_rfl) rfl (by decide))⟩
def aoq : TI := .struct [(0, 1, false), (1, 4, true), (5, 4, true)] [.nil, .bool false, .nil, .bool false, .nil, .bool false, .nil, .bool false, .nil]
theorem ai4 : cG Tryz.prog 44 aoq := ⟨bA (by kernel_rfl), (aG (v := .agg #[.slice none 0 0, .bool false, .slice none 0 0, .bool false, .slice none 0 0, .bool false, .slice none 0 0, .bool false, .slice none 0 0]) (by kernel_rfl) rfl (by kernel_rfl) rfl (by decide))⟩
def aor : TI := .slice 3 1 8 [.int .i64 0]
theorem ai5 : cG Tryz.prog 46 aor := ⟨by kernel_rfl, (aG (v := .slice none 0 0) (by kernel_rfl) rfl (by kernel_rfl) rfl (by decide)), (aG (v := .int .i64 0) (by kernel_rfl) rfl (by kernel_rfl) rfl (by decide)), cI (by kernel_rfl)⟩
def aos : TI := .struct [(0, 1, false), (1, 1, false)] [.nil, .bool false]
theorem ai6 : cG Tryz.prog 47 aos := ⟨bA (by kernel_rfl), (aG (v := .agg #[.slice none 0 0, .bool false]) (by kernel_rfl) rfl (by kernel_rfl) rfl (by decide))⟩
def aot : TI := .struct [(0, 1, false), (1, 1, false)] [.nil, .bool false]
theorem ai7 : cG Tryz.prog 48 aot := ⟨bA (by kernel_rfl), (aG (v := .agg #[.slice none 0 0, .bool false]) (by kernel_rfl) rfl (by kernel_rfl) rfl (by decide))⟩
def aou : TI := .struct [(0, 2, true), (2, 2, true)] [.nil, .bool false, .nil, .bool false]
theorem ai8 : cG Tryz.prog 49 aou := ⟨bA (by kernel_rfl), (aG (v := .agg #[.slice none 0 0, .bool false, .slice none 0 0, .bool false]) (by kernel_rfl) rfl (by kernel_rfl) rfl (by decide))⟩
def aov : TI := .struct [(0, 2, true), (2, 2, true)] [.nil, .bool false, .nil, .bool false]
theorem ai9 : cG Tryz.prog 50 aov := ⟨bA (by kernel_rfl), (aG (v := .agg #[.slice none 0 0, .bool false, .slice none 0 0, .bool false]) (by kernel_rfl) rfl (by kernel_rfl) rfl (by decide))⟩
def aow : TI := .slice 24 1 24 [.nil]
theorem aja : cG Tryz.prog 66 aow := ⟨by kernel_rfl, (aG (v := .slice none 0 0) (by kernel_rfl) rfl (by kernel_rfl) rfl (by decide)), (aG (v := .slice none 0 0) (by kernel_rfl) rfl (by kernel_rfl) rfl (by decide)), cI (by kernel_rfl)⟩
def aox : TI := .struct [(0, 1, false), (1, 1, false), (2, 4, true), (6, 4, true)] [.nil, .nil, .nil, .bool false, .nil, .bool false, .nil, .bool false, .nil, .bool false]
theorem ajb : cG Tryz.prog 67 aox := ⟨bA (by kernel_rfl), (aG (v := .agg #[.slice none 0 0, .slice none 0 0, .slice none 0 0, .bool false, .slice none 0 0, .bool false, .slice none 0 0, .bool false, .slice none 0 0, .bool false]) (by kernel_rfl) rfl (by kernel_rfl) rfl (by decide))⟩
def aoy : TI := .struct [(0, 1, false), (1, 1, false), (2, 4, true), (6, 4, true)] [.nil, .nil, .nil, .bool false, .nil, .bool false, .nil, .bool false, .nil, .bool false]
theorem ajc : cG Tryz.prog 68 aoy := ⟨bA (by kernel_rfl), (aG (v := .agg #[.slice none 0 0, .slice none 0 0, .slice none 0 0, .bool false, .slice none 0 0, .bool false, .slice none 0 0, .bool false, .slice none 0 0, .bool false]) (by kernel_rfl) rfl (by kernel_rfl) rfl (by decide))⟩
def af7 : TI := .slice 119 5 88 [.nil, .nil, .bool false, .nil, .int .i64 0]
theorem adh : cG Tryz.prog 106 af7 := ⟨by kernel_rfl, (aG (v := .slice none 0 0) (by kernel_rfl) rfl (by kernel_rfl) rfl (by decide)), (aG (v := .agg #[.slice none 0 0, .slice none 0 0, .bool false, .slice none 0 0, .int .i64 0]) (by kernel_rfl) rfl (by kernel_rfl) rfl (by decide)), cI (by kernel_rfl)⟩
def af8 : TI := .slice 116 7 136 [.nil, .nil, .nil, .nil, .bool false, .nil, .int .i64 0]
theorem adi : cG Tryz.prog 107 af8 := ⟨by kernel_rfl, (aG (v := .slice none 0 0) (by kernel_rfl) rfl (by kernel_rfl) rfl (by decide)), (aG (v := .agg #[.slice none 0 0, .slice none 0 0, .slice none 0 0, .slice none 0 0, .bool false, .slice none 0 0, .int .i64 0]) (by kernel_rfl) rfl (by kernel_rfl) rfl (by decide)), cI (by kernel_rfl)⟩
def af9 : TI := .struct [(0, 1, false), (1, 1, false), (2, 2, true)] [.nil, .nil, .bool false, .nil]
theorem adj : cG Tryz.prog 111 af9 := ⟨bA (by kernel_rfl), (aG (v := .agg #[.slice none 0 0, .slice none 0 0, .bool false, .slice none 0 0]) (by kernel_rfl) rfl (by kernel_rfl) rfl (by decide))⟩
def aga : TI := .struct [(0, 1, false), (1, 1, false), (2, 2, true)] [.nil, .nil, .bool false, .nil]
theorem adk : cG Tryz.prog 112 aga := ⟨bA (by kernel_rfl), (aG (v := .agg #[.slice none 0 0, .slice none 0 0, .bool false, .slice none 0 0]) (by kernel_rfl) rfl (by kernel_rfl) rfl (by decide))⟩
def agb : TI := .struct [(0, 1, false), (1, 1, false), (2, 4, true)] [.nil, .nil, .nil, .nil, .bool false, .nil]
theorem adl : cG Tryz.prog 113 agb := ⟨bA (by kernel_rfl), (aG (v := .agg #[.slice none 0 0, .slice none 0 0, .slice none 0 0, .slice none 0 0, .bool false, .slice none 0 0]) (by kernel_rfl) rfl (by kernel_rfl) rfl (by decide))⟩
def agc : TI := .struct [(0, 1, false), (1, 1, false), (2, 4, true)] [.nil, .nil, .nil, .nil, .bool false, .nil]
theorem adm : cG Tryz.prog 114 agc := ⟨bA (by kernel_rfl), (aG (v := .agg #[.slice none 0 0, .slice none 0 0, .slice none 0 0, .slice none 0 0, .bool false, .slice none 0 0]) (by kernel_rfl) rfl (by kernel_rfl) rfl (by decide))⟩
def agd : TI := .struct [(0, 6, true), (6, 1, false)] [.nil, .nil, .nil, .nil, .bool false, .nil, .int .i64 0]
theorem adn : cG Tryz.prog 115 agd := ⟨bA (by kernel_rfl), (aG (v := .agg #[.slice none 0 0, .slice none 0 0, .slice none 0 0, .slice none 0 0, .bool false, .slice none 0 0, .int .i64 0]) (by kernel_rfl) rfl (by kernel_rfl) rfl (by decide))⟩
def age : TI := .struct [(0, 6, true), (6, 1, false)] [.nil, .nil, .nil, .nil, .bool false, .nil, .int .i64 0]
theorem ado : cG Tryz.prog 116 age := ⟨bA (by kernel_rfl), (aG (v := .agg #[.slice none 0 0, .slice none 0 0, .slice none 0 0, .slice none 0 0, .bool false, .slice none 0 0, .int .i64 0]) (by kernel_rfl) rfl (by kernel_rfl) rfl (by decide))⟩
def agf : TI := .fnT
theorem adp : cG Tryz.prog 117 agf := ⟨by kernel_rfl, (aG (v := .nilFunc) (by kernel_rfl) rfl (by kernel_rfl) rfl (by decide))⟩
def agh : TI := .struct [(0, 4, true), (4, 1, false)] [.nil, .nil, .bool false, .nil, .int .i64 0]
theorem adq : cG Tryz.prog 118 agh := ⟨bA (by kernel_rfl), (aG (v := .agg #[.slice none 0 0, .slice none 0 0, .bool false, .slice none 0 0, .int .i64 0]) (by kernel_rfl) rfl (by kernel_rfl) rfl (by decide))⟩
def agi : TI := .struct [(0, 4, true), (4, 1, false)] [.nil, .nil, .bool false, .nil, .int .i64 0]
theorem adr : cG Tryz.prog 119 agi := ⟨bA (by kernel_rfl), (aG (v := .agg #[.slice none 0 0, .slice none 0 0, .bool false, .slice none 0 0, .int .i64 0]) (by kernel_rfl) rfl (by kernel_rfl) rfl (by decide))⟩
def agj : TI := .slice 117 1 8 [.undef]
theorem ads : cG Tryz.prog 122 agj := ⟨by kernel_rfl, (aG (v := .slice none 0 0) (by kernel_rfl) rfl (by kernel_rfl) rfl (by decide)), (aG (v := .nilFunc) (by kernel_rfl) rfl (by kernel_rfl) rfl (by decide)), cI (by kernel_rfl)⟩
def agk : TI := .int .u32
theorem adt : cG Tryz.prog 143 agk := ⟨by kernel_rfl, (aG (v := .int .u32 0) (by kernel_rfl) rfl (by kernel_rfl) rfl (by decide))⟩
def agl : TI := .slice 31 1 24 [.nil]
theorem adu : cG Tryz.prog 163 agl := ⟨by kernel_rfl, (aG (v := .slice none 0 0) (by kernel_rfl) rfl (by kernel_rfl) rfl (by decide)), (aG (v := .slice none 0 0) (by kernel_rfl) rfl (by kernel_rfl) rfl (by decide)), cI (by kernel_rfl)⟩
def agm : TI := .struct [(0, 1, false)] [.nil]
theorem adw : cG Tryz.prog 179 agm := ⟨bA (by kernel_rfl), (aG (v := .agg #[.slice none 0 0]) (by kernel_rfl) rfl (by kernel_rfl) rfl (by decide))⟩
def agn : TI := .struct [(0, 1, false)] [.nil]
theorem adx : cG Tryz.prog 180 agn := ⟨bA (by kernel_rfl), (aG (v := .agg #[.slice none 0 0]) (by kernel_rfl) rfl (by kernel_rfl) rfl (by decide))⟩
def ago : TI := .slice 42 4 64 [.bool false, .nil, .bool false, .nil]
theorem ady : cG Tryz.prog 206 ago := ⟨by kernel_rfl, (aG (v := .slice none 0 0) (by kernel_rfl) rfl (by kernel_rfl) rfl (by decide)), (aG (v := .agg #[.bool false, .slice none 0 0, .bool false, .slice none 0 0]) (by kernel_rfl) rfl (by kernel_rfl) rfl (by decide)), cI (by kernel_rfl)⟩
def agp : TI := .int .u64
theorem adz : cG Tryz.prog 208 agp := ⟨by kernel_rfl, (aG (v := .int .u64 0) (by kernel_rfl) rfl (by kernel_rfl) rfl (by decide))⟩
def agq : TI := .int .u64
theorem adA : cG Tryz.prog 210 agq := ⟨by kernel_rfl, (aG (v := .int .u64 0) (by kernel_rfl) rfl (by kernel_rfl) rfl (by decide))⟩
def agr : TI := .slice 163 1 24 [.nil]
theorem adB : cG Tryz.prog 242 agr := ⟨by kernel_rfl, (aG (v := .slice none 0 0) (by kernel_rfl) rfl (by kernel_rfl) rfl (by decide)), (aG (v := .slice none 0 0) (by kernel_rfl) rfl (by kernel_rfl) rfl (by decide)), cI (by kernel_rfl)⟩
def ags : TI := .int .u8
theorem adC : cG Tryz.prog 264 ags := ⟨by kernel_rfl, (aG (v := .int .u8 0) (by kernel_rfl) rfl (by kernel_rfl) rfl (by decide))⟩
def agt : TI := .int .u8
theorem adD : cG Tryz.prog 265 agt := ⟨by kernel_rfl, (aG (v := .int .u8 0) (by kernel_rfl) rfl (by kernel_rfl) rfl (by decide))⟩
def agu : TI := .int .i32
theorem adE : cG Tryz.prog 268 agu := ⟨by kernel_rfl, (aG (v := .int .i32 0) (by kernel_rfl) rfl (by kernel_rfl) rfl (by decide))⟩
def agv : TI := .int .i32
theorem adF : cG Tryz.prog 269 agv := ⟨by kernel_rfl, (aG (v := .int .i32 0) (by kernel_rfl) rfl (by kernel_rfl) rfl (by decide))⟩
def tyF : TypeId → TI
  | 2 => ti2
  | 3 => ti3
  | 4 => ti4
  | 5 => ti5
  | 6 => ti6
  | 7 => ti7
  | 8 => ti8
  | 9 => ti9
  | 10 => an6
  | 11 => an7
  | 12 => an8
  | 13 => an9
  | 14 => aoa
  | 21 => aob
  | 22 => aoc
  | 23 => aod
  | 24 => aoe
  | 26 => aof
  | 27 => aog
  | 30 => aoh
  | 31 => aoi
  | 34 => aoj
  | 38 => aok
  | 39 => aol
  | 40 => aom
  | 41 => aon
  | 42 => aoo
  | 43 => aop
  | 44 => aoq
  | 46 => aor
  | 47 => aos
  | 48 => aot
  | 49 => aou
  | 50 => aov
  | 66 => aow
  | 67 => aox
  | 68 => aoy
  | 106 => af7
  | 107 => af8
  | 111 => af9
  | 112 => aga
  | 113 => agb
  | 114 => agc
  | 115 => agd
  | 116 => age
  | 117 => agf
  | 118 => agh
  | 119 => agi
  | 122 => agj
  | 143 => agk
  | 163 => agl
  | 179 => agm
  | 180 => agn
  | 206 => ago
  | 208 => agp
  | 210 => agq
  | 242 => agr
  | 264 => ags
  | 265 => agt
  | 268 => agu
  | 269 => agv
  | _ => .other
theorem as0 (t : TypeId) : cG Tryz.prog t (tyF t) := by
  unfold tyF
  split
  · exact anY
  · exact anZ
  · exact an0
  · exact an1
  · exact an2
  · exact an3
  · exact an4
  · exact an5
  · exact aiK
  · exact aiL
  · exact aiM
  · exact aiN
  · exact aiO
  · exact aiP
  · exact aiQ
  · exact aiR
  · exact aiS
  · exact aiT
  · exact aiU
  · exact aiV
  · exact aiW
  · exact aiX
  · exact aiY
  · exact aiZ
  · exact ai0
  · exact ai1
  · exact ai2
  · exact ai3
  · exact ai4
  · exact ai5
  · exact ai6
  · exact ai7
  · exact ai8
  · exact ai9
  · exact aja
  · exact ajb
  · exact ajc
  · exact adh
  · exact adi
  · exact adj
  · exact adk
  · exact adl
  · exact adm
  · exact adn
  · exact ado
  · exact adp
  · exact adq
  · exact adr
  · exact ads
  · exact adt
  · exact adu
  · exact adw
  · exact adx
  · exact ady
  · exact adz
  · exact adA
  · exact adB
  · exact adC
  · exact adD
  · exact adE
  · exact adF
  · trivial
theorem adG : Tryz.prog.follows .mixedOrders = true := by kernel_rfl
def E9 (g : FuncId) : Bool := g == 40 || g == 85 || g == 89 || g == 259 || g == 260
noncomputable def env : Env := ⟨Tryz.prog, tyF, as0, adG, E9⟩
@[simp] theorem aq3 : env.writes = E9 := rfl
attribute [simp] E9
@[simp] theorem ax5 : env.ty 2 = .int .i64 := rfl
@[simp] theorem as1 : env.ty 3 = .int .i64 := rfl
@[simp] theorem ax6 : env.ty 4 = .bool := rfl
@[simp] theorem aoz : env.ty 5 = .int .u8 := rfl
@[simp] theorem ax7 : env.ty 6 = .int .u8 := rfl
@[simp] theorem ax8 : env.ty 7 = .struct [(0, 1, false), (1, 1, false), (2, 1, false), (3, 1, false)] [.int .i64 0, .int .i64 0, .bool false, .int .u8 0] := rfl
@[simp] theorem ax9 : env.ty 8 = .struct [(0, 1, false), (1, 1, false), (2, 1, false), (3, 1, false)] [.int .i64 0, .int .i64 0, .bool false, .int .u8 0] := rfl
@[simp] theorem aya : env.ty 9 = .str := rfl
@[simp] theorem av3 : env.ty 10 = .str := rfl
@[simp] theorem av4 : env.ty 11 = .str := rfl
@[simp] theorem av5 : env.ty 12 = .int .u64 := rfl
@[simp] theorem av6 : env.ty 13 = .struct [(0, 1, false), (1, 1, false)] [.str ⟨#[]⟩, .int .u64 0] := rfl
@[simp] theorem av7 : env.ty 14 = .struct [(0, 1, false), (1, 1, false)] [.str ⟨#[]⟩, .int .u64 0] := rfl
@[simp] theorem av8 : env.ty 21 = .int .i32 := rfl
@[simp] theorem av9 : env.ty 22 = .slice 3 1 8 [.int .i64 0] := rfl
@[simp] theorem awa : env.ty 23 = .slice 50 4 64 [.nil, .bool false, .nil, .bool false] := rfl
@[simp] theorem awb : env.ty 24 = .slice 50 4 64 [.nil, .bool false, .nil, .bool false] := rfl
@[simp] theorem awc : env.ty 26 = .slice 44 9 152 [.nil, .bool false, .nil, .bool false, .nil, .bool false, .nil, .bool false, .nil] := rfl
@[simp] theorem awd : env.ty 27 = .int .i64 := rfl
@[simp] theorem awe : env.ty 30 = .slice 40 2 32 [.bool false, .nil] := rfl
@[simp] theorem awf : env.ty 31 = .slice 40 2 32 [.bool false, .nil] := rfl
@[simp] theorem awg : env.ty 34 = .slice 68 10 176 [.nil, .nil, .nil, .bool false, .nil, .bool false, .nil, .bool false, .nil, .bool false] := rfl
@[simp] theorem awh : env.ty 38 = .slice 143 1 4 [.int .u32 0] := rfl
@[simp] theorem awi : env.ty 39 = .struct [(0, 1, false), (1, 1, false)] [.bool false, .nil] := rfl
@[simp] theorem awj : env.ty 40 = .struct [(0, 1, false), (1, 1, false)] [.bool false, .nil] := rfl
@[simp] theorem awk : env.ty 41 = .struct [(0, 2, true), (2, 2, true)] [.bool false, .nil, .bool false, .nil] := rfl
@[simp] theorem awl : env.ty 42 = .struct [(0, 2, true), (2, 2, true)] [.bool false, .nil, .bool false, .nil] := rfl
@[simp] theorem awm : env.ty 43 = .struct [(0, 1, false), (1, 4, true), (5, 4, true)] [.nil, .bool false, .nil, .bool false, .nil, .bool false, .nil, .bool false, .nil] := rfl
@[simp] theorem awn : env.ty 44 = .struct [(0, 1, false), (1, 4, true), (5, 4, true)] [.nil, .bool false, .nil, .bool false, .nil, .bool false, .nil, .bool false, .nil] := rfl
@[simp] theorem awo : env.ty 46 = .slice 3 1 8 [.int .i64 0] := rfl
@[simp] theorem awp : env.ty 47 = .struct [(0, 1, false), (1, 1, false)] [.nil, .bool false] := rfl
@[simp] theorem awq : env.ty 48 = .struct [(0, 1, false), (1, 1, false)] [.nil, .bool false] := rfl
@[simp] theorem awr : env.ty 49 = .struct [(0, 2, true), (2, 2, true)] [.nil, .bool false, .nil, .bool false] := rfl
@[simp] theorem aws : env.ty 50 = .struct [(0, 2, true), (2, 2, true)] [.nil, .bool false, .nil, .bool false] := rfl
@[simp] theorem awt : env.ty 66 = .slice 24 1 24 [.nil] := rfl
@[simp] theorem awu : env.ty 67 = .struct [(0, 1, false), (1, 1, false), (2, 4, true), (6, 4, true)] [.nil, .nil, .nil, .bool false, .nil, .bool false, .nil, .bool false, .nil, .bool false] := rfl
@[simp] theorem awv : env.ty 68 = .struct [(0, 1, false), (1, 1, false), (2, 4, true), (6, 4, true)] [.nil, .nil, .nil, .bool false, .nil, .bool false, .nil, .bool false, .nil, .bool false] := rfl
@[simp] theorem as2 : env.ty 106 = .slice 119 5 88 [.nil, .nil, .bool false, .nil, .int .i64 0] := rfl
@[simp] theorem as3 : env.ty 107 = .slice 116 7 136 [.nil, .nil, .nil, .nil, .bool false, .nil, .int .i64 0] := rfl
@[simp] theorem as4 : env.ty 111 = .struct [(0, 1, false), (1, 1, false), (2, 2, true)] [.nil, .nil, .bool false, .nil] := rfl
@[simp] theorem as5 : env.ty 112 = .struct [(0, 1, false), (1, 1, false), (2, 2, true)] [.nil, .nil, .bool false, .nil] := rfl
@[simp] theorem as6 : env.ty 113 = .struct [(0, 1, false), (1, 1, false), (2, 4, true)] [.nil, .nil, .nil, .nil, .bool false, .nil] := rfl
@[simp] theorem as7 : env.ty 114 = .struct [(0, 1, false), (1, 1, false), (2, 4, true)] [.nil, .nil, .nil, .nil, .bool false, .nil] := rfl
@[simp] theorem as8 : env.ty 115 = .struct [(0, 6, true), (6, 1, false)] [.nil, .nil, .nil, .nil, .bool false, .nil, .int .i64 0] := rfl
@[simp] theorem as9 : env.ty 116 = .struct [(0, 6, true), (6, 1, false)] [.nil, .nil, .nil, .nil, .bool false, .nil, .int .i64 0] := rfl
@[simp] theorem ata : env.ty 117 = .fnT := rfl
@[simp] theorem atb : env.ty 118 = .struct [(0, 4, true), (4, 1, false)] [.nil, .nil, .bool false, .nil, .int .i64 0] := rfl
@[simp] theorem atc : env.ty 119 = .struct [(0, 4, true), (4, 1, false)] [.nil, .nil, .bool false, .nil, .int .i64 0] := rfl
@[simp] theorem atd : env.ty 122 = .slice 117 1 8 [.undef] := rfl
@[simp] theorem ajd : env.ty 143 = .int .u32 := rfl
@[simp] theorem ate : env.ty 163 = .slice 31 1 24 [.nil] := rfl
@[simp] theorem atf : env.ty 179 = .struct [(0, 1, false)] [.nil] := rfl
@[simp] theorem atg : env.ty 180 = .struct [(0, 1, false)] [.nil] := rfl
@[simp] theorem ath : env.ty 206 = .slice 42 4 64 [.bool false, .nil, .bool false, .nil] := rfl
@[simp] theorem ati : env.ty 208 = .int .u64 := rfl
@[simp] theorem atj : env.ty 210 = .int .u64 := rfl
@[simp] theorem atk : env.ty 242 = .slice 163 1 24 [.nil] := rfl
@[simp] theorem atl : env.ty 264 = .int .u8 := rfl
@[simp] theorem atm : env.ty 265 = .int .u8 := rfl
@[simp] theorem atn : env.ty 268 = .int .i32 := rfl
@[simp] theorem ato : env.ty 269 = .int .i32 := rfl
end Go.Proofs.YtbbjgncblhfegaaGreat
