import Derived.Test.YtelhfbikiccfkaaGreatProg
import Derived.KernelRfl
import Derived.Test.YtelhfbikiccfkaaGreatBad
set_option linter.unusedSimpArgs false
set_option linter.unusedVariables false
/- The types of the seat, as the pure machine wants them: closed facts, each by the kernel. -/
namespace Go.Proofs.YtelhfbikiccfkaaGreat
open Go Pm
def ti2 : TI := .int .i64
theorem ap0 : cA Tryz.prog 2 ti2 := ⟨by kernel_rfl, (aE (v := .int .i64 0) (by kernel_rfl) rfl (by kernel_rfl) rfl (by decide))⟩
def ti3 : TI := .int .i64
theorem ap1 : cA Tryz.prog 3 ti3 := ⟨by kernel_rfl, (aE (v := .int .i64 0) (by kernel_rfl) rfl (by kernel_rfl) rfl (by decide))⟩
def ti4 : TI := .bool
theorem ap2 : cA Tryz.prog 4 ti4 := ⟨by kernel_rfl, (aE (v := .bool false) (by kernel_rfl) rfl (by kernel_rfl) rfl (by decide))⟩
def ti5 : TI := .int .u8
theorem ap3 : cA Tryz.prog 5 ti5 := ⟨by kernel_rfl, (aE (v := .int .u8 0) (by kernel_rfl) rfl (by kernel_rfl) rfl (by decide))⟩
def ti6 : TI := .int .u8
theorem ap4 : cA Tryz.prog 6 ti6 := ⟨by kernel_rfl, (aE (v := .int .u8 0) (by kernel_rfl) rfl (by kernel_rfl) rfl (by decide))⟩
def ti7 : TI := .struct [(0, 1, false), (1, 1, false), (2, 1, false), (3, 1, false)] [.int .i64 0, .int .i64 0, .bool false, .int .u8 0]
theorem ap5 : cA Tryz.prog 7 ti7 := ⟨aY (by kernel_rfl), (aE (v := .agg #[.int .i64 0, .int .i64 0, .bool false, .int .u8 0]) (by kernel_rfl) rfl (by kernel_rfl) rfl (by decide))⟩
def ti8 : TI := .struct [(0, 1, false), (1, 1, false), (2, 1, false), (3, 1, false)] [.int .i64 0, .int .i64 0, .bool false, .int .u8 0]
theorem ap6 : cA Tryz.prog 8 ti8 := ⟨aY (by kernel_rfl), (aE (v := .agg #[.int .i64 0, .int .i64 0, .bool false, .int .u8 0]) (by kernel_rfl) rfl (by kernel_rfl) rfl (by decide))⟩
def ti9 : TI := .str
theorem ap7 : cA Tryz.prog 9 ti9 := ⟨by kernel_rfl, (aE (v := .string ⟨#[]⟩) (by kernel_rfl) rfl (by kernel_rfl) rfl (by decide))⟩
def ap8 : TI := .str
theorem akj : cA Tryz.prog 10 ap8 := ⟨by kernel_rfl, (aE (v := .string ⟨#[]⟩) (by kernel_rfl) rfl (by kernel_rfl) rfl (by decide))⟩
def ap9 : TI := .str
theorem akk : cA Tryz.prog 11 ap9 := ⟨by kernel_rfl, (aE (v := .string ⟨#[]⟩) (by kernel_rfl) rfl (by kernel_rfl) rfl (by decide))⟩
def aqa : TI := .int .u64
theorem akl : cA Tryz.prog 12 aqa := ⟨by kernel_rfl, (aE (v := .int .u64 0) (by kernel_rfl) rfl (by kernel_rfl) rfl (by decide))⟩
def aqb : TI := .struct [(0, 1, false), (1, 1, false)] [.str ⟨#[]⟩, .int .u64 0]
theorem akm : cA Tryz.prog 13 aqb := ⟨aY (by kernel_rfl), (aE (v := .agg #[.string ⟨#[]⟩, .int .u64 0]) (by kernel_rfl) rfl (by kernel_rfl) rfl (by decide))⟩
def aqc : TI := .struct [(0, 1, false), (1, 1, false)] [.str ⟨#[]⟩, .int .u64 0]
theorem akn : cA Tryz.prog 14 aqc := ⟨aY (by kernel_rfl), (aE (v := .agg #[.string ⟨#[]⟩, .int .u64 0]) (by kernel_rfl) rfl (by kernel_rfl) rfl (by decide))⟩
def aqd : TI := .int .i32
theorem ako : cA Tryz.prog 21 aqd := ⟨by kernel_rfl, (aE (v := .int .i32 0) (by kernel_rfl) rfl (by kernel_rfl) rfl (by decide))⟩
def aqe : TI := .slice 3 1 8 [.int .i64 0]
theorem akp : cA Tryz.prog 22 aqe := ⟨by kernel_rfl, (aE (v := .slice none 0 0) (by kernel_rfl) rfl (by kernel_rfl) rfl (by decide)), (aE (v := .int .i64 0) (by kernel_rfl) rfl (by kernel_rfl) rfl (by decide)), cG (by kernel_rfl)⟩
def aqf : TI := .slice 38 2 32 [.bool false, .nil]
theorem akq : cA Tryz.prog 23 aqf := ⟨by kernel_rfl, (aE (v := .slice none 0 0) (by kernel_rfl) rfl (by kernel_rfl) rfl (by decide)), (aE (v := .agg #[.bool false, .slice none 0 0]) (by kernel_rfl) rfl (by kernel_rfl) rfl (by decide)), cG (by kernel_rfl)⟩
def aqg : TI := .slice 38 2 32 [.bool false, .nil]
theorem akr : cA Tryz.prog 24 aqg := ⟨by kernel_rfl, (aE (v := .slice none 0 0) (by kernel_rfl) rfl (by kernel_rfl) rfl (by decide)), (aE (v := .agg #[.bool false, .slice none 0 0]) (by kernel_rfl) rfl (by kernel_rfl) rfl (by decide)), cG (by kernel_rfl)⟩
def aqh : TI := .slice 31 4 64 [.nil, .bool false, .nil, .bool false]
theorem aks : cA Tryz.prog 26 aqh := ⟨by kernel_rfl, (aE (v := .slice none 0 0) (by kernel_rfl) rfl (by kernel_rfl) rfl (by decide)), (aE (v := .agg #[.slice none 0 0, .bool false, .slice none 0 0, .bool false]) (by kernel_rfl) rfl (by kernel_rfl) rfl (by decide)), cG (by kernel_rfl)⟩
def aqi : TI := .slice 3 1 8 [.int .i64 0]
theorem akt : cA Tryz.prog 27 aqi := ⟨by kernel_rfl, (aE (v := .slice none 0 0) (by kernel_rfl) rfl (by kernel_rfl) rfl (by decide)), (aE (v := .int .i64 0) (by kernel_rfl) rfl (by kernel_rfl) rfl (by decide)), cG (by kernel_rfl)⟩
def aqj : TI := .struct [(0, 1, false), (1, 1, false)] [.nil, .bool false]
theorem aku : cA Tryz.prog 28 aqj := ⟨aY (by kernel_rfl), (aE (v := .agg #[.slice none 0 0, .bool false]) (by kernel_rfl) rfl (by kernel_rfl) rfl (by decide))⟩
def aqk : TI := .struct [(0, 1, false), (1, 1, false)] [.nil, .bool false]
theorem akv : cA Tryz.prog 29 aqk := ⟨aY (by kernel_rfl), (aE (v := .agg #[.slice none 0 0, .bool false]) (by kernel_rfl) rfl (by kernel_rfl) rfl (by decide))⟩
def aql : TI := .struct [(0, 2, true), (2, 2, true)] [.nil, .bool false, .nil, .bool false]
theorem akw : cA Tryz.prog 30 aql := ⟨aY (by kernel_rfl), (aE (v := .agg #[.slice none 0 0, .bool false, .slice none 0 0, .bool false]) (by kernel_rfl) rfl (by kernel_rfl) rfl (by decide))⟩
def aqm : TI := .struct [(0, 2, true), (2, 2, true)] [.nil, .bool false, .nil, .bool false]
theorem akx : cA Tryz.prog 31 aqm := ⟨aY (by kernel_rfl), (aE (v := .agg #[.slice none 0 0, .bool false, .slice none 0 0, .bool false]) (by kernel_rfl) rfl (by kernel_rfl) rfl (by decide))⟩
def aqn : TI := .slice 182 1 4 [.int .u32 0]
theorem aky : cA Tryz.prog 36 aqn := ⟨by kernel_rfl, (aE (v := .slice none 0 0) (by kernel_rfl) rfl (by kernel_rfl) rfl (by decide)), (aE (v := .int .u32 0) (by kernel_rfl) rfl (by kernel_rfl) rfl (by decide)), cG (by kernel_rfl)⟩
def aqo : TI := .struct [(0, 1, false), (1, 1, false)] [.bool false, .nil]
theorem akz : cA Tryz.prog 37 aqo := ⟨aY (by kernel_rfl), (aE (v := .agg #[.bool false, .slice none 0 0]) (by kernel_rfl) rfl (by kernel_rfl) rfl (by decide))⟩
def aqp : TI := .struct [(0, 1, false), (1, 1, false)] [.bool false, .nil]
theorem akA : cA Tryz.prog 38 aqp := ⟨aY (by kernel_rfl), (aE (v := .agg #[.bool false, .slice none 0 0]) (by kernel_rfl) rfl (by kernel_rfl) rfl (by decide))⟩
def aqq : TI := .slice 54 9 152 [.nil, .bool false, .nil, .bool false, .nil, .bool false, .nil, .bool false, .nil]
theorem akB : cA Tryz.prog 41 aqq := ⟨by kernel_rfl, (aE (v := .slice none 0 0) (by kernel_rfl) rfl (by kernel_rfl) rfl (by decide)), (aE (v := .agg #[.slice none 0 0, .bool false, .slice none 0 0, .bool false, .slice none 0 0, .bool false, .slice none 0 0, .bool false, .slice none 0 0]) (by kernel_rfl) rfl (by kernel_rfl) rfl (by decide)), cG (by kernel_rfl)⟩
def aqr : TI := .int .i64
theorem akC : cA Tryz.prog 42 aqr := ⟨by kernel_rfl, (aE (v := .int .i64 0) (by kernel_rfl) rfl (by kernel_rfl) rfl (by decide))⟩
def aqs : TI := .slice 31 4 64 [.nil, .bool false, .nil, .bool false]
theorem akD : cA Tryz.prog 46 aqs := ⟨by kernel_rfl, (aE (v := .slice none 0 0) (by kernel_rfl) rfl (by kernel_rfl) rfl (by decide)), (aE (v := .agg #[.slice none 0 0, .bool false, .slice none 0 0, .bool false]) (by kernel_rfl) rfl (by kernel_rfl) rfl (by decide)), cG (by kernel_rfl)⟩
def aqt : TI := .slice 46 1 24 [.nil]
theorem akE : cA Tryz.prog 47 aqt := ⟨by kernel_rfl, (aE (v := .slice none 0 0) (by kernel_rfl) rfl (by kernel_rfl) rfl (by decide)), (aE (v := .slice none 0 0) (by kernel_rfl) rfl (by kernel_rfl) rfl (by decide)), cG (by kernel_rfl)⟩
def aqu : TI := .struct [(0, 1, false), (1, 1, false), (2, 4, true), (6, 4, true)] [.nil, .nil, .nil, .bool false, .nil, .bool false, .nil, .bool false, .nil, .bool false]
theorem akF : cA Tryz.prog 48 aqu := ⟨aY (by kernel_rfl), (aE (v := .agg #[.slice none 0 0, .slice none 0 0, .slice none 0 0, .bool false, .slice none 0 0, .bool false, .slice none 0 0, .bool false, .slice none 0 0, .bool false]) (by kernel_rfl) rfl (by kernel_rfl) rfl (by decide))⟩
def aqv : TI := .struct [(0, 1, false), (1, 1, false), (2, 4, true), (6, 4, true)] [.nil, .nil, .nil, .bool false, .nil, .bool false, .nil, .bool false, .nil, .bool false]
theorem akG : cA Tryz.prog 49 aqv := ⟨aY (by kernel_rfl), (aE (v := .agg #[.slice none 0 0, .slice none 0 0, .slice none 0 0, .bool false, .slice none 0 0, .bool false, .slice none 0 0, .bool false, .slice none 0 0, .bool false]) (by kernel_rfl) rfl (by kernel_rfl) rfl (by decide))⟩
def aqw : TI := .struct [(0, 2, true), (2, 2, true)] [.bool false, .nil, .bool false, .nil]
theorem akH : cA Tryz.prog 51 aqw := ⟨aY (by kernel_rfl), (aE (v := .agg #[.bool false, .slice none 0 0, .bool false, .slice none 0 0]) (by kernel_rfl) rfl (by kernel_rfl) rfl (by decide))⟩
def aqx : TI := .struct [(0, 2, true), (2, 2, true)] [.bool false, .nil, .bool false, .nil]
theorem akI : cA Tryz.prog 52 aqx := ⟨aY (by kernel_rfl), (aE (v := .agg #[.bool false, .slice none 0 0, .bool false, .slice none 0 0]) (by kernel_rfl) rfl (by kernel_rfl) rfl (by decide))⟩
def aqy : TI := .struct [(0, 1, false), (1, 4, true), (5, 4, true)] [.nil, .bool false, .nil, .bool false, .nil, .bool false, .nil, .bool false, .nil]
theorem akJ : cA Tryz.prog 53 aqy := ⟨aY (by kernel_rfl), (aE (v := .agg #[.slice none 0 0, .bool false, .slice none 0 0, .bool false, .slice none 0 0, .bool false, .slice none 0 0, .bool false, .slice none 0 0]) (by kernel_rfl) rfl (by kernel_rfl) rfl (by decide))⟩
def aqz : TI := .struct [(0, 1, false), (1, 4, true), (5, 4, true)] [.nil, .bool false, .nil, .bool false, .nil, .bool false, .nil, .bool false, .nil]
theorem akK : cA Tryz.prog 54 aqz := ⟨aY (by kernel_rfl), (aE (v := .agg #[.slice none 0 0, .bool false, .slice none 0 0, .bool false, .slice none 0 0, .bool false, .slice none 0 0, .bool false, .slice none 0 0]) (by kernel_rfl) rfl (by kernel_rfl) rfl (by decide))⟩
def aqA : TI := .slice 49 10 176 [.nil, .nil, .nil, .bool false, .nil, .bool false, .nil, .bool false, .nil, .bool false]
theorem akL : cA Tryz.prog 72 aqA := ⟨by kernel_rfl, (aE (v := .slice none 0 0) (by kernel_rfl) rfl (by kernel_rfl) rfl (by decide)), (aE (v := .agg #[.slice none 0 0, .slice none 0 0, .slice none 0 0, .bool false, .slice none 0 0, .bool false, .slice none 0 0, .bool false, .slice none 0 0, .bool false]) (by kernel_rfl) rfl (by kernel_rfl) rfl (by decide)), cG (by kernel_rfl)⟩
def aqB : TI := .slice 94 5 88 [.nil, .nil, .bool false, .nil, .int .i64 0]
theorem akM : cA Tryz.prog 80 aqB := ⟨by kernel_rfl, (aE (v := .slice none 0 0) (by kernel_rfl) rfl (by kernel_rfl) rfl (by decide)), (aE (v := .agg #[.slice none 0 0, .slice none 0 0, .bool false, .slice none 0 0, .int .i64 0]) (by kernel_rfl) rfl (by kernel_rfl) rfl (by decide)), cG (by kernel_rfl)⟩
def aqC : TI := .slice 90 7 136 [.nil, .nil, .nil, .nil, .bool false, .nil, .int .i64 0]
theorem akN : cA Tryz.prog 81 aqC := ⟨by kernel_rfl, (aE (v := .slice none 0 0) (by kernel_rfl) rfl (by kernel_rfl) rfl (by decide)), (aE (v := .agg #[.slice none 0 0, .slice none 0 0, .slice none 0 0, .slice none 0 0, .bool false, .slice none 0 0, .int .i64 0]) (by kernel_rfl) rfl (by kernel_rfl) rfl (by decide)), cG (by kernel_rfl)⟩
def aqD : TI := .struct [(0, 1, false), (1, 1, false), (2, 2, true)] [.nil, .nil, .bool false, .nil]
theorem akO : cA Tryz.prog 85 aqD := ⟨aY (by kernel_rfl), (aE (v := .agg #[.slice none 0 0, .slice none 0 0, .bool false, .slice none 0 0]) (by kernel_rfl) rfl (by kernel_rfl) rfl (by decide))⟩
def aqE : TI := .struct [(0, 1, false), (1, 1, false), (2, 2, true)] [.nil, .nil, .bool false, .nil]
theorem akP : cA Tryz.prog 86 aqE := ⟨aY (by kernel_rfl), (aE (v := .agg #[.slice none 0 0, .slice none 0 0, .bool false, .slice none 0 0]) (by kernel_rfl) rfl (by kernel_rfl) rfl (by decide))⟩
def aqF : TI := .struct [(0, 1, false), (1, 1, false), (2, 4, true)] [.nil, .nil, .nil, .nil, .bool false, .nil]
theorem akQ : cA Tryz.prog 87 aqF := ⟨aY (by kernel_rfl), (aE (v := .agg #[.slice none 0 0, .slice none 0 0, .slice none 0 0, .slice none 0 0, .bool false, .slice none 0 0]) (by kernel_rfl) rfl (by kernel_rfl) rfl (by decide))⟩
def aqG : TI := .struct [(0, 1, false), (1, 1, false), (2, 4, true)] [.nil, .nil, .nil, .nil, .bool false, .nil]
theorem akR : cA Tryz.prog 88 aqG := ⟨aY (by kernel_rfl), (aE (v := .agg #[.slice none 0 0, .slice none 0 0, .slice none 0 0, .slice none 0 0, .bool false, .slice none 0 0]) (by kernel_rfl) rfl (by kernel_rfl) rfl (by decide))⟩
def aqH : TI := .struct [(0, 6, true), (6, 1, false)] [.nil, .nil, .nil, .nil, .bool false, .nil, .int .i64 0]
theorem akS : cA Tryz.prog 89 aqH := ⟨aY (by kernel_rfl), (aE (v := .agg #[.slice none 0 0, .slice none 0 0, .slice none 0 0, .slice none 0 0, .bool false, .slice none 0 0, .int .i64 0]) (by kernel_rfl) rfl (by kernel_rfl) rfl (by decide))⟩
def aqI : TI := .struct [(0, 6, true), (6, 1, false)] [.nil, .nil, .nil, .nil, .bool false, .nil, .int .i64 0]
theorem akT : cA Tryz.prog 90 aqI := ⟨aY (by kernel_rfl), (aE (v := .agg #[.slice none 0 0, .slice none 0 0, .slice none 0 0, .slice none 0 0, .bool false, .slice none 0 0, .int .i64 0]) (by kernel_rfl) rfl (by kernel_rfl) rfl (by decide))⟩
def aqJ : TI := .fnT
theorem akU : cA Tryz.prog 92 aqJ := ⟨by kernel_rfl, (aE (v := .nilFunc) (by kernel_rfl) rfl (by kernel_rfl) rfl (by decide))⟩
def aqK : TI := .struct [(0, 4, true), (4, 1, false)] [.nil, .nil, .bool false, .nil, .int .i64 0]
theorem akV : cA Tryz.prog 93 aqK := ⟨aY (by kernel_rfl), (aE (v := .agg #[.slice none 0 0, .slice none 0 0, .bool false, .slice none 0 0, .int .i64 0]) (by kernel_rfl) rfl (by kernel_rfl) rfl (by decide))⟩
def aqL : TI := .struct [(0, 4, true), (4, 1, false)] [.nil, .nil, .bool false, .nil, .int .i64 0]
theorem akW : cA Tryz.prog 94 aqL := ⟨aY (by kernel_rfl), (aE (v := .agg #[.slice none 0 0, .slice none 0 0, .bool false, .slice none 0 0, .int .i64 0]) (by kernel_rfl) rfl (by kernel_rfl) rfl (by decide))⟩
def aqM : TI := .slice 92 1 8 [.undef]
theorem akX : cA Tryz.prog 97 aqM := ⟨by kernel_rfl, (aE (v := .slice none 0 0) (by kernel_rfl) rfl (by kernel_rfl) rfl (by decide)), (aE (v := .nilFunc) (by kernel_rfl) rfl (by kernel_rfl) rfl (by decide)), cG (by kernel_rfl)⟩
def ahN : TI := .slice 109 5 40 [.int .i64 0, .int .i64 0, .int .i64 0, .int .i64 0, .int .i64 0]
theorem aeW : cA Tryz.prog 106 ahN := ⟨by kernel_rfl, (aE (v := .slice none 0 0) (by kernel_rfl) rfl (by kernel_rfl) rfl (by decide)), (aE (v := .agg #[.int .i64 0, .int .i64 0, .int .i64 0, .int .i64 0, .int .i64 0]) (by kernel_rfl) rfl (by kernel_rfl) rfl (by decide)), cG (by kernel_rfl)⟩
def ahO : TI := .arr 3 4 1 [.int .i64 0, .int .i64 0, .int .i64 0, .int .i64 0]
theorem aeX : cA Tryz.prog 107 ahO := ⟨by kernel_rfl, (aE (v := .agg #[.int .i64 0, .int .i64 0, .int .i64 0, .int .i64 0]) (by kernel_rfl) rfl (by kernel_rfl) rfl (by decide)), E8 (by kernel_rfl)⟩
def ahP : TI := .struct [(0, 1, false), (1, 4, true)] [.int .i64 0, .int .i64 0, .int .i64 0, .int .i64 0, .int .i64 0]
theorem aeY : cA Tryz.prog 108 ahP := ⟨aY (by kernel_rfl), (aE (v := .agg #[.int .i64 0, .int .i64 0, .int .i64 0, .int .i64 0, .int .i64 0]) (by kernel_rfl) rfl (by kernel_rfl) rfl (by decide))⟩
def ahQ : TI := .struct [(0, 1, false), (1, 4, true)] [.int .i64 0, .int .i64 0, .int .i64 0, .int .i64 0, .int .i64 0]
theorem aeZ : cA Tryz.prog 109 ahQ := ⟨aY (by kernel_rfl), (aE (v := .agg #[.int .i64 0, .int .i64 0, .int .i64 0, .int .i64 0, .int .i64 0]) (by kernel_rfl) rfl (by kernel_rfl) rfl (by decide))⟩
def ahR : TI := .slice 113 7 72 [.int .i64 0, .int .i64 0, .int .i64 0, .int .i64 0, .int .i64 0, .nil, .int .i64 0]
theorem ae0 : cA Tryz.prog 110 ahR := ⟨by kernel_rfl, (aE (v := .slice none 0 0) (by kernel_rfl) rfl (by kernel_rfl) rfl (by decide)), (aE (v := .agg #[.int .i64 0, .int .i64 0, .int .i64 0, .int .i64 0, .int .i64 0, .slice none 0 0, .int .i64 0]) (by kernel_rfl) rfl (by kernel_rfl) rfl (by decide)), cG (by kernel_rfl)⟩
def ahS : TI := .slice 115 9 104 [.int .i64 0, .int .i64 0, .int .i64 0, .int .i64 0, .int .i64 0, .nil, .int .i64 0, .nil, .bool false]
theorem ae1 : cA Tryz.prog 111 ahS := ⟨by kernel_rfl, (aE (v := .slice none 0 0) (by kernel_rfl) rfl (by kernel_rfl) rfl (by decide)), (aE (v := .agg #[.int .i64 0, .int .i64 0, .int .i64 0, .int .i64 0, .int .i64 0, .slice none 0 0, .int .i64 0, .slice none 0 0, .bool false]) (by kernel_rfl) rfl (by kernel_rfl) rfl (by decide)), cG (by kernel_rfl)⟩
def ahT : TI := .struct [(0, 5, true), (5, 1, false), (6, 1, false)] [.int .i64 0, .int .i64 0, .int .i64 0, .int .i64 0, .int .i64 0, .nil, .int .i64 0]
theorem ae2 : cA Tryz.prog 112 ahT := ⟨aY (by kernel_rfl), (aE (v := .agg #[.int .i64 0, .int .i64 0, .int .i64 0, .int .i64 0, .int .i64 0, .slice none 0 0, .int .i64 0]) (by kernel_rfl) rfl (by kernel_rfl) rfl (by decide))⟩
def ahU : TI := .struct [(0, 5, true), (5, 1, false), (6, 1, false)] [.int .i64 0, .int .i64 0, .int .i64 0, .int .i64 0, .int .i64 0, .nil, .int .i64 0]
theorem ae3 : cA Tryz.prog 113 ahU := ⟨aY (by kernel_rfl), (aE (v := .agg #[.int .i64 0, .int .i64 0, .int .i64 0, .int .i64 0, .int .i64 0, .slice none 0 0, .int .i64 0]) (by kernel_rfl) rfl (by kernel_rfl) rfl (by decide))⟩
def ahV : TI := .struct [(0, 5, true), (5, 1, false), (6, 1, false), (7, 1, false), (8, 1, false)] [.int .i64 0, .int .i64 0, .int .i64 0, .int .i64 0, .int .i64 0, .nil, .int .i64 0, .nil, .bool false]
theorem ae4 : cA Tryz.prog 114 ahV := ⟨aY (by kernel_rfl), (aE (v := .agg #[.int .i64 0, .int .i64 0, .int .i64 0, .int .i64 0, .int .i64 0, .slice none 0 0, .int .i64 0, .slice none 0 0, .bool false]) (by kernel_rfl) rfl (by kernel_rfl) rfl (by decide))⟩
def ahW : TI := .struct [(0, 5, true), (5, 1, false), (6, 1, false), (7, 1, false), (8, 1, false)] [.int .i64 0, .int .i64 0, .int .i64 0, .int .i64 0, .int .i64 0, .nil, .int .i64 0, .nil, .bool false]
theorem ae5 : cA Tryz.prog 115 ahW := ⟨aY (by kernel_rfl), (aE (v := .agg #[.int .i64 0, .int .i64 0, .int .i64 0, .int .i64 0, .int .i64 0, .slice none 0 0, .int .i64 0, .slice none 0 0, .bool false]) (by kernel_rfl) rfl (by kernel_rfl) rfl (by decide))⟩
def ahX : TI := .slice 24 1 24 [.nil]
theorem ae6 : cA Tryz.prog 173 ahX := ⟨by kernel_rfl, (aE (v := .slice none 0 0) (by kernel_rfl) rfl (by kernel_rfl) rfl (by decide)), (aE (v := .slice none 0 0) (by kernel_rfl) rfl (by kernel_rfl) rfl (by decide)), cG (by kernel_rfl)⟩
def ahY : TI := .int .u64
theorem ae7 : cA Tryz.prog 179 ahY := ⟨by kernel_rfl, (aE (v := .int .u64 0) (by kernel_rfl) rfl (by kernel_rfl) rfl (by decide))⟩
def ahZ : TI := .int .u32
theorem ae8 : cA Tryz.prog 182 ahZ := ⟨by kernel_rfl, (aE (v := .int .u32 0) (by kernel_rfl) rfl (by kernel_rfl) rfl (by decide))⟩
def ah0 : TI := .int .u64
theorem ae9 : cA Tryz.prog 183 ah0 := ⟨by kernel_rfl, (aE (v := .int .u64 0) (by kernel_rfl) rfl (by kernel_rfl) rfl (by decide))⟩
def ah1 : TI := .struct [(0, 1, false)] [.nil]
theorem afa : cA Tryz.prog 193 ah1 := ⟨aY (by kernel_rfl), (aE (v := .agg #[.slice none 0 0]) (by kernel_rfl) rfl (by kernel_rfl) rfl (by decide))⟩
def ah2 : TI := .struct [(0, 1, false)] [.nil]
theorem afb : cA Tryz.prog 194 ah2 := ⟨aY (by kernel_rfl), (aE (v := .agg #[.slice none 0 0]) (by kernel_rfl) rfl (by kernel_rfl) rfl (by decide))⟩
def ah3 : TI := .slice 52 4 64 [.bool false, .nil, .bool false, .nil]
theorem afc : cA Tryz.prog 210 ah3 := ⟨by kernel_rfl, (aE (v := .slice none 0 0) (by kernel_rfl) rfl (by kernel_rfl) rfl (by decide)), (aE (v := .agg #[.bool false, .slice none 0 0, .bool false, .slice none 0 0]) (by kernel_rfl) rfl (by kernel_rfl) rfl (by decide)), cG (by kernel_rfl)⟩
def ah4 : TI := .slice 173 1 24 [.nil]
theorem afd : cA Tryz.prog 256 ah4 := ⟨by kernel_rfl, (aE (v := .slice none 0 0) (by kernel_rfl) rfl (by kernel_rfl) rfl (by decide)), (aE (v := .slice none 0 0) (by kernel_rfl) rfl (by kernel_rfl) rfl (by decide)), cG (by kernel_rfl)⟩
def ah5 : TI := .int .u8
theorem afe : cA Tryz.prog 279 ah5 := ⟨by kernel_rfl, (aE (v := .int .u8 0) (by kernel_rfl) rfl (by kernel_rfl) rfl (by decide))⟩
def ah6 : TI := .int .u8
theorem aff : cA Tryz.prog 280 ah6 := ⟨by kernel_rfl, (aE (v := .int .u8 0) (by kernel_rfl) rfl (by kernel_rfl) rfl (by decide))⟩
def ah7 : TI := .int .i32
theorem afg : cA Tryz.prog 283 ah7 := ⟨by kernel_rfl, (aE (v := .int .i32 0) (by kernel_rfl) rfl (by kernel_rfl) rfl (by decide))⟩
def ah8 : TI := .int .i32
theorem afh : cA Tryz.prog 284 ah8 := ⟨by kernel_rfl, (aE (v := .int .i32 0) (by kernel_rfl) rfl (by kernel_rfl) rfl (by decide))⟩
def tyF : TypeId → TI
  | 2 => ti2
  | 3 => ti3
  | 4 => ti4
  | 5 => ti5
  | 6 => ti6
  | 7 => ti7
  | 8 => ti8
  | 9 => ti9
  | 10 => ap8
  | 11 => ap9
  | 12 => aqa
  | 13 => aqb
  | 14 => aqc
  | 21 => aqd
  | 22 => aqe
  | 23 => aqf
  | 24 => aqg
  | 26 => aqh
  | 27 => aqi
  | 28 => aqj
  | 29 => aqk
  | 30 => aql
  | 31 => aqm
  | 36 => aqn
  | 37 => aqo
  | 38 => aqp
  | 41 => aqq
  | 42 => aqr
  | 46 => aqs
  | 47 => aqt
  | 48 => aqu
  | 49 => aqv
  | 51 => aqw
  | 52 => aqx
  | 53 => aqy
  | 54 => aqz
  | 72 => aqA
  | 80 => aqB
  | 81 => aqC
  | 85 => aqD
  | 86 => aqE
  | 87 => aqF
  | 88 => aqG
  | 89 => aqH
  | 90 => aqI
  | 92 => aqJ
  | 93 => aqK
  | 94 => aqL
  | 97 => aqM
  | 106 => ahN
  | 107 => ahO
  | 108 => ahP
  | 109 => ahQ
  | 110 => ahR
  | 111 => ahS
  | 112 => ahT
  | 113 => ahU
  | 114 => ahV
  | 115 => ahW
  | 173 => ahX
  | 179 => ahY
  | 182 => ahZ
  | 183 => ah0
  | 193 => ah1
  | 194 => ah2
  | 210 => ah3
  | 256 => ah4
  | 279 => ah5
  | 280 => ah6
  | 283 => ah7
  | 284 => ah8
  | _ => .other
theorem avj (t : TypeId) : cA Tryz.prog t (tyF t) := by
  unfold tyF
  split
  · exact ap0
  · exact ap1
  · exact ap2
  · exact ap3
  · exact ap4
  · exact ap5
  · exact ap6
  · exact ap7
  · exact akj
  · exact akk
  · exact akl
  · exact akm
  · exact akn
  · exact ako
  · exact akp
  · exact akq
  · exact akr
  · exact aks
  · exact akt
  · exact aku
  · exact akv
  · exact akw
  · exact akx
  · exact aky
  · exact akz
  · exact akA
  · exact akB
  · exact akC
  · exact akD
  · exact akE
  · exact akF
  · exact akG
  · exact akH
  · exact akI
  · exact akJ
  · exact akK
  · exact akL
  · exact akM
  · exact akN
  · exact akO
  · exact akP
  · exact akQ
  · exact akR
  · exact akS
  · exact akT
  · exact akU
  · exact akV
  · exact akW
  · exact akX
  · exact aeW
  · exact aeX
  · exact aeY
  · exact aeZ
  · exact ae0
  · exact ae1
  · exact ae2
  · exact ae3
  · exact ae4
  · exact ae5
  · exact ae6
  · exact ae7
  · exact ae8
  · exact ae9
  · exact afa
  · exact afb
  · exact afc
  · exact afd
  · exact afe
  · exact aff
  · exact afg
  · exact afh
  · trivial
theorem afi : Tryz.prog.follows .mixedOrders = true := by kernel_rfl
def HR (g : FuncId) : Bool := g == 76 || g == 181 || g == 264 || g == 265
noncomputable def env : Env := ⟨Tryz.prog, tyF, avj, afi, HR⟩
@[simp] theorem atv : env.writes = HR := rfl
attribute [simp] HR
@[simp] theorem aAD : env.ty 2 = .int .i64 := rfl
@[simp] theorem avk : env.ty 3 = .int .i64 := rfl
@[simp] theorem aAE : env.ty 4 = .bool := rfl
@[simp] theorem aqN : env.ty 5 = .int .u8 := rfl
@[simp] theorem aAF : env.ty 6 = .int .u8 := rfl
@[simp] theorem aAG : env.ty 7 = .struct [(0, 1, false), (1, 1, false), (2, 1, false), (3, 1, false)] [.int .i64 0, .int .i64 0, .bool false, .int .u8 0] := rfl
@[simp] theorem aAH : env.ty 8 = .struct [(0, 1, false), (1, 1, false), (2, 1, false), (3, 1, false)] [.int .i64 0, .int .i64 0, .bool false, .int .u8 0] := rfl
@[simp] theorem aAI : env.ty 9 = .str := rfl
@[simp] theorem ayn : env.ty 10 = .str := rfl
@[simp] theorem ayo : env.ty 11 = .str := rfl
@[simp] theorem ayp : env.ty 12 = .int .u64 := rfl
@[simp] theorem ayq : env.ty 13 = .struct [(0, 1, false), (1, 1, false)] [.str ⟨#[]⟩, .int .u64 0] := rfl
@[simp] theorem ayr : env.ty 14 = .struct [(0, 1, false), (1, 1, false)] [.str ⟨#[]⟩, .int .u64 0] := rfl
@[simp] theorem ays : env.ty 21 = .int .i32 := rfl
@[simp] theorem ayt : env.ty 22 = .slice 3 1 8 [.int .i64 0] := rfl
@[simp] theorem ayu : env.ty 23 = .slice 38 2 32 [.bool false, .nil] := rfl
@[simp] theorem ayv : env.ty 24 = .slice 38 2 32 [.bool false, .nil] := rfl
@[simp] theorem ayw : env.ty 26 = .slice 31 4 64 [.nil, .bool false, .nil, .bool false] := rfl
@[simp] theorem ayx : env.ty 27 = .slice 3 1 8 [.int .i64 0] := rfl
@[simp] theorem ayy : env.ty 28 = .struct [(0, 1, false), (1, 1, false)] [.nil, .bool false] := rfl
@[simp] theorem ayz : env.ty 29 = .struct [(0, 1, false), (1, 1, false)] [.nil, .bool false] := rfl
@[simp] theorem ayA : env.ty 30 = .struct [(0, 2, true), (2, 2, true)] [.nil, .bool false, .nil, .bool false] := rfl
@[simp] theorem ayB : env.ty 31 = .struct [(0, 2, true), (2, 2, true)] [.nil, .bool false, .nil, .bool false] := rfl
@[simp] theorem ayC : env.ty 36 = .slice 182 1 4 [.int .u32 0] := rfl
@[simp] theorem ayD : env.ty 37 = .struct [(0, 1, false), (1, 1, false)] [.bool false, .nil] := rfl
@[simp] theorem ayE : env.ty 38 = .struct [(0, 1, false), (1, 1, false)] [.bool false, .nil] := rfl
@[simp] theorem ayF : env.ty 41 = .slice 54 9 152 [.nil, .bool false, .nil, .bool false, .nil, .bool false, .nil, .bool false, .nil] := rfl
@[simp] theorem ayG : env.ty 42 = .int .i64 := rfl
@[simp] theorem ayH : env.ty 46 = .slice 31 4 64 [.nil, .bool false, .nil, .bool false] := rfl
@[simp] theorem ayI : env.ty 47 = .slice 46 1 24 [.nil] := rfl
@[simp] theorem ayJ : env.ty 48 = .struct [(0, 1, false), (1, 1, false), (2, 4, true), (6, 4, true)] [.nil, .nil, .nil, .bool false, .nil, .bool false, .nil, .bool false, .nil, .bool false] := rfl
@[simp] theorem ayK : env.ty 49 = .struct [(0, 1, false), (1, 1, false), (2, 4, true), (6, 4, true)] [.nil, .nil, .nil, .bool false, .nil, .bool false, .nil, .bool false, .nil, .bool false] := rfl
@[simp] theorem ayL : env.ty 51 = .struct [(0, 2, true), (2, 2, true)] [.bool false, .nil, .bool false, .nil] := rfl
@[simp] theorem ayM : env.ty 52 = .struct [(0, 2, true), (2, 2, true)] [.bool false, .nil, .bool false, .nil] := rfl
@[simp] theorem ayN : env.ty 53 = .struct [(0, 1, false), (1, 4, true), (5, 4, true)] [.nil, .bool false, .nil, .bool false, .nil, .bool false, .nil, .bool false, .nil] := rfl
@[simp] theorem ayO : env.ty 54 = .struct [(0, 1, false), (1, 4, true), (5, 4, true)] [.nil, .bool false, .nil, .bool false, .nil, .bool false, .nil, .bool false, .nil] := rfl
@[simp] theorem ayP : env.ty 72 = .slice 49 10 176 [.nil, .nil, .nil, .bool false, .nil, .bool false, .nil, .bool false, .nil, .bool false] := rfl
@[simp] theorem ayQ : env.ty 80 = .slice 94 5 88 [.nil, .nil, .bool false, .nil, .int .i64 0] := rfl
@[simp] theorem ayR : env.ty 81 = .slice 90 7 136 [.nil, .nil, .nil, .nil, .bool false, .nil, .int .i64 0] := rfl
@[simp] theorem ayS : env.ty 85 = .struct [(0, 1, false), (1, 1, false), (2, 2, true)] [.nil, .nil, .bool false, .nil] := rfl
@[simp] theorem ayT : env.ty 86 = .struct [(0, 1, false), (1, 1, false), (2, 2, true)] [.nil, .nil, .bool false, .nil] := rfl
@[simp] theorem ayU : env.ty 87 = .struct [(0, 1, false), (1, 1, false), (2, 4, true)] [.nil, .nil, .nil, .nil, .bool false, .nil] := rfl
@[simp] theorem ayV : env.ty 88 = .struct [(0, 1, false), (1, 1, false), (2, 4, true)] [.nil, .nil, .nil, .nil, .bool false, .nil] := rfl
@[simp] theorem ayW : env.ty 89 = .struct [(0, 6, true), (6, 1, false)] [.nil, .nil, .nil, .nil, .bool false, .nil, .int .i64 0] := rfl
@[simp] theorem ayX : env.ty 90 = .struct [(0, 6, true), (6, 1, false)] [.nil, .nil, .nil, .nil, .bool false, .nil, .int .i64 0] := rfl
@[simp] theorem ayY : env.ty 92 = .fnT := rfl
@[simp] theorem ayZ : env.ty 93 = .struct [(0, 4, true), (4, 1, false)] [.nil, .nil, .bool false, .nil, .int .i64 0] := rfl
@[simp] theorem ay0 : env.ty 94 = .struct [(0, 4, true), (4, 1, false)] [.nil, .nil, .bool false, .nil, .int .i64 0] := rfl
@[simp] theorem ay1 : env.ty 97 = .slice 92 1 8 [.undef] := rfl
@[simp] theorem avl : env.ty 106 = .slice 109 5 40 [.int .i64 0, .int .i64 0, .int .i64 0, .int .i64 0, .int .i64 0] := rfl
@[simp] theorem avm : env.ty 107 = .arr 3 4 1 [.int .i64 0, .int .i64 0, .int .i64 0, .int .i64 0] := rfl
@[simp] theorem avn : env.ty 108 = .struct [(0, 1, false), (1, 4, true)] [.int .i64 0, .int .i64 0, .int .i64 0, .int .i64 0, .int .i64 0] := rfl
@[simp] theorem avo : env.ty 109 = .struct [(0, 1, false), (1, 4, true)] [.int .i64 0, .int .i64 0, .int .i64 0, .int .i64 0, .int .i64 0] := rfl
@[simp] theorem avp : env.ty 110 = .slice 113 7 72 [.int .i64 0, .int .i64 0, .int .i64 0, .int .i64 0, .int .i64 0, .nil, .int .i64 0] := rfl
@[simp] theorem avq : env.ty 111 = .slice 115 9 104 [.int .i64 0, .int .i64 0, .int .i64 0, .int .i64 0, .int .i64 0, .nil, .int .i64 0, .nil, .bool false] := rfl
@[simp] theorem avr : env.ty 112 = .struct [(0, 5, true), (5, 1, false), (6, 1, false)] [.int .i64 0, .int .i64 0, .int .i64 0, .int .i64 0, .int .i64 0, .nil, .int .i64 0] := rfl
@[simp] theorem avs : env.ty 113 = .struct [(0, 5, true), (5, 1, false), (6, 1, false)] [.int .i64 0, .int .i64 0, .int .i64 0, .int .i64 0, .int .i64 0, .nil, .int .i64 0] := rfl
@[simp] theorem avt : env.ty 114 = .struct [(0, 5, true), (5, 1, false), (6, 1, false), (7, 1, false), (8, 1, false)] [.int .i64 0, .int .i64 0, .int .i64 0, .int .i64 0, .int .i64 0, .nil, .int .i64 0, .nil, .bool false] := rfl
@[simp] theorem avu : env.ty 115 = .struct [(0, 5, true), (5, 1, false), (6, 1, false), (7, 1, false), (8, 1, false)] [.int .i64 0, .int .i64 0, .int .i64 0, .int .i64 0, .int .i64 0, .nil, .int .i64 0, .nil, .bool false] := rfl
@[simp] theorem avv : env.ty 173 = .slice 24 1 24 [.nil] := rfl
@[simp] theorem avw : env.ty 179 = .int .u64 := rfl
@[simp] theorem akY : env.ty 182 = .int .u32 := rfl
@[simp] theorem avx : env.ty 183 = .int .u64 := rfl
@[simp] theorem avy : env.ty 193 = .struct [(0, 1, false)] [.nil] := rfl
@[simp] theorem avz : env.ty 194 = .struct [(0, 1, false)] [.nil] := rfl
@[simp] theorem avA : env.ty 210 = .slice 52 4 64 [.bool false, .nil, .bool false, .nil] := rfl
@[simp] theorem avB : env.ty 256 = .slice 173 1 24 [.nil] := rfl
@[simp] theorem avC : env.ty 279 = .int .u8 := rfl
@[simp] theorem avD : env.ty 280 = .int .u8 := rfl
@[simp] theorem avE : env.ty 283 = .int .i32 := rfl
@[simp] theorem avF : env.ty 284 = .int .i32 := rfl
end Go.Proofs.YtelhfbikiccfkaaGreat
