/- The types of the seat, as the pure machine wants them: closed facts, each by the kernel. -/
import Derived.Test.YtdiladmkbpnhoaaProg
import Derived.Test.YtdiladmkbpnhoaaMd
import Derived.KernelRfl
namespace Go.Proofs.Ytdiladmkbpnhoaa
open Go Pm
def ti2 : TI := .int .i64
theorem tyOK2 : TyOK Try.prog 2 ti2 := ⟨by kernel_rfl, (zeroOK_of (v := .int .i64 0) (by kernel_rfl) rfl (by kernel_rfl) rfl (by decide))⟩
def ti3 : TI := .int .i64
theorem tyOK3 : TyOK Try.prog 3 ti3 := ⟨by kernel_rfl, (zeroOK_of (v := .int .i64 0) (by kernel_rfl) rfl (by kernel_rfl) rfl (by decide))⟩
def ti4 : TI := .bool
theorem tyOK4 : TyOK Try.prog 4 ti4 := ⟨by kernel_rfl, (zeroOK_of (v := .bool false) (by kernel_rfl) rfl (by kernel_rfl) rfl (by decide))⟩
def ti5 : TI := .int .u8
theorem tyOK5 : TyOK Try.prog 5 ti5 := ⟨by kernel_rfl, (zeroOK_of (v := .int .u8 0) (by kernel_rfl) rfl (by kernel_rfl) rfl (by decide))⟩
def ti6 : TI := .int .u8
theorem tyOK6 : TyOK Try.prog 6 ti6 := ⟨by kernel_rfl, (zeroOK_of (v := .int .u8 0) (by kernel_rfl) rfl (by kernel_rfl) rfl (by decide))⟩
def ti7 : TI := .struct [(0, 1, false), (1, 1, false), (2, 1, false), (3, 1, false)] [.int .i64 0, .int .i64 0, .bool false, .int .u8 0]
theorem tyOK7 : TyOK Try.prog 7 ti7 := ⟨structOK_of (by kernel_rfl), (zeroOK_of (v := .agg #[.int .i64 0, .int .i64 0, .bool false, .int .u8 0]) (by kernel_rfl) rfl (by kernel_rfl) rfl (by decide))⟩
def ti8 : TI := .struct [(0, 1, false), (1, 1, false), (2, 1, false), (3, 1, false)] [.int .i64 0, .int .i64 0, .bool false, .int .u8 0]
theorem tyOK8 : TyOK Try.prog 8 ti8 := ⟨structOK_of (by kernel_rfl), (zeroOK_of (v := .agg #[.int .i64 0, .int .i64 0, .bool false, .int .u8 0]) (by kernel_rfl) rfl (by kernel_rfl) rfl (by decide))⟩
def ti9 : TI := .str
theorem tyOK9 : TyOK Try.prog 9 ti9 := ⟨by kernel_rfl, (zeroOK_of (v := .string ⟨#[]⟩) (by kernel_rfl) rfl (by kernel_rfl) rfl (by decide))⟩
def ti10 : TI := .str
theorem tyOK10 : TyOK Try.prog 10 ti10 := ⟨by kernel_rfl, (zeroOK_of (v := .string ⟨#[]⟩) (by kernel_rfl) rfl (by kernel_rfl) rfl (by decide))⟩
def ti11 : TI := .str
theorem tyOK11 : TyOK Try.prog 11 ti11 := ⟨by kernel_rfl, (zeroOK_of (v := .string ⟨#[]⟩) (by kernel_rfl) rfl (by kernel_rfl) rfl (by decide))⟩
def ti12 : TI := .int .u64
theorem tyOK12 : TyOK Try.prog 12 ti12 := ⟨by kernel_rfl, (zeroOK_of (v := .int .u64 0) (by kernel_rfl) rfl (by kernel_rfl) rfl (by decide))⟩
def ti13 : TI := .struct [(0, 1, false), (1, 1, false)] [.str ⟨#[]⟩, .int .u64 0]
theorem tyOK13 : TyOK Try.prog 13 ti13 := ⟨structOK_of (by kernel_rfl), (zeroOK_of (v := .agg #[.string ⟨#[]⟩, .int .u64 0]) (by kernel_rfl) rfl (by kernel_rfl) rfl (by decide))⟩
def ti14 : TI := .struct [(0, 1, false), (1, 1, false)] [.str ⟨#[]⟩, .int .u64 0]
theorem tyOK14 : TyOK Try.prog 14 ti14 := ⟨structOK_of (by kernel_rfl), (zeroOK_of (v := .agg #[.string ⟨#[]⟩, .int .u64 0]) (by kernel_rfl) rfl (by kernel_rfl) rfl (by decide))⟩
def ti21 : TI := .int .i32
theorem tyOK21 : TyOK Try.prog 21 ti21 := ⟨by kernel_rfl, (zeroOK_of (v := .int .i32 0) (by kernel_rfl) rfl (by kernel_rfl) rfl (by decide))⟩
def ti22 : TI := .slice 3 1 8 [.int .i64 0]
theorem tyOK22 : TyOK Try.prog 22 ti22 := ⟨by kernel_rfl, (zeroOK_of (v := .slice none 0 0) (by kernel_rfl) rfl (by kernel_rfl) rfl (by decide)), (zeroOK_of (v := .int .i64 0) (by kernel_rfl) rfl (by kernel_rfl) rfl (by decide)), bytesOK_of (by kernel_rfl)⟩
def ti23 : TI := .arr 3 4 1 [.int .i64 0, .int .i64 0, .int .i64 0, .int .i64 0]
theorem tyOK23 : TyOK Try.prog 23 ti23 := ⟨by kernel_rfl, (zeroOK_of (v := .agg #[.int .i64 0, .int .i64 0, .int .i64 0, .int .i64 0]) (by kernel_rfl) rfl (by kernel_rfl) rfl (by decide)), sizeOK_of (by kernel_rfl)⟩
def ti24 : TI := .slice 28 2 32 [.bool false, .nil]
theorem tyOK24 : TyOK Try.prog 24 ti24 := ⟨by kernel_rfl, (zeroOK_of (v := .slice none 0 0) (by kernel_rfl) rfl (by kernel_rfl) rfl (by decide)), (zeroOK_of (v := .agg #[.bool false, .slice none 0 0]) (by kernel_rfl) rfl (by kernel_rfl) rfl (by decide)), bytesOK_of (by kernel_rfl)⟩
def ti25 : TI := .slice 28 2 32 [.bool false, .nil]
theorem tyOK25 : TyOK Try.prog 25 ti25 := ⟨by kernel_rfl, (zeroOK_of (v := .slice none 0 0) (by kernel_rfl) rfl (by kernel_rfl) rfl (by decide)), (zeroOK_of (v := .agg #[.bool false, .slice none 0 0]) (by kernel_rfl) rfl (by kernel_rfl) rfl (by decide)), bytesOK_of (by kernel_rfl)⟩
def ti26 : TI := .slice 71 1 4 [.int .u32 0]
theorem tyOK26 : TyOK Try.prog 26 ti26 := ⟨by kernel_rfl, (zeroOK_of (v := .slice none 0 0) (by kernel_rfl) rfl (by kernel_rfl) rfl (by decide)), (zeroOK_of (v := .int .u32 0) (by kernel_rfl) rfl (by kernel_rfl) rfl (by decide)), bytesOK_of (by kernel_rfl)⟩
def ti27 : TI := .struct [(0, 1, false), (1, 1, false)] [.bool false, .nil]
theorem tyOK27 : TyOK Try.prog 27 ti27 := ⟨structOK_of (by kernel_rfl), (zeroOK_of (v := .agg #[.bool false, .slice none 0 0]) (by kernel_rfl) rfl (by kernel_rfl) rfl (by decide))⟩
def ti28 : TI := .struct [(0, 1, false), (1, 1, false)] [.bool false, .nil]
theorem tyOK28 : TyOK Try.prog 28 ti28 := ⟨structOK_of (by kernel_rfl), (zeroOK_of (v := .agg #[.bool false, .slice none 0 0]) (by kernel_rfl) rfl (by kernel_rfl) rfl (by decide))⟩
def ti29 : TI := .struct [(0, 1, false), (1, 1, false), (2, 2, true)] [.nil, .nil, .bool false, .nil]
theorem tyOK29 : TyOK Try.prog 29 ti29 := ⟨structOK_of (by kernel_rfl), (zeroOK_of (v := .agg #[.slice none 0 0, .slice none 0 0, .bool false, .slice none 0 0]) (by kernel_rfl) rfl (by kernel_rfl) rfl (by decide))⟩
def ti30 : TI := .struct [(0, 1, false), (1, 1, false), (2, 2, true)] [.nil, .nil, .bool false, .nil]
theorem tyOK30 : TyOK Try.prog 30 ti30 := ⟨structOK_of (by kernel_rfl), (zeroOK_of (v := .agg #[.slice none 0 0, .slice none 0 0, .bool false, .slice none 0 0]) (by kernel_rfl) rfl (by kernel_rfl) rfl (by decide))⟩
def ti31 : TI := .arr 30 4 4 [.nil, .nil, .bool false, .nil, .nil, .nil, .bool false, .nil, .nil, .nil, .bool false, .nil, .nil, .nil, .bool false, .nil]
theorem tyOK31 : TyOK Try.prog 31 ti31 := ⟨by kernel_rfl, (zeroOK_of (v := .agg #[.slice none 0 0, .slice none 0 0, .bool false, .slice none 0 0, .slice none 0 0, .slice none 0 0, .bool false, .slice none 0 0, .slice none 0 0, .slice none 0 0, .bool false, .slice none 0 0, .slice none 0 0, .slice none 0 0, .bool false, .slice none 0 0]) (by kernel_rfl) rfl (by kernel_rfl) rfl (by decide)), sizeOK_of (by kernel_rfl)⟩
def ti34 : TI := .arr 3 3 1 [.int .i64 0, .int .i64 0, .int .i64 0]
theorem tyOK34 : TyOK Try.prog 34 ti34 := ⟨by kernel_rfl, (zeroOK_of (v := .agg #[.int .i64 0, .int .i64 0, .int .i64 0]) (by kernel_rfl) rfl (by kernel_rfl) rfl (by decide)), sizeOK_of (by kernel_rfl)⟩
def ti35 : TI := .arr 34 3 3 [.int .i64 0, .int .i64 0, .int .i64 0, .int .i64 0, .int .i64 0, .int .i64 0, .int .i64 0, .int .i64 0, .int .i64 0]
theorem tyOK35 : TyOK Try.prog 35 ti35 := ⟨by kernel_rfl, (zeroOK_of (v := .agg #[.int .i64 0, .int .i64 0, .int .i64 0, .int .i64 0, .int .i64 0, .int .i64 0, .int .i64 0, .int .i64 0, .int .i64 0]) (by kernel_rfl) rfl (by kernel_rfl) rfl (by decide)), sizeOK_of (by kernel_rfl)⟩
def ti37 : TI := .slice 53 4 64 [.nil, .bool false, .nil, .bool false]
theorem tyOK37 : TyOK Try.prog 37 ti37 := ⟨by kernel_rfl, (zeroOK_of (v := .slice none 0 0) (by kernel_rfl) rfl (by kernel_rfl) rfl (by decide)), (zeroOK_of (v := .agg #[.slice none 0 0, .bool false, .slice none 0 0, .bool false]) (by kernel_rfl) rfl (by kernel_rfl) rfl (by decide)), bytesOK_of (by kernel_rfl)⟩
def ti38 : TI := .slice 53 4 64 [.nil, .bool false, .nil, .bool false]
theorem tyOK38 : TyOK Try.prog 38 ti38 := ⟨by kernel_rfl, (zeroOK_of (v := .slice none 0 0) (by kernel_rfl) rfl (by kernel_rfl) rfl (by decide)), (zeroOK_of (v := .agg #[.slice none 0 0, .bool false, .slice none 0 0, .bool false]) (by kernel_rfl) rfl (by kernel_rfl) rfl (by decide)), bytesOK_of (by kernel_rfl)⟩
def ti49 : TI := .slice 3 1 8 [.int .i64 0]
theorem tyOK49 : TyOK Try.prog 49 ti49 := ⟨by kernel_rfl, (zeroOK_of (v := .slice none 0 0) (by kernel_rfl) rfl (by kernel_rfl) rfl (by decide)), (zeroOK_of (v := .int .i64 0) (by kernel_rfl) rfl (by kernel_rfl) rfl (by decide)), bytesOK_of (by kernel_rfl)⟩
def ti50 : TI := .struct [(0, 1, false), (1, 1, false)] [.nil, .bool false]
theorem tyOK50 : TyOK Try.prog 50 ti50 := ⟨structOK_of (by kernel_rfl), (zeroOK_of (v := .agg #[.slice none 0 0, .bool false]) (by kernel_rfl) rfl (by kernel_rfl) rfl (by decide))⟩
def ti51 : TI := .struct [(0, 1, false), (1, 1, false)] [.nil, .bool false]
theorem tyOK51 : TyOK Try.prog 51 ti51 := ⟨structOK_of (by kernel_rfl), (zeroOK_of (v := .agg #[.slice none 0 0, .bool false]) (by kernel_rfl) rfl (by kernel_rfl) rfl (by decide))⟩
def ti52 : TI := .struct [(0, 2, true), (2, 2, true)] [.nil, .bool false, .nil, .bool false]
theorem tyOK52 : TyOK Try.prog 52 ti52 := ⟨structOK_of (by kernel_rfl), (zeroOK_of (v := .agg #[.slice none 0 0, .bool false, .slice none 0 0, .bool false]) (by kernel_rfl) rfl (by kernel_rfl) rfl (by decide))⟩
def ti53 : TI := .struct [(0, 2, true), (2, 2, true)] [.nil, .bool false, .nil, .bool false]
theorem tyOK53 : TyOK Try.prog 53 ti53 := ⟨structOK_of (by kernel_rfl), (zeroOK_of (v := .agg #[.slice none 0 0, .bool false, .slice none 0 0, .bool false]) (by kernel_rfl) rfl (by kernel_rfl) rfl (by decide))⟩
def ti58 : TI := .slice 25 1 24 [.nil]
theorem tyOK58 : TyOK Try.prog 58 ti58 := ⟨by kernel_rfl, (zeroOK_of (v := .slice none 0 0) (by kernel_rfl) rfl (by kernel_rfl) rfl (by decide)), (zeroOK_of (v := .slice none 0 0) (by kernel_rfl) rfl (by kernel_rfl) rfl (by decide)), bytesOK_of (by kernel_rfl)⟩
def ti62 : TI := .int .i64
theorem tyOK62 : TyOK Try.prog 62 ti62 := ⟨by kernel_rfl, (zeroOK_of (v := .int .i64 0) (by kernel_rfl) rfl (by kernel_rfl) rfl (by decide))⟩
def ti71 : TI := .int .u32
theorem tyOK71 : TyOK Try.prog 71 ti71 := ⟨by kernel_rfl, (zeroOK_of (v := .int .u32 0) (by kernel_rfl) rfl (by kernel_rfl) rfl (by decide))⟩
def ti81 : TI := .slice 58 1 24 [.nil]
theorem tyOK81 : TyOK Try.prog 81 ti81 := ⟨by kernel_rfl, (zeroOK_of (v := .slice none 0 0) (by kernel_rfl) rfl (by kernel_rfl) rfl (by decide)), (zeroOK_of (v := .slice none 0 0) (by kernel_rfl) rfl (by kernel_rfl) rfl (by decide)), bytesOK_of (by kernel_rfl)⟩
def ti91 : TI := .int .u64
theorem tyOK91 : TyOK Try.prog 91 ti91 := ⟨by kernel_rfl, (zeroOK_of (v := .int .u64 0) (by kernel_rfl) rfl (by kernel_rfl) rfl (by decide))⟩
def ti93 : TI := .int .u64
theorem tyOK93 : TyOK Try.prog 93 ti93 := ⟨by kernel_rfl, (zeroOK_of (v := .int .u64 0) (by kernel_rfl) rfl (by kernel_rfl) rfl (by decide))⟩
def ti124 : TI := .int .u8
theorem tyOK124 : TyOK Try.prog 124 ti124 := ⟨by kernel_rfl, (zeroOK_of (v := .int .u8 0) (by kernel_rfl) rfl (by kernel_rfl) rfl (by decide))⟩
def ti125 : TI := .int .u8
theorem tyOK125 : TyOK Try.prog 125 ti125 := ⟨by kernel_rfl, (zeroOK_of (v := .int .u8 0) (by kernel_rfl) rfl (by kernel_rfl) rfl (by decide))⟩
def ti128 : TI := .int .i32
theorem tyOK128 : TyOK Try.prog 128 ti128 := ⟨by kernel_rfl, (zeroOK_of (v := .int .i32 0) (by kernel_rfl) rfl (by kernel_rfl) rfl (by decide))⟩
def ti129 : TI := .int .i32
theorem tyOK129 : TyOK Try.prog 129 ti129 := ⟨by kernel_rfl, (zeroOK_of (v := .int .i32 0) (by kernel_rfl) rfl (by kernel_rfl) rfl (by decide))⟩
def tyF : TypeId → TI
  | 2 => ti2
  | 3 => ti3
  | 4 => ti4
  | 5 => ti5
  | 6 => ti6
  | 7 => ti7
  | 8 => ti8
  | 9 => ti9
  | 10 => ti10
  | 11 => ti11
  | 12 => ti12
  | 13 => ti13
  | 14 => ti14
  | 21 => ti21
  | 22 => ti22
  | 23 => ti23
  | 24 => ti24
  | 25 => ti25
  | 26 => ti26
  | 27 => ti27
  | 28 => ti28
  | 29 => ti29
  | 30 => ti30
  | 31 => ti31
  | 34 => ti34
  | 35 => ti35
  | 37 => ti37
  | 38 => ti38
  | 49 => ti49
  | 50 => ti50
  | 51 => ti51
  | 52 => ti52
  | 53 => ti53
  | 58 => ti58
  | 62 => ti62
  | 71 => ti71
  | 81 => ti81
  | 91 => ti91
  | 93 => ti93
  | 124 => ti124
  | 125 => ti125
  | 128 => ti128
  | 129 => ti129
  | _ => .other
theorem tyOK (t : TypeId) : TyOK Try.prog t (tyF t) := by
  unfold tyF
  split
  · exact tyOK2
  · exact tyOK3
  · exact tyOK4
  · exact tyOK5
  · exact tyOK6
  · exact tyOK7
  · exact tyOK8
  · exact tyOK9
  · exact tyOK10
  · exact tyOK11
  · exact tyOK12
  · exact tyOK13
  · exact tyOK14
  · exact tyOK21
  · exact tyOK22
  · exact tyOK23
  · exact tyOK24
  · exact tyOK25
  · exact tyOK26
  · exact tyOK27
  · exact tyOK28
  · exact tyOK29
  · exact tyOK30
  · exact tyOK31
  · exact tyOK34
  · exact tyOK35
  · exact tyOK37
  · exact tyOK38
  · exact tyOK49
  · exact tyOK50
  · exact tyOK51
  · exact tyOK52
  · exact tyOK53
  · exact tyOK58
  · exact tyOK62
  · exact tyOK71
  · exact tyOK81
  · exact tyOK91
  · exact tyOK93
  · exact tyOK124
  · exact tyOK125
  · exact tyOK128
  · exact tyOK129
  · trivial
theorem mixedOK : Try.prog.follows .mixedOrders = true := by kernel_rfl
def mutF (g : FuncId) : Bool := g == 83 || g == 84
noncomputable def env : Env := ⟨Try.prog, tyF, tyOK, mixedOK, mutF⟩
@[simp] theorem env_mut : env.writes = mutF := rfl
attribute [simp] mutF
@[simp] theorem ety2 : env.ty 2 = .int .i64 := rfl
@[simp] theorem ety3 : env.ty 3 = .int .i64 := rfl
@[simp] theorem ety4 : env.ty 4 = .bool := rfl
@[simp] theorem ety5 : env.ty 5 = .int .u8 := rfl
@[simp] theorem ety6 : env.ty 6 = .int .u8 := rfl
@[simp] theorem ety7 : env.ty 7 = .struct [(0, 1, false), (1, 1, false), (2, 1, false), (3, 1, false)] [.int .i64 0, .int .i64 0, .bool false, .int .u8 0] := rfl
@[simp] theorem ety8 : env.ty 8 = .struct [(0, 1, false), (1, 1, false), (2, 1, false), (3, 1, false)] [.int .i64 0, .int .i64 0, .bool false, .int .u8 0] := rfl
@[simp] theorem ety9 : env.ty 9 = .str := rfl
@[simp] theorem ety10 : env.ty 10 = .str := rfl
@[simp] theorem ety11 : env.ty 11 = .str := rfl
@[simp] theorem ety12 : env.ty 12 = .int .u64 := rfl
@[simp] theorem ety13 : env.ty 13 = .struct [(0, 1, false), (1, 1, false)] [.str ⟨#[]⟩, .int .u64 0] := rfl
@[simp] theorem ety14 : env.ty 14 = .struct [(0, 1, false), (1, 1, false)] [.str ⟨#[]⟩, .int .u64 0] := rfl
@[simp] theorem ety21 : env.ty 21 = .int .i32 := rfl
@[simp] theorem ety22 : env.ty 22 = .slice 3 1 8 [.int .i64 0] := rfl
@[simp] theorem ety23 : env.ty 23 = .arr 3 4 1 [.int .i64 0, .int .i64 0, .int .i64 0, .int .i64 0] := rfl
@[simp] theorem ety24 : env.ty 24 = .slice 28 2 32 [.bool false, .nil] := rfl
@[simp] theorem ety25 : env.ty 25 = .slice 28 2 32 [.bool false, .nil] := rfl
@[simp] theorem ety26 : env.ty 26 = .slice 71 1 4 [.int .u32 0] := rfl
@[simp] theorem ety27 : env.ty 27 = .struct [(0, 1, false), (1, 1, false)] [.bool false, .nil] := rfl
@[simp] theorem ety28 : env.ty 28 = .struct [(0, 1, false), (1, 1, false)] [.bool false, .nil] := rfl
@[simp] theorem ety29 : env.ty 29 = .struct [(0, 1, false), (1, 1, false), (2, 2, true)] [.nil, .nil, .bool false, .nil] := rfl
@[simp] theorem ety30 : env.ty 30 = .struct [(0, 1, false), (1, 1, false), (2, 2, true)] [.nil, .nil, .bool false, .nil] := rfl
@[simp] theorem ety31 : env.ty 31 = .arr 30 4 4 [.nil, .nil, .bool false, .nil, .nil, .nil, .bool false, .nil, .nil, .nil, .bool false, .nil, .nil, .nil, .bool false, .nil] := rfl
@[simp] theorem ety34 : env.ty 34 = .arr 3 3 1 [.int .i64 0, .int .i64 0, .int .i64 0] := rfl
@[simp] theorem ety35 : env.ty 35 = .arr 34 3 3 [.int .i64 0, .int .i64 0, .int .i64 0, .int .i64 0, .int .i64 0, .int .i64 0, .int .i64 0, .int .i64 0, .int .i64 0] := rfl
@[simp] theorem ety37 : env.ty 37 = .slice 53 4 64 [.nil, .bool false, .nil, .bool false] := rfl
@[simp] theorem ety38 : env.ty 38 = .slice 53 4 64 [.nil, .bool false, .nil, .bool false] := rfl
@[simp] theorem ety49 : env.ty 49 = .slice 3 1 8 [.int .i64 0] := rfl
@[simp] theorem ety50 : env.ty 50 = .struct [(0, 1, false), (1, 1, false)] [.nil, .bool false] := rfl
@[simp] theorem ety51 : env.ty 51 = .struct [(0, 1, false), (1, 1, false)] [.nil, .bool false] := rfl
@[simp] theorem ety52 : env.ty 52 = .struct [(0, 2, true), (2, 2, true)] [.nil, .bool false, .nil, .bool false] := rfl
@[simp] theorem ety53 : env.ty 53 = .struct [(0, 2, true), (2, 2, true)] [.nil, .bool false, .nil, .bool false] := rfl
@[simp] theorem ety58 : env.ty 58 = .slice 25 1 24 [.nil] := rfl
@[simp] theorem ety62 : env.ty 62 = .int .i64 := rfl
@[simp] theorem ety71 : env.ty 71 = .int .u32 := rfl
@[simp] theorem ety81 : env.ty 81 = .slice 58 1 24 [.nil] := rfl
@[simp] theorem ety91 : env.ty 91 = .int .u64 := rfl
@[simp] theorem ety93 : env.ty 93 = .int .u64 := rfl
@[simp] theorem ety124 : env.ty 124 = .int .u8 := rfl
@[simp] theorem ety125 : env.ty 125 = .int .u8 := rfl
@[simp] theorem ety128 : env.ty 128 = .int .i32 := rfl
@[simp] theorem ety129 : env.ty 129 = .int .i32 := rfl
end Go.Proofs.Ytdiladmkbpnhoaa
