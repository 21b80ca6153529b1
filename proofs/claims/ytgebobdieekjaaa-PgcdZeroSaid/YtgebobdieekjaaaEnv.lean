/- The types of the seat, as the pure machine wants them: closed facts, each by the kernel. -/
import Derived.Test.YtgebobdieekjaaaProg
import Derived.Test.YtgebobdieekjaaaMd
import Derived.KernelRfl
namespace Go.Proofs.Ytgebobdieekjaaa
open Go Pm
def ti2 : TI := .int .i64
theorem tyOK2 : TyOK Try.prog 2 ti2 := ⟨by kernel_rfl, (zeroOK_of (v := .int .i64 0) (by kernel_rfl) rfl (by kernel_rfl) rfl (by decide))⟩
def ti3 : TI := .int .i64
theorem tyOK3 : TyOK Try.prog 3 ti3 := ⟨by kernel_rfl, (zeroOK_of (v := .int .i64 0) (by kernel_rfl) rfl (by kernel_rfl) rfl (by decide))⟩
def ti4 : TI := .bool
theorem tyOK4 : TyOK Try.prog 4 ti4 := ⟨by kernel_rfl, (zeroOK_of (v := .bool false) (by kernel_rfl) rfl (by kernel_rfl) rfl (by decide))⟩
def ti5 : TI := .int .u8
theorem tyOK5 : TyOK Try.prog 5 ti5 := ⟨by kernel_rfl, (zeroOK_of (v := .int .u8 0) (by kernel_rfl) rfl (by kernel_rfl) rfl (by decide))⟩
def ti6 : TI := .int .u8
theorem tyOK6 : TyOK Try.prog 6 ti6 := ⟨by kernel_rfl, (zeroOK_of (v := .int .u8 0) (by kernel_rfl) rfl (by kernel_rfl) rfl (by decide))⟩
def ti7 : TI := .struct [(0, 1, false), (1, 1, false), (2, 1, false), (3, 1, false)] [.int .i64 0, .int .i64 0, .bool false, .int .u8 0]
theorem tyOK7 : TyOK Try.prog 7 ti7 := ⟨structOK_of (by kernel_rfl), (zeroOK_of (v := .agg #[.int .i64 0, .int .i64 0, .bool false, .int .u8 0]) (by kernel_rfl) rfl (by kernel_rfl) rfl (by decide))⟩
def ti8 : TI := .struct [(0, 1, false), (1, 1, false), (2, 1, false), (3, 1, false)] [.int .i64 0, .int .i64 0, .bool false, .int .u8 0]
theorem tyOK8 : TyOK Try.prog 8 ti8 := ⟨structOK_of (by kernel_rfl), (zeroOK_of (v := .agg #[.int .i64 0, .int .i64 0, .bool false, .int .u8 0]) (by kernel_rfl) rfl (by kernel_rfl) rfl (by decide))⟩
def ti9 : TI := .str
theorem tyOK9 : TyOK Try.prog 9 ti9 := ⟨by kernel_rfl, (zeroOK_of (v := .string ⟨#[]⟩) (by kernel_rfl) rfl (by kernel_rfl) rfl (by decide))⟩
def ti10 : TI := .str
theorem tyOK10 : TyOK Try.prog 10 ti10 := ⟨by kernel_rfl, (zeroOK_of (v := .string ⟨#[]⟩) (by kernel_rfl) rfl (by kernel_rfl) rfl (by decide))⟩
def ti11 : TI := .str
theorem tyOK11 : TyOK Try.prog 11 ti11 := ⟨by kernel_rfl, (zeroOK_of (v := .string ⟨#[]⟩) (by kernel_rfl) rfl (by kernel_rfl) rfl (by decide))⟩
def ti12 : TI := .int .u64
theorem tyOK12 : TyOK Try.prog 12 ti12 := ⟨by kernel_rfl, (zeroOK_of (v := .int .u64 0) (by kernel_rfl) rfl (by kernel_rfl) rfl (by decide))⟩
def ti13 : TI := .struct [(0, 1, false), (1, 1, false)] [.str ⟨#[]⟩, .int .u64 0]
theorem tyOK13 : TyOK Try.prog 13 ti13 := ⟨structOK_of (by kernel_rfl), (zeroOK_of (v := .agg #[.string ⟨#[]⟩, .int .u64 0]) (by kernel_rfl) rfl (by kernel_rfl) rfl (by decide))⟩
def ti14 : TI := .struct [(0, 1, false), (1, 1, false)] [.str ⟨#[]⟩, .int .u64 0]
theorem tyOK14 : TyOK Try.prog 14 ti14 := ⟨structOK_of (by kernel_rfl), (zeroOK_of (v := .agg #[.string ⟨#[]⟩, .int .u64 0]) (by kernel_rfl) rfl (by kernel_rfl) rfl (by decide))⟩
def ti21 : TI := .int .i32
theorem tyOK21 : TyOK Try.prog 21 ti21 := ⟨by kernel_rfl, (zeroOK_of (v := .int .i32 0) (by kernel_rfl) rfl (by kernel_rfl) rfl (by decide))⟩
def ti22 : TI := .slice 40 2 32 [.bool false, .nil]
theorem tyOK22 : TyOK Try.prog 22 ti22 := ⟨by kernel_rfl, (zeroOK_of (v := .slice none 0 0) (by kernel_rfl) rfl (by kernel_rfl) rfl (by decide)), (zeroOK_of (v := .agg #[.bool false, .slice none 0 0]) (by kernel_rfl) rfl (by kernel_rfl) rfl (by decide)), bytesOK_of (by kernel_rfl)⟩
def ti23 : TI := .slice 40 2 32 [.bool false, .nil]
theorem tyOK23 : TyOK Try.prog 23 ti23 := ⟨by kernel_rfl, (zeroOK_of (v := .slice none 0 0) (by kernel_rfl) rfl (by kernel_rfl) rfl (by decide)), (zeroOK_of (v := .agg #[.bool false, .slice none 0 0]) (by kernel_rfl) rfl (by kernel_rfl) rfl (by decide)), bytesOK_of (by kernel_rfl)⟩
def ti28 : TI := .slice 23 1 24 [.nil]
theorem tyOK28 : TyOK Try.prog 28 ti28 := ⟨by kernel_rfl, (zeroOK_of (v := .slice none 0 0) (by kernel_rfl) rfl (by kernel_rfl) rfl (by decide)), (zeroOK_of (v := .slice none 0 0) (by kernel_rfl) rfl (by kernel_rfl) rfl (by decide)), bytesOK_of (by kernel_rfl)⟩
def ti31 : TI := .slice 60 4 64 [.nil, .bool false, .nil, .bool false]
theorem tyOK31 : TyOK Try.prog 31 ti31 := ⟨by kernel_rfl, (zeroOK_of (v := .slice none 0 0) (by kernel_rfl) rfl (by kernel_rfl) rfl (by decide)), (zeroOK_of (v := .agg #[.slice none 0 0, .bool false, .slice none 0 0, .bool false]) (by kernel_rfl) rfl (by kernel_rfl) rfl (by decide)), bytesOK_of (by kernel_rfl)⟩
def ti32 : TI := .slice 60 4 64 [.nil, .bool false, .nil, .bool false]
theorem tyOK32 : TyOK Try.prog 32 ti32 := ⟨by kernel_rfl, (zeroOK_of (v := .slice none 0 0) (by kernel_rfl) rfl (by kernel_rfl) rfl (by decide)), (zeroOK_of (v := .agg #[.slice none 0 0, .bool false, .slice none 0 0, .bool false]) (by kernel_rfl) rfl (by kernel_rfl) rfl (by decide)), bytesOK_of (by kernel_rfl)⟩
def ti36 : TI := .slice 3 1 8 [.int .i64 0]
theorem tyOK36 : TyOK Try.prog 36 ti36 := ⟨by kernel_rfl, (zeroOK_of (v := .slice none 0 0) (by kernel_rfl) rfl (by kernel_rfl) rfl (by decide)), (zeroOK_of (v := .int .i64 0) (by kernel_rfl) rfl (by kernel_rfl) rfl (by decide)), bytesOK_of (by kernel_rfl)⟩
def ti38 : TI := .slice 78 1 4 [.int .u32 0]
theorem tyOK38 : TyOK Try.prog 38 ti38 := ⟨by kernel_rfl, (zeroOK_of (v := .slice none 0 0) (by kernel_rfl) rfl (by kernel_rfl) rfl (by decide)), (zeroOK_of (v := .int .u32 0) (by kernel_rfl) rfl (by kernel_rfl) rfl (by decide)), bytesOK_of (by kernel_rfl)⟩
def ti39 : TI := .struct [(0, 1, false), (1, 1, false)] [.bool false, .nil]
theorem tyOK39 : TyOK Try.prog 39 ti39 := ⟨structOK_of (by kernel_rfl), (zeroOK_of (v := .agg #[.bool false, .slice none 0 0]) (by kernel_rfl) rfl (by kernel_rfl) rfl (by decide))⟩
def ti40 : TI := .struct [(0, 1, false), (1, 1, false)] [.bool false, .nil]
theorem tyOK40 : TyOK Try.prog 40 ti40 := ⟨structOK_of (by kernel_rfl), (zeroOK_of (v := .agg #[.bool false, .slice none 0 0]) (by kernel_rfl) rfl (by kernel_rfl) rfl (by decide))⟩
def ti41 : TI := .struct [(0, 1, false), (1, 1, false), (2, 2, true)] [.nil, .nil, .bool false, .nil]
theorem tyOK41 : TyOK Try.prog 41 ti41 := ⟨structOK_of (by kernel_rfl), (zeroOK_of (v := .agg #[.slice none 0 0, .slice none 0 0, .bool false, .slice none 0 0]) (by kernel_rfl) rfl (by kernel_rfl) rfl (by decide))⟩
def ti42 : TI := .struct [(0, 1, false), (1, 1, false), (2, 2, true)] [.nil, .nil, .bool false, .nil]
theorem tyOK42 : TyOK Try.prog 42 ti42 := ⟨structOK_of (by kernel_rfl), (zeroOK_of (v := .agg #[.slice none 0 0, .slice none 0 0, .bool false, .slice none 0 0]) (by kernel_rfl) rfl (by kernel_rfl) rfl (by decide))⟩
def ti56 : TI := .slice 3 1 8 [.int .i64 0]
theorem tyOK56 : TyOK Try.prog 56 ti56 := ⟨by kernel_rfl, (zeroOK_of (v := .slice none 0 0) (by kernel_rfl) rfl (by kernel_rfl) rfl (by decide)), (zeroOK_of (v := .int .i64 0) (by kernel_rfl) rfl (by kernel_rfl) rfl (by decide)), bytesOK_of (by kernel_rfl)⟩
def ti57 : TI := .struct [(0, 1, false), (1, 1, false)] [.nil, .bool false]
theorem tyOK57 : TyOK Try.prog 57 ti57 := ⟨structOK_of (by kernel_rfl), (zeroOK_of (v := .agg #[.slice none 0 0, .bool false]) (by kernel_rfl) rfl (by kernel_rfl) rfl (by decide))⟩
def ti58 : TI := .struct [(0, 1, false), (1, 1, false)] [.nil, .bool false]
theorem tyOK58 : TyOK Try.prog 58 ti58 := ⟨structOK_of (by kernel_rfl), (zeroOK_of (v := .agg #[.slice none 0 0, .bool false]) (by kernel_rfl) rfl (by kernel_rfl) rfl (by decide))⟩
def ti59 : TI := .struct [(0, 2, true), (2, 2, true)] [.nil, .bool false, .nil, .bool false]
theorem tyOK59 : TyOK Try.prog 59 ti59 := ⟨structOK_of (by kernel_rfl), (zeroOK_of (v := .agg #[.slice none 0 0, .bool false, .slice none 0 0, .bool false]) (by kernel_rfl) rfl (by kernel_rfl) rfl (by decide))⟩
def ti60 : TI := .struct [(0, 2, true), (2, 2, true)] [.nil, .bool false, .nil, .bool false]
theorem tyOK60 : TyOK Try.prog 60 ti60 := ⟨structOK_of (by kernel_rfl), (zeroOK_of (v := .agg #[.slice none 0 0, .bool false, .slice none 0 0, .bool false]) (by kernel_rfl) rfl (by kernel_rfl) rfl (by decide))⟩
def ti70 : TI := .int .i64
theorem tyOK70 : TyOK Try.prog 70 ti70 := ⟨by kernel_rfl, (zeroOK_of (v := .int .i64 0) (by kernel_rfl) rfl (by kernel_rfl) rfl (by decide))⟩
def ti75 : TI := .int .u64
theorem tyOK75 : TyOK Try.prog 75 ti75 := ⟨by kernel_rfl, (zeroOK_of (v := .int .u64 0) (by kernel_rfl) rfl (by kernel_rfl) rfl (by decide))⟩
def ti78 : TI := .int .u32
theorem tyOK78 : TyOK Try.prog 78 ti78 := ⟨by kernel_rfl, (zeroOK_of (v := .int .u32 0) (by kernel_rfl) rfl (by kernel_rfl) rfl (by decide))⟩
def ti79 : TI := .int .u64
theorem tyOK79 : TyOK Try.prog 79 ti79 := ⟨by kernel_rfl, (zeroOK_of (v := .int .u64 0) (by kernel_rfl) rfl (by kernel_rfl) rfl (by decide))⟩
def ti94 : TI := .slice 28 1 24 [.nil]
theorem tyOK94 : TyOK Try.prog 94 ti94 := ⟨by kernel_rfl, (zeroOK_of (v := .slice none 0 0) (by kernel_rfl) rfl (by kernel_rfl) rfl (by decide)), (zeroOK_of (v := .slice none 0 0) (by kernel_rfl) rfl (by kernel_rfl) rfl (by decide)), bytesOK_of (by kernel_rfl)⟩
def ti135 : TI := .int .u8
theorem tyOK135 : TyOK Try.prog 135 ti135 := ⟨by kernel_rfl, (zeroOK_of (v := .int .u8 0) (by kernel_rfl) rfl (by kernel_rfl) rfl (by decide))⟩
def ti136 : TI := .int .u8
theorem tyOK136 : TyOK Try.prog 136 ti136 := ⟨by kernel_rfl, (zeroOK_of (v := .int .u8 0) (by kernel_rfl) rfl (by kernel_rfl) rfl (by decide))⟩
def ti139 : TI := .int .i32
theorem tyOK139 : TyOK Try.prog 139 ti139 := ⟨by kernel_rfl, (zeroOK_of (v := .int .i32 0) (by kernel_rfl) rfl (by kernel_rfl) rfl (by decide))⟩
def ti140 : TI := .int .i32
theorem tyOK140 : TyOK Try.prog 140 ti140 := ⟨by kernel_rfl, (zeroOK_of (v := .int .i32 0) (by kernel_rfl) rfl (by kernel_rfl) rfl (by decide))⟩
def tyF : TypeId → TI
  | 2 => ti2
  | 3 => ti3
  | 4 => ti4
  | 5 => ti5
  | 6 => ti6
  | 7 => ti7
  | 8 => ti8
  | 9 => ti9
  | 10 => ti10
  | 11 => ti11
  | 12 => ti12
  | 13 => ti13
  | 14 => ti14
  | 21 => ti21
  | 22 => ti22
  | 23 => ti23
  | 28 => ti28
  | 31 => ti31
  | 32 => ti32
  | 36 => ti36
  | 38 => ti38
  | 39 => ti39
  | 40 => ti40
  | 41 => ti41
  | 42 => ti42
  | 56 => ti56
  | 57 => ti57
  | 58 => ti58
  | 59 => ti59
  | 60 => ti60
  | 70 => ti70
  | 75 => ti75
  | 78 => ti78
  | 79 => ti79
  | 94 => ti94
  | 135 => ti135
  | 136 => ti136
  | 139 => ti139
  | 140 => ti140
  | _ => .other
theorem tyOK (t : TypeId) : TyOK Try.prog t (tyF t) := by
  unfold tyF
  split
  · exact tyOK2
  · exact tyOK3
  · exact tyOK4
  · exact tyOK5
  · exact tyOK6
  · exact tyOK7
  · exact tyOK8
  · exact tyOK9
  · exact tyOK10
  · exact tyOK11
  · exact tyOK12
  · exact tyOK13
  · exact tyOK14
  · exact tyOK21
  · exact tyOK22
  · exact tyOK23
  · exact tyOK28
  · exact tyOK31
  · exact tyOK32
  · exact tyOK36
  · exact tyOK38
  · exact tyOK39
  · exact tyOK40
  · exact tyOK41
  · exact tyOK42
  · exact tyOK56
  · exact tyOK57
  · exact tyOK58
  · exact tyOK59
  · exact tyOK60
  · exact tyOK70
  · exact tyOK75
  · exact tyOK78
  · exact tyOK79
  · exact tyOK94
  · exact tyOK135
  · exact tyOK136
  · exact tyOK139
  · exact tyOK140
  · trivial
theorem mixedOK : Try.prog.follows .mixedOrders = true := by kernel_rfl
def mutF (g : FuncId) : Bool := g == 108 || g == 109
noncomputable def env : Env := ⟨Try.prog, tyF, tyOK, mixedOK, mutF⟩
@[simp] theorem env_mut : env.writes = mutF := rfl
attribute [simp] mutF
@[simp] theorem ety2 : env.ty 2 = .int .i64 := rfl
@[simp] theorem ety3 : env.ty 3 = .int .i64 := rfl
@[simp] theorem ety4 : env.ty 4 = .bool := rfl
@[simp] theorem ety5 : env.ty 5 = .int .u8 := rfl
@[simp] theorem ety6 : env.ty 6 = .int .u8 := rfl
@[simp] theorem ety7 : env.ty 7 = .struct [(0, 1, false), (1, 1, false), (2, 1, false), (3, 1, false)] [.int .i64 0, .int .i64 0, .bool false, .int .u8 0] := rfl
@[simp] theorem ety8 : env.ty 8 = .struct [(0, 1, false), (1, 1, false), (2, 1, false), (3, 1, false)] [.int .i64 0, .int .i64 0, .bool false, .int .u8 0] := rfl
@[simp] theorem ety9 : env.ty 9 = .str := rfl
@[simp] theorem ety10 : env.ty 10 = .str := rfl
@[simp] theorem ety11 : env.ty 11 = .str := rfl
@[simp] theorem ety12 : env.ty 12 = .int .u64 := rfl
@[simp] theorem ety13 : env.ty 13 = .struct [(0, 1, false), (1, 1, false)] [.str ⟨#[]⟩, .int .u64 0] := rfl
@[simp] theorem ety14 : env.ty 14 = .struct [(0, 1, false), (1, 1, false)] [.str ⟨#[]⟩, .int .u64 0] := rfl
@[simp] theorem ety21 : env.ty 21 = .int .i32 := rfl
@[simp] theorem ety22 : env.ty 22 = .slice 40 2 32 [.bool false, .nil] := rfl
@[simp] theorem ety23 : env.ty 23 = .slice 40 2 32 [.bool false, .nil] := rfl
@[simp] theorem ety28 : env.ty 28 = .slice 23 1 24 [.nil] := rfl
@[simp] theorem ety31 : env.ty 31 = .slice 60 4 64 [.nil, .bool false, .nil, .bool false] := rfl
@[simp] theorem ety32 : env.ty 32 = .slice 60 4 64 [.nil, .bool false, .nil, .bool false] := rfl
@[simp] theorem ety36 : env.ty 36 = .slice 3 1 8 [.int .i64 0] := rfl
@[simp] theorem ety38 : env.ty 38 = .slice 78 1 4 [.int .u32 0] := rfl
@[simp] theorem ety39 : env.ty 39 = .struct [(0, 1, false), (1, 1, false)] [.bool false, .nil] := rfl
@[simp] theorem ety40 : env.ty 40 = .struct [(0, 1, false), (1, 1, false)] [.bool false, .nil] := rfl
@[simp] theorem ety41 : env.ty 41 = .struct [(0, 1, false), (1, 1, false), (2, 2, true)] [.nil, .nil, .bool false, .nil] := rfl
@[simp] theorem ety42 : env.ty 42 = .struct [(0, 1, false), (1, 1, false), (2, 2, true)] [.nil, .nil, .bool false, .nil] := rfl
@[simp] theorem ety56 : env.ty 56 = .slice 3 1 8 [.int .i64 0] := rfl
@[simp] theorem ety57 : env.ty 57 = .struct [(0, 1, false), (1, 1, false)] [.nil, .bool false] := rfl
@[simp] theorem ety58 : env.ty 58 = .struct [(0, 1, false), (1, 1, false)] [.nil, .bool false] := rfl
@[simp] theorem ety59 : env.ty 59 = .struct [(0, 2, true), (2, 2, true)] [.nil, .bool false, .nil, .bool false] := rfl
@[simp] theorem ety60 : env.ty 60 = .struct [(0, 2, true), (2, 2, true)] [.nil, .bool false, .nil, .bool false] := rfl
@[simp] theorem ety70 : env.ty 70 = .int .i64 := rfl
@[simp] theorem ety75 : env.ty 75 = .int .u64 := rfl
@[simp] theorem ety78 : env.ty 78 = .int .u32 := rfl
@[simp] theorem ety79 : env.ty 79 = .int .u64 := rfl
@[simp] theorem ety94 : env.ty 94 = .slice 28 1 24 [.nil] := rfl
@[simp] theorem ety135 : env.ty 135 = .int .u8 := rfl
@[simp] theorem ety136 : env.ty 136 = .int .u8 := rfl
@[simp] theorem ety139 : env.ty 139 = .int .i32 := rfl
@[simp] theorem ety140 : env.ty 140 = .int .i32 := rfl
end Go.Proofs.Ytgebobdieekjaaa
