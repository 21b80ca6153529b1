/- The types of the seat, as the pure machine wants them: closed facts, each by the kernel. -/
import Derived.Test.YtjnkpfknmncdmaaProg
import Derived.Test.YtjnkpfknmncdmaaMd
import Derived.KernelRfl
namespace Go.Proofs.Ytjnkpfknmncdmaa
open Go Pm
def ti2 : TI := .int .i64
theorem tyOK2 : TyOK Try.prog 2 ti2 := ⟨by kernel_rfl, (zeroOK_of (v := .int .i64 0) (by kernel_rfl) rfl (by kernel_rfl) rfl (by decide))⟩
def ti3 : TI := .int .i64
theorem tyOK3 : TyOK Try.prog 3 ti3 := ⟨by kernel_rfl, (zeroOK_of (v := .int .i64 0) (by kernel_rfl) rfl (by kernel_rfl) rfl (by decide))⟩
def ti4 : TI := .bool
theorem tyOK4 : TyOK Try.prog 4 ti4 := ⟨by kernel_rfl, (zeroOK_of (v := .bool false) (by kernel_rfl) rfl (by kernel_rfl) rfl (by decide))⟩
def ti5 : TI := .int .u8
theorem tyOK5 : TyOK Try.prog 5 ti5 := ⟨by kernel_rfl, (zeroOK_of (v := .int .u8 0) (by kernel_rfl) rfl (by kernel_rfl) rfl (by decide))⟩
def ti6 : TI := .int .u8
theorem tyOK6 : TyOK Try.prog 6 ti6 := ⟨by kernel_rfl, (zeroOK_of (v := .int .u8 0) (by kernel_rfl) rfl (by kernel_rfl) rfl (by decide))⟩
def ti7 : TI := .struct [(0, 1, false), (1, 1, false), (2, 1, false), (3, 1, false)] [.int .i64 0, .int .i64 0, .bool false, .int .u8 0]
theorem tyOK7 : TyOK Try.prog 7 ti7 := ⟨structOK_of (by kernel_rfl), (zeroOK_of (v := .agg #[.int .i64 0, .int .i64 0, .bool false, .int .u8 0]) (by kernel_rfl) rfl (by kernel_rfl) rfl (by decide))⟩
def ti8 : TI := .struct [(0, 1, false), (1, 1, false), (2, 1, false), (3, 1, false)] [.int .i64 0, .int .i64 0, .bool false, .int .u8 0]
theorem tyOK8 : TyOK Try.prog 8 ti8 := ⟨structOK_of (by kernel_rfl), (zeroOK_of (v := .agg #[.int .i64 0, .int .i64 0, .bool false, .int .u8 0]) (by kernel_rfl) rfl (by kernel_rfl) rfl (by decide))⟩
def ti9 : TI := .str
theorem tyOK9 : TyOK Try.prog 9 ti9 := ⟨by kernel_rfl, (zeroOK_of (v := .string ⟨#[]⟩) (by kernel_rfl) rfl (by kernel_rfl) rfl (by decide))⟩
def ti10 : TI := .str
theorem tyOK10 : TyOK Try.prog 10 ti10 := ⟨by kernel_rfl, (zeroOK_of (v := .string ⟨#[]⟩) (by kernel_rfl) rfl (by kernel_rfl) rfl (by decide))⟩
def ti11 : TI := .str
theorem tyOK11 : TyOK Try.prog 11 ti11 := ⟨by kernel_rfl, (zeroOK_of (v := .string ⟨#[]⟩) (by kernel_rfl) rfl (by kernel_rfl) rfl (by decide))⟩
def ti12 : TI := .int .u64
theorem tyOK12 : TyOK Try.prog 12 ti12 := ⟨by kernel_rfl, (zeroOK_of (v := .int .u64 0) (by kernel_rfl) rfl (by kernel_rfl) rfl (by decide))⟩
def ti13 : TI := .struct [(0, 1, false), (1, 1, false)] [.str ⟨#[]⟩, .int .u64 0]
theorem tyOK13 : TyOK Try.prog 13 ti13 := ⟨structOK_of (by kernel_rfl), (zeroOK_of (v := .agg #[.string ⟨#[]⟩, .int .u64 0]) (by kernel_rfl) rfl (by kernel_rfl) rfl (by decide))⟩
def ti14 : TI := .struct [(0, 1, false), (1, 1, false)] [.str ⟨#[]⟩, .int .u64 0]
theorem tyOK14 : TyOK Try.prog 14 ti14 := ⟨structOK_of (by kernel_rfl), (zeroOK_of (v := .agg #[.string ⟨#[]⟩, .int .u64 0]) (by kernel_rfl) rfl (by kernel_rfl) rfl (by decide))⟩
def ti21 : TI := .int .i32
theorem tyOK21 : TyOK Try.prog 21 ti21 := ⟨by kernel_rfl, (zeroOK_of (v := .int .i32 0) (by kernel_rfl) rfl (by kernel_rfl) rfl (by decide))⟩
def ti22 : TI := .slice 29 1 24 [.nil]
theorem tyOK22 : TyOK Try.prog 22 ti22 := ⟨by kernel_rfl, (zeroOK_of (v := .slice none 0 0) (by kernel_rfl) rfl (by kernel_rfl) rfl (by decide)), (zeroOK_of (v := .slice none 0 0) (by kernel_rfl) rfl (by kernel_rfl) rfl (by decide)), bytesOK_of (by kernel_rfl)⟩
def ti24 : TI := .slice 22 1 24 [.nil]
theorem tyOK24 : TyOK Try.prog 24 ti24 := ⟨by kernel_rfl, (zeroOK_of (v := .slice none 0 0) (by kernel_rfl) rfl (by kernel_rfl) rfl (by decide)), (zeroOK_of (v := .slice none 0 0) (by kernel_rfl) rfl (by kernel_rfl) rfl (by decide)), bytesOK_of (by kernel_rfl)⟩
def ti25 : TI := .slice 42 1 24 [.nil]
theorem tyOK25 : TyOK Try.prog 25 ti25 := ⟨by kernel_rfl, (zeroOK_of (v := .slice none 0 0) (by kernel_rfl) rfl (by kernel_rfl) rfl (by decide)), (zeroOK_of (v := .slice none 0 0) (by kernel_rfl) rfl (by kernel_rfl) rfl (by decide)), bytesOK_of (by kernel_rfl)⟩
def ti28 : TI := .slice 68 2 32 [.bool false, .nil]
theorem tyOK28 : TyOK Try.prog 28 ti28 := ⟨by kernel_rfl, (zeroOK_of (v := .slice none 0 0) (by kernel_rfl) rfl (by kernel_rfl) rfl (by decide)), (zeroOK_of (v := .agg #[.bool false, .slice none 0 0]) (by kernel_rfl) rfl (by kernel_rfl) rfl (by decide)), bytesOK_of (by kernel_rfl)⟩
def ti29 : TI := .slice 68 2 32 [.bool false, .nil]
theorem tyOK29 : TyOK Try.prog 29 ti29 := ⟨by kernel_rfl, (zeroOK_of (v := .slice none 0 0) (by kernel_rfl) rfl (by kernel_rfl) rfl (by decide)), (zeroOK_of (v := .agg #[.bool false, .slice none 0 0]) (by kernel_rfl) rfl (by kernel_rfl) rfl (by decide)), bytesOK_of (by kernel_rfl)⟩
def ti30 : TI := .int .i64
theorem tyOK30 : TyOK Try.prog 30 ti30 := ⟨by kernel_rfl, (zeroOK_of (v := .int .i64 0) (by kernel_rfl) rfl (by kernel_rfl) rfl (by decide))⟩
def ti35 : TI := .slice 61 4 64 [.nil, .bool false, .nil, .bool false]
theorem tyOK35 : TyOK Try.prog 35 ti35 := ⟨by kernel_rfl, (zeroOK_of (v := .slice none 0 0) (by kernel_rfl) rfl (by kernel_rfl) rfl (by decide)), (zeroOK_of (v := .agg #[.slice none 0 0, .bool false, .slice none 0 0, .bool false]) (by kernel_rfl) rfl (by kernel_rfl) rfl (by decide)), bytesOK_of (by kernel_rfl)⟩
def ti36 : TI := .slice 61 4 64 [.nil, .bool false, .nil, .bool false]
theorem tyOK36 : TyOK Try.prog 36 ti36 := ⟨by kernel_rfl, (zeroOK_of (v := .slice none 0 0) (by kernel_rfl) rfl (by kernel_rfl) rfl (by decide)), (zeroOK_of (v := .agg #[.slice none 0 0, .bool false, .slice none 0 0, .bool false]) (by kernel_rfl) rfl (by kernel_rfl) rfl (by decide)), bytesOK_of (by kernel_rfl)⟩
def ti42 : TI := .slice 36 1 24 [.nil]
theorem tyOK42 : TyOK Try.prog 42 ti42 := ⟨by kernel_rfl, (zeroOK_of (v := .slice none 0 0) (by kernel_rfl) rfl (by kernel_rfl) rfl (by decide)), (zeroOK_of (v := .slice none 0 0) (by kernel_rfl) rfl (by kernel_rfl) rfl (by decide)), bytesOK_of (by kernel_rfl)⟩
def ti56 : TI := .slice 3 1 8 [.int .i64 0]
theorem tyOK56 : TyOK Try.prog 56 ti56 := ⟨by kernel_rfl, (zeroOK_of (v := .slice none 0 0) (by kernel_rfl) rfl (by kernel_rfl) rfl (by decide)), (zeroOK_of (v := .int .i64 0) (by kernel_rfl) rfl (by kernel_rfl) rfl (by decide)), bytesOK_of (by kernel_rfl)⟩
def ti57 : TI := .slice 3 1 8 [.int .i64 0]
theorem tyOK57 : TyOK Try.prog 57 ti57 := ⟨by kernel_rfl, (zeroOK_of (v := .slice none 0 0) (by kernel_rfl) rfl (by kernel_rfl) rfl (by decide)), (zeroOK_of (v := .int .i64 0) (by kernel_rfl) rfl (by kernel_rfl) rfl (by decide)), bytesOK_of (by kernel_rfl)⟩
def ti58 : TI := .struct [(0, 1, false), (1, 1, false)] [.nil, .bool false]
theorem tyOK58 : TyOK Try.prog 58 ti58 := ⟨structOK_of (by kernel_rfl), (zeroOK_of (v := .agg #[.slice none 0 0, .bool false]) (by kernel_rfl) rfl (by kernel_rfl) rfl (by decide))⟩
def ti59 : TI := .struct [(0, 1, false), (1, 1, false)] [.nil, .bool false]
theorem tyOK59 : TyOK Try.prog 59 ti59 := ⟨structOK_of (by kernel_rfl), (zeroOK_of (v := .agg #[.slice none 0 0, .bool false]) (by kernel_rfl) rfl (by kernel_rfl) rfl (by decide))⟩
def ti60 : TI := .struct [(0, 2, true), (2, 2, true)] [.nil, .bool false, .nil, .bool false]
theorem tyOK60 : TyOK Try.prog 60 ti60 := ⟨structOK_of (by kernel_rfl), (zeroOK_of (v := .agg #[.slice none 0 0, .bool false, .slice none 0 0, .bool false]) (by kernel_rfl) rfl (by kernel_rfl) rfl (by decide))⟩
def ti61 : TI := .struct [(0, 2, true), (2, 2, true)] [.nil, .bool false, .nil, .bool false]
theorem tyOK61 : TyOK Try.prog 61 ti61 := ⟨structOK_of (by kernel_rfl), (zeroOK_of (v := .agg #[.slice none 0 0, .bool false, .slice none 0 0, .bool false]) (by kernel_rfl) rfl (by kernel_rfl) rfl (by decide))⟩
def ti66 : TI := .slice 115 1 4 [.int .u32 0]
theorem tyOK66 : TyOK Try.prog 66 ti66 := ⟨by kernel_rfl, (zeroOK_of (v := .slice none 0 0) (by kernel_rfl) rfl (by kernel_rfl) rfl (by decide)), (zeroOK_of (v := .int .u32 0) (by kernel_rfl) rfl (by kernel_rfl) rfl (by decide)), bytesOK_of (by kernel_rfl)⟩
def ti67 : TI := .struct [(0, 1, false), (1, 1, false)] [.bool false, .nil]
theorem tyOK67 : TyOK Try.prog 67 ti67 := ⟨structOK_of (by kernel_rfl), (zeroOK_of (v := .agg #[.bool false, .slice none 0 0]) (by kernel_rfl) rfl (by kernel_rfl) rfl (by decide))⟩
def ti68 : TI := .struct [(0, 1, false), (1, 1, false)] [.bool false, .nil]
theorem tyOK68 : TyOK Try.prog 68 ti68 := ⟨structOK_of (by kernel_rfl), (zeroOK_of (v := .agg #[.bool false, .slice none 0 0]) (by kernel_rfl) rfl (by kernel_rfl) rfl (by decide))⟩
def ti115 : TI := .int .u32
theorem tyOK115 : TyOK Try.prog 115 ti115 := ⟨by kernel_rfl, (zeroOK_of (v := .int .u32 0) (by kernel_rfl) rfl (by kernel_rfl) rfl (by decide))⟩
def ti122 : TI := .int .u64
theorem tyOK122 : TyOK Try.prog 122 ti122 := ⟨by kernel_rfl, (zeroOK_of (v := .int .u64 0) (by kernel_rfl) rfl (by kernel_rfl) rfl (by decide))⟩
def ti125 : TI := .int .u64
theorem tyOK125 : TyOK Try.prog 125 ti125 := ⟨by kernel_rfl, (zeroOK_of (v := .int .u64 0) (by kernel_rfl) rfl (by kernel_rfl) rfl (by decide))⟩
def ti153 : TI := .int .u8
theorem tyOK153 : TyOK Try.prog 153 ti153 := ⟨by kernel_rfl, (zeroOK_of (v := .int .u8 0) (by kernel_rfl) rfl (by kernel_rfl) rfl (by decide))⟩
def ti154 : TI := .int .u8
theorem tyOK154 : TyOK Try.prog 154 ti154 := ⟨by kernel_rfl, (zeroOK_of (v := .int .u8 0) (by kernel_rfl) rfl (by kernel_rfl) rfl (by decide))⟩
def ti157 : TI := .int .i32
theorem tyOK157 : TyOK Try.prog 157 ti157 := ⟨by kernel_rfl, (zeroOK_of (v := .int .i32 0) (by kernel_rfl) rfl (by kernel_rfl) rfl (by decide))⟩
def ti158 : TI := .int .i32
theorem tyOK158 : TyOK Try.prog 158 ti158 := ⟨by kernel_rfl, (zeroOK_of (v := .int .i32 0) (by kernel_rfl) rfl (by kernel_rfl) rfl (by decide))⟩
def tyF : TypeId → TI
  | 2 => ti2
  | 3 => ti3
  | 4 => ti4
  | 5 => ti5
  | 6 => ti6
  | 7 => ti7
  | 8 => ti8
  | 9 => ti9
  | 10 => ti10
  | 11 => ti11
  | 12 => ti12
  | 13 => ti13
  | 14 => ti14
  | 21 => ti21
  | 22 => ti22
  | 24 => ti24
  | 25 => ti25
  | 28 => ti28
  | 29 => ti29
  | 30 => ti30
  | 35 => ti35
  | 36 => ti36
  | 42 => ti42
  | 56 => ti56
  | 57 => ti57
  | 58 => ti58
  | 59 => ti59
  | 60 => ti60
  | 61 => ti61
  | 66 => ti66
  | 67 => ti67
  | 68 => ti68
  | 115 => ti115
  | 122 => ti122
  | 125 => ti125
  | 153 => ti153
  | 154 => ti154
  | 157 => ti157
  | 158 => ti158
  | _ => .other
theorem tyOK (t : TypeId) : TyOK Try.prog t (tyF t) := by
  unfold tyF
  split
  · exact tyOK2
  · exact tyOK3
  · exact tyOK4
  · exact tyOK5
  · exact tyOK6
  · exact tyOK7
  · exact tyOK8
  · exact tyOK9
  · exact tyOK10
  · exact tyOK11
  · exact tyOK12
  · exact tyOK13
  · exact tyOK14
  · exact tyOK21
  · exact tyOK22
  · exact tyOK24
  · exact tyOK25
  · exact tyOK28
  · exact tyOK29
  · exact tyOK30
  · exact tyOK35
  · exact tyOK36
  · exact tyOK42
  · exact tyOK56
  · exact tyOK57
  · exact tyOK58
  · exact tyOK59
  · exact tyOK60
  · exact tyOK61
  · exact tyOK66
  · exact tyOK67
  · exact tyOK68
  · exact tyOK115
  · exact tyOK122
  · exact tyOK125
  · exact tyOK153
  · exact tyOK154
  · exact tyOK157
  · exact tyOK158
  · trivial
theorem mixedOK : Try.prog.follows .mixedOrders = true := by kernel_rfl
def mutF (g : FuncId) : Bool := g == 25 || g == 126 || g == 127
noncomputable def env : Env := ⟨Try.prog, tyF, tyOK, mixedOK, mutF⟩
@[simp] theorem env_mut : env.writes = mutF := rfl
attribute [simp] mutF
@[simp] theorem ety2 : env.ty 2 = .int .i64 := rfl
@[simp] theorem ety3 : env.ty 3 = .int .i64 := rfl
@[simp] theorem ety4 : env.ty 4 = .bool := rfl
@[simp] theorem ety5 : env.ty 5 = .int .u8 := rfl
@[simp] theorem ety6 : env.ty 6 = .int .u8 := rfl
@[simp] theorem ety7 : env.ty 7 = .struct [(0, 1, false), (1, 1, false), (2, 1, false), (3, 1, false)] [.int .i64 0, .int .i64 0, .bool false, .int .u8 0] := rfl
@[simp] theorem ety8 : env.ty 8 = .struct [(0, 1, false), (1, 1, false), (2, 1, false), (3, 1, false)] [.int .i64 0, .int .i64 0, .bool false, .int .u8 0] := rfl
@[simp] theorem ety9 : env.ty 9 = .str := rfl
@[simp] theorem ety10 : env.ty 10 = .str := rfl
@[simp] theorem ety11 : env.ty 11 = .str := rfl
@[simp] theorem ety12 : env.ty 12 = .int .u64 := rfl
@[simp] theorem ety13 : env.ty 13 = .struct [(0, 1, false), (1, 1, false)] [.str ⟨#[]⟩, .int .u64 0] := rfl
@[simp] theorem ety14 : env.ty 14 = .struct [(0, 1, false), (1, 1, false)] [.str ⟨#[]⟩, .int .u64 0] := rfl
@[simp] theorem ety21 : env.ty 21 = .int .i32 := rfl
@[simp] theorem ety22 : env.ty 22 = .slice 29 1 24 [.nil] := rfl
@[simp] theorem ety24 : env.ty 24 = .slice 22 1 24 [.nil] := rfl
@[simp] theorem ety25 : env.ty 25 = .slice 42 1 24 [.nil] := rfl
@[simp] theorem ety28 : env.ty 28 = .slice 68 2 32 [.bool false, .nil] := rfl
@[simp] theorem ety29 : env.ty 29 = .slice 68 2 32 [.bool false, .nil] := rfl
@[simp] theorem ety30 : env.ty 30 = .int .i64 := rfl
@[simp] theorem ety35 : env.ty 35 = .slice 61 4 64 [.nil, .bool false, .nil, .bool false] := rfl
@[simp] theorem ety36 : env.ty 36 = .slice 61 4 64 [.nil, .bool false, .nil, .bool false] := rfl
@[simp] theorem ety42 : env.ty 42 = .slice 36 1 24 [.nil] := rfl
@[simp] theorem ety56 : env.ty 56 = .slice 3 1 8 [.int .i64 0] := rfl
@[simp] theorem ety57 : env.ty 57 = .slice 3 1 8 [.int .i64 0] := rfl
@[simp] theorem ety58 : env.ty 58 = .struct [(0, 1, false), (1, 1, false)] [.nil, .bool false] := rfl
@[simp] theorem ety59 : env.ty 59 = .struct [(0, 1, false), (1, 1, false)] [.nil, .bool false] := rfl
@[simp] theorem ety60 : env.ty 60 = .struct [(0, 2, true), (2, 2, true)] [.nil, .bool false, .nil, .bool false] := rfl
@[simp] theorem ety61 : env.ty 61 = .struct [(0, 2, true), (2, 2, true)] [.nil, .bool false, .nil, .bool false] := rfl
@[simp] theorem ety66 : env.ty 66 = .slice 115 1 4 [.int .u32 0] := rfl
@[simp] theorem ety67 : env.ty 67 = .struct [(0, 1, false), (1, 1, false)] [.bool false, .nil] := rfl
@[simp] theorem ety68 : env.ty 68 = .struct [(0, 1, false), (1, 1, false)] [.bool false, .nil] := rfl
@[simp] theorem ety115 : env.ty 115 = .int .u32 := rfl
@[simp] theorem ety122 : env.ty 122 = .int .u64 := rfl
@[simp] theorem ety125 : env.ty 125 = .int .u64 := rfl
@[simp] theorem ety153 : env.ty 153 = .int .u8 := rfl
@[simp] theorem ety154 : env.ty 154 = .int .u8 := rfl
@[simp] theorem ety157 : env.ty 157 = .int .i32 := rfl
@[simp] theorem ety158 : env.ty 158 = .int .i32 := rfl
end Go.Proofs.Ytjnkpfknmncdmaa
