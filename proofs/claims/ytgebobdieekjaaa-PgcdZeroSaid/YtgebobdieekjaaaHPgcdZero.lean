/- For every input the law PgcdZero of chapter 07 returns true, and each argument reads afterwards as it read before. No conditions. -/
import Derived.Test.YtgebobdieekjaaaRows
import Derived.Test.YtgebobdieekjaaaLeq
set_option linter.unusedSimpArgs false
set_option linter.unusedVariables false
namespace Go.Proofs.Ytgebobdieekjaaa.pgcdZero
open Go Pm Go.ChangeShapes Go.WideShapes Go.ChangeAt Go.RowKit
set_option maxRecDepth 100000 in
theorem lifted (os : Os) (started : os.Started) (H : Type) (enc : TypeId × Value → H) :
    ReturnsInHanded {} Try.checked os 3 .any (Rows.pgcdZeroSpec.pre6 enc Try.prog Try.f3 Rows.pgcdZeroRow.domain false) (Rows.pgcdZeroSpec.post enc Try.prog Try.f3 false true false false) := by
  refine law_lift (C := Try.checked) (Qs := [fun q => ∃ n : Int, q = .int .i64 n ∧ -9223372036854775808 ≤ n ∧ n < 9223372036854775808]) (tb := 4) own laidOut started (by kernel_rfl) Try.func3
    (ChangeSpec.witness6 (enc := enc) (C := Try.checked) false ⟨#[], #[.int .i64 0], []⟩ 16 (by kernel_rfl) (by kernel_rfl) (by kernel_rfl) (by kernel_rfl)) rfl ?_ (by kernel_rfl) (by kernel_rfl) ?_ ?_
  · intro ds h
    rw [show Try.f3.params.size = 1 by kernel_rfl] at h
    match ds, h with
    | [_], _ => rfl
  · rw [show Try.f3.params.toList = [3] by kernel_rfl]
    exact ⟨arg_int, by kernel_rfl, of_decide_eq_true (by kernel_rfl), trivial⟩
  · rintro ps h
    obtain ⟨_, _, rfl, ⟨a0, rfl, h0⟩, rfl⟩ := h
    exact PgcdZero_ret a0 h0
theorem proved : Rows.PgcdZeroSaid :=
  OpenClaim.holds_of_wide 3 Try.f3 rfl rfl rfl rfl rfl rfl rfl ⟨rfl, rfl, rfl, rfl, rfl⟩ rfl rfl rfl rfl rfl (by kernel_rfl) Try.func3 (by kernel_rfl)
    (of_decide_eq_true (by kernel_rfl)) (by unfold Func.isWrapper; first | (rw [if_pos (by decide +kernel)]; kernel_rfl) | (rw [if_neg (by decide +kernel)]; exact ⟨rfl, rfl⟩))
    (fun os started H enc _ => lifted os started H enc)
#print axioms proved
end Go.Proofs.Ytgebobdieekjaaa.pgcdZero
