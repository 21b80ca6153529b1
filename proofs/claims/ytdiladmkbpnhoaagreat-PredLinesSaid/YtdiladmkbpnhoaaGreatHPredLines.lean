/- For every input the law PredLines of chapter 14 returns true, and each argument reads afterwards as it read before. No conditions. -/
import Derived.Test.YtdiladmkbpnhoaaGreatRows
import Derived.Test.YtdiladmkbpnhoaaGreatLkd
set_option linter.unusedSimpArgs false
set_option linter.unusedVariables false
namespace Go.Proofs.YtdiladmkbpnhoaaGreat.predLines
open Go Pm Go.ChangeShapes Go.WideShapes Go.ChangeAt Go.RowKit
set_option maxRecDepth 100000 in
theorem lifted (os : Os) (started : os.Started) (H : Type) (enc : TypeId × Value → H) :
    ReturnsInHanded {} Tryz.checked os 4 .any (Rows.predLinesSpec.pre6 enc Tryz.prog Tryz.f4 Rows.predLinesRow.domain false) (Rows.predLinesSpec.post enc Tryz.prog Tryz.f4 false true false false) := by
  refine law_lift (C := Tryz.checked) (Qs := [fun q => ∃ l : List PT, q = sls ptc l ∧ (∀ p ∈ l, p.In) ∧ l.length < 9223372036854775808, fun q => ∃ n : Int, q = .int .i64 n ∧ -9223372036854775808 ≤ n ∧ n < 9223372036854775808, fun q => ∃ n : Int, q = .int .i64 n ∧ -9223372036854775808 ≤ n ∧ n < 9223372036854775808]) (tb := 4) own laidOut started (by kernel_rfl) Tryz.func4
    (ChangeSpec.witness6 (enc := enc) (C := Tryz.checked) false ⟨#[], #[.slice none 0 0, .int .i64 0, .int .i64 0], []⟩ 16 (by kernel_rfl) (by kernel_rfl) (by kernel_rfl) (by kernel_rfl)) rfl ?_ (by kernel_rfl) (by kernel_rfl) ?_ ?_
  · intro ds h
    rw [show Tryz.f4.params.size = 3 by kernel_rfl] at h
    match ds, h with
    | [_, _, _], _ => rfl
  · rw [show Tryz.f4.params.toList = [54, 3, 3] by kernel_rfl]
    exact ⟨arg_Points, by kernel_rfl, of_decide_eq_true (by kernel_rfl), arg_int, by kernel_rfl, of_decide_eq_true (by kernel_rfl), arg_int, by kernel_rfl, of_decide_eq_true (by kernel_rfl), trivial⟩
  · rintro ps h
    obtain ⟨_, _, rfl, ⟨a0, rfl, h0, g0⟩, ⟨_, _, rfl, ⟨a1, rfl, h1⟩, ⟨_, _, rfl, ⟨a2, rfl, h2⟩, rfl⟩⟩⟩ := h
    exact PredLines_ret a0 a1 a2 h0 g0 h1 h2
theorem proved : Rows.PredLinesSaid :=
  OpenClaim.holds_of_wide 4 Tryz.f4 rfl rfl rfl rfl rfl rfl rfl ⟨rfl, rfl, rfl, rfl, rfl⟩ rfl rfl rfl rfl rfl (by kernel_rfl) Tryz.func4 (by kernel_rfl)
    (of_decide_eq_true (by kernel_rfl)) (by unfold Func.isWrapper; first | (rw [if_pos (by decide +kernel)]; kernel_rfl) | (rw [if_neg (by decide +kernel)]; exact ⟨rfl, rfl⟩))
    (fun os started H enc _ => lifted os started H enc)
#print axioms proved
end Go.Proofs.YtdiladmkbpnhoaaGreat.predLines
