/- For every input the law DetLaws of chapter 13 returns true, and each argument reads afterwards as it read before. No conditions. -/
import Derived.Test.YtjnkpfknmncdmaaRows
import Derived.Test.YtjnkpfknmncdmaaLag
set_option linter.unusedSimpArgs false
set_option linter.unusedVariables false
namespace Go.Proofs.Ytjnkpfknmncdmaa.detLaws
open Go Pm Go.ChangeShapes Go.WideShapes Go.ChangeAt Go.RowKit
theorem arg_Polys : OpnA Try.prog 22 (fun q => ∃ l : List RP, q = sls pe l ∧ (∀ p ∈ l, InP p) ∧ l.length < 9223372036854775808) :=
  (OpnA.slice (e := 29) (by kernel_rfl) (by rw [show Try.prog.cellsOf 29 = 1 by kernel_rfl]; decide) opn_Poly).mono fun q ⟨l, h1, h2, h3⟩ => by
    obtain ⟨m, rfl, hm⟩ := maps (g := pe) (Q := InP) (fun ps h => h) h2
    exact ⟨m, h1, hm, by rw [List.length_map] at h3; simp only [maxLen] at h3; omega⟩
set_option maxRecDepth 100000 in
theorem lifted (os : Os) (started : os.Started) (H : Type) (enc : TypeId × Value → H) :
    ReturnsInHanded {} Try.checked os 6 .any (Rows.detLawsSpec.pre6 enc Try.prog Try.f6 Rows.detLawsRow.domain false) (Rows.detLawsSpec.post enc Try.prog Try.f6 false true false false) := by
  refine law_lift (C := Try.checked) (Qs := [fun q => ∃ l : List RP, q = sls pe l ∧ (∀ p ∈ l, InP p) ∧ l.length < 9223372036854775808, fun q => ∃ n : Int, q = .int .i64 n ∧ -9223372036854775808 ≤ n ∧ n < 9223372036854775808, fun q => ∃ n : Int, q = .int .i64 n ∧ -9223372036854775808 ≤ n ∧ n < 9223372036854775808, fun q => ∃ n : Int, q = .int .i64 n ∧ -9223372036854775808 ≤ n ∧ n < 9223372036854775808, fun q => ∃ p : RP, q = Pg p ∧ InP p]) (tb := 4) own laidOut started (by kernel_rfl) Try.func6
    (ChangeSpec.witness6 (enc := enc) (C := Try.checked) false ⟨#[], #[.slice none 0 0, .int .i64 0, .int .i64 0, .int .i64 0, .slice none 0 0], []⟩ 16 (by kernel_rfl) (by kernel_rfl) (by kernel_rfl) (by kernel_rfl)) rfl ?_ (by kernel_rfl) (by kernel_rfl) ?_ ?_
  · intro ds h
    rw [show Try.f6.params.size = 5 by kernel_rfl] at h
    match ds, h with
    | [_, _, _, _, _], _ => rfl
  · rw [show Try.f6.params.toList = [22, 3, 3, 3, 29] by kernel_rfl]
    exact ⟨arg_Polys, by kernel_rfl, of_decide_eq_true (by kernel_rfl), arg_int, by kernel_rfl, of_decide_eq_true (by kernel_rfl), arg_int, by kernel_rfl, of_decide_eq_true (by kernel_rfl), arg_int, by kernel_rfl, of_decide_eq_true (by kernel_rfl), arg_Poly, by kernel_rfl, of_decide_eq_true (by kernel_rfl), trivial⟩
  · rintro ps h
    obtain ⟨_, _, rfl, ⟨a0, rfl, h0, g0⟩, ⟨_, _, rfl, ⟨a1, rfl, h1⟩, ⟨_, _, rfl, ⟨a2, rfl, h2⟩, ⟨_, _, rfl, ⟨a3, rfl, h3⟩, ⟨_, _, rfl, ⟨a4, rfl, h4⟩, rfl⟩⟩⟩⟩⟩ := h
    exact DetLaws_ret a0 a1 a2 a3 a4 h0 g0 h1 h2 h3 h4
theorem proved : Rows.DetLawsSaid :=
  OpenClaim.holds_of_wide 6 Try.f6 rfl rfl rfl rfl rfl rfl rfl ⟨rfl, rfl, rfl, rfl, rfl⟩ rfl rfl rfl rfl rfl (by kernel_rfl) Try.func6 (by kernel_rfl)
    (of_decide_eq_true (by kernel_rfl)) (by unfold Func.isWrapper; first | (rw [if_pos (by decide +kernel)]; kernel_rfl) | (rw [if_neg (by decide +kernel)]; exact ⟨rfl, rfl⟩))
    (fun os started H enc _ => lifted os started H enc)
#print axioms proved
end Go.Proofs.Ytjnkpfknmncdmaa.detLaws
