/- For every input the law PdivRests of chapter 06 returns true, and each argument reads afterwards as it read before. No conditions. -/
import Derived.Test.YtjnkpfknmncdmaaRows
import Derived.Test.YtjnkpfknmncdmaaLcc
set_option linter.unusedSimpArgs false
set_option linter.unusedVariables false
namespace Go.Proofs.Ytjnkpfknmncdmaa.pdivRests
open Go Pm Go.ChangeShapes Go.WideShapes Go.ChangeAt Go.RowKit
set_option maxRecDepth 100000 in
theorem lifted (os : Os) (started : os.Started) (H : Type) (enc : TypeId × Value → H) :
    ReturnsInHanded {} Try.checked os 9 .any (Rows.pdivRestsSpec.pre6 enc Try.prog Try.f9 Rows.pdivRestsRow.domain false) (Rows.pdivRestsSpec.post enc Try.prog Try.f9 false true false false) := by
  refine law_lift (C := Try.checked) (Qs := [fun q => ∃ p : RP, q = Pg p ∧ InP p, fun q => ∃ p : RP, q = Pg p ∧ InP p]) (tb := 4) own laidOut started (by kernel_rfl) Try.func9
    (ChangeSpec.witness6 (enc := enc) (C := Try.checked) false ⟨#[], #[.slice none 0 0, .slice none 0 0], []⟩ 16 (by kernel_rfl) (by kernel_rfl) (by kernel_rfl) (by kernel_rfl)) rfl ?_ (by kernel_rfl) (by kernel_rfl) ?_ ?_
  · intro ds h
    rw [show Try.f9.params.size = 2 by kernel_rfl] at h
    match ds, h with
    | [_, _], _ => rfl
  · rw [show Try.f9.params.toList = [29, 29] by kernel_rfl]
    exact ⟨arg_Poly, by kernel_rfl, of_decide_eq_true (by kernel_rfl), arg_Poly, by kernel_rfl, of_decide_eq_true (by kernel_rfl), trivial⟩
  · rintro ps h
    obtain ⟨_, _, rfl, ⟨a0, rfl, h0⟩, ⟨_, _, rfl, ⟨a1, rfl, h1⟩, rfl⟩⟩ := h
    exact PdivRests_ret a0 a1 h0 h1
theorem proved : Rows.PdivRestsSaid :=
  OpenClaim.holds_of_wide 9 Try.f9 rfl rfl rfl rfl rfl rfl rfl ⟨rfl, rfl, rfl, rfl, rfl⟩ rfl rfl rfl rfl rfl (by kernel_rfl) Try.func9 (by kernel_rfl)
    (of_decide_eq_true (by kernel_rfl)) (by unfold Func.isWrapper; first | (rw [if_pos (by decide +kernel)]; kernel_rfl) | (rw [if_neg (by decide +kernel)]; exact ⟨rfl, rfl⟩))
    (fun os started H enc _ => lifted os started H enc)
#print axioms proved
end Go.Proofs.Ytjnkpfknmncdmaa.pdivRests
