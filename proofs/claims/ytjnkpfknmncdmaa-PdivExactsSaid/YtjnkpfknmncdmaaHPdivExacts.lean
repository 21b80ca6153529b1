/- For every input the law PdivExacts of chapter 06 returns true, and each argument reads afterwards as it read before. No conditions. -/
import Derived.Test.YtjnkpfknmncdmaaRows
import Derived.Test.YtjnkpfknmncdmaaLcd
set_option linter.unusedSimpArgs false
set_option linter.unusedVariables false
namespace Go.Proofs.Ytjnkpfknmncdmaa.pdivExacts
open Go Pm Go.ChangeShapes Go.WideShapes Go.ChangeAt Go.RowKit
set_option maxRecDepth 100000 in
theorem lifted (os : Os) (started : os.Started) (H : Type) (enc : TypeId × Value → H) :
    ReturnsInHanded {} Try.checked os 11 .any (Rows.pdivExactsSpec.pre6 enc Try.prog Try.f11 Rows.pdivExactsRow.domain false) (Rows.pdivExactsSpec.post enc Try.prog Try.f11 false true false false) := by
  refine law_lift (C := Try.checked) (Qs := [fun q => ∃ p : RP, q = Pg p ∧ InP p, fun q => ∃ p : RP, q = Pg p ∧ InP p, fun q => ∃ b, q = .bool b]) (tb := 4) own laidOut started (by kernel_rfl) Try.func11
    (ChangeSpec.witness6 (enc := enc) (C := Try.checked) false ⟨#[], #[.slice none 0 0, .slice none 0 0, .bool false], []⟩ 16 (by kernel_rfl) (by kernel_rfl) (by kernel_rfl) (by kernel_rfl)) rfl ?_ (by kernel_rfl) (by kernel_rfl) ?_ ?_
  · intro ds h
    rw [show Try.f11.params.size = 3 by kernel_rfl] at h
    match ds, h with
    | [_, _, _], _ => rfl
  · rw [show Try.f11.params.toList = [29, 29, 4] by kernel_rfl]
    exact ⟨arg_Poly, by kernel_rfl, of_decide_eq_true (by kernel_rfl), arg_Poly, by kernel_rfl, of_decide_eq_true (by kernel_rfl), arg_bool, by kernel_rfl, of_decide_eq_true (by kernel_rfl), trivial⟩
  · rintro ps h
    obtain ⟨_, _, rfl, ⟨a0, rfl, h0⟩, ⟨_, _, rfl, ⟨a1, rfl, h1⟩, ⟨_, _, rfl, ⟨a2, rfl⟩, rfl⟩⟩⟩ := h
    exact PdivExacts_ret a0 a1 a2 h0 h1
theorem proved : Rows.PdivExactsSaid :=
  OpenClaim.holds_of_wide 11 Try.f11 rfl rfl rfl rfl rfl rfl rfl ⟨rfl, rfl, rfl, rfl, rfl⟩ rfl rfl rfl rfl rfl (by kernel_rfl) Try.func11 (by kernel_rfl)
    (of_decide_eq_true (by kernel_rfl)) (by unfold Func.isWrapper; first | (rw [if_pos (by decide +kernel)]; kernel_rfl) | (rw [if_neg (by decide +kernel)]; exact ⟨rfl, rfl⟩))
    (fun os started H enc _ => lifted os started H enc)
#print axioms proved
end Go.Proofs.Ytjnkpfknmncdmaa.pdivExacts
