/- For every input the law IsolateRaw of chapter 09 returns true, and each argument reads afterwards as it read before. No conditions. -/
import Derived.Test.YtbbjgncblhfegaaGreatRows
import Derived.Test.YtbbjgncblhfegaaGreatPas
set_option linter.unusedSimpArgs false
set_option linter.unusedVariables false
set_option linter.unusedSimpArgs false
set_option linter.unusedVariables false
namespace Go.Proofs.YtbbjgncblhfegaaGreat.isolateRaw
open Go Pm Go.ChangeShapes Go.WideShapes Go.ChangeAt Go.RowKit
set_option maxRecDepth 100000 in
theorem lifted (os : Os) (started : os.Started) (H : Type) (enc : TypeId × Value → H) :
    ReturnsInHanded {} Tryz.checked os 4 .any (Rows.isolateRawSpec.pre6 enc Tryz.prog Tryz.f4 Rows.isolateRawRow.domain false) (Rows.isolateRawSpec.post enc Tryz.prog Tryz.f4 false true false false) := by
  refine zJ (C := Tryz.checked) (Qs := [fun q => ∃ p : RP, q = Pg p ∧ InP p]) (tb := 4) own laidOut started (by kernel_rfl) Tryz.func4
    (ChangeSpec.witness6 (enc := enc) (C := Tryz.checked) false ⟨#[], #[.slice none 0 0], []⟩ 16 (by kernel_rfl) (by kernel_rfl) (by kernel_rfl) (by kernel_rfl)) rfl ?_ (by kernel_rfl) (by kernel_rfl) ?_ ?_
  · intro ds h
    rw [show Tryz.f4.params.size = 1 by kernel_rfl] at h
    match ds, h with
    | [_], _ => rfl
  · rw [show Tryz.f4.params.toList = [31] by kernel_rfl]
    exact ⟨JI, by kernel_rfl, of_decide_eq_true (by kernel_rfl), trivial⟩
  · rintro ps h
    obtain ⟨_, _, rfl, ⟨a0, rfl, h0⟩, rfl⟩ := h
    exact BE a0 h0
theorem z1 : (Rows.isolateRawRow.inPlace == Tryz.pinned.checked.prog.inPlace 4) = true := by kernel_rfl
theorem z2 : (Rows.isolateRawRow.unfollowed == Tryz.pinned.checked.prog.unfollowed 4) = true := by kernel_rfl
theorem z3 : (Rows.isolateRawRow.recurses == Tryz.pinned.checked.prog.recurses 4) = true := by kernel_rfl
theorem z4 : (Rows.isolateRawRow.named == Tryz.pinned.checked.prog.varsNamed 4) = true := by kernel_rfl
theorem closed : joinedFacts Tryz.pinned.checked.prog 4 Tryz.f4 Rows.isolateRawSpec Rows.isolateRawRow = true := by
  unfold joinedFacts
  rw [z1, z2, z3, z4]
  kernel_rfl
theorem proved : Rows.IsolateRawSaid :=
  OpenClaim.holds_of_wide 4 Tryz.f4 rfl rfl rfl rfl rfl rfl rfl ⟨rfl, rfl, rfl, rfl, rfl⟩ rfl rfl rfl rfl rfl (by kernel_rfl) Tryz.func4 closed
    (of_decide_eq_true (by kernel_rfl)) (by unfold Func.isWrapper; first | (rw [if_pos (by decide +kernel)]; kernel_rfl) | (rw [if_neg (by decide +kernel)]; exact ⟨rfl, rfl⟩))
    (fun os started H enc _ => lifted os started H enc)
#print axioms proved
end Go.Proofs.YtbbjgncblhfegaaGreat.isolateRaw
