/- For every input the law SturmBounds of chapter 08 returns true, and each argument reads afterwards as it read before. No conditions. -/
import Derived.Test.YtdiladmkbpnhoaaGreatRows
import Derived.Test.YtdiladmkbpnhoaaGreatLgx
set_option linter.unusedSimpArgs false
set_option linter.unusedVariables false
namespace Go.Proofs.YtdiladmkbpnhoaaGreat.sturmBounds
open Go Pm Go.ChangeShapes Go.WideShapes Go.ChangeAt Go.RowKit
theorem opn_i64 : Opn Tryz.prog 3 (fun ps => ∃ n : Int, ps = i64e n ∧ -9223372036854775808 ≤ n ∧ n < 9223372036854775808) :=
  (Opn.int .i64 (by kernel_rfl)).mono fun ps ⟨n, h1, h2, h3⟩ => ⟨n, h1, by simpa [IntKind.min, IntKind.signed, IntKind.bits] using h2, by simp [IntKind.max, IntKind.signed, IntKind.bits] at h3; omega⟩
theorem arg_Ints : OpnA Tryz.prog 38 (fun q => ∃ l : List Int, q = sls i64e l ∧ (∀ x ∈ l, -9223372036854775808 ≤ x ∧ x < 9223372036854775808) ∧ l.length < 9223372036854775808) :=
  (OpnA.slice (e := 3) (by kernel_rfl) (by rw [show Tryz.prog.cellsOf 3 = 1 by kernel_rfl]; decide) opn_i64).mono fun q ⟨l, h1, h2, h3⟩ => by
    obtain ⟨m, rfl, hm⟩ := maps (g := i64e) (Q := fun n => -9223372036854775808 ≤ n ∧ n < 9223372036854775808) (fun ps h => h) h2
    exact ⟨m, h1, hm, by rw [List.length_map] at h3; simp only [maxLen] at h3; omega⟩
set_option maxRecDepth 100000 in
theorem lifted (os : Os) (started : os.Started) (H : Type) (enc : TypeId × Value → H) :
    ReturnsInHanded {} Tryz.checked os 9 .any (Rows.sturmBoundsSpec.pre6 enc Tryz.prog Tryz.f9 Rows.sturmBoundsRow.domain false) (Rows.sturmBoundsSpec.post enc Tryz.prog Tryz.f9 false true false false) := by
  refine law_lift (C := Tryz.checked) (Qs := [fun q => ∃ p : RP, q = Pg p ∧ InP p, fun q => ∃ l : List Int, q = sls i64e l ∧ (∀ x ∈ l, -9223372036854775808 ≤ x ∧ x < 9223372036854775808) ∧ l.length < 9223372036854775808]) (tb := 4) own laidOut started (by kernel_rfl) Tryz.func9
    (ChangeSpec.witness6 (enc := enc) (C := Tryz.checked) false ⟨#[], #[.slice none 0 0, .slice none 0 0], []⟩ 16 (by kernel_rfl) (by kernel_rfl) (by kernel_rfl) (by kernel_rfl)) rfl ?_ (by kernel_rfl) (by kernel_rfl) ?_ ?_
  · intro ds h
    rw [show Tryz.f9.params.size = 2 by kernel_rfl] at h
    match ds, h with
    | [_, _], _ => rfl
  · rw [show Tryz.f9.params.toList = [24, 38] by kernel_rfl]
    exact ⟨arg_Poly, by kernel_rfl, of_decide_eq_true (by kernel_rfl), arg_Ints, by kernel_rfl, of_decide_eq_true (by kernel_rfl), trivial⟩
  · rintro ps h
    obtain ⟨_, _, rfl, ⟨a0, rfl, h0⟩, ⟨_, _, rfl, ⟨a1, rfl, h1, g1⟩, rfl⟩⟩ := h
    exact SturmBounds_ret a0 a1 h0 h1 g1
theorem proved : Rows.SturmBoundsSaid :=
  OpenClaim.holds_of_wide 9 Tryz.f9 rfl rfl rfl rfl rfl rfl rfl ⟨rfl, rfl, rfl, rfl, rfl⟩ rfl rfl rfl rfl rfl (by kernel_rfl) Tryz.func9 (by kernel_rfl)
    (of_decide_eq_true (by kernel_rfl)) (by unfold Func.isWrapper; first | (rw [if_pos (by decide +kernel)]; kernel_rfl) | (rw [if_neg (by decide +kernel)]; exact ⟨rfl, rfl⟩))
    (fun os started H enc _ => lifted os started H enc)
#print axioms proved
end Go.Proofs.YtdiladmkbpnhoaaGreat.sturmBounds
