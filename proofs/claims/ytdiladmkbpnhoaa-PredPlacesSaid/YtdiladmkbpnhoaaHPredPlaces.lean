/- For every input the law PredPlaces of chapter 14 returns true, and each argument reads afterwards as it read before. No conditions. -/
import Derived.Test.YtdiladmkbpnhoaaRows
import Derived.Test.YtdiladmkbpnhoaaLjb
set_option linter.unusedSimpArgs false
set_option linter.unusedVariables false
namespace Go.Proofs.Ytdiladmkbpnhoaa.predPlaces
open Go Pm Go.ChangeShapes Go.WideShapes Go.ChangeAt Go.RowKit
theorem opn_i64 : Opn Try.prog 3 (fun ps => ∃ n : Int, ps = i64e n ∧ -9223372036854775808 ≤ n ∧ n < 9223372036854775808) :=
  (Opn.int .i64 (by kernel_rfl)).mono fun ps ⟨n, h1, h2, h3⟩ => ⟨n, h1, by simpa [IntKind.min, IntKind.signed, IntKind.bits] using h2, by simp [IntKind.max, IntKind.signed, IntKind.bits] at h3; omega⟩
theorem arg_Ints : OpnA Try.prog 22 (fun q => ∃ l : List Int, q = sls i64e l ∧ (∀ x ∈ l, -9223372036854775808 ≤ x ∧ x < 9223372036854775808) ∧ l.length < 9223372036854775808) :=
  (OpnA.slice (e := 3) (by kernel_rfl) (by rw [show Try.prog.cellsOf 3 = 1 by kernel_rfl]; decide) opn_i64).mono fun q ⟨l, h1, h2, h3⟩ => by
    obtain ⟨m, rfl, hm⟩ := maps (g := i64e) (Q := fun n => -9223372036854775808 ≤ n ∧ n < 9223372036854775808) (fun ps h => h) h2
    exact ⟨m, h1, hm, by rw [List.length_map] at h3; simp only [maxLen] at h3; omega⟩
set_option maxRecDepth 100000 in
theorem lifted (os : Os) (started : os.Started) (H : Type) (enc : TypeId × Value → H) :
    ReturnsInHanded {} Try.checked os 3 .any (Rows.predPlacesSpec.pre6 enc Try.prog Try.f3 Rows.predPlacesRow.domain false) (Rows.predPlacesSpec.post enc Try.prog Try.f3 false true false false) := by
  refine law_lift (C := Try.checked) (Qs := [fun q => ∃ l : List Int, q = sls i64e l ∧ (∀ x ∈ l, -9223372036854775808 ≤ x ∧ x < 9223372036854775808) ∧ l.length < 9223372036854775808]) (tb := 4) own laidOut started (by kernel_rfl) Try.func3
    (ChangeSpec.witness6 (enc := enc) (C := Try.checked) false ⟨#[], #[.slice none 0 0], []⟩ 16 (by kernel_rfl) (by kernel_rfl) (by kernel_rfl) (by kernel_rfl)) rfl ?_ (by kernel_rfl) (by kernel_rfl) ?_ ?_
  · intro ds h
    rw [show Try.f3.params.size = 1 by kernel_rfl] at h
    match ds, h with
    | [_], _ => rfl
  · rw [show Try.f3.params.toList = [22] by kernel_rfl]
    exact ⟨arg_Ints, by kernel_rfl, of_decide_eq_true (by kernel_rfl), trivial⟩
  · rintro ps h
    obtain ⟨_, _, rfl, ⟨a0, rfl, h0, g0⟩, rfl⟩ := h
    exact PredPlaces_ret a0 h0 g0
theorem proved : Rows.PredPlacesSaid :=
  OpenClaim.holds_of_wide 3 Try.f3 rfl rfl rfl rfl rfl rfl rfl ⟨rfl, rfl, rfl, rfl, rfl⟩ rfl rfl rfl rfl rfl (by kernel_rfl) Try.func3 (by kernel_rfl)
    (of_decide_eq_true (by kernel_rfl)) (by unfold Func.isWrapper; first | (rw [if_pos (by decide +kernel)]; kernel_rfl) | (rw [if_neg (by decide +kernel)]; exact ⟨rfl, rfl⟩))
    (fun os started H enc _ => lifted os started H enc)
#print axioms proved
end Go.Proofs.Ytdiladmkbpnhoaa.predPlaces
