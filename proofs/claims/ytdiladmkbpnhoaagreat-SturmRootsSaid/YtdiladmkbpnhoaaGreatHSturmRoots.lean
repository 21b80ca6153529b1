/- For every input the law SturmRoots of chapter 08 returns true, and each argument reads afterwards as it read before. No conditions. -/
import Derived.Test.YtdiladmkbpnhoaaGreatRows
import Derived.Test.YtdiladmkbpnhoaaGreatLgw
set_option linter.unusedSimpArgs false
set_option linter.unusedVariables false
namespace Go.Proofs.YtdiladmkbpnhoaaGreat.sturmRoots
open Go Pm Go.ChangeShapes Go.WideShapes Go.ChangeAt Go.RowKit
theorem opn_i64 : Opn Tryz.prog 3 (fun ps => ∃ n : Int, ps = i64e n ∧ -9223372036854775808 ≤ n ∧ n < 9223372036854775808) :=
  (Opn.int .i64 (by kernel_rfl)).mono fun ps ⟨n, h1, h2, h3⟩ => ⟨n, h1, by simpa [IntKind.min, IntKind.signed, IntKind.bits] using h2, by simp [IntKind.max, IntKind.signed, IntKind.bits] at h3; omega⟩
theorem arg_Ints : OpnA Tryz.prog 38 (fun q => ∃ l : List Int, q = sls i64e l ∧ (∀ x ∈ l, -9223372036854775808 ≤ x ∧ x < 9223372036854775808) ∧ l.length < 9223372036854775808) :=
  (OpnA.slice (e := 3) (by kernel_rfl) (by rw [show Tryz.prog.cellsOf 3 = 1 by kernel_rfl]; decide) opn_i64).mono fun q ⟨l, h1, h2, h3⟩ => by
    obtain ⟨m, rfl, hm⟩ := maps (g := i64e) (Q := fun n => -9223372036854775808 ≤ n ∧ n < 9223372036854775808) (fun ps h => h) h2
    exact ⟨m, h1, hm, by rw [List.length_map] at h3; simp only [maxLen] at h3; omega⟩
set_option maxRecDepth 100000 in
theorem lifted (os : Os) (started : os.Started) (H : Type) (enc : TypeId × Value → H) :
    ReturnsInHanded {} Tryz.checked os 6 .any (Rows.sturmRootsSpec.pre6 enc Tryz.prog Tryz.f6 Rows.sturmRootsRow.domain false) (Rows.sturmRootsSpec.post enc Tryz.prog Tryz.f6 false true false false) := by
  refine law_lift (C := Tryz.checked) (Qs := [fun q => ∃ l : List Int, q = sls i64e l ∧ (∀ x ∈ l, -9223372036854775808 ≤ x ∧ x < 9223372036854775808) ∧ l.length < 9223372036854775808, fun q => ∃ n : Int, q = .int .i64 n ∧ -9223372036854775808 ≤ n ∧ n < 9223372036854775808, fun q => ∃ n : Int, q = .int .i64 n ∧ -9223372036854775808 ≤ n ∧ n < 9223372036854775808]) (tb := 4) own laidOut started (by kernel_rfl) Tryz.func6
    (ChangeSpec.witness6 (enc := enc) (C := Tryz.checked) false ⟨#[], #[.slice none 0 0, .int .i64 0, .int .i64 0], []⟩ 16 (by kernel_rfl) (by kernel_rfl) (by kernel_rfl) (by kernel_rfl)) rfl ?_ (by kernel_rfl) (by kernel_rfl) ?_ ?_
  · intro ds h
    rw [show Tryz.f6.params.size = 3 by kernel_rfl] at h
    match ds, h with
    | [_, _, _], _ => rfl
  · rw [show Tryz.f6.params.toList = [38, 3, 3] by kernel_rfl]
    exact ⟨arg_Ints, by kernel_rfl, of_decide_eq_true (by kernel_rfl), arg_int, by kernel_rfl, of_decide_eq_true (by kernel_rfl), arg_int, by kernel_rfl, of_decide_eq_true (by kernel_rfl), trivial⟩
  · rintro ps h
    obtain ⟨_, _, rfl, ⟨a0, rfl, h0, g0⟩, ⟨_, _, rfl, ⟨a1, rfl, h1⟩, ⟨_, _, rfl, ⟨a2, rfl, h2⟩, rfl⟩⟩⟩ := h
    exact SturmRoots_ret a0 a1 a2 h0 g0 h1 h2
theorem proved : Rows.SturmRootsSaid :=
  OpenClaim.holds_of_wide 6 Tryz.f6 rfl rfl rfl rfl rfl rfl rfl ⟨rfl, rfl, rfl, rfl, rfl⟩ rfl rfl rfl rfl rfl (by kernel_rfl) Tryz.func6 (by kernel_rfl)
    (of_decide_eq_true (by kernel_rfl)) (by unfold Func.isWrapper; first | (rw [if_pos (by decide +kernel)]; kernel_rfl) | (rw [if_neg (by decide +kernel)]; exact ⟨rfl, rfl⟩))
    (fun os started H enc _ => lifted os started H enc)
#print axioms proved
end Go.Proofs.YtdiladmkbpnhoaaGreat.sturmRoots
