/- For every input the law IsolateFirsts of chapter 09 returns true, and each argument reads afterwards as it read before. No conditions. -/
import Derived.Test.YtbbjgncblhfegaaGreatRows
import Derived.Test.YtbbjgncblhfegaaGreatFat
set_option linter.unusedSimpArgs false
set_option linter.unusedVariables false
namespace Go.Proofs.YtbbjgncblhfegaaGreat
open Go Pm
open ZX hiding N W
theorem uO (l : List Int) (n d m k : Int) (hb : ∀ x ∈ l, -9223372036854775808 ≤ x ∧ x < 9223372036854775808) (hl : l.length < 9223372036854775808) (hn : -9223372036854775808 ≤ n ∧ n < 9223372036854775808) (hd : -9223372036854775808 ≤ d ∧ d < 9223372036854775808)
  (hm : -9223372036854775808 ≤ m ∧ m < 9223372036854775808) (hk : -9223372036854775808 ≤ k ∧ k < 9223372036854775808) : aI env.P 7 [aJ aF l, .int .i64 n, .int .i64 d, .int .i64 m, .int .i64 k] (.bool true) := by
 have hM := aa1 l hl hb 6 (by decide)
 have hL := VK l
 have h0 := (RY l 6).1
 have R := aqd hL h0 (by decide) (by decide) (by decide) (by decide)
 have I := abw hL h0 (by decide) (by decide) (by decide)
 have q1 := aa6 n d
 have q2 := aa6 m k
 exact LD (aqe I (by decide) (lM hL) q1 q2) hM R.to (EG n d hn hd) (EG m k hm hk) (q1.tor (by decide)) (q2.tor (by decide)) R.aks
end Go.Proofs.YtbbjgncblhfegaaGreat
set_option linter.unusedSimpArgs false
set_option linter.unusedVariables false
namespace Go.Proofs.YtbbjgncblhfegaaGreat.isolateFirsts
open Go Pm Go.ChangeShapes Go.WideShapes Go.ChangeAt Go.RowKit
theorem aeY : HE Tryz.prog 3 (fun ps => ∃ n : Int, ps = aF n ∧ -9223372036854775808 ≤ n ∧ n < 9223372036854775808) :=
  (HE.int .i64 (by kernel_rfl)).mono fun ps ⟨n, h1, h2, h3⟩ => ⟨n, h1, by simpa [IntKind.min, IntKind.signed, IntKind.bits] using h2, by simp [IntKind.max, IntKind.signed, IntKind.bits] at h3; omega⟩
theorem abE : sA Tryz.prog 22 (fun q => ∃ l : List Int, q = aJ aF l ∧ (∀ x ∈ l, -9223372036854775808 ≤ x ∧ x < 9223372036854775808) ∧ l.length < 9223372036854775808) :=
  (sA.slice (e := 3) (by kernel_rfl) (by rw [show Tryz.prog.cellsOf 3 = 1 by kernel_rfl]; decide) aeY).mono fun q ⟨l, h1, h2, h3⟩ => by
    obtain ⟨m, rfl, hm⟩ := maps (g := aF) (Q := fun n => -9223372036854775808 ≤ n ∧ n < 9223372036854775808) (fun ps h => h) h2
    exact ⟨m, h1, hm, by rw [List.length_map] at h3; simp only [maxLen] at h3; omega⟩
set_option maxRecDepth 100000 in
theorem lifted (os : Os) (started : os.Started) (H : Type) (enc : TypeId × Value → H) :
    ReturnsInHanded {} Tryz.checked os 7 .any (Rows.isolateFirstsSpec.pre6 enc Tryz.prog Tryz.f7 Rows.isolateFirstsRow.domain false) (Rows.isolateFirstsSpec.post enc Tryz.prog Tryz.f7 false true false false) := by
  refine ZH (C := Tryz.checked) (Qs := [fun q => ∃ l : List Int, q = aJ aF l ∧ (∀ x ∈ l, -9223372036854775808 ≤ x ∧ x < 9223372036854775808) ∧ l.length < 9223372036854775808, fun q => ∃ n : Int, q = .int .i64 n ∧ -9223372036854775808 ≤ n ∧ n < 9223372036854775808, fun q => ∃ n : Int, q = .int .i64 n ∧ -9223372036854775808 ≤ n ∧ n < 9223372036854775808, fun q => ∃ n : Int, q = .int .i64 n ∧ -9223372036854775808 ≤ n ∧ n < 9223372036854775808, fun q => ∃ n : Int, q = .int .i64 n ∧ -9223372036854775808 ≤ n ∧ n < 9223372036854775808]) (tb := 4) own laidOut started (by kernel_rfl) Tryz.func7
    (ChangeSpec.witness6 (enc := enc) (C := Tryz.checked) false ⟨#[], #[.slice none 0 0, .int .i64 0, .int .i64 0, .int .i64 0, .int .i64 0], []⟩ 16 (by kernel_rfl) (by kernel_rfl) (by kernel_rfl) (by kernel_rfl)) rfl ?_ (by kernel_rfl) (by kernel_rfl) ?_ ?_
  · intro ds h
    rw [show Tryz.f7.params.size = 5 by kernel_rfl] at h
    match ds, h with
    | [_, _, _, _, _], _ => rfl
  · rw [show Tryz.f7.params.toList = [22, 3, 3, 3, 3] by kernel_rfl]
    exact ⟨abE, by kernel_rfl, of_decide_eq_true (by kernel_rfl), yA, by kernel_rfl, of_decide_eq_true (by kernel_rfl), yA, by kernel_rfl, of_decide_eq_true (by kernel_rfl), yA, by kernel_rfl, of_decide_eq_true (by kernel_rfl), yA, by kernel_rfl, of_decide_eq_true (by kernel_rfl), trivial⟩
  · rintro ps h
    obtain ⟨_, _, rfl, ⟨a0, rfl, h0, g0⟩, ⟨_, _, rfl, ⟨a1, rfl, h1⟩, ⟨_, _, rfl, ⟨a2, rfl, h2⟩, ⟨_, _, rfl, ⟨a3, rfl, h3⟩, ⟨_, _, rfl, ⟨a4, rfl, h4⟩, rfl⟩⟩⟩⟩⟩ := h
    exact uO a0 a1 a2 a3 a4 h0 g0 h1 h2 h3 h4
theorem z1 : (Rows.isolateFirstsRow.inPlace == Tryz.pinned.checked.prog.inPlace 7) = true := by kernel_rfl
theorem z2 : (Rows.isolateFirstsRow.unfollowed == Tryz.pinned.checked.prog.unfollowed 7) = true := by kernel_rfl
theorem z3 : (Rows.isolateFirstsRow.recurses == Tryz.pinned.checked.prog.recurses 7) = true := by kernel_rfl
theorem z4 : (Rows.isolateFirstsRow.named == Tryz.pinned.checked.prog.varsNamed 7) = true := by kernel_rfl
theorem closed : joinedFacts Tryz.pinned.checked.prog 7 Tryz.f7 Rows.isolateFirstsSpec Rows.isolateFirstsRow = true := by
  unfold joinedFacts
  rw [z1, z2, z3, z4]
  kernel_rfl
theorem proved : Rows.IsolateFirstsSaid :=
  OpenClaim.holds_of_wide 7 Tryz.f7 rfl rfl rfl rfl rfl rfl rfl ⟨rfl, rfl, rfl, rfl, rfl⟩ rfl rfl rfl rfl rfl (by kernel_rfl) Tryz.func7 closed
    (of_decide_eq_true (by kernel_rfl)) (by unfold Func.isWrapper; first | (rw [if_pos (by decide +kernel)]; kernel_rfl) | (rw [if_neg (by decide +kernel)]; exact ⟨rfl, rfl⟩))
    (fun os started H enc _ => lifted os started H enc)
#print axioms proved
end Go.Proofs.YtbbjgncblhfegaaGreat.isolateFirsts
