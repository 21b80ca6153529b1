/- For every input the law GermSoon of chapter 11 returns true, and each argument reads afterwards as it read before. No conditions. -/
import Derived.Test.YtbbjgncblhfegaaGreatRows
import Derived.Test.YtbbjgncblhfegaaGreatSas
import Derived.Test.YtbbjgncblhfegaaGreatSat
set_option linter.unusedSimpArgs false
set_option linter.unusedVariables false
namespace Go.Proofs.YtbbjgncblhfegaaGreat
open Go Pm
open ZX hiding N W
theorem G0 (t : Rat) : ∀ j, t < rF t j
 | 0 => by show t < t + 1; grind
 | j + 1 => by
  have h := G0 t j
  exact (sW h).1
theorem abJ (t : Rat) : (iK t).l = [-t.num, (t.den : Int)] := fQ (x := (t.den : Int)) (by have := t.den_nz; omega) [-t.num]
theorem SS {t : Rat} (h : t.num.natAbs ≤ 30 ∧ ((t.den : Int)).natAbs ≤ 6) : n1 (iK t) ≤ 36 := by
 show l1 (iK t).l ≤ 36
 rw [abJ]
 simp only [l1, List.map_cons, List.map_nil, List.sum_cons, List.sum_nil, Int.natAbs_neg]
 omega
theorem abK {a : ZX} (h0 : a ≠ 0) (h : n1 a ≤ 36) (hN : ZX.N a = 2) : ∀ i, n1 (a ^ i) ≤ 36 ^ i ∧ ZX.N (a ^ i) = i + 1 ∧ a ^ i ≠ 0
 | 0 => ⟨by rw [cY]; decide, by rw [cY]; decide, by rw [cY]; exact ZX.oC⟩
 | i + 1 => by
  obtain ⟨h1, h2, h3⟩ := abK h0 h hN i
  rw [pow_succ']
  refine ⟨Nat.le_trans (A5 _ _) (by rw [Nat.pow_succ]; exact Nat.mul_le_mul h1 h), by rw [ZX.gE h3 h0, h2, hN]; omega, ZX.fM h3 h0⟩
theorem G1 (l : List Int) (n d k : Int) (hb : ∀ x ∈ l, -9223372036854775808 ≤ x ∧ x < 9223372036854775808) (hl : l.length < 9223372036854775808) (hn : -9223372036854775808 ≤ n ∧ n < 9223372036854775808) (hd : -9223372036854775808 ≤ d ∧ d < 9223372036854775808) (hk : -9223372036854775808 ≤ k ∧ k < 9223372036854775808) :
  aJ env.P 10 [aI aF l, .int .i64 n, .int .i64 d, .int .i64 k] (.bool true) := by
 have hM := aa5 l hl hb 5 (by decide)
 obtain ⟨a1, a2⟩ := aeZ l 5
 have a0 := (RW l 5).1
 generalize made l 5 = a at *
 have hS := VI n d hn hd
 have q5 := aka n d
 have sb := aba n d
 generalize sml n d = t at *
 have td : (t.den : Int) ≠ 0 := by have := t.den_pos; omega
 obtain ⟨CC, hR⟩ := GI (n := t.num) (d := t.den) (by omega) (by omega) td
 have hW := jY k 3 hk (by decide) (by decide)
 obtain ⟨K0, hK⟩ : ∃ K0 : Nat, k % 3 = K0 := ⟨(k % 3).toNat, by omega⟩
 have hK3 : K0 < 3 := by omega
 rw [hK] at hW
 have l0 : iK t ≠ 0 := ZX.aD.2 (by rw [oH]; decide)
 have P := abK l0 (SS sb) (oH t)
 have e1 : 3 * 9 ^ 5 = 177147 := by decide
 have e2 : (2 : Nat) ^ 18 = 262144 := by decide
 have e3 : (2 : Nat) ^ 28 = 268435456 := by decide
 have e4 : (2 : Nat) ^ 11 = 2048 := by decide
 rw [e1] at a1
 have ba : BZ 18 6 a := BZ.SD (by omega) a2
 have aqh : ∀ i, i < 3 → 36 ^ i ≤ 1296 := fun i hi => by
  have : i = 0 ∨ i = 1 ∨ i = 2 := by omega
  rcases this with rfl | rfl | rfl <;> decide
 have bp : ∀ i, i < 3 → BZ 11 3 (iK t ^ i) := fun i hi => BZ.SD (by have := (P i).1; have := aqh i hi; omega) (by have := (P i).2.1; omega)
 have bl : BZ 11 3 (iK t) := BZ.SD (by have := SS sb; omega) (by rw [oH]; decide)
 have hP := DW (a := iK t) (k := K0) (by omega) (fun i hi => jX _ _ 11 11 3 3 (bp i (by omega)) bl (by decide))
 rw [abJ] at hP
 have hX : aJ env.P 54 [PI a.l, PI (iK t ^ K0).l] (PI (a * iK t ^ K0).l) := jX _ _ 18 11 6 3 ba (bp K0 hK3) (by decide)
 obtain ⟨p1, p2, p3⟩ := P K0
 have K7 : a * iK t ^ K0 ≠ 0 := ZX.fM a0 p3
 have aAb : n1 (a * iK t ^ K0) ≤ 177147 * 1296 := Nat.le_trans (A5 _ _) (Nat.mul_le_mul a1 (Nat.le_trans p1 (aqh K0 hK3)))
 have bx : BZ 28 8 (a * iK t ^ K0) := BZ.SD (by omega) (by rw [ZX.gE a0 p3]; omega)
 generalize a * iK t ^ K0 = x at *
 have L : o7 28 8 x := ⟨bx, by decide, by decide, by decide⟩
 have hT := RX bx (by decide) (by decide)
 have hC := sV L K7 (by decide) (by decide)
 have C := (L.ch K7 (by decide)).all
 have I := akr L K7 (by decide) (by decide) (by decide)
 have q1 : SQ 5 (1 : Rat) := ⟨by decide, by decide, by decide⟩
 obtain ⟨D, hD1, B4, g1, g2⟩ := abC q5 q1
 have g3 := g1.add g2
 have g4 : Gr D (2 ^ (5 + 1)) 0 t := ⟨g1.z, g1.b.mono (KR (by decide))⟩
 have G : ∀ j, Gr D (2 ^ (5 + 1)) j (rF t j) := fun j => by
  induction j with
  | zero => exact g3
  | succ j ih => exact (g4.mono (Nat.zero_le j)).FM ih
 have Q : ∀ j, j ≤ 60 → SQ 100 (rF t j) := fun j hj => ((G j).sq hD1 B4).mono (by omega)
 have q0 : SQ 100 t := q5.mono (by decide)
 have hO := mF 1 1 (by decide) (by decide)
 replace hO : aJ env.P 47 [.int .i64 1, .int .i64 1] (RR 1) := hO
 refine V6 (bt := fun j => (vt (bB (sq x)) t : Int) - vt (bB (sq x)) (rF t j)) hM hS hR hW hP hX hT hC hO (pW _ _ (q5.yy (by decide)) (q1.yy (by decide))) (fun j hj => ?_) (fun j hj => ?_) (q5.tor (by decide)) (fun j hj => (Q j hj).tor (by decide)) (fun j hj hbt => ?_)
 ·have := O0 C.1 L.hn C.2 q0 (Q j hj) (by decide)
  rwa [if_neg (Rat.not_lt.2 (Rat.le_of_lt (G0 t j)))] at this
 ·exact AX (q0.yy (by decide)) ((Q j (by omega)).yy (by decide)) ((((g4.mono (Nat.zero_le j)).add (G j)).sq hD1 B4).yy (by omega))
 ·have hm := I.S.dE (Rat.le_of_lt (G0 t j))
  obtain ⟨s1, s2⟩ := avm K7 (Nat.le_trans I.ch.bz.N (by decide)) I.S I.cop (G0 t j) (by omega)
  have k1 := BC bx (by decide) (by decide) (iA t) q5.nL q5.dL (by decide) ⟨q5.nL, q5.dL⟩ (by decide)
  have qj := Q j hj
  have k2 := vL (HC bx) x.c qj.nL qj.dL qj.hu (by decide) (by decide) (by decide) (iA (rF t j)) ⟨qj.nL, qj.dL⟩
  rw [j9] at k2
  rw [s1] at k1
  exact ⟨_, k1, k2, s2⟩
end Go.Proofs.YtbbjgncblhfegaaGreat
set_option linter.unusedSimpArgs false
set_option linter.unusedVariables false
namespace Go.Proofs.YtbbjgncblhfegaaGreat.germSoon
open Go Pm Go.ChangeShapes Go.WideShapes Go.ChangeAt Go.RowKit
theorem afa : G8 Tryz.prog 3 (fun ps => ∃ n : Int, ps = aF n ∧ -9223372036854775808 ≤ n ∧ n < 9223372036854775808) :=
  (G8.int .i64 (by kernel_rfl)).mono fun ps ⟨n, h1, h2, h3⟩ => ⟨n, h1, by simpa [IntKind.min, IntKind.signed, IntKind.bits] using h2, by simp [IntKind.max, IntKind.signed, IntKind.bits] at h3; omega⟩
theorem abL : sB Tryz.prog 22 (fun q => ∃ l : List Int, q = aI aF l ∧ (∀ x ∈ l, -9223372036854775808 ≤ x ∧ x < 9223372036854775808) ∧ l.length < 9223372036854775808) :=
  (sB.slice (e := 3) (by kernel_rfl) (by rw [show Tryz.prog.cellsOf 3 = 1 by kernel_rfl]; decide) afa).mono fun q ⟨l, h1, h2, h3⟩ => by
    obtain ⟨m, rfl, hm⟩ := maps (g := aF) (Q := fun n => -9223372036854775808 ≤ n ∧ n < 9223372036854775808) (fun ps h => h) h2
    exact ⟨m, h1, hm, by rw [List.length_map] at h3; simp only [maxLen] at h3; omega⟩
set_option maxRecDepth 100000 in
theorem lifted (os : Os) (started : os.Started) (H : Type) (enc : TypeId × Value → H) :
    ReturnsInHanded {} Tryz.checked os 10 .any (Rows.germSoonSpec.pre6 enc Tryz.prog Tryz.f10 Rows.germSoonRow.domain false) (Rows.germSoonSpec.post enc Tryz.prog Tryz.f10 false true false false) := by
  refine ZN (C := Tryz.checked) (Qs := [fun q => ∃ l : List Int, q = aI aF l ∧ (∀ x ∈ l, -9223372036854775808 ≤ x ∧ x < 9223372036854775808) ∧ l.length < 9223372036854775808, fun q => ∃ n : Int, q = .int .i64 n ∧ -9223372036854775808 ≤ n ∧ n < 9223372036854775808, fun q => ∃ n : Int, q = .int .i64 n ∧ -9223372036854775808 ≤ n ∧ n < 9223372036854775808, fun q => ∃ n : Int, q = .int .i64 n ∧ -9223372036854775808 ≤ n ∧ n < 9223372036854775808]) (tb := 4) own laidOut started (by kernel_rfl) Tryz.func10
    (ChangeSpec.witness6 (enc := enc) (C := Tryz.checked) false ⟨#[], #[.slice none 0 0, .int .i64 0, .int .i64 0, .int .i64 0], []⟩ 16 (by kernel_rfl) (by kernel_rfl) (by kernel_rfl) (by kernel_rfl)) rfl ?_ (by kernel_rfl) (by kernel_rfl) ?_ ?_
  · intro ds h
    rw [show Tryz.f10.params.size = 4 by kernel_rfl] at h
    match ds, h with
    | [_, _, _, _], _ => rfl
  · rw [show Tryz.f10.params.toList = [22, 3, 3, 3] by kernel_rfl]
    exact ⟨abL, by kernel_rfl, of_decide_eq_true (by kernel_rfl), FN, by kernel_rfl, of_decide_eq_true (by kernel_rfl), FN, by kernel_rfl, of_decide_eq_true (by kernel_rfl), FN, by kernel_rfl, of_decide_eq_true (by kernel_rfl), trivial⟩
  · rintro ps h
    obtain ⟨_, _, rfl, ⟨a0, rfl, h0, g0⟩, ⟨_, _, rfl, ⟨a1, rfl, h1⟩, ⟨_, _, rfl, ⟨a2, rfl, h2⟩, ⟨_, _, rfl, ⟨a3, rfl, h3⟩, rfl⟩⟩⟩⟩ := h
    exact G1 a0 a1 a2 a3 h0 g0 h1 h2 h3
theorem z1 : (Rows.germSoonRow.inPlace == Tryz.pinned.checked.prog.inPlace 10) = true := by kernel_rfl
theorem z2 : (Rows.germSoonRow.unfollowed == Tryz.pinned.checked.prog.unfollowed 10) = true := by kernel_rfl
theorem z3 : (Rows.germSoonRow.recurses == Tryz.pinned.checked.prog.recurses 10) = true := by kernel_rfl
theorem z4 : (Rows.germSoonRow.named == Tryz.pinned.checked.prog.varsNamed 10) = true := by kernel_rfl
theorem closed : joinedFacts Tryz.pinned.checked.prog 10 Tryz.f10 Rows.germSoonSpec Rows.germSoonRow = true := by
  unfold joinedFacts
  rw [z1, z2, z3, z4]
  kernel_rfl
theorem proved : Rows.GermSoonSaid :=
  OpenClaim.holds_of_wide 10 Tryz.f10 rfl rfl rfl rfl rfl rfl rfl ⟨rfl, rfl, rfl, rfl, rfl⟩ rfl rfl rfl rfl rfl (by kernel_rfl) Tryz.func10 closed
    (of_decide_eq_true (by kernel_rfl)) (by unfold Func.isWrapper; first | (rw [if_pos (by decide +kernel)]; kernel_rfl) | (rw [if_neg (by decide +kernel)]; exact ⟨rfl, rfl⟩))
    (fun os started H enc _ => lifted os started H enc)
#print axioms proved
end Go.Proofs.YtbbjgncblhfegaaGreat.germSoon
