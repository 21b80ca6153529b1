/- For every input the law GermSquares of chapter 11 returns true, and each argument reads afterwards as it read before. No conditions. -/
import Derived.Test.YtbbjgncblhfegaaGreatRows
import Derived.Test.YtbbjgncblhfegaaGreatRas
set_option linter.unusedSimpArgs false
set_option linter.unusedVariables false
namespace Go.Proofs.YtbbjgncblhfegaaGreat
open Go Pm
open ZX hiding N W
theorem abr {a b : ZX} (ha : a ≠ 0) (hb : b ≠ 0) : oz (nf (a * b * b)) = oz (nf a) := by
 have h1 := ZX.fF ha hb
 have h2 := ZX.fF h1 hb
 refine KS (DK (eV h2)) (DK (eV ha)) fun p hp => ?_
 rw [JZ (eV h2) hp, JZ (eV ha) hp, AF hp h2, AF hp ha, mM hp h1 hb, mM hp ha hb]
 omega
theorem xH (l m : List Int) (hb : ∀ x ∈ l, -9223372036854775808 ≤ x ∧ x < 9223372036854775808) (hl : l.length < 9223372036854775808) (wZ : ∀ x ∈ m, -9223372036854775808 ≤ x ∧ x < 9223372036854775808) (hl' : m.length < 9223372036854775808) :
  aK env.P 11 [aI aD l, aI aD m] (.bool true) := by
 have hM := AQ l hl hb 4 (by decide)
 have hM' := AQ m hl' wZ 2 (by decide)
 have GV := (x7 l 4).1
 have TO := (x7 m 2).1
 obtain ⟨a1, a2⟩ := GF l 4
 obtain ⟨b1, b2⟩ := GF m 2
 have e1 : 3 * 9 ^ 4 = 19683 := by decide
 have e2 : 3 * 9 ^ 2 = 243 := by decide
 have e3 : 2 ^ 31 = 2147483648 := by decide
 have e4 : 2 ^ 15 = 32768 := by decide
 have e5 : 2 ^ 8 = 256 := by decide
 have e6 : 2 ^ 23 = 8388608 := by decide
 generalize made l 4 = a at *
 generalize made m 2 = b at *
 have na := jH GV GV
 have nb := jH GV TO
 have fP := ZX.fF GV TO
 have nbb := jH fP TO
 have ba : BZ 15 5 a := BZ.DY (by omega) a2
 have bb : BZ 8 3 b := BZ.DY (by omega) b2
 have n1a := vF a a
 have n1b := vF a b
 have n1c := vF (a * b) b
 have c1 : n1 a * n1 a ≤ 19683 * 19683 := Nat.mul_le_mul (by omega) (by omega)
 have c2 : n1 a * n1 b ≤ 19683 * 243 := Nat.mul_le_mul (by omega) (by omega)
 have c3 : n1 (a * b) * n1 b ≤ 19683 * 243 * 243 := Nat.mul_le_mul (by omega) (by omega)
 have bab : BZ 23 7 (a * b) := BZ.DY (by omega) (by omega)
 have L0 : oO 31 9 a := ⟨ba.mono (by decide) (by decide), by decide, by decide, by decide⟩
 have L1 : oO 31 9 (a * b * b) := ⟨BZ.DY (by omega) (by omega), by decide, by decide, by decide⟩
 have L2 : oO 31 9 (a * a) := ⟨BZ.DY (by omega) (by omega), by decide, by decide, by decide⟩
 have haa := ZX.fF GV GV
 have hbb := ZX.fF fP TO
 have T0 := (D2 L0 GV (by decide) (by decide) (by decide) (by decide)).turns
 have T1 := (D2 L1 hbb (by decide) (by decide) (by decide) (by decide)).turns
 have T2 := (D2 L2 haa (by decide) (by decide) (by decide) (by decide)).turns
 have I0 := A8 L0 GV (by decide) (by decide) (by decide)
 have I2 := A8 L2 haa (by decide) (by decide) (by decide)
 rw [abr GV TO] at T1
 rw [vG I2 (D3 GV)] at T2
 have m1 : aK env.P 39 [Po a.l, Po a.l] (Po (a * a).l) := jP (xD ba) (xD ba) (by decide)
 have m2 : aK env.P 39 [Po a.l, Po b.l] (Po (a * b).l) := jP (xD ba) (xD bb) (by decide)
 have m3 : aK env.P 39 [Po (a * b).l, Po b.l] (Po (a * b * b).l) := jP (xD bab) (xD bb) (by decide)
 have one : BZ 3 1 (1 : ZX) := AR (by decide) (by decide)
 have hlen := yB I0
 have m0 : aK env.P 39 [Po (1 : ZX).l, Po a.l] (Po (1 * a).l) := jP (xD one) (xD ba) (by decide)
 have p0 : lF [a] = a := by show 1 * a = a; grind
 have p1 : lF [a, b] = a * b := by show 1 * a * b = _; grind
 have p2 : lF [a, b, b] = a * b * b := by show 1 * a * b * b = _; grind
 have P1 := J4 [a, b, b] (by simp) (fun i hi => by
  match i, hi with
  | 0, _ => exact m0
  | 1, _ =>
   show aK env.P _ [Po (lF [a]).l, Po b.l] (Po (lF [a, b]).l)
   rw [p0, p1]; exact m2
  | 2, _ =>
   show aK env.P _ [Po (lF [a, b]).l, Po b.l] (Po (lF [a, b, b]).l)
   rw [p1, p2]; exact m3)
 rw [p2] at P1
 have ta := x8 ba (by decide) (by decide)
 have tb := x8 bb (by decide) (by decide)
 have hw := wY
 have V := I0.ivs
 have hU : uu (qb 31 9) ≤ 2200000 := by decide
 have auP : ∀ i, i < (qN (qb 31 9) 9 (oz (nf a))).length → aK env.P 41 [GA (oz (nf a)) (nth (qN (qb 31 9) 9 (oz (nf a))) i)] (QA (oz (nf a)) (bC (oz (nf a))) (ex (oz (nf a)) (nth (qN (qb 31 9) 9 (oz (nf a))) i))) ∧
   aK env.P 42 [QA (oz (nf a)) (bC (oz (nf a))) (ex (oz (nf a)) (nth (qN (qb 31 9) 9 (oz (nf a))) i)), QA (oz (nf a)) (bC (oz (nf a))) (ex (oz (nf a)) (nth (qN (qb 31 9) 9 (oz (nf a))) i))] (.int .i64 0) := fun i hi => by
  obtain ⟨g1, g2, g3, g4, g5, g6⟩ := V.mem _ (bN hi)
  have hA : oJ (oz (nf a)) (vt (bC (oz (nf a)))) (nth (qN (qb 31 9) 9 (oz (nf a))) i).1 (nth (qN (qb 31 9) 9 (oz (nf a))) i).2 := ⟨I0.S, .inr ⟨g4, g6⟩⟩
  have hE := (yC hA).1
  have s1 : SQ (uu (qb 31 9)) (ex (oz (nf a)) (nth (qN (qb 31 9) 9 (oz (nf a))) i)).1 := by unfold ex; split <;> assumption
  have s2 : SQ (uu (qb 31 9)) (ex (oz (nf a)) (nth (qN (qb 31 9) 9 (oz (nf a))) i)).2 := by unfold ex; split <;> assumption
  have C := I0.cmp (by decide) hE hE s1 s2 s1 s2 hU
  rw [RZ] at C
  exact ⟨I0.agS g1 g2 (by omega), C⟩
 clear V I0 I2 L0 L1 L2 ba bb bab one
 generalize qN (qb 31 9) 9 (oz (nf a)) = L at *
 generalize oz (nf a) = f at *
 generalize oz (nf (a * a)) = f2 at *
 generalize (a * b * b).l = xl at *
 generalize (a * a).l = yl at *
 replace P1 : aK env.P 63 [.sl [[Po a.l], [Po b.l], [Po b.l]]] (Po xl) := P1
 generalize a.l = al at *
 generalize b.l = bl at *
 refine aB (E := env) (fun _ => 0) [(0, aI aD l), (1, aI aD m)] Tryz.func11 rfl (by kernel_rfl) (by kernel_rfl) (show 2 ≤ 56 by decide) (by simp) ?_
 refine W.sr ?_; simp (disch := omega) [gw]; refine W.lx [0, 1] ?_; simp
 refine W.sr ?_
 simp (disch := omega) [gw]
 refine aA hM ?_
 simp (disch := omega) [gw]
 refine aA ta ?_
 simp (disch := omega) [gw]
 refine aA hM' ?_
 simp (disch := omega) [gw]
 refine aA tb ?_
 simp (disch := omega) [gw]
 refine W.lx [5, 6] ?_; simp
 refine W.sr ?_
 simp (disch := omega) [gw]
 refine aA T0 ?_
 simp (disch := omega) [gw]
 refine aA P1 ?_
 simp (disch := omega) [gw]
 refine aA T1 ?_
 simp (disch := omega) [gw]
 refine W.lx [5, 7, 8] ?_; simp
 refine W.seq ?_
 refine W.sr ?_
 simp (disch := omega) [gw]
 refine aA m1 ?_
 simp (disch := omega) [gw]
 refine aA T2 ?_
 simp (disch := omega) [gw]
 refine W.lx [7, 8, 36] ?_; simp
 refine W.cond ⟨_, rfl, fun h => ?_, fun h => ?_⟩
 ·simp at h
 refine W.skip ?_
 refine W.seq ?_
 refine W.sr ?_; simp (disch := omega) [gw]; refine W.lx [7, 8, 38, 39] ?_; simp
 refine W.block ?_
 refine W.a8 (fun k σ => ∃ (i : Nat) (rows : Pm.Rows) (clk : Nat), σ = ⟨fa [(7, aI (ga f) L), (8, aI (ga f) L), (38, .int .i64 L.length), (39, .int .i64 i)], rows, clk⟩ ∧ i + k = L.length) L.length ?_ ?_
 ·exact ⟨_, .refl, 0, _, _, rfl, by omega⟩
 rintro k _ ⟨i, rows, clk, rfl, FD⟩
 refine W.sr ?_; simp (disch := omega) [gw]; refine W.lx [7, 8, 38, 39, 40] ?_; simp
 refine W.seq ?_
 refine W.cond ⟨_, rfl, fun h => ?_, fun h => ?_⟩
 ·have hi : i < L.length := by simp at h; omega
  obtain ⟨v1, v2⟩ := auP i hi
  simp only [GA, QA, qa, ga, List.cons_append, List.nil_append] at v1 v2
  refine W.skip ?_
  refine W.seq ?_
  refine W.block ?_
  refine W.sr ?_; simp (disch := omega) [gw]; refine W.lx [7, 8, 9, 38, 39] ?_; simp
  refine W.sd ?_
  simp (disch := omega) [gw, hi]
  refine aA v1 ?_
  simp (disch := omega) [gw, hi]
  refine aA v1 ?_
  simp (disch := omega) [gw, hi]
  refine aA v2 ?_
  simp (disch := omega) [gw, hi]
  refine W.lx [7, 8, 38, 39, 53] ?_; simp
  refine W.cond ⟨_, rfl, fun h => ?_, fun h => ?_⟩
  ·simp at h
  ·refine W.skip ?_
   refine W.bY (fun K hK => ?_); simp (disch := omega) [gw]
   refine hK _ ⟨k - 1, _, aC _ [7, 8, 38, 39], by omega, i + 1, _, _, rfl, by omega⟩
 ·refine W.exit ?_; simp only [pX, if_true, if_false, reduceIte, Nat.reduceEqDiff]
  refine W.sr ?_
  simp (disch := omega) [gw]
  refine aA hw ?_
  simp (disch := omega) [gw]
  refine W.lx [4] ?_; simp
  refine W.ret ?_
  simp [go]
end Go.Proofs.YtbbjgncblhfegaaGreat
set_option linter.unusedSimpArgs false
set_option linter.unusedVariables false
namespace Go.Proofs.YtbbjgncblhfegaaGreat.germSquares
open Go Pm Go.ChangeShapes Go.WideShapes Go.ChangeAt Go.RowKit
theorem GK : C0 Tryz.prog 3 (fun ps => ∃ n : Int, ps = aD n ∧ -9223372036854775808 ≤ n ∧ n < 9223372036854775808) :=
  (C0.int .i64 (by kernel_rfl)).mono fun ps ⟨n, h1, h2, h3⟩ => ⟨n, h1, by simpa [IntKind.min, IntKind.signed, IntKind.bits] using h2, by simp [IntKind.max, IntKind.signed, IntKind.bits] at h3; omega⟩
theorem uC : rT Tryz.prog 22 (fun q => ∃ l : List Int, q = aI aD l ∧ (∀ x ∈ l, -9223372036854775808 ≤ x ∧ x < 9223372036854775808) ∧ l.length < 9223372036854775808) :=
  (rT.slice (e := 3) (by kernel_rfl) (by rw [show Tryz.prog.cellsOf 3 = 1 by kernel_rfl]; decide) GK).mono fun q ⟨l, h1, h2, h3⟩ => by
    obtain ⟨m, rfl, hm⟩ := maps (g := aD) (Q := fun n => -9223372036854775808 ≤ n ∧ n < 9223372036854775808) (fun ps h => h) h2
    exact ⟨m, h1, hm, by rw [List.length_map] at h3; simp only [maxLen] at h3; omega⟩
set_option maxRecDepth 100000 in
theorem lifted (os : Os) (started : os.Started) (H : Type) (enc : TypeId × Value → H) :
    ReturnsInHanded {} Tryz.checked os 11 .any (Rows.germSquaresSpec.pre6 enc Tryz.prog Tryz.f11 Rows.germSquaresRow.domain false) (Rows.germSquaresSpec.post enc Tryz.prog Tryz.f11 false true false false) := by
  refine IE (C := Tryz.checked) (Qs := [fun q => ∃ l : List Int, q = aI aD l ∧ (∀ x ∈ l, -9223372036854775808 ≤ x ∧ x < 9223372036854775808) ∧ l.length < 9223372036854775808, fun q => ∃ l : List Int, q = aI aD l ∧ (∀ x ∈ l, -9223372036854775808 ≤ x ∧ x < 9223372036854775808) ∧ l.length < 9223372036854775808]) (tb := 4) own laidOut started (by kernel_rfl) Tryz.func11
    (ChangeSpec.witness6 (enc := enc) (C := Tryz.checked) false ⟨#[], #[.slice none 0 0, .slice none 0 0], []⟩ 16 (by kernel_rfl) (by kernel_rfl) (by kernel_rfl) (by kernel_rfl)) rfl ?_ (by kernel_rfl) (by kernel_rfl) ?_ ?_
  · intro ds h
    rw [show Tryz.f11.params.size = 2 by kernel_rfl] at h
    match ds, h with
    | [_, _], _ => rfl
  · rw [show Tryz.f11.params.toList = [22, 22] by kernel_rfl]
    exact ⟨uC, by kernel_rfl, of_decide_eq_true (by kernel_rfl), uC, by kernel_rfl, of_decide_eq_true (by kernel_rfl), trivial⟩
  · rintro ps h
    obtain ⟨_, _, rfl, ⟨a0, rfl, h0, g0⟩, ⟨_, _, rfl, ⟨a1, rfl, h1, g1⟩, rfl⟩⟩ := h
    exact xH a0 a1 h0 g0 h1 g1
theorem z1 : (Rows.germSquaresRow.inPlace == Tryz.pinned.checked.prog.inPlace 11) = true := by kernel_rfl
theorem z2 : (Rows.germSquaresRow.unfollowed == Tryz.pinned.checked.prog.unfollowed 11) = true := by kernel_rfl
theorem z3 : (Rows.germSquaresRow.recurses == Tryz.pinned.checked.prog.recurses 11) = true := by kernel_rfl
theorem z4 : (Rows.germSquaresRow.named == Tryz.pinned.checked.prog.varsNamed 11) = true := by kernel_rfl
theorem closed : joinedFacts Tryz.pinned.checked.prog 11 Tryz.f11 Rows.germSquaresSpec Rows.germSquaresRow = true := by
  unfold joinedFacts
  rw [z1, z2, z3, z4]
  kernel_rfl
theorem proved : Rows.GermSquaresSaid :=
  OpenClaim.holds_of_wide 11 Tryz.f11 rfl rfl rfl rfl rfl rfl rfl ⟨rfl, rfl, rfl, rfl, rfl⟩ rfl rfl rfl rfl rfl (by kernel_rfl) Tryz.func11 closed
    (of_decide_eq_true (by kernel_rfl)) (by unfold Func.isWrapper; first | (rw [if_pos (by decide +kernel)]; kernel_rfl) | (rw [if_neg (by decide +kernel)]; exact ⟨rfl, rfl⟩))
    (fun os started H enc _ => lifted os started H enc)
#print axioms proved
end Go.Proofs.YtbbjgncblhfegaaGreat.germSquares
