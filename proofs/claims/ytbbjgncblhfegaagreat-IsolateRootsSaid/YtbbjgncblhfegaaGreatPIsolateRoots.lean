/- For every input the law IsolateRoots of chapter 09 returns true, and each argument reads afterwards as it read before. No conditions. -/
import Derived.Test.YtbbjgncblhfegaaGreatRows
import Derived.Test.YtbbjgncblhfegaaGreatPas
set_option linter.unusedSimpArgs false
set_option linter.unusedVariables false
namespace Go.Proofs.YtbbjgncblhfegaaGreat
open Go Pm
open ZX hiding N W
structure RK (a : ZX) (f : ZX) (L : List (Rat × Rat)) : Prop where
 to : aK env.P 22 [PI a.l] (Po a.l)
 roots : aK env.P 21 [Po a.l] (.eA [aJ (ga f) L, .int .i64 0])
 aj0 : aK env.P 24 [PI a.l] (aJ (qa f (bE f)) (L.map (ex f)))
 right : aK env.P 23 [aJ (ga f) L, aJ (qa f (bE f)) (L.map (ex f))] (.bool true)
theorem apR {s n : Nat} {a : ZX} (h : rZ s n a) (h0 : a ≠ 0) (tT : 1 ≤ n) (hC : (qb (qb s n) n + n + 6) * 4 ^ n ≤ 4500000000) (hs : qb s n ≤ 20000) (oP : 1 ≤ s) : RK a (sq a) (x7 (qb s n) n (sq a)) := by
 have I := O2 h h0 tT hC (by omega)
 have hn := h.hn
 exact ⟨GF h.bz (by unfold qb at hs; omega) (by omega), sF (lB h) I, A7 (jC h oP) (n5 h h0 tT oP) I I.s1, I.w7 hs⟩
theorem vG (l : List Int) (hb : ∀ x ∈ l, -9223372036854775808 ≤ x ∧ x < 9223372036854775808) (hl : l.length < 9223372036854775808) : aK env.P 3 [aJ aF l] (.bool true) := by
 have hM := KF l hl hb 6 (by decide)
 have hL := U7 l
 have h0 := (GD l 6).1
 have R := apR hL h0 (by decide) (by decide) (by decide) (by decide)
 have I := O2 hL h0 (by decide) (by decide) (by decide)
 have V := I.ivs
 have hlen := x8 I
 have S1 := jC hL (by decide)
 have hbz := I.ch.bz
 have hz := hbz.z (show qb 21 7 < 1099511627776 by decide)
 have hlf : (sq (made l 6)).l.length < 1099511627776 := Nat.lt_of_le_of_lt hbz.len (by decide)
 have S2 := T8 (sq (made l 6)).l (sq (made l 6)).l hlf hlf hz hz
 rw [decide_eq_true rfl] at S2
 have hm := R.to
 have hr := R.roots
 have hq := R.aj0
 have hR := R.right
 have hN := w8 (g := ie) (l := []) ael
 replace hN : aK env.P 21 [.sl []] (.eA [.sl [], .int .i64 2]) := hN
 have hw := sG
 generalize x7 (qb 21 7) 7 (sq (made l 6)) = L at *
 have hU : uu (qb 21 7) ≤ 1000000000 := by decide
 have auP : ∀ j, j + 1 < L.length → aK env.P 28 [RT (nth L j).2] (RR (nth L j).2) ∧ aK env.P 28 [RT (nth L (j + 1)).1] (RR (nth L (j + 1)).1) ∧ ∃ z, aK env.P 27 [RR (nth L j).2, RR (nth L (j + 1)).1] (.int .i64 z) ∧ ¬ 0 < z := fun j hj => by
  have m1 := V.mem _ (bL (show j < L.length by omega))
  have m2 := V.mem _ (bL hj)
  have hs := List.pairwise_iff_getElem.1 V.srt j (j + 1) (by omega) hj (by omega)
  rw [← cL, ← cL] at hs
  exact ⟨m1.2.1.w6 hU, m2.1.w6 hU, _, gW _ _ (m1.2.1.yy hU) (m2.1.yy hU), by rw [kR]; grind⟩
 clear V I hbz hz hlf hL h0
 generalize sq (made l 6) = f at *
 generalize (made l 6).l = al at *
 refine aB (E := env) (fun _ => 0) [(0, aJ aF l)] Tryz.func3 rfl (by kernel_rfl) (by kernel_rfl) (show 1 ≤ 89 by decide) (by simp) ?_
 refine W.sr ?_; simp (disch := omega) [gw]; refine W.lx [0] ?_; simp
 refine W.sr ?_
 simp (disch := omega) [gw]
 refine aA hM ?_
 simp (disch := omega) [gw]
 refine W.lx [3] ?_; simp
 refine W.sr ?_
 simp (disch := omega) [gw]
 refine aA hm ?_
 simp (disch := omega) [gw]
 refine aA hr ?_
 simp (disch := omega) [gw]
 refine W.lx [3, 4, 5] ?_; simp
 refine W.seq ?_
 refine W.sr ?_
 simp (disch := omega) [gw]
 refine aA hq ?_
 simp (disch := omega) [gw]
 refine aA hR ?_
 simp (disch := omega) [gw]
 refine W.lx [3, 4, 25] ?_; simp
 refine W.cond ⟨_, rfl, fun h => ?_, fun h => ?_⟩
 ·simp at h
 refine W.skip ?_
 refine W.seq ?_
 refine W.sr ?_; simp (disch := omega) [gw]; refine W.lx [3, 4, 27, 28] ?_; simp
 refine W.block ?_
 refine W.bB (fun k σ => ∃ (i : Nat) (rows : Pm.Rows) (clk : Nat), σ = ⟨fa [(3, PI al), (4, aJ (ga f) L), (27, .int .i64 L.length), (28, .int .i64 i)], rows, clk⟩ ∧ i + k = L.length) L.length ?_ ?_
 ·exact ⟨_, .refl, 0, _, _, rfl, by omega⟩
 rintro k _ ⟨i, rows, clk, rfl, K6⟩
 refine W.sr ?_; simp (disch := omega) [gw]; refine W.lx [3, 4, 27, 28, 29] ?_; simp
 refine W.seq ?_
 refine W.cond ⟨_, rfl, fun h => ?_, fun h => ?_⟩
 ·have hi : i < L.length := by simp at h; omega
  refine W.skip ?_
  refine W.seq ?_
  refine W.block ?_
  refine W.sr ?_; simp (disch := omega) [gw]; refine W.lx [3, 4, 6, 27, 28] ?_; simp
  rcases Nat.eq_zero_or_pos i with hi0 | hi0
  ·subst hi0
   refine W.sd ?_
   simp (disch := omega) [gw, hi]
   refine aA S1 ?_
   simp (disch := omega) [gw, hi]
   refine aA S2 ?_
   simp (disch := omega) [gw, hi]
   refine W.lx [3, 4, 27, 28, 73] ?_; simp
   refine W.cond ⟨_, rfl, fun h => ?_, fun h => ?_⟩
   ·simp at h
   ·refine W.skip ?_
    refine W.cA (fun K hK => ?_); simp (disch := omega) [gw]
    refine hK _ ⟨k - 1, _, aC _ [3, 4, 27, 28], by omega, 1, _, _, rfl, by omega⟩
  ·obtain ⟨j, rfl⟩ : ∃ j, i = j + 1 := ⟨i - 1, by omega⟩
   obtain ⟨c1, c2, z, c3, hz⟩ := auP j hi
   have hj : j < L.length := by omega
   have e1 : ((j + 1 : Nat) : Int) - 1 = (j : Int) := by omega
   have e2 : (0 : Int) < ((j + 1 : Nat) : Int) := by omega
   have e3 : ((j : Int) + 1).toNat = j + 1 := by omega
   rw [bV] at c1 c2
   rw [bV, bV] at c3
   refine W.sd ?_
   simp (disch := omega) [gw, hi]
   refine aA S1 ?_
   simp (disch := omega) [gw, hi]
   refine aA S2 ?_
   simp (disch := omega) [gw, hi, e1, e2, hj]
   refine aA c1 ?_
   simp (disch := omega) [gw, hi, hj]
   refine aA c2 ?_
   simp (disch := omega) [gw, hi, hj]
   refine aA c3 ?_
   simp (disch := omega) [gw, hi, hj, hz]
   refine W.lx [3, 4, 27, 28, 73] ?_; simp
   refine W.cond ⟨_, rfl, fun h => ?_, fun h => ?_⟩
   ·simp at h
   ·refine W.skip ?_
    refine W.cA (fun K hK => ?_); simp (disch := omega) [gw]
    refine hK _ ⟨k - 1, _, aC _ [3, 4, 27, 28], by omega, j + 1 + 1, _, _, rfl, by omega⟩
 ·refine W.exit ?_; simp only [pX, if_true, if_false, reduceIte, Nat.reduceEqDiff]
  refine W.sr ?_
  simp (disch := omega) [gw]
  refine aA hN ?_
  simp (disch := omega) [gw]
  refine W.lx [7, 8] ?_; simp
  refine W.sr ?_
  simp (disch := omega) [gw]
  refine aA hw ?_
  simp (disch := omega) [gw]
  refine W.lx [2] ?_; simp
  refine W.ret ?_
  simp [go]
end Go.Proofs.YtbbjgncblhfegaaGreat
set_option linter.unusedSimpArgs false
set_option linter.unusedVariables false
namespace Go.Proofs.YtbbjgncblhfegaaGreat.isolateRoots
open Go Pm Go.ChangeShapes Go.WideShapes Go.ChangeAt Go.RowKit
theorem GV : sK Tryz.prog 3 (fun ps => ∃ n : Int, ps = aF n ∧ -9223372036854775808 ≤ n ∧ n < 9223372036854775808) :=
  (sK.int .i64 (by kernel_rfl)).mono fun ps ⟨n, h1, h2, h3⟩ => ⟨n, h1, by simpa [IntKind.min, IntKind.signed, IntKind.bits] using h2, by simp [IntKind.max, IntKind.signed, IntKind.bits] at h3; omega⟩
theorem BG : nS Tryz.prog 22 (fun q => ∃ l : List Int, q = aJ aF l ∧ (∀ x ∈ l, -9223372036854775808 ≤ x ∧ x < 9223372036854775808) ∧ l.length < 9223372036854775808) :=
  (nS.slice (e := 3) (by kernel_rfl) (by rw [show Tryz.prog.cellsOf 3 = 1 by kernel_rfl]; decide) GV).mono fun q ⟨l, h1, h2, h3⟩ => by
    obtain ⟨m, rfl, hm⟩ := maps (g := aF) (Q := fun n => -9223372036854775808 ≤ n ∧ n < 9223372036854775808) (fun ps h => h) h2
    exact ⟨m, h1, hm, by rw [List.length_map] at h3; simp only [maxLen] at h3; omega⟩
set_option maxRecDepth 100000 in
theorem lifted (os : Os) (started : os.Started) (H : Type) (enc : TypeId × Value → H) :
    ReturnsInHanded {} Tryz.checked os 3 .any (Rows.isolateRootsSpec.pre6 enc Tryz.prog Tryz.f3 Rows.isolateRootsRow.domain false) (Rows.isolateRootsSpec.post enc Tryz.prog Tryz.f3 false true false false) := by
  refine zJ (C := Tryz.checked) (Qs := [fun q => ∃ l : List Int, q = aJ aF l ∧ (∀ x ∈ l, -9223372036854775808 ≤ x ∧ x < 9223372036854775808) ∧ l.length < 9223372036854775808]) (tb := 4) own laidOut started (by kernel_rfl) Tryz.func3
    (ChangeSpec.witness6 (enc := enc) (C := Tryz.checked) false ⟨#[], #[.slice none 0 0], []⟩ 16 (by kernel_rfl) (by kernel_rfl) (by kernel_rfl) (by kernel_rfl)) rfl ?_ (by kernel_rfl) (by kernel_rfl) ?_ ?_
  · intro ds h
    rw [show Tryz.f3.params.size = 1 by kernel_rfl] at h
    match ds, h with
    | [_], _ => rfl
  · rw [show Tryz.f3.params.toList = [22] by kernel_rfl]
    exact ⟨BG, by kernel_rfl, of_decide_eq_true (by kernel_rfl), trivial⟩
  · rintro ps h
    obtain ⟨_, _, rfl, ⟨a0, rfl, h0, g0⟩, rfl⟩ := h
    exact vG a0 h0 g0
theorem z1 : (Rows.isolateRootsRow.inPlace == Tryz.pinned.checked.prog.inPlace 3) = true := by kernel_rfl
theorem z2 : (Rows.isolateRootsRow.unfollowed == Tryz.pinned.checked.prog.unfollowed 3) = true := by kernel_rfl
theorem z3 : (Rows.isolateRootsRow.recurses == Tryz.pinned.checked.prog.recurses 3) = true := by kernel_rfl
theorem z4 : (Rows.isolateRootsRow.named == Tryz.pinned.checked.prog.varsNamed 3) = true := by kernel_rfl
theorem closed : joinedFacts Tryz.pinned.checked.prog 3 Tryz.f3 Rows.isolateRootsSpec Rows.isolateRootsRow = true := by
  unfold joinedFacts
  rw [z1, z2, z3, z4]
  kernel_rfl
theorem proved : Rows.IsolateRootsSaid :=
  OpenClaim.holds_of_wide 3 Tryz.f3 rfl rfl rfl rfl rfl rfl rfl ⟨rfl, rfl, rfl, rfl, rfl⟩ rfl rfl rfl rfl rfl (by kernel_rfl) Tryz.func3 closed
    (of_decide_eq_true (by kernel_rfl)) (by unfold Func.isWrapper; first | (rw [if_pos (by decide +kernel)]; kernel_rfl) | (rw [if_neg (by decide +kernel)]; exact ⟨rfl, rfl⟩))
    (fun os started H enc _ => lifted os started H enc)
#print axioms proved
end Go.Proofs.YtbbjgncblhfegaaGreat.isolateRoots
