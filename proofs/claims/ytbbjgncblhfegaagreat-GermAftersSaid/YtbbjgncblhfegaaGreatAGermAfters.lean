/- For every input the law GermAfters of chapter 11 returns true, and each argument reads afterwards as it read before. No conditions. -/
import Derived.Test.YtbbjgncblhfegaaGreatRows
import Derived.Test.YtbbjgncblhfegaaGreatAat
set_option linter.unusedSimpArgs false
set_option linter.unusedVariables false
namespace Go.Proofs.YtbbjgncblhfegaaGreat
open Go Pm
open ZX hiding N W
theorem BA (l : List Int) (n d k : Int) (hb : ∀ x ∈ l, -9223372036854775808 ≤ x ∧ x < 9223372036854775808) (hl : l.length < 9223372036854775808) (hn : -9223372036854775808 ≤ n ∧ n < 9223372036854775808) (hd : -9223372036854775808 ≤ d ∧ d < 9223372036854775808) (hk : -9223372036854775808 ≤ k ∧ k < 9223372036854775808) :
  aI env.P 12 [aJ aF l, .int .i64 n, .int .i64 d, .int .i64 k] (.bool true) := by
 have hM := aa2 l hl hb 5 (by decide)
 obtain ⟨a1, a2⟩ := aeV l 5
 have a0 := (RO l 5).1
 generalize made l 5 = a at *
 have hS := VD n d hn hd
 rw [b9] at hS
 have q5 := aka n d
 have sb := aa7 n d
 generalize sml n d = t at *
 have td : (t.den : Int) ≠ 0 := by have := t.den_pos; omega
 obtain ⟨CC, hR⟩ := GC (n := t.num) (d := t.den) (by omega) (by omega) td
 have hW := jX k 4 hk (by decide) (by decide)
 obtain ⟨K0, hK⟩ : ∃ K0 : Nat, k % 4 = K0 := ⟨(k % 4).toNat, by omega⟩
 have hK3 : K0 < 4 := by omega
 rw [hK] at hW
 have l0 : gT t ≠ 0 := ZX.aD.2 (by rw [oE]; decide)
 have P := abF l0 (SJ sb) (oE t)
 have e1 : 3 * 9 ^ 5 = 177147 := by decide
 have e2 : (2 : Nat) ^ 18 = 262144 := by decide
 have e3 : (2 : Nat) ^ 33 = 8589934592 := by decide
 have e4 : (2 : Nat) ^ 16 = 65536 := by decide
 rw [e1] at a1
 have ba : BZ 18 6 a := BZ.R8 (by omega) a2
 have aqi : ∀ i, i < 4 → 36 ^ i ≤ 46656 := fun i hi => by
  have : i = 0 ∨ i = 1 ∨ i = 2 ∨ i = 3 := by omega
  rcases this with rfl | rfl | rfl | rfl <;> decide
 have bp : ∀ i, i < 4 → BZ 16 4 (gT t ^ i) := fun i hi => BZ.R8 (by have := (P i).1; have := aqi i hi; omega) (by have := (P i).2.1; omega)
 have bl : BZ 16 4 (gT t) := BZ.R8 (by have := SJ sb; omega) (by rw [oE]; decide)
 have hP := DR (a := gT t) (k := K0) (by omega) (fun i hi => jW _ _ 16 16 4 4 (bp i (by omega)) bl (by decide))
 rw [PA] at hP
 have hX : aI env.P 54 [PI a.l, PI (gT t ^ K0).l] (PI (a * gT t ^ K0).l) := jW _ _ 18 16 6 4 ba (bp K0 hK3) (by decide)
 obtain ⟨p1, p2, p3⟩ := P K0
 have SR : a * gT t ^ K0 ≠ 0 := ZX.gC a0 p3
 have az9 : n1 (a * gT t ^ K0) ≤ 177147 * 46656 := Nat.le_trans (AY _ _) (Nat.mul_le_mul a1 (Nat.le_trans p1 (aqi K0 hK3)))
 have bx : BZ 33 9 (a * gT t ^ K0) := BZ.R8 (by omega) (by rw [ZX.iB a0 p3]; omega)
 generalize a * gT t ^ K0 = x at *
 have hT := GG bx (by decide) (by decide)
 have hrt := q5.tor (by decide)
 rw [b9] at hrt
 replace hrt : aI env.P 35 [R2 t.num t.den] (T2 t.num t.den) := hrt
 have s1 : sz 2 t.num ≤ 16 := Nat.le_trans q5.n2 (by decide)
 have s2 : sz 2 (t.den : Int) ≤ 16 := Nat.le_trans q5.d2 (by decide)
 have hA := aaZ (x := [-t.num, (t.den : Int)]) (C := CC) bx (by decide) (by decide) s1 s2
 have hG := sV bx (by decide) (by decide) (eE t) q5.nL q5.dL (by decide) ⟨q5.nL, q5.dL⟩ (by decide)
 have b0 : BZ 33 9 (0 : ZX) := ⟨Nat.zero_le _, fun c hc => by cases hc⟩
 have hG0 := sV b0 (by decide) (by decide) (eE t) q5.nL q5.dL (by decide) ⟨q5.nL, q5.dL⟩ (by decide)
 have hz : D2 t.num t.den (0 : ZX) = 0 := gJ _ _ _
 rw [hz] at hG0
 have tl := GG bl (by decide) (by decide)
 have nl := fG (x := (gT t).l) (bl.pb (by decide) (by decide))
 rw [(gT t).c] at nl
 rw [PA] at tl nl
 have hMx := uG (n := t.num) (d := t.den) (Nat.lt_of_le_of_lt q5.nL (by decide)) (Nat.lt_of_le_of_lt q5.dL (by decide))
 rw [eE] at hMx
 have hc := D0 q5.nL q5.dL q5.nL q5.dL (by decide) (eE t) (eE t) ⟨q5.nL, q5.dL⟩ ⟨q5.nL, q5.dL⟩
 have tI : dC (t.num * (t.den : Int)) (t.num * (t.den : Int)) = 0 := by unfold dC; simp
 rw [tI] at hc
 have hAt := akw (x := [-t.num, (t.den : Int)]) bx (by decide) (by decide) nl hMx hc (fun q s' BG bq => by
  have := vH (G6 bq) q.c q5.nL q5.dL (by decide) (by decide) (by decide) (by omega) (eE t) ⟨q5.nL, q5.dL⟩
  exact this)
 obtain ⟨r, hr, aqj⟩ := K5 t _ x (Nat.le_refl _) SR
 obtain ⟨h1, h2⟩ := aqj (t + r) (by grind) Rat.le_refl
 exact K6 hM hS hR hW hP hX hT hA hrt hG (akv tl hrt) hAt hG0 (fun h => h2 (dH.1 (h1.trans h)))
end Go.Proofs.YtbbjgncblhfegaaGreat
set_option linter.unusedSimpArgs false
set_option linter.unusedVariables false
namespace Go.Proofs.YtbbjgncblhfegaaGreat.germAfters
open Go Pm Go.ChangeShapes Go.WideShapes Go.ChangeAt Go.RowKit
theorem ae6 : G2 Tryz.prog 3 (fun ps => ∃ n : Int, ps = aF n ∧ -9223372036854775808 ≤ n ∧ n < 9223372036854775808) :=
  (G2.int .i64 (by kernel_rfl)).mono fun ps ⟨n, h1, h2, h3⟩ => ⟨n, h1, by simpa [IntKind.min, IntKind.signed, IntKind.bits] using h2, by simp [IntKind.max, IntKind.signed, IntKind.bits] at h3; omega⟩
theorem abH : sB Tryz.prog 22 (fun q => ∃ l : List Int, q = aJ aF l ∧ (∀ x ∈ l, -9223372036854775808 ≤ x ∧ x < 9223372036854775808) ∧ l.length < 9223372036854775808) :=
  (sB.slice (e := 3) (by kernel_rfl) (by rw [show Tryz.prog.cellsOf 3 = 1 by kernel_rfl]; decide) ae6).mono fun q ⟨l, h1, h2, h3⟩ => by
    obtain ⟨m, rfl, hm⟩ := maps (g := aF) (Q := fun n => -9223372036854775808 ≤ n ∧ n < 9223372036854775808) (fun ps h => h) h2
    exact ⟨m, h1, hm, by rw [List.length_map] at h3; simp only [maxLen] at h3; omega⟩
set_option maxRecDepth 100000 in
theorem lifted (os : Os) (started : os.Started) (H : Type) (enc : TypeId × Value → H) :
    ReturnsInHanded {} Tryz.checked os 12 .any (Rows.germAftersSpec.pre6 enc Tryz.prog Tryz.f12 Rows.germAftersRow.domain false) (Rows.germAftersSpec.post enc Tryz.prog Tryz.f12 false true false false) := by
  refine ZF (C := Tryz.checked) (Qs := [fun q => ∃ l : List Int, q = aJ aF l ∧ (∀ x ∈ l, -9223372036854775808 ≤ x ∧ x < 9223372036854775808) ∧ l.length < 9223372036854775808, fun q => ∃ n : Int, q = .int .i64 n ∧ -9223372036854775808 ≤ n ∧ n < 9223372036854775808, fun q => ∃ n : Int, q = .int .i64 n ∧ -9223372036854775808 ≤ n ∧ n < 9223372036854775808, fun q => ∃ n : Int, q = .int .i64 n ∧ -9223372036854775808 ≤ n ∧ n < 9223372036854775808]) (tb := 4) own laidOut started (by kernel_rfl) Tryz.func12
    (ChangeSpec.witness6 (enc := enc) (C := Tryz.checked) false ⟨#[], #[.slice none 0 0, .int .i64 0, .int .i64 0, .int .i64 0], []⟩ 16 (by kernel_rfl) (by kernel_rfl) (by kernel_rfl) (by kernel_rfl)) rfl ?_ (by kernel_rfl) (by kernel_rfl) ?_ ?_
  · intro ds h
    rw [show Tryz.f12.params.size = 4 by kernel_rfl] at h
    match ds, h with
    | [_, _, _, _], _ => rfl
  · rw [show Tryz.f12.params.toList = [22, 3, 3, 3] by kernel_rfl]
    exact ⟨abH, by kernel_rfl, of_decide_eq_true (by kernel_rfl), FL, by kernel_rfl, of_decide_eq_true (by kernel_rfl), FL, by kernel_rfl, of_decide_eq_true (by kernel_rfl), FL, by kernel_rfl, of_decide_eq_true (by kernel_rfl), trivial⟩
  · rintro ps h
    obtain ⟨_, _, rfl, ⟨a0, rfl, h0, g0⟩, ⟨_, _, rfl, ⟨a1, rfl, h1⟩, ⟨_, _, rfl, ⟨a2, rfl, h2⟩, ⟨_, _, rfl, ⟨a3, rfl, h3⟩, rfl⟩⟩⟩⟩ := h
    exact BA a0 a1 a2 a3 h0 g0 h1 h2 h3
theorem z1 : (Rows.germAftersRow.inPlace == Tryz.pinned.checked.prog.inPlace 12) = true := by kernel_rfl
theorem z2 : (Rows.germAftersRow.unfollowed == Tryz.pinned.checked.prog.unfollowed 12) = true := by kernel_rfl
theorem z3 : (Rows.germAftersRow.recurses == Tryz.pinned.checked.prog.recurses 12) = true := by kernel_rfl
theorem z4 : (Rows.germAftersRow.named == Tryz.pinned.checked.prog.varsNamed 12) = true := by kernel_rfl
theorem closed : joinedFacts Tryz.pinned.checked.prog 12 Tryz.f12 Rows.germAftersSpec Rows.germAftersRow = true := by
  unfold joinedFacts
  rw [z1, z2, z3, z4]
  kernel_rfl
theorem proved : Rows.GermAftersSaid :=
  OpenClaim.holds_of_wide 12 Tryz.f12 rfl rfl rfl rfl rfl rfl rfl ⟨rfl, rfl, rfl, rfl, rfl⟩ rfl rfl rfl rfl rfl (by kernel_rfl) Tryz.func12 closed
    (of_decide_eq_true (by kernel_rfl)) (by unfold Func.isWrapper; first | (rw [if_pos (by decide +kernel)]; kernel_rfl) | (rw [if_neg (by decide +kernel)]; exact ⟨rfl, rfl⟩))
    (fun os started H enc _ => lifted os started H enc)
#print axioms proved
end Go.Proofs.YtbbjgncblhfegaaGreat.germAfters
