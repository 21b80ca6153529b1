/- For every input the law GermProducts of chapter 11 returns true, and each argument reads afterwards as it read before. No conditions. -/
import Derived.Test.YtelhfbikiccfkaaGreatRows
import Derived.Test.YtelhfbikiccfkaaGreatBat
set_option linter.unusedSimpArgs false
set_option linter.unusedVariables false
namespace Go.Proofs.YtelhfbikiccfkaaGreat
open Go Pm
open ZX hiding N W
theorem wM {l m p al bl cl dl nl x : List Int} {i s t : Int} {cc : List ZX} {an ad bn bd : Int} (hP : aG env.P 28 [aI aF l, .int .i64 i] (.ag (lR x cc an ad bn bd))) (hTA : aG env.P 34 [.ag (lR x cc an ad bn bd)] (.ag (G9 x an ad bn bd))) (hM1 : aG env.P 29 [aI aF m, .int .i64 3] (PI al)) (hM2 : aG env.P 29 [aI aF p, .int .i64 3] (PI bl)) (hT1 : aG env.P 33 [PI al] (Po al)) (hT2 : aG env.P 33 [PI bl] (Po bl))
  (k1 : aG env.P 32 [Po al, .ag (G9 x an ad bn bd)] (.int .i64 s)) (k2 : aG env.P 32 [Po bl, .ag (G9 x an ad bn bd)] (.int .i64 t)) (hs : s = 1 ∨ s = -1) (ht : t = 1 ∨ t = -1) (m1 : aG env.P 16 [Po al, Po bl] (Po cl)) (m2 : aG env.P 16 [Po al, Po al] (Po dl)) (m3 : aG env.P 41 [Po al] (Po nl)) (k3 : aG env.P 32 [Po cl, .ag (G9 x an ad bn bd)] (.int .i64 (s * t))) (k4 : aG env.P 32 [Po dl, .ag (G9 x an ad bn bd)] (.int .i64 1)) (k5 : aG env.P 32 [Po nl, .ag (G9 x an ad bn bd)] (.int .i64 (-s))) (k6 : aG env.P 32 [Po [], .ag (G9 x an ad bn bd)] (.int .i64 0)) :
  aG env.P 6 [aI aF l, .int .i64 i, aI aF m, aI aF p] (.bool true) := by
 have hw := rN
 have w1 : IntKind.wrap .i64 (s * t) = s * t := by rcases hs with rfl | rfl <;> rcases ht with rfl | rfl <;> decide
 have w2 : IntKind.wrap .i64 (-s) = -s := by rcases hs with rfl | rfl <;> decide
 have n1 : (s != 0) = true := by rcases hs with rfl | rfl <;> decide
 have n2 : (t != 0) = true := by rcases ht with rfl | rfl <;> decide
 replace k6 : aG env.P 32 [.sl [], .ag (G9 x an ad bn bd)] (.int .i64 0) := k6
 simp only [lR, G9] at *
 refine bV [(0, aI aF l), (1, .int .i64 i), (2, aI aF m), (3, aI aF p)] Tryz.func6 ?_
 refine aA [0, 1, 2, 3] ?_
 refine iU ?_
 refine bZ hP ?_
 refine cI [2, 3, 9] hTA ?_
 refine iU ?_
 refine bZ hM1 ?_
 refine bZ hT1 ?_
 refine bZ hM2 ?_
 refine cI [9, 10, 11] hT2 ?_
 refine oE ?_
 refine bZ k1 ?_
 refine cI [9, 10, 11, 12, 13] k2 ?_
 refine W.sd ?_
 simp (disch := omega) [gw, n1, n2]
 refine bZ m1 ?_
 refine aD k3 ?_
 simp (disch := omega) [gw, w1]
 refine bZ m2 ?_
 refine bZ k4 ?_
 refine bZ m3 ?_
 refine aD k5 ?_
 simp (disch := omega) [gw, w2]
 refine bZ k6 ?_
 refine cI [8] hw ?_
 exact bT
theorem x6 (l : List Int) (i : Int) (m p : List Int) (hb : ∀ x ∈ l, -9223372036854775808 ≤ x ∧ x < 9223372036854775808) (hl : l.length < 9223372036854775808) (hi : -9223372036854775808 ≤ i ∧ i < 9223372036854775808) (hmb : ∀ x ∈ m, -9223372036854775808 ≤ x ∧ x < 9223372036854775808) (hml : m.length < 9223372036854775808) (hpb : ∀ x ∈ p, -9223372036854775808 ≤ x ∧ x < 9223372036854775808) (SM : p.length < 9223372036854775808) :
  aG env.P 6 [aI aF l, .int .i64 i, aI aF m, aI aF p] (.bool true) := by
 obtain ⟨f, q, hP, A, hE, _, _⟩ := NV (l := l) (k := i) hl hi
 have e1 : 3 * 9 ^ 3 = 2187 := by decide
 have mk : ∀ r : List Int, made r 3 ≠ 0 ∧ BZ 12 4 (made r 3) := fun r => by
  obtain ⟨a1, a2⟩ := JG r 3
  rw [e1] at a1
  exact ⟨(AA r 3).1, BZ.acZ (by show _ < 4096; omega) a2⟩
 have hM1 := wI m hml hmb 3 (by decide)
 have hM2 := wI p SM hpb 3 (by decide)
 obtain ⟨a0, ba⟩ := mk m
 obtain ⟨b0, bb⟩ := mk p
 generalize made m 3 = a at *
 generalize made p 3 = b at *
 have big : ∀ {c : ZX} {s n : Nat}, BZ s n c → s ≤ 140 → n ≤ 8 → BZ 140 8 c := fun h h1 h2 => h.mono h1 h2
 have ma := ba.N
 have mb := bb.N
 have bab : BZ 140 8 (a * b) := big (ba.X6 bb (show ZX.N (a * b) ≤ 7 by rw [ZX.eI a0 b0]; omega)) (by decide) (by decide)
 have baa : BZ 140 8 (a * a) := big (ba.X6 ba (show ZX.N (a * a) ≤ 7 by rw [ZX.eI a0 a0]; omega)) (by decide) (by decide)
 have hln : (-a).l = gH a.l := rfl
 have bna : BZ 12 4 (-a) := ⟨Nat.le_trans (bP _) (by rw [List.length_map]; exact ba.N), fun c hc => by
  rw [hln] at hc
  have h := lJ _ _ hc
  simp only [List.mem_map] at h
  obtain ⟨d, hd, rfl⟩ := h
  rw [o7]; exact ba.sz d hd⟩
 have fa := A.af a0 (by omega)
 have fb := A.af b0 (by omega)
 have ab0 := ZX.eB a0 b0
 have aa0 := ZX.eB a0 a0
 have na0 : -a ≠ 0 := fun h => a0 (by rw [show a = -(-a) by grind, h]; rfl)
 have k3 := A.at tE bab
 have k4 := A.at tE baa
 have k5 := A.at tE (big bna (by decide) (by decide))
 have k6 := A.at tE (q := 0) ⟨Nat.zero_le _, fun c hc => by cases hc⟩
 have Nab := bab.N
 have Naa := baa.N
 have Nna := bna.N
 rw [(A.af ab0 (by omega)).uniq (fa.mul fb)] at k3
 rw [(A.af aa0 (by omega)).uniq (fa.mul fa)] at k4
 rw [(A.af na0 (by omega)).uniq fa.neg] at k5
 have hz : afU (eO f q) 0 = 0 := rfl
 rw [hz] at k6
 have k1 := A.at tE (big ba (by decide) (by decide))
 have k2 := A.at tE (big bb (by decide) (by decide))
 have sa := fa.abs
 have sb := fb.abs
 have hsq : afU (eO f q) a * afU (eO f q) a = 1 := by rcases sa with h | h <;> rw [h] <;> rfl
 rw [hsq] at k4
 have m3 := xD (x := a.l) (ba.pb (by decide) (by decide))
 exact wM (by rw [aiN] at hP; exact hP) A.toA hM1 hM2 (pL ba (by decide) (by decide)) (pL bb (by decide) (by decide)) k1 k2 sa sb (oQ (EN ba) (EN bb) (by decide)) (oQ (EN ba) (EN ba) (by decide)) m3 k3 k4 k5 k6
end Go.Proofs.YtelhfbikiccfkaaGreat
set_option linter.unusedSimpArgs false
set_option linter.unusedVariables false
namespace Go.Proofs.YtelhfbikiccfkaaGreat.germProducts
open Go Pm Go.ChangeShapes Go.WideShapes Go.ChangeAt Go.RowKit
theorem wN : DX Tryz.prog 3 (fun ps => ∃ n : Int, ps = aF n ∧ -9223372036854775808 ≤ n ∧ n < 9223372036854775808) :=
  (DX.int .i64 (by kernel_rfl)).mono fun ps ⟨n, h1, h2, h3⟩ => ⟨n, h1, by simpa [IntKind.min, IntKind.signed, IntKind.bits] using h2, by simp [IntKind.max, IntKind.signed, IntKind.bits] at h3; omega⟩
theorem lO : pA Tryz.prog 22 (fun q => ∃ l : List Int, q = aI aF l ∧ (∀ x ∈ l, -9223372036854775808 ≤ x ∧ x < 9223372036854775808) ∧ l.length < 9223372036854775808) :=
  (pA.slice (e := 3) (by kernel_rfl) (by rw [show Tryz.prog.cellsOf 3 = 1 by kernel_rfl]; decide) wN).mono fun q ⟨l, h1, h2, h3⟩ => by
    obtain ⟨m, rfl, hm⟩ := maps (g := aF) (Q := fun n => -9223372036854775808 ≤ n ∧ n < 9223372036854775808) (fun ps h => h) h2
    exact ⟨m, h1, hm, by rw [List.length_map] at h3; simp only [maxLen] at h3; omega⟩
set_option maxRecDepth 100000 in
theorem lifted (os : Os) (started : os.Started) (H : Type) (enc : TypeId × Value → H) :
    ReturnsInHanded {} Tryz.checked os 6 .any (Rows.germProductsSpec.pre6 enc Tryz.prog Tryz.f6 Rows.germProductsRow.domain false) (Rows.germProductsSpec.post enc Tryz.prog Tryz.f6 false true false false) := by
  refine BV (C := Tryz.checked) (Qs := [fun q => ∃ l : List Int, q = aI aF l ∧ (∀ x ∈ l, -9223372036854775808 ≤ x ∧ x < 9223372036854775808) ∧ l.length < 9223372036854775808, fun q => ∃ n : Int, q = .int .i64 n ∧ -9223372036854775808 ≤ n ∧ n < 9223372036854775808, fun q => ∃ l : List Int, q = aI aF l ∧ (∀ x ∈ l, -9223372036854775808 ≤ x ∧ x < 9223372036854775808) ∧ l.length < 9223372036854775808, fun q => ∃ l : List Int, q = aI aF l ∧ (∀ x ∈ l, -9223372036854775808 ≤ x ∧ x < 9223372036854775808) ∧ l.length < 9223372036854775808]) (tb := 4) own laidOut started (by kernel_rfl) Tryz.func6
    (ChangeSpec.witness6 (enc := enc) (C := Tryz.checked) false ⟨#[], #[.slice none 0 0, .int .i64 0, .slice none 0 0, .slice none 0 0], []⟩ 16 (by kernel_rfl) (by kernel_rfl) (by kernel_rfl) (by kernel_rfl)) rfl ?_ (by kernel_rfl) (by kernel_rfl) ?_ ?_
  · intro ds h
    rw [show Tryz.f6.params.size = 4 by kernel_rfl] at h
    match ds, h with
    | [_, _, _, _], _ => rfl
  · rw [show Tryz.f6.params.toList = [22, 3, 22, 22] by kernel_rfl]
    exact ⟨lO, by kernel_rfl, of_decide_eq_true (by kernel_rfl), vR, by kernel_rfl, of_decide_eq_true (by kernel_rfl), lO, by kernel_rfl, of_decide_eq_true (by kernel_rfl), lO, by kernel_rfl, of_decide_eq_true (by kernel_rfl), trivial⟩
  · rintro ps h
    obtain ⟨_, _, rfl, ⟨a0, rfl, h0, g0⟩, ⟨_, _, rfl, ⟨a1, rfl, h1⟩, ⟨_, _, rfl, ⟨a2, rfl, h2, g2⟩, ⟨_, _, rfl, ⟨a3, rfl, h3, g3⟩, rfl⟩⟩⟩⟩ := h
    exact x6 a0 a1 a2 a3 h0 g0 h1 h2 g2 h3 g3
theorem z1 : (Rows.germProductsRow.inPlace == Tryz.pinned.checked.prog.inPlace 6) = true := by kernel_rfl
theorem z2 : (Rows.germProductsRow.unfollowed == Tryz.pinned.checked.prog.unfollowed 6) = true := by kernel_rfl
theorem z3 : (Rows.germProductsRow.recurses == Tryz.pinned.checked.prog.recurses 6) = true := by kernel_rfl
theorem z4 : (Rows.germProductsRow.named == Tryz.pinned.checked.prog.varsNamed 6) = true := by kernel_rfl
theorem closed : joinedFacts Tryz.pinned.checked.prog 6 Tryz.f6 Rows.germProductsSpec Rows.germProductsRow = true := by
  unfold joinedFacts
  rw [z1, z2, z3, z4]
  kernel_rfl
theorem proved : Rows.GermProductsSaid :=
  OpenClaim.holds_of_wide 6 Tryz.f6 rfl rfl rfl rfl rfl rfl rfl ⟨rfl, rfl, rfl, rfl, rfl⟩ rfl rfl rfl rfl rfl (by kernel_rfl) Tryz.func6 closed
    (of_decide_eq_true (by kernel_rfl)) (by unfold Func.isWrapper; first | (rw [if_pos (by decide +kernel)]; kernel_rfl) | (rw [if_neg (by decide +kernel)]; exact ⟨rfl, rfl⟩))
    (fun os started H enc _ => lifted os started H enc)
#print axioms proved
end Go.Proofs.YtelhfbikiccfkaaGreat.germProducts
