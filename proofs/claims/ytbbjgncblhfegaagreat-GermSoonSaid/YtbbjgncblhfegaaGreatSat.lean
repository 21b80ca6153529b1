import Derived.Test.YtbbjgncblhfegaaGreatSar
import Derived.Test.YtbbjgncblhfegaaGreatSas
set_option linter.unusedSimpArgs false
set_option linter.unusedVariables false
namespace Go.Proofs.YtbbjgncblhfegaaGreat
open Go Pm
open ZX hiding N W
theorem ae8 (x y : ZX) : bK (x + y) = bK x + bK y := ext fun t => by
 rw [w6, iU, w6, w6]
 refine F3 fun h => ?_
 obtain ⟨R, hR⟩ := vF t h x.l
 obtain ⟨S, hS⟩ := vF t h y.l
 refine ⟨R + S, ?_⟩
 rw [iU, iU, hR, hS]; grind
theorem K5 (q : Rat) : bK (iK q) = K (q.den : Int) := ext fun t => by
 rw [w6, rE]
 refine F3 fun h => ⟨0, ?_⟩
 rw [iK, B6, B6]
 simp only [V]
 grind
def lj (t : Rat) (j : Nat) (b : ZX) : ZX := iK t * bK b + K ((j : Int) * (t.den : Int)) * b
theorem akt (t : Rat) (j : Nat) (b : ZX) : bK (lj t j b) = lj t (j + 1) (bK b) := by
 unfold lj
 rw [ae8, oD, AH, K5, show ((j + 1 : Nat) : Int) * (t.den : Int) = (t.den : Int) + (j : Int) * (t.den : Int) by rw [Int.natCast_add, Int.add_mul]; omega, show K ((t.den : Int) + (j : Int) * (t.den : Int)) = K (t.den : Int) + K ((j : Int) * (t.den : Int)) from ext fun x => by rw [iU, rE, rE, rE]]
 grind
theorem avk {t : Rat} {j : Nat} (hj : 1 ≤ j) (b : ZX) : s0 (lj t j b).l t.num t.den = s0 b.l t.num t.den := by
 rw [j9, j9, lj, aaW, iW, iW, GM, F9]
 have h1 : (0 : Int) < (j : Int) * (t.den : Int) := Int.mul_pos (by omega) (by have := t.den_pos; omega)
 have h2 : (0 : Rat) < (((j : Int) * (t.den : Int) : Int) : Rat) := Rat.intCast_pos.2 h1
 generalize (((j : Int) * (t.den : Int) : Int) : Rat) = c at *
 rw [show ((t.den : Int) : Rat) * (t - t) * e t (bK b) + c * e t b = c * e t b by grind, mK, dK h2, Int.one_mul]
theorem SP (t : Rat) : ∀ (k j : Nat) (b : ZX), 1 ≤ j → lW t.num t.den k (lj t j b) = lW t.num t.den k b
 | 0, _, _, _ => rfl
 | k + 1, j, b, hj => by rw [lW, lW, avk hj, akt, SP t k (j + 1) (bK b) (by omega)]
theorem abI {t : Rat} {q : ZX} (hq : q ≠ 0) : RU t.num t.den (q * iK t) = RU t.num t.den q := by
 have h0 : iK t ≠ 0 := ZX.aD.2 (by rw [oH]; decide)
 have hN : ZX.N (q * iK t) = ZX.N q + 1 := by rw [ZX.gE hq h0, oH]; omega
 have h1 : s0 (q * iK t).l t.num t.den = 0 := by
  rw [j9, iW, GM, show e t q * (((t.den : Int) : Rat) * (t - t)) = 0 by grind, jJ]
 have h2 : bK (q * iK t) = lj t 1 q := by
  rw [oD, K5, lj, show ((1 : Nat) : Int) * (t.den : Int) = (t.den : Int) by omega]; grind
 unfold RU
 rw [hN, lW, if_pos h1, h2, SP t _ 1 q (Nat.le_refl _)]
theorem aku {c : Int} (hc : c ≠ 0) (t : Rat) (p : ZX) : bO (c : Rat) * RU t.num t.den (K c * p) = RU t.num t.den p := by
 have hcr : (c : Rat) ≠ 0 := fun h => hc (Rat.intCast_eq_zero_iff.1 h)
 have hs : bO (c : Rat) * bO (c : Rat) = 1 := by rcases cB (c : Rat) with ⟨h1, h2⟩ | ⟨h1, h2⟩ | ⟨h1, h2⟩ <;> rw [h2] <;> first | rfl | exact absurd h1 hcr
 have h0 : bO (c : Rat) ≠ 0 := fun h => hcr (dI.1 h)
 have key : ∀ (k : Nat) (p : ZX), bO (c : Rat) * lW t.num t.den k (K c * p) = lW t.num t.den k p := fun k => by
  induction k with
  | zero => intro p; rw [lW, lW, Int.mul_zero]
  | succ k ih =>
   intro p
   have e1 : bO (e t (K c * p)) = bO (c : Rat) * bO (e t p) := by rw [iW, F9, mK]
   rw [lW, lW, j9, j9, e1, AH]
   by_cases h : bO (e t p) = 0
   ·rw [h, Int.mul_zero, if_pos rfl, if_pos rfl, ih]
   ·rw [if_neg h, if_neg (fun h1 => (Int.mul_eq_zero.1 h1).elim h0 h), ← Int.mul_assoc, hs, Int.one_mul]
 unfold RU
 rw [key]
 by_cases hp : p = 0
 ·rw [hp, j4, j4]
 ·exact RV (by have h1 := ZX.gE (ZX.mX hc) hp; rw [ZX.N_K hc] at h1; omega) (Nat.le_refl _)
theorem K6 (t : Rat) : ∀ (m : Nat) (p : ZX), ZX.N p ≤ m → p ≠ 0 → ∃ r : Rat, 0 < r ∧ ∀ x, t < x → x ≤ t + r → bO (e x p) = RU t.num t.den p ∧ e x p ≠ 0
 | 0, p, hm, h0 => absurd hm (by have := ZX.aD.1 h0; omega)
 | m + 1, p, hm, h0 => by
  have hN := ZX.aD.1 h0
  by_cases he : e t p = 0
  ·obtain ⟨c, hc, q, hq⟩ := aeP.1 he
   have uO : iK t ≠ 0 := ZX.aD.2 (by rw [oH]; decide)
   have DB : q ≠ 0 := fun h => by
    rw [h] at hq
    exact ZX.fM (ZX.mX hc) h0 (by rw [hq]; grind)
   have FP := congrArg ZX.N hq
   rw [ZX.gE (ZX.mX hc) h0, ZX.N_K hc, ZX.gE DB uO, oH] at FP
   obtain ⟨r, hr, h1⟩ := K6 t m q (by omega) DB
   refine ⟨r, hr, fun x hx hxr => ?_⟩
   obtain ⟨h2, h3⟩ := h1 x hx hxr
   have h4 : (c : Rat) * e x p = e x q * e x (iK t) := by rw [← F9 (t := x) c, ← iW, hq, iW]
   have hd : (0 : Rat) < ((t.den : Int) : Rat) := Rat.intCast_pos.2 (by have := t.den_pos; omega)
   have h5 : 0 < e x (iK t) := by rw [GM]; exact Rat.mul_pos hd (by grind)
   have hcr : (c : Rat) ≠ 0 := fun h => hc (Rat.intCast_eq_zero_iff.1 h)
   have h6 := qZ hcr h4
   rw [dK h5, Int.mul_one, h2] at h6
   have h7 := aku hc t p
   rw [hq, abI DB] at h7
   refine ⟨by rw [h6, h7], fun h => ?_⟩
   rw [h, Rat.mul_zero] at h4
   rcases Rat.mul_eq_zero.1 h4.symm with h8 | h8
   ·exact h3 h8
   ·rw [h8] at h5; exact absurd h5 (by decide)
  ·obtain ⟨r, hr, h1⟩ := SC he
   have h2 : RU t.num t.den p = bO (e t p) := by
    unfold RU
    obtain ⟨k, hk⟩ : ∃ k, ZX.N p = k + 1 := ⟨ZX.N p - 1, by omega⟩
    rw [hk, lW, j9, if_neg fun h => he (dI.1 h)]
   refine ⟨r, hr, fun x hx hxr => ?_⟩
   have h3 := h1 x (by grind) hxr
   exact ⟨by rw [h3, h2], fun h => he (dI.1 (by rw [← h3, h, jJ]))⟩
theorem SR {F : ZX} {v : Rat → Nat} (nF : Nf F) (cF : BH F (bK F)) (SF : uW F v) (hF : ZX.N F ≤ 20) {t hi : Rat} (h : t < hi) (hv : v t = v hi) : ∀ (m : Nat) (p : ZX), ZX.N p ≤ m → p ≠ 0 → (∀ q, nO q → min (mu q p) 1 ≤ mu q F) → ∀ s, t < s → s ≤ hi → e s p ≠ 0 ∧ bO (e s p) = bO (e hi p)
 | 0, p, hm, h0, _, _, _, _ => absurd hm (by have := ZX.aD.1 h0; omega)
 | m + 1, p, hm, h0, hmu, s, h1, h2 => by
  have hN := ZX.aD.1 h0
  by_cases hN1 : ZX.N p ≤ 1
  ·obtain ⟨c, hc, rfl⟩ := ZX.lL (x := p) (by omega)
   rw [F9, F9]
   exact ⟨fun h => hc (Rat.intCast_eq_zero_iff.1 h), rfl⟩
  obtain ⟨nf, hf⟩ := ON h0
  have hd : dv (sq p) F := (iV nf.ne nF.ne).2 fun q hq => by rw [hf q hq]; exact hmu q hq
  obtain ⟨w, S⟩ := vS (h := sq p) nF cF
  have hg : gz F (sq p) = sq p := Nf.tZ S.ng nf fun q hq => by
   rw [(fN F (sq p)).mu nF.ne nf.ne hq]
   have := (iV nf.ne nF.ne).1 hd q hq
   omega
  rw [hg] at S
  have hSN := S.N
  have Sw := VW S.nw.ne S.sw (by omega)
  have Sf := VW S.ng.ne S.sg (by omega)
  have c1 := S.cnt SF Sf Sw (Rat.le_of_lt h)
  have m1 := Sf.dE (Rat.le_of_lt h)
  have m2 := Sw.dE (Rat.le_of_lt h)
  have m3 := Sf.dE (Rat.le_of_lt h1)
  have m4 := Sf.dE h2
  obtain ⟨f1, f2⟩ := Sf.flat h1 (by omega)
  have f3 : bO (e hi (sq p)) = bO (e s (sq p)) := by
   rcases Rat.le_iff_lt_or_eq.1 h2 with h3 | h3
   ·exact (Sf.flat h3 (by omega)).2 f1
   ·rw [h3]
  obtain ⟨c, hc, q, hq⟩ := aeO h0
  have DB : q ≠ 0 := fun h => by
   rw [h] at hq
   exact ZX.fM (ZX.mX hc) h0 (by rw [hq]; grind)
  have FP := congrArg ZX.N hq
  rw [ZX.gE (ZX.mX hc) h0, ZX.N_K hc, ZX.gE DB nf.ne] at FP
  have hfN : 2 ≤ ZX.N (sq p) := Nat.not_lt.1 fun h3 => by
   obtain ⟨d, FK, MB⟩ := lM _ p (Nat.le_refl _) (by omega)
   have h5 := hf d FK
   have h6 := (kQ FK h0 (k := 1)).2 (by rw [pow_succ', cY, show (1 : ZX) * d = d by grind]; exact MB)
   rw [nf.N1 (by omega), NZ FK] at h5
   omega
  have hqm : ∀ r, nO r → min (mu r q) 1 ≤ mu r F := fun r hr => by
   have h3 := hmu r hr
   have h4 := congrArg (mu r) hq
   rw [mY hr (ZX.mX hc) h0, mY hr DB nf.ne, U4 hr hc] at h4
   omega
  obtain ⟨q1, q2⟩ := SR nF cF SF hF h hv m q (by omega) DB hqm s h1 h2
  have hcr : (c : Rat) ≠ 0 := fun h => hc (Rat.intCast_eq_zero_iff.1 h)
  have g : ∀ x, (c : Rat) * e x p = e x q * e x (sq p) := fun x => by rw [← F9 (t := x) c, ← iW, hq, iW]
  refine ⟨fun h3 => ?_, ?_⟩
  ·have h4 := g s
   rw [h3, Rat.mul_zero] at h4
   rcases Rat.mul_eq_zero.1 h4.symm with h5 | h5
   ·exact q1 h5
   ·exact f1 h5
  ·rw [qZ hcr (g s), qZ hcr (g hi), q2, f3]
theorem avm {p : ZX} (h0 : p ≠ 0) (hN : ZX.N (sq p) ≤ 20) (S : uW (sq p) (vt (bB (sq p)))) (hc : BH (sq p) (bK (sq p))) {t hi : Rat} (h : t < hi) (hv : vt (bB (sq p)) t = vt (bB (sq p)) hi) : RU t.num t.den p = bO (e hi p) ∧ bO (e hi p) ≠ 0 := by
 obtain ⟨nf, hf⟩ := ON h0
 have k := SR nf hc S hN h hv _ p (Nat.le_refl _) h0 (fun q hq => by rw [hf q hq]; exact Nat.le_refl _)
 obtain ⟨r, hr, h1⟩ := K6 t _ p (Nat.le_refl _) h0
 obtain ⟨x, hx1, hx2, hx3⟩ : ∃ x, t < x ∧ x ≤ t + r ∧ x ≤ hi := by
  by_cases h2 : t + r ≤ hi
  ·exact ⟨t + r, by grind, Rat.le_refl, h2⟩
  ·exact ⟨hi, h, by grind, Rat.le_refl⟩
 obtain ⟨a1, a2⟩ := h1 x hx1 hx2
 obtain ⟨a3, a4⟩ := k x hx1 hx3
 exact ⟨by rw [← a1, a4], fun hz => (k hi h Rat.le_refl).1 (dI.1 hz)⟩
def rF (t : Rat) : Nat → Rat
 | 0 => t + 1
 | j + 1 => (t + rF t j) / 2
theorem V6 {l al pl xl : List Int} {n d k kk : Int} {c C : List ZX} {t : Rat} {bt : Nat → Int} (hM : aJ env.P 20 [aI aF l, .int .i64 5] (PI al)) (hS : aJ env.P 36 [.int .i64 n, .int .i64 d] (RR t)) (hR : aJ env.P 56 [R2 t.num t.den] (AP [-t.num, t.den] C t.num t.den))
  (hW : aJ env.P 48 [.int .i64 k, .int .i64 3] (.int .i64 kk)) (hP : aJ env.P 55 [PI [-t.num, t.den], .int .i64 kk] (PI pl)) (hX : aJ env.P 54 [PI al, PI pl] (PI xl)) (hT : aJ env.P 22 [PI xl] (Po xl)) (hC : aJ env.P 57 [PI xl] (aI zq c))
  (hO : aJ env.P 47 [.int .i64 1, .int .i64 1] (RR 1)) (hA : aJ env.P 58 [RR t, RR 1] (RR (t + 1))) (hB : ∀ j, j ≤ 60 → aJ env.P 59 [aI zq c, RR t, RR (rF t j)] (.int .i64 (bt j))) (hH : ∀ j, j < 60 → aJ env.P 60 [RR t, RR (rF t j)] (RR (rF t (j + 1))))
  (hrt : aJ env.P 35 [RR t] (RT t)) (hrj : ∀ j, j ≤ 60 → aJ env.P 35 [RR (rF t j)] (RT (rF t j))) (hF : ∀ j, j ≤ 60 → ¬ 0 < bt j → ∃ a : Int, aJ env.P 61 [Po xl, RT t] (.int .i64 a) ∧ aJ env.P 62 [Po xl, RT (rF t j)] (.int .i64 a) ∧ a ≠ 0) :
  aJ env.P 10 [aI aF l, .int .i64 n, .int .i64 d, .int .i64 k] (.bool true) := by
 have hw := K4
 rw [bN] at hS hrt
 rw [bN, bN, bN] at hA
 rw [bN] at hO
 replace hrt : aJ env.P 35 [R2 t.num t.den] (T2 t.num t.den) := hrt
 replace hB : ∀ j, j ≤ 60 → aJ env.P 59 [aI zq c, R2 t.num t.den, R2 (rF t j).num (rF t j).den] (.int .i64 (bt j)) := fun j hj => by have := hB j hj; rwa [bN, bN] at this
 replace hH : ∀ j, j < 60 → aJ env.P 60 [R2 t.num t.den, R2 (rF t j).num (rF t j).den] (R2 (rF t (j + 1)).num (rF t (j + 1)).den) := fun j hj => by have := hH j hj; rwa [bN, bN, bN] at this
 replace hrj : ∀ j, j ≤ 60 → aJ env.P 35 [R2 (rF t j).num (rF t j).den] (T2 (rF t j).num (rF t j).den) := fun j hj => by have := hrj j hj; rwa [bN] at this
 replace hF : ∀ j, j ≤ 60 → ¬ 0 < bt j → ∃ a : Int, aJ env.P 61 [Po xl, T2 t.num t.den] (.int .i64 a) ∧ aJ env.P 62 [Po xl, T2 (rF t j).num (rF t j).den] (.int .i64 a) ∧ a ≠ 0 := hF
 have h0 : rF t 0 = t + 1 := rfl
 generalize rF t = hv at *
 rw [← h0] at hA
 clear h0
 generalize hen : (1 : Rat).num = en at *
 generalize hed : ((1 : Rat).den : Int) = ed at *
 clear hen hed
 generalize t.num = tn at *
 generalize (t.den : Int) = td at *
 refine aB (E := env) (fun _ => 0) [(0, aI aF l), (1, .int .i64 n), (2, .int .i64 d), (3, .int .i64 k)] Tryz.func10 rfl (by kernel_rfl) (by kernel_rfl) (show 4 ≤ 73 by decide) (by simp) ?_
 refine W.sr ?_; simp (disch := omega) [gw]; refine W.lx [0, 1, 2, 3] ?_; simp
 refine W.sr ?_
 simp (disch := omega) [gw]
 refine aA hS ?_
 simp (disch := omega) [gw]
 refine W.lx [0, 3, 9] ?_; simp
 refine W.sd ?_
 simp (disch := omega) [gw]
 refine aA hM ?_
 simp (disch := omega) [gw]
 refine aA hR ?_
 simp (disch := omega) [gw]
 refine aA hW ?_
 simp (disch := omega) [gw]
 refine aA hP ?_
 simp (disch := omega) [gw]
 refine aA hX ?_
 simp (disch := omega) [gw]
 refine W.lx [9, 10] ?_; simp
 refine W.sr ?_
 simp (disch := omega) [gw]
 refine aA hT ?_
 simp (disch := omega) [gw]
 refine W.lx [9, 10, 11] ?_; simp
 refine W.sr ?_
 simp (disch := omega) [gw]
 refine aA hC ?_
 simp (disch := omega) [gw]
 refine W.lx [9, 11, 12] ?_; simp
 refine W.sd ?_
 simp (disch := omega) [gw]
 refine aA hO ?_
 simp (disch := omega) [gw]
 refine aA hA ?_
 simp (disch := omega) [gw]
 (try (refine bS (of_decide_eq_true (by kernel_rfl)) ?_)); (try simp (maxSteps := 4000000) (disch := omega) [gw]); (repeat rw [if_pos (by kernel_rfl)]); (try simp (maxSteps := 4000000) (disch := omega) [gw])
 refine W.lx [9, 11, 12, 13] ?_; simp
 refine W.seq ?_
 refine W.sr ?_; simp (disch := omega) [gw]; refine W.lx [9, 11, 12, 13, 14] ?_; simp
 refine W.block ?_
 refine W.a9 (fun k' σ => ∃ (j v9 v13 : Nat) (rows : Pm.Rows) (clk : Nat), σ = ⟨fa [(9, .ptr 9 v9 0 0), (11, Po xl), (12, aI zq c), (13, .ptr 13 v13 0 0), (14, .int .i64 j)], rows, clk⟩ ∧ rows 9 = some ⟨v9, 50, 4, [c4 tn td]⟩ ∧ rows 13 = some ⟨v13, 50, 4, [c4 (hv j).num (hv j).den]⟩ ∧ j + k' = 60) 60 ?_ ?_
 ·exact ⟨_, .refl, 0, _, _, _, _, rfl, by simp, by simp, by omega⟩
 rintro k' _ ⟨j, v9, v13, rows, clk, rfl, FZ, BD, hjk⟩
 simp only [c4] at FZ BD
 have akv : j ≤ 60 := by omega
 have hBj := hB j akv
 have hHj := hH j
 have ae9 := hrj j akv
 have hFj := hF j akv
 generalize hbt : bt j = b at *
 refine W.seq ?_
 by_cases hc : j < 60 ∧ 0 < b
 ·obtain ⟨hj, hb⟩ := hc
  have avo := hHj hj
  have XB : (j : Int) < 60 := by omega
  refine W.sr ?_
  simp (disch := omega) [gw, XB, FZ, BD]
  refine aA hBj ?_
  simp (disch := omega) [gw, XB, hb]
  refine W.lx [9, 11, 12, 13, 14, 42] ?_; simp
  refine W.cond ⟨_, rfl, fun h => ?_, fun h => ?_⟩
  ·refine W.skip ?_
   refine W.seq ?_
   refine W.block ?_
   refine W.b8 (fun K hK => ?_)
   simp (disch := omega) [gw, FZ, BD]
   refine aA avo ?_
   simp (disch := omega) [gw, BD]
   refine W.lw [9, 11, 12, 13, 14] hK ?_; clear hK K; simp
   refine W.b8 (fun K hK => ?_); simp (disch := omega) [gw]
   refine hK _ ⟨k' - 1, _, aC _ [9, 11, 12, 13, 14], by omega, j + 1, v9, v13, _, _, rfl, by simp [FZ], by simp, by omega⟩
  ·simp at h
 ·by_cases hj : j < 60
  ·have hb : ¬ 0 < b := fun hh => hc ⟨hj, hh⟩
   have XB : (j : Int) < 60 := by omega
   refine W.sr ?_
   simp (disch := omega) [gw, XB, FZ, BD]
   refine aA hBj ?_
   simp (disch := omega) [gw, XB, hb]
   refine W.lx [9, 11, 12, 13, 14, 42] ?_; simp
   refine W.cond ⟨_, rfl, fun h => ?_, fun h => ?_⟩
   ·simp at h
   obtain ⟨r, g1, g2, g3⟩ := hFj hb
   have g3' : (r != 0) = true := by simpa using g3
   refine W.exit ?_; simp only [pX, if_true, if_false, reduceIte, Nat.reduceEqDiff]
   refine W.seq ?_
   refine W.sr ?_
   simp (disch := omega) [gw, FZ, BD]
   refine aA hBj ?_
   simp (disch := omega) [gw, hb]
   refine W.lx [9, 11, 13, 52] ?_; simp
   refine W.cond ⟨_, rfl, fun h => ?_, fun h => ?_⟩
   ·simp at h
   refine W.skip ?_
   refine W.sd ?_
   simp (disch := omega) [gw, FZ]
   refine aA hrt ?_
   simp (disch := omega) [gw]
   refine aA g1 ?_
   simp (disch := omega) [gw, BD]
   refine aA ae9 ?_
   simp (disch := omega) [gw]
   refine aA g2 ?_
   simp (disch := omega) [gw, BD]
   refine aA ae9 ?_
   simp (disch := omega) [gw]
   refine aA g2 ?_
   simp (disch := omega) [gw, g3']
   refine aA hw ?_
   simp (disch := omega) [gw]
   refine W.lx [8] ?_; simp
   refine W.ret ?_
   simp [go]
  ·have XB : ¬ (j : Int) < 60 := by omega
   refine W.sr ?_
   simp (disch := omega) [gw, XB]
   refine W.lx [9, 11, 12, 13, 14, 42] ?_; simp
   refine W.cond ⟨_, rfl, fun h => ?_, fun h => ?_⟩
   ·simp at h
   refine W.exit ?_; simp only [pX, if_true, if_false, reduceIte, Nat.reduceEqDiff]
   refine W.seq ?_
   refine W.sr ?_
   simp (disch := omega) [gw, FZ, BD]
   refine aA hBj ?_
   simp (disch := omega) [gw]
   refine W.lx [9, 11, 13, 52] ?_; simp
   refine W.cond ⟨_, rfl, fun h => ?_, fun h => ?_⟩
   ·refine W.sr ?_
    simp (disch := omega) [gw]
    refine aA hw ?_
    simp (disch := omega) [gw]
    refine W.lx [8] ?_; simp
    refine W.ret ?_
    simp [go]
   ·have hb : ¬ 0 < b := by simpa using h
    obtain ⟨r, g1, g2, g3⟩ := hFj hb
    have g3' : (r != 0) = true := by simpa using g3
    refine W.skip ?_
    refine W.sd ?_
    simp (disch := omega) [gw, FZ]
    refine aA hrt ?_
    simp (disch := omega) [gw]
    refine aA g1 ?_
    simp (disch := omega) [gw, BD]
    refine aA ae9 ?_
    simp (disch := omega) [gw]
    refine aA g2 ?_
    simp (disch := omega) [gw, BD]
    refine aA ae9 ?_
    simp (disch := omega) [gw]
    refine aA g2 ?_
    simp (disch := omega) [gw, g3']
    refine aA hw ?_
    simp (disch := omega) [gw]
    refine W.lx [8] ?_; simp
    refine W.ret ?_
    simp [go]
end Go.Proofs.YtbbjgncblhfegaaGreat
