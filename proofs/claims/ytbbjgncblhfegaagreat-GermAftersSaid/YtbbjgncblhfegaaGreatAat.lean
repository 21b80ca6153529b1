import Derived.Test.YtbbjgncblhfegaaGreatAar
import Derived.Test.YtbbjgncblhfegaaGreatAas
set_option linter.unusedSimpArgs false
set_option linter.unusedVariables false
namespace Go.Proofs.YtbbjgncblhfegaaGreat
open Go Pm
open ZX hiding N W
theorem ae4 (x y : ZX) : bK (x + y) = bK x + bK y := ext fun t => by
 rw [wV, iU, wV, wV]
 refine FY fun h => ?_
 obtain ⟨R, hR⟩ := vD t h x.l
 obtain ⟨S, hS⟩ := vD t h y.l
 refine ⟨R + S, ?_⟩
 rw [iU, iU, hR, hS]; grind
theorem K4 (q : Rat) : bK (gT q) = K (q.den : Int) := ext fun t => by
 rw [wV, rE]
 refine FY fun h => ⟨0, ?_⟩
 rw [gT, B3, B3]
 simp only [V]
 grind
def lj (t : Rat) (j : Nat) (b : ZX) : ZX := gT t * bK b + K ((j : Int) * (t.den : Int)) * b
theorem akt (t : Rat) (j : Nat) (b : ZX) : bK (lj t j b) = lj t (j + 1) (bK b) := by
 unfold lj
 rw [ae4, n9, AD, K4, show ((j + 1 : Nat) : Int) * (t.den : Int) = (t.den : Int) + (j : Int) * (t.den : Int) by rw [Int.natCast_add, Int.add_mul]; omega, show K ((t.den : Int) + (j : Int) * (t.den : Int)) = K (t.den : Int) + K ((j : Int) * (t.den : Int)) from ext fun x => by rw [iU, rE, rE, rE]]
 grind
theorem avm {t : Rat} {j : Nat} (hj : 1 ≤ j) (b : ZX) : o0 (lj t j b).l t.num t.den = o0 b.l t.num t.den := by
 rw [kV, kV, lj, aaR, jO, jO, GJ, LF]
 have h1 : (0 : Int) < (j : Int) * (t.den : Int) := Int.mul_pos (by omega) (by have := t.den_pos; omega)
 have h2 : (0 : Rat) < (((j : Int) * (t.den : Int) : Int) : Rat) := Rat.intCast_pos.2 h1
 generalize (((j : Int) * (t.den : Int) : Int) : Rat) = c at *
 rw [show ((t.den : Int) : Rat) * (t - t) * e t (bK b) + c * e t b = c * e t b by grind, mH, dJ h2, Int.one_mul]
theorem SI (t : Rat) : ∀ (k j : Nat) (b : ZX), 1 ≤ j → kU t.num t.den k (lj t j b) = kU t.num t.den k b
 | 0, _, _, _ => rfl
 | k + 1, j, b, hj => by rw [kU, kU, avm hj, akt, SI t k (j + 1) (bK b) (by omega)]
theorem abE {t : Rat} {q : ZX} (hq : q ≠ 0) : D2 t.num t.den (q * gT t) = D2 t.num t.den q := by
 have h0 : gT t ≠ 0 := ZX.aD.2 (by rw [oE]; decide)
 have hN : ZX.N (q * gT t) = ZX.N q + 1 := by rw [ZX.iB hq h0, oE]; omega
 have h1 : o0 (q * gT t).l t.num t.den = 0 := by
  rw [kV, jO, GJ, show e t q * (((t.den : Int) : Rat) * (t - t)) = 0 by grind, jH]
 have h2 : bK (q * gT t) = lj t 1 q := by
  rw [n9, K4, lj, show ((1 : Nat) : Int) * (t.den : Int) = (t.den : Int) by omega]; grind
 unfold D2
 rw [hN, kU, if_pos h1, h2, SI t _ 1 q (Nat.le_refl _)]
theorem aku {c : Int} (hc : c ≠ 0) (t : Rat) (p : ZX) : bT (c : Rat) * D2 t.num t.den (K c * p) = D2 t.num t.den p := by
 have hcr : (c : Rat) ≠ 0 := fun h => hc (Rat.intCast_eq_zero_iff.1 h)
 have hs : bT (c : Rat) * bT (c : Rat) = 1 := by rcases cB (c : Rat) with ⟨h1, h2⟩ | ⟨h1, h2⟩ | ⟨h1, h2⟩ <;> rw [h2] <;> first | rfl | exact absurd h1 hcr
 have h0 : bT (c : Rat) ≠ 0 := fun h => hcr (dH.1 h)
 have key : ∀ (k : Nat) (p : ZX), bT (c : Rat) * kU t.num t.den k (K c * p) = kU t.num t.den k p := fun k => by
  induction k with
  | zero => intro p; rw [kU, kU, Int.mul_zero]
  | succ k ih =>
   intro p
   have e1 : bT (e t (K c * p)) = bT (c : Rat) * bT (e t p) := by rw [jO, LF, mH]
   rw [kU, kU, kV, kV, e1, AD]
   by_cases h : bT (e t p) = 0
   ·rw [h, Int.mul_zero, if_pos rfl, if_pos rfl, ih]
   ·rw [if_neg h, if_neg (fun h1 => (Int.mul_eq_zero.1 h1).elim h0 h), ← Int.mul_assoc, hs, Int.one_mul]
 unfold D2
 rw [key]
 by_cases hp : p = 0
 ·rw [hp, gJ, gJ]
 ·exact GD (by have h1 := ZX.iB (ZX.oV hc) hp; rw [ZX.N_K hc] at h1; omega) (Nat.le_refl _)
theorem K5 (t : Rat) : ∀ (m : Nat) (p : ZX), ZX.N p ≤ m → p ≠ 0 → ∃ r : Rat, 0 < r ∧ ∀ x, t < x → x ≤ t + r → bT (e x p) = D2 t.num t.den p ∧ e x p ≠ 0
 | 0, p, hm, h0 => absurd hm (by have := ZX.aD.1 h0; omega)
 | m + 1, p, hm, h0 => by
  have hN := ZX.aD.1 h0
  by_cases he : e t p = 0
  ·obtain ⟨c, hc, q, hq⟩ := aeK.1 he
   have uN : gT t ≠ 0 := ZX.aD.2 (by rw [oE]; decide)
   have BX : q ≠ 0 := fun h => by
    rw [h] at hq
    exact ZX.gC (ZX.oV hc) h0 (by rw [hq]; grind)
   have JM := congrArg ZX.N hq
   rw [ZX.iB (ZX.oV hc) h0, ZX.N_K hc, ZX.iB BX uN, oE] at JM
   obtain ⟨r, hr, h1⟩ := K5 t m q (by omega) BX
   refine ⟨r, hr, fun x hx hxr => ?_⟩
   obtain ⟨h2, h3⟩ := h1 x hx hxr
   have h4 : (c : Rat) * e x p = e x q * e x (gT t) := by rw [← LF (t := x) c, ← jO, hq, jO]
   have hd : (0 : Rat) < ((t.den : Int) : Rat) := Rat.intCast_pos.2 (by have := t.den_pos; omega)
   have h5 : 0 < e x (gT t) := by rw [GJ]; exact Rat.mul_pos hd (by grind)
   have hcr : (c : Rat) ≠ 0 := fun h => hc (Rat.intCast_eq_zero_iff.1 h)
   have h6 := D5 hcr h4
   rw [dJ h5, Int.mul_one, h2] at h6
   have h7 := aku hc t p
   rw [hq, abE BX] at h7
   refine ⟨by rw [h6, h7], fun h => ?_⟩
   rw [h, Rat.mul_zero] at h4
   rcases Rat.mul_eq_zero.1 h4.symm with h8 | h8
   ·exact h3 h8
   ·rw [h8] at h5; exact absurd h5 (by decide)
  ·obtain ⟨r, hr, h1⟩ := R7 he
   have h2 : D2 t.num t.den p = bT (e t p) := by
    unfold D2
    obtain ⟨k, hk⟩ : ∃ k, ZX.N p = k + 1 := ⟨ZX.N p - 1, by omega⟩
    rw [hk, kU, kV, if_neg fun h => he (dH.1 h)]
   refine ⟨r, hr, fun x hx hxr => ?_⟩
   have h3 := h1 x (by grind) hxr
   exact ⟨by rw [h3, h2], fun h => he (dH.1 (by rw [← h3, h, jH]))⟩
theorem PA (t : Rat) : (gT t).l = [-t.num, (t.den : Int)] := fP (x := (t.den : Int)) (by have := t.den_nz; omega) [-t.num]
theorem SJ {t : Rat} (h : t.num.natAbs ≤ 30 ∧ ((t.den : Int)).natAbs ≤ 6) : n1 (gT t) ≤ 36 := by
 show l1 (gT t).l ≤ 36
 rw [PA]
 simp only [l1, List.map_cons, List.map_nil, List.sum_cons, List.sum_nil, Int.natAbs_neg]
 omega
theorem abF {a : ZX} (h0 : a ≠ 0) (h : n1 a ≤ 36) (hN : ZX.N a = 2) : ∀ i, n1 (a ^ i) ≤ 36 ^ i ∧ ZX.N (a ^ i) = i + 1 ∧ a ^ i ≠ 0
 | 0 => ⟨by rw [dD]; decide, by rw [dD]; decide, by rw [dD]; exact ZX.pZ⟩
 | i + 1 => by
  obtain ⟨h1, h2, h3⟩ := abF h0 h hN i
  rw [pow_succ']
  refine ⟨Nat.le_trans (AY _ _) (by rw [Nat.pow_succ]; exact Nat.mul_le_mul h1 h), by rw [ZX.iB h3 h0, h2, hN]; omega, ZX.gC h3 h0⟩
theorem akv {x : List Int} {C : List ZX} {n d : Int} (hT : aI env.P 22 [PI x] (Po x)) (hr : aI env.P 35 [R2 n d] (T2 n d)) : aI env.P 66 [AP x C n d] (.ag (G9 x n d n d)) := by
 simp only [AP, G9]
 refine aB (E := env) (fun _ => 0) [(0, AP x C n d)] Tryz.func66 rfl (by kernel_rfl) (by kernel_rfl) (show 1 ≤ 13 by decide) (by simp) ?_
 refine W.sr ?_; simp (disch := omega) [gw]; refine W.lx [1, 2] ?_; simp
 refine W.sd ?_
 simp (disch := omega) [gw]
 refine aA hT ?_
 simp (disch := omega) [gw]
 refine aA hr ?_
 simp (disch := omega) [gw]
 refine aA hr ?_
 (try (refine bN (of_decide_eq_true (by kernel_rfl)) ?_)); (try simp (maxSteps := 4000000) (disch := omega) [gw]); (repeat rw [if_pos (by kernel_rfl)]); (try simp (maxSteps := 4000000) (disch := omega) [gw])
 refine W.lx [2] ?_; simp
 refine W.ret ?_
 simp [go]
theorem ae5 {x : List Int} {n d : Int} (hN : aI env.P 101 [Po x] (Po x)) (hM : aI env.P 117 [T2 n d, .sl []] (T2 n d)) : aI env.P 201 [.ag (G9 x n d n d)] (.ag (G9 x n d n d)) := by
 simp only [G9]
 refine aB (E := env) (fun _ => 0) [(0, .ag (G9 x n d n d))] Tryz.func201 rfl (by kernel_rfl) (by kernel_rfl) (show 1 ≤ 13 by decide) (by simp) ?_
 refine W.sr ?_; simp (disch := omega) [gw]; refine W.lx [1, 2] ?_; simp
 refine W.sd ?_
 simp (disch := omega) [gw]
 refine aA hN ?_
 simp (disch := omega) [gw]
 refine aA hM ?_
 simp (disch := omega) [gw]
 refine aA hM ?_
 (try (refine bN (of_decide_eq_true (by kernel_rfl)) ?_)); (try simp (maxSteps := 4000000) (disch := omega) [gw]); (repeat rw [if_pos (by kernel_rfl)]); (try simp (maxSteps := 4000000) (disch := omega) [gw])
 refine W.lx [2] ?_; simp
 refine W.ret ?_
 simp [go]
theorem V0 {x : List Int} {n d : Int} (hc : aI env.P 105 [T2 n d, T2 n d] (.int .i64 0)) : aI env.P 202 [.ag (G9 x n d n d)] (.bool true) := by
 simp only [G9]
 refine aB (E := env) (fun _ => 0) [(0, .ag (G9 x n d n d))] Tryz.func202 rfl (by kernel_rfl) (by kernel_rfl) (show 1 ≤ 9 by decide) (by simp) ?_
 refine W.sr ?_; simp (disch := omega) [gw]; refine W.lx [1] ?_; simp
 refine W.sr ?_
 simp (disch := omega) [gw]
 refine aA hc ?_
 simp (disch := omega) [gw]
 refine W.lx [2] ?_; simp
 refine W.ret ?_
 simp [go]
theorem abG {q x : List Int} {n d r : Int} (hl : q.length < 1000000) (hr : q.length = 0 → r = 0) (hq : aI env.P 101 [Po q] (Po q)) (hN : aI env.P 101 [Po x] (Po x)) (hM : aI env.P 117 [T2 n d, .sl []] (T2 n d)) (hc : aI env.P 105 [T2 n d, T2 n d] (.int .i64 0)) (hs : aI env.P 62 [Po q, T2 n d] (.int .i64 r)) :
  aI env.P 137 [Po q, .ag (G9 x n d n d)] (.int .i64 r) := by
 have k1 := ae5 hN hM
 have k2 := V0 (x := x) hc
 simp only [G9] at k1 k2 ⊢
 refine aB (E := env) (fun _ => 0) [(0, Po q), (1, .ag (G9 x n d n d))] Tryz.func137 rfl (by kernel_rfl) (by kernel_rfl) (show 2 ≤ 66 by decide) (by simp) ?_
 refine W.sr ?_; simp (disch := omega) [gw]; refine W.lx [0, 3] ?_; simp
 refine W.sd ?_
 simp (disch := omega) [gw]
 refine aA hq ?_
 simp (disch := omega) [gw]
 refine aA k1 ?_
 (try (refine bN (of_decide_eq_true (by kernel_rfl)) ?_)); (try simp (maxSteps := 4000000) (disch := omega) [gw]); (repeat rw [if_pos (by kernel_rfl)]); (try simp (maxSteps := 4000000) (disch := omega) [gw])
 (try (refine bN (of_decide_eq_true (by kernel_rfl)) ?_)); (try simp (maxSteps := 4000000) (disch := omega) [gw]); (repeat rw [if_pos (by kernel_rfl)]); (try simp (maxSteps := 4000000) (disch := omega) [gw])
 refine W.lx [0, 3] ?_; simp
 refine W.seq ?_
 by_cases h0 : q.length = 0
 ·rw [hr h0]
  refine W.sr ?_; simp (disch := omega) [gw]; refine W.lx [0, 3, 14] ?_; simp
  refine W.cond ⟨_, rfl, fun h => ?_, fun h => ?_⟩
  ·refine W.sr ?_; simp (disch := omega) [gw]; refine W.lx [4] ?_; simp
   refine W.ret ?_
   simp [go]
  ·simp at h; exact absurd (List.eq_nil_of_length_eq_zero h0) h
 ·refine W.sr ?_; simp (disch := omega) [gw]; refine W.lx [0, 3, 14] ?_; simp
  refine W.cond ⟨_, rfl, fun h => ?_, fun h => ?_⟩
  ·simp at h; rw [h] at h0; exact absurd rfl h0
  refine W.skip ?_
  refine W.seq ?_
  refine W.sr ?_
  simp (disch := omega) [gw]
  refine aA k2 ?_
  simp (disch := omega) [gw]
  refine W.lx [0, 3, 16] ?_; simp
  refine W.cond ⟨_, rfl, fun h => ?_, fun h => ?_⟩
  ·refine W.sr ?_
   simp (disch := omega) [gw]
   refine aA hs ?_
   simp (disch := omega) [gw]
   refine W.lx [4] ?_; simp
   refine W.ret ?_
   simp [go]
  ·simp at h
theorem akw {s k : Nat} {p : ZX} {x : List Int} {n d : Int} (hp : BZ s k p) (hk : k ≤ 31) (hs : s ≤ 1000000) (hN : aI env.P 101 [Po x] (Po x)) (hM : aI env.P 117 [T2 n d, .sl []] (T2 n d)) (hc : aI env.P 105 [T2 n d, T2 n d] (.int .i64 0)) (hsg : ∀ (q : ZX) (s' : Nat), s' ≤ s + 5 * k → BZ s' k q → aI env.P 62 [Po q.l, T2 n d] (.int .i64 (o0 q.l n d))) :
  aI env.P 65 [Po p.l, .ag (G9 x n d n d)] (.int .i64 (D2 n d p)) := by
 have h1 : ∀ (q : ZX) (s' : Nat), s' ≤ s + 5 * k → BZ s' k q → aI env.P 136 [Po q.l, .rd (G9 x n d n d)] (.int .i64 (o0 q.l n d)) := fun q s' BG bq => by
  have N1 := fG (x := q.l) (bq.pb (by omega) (by omega))
  rw [q.c] at N1
  have k6 := abG (q := q.l) (x := x) (r := o0 q.l n d) (by have := bq.N; show ZX.N q < _; omega) (fun h => by rw [List.eq_nil_of_length_eq_zero h]; rfl) N1 hN hM hc (hsg q s' BG bq)
  simp only [G9] at k6 ⊢
  generalize o0 q.l n d = r at *
  refine aB (E := env) (fun _ => 0) [(0, Po q.l), (1, .rd (G9 x n d n d))] Tryz.func136 rfl (by kernel_rfl) (by kernel_rfl) (show 2 ≤ 7 by decide) (by simp) ?_
  refine W.sr ?_; simp (disch := omega) [gw]; refine W.lx [0, 1] ?_; simp
  refine W.sr ?_
  simp (disch := omega) [gw]
  refine aA k6 ?_
  simp (disch := omega) [gw]
  refine W.lx [3] ?_; simp
  refine W.ret ?_
  simp [go]
 have F1 := A9 136 rfl [.rd (G9 x n d n d)] rfl (fun q => o0 q.l n d) rfl hp hk hs h1
 rw [GX] at F1
 replace F1 : aI env.P 130 [Po p.l, .fn 136 [.rd (G9 x n d n d)]] (.int .i64 (D2 n d p)) := F1
 simp only [G9] at F1 ⊢
 generalize D2 n d p = r at *
 refine aB (E := env) (fun _ => 0) [(0, Po p.l), (1, .ag (G9 x n d n d))] Tryz.func65 rfl (by kernel_rfl) (by kernel_rfl) (show 2 ≤ 8 by decide) (by simp) ?_
 refine W.sr ?_; simp (disch := omega) [gw]; refine W.lx [0, 3] ?_; simp
 refine W.sr ?_
 simp (disch := omega) [gw]
 refine aA F1 ?_
 simp (disch := omega) [gw]
 refine W.lx [4] ?_; simp
 refine W.ret ?_
 simp [go]
theorem K6 {l al pl xl : List Int} {n d k kk a : Int} {C : List ZX} {tn td : Int} (hM : aI env.P 20 [aJ aF l, .int .i64 5] (PI al)) (hS : aI env.P 36 [.int .i64 n, .int .i64 d] (R2 tn td)) (hR : aI env.P 56 [R2 tn td] (AP [-tn, td] C tn td))
  (hW : aI env.P 48 [.int .i64 k, .int .i64 4] (.int .i64 kk)) (hP : aI env.P 55 [PI [-tn, td], .int .i64 kk] (PI pl)) (hX : aI env.P 54 [PI al, PI pl] (PI xl)) (hT : aI env.P 22 [PI xl] (Po xl))
  (hA : aI env.P 64 [PI xl, AP [-tn, td] C tn td] (.int .i64 a)) (hrt : aI env.P 35 [R2 tn td] (T2 tn td)) (hG : aI env.P 61 [Po xl, T2 tn td] (.int .i64 a)) (hTA : aI env.P 66 [AP [-tn, td] C tn td] (.ag (G9 [-tn, td] tn td tn td))) (hAt : aI env.P 65 [Po xl, .ag (G9 [-tn, td] tn td tn td)] (.int .i64 a)) (hG0 : aI env.P 61 [.sl [], T2 tn td] (.int .i64 0)) (ha : a ≠ 0) :
  aI env.P 12 [aJ aF l, .int .i64 n, .int .i64 d, .int .i64 k] (.bool true) := by
 have hw := K3
 have CB : (a != 0) = true := by simpa using ha
 simp only [AP, G9] at *
 refine aB (E := env) (fun _ => 0) [(0, aJ aF l), (1, .int .i64 n), (2, .int .i64 d), (3, .int .i64 k)] Tryz.func12 rfl (by kernel_rfl) (by kernel_rfl) (show 4 ≤ 59 by decide) (by simp) ?_
 refine W.sr ?_; simp (disch := omega) [gw]; refine W.lx [0, 1, 2, 3] ?_; simp
 refine W.sr ?_
 simp (disch := omega) [gw]
 refine aA hS ?_
 simp (disch := omega) [gw]
 refine W.lx [0, 3, 9] ?_; simp
 refine W.sd ?_
 simp (disch := omega) [gw]
 refine aA hM ?_
 simp (disch := omega) [gw]
 refine aA hR ?_
 simp (disch := omega) [gw]
 refine aA hW ?_
 simp (disch := omega) [gw]
 refine aA hP ?_
 simp (disch := omega) [gw]
 refine aA hX ?_
 simp (disch := omega) [gw]
 refine W.lx [9, 10] ?_; simp
 refine W.sr ?_
 simp (disch := omega) [gw]
 refine aA hT ?_
 simp (disch := omega) [gw]
 refine W.lx [9, 10, 11] ?_; simp
 refine W.sr ?_
 simp (disch := omega) [gw]
 refine aA hR ?_
 simp (disch := omega) [gw]
 refine aA hA ?_
 simp (disch := omega) [gw]
 refine W.lx [9, 11, 12] ?_; simp
 refine W.sr ?_
 simp (disch := omega) [gw]
 refine aA hrt ?_
 simp (disch := omega) [gw]
 refine aA hG ?_
 simp (disch := omega) [gw, CB]
 refine aA hR ?_
 simp (disch := omega) [gw]
 refine aA hTA ?_
 simp (disch := omega) [gw]
 refine aA hAt ?_
 simp (disch := omega) [gw]
 refine aA hrt ?_
 simp (disch := omega) [gw]
 refine aA hG0 ?_
 simp (disch := omega) [gw]
 refine aA hw ?_
 simp (disch := omega) [gw]
 refine W.lx [8] ?_; simp
 refine W.ret ?_
 simp [go]
end Go.Proofs.YtbbjgncblhfegaaGreat
