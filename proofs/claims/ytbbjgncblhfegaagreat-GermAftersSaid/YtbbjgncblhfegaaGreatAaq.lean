import Derived.Test.YtbbjgncblhfegaaGreatAan
import Derived.Test.YtbbjgncblhfegaaGreatAao
import Derived.Test.YtbbjgncblhfegaaGreatAap
set_option linter.unusedSimpArgs false
set_option linter.unusedVariables false
namespace Go.Proofs.YtbbjgncblhfegaaGreat
open Go Pm
open ZX hiding N W
theorem mJ (a b : Nat) : (2 : Rat) ^ (a + b) = 2 ^ a * 2 ^ b := by
 induction b with
 | zero => simp
 | succ b ih => rw [← Nat.add_assoc, Rat.pow_succ, Rat.pow_succ, ih]; grind
theorem two_pow_pos (a : Nat) : (0 : Rat) < 2 ^ a := Rat.pow_pos (by decide)
theorem mK : ∀ a : Nat, (1 : Rat) ≤ 2 ^ a
 | 0 => by simp
 | a + 1 => by
  have := mK a
  rw [Rat.pow_succ]; grind
theorem j3 {a b : Nat} (h : a ≤ b) : (2 : Rat) ^ a ≤ 2 ^ b := by
 obtain ⟨c, rfl⟩ := Nat.exists_eq_add_of_le h
 rw [mJ]
 have h1 := mK c
 have h2 := Rat.mul_le_mul_of_nonneg_left h1 (Rat.le_of_lt (two_pow_pos a))
 grind
theorem KM {c : Int} {s : Nat} (h : c.natAbs < 2 ^ s) : Ab (c : Rat) (2 ^ s) := by
 have h1 : ((2 ^ s : Int) : Rat) = 2 ^ s := by rw [Rat.intCast_pow]; rfl
 have h2 : (2 ^ s : Int) = ((2 ^ s : Nat) : Int) := by rw [Int.natCast_pow]; rfl
 constructor
 ·rw [← h1, ← Rat.intCast_neg]
  exact Rat.intCast_le_intCast.2 (by omega)
 ·rw [← h1]
  exact Rat.intCast_le_intCast.2 (by omega)
theorem ag3 {c : Int} {s : Nat} (h : sz 2 c ≤ s) : Ab (c : Rat) (2 ^ s) :=
 KM (Nat.lt_of_lt_of_le (lF (b := 2) (by decide) c) (Nat.pow_le_pow_right (by decide) h))
theorem BZ.ab {s n : Nat} {a : ZX} (h : BZ s n a) : ∀ c ∈ a.l, Ab (c : Rat) (2 ^ s) := fun c hc => ag3 (h.sz c hc)
theorem GH (s β : Nat) : ∀ k, B6 (2 ^ s) (2 ^ β) k = 2 ^ (s + k * (β + 2))
 | 0 => by simp [B6]
 | k + 1 => by
  rw [B6, GH s β k, show s + (k + 1) * (β + 2) = s + k * (β + 2) + β + 1 + 1 by rw [Nat.add_mul]; omega, Rat.pow_succ, Rat.pow_succ, mJ _ β]
  grind
theorem BZ.auS {s n β : Nat} {a : ZX} (h : BZ s n a) {t : Rat} (ht : Ab t (2 ^ β)) : Ab (e t a) (2 ^ (s + n * (β + 2))) := by
 have h1 := RK (S := 2 ^ s) (B := 2 ^ β) (Rat.le_of_lt (two_pow_pos s)) (mK β) ht a.l h.ab
 rw [GH] at h1
 exact h1.mono (j3 (by have := Nat.mul_le_mul_right (β + 2) h.len; omega))
theorem RV {s' N : Nat} {y : List Int} (qS : Bd 2 s' N y) (cy : Cn y) (hy : 0 < y.length) : ∀ (n j s : Nat) (x : List Int), Cn x → x.length < n → Bd 2 s N x → x.length + 1 ≤ y.length + j →
  ∃ (m : Int) (q : List Int), 0 < m ∧ sz 2 m ≤ j * s' + 1 ∧ Bd 2 (s + j * (2 * s' + N + 2)) N q ∧ ∀ t, m * V t x = V t q * V t y + V t (rq y n x)
 | 0, j, s, x, _, h, _, _ => by omega
 | n + 1, j, s, x, cx, h, bx, hj => by
  rw [rq]
  split
  ·exact ⟨1, [], by decide, Nat.le_trans (cN (k := 1) (by decide) (by decide)) (by omega), ⟨by simp, fun c hc => by cases hc⟩, fun t => by simp [V]⟩
  ·rename_i h1
   obtain ⟨j, rfl⟩ : ∃ i, j = i + 1 := ⟨j - 1, by omega⟩
   have hl := qU hy (show y.length ≤ x.length by omega)
   have hb := N6 qS bx hy (show y.length ≤ x.length by omega)
   obtain ⟨m, q, hm, hms, hq, h4⟩ := RV qS cy hy n j _ (RC y x) (Cn.dY _ _) (by omega) hb (by omega)
   have uN := cD cy hy
   have e1 : (j + 1) * s' = j * s' + s' := by rw [Nat.add_mul]; omega
   have e2 : (j + 1) * (2 * s' + N + 2) = j * (2 * s' + N + 2) + (2 * s' + N + 2) := by rw [Nat.add_mul]; omega
   have e3 : j * s' ≤ j * (2 * s' + N + 2) := Nat.mul_le_mul_left _ (by omega)
   have sx : sz 2 (uV (lead y) * lead x) ≤ s := by
    refine Nat.le_trans (cC (b := 2) (by decide) ?_) (eT bx)
    rw [Int.natAbs_mul]
    have : (uV (lead y)).natAbs = 1 := by unfold uV; split <;> rfl
    rw [this, Nat.one_mul]; exact Nat.le_refl _
   have lR := (Bd.aV (b := 2) (by decide) (Bd.oT (b := 2) sx (x.length - y.length)) hms)
   have hlen := bx.len
   refine ⟨m * (lead y).natAbs, fZ q (aV (oT (x.length - y.length) (uV (lead y) * lead x)) m), Int.mul_pos hm (by omega), ?_, ?_, fun t => ?_⟩
   ·have h8 : sz 2 ((lead y).natAbs : Int) ≤ s' := Nat.le_trans (cC (b := 2) (by decide) (by simp)) (eT qS)
    have := bS (b := 2) (by decide) hms h8
    omega
   ·refine (Bd.fZ (b := 2) (s := s + (j + 1) * (2 * s' + N + 2) - 1) (by decide) (hq.mono (by omega) (Nat.le_refl _)) (lR.mono (by omega) (by omega))).mono (by omega) (Nat.le_refl _)
   ·have h5 := aaL t y x
    have h6 := h4 t
    rw [pM, bV, l9]
    have : m * ((lead y).natAbs : Int) * V t x = m * (((lead y).natAbs : Int) * V t x) := by grind
    rw [this, h5]
    grind
theorem akb {s n : Nat} {a b : ZX} (ha : BZ s n a) (hb : BZ s n b) (h0 : b ≠ 0) : ∃ (m : Int) (q : ZX), 0 < m ∧ sz 2 m ≤ (n + 1) * s + 1 ∧ BZ (s + (n + 1) * (2 * s + n + 2)) n q ∧ ((nx a b = 0 ∧ K m * a = q * b) ∨ (nx a b ≠ 0 ∧ ∃ k : Int, 0 < k ∧ K m * a = q * b - K k * nx a b)) := by
 obtain ⟨TY, hN, _⟩ := qV (a := a) h0
 obtain ⟨m, q, hm, hms, hq, e⟩ := RV hb b.c (ZX.aD.1 h0) (a.l.length + 1) (n + 1) s a.l a.c (by omega) ha (by have := ha.len; have := ZX.aD.1 h0; show a.l.length + 1 ≤ b.l.length + (n + 1); omega)
 rw [← TY] at e
 have e1 : K m * a = ZX.of q * b + rz a b := ZX.ext fun t => by rw [cU, rE, iU, cU, B3]; exact e t
 refine ⟨m, ZX.of q, hm, hms, Bd.cut hq, ?_⟩
 by_cases hr : rz a b = 0
 ·left
  refine ⟨?_, by rw [e1, hr]; grind⟩
  exact ZX.ext fun t => by
   show V t (fJ (iX (rz a b).l)) = _
   rw [hr]; rfl
 ·right
  have hrn : (rz a b).l ≠ [] := tX hr
  have hp := AJ (rz a b).c hrn
  have hg := bW (rz a b).c hrn
  have hnx : K (bG (rz a b).l : Int) * nx a b = -(rz a b) := ZX.ext fun t => by
   rw [cU, rE, DL]
   show _ * V t (fJ (iX (rz a b).l)) = _
   rw [zA]
   have h2 : V t (rz a b).l = V t (iX (rz a b).l) * (bG (rz a b).l : Int) := by rw [← c8, hp]
   rw [h2]; grind
  refine ⟨fun h => hr ?_, _, Int.natCast_pos.2 (Nat.pos_of_ne_zero hg), by rw [hnx, e1]; grind⟩
  rw [h] at hnx
  have : (rz a b) = -(K (bG (rz a b).l : Int) * 0) := by rw [hnx]; grind
  rw [this]; grind
theorem KN {a b : ZX} (hb : b ≠ 0) (hg : gz a b = 1) (hd : dv b a) : ∃ c : Int, c ≠ 0 ∧ b = K c := by
 have h1 := (gS a b).least hd (dv.refl b)
 rw [hg] at h1
 have h2 := h1.rF pZ
 rw [ZX.z9] at h2
 have := ZX.aD.1 hb
 exact ZX.mD (by omega)
def G7 (C n β : Nat) : Nat := C + (n + 1) * (2 * C + n + 2) + n * (β + 2) + 2
theorem RW {C n β : Nat} (hn : n ≤ 20) : ∀ (k s : Nat) (a b : ZX), ZX.N b ≤ k → b ≠ 0 → BZ s n a → BZ s n b → xU C n s a b → gz a b = 1 → StC (2 ^ G7 C n β) (2 ^ β) (a :: sL k a b) ∧ ∀ p ∈ sL k a b, BZ C n p
 | 0, s, a, b, hk, h0, _, _, _, _ => absurd hk (by have := ZX.aD.1 h0; omega)
 | k + 1, s, a, b, hk, h0, ha, hb, hp, hg => by
  have hs := hp.le
  have hNb := ZX.aD.1 h0
  obtain ⟨m, q, hm, hms, hq, hr⟩ := akb ha hb h0
  rw [sL, if_neg (by omega)]
  have hbC : BZ C n b := hb.mono (by omega) (Nat.le_refl _)
  rcases hr with ⟨hz, e1⟩ | ⟨hz, kk, hkk, e1⟩
  ·rw [hz, jG]
   exact ⟨KN h0 hg ⟨m, by omega, q, e1⟩, fun p hp => by
    simp only [List.mem_cons, List.not_mem_nil, or_false] at hp
    subst hp; exact hbC⟩
  ·have hN := U4 (a := a) h0
   have mX : gz b (nx a b) = 1 := by
    rw [← hg]
    exact (F2 (c := m) (k := -kk) (q := q) (by omega) (by omega) (by rw [e1, show K (-kk) = -K kk from ZX.ext fun t => by rw [rE, DL, rE]]; grind)).symm
   obtain ⟨ih, ih2⟩ := RW hn k _ b (nx a b) (by omega) hz (hb.mono (Nat.le_add_right _ _) (Nat.le_refl _)) (RG ha hb h0) (hp.step hN) mX
   refine ⟨?_, fun p hp => ?_⟩
   ·obtain ⟨k2, rfl⟩ : ∃ k2, k = k2 + 1 := ⟨k - 1, by have := ZX.aD.1 hz; omega⟩
    rw [sL, if_neg (by have := ZX.aD.1 hz; omega)] at ih ⊢
    have c1 : (n + 1) * s ≤ (n + 1) * (2 * C + n + 2) := Nat.mul_le_mul_left _ (by omega)
    have c2 : (n + 1) * (2 * s + n + 2) ≤ (n + 1) * (2 * C + n + 2) := Nat.mul_le_mul_left _ (by omega)
    refine ⟨ih, m, kk, q, hm, hkk, e1, ?_, fun t ht => ?_⟩
    ·have h1 := (ag3 hms).2
     have h2 := j3 (show (n + 1) * s + 1 + 1 ≤ G7 C n β by unfold G7; omega)
     rw [Rat.pow_succ] at h2
     grind
    ·have h1 := (BZ.auS hq ht)
     have h2 := (Ab.mul (x := 2) (M := 2) ⟨by decide, by decide⟩ h1)
     refine h2.mono ?_
     have h3 := j3 (show s + (n + 1) * (2 * s + n + 2) + n * (β + 2) + 1 ≤ G7 C n β by unfold G7; omega)
     rw [Rat.pow_succ] at h3
     grind
   ·rcases List.mem_cons.1 hp with rfl | hp
    ·exact hbC
    ·exact ih2 p hp
theorem KO : ∀ (k : Nat) (a b : ZX), (sL k a b).length ≤ ZX.N b
 | 0, a, b => by simp [sL]
 | k + 1, a, b => by
  rw [sL]
  split
  ·simp
  ·rename_i h0
   have := U4 (a := a) (ZX.aD.2 (Nat.pos_of_ne_zero h0))
   have := KO k b (nx a b)
   simp only [List.length_cons]; omega
theorem apV {a : ZX} (ha : a ≠ 0) : ∃ c : Int, 0 < c ∧ a = K c * oS a := by
 have hp := AJ a.c (tX ha)
 refine ⟨(bG a.l : Int), Int.natCast_pos.2 (Nat.pos_of_ne_zero (bW a.c (tX ha))), ZX.ext fun t => ?_⟩
 rw [cU, rE]
 show _ = _ * V t (iX a.l)
 have h2 : V t a.l = V t (iX a.l) * (bG a.l : Int) := by rw [← c8, hp]
 rw [h2]; grind
theorem aeJ {C s n β : Nat} {f : ZX} (hn : n ≤ 20) (hf : f ≠ 0) (hb : BZ (s + 5) n f) (hp : xU C n (s + 5) f (oS (bK f))) (bd : BZ (s + 5) n (oS (bK f))) (hg : gz f (bK f) = 1) : StC (2 ^ G7 C n β) (2 ^ β) (bC f) ∧ (∀ p ∈ bC f, BZ C n p) ∧ (bC f).length ≤ n + 1 ∧ ∀ g k, sL (ZX.N f) f (oS (bK f)) = g :: k → ∃ c : Int, 0 < c ∧ bK f = K c * g := by
 have hs := hp.le
 have hfC : BZ C n f := hb.mono (by omega) (Nat.le_refl _)
 have hNf := hb.N
 have h1 := kN f
 have h2 : ZX.N (oS (bK f)) ≤ ZX.N (bK f) := kE _
 by_cases h0 : bK f = 0
 ·have wO : oS (bK f) = 0 := by rw [h0]; exact ZX.ext fun t => rfl
  have hc : bC f = [f] := by unfold bC; rw [wO, jG]
  rw [hc]
  have hN1 : ZX.N f ≤ 1 := Classical.byContradiction fun h => FZ (a := f) (by omega) h0
  refine ⟨ZX.mD (by have := ZX.aD.1 hf; omega), fun p hp => by
   simp only [List.mem_cons, List.not_mem_nil, or_false] at hp
   subst hp; exact hfC, by simp, fun g k h => ?_⟩
  rw [wO, jG] at h; cases h
 ·obtain ⟨c, hc, e⟩ := apV h0
  have wO : oS (bK f) ≠ 0 := fun h => h0 (by rw [e, h]; grind)
  have mX : gz f (oS (bK f)) = 1 := by
   rw [← hg]
   refine AG (dv.refl f) (dv.refl f) ⟨1, by decide, K c, by rw [e]; show (1 : ZX) * _ = _; grind⟩ ⟨c, by omega, 1, by grind⟩
  obtain ⟨g1, g2⟩ := RW (β := β) hn (ZX.N f) (s + 5) f (oS (bK f)) (by omega) wO hb bd hp mX
  refine ⟨g1, fun p hp => ?_, ?_, fun g k h => ?_⟩
  ·rcases List.mem_cons.1 hp with rfl | hp
   ·exact hfC
   ·exact g2 p hp
  ·have := KO (ZX.N f) f (oS (bK f))
   show (f :: sL (ZX.N f) f (oS (bK f))).length ≤ _
   simp only [List.length_cons]
   omega
  ·obtain ⟨j, hj⟩ : ∃ j, ZX.N f = j + 1 := ⟨ZX.N f - 1, by have := ZX.aD.1 hf; omega⟩
   rw [hj, sL, if_neg (by have := ZX.aD.1 wO; omega)] at h
   cases h
   exact ⟨c, hc, e⟩
theorem RX (μ : Nat) : ∀ k, (2 : Rat) ^ (μ * k) * xH (2 ^ μ) k = 1
 | 0 => by simp [xH]
 | k + 1 => by
  have h1 := RX μ k
  have h2 : xH (2 ^ μ) (k + 1) = xH (2 ^ μ) k / 2 ^ μ := rfl
  have h3 : xH ((2 : Rat) ^ μ) k / 2 ^ μ * 2 ^ μ = xH (2 ^ μ) k := Rat.div_mul_cancel (Rat.ne_of_gt (two_pow_pos μ))
  rw [h2, Nat.mul_add, Nat.mul_one, mJ]
  grind
def jb (C n β : Nat) : Nat := (n + 1) * G7 C n β + C + n * (β + 2) + 1
theorem RY {C s n β : Nat} {f : ZX} (hn : n ≤ 20) (hf : f ≠ 0) (hb : BZ (s + 5) n f) (hp : xU C n (s + 5) f (oS (bK f))) (bd : BZ (s + 5) n (oS (bK f))) (hg : gz f (bK f) = 1) {δ : Rat} (hδ : δ * 2 ^ jb C n β ≤ 1) : Lcl (bC f) f (2 ^ β) δ := by
 obtain ⟨h1, h2, h3, h4⟩ := aeJ (β := β) hn hf hb hp bd hg
 have hM : (2 : Rat) ≤ 2 ^ G7 C n β := by
  have := j3 (show 1 ≤ G7 C n β by unfold G7; omega)
  rw [Rat.pow_one] at this
  exact this
 refine StC.loc (Q := 2 ^ (C + n * (β + 2))) hM (mK β) (Rat.le_of_lt (two_pow_pos C)) h1 (fun p hp => ⟨(h2 p hp).ab, ?_⟩) h4 ?_
 ·rw [GH]
  exact j3 (by have := Nat.mul_le_mul_right (β + 2) (h2 p hp).len; omega)
 ·have e1 := RX (G7 C n β) (bC f).length
  have hε := uF hM (bC f).length
  have h5 : G7 C n β * (bC f).length + (C + n * (β + 2)) + 1 ≤ jb C n β := by
   have := Nat.mul_le_mul_left (G7 C n β) h3
   rw [Nat.mul_comm (G7 C n β) (n + 1)] at this
   unfold jb; omega
  have h6 := j3 h5
  rw [Rat.pow_succ, mJ] at h6
  have hA := two_pow_pos (G7 C n β * (bC f).length)
  have hB := two_pow_pos (C + n * (β + 2))
  show δ * 2 ^ (C + n * (β + 2)) < xH (2 ^ G7 C n β) (bC f).length
  generalize (2 : Rat) ^ (G7 C n β * (bC f).length) = A at *
  generalize (2 : Rat) ^ (C + n * (β + 2)) = Q at *
  generalize xH ((2 : Rat) ^ G7 C n β) (bC f).length = ε at *
  generalize (2 : Rat) ^ jb C n β = J at *
  by_cases h0 : 0 < δ
  ·have h7 := Rat.mul_le_mul_of_nonneg_left h6 (Rat.le_of_lt h0)
   have h8 : δ * Q * A ≤ 1 / 2 := by grind
   refine Rat.lt_of_mul_lt_mul_right (c := A) ?_ (Rat.le_of_lt hA)
   grind
  ·have h7 := Rat.mul_le_mul_of_nonneg_right (show δ ≤ 0 by grind) (Rat.le_of_lt hB)
   grind
theorem GI : ∀ (l : List Int) (n : Nat) (p : Int), (l.foldl sR (n, p)).1 = n + B7 p l
 | [], n, p => rfl
 | s :: l, n, p => by
  have h : sR (n, p) s = if s = 0 then (n, p) else (if p ≠ 0 ∧ s ≠ p then n + 1 else n, s) := rfl
  rw [List.foldl_cons, h]
  simp only [B7]
  split
  ·exact GI l n p
  ·split <;> rw [GI l] <;> omega
theorem OL (l : List Int) : vr l = B7 0 l := by
 rw [vr, GI]; omega
theorem ag4 {n d : Int} {q : Rat} (h : (n : Rat) = q * d) : ∀ x : List Int, ((hm n d x).1 : Rat) * d = qv q x * (d : Rat) ^ x.length ∧ ((hm n d x).2 : Rat) = (d : Rat) ^ x.length
 | [] => by
  refine ⟨?_, ?_⟩
  ·show ((0 : Int) : Rat) * d = 0 * _
   rw [Rat.intCast_zero, Rat.zero_mul, Rat.zero_mul]
  ·show ((1 : Int) : Rat) = (d : Rat) ^ 0
   rw [Rat.intCast_one, Rat.pow_zero]
 | a :: l => by
  obtain ⟨h1, h2⟩ := ag4 h l
  have e : hm n d (a :: l) = ((hm n d l).1 * n + a * (hm n d l).2, (hm n d l).2 * d) := rfl
  rw [e]
  simp only [qv, List.length_cons, Rat.pow_succ, Rat.intCast_add, Rat.intCast_mul]
  rw [h, h2]
  refine ⟨?_, rfl⟩
  have : (((hm n d l).1 : Rat) * (q * d) + a * (d : Rat) ^ l.length) * d = ((hm n d l).1 : Rat) * d * (q * d) + a * ((d : Rat) ^ l.length * d) := by grind
  rw [this, h1]; grind
theorem VG (v : Int) : v.sign = bT (v : Rat) := by
 rcases Int.lt_trichotomy v 0 with h | h | h
 ·rw [Int.sign_eq_neg_one_of_neg h, fR (Rat.intCast_neg_iff.2 h)]
 ·subst h; decide
 ·rw [Int.sign_eq_one_of_pos h, dJ (Rat.intCast_pos.2 h)]
theorem kV (p : ZX) (q : Rat) : o0 p.l q.num q.den = bT (e q p) := by
 have hd : (0 : Rat) < ((q.den : Int) : Rat) := Rat.intCast_pos.2 (by have := q.den_pos; omega)
 have hq : ((q.num : Int) : Rat) = q * ((q.den : Int) : Rat) := by
  have h1 : q = (q.num : Rat) / ((q.den : Int) : Rat) := by
   rw [← Rat.divInt_eq_div, Rat.num_divInt_den]
  have h2 := Rat.div_mul_cancel (a := (q.num : Rat)) (Rat.ne_of_gt hd)
  rw [← h1] at h2
  exact h2.symm
 have h1 := (ag4 hq p.l).1
 show (hm q.num q.den p.l).1.sign = bT (qv q p.l)
 rw [VG]
 have h2 : bT (((hm q.num q.den p.l).1 : Rat) * ((q.den : Int) : Rat)) = bT (qv q p.l * ((q.den : Int) : Rat) ^ p.l.length) := by rw [h1]
 rw [mH, mH, dJ hd, dJ (Rat.pow_pos hd)] at h2
 omega
theorem AR (c : List ZX) (q : Rat) : vr (mI c q.num q.den) = vt c q := by
 rw [OL]
 unfold vt mI B8
 congr 1
 exact List.map_congr_left fun p _ => kV p q
theorem akc (c : List ZX) : ∃ S : Rat, 0 ≤ S ∧ ∀ p ∈ c, ∀ x ∈ p.l, Ab (x : Rat) S := by
 induction c with
 | nil => exact ⟨0, Rat.le_refl, fun p hp => by cases hp⟩
 | cons a c ih =>
  obtain ⟨S, hS, h⟩ := ih
  obtain ⟨A, hA, ha⟩ := F9 a.l
  refine ⟨S + A, by grind, fun p hp x hx => ?_⟩
  rcases List.mem_cons.1 hp with rfl | hp
  ·exact (ha x hx).mono (by grind)
  ·exact (h p hp x hx).mono (by grind)
theorem aba (c : List ZX) : ∃ X : Rat, 1 ≤ X ∧ (∀ t, X ≤ t → vt c t = vr (RN c)) ∧ ∀ t, t ≤ -X → vt c t = vr (RM c) := by
 obtain ⟨S, hS, h⟩ := akc c
 refine ⟨S + 1, by grind, fun t ht => ?_, fun t ht => ?_⟩
 ·rw [OL]
  unfold vt RN B8
  congr 1
  exact List.map_congr_left fun p hp => (DX hS p.c (h p hp)).1 ht
 ·rw [OL]
  unfold vt RM B8
  congr 1
  exact List.map_congr_left fun p hp => (DX hS p.c (h p hp)).2 ht
theorem akd {a : ZX} (ha : a ≠ 0) : Nf (sq a) ∧ ∀ p, ZX.n7 p → ZX.mu p (sq a) = min (ZX.mu p a) 1 := by
 have hA := gD ha
 unfold sq
 split
 ·rename_i h
  refine ⟨hA, fun p hp => ?_⟩
  obtain ⟨c, hc, rfl⟩ := ZX.mD (x := a) (by have := ZX.aD.1 ha; omega)
  rw [J4 hp ha, ZX.aas hp hc]; rfl
 ·exact ⟨aaA hA, fun p hp => by rw [aaC hA hp, J4 hp ha]⟩
theorem apW {a : ZX} (ha : a ≠ 0) : gz (sq a) (bK (sq a)) = 1 := by
 obtain ⟨h1, h2⟩ := akd ha
 refine Nf.AF (Q6 h1.ne) Nf.one fun p hp => ?_
 have e1 : mu p (1 : ZX) = 0 := aas hp (by decide)
 have h3 := agU h1.ne hp
 rw [h2 p hp] at h3
 rw [e1]
 show mu p (gd (sq a)) = 0
 rw [h3]
 omega
theorem Lcl.mono {L : List ZX} {f : ZX} {B C δ : Rat} (h : Lcl L f B δ) (hc : C ≤ B) : Lcl L f C δ :=
 ⟨fun s t hs ht => h.turns s t (hs.mono hc) (ht.mono hc), fun s t hs ht => h.simple s t (hs.mono hc) (ht.mono hc)⟩
theorem OM (B : Rat) : ∃ β : Nat, B ≤ 2 ^ β := by
 have h1 := Rat.lt_floor_add_one B
 refine ⟨(B.floor + 1).toNat, Rat.le_trans (Rat.le_of_lt h1) ?_⟩
 have h2 : ((2 ^ (B.floor + 1).toNat : Int) : Rat) = 2 ^ (B.floor + 1).toNat := by rw [Rat.intCast_pow]; rfl
 rw [← h2]
 refine Rat.intCast_le_intCast.2 ?_
 have h3 : (B.floor + 1).toNat < 2 ^ (B.floor + 1).toNat := Nat.lt_two_pow_self
 have h4 : ((2 ^ (B.floor + 1).toNat : Nat) : Int) = 2 ^ (B.floor + 1).toNat := by rw [Int.natCast_pow]; rfl
 omega
theorem Ch.VH {s n : Nat} {f : ZX} (h : Ch s n f) (hf : f ≠ 0) (hg : gz f (bK f) = 1) : xI (bC f) f := ⟨fun B hB => by
 have hn := h.hn
 obtain ⟨β, hβ⟩ := OM B
 have bd : BZ (s + 5) n (bK f) := h.bz.bK (by omega)
 have hJ := two_pow_pos (jb 4500000000 n β)
 have hJ1 : (1 : Rat) / 2 ^ jb 4500000000 n β * 2 ^ jb 4500000000 n β = 1 := Rat.div_mul_cancel (Rat.ne_of_gt hJ)
 refine ⟨1 / 2 ^ jb 4500000000 n β, (Rat.lt_div_iff hJ).2 (by grind), ?_⟩
 exact Lcl.mono (RY hn hf (h.bz.mono (by omega) (Nat.le_refl _)) h.pot (iC bd) hg (by rw [hJ1]; exact Rat.le_refl)) hβ⟩
def gT (t : Rat) : ZX := of [-t.num, (t.den : Int)]
theorem GJ (s t : Rat) : e s (gT t) = ((t.den : Int) : Rat) * (s - t) := by
 rw [gT, apM, Rat.intCast_neg]
 have hd : (0 : Rat) < ((t.den : Int) : Rat) := Rat.intCast_pos.2 (by have := t.den_pos; omega)
 have hq : ((t.num : Int) : Rat) = t * ((t.den : Int) : Rat) := by
  have h1 : t = (t.num : Rat) / ((t.den : Int) : Rat) := by
   rw [← Rat.divInt_eq_div, Rat.num_divInt_den]
  have h2 := Rat.div_mul_cancel (a := (t.num : Rat)) (Rat.ne_of_gt hd)
  rw [← h1] at h2
  exact h2.symm
 rw [hq]; grind
theorem oE (t : Rat) : ZX.N (gT t) = 2 := by
 have : aM [-t.num, (t.den : Int)] = [-t.num, (t.den : Int)] := fP (x := (t.den : Int)) (by have := t.den_nz; omega) [-t.num]
 show (aM [-t.num, (t.den : Int)]).length = 2
 rw [this]; rfl
theorem auT {a b : ZX} {t : Rat} (h : dv b a) (hb : e t b = 0) : e t a = 0 := by
 obtain ⟨c, hc, q, he⟩ := h
 have h1 : (c : Rat) * e t a = e t q * e t b := by rw [← LF (t := t) c, ← jO, he, jO]
 rw [hb, Rat.mul_zero] at h1
 exact (Rat.mul_eq_zero.1 h1).resolve_left fun h => hc (Rat.intCast_eq_zero_iff.1 h)
theorem aeK {a : ZX} {t : Rat} : e t a = 0 ↔ dv (gT t) a := by
 have h0 : gT t ≠ 0 := ZX.aD.2 (by rw [oE]; decide)
 have hz : e t (gT t) = 0 := by rw [GJ]; grind
 refine ⟨fun ha => ?_, fun h => auT h hz⟩
 obtain ⟨c, hc, q, r, he, hN⟩ := ZX.aap a h0
 have h1 : e t (K c * a) = e t q * e t (gT t) + e t r := by rw [he, aaR, jO]
 rw [jO, ha, hz] at h1
 have hr : e t r = 0 := by grind
 have CN : r = 0 := Classical.byContradiction fun CN => by
  rw [oE] at hN
  obtain ⟨k, hk, rfl⟩ := ZX.mD (x := r) (by have := ZX.aD.1 CN; omega)
  rw [LF] at hr
  exact hk (Rat.intCast_eq_zero_iff.1 hr)
 exact ⟨c, hc, q, by rw [he, CN]; grind⟩
theorem VI {L : List ZX} {f : ZX} (h : xI L f) {b : Rat} (hb : ∀ a, Bg a b f) : vr (RM L) = vt L b := by
 obtain ⟨X, hX, _, h2⟩ := aba L
 by_cases vZ : b ≤ -X
 ·exact (h2 b vZ).symm
 ·rw [← h2 (-X) Rat.le_refl]
  exact h.bg (hb (-X)) (Rat.not_le.1 vZ)
theorem ON {L : List ZX} {f : ZX} (h : xI L f) {a : Rat} (ha : ∀ b, Bg a b f) : vr (RN L) = vt L a := by
 obtain ⟨X, hX, h1, _⟩ := aba L
 by_cases vZ : X ≤ a
 ·exact (h1 a vZ).symm
 ·rw [← h1 X Rat.le_refl]
  exact (h.bg (ha X) (Rat.not_le.1 vZ)).symm
theorem iV (p q : Rat) : (dC (p.num * q.den) (q.num * p.den) < 0) ↔ p < q := by
 rw [m7, Rat.lt_iff]
theorem abb (C : List ZX) (q : Rat) : vt C q ≤ C.length := by
 have := AO (mI C q.num q.den)
 rw [AR] at this
 simpa [mI] using this
theorem AS {n d : Int} (h : d ≠ 0) : cO n d = (n : Rat) / d := by rw [cO, if_neg h, Rat.divInt_eq_div]
theorem OO {n d : Int} (h : d ≠ 0) {q : Rat} (e : (n : Rat) = q * d) : cO n d = q := by
 have hd : (d : Rat) ≠ 0 := fun h0 => h (Rat.intCast_eq_zero_iff.1 h0)
 rw [AS h, e, Rat.mul_div_cancel hd]
theorem GK (q : Rat) : ((q.num : Int) : Rat) = q * ((q.den : Int) : Rat) := by
 have hd : (0 : Rat) < ((q.den : Int) : Rat) := Rat.intCast_pos.2 (by have := q.den_pos; omega)
 have h1 : q = (q.num : Rat) / ((q.den : Int) : Rat) := by
  rw [← Rat.divInt_eq_div, Rat.num_divInt_den]
 have h2 := Rat.div_mul_cancel (a := (q.num : Rat)) (Rat.ne_of_gt hd)
 rw [← h1] at h2
 exact h2.symm
theorem aeL {n d : Int} (hn : sz LL n < 1099511627770) (hd : sz LL d < 1099511627770) (h0 : d ≠ 0) : aI env.P 163 [I n, I d] (.eP [RT (cO n d), .int .i64 0]) := by
 have n1 := FG (x := d) (by show _ < _; omega)
 have n2 := FG (x := n) (by show _ < _; omega)
 have z1 := DY d
 have l1 := sP hn hd h0
 rw [show decide (d = 0) = false from decide_eq_false h0] at z1
 show aI env.P _ _ (.eP [T2 (cO n d).num (cO n d).den, _])
 replace l1 : aI env.P 192 [I n, I d] (T2 (cO n d).num (cO n d).den) := l1
 generalize (cO n d).num = rn at *
 generalize ((cO n d).den : Int) = rd at *
 refine aB (E := env) (fun _ => 0) [(0, I n), (1, I d)] Tryz.func163 rfl (by kernel_rfl) (by kernel_rfl) (show 2 ≤ 15 by decide) (by simp) ?_
 refine W.sr ?_; simp (disch := omega) [gw]; refine W.lx [2, 3, 4] ?_; simp
 refine W.seq ?_
 refine W.sr ?_
 simp (disch := omega) [gw]
 refine aA n1 ?_
 simp (disch := omega) [gw]
 refine W.lx [2, 3, 4] ?_; simp
 refine W.sr ?_
 simp (disch := omega) [gw]
 refine aA z1 ?_
 simp (disch := omega) [gw]
 refine W.lx [2, 3, 4, 9] ?_; simp
 refine W.cond ⟨_, rfl, fun h => ?_, fun h => ?_⟩
 ·simp at h
 refine W.skip ?_
 refine W.sd ?_
 simp (maxSteps := 4000000) (disch := omega) [gw]
 refine aA n2 ?_
 simp (maxSteps := 4000000) (disch := omega) [gw]
 refine aA l1 ?_
 simp (maxSteps := 4000000) (disch := omega) [gw]
 (try (refine bN (of_decide_eq_true (by kernel_rfl)) ?_)); (try simp (maxSteps := 4000000) (disch := omega) [gw]); (repeat rw [if_pos (by kernel_rfl)]); (try simp (maxSteps := 4000000) (disch := omega) [gw])
 refine W.lx [4, 5] ?_; simp
 refine W.ret ?_
 simp [go]
theorem ake (p q : Rat) : cO (p.num * q.den + q.num * p.den) (p.den * q.den * 2) = (p + q) / 2 := by
 have h1 : ((p.den : Int) * q.den * 2) ≠ 0 := by
  have := p.den_nz; have := q.den_nz
  refine Int.mul_ne_zero (Int.mul_ne_zero ?_ ?_) (by decide) <;> omega
 refine OO h1 ?_
 rw [Rat.intCast_add, Rat.intCast_mul, Rat.intCast_mul, Rat.intCast_mul, Rat.intCast_mul, GK p, GK q]
 have h2 : (p + q) / 2 * 2 = p + q := Rat.div_mul_cancel (by decide)
 show _ = (p + q) / 2 * (((p.den : Int) : Rat) * ((q.den : Int) : Rat) * 2)
 generalize (p + q) / 2 = m at *
 grind
theorem abc {p q : Rat} {k : Nat} (hp : sz LL p.num ≤ k ∧ sz LL (p.den : Int) ≤ k) (hq : sz LL q.num ≤ k ∧ sz LL (q.den : Int) ≤ k) (hk : k ≤ 300000000000) : aI env.P 118 [RT p, RT q] (RT ((p + q) / 2)) := by
 have c1 := DZ hp.1 hp.2 hq.1 hq.2 (by omega) (eE p) (eE q) hp hq
 have g1 := bS (b := LL) fS hp.1 hq.2
 have g2 := bS (b := LL) fS hq.1 hp.2
 have g3 := bS (b := LL) fS hp.2 hq.2
 have s2 : sz LL 2 ≤ 1 := cN (k := 1) fS (by decide)
 have g4 := bS (b := LL) fS g3 s2
 have g5 := mQ (b := LL) fS (Nat.le_trans g1 (show k + k ≤ k + k from Nat.le_refl _)) (Nat.le_trans g2 (show k + k ≤ k + k from Nat.le_refl _))
 have a1 := QF (x := p.num * q.den) (y := q.num * p.den) (by show _ < _; omega) (by show _ < _; omega)
 have o1 := zH 2 (by decide) (by decide)
 have m1 := tK (x := (p.den : Int) * q.den) (y := 2) (by show _ < _; omega) (by show _ < _; omega)
 have h1 : ((p.den : Int) * q.den * 2) ≠ 0 := by
  have := p.den_nz; have := q.den_nz
  refine Int.mul_ne_zero (Int.mul_ne_zero ?_ ?_) (by decide) <;> omega
 have l1 := sP (n := p.num * q.den + q.num * p.den) (d := p.den * q.den * 2) (by omega) (by omega) h1
 rw [ake] at l1
 show aI env.P _ [T2 p.num p.den, T2 q.num q.den] (T2 ((p + q) / 2).num ((p + q) / 2).den)
 replace l1 : aI env.P 192 [I (p.num * q.den + q.num * p.den), I (p.den * q.den * 2)] (T2 ((p + q) / 2).num ((p + q) / 2).den) := l1
 clear g1 g2 g3 g4 g5 h1 hp hq
 generalize ((p + q) / 2).num = rn at *
 generalize (((p + q) / 2).den : Int) = rd at *
 generalize p.num * (q.den : Int) + q.num * p.den = x4 at *
 generalize (p.den : Int) * q.den * 2 = x5 at *
 generalize p.num * (q.den : Int) = x1 at *
 generalize q.num * (p.den : Int) = x2 at *
 generalize (p.den : Int) * (q.den : Int) = x3 at *
 generalize p.num = pn at *
 generalize (p.den : Int) = pd at *
 generalize q.num = qn at *
 generalize (q.den : Int) = qd at *
 refine aB (E := env) (fun _ => 0) [(0, T2 pn pd), (1, T2 qn qd)] Tryz.func118 rfl (by kernel_rfl) (by kernel_rfl) (show 2 ≤ 22 by decide) (by simp) ?_
 refine W.sr ?_; simp (disch := omega) [gw]; refine W.lx [2, 3, 4] ?_; simp
 refine W.sr ?_
 simp (disch := omega) [gw]
 refine aA c1 ?_
 simp (disch := omega) [gw]
 refine W.lx [4, 5, 6, 7] ?_; simp
 refine W.sd ?_
 simp (maxSteps := 4000000) (disch := omega) [gw]
 refine aA a1 ?_
 simp (maxSteps := 4000000) (disch := omega) [gw]
 refine aA o1 ?_
 simp (maxSteps := 4000000) (disch := omega) [gw]
 refine aA m1 ?_
 simp (maxSteps := 4000000) (disch := omega) [gw]
 refine aA l1 ?_
 simp (maxSteps := 4000000) (disch := omega) [gw]
 (try (refine bN (of_decide_eq_true (by kernel_rfl)) ?_)); (try simp (maxSteps := 4000000) (disch := omega) [gw]); (repeat rw [if_pos (by kernel_rfl)]); (try simp (maxSteps := 4000000) (disch := omega) [gw])
 refine W.lx [4] ?_; simp
 refine W.ret ?_
 simp [go]
theorem VJ {p : Rat} (hp : sz LL p.num < 1099511627770 ∧ sz LL (p.den : Int) < 1099511627770) : aI env.P 86 [RT p] (RT (-p)) := by
 have n1 := qY hp.1 hp.2
 rw [eE] at n1
 have n2 := agv (x := p.num) (by show _ < _; omega)
 replace n1 : aI env.P 164 [T2 p.num p.den] (T2 p.num p.den) := n1
 show aI env.P _ [T2 p.num p.den] (T2 (-p).num (-p).den)
 rw [Rat.neg_num, Rat.neg_den]
 generalize -p.num = rn at *
 generalize p.num = pn at *
 generalize (p.den : Int) = pd at *
 refine aB (E := env) (fun _ => 0) [(0, T2 pn pd)] Tryz.func86 rfl (by kernel_rfl) (by kernel_rfl) (show 1 ≤ 10 by decide) (by simp) ?_
 refine W.sr ?_; simp (disch := omega) [gw]; refine W.lx [1, 2] ?_; simp
 refine W.sr ?_
 simp (disch := omega) [gw]
 refine aA n1 ?_
 simp (disch := omega) [gw]
 refine W.lx [1, 2] ?_; simp
 refine W.sr ?_
 simp (disch := omega) [gw]
 refine aA n2 ?_
 simp (disch := omega) [gw]
 refine W.lx [1, 2] ?_; simp
 refine W.sr ?_; simp (disch := omega) [gw]; refine W.lx [2] ?_; simp
 refine W.ret ?_
 simp [go]
theorem KP {p q : Rat} (hp : ZR YY p) (hq : ZR YY q) (hs : ZR YY (p + q)) : aI env.P 60 [RR p, RR q] (RR ((p + q) / 2)) := by
 have a1 := tP p q hp hq
 have o1 := n5 1 2 (by decide) (by decide)
 have m1 := zZ (p + q) (cO 1 2) hs ⟨by decide, by decide⟩
 have e : (p + q) * cO 1 2 = (p + q) / 2 := by
  rw [show cO 1 2 = (1 : Rat) / 2 by rw [AS (by decide)]; rfl]; grind
 rw [e] at m1
 rw [b9] at *
 rw [b9 q, b9 (p + q), b9 (cO 1 2)] at *
 generalize (p + q) / 2 = m at *
 generalize p + q = s at *
 generalize cO 1 2 = hf at *
 generalize p.num = pn at *
 generalize (p.den : Int) = pd at *
 generalize q.num = qn at *
 generalize (q.den : Int) = qd at *
 generalize s.num = sn at *
 generalize (s.den : Int) = sd at *
 generalize hf.num = fn at *
 generalize (hf.den : Int) = fd at *
 rw [b9] at *
 generalize m.num = mn at *
 generalize (m.den : Int) = md at *
 refine aB (E := env) (fun _ => 0) [(0, R2 pn pd), (1, R2 qn qd)] Tryz.func60 rfl (by kernel_rfl) (by kernel_rfl) (show 2 ≤ 10 by decide) (by simp) ?_
 refine W.sr ?_; simp (disch := omega) [gw]; refine W.lx [2, 3, 4] ?_; simp
 refine W.sr ?_
 simp (disch := omega) [gw]
 refine aA a1 ?_
 simp (disch := omega) [gw]
 refine aA o1 ?_
 simp (disch := omega) [gw]
 refine aA m1 ?_
 simp (disch := omega) [gw]
 refine W.lx [4] ?_; simp
 refine W.ret ?_
 simp [go]
theorem abd {d : Int} (h : sz LL d < 4294967296) : aI env.P 34 [I d] (RI d) := by
 have h1 := C9 (decide (d < 0)) (aQ LL d.natAbs) (by have : sz LL d = (aQ LL d.natAbs).length := rfl; omega) (eS fS _)
 rw [show iv (decide (d < 0)) (aQ LL d.natAbs) = d from IL d] at h1
 exact h1
theorem VK {p : Rat} (hp : sz LL p.num < 4294967296 ∧ sz LL (p.den : Int) < 4294967296) (hY : Y p.num ∧ Y (p.den : Int)) : aI env.P 28 [RT p] (RR p) := by
 have f1 := abd hp.1
 have f2 := abd hp.2
 have m1 := jC p.num p.den hY.1 hY.2
 rw [eE, b9] at m1
 rw [b9]
 show aI env.P _ [T2 p.num p.den] _
 replace f1 : aI env.P 34 [I p.num] (RI p.num) := f1
 replace f2 : aI env.P 34 [I (p.den : Int)] (RI (p.den : Int)) := f2
 generalize p.num = pn at *
 generalize (p.den : Int) = pd at *
 refine aB (E := env) (fun _ => 0) [(0, T2 pn pd)] Tryz.func28 rfl (by kernel_rfl) (by kernel_rfl) (show 1 ≤ 10 by decide) (by simp) ?_
 refine W.sr ?_; simp (disch := omega) [gw]; refine W.lx [1, 2] ?_; simp
 refine W.sd ?_
 simp (maxSteps := 4000000) (disch := omega) [gw]
 refine aA f1 ?_
 simp (maxSteps := 4000000) (disch := omega) [gw]
 refine aA f2 ?_
 simp (maxSteps := 4000000) (disch := omega) [gw]
 refine aA m1 ?_
 simp (maxSteps := 4000000) (disch := omega) [gw]
 (try (refine bN (of_decide_eq_true (by kernel_rfl)) ?_)); (try simp (maxSteps := 4000000) (disch := omega) [gw]); (repeat rw [if_pos (by kernel_rfl)]); (try simp (maxSteps := 4000000) (disch := omega) [gw])
 refine W.lx [2] ?_; simp
 refine W.ret ?_
 simp [go]
theorem ag5 {x : Int} (hx : Sz x) : aI env.P 162 [I x] (I (x.natAbs : Int)) := by
 have h1 := ZQ (decide (x < 0)) (aQ LL x.natAbs) hx.V7
 rw [show V 4294967296 (aQ LL x.natAbs) = (x.natAbs : Int) from jM fS _] at h1
 exact h1
def kL (x : List Int) : Nat → Int
 | 0 => 0
 | i + 1 => if kL x i < ((nth x i).natAbs : Int) then ((nth x i).natAbs : Int) else kL x i
theorem abe (x : List Int) : ∀ i, 0 ≤ kL x i
 | 0 => Int.le_refl _
 | i + 1 => by
  have := abe x i
  rw [kL]; split <;> omega
theorem abf (x : List Int) : ∀ i k, k < i → ((nth x k).natAbs : Int) ≤ kL x i
 | 0, k, h => by omega
 | i + 1, k, h => by
  rw [kL]
  by_cases hk : k = i
  ·subst hk; split <;> omega
  ·have := abf x i k (by omega)
   split <;> omega
theorem vI {b s n : Nat} {x : List Int} (h : Bd b s n x) : ∀ i, Pm.sz b (kL x i) ≤ s
 | 0 => by show Pm.sz b 0 ≤ s; rw [jA]; omega
 | i + 1 => by
  have ih := vI h i
  have h1 := h.nth i
  have h2 : Pm.sz b ((nth x i).natAbs : Int) = Pm.sz b (nth x i) := by unfold Pm.sz; rw [Int.natAbs_natCast]
  rw [kL]; split
  ·rw [h2]; exact h1
  ·exact ih
def iY (x : List Int) : Rat := cO (((lead x).natAbs : Int) + kL x (x.length - 1)) ((lead x).natAbs : Int)
theorem OP {α : Type} {g : α → List PV} {l : List α} {s n : Nat} {x : List Int} (hN : aI env.P 101 [aJ g l] (Po x)) (cx : Cn x) (hx : x ≠ []) (b : Bd LL s n x) (hs : s < 500000000000) (hn : n < 500000000000) : aI env.P 84 [aJ g l] (.eP [RT (iY x), .int .i64 0]) := by
 have nM : 0 < x.length := List.length_pos_iff.2 hx
 have hlen := b.len
 have uN := cD cx nM
 have L1 := jY (PB.of b (by omega) (by omega)) cx
 have hld := eT b
 have A1 := ag5 (x := lead x) (Nat.lt_of_le_of_lt hld (by omega))
 have OQ : sz LL ((lead x).natAbs : Int) ≤ s := Nat.le_trans (cC fS (by simp)) hld
 have hm := vI b (x.length - 1)
 have S1 := QF (x := ((lead x).natAbs : Int)) (y := kL x (x.length - 1)) (Nat.lt_of_le_of_lt OQ (by omega)) (Nat.lt_of_le_of_lt hm (by omega))
 have auU := mQ (b := LL) fS OQ hm
 have M1 := aeL (n := ((lead x).natAbs : Int) + kL x (x.length - 1)) (d := ((lead x).natAbs : Int)) (by omega) (by omega) (by omega)
 replace M1 : aI env.P 163 [I (((lead x).natAbs : Int) + kL x (x.length - 1)), I ((lead x).natAbs : Int)] (.eP [T2 (iY x).num (iY x).den, .int .i64 0]) := M1
 show aI env.P _ _ (.eP [T2 (iY x).num (iY x).den, _])
 have C1 : ∀ i, i < x.length → aI env.P 162 [I (nth x i)] (I ((nth x i).natAbs : Int)) ∧ aI env.P 133 [I ((nth x i).natAbs : Int), I (kL x i)] (.int .i64 (dC ((nth x i).natAbs : Int) (kL x i))) := fun i hi => by
  have h1 := b.nth i
  have h2 : sz LL ((nth x i).natAbs : Int) ≤ s := Nat.le_trans (cC fS (by simp)) h1
  exact ⟨ag5 (Nat.lt_of_le_of_lt h1 (by omega)), ZE (Nat.lt_of_le_of_lt h2 (by omega)) (Nat.lt_of_le_of_lt (vI b i) (by omega))⟩
 have PE : ∀ i, kL x (i + 1) = if 0 < dC ((nth x i).natAbs : Int) (kL x i) then ((nth x i).natAbs : Int) else kL x i := fun i => by
  rw [kL]
  by_cases h : kL x i < ((nth x i).natAbs : Int)
  ·rw [if_pos h, if_pos (m8.2 h)]
  ·rw [if_neg h, if_neg (fun q => h (m8.1 q))]
 have h0 : kL x 0 = 0 := rfl
 clear hm auU OQ hld
 generalize (iY x).num = rn at *
 generalize ((iY x).den : Int) = rd at *
 generalize ((lead x).natAbs : Int) + kL x (x.length - 1) = sm at *
 generalize ((lead x).natAbs : Int) = la at *
 generalize kL x = mf at *
 have e1 : ((x.length : Int) - 1).toNat = x.length - 1 := by omega
 have e2 : (x.length : Int) - 1 = ((x.length - 1 : Nat) : Int) := by omega
 refine aB (E := env) (fun _ => 0) [(0, aJ g l)] Tryz.func84 rfl (by kernel_rfl) (by kernel_rfl) (show 1 ≤ 43 by decide) (by simp) ?_
 refine W.sr ?_; simp (disch := omega) [gw]; refine W.lx [0, 2] ?_; simp
 refine W.sr ?_
 simp (disch := omega) [gw]
 refine aA hN ?_
 simp (disch := omega) [gw]
 refine W.lx [0, 2] ?_; simp
 refine W.seq ?_
 refine W.sr ?_; simp (disch := omega) [gw]; refine W.lx [0, 2, 13] ?_; simp
 refine W.cond ⟨_, rfl, fun h => ?_, fun h => ?_⟩
 ·simp at h; exact absurd h hx
 refine W.skip ?_
 refine W.sr ?_; simp (disch := omega) [gw]; refine W.lx [0, 2, 4] ?_; simp
 refine W.row (id := 4) (els := [[.bool false, .nil]]) [[.bool (decide ((0 : Int) < 0)), us (aQ LL (0 : Int).natAbs)]] (by simp; first | exact ⟨rfl, rfl, rfl⟩ | exact ⟨rfl, rfl⟩ | rfl) ⟨⟨.inl rfl, .inr ⟨rfl, rfl⟩, trivial⟩, trivial⟩ ?_
 refine W.seq ?_
 refine W.sr ?_
 simp (disch := omega) [gw, e1, e2]
 refine W.lx [0, 2, 4, 19, 20, 21] ?_; simp
 refine W.block ?_
 refine W.a9 (fun k σ => ∃ (v2 e2 v4 e4 i : Nat) (rows : Pm.Rows) (clk : Nat), σ = ⟨fa [(0, Po x), (2, .ptr 2 v2 0 0), (4, .ptr 4 v4 0 0), (19, aJ ie (x.take (x.length - 1))), (20, .int .i64 ((x.length - 1 : Nat) : Int)), (21, .int .i64 i)], rows, clk⟩ ∧ i + k = x.length - 1 ∧
  rows 2 = some ⟨v2, e2, 4, [[.bool false, .nil, .bool false, .nil]]⟩ ∧ rows 4 = some ⟨v4, e4, 2, [[.bool (decide (mf i < 0)), us (aQ LL (mf i).natAbs)]]⟩) (x.length - 1) ?_ ?_
 ·exact ⟨_, .refl, _, _, _, _, 0, _, _, rfl, by omega, by simp; (first | exact ⟨rfl, rfl⟩ | rfl), by rw [h0]; simp; (first | exact ⟨rfl, rfl⟩ | rfl)⟩
 rintro k _ ⟨v2, e2, v4, e4, i, rows, clk, rfl, I0, cI, jN⟩
 refine W.sr ?_; simp (disch := omega) [gw]; refine W.lx [0, 2, 4, 19, 20, 21, 22] ?_; simp
 refine W.seq ?_
 refine W.cond ⟨_, rfl, fun h => ?_, fun h => ?_⟩
 ·have hi : i < x.length - 1 := by simp at h; omega
  have BB : i < x.length := by omega
  have uR : nth (x.take (x.length - 1)) i = nth x i := by unfold nth; rw [List.getElem?_take_of_lt hi]
  obtain ⟨c1, c2⟩ := C1 i BB
  have hm := PE i
  generalize dC ((nth x i).natAbs : Int) (mf i) = cv at *
  generalize ((nth x i).natAbs : Int) = ab at *
  generalize nth x i = xi at *
  refine W.skip ?_
  refine W.eM (fun σ => ∃ (v2 e2 v4 e4 : Nat) (rows : Pm.Rows) (clk : Nat), σ = ⟨fa [(0, Po x), (2, .ptr 2 v2 0 0), (4, .ptr 4 v4 0 0), (19, aJ ie (x.take (x.length - 1))), (20, .int .i64 ((x.length - 1 : Nat) : Int)), (21, .int .i64 i)], rows, clk⟩ ∧
   rows 2 = some ⟨v2, e2, 4, [[.bool false, .nil, .bool false, .nil]]⟩ ∧ rows 4 = some ⟨v4, e4, 2, [[.bool (decide (mf (i + 1) < 0)), us (aQ LL (mf (i + 1)).natAbs)]]⟩) ?_ ?_
  ·refine W.sr ?_; simp (disch := omega) [gw, hi, uR]; refine W.lx [0, 2, 4, 6, 19, 20, 21] ?_; simp
   refine W.sr ?_
   simp (disch := omega) [gw]
   refine aA c1 ?_
   simp (disch := omega) [gw]
   refine W.lx [0, 2, 4, 7, 19, 20, 21] ?_; simp
   refine W.sr ?_
   simp (disch := omega) [gw, jN]
   refine aA c2 ?_
   simp (disch := omega) [gw]
   refine W.lx [0, 2, 4, 7, 19, 20, 21, 30] ?_; simp
   refine W.cond ⟨_, rfl, fun h => ?_, fun h => ?_⟩
   ·have h : 0 < cv := by simpa using h
    rw [if_pos h] at hm
    refine W.b8 (fun K hK => ?_); simp (disch := omega) [gw, jN]
    exact hK _ ⟨_, aC _ [0, 2, 4, 19, 20, 21], _, _, _, _, _, _, rfl, by simp [cI]; exact rfl, by simp [hm]; exact rfl⟩
   ·have h : ¬ 0 < cv := by simpa using h
    rw [if_neg h] at hm
    refine W.skip ?_
    exact ⟨_, aC _ [0, 2, 4, 19, 20, 21], _, _, _, _, _, _, rfl, by simp [cI]; exact rfl, by simp [hm, jN]; exact rfl⟩
  rintro _ ⟨v2, e2, v4, e4, rows, clk, rfl, cI, jN⟩
  refine W.b8 (fun K hK => ?_); simp (disch := omega) [gw]
  refine hK _ ⟨k - 1, _, aC _ [0, 2, 4, 19, 20, 21], by omega, _, _, _, _, i + 1, _, _, rfl, by omega, cI, jN⟩
 ·have hi : i = x.length - 1 := by simp at h; omega
  subst hi
  refine W.exit ?_; simp only [pX, if_true, if_false, reduceIte, Nat.reduceEqDiff]
  refine W.sr ?_
  simp (disch := omega) [gw]
  refine aA L1 ?_
  simp (disch := omega) [gw]
  refine aA A1 ?_
  simp (disch := omega) [gw]
  refine W.lx [2, 4, 8] ?_; simp
  refine W.sd ?_
  simp (disch := omega) [gw, jN]
  refine aA S1 ?_
  simp (maxSteps := 4000000) (disch := omega) [gw]
  refine aA M1 ?_
  simp (disch := omega) [gw, cI]
  (try (refine bN (of_decide_eq_true (by kernel_rfl)) ?_)); (try simp (maxSteps := 4000000) (disch := omega) [gw, cI]); (repeat rw [if_pos (by kernel_rfl)]); (try simp (maxSteps := 4000000) (disch := omega) [gw, cI])
  refine W.lx [2, 3] ?_; simp
  refine W.ret ?_
  simp [go]
theorem AU {x : List Int} (cx : Cn x) (hx : x ≠ []) : iY x = 1 + ((kL x (x.length - 1) : Int) : Rat) / (((lead x).natAbs : Int) : Rat) := by
 have uN := cD cx (List.length_pos_iff.2 hx)
 have h1 : ((lead x).natAbs : Int) ≠ 0 := by omega
 have h2 : (((lead x).natAbs : Int) : Rat) ≠ 0 := fun h => h1 (Rat.intCast_eq_zero_iff.1 h)
 refine OO h1 ?_
 rw [Rat.intCast_add]
 have h3 := Rat.div_mul_cancel (a := ((kL x (x.length - 1) : Int) : Rat)) h2
 generalize ((kL x (x.length - 1) : Int) : Rat) / (((lead x).natAbs : Int) : Rat) = w at *
 grind
theorem akf {u v : Int} {k : Nat} (hu : sz 2 u ≤ k) (hv : sz 2 v ≤ k) (h0 : v ≠ 0) : ZR k ((u : Rat) / (v : Rat)) := by
 rw [← AS h0]
 have e : ∀ w : Int, sz 2 (-w) = sz 2 w := fun w => by unfold sz; rw [Int.natAbs_neg]
 constructor
 ·rw [n3 u v h0]
  refine Nat.le_trans (cC (b := 2) (by decide) (Int.natAbs_ediv_le_natAbs _ _)) ?_
  split
  ·rw [e]; exact hu
  ·exact hu
 ·rw [n4 u v h0]
  refine Nat.le_trans (cC (b := 2) (by decide) (Int.natAbs_ediv_le_natAbs _ _)) ?_
  split
  ·rw [e]; exact hv
  ·exact hv
theorem OR {s n : Nat} {x : List Int} (cx : Cn x) (hx : x ≠ []) (b : Bd 2 s n x) (qO : 1 ≤ s) (hs : s ≤ 1000000000) (hn : n < 1099511627776) : aI env.P 88 [PI x] (RR (iY x)) := by
 have nM : 0 < x.length := List.length_pos_iff.2 hx
 have hlen := b.len
 have uN := cD cx nM
 have hY : YY = 137438953472 := rfl
 have hO := n5 1 1 (by decide) (by decide)
 rw [show cO 1 1 = 1 from by decide] at hO
 have EM : x.length < 2 → iY x = 1 := fun h => by
  rw [AU cx hx, show x.length - 1 = 0 by omega]
  show 1 + ((0 : Int) : Rat) / _ = 1
  rw [Rat.intCast_zero, Rat.div_def, Rat.zero_mul, Rat.add_zero]
 have hld := eT b
 have OQ : sz 2 ((lead x).natAbs : Int) ≤ s := Nat.le_trans (cC (b := 2) (by decide) (by simp)) hld
 have hm := vI b (x.length - 1)
 have Z1 : ∀ {v : Int}, sz 2 v ≤ s → ZR YY ((v : Int) : Rat) := fun h => mS (by omega) (by decide)
 have Q1 := z0 ((kL x (x.length - 1) : Int) : Rat) (((lead x).natAbs : Int) : Rat) (Z1 hm) (Z1 OQ) (fun h => by have := Rat.intCast_eq_zero_iff.1 h; omega)
 have hz := akf (k := YY) (Nat.le_trans hm (by omega)) (Nat.le_trans OQ (by omega)) (by omega : ((lead x).natAbs : Int) ≠ 0)
 have A1 := tP 1 (((kL x (x.length - 1) : Int) : Rat) / (((lead x).natAbs : Int) : Rat)) ⟨by decide, by decide⟩ hz
 rw [← AU cx hx] at A1
 have C1 : ∀ i, i < x.length → aI env.P 27 [R2 ((nth x i).natAbs : Int) 1, R2 (kL x i) 1] (.int .i64 (dC ((nth x i).natAbs : Int) (kL x i))) := fun i hi => by
  have h1 := b.nth i
  have h2 : sz 2 ((nth x i).natAbs : Int) ≤ s := Nat.le_trans (cC (b := 2) (by decide) (by simp)) h1
  have h3 := vI b i
  have := qW ((nth x i).natAbs : Int) 1 (kL x i) 1 (by omega) (by decide) (by omega) (by decide)
  rwa [Int.mul_one, Int.mul_one] at this
 have PE : ∀ i, kL x (i + 1) = if 0 < dC ((nth x i).natAbs : Int) (kL x i) then ((nth x i).natAbs : Int) else kL x i := fun i => by
  rw [kL]
  by_cases h : kL x i < ((nth x i).natAbs : Int)
  ·rw [if_pos h, if_pos (m8.2 h)]
  ·rw [if_neg h, if_neg (fun q => h (m8.1 q))]
 have h0 : kL x 0 = 0 := rfl
 have rA := nE
 have apX : nth x (x.length - 1) = lead x := rfl
 have hd : ∀ v : Int, decide (((v.natAbs : Int)) < 0) = false := fun v => decide_eq_false (by omega)
 have hna : ∀ v : Int, ((v.natAbs : Int)).natAbs = v.natAbs := fun v => Int.natAbs_natCast _
 clear hm hld OQ hz Z1
 rw [show RR ((kL x (x.length - 1) : Int) : Rat) = .ag (ri (kL x (x.length - 1))) from congrArg PV.ag (eN _), show RR (((lead x).natAbs : Int) : Rat) = .ag (ri ((lead x).natAbs : Int)) from congrArg PV.ag (eN _)] at Q1
 rw [show RR (1 : Rat) = .ag (ri 1) from congrArg PV.ag (eN 1)] at A1 hO
 generalize ((kL x (x.length - 1) : Int) : Rat) / (((lead x).natAbs : Int) : Rat) = qq at *
 generalize hbd : iY x = B at *
 simp only [b9] at Q1 A1 ⊢
 have vZ : x.length < 2 → R2 B.num (B.den : Int) = .ag (ri 1) := fun h => by rw [EM h]; rfl
 generalize B.num = bn at *
 generalize (B.den : Int) = bd at *
 generalize qq.num = qn at *
 generalize (qq.den : Int) = qd at *
 generalize hmf : kL x = mf at *
 have e1 : ((x.length : Int) - 1).toNat = x.length - 1 := by omega
 refine aB (E := env) (fun _ => 0) [(0, PI x)] Tryz.func88 rfl (by kernel_rfl) (by kernel_rfl) (show 1 ≤ 43 by decide) (by simp) ?_
 refine W.sr ?_; simp (disch := omega) [gw]; refine W.lx [0, 2] ?_; simp
 refine W.sr ?_
 simp (disch := omega) [gw]
 refine aA rA ?_
 simp (disch := omega) [gw]
 refine W.lx [0, 2, 3] ?_; simp
 refine W.seq ?_
 refine W.sr ?_; simp (disch := omega) [gw]; refine W.lx [0, 2, 3, 4] ?_; simp
 refine W.block ?_
 refine W.a9 (fun k σ => ∃ (v2 e2 v3 e3 i : Nat) (rows : Pm.Rows) (clk : Nat), σ = ⟨fa [(0, PI x), (2, .ptr 2 v2 0 0), (3, .ptr 3 v3 0 0), (4, .int .i64 i)], rows, clk⟩ ∧ i + k = x.length - 1 ∧
  rows 2 = some ⟨v2, e2, 4, [[.nil, .bool false, .nil, .bool false]]⟩ ∧ rows 3 = some ⟨v3, e3, 4, [[aJ aF (aQ DD (mf i).natAbs), .bool (decide (mf i < 0)), aJ aF (aQ DD 1), .bool false]]⟩) (x.length - 1) ?_ ?_
 ·exact ⟨_, .refl, _, _, _, _, 0, _, _, rfl, by omega, by simp; (first | exact ⟨rfl, rfl⟩ | rfl), by rw [h0]; simp; (first | exact ⟨rfl, rfl⟩ | rfl)⟩
 rintro k _ ⟨v2, e2, v3, e3, i, rows, clk, rfl, I0, cI, fQ⟩
 refine W.seq ?_
 refine W.sr ?_; simp (disch := omega) [gw]; refine W.lx [0, 2, 3, 4, 12] ?_; simp
 refine W.cond ⟨_, rfl, fun h => ?_, fun h => ?_⟩
 ·have hi : i < x.length - 1 := by simp at h; omega
  have BB : i < x.length := by omega
  have c1 := C1 i BB
  have hm := PE i
  have NK := hd (nth x i)
  have uB := hna (nth x i)
  simp only [NK, uB, F4, R2] at c1
  generalize dC ((nth x i).natAbs : Int) (mf i) = cv at *
  refine W.skip ?_
  refine W.eM (fun σ => ∃ (v2 e2 v3 e3 : Nat) (rows : Pm.Rows) (clk : Nat), σ = ⟨fa [(0, PI x), (2, .ptr 2 v2 0 0), (3, .ptr 3 v3 0 0), (4, .int .i64 i)], rows, clk⟩ ∧
   rows 2 = some ⟨v2, e2, 4, [[.nil, .bool false, .nil, .bool false]]⟩ ∧ rows 3 = some ⟨v3, e3, 4, [[aJ aF (aQ DD (mf (i + 1)).natAbs), .bool (decide (mf (i + 1) < 0)), aJ aF (aQ DD 1), .bool false]]⟩) ?_ ?_
  ·refine W.sr ?_; simp (disch := omega) [gw, BB]; refine W.lx [0, 2, 3, 4, 5] ?_; simp
   refine W.sr ?_; simp (disch := omega) [gw]; refine W.lx [0, 2, 3, 4, 5] ?_; simp
   refine W.sr ?_
   simp (disch := omega) [gw, fQ]
   refine aA c1 ?_
   simp (disch := omega) [gw]
   refine W.lx [0, 2, 3, 4, 5, 24] ?_; simp
   refine W.cond ⟨_, rfl, fun h => ?_, fun h => ?_⟩
   ·have h : 0 < cv := by simpa using h
    rw [if_pos h] at hm
    refine W.b8 (fun K hK => ?_); simp (disch := omega) [gw, fQ]
    exact hK _ ⟨_, aC _ [0, 2, 3, 4], _, _, _, _, _, _, rfl, by simp [cI]; exact rfl, by simp [hm, NK, uB]; exact rfl⟩
   ·have h : ¬ 0 < cv := by simpa using h
    rw [if_neg h] at hm
    refine W.skip ?_
    exact ⟨_, aC _ [0, 2, 3, 4], _, _, _, _, _, _, rfl, by simp [cI]; exact rfl, by simp [hm, fQ]; exact rfl⟩
  rintro _ ⟨v2, e2, v3, e3, rows, clk, rfl, cI, fQ⟩
  refine W.b8 (fun K hK => ?_); simp (disch := omega) [gw]
  refine hK _ ⟨k - 1, _, aC _ [0, 2, 3, 4], by omega, _, _, _, _, i + 1, _, _, rfl, by omega, cI, fQ⟩
 ·have hi : i = x.length - 1 := by simp at h; omega
  subst hi
  refine W.exit ?_; simp only [pX, if_true, if_false, reduceIte, Nat.reduceEqDiff]
  refine W.seq ?_
  refine W.sr ?_; simp (disch := omega) [gw]; refine W.lx [0, 2, 3, 28] ?_; simp
  refine W.cond ⟨_, rfl, fun h => ?_, fun h => ?_⟩
  ·have h : x.length < 2 := by simp at h; omega
   rw [vZ h]
   refine W.sr ?_
   simp (disch := omega) [gw]
   refine aA hO ?_
   simp (disch := omega) [gw, cI]
   refine W.lx [2] ?_; simp
   refine W.ret ?_
   simp [go]
  ·have h : ¬ x.length < 2 := by simp at h; omega
   have BB : x.length - 1 < x.length := by omega
   have NK := hd (lead x)
   have uB := hna (lead x)
   simp only [R2, ZZ, F4, NK, uB] at Q1 A1
   refine W.skip ?_
   refine W.sr ?_; simp (disch := omega) [gw, BB, e1, apX]; refine W.lx [2, 3, 6] ?_; simp
   refine W.sr ?_; simp (disch := omega) [gw]; refine W.lx [2, 3, 6] ?_; simp
   refine W.sd ?_
   simp (disch := omega) [gw]
   refine aA hO ?_
   simp (disch := omega) [gw, fQ]
   refine aA Q1 ?_
   simp (disch := omega) [gw]
   refine aA A1 ?_
   simp (disch := omega) [gw, cI]
   (try (refine bN (of_decide_eq_true (by kernel_rfl)) ?_)); (try simp (maxSteps := 4000000) (disch := omega) [gw, cI]); (repeat rw [if_pos (by kernel_rfl)]); (try simp (maxSteps := 4000000) (disch := omega) [gw, cI])
   refine W.lx [2] ?_; simp
   refine W.ret ?_
   simp [go]
end Go.Proofs.YtbbjgncblhfegaaGreat
namespace Pm
theorem abg : ∀ (n : Nat) (f : Nat → Nat), (∀ k, k ≤ n → f k < n) → ∃ i j, i < j ∧ j ≤ n ∧ f i = f j
 | 0, f, h => absurd (h 0 (Nat.le_refl _)) (by omega)
 | n + 1, f, h => by
  by_cases hx : ∃ i, i ≤ n ∧ f i = f (n + 1)
  ·obtain ⟨i, hi, e⟩ := hx
   exact ⟨i, n + 1, by omega, Nat.le_refl _, e⟩
  ·have qG : ∀ i, i ≤ n → f i ≠ f (n + 1) := fun i hi e => hx ⟨i, hi, e⟩
   have hm := h (n + 1) (Nat.le_refl _)
   obtain ⟨i, j, hij, hj, e⟩ := abg n (fun k => if f k = n then f (n + 1) else f k) (fun k hk => by
    have h1 := h k (by omega)
    have h2 := qG k hk
    show (if f k = n then f (n + 1) else f k) < n
    split <;> omega)
   refine ⟨i, j, hij, by omega, ?_⟩
   have h1 := qG i (by omega)
   have h2 := qG j hj
   have e' : (if f i = n then f (n + 1) else f i) = (if f j = n then f (n + 1) else f j) := e
   split at e' <;> split at e' <;> omega
def OS (b : Nat) : Nat → Nat → List Int
 | 0, _ => []
 | n + 1, k => ((k % b : Nat) : Int) :: OS b n (k / b)
theorem uI (b : Nat) : ∀ n k, (OS b n k).length = n
 | 0, _ => rfl
 | n + 1, k => by rw [OS, List.length_cons, uI b n]
theorem qZ {b : Nat} (hb : 0 < b) : ∀ n k, ∀ c ∈ OS b n k, 0 ≤ c ∧ c < b
 | 0, _, c, h => by cases h
 | n + 1, k, c, h => by
  rcases List.mem_cons.1 h with rfl | h
  ·have := Nat.mod_lt k hb; omega
  ·exact qZ hb n _ c h
theorem RZ {b : Nat} (hb : 0 < b) : ∀ n k m, k < b ^ n → m < b ^ n → OS b n k = OS b n m → k = m
 | 0, k, m, h1, h2, _ => by simp at h1 h2; omega
 | n + 1, k, m, h1, h2, h => by
  rw [OS, OS] at h
  injection h with h3 h4
  rw [Nat.pow_succ] at h1 h2
  have h5 := RZ hb n (k / b) (m / b) ((Nat.div_lt_iff_lt_mul hb).2 h1) ((Nat.div_lt_iff_lt_mul hb).2 h2) h4
  have h6 := Nat.div_add_mod k b
  have h7 := Nat.div_add_mod m b
  rw [h5] at h6
  omega
def OT (R : Nat) : List Nat → Nat
 | [] => 0
 | x :: l => x + R * OT R l
theorem abh {R : Nat} : ∀ l : List Nat, (∀ x ∈ l, x < R) → OT R l < R ^ l.length
 | [], _ => by simp [OT]
 | x :: l, h => by
  have h1 := abh l fun y hy => h y (List.mem_cons_of_mem _ hy)
  have h2 := h x (List.mem_cons_self ..)
  rw [OT, List.length_cons, Nat.pow_succ]
  have h3 : R * (OT R l + 1) ≤ R * R ^ l.length := Nat.mul_le_mul_left _ h1
  rw [Nat.mul_add] at h3
  rw [Nat.mul_comm (R ^ _)]
  omega
theorem R3 {R : Nat} : ∀ l m : List Nat, l.length = m.length → (∀ x ∈ l, x < R) → (∀ x ∈ m, x < R) → OT R l = OT R m → l = m
 | [], [], _, _, _, _ => rfl
 | [], _ :: _, h, _, _, _ => by simp at h
 | _ :: _, [], h, _, _, _ => by simp at h
 | x :: l, y :: m, hl, h1, h2, e => by
  rw [OT, OT] at e
  have hx := h1 x (List.mem_cons_self ..)
  have hy := h2 y (List.mem_cons_self ..)
  have e1 : (x + R * OT R l) % R = (y + R * OT R m) % R := by rw [e]
  rw [Nat.add_mul_mod_self_left, Nat.add_mul_mod_self_left, Nat.mod_eq_of_lt hx, Nat.mod_eq_of_lt hy] at e1
  subst e1
  have e2 : R * OT R l = R * OT R m := by omega
  have e3 := Nat.eq_of_mul_eq_mul_left (by omega) e2
  rw [R3 l m (by simpa using hl) (fun z hz => h1 z (List.mem_cons_of_mem _ hz)) (fun z hz => h2 z (List.mem_cons_of_mem _ hz)) e3]
theorem qA {X Y : Nat} : ∀ (x y : List Int), (∀ c ∈ x, c.natAbs ≤ X) → (∀ i, (nth y i).natAbs ≤ Y) → ∀ i, (nth (bH x y) i).natAbs ≤ x.length * (X * Y)
 | [], y, _, _, i => by
  rw [show bH [] y = [] from rfl, lG]; simp
 | k :: x, y, hx, hy, i => by
  have hk := hx k (List.mem_cons_self ..)
  have ih := qA x y (fun c hc => hx c (List.mem_cons_of_mem _ hc)) hy
  have h1 : ∀ j, (nth y j * k).natAbs ≤ X * Y := fun j => by
   rw [Int.natAbs_mul, Nat.mul_comm]
   exact Nat.mul_le_mul hk (hy j)
  rw [List.length_cons, Nat.add_mul, Nat.one_mul]
  cases i with
  | zero =>
   rw [pP]
   have := h1 0; omega
  | succ i =>
   rw [lH]
   have h2 := h1 (i + 1)
   have h3 := ih i
   have h4 := Int.natAbs_add_le (nth y (i + 1) * k) (nth (bH x y) i)
   omega
theorem OU {A : Nat} {y : List Int} (h : ∀ c ∈ y, c.natAbs ≤ A) (i : Nat) : (nth y i).natAbs ≤ A := by
 rcases Nat.lt_or_ge i y.length with h1 | h1
 ·exact h _ (bQ h1)
 ·rw [fY h1]; exact Nat.zero_le _
namespace ZX
theorem x8 (x y : ZX) (i : Nat) : nth (x - y).l i = nth x.l i - nth y.l i := by
 have h : x = (x - y) + y := by grind
 have h2 : nth x.l i = nth ((x - y) + y).l i := by rw [← h]
 rw [show ((x - y) + y).l = fZ (x - y).l y.l from rfl, tG] at h2
 omega
theorem aeM {a b v : ZX} (ha : a ≠ 0) (hc : ∀ d, dv d a → dv d b → N d ≤ 1) (h : dv a (v * b)) : dv a v := by
 obtain ⟨g, hg⟩ := iK _ a b (Nat.le_refl _)
 have h0 := hg.ne (.inl ha)
 have h1 := hc g hg.l hg.r
 have h2 := ZX.aD.1 h0
 obtain ⟨k, hk, rfl⟩ := mD (show N g = 1 by omega)
 obtain ⟨c, tI, u', v', e⟩ := hg.uv
 rw [nG] at e
 refine dv.JW (Int.mul_ne_zero tI hk) ?_
 rw [e, show (u' * a + v' * b) * v = (u' * v) * a + v' * (v * b) by grind]
 exact ((dv.refl a).mul_left _).add (h.mul_left _)
theorem R4 {l : List Int} {n : Nat} (h : l.length ≤ n) : N (of l) ≤ n := Nat.le_trans (bM l) h
theorem GL {x : ZX} {n : Nat} (hN : N x ≤ n + 1) (h : ∀ i, i < n → nth x.l (i + 1) = 0) : ∃ c : Int, x = K c := by
 rcases Nat.lt_or_ge (N x) 2 with h1 | h1
 ·rcases Nat.eq_zero_or_pos (N x) with h2 | h2
  ·refine ⟨0, ?_⟩
   have : x = 0 := Classical.byContradiction fun h0 => by have := ZX.aD.1 h0; omega
   rw [this]; rfl
  ·obtain ⟨c, _, e⟩ := mD (show N x = 1 by omega)
   exact ⟨c, e⟩
 ·exfalso
  have h2 : lead x.l ≠ 0 := cD x.c (show 0 < N x by omega)
  refine h2 ?_
  have h3 := h (N x - 2) (by omega)
  rw [show N x - 2 + 1 = x.l.length - 1 from by show N x - 2 + 1 = N x - 1; omega] at h3
  exact h3
theorem vJ (l : List Int) (i : Nat) : nth (of l).l i = nth l i := gZ l i
theorem w7 {l : List Int} {i n : Nat} (h : i < n) : nth (l.take n) i = nth l i := by
 simp only [nth, List.getElem?_take]
 rw [if_pos h]
theorem KQ {l : List Int} {i n : Nat} : nth (l.drop n) i = nth l (n + i) := by
 simp only [nth, List.getElem?_drop]
theorem akg {a b : ZX} {A : Nat} (ha : a ≠ 0) (hb : b ≠ 0) (hA : ∀ c ∈ a.l, c.natAbs ≤ A) (hB : ∀ c ∈ b.l, c.natAbs ≤ A) (hc : ∀ d, dv d a → dv d b → N d ≤ 1) {X : Nat} (hX : (2 * (N a + N b) * A) ^ (N a + N b) ≤ X) :
  ∃ (u v : ZX) (c : Int), c ≠ 0 ∧ u * a + v * b = K c ∧ N u ≤ N b ∧ N v ≤ N a ∧ (∀ c ∈ u.l, c.natAbs ≤ X) ∧ ∀ c ∈ v.l, c.natAbs ≤ X := by
 have na := ZX.aD.1 ha
 have nb := ZX.aD.1 hb
 have hA1 : 1 ≤ A := by
  have h1 := cD a.c na
  have h2 := hA (lead a.l) (by unfold lead; exact bQ (by have : a.l.length = N a := rfl; omega))
  omega
 have hX1 : 1 ≤ X := Nat.le_trans (Nat.one_le_pow _ _ (Nat.mul_pos (Nat.mul_pos (by decide) (by omega)) hA1)) hX
 rcases Nat.lt_or_ge 2 (N a + N b) with hm | hm
 ·obtain ⟨m, hmm⟩ : ∃ m, N a + N b = m + 3 := ⟨N a + N b - 3, by omega⟩
  let B := X + 1
  let W := (m + 1) * (X * A)
  let uu := fun k : Nat => of ((OS B (m + 1) k).take (N b - 1))
  let vv := fun k : Nat => of ((OS B (m + 1) k).drop (N b - 1))
  let L := fun k : Nat => uu k * a + vv k * b
  have hBp : 0 < B := Nat.succ_pos _
  have adX : ∀ k, ∀ c ∈ OS B (m + 1) k, c.natAbs ≤ X := fun k c hc => by
   have := qZ hBp _ _ c hc
   have : ((B : Nat) : Int) = X + 1 := by simp [B]
   omega
  have hu : ∀ k, ∀ c ∈ (uu k).l, c.natAbs ≤ X := fun k c hc => adX k c (List.mem_of_mem_take (pN _ _ hc))
  have hv : ∀ k, ∀ c ∈ (vv k).l, c.natAbs ≤ X := fun k c hc => adX k c (List.mem_of_mem_drop (pN _ _ hc))
  have hNu : ∀ k, N (uu k) ≤ N b - 1 := fun k => R4 (by rw [List.length_take, uI]; omega)
  have hNv : ∀ k, N (vv k) ≤ N a - 1 := fun k => R4 (by rw [List.length_drop, uI]; omega)
  have hW : ∀ k i, (nth (L k).l i).natAbs ≤ W := fun k i => by
   have e : (L k).l = fZ (bH (uu k).l a.l) (bH (vv k).l b.l) := rfl
   rw [e, tG]
   have h1 := qA (uu k).l a.l (hu k) (OU hA) i
   have h2 := qA (vv k).l b.l (hv k) (OU hB) i
   have h3 : (uu k).l.length + (vv k).l.length ≤ m + 1 := by
    have h4 : N (uu k) ≤ N b - 1 := hNu k
    have h5 : N (vv k) ≤ N a - 1 := hNv k
    show N (uu k) + N (vv k) ≤ m + 1
    omega
   have h4 := Int.natAbs_add_le (nth (bH (uu k).l a.l) i) (nth (bH (vv k).l b.l) i)
   have h5 : (uu k).l.length * (X * A) + (vv k).l.length * (X * A) ≤ W := by
    rw [← Nat.add_mul]; exact Nat.mul_le_mul_right _ h3
   omega
  let im := fun k : Nat => (List.range m).map fun i => (nth (L k).l (i + 1) + W).toNat
  have him : ∀ k, ∀ x ∈ im k, x < 2 * W + 1 := fun k x hx => by
   simp only [im, List.mem_map] at hx
   obtain ⟨i, _, rfl⟩ := hx
   have := hW k (i + 1)
   omega
  have auV : (2 * W + 1) ^ m < B ^ (m + 1) := by
   have h1 : 2 * W + 1 ≤ (2 * (N a + N b) * A) * B := by
    have h2 : 2 * W = 2 * (m + 1) * A * X := by simp only [W]; grind
    have h3 : 2 * (m + 1) * A * X + 1 ≤ 2 * (N a + N b) * A * X + 2 * (N a + N b) * A := by
     have h4 : 2 * (m + 1) * A ≤ 2 * (N a + N b) * A := Nat.mul_le_mul_right _ (by omega)
     have h5 := Nat.mul_le_mul_right X h4
     have h6 : 1 ≤ 2 * (N a + N b) * A := Nat.mul_pos (by omega) hA1
     omega
    rw [h2, show B = X + 1 from rfl, Nat.mul_add, Nat.mul_one]
    exact h3
   have h2 := Nat.pow_le_pow_left h1 m
   rw [Nat.mul_pow] at h2
   have h3 : (2 * (N a + N b) * A) ^ m ≤ X := Nat.le_trans (Nat.pow_le_pow_right (Nat.mul_pos (by omega) hA1) (by omega)) hX
   have h4 : (2 * (N a + N b) * A) ^ m * B ^ m ≤ X * B ^ m := Nat.mul_le_mul_right _ h3
   have h5 : X * B ^ m < B * B ^ m := (Nat.mul_lt_mul_right (Nat.pow_pos hBp)).2 (Nat.lt_succ_self X)
   rw [Nat.pow_succ, Nat.mul_comm (B ^ m)]
   omega
  obtain ⟨n, hn⟩ : ∃ n, B ^ (m + 1) = n + 1 := ⟨B ^ (m + 1) - 1, by have := Nat.pow_pos (n := m + 1) hBp; omega⟩
  obtain ⟨i, j, hij, hj, e⟩ := abg n (fun k => OT (2 * W + 1) (im k)) (fun k hk => by
   have h1 := abh (im k) (him k)
   rw [show (im k).length = m by simp [im]] at h1
   show OT (2 * W + 1) (im k) < n
   omega)
  have e2 := R3 (im i) (im j) (by simp [im]) (him i) (him j) e
  have e3 : ∀ s, s < m → nth (L i).l (s + 1) = nth (L j).l (s + 1) := fun s hs => by
   have h1 : (im i)[s]? = (im j)[s]? := by rw [e2]
   simp only [im, List.getElem?_map, List.getElem?_range hs, Option.map_some] at h1
   injection h1 with h1
   have := hW i (s + 1)
   have := hW j (s + 1)
   omega
  have hNL : ∀ x y : ZX, N x ≤ N b - 1 → N y ≤ N a - 1 → N (x * a + y * b) ≤ m + 1 := fun x y hx hy => by
   have h1 : N (x * a + y * b) ≤ max (N (x * a)) (N (y * b)) := zE _ _
   have h2 : N (x * a) ≤ N x + N a - 1 := pO (x := x.l) (y := a.l) na
   have h3 : N (y * b) ≤ N y + N b - 1 := pO (x := y.l) (y := b.l) nb
   omega
  have SM : N (uu i - uu j) ≤ N b - 1 := by
   have h1 : N (uu i - uu j) ≤ max (N (uu i)) (N (uu j)) := tE _ _
   have := hNu i; have := hNu j; omega
  have hv' : N (vv i - vv j) ≤ N a - 1 := by
   have h1 : N (vv i - vv j) ≤ max (N (vv i)) (N (vv j)) := tE _ _
   have := hNv i; have := hNv j; omega
  have eL : (uu i - uu j) * a + (vv i - vv j) * b = L i - L j := by simp only [L]; grind
  obtain ⟨c, NW⟩ := GL (x := (uu i - uu j) * a + (vv i - vv j) * b) (n := m) (hNL _ _ SM hv') (fun s hs => by
   rw [eL, x8, e3 s hs]; omega)
  have mN : ∀ (l l' : List Int), (∀ c ∈ l, 0 ≤ c ∧ c < (B : Int)) → (∀ c ∈ l', 0 ≤ c ∧ c < (B : Int)) → ∀ c ∈ (of l - of l').l, c.natAbs ≤ X := fun l l' h1 h2 c hc => by
   obtain ⟨s, hs, rfl⟩ := List.getElem_of_mem hc
   rw [← cS hs, x8, vJ, vJ]
   have hB1 : ((B : Nat) : Int) = X + 1 := by simp [B]
   have h3 : ∀ l : List Int, (∀ c ∈ l, 0 ≤ c ∧ c < (B : Int)) → 0 ≤ nth l s ∧ nth l s < (B : Int) := fun l hl => by
    rcases Nat.lt_or_ge s l.length with h4 | h4
    ·exact hl _ (bQ h4)
    ·rw [fY h4]; exact ⟨by decide, by show (0 : Int) < _; omega⟩
   have := h3 l h1
   have := h3 l' h2
   omega
  refine ⟨uu i - uu j, vv i - vv j, c, fun h0 => ?_, NW, by omega, by omega, mN _ _ (fun c hc => qZ hBp _ _ c (List.mem_of_mem_take hc)) (fun c hc => qZ hBp _ _ c (List.mem_of_mem_take hc)),
   mN _ _ (fun c hc => qZ hBp _ _ c (List.mem_of_mem_drop hc)) (fun c hc => qZ hBp _ _ c (List.mem_of_mem_drop hc))⟩
  rw [h0, show K 0 = (0 : ZX) from rfl] at NW
  have hvz : vv i - vv j = 0 := Classical.byContradiction fun qG => by
   have h1 : dv a (vv i - vv j) := aeM ha hc (b := b) ⟨1, by decide, -(uu i - uu j), by
    show (1 : ZX) * _ = _
    have : (vv i - vv j) * b = -((uu i - uu j) * a) := by grind
    rw [this]; grind⟩
   have := h1.rF qG
   omega
  have huz : uu i - uu j = 0 := Classical.byContradiction fun qG => by
   have h1 : (uu i - uu j) * a = 0 := by rw [hvz] at NW; grind
   exact gC qG ha h1
  have hd : OS B (m + 1) i = OS B (m + 1) j := by
   have h1 : ∀ s, nth (OS B (m + 1) i) s = nth (OS B (m + 1) j) s := fun s => by
    rcases Nat.lt_or_ge s (N b - 1) with h2 | h2
    ·have h3 := x8 (uu i) (uu j) s
     rw [huz, show nth (0 : ZX).l s = 0 from lG s] at h3
     simp only [uu] at h3
     rw [vJ, vJ, w7 h2, w7 h2] at h3
     omega
    ·have h3 := x8 (vv i) (vv j) (s - (N b - 1))
     rw [hvz, show nth (0 : ZX).l (s - (N b - 1)) = 0 from lG _] at h3
     simp only [vv] at h3
     rw [vJ, vJ, KQ, KQ, show N b - 1 + (s - (N b - 1)) = s by omega] at h3
     omega
   refine List.ext_getElem (by rw [uI, uI]) fun s hs BG => ?_
   rw [← cS hs, ← cS BG, h1]
  have := RZ hBp (m + 1) i j (by omega) (by omega) hd
  omega
 ·obtain ⟨c, tI, rfl⟩ := mD (show N a = 1 by omega)
  refine ⟨1, 0, c, tI, by grind, by rw [z9]; omega, by rw [ZN]; omega, fun x hx => ?_, fun x hx => by cases hx⟩
  have h1 : (1 : ZX).l = [1] := rfl
  rw [h1] at hx
  simp at hx; subst hx; exact hX1
end ZX
end Pm
namespace Pm
theorem oF (a b : Nat) : (2 : Rat) ^ (a + b) = 2 ^ a * 2 ^ b := by
 induction b with
 | zero => rw [Nat.add_zero, Rat.pow_zero, Rat.mul_one]
 | succ b ih => rw [← Nat.add_assoc, Rat.pow_succ, Rat.pow_succ, ih]; grind
theorem gU (a : Nat) : (0 : Rat) < 2 ^ a := Rat.pow_pos (by decide)
theorem vK : ∀ a : Nat, (1 : Rat) ≤ 2 ^ a
 | 0 => by simp
 | a + 1 => by
  have := vK a
  rw [Rat.pow_succ]; grind
theorem R5 {a b : Nat} (h : a ≤ b) : (2 : Rat) ^ a ≤ 2 ^ b := by
 obtain ⟨c, rfl⟩ : ∃ c, b = a + c := ⟨b - a, by omega⟩
 rw [oF]
 have h1 := vK c
 have h2 := gU a
 have h3 := Rat.mul_le_mul_of_nonneg_left h1 (Rat.le_of_lt h2)
 grind
theorem GM : ∀ a : Nat, (((2 ^ a : Nat) : Int) : Rat) = 2 ^ a
 | 0 => by simp
 | a + 1 => by
  rw [Nat.pow_succ, Rat.pow_succ, ← GM a, Int.natCast_mul, Rat.intCast_mul]; rfl
theorem KR {c : Int} {s : Nat} (h : c.natAbs ≤ 2 ^ s) : Ab (c : Rat) (2 ^ s) := by
 have h1 := GM s
 have h2 : c ≤ ((2 ^ s : Nat) : Int) := by omega
 have h3 : -((2 ^ s : Nat) : Int) ≤ c := by omega
 have h4 := Rat.intCast_le_intCast.2 h2
 have h5 := Rat.intCast_le_intCast.2 h3
 rw [Rat.intCast_neg] at h5
 rw [h1] at h4 h5
 exact ⟨h5, h4⟩
theorem OV (s β : Nat) : ∀ k, B6 (2 ^ s) (2 ^ β) k = 2 ^ (s + k * (β + 2))
 | 0 => by simp [B6]
 | k + 1 => by
  rw [B6, OV s β k, show s + (k + 1) * (β + 2) = s + k * (β + 2) + β + 1 + 1 by rw [Nat.add_mul]; omega, Rat.pow_succ, Rat.pow_succ, oF _ β]
  grind
namespace ZX
theorem apY {a : ZX} {s n β : Nat} (h : ∀ c ∈ a.l, c.natAbs ≤ 2 ^ s) (hN : N a ≤ n) {t : Rat} (ht : Ab t (2 ^ β)) : Ab (e t a) (2 ^ (s + n * (β + 2))) := by
 have h1 := RK (S := 2 ^ s) (B := 2 ^ β) (t := t) (Rat.le_of_lt (gU s)) (vK β) ht a.l fun c hc => KR (h c hc)
 rw [OV] at h1
 refine h1.mono (R5 ?_)
 have : a.l.length * (β + 2) ≤ n * (β + 2) := Nat.mul_le_mul_right _ hN
 omega
theorem abi {a : ZX} {s n β : Nat} (h : ∀ c ∈ a.l, c.natAbs ≤ 2 ^ s) (hN : N a ≤ n) {r t : Rat} (hr : Ab r (2 ^ β)) (ht : Ab t (2 ^ β)) : Ab (dd r t a.l) (2 ^ (s + n * (β + 2))) ∧ Ab (cc r t a.l) (2 ^ (s + n * (β + 2))) := by
 have h1 := DV (S := 2 ^ s) (B := 2 ^ β) (s := r) (t := t) (Rat.le_of_lt (gU s)) (vK β) hr ht a.l fun c hc => KR (h c hc)
 have h2 := aaS (S := 2 ^ s) (B := 2 ^ β) (s := r) (t := t) (Rat.le_of_lt (gU s)) (vK β) hr ht a.l fun c hc => KR (h c hc)
 rw [OV] at h1 h2
 have h3 : a.l.length * (β + 2) ≤ n * (β + 2) := Nat.mul_le_mul_right _ hN
 exact ⟨h1.mono (R5 (by omega)), h2.mono (R5 (by omega))⟩
def sk (s n l β : Nat) : Nat := n * (s + 1 + l) + n * (β + 2) + 1
theorem sep {a b : ZX} {s n l β : Nat} (ha : a ≠ 0) (hb : b ≠ 0) (hA : ∀ c ∈ a.l, c.natAbs ≤ 2 ^ s) (hB : ∀ c ∈ b.l, c.natAbs ≤ 2 ^ s) (hn : N a + N b ≤ n) (hl : n ≤ 2 ^ l) (hc : ∀ d, dv d a → dv d b → N d ≤ 1)
  {t ε : Rat} (ht : Ab t (2 ^ β)) (hε : ε * 2 ^ sk s n l β ≤ 1) : kO ε (e t a) ∨ kO ε (e t b) := by
 have hX : (2 * (N a + N b) * 2 ^ s) ^ (N a + N b) ≤ 2 ^ (n * (s + 1 + l)) := by
  have h1 : 2 * (N a + N b) * 2 ^ s ≤ 2 ^ (s + 1 + l) := by
   rw [Nat.pow_add, Nat.pow_add, Nat.mul_comm _ (2 ^ s), Nat.mul_assoc]
   exact Nat.mul_le_mul_left _ (Nat.mul_le_mul_left _ (by omega))
  refine Nat.le_trans (Nat.pow_le_pow_left h1 _) ?_
  rw [← Nat.pow_mul, Nat.mul_comm]
  exact Nat.pow_le_pow_right (by decide) (Nat.mul_le_mul_right _ hn)
 obtain ⟨u, v, c, tI, he, hNu, hNv, hu, hv⟩ := akg ha hb hA hB hc hX
 have h1 := apY (β := β) hu (show N u ≤ n by omega) ht
 have h2 := apY (β := β) hv (show N v ≤ n by omega) ht
 have h3 : e t u * e t a + e t v * e t b = (c : Rat) := by rw [← jO, ← jO, ← aaR, he, LF]
 have h4 := F8 tI
 rw [sk, oF] at hε
 generalize (2 : Rat) ^ (n * (s + 1 + l) + n * (β + 2)) = M at *
 refine Classical.byContradiction fun VL => ?_
 have CB : Ab (e t a) ε := mU fun h => VL (.inl h)
 have yA : Ab (e t b) ε := mU fun h => VL (.inr h)
 have ha2 := xV fun h => VL (.inl h)
 have h5 := (h1.mul CB).add (h2.mul yA)
 rw [h3] at h5
 have e1 : (2 : Rat) ^ 1 = 2 := by rw [Rat.pow_succ, Rat.pow_zero]; grind
 rw [e1] at hε
 have hM : 0 ≤ M := h1.pos
 rcases Rat.le_iff_lt_or_eq.1 hM with hM' | hM'
 ·-- strict: shrink ε a auX
  have vZ := xV fun h => VL (.inr h)
  have key : ∃ η : Rat, η < ε ∧ Ab (e t a) η ∧ Ab (e t b) η := by
   generalize e t a = x at *
   generalize e t b = y at *
   have : ∃ m : Rat, m < ε ∧ x ≤ m ∧ -x ≤ m ∧ y ≤ m ∧ -y ≤ m := by
    have akh : ∀ p q : Rat, p < ε → q < ε → ∃ m, m < ε ∧ p ≤ m ∧ q ≤ m := fun p q hp hq => by
     by_cases h : p ≤ q
     ·exact ⟨q, hq, h, Rat.le_refl⟩
     ·exact ⟨p, hp, Rat.le_refl, by grind⟩
    obtain ⟨m1, g1, g2, g3⟩ := akh x (-x) (by grind) (by grind)
    obtain ⟨m2, g4, g5, g6⟩ := akh y (-y) (by grind) (by grind)
    obtain ⟨m, g7, g8, g9⟩ := akh m1 m2 g1 g4
    exact ⟨m, g7, by grind, by grind, by grind, by grind⟩
   obtain ⟨m, g1, g2, g3, g4, g5⟩ := this
   exact ⟨m, g1, ⟨by grind, g2⟩, ⟨by grind, g4⟩⟩
  obtain ⟨η, g1, g2, g3⟩ := key
  have h6 := (h1.mul g2).add (h2.mul g3)
  rw [h3] at h6
  have h7 : M * η < M * ε := by
   have := Rat.mul_lt_mul_of_pos_left g1 hM'
   exact this
  obtain ⟨p1, p2⟩ := h6
  rcases h4 with h4 | h4 <;> grind
 ·rw [← hM'] at h5
  obtain ⟨p1, p2⟩ := h5
  rcases h4 with h4 | h4 <;> grind
theorem aki {f : ZX} {s n l : Nat} (h : ∀ c ∈ f.l, c.natAbs ≤ 2 ^ s) (hN : N f ≤ n) (hl : n ≤ 2 ^ l) : ∀ c ∈ (bK f).l, c.natAbs ≤ 2 ^ (s + l) := fun c hc => by
 have h1 := pN _ _ hc
 simp only [vC, List.mem_map, List.mem_range] at h1
 obtain ⟨i, hi, rfl⟩ := h1
 rw [Int.natAbs_mul, Nat.pow_add]
 have h2 := OU h (i + 1)
 have h3 : N f = f.l.length := rfl
 exact Nat.mul_le_mul h2 (by rw [Int.natAbs_natCast]; omega)
theorem aeN {x y z : Rat} (h : (x < y ∧ y < z) ∨ (y < x ∧ z < y)) : (if x ≠ 0 ∧ bT z ≠ bT x then 1 else 0 : Nat) = (if x ≠ 0 ∧ bT y ≠ bT x then 1 else 0) + (if y ≠ 0 ∧ bT z ≠ bT y then 1 else 0) := by
 rcases cB x with ⟨h1, h2⟩ | ⟨h1, h2⟩ | ⟨h1, h2⟩ <;> rcases cB y with ⟨h3, h4⟩ | ⟨h3, h4⟩ | ⟨h3, h4⟩ <;> rcases cB z with ⟨h5, h6⟩ | ⟨h5, h6⟩ | ⟨h5, h6⟩ <;>
  rw [h2, h4, h6] <;> first
   | (exfalso; rcases h with ⟨h7, h8⟩ | ⟨h7, h8⟩ <;> grind)
   | (have n1 : (x ≠ 0) = True := eq_true (by grind)
      have n2 : (y ≠ 0) = True := eq_true (by grind)
      simp only [n1, n2]; decide)
   | (have n1 : (x ≠ 0) = False := eq_false (by grind)
      have n2 : (y ≠ 0) = True := eq_true (by grind)
      simp only [n1, n2]; decide)
   | (have n1 : (x ≠ 0) = True := eq_true (by grind)
      have n2 : (y ≠ 0) = False := eq_false (by grind)
      simp only [n1, n2]; decide)
def OW (f : ZX) (t : Rat) : Int := if e t f = 0 then bT (e t (bK f)) else bT (e t f)
theorem abj {x y : Rat} {σ : Int} (h : (σ = 1 ∧ x < y) ∨ (σ = -1 ∧ y < x)) : (if y = 0 then σ else bT y) = (if (if x ≠ 0 ∧ bT y ≠ bT x then 1 else 0 : Nat) = 0 then 1 else -1) * (if x = 0 then σ else bT x) := by
 rcases cB x with ⟨h1, h2⟩ | ⟨h1, h2⟩ | ⟨h1, h2⟩ <;> rcases cB y with ⟨h3, h4⟩ | ⟨h3, h4⟩ | ⟨h3, h4⟩ <;> rw [h2, h4] <;> first
   | (exfalso; rcases h with ⟨h7, h8⟩ | ⟨h7, h8⟩ <;> grind)
   | (have n1 : (x = 0) = False := eq_false (by grind)
      have n2 : (y = 0) = False := eq_false (by grind)
      simp only [n1, n2, ne_eq, not_false_eq_true, true_and, if_false]; decide)
   | (have n1 : (x = 0) = True := eq_true (by grind)
      have n2 : (y = 0) = False := eq_false (by grind)
      have : σ = 1 ∨ σ = -1 := by omega
      rcases this with rfl | rfl <;> first
        | (simp only [n1, n2, ne_eq, not_true_eq_false, false_and, if_false, if_true]; decide)
        | (exfalso; rcases h with ⟨h7, h8⟩ | ⟨h7, h8⟩ <;> grind))
   | (have n1 : (x = 0) = False := eq_false (by grind)
      have n2 : (y = 0) = True := eq_true (by grind)
      have : σ = 1 ∨ σ = -1 := by omega
      rcases this with rfl | rfl <;> first
        | (simp only [n1, n2, ne_eq, not_false_eq_true, true_and, if_false, if_true]; decide)
        | (exfalso; rcases h with ⟨h7, h8⟩ | ⟨h7, h8⟩ <;> grind))
structure auY (f : ZX) (B δ : Rat) : Prop where
 par : ∀ s t, Ab s B → Ab t B → s < t → t - s ≤ δ → OW f t = (if ind f s t = 0 then 1 else -1) * OW f s
def lk (s n l β : Nat) : Nat := sk (s + l) (n + n) (l + 1) β + (s + l + n * (β + 2)) + 2
theorem vL {L : List ZX} {f : ZX} (G : xI L f) {s n l β : Nat} (hf : f ≠ 0) (hA : ∀ c ∈ f.l, c.natAbs ≤ 2 ^ s) (hn : N f ≤ n) (hl : n ≤ 2 ^ l) (hc : ∀ d, dv d f → dv d (bK f) → N d ≤ 1) {δ : Rat} (hδ : δ * 2 ^ lk s n l β ≤ 1) : Lcl L f (2 ^ β) δ ∧ auY f (2 ^ β) δ := by
 have hA' : ∀ c ∈ f.l, c.natAbs ≤ 2 ^ (s + l) := fun c hc => Nat.le_trans (hA c hc) (Nat.pow_le_pow_right (by decide) (by omega))
 have hD := aki hA hn hl
 have hND := kN f
 have main : ∀ lo hi, Ab lo (2 ^ β) → Ab hi (2 ^ β) → lo < hi → hi - lo ≤ δ → vt L lo = vt L hi + ind f lo hi ∧ (e lo f = 0 → e hi f ≠ 0) ∧ OW f hi = (if ind f lo hi = 0 then 1 else -1) * OW f lo := fun lo hi alo ahi hlh hw => by
  have hδ0 : 0 < δ := by grind
  rw [lk, oF, oF] at hδ
  have hQ := gU (s + l + n * (β + 2))
  have hK := gU (sk (s + l) (n + n) (l + 1) β)
  generalize hQe : (2 : Rat) ^ (s + l + n * (β + 2)) = Q at *
  generalize hKe : (2 : Rat) ^ sk (s + l) (n + n) (l + 1) β = κ at *
  have h22 : (2 : Rat) ^ 2 = 4 := by rw [Rat.pow_succ, Rat.pow_succ, Rat.pow_zero]; grind
  rw [h22] at hδ
  have hε : (1 / κ) * κ = 1 := Rat.div_mul_cancel (Rat.ne_of_gt hK)
  have hε0 : 0 < 1 / κ := (Rat.lt_div_iff hK).2 (by grind)
  generalize 1 / κ = ε at *
  have hδQ : 4 * (δ * Q) ≤ ε := by
   have h1 : δ * (κ * Q * 4) = (4 * (δ * Q)) * κ := by grind
   rw [h1, ← hε] at hδ
   exact Rat.le_of_mul_le_mul_right hδ hK
  have hin : ∀ x, lo ≤ x → x ≤ hi → Ab x (2 ^ β) := fun x h1 h2 => eO alo ahi h1 h2
  by_cases ZU : bK f = 0
  ·-- a constant
   have hN1 : N f = 1 := by
    have h0 := ZX.aD.1 hf
    rcases Nat.lt_or_ge (N f) 2 with h1 | h1
    ·omega
    ·exact absurd ZU (FZ h1)
   obtain ⟨c, tI, rfl⟩ := mD hN1
   have hcv : ∀ x, bT (e x (K c)) = bT (c : Rat) := fun x => by rw [LF]
   have h1 := G.const hlh (σ := bT (c : Rat)) (.inr (hcv lo)) (fun x _ _ => hcv x)
   have h2 : ind (K c) lo hi = 0 := if_neg fun h => h.2 (by rw [hcv, hcv])
   have apZ : (c : Rat) ≠ 0 := fun h => tI (by exact_mod_cast h)
   have hz : ∀ x, e x (K c) ≠ 0 := fun x => by rw [LF]; exact apZ
   exact ⟨by rw [h1, h2]; omega, fun h => by rw [LF] at h; exact absurd h apZ, by rw [h2, if_pos rfl, Int.one_mul, OW, OW, if_neg (hz _), if_neg (hz _), hcv, hcv]⟩
  have hb := sep hf ZU hA' hD (show N f + N (bK f) ≤ n + n by omega) (show n + n ≤ 2 ^ (l + 1) by rw [Nat.pow_succ]; omega) hc alo (ε := ε) (by rw [hKe, hε]; exact Rat.le_refl)
  have dsz : ∀ x y, lo ≤ x → x ≤ hi → lo ≤ y → y ≤ hi → Ab (dd x y f.l) Q ∧ Ab (cc x y f.l) Q ∧ Ab (dd x y (bK f).l) Q := fun x y h1 h2 h3 h4 => by
   have g1 := abi hA' hn (hin x h1 h2) (hin y h3 h4)
   have g2 := abi hD (show N (bK f) ≤ n by omega) (hin x h1 h2) (hin y h3 h4)
   rw [hQe] at g1 g2
   exact ⟨g1.1, g1.2, g2.1⟩
  have axt : 0 ≤ δ * Q := Rat.mul_nonneg (Rat.le_of_lt hδ0) (Rat.le_of_lt hQ)
  have small : ∀ h x, 0 ≤ h → h ≤ δ → Ab x Q → Ab (h * x) (δ * Q) := fun h x h1 h2 h3 => Ab.mul ⟨by grind, h2⟩ h3
  rcases hb with hb | hb
  ·-- one sign
   have uV : ∀ x, lo ≤ x → x ≤ hi → bT (e x f) = bT (e lo f) ∧ bT (e lo f) ≠ 0 := fun x h1 h2 => by
    refine eC hb hε0 fun h => ?_
    have h3 := lN lo x f.l
    have h4 := small (x - lo) _ (by grind) (by grind) (dsz lo x Rat.le_refl (by grind) h1 h2).1
    rw [← h3] at h4
    obtain ⟨p1, p2⟩ := h4
    have h5 : e x f - e lo f = qv x f.l - qv lo f.l := rfl
    rw [h5] at h
    rcases h with h | h <;> grind
   have h1 := G.const hlh (σ := bT (e lo f)) (.inr rfl) (fun x h1 h2 => (uV x (by grind) h2).1)
   have h2 : ind f lo hi = 0 := if_neg fun h => h.2 (uV hi (by grind) Rat.le_refl).1
   have hz : ∀ x, lo ≤ x → x ≤ hi → e x f ≠ 0 := fun x h1 h2 h => by
    obtain ⟨g1, g2⟩ := uV x h1 h2
    rw [h, jH] at g1
    exact g2 g1.symm
   exact ⟨by rw [h1, h2]; omega, fun h => absurd h (hz lo Rat.le_refl (by grind)), by rw [h2, if_pos rfl, Int.one_mul, OW, OW, if_neg (hz _ (by grind) Rat.le_refl), if_neg (hz _ Rat.le_refl (by grind)), (uV hi (by grind) Rat.le_refl).1]⟩
  ·-- rising or arQ
   have mono : ∀ x y, lo ≤ x → x < y → y ≤ hi → bT (e y f - e x f) = bT (e lo (bK f)) ∧ bT (e lo (bK f)) ≠ 0 := fun x y h1 h2 h3 => by
    have g1 := lN x y f.l
    have g2 := OA x y f.l
    have g3 : dd x x f.l = e x (bK f) := (ag0 x f).symm
    have g4 := lN lo x (bK f).l
    have b1 := small (y - x) _ (by grind) (by grind) (dsz x y h1 (by grind) (by grind) h3).2.1
    have b2 := small (x - lo) _ (by grind) (by grind) (dsz lo x Rat.le_refl (by grind) h1 (by grind)).2.2
    rw [← g2] at b1
    rw [← g4] at b2
    have h5 : e x (bK f) - e lo (bK f) = qv x (bK f).l - qv lo (bK f).l := rfl
    have h6 := eC (y := dd x y f.l) hb hε0 fun h => by
     obtain ⟨p1, p2⟩ := b1
     obtain ⟨p3, p4⟩ := b2
     rcases h with h | h <;> grind
    have h7 : e y f - e x f = qv y f.l - qv x f.l := rfl
    rw [h7, g1, mH, dJ (show 0 < y - x by grind), Int.one_mul]
    exact h6
   have R6 : ∀ x y, lo ≤ x → x < y → y ≤ hi → (bT (e lo (bK f)) = 1 ∧ e x f < e y f) ∨ (bT (e lo (bK f)) = -1 ∧ e y f < e x f) := fun x y h1 h2 h3 => by
    obtain ⟨g1, g2⟩ := mono x y h1 h2 h3
    rcases cB (e y f - e x f) with ⟨g3, g4⟩ | ⟨g3, g4⟩ | ⟨g3, g4⟩
    ·exact .inr ⟨by omega, by grind⟩
    ·omega
    ·exact .inl ⟨by omega, by grind⟩
   have dsg : ∀ x, lo ≤ x → x ≤ hi → bT (e x (bK f)) = bT (e lo (bK f)) := fun x h1 h2 => by
    have g4 := lN lo x (bK f).l
    have b2 := small (x - lo) _ (by grind) (by grind) (dsz lo x Rat.le_refl (by grind) h1 h2).2.2
    rw [← g4] at b2
    have h5 : e x (bK f) - e lo (bK f) = qv x (bK f).l - qv lo (bK f).l := rfl
    exact (eC hb hε0 fun h => by
     obtain ⟨p3, p4⟩ := b2
     rcases h with h | h <;> grind).1
   refine ⟨?_, fun h => ?_, ?_⟩
   ·refine G.aaV (P := fun x y => lo ≤ x → y ≤ hi → vt L x = vt L y + ind f x y) (fun x y z uQ hyz p1 p2 hx hz => ?_) (fun B δ' hL x y hx hy uQ hd h1 h2 => hL.turns x y hx hy uQ hd) hlh Rat.le_refl Rat.le_refl
    rw [p1 hx (by grind), p2 (by grind) hz]
    have h1 := R6 x y hx uQ (by grind)
    have h2 := R6 y z (by grind) hyz hz
    have h3 := aeN (x := e x f) (y := e y f) (z := e z f) (by
     rcases h1 with ⟨q1, q2⟩ | ⟨q1, q2⟩ <;> rcases h2 with ⟨q3, q4⟩ | ⟨q3, q4⟩
     ·exact .inl ⟨q2, q4⟩
     ·omega
     ·omega
     ·exact .inr ⟨q2, q4⟩)
    have h4 : ind f x z = ind f x y + ind f y z := h3
    omega
   ·rcases R6 lo hi Rat.le_refl hlh Rat.le_refl with ⟨q1, q2⟩ | ⟨q1, q2⟩ <;> grind
   ·have h1 := abj (R6 lo hi Rat.le_refl hlh Rat.le_refl)
    unfold OW ind
    rw [dsg hi (by grind) Rat.le_refl]
    exact h1
 exact ⟨⟨fun x y hx hy uQ hd => (main x y hx hy uQ hd).1, fun x y hx hy uQ hd => (main x y hx hy uQ hd).2.1⟩, ⟨fun x y hx hy uQ hd => (main x y hx hy uQ hd).2.2⟩⟩
end ZX
end Pm
