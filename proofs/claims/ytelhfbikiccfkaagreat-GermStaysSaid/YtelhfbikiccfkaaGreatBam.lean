import Derived.Test.YtelhfbikiccfkaaGreatBaf
import Derived.Test.YtelhfbikiccfkaaGreatBal
set_option linter.unusedSimpArgs false
set_option linter.unusedVariables false
namespace Pm
structure ZX where
 l : List Int
 c : Cn l
namespace ZX
theorem ext {x y : ZX} (h : ∀ t, V t x.l = V t y.l) : x = y := by
 obtain ⟨x, hx⟩ := x
 obtain ⟨y, hy⟩ := y
 have := Cn.ext hx hy h
 subst this
 rfl
def of (x : List Int) : ZX := ⟨aN x, Cn.cut x⟩
def K (c : Int) : ZX := of [c]
instance : Zero ZX := ⟨⟨[], Cn.nil⟩⟩
instance : One ZX := ⟨K 1⟩
instance : Add ZX := ⟨fun x y => ⟨gY x.l y.l, Cn.gY _ _⟩⟩
instance : Mul ZX := ⟨fun x y => ⟨bL x.l y.l, Cn.bL _ _⟩⟩
instance : Neg ZX := ⟨fun x => ⟨gH x.l, Cn.gH _⟩⟩
instance : Sub ZX := ⟨fun x y => ⟨eZ x.l y.l, Cn.eZ _ _⟩⟩
def pow (x : ZX) : Nat → ZX
 | 0 => 1
 | n + 1 => pow x n * x
instance : HPow ZX Nat ZX := ⟨pow⟩
instance : NatCast ZX := ⟨fun n => K n⟩
instance (n : Nat) : OfNat ZX n := ⟨K n⟩
instance : IntCast ZX := ⟨fun n => K n⟩
instance : SMul Nat ZX := ⟨fun n x => K n * x⟩
instance : SMul Int ZX := ⟨fun n x => K n * x⟩
variable {t : Int}
theorem EL (x : List Int) : V t (of x).l = V t x := cV x
theorem sP (c : Int) : V t (K c).l = c := by rw [K, EL]; simp [V]
theorem tY : V t (0 : ZX).l = 0 := sP 0
theorem F0 : V t (1 : ZX).l = 1 := sP 1
theorem jI (x y : ZX) : V t (x + y).l = V t x.l + V t y.l := qQ _ _
theorem dM (x y : ZX) : V t (x * y).l = V t x.l * V t y.l := dB _ _
theorem F2 (x : ZX) : V t (-x).l = -V t x.l := BL _
theorem arG (x y : ZX) : V t (x - y).l = V t x.l - V t y.l := iO _ _
theorem TX (x : ZX) : ∀ n : Nat, V t (x ^ n).l = V t x.l ^ n
 | 0 => by show V t (1 : ZX).l = _; rw [F0, Int.pow_zero]
 | n + 1 => by show V t ((x ^ n) * x).l = _; rw [dM, TX x n, Int.pow_succ]
theorem TY (n : Nat) : V t (OfNat.ofNat n : ZX).l = n := sP n
theorem air (n : Int) : V t (n : ZX).l = n := sP n
theorem TZ (n : Int) (x : ZX) : V t (n • x).l = n * V t x.l := by show V t (K n * x).l = _; rw [dM, sP]
instance : Lean.Grind.CommRing ZX where
 add_zero x := ext fun t => by rw [jI, tY]; omega
 add_comm x y := ext fun t => by rw [jI, jI]; omega
 add_assoc x y z := ext fun t => by simp only [jI]; omega
 mul_assoc x y z := ext fun t => by simp only [dM]; grind
 mul_one x := ext fun t => by rw [dM, F0]; omega
 one_mul x := ext fun t => by rw [dM, F0]; omega
 left_distrib x y z := ext fun t => by simp only [dM, jI]; grind
 right_distrib x y z := ext fun t => by simp only [dM, jI]; grind
 zero_mul x := ext fun t => by rw [dM, tY]; omega
 mul_zero x := ext fun t => by rw [dM, tY]; omega
 pow_zero x := ext fun t => by rw [TX, F0, Int.pow_zero]
 pow_succ x n := ext fun t => by rw [dM, TX, TX, Int.pow_succ]
 ofNat_succ n := ext fun t => by rw [jI, TY, TY, F0]; omega
 ofNat_eq_natCast n := rfl
 nsmul_eq_natCast_mul n x := rfl
 neg_add_cancel x := ext fun t => by rw [jI, F2, tY]; omega
 sub_eq_add_neg x y := ext fun t => by rw [arG, jI, F2]; omega
 neg_zsmul n x := ext fun t => by rw [TZ, F2, TZ]; grind
 zsmul_natCast_eq_nsmul n x := rfl
 intCast_ofNat n := rfl
 intCast_neg n := ext fun t => by rw [air, F2, air]
 mul_comm x y := ext fun t => by rw [dM, dM, Int.mul_comm]
def N (x : ZX) : Nat := x.l.length
theorem aC {x : ZX} : x ≠ 0 ↔ 0 < N x := by
 constructor
 ·intro h
  rcases Nat.eq_zero_or_pos (N x) with h1 | h1
  ·exfalso
   apply h
   have : x.l = [] := List.eq_nil_of_length_eq_zero h1
   exact ext fun t => by rw [this, tY]; rfl
  ·exact h1
 ·rintro h rfl
  have : N (0 : ZX) = 0 := by decide
  omega
theorem abt : N (0 : ZX) = 0 := by decide
theorem eI {x y : ZX} (hx : x ≠ 0) (hy : y ≠ 0) : N (x * y) = N x + N y - 1 := jF x.c y.c (aC.1 hx) (aC.1 hy)
theorem eB {x y : ZX} (hx : x ≠ 0) (hy : y ≠ 0) : x * y ≠ 0 := by
 rw [aC, eI hx hy]
 have := aC.1 hx
 have := aC.1 hy
 omega
theorem rA {x y : ZX} (h : x * y = 0) : x = 0 ∨ y = 0 := by
 by_cases hx : x = 0
 ·exact .inl hx
 ·by_cases hy : y = 0
  ·exact .inr hy
  ·exact absurd h (eB hx hy)
theorem XP (x y : ZX) : x * y = y * x := by grind
theorem cancel {x y z : ZX} (hz : z ≠ 0) (h : z * x = z * y) : x = y := by
 have h1 : z * (x - y) = 0 := by grind
 rcases rA h1 with h2 | h2
 ·exact absurd h2 hz
 ·grind
theorem kQ {c : Int} (h : c ≠ 0) : K c ≠ 0 := fun e => h (by
 have := sP (t := 0) c
 rw [e, tY] at this; omega)
theorem T0 {c : Int} (h : c ≠ 0) : N (K c) = 1 := by
 show (aN [c]).length = 1
 rw [show aN [c] = [c] from iF h []]; rfl
theorem nJ (c d : Int) : K c * K d = K (c * d) := ext fun t => by rw [dM, sP, sP, sP]
theorem jZ {x : ZX} (h : N x = 1) : ∃ c, c ≠ 0 ∧ x = K c := by
 obtain ⟨l, hl⟩ := x
 match l, hl, h with
 | [c], hl, _ =>
  have hc : c ≠ 0 := by
   have := cK hl (by simp)
   simpa [lead, rW] using this
  exact ⟨c, hc, ext fun t => by rw [sP]; simp [V]⟩
theorem mB {c : Int} {x y q : ZX} (hc : c ≠ 0) (hx : x ≠ 0) (h : K c * x = q * y) : q ≠ 0 ∧ y ≠ 0 := by
 have h1 := eB (kQ hc) hx
 rw [h] at h1
 constructor
 ·rintro rfl; apply h1; grind
 ·rintro rfl; apply h1; grind
theorem lY : (1 : ZX) ≠ 0 := kQ (by decide)
theorem rB : N (1 : ZX) = 1 := T0 (by decide)
def dv (y x : ZX) : Prop := ∃ c : Int, c ≠ 0 ∧ ∃ q, K c * x = q * y
theorem dv.refl (x : ZX) : dv x x := ⟨1, by decide, K 1, rfl⟩
theorem dv.zero (x : ZX) : dv x 0 := ⟨1, by decide, 0, by grind⟩
theorem dv.trans {x y z : ZX} (h1 : dv x y) (h2 : dv y z) : dv x z := by
 obtain ⟨c, hc, q, h1⟩ := h1
 obtain ⟨d, hd, r, h2⟩ := h2
 exact ⟨c * d, Int.mul_ne_zero hc hd, q * r, by rw [← nJ]; grind⟩
theorem dv.mul_right {x y : ZX} (h : dv x y) (z : ZX) : dv x (y * z) := by
 obtain ⟨c, hc, q, h⟩ := h
 exact ⟨c, hc, q * z, by grind⟩
theorem dv.mul_left {x y : ZX} (h : dv x y) (z : ZX) : dv x (z * y) := by
 obtain ⟨c, hc, q, h⟩ := h
 exact ⟨c, hc, q * z, by grind⟩
theorem dv.mul {x y z w : ZX} (h1 : dv x y) (h2 : dv z w) : dv (x * z) (y * w) := by
 obtain ⟨c, hc, q, h1⟩ := h1
 obtain ⟨d, hd, r, h2⟩ := h2
 exact ⟨c * d, Int.mul_ne_zero hc hd, q * r, by rw [← nJ]; grind⟩
theorem dv.add {x y z : ZX} (h1 : dv x y) (h2 : dv x z) : dv x (y + z) := by
 obtain ⟨c, hc, q, h1⟩ := h1
 obtain ⟨d, hd, r, h2⟩ := h2
 exact ⟨c * d, Int.mul_ne_zero hc hd, K d * q + K c * r, by rw [← nJ]; grind⟩
theorem dv.EM {x y : ZX} {c : Int} (hc : c ≠ 0) (h : dv x (K c * y)) : dv x y := by
 obtain ⟨d, hd, q, h⟩ := h
 exact ⟨d * c, Int.mul_ne_zero hd hc, q, by rw [← nJ]; grind⟩
theorem dv.lZ {x y : ZX} (h : dv x y) (hy : y ≠ 0) : N x ≤ N y := by
 obtain ⟨c, hc, q, h⟩ := h
 obtain ⟨h1, h2⟩ := mB hc hy h
 have h3 : N (K c * y) = N y := by rw [eI (kQ hc) hy, T0 hc]; have := aC.1 hy; omega
 rw [h, eI h1 h2] at h3
 have := aC.1 h1
 omega
theorem dv.ne {x y : ZX} (h : dv x y) (hy : y ≠ 0) : x ≠ 0 := by
 obtain ⟨c, hc, q, h⟩ := h
 exact (mB hc hy h).2
theorem zW {x : ZX} (h : dv 0 x) : x = 0 := by
 obtain ⟨c, hc, q, h⟩ := h
 have h2 : K c * x = 0 := by grind
 exact (rA h2).resolve_left (kQ hc)
theorem arH {c : Int} (hc : c ≠ 0) (x : ZX) : dv (K c) x := ⟨c, hc, x, by grind⟩
theorem af5 {x y : ZX} (h : dv x y) (hy : y ≠ 0) (hN : N x = N y) : dv y x := by
 obtain ⟨c, hc, q, h⟩ := h
 obtain ⟨h1, h2⟩ := mB hc hy h
 have h3 : N (K c * y) = N y := by rw [eI (kQ hc) hy, T0 hc]; have := aC.1 hy; omega
 rw [h, eI h1 h2] at h3
 have h4 := aC.1 h1
 have h5 := aC.1 h2
 obtain ⟨d, hd, rfl⟩ := jZ (x := q) (by omega)
 exact ⟨d, hd, K c, by rw [h]⟩
theorem ab2 (a : ZX) {b : ZX} (hb : b ≠ 0) : ∃ c : Int, c ≠ 0 ∧ ∃ q r, K c * a = q * b + r ∧ N r < N b := by
 have h0 := aC.1 hb
 obtain ⟨c1, c2⟩ := BO (b := b.l) a.c
 refine ⟨lead b.l ^ i0 a.l b.l, Int.pow_ne_zero (cK b.c h0), ⟨_, c1⟩, ⟨_, c2⟩, ext fun t => ?_, ?_⟩
 ·rw [dM, sP, jI, dM]
  exact (aba t a.l b.l).symm
 ·have := HT (a := a.l) h0
  show (yO a.l b.l).2.length < b.l.length
  have : 0 < b.l.length := h0
  omega
structure p9 (g a b : ZX) : Prop where
 l : dv g a
 r : dv g b
 uv : ∃ c : Int, c ≠ 0 ∧ ∃ u v, K c * g = u * a + v * b
theorem p9.least {g a b d : ZX} (h : p9 g a b) (ha : dv d a) (hb : dv d b) : dv d g := by
 obtain ⟨c, hc, u, v, e⟩ := h.uv
 refine dv.EM hc ?_
 rw [e]
 exact (ha.mul_left u).add (hb.mul_left v)
theorem p9.ne {g a b : ZX} (h : p9 g a b) (ha : a ≠ 0 ∨ b ≠ 0) : g ≠ 0 := by
 rintro rfl
 rcases ha with h1 | h1
 ·exact h1 (zW h.l)
 ·exact h1 (zW h.r)
theorem p9.zero (a : ZX) : p9 a a 0 := ⟨dv.refl a, dv.zero a, 1, by decide, 1, 0, by show (1 : ZX) * a = _; grind⟩
theorem p9.symm {g a b : ZX} (h : p9 g a b) : p9 g b a := by
 obtain ⟨c, hc, u, v, e⟩ := h.uv
 exact ⟨h.r, h.l, c, hc, v, u, by grind⟩
theorem p9.step {g a b q r : ZX} {c : Int} (hc : c ≠ 0) (e : K c * a = q * b + r) (h : p9 g b r) : p9 g a b := by
 obtain ⟨d, hd, u, v, e2⟩ := h.uv
 refine ⟨dv.EM hc ?_, h.l, d, hd, v * K c, u - v * q, by grind⟩
 rw [e]
 exact (h.l.mul_left q).add h.r
theorem i5 : ∀ (n : Nat) (a b : ZX), N b ≤ n → ∃ g, p9 g a b
 | 0, a, b, h => by
  have : b = 0 := Classical.byContradiction fun hb => by have := aC.1 hb; omega
  subst this
  exact ⟨a, p9.zero a⟩
 | n + 1, a, b, h => by
  by_cases hb : b = 0
  ·subst hb; exact ⟨a, p9.zero a⟩
  ·obtain ⟨c, hc, q, r, e, hr⟩ := ab2 a hb
   obtain ⟨g, hg⟩ := i5 n b r (by omega)
   exact ⟨g, hg.step hc e⟩
structure nK (p : ZX) : Prop where
 deg : 2 ≤ N p
 irr : ∀ d, dv d p → N d = 1 ∨ N d = N p
theorem nK.ne {p : ZX} (h : nK p) : p ≠ 0 := aC.2 (by have := h.deg; omega)
theorem nK.ais {p a b : ZX} (hp : nK p) (h : dv p (a * b)) : dv p a ∨ dv p b := by
 obtain ⟨g, hg⟩ := i5 _ p a (Nat.le_refl _)
 rcases hp.irr g hg.l with h1 | h1
 ·right
  obtain ⟨k, hk, rfl⟩ := jZ h1
  obtain ⟨c, hc, u, v, e⟩ := hg.uv
  refine dv.EM (c := c * k) (Int.mul_ne_zero hc hk) ?_
  have e2 : K (c * k) * b = (u * b) * p + v * (a * b) := by rw [← nJ]; grind
  rw [e2]
  exact ((dv.refl p).mul_left _).add (h.mul_left v)
 ·left
  exact (af5 hg.l hp.ne h1).trans hg.r
theorem kS : ∀ (n : Nat) (a : ZX), N a ≤ n → 2 ≤ N a → ∃ p, nK p ∧ dv p a
 | 0, a, h, h2 => by omega
 | n + 1, a, h, h2 => by
  by_cases hi : ∃ d, dv d a ∧ N d ≠ 1 ∧ N d ≠ N a
  ·obtain ⟨d, hd, h3, h4⟩ := hi
   have h5 := hd.lZ (aC.2 (by omega))
   have h6 := aC.1 (hd.ne (aC.2 (by omega)))
   obtain ⟨p, hp, hpd⟩ := kS n d (by omega) (by omega)
   exact ⟨p, hp, hpd.trans hd⟩
  ·refine ⟨a, ⟨h2, fun d hd => ?_⟩, dv.refl a⟩
   by_cases h3 : N d = 1
   ·exact .inl h3
   ·by_cases h4 : N d = N a
    ·exact .inr h4
    ·exact absurd ⟨d, hd, h3, h4⟩ hi
theorem pow_succ' (p : ZX) (k : Nat) : p ^ (k + 1) = p ^ k * p := rfl
theorem dH (p : ZX) : p ^ 0 = 1 := rfl
theorem pow_add' (p : ZX) (j : Nat) : ∀ k, p ^ (j + k) = p ^ j * p ^ k
 | 0 => by rw [Nat.add_zero, dH]; grind
 | k + 1 => by rw [← Nat.add_assoc, pow_succ', pow_succ', pow_add' p j k]; grind
theorem CM {p : ZX} (hp : p ≠ 0) : ∀ k : Nat, p ^ k ≠ 0
 | 0 => lY
 | k + 1 => eB (CM hp k) hp
theorem ab3 {p : ZX} (hp : nK p) : ∀ k : Nat, k < N (p ^ k)
 | 0 => by rw [dH, rB]; omega
 | k + 1 => by
  rw [pow_succ', eI (CM hp.ne k) hp.ne]
  have := ab3 hp k
  have := hp.deg
  omega
theorem ab4 {p : ZX} {j k : Nat} (h : j ≤ k) : dv (p ^ j) (p ^ k) := by
 obtain ⟨d, rfl⟩ := Nat.exists_eq_add_of_le h
 rw [pow_add']
 exact (dv.refl _).mul_right _
theorem XQ {p a : ZX} (hp : nK p) (ha : a ≠ 0) : ∃ k, dv (p ^ k) a ∧ ¬ dv (p ^ (k + 1)) a := by
 have key : ∀ n, (∃ k, k ≤ n ∧ dv (p ^ k) a ∧ ¬ dv (p ^ (k + 1)) a) ∨ dv (p ^ (n + 1)) a := by
  intro n
  induction n with
  | zero =>
   by_cases h : dv (p ^ 1) a
   ·exact .inr h
   ·exact .inl ⟨0, Nat.le_refl _, arH (by decide) a, h⟩
  | succ n ih =>
   rcases ih with ⟨k, h1, h2⟩ | ih
   ·exact .inl ⟨k, by omega, h2⟩
   ·by_cases h : dv (p ^ (n + 2)) a
    ·exact .inr h
    ·exact .inl ⟨n + 1, Nat.le_refl _, ih, h⟩
 rcases key (N a) with ⟨k, _, h⟩ | h
 ·exact ⟨k, h⟩
 ·have h1 := h.lZ ha
  have h2 := ab3 hp (N a + 1)
  omega
open Classical in
noncomputable def mu (p a : ZX) : Nat := if h : ∃ k, dv (p ^ k) a ∧ ¬ dv (p ^ (k + 1)) a then h.choose else 0
theorem T3 {p a : ZX} (hp : nK p) (ha : a ≠ 0) : dv (p ^ mu p a) a ∧ ¬ dv (p ^ (mu p a + 1)) a := by
 have h := XQ hp ha
 unfold mu
 rw [dif_pos h]
 exact h.choose_spec
theorem j0 {p a : ZX} (hp : nK p) (ha : a ≠ 0) {k : Nat} : k ≤ mu p a ↔ dv (p ^ k) a := by
 obtain ⟨h1, h2⟩ := T3 hp ha
 constructor
 ·intro h; exact (ab4 h).trans h1
 ·intro h
  rcases Nat.lt_or_ge (mu p a) k with h3 | h3
  ·exact absurd ((ab4 h3).trans h) h2
  ·exact h3
theorem CN {p a : ZX} (hp : nK p) (ha : a ≠ 0) : ∃ c : Int, c ≠ 0 ∧ ∃ b, b ≠ 0 ∧ K c * a = b * p ^ mu p a ∧ ¬ dv p b := by
 obtain ⟨⟨c, hc, b, e⟩, h2⟩ := T3 hp ha
 refine ⟨c, hc, b, (mB hc ha e).1, e, fun h => h2 (dv.EM hc ?_)⟩
 rw [e, pow_succ']
 have := h.mul (dv.refl (p ^ mu p a))
 rw [show p ^ mu p a * p = p * p ^ mu p a by grind]
 exact this
theorem xF {p a b : ZX} (hp : nK p) (ha : a ≠ 0) {c : Int} (hc : c ≠ 0) {k : Nat} (e : K c * a = b * p ^ k) (h : ¬ dv p b) : mu p a = k := by
 have h1 : k ≤ mu p a := (j0 hp ha).2 ⟨c, hc, b, e⟩
 rcases Nat.lt_or_ge k (mu p a) with h2 | h2
 ·exfalso
  obtain ⟨d, hd, r, e2⟩ := (j0 hp ha).1 h2
  apply h
  refine ⟨d, hd, K c * r, ZX.cancel (CM hp.ne k) ?_⟩
  rw [pow_succ'] at e2
  grind
 ·omega
theorem kT {p a b : ZX} (hp : nK p) (ha : a ≠ 0) (hb : b ≠ 0) : mu p (a * b) = mu p a + mu p b := by
 obtain ⟨c, hc, x, _, e1, h1⟩ := CN hp ha
 obtain ⟨d, hd, y, _, e2, h2⟩ := CN hp hb
 refine xF (b := x * y) hp (eB ha hb) (Int.mul_ne_zero hc hd) ?_ fun h => ?_
 ·rw [pow_add', ← nJ]; grind
 ·rcases hp.ais h with h3 | h3
  ·exact h1 h3
  ·exact h2 h3
theorem QW {p : ZX} (hp : nK p) {c : Int} (hc : c ≠ 0) : mu p (K c) = 0 := by
 refine xF (b := K c) (c := 1) hp (kQ hc) (by decide) (by rw [dH]; show (1 : ZX) * K c = _; grind) fun h => ?_
 have := h.lZ (kQ hc)
 rw [T0 hc] at this
 have := hp.deg
 omega
theorem T4 {p a b : ZX} (hp : nK p) (hb : b ≠ 0) (h : dv a b) : mu p a ≤ mu p b := (j0 hp hb).2 (((j0 hp (h.ne hb)).1 (Nat.le_refl _)).trans h)
theorem ait {p a b q : ZX} (hp : nK p) {c : Int} (hc : c ≠ 0) (ha : a ≠ 0) (e : K c * a = q * b) : mu p a = mu p q + mu p b := by
 obtain ⟨h1, h2⟩ := mB hc ha e
 rw [← kT hp h1 h2, ← e, kT hp (kQ hc) ha, QW hp hc]; omega
theorem MI : ∀ (n : Nat) (a b : ZX), N a ≤ n → a ≠ 0 → b ≠ 0 → (∀ p, nK p → mu p a ≤ mu p b) → dv a b
 | 0, a, b, hn, ha, _, _ => by have := aC.1 ha; omega
 | n + 1, a, b, hn, ha, hb, h => by
  rcases Nat.lt_or_ge (N a) 2 with h1 | h1
  ·obtain ⟨c, hc, rfl⟩ := jZ (x := a) (by have := aC.1 ha; omega)
   exact arH hc b
  ·obtain ⟨p, hp, hpa⟩ := kS _ a (Nat.le_refl _) h1
   have h2 : 1 ≤ mu p a := (j0 hp ha).2 (by rw [show p ^ 1 = p by rw [pow_succ', dH]; grind]; exact hpa)
   have h3 : dv p b := by
    have := (j0 hp hb).1 (Nat.le_trans h2 (h p hp))
    rwa [show p ^ 1 = p by rw [pow_succ', dH]; grind] at this
   obtain ⟨c, hc, a', ea⟩ := hpa
   obtain ⟨d, hd, b', eb⟩ := h3
   obtain ⟨NY, _⟩ := mB hc ha ea
   obtain ⟨D3, _⟩ := mB hd hb eb
   have h4 : N (K c * a) = N a := by rw [eI (kQ hc) ha, T0 hc]; have := aC.1 ha; omega
   have h5 : dv a' b' := MI n a' b' (by
    rw [ea, eI NY hp.ne] at h4
    have := hp.deg
    omega) NY D3 fun r hr => by
    have h6 := h r hr
    rw [ait hr hc ha ea, ait hr hd hb eb] at h6
    omega
   refine dv.EM hd ?_
   rw [eb]
   have h7 := h5.mul (dv.refl p)
   rw [← ea] at h7
   obtain ⟨e, he, q, e3⟩ := h7
   exact ⟨e, he, q * K c, by grind⟩
theorem jJ {a b : ZX} (ha : a ≠ 0) (hb : b ≠ 0) : dv a b ↔ ∀ p, nK p → mu p a ≤ mu p b := ⟨fun h p hp => T4 hp hb h, MI _ a b (Nat.le_refl _) ha hb⟩
theorem p9.mu {g a b p : ZX} (h : p9 g a b) (ha : a ≠ 0) (hb : b ≠ 0) (hp : nK p) : mu p g = min (ZX.mu p a) (ZX.mu p b) := by
 have hg := h.ne (.inl ha)
 have h1 := T4 hp ha h.l
 have h2 := T4 hp hb h.r
 have h3 : min (ZX.mu p a) (ZX.mu p b) ≤ ZX.mu p g := (j0 hp hg).2 (h.least ((j0 hp ha).1 (Nat.min_le_left _ _)) ((j0 hp hb).1 (Nat.min_le_right _ _)))
 omega
def xG (x : List Int) : List Int := (List.range (x.length - 1)).map fun i => nth x (i + 1) * ((i + 1 : Nat) : Int)
def p0 : Nat → List Int → List Int
 | _, [] => []
 | k, a :: l => a * (k : Int) :: p0 (k + 1) l
def W (t : Int) : List Int → Int
 | [] => 0
 | _ :: l => V t l + t * W t l
theorem T5 : ∀ (l : List Int) (k : Nat), p0 k l = (List.range l.length).map fun i => nth l i * ((k + i : Nat) : Int)
 | [], k => rfl
 | a :: l, k => by
  rw [p0, T5 l (k + 1), List.length_cons, List.range_succ_eq_map, List.map_cons, List.map_map]
  congr 1
  refine List.map_congr_left fun i _ => ?_
  simp only [Function.comp_apply, jG]
  rw [show k + 1 + i = k + (i + 1) by omega]
theorem F3 (a : Int) (l : List Int) : xG (a :: l) = p0 1 l := by
 rw [T5, xG, List.length_cons, Nat.add_sub_cancel]
 refine List.map_congr_left fun i _ => ?_
 rw [jG, show i + 1 = 1 + i by omega]
theorem yZ (t : Int) : ∀ (l : List Int) (k : Nat), V t (p0 (k + 1) l) = V t (p0 k l) + V t l
 | [], k => by simp [p0, V]
 | a :: l, k => by
  simp only [p0, V]
  rw [yZ t l (k + 1)]
  have : ((k + 1 : Nat) : Int) = (k : Int) + 1 := by omega
  rw [this]; grind
theorem CO (t : Int) : ∀ l : List Int, V t (p0 1 l) = V t l + t * W t l
 | [] => by simp [p0, V, W]
 | b :: m => by
  rw [p0]
  simp only [V, W]
  rw [yZ, CO t m]
  rw [show ((1 : Nat) : Int) = 1 from rfl]
  grind
theorem alG (t : Int) : ∀ x : List Int, V t (xG x) = W t x
 | [] => rfl
 | a :: l => by rw [F3, CO]; rfl
def bI (x : ZX) : ZX := of (xG x.l)
theorem y3 (x : ZX) : V t (bI x).l = W t x.l := by rw [bI, EL, alG]
theorem xH (t h : Int) : ∀ x : List Int, ∃ R : Int, V (t + h) x = V t x + h * W t x + h * h * R
 | [] => ⟨0, by simp [V, W]⟩
 | a :: l => by
  obtain ⟨R, hR⟩ := xH t h l
  refine ⟨W t l + (t + h) * R, ?_⟩
  simp only [V, W]
  rw [hR]; grind
theorem IF {t A : Int} {z : List Int} (hA : ∀ h, ∃ R : Int, V (t + h) z = V t z + h * A + h * h * R) : W t z = A := by
 have key : ∀ h : Int, h ≠ 0 → h ∣ W t z - A := fun h hh => by
  obtain ⟨R, hR⟩ := hA h
  obtain ⟨S, hS⟩ := xH t h z
  refine ⟨R - S, Int.eq_of_mul_eq_mul_left hh ?_⟩
  grind
 have h1 := key (((W t z - A).natAbs : Int) + 1) (by omega)
 have h2 := Int.natAbs_dvd_natAbs.2 h1
 rcases Nat.eq_zero_or_pos (W t z - A).natAbs with h3 | h3
 ·omega
 ·have := Nat.le_of_dvd h3 h2
  omega
theorem nM (x y : ZX) : bI (x * y) = bI x * y + x * bI y := ext fun t => by
 rw [y3, jI, dM, dM, y3, y3]
 refine IF fun h => ?_
 obtain ⟨R, hR⟩ := xH t h x.l
 obtain ⟨S, hS⟩ := xH t h y.l
 refine ⟨V t x.l * S + R * V t y.l + W t x.l * W t y.l + h * (W t x.l * S + R * W t y.l) + h * h * R * S, ?_⟩
 rw [dM, dM, hR, hS]; grind
theorem aiu (c : Int) : bI (K c) = 0 := ext fun t => by
 rw [y3, tY]
 refine IF fun h => ⟨0, ?_⟩
 rw [sP, sP]; grind
theorem CP (c : Int) (x : ZX) : bI (K c * x) = K c * bI x := by rw [nM, aiu]; grind
theorem T6 : bI (1 : ZX) = 0 := aiu 1
theorem T7 (p : ZX) : ∀ m : Nat, bI (p ^ (m + 1)) = K ((m + 1 : Nat) : Int) * p ^ m * bI p
 | 0 => by
  rw [pow_succ', nM, dH, T6]
  show _ = (1 : ZX) * 1 * bI p
  grind
 | m + 1 => by
  rw [pow_succ', nM, T7 p m]
  have : K ((m + 1 + 1 : Nat) : Int) = K ((m + 1 : Nat) : Int) + 1 := ext fun t => by rw [jI, sP, sP, F0]; omega
  rw [this, pow_succ']; grind
theorem lN (a : ZX) : N (bI a) ≤ N a - 1 := Nat.le_trans (bP _) (by simp [xG, N])
theorem CQ {a : ZX} (h : 2 ≤ N a) : bI a ≠ 0 := by
 have h1 : a.l.length = N a := rfl
 have hl := cK a.c (by omega)
 intro h0
 have h2 : nth (bI a).l (N a - 2) = nth a.l (N a - 1) * ((N a - 1 : Nat) : Int) := by
  show nth (aN (xG a.l)) _ = _
  rw [iS, xG, cQ (by simp; omega)]
  simp only [List.getElem_map, List.getElem_range]
  rw [show N a - 2 + 1 = N a - 1 by omega]
 rw [h0] at h2
 have h3 : nth (0 : ZX).l (N a - 2) = 0 := gX (by show (0 : ZX).l.length ≤ _; exact Nat.zero_le _)
 rw [h3] at h2
 have h4 : nth a.l (N a - 1) = lead a.l := by rw [lead, h1]
 rw [h4] at h2
 exact Int.mul_ne_zero hl (by omega) h2.symm
theorem nK.QX {p : ZX} (hp : nK p) : ¬ dv p (bI p) := fun h => by
 have h1 := h.lZ (CQ hp.deg)
 have h2 := lN p
 have := hp.deg
 omega
theorem xI {p a : ZX} (hp : nK p) (ha : a ≠ 0) {m : Nat} (h : mu p a = m + 1) : bI a ≠ 0 ∧ mu p (bI a) = m := by
 obtain ⟨c, hc, b, hb, e, hn⟩ := CN hp ha
 rw [h] at e
 have e2 : K c * bI a = (bI b * p + K ((m + 1 : Nat) : Int) * (b * bI p)) * p ^ m := by
  rw [← CP, e, nM, T7, pow_succ']; grind
 have KE : ¬ dv p (bI b * p + K ((m + 1 : Nat) : Int) * (b * bI p)) := fun h1 => by
  have h2 : dv p (K ((m + 1 : Nat) : Int) * (b * bI p)) := by
   have h3 := h1.add ((dv.refl p).mul_left (-bI b))
   rwa [show bI b * p + K ((m + 1 : Nat) : Int) * (b * bI p) + -bI b * p = K ((m + 1 : Nat) : Int) * (b * bI p) by grind] at h3
  have h4 := dv.EM (by omega) h2
  rcases hp.ais h4 with h5 | h5
  ·exact hn h5
  ·exact hp.QX h5
 have h6 : bI a ≠ 0 := fun h0 => by
  rw [h0] at e2
  have h7 : (bI b * p + K ((m + 1 : Nat) : Int) * (b * bI p)) * p ^ m = 0 := by rw [← e2]; grind
  rcases rA h7 with h8 | h8
  ·rw [h8] at KE; exact KE (dv.zero p)
  ·exact CM hp.ne m h8
 exact ⟨h6, xF hp h6 hc e2 KE⟩
theorem p9.xI {g a p : ZX} (h : p9 g a (bI a)) (ha : a ≠ 0) (hp : nK p) : ZX.mu p g = ZX.mu p a - 1 := by
 rcases Nat.eq_zero_or_pos (ZX.mu p a) with h1 | h1
 ·have := T4 hp ha h.l
  omega
 ·obtain ⟨m, hm⟩ : ∃ m, ZX.mu p a = m + 1 := ⟨ZX.mu p a - 1, by omega⟩
  obtain ⟨h2, h3⟩ := ZX.xI hp ha hm
  rw [h.mu ha h2 hp, h3, hm]; omega
theorem QY {p : ZX} (hp : nK p) : mu p 1 = 0 := QW hp (by decide)
theorem p9.arI {g a b q r : ZX} {c k : Int} (hc : c ≠ 0) (hk : k ≠ 0) (e : K c * a = q * b + K k * r) (h : p9 g b r) : p9 g a b := by
 obtain ⟨d, hd, u, v, e2⟩ := h.uv
 refine ⟨dv.EM hc ?_, h.l, k * d, Int.mul_ne_zero hk hd, v * K c, K k * u - v * q, by rw [← nJ]; grind⟩
 rw [e]
 exact (h.l.mul_left q).add (h.r.mul_left _)
theorem p9.assoc {g g' a b : ZX} (h : p9 g a b) (h' : p9 g' a b) : dv g g' ∧ dv g' g := ⟨h'.least h.l h.r, h.least h'.l h'.r⟩
theorem p9.congr {g a b a' b' : ZX} (h : p9 g a b) (h1 : dv a a') (h2 : dv a' a) (h3 : dv b b') (h4 : dv b' b) : p9 g a' b' := by
 obtain ⟨g', hg'⟩ := i5 _ a' b' (Nat.le_refl _)
 obtain ⟨c, hc, u, v, e⟩ := hg'.uv
 have h5 : dv g g' := hg'.least (h.l.trans h1) (h.r.trans h3)
 have h6 : dv g' g := h.least (hg'.l.trans h2) (hg'.r.trans h4)
 obtain ⟨d, hd, w, e2⟩ := h6
 refine ⟨h.l.trans h1, h.r.trans h3, c * d, Int.mul_ne_zero hc hd, w * u, w * v, by rw [← nJ]; grind⟩
end ZX
theorem MJ {H t : Nat} : ∀ {x : List Int}, (∀ c ∈ x, c.natAbs ≤ H) → (V (t : Int) x).natAbs ≤ H * (1 + t) ^ x.length
 | [], _ => by simp [V]
 | a :: l, h => by
  have h1 := MJ (t := t) (x := l) fun c hc => h c (by simp [hc])
  have h2 := h a (by simp)
  simp only [V]
  have h3 : (a + (t : Int) * V t l).natAbs ≤ a.natAbs + t * (V (t : Int) l).natAbs := by
   have := Int.natAbs_add_le a ((t : Int) * V t l)
   rwa [Int.natAbs_mul, Int.natAbs_natCast] at this
  have h4 : t * (V (t : Int) l).natAbs ≤ t * (H * (1 + t) ^ l.length) := Nat.mul_le_mul_left _ h1
  have h5 : H * 1 ≤ H * (1 + t) ^ l.length := Nat.mul_le_mul_left _ (Nat.one_le_pow _ _ (by omega))
  rw [List.length_cons, Nat.pow_succ]
  have h6 : H * ((1 + t) ^ l.length * (1 + t)) = H * (1 + t) ^ l.length + t * (H * (1 + t) ^ l.length) := by grind
  omega
def XR (s : Int) : List Int → List Int
 | [] => []
 | _ :: l => V s l :: XR s l
theorem aiv (s t : Int) : ∀ x : List Int, V t x = V s x + (t - s) * V t (XR s x)
 | [] => by simp [V, XR]
 | a :: l => by
  have := aiv s t l
  simp only [V, XR]
  have h2 : t * V t l = t * (V s l + (t - s) * V t (XR s l)) := by rw [← this]
  grind
theorem ML (s : Int) : ∀ x : List Int, x ≠ [] → ∃ y, XR s x = y ++ [0] ∧ y.length = x.length - 1
 | [], h => absurd rfl h
 | [a], _ => ⟨[], by simp [XR, V], rfl⟩
 | a :: b :: l, _ => by
  obtain ⟨y, h1, h2⟩ := ML s (b :: l) (by simp)
  refine ⟨V s (b :: l) :: y, by rw [XR, h1]; rfl, by simp at h2 ⊢; omega⟩
theorem CR {s : Nat} {M : Nat} : ∀ {x : List Int}, (V (s : Int) x).natAbs ≤ M → (∀ c ∈ XR s x, c.natAbs ≤ M) → ∀ c ∈ x, c.natAbs ≤ M * (1 + s)
 | [], _, _, c, hc => by cases hc
 | a :: l, h0, h, c, hc => by
  have h1 : (V (s : Int) l).natAbs ≤ M := h _ (by simp [XR])
  have h2 : ∀ c ∈ XR s l, c.natAbs ≤ M := fun c hc => h c (by simp [XR, hc])
  rcases List.mem_cons.1 hc with rfl | hc
  ·simp only [V] at h0
   have h3 : c.natAbs ≤ (c + (s : Int) * V s l).natAbs + s * (V (s : Int) l).natAbs := by
    have h4 : c = (c + (s : Int) * V s l) + (-((s : Int) * V s l)) := by omega
    have h5 := Int.natAbs_add_le (c + (s : Int) * V s l) (-((s : Int) * V s l))
    rw [← h4, Int.natAbs_neg, Int.natAbs_mul, Int.natAbs_natCast] at h5
    exact h5
   have h4 : s * (V (s : Int) l).natAbs ≤ s * M := Nat.mul_le_mul_left _ h1
   rw [Nat.mul_add, Nat.mul_one, Nat.mul_comm M s]; omega
  ·exact CR h1 h2 c hc
theorem IH (K : Nat) : ∀ (P : List Nat) (A : Nat) (x : List Int), P.Nodup → (∀ p ∈ P, p ≤ K) → x.length ≤ P.length → (∀ p ∈ P, (V (p : Int) x).natAbs ≤ A) → ∀ c ∈ x, c.natAbs ≤ A * (2 * (K + 1)) ^ P.length
 | [], A, x, _, _, hl, _, c, hc => by
  have : x = [] := List.eq_nil_of_length_eq_zero (by simpa using hl)
  rw [this] at hc; cases hc
 | s :: P, A, x, hd, hK, hl, hv, c, hc => by
  have hx : x ≠ [] := fun h => by rw [h] at hc; cases hc
  have h0 := hv s (List.mem_cons_self ..)
  obtain ⟨hs, hd⟩ := List.nodup_cons.1 hd
  obtain ⟨y, h1, h2⟩ := ML s x hx
  have hy : ∀ t : Int, V t (XR s x) = V t y := fun t => by rw [h1, dU]; simp [V]
  have h3 : ∀ p ∈ P, (V (p : Int) y).natAbs ≤ 2 * A := fun p hp => by
   have h4 := aiv s (p : Int) x
   rw [hy] at h4
   have h5 := hv p (List.mem_cons_of_mem _ hp)
   have nZ : p ≠ s := fun h => hs (h ▸ hp)
   have h6 : (((p : Int) - s) * V (p : Int) y).natAbs ≤ 2 * A := by
    have : ((p : Int) - s) * V (p : Int) y = V (p : Int) x - V (s : Int) x := by omega
    rw [this]
    omega
   rw [Int.natAbs_mul] at h6
   exact Nat.le_trans (Nat.le_mul_of_pos_left _ (by omega)) h6
  rw [List.length_cons] at hl ⊢
  have h4 := IH K P (2 * A) y hd (fun p hp => hK p (List.mem_cons_of_mem _ hp)) (by omega) h3
  have hP : 1 ≤ (2 * (K + 1)) ^ P.length := Nat.one_le_pow _ _ (by omega)
  have h5 := CR (s := s) (M := 2 * A * (2 * (K + 1)) ^ P.length) (x := x) (by
   have : A * 1 ≤ 2 * A * (2 * (K + 1)) ^ P.length := Nat.mul_le_mul (by omega) hP
   omega) (fun d hd => by
   rw [h1] at hd
   rcases List.mem_append.1 hd with hd | hd
   ·exact h4 d hd
   ·simp at hd; subst hd; simp) c hc
  refine Nat.le_trans h5 ?_
  rw [Nat.pow_succ]
  have h6 : A * ((2 * (K + 1)) ^ P.length * (2 * (K + 1))) = (2 * A * (2 * (K + 1)) ^ P.length) * (K + 1) := by grind
  rw [h6]
  exact Nat.mul_le_mul_left _ (by have := hK s (List.mem_cons_self ..); omega)
theorem CS {α : Type} (p : α → Bool) : ∀ l : List α, (l.filter p).length + (l.filter fun x => !p x).length = l.length
 | [] => rfl
 | a :: l => by
  have := CS p l
  cases h : p a <;> simp [h] <;> omega
theorem af7 {x : List Int} (hx : aN x ≠ []) {n : Nat} (hl : x.length ≤ n) : ∃ P : List Nat, P.Nodup ∧ (∀ p ∈ P, p ≤ 2 * n - 1) ∧ P.length = n ∧ ∀ p ∈ P, V (p : Int) x ≠ 0 := by
 have h1 := CS (fun p : Nat => decide (V (p : Int) x = 0)) (List.range (2 * n))
 have h2 : ((List.range (2 * n)).filter fun p : Nat => decide (V (p : Int) x = 0)).length < n := Nat.not_le.1 fun h => hx (by
  have h3 := IH (2 * n) ((List.range (2 * n)).filter fun p : Nat => decide (V (p : Int) x = 0)) 0 x (List.nodup_range.filter _) (fun p hp => by have := List.mem_range.1 (List.mem_filter.1 hp).1; omega) (by omega) (fun p hp => by have := of_decide_eq_true (List.mem_filter.1 hp).2; rw [this]; decide)
  have h4 : ∀ l : List Int, (∀ c ∈ l, c.natAbs ≤ 0 * (2 * (2 * n + 1)) ^ ((List.range (2 * n)).filter fun p : Nat => decide (V (p : Int) x = 0)).length) → aN l = [] := fun l => by
   induction l with
   | nil => intro _; rfl
   | cons a l ih =>
    intro h
    have h5 := h a (List.mem_cons_self ..)
    rw [Nat.zero_mul] at h5
    rw [aN, ih fun c hc => h c (List.mem_cons_of_mem _ hc), if_pos ⟨rfl, by omega⟩]
  exact h4 x h3)
 rw [List.length_range] at h1
 have h3 : n ≤ ((List.range (2 * n)).filter fun p : Nat => !decide (V (p : Int) x = 0)).length := by omega
 refine ⟨((List.range (2 * n)).filter fun p : Nat => !decide (V (p : Int) x = 0)).take n, (List.take_sublist _ _).nodup (List.nodup_range.filter _), fun p hp => ?_, by rw [List.length_take]; omega, fun p hp => ?_⟩
 ·have := List.mem_range.1 (List.mem_filter.1 (List.mem_of_mem_take hp)).1; omega
 ·have := (List.mem_filter.1 (List.mem_of_mem_take hp)).2
  simpa using this
namespace ZX
theorem ab5 {a w g : ZX} {h n l : Nat} (ha : a ≠ 0) (e : a = w * g) (hH : ∀ d ∈ a.l, d.natAbs ≤ 2 ^ h) (hN : N a ≤ n) (hn : n ≤ 2 ^ l) : ∀ c ∈ g.l, c.natAbs ≤ 2 ^ (h + n * (2 * l + 3)) := by
 intro c hc
 have hw : w ≠ 0 ∧ g ≠ 0 := ⟨fun h0 => ha (by rw [e, h0]; grind), fun h0 => ha (by rw [e, h0]; grind)⟩
 have hlen : g.l.length ≤ n := by
  have h1 : N a = N w + N g - 1 := by rw [e, eI hw.1 hw.2]
  have h2 := aC.1 hw.1
  show N g ≤ n
  omega
 have ZO : 1 ≤ n := by have := aC.1 ha; omega
 obtain ⟨P, p1, p2, p3, p4⟩ := af7 (x := a.l) (n := n) (by
  rw [show aN a.l = a.l from a.c]
  have := aC.1 ha
  intro h0
  have h3 : N a = a.l.length := rfl
  rw [h3, h0] at this; simp at this) hN
 have hv : ∀ p ∈ P, (V (p : Int) g.l).natAbs ≤ 2 ^ h * (2 ^ (l + 1)) ^ n := fun p hp => by
  have h1 : V (p : Int) a.l = V (p : Int) w.l * V (p : Int) g.l := by
   conv => lhs; rw [e]
   rw [dM]
  have h2 := p4 p hp
  have h3 : (V (p : Int) g.l).natAbs ≤ (V (p : Int) a.l).natAbs := by
   rw [h1, Int.natAbs_mul]
   have : V (p : Int) w.l ≠ 0 := fun h0 => h2 (by rw [h1, h0, Int.zero_mul])
   exact Nat.le_mul_of_pos_left _ (by omega)
  refine Nat.le_trans h3 (Nat.le_trans (MJ hH) (Nat.mul_le_mul_left _ ?_))
  have h4 : 1 + p ≤ 2 ^ (l + 1) := by have := p2 p hp; rw [Nat.pow_succ]; omega
  exact Nat.le_trans (Nat.pow_le_pow_left h4 _) (Nat.pow_le_pow_right (Nat.two_pow_pos _) hN)
 have h5 := IH (2 * n - 1) P _ g.l p1 p2 (by omega) hv c hc
 refine Nat.le_trans h5 ?_
 rw [p3]
 have h7 : 2 * (2 * n - 1 + 1) ≤ 2 ^ (l + 2) := by rw [Nat.pow_add]; omega
 have h8 : (2 * (2 * n - 1 + 1)) ^ n ≤ (2 ^ (l + 2)) ^ n := Nat.pow_le_pow_left h7 _
 refine Nat.le_trans (Nat.mul_le_mul_left _ h8) (Nat.le_of_eq ?_)
 rw [← Nat.pow_mul, ← Nat.pow_mul, ← Nat.pow_add, ← Nat.pow_add]
 congr 1
 grind
theorem alH {a w g : ZX} {h n : Nat} (ha : a ≠ 0) (e : a = w * g) (hb : Bd 2 h n a.l) (hn : n + 1 ≤ 2 ^ h) : Bd 2 (h + n * (2 * h + 5) + 1) n g.l := by
 have hw : w ≠ 0 ∧ g ≠ 0 := ⟨fun h0 => ha (by rw [e, h0]; grind), fun h0 => ha (by rw [e, h0]; grind)⟩
 refine ⟨?_, fun c hc => ?_⟩
 ·have h1 : N a = N w + N g - 1 := by rw [e, eI hw.1 hw.2]
  have h2 := aC.1 hw.1
  have h3 : N a ≤ n := hb.len
  show N g ≤ n
  omega
 ·have h1 := ab5 (h := h) (n := n) (l := h) ha e (fun d hd => by
   have h1 := kB (b := 2) (by decide) d
   have h2 := vB (b := 2) (by decide) (hb.sz d hd)
   omega) hb.len (by omega) c hc
  refine dD (by decide) (Nat.lt_of_le_of_lt h1 (Nat.pow_lt_pow_right (by decide) ?_))
  have : n * (2 * h + 3) ≤ n * (2 * h + 5) := Nat.mul_le_mul_left _ (by omega)
  omega
end ZX
end Pm
namespace Go.Proofs.YtelhfbikiccfkaaGreat
open Go Pm
open ZX hiding N W
structure Nf (a : ZX) : Prop where
 ne : a ≠ 0
 g : bK a.l = 1
 l : 0 < lead a.l
theorem tZ {a : ZX} (h : a ≠ 0) : a.l ≠ [] := fun e => by
 have := aC.1 h
 have h2 : ZX.N a = a.l.length := rfl
 rw [h2, e] at this; simp at this
theorem alI (x : List Int) : Cn (qZ x) := Cn.cut _
def nf (a : ZX) : ZX := ⟨qZ a.l, alI _⟩
theorem j1 : nf 0 = 0 := ZX.ext fun t => rfl
theorem II {a : ZX} (ha : a ≠ 0) : K (kP a.l) * nf a = a := ZX.ext fun t => by
 rw [dM, sP]
 conv => rhs; rw [← XI a.c (tZ ha)]
 rw [cC, Int.mul_comm]; rfl
theorem nO {a : ZX} (ha : a ≠ 0) : kP a.l ≠ 0 := QS a.c (tZ ha)
theorem aiw {a : ZX} (ha : a ≠ 0) : nf a ≠ 0 := fun h => ha (by rw [← II ha, h]; grind)
theorem fF {a : ZX} (ha : a ≠ 0) : Nf (nf a) := ⟨aiw ha, afW a.c (tZ ha), abO a.c (tZ ha)⟩
theorem Nf.nfe {a : ZX} (h : Nf a) : nf a = a := by
 have h1 : kP a.l = 1 := by
  unfold kP
  rw [if_neg (by have := h.l; omega), h.g]; rfl
 have := II h.ne
 rw [h1] at this
 rw [← this]
 conv => lhs; rw [this]
 show _ = (1 : ZX) * _
 grind
theorem ab6 {c : Int} (hc : c ≠ 0) (a : ZX) : ZX.N (K c * a) = ZX.N a := by
 by_cases ha : a = 0
 ·rw [ha, show K c * (0 : ZX) = 0 by grind]
 ·rw [eI (kQ hc) ha, T0 hc]; have := aC.1 ha; omega
theorem vX (a : ZX) : ZX.N (nf a) = ZX.N a := by
 by_cases ha : a = 0
 ·rw [ha, j1]
 ·have := ab6 (nO ha) (nf a)
  rw [II ha] at this
  exact this.symm
theorem K_l {c : Int} (hc : c ≠ 0) (a : ZX) : (K c * a).l = a.l.map (· * c) := by
 refine Cn.ext (K c * a).c (kN a.c hc) fun t => ?_
 rw [dM, sP, dV, Int.mul_comm]
theorem ab7 {c : Int} (hc : c ≠ 0) {a : ZX} (ha : a ≠ 0) : lead (K c * a).l = c * lead a.l := by
 have h : (K c * a).l = bL (K c).l a.l := rfl
 have hK : (K c).l = [c] := by show aN [c] = [c]; exact iF hc []
 rw [h, xA (K c).c a.c (by rw [hK]; simp) (aC.1 ha), hK]
 rfl
theorem Nf.IJ {a b : ZX} (ha : Nf a) (hb : Nf b) {c d : Int} (hc : c ≠ 0) (hd : d ≠ 0) (e : K c * a = K d * b) : a = b := by
 have h1 : c.natAbs = d.natAbs := by
  have h2 : bK (K c * a).l = bK (K d * b).l := by rw [e]
  rw [K_l hc, K_l hd, kO, kO, ha.g, hb.g] at h2
  omega
 have h3 : c * lead a.l = d * lead b.l := by rw [← ab7 hc ha.ne, ← ab7 hd hb.ne, e]
 have h4 : c = d := by
  rcases Int.natAbs_eq_natAbs_iff.1 h1 with h5 | h5
  ·exact h5
  ·exfalso
   subst h5
   have hl := ha.l
   have JV := hb.l
   rcases Int.lt_or_gt_of_ne hd with h6 | h6
   ·have := Int.mul_pos (show 0 < -d by omega) hl
    have := Int.mul_neg_of_neg_of_pos h6 JV
    omega
   ·have := Int.mul_neg_of_neg_of_pos (show -d < 0 by omega) hl
    have := Int.mul_pos h6 JV
    omega
 subst h4
 exact ZX.cancel (kQ hc) e
theorem af8 {a b : ZX} {c d : Int} (ha : a ≠ 0) (hc : c ≠ 0) (hd : d ≠ 0) (e : K c * a = K d * b) : nf a = nf b := by
 have hb : b ≠ 0 := fun h => by
  rw [h, show K d * (0 : ZX) = 0 by grind] at e
  exact eB (kQ hc) ha e
 refine Nf.IJ (fF ha) (fF hb) (c := c * kP a.l) (d := d * kP b.l) (Int.mul_ne_zero hc (nO ha)) (Int.mul_ne_zero hd (nO hb)) ?_
 rw [← nJ, ← nJ]
 have h1 := II ha
 have h2 := II hb
 grind
theorem MM (a : ZX) : nf (nf a) = nf a := by
 by_cases ha : a = 0
 ·rw [ha, j1, j1]
 ·exact (fF ha).nfe
theorem F4 (a : ZX) : dv a (nf a) ∧ dv (nf a) a := by
 by_cases ha : a = 0
 ·rw [ha, j1]; exact ⟨dv.refl 0, dv.refl 0⟩
 ·have h := II ha
  exact ⟨⟨kP a.l, nO ha, 1, by rw [h]; grind⟩, ⟨1, by decide, K (kP a.l), by rw [h]; show (1 : ZX) * a = a; grind⟩⟩
theorem rC {a b : ZX} (h1 : dv a b) (h2 : dv b a) : nf a = nf b := by
 by_cases ha : a = 0
 ·subst ha; rw [zW h1]
 ·obtain ⟨c, hc, q, e⟩ := h2
  have h3 := h1.lZ (fun hb => ha (by subst hb; exact zW ⟨c, hc, q, e⟩))
  have h4 := dv.lZ ⟨c, hc, q, e⟩ ha
  obtain ⟨hq, hb⟩ := mB hc ha e
  have h5 := ab6 hc a
  rw [e, eI hq hb] at h5
  have := aC.1 hq
  have := aC.1 hb
  obtain ⟨d, hd, rfl⟩ := jZ (x := q) (by omega)
  exact af8 ha hc hd e
theorem Nf.one : Nf 1 := ⟨lY, by decide, by decide⟩
theorem Nf.mul {a b : ZX} (ha : Nf a) (hb : Nf b) : Nf (a * b) := by
 refine ⟨eB ha.ne hb.ne, ?_, ?_⟩
 ·show bK (bL a.l b.l) = 1
  rw [abN a.c b.c (tZ ha.ne) (tZ hb.ne), ha.g, hb.g]
 ·show 0 < lead (bL a.l b.l)
  rw [xA a.c b.c (aC.1 ha.ne) (aC.1 hb.ne)]
  exact Int.mul_pos ha.l hb.l
theorem CT {p a : ZX} (hp : nK p) (ha : a ≠ 0) : mu p (nf a) = mu p a := by
 conv => rhs; rw [← II ha]
 rw [kT hp (kQ (nO ha)) (aiw ha), QW hp (nO ha)]; omega
theorem Nf.rD {a b : ZX} (ha : Nf a) (hb : Nf b) (h : ∀ p, nK p → mu p a = mu p b) : a = b := by
 rw [← ha.nfe, ← hb.nfe]
 exact rC ((jJ ha.ne hb.ne).2 fun p hp => by have := h p hp; omega) ((jJ hb.ne ha.ne).2 fun p hp => by have := h p hp; omega)
theorem Nf.quo {a b : ZX} (ha : Nf a) (hb : Nf b) (h : dv b a) : ∃ w, Nf w ∧ a = w * b := by
 obtain ⟨c, hc, q, e⟩ := h
 obtain ⟨hq, _⟩ := mB hc ha.ne e
 refine ⟨nf q, fF hq, Nf.IJ ha ((fF hq).mul hb) hc (nO hq) ?_⟩
 have := II hq
 grind
theorem Nf.exact {a b w : ZX} (hb : Nf b) (e : a = w * b) : exact a.l b.l = some w.l := by
 subst e
 exact QV w.c b.c (aC.1 hb.ne)
theorem Nf.N1 {a : ZX} (ha : Nf a) (h : ZX.N a ≤ 1) : a = 1 := by
 obtain ⟨c, hc, rfl⟩ := jZ (x := a) (by have := aC.1 ha.ne; omega)
 exact Nf.IJ ha Nf.one (show (1 : Int) ≠ 0 by decide) hc (by show (1 : ZX) * _ = K c * 1; grind)
noncomputable def gz (a b : ZX) : ZX := nf (Classical.choose (i5 _ a b (Nat.le_refl _)))
theorem r6 (a b : ZX) : ∃ g, p9 g a b ∧ gz a b = nf g := ⟨_, Classical.choose_spec (i5 _ a b (Nat.le_refl _)), rfl⟩
theorem T8 {g a b : ZX} (h : p9 g a b) : gz a b = nf g := by
 obtain ⟨g', h', e⟩ := r6 a b
 rw [e]
 obtain ⟨h1, h2⟩ := h'.assoc h
 exact rC h1 h2
theorem p9.arJ {g g' a b : ZX} (h : p9 g a b) (h1 : dv g g') (h2 : dv g' g) : p9 g' a b := by
 obtain ⟨c, hc, u, v, e⟩ := h.uv
 obtain ⟨d, hd, w, e2⟩ := h1
 exact ⟨h2.trans h.l, h2.trans h.r, c * d, Int.mul_ne_zero hc hd, w * u, w * v, by rw [← nJ]; grind⟩
theorem eE (a b : ZX) : p9 (gz a b) a b := by
 obtain ⟨g, h, e⟩ := r6 a b
 rw [e]
 obtain ⟨h1, h2⟩ := F4 g
 exact p9.arJ h h1 h2
theorem arK {a b : ZX} (h : a ≠ 0 ∨ b ≠ 0) : gz a b ≠ 0 := (eE a b).ne h
theorem CU {a b : ZX} (h : a ≠ 0 ∨ b ≠ 0) : Nf (gz a b) := by
 have h0 := arK h
 obtain ⟨g, h, e⟩ := r6 a b
 rw [e] at h0 ⊢
 exact fF (fun hg => h0 (by rw [hg, j1]))
theorem af9 (a b : ZX) : gz a b = gz b a := by
 have h := eE a b
 rw [T8 h.symm]
 obtain ⟨g, _, e⟩ := r6 a b
 rw [e, MM]
theorem r7 (a : ZX) : gz a 0 = nf a := T8 (p9.zero a)
theorem MN (a : ZX) : gz 0 a = nf a := by rw [af9, r7]
theorem CV {a b a' b' : ZX} (h1 : dv a a') (h2 : dv a' a) (h3 : dv b b') (h4 : dv b' b) : gz a b = gz a' b' := by
 obtain ⟨g, hg, e⟩ := r6 a b
 rw [e, T8 (hg.congr h1 h2 h3 h4)]
theorem T9 (a b : ZX) : gz (nf a) b = gz a b := CV (F4 a).2 (F4 a).1 (dv.refl b) (dv.refl b)
theorem QZ (a b : ZX) : gz a (nf b) = gz a b := CV (dv.refl a) (dv.refl a) (F4 b).2 (F4 b).1
theorem IK {a b q r : ZX} {c k : Int} (hc : c ≠ 0) (hk : k ≠ 0) (e : K c * a = q * b + K k * r) : gz a b = gz b r := by
 obtain ⟨g, hg, e2⟩ := r6 b r
 rw [e2, T8 (hg.arI hc hk e)]
end Go.Proofs.YtelhfbikiccfkaaGreat
namespace Go.Proofs.YtelhfbikiccfkaaGreat
open Go Pm
open ZX hiding N W
open Classical in
noncomputable def qz (a b : ZX) : ZX := if h : ∃ w, Nf w ∧ a = w * b then h.choose else 0
theorem nP {a b : ZX} (ha : Nf a) (hb : Nf b) (h : dv b a) : Nf (qz a b) ∧ a = qz a b * b := by
 have h := ha.quo hb h
 unfold qz
 rw [dif_pos h]
 exact h.choose_spec
theorem aix {a b w : ZX} (hb : Nf b) (hw : Nf w) (e : a = w * b) : qz a b = w := by
 have ha : Nf a := by rw [e]; exact hw.mul hb
 obtain ⟨h1, h2⟩ := nP ha hb ⟨1, by decide, w, by rw [e]; show (1 : ZX) * _ = _; grind⟩
 refine ZX.cancel hb.ne ?_
 have : qz a b * b = w * b := by rw [← h2, e]
 grind
theorem ab8 {a b : ZX} (ha : Nf a) (hb : Nf b) (h : dv b a) : exact a.l b.l = some (qz a b).l := Nf.exact hb (nP ha hb h).2
theorem aiy {a b p : ZX} (ha : Nf a) (hb : Nf b) (h : dv b a) (hp : nK p) : mu p (qz a b) = mu p a - mu p b := by
 obtain ⟨h1, h2⟩ := nP ha hb h
 have h3 : mu p a = mu p (qz a b) + mu p b := by
  conv => lhs; rw [h2]
  exact kT hp h1.ne hb.ne
 omega
theorem Nf.self {a : ZX} (ha : Nf a) : qz a a = 1 := aix ha Nf.one (by grind)
theorem Nf.awM {a : ZX} (ha : Nf a) : qz a 1 = a := aix Nf.one ha (by grind)
noncomputable def gd (a : ZX) : ZX := gz a (bI a)
theorem UA {a : ZX} (ha : a ≠ 0) : Nf (gd a) := CU (.inl ha)
theorem y4 (a : ZX) : dv (gd a) a := (eE a (bI a)).l
theorem aiz {a p : ZX} (ha : a ≠ 0) (hp : nK p) : mu p (gd a) = mu p a - 1 := (eE a (bI a)).xI ha hp
theorem awN {a : ZX} (h : 2 ≤ ZX.N a) : ZX.N (gd a) < ZX.N a := by
 have h1 := (eE a (bI a)).r.lZ (CQ h)
 have h2 := lN a
 have : ZX.N (gd a) = ZX.N (gz a (bI a)) := rfl
 omega
theorem ab9 : gd 1 = 1 := by
 unfold gd
 rw [T6, r7, Nf.one.nfe]
noncomputable def gs (a : ZX) : Nat → ZX
 | 0 => a
 | k + 1 => gd (gs a k)
theorem mQ {a : ZX} (ha : Nf a) : ∀ k, Nf (gs a k)
 | 0 => ha
 | k + 1 => UA (mQ ha k).ne
theorem F5 (a : ZX) : ∀ k, dv (gs a k) a
 | 0 => dv.refl a
 | k + 1 => (y4 _).trans (F5 a k)
theorem UB {a p : ZX} (ha : Nf a) (hp : nK p) : ∀ k, mu p (gs a k) = mu p a - k
 | 0 => rfl
 | k + 1 => by
  show mu p (gd (gs a k)) = _
  rw [aiz (mQ ha k).ne hp, UB ha hp k]; omega
theorem aga {a : ZX} : ∀ k, ZX.N (gs a k) ≤ 1 ∨ ZX.N (gs a k) + k ≤ ZX.N a
 | 0 => .inr (Nat.le_refl _)
 | k + 1 => by
  rcases aga (a := a) k with h | h
  ·left
   show ZX.N (gz (gs a k) (bI (gs a k))) ≤ 1
   by_cases h0 : gs a k = 0
   ·rw [h0, show bI (0 : ZX) = 0 from ZX.ext fun t => rfl, r7, j1]; decide
   ·exact Nat.le_trans ((eE _ _).l.lZ h0) h
  ·rcases Nat.lt_or_ge (ZX.N (gs a k)) 2 with h2 | h2
   ·left
    show ZX.N (gz (gs a k) (bI (gs a k))) ≤ 1
    by_cases h0 : gs a k = 0
    ·rw [h0, show bI (0 : ZX) = 0 from ZX.ext fun t => rfl, r7, j1]; decide
    ·exact Nat.le_trans ((eE _ _).l.lZ h0) (by omega)
   ·right
    have := awN h2
    show ZX.N (gd (gs a k)) + (k + 1) ≤ _
    omega
open Classical in
noncomputable def nl (a : ZX) : Nat := if h : ∃ m, ZX.N (gs a m) ≤ 1 ∧ ∀ k, k < m → 2 ≤ ZX.N (gs a k) then h.choose else 0
theorem mC (a : ZX) : ZX.N (gs a (nl a)) ≤ 1 ∧ ∀ k, k < nl a → 2 ≤ ZX.N (gs a k) := by
 have h : ∃ m, ZX.N (gs a m) ≤ 1 ∧ ∀ k, k < m → 2 ≤ ZX.N (gs a k) := by
  have key : ∀ n, (∃ m, m ≤ n ∧ ZX.N (gs a m) ≤ 1 ∧ ∀ k, k < m → 2 ≤ ZX.N (gs a k)) ∨ ∀ k, k ≤ n → 2 ≤ ZX.N (gs a k) := by
   intro n
   induction n with
   | zero =>
    rcases Nat.lt_or_ge (ZX.N (gs a 0)) 2 with h | h
    ·exact .inl ⟨0, Nat.le_refl _, by omega, fun k hk => by omega⟩
    ·exact .inr fun k hk => by rw [show k = 0 by omega]; exact h
   | succ n ih =>
    rcases ih with ⟨m, h1, h2⟩ | ih
    ·exact .inl ⟨m, by omega, h2⟩
    ·rcases Nat.lt_or_ge (ZX.N (gs a (n + 1))) 2 with h | h
     ·exact .inl ⟨n + 1, Nat.le_refl _, by omega, fun k hk => ih k (by omega)⟩
     ·refine .inr fun k hk => ?_
      rcases Nat.lt_or_ge k (n + 1) with h3 | h3
      ·exact ih k (by omega)
      ·rw [show k = n + 1 by omega]; exact h
  rcases key (ZX.N a) with ⟨m, _, h⟩ | h
  ·exact ⟨m, h⟩
  ·have h1 := h (ZX.N a) (Nat.le_refl _)
   rcases aga (a := a) (ZX.N a) with h2 | h2 <;> omega
 unfold nl
 rw [dif_pos h]
 exact h.choose_spec
theorem F6 (a : ZX) : nl a ≤ ZX.N a := by
 rcases Nat.eq_zero_or_pos (nl a) with h | h
 ·omega
 ·have h1 := (mC a).2 (nl a - 1) (by omega)
  rcases aga (a := a) (nl a - 1) with h2 | h2 <;> omega
theorem MO {a : ZX} (ha : Nf a) : ∀ j, gs a (nl a + j) = 1
 | 0 => (mQ ha _).N1 (mC a).1
 | j + 1 => by
  show gd (gs a (nl a + j)) = 1
  rw [MO ha j, ab9]
noncomputable def wz (a : ZX) (k : Nat) : ZX := qz (gs a k) (gs a (k + 1))
theorem fT {a : ZX} (ha : Nf a) (k : Nat) : Nf (wz a k) ∧ gs a k = wz a k * gs a (k + 1) := nP (mQ ha k) (mQ ha (k + 1)) (y4 _)
theorem MP {a p : ZX} (ha : Nf a) (hp : nK p) (k : Nat) : mu p (wz a k) = if k < mu p a then 1 else 0 := by
 rw [wz, aiy (mQ ha k) (mQ ha (k + 1)) (y4 _) hp, UB ha hp, UB ha hp]
 split <;> omega
theorem arL {a : ZX} (ha : Nf a) (j : Nat) : wz a (nl a + j) = 1 := by
 rw [wz, MO ha j, Nat.add_assoc, MO ha (j + 1), Nf.one.self]
theorem MQ {a : ZX} (ha : Nf a) (k : Nat) : dv (wz a (k + 1)) (wz a k) := (jJ (fT ha _).1.ne (fT ha _).1.ne).2 fun p hp => by
 rw [MP ha hp, MP ha hp]
 split <;> split <;> omega
noncomputable def lP (a : ZX) (k : Nat) : ZX := qz (wz a k) (wz a (k + 1))
theorem vY {a : ZX} (ha : Nf a) (k : Nat) : Nf (lP a k) ∧ wz a k = lP a k * wz a (k + 1) := nP (fT ha k).1 (fT ha (k + 1)).1 (MQ ha k)
theorem arM {a p : ZX} (ha : Nf a) (hp : nK p) (k : Nat) : mu p (lP a k) = if mu p a = k + 1 then 1 else 0 := by
 rw [lP, aiy (fT ha k).1 (fT ha (k + 1)).1 (MQ ha k) hp, MP ha hp, MP ha hp]
 split <;> split <;> split <;> omega
theorem agb {a : ZX} (ha : Nf a) {k : Nat} (h : k + 1 = nl a) : lP a k = wz a k := by
 rw [lP, h, show nl a = nl a + 0 from rfl, arL ha 0, (fT ha k).1.awM]
noncomputable def fl (a : ZX) : List ZX := (List.range (nl a)).map (lP a)
theorem MR {a p : ZX} (ha : Nf a) (hp : nK p) : mu p a ≤ nl a := by
 have h := UB ha hp (nl a)
 have h1 := MO ha 0
 rw [Nat.add_zero] at h1
 rw [h1, QY hp] at h
 omega
noncomputable def pf (a : ZX) (c : Nat → Bool) : Nat → ZX
 | 0 => 1
 | k + 1 => if c k then pf a c k * lP a k else pf a c k
theorem vZ {a : ZX} (ha : Nf a) (c : Nat → Bool) : ∀ k, Nf (pf a c k)
 | 0 => Nf.one
 | k + 1 => by
  rw [pf]
  split
  ·exact (vZ ha c k).mul (vY ha k).1
  ·exact vZ ha c k
theorem UC {a p : ZX} (ha : Nf a) (hp : nK p) (c : Nat → Bool) : ∀ k, mu p (pf a c k) = if 1 ≤ mu p a ∧ mu p a ≤ k ∧ c (mu p a - 1) = true then 1 else 0
 | 0 => by
  rw [pf, QY hp, if_neg (by omega)]
 | k + 1 => by
  have ih := UC ha hp c k
  have hf := arM ha hp k
  rw [pf]
  by_cases hc : c k = true
  ·rw [if_pos hc, kT hp (vZ ha c k).ne (vY ha k).1.ne, ih, hf]
   by_cases h1 : mu p a = k + 1
   ·rw [if_pos h1, h1, Nat.add_sub_cancel, if_neg (by omega), if_pos ⟨by omega, Nat.le_refl _, hc⟩]
   ·rw [if_neg h1]
    by_cases h2 : 1 ≤ mu p a ∧ mu p a ≤ k ∧ c (mu p a - 1) = true
    ·rw [if_pos h2, if_pos ⟨h2.1, by omega, h2.2.2⟩]
    ·rw [if_neg h2, if_neg (fun h3 => h2 ⟨h3.1, by omega, h3.2.2⟩)]
  ·rw [if_neg hc, ih]
   by_cases h1 : mu p a = k + 1
   ·rw [h1, Nat.add_sub_cancel, if_neg (by omega), if_neg (fun h3 => hc h3.2.2)]
   ·by_cases h2 : 1 ≤ mu p a ∧ mu p a ≤ k ∧ c (mu p a - 1) = true
    ·rw [if_pos h2, if_pos ⟨h2.1, by omega, h2.2.2⟩]
    ·rw [if_neg h2, if_neg (fun h3 => h2 ⟨h3.1, by omega, h3.2.2⟩)]
noncomputable def oz (a : ZX) : ZX := pf a (fun k => k % 2 == 0) (nl a)
noncomputable def sz' (a : ZX) : ZX := wz a 0
theorem F7 {a : ZX} (ha : Nf a) : Nf (oz a) := vZ ha _ _
theorem aca {a : ZX} (ha : Nf a) : Nf (sz' a) := (fT ha 0).1
theorem UD {a p : ZX} (ha : Nf a) (hp : nK p) : mu p (oz a) = mu p a % 2 := by
 have h := MR ha hp
 rw [oz, UC ha hp]
 by_cases h1 : 1 ≤ mu p a ∧ mu p a ≤ nl a ∧ ((mu p a - 1) % 2 == 0) = true
 ·rw [if_pos h1]
  have := h1.2.2
  simp only [beq_iff_eq] at this
  omega
 ·rw [if_neg h1]
  simp only [beq_iff_eq] at h1
  omega
theorem acb {a p : ZX} (ha : Nf a) (hp : nK p) : mu p (sz' a) = min (mu p a) 1 := by
 rw [sz', MP ha hp]
 split <;> omega
theorem alK {a : ZX} (ha : Nf a) : pf a (fun _ => true) (nl a) = sz' a := Nf.rD (vZ ha _ _) (aca ha) fun p hp => by
 have h := MR ha hp
 rw [UC ha hp, acb ha hp]
 by_cases h1 : 1 ≤ mu p a
 ·rw [if_pos ⟨h1, h, rfl⟩]; omega
 ·rw [if_neg (fun h2 => h1 h2.1)]; omega
theorem MS {a : ZX} (h : ZX.N a ≤ 1) : nl a = 0 := by
 rcases Nat.eq_zero_or_pos (nl a) with h1 | h1
 ·exact h1
 ·have := (mC a).2 0 h1
  have : ZX.N (gs a 0) = ZX.N a := rfl
  omega
def qb (h n : Nat) : Nat := h + n * (2 * h + 5) + 1
theorem arN {a b : ZX} (ha : Nf a) (hb : Nf b) (hd : dv b a) {h n : Nat} (hx : Bd 2 h n a.l) (hn : n + 1 ≤ 2 ^ h) : Bd 2 (qb h n) n b.l := by
 obtain ⟨w, _, e⟩ := ha.quo hb hd
 exact alH ha.ne e hx hn
theorem acd {a b : ZX} (ha : Nf a) (hb : Nf b) (h : dv b a) : dv (qz a b) a := by
 obtain ⟨_, h2⟩ := nP ha hb h
 exact ⟨1, by decide, b, by rw [ZX.XP b, ← h2]; show (1 : ZX) * _ = _; grind⟩
theorem zY {a : ZX} (ha : Nf a) (k : Nat) : dv (wz a k) a := (acd (mQ ha k) (mQ ha (k + 1)) (y4 _)).trans (F5 a k)
theorem IL {a : ZX} (ha : Nf a) (k : Nat) : dv (lP a k) a := (acd (fT ha k).1 (fT ha (k + 1)).1 (MQ ha k)).trans (zY ha k)
theorem zZ {a : ZX} (ha : Nf a) (c : Nat → Bool) (k : Nat) : dv (pf a c k) a := (jJ (vZ ha c k).ne ha.ne).2 fun p hp => by
 rw [UC ha hp]
 split <;> omega
end Go.Proofs.YtelhfbikiccfkaaGreat
namespace Go.Proofs.YtelhfbikiccfkaaGreat
open Go Pm
theorem CW (v : Int) : sz LL v ≤ sz 2 v := dD fY (Nat.lt_of_lt_of_le (kB (b := 2) (by decide) v) (Nat.pow_le_pow_left (by decide) _))
theorem EN {h n : Nat} {x : List Int} (hx : Bd 2 h n x) : Bd LL h n x := ⟨hx.len, fun c hc => Nat.le_trans (CW c) (hx.sz c hc)⟩
instance : Inhabited ZX := ⟨0⟩
abbrev BZ (h n : Nat) (a : ZX) : Prop := Bd 2 h n a.l
theorem BZ.pb {h n : Nat} {a : ZX} (b : BZ h n a) (hh : h < 1099511627775) (hn : n < 1099511627775) : PB a.l := PB.of (EN b) hh hn
theorem BZ.EK {h n : Nat} {a : ZX} (b : BZ h n a) (hh : h < 1099511627775) (hn : n < 1099511627775) : sO (a.l.map tA) := (b.pb hh hn).EK
theorem y5 (a : ZX) : mH (a.l.map tA) = a.l := by rw [afT]; exact a.c
theorem BZ.mono {h h' n n' : Nat} {a : ZX} (b : BZ h n a) (hh : h ≤ h') (hn : n ≤ n') : BZ h' n' a := Bd.mono b hh hn
theorem BZ.nf {h n : Nat} {a : ZX} (b : BZ h n a) : BZ h n (nf a) := abZ b
theorem BZ.N {h n : Nat} {a : ZX} (b : BZ h n a) : ZX.N a ≤ n := Bd.len b
theorem ace {h n : Nat} {a : ZX} (b : BZ h n a) (hh : h < 1099511627774) (hn : n < 1099511627774) (k : Nat) (hk : k + 1 < a.l.length) : aG env.P 174 [.int .i64 (k : Int), .rd [Po a.l]] (I (nth a.l (k + 1) * ((k + 1 : Nat) : Int))) := by
 have hlen := b.len
 have hz := (EN b).nth (k + 1)
 have o1 := BS ((k + 1 : Nat) : Int) (by omega) (by omega)
 have hk1 : Sz ((k + 1 : Nat) : Int) := Nat.lt_of_le_of_lt (dD (k := 2) fY (by rw [Int.natAbs_natCast]; show k + 1 < 4294967296 ^ 2; omega)) (by decide)
 have m1 := vI (x := nth a.l (k + 1)) (y := ((k + 1 : Nat) : Int)) (by show Pm.sz LL _ < _; omega) hk1
 have e : ((k : Int) + 1).toNat = k + 1 := by omega
 rw [Int.natCast_add, Int.natCast_one] at o1 m1
 refine bV [(0, .int .i64 (k : Int)), (1, .rd [Po a.l])] Tryz.func174 ?_
 generalize a.l = x at *
 refine aA [0, 1, 3] ?_
 refine W.sd ?_
 simp (disch := omega) [gw, e]
 refine bZ o1 ?_
 refine cI [3] m1 ?_
 exact bT
theorem pH {h n : Nat} {a : ZX} (b : BZ h n a) (hh : h < 1099511627774) (hn : n < 1099511627774) : aG env.P 89 [Po a.l] (Po (ZX.bI a).l) := by
 have hlen := b.len
 have hc := fun k hk => ace b hh hn k hk
 have hE := qU 174 rfl [.rd [Po a.l]] rfl (a.l.length - 1) (by omega) (fun k => nth a.l (k + 1) * ((k + 1 : Nat) : Int)) (fun k hk => hc k (by omega))
 have e0 : aN ((List.range (a.l.length - 1)).map fun k => nth a.l (k + 1) * ((k + 1 : Nat) : Int)) = (ZX.bI a).l := rfl
 rw [e0] at hE
 generalize (ZX.bI a).l = d at *
 generalize a.l = x at *
 have e1 : (if (1 : Int) < (x.length : Int) then (x.length : Int) - 1 else 0) = ((x.length - 1 : Nat) : Int) := by split <;> omega
 refine bV [(0, Po x)] Tryz.func89 ?_
 refine aA [1] ?_
 refine W.sr ?_
 simp (disch := omega) [gw, e1]
 refine cI [2] hE ?_
 exact bT
theorem Q0 {α : Type} {g : α → List PV} {l : List α} {c : Int} {d : List Int} (h1 : aG env.P 153 [aI g l] (.fH [I c, Po d])) : aG env.P 155 [aI g l] (Po d) := by
 refine bV [(0, aI g l)] Tryz.func155 ?_
 refine aA [0] ?_
 refine aK [4] h1 ?_
 refine aA [2] ?_
 exact bT
theorem mI {h n : Nat} {a : ZX} (b : BZ h n a) (hh : h < 1099511627774) (hn : n < 1099511627774) : aG env.P 155 [Po a.l] (Po (nf a).l) := by
 have h1 := tB (a.l.map tA) (b.EK (by omega) (by omega)) (s := h) (n := n) (by rw [cE]; exact EN b) hh hn
 rw [y5, ← jH] at h1
 exact Q0 h1
theorem UE {h h' n : Nat} {a c : ZX} (b : BZ h n a) (b' : BZ h' n c) (ha : Nf a) (hc : Nf c) (hd : ZX.dv c a) (hB : h + n * (h' + n + 1) + h' + n + n + 10 < 1099511627774) : aG env.P 156 [Po a.l, Po c.l] (Po (qz a c).l) := by
 have h0 : ¬ c.l = [] := tZ hc.ne
 have h1 := XH (a.l.map tA) (c.l.map tA) (b.EK (by omega) (by omega)) (b'.EK (by omega) (by omega)) (s := h) (s' := h') (N := n) (by rw [cE]; exact EN b) (by rw [cE]; exact EN b') hB
 rw [y5, y5, if_neg h0, ab8 ha hc hd, ← jH, ← jH, exR] at h1
 generalize (qz a c).l = d at *
 generalize a.l = x at *
 generalize c.l = y at *
 refine bV [(0, Po x), (1, Po y)] Tryz.func156 ?_
 refine aA [0, 1] ?_
 refine aK [5] h1 ?_
 refine aA [4] ?_
 exact bT
def rs (a c : ZX) : ZX := ⟨L9 a.l c.l, alA _ _⟩
theorem CX {x : List Int} (cx : Cn x) (hx : x ≠ []) : (jM x).map (· * (bK x : Int)) = x := by
 have hg := cD cx hx
 have h1 := zV (g := (bK x : Int)) (fun c hc => iA x c hc)
 have h2 : Cn (x.map (p8 (bK x))) := by
  have h3 : x.map (p8 (bK x)) = aN (x.map (p8 (bK x))) := by
   refine (List.map_inj_right (f := fun v : Int => v * (bK x : Int)) (fun u v e => Int.eq_of_mul_eq_mul_right (by omega) e)).1 ?_
   rw [h1]
   refine Cn.ext cx (kN (Cn.cut _) (by omega)) fun t => ?_
   rw [dV, cV, ← dV, h1]
  exact h3.symm
 rw [jM, show aN (x.map (p8 (bK x))) = _ from h2, h1]
theorem agc {a c : ZX} (hc : c ≠ 0) : ∃ (m k : Int) (q : ZX), m ≠ 0 ∧ k ≠ 0 ∧ ZX.K m * a = q * c + ZX.K k * rs a c := by
 have h0 := ZX.aC.1 hc
 obtain ⟨c1, c2⟩ := BO (b := c.l) a.c
 have hm : lead c.l ^ i0 a.l c.l ≠ 0 := Int.pow_ne_zero (cK c.c h0)
 have MT := abJ (lead c.l) (i0 a.l c.l)
 have hr := abK (b := c.l) a.c
 have hV := fun t => aba t a.l c.l
 have hg : sg (lead c.l) (i0 a.l c.l) ≠ 0 := fun h => by rw [h] at MT; simp at MT
 generalize sg (lead c.l) (i0 a.l c.l) = g at *
 generalize lead c.l ^ i0 a.l c.l = m at *
 have hl : (rs a c).l = jM (aX (yO a.l c.l).2 g) := hr
 generalize rs a c = R at *
 generalize (yO a.l c.l).1 = q at *
 generalize (yO a.l c.l).2 = r at *
 have hcp : Cn (aX r g) := Cn.aX _ _
 by_cases hz : aX r g = []
 ·refine ⟨m, 1, ⟨q, c1⟩, hm, by decide, ZX.ext fun t => ?_⟩
  rw [hz] at hl
  have h1 : V t R.l = 0 := by rw [hl]; rfl
  have h2 : V t r = 0 := by
   have h3 : V t (aX r g) = 0 := by rw [hz]; rfl
   rw [cC] at h3
   rcases Int.mul_eq_zero.1 h3 with h4 | h4
   ·exact h4
   ·exact absurd h4 hg
  rw [ZX.dM, ZX.sP, ZX.jI, ZX.dM, ZX.dM, ZX.sP, h1]
  have := hV t
  rw [h2] at this
  show m * V t a.l = V t q * V t c.l + 1 * 0
  omega
 ·have hgp := cD hcp hz
  refine ⟨m, g * (bK (aX r g) : Int), ⟨q, c1⟩, hm, Int.mul_ne_zero hg (by omega), ZX.ext fun t => ?_⟩
  have h1 := CX hcp hz
  have h2 : V t (aX r g) = V t R.l * (bK (aX r g) : Int) := by
   rw [hl, ← dV, h1]
  rw [cC] at h2
  rw [ZX.dM, ZX.sP, ZX.jI, ZX.dM, ZX.dM, ZX.sP]
  have := hV t
  show m * V t a.l = V t q * V t c.l + g * (bK (aX r g) : Int) * V t R.l
  rw [← this]
  have h3 : V t r = g * (V t r * g) := by
   have : g * (V t r * g) = V t r * (g * g) := by grind
   rw [this, MT]; omega
  rw [h3, h2]; grind
theorem arO {a c : ZX} (hc : c ≠ 0) : ZX.N (rs a c) < ZX.N c := afV (ZX.aC.1 hc)
theorem iT {s n : Nat} {x : List Int} (hx : Bd 2 s n x) : Bd 2 s n (jM x) := Bd.cut ⟨by simpa using hx.len, fun c hc => by
 simp only [List.mem_map] at hc
 obtain ⟨v, hv, rfl⟩ := hc
 refine Nat.le_trans (cZ (by decide) ?_) (hx.sz v hv)
 unfold p8
 split
 ·exact Int.natAbs_ediv_le_natAbs _ _
 ·simp⟩
theorem arP {s s' n : Nat} {a c : ZX} (ha : BZ s n a) (hb : BZ s' n c) (hc : c ≠ 0) : BZ (s + (ZX.N a + 1 - ZX.N c) * (s' + n + 1)) n (rs a c) := by
 have h0 := ZX.aC.1 hc
 have hl := arO (a := a) hc
 have hk : i0 a.l c.l ≤ n := by
  have h1 := ha.N
  have h2 : i0 a.l c.l = ZX.N a + 1 - ZX.N c := rfl
  omega
 obtain ⟨_, h2⟩ := aa9 (B := 2) (by decide) hb (i0 a.l c.l) s [] a.l hk ⟨by simp, fun c hc => by cases hc⟩ (ha.mono (Nat.le_refl _) (by omega))
 have h3 : Bd 2 (s + i0 a.l c.l * (s' + n + 1)) (n + n) (L9 a.l c.l) := by
  unfold L9
  split
  ·exact iT (Bd.gH h2)
  ·exact iT h2
 have h4 := hb.N
 have h5 : ZX.N (rs a c) = (L9 a.l c.l).length := rfl
 exact ⟨by show (L9 a.l c.l).length ≤ n; omega, fun d hd => h3.sz d hd⟩
theorem acf {d : Nat} (h : 1 ≤ d) : d + 2 ≤ 4 ^ d := by
 obtain ⟨k, rfl⟩ : ∃ k, d = k + 1 := ⟨d - 1, by omega⟩
 clear h
 induction k with
 | zero => decide
 | succ k ih => rw [Nat.pow_succ]; omega
def zK (C n s : Nat) (a c : ZX) : Prop := if ZX.N c < ZX.N a then (s + n + 1) * 4 ^ ZX.N a ≤ C else (s + n + 1) * 2 * 4 ^ ZX.N c ≤ C
theorem zK.le {C n s : Nat} {a c : ZX} (h : zK C n s a c) : s + n + 1 ≤ C := by
 unfold zK at h
 split at h
 ·exact Nat.le_trans (Nat.le_mul_of_pos_right _ (Nat.pow_pos (by decide))) h
 ·refine Nat.le_trans ?_ h
  rw [Nat.mul_assoc]
  exact Nat.le_mul_of_pos_right _ (Nat.mul_pos (by decide) (Nat.pow_pos (by decide)))
theorem zK.step {C n s : Nat} {a c r : ZX} (h : zK C n s a c) (hr : ZX.N r < ZX.N c) : zK C n (s + (ZX.N a + 1 - ZX.N c) * (s + n + 1)) c r := by
 unfold zK at h ⊢
 rw [if_pos hr]
 generalize hT : s + n + 1 = T at *
 have e : s + (ZX.N a + 1 - ZX.N c) * T + n + 1 = (ZX.N a + 1 - ZX.N c + 1) * T := by
  rw [Nat.add_mul, Nat.one_mul]; omega
 rw [e]
 split at h
 ·rename_i h1
  obtain ⟨d, hd⟩ : ∃ d, ZX.N a = ZX.N c + d := ⟨ZX.N a - ZX.N c, by omega⟩
  have h2 := acf (d := d) (by omega)
  rw [hd, Nat.pow_add] at h
  have h3 : (ZX.N a + 1 - ZX.N c + 1) * T ≤ 4 ^ d * T := Nat.mul_le_mul_right _ (by omega)
  refine Nat.le_trans (Nat.mul_le_mul_right _ h3) ?_
  have : 4 ^ d * T * 4 ^ ZX.N c = T * (4 ^ ZX.N c * 4 ^ d) := by grind
  omega
 ·rename_i h1
  refine Nat.le_trans (Nat.mul_le_mul_right _ (Nat.mul_le_mul_right T (show ZX.N a + 1 - ZX.N c + 1 ≤ 2 by omega))) ?_
  rw [Nat.mul_comm 2 T]; exact h
theorem acg {s n C : Nat} {a c : ZX} (b : BZ s n a) (b' : BZ s n c) (hP : zK C n s (nf a) (nf c)) (hB : (n + 1) * C ≤ 99000000000) : aG env.P 157 [Po a.l, Po c.l] (Po (gz a c).l) := by
 have hC : C ≤ 99000000000 := Nat.le_trans (Nat.le_mul_of_pos_left C (by omega)) hB
 rw [Nat.succ_mul] at hB
 have hs := hP.le
 have p1 := mI b (by omega) (by omega)
 have p2 := mI b' (by omega) (by omega)
 have b1 := b.nf
 have b2 := b'.nf
 have hg : gz (nf a) (nf c) = gz a c := by rw [T9, QZ]
 rw [← hg]
 generalize n9 : nf a = x0 at *
 generalize P9 : nf c = y0 at *
 generalize hG : gz x0 y0 = G at *
 refine bV [(0, Po a.l), (1, Po c.l)] Tryz.func157 ?_
 generalize a.l = al at *
 generalize c.l = cl at *
 refine aA [0, 1] ?_
 refine iU ?_
 refine bZ p1 ?_
 refine cI [0, 1] p2 ?_
 refine W.seq ?_
 refine W.block ?_
 refine W.bC (fun k σ => ∃ (x y : ZX) (s : Nat) (rows : Pm.Rows) (clk : Nat), σ = ⟨fa [(0, Po x.l), (1, Po y.l)], rows, clk⟩ ∧ BZ s n x ∧ BZ s n y ∧ zK C n s x y ∧ gz x y = G ∧ k = ZX.N y) (ZX.N y0) ?_ ?_
 ·exact ⟨_, .refl, x0, y0, s, _, _, rfl, b1, b2, hP, hG, rfl⟩
 rintro k _ ⟨x, y, s, rows, clk, rfl, bx, r8, hp, hgz, rfl⟩
 have hs := hp.le
 have hlx := bx.len
 have hly := r8.len
 refine aL [0, 1, 13] ?_
 refine bE ?_ ?_ <;> intro h
 ·have hy : y ≠ 0 := ZX.aC.2 (by show 0 < y.l.length; simp at h; omega)
  obtain ⟨m, k, q, hm, hk, e⟩ := agc (a := x) hy
  have hR := MB (x.l.map tA) (y.l.map tA) (bx.EK (by omega) (by omega)) (r8.EK (by omega) (by omega)) (s := s) (s' := s) (N := n) (by rw [cE]; exact EN bx) (by rw [cE]; exact EN r8) (by
   have : n * (s + n + 1) ≤ n * C := Nat.mul_le_mul_left n hs
   omega)
  rw [y5, y5, if_neg (tZ hy), ← jH, ← jH, show L9 x.l y.l = (rs x y).l from rfl] at hR
  have br := arP bx r8 hy
  have hN := arO (a := x) hy
  have hp2 := hp.step hN
  have n4 := IK hm hk e
  refine W.skip ?_
  refine W.block ?_
  refine aK [1, 5] hR ?_
  refine W.b8 (fun K hK => ?_)
  simp (disch := omega) [gw]
  refine hK _ ⟨ZX.N (rs x y), _, aB _ [0, 1], hN, y, rs x y, _, _, _, rfl, r8.mono (by omega) (Nat.le_refl _), br, hp2, by rw [← n4, hgz], rfl⟩
 ·have hy : y = 0 := by
   refine Classical.byContradiction fun h0 => ?_
   have h1 := ZX.aC.1 h0
   have h2 : ZX.N y = y.l.length := rfl
   simp at h; rw [h2, h] at h1; simp at h1
  subst hy
  rw [r7] at hgz
  have p3 := mI bx (by omega) (by omega)
  rw [hgz] at p3
  refine fB ?_
  refine aK [4] p3 ?_
  exact bT
theorem UF {s n C : Nat} {a c : ZX} (b : BZ s n a) (b' : BZ s n c) (hP : zK C n s (nf a) (nf c)) (hn : n ≤ 20) (hC : C ≤ 4500000000) : aG env.P 157 [Po a.l, Po c.l] (Po (gz a c).l) :=
 acg b b' hP (Nat.le_trans (Nat.mul_le_mul (show n + 1 ≤ 21 by omega) hC) (by decide))
def zp (a : ZX) : List PV := [Po a.l]
@[simp] theorem awO {a : ZX} : zp a = [Po a.l] := rfl
@[simp] theorem aok {l : List ZX} : bF 1 (emap zp l) = True := dG fun _ => rfl
@[simp] theorem awP {l : List ZX} {a : ZX} : emap zp l ++ [[aI ie a.l]] = emap zp (l ++ [a]) := by simp [emap]
@[simp] theorem alM {v e n : Nat} {l : List ZX} : dC (some ⟨v, e, n, emap zp l⟩) = True := cY fun _ => rfl
theorem BZ.bI {h n : Nat} {a : ZX} (b : BZ h n a) (hn : n ≤ 31) : BZ (h + 5) n (ZX.bI a) := Bd.cut ⟨by have := b.len; simp [ZX.xG]; omega, fun c hc => by
 simp only [ZX.xG, List.mem_map, List.mem_range] at hc
 obtain ⟨i, hi, rfl⟩ := hc
 have := b.len
 exact b9 (by decide) (b.nth _) (dD (k := 5) (by decide) (by rw [Int.natAbs_natCast]; show i + 1 < 32; omega))⟩
theorem agd {h n : Nat} {a : ZX} (b : BZ h n a) (hn : n < 1099511627776) : aG env.P 87 [Po a.l] (.int .i64 ((ZX.N a : Int) - 1)) := lL a.l (by have := b.len; omega)
structure pT (s n : Nat) (a : ZX) : Prop where
 bz : BZ s n a
 hn : n ≤ 20
 hs : n + 1 ≤ 2 ^ s
 hC : (qb s n + n + 6) * 4 ^ n ≤ 4500000000
theorem pT.pU {s n : Nat} {a : ZX} (h : pT s n a) : qb s n + n + 6 ≤ 4500000000 := Nat.le_trans (Nat.le_mul_of_pos_right _ (Nat.pow_pos (by decide))) h.hC
theorem pT.dv {s n : Nat} {a c : ZX} (h : pT s n a) (ha : Nf a) (hc : Nf c) (hd : ZX.dv c a) : BZ (qb s n) n c := arN ha hc hd h.bz h.hs
theorem pT.nfz {s n : Nat} {a : ZX} (h : pT s n a) : pT s n (nf a) := ⟨h.bz.nf, h.hn, h.hs, h.hC⟩
theorem pT.gdz {s n : Nat} {a c : ZX} (h : pT s n a) (ha : Nf a) (hc : Nf c) (hd : ZX.dv c a) : aG env.P 157 [Po c.l, Po (ZX.bI c).l] (Po (gd c).l) ∧ aG env.P 89 [Po c.l] (Po (ZX.bI c).l) ∧ aG env.P 156 [Po c.l, Po (gd c).l] (Po (qz c (gd c)).l) := by
 have b := h.dv ha hc hd
 have b2 := b.bI (by have := h.hn; omega)
 have hq := h.pU
 have hn := h.hn
 have bg := h.dv ha (UA hc.ne) ((y4 c).trans hd)
 refine ⟨UF (s := qb s n + 5) (b.mono (by omega) (Nat.le_refl _)) b2 ?_ h.hn (C := 4500000000) (Nat.le_refl _), pH b (by omega) (by omega), UE b bg hc (UA hc.ne) (y4 c) (by
  have : n * (qb s n + n + 1) ≤ 20 * 4500000000 := Nat.mul_le_mul hn (by omega)
  omega)⟩
 have hN := ZX.lN c
 have h1 : ZX.N c ≤ n := b.N
 have h2 := ZX.aC.1 hc.ne
 unfold zK
 rw [vX, vX, if_pos (by omega)]
 refine Nat.le_trans (Nat.mul_le_mul (show qb s n + 5 + n + 1 ≤ qb s n + n + 6 by omega) (Nat.pow_le_pow_right (by decide) h1)) h.hC
theorem Q3 {s n : Nat} {a : ZX} (h : pT s n a) : aG env.P 239 [Po a.l] (aI zp ((List.range (nl (nf a))).map (wz (nf a)))) := by
 have p1 := mI h.bz (by have := h.pU; unfold qb at this; omega) (by have := h.hn; omega)
 have hA := h.nfz
 have hNf : 2 ≤ ZX.N (nf a) → Nf (nf a) := fun h2 => fF fun h0 => by rw [h0, j1] at h2; revert h2; decide
 have hle := F6 (nf a)
 have hbn := hA.bz.N
 have hn := h.hn
 generalize hAe : nf a = A at *
 refine bV [(0, Po a.l)] Tryz.func239 ?_
 refine aA [0] ?_
 refine aA [0, 3] ?_
 refine W.seq ?_
 refine aK [3, 4] p1 ?_
 refine W.nil 3 3 24 1 (by simp) (by decide) (fun K hK => ?_)
 refine W.lw [3, 4] hK ?_; clear hK K; simp
 refine W.block ?_
 refine W.bC (fun k σ => ∃ (i ver : Nat) (rows : Pm.Rows) (clk : Nat), σ = ⟨fa [(3, .own 3 ver 0 i), (4, Po (gs A i).l)], rows, clk⟩ ∧ rows 3 = some ⟨ver, 24, 1, emap zp ((List.range i).map (wz A))⟩ ∧ i + k = nl A) (nl A) ?_ ?_
 ·exact ⟨_, .refl, 0, _, _, _, rfl, by simp [emap], by omega⟩
 rintro k _ ⟨i, ver, rows, clk, rfl, hr, EJ⟩
 have tV : (emap zp ((List.range i).map (wz A))).length = i := by simp [emap]
 refine W.seq ?_
 have alN : aG env.P 87 [Po (gs A i).l] (.int .i64 ((ZX.N (gs A i) : Int) - 1)) := lL (gs A i).l (by
  have h1 : ZX.N (gs A i) = (gs A i).l.length := rfl
  rcases aga (a := A) i with h2 | h2 <;> omega)
 refine aK [3, 4, 10] alN ?_
 refine W.cond ⟨_, rfl, fun h3 => ?_, fun h3 => ?_⟩
 ·have h2 : 2 ≤ ZX.N (gs A i) := by simp at h3; omega
  have hi : i < nl A := by
   rcases Nat.lt_or_ge i (nl A) with h4 | h4
   ·exact h4
   ·have h5 := (mC A).1
    rw [show nl A = i by omega] at h5; omega
  have hA0 : 2 ≤ ZX.N A := by
   have := (mC A).2 0 (by omega)
   exact this
  have nA := hNf hA0
  have ng := mQ nA i
  obtain ⟨t1, t2, t3⟩ := hA.gdz nA ng (F5 A i)
  have hw : qz (gs A i) (gd (gs A i)) = wz A i := rfl
  have hs : gd (gs A i) = gs A (i + 1) := rfl
  rw [hw, hs] at t3
  rw [hs] at t1
  generalize hg : (gs A i).l = g at *
  generalize n4 : (gs A (i + 1)).l = g2 at *
  refine W.skip ?_
  refine W.block ?_
  refine iU ?_
  refine bZ t2 ?_
  refine cI [3, 4, 5] t1 ?_
  refine iU ?_
  refine aD t3 ?_
  simp (disch := omega) [gw, hr, tV]
  refine bH [3, 5] ?_
  refine W.b8 (fun K hK => ?_); simp (disch := omega) [gw]
  subst n4
  refine hK _ ⟨k - 1, _, aB _ [3, 4], by omega, i + 1, _, _, _, rfl, ?_, by omega⟩
  rw [List.range_succ, List.map_append]
  simp [emap, zp]
 ·have h2 : ZX.N (gs A i) ≤ 1 := by simp at h3; omega
  have hi : i = nl A := by
   rcases Nat.lt_or_ge i (nl A) with h4 | h4
   ·have := (mC A).2 i h4; omega
   ·omega
  rw [hi] at hr
  have wR : List.take (nl A) (List.map (wz A) (List.range (nl A))) = List.map (wz A) (List.range (nl A)) := List.take_of_length_le (by simp)
  refine fB ?_
  refine W.sr ?_
  rw [hi]
  simp (disch := omega) [gw, hr, wR]
  refine bH [2] ?_
  refine W.ret ?_
  simp [go, hr, wR]
theorem MU {s n : Nat} {a : ZX} (hA : pT s n a) (na : Nf a) (k : Nat) : BZ (qb s n) n (wz a k) := hA.dv na (fT na k).1 (zY na k)
theorem eM (f : Nat → ZX) {m i : Nat} (h : i < m) : nth ((List.range m).map f) i = f i := by
 rw [cQ (by simpa using h)]; simp
theorem arQ {a : ZX} (h : 0 < nl (nf a)) : Nf (nf a) := by
 have h1 := (mC (nf a)).2 0 h
 exact fF fun h0 => by
  rw [h0, j1] at h1
  have h2 : ZX.N (gs 0 0) = 0 := by decide
  omega
theorem MV {s n : Nat} {a : ZX} (h : pT s n a) : aG env.P 188 [Po a.l] (aI zp (fl (nf a))) := by
 have hL := Q3 h
 have hA := h.nfz
 have hNf := arQ (a := a)
 have hle := F6 (nf a)
 have hbn := hA.bz.N
 have hn := h.hn
 have hqb := h.pU
 generalize hAe : nf a = A at *
 have DV : ((List.range (nl A)).map (wz A)).length = nl A := by simp
 have hq : ∀ i, i + 1 < nl A → aG env.P 156 [Po (nth ((List.range (nl A)).map (wz A)) i).l, Po (nth ((List.range (nl A)).map (wz A)) (i + 1)).l] (Po (lP A i).l) := fun i hi => by
  have nA := hNf (by omega)
  rw [eM _ (by omega), eM _ hi]
  exact UE (MU hA nA i) (MU hA nA (i + 1)) (fT nA i).1 (fT nA (i + 1)).1 (MQ nA i) (by
   have : n * (qb s n + n + 1) ≤ 20 * 4500000000 := Nat.mul_le_mul hn (by omega)
   omega)
 have tC : ∀ i, i + 1 = nl A → nth ((List.range (nl A)).map (wz A)) i = lP A i := fun i hi => by
  rw [eM _ (by omega), agb (hNf (by omega)) hi]
 generalize hM : (List.range (nl A)).map (wz A) = M at *
 obtain ⟨m, hm⟩ : ∃ m, m = nl A := ⟨_, rfl⟩
 have XF : (fl A) = (List.range m).map (lP A) := by rw [hm]; rfl
 rw [XF]
 rw [← hm] at DV hq tC hle
 refine bV [(0, Po a.l)] Tryz.func188 ?_
 refine aA [0] ?_
 refine aK [3] hL ?_
 refine W.sr ?_
 simp (disch := omega) [gw, DV]
 refine bH [3, 4] ?_
 refine W.seq ?_
 refine W.sr ?_
 simp (disch := omega) [gw, DV]
 refine bH [3, 4, 12, 13, 14] ?_
 refine W.block ?_
 refine W.bC (fun k σ => ∃ (i ver : Nat) (els : List (List PV)) (rows : Pm.Rows) (clk : Nat), σ = ⟨fa [(3, aI zp M), (4, .own 11 ver 0 m), (12, aI zp M), (13, .int .i64 m), (14, .int .i64 i)], rows, clk⟩ ∧
  rows 11 = some ⟨ver, 24, 1, els⟩ ∧ els.length = m ∧ (∀ e ∈ els, e.length = 1) ∧ els.take i = emap zp ((List.range i).map (lP A)) ∧ i + k = m) m ?_ ?_
 ·exact ⟨_, .refl, 0, _, List.replicate m [.nil], _, _, rfl, by simp, by simp, by simp, by simp [emap], by omega⟩
 rintro k _ ⟨i, ver, els, rows, clk, rfl, hr, mF, NZ, pZ, EJ⟩
 refine cS [3, 4, 12, 13, 14, 15] ?_
 refine W.cond ⟨_, rfl, fun h3 => ?_, fun h3 => ?_⟩
 ·have hi : i < m := by simp at h3; omega
  clear h3
  have hiM : i < M.length := by omega
  have tV : i < els.length := by omega
  have hE : ∀ e : List (List PV), e.length = m → (∀ x ∈ e, x.length = 1) → s7 e i 1 = True := fun e h1 h2 => by
   simp only [eq_iff_iff, iff_true]
   exact ⟨e[i]'(by omega), List.getElem?_eq_getElem (by omega), by rw [h2 _ (List.getElem_mem _)]; omega⟩
  have hS : ∀ (e : List (List PV)) (v : PV), e.length = m → (∀ x ∈ e, x.length = 1) → iK e i 0 [v] = e.set i [v] := fun e v h1 h2 => by
   have h4 := h2 _ (List.getElem_mem (show i < e.length by omega))
   rw [iK, List.getElem?_eq_getElem (by omega)]
   simp [List.drop_of_length_le, h4]
  have h1E := hE els mF NZ
  have h1S := hS els (Po (nth M i).l) mF NZ
  have ZJ : (els.set i [Po (nth M i).l]).length = m := by simpa using mF
  have CY : ∀ e ∈ els.set i [Po (nth M i).l], e.length = 1 := fun e he => by
   rcases List.mem_or_eq_of_mem_set he with h4 | h4
   ·exact NZ e h4
   ·rw [h4]; rfl
  have arR : (els.set i [Po (nth M i).l]).take i = emap zp ((List.range i).map (lP A)) := by rw [gC (Nat.le_refl i)]; exact pZ
  have h2E := hE _ ZJ CY
  have h2S := hS (els.set i [Po (nth M i).l]) (Po (lP A i).l) ZJ CY
  have fin : ∀ (e : List (List PV)), e.length = m → (∀ x ∈ e, x.length = 1) → e.take i = emap zp ((List.range i).map (lP A)) → (e.set i [Po (lP A i).l]).take (i + 1) = emap zp ((List.range (i + 1)).map (lP A)) := fun e h1 h2 h4 => by
   rw [lI h4 (by omega), List.range_succ, List.map_append]
   simp [emap, zp]
  refine W.skip ?_
  refine W.eT (fun σ => ∃ (els : List (List PV)) (rows : Pm.Rows) (clk : Nat), σ = ⟨fa [(3, aI zp M), (4, .own 11 ver 0 m), (12, aI zp M), (13, .int .i64 m), (14, .int .i64 i)], rows, clk⟩ ∧
   rows 11 = some ⟨ver, 24, 1, els⟩ ∧ els.length = m ∧ (∀ e ∈ els, e.length = 1) ∧ els.take (i + 1) = emap zp ((List.range (i + 1)).map (lP A))) ?_ ?_
  ·refine aA [3, 4, 5, 6, 12, 13, 14] ?_
   refine W.sr ?_
   simp (disch := omega) [gw, hr, h1E, h1S]
   refine bH [3, 4, 5, 6, 12, 13, 14] ?_
   refine W.sr ?_
   simp (disch := omega) [gw, DV]
   refine bH [3, 4, 5, 6, 12, 13, 14, 27] ?_
   refine W.cond ⟨_, rfl, fun h3 => ?_, fun h3 => ?_⟩
   ·have YW : i + 1 < m := by simp at h3; omega
    have awQ : i + 1 < M.length := by omega
    have e1 : ((i : Int) + 1).toNat = i + 1 := by omega
    refine W.b8 (fun K hK => ?_)
    simp (disch := omega) [gw, e1, awQ]
    refine aD (hq i YW) ?_
    simp (disch := omega) [gw, h2E, h2S]
    exact hK _ ⟨_, aB _ [3, 4, 12, 13, 14], _, _, _, rfl, by simp, by simpa using mF, fun e he => by
     rcases List.mem_or_eq_of_mem_set he with h4 | h4
     ·exact CY e h4
     ·rw [h4]; rfl, fin _ ZJ CY arR⟩
   ·have YW : i + 1 = m := by simp at h3; omega
    refine W.skip ?_
    refine ⟨_, aB _ [3, 4, 12, 13, 14], _, _, _, rfl, by simp, ZJ, CY, ?_⟩
    have h4 := fin els mF NZ pZ
    rw [← tC i YW] at h4
    rw [h4]
  rintro _ ⟨els, rows, clk, rfl, hr, mF, NZ, pZ⟩
  refine W.b8 (fun K hK => ?_); simp (disch := omega) [gw]
  refine hK _ ⟨k - 1, _, aB _ [3, 4, 12, 13, 14], by omega, i + 1, _, _, _, _, rfl, hr, mF, NZ, pZ, by omega⟩
 ·have hi : i = m := by simp at h3; omega
  subst hi
  rw [bJ mF] at pZ
  subst pZ
  have wR : List.take i (List.map (lP A) (List.range i)) = List.map (lP A) (List.range i) := List.take_of_length_le (by simp)
  refine fB ?_
  refine W.sr ?_
  simp (disch := omega) [gw, hr, wR]
  refine bH [2] ?_
  refine W.ret ?_
  simp [go, hr, wR]
noncomputable def CZ (L : List ZX) : ZX := L.foldl gz 0
theorem agh (L : List ZX) (hL : L.length < 1099511627776) (h2 : ∀ i, i < L.length → aG env.P 157 [Po (CZ (L.take i)).l, Po (nth L i).l] (Po (CZ (L.take (i + 1))).l)) : aG env.P 184 [aI zp L] (Po (CZ L).l) := by
 refine bV [(0, aI zp L)] Tryz.func184 ?_
 refine aA [0] ?_
 refine aA [0, 3] ?_
 refine W.WO 3 (Po (CZ (L.take 0)).l) (by simp) rfl (fun K hK => ?_)
 refine W.lw [0, 3] hK ?_; clear hK K; simp
 refine aL [3, 6, 7, 8] ?_
 refine W.block ?_
 refine W.bC (fun k σ => ∃ (i : Nat) (rows : Pm.Rows) (clk : Nat), σ = ⟨fa [(3, Po (CZ (L.take i)).l), (6, aI zp L), (7, .int .i64 L.length), (8, .int .i64 i)], rows, clk⟩ ∧ i + k = L.length) L.length ?_ ?_
 ·exact ⟨_, .refl, 0, _, _, by simp; exact ⟨rfl, rfl⟩, by omega⟩
 rintro k _ ⟨i, rows, clk, rfl, EJ⟩
 refine cS [3, 6, 7, 8, 9] ?_
 refine bE ?_ ?_ <;> intro h
 ·have hi : i < L.length := by simp at h; omega
  have ht := h2 i hi
  generalize n4 : CZ (L.take (i + 1)) = g2 at *
  generalize CZ (L.take i) = g at *
  refine lG ?_
  refine aA [3, 5, 6, 7, 8] ?_
  refine W.b8 (fun K hK => ?_)
  simp (disch := omega) [gw]
  refine bZ ht ?_
  refine W.lw [3, 6, 7, 8] hK ?_; clear hK K; simp
  refine W.b8 (fun K hK => ?_); simp (disch := omega) [gw]
  subst n4
  refine hK _ ⟨k - 1, _, aB _ [3, 6, 7, 8], by omega, i + 1, _, _, rfl, by omega⟩
 ·have hi : i = L.length := by simp at h; omega
  subst hi
  rw [List.take_length]
  refine fB ?_
  refine aA [2] ?_
  exact bT
theorem aci : aG env.P 12 [.sl [[.int .i64 1]]] (Po (1 : ZX).l) := by
 have := HZ [1] (by decide) (by decide)
 exact this
noncomputable def sq (a : ZX) : ZX := if ZX.N a ≤ 1 then nf a else sz' (nf a)
theorem MW {α : Type} {g : α → List PV} {l : List α} {s n : Nat} {a : ZX} (h : pT s n a) (p1 : aG env.P 155 [aI g l] (Po (nf a).l)) : aG env.P 74 [aI g l] (Po (sq a).l) := by
 have hqb := h.pU
 have hn := h.hn
 have hA := h.nfz
 have alN := agd hA.bz (by omega)
 have hsq : sq a = if ZX.N (nf a) ≤ 1 then nf a else sz' (nf a) := by rw [vX]; rfl
 have nA : 2 ≤ ZX.N (nf a) → Nf (nf a) := fun h2 => fF fun h0 => by rw [h0, j1] at h2; revert h2; decide
 rw [hsq]
 generalize nf a = A at *
 refine bV [(0, aI g l)] Tryz.func74 ?_
 refine aA [0] ?_
 refine aK [0] p1 ?_
 refine W.seq ?_
 refine aK [0, 7] alN ?_
 refine W.cond ⟨_, rfl, fun h3 => ?_, fun h3 => ?_⟩
 ·have h2 : ZX.N A ≤ 1 := by simp at h3; omega
  rw [if_pos h2]
  refine aA [2] ?_
  exact bT
 ·have h2 : 2 ≤ ZX.N A := by simp at h3; omega
  obtain ⟨t1, t2, t3⟩ := hA.gdz (nA h2) (nA h2) (ZX.dv.refl A)
  rw [if_neg (by omega), show sz' A = qz A (gd A) from rfl]
  generalize (gd A).l = g1 at *
  refine W.skip ?_
  refine iU ?_
  refine bZ t2 ?_
  refine bZ t1 ?_
  refine cI [2] t3 ?_
  exact bT
theorem uA {s n : Nat} {a : ZX} (h : pT s n a) : aG env.P 74 [Po a.l] (Po (sq a).l) := by
 have hqb := h.pU
 have hn := h.hn
 exact MW h (mI h.bz (by unfold qb at hqb; omega) (by omega))
theorem agi {s n : Nat} {a : ZX} (h : pT s n a) (h0 : a ≠ 0) : aG env.P 108 [Po a.l] (Po (oz (nf a)).l) := by
 have hqb := h.pU
 have hn := h.hn
 have p7 : s < 1099511627774 := by unfold qb at hqb; omega
 have p1 := mI h.bz p7 (by omega)
 have hA := h.nfz
 have nA := fF h0
 have hF := MV hA
 rw [MM] at hF
 have hle := F6 (nf a)
 have hNA : ZX.N (nf a) ≤ n := hA.bz.N
 have nZ : (nf a).l.length ≠ 0 := fun h1 => by have h2 := ZX.aC.1 nA.ne; have h3 : ZX.N (nf a) = (nf a).l.length := rfl; omega
 generalize nf a = A at *
 have hmul : ∀ i, aG env.P 16 [Po (pf A (fun k => k % 2 == 0) i).l, Po (lP A i).l] (Po (pf A (fun k => k % 2 == 0) i * lP A i).l) := fun i => by
  have b1 := hA.dv nA (vZ nA (fun k => k % 2 == 0) i) (zZ nA _ i)
  have b2 := hA.dv nA (vY nA i).1 (IL nA i)
  exact oQ (EN b1) (EN b2) (by omega)
 obtain ⟨m, hm⟩ : ∃ m, m = nl A := ⟨_, rfl⟩
 have hoz : oz A = pf A (fun k => k % 2 == 0) m := by rw [hm]; rfl
 have XF : fl A = (List.range m).map (lP A) := by rw [hm]; rfl
 rw [hoz]
 rw [XF] at hF
 have DV : ((List.range m).map (lP A)).length = m := by simp
 have uB : ∀ i, i < m → nth ((List.range m).map (lP A)) i = lP A i := fun i hi => eM _ hi
 generalize (List.range m).map (lP A) = L at *
 have h1 := aci
 rw [show (1 : ZX) = pf A (fun k => k % 2 == 0) 0 from rfl] at h1
 generalize hg : pf A (fun k => k % 2 == 0) 0 = g0 at *
 refine bV [(0, Po a.l)] Tryz.func108 ?_
 refine aA [0] ?_
 refine aK [0] p1 ?_
 refine aL [0, 10] ?_
 refine W.cond ⟨_, rfl, fun h3 => ?_, fun h3 => ?_⟩
 ·simp at h3; exact absurd (by rw [h3]; rfl) nZ
 clear h3
 refine W.skip ?_
 refine aK [0, 3] h1 ?_
 refine W.seq ?_
 refine iU ?_
 refine aD hF ?_
 simp (disch := omega) [gw, DV]
 refine bH [3, 14, 15, 16] ?_
 subst hg
 refine W.block ?_
 refine W.bC (fun k σ => ∃ (i : Nat) (rows : Pm.Rows) (clk : Nat), σ = ⟨fa [(3, Po (pf A (fun k => k % 2 == 0) i).l), (14, aI zp L), (15, .int .i64 m), (16, .int .i64 i)], rows, clk⟩ ∧ i + k = m) m ?_ ?_
 ·exact ⟨_, .refl, 0, _, _, rfl, by omega⟩
 rintro k _ ⟨i, rows, clk, rfl, EJ⟩
 refine cS [3, 14, 15, 16, 17] ?_
 refine bE ?_ ?_ <;> intro h
 ·have hi : i < m := by simp at h; omega
  have hiL : i < L.length := by omega
  have ht := hmul i
  have uC := uB i hi
  have hpf : pf A (fun k => k % 2 == 0) (i + 1) = if i % 2 == 0 then pf A (fun k => k % 2 == 0) i * lP A i else pf A (fun k => k % 2 == 0) i := rfl
  generalize n4 : pf A (fun k => k % 2 == 0) (i + 1) = g2 at *
  generalize pf A (fun k => k % 2 == 0) i = g at *
  have e2 : ((i : Int) % 2 == 0) = (i % 2 == 0) := by rw [Bool.eq_iff_iff, beq_iff_eq, beq_iff_eq]; omega
  refine W.skip ?_
  refine W.eT (fun σ => ∃ (rows : Pm.Rows) (clk : Nat), σ = ⟨fa [(3, Po g2.l), (14, aI zp L), (15, .int .i64 m), (16, .int .i64 i)], rows, clk⟩) ?_ ?_
  ·refine W.sr ?_
   simp (disch := omega) [gw, uC]
   refine bH [3, 4, 5, 14, 15, 16] ?_
   refine W.sr ?_
   simp (disch := omega) [gw, e2]
   refine bH [3, 5, 14, 15, 16, 23] ?_
   refine bE ?_ ?_ <;> intro h
   ·rw [h, if_pos rfl] at hpf
    rw [hpf]
    refine W.b8 (fun K hK => ?_)
    simp (disch := omega) [gw]
    refine bZ ht ?_
    exact hK _ ⟨_, aB _ [3, 14, 15, 16], _, _, rfl⟩
   ·rw [h, if_neg (by decide)] at hpf
    rw [hpf]
    refine W.skip ?_
    exact ⟨_, aB _ [3, 14, 15, 16], _, _, rfl⟩
  rintro _ ⟨rows, clk, rfl⟩
  subst n4
  refine W.b8 (fun K hK => ?_); simp (disch := omega) [gw]
  refine hK _ ⟨k - 1, _, aB _ [3, 14, 15, 16], by omega, i + 1, _, _, rfl, by omega⟩
 ·have hi : i = m := by simp at h; omega
  subst hi
  refine fB ?_
  refine aA [2] ?_
  exact bT
@[simp] theorem XS : ([] : List Int).length = 0 := rfl
theorem BZ.yy {h n : Nat} {a : ZX} (b : BZ h n a) (hh : h ≤ YY) (hn : n ≤ 1099511627775) : Bd 2 YY 1099511627775 a.l := Bd.mono b hh hn
theorem mR {h n : Nat} {a : ZX} (b : BZ h n a) (h1 : 1 ≤ h) (hh : h ≤ YY) (hn : n < 1099511627776) : aG env.P 82 [PI a.l] (PI (nf a).l) := by
 have hP := CL a.l b a.c h1 hh hn
 have e : qZ a.l = (nf a).l := rfl
 rw [e] at hP
 generalize kP a.l = c at *
 generalize (nf a).l = d at *
 generalize a.l = x at *
 refine bV [(0, PI x)] Tryz.func82 ?_
 refine aA [0] ?_
 refine aK [4] hP ?_
 refine aA [2] ?_
 exact bT
theorem pI {h n : Nat} {a : ZX} (b : BZ h n a) (hh : h ≤ YY) (hn : n ≤ 1000) : aG env.P 107 [PI a.l] (PI (ZX.bI a).l) := by
 have hlen := b.len
 have e0 : (ZX.bI a).l = aN ((List.range (a.l.length - 1)).map fun k => nth a.l (k + 1) * ((k : Int) + 1)) := rfl
 rw [e0]
 have hz := fun k => b.nth k
 generalize a.l = x at *
 generalize hm : x.length - 1 = m at *
 refine cT (E := env) (fun id => if id = 5 then 2 else 0) [(0, PI x)] Tryz.func107 rfl (by kernel_rfl) (by kernel_rfl) (show 1 ≤ 23 by decide) (by simp) ?_
 refine aA [0] ?_
 refine aA [0, 3] ?_
 refine W.nil 3 3 31 4 (by simp) (by decide) (fun K hK => ?_)
 refine W.lw [0, 3] hK ?_; clear hK K; simp
 refine aL [0, 3, 4] ?_
 refine W.block ?_
 refine W.bC (fun k σ => ∃ (i ver : Nat) (rows : Pm.Rows) (clk : Nat), σ = ⟨fa [(0, PI x), (3, .own 3 ver 0 i), (4, .int .i64 ((i : Int) + 1))], rows, clk⟩ ∧
  rows 3 = some ⟨ver, 31, 4, emap ri ((List.range i).map fun k => nth x (k + 1) * ((k : Int) + 1))⟩ ∧ i + k = m) m ?_ ?_
 ·exact ⟨_, .refl, 0, _, _, _, rfl, by simp [emap], by omega⟩
 rintro k _ ⟨i, ver, rows, clk, rfl, hr, EJ⟩
 have tV : (emap ri ((List.range i).map fun k => nth x (k + 1) * ((k : Int) + 1))).length = i := by simp [emap]
 refine aL [0, 3, 4, 8] ?_
 refine bE ?_ ?_ <;> intro h
 ·have hi : i + 1 < x.length := by simp at h; omega
  have o1 := LZ ((i : Int) + 1) (by omega)
  have hzi := hz (i + 1)
  have m1 := FW (nth x (i + 1)) ((i : Int) + 1) (Nat.le_trans hzi hh) (Nat.le_trans (dD (k := 10) (by decide) (by show ((i : Int) + 1).natAbs < 1024; omega)) (by decide))
  have e1 : ((i : Int) + 1).toNat = i + 1 := by omega
  have er : (List.range (i + 1)).map (fun k => nth x (k + 1) * ((k : Int) + 1)) = (List.range i).map (fun k => nth x (k + 1) * ((k : Int) + 1)) ++ [nth x (i + 1) * ((i : Int) + 1)] := by
   rw [List.range_succ, List.map_append]; simp
  have awT : ((List.range i).map fun k => nth x (k + 1) * ((k : Int) + 1)).length = i := by simp
  generalize (List.range i).map (fun k => nth x (k + 1) * ((k : Int) + 1)) = acc at *
  generalize hq : nth x (i + 1) * ((i : Int) + 1) = q at *
  refine lG ?_
  refine W.N7 (fun K hK => ?_)
  rw [if_pos rfl, eJ]
  simp (disch := omega) [gw, e1]
  refine bZ o1 ?_
  refine aD m1 ?_
  simp (disch := omega) [gw, hr, awT]
  refine W.lw [0, 3, 4] hK ?_; clear hK K; simp
  refine W.b8 (fun K hK => ?_); simp (disch := omega) [gw]
  refine hK _ ⟨k - 1, _, aB _ [0, 3, 4], by omega, i + 1, _, _, _, by rw [Int.natCast_add]; rfl, by rw [er]; simp, by omega⟩
 ·have hi : i = m := by simp at h; omega
  subst hi
  have fX : ((List.range i).map fun k => nth x (k + 1) * ((k : Int) + 1)).length = i := by simp
  generalize (List.range i).map (fun k => nth x (k + 1) * ((k : Int) + 1)) = acc at *
  have ez := bJ fX
  refine fB ?_
  refine W.sr ?_
  simp (disch := omega) [gw, hr, ez]
  refine aD (rZ acc (by omega)) ?_
  simp (disch := omega) [gw]
  refine bH [2] ?_
  exact bT
theorem rE : aG env.P 96 [.sl [[.int .i64 1]]] (PI (1 : ZX).l) := vQ [1] (by decide) (by decide)
theorem F8 {a : ZX} {k : Nat} (hk : k < 1099511627776) (h2 : ∀ i, i < k → aG env.P 30 [PI (a ^ i).l, PI a.l] (PI (a ^ (i + 1)).l)) : aG env.P 31 [PI a.l, .int .i64 k] (PI (a ^ k).l) := by
 have h1 := rE
 rw [show (1 : ZX) = a ^ 0 from rfl] at h1
 refine bV [(0, PI a.l), (1, .int .i64 k)] Tryz.func31 ?_
 refine aA [0, 1] ?_
 generalize hg : a ^ 0 = g0 at *
 refine aK [0, 1, 5] h1 ?_
 refine aL [0, 1, 5, 6] ?_
 subst hg
 refine W.block ?_
 refine W.bC (fun j σ => ∃ (i : Nat) (rows : Pm.Rows) (clk : Nat), σ = ⟨fa [(0, PI a.l), (1, .int .i64 k), (5, PI (a ^ i).l), (6, .int .i64 i)], rows, clk⟩ ∧ i + j = k) k ?_ ?_
 ·exact ⟨_, .refl, 0, _, _, rfl, by omega⟩
 rintro j _ ⟨i, rows, clk, rfl, EJ⟩
 refine aL [0, 1, 5, 6, 11] ?_
 refine bE ?_ ?_ <;> intro h
 ·have hi : i < k := by simp at h; omega
  have ht := h2 i hi
  generalize n4 : a ^ (i + 1) = g2 at *
  generalize a ^ i = g at *
  refine lG ?_
  refine W.b8 (fun K hK => ?_)
  simp (disch := omega) [gw]
  refine bZ ht ?_
  refine W.lw [0, 1, 5, 6] hK ?_; clear hK K; simp
  refine W.b8 (fun K hK => ?_); simp (disch := omega) [gw]
  subst n4
  refine hK _ ⟨j - 1, _, aB _ [0, 1, 5, 6], by omega, i + 1, _, _, rfl, by omega⟩
 ·have hi : i = k := by simp at h; omega
  subst hi
  refine fB ?_
  refine aA [4] ?_
  exact bT
end Go.Proofs.YtelhfbikiccfkaaGreat
