import Derived.Test.YtbbjgncblhfegaaGreatAaf
import Derived.Test.YtbbjgncblhfegaaGreatAal
set_option linter.unusedSimpArgs false
set_option linter.unusedVariables false
namespace Pm
structure ZX where
 l : List Int
 c : Cn l
namespace ZX
theorem ext {x y : ZX} (h : ∀ t, V t x.l = V t y.l) : x = y := by
 obtain ⟨x, hx⟩ := x
 obtain ⟨y, hy⟩ := y
 have := Cn.ext hx hy h
 subst this
 rfl
def of (x : List Int) : ZX := ⟨aM x, Cn.cut x⟩
def K (c : Int) : ZX := of [c]
instance : Zero ZX := ⟨⟨[], Cn.nil⟩⟩
instance : One ZX := ⟨K 1⟩
instance : Add ZX := ⟨fun x y => ⟨fZ x.l y.l, Cn.fZ _ _⟩⟩
instance : Mul ZX := ⟨fun x y => ⟨bH x.l y.l, Cn.bH _ _⟩⟩
instance : Neg ZX := ⟨fun x => ⟨fJ x.l, Cn.fJ _⟩⟩
instance : Sub ZX := ⟨fun x y => ⟨dY x.l y.l, Cn.dY _ _⟩⟩
def pow (x : ZX) : Nat → ZX
 | 0 => 1
 | n + 1 => pow x n * x
instance : HPow ZX Nat ZX := ⟨pow⟩
instance : NatCast ZX := ⟨fun n => K n⟩
instance (n : Nat) : OfNat ZX n := ⟨K n⟩
instance : IntCast ZX := ⟨fun n => K n⟩
instance : SMul Nat ZX := ⟨fun n x => K n * x⟩
instance : SMul Int ZX := ⟨fun n x => K n * x⟩
variable {t : Int}
theorem B3 (x : List Int) : V t (of x).l = V t x := cA x
theorem rE (c : Int) : V t (K c).l = c := by rw [K, B3]; simp [V]
theorem sH : V t (0 : ZX).l = 0 := rE 0
theorem DK : V t (1 : ZX).l = 1 := rE 1
theorem iU (x y : ZX) : V t (x + y).l = V t x.l + V t y.l := pM _ _
theorem cU (x y : ZX) : V t (x * y).l = V t x.l * V t y.l := cL _ _
theorem DL (x : ZX) : V t (-x).l = -V t x.l := zA _
theorem aps (x y : ZX) : V t (x - y).l = V t x.l - V t y.l := gR _ _
theorem QU (x : ZX) : ∀ n : Nat, V t (x ^ n).l = V t x.l ^ n
 | 0 => by show V t (1 : ZX).l = _; rw [DK, Int.pow_zero]
 | n + 1 => by show V t ((x ^ n) * x).l = _; rw [cU, QU x n, Int.pow_succ]
theorem QV (n : Nat) : V t (OfNat.ofNat n : ZX).l = n := rE n
theorem agK (n : Int) : V t (n : ZX).l = n := rE n
theorem QW (n : Int) (x : ZX) : V t (n • x).l = n * V t x.l := by show V t (K n * x).l = _; rw [cU, rE]
instance : Lean.Grind.CommRing ZX where
 add_zero x := ext fun t => by rw [iU, sH]; omega
 add_comm x y := ext fun t => by rw [iU, iU]; omega
 add_assoc x y z := ext fun t => by simp only [iU]; omega
 mul_assoc x y z := ext fun t => by simp only [cU]; grind
 mul_one x := ext fun t => by rw [cU, DK]; omega
 one_mul x := ext fun t => by rw [cU, DK]; omega
 left_distrib x y z := ext fun t => by simp only [cU, iU]; grind
 right_distrib x y z := ext fun t => by simp only [cU, iU]; grind
 zero_mul x := ext fun t => by rw [cU, sH]; omega
 mul_zero x := ext fun t => by rw [cU, sH]; omega
 pow_zero x := ext fun t => by rw [QU, DK, Int.pow_zero]
 pow_succ x n := ext fun t => by rw [cU, QU, QU, Int.pow_succ]
 ofNat_succ n := ext fun t => by rw [iU, QV, QV, DK]; omega
 ofNat_eq_natCast n := rfl
 nsmul_eq_natCast_mul n x := rfl
 neg_add_cancel x := ext fun t => by rw [iU, DL, sH]; omega
 sub_eq_add_neg x y := ext fun t => by rw [aps, iU, DL]; omega
 neg_zsmul n x := ext fun t => by rw [QW, DL, QW]; grind
 zsmul_natCast_eq_nsmul n x := rfl
 intCast_ofNat n := rfl
 intCast_neg n := ext fun t => by rw [agK, DL, agK]
 mul_comm x y := ext fun t => by rw [cU, cU, Int.mul_comm]
def N (x : ZX) : Nat := x.l.length
theorem aD {x : ZX} : x ≠ 0 ↔ 0 < N x := by
 constructor
 ·intro h
  rcases Nat.eq_zero_or_pos (N x) with h1 | h1
  ·exfalso
   apply h
   have : x.l = [] := List.eq_nil_of_length_eq_zero h1
   exact ext fun t => by rw [this, sH]; rfl
  ·exact h1
 ·rintro h rfl
  have : N (0 : ZX) = 0 := by decide
  omega
theorem ZN : N (0 : ZX) = 0 := by decide
theorem iB {x y : ZX} (hx : x ≠ 0) (hy : y ≠ 0) : N (x * y) = N x + N y - 1 := iS x.c y.c (aD.1 hx) (aD.1 hy)
theorem gC {x y : ZX} (hx : x ≠ 0) (hy : y ≠ 0) : x * y ≠ 0 := by
 rw [aD, iB hx hy]
 have := aD.1 hx
 have := aD.1 hy
 omega
theorem pY {x y : ZX} (h : x * y = 0) : x = 0 ∨ y = 0 := by
 by_cases hx : x = 0
 ·exact .inl hx
 ·by_cases hy : y = 0
  ·exact .inr hy
  ·exact absurd h (gC hx hy)
theorem DM (x y : ZX) : x * y = y * x := by grind
theorem cancel {x y z : ZX} (hz : z ≠ 0) (h : z * x = z * y) : x = y := by
 have h1 : z * (x - y) = 0 := by grind
 rcases pY h1 with h2 | h2
 ·exact absurd h2 hz
 ·grind
theorem oV {c : Int} (h : c ≠ 0) : K c ≠ 0 := fun e => h (by
 have := rE (t := 0) c
 rw [e, sH] at this; omega)
theorem N_K {c : Int} (h : c ≠ 0) : N (K c) = 1 := by
 show (aM [c]).length = 1
 rw [show aM [c] = [c] from fP h []]; rfl
theorem nG (c d : Int) : K c * K d = K (c * d) := ext fun t => by rw [cU, rE, rE, rE]
theorem mD {x : ZX} (h : N x = 1) : ∃ c, c ≠ 0 ∧ x = K c := by
 obtain ⟨l, hl⟩ := x
 match l, hl, h with
 | [c], hl, _ =>
  have hc : c ≠ 0 := by
   have := cD hl (by simp)
   simpa [lead, qN] using this
  exact ⟨c, hc, ext fun t => by rw [rE]; simp [V]⟩
theorem kS {c : Int} {x y q : ZX} (hc : c ≠ 0) (hx : x ≠ 0) (h : K c * x = q * y) : q ≠ 0 ∧ y ≠ 0 := by
 have h1 := gC (oV hc) hx
 rw [h] at h1
 constructor
 ·rintro rfl; apply h1; grind
 ·rintro rfl; apply h1; grind
theorem pZ : (1 : ZX) ≠ 0 := oV (by decide)
theorem z9 : N (1 : ZX) = 1 := N_K (by decide)
def dv (y x : ZX) : Prop := ∃ c : Int, c ≠ 0 ∧ ∃ q, K c * x = q * y
theorem dv.refl (x : ZX) : dv x x := ⟨1, by decide, K 1, rfl⟩
theorem dv.zero (x : ZX) : dv x 0 := ⟨1, by decide, 0, by grind⟩
theorem dv.trans {x y z : ZX} (h1 : dv x y) (h2 : dv y z) : dv x z := by
 obtain ⟨c, hc, q, h1⟩ := h1
 obtain ⟨d, hd, r, h2⟩ := h2
 exact ⟨c * d, Int.mul_ne_zero hc hd, q * r, by rw [← nG]; grind⟩
theorem dv.mul_right {x y : ZX} (h : dv x y) (z : ZX) : dv x (y * z) := by
 obtain ⟨c, hc, q, h⟩ := h
 exact ⟨c, hc, q * z, by grind⟩
theorem dv.mul_left {x y : ZX} (h : dv x y) (z : ZX) : dv x (z * y) := by
 obtain ⟨c, hc, q, h⟩ := h
 exact ⟨c, hc, q * z, by grind⟩
theorem dv.mul {x y z w : ZX} (h1 : dv x y) (h2 : dv z w) : dv (x * z) (y * w) := by
 obtain ⟨c, hc, q, h1⟩ := h1
 obtain ⟨d, hd, r, h2⟩ := h2
 exact ⟨c * d, Int.mul_ne_zero hc hd, q * r, by rw [← nG]; grind⟩
theorem dv.add {x y z : ZX} (h1 : dv x y) (h2 : dv x z) : dv x (y + z) := by
 obtain ⟨c, hc, q, h1⟩ := h1
 obtain ⟨d, hd, r, h2⟩ := h2
 exact ⟨c * d, Int.mul_ne_zero hc hd, K d * q + K c * r, by rw [← nG]; grind⟩
theorem dv.JW {x y : ZX} {c : Int} (hc : c ≠ 0) (h : dv x (K c * y)) : dv x y := by
 obtain ⟨d, hd, q, h⟩ := h
 exact ⟨d * c, Int.mul_ne_zero hd hc, q, by rw [← nG]; grind⟩
theorem dv.rF {x y : ZX} (h : dv x y) (hy : y ≠ 0) : N x ≤ N y := by
 obtain ⟨c, hc, q, h⟩ := h
 obtain ⟨h1, h2⟩ := kS hc hy h
 have h3 : N (K c * y) = N y := by rw [iB (oV hc) hy, N_K hc]; have := aD.1 hy; omega
 rw [h, iB h1 h2] at h3
 have := aD.1 h1
 omega
theorem dv.ne {x y : ZX} (h : dv x y) (hy : y ≠ 0) : x ≠ 0 := by
 obtain ⟨c, hc, q, h⟩ := h
 exact (kS hc hy h).2
theorem xQ {x : ZX} (h : dv 0 x) : x = 0 := by
 obtain ⟨c, hc, q, h⟩ := h
 have h2 : K c * x = 0 := by grind
 exact (pY h2).resolve_left (oV hc)
theorem apt {c : Int} (hc : c ≠ 0) (x : ZX) : dv (K c) x := ⟨c, hc, x, by grind⟩
theorem ael {x y : ZX} (h : dv x y) (hy : y ≠ 0) (hN : N x = N y) : dv y x := by
 obtain ⟨c, hc, q, h⟩ := h
 obtain ⟨h1, h2⟩ := kS hc hy h
 have h3 : N (K c * y) = N y := by rw [iB (oV hc) hy, N_K hc]; have := aD.1 hy; omega
 rw [h, iB h1 h2] at h3
 have h4 := aD.1 h1
 have h5 := aD.1 h2
 obtain ⟨d, hd, rfl⟩ := mD (x := q) (by omega)
 exact ⟨d, hd, K c, by rw [h]⟩
theorem aap (a : ZX) {b : ZX} (hb : b ≠ 0) : ∃ c : Int, c ≠ 0 ∧ ∃ q r, K c * a = q * b + r ∧ N r < N b := by
 have h0 := aD.1 hb
 obtain ⟨c1, c2⟩ := zD (b := b.l) a.c
 refine ⟨lead b.l ^ iH a.l b.l, Int.pow_ne_zero (cD b.c h0), ⟨_, c1⟩, ⟨_, c2⟩, ext fun t => ?_, ?_⟩
 ·rw [cU, rE, iU, cU]
  exact (YX t a.l b.l).symm
 ·have := FC (a := a.l) h0
  show (wI a.l b.l).2.length < b.l.length
  have : 0 < b.l.length := h0
  omega
structure oW (g a b : ZX) : Prop where
 l : dv g a
 r : dv g b
 uv : ∃ c : Int, c ≠ 0 ∧ ∃ u v, K c * g = u * a + v * b
theorem oW.least {g a b d : ZX} (h : oW g a b) (ha : dv d a) (hb : dv d b) : dv d g := by
 obtain ⟨c, hc, u, v, e⟩ := h.uv
 refine dv.JW hc ?_
 rw [e]
 exact (ha.mul_left u).add (hb.mul_left v)
theorem oW.ne {g a b : ZX} (h : oW g a b) (ha : a ≠ 0 ∨ b ≠ 0) : g ≠ 0 := by
 rintro rfl
 rcases ha with h1 | h1
 ·exact h1 (xQ h.l)
 ·exact h1 (xQ h.r)
theorem oW.zero (a : ZX) : oW a a 0 := ⟨dv.refl a, dv.zero a, 1, by decide, 1, 0, by show (1 : ZX) * a = _; grind⟩
theorem oW.symm {g a b : ZX} (h : oW g a b) : oW g b a := by
 obtain ⟨c, hc, u, v, e⟩ := h.uv
 exact ⟨h.r, h.l, c, hc, v, u, by grind⟩
theorem oW.step {g a b q r : ZX} {c : Int} (hc : c ≠ 0) (e : K c * a = q * b + r) (h : oW g b r) : oW g a b := by
 obtain ⟨d, hd, u, v, e2⟩ := h.uv
 refine ⟨dv.JW hc ?_, h.l, d, hd, v * K c, u - v * q, by grind⟩
 rw [e]
 exact (h.l.mul_left q).add h.r
theorem iK : ∀ (n : Nat) (a b : ZX), N b ≤ n → ∃ g, oW g a b
 | 0, a, b, h => by
  have : b = 0 := Classical.byContradiction fun hb => by have := aD.1 hb; omega
  subst this
  exact ⟨a, oW.zero a⟩
 | n + 1, a, b, h => by
  by_cases hb : b = 0
  ·subst hb; exact ⟨a, oW.zero a⟩
  ·obtain ⟨c, hc, q, r, e, hr⟩ := aap a hb
   obtain ⟨g, hg⟩ := iK n b r (by omega)
   exact ⟨g, hg.step hc e⟩
structure n7 (p : ZX) : Prop where
 deg : 2 ≤ N p
 irr : ∀ d, dv d p → N d = 1 ∨ N d = N p
theorem n7.ne {p : ZX} (h : n7 p) : p ≠ 0 := aD.2 (by have := h.deg; omega)
theorem n7.agL {p a b : ZX} (hp : n7 p) (h : dv p (a * b)) : dv p a ∨ dv p b := by
 obtain ⟨g, hg⟩ := iK _ p a (Nat.le_refl _)
 rcases hp.irr g hg.l with h1 | h1
 ·right
  obtain ⟨k, hk, rfl⟩ := mD h1
  obtain ⟨c, hc, u, v, e⟩ := hg.uv
  refine dv.JW (c := c * k) (Int.mul_ne_zero hc hk) ?_
  have e2 : K (c * k) * b = (u * b) * p + v * (a * b) := by rw [← nG]; grind
  rw [e2]
  exact ((dv.refl p).mul_left _).add (h.mul_left v)
 ·left
  exact (ael hg.l hp.ne h1).trans hg.r
theorem n8 : ∀ (n : Nat) (a : ZX), N a ≤ n → 2 ≤ N a → ∃ p, n7 p ∧ dv p a
 | 0, a, h, h2 => by omega
 | n + 1, a, h, h2 => by
  by_cases hi : ∃ d, dv d a ∧ N d ≠ 1 ∧ N d ≠ N a
  ·obtain ⟨d, hd, h3, h4⟩ := hi
   have h5 := hd.rF (aD.2 (by omega))
   have h6 := aD.1 (hd.ne (aD.2 (by omega)))
   obtain ⟨p, hp, hpd⟩ := n8 n d (by omega) (by omega)
   exact ⟨p, hp, hpd.trans hd⟩
  ·refine ⟨a, ⟨h2, fun d hd => ?_⟩, dv.refl a⟩
   by_cases h3 : N d = 1
   ·exact .inl h3
   ·by_cases h4 : N d = N a
    ·exact .inr h4
    ·exact absurd ⟨d, hd, h3, h4⟩ hi
theorem pow_succ' (p : ZX) (k : Nat) : p ^ (k + 1) = p ^ k * p := rfl
theorem dD (p : ZX) : p ^ 0 = 1 := rfl
theorem pow_add' (p : ZX) (j : Nat) : ∀ k, p ^ (j + k) = p ^ j * p ^ k
 | 0 => by rw [Nat.add_zero, dD]; grind
 | k + 1 => by rw [← Nat.add_assoc, pow_succ', pow_succ', pow_add' p j k]; grind
theorem FX {p : ZX} (hp : p ≠ 0) : ∀ k : Nat, p ^ k ≠ 0
 | 0 => pZ
 | k + 1 => gC (FX hp k) hp
theorem aaq {p : ZX} (hp : n7 p) : ∀ k : Nat, k < N (p ^ k)
 | 0 => by rw [dD, z9]; omega
 | k + 1 => by
  rw [pow_succ', iB (FX hp.ne k) hp.ne]
  have := aaq hp k
  have := hp.deg
  omega
theorem aar {p : ZX} {j k : Nat} (h : j ≤ k) : dv (p ^ j) (p ^ k) := by
 obtain ⟨d, rfl⟩ := Nat.exists_eq_add_of_le h
 rw [pow_add']
 exact (dv.refl _).mul_right _
theorem UY {p a : ZX} (hp : n7 p) (ha : a ≠ 0) : ∃ k, dv (p ^ k) a ∧ ¬ dv (p ^ (k + 1)) a := by
 have key : ∀ n, (∃ k, k ≤ n ∧ dv (p ^ k) a ∧ ¬ dv (p ^ (k + 1)) a) ∨ dv (p ^ (n + 1)) a := by
  intro n
  induction n with
  | zero =>
   by_cases h : dv (p ^ 1) a
   ·exact .inr h
   ·exact .inl ⟨0, Nat.le_refl _, apt (by decide) a, h⟩
  | succ n ih =>
   rcases ih with ⟨k, h1, h2⟩ | ih
   ·exact .inl ⟨k, by omega, h2⟩
   ·by_cases h : dv (p ^ (n + 2)) a
    ·exact .inr h
    ·exact .inl ⟨n + 1, Nat.le_refl _, ih, h⟩
 rcases key (N a) with ⟨k, _, h⟩ | h
 ·exact ⟨k, h⟩
 ·have h1 := h.rF ha
  have h2 := aaq hp (N a + 1)
  omega
open Classical in
noncomputable def mu (p a : ZX) : Nat := if h : ∃ k, dv (p ^ k) a ∧ ¬ dv (p ^ (k + 1)) a then h.choose else 0
theorem QX {p a : ZX} (hp : n7 p) (ha : a ≠ 0) : dv (p ^ mu p a) a ∧ ¬ dv (p ^ (mu p a + 1)) a := by
 have h := UY hp ha
 unfold mu
 rw [dif_pos h]
 exact h.choose_spec
theorem lL {p a : ZX} (hp : n7 p) (ha : a ≠ 0) {k : Nat} : k ≤ mu p a ↔ dv (p ^ k) a := by
 obtain ⟨h1, h2⟩ := QX hp ha
 constructor
 ·intro h; exact (aar h).trans h1
 ·intro h
  rcases Nat.lt_or_ge (mu p a) k with h3 | h3
  ·exact absurd ((aar h3).trans h) h2
  ·exact h3
theorem AA {p a : ZX} (hp : n7 p) (ha : a ≠ 0) : ∃ c : Int, c ≠ 0 ∧ ∃ b, b ≠ 0 ∧ K c * a = b * p ^ mu p a ∧ ¬ dv p b := by
 obtain ⟨⟨c, hc, b, e⟩, h2⟩ := QX hp ha
 refine ⟨c, hc, b, (kS hc ha e).1, e, fun h => h2 (dv.JW hc ?_)⟩
 rw [e, pow_succ']
 have := h.mul (dv.refl (p ^ mu p a))
 rw [show p ^ mu p a * p = p * p ^ mu p a by grind]
 exact this
theorem vB {p a b : ZX} (hp : n7 p) (ha : a ≠ 0) {c : Int} (hc : c ≠ 0) {k : Nat} (e : K c * a = b * p ^ k) (h : ¬ dv p b) : mu p a = k := by
 have h1 : k ≤ mu p a := (lL hp ha).2 ⟨c, hc, b, e⟩
 rcases Nat.lt_or_ge k (mu p a) with h2 | h2
 ·exfalso
  obtain ⟨d, hd, r, e2⟩ := (lL hp ha).1 h2
  apply h
  refine ⟨d, hd, K c * r, ZX.cancel (FX hp.ne k) ?_⟩
  rw [pow_succ'] at e2
  grind
 ·omega
theorem p5 {p a b : ZX} (hp : n7 p) (ha : a ≠ 0) (hb : b ≠ 0) : mu p (a * b) = mu p a + mu p b := by
 obtain ⟨c, hc, x, _, e1, h1⟩ := AA hp ha
 obtain ⟨d, hd, y, _, e2, h2⟩ := AA hp hb
 refine vB (b := x * y) hp (gC ha hb) (Int.mul_ne_zero hc hd) ?_ fun h => ?_
 ·rw [pow_add', ← nG]; grind
 ·rcases hp.agL h with h3 | h3
  ·exact h1 h3
  ·exact h2 h3
theorem aas {p : ZX} (hp : n7 p) {c : Int} (hc : c ≠ 0) : mu p (K c) = 0 := by
 refine vB (b := K c) (c := 1) hp (oV hc) (by decide) (by rw [dD]; show (1 : ZX) * K c = _; grind) fun h => ?_
 have := h.rF (oV hc)
 rw [N_K hc] at this
 have := hp.deg
 omega
theorem QY {p a b : ZX} (hp : n7 p) (hb : b ≠ 0) (h : dv a b) : mu p a ≤ mu p b := (lL hp hb).2 (((lL hp (h.ne hb)).1 (Nat.le_refl _)).trans h)
theorem agM {p a b q : ZX} (hp : n7 p) {c : Int} (hc : c ≠ 0) (ha : a ≠ 0) (e : K c * a = q * b) : mu p a = mu p q + mu p b := by
 obtain ⟨h1, h2⟩ := kS hc ha e
 rw [← p5 hp h1 h2, ← e, p5 hp (oV hc) ha, aas hp hc]; omega
theorem JX : ∀ (n : Nat) (a b : ZX), N a ≤ n → a ≠ 0 → b ≠ 0 → (∀ p, n7 p → mu p a ≤ mu p b) → dv a b
 | 0, a, b, hn, ha, _, _ => by have := aD.1 ha; omega
 | n + 1, a, b, hn, ha, hb, h => by
  rcases Nat.lt_or_ge (N a) 2 with h1 | h1
  ·obtain ⟨c, hc, rfl⟩ := mD (x := a) (by have := aD.1 ha; omega)
   exact apt hc b
  ·obtain ⟨p, hp, hpa⟩ := n8 _ a (Nat.le_refl _) h1
   have h2 : 1 ≤ mu p a := (lL hp ha).2 (by rw [show p ^ 1 = p by rw [pow_succ', dD]; grind]; exact hpa)
   have h3 : dv p b := by
    have := (lL hp hb).1 (Nat.le_trans h2 (h p hp))
    rwa [show p ^ 1 = p by rw [pow_succ', dD]; grind] at this
   obtain ⟨c, hc, a', ea⟩ := hpa
   obtain ⟨d, hd, b', eb⟩ := h3
   obtain ⟨CB, _⟩ := kS hc ha ea
   obtain ⟨yA, _⟩ := kS hd hb eb
   have h4 : N (K c * a) = N a := by rw [iB (oV hc) ha, N_K hc]; have := aD.1 ha; omega
   have h5 : dv a' b' := JX n a' b' (by
    rw [ea, iB CB hp.ne] at h4
    have := hp.deg
    omega) CB yA fun r hr => by
    have h6 := h r hr
    rw [agM hr hc ha ea, agM hr hd hb eb] at h6
    omega
   refine dv.JW hd ?_
   rw [eb]
   have h7 := h5.mul (dv.refl p)
   rw [← ea] at h7
   obtain ⟨e, he, q, e3⟩ := h7
   exact ⟨e, he, q * K c, by grind⟩
theorem k8 {a b : ZX} (ha : a ≠ 0) (hb : b ≠ 0) : dv a b ↔ ∀ p, n7 p → mu p a ≤ mu p b := ⟨fun h p hp => QY hp hb h, JX _ a b (Nat.le_refl _) ha hb⟩
theorem oW.mu {g a b p : ZX} (h : oW g a b) (ha : a ≠ 0) (hb : b ≠ 0) (hp : n7 p) : mu p g = min (ZX.mu p a) (ZX.mu p b) := by
 have hg := h.ne (.inl ha)
 have h1 := QY hp ha h.l
 have h2 := QY hp hb h.r
 have h3 : min (ZX.mu p a) (ZX.mu p b) ≤ ZX.mu p g := (lL hp hg).2 (h.least ((lL hp ha).1 (Nat.min_le_left _ _)) ((lL hp hb).1 (Nat.min_le_right _ _)))
 omega
def vC (x : List Int) : List Int := (List.range (x.length - 1)).map fun i => nth x (i + 1) * ((i + 1 : Nat) : Int)
def oX : Nat → List Int → List Int
 | _, [] => []
 | k, a :: l => a * (k : Int) :: oX (k + 1) l
def W (t : Int) : List Int → Int
 | [] => 0
 | _ :: l => V t l + t * W t l
theorem QZ : ∀ (l : List Int) (k : Nat), oX k l = (List.range l.length).map fun i => nth l i * ((k + i : Nat) : Int)
 | [], k => rfl
 | a :: l, k => by
  rw [oX, QZ l (k + 1), List.length_cons, List.range_succ_eq_map, List.map_cons, List.map_map]
  congr 1
  refine List.map_congr_left fun i _ => ?_
  simp only [Function.comp_apply, iT]
  rw [show k + 1 + i = k + (i + 1) by omega]
theorem DN (a : Int) (l : List Int) : vC (a :: l) = oX 1 l := by
 rw [QZ, vC, List.length_cons, Nat.add_sub_cancel]
 refine List.map_congr_left fun i _ => ?_
 rw [iT, show i + 1 = 1 + i by omega]
theorem wU (t : Int) : ∀ (l : List Int) (k : Nat), V t (oX (k + 1) l) = V t (oX k l) + V t l
 | [], k => by simp [oX, V]
 | a :: l, k => by
  simp only [oX, V]
  rw [wU t l (k + 1)]
  have : ((k + 1 : Nat) : Int) = (k : Int) + 1 := by omega
  rw [this]; grind
theorem AB (t : Int) : ∀ l : List Int, V t (oX 1 l) = V t l + t * W t l
 | [] => by simp [oX, V, W]
 | b :: m => by
  rw [oX]
  simp only [V, W]
  rw [wU, AB t m]
  rw [show ((1 : Nat) : Int) = 1 from rfl]
  grind
theorem ajO (t : Int) : ∀ x : List Int, V t (vC x) = W t x
 | [] => rfl
 | a :: l => by rw [DN, AB]; rfl
def bK (x : ZX) : ZX := of (vC x.l)
theorem wV (x : ZX) : V t (bK x).l = W t x.l := by rw [bK, B3, ajO]
theorem vD (t h : Int) : ∀ x : List Int, ∃ R : Int, V (t + h) x = V t x + h * W t x + h * h * R
 | [] => ⟨0, by simp [V, W]⟩
 | a :: l => by
  obtain ⟨R, hR⟩ := vD t h l
  refine ⟨W t l + (t + h) * R, ?_⟩
  simp only [V, W]
  rw [hR]; grind
theorem FY {t A : Int} {z : List Int} (hA : ∀ h, ∃ R : Int, V (t + h) z = V t z + h * A + h * h * R) : W t z = A := by
 have key : ∀ h : Int, h ≠ 0 → h ∣ W t z - A := fun h hh => by
  obtain ⟨R, hR⟩ := hA h
  obtain ⟨S, hS⟩ := vD t h z
  refine ⟨R - S, Int.eq_of_mul_eq_mul_left hh ?_⟩
  grind
 have h1 := key (((W t z - A).natAbs : Int) + 1) (by omega)
 have h2 := Int.natAbs_dvd_natAbs.2 h1
 rcases Nat.eq_zero_or_pos (W t z - A).natAbs with h3 | h3
 ·omega
 ·have := Nat.le_of_dvd h3 h2
  omega
theorem n9 (x y : ZX) : bK (x * y) = bK x * y + x * bK y := ext fun t => by
 rw [wV, iU, cU, cU, wV, wV]
 refine FY fun h => ?_
 obtain ⟨R, hR⟩ := vD t h x.l
 obtain ⟨S, hS⟩ := vD t h y.l
 refine ⟨V t x.l * S + R * V t y.l + W t x.l * W t y.l + h * (W t x.l * S + R * W t y.l) + h * h * R * S, ?_⟩
 rw [cU, cU, hR, hS]; grind
theorem agN (c : Int) : bK (K c) = 0 := ext fun t => by
 rw [wV, sH]
 refine FY fun h => ⟨0, ?_⟩
 rw [rE, rE]; grind
theorem AD (c : Int) (x : ZX) : bK (K c * x) = K c * bK x := by rw [n9, agN]; grind
theorem Q0 : bK (1 : ZX) = 0 := agN 1
theorem Q3 (p : ZX) : ∀ m : Nat, bK (p ^ (m + 1)) = K ((m + 1 : Nat) : Int) * p ^ m * bK p
 | 0 => by
  rw [pow_succ', n9, dD, Q0]
  show _ = (1 : ZX) * 1 * bK p
  grind
 | m + 1 => by
  rw [pow_succ', n9, Q3 p m]
  have : K ((m + 1 + 1 : Nat) : Int) = K ((m + 1 : Nat) : Int) + 1 := ext fun t => by rw [iU, rE, rE, DK]; omega
  rw [this, pow_succ']; grind
theorem kN (a : ZX) : N (bK a) ≤ N a - 1 := Nat.le_trans (bM _) (by simp [vC, N])
theorem FZ {a : ZX} (h : 2 ≤ N a) : bK a ≠ 0 := by
 have h1 : a.l.length = N a := rfl
 have hl := cD a.c (by omega)
 intro h0
 have h2 : nth (bK a).l (N a - 2) = nth a.l (N a - 1) * ((N a - 1 : Nat) : Int) := by
  show nth (aM (vC a.l)) _ = _
  rw [gZ, vC, cS (by simp; omega)]
  simp only [List.getElem_map, List.getElem_range]
  rw [show N a - 2 + 1 = N a - 1 by omega]
 rw [h0] at h2
 have h3 : nth (0 : ZX).l (N a - 2) = 0 := fY (by show (0 : ZX).l.length ≤ _; exact Nat.zero_le _)
 rw [h3] at h2
 have h4 : nth a.l (N a - 1) = lead a.l := by rw [lead, h1]
 rw [h4] at h2
 exact Int.mul_ne_zero hl (by omega) h2.symm
theorem n7.NY {p : ZX} (hp : n7 p) : ¬ dv p (bK p) := fun h => by
 have h1 := h.rF (FZ hp.deg)
 have h2 := kN p
 have := hp.deg
 omega
theorem vE {p a : ZX} (hp : n7 p) (ha : a ≠ 0) {m : Nat} (h : mu p a = m + 1) : bK a ≠ 0 ∧ mu p (bK a) = m := by
 obtain ⟨c, hc, b, hb, e, hn⟩ := AA hp ha
 rw [h] at e
 have e2 : K c * bK a = (bK b * p + K ((m + 1 : Nat) : Int) * (b * bK p)) * p ^ m := by
  rw [← AD, e, n9, Q3, pow_succ']; grind
 have HM : ¬ dv p (bK b * p + K ((m + 1 : Nat) : Int) * (b * bK p)) := fun h1 => by
  have h2 : dv p (K ((m + 1 : Nat) : Int) * (b * bK p)) := by
   have h3 := h1.add ((dv.refl p).mul_left (-bK b))
   rwa [show bK b * p + K ((m + 1 : Nat) : Int) * (b * bK p) + -bK b * p = K ((m + 1 : Nat) : Int) * (b * bK p) by grind] at h3
  have h4 := dv.JW (by omega) h2
  rcases hp.agL h4 with h5 | h5
  ·exact hn h5
  ·exact hp.NY h5
 have h6 : bK a ≠ 0 := fun h0 => by
  rw [h0] at e2
  have h7 : (bK b * p + K ((m + 1 : Nat) : Int) * (b * bK p)) * p ^ m = 0 := by rw [← e2]; grind
  rcases pY h7 with h8 | h8
  ·rw [h8] at HM; exact HM (dv.zero p)
  ·exact FX hp.ne m h8
 exact ⟨h6, vB hp h6 hc e2 HM⟩
theorem oW.vE {g a p : ZX} (h : oW g a (bK a)) (ha : a ≠ 0) (hp : n7 p) : ZX.mu p g = ZX.mu p a - 1 := by
 rcases Nat.eq_zero_or_pos (ZX.mu p a) with h1 | h1
 ·have := QY hp ha h.l
  omega
 ·obtain ⟨m, hm⟩ : ∃ m, ZX.mu p a = m + 1 := ⟨ZX.mu p a - 1, by omega⟩
  obtain ⟨h2, h3⟩ := ZX.vE hp ha hm
  rw [h.mu ha h2 hp, h3, hm]; omega
theorem aat {p : ZX} (hp : n7 p) : mu p 1 = 0 := aas hp (by decide)
theorem oW.apu {g a b q r : ZX} {c k : Int} (hc : c ≠ 0) (hk : k ≠ 0) (e : K c * a = q * b + K k * r) (h : oW g b r) : oW g a b := by
 obtain ⟨d, hd, u, v, e2⟩ := h.uv
 refine ⟨dv.JW hc ?_, h.l, k * d, Int.mul_ne_zero hk hd, v * K c, K k * u - v * q, by rw [← nG]; grind⟩
 rw [e]
 exact (h.l.mul_left q).add (h.r.mul_left _)
theorem oW.assoc {g g' a b : ZX} (h : oW g a b) (h' : oW g' a b) : dv g g' ∧ dv g' g := ⟨h'.least h.l h.r, h.least h'.l h'.r⟩
theorem oW.congr {g a b a' b' : ZX} (h : oW g a b) (h1 : dv a a') (h2 : dv a' a) (h3 : dv b b') (h4 : dv b' b) : oW g a' b' := by
 obtain ⟨g', hg'⟩ := iK _ a' b' (Nat.le_refl _)
 obtain ⟨c, hc, u, v, e⟩ := hg'.uv
 have h5 : dv g g' := hg'.least (h.l.trans h1) (h.r.trans h3)
 have h6 : dv g' g := h.least (hg'.l.trans h2) (hg'.r.trans h4)
 obtain ⟨d, hd, w, e2⟩ := h6
 refine ⟨h.l.trans h1, h.r.trans h3, c * d, Int.mul_ne_zero hc hd, w * u, w * v, by rw [← nG]; grind⟩
end ZX
theorem JY {H t : Int} (ht : H + 1 ≤ t) (hH : 0 ≤ H) : ∀ {x : List Int}, (∀ c ∈ x, -H ≤ c ∧ c ≤ H) → aM x ≠ [] → V t x ≠ 0
 | [], _, h => absurd rfl h
 | a :: l, hb, h => by
  have ha := hb a (by simp)
  by_cases hl : aM l = []
  ·have h1 : V t l = 0 := by rw [← cA, hl]; rfl
   have h2 : a ≠ 0 := fun h0 => h (by rw [aM, if_pos ⟨hl, h0⟩])
   simp only [V]
   rw [h1]
   intro h3
   apply h2
   have : t * 0 = 0 := Int.mul_zero t
   omega
  ·have ih := JY ht hH (x := l) (fun c hc => hb c (by simp [hc])) hl
   simp only [V]
   intro h3
   rcases Int.lt_or_gt_of_ne ih with h4 | h4
   ·have : t * V t l ≤ t * (-1) := Int.mul_le_mul_of_nonneg_left (by omega) (by omega)
    omega
   ·have : t * 1 ≤ t * V t l := Int.mul_le_mul_of_nonneg_left (by omega) (by omega)
    omega
theorem JZ {H t : Nat} : ∀ {x : List Int}, (∀ c ∈ x, c.natAbs ≤ H) → (V (t : Int) x).natAbs ≤ H * (1 + t) ^ x.length
 | [], _ => by simp [V]
 | a :: l, h => by
  have h1 := JZ (t := t) (x := l) fun c hc => h c (by simp [hc])
  have h2 := h a (by simp)
  simp only [V]
  have h3 : (a + (t : Int) * V t l).natAbs ≤ a.natAbs + t * (V (t : Int) l).natAbs := by
   have := Int.natAbs_add_le a ((t : Int) * V t l)
   rwa [Int.natAbs_mul, Int.natAbs_natCast] at this
  have h4 : t * (V (t : Int) l).natAbs ≤ t * (H * (1 + t) ^ l.length) := Nat.mul_le_mul_left _ h1
  have h5 : H * 1 ≤ H * (1 + t) ^ l.length := Nat.mul_le_mul_left _ (Nat.one_le_pow _ _ (by omega))
  rw [List.length_cons, Nat.pow_succ]
  have h6 : H * ((1 + t) ^ l.length * (1 + t)) = H * (1 + t) ^ l.length + t * (H * (1 + t) ^ l.length) := by grind
  omega
def UZ (s : Int) : List Int → List Int
 | [] => []
 | _ :: l => V s l :: UZ s l
theorem agO (s t : Int) : ∀ x : List Int, V t x = V s x + (t - s) * V t (UZ s x)
 | [] => by simp [V, UZ]
 | a :: l => by
  have := agO s t l
  simp only [V, UZ]
  have h2 : t * V t l = t * (V s l + (t - s) * V t (UZ s l)) := by rw [← this]
  grind
theorem J0 (s : Int) : ∀ x : List Int, x ≠ [] → ∃ y, UZ s x = y ++ [0] ∧ y.length = x.length - 1
 | [], h => absurd rfl h
 | [a], _ => ⟨[], by simp [UZ, V], rfl⟩
 | a :: b :: l, _ => by
  obtain ⟨y, h1, h2⟩ := J0 s (b :: l) (by simp)
  refine ⟨V s (b :: l) :: y, by rw [UZ, h1]; rfl, by simp at h2 ⊢; omega⟩
theorem AE {s : Nat} {M : Nat} : ∀ {x : List Int}, (V (s : Int) x).natAbs ≤ M → (∀ c ∈ UZ s x, c.natAbs ≤ M) → ∀ c ∈ x, c.natAbs ≤ M * (1 + s)
 | [], _, _, c, hc => by cases hc
 | a :: l, h0, h, c, hc => by
  have h1 : (V (s : Int) l).natAbs ≤ M := h _ (by simp [UZ])
  have h2 : ∀ c ∈ UZ s l, c.natAbs ≤ M := fun c hc => h c (by simp [UZ, hc])
  rcases List.mem_cons.1 hc with rfl | hc
  ·simp only [V] at h0
   have h3 : c.natAbs ≤ (c + (s : Int) * V s l).natAbs + s * (V (s : Int) l).natAbs := by
    have h4 : c = (c + (s : Int) * V s l) + (-((s : Int) * V s l)) := by omega
    have h5 := Int.natAbs_add_le (c + (s : Int) * V s l) (-((s : Int) * V s l))
    rw [← h4, Int.natAbs_neg, Int.natAbs_mul, Int.natAbs_natCast] at h5
    exact h5
   have h4 : s * (V (s : Int) l).natAbs ≤ s * M := Nat.mul_le_mul_left _ h1
   rw [Nat.mul_add, Nat.mul_one, Nat.mul_comm M s]; omega
  ·exact AE h1 h2 c hc
theorem Q4 : ∀ (n s A : Nat) (x : List Int), x.length ≤ n → (∀ j : Nat, j < n → (V ((s + j : Nat) : Int) x).natAbs ≤ A) → ∀ c ∈ x, c.natAbs ≤ A * (2 * (s + n + 1)) ^ n
 | 0, s, A, x, hl, _, c, hc => by
  have : x = [] := List.eq_nil_of_length_eq_zero (by omega)
  rw [this] at hc; cases hc
 | n + 1, s, A, x, hl, hv, c, hc => by
  have hx : x ≠ [] := fun h => by rw [h] at hc; cases hc
  have h0 := hv 0 (by omega)
  obtain ⟨y, h1, h2⟩ := J0 s x hx
  have hy : ∀ t : Int, V t (UZ s x) = V t y := fun t => by rw [h1, dF]; simp [V]
  have h3 : ∀ j : Nat, j < n → (V ((s + 1 + j : Nat) : Int) y).natAbs ≤ 2 * A := fun j hj => by
   have h4 := agO s ((s + 1 + j : Nat) : Int) x
   rw [hy] at h4
   have h5 := hv (j + 1) (by omega)
   rw [show s + (j + 1) = s + 1 + j by omega] at h5
   have e : ((s + 1 + j : Nat) : Int) - (s : Int) = ((j + 1 : Nat) : Int) := by omega
   rw [e] at h4
   have h6 : (((j + 1 : Nat) : Int) * V ((s + 1 + j : Nat) : Int) y).natAbs ≤ 2 * A := by
    have : ((j + 1 : Nat) : Int) * V ((s + 1 + j : Nat) : Int) y = V ((s + 1 + j : Nat) : Int) x - V (s : Int) x := by omega
    rw [this]
    rw [Nat.add_zero] at h0
    omega
   rw [Int.natAbs_mul, Int.natAbs_natCast] at h6
   exact Nat.le_trans (Nat.le_mul_of_pos_left _ (by omega)) h6
  have h4 := Q4 n (s + 1) (2 * A) y (by omega) h3
  have hP : 1 ≤ (2 * (s + 1 + n + 1)) ^ n := Nat.one_le_pow _ _ (by omega)
  rw [Nat.add_zero] at h0
  have h5 := AE (s := s) (M := 2 * A * (2 * (s + 1 + n + 1)) ^ n) (x := x) (by
   have : A * 1 ≤ 2 * A * (2 * (s + 1 + n + 1)) ^ n := Nat.mul_le_mul (by omega) hP
   omega) (fun d hd => by
   rw [h1] at hd
   rcases List.mem_append.1 hd with hd | hd
   ·exact h4 d hd
   ·simp at hd; subst hd; simp) c hc
  refine Nat.le_trans h5 ?_
  rw [Nat.pow_succ, show s + (n + 1) + 1 = s + 1 + n + 1 by omega]
  have h6 : A * ((2 * (s + 1 + n + 1)) ^ n * (2 * (s + 1 + n + 1))) = (2 * A * (2 * (s + 1 + n + 1)) ^ n) * (s + 1 + n + 1) := by grind
  rw [h6]
  exact Nat.mul_le_mul_left _ (by omega)
namespace ZX
theorem aau {a w g : ZX} {h n : Nat} (ha : a ≠ 0) (e : a = w * g) (hb : Bd 2 h n a.l) (hn : n + 1 ≤ 2 ^ h) : Bd 2 (h + n * (2 * h + 5) + 1) n g.l := by
 have hw : w ≠ 0 ∧ g ≠ 0 := ⟨fun h0 => ha (by rw [e, h0]; grind), fun h0 => ha (by rw [e, h0]; grind)⟩
 have hlen : g.l.length ≤ n := by
  have h1 : N a = N w + N g - 1 := by rw [e, iB hw.1 hw.2]
  have h2 := aD.1 hw.1
  have h3 : N a ≤ n := hb.len
  show N g ≤ n
  omega
 refine ⟨hlen, fun c hc => ?_⟩
 have hH : ∀ d ∈ a.l, d.natAbs ≤ 2 ^ h := fun d hd => by
  have h1 := lF (b := 2) (by decide) d
  have h2 := tD (b := 2) (by decide) (hb.sz d hd)
  omega
 have hv : ∀ j : Nat, j < n → (V ((2 ^ h + 1 + j : Nat) : Int) g.l).natAbs ≤ 2 ^ h * (2 ^ (h + 2)) ^ n := fun j hj => by
  have h1 : V ((2 ^ h + 1 + j : Nat) : Int) a.l = V ((2 ^ h + 1 + j : Nat) : Int) w.l * V ((2 ^ h + 1 + j : Nat) : Int) g.l := by
   conv => lhs; rw [e]
   rw [cU]
  have h2 : V ((2 ^ h + 1 + j : Nat) : Int) a.l ≠ 0 := JY (H := ((2 ^ h : Nat) : Int)) (by omega) (by omega) (fun d hd => by have := hH d hd; omega) (by
   rw [show aM a.l = a.l from a.c]
   have := aD.1 ha
   intro h0
   have h3 : N a = a.l.length := rfl
   rw [h3, h0] at this; simp at this)
  have h3 : (V ((2 ^ h + 1 + j : Nat) : Int) g.l).natAbs ≤ (V ((2 ^ h + 1 + j : Nat) : Int) a.l).natAbs := by
   rw [h1, Int.natAbs_mul]
   have : V ((2 ^ h + 1 + j : Nat) : Int) w.l ≠ 0 := fun h0 => h2 (by rw [h1, h0, Int.zero_mul])
   exact Nat.le_mul_of_pos_left _ (by omega)
  refine Nat.le_trans h3 (Nat.le_trans (JZ hH) (Nat.mul_le_mul_left _ ?_))
  have h4 : 1 + (2 ^ h + 1 + j) ≤ 2 ^ (h + 2) := by rw [Nat.pow_add]; omega
  refine Nat.le_trans (Nat.pow_le_pow_left h4 _) (Nat.pow_le_pow_right (Nat.two_pow_pos _) hb.len)
 have h5 := Q4 n (2 ^ h + 1) _ g.l hlen hv c hc
 have h6 : 2 ^ h * (2 ^ (h + 2)) ^ n * (2 * (2 ^ h + 1 + n + 1)) ^ n < 2 ^ (h + n * (2 * h + 5) + 1) := by
  have h7 : 2 * (2 ^ h + 1 + n + 1) ≤ 2 ^ (h + 3) := by rw [Nat.pow_add]; omega
  have h8 : (2 * (2 ^ h + 1 + n + 1)) ^ n ≤ (2 ^ (h + 3)) ^ n := Nat.pow_le_pow_left h7 _
  have h9 : 2 ^ h * (2 ^ (h + 2)) ^ n * (2 ^ (h + 3)) ^ n = 2 ^ (h + (h + 2) * n + (h + 3) * n) := by rw [← Nat.pow_mul, ← Nat.pow_mul, ← Nat.pow_add, ← Nat.pow_add]
  refine Nat.lt_of_le_of_lt (Nat.mul_le_mul_left _ h8) ?_
  rw [h9]
  refine Nat.pow_lt_pow_right (by decide) ?_
  have : (h + 2) * n + (h + 3) * n = n * (2 * h + 5) := by grind
  omega
 exact cN (by decide) (Nat.lt_of_le_of_lt h5 h6)
end ZX
end Pm
namespace Go.Proofs.YtbbjgncblhfegaaGreat
open Go Pm
open ZX hiding N W
structure Nf (a : ZX) : Prop where
 ne : a ≠ 0
 g : bG a.l = 1
 l : 0 < lead a.l
theorem tX {a : ZX} (h : a ≠ 0) : a.l ≠ [] := fun e => by
 have := aD.1 h
 have h2 : ZX.N a = a.l.length := rfl
 rw [h2, e] at this; simp at this
theorem ajP (x : List Int) : Cn (pV x) := Cn.cut _
def nf (a : ZX) : ZX := ⟨pV a.l, ajP _⟩
theorem jE : nf 0 = 0 := ZX.ext fun t => rfl
theorem J1 {a : ZX} (ha : a ≠ 0) : K (j1 a.l) * nf a = a := ZX.ext fun t => by
 rw [cU, rE]
 conv => rhs; rw [← UR a.c (tX ha)]
 rw [bV, Int.mul_comm]; rfl
theorem oA {a : ZX} (ha : a ≠ 0) : j1 a.l ≠ 0 := NU a.c (tX ha)
theorem agP {a : ZX} (ha : a ≠ 0) : nf a ≠ 0 := fun h => ha (by rw [← J1 ha, h]; grind)
theorem gD {a : ZX} (ha : a ≠ 0) : Nf (nf a) := ⟨agP ha, aeb a.c (tX ha), aac a.c (tX ha)⟩
theorem Nf.nfe {a : ZX} (h : Nf a) : nf a = a := by
 have h1 : j1 a.l = 1 := by
  unfold j1
  rw [if_neg (by have := h.l; omega), h.g]; rfl
 have := J1 h.ne
 rw [h1] at this
 rw [← this]
 conv => lhs; rw [this]
 show _ = (1 : ZX) * _
 grind
theorem aaw {c : Int} (hc : c ≠ 0) (a : ZX) : ZX.N (K c * a) = ZX.N a := by
 by_cases ha : a = 0
 ·rw [ha, show K c * (0 : ZX) = 0 by grind]
 ·rw [iB (oV hc) ha, N_K hc]; have := aD.1 ha; omega
theorem B4 (a : ZX) : ZX.N (nf a) = ZX.N a := by
 by_cases ha : a = 0
 ·rw [ha, jE]
 ·have := aaw (oA ha) (nf a)
  rw [J1 ha] at this
  exact this.symm
theorem K_l {c : Int} (hc : c ≠ 0) (a : ZX) : (K c * a).l = a.l.map (· * c) := by
 refine Cn.ext (K c * a).c (jZ a.c hc) fun t => ?_
 rw [cU, rE, c8, Int.mul_comm]
theorem aax {c : Int} (hc : c ≠ 0) {a : ZX} (ha : a ≠ 0) : lead (K c * a).l = c * lead a.l := by
 have h : (K c * a).l = bH (K c).l a.l := rfl
 have hK : (K c).l = [c] := by show aM [c] = [c]; exact fP hc []
 rw [h, u6 (K c).c a.c (by rw [hK]; simp) (aD.1 ha), hK]
 rfl
theorem Nf.F0 {a b : ZX} (ha : Nf a) (hb : Nf b) {c d : Int} (hc : c ≠ 0) (hd : d ≠ 0) (e : K c * a = K d * b) : a = b := by
 have h1 : c.natAbs = d.natAbs := by
  have h2 : bG (K c * a).l = bG (K d * b).l := by rw [e]
  rw [K_l hc, K_l hd, j0, j0, ha.g, hb.g] at h2
  omega
 have h3 : c * lead a.l = d * lead b.l := by rw [← aax hc ha.ne, ← aax hd hb.ne, e]
 have h4 : c = d := by
  rcases Int.natAbs_eq_natAbs_iff.1 h1 with h5 | h5
  ·exact h5
  ·exfalso
   subst h5
   have hl := ha.l
   have ZC := hb.l
   rcases Int.lt_or_gt_of_ne hd with h6 | h6
   ·have := Int.mul_pos (show 0 < -d by omega) hl
    have := Int.mul_neg_of_neg_of_pos h6 ZC
    omega
   ·have := Int.mul_neg_of_neg_of_pos (show -d < 0 by omega) hl
    have := Int.mul_pos h6 ZC
    omega
 subst h4
 exact ZX.cancel (oV hc) e
theorem aem {a b : ZX} {c d : Int} (ha : a ≠ 0) (hc : c ≠ 0) (hd : d ≠ 0) (e : K c * a = K d * b) : nf a = nf b := by
 have hb : b ≠ 0 := fun h => by
  rw [h, show K d * (0 : ZX) = 0 by grind] at e
  exact gC (oV hc) ha e
 refine Nf.F0 (gD ha) (gD hb) (c := c * j1 a.l) (d := d * j1 b.l) (Int.mul_ne_zero hc (oA ha)) (Int.mul_ne_zero hd (oA hb)) ?_
 rw [← nG, ← nG]
 have h1 := J1 ha
 have h2 := J1 hb
 grind
theorem J2 (a : ZX) : nf (nf a) = nf a := by
 by_cases ha : a = 0
 ·rw [ha, jE, jE]
 ·exact (gD ha).nfe
theorem J3 (a : ZX) : dv a (nf a) ∧ dv (nf a) a := by
 by_cases ha : a = 0
 ·rw [ha, jE]; exact ⟨dv.refl 0, dv.refl 0⟩
 ·have h := J1 ha
  exact ⟨⟨j1 a.l, oA ha, 1, by rw [h]; grind⟩, ⟨1, by decide, K (j1 a.l), by rw [h]; show (1 : ZX) * a = a; grind⟩⟩
theorem p6 {a b : ZX} (h1 : dv a b) (h2 : dv b a) : nf a = nf b := by
 by_cases ha : a = 0
 ·subst ha; rw [xQ h1]
 ·obtain ⟨c, hc, q, e⟩ := h2
  have h3 := h1.rF (fun hb => ha (by subst hb; exact xQ ⟨c, hc, q, e⟩))
  have h4 := dv.rF ⟨c, hc, q, e⟩ ha
  obtain ⟨hq, hb⟩ := kS hc ha e
  have h5 := aaw hc a
  rw [e, iB hq hb] at h5
  have := aD.1 hq
  have := aD.1 hb
  obtain ⟨d, hd, rfl⟩ := mD (x := q) (by omega)
  exact aem ha hc hd e
theorem Nf.one : Nf 1 := ⟨pZ, by decide, by decide⟩
theorem Nf.mul {a b : ZX} (ha : Nf a) (hb : Nf b) : Nf (a * b) := by
 refine ⟨gC ha.ne hb.ne, ?_, ?_⟩
 ·show bG (bH a.l b.l) = 1
  rw [aab a.c b.c (tX ha.ne) (tX hb.ne), ha.g, hb.g]
 ·show 0 < lead (bH a.l b.l)
  rw [u6 a.c b.c (aD.1 ha.ne) (aD.1 hb.ne)]
  exact Int.mul_pos ha.l hb.l
theorem J4 {p a : ZX} (hp : n7 p) (ha : a ≠ 0) : mu p (nf a) = mu p a := by
 conv => rhs; rw [← J1 ha]
 rw [p5 hp (oV (oA ha)) (agP ha), aas hp (oA ha)]; omega
theorem Nf.AF {a b : ZX} (ha : Nf a) (hb : Nf b) (h : ∀ p, n7 p → mu p a = mu p b) : a = b := by
 rw [← ha.nfe, ← hb.nfe]
 exact p6 ((k8 ha.ne hb.ne).2 fun p hp => by have := h p hp; omega) ((k8 hb.ne ha.ne).2 fun p hp => by have := h p hp; omega)
theorem Nf.quo {a b : ZX} (ha : Nf a) (hb : Nf b) (h : dv b a) : ∃ w, Nf w ∧ a = w * b := by
 obtain ⟨c, hc, q, e⟩ := h
 obtain ⟨hq, _⟩ := kS hc ha.ne e
 refine ⟨nf q, gD hq, Nf.F0 ha ((gD hq).mul hb) hc (oA hq) ?_⟩
 have := J1 hq
 grind
theorem Nf.exact {a b w : ZX} (hb : Nf b) (e : a = w * b) : exact a.l b.l = some w.l := by
 subst e
 exact NX w.c b.c (aD.1 hb.ne)
theorem Nf.N1 {a : ZX} (ha : Nf a) (h : ZX.N a ≤ 1) : a = 1 := by
 obtain ⟨c, hc, rfl⟩ := mD (x := a) (by have := aD.1 ha.ne; omega)
 exact Nf.F0 ha Nf.one (show (1 : Int) ≠ 0 by decide) hc (by show (1 : ZX) * _ = K c * 1; grind)
noncomputable def gz (a b : ZX) : ZX := nf (Classical.choose (iK _ a b (Nat.le_refl _)))
theorem qR (a b : ZX) : ∃ g, oW g a b ∧ gz a b = nf g := ⟨_, Classical.choose_spec (iK _ a b (Nat.le_refl _)), rfl⟩
theorem J5 {g a b : ZX} (h : oW g a b) : gz a b = nf g := by
 obtain ⟨g', h', e⟩ := qR a b
 rw [e]
 obtain ⟨h1, h2⟩ := h'.assoc h
 exact p6 h1 h2
theorem oW.apv {g g' a b : ZX} (h : oW g a b) (h1 : dv g g') (h2 : dv g' g) : oW g' a b := by
 obtain ⟨c, hc, u, v, e⟩ := h.uv
 obtain ⟨d, hd, w, e2⟩ := h1
 exact ⟨h2.trans h.l, h2.trans h.r, c * d, Int.mul_ne_zero hc hd, w * u, w * v, by rw [← nG]; grind⟩
theorem gS (a b : ZX) : oW (gz a b) a b := by
 obtain ⟨g, h, e⟩ := qR a b
 rw [e]
 obtain ⟨h1, h2⟩ := J3 g
 exact oW.apv h h1 h2
theorem agQ {a b : ZX} (h : a ≠ 0 ∨ b ≠ 0) : gz a b ≠ 0 := (gS a b).ne h
theorem Q5 {a b : ZX} (h : a ≠ 0 ∨ b ≠ 0) : Nf (gz a b) := by
 have h0 := agQ h
 obtain ⟨g, h, e⟩ := qR a b
 rw [e] at h0 ⊢
 exact gD (fun hg => h0 (by rw [hg, jE]))
theorem xR (a b : ZX) : gz a b = gz b a := by
 have h := gS a b
 rw [J5 h.symm]
 obtain ⟨g, _, e⟩ := qR a b
 rw [e, J2]
theorem tY (a : ZX) : gz a 0 = nf a := J5 (oW.zero a)
theorem AG {a b a' b' : ZX} (h1 : dv a a') (h2 : dv a' a) (h3 : dv b b') (h4 : dv b' b) : gz a b = gz a' b' := by
 obtain ⟨g, hg, e⟩ := qR a b
 rw [e, J5 (hg.congr h1 h2 h3 h4)]
theorem agR (a b : ZX) : gz (nf a) b = gz a b := AG (J3 a).2 (J3 a).1 (dv.refl b) (dv.refl b)
theorem NZ (a b : ZX) : gz a (nf b) = gz a b := AG (dv.refl a) (dv.refl a) (J3 b).2 (J3 b).1
theorem F2 {a b q r : ZX} {c k : Int} (hc : c ≠ 0) (hk : k ≠ 0) (e : K c * a = q * b + K k * r) : gz a b = gz b r := by
 obtain ⟨g, hg, e2⟩ := qR b r
 rw [e2, J5 (hg.apu hc hk e)]
end Go.Proofs.YtbbjgncblhfegaaGreat
namespace Go.Proofs.YtbbjgncblhfegaaGreat
open Go Pm
open ZX hiding N W
open Classical in
noncomputable def qz (a b : ZX) : ZX := if h : ∃ w, Nf w ∧ a = w * b then h.choose else 0
theorem mE {a b : ZX} (ha : Nf a) (hb : Nf b) (h : dv b a) : Nf (qz a b) ∧ a = qz a b * b := by
 have h := ha.quo hb h
 unfold qz
 rw [dif_pos h]
 exact h.choose_spec
theorem agS {a b w : ZX} (hb : Nf b) (hw : Nf w) (e : a = w * b) : qz a b = w := by
 have ha : Nf a := by rw [e]; exact hw.mul hb
 obtain ⟨h1, h2⟩ := mE ha hb ⟨1, by decide, w, by rw [e]; show (1 : ZX) * _ = _; grind⟩
 refine ZX.cancel hb.ne ?_
 have : qz a b * b = w * b := by rw [← h2, e]
 grind
theorem aay {a b : ZX} (ha : Nf a) (hb : Nf b) (h : dv b a) : exact a.l b.l = some (qz a b).l := Nf.exact hb (mE ha hb h).2
theorem agT {a b p : ZX} (ha : Nf a) (hb : Nf b) (h : dv b a) (hp : n7 p) : mu p (qz a b) = mu p a - mu p b := by
 obtain ⟨h1, h2⟩ := mE ha hb h
 have h3 : mu p a = mu p (qz a b) + mu p b := by
  conv => lhs; rw [h2]
  exact p5 hp h1.ne hb.ne
 omega
theorem Nf.self {a : ZX} (ha : Nf a) : qz a a = 1 := agS ha Nf.one (by grind)
theorem Nf.aus {a : ZX} (ha : Nf a) : qz a 1 = a := agS Nf.one ha (by grind)
noncomputable def gd (a : ZX) : ZX := gz a (bK a)
theorem Q6 {a : ZX} (ha : a ≠ 0) : Nf (gd a) := Q5 (.inl ha)
theorem wW (a : ZX) : dv (gd a) a := (gS a (bK a)).l
theorem agU {a p : ZX} (ha : a ≠ 0) (hp : n7 p) : mu p (gd a) = mu p a - 1 := (gS a (bK a)).vE ha hp
theorem aut {a : ZX} (h : 2 ≤ ZX.N a) : ZX.N (gd a) < ZX.N a := by
 have h1 := (gS a (bK a)).r.rF (FZ h)
 have h2 := kN a
 have : ZX.N (gd a) = ZX.N (gz a (bK a)) := rfl
 omega
theorem aaz : gd 1 = 1 := by
 unfold gd
 rw [Q0, tY, Nf.one.nfe]
noncomputable def gs (a : ZX) : Nat → ZX
 | 0 => a
 | k + 1 => gd (gs a k)
theorem lM {a : ZX} (ha : Nf a) : ∀ k, Nf (gs a k)
 | 0 => ha
 | k + 1 => Q6 (lM ha k).ne
theorem DO (a : ZX) : ∀ k, dv (gs a k) a
 | 0 => dv.refl a
 | k + 1 => (wW _).trans (DO a k)
theorem Q7 {a p : ZX} (ha : Nf a) (hp : n7 p) : ∀ k, mu p (gs a k) = mu p a - k
 | 0 => rfl
 | k + 1 => by
  show mu p (gd (gs a k)) = _
  rw [agU (lM ha k).ne hp, Q7 ha hp k]; omega
theorem aen {a : ZX} : ∀ k, ZX.N (gs a k) ≤ 1 ∨ ZX.N (gs a k) + k ≤ ZX.N a
 | 0 => .inr (Nat.le_refl _)
 | k + 1 => by
  rcases aen (a := a) k with h | h
  ·left
   show ZX.N (gz (gs a k) (bK (gs a k))) ≤ 1
   by_cases h0 : gs a k = 0
   ·rw [h0, show bK (0 : ZX) = 0 from ZX.ext fun t => rfl, tY, jE]; decide
   ·exact Nat.le_trans ((gS _ _).l.rF h0) h
  ·rcases Nat.lt_or_ge (ZX.N (gs a k)) 2 with h2 | h2
   ·left
    show ZX.N (gz (gs a k) (bK (gs a k))) ≤ 1
    by_cases h0 : gs a k = 0
    ·rw [h0, show bK (0 : ZX) = 0 from ZX.ext fun t => rfl, tY, jE]; decide
    ·exact Nat.le_trans ((gS _ _).l.rF h0) (by omega)
   ·right
    have := aut h2
    show ZX.N (gd (gs a k)) + (k + 1) ≤ _
    omega
open Classical in
noncomputable def nl (a : ZX) : Nat := if h : ∃ m, ZX.N (gs a m) ≤ 1 ∧ ∀ k, k < m → 2 ≤ ZX.N (gs a k) then h.choose else 0
theorem jF (a : ZX) : ZX.N (gs a (nl a)) ≤ 1 ∧ ∀ k, k < nl a → 2 ≤ ZX.N (gs a k) := by
 have h : ∃ m, ZX.N (gs a m) ≤ 1 ∧ ∀ k, k < m → 2 ≤ ZX.N (gs a k) := by
  have key : ∀ n, (∃ m, m ≤ n ∧ ZX.N (gs a m) ≤ 1 ∧ ∀ k, k < m → 2 ≤ ZX.N (gs a k)) ∨ ∀ k, k ≤ n → 2 ≤ ZX.N (gs a k) := by
   intro n
   induction n with
   | zero =>
    rcases Nat.lt_or_ge (ZX.N (gs a 0)) 2 with h | h
    ·exact .inl ⟨0, Nat.le_refl _, by omega, fun k hk => by omega⟩
    ·exact .inr fun k hk => by rw [show k = 0 by omega]; exact h
   | succ n ih =>
    rcases ih with ⟨m, h1, h2⟩ | ih
    ·exact .inl ⟨m, by omega, h2⟩
    ·rcases Nat.lt_or_ge (ZX.N (gs a (n + 1))) 2 with h | h
     ·exact .inl ⟨n + 1, Nat.le_refl _, by omega, fun k hk => ih k (by omega)⟩
     ·refine .inr fun k hk => ?_
      rcases Nat.lt_or_ge k (n + 1) with h3 | h3
      ·exact ih k (by omega)
      ·rw [show k = n + 1 by omega]; exact h
  rcases key (ZX.N a) with ⟨m, _, h⟩ | h
  ·exact ⟨m, h⟩
  ·have h1 := h (ZX.N a) (Nat.le_refl _)
   rcases aen (a := a) (ZX.N a) with h2 | h2 <;> omega
 unfold nl
 rw [dif_pos h]
 exact h.choose_spec
theorem DP (a : ZX) : nl a ≤ ZX.N a := by
 rcases Nat.eq_zero_or_pos (nl a) with h | h
 ·omega
 ·have h1 := (jF a).2 (nl a - 1) (by omega)
  rcases aen (a := a) (nl a - 1) with h2 | h2 <;> omega
theorem apw {a : ZX} {k : Nat} (h : ∀ j, j ≤ k → 2 ≤ ZX.N (gs a j)) : k < nl a := by
 rcases Nat.lt_or_ge k (nl a) with h1 | h1
 ·exact h1
 ·have := h _ h1
  have := (jF a).1
  omega
theorem J6 {a : ZX} (ha : Nf a) : ∀ j, gs a (nl a + j) = 1
 | 0 => (lM ha _).N1 (jF a).1
 | j + 1 => by
  show gd (gs a (nl a + j)) = 1
  rw [J6 ha j, aaz]
noncomputable def wz (a : ZX) (k : Nat) : ZX := qz (gs a k) (gs a (k + 1))
theorem eU {a : ZX} (ha : Nf a) (k : Nat) : Nf (wz a k) ∧ gs a k = wz a k * gs a (k + 1) := mE (lM ha k) (lM ha (k + 1)) (wW _)
theorem J7 {a p : ZX} (ha : Nf a) (hp : n7 p) (k : Nat) : mu p (wz a k) = if k < mu p a then 1 else 0 := by
 rw [wz, agT (lM ha k) (lM ha (k + 1)) (wW _) hp, Q7 ha hp, Q7 ha hp]
 split <;> omega
theorem apx {a : ZX} (ha : Nf a) (j : Nat) : wz a (nl a + j) = 1 := by
 rw [wz, J6 ha j, Nat.add_assoc, J6 ha (j + 1), Nf.one.self]
theorem J8 {a : ZX} (ha : Nf a) (k : Nat) : dv (wz a (k + 1)) (wz a k) := (k8 (eU ha _).1.ne (eU ha _).1.ne).2 fun p hp => by
 rw [J7 ha hp, J7 ha hp]
 split <;> split <;> omega
noncomputable def kG (a : ZX) (k : Nat) : ZX := qz (wz a k) (wz a (k + 1))
theorem tZ {a : ZX} (ha : Nf a) (k : Nat) : Nf (kG a k) ∧ wz a k = kG a k * wz a (k + 1) := mE (eU ha k).1 (eU ha (k + 1)).1 (J8 ha k)
theorem apy {a p : ZX} (ha : Nf a) (hp : n7 p) (k : Nat) : mu p (kG a k) = if mu p a = k + 1 then 1 else 0 := by
 rw [kG, agT (eU ha k).1 (eU ha (k + 1)).1 (J8 ha k) hp, J7 ha hp, J7 ha hp]
 split <;> split <;> split <;> omega
theorem aeo {a : ZX} (ha : Nf a) {k : Nat} (h : k + 1 = nl a) : kG a k = wz a k := by
 rw [kG, h, show nl a = nl a + 0 from rfl, apx ha 0, (eU ha k).1.aus]
noncomputable def fl (a : ZX) : List ZX := (List.range (nl a)).map (kG a)
theorem ajQ (a : ZX) : (fl a).length = nl a := by simp [fl]
theorem J9 {a p : ZX} (ha : Nf a) (hp : n7 p) : mu p a ≤ nl a := by
 have h := Q7 ha hp (nl a)
 have h1 := J6 ha 0
 rw [Nat.add_zero] at h1
 rw [h1, aat hp] at h
 omega
noncomputable def pf (a : ZX) (c : Nat → Bool) : Nat → ZX
 | 0 => 1
 | k + 1 => if c k then pf a c k * kG a k else pf a c k
theorem uA {a : ZX} (ha : Nf a) (c : Nat → Bool) : ∀ k, Nf (pf a c k)
 | 0 => Nf.one
 | k + 1 => by
  rw [pf]
  split
  ·exact (uA ha c k).mul (tZ ha k).1
  ·exact uA ha c k
theorem Q8 {a p : ZX} (ha : Nf a) (hp : n7 p) (c : Nat → Bool) : ∀ k, mu p (pf a c k) = if 1 ≤ mu p a ∧ mu p a ≤ k ∧ c (mu p a - 1) = true then 1 else 0
 | 0 => by
  rw [pf, aat hp, if_neg (by omega)]
 | k + 1 => by
  have ih := Q8 ha hp c k
  have hf := apy ha hp k
  rw [pf]
  by_cases hc : c k = true
  ·rw [if_pos hc, p5 hp (uA ha c k).ne (tZ ha k).1.ne, ih, hf]
   by_cases h1 : mu p a = k + 1
   ·rw [if_pos h1, h1, Nat.add_sub_cancel, if_neg (by omega), if_pos ⟨by omega, Nat.le_refl _, hc⟩]
   ·rw [if_neg h1]
    by_cases h2 : 1 ≤ mu p a ∧ mu p a ≤ k ∧ c (mu p a - 1) = true
    ·rw [if_pos h2, if_pos ⟨h2.1, by omega, h2.2.2⟩]
    ·rw [if_neg h2, if_neg (fun h3 => h2 ⟨h3.1, by omega, h3.2.2⟩)]
  ·rw [if_neg hc, ih]
   by_cases h1 : mu p a = k + 1
   ·rw [h1, Nat.add_sub_cancel, if_neg (by omega), if_neg (fun h3 => hc h3.2.2)]
   ·by_cases h2 : 1 ≤ mu p a ∧ mu p a ≤ k ∧ c (mu p a - 1) = true
    ·rw [if_pos h2, if_pos ⟨h2.1, by omega, h2.2.2⟩]
    ·rw [if_neg h2, if_neg (fun h3 => h2 ⟨h3.1, by omega, h3.2.2⟩)]
noncomputable def oz (a : ZX) : ZX := pf a (fun k => k % 2 == 0) (nl a)
noncomputable def sz' (a : ZX) : ZX := wz a 0
theorem Q9 {a : ZX} (ha : Nf a) : Nf (oz a) := uA ha _ _
theorem aaA {a : ZX} (ha : Nf a) : Nf (sz' a) := (eU ha 0).1
theorem aaB {a p : ZX} (ha : Nf a) (hp : n7 p) : mu p (oz a) = mu p a % 2 := by
 have h := J9 ha hp
 rw [oz, Q8 ha hp]
 by_cases h1 : 1 ≤ mu p a ∧ mu p a ≤ nl a ∧ ((mu p a - 1) % 2 == 0) = true
 ·rw [if_pos h1]
  have := h1.2.2
  simp only [beq_iff_eq] at this
  omega
 ·rw [if_neg h1]
  simp only [beq_iff_eq] at h1
  omega
theorem aaC {a p : ZX} (ha : Nf a) (hp : n7 p) : mu p (sz' a) = min (mu p a) 1 := by
 rw [sz', J7 ha hp]
 split <;> omega
theorem ajR {a : ZX} (ha : Nf a) : pf a (fun _ => true) (nl a) = sz' a := Nf.AF (uA ha _ _) (aaA ha) fun p hp => by
 have h := J9 ha hp
 rw [Q8 ha hp, aaC ha hp]
 by_cases h1 : 1 ≤ mu p a
 ·rw [if_pos ⟨h1, h, rfl⟩]; omega
 ·rw [if_neg (fun h2 => h1 h2.1)]; omega
theorem KA {a : ZX} (h : ZX.N a ≤ 1) : nl a = 0 := by
 rcases Nat.eq_zero_or_pos (nl a) with h1 | h1
 ·exact h1
 ·have := (jF a).2 0 h1
  have : ZX.N (gs a 0) = ZX.N a := rfl
  omega
def qb (h n : Nat) : Nat := h + n * (2 * h + 5) + 1
theorem apz {a b : ZX} (ha : Nf a) (hb : Nf b) (hd : dv b a) {h n : Nat} (hx : Bd 2 h n a.l) (hn : n + 1 ≤ 2 ^ h) : Bd 2 (qb h n) n b.l := by
 obtain ⟨w, _, e⟩ := ha.quo hb hd
 exact aau ha.ne e hx hn
theorem aaD {a b : ZX} (ha : Nf a) (hb : Nf b) (h : dv b a) : dv (qz a b) a := by
 obtain ⟨_, h2⟩ := mE ha hb h
 exact ⟨1, by decide, b, by rw [ZX.DM b, ← h2]; show (1 : ZX) * _ = _; grind⟩
theorem xS {a : ZX} (ha : Nf a) (k : Nat) : dv (wz a k) a := (aaD (lM ha k) (lM ha (k + 1)) (wW _)).trans (DO a k)
theorem F3 {a : ZX} (ha : Nf a) (k : Nat) : dv (kG a k) a := (aaD (eU ha k).1 (eU ha (k + 1)).1 (J8 ha k)).trans (xS ha k)
theorem xT {a : ZX} (ha : Nf a) (c : Nat → Bool) (k : Nat) : dv (pf a c k) a := (k8 (uA ha c k).ne ha.ne).2 fun p hp => by
 rw [Q8 ha hp]
 split <;> omega
end Go.Proofs.YtbbjgncblhfegaaGreat
namespace Go.Proofs.YtbbjgncblhfegaaGreat
open Go Pm
theorem AH (v : Int) : sz LL v ≤ sz 2 v := cN fS (Nat.lt_of_lt_of_le (lF (b := 2) (by decide) v) (Nat.pow_le_pow_left (by decide) _))
theorem G6 {h n : Nat} {x : List Int} (hx : Bd 2 h n x) : Bd LL h n x := ⟨hx.len, fun c hc => Nat.le_trans (AH c) (hx.sz c hc)⟩
instance : Inhabited ZX := ⟨0⟩
abbrev BZ (h n : Nat) (a : ZX) : Prop := Bd 2 h n a.l
theorem BZ.pb {h n : Nat} {a : ZX} (b : BZ h n a) (hh : h < 1099511627775) (hn : n < 1099511627775) : PB a.l := PB.of (G6 b) hh hn
theorem BZ.B2 {h n : Nat} {a : ZX} (b : BZ h n a) (hh : h < 1099511627775) (hn : n < 1099511627775) : rD (a.l.map rC) := (b.pb hh hn).B2
theorem wX (a : ZX) : k7 (a.l.map rC) = a.l := by rw [ad9]; exact a.c
theorem BZ.mono {h h' n n' : Nat} {a : ZX} (b : BZ h n a) (hh : h ≤ h') (hn : n ≤ n') : BZ h' n' a := Bd.mono b hh hn
theorem BZ.nf {h n : Nat} {a : ZX} (b : BZ h n a) : BZ h n (nf a) := aan b
theorem BZ.N {h n : Nat} {a : ZX} (b : BZ h n a) : ZX.N a ≤ n := Bd.len b
theorem aaE {h n : Nat} {a : ZX} (b : BZ h n a) (hh : h < 1099511627774) (hn : n < 1099511627774) (k : Nat) (hk : k + 1 < a.l.length) : aI env.P 181 [.int .i64 (k : Int), .rd [Po a.l]] (I (nth a.l (k + 1) * ((k + 1 : Nat) : Int))) := by
 have hlen := b.len
 have hz := (G6 b).nth (k + 1)
 have o1 := zH ((k + 1 : Nat) : Int) (by omega) (by omega)
 have hk1 : Sz ((k + 1 : Nat) : Int) := Nat.lt_of_le_of_lt (cN (k := 2) fS (by rw [Int.natAbs_natCast]; show k + 1 < 4294967296 ^ 2; omega)) (by decide)
 have m1 := tK (x := nth a.l (k + 1)) (y := ((k + 1 : Nat) : Int)) (by show Pm.sz LL _ < _; omega) hk1
 have e : ((k : Int) + 1).toNat = k + 1 := by omega
 rw [Int.natCast_add, Int.natCast_one] at o1 m1
 refine aB (E := env) (fun _ => 0) [(0, .int .i64 (k : Int)), (1, .rd [Po a.l])] Tryz.func181 rfl (by kernel_rfl) (by kernel_rfl) (show 2 ≤ 13 by decide) (by simp) ?_
 generalize a.l = x at *
 refine W.sr ?_; simp (disch := omega) [gw]; refine W.lx [0, 1, 3] ?_; simp
 refine W.sd ?_
 simp (disch := omega) [gw, e]
 refine aA o1 ?_
 simp (disch := omega) [gw]
 refine aA m1 ?_
 simp (disch := omega) [gw]
 refine W.lx [3] ?_; simp
 refine W.ret ?_
 simp [go]
theorem sI {h n : Nat} {a : ZX} (b : BZ h n a) (hh : h < 1099511627774) (hn : n < 1099511627774) : aI env.P 104 [Po a.l] (Po (ZX.bK a).l) := by
 have hlen := b.len
 have hc := fun k hk => aaE b hh hn k hk
 have hE := pR 181 rfl [.rd [Po a.l]] rfl (a.l.length - 1) (by omega) (fun k => nth a.l (k + 1) * ((k + 1 : Nat) : Int)) (fun k hk => hc k (by omega))
 have e0 : aM ((List.range (a.l.length - 1)).map fun k => nth a.l (k + 1) * ((k + 1 : Nat) : Int)) = (ZX.bK a).l := rfl
 rw [e0] at hE
 generalize (ZX.bK a).l = d at *
 generalize a.l = x at *
 have e1 : (if (1 : Int) < (x.length : Int) then (x.length : Int) - 1 else 0) = ((x.length - 1 : Nat) : Int) := by split <;> omega
 refine aB (E := env) (fun _ => 0) [(0, Po x)] Tryz.func104 rfl (by kernel_rfl) (by kernel_rfl) (show 1 ≤ 9 by decide) (by simp) ?_
 refine W.sr ?_; simp (disch := omega) [gw]; refine W.lx [1] ?_; simp
 refine W.sr ?_
 simp (disch := omega) [gw, e1]
 refine aA hE ?_
 simp (disch := omega) [gw]
 refine W.lx [2] ?_; simp
 refine W.ret ?_
 simp [go]
theorem N4 {α : Type} {g : α → List PV} {l : List α} {c : Int} {d : List Int} (h1 : aI env.P 157 [aJ g l] (.eP [I c, Po d])) : aI env.P 159 [aJ g l] (Po d) := by
 refine aB (E := env) (fun _ => 0) [(0, aJ g l)] Tryz.func159 rfl (by kernel_rfl) (by kernel_rfl) (show 1 ≤ 11 by decide) (by simp) ?_
 refine W.sr ?_; simp (disch := omega) [gw]; refine W.lx [0] ?_; simp
 refine W.sr ?_
 simp (disch := omega) [gw]
 refine aA h1 ?_
 simp (disch := omega) [gw]
 refine W.lx [4] ?_; simp
 refine W.sr ?_; simp (disch := omega) [gw]; refine W.lx [2] ?_; simp
 refine W.ret ?_
 simp [go]
theorem k9 {h n : Nat} {a : ZX} (b : BZ h n a) (hh : h < 1099511627774) (hn : n < 1099511627774) : aI env.P 159 [Po a.l] (Po (nf a).l) := by
 have h1 := rS (a.l.map rC) (b.B2 (by omega) (by omega)) (s := h) (n := n) (by rw [bP]; exact G6 b) hh hn
 rw [wX, ← iA] at h1
 exact N4 h1
theorem RA {h h' n : Nat} {a c : ZX} (b : BZ h n a) (b' : BZ h' n c) (ha : Nf a) (hc : Nf c) (hd : ZX.dv c a) (hB : h + n * (h' + n + 1) + h' + n + n + 10 < 1099511627774) : aI env.P 160 [Po a.l, Po c.l] (Po (qz a c).l) := by
 have h0 : ¬ c.l = [] := tX hc.ne
 have h1 := UQ (a.l.map rC) (c.l.map rC) (b.B2 (by omega) (by omega)) (b'.B2 (by omega) (by omega)) (s := h) (s' := h') (N := n) (by rw [bP]; exact G6 b) (by rw [bP]; exact G6 b') hB
 rw [wX, wX, if_neg h0, aay ha hc hd, ← iA, ← iA, exR] at h1
 generalize (qz a c).l = d at *
 generalize a.l = x at *
 generalize c.l = y at *
 refine aB (E := env) (fun _ => 0) [(0, Po x), (1, Po y)] Tryz.func160 rfl (by kernel_rfl) (by kernel_rfl) (show 2 ≤ 14 by decide) (by simp) ?_
 refine W.sr ?_; simp (disch := omega) [gw]; refine W.lx [0, 1] ?_; simp
 refine W.sr ?_
 simp (disch := omega) [gw]
 refine aA h1 ?_
 simp (disch := omega) [gw]
 refine W.lx [5] ?_; simp
 refine W.sr ?_; simp (disch := omega) [gw]; refine W.lx [4] ?_; simp
 refine W.ret ?_
 simp [go]
def rs (a c : ZX) : ZX := ⟨JN a.l c.l, ajG _ _⟩
theorem AJ {x : List Int} (cx : Cn x) (hx : x ≠ []) : (iX x).map (· * (bG x : Int)) = x := by
 have hg := bW cx hx
 have h1 := xP (g := (bG x : Int)) (fun c hc => gB x c hc)
 have h2 : Cn (x.map (oZ (bG x))) := by
  have h3 : x.map (oZ (bG x)) = aM (x.map (oZ (bG x))) := by
   refine (List.map_inj_right (f := fun v : Int => v * (bG x : Int)) (fun u v e => Int.eq_of_mul_eq_mul_right (by omega) e)).1 ?_
   rw [h1]
   refine Cn.ext cx (jZ (Cn.cut _) (by omega)) fun t => ?_
   rw [c8, cA, ← c8, h1]
  exact h3.symm
 rw [iX, show aM (x.map (oZ (bG x))) = _ from h2, h1]
theorem aep {a c : ZX} (hc : c ≠ 0) : ∃ (m k : Int) (q : ZX), m ≠ 0 ∧ k ≠ 0 ∧ ZX.K m * a = q * c + ZX.K k * rs a c := by
 have h0 := ZX.aD.1 hc
 obtain ⟨c1, c2⟩ := zD (b := c.l) a.c
 have hm : lead c.l ^ iH a.l c.l ≠ 0 := Int.pow_ne_zero (cD c.c h0)
 have hsg := Z7 (lead c.l) (iH a.l c.l)
 have hr := Z8 (b := c.l) a.c
 have hV := fun t => YX t a.l c.l
 have hg : sg (lead c.l) (iH a.l c.l) ≠ 0 := fun h => by rw [h] at hsg; simp at hsg
 generalize sg (lead c.l) (iH a.l c.l) = g at *
 generalize lead c.l ^ iH a.l c.l = m at *
 have hl : (rs a c).l = iX (aV (wI a.l c.l).2 g) := hr
 generalize rs a c = R at *
 generalize (wI a.l c.l).1 = q at *
 generalize (wI a.l c.l).2 = r at *
 have hcp : Cn (aV r g) := Cn.aV _ _
 by_cases hz : aV r g = []
 ·refine ⟨m, 1, ⟨q, c1⟩, hm, by decide, ZX.ext fun t => ?_⟩
  rw [hz] at hl
  have h1 : V t R.l = 0 := by rw [hl]; rfl
  have h2 : V t r = 0 := by
   have h3 : V t (aV r g) = 0 := by rw [hz]; rfl
   rw [bV] at h3
   rcases Int.mul_eq_zero.1 h3 with h4 | h4
   ·exact h4
   ·exact absurd h4 hg
  rw [ZX.cU, ZX.rE, ZX.iU, ZX.cU, ZX.cU, ZX.rE, h1]
  have := hV t
  rw [h2] at this
  show m * V t a.l = V t q * V t c.l + 1 * 0
  omega
 ·have hgp := bW hcp hz
  refine ⟨m, g * (bG (aV r g) : Int), ⟨q, c1⟩, hm, Int.mul_ne_zero hg (by omega), ZX.ext fun t => ?_⟩
  have h1 := AJ hcp hz
  have h2 : V t (aV r g) = V t R.l * (bG (aV r g) : Int) := by
   rw [hl, ← c8, h1]
  rw [bV] at h2
  rw [ZX.cU, ZX.rE, ZX.iU, ZX.cU, ZX.cU, ZX.rE]
  have := hV t
  show m * V t a.l = V t q * V t c.l + g * (bG (aV r g) : Int) * V t R.l
  rw [← this]
  have h3 : V t r = g * (V t r * g) := by
   have : g * (V t r * g) = V t r * (g * g) := by grind
   rw [this, hsg]; omega
  rw [h3, h2]; grind
theorem apA {a c : ZX} (hc : c ≠ 0) : ZX.N (rs a c) < ZX.N c := aea (ZX.aD.1 hc)
theorem iC {s n : Nat} {x : List Int} (hx : Bd 2 s n x) : Bd 2 s n (iX x) := Bd.cut ⟨by simpa using hx.len, fun c hc => by
 simp only [List.mem_map] at hc
 obtain ⟨v, hv, rfl⟩ := hc
 refine Nat.le_trans (cC (by decide) ?_) (hx.sz v hv)
 unfold oZ
 split
 ·exact Int.natAbs_ediv_le_natAbs _ _
 ·simp⟩
theorem apB {s s' n : Nat} {a c : ZX} (ha : BZ s n a) (hb : BZ s' n c) (hc : c ≠ 0) : BZ (s + (ZX.N a + 1 - ZX.N c) * (s' + n + 1)) n (rs a c) := by
 have h0 := ZX.aD.1 hc
 have hl := apA (a := a) hc
 have hk : iH a.l c.l ≤ n := by
  have h1 := ha.N
  have h2 : iH a.l c.l = ZX.N a + 1 - ZX.N c := rfl
  omega
 obtain ⟨_, h2⟩ := YW (B := 2) (by decide) hb (iH a.l c.l) s [] a.l hk ⟨by simp, fun c hc => by cases hc⟩ (ha.mono (Nat.le_refl _) (by omega))
 have h3 : Bd 2 (s + iH a.l c.l * (s' + n + 1)) (n + n) (JN a.l c.l) := by
  unfold JN
  split
  ·exact iC (Bd.fJ h2)
  ·exact iC h2
 have h4 := hb.N
 have h5 : ZX.N (rs a c) = (JN a.l c.l).length := rfl
 exact ⟨by show (JN a.l c.l).length ≤ n; omega, fun d hd => h3.sz d hd⟩
theorem aaG {d : Nat} (h : 1 ≤ d) : d + 2 ≤ 4 ^ d := by
 obtain ⟨k, rfl⟩ : ∃ k, d = k + 1 := ⟨d - 1, by omega⟩
 clear h
 induction k with
 | zero => decide
 | succ k ih => rw [Nat.pow_succ]; omega
def xU (C n s : Nat) (a c : ZX) : Prop := if ZX.N c < ZX.N a then (s + n + 1) * 4 ^ ZX.N a ≤ C else (s + n + 1) * 2 * 4 ^ ZX.N c ≤ C
theorem xU.le {C n s : Nat} {a c : ZX} (h : xU C n s a c) : s + n + 1 ≤ C := by
 unfold xU at h
 split at h
 ·exact Nat.le_trans (Nat.le_mul_of_pos_right _ (Nat.pow_pos (by decide))) h
 ·refine Nat.le_trans ?_ h
  rw [Nat.mul_assoc]
  exact Nat.le_mul_of_pos_right _ (Nat.mul_pos (by decide) (Nat.pow_pos (by decide)))
theorem xU.step {C n s : Nat} {a c r : ZX} (h : xU C n s a c) (hr : ZX.N r < ZX.N c) : xU C n (s + (ZX.N a + 1 - ZX.N c) * (s + n + 1)) c r := by
 unfold xU at h ⊢
 rw [if_pos hr]
 generalize hT : s + n + 1 = T at *
 have e : s + (ZX.N a + 1 - ZX.N c) * T + n + 1 = (ZX.N a + 1 - ZX.N c + 1) * T := by
  rw [Nat.add_mul, Nat.one_mul]; omega
 rw [e]
 split at h
 ·rename_i h1
  obtain ⟨d, hd⟩ : ∃ d, ZX.N a = ZX.N c + d := ⟨ZX.N a - ZX.N c, by omega⟩
  have h2 := aaG (d := d) (by omega)
  rw [hd, Nat.pow_add] at h
  have h3 : (ZX.N a + 1 - ZX.N c + 1) * T ≤ 4 ^ d * T := Nat.mul_le_mul_right _ (by omega)
  refine Nat.le_trans (Nat.mul_le_mul_right _ h3) ?_
  have : 4 ^ d * T * 4 ^ ZX.N c = T * (4 ^ ZX.N c * 4 ^ d) := by grind
  omega
 ·rename_i h1
  refine Nat.le_trans (Nat.mul_le_mul_right _ (Nat.mul_le_mul_right T (show ZX.N a + 1 - ZX.N c + 1 ≤ 2 by omega))) ?_
  rw [Nat.mul_comm 2 T]; exact h
theorem aaH {s n C : Nat} {a c : ZX} (b : BZ s n a) (b' : BZ s n c) (hP : xU C n s (nf a) (nf c)) (hB : (n + 1) * C ≤ 99000000000) : aI env.P 161 [Po a.l, Po c.l] (Po (gz a c).l) := by
 have hC : C ≤ 99000000000 := Nat.le_trans (Nat.le_mul_of_pos_left C (by omega)) hB
 rw [Nat.succ_mul] at hB
 have hs := hP.le
 have p1 := k9 b (by omega) (by omega)
 have p2 := k9 b' (by omega) (by omega)
 have b1 := b.nf
 have b2 := b'.nf
 have hg : gz (nf a) (nf c) = gz a c := by rw [agR, NZ]
 rw [← hg]
 generalize nM : nf a = x0 at *
 generalize NA : nf c = y0 at *
 generalize hG : gz x0 y0 = G at *
 refine aB (E := env) (fun _ => 0) [(0, Po a.l), (1, Po c.l)] Tryz.func161 rfl (by kernel_rfl) (by kernel_rfl) (show 2 ≤ 24 by decide) (by simp) ?_
 generalize a.l = al at *
 generalize c.l = cl at *
 refine W.sr ?_; simp (disch := omega) [gw]; refine W.lx [0, 1] ?_; simp
 refine W.sr ?_
 simp (disch := omega) [gw]
 refine aA p1 ?_
 simp (disch := omega) [gw]
 refine aA p2 ?_
 simp (disch := omega) [gw]
 refine W.lx [0, 1] ?_; simp
 refine W.seq ?_
 refine W.block ?_
 refine W.a9 (fun k σ => ∃ (x y : ZX) (s : Nat) (rows : Pm.Rows) (clk : Nat), σ = ⟨fa [(0, Po x.l), (1, Po y.l)], rows, clk⟩ ∧ BZ s n x ∧ BZ s n y ∧ xU C n s x y ∧ gz x y = G ∧ k = ZX.N y) (ZX.N y0) ?_ ?_
 ·exact ⟨_, .refl, x0, y0, s, _, _, rfl, b1, b2, hP, hG, rfl⟩
 rintro k _ ⟨x, y, s, rows, clk, rfl, bx, qS, hp, hgz, rfl⟩
 have hs := hp.le
 have hlx := bx.len
 have hly := qS.len
 refine W.seq ?_
 refine W.sr ?_; simp (disch := omega) [gw]; refine W.lx [0, 1, 13] ?_; simp
 refine W.cond ⟨_, rfl, fun h => ?_, fun h => ?_⟩
 ·have hy : y ≠ 0 := ZX.aD.2 (by show 0 < y.l.length; simp at h; omega)
  obtain ⟨m, k, q, hm, hk, e⟩ := aep (a := x) hy
  have hR := JP (x.l.map rC) (y.l.map rC) (bx.B2 (by omega) (by omega)) (qS.B2 (by omega) (by omega)) (s := s) (s' := s) (N := n) (by rw [bP]; exact G6 bx) (by rw [bP]; exact G6 qS) (by
   have : n * (s + n + 1) ≤ n * C := Nat.mul_le_mul_left n hs
   omega)
  rw [wX, wX, if_neg (tX hy), ← iA, ← iA, show JN x.l y.l = (rs x y).l from rfl] at hR
  have br := apB bx qS hy
  have hN := apA (a := x) hy
  have hp2 := hp.step hN
  have mX := F2 hm hk e
  refine W.skip ?_
  refine W.block ?_
  refine W.sr ?_
  simp (disch := omega) [gw]
  refine aA hR ?_
  simp (disch := omega) [gw]
  refine W.lx [1, 5] ?_; simp
  refine W.b8 (fun K hK => ?_)
  simp (disch := omega) [gw]
  refine hK _ ⟨ZX.N (rs x y), _, aC _ [0, 1], hN, y, rs x y, _, _, _, rfl, qS.mono (by omega) (Nat.le_refl _), br, hp2, by rw [← mX, hgz], rfl⟩
 ·have hy : y = 0 := by
   refine Classical.byContradiction fun h0 => ?_
   have h1 := ZX.aD.1 h0
   have h2 : ZX.N y = y.l.length := rfl
   simp at h; rw [h2, h] at h1; simp at h1
  subst hy
  rw [tY] at hgz
  have p3 := k9 bx (by omega) (by omega)
  rw [hgz] at p3
  refine W.exit ?_; simp only [pX, if_true, if_false, reduceIte, Nat.reduceEqDiff]
  refine W.sr ?_
  simp (disch := omega) [gw]
  refine aA p3 ?_
  simp (disch := omega) [gw]
  refine W.lx [4] ?_; simp
  refine W.ret ?_
  simp [go]
theorem aeq {s n C : Nat} {a c : ZX} (b : BZ s n a) (b' : BZ s n c) (hP : xU C n s (nf a) (nf c)) (hn : n ≤ 20) (hC : C ≤ 4500000000) : aI env.P 161 [Po a.l, Po c.l] (Po (gz a c).l) :=
 aaH b b' hP (Nat.le_trans (Nat.mul_le_mul (show n + 1 ≤ 21 by omega) hC) (by decide))
def zp (a : ZX) : List PV := [Po a.l]
@[simp] theorem auu {a : ZX} : zp a = [Po a.l] := rfl
@[simp] theorem amf {l : List ZX} : bB 1 (emap zp l) = True := cZ fun _ => rfl
@[simp] theorem auv {l : List ZX} {a : ZX} : emap zp l ++ [[aJ ie a.l]] = emap zp (l ++ [a]) := by simp [emap]
@[simp] theorem ajT {v e n : Nat} {l : List ZX} : cQ (some ⟨v, e, n, emap zp l⟩) = True := cM fun _ => rfl
theorem BZ.bK {h n : Nat} {a : ZX} (b : BZ h n a) (hn : n ≤ 31) : BZ (h + 5) n (ZX.bK a) := Bd.cut ⟨by have := b.len; simp [ZX.vC]; omega, fun c hc => by
 simp only [ZX.vC, List.mem_map, List.mem_range] at hc
 obtain ⟨i, hi, rfl⟩ := hc
 have := b.len
 exact bS (by decide) (b.nth _) (cN (k := 5) (by decide) (by rw [Int.natAbs_natCast]; show i + 1 < 32; omega))⟩
theorem aer {h n : Nat} {a : ZX} (b : BZ h n a) (hn : n < 1099511627776) : aI env.P 102 [Po a.l] (.int .i64 ((ZX.N a : Int) - 1)) := lK a.l (by have := b.len; omega)
structure qT (s n : Nat) (a : ZX) : Prop where
 bz : BZ s n a
 hn : n ≤ 20
 hs : n + 1 ≤ 2 ^ s
 hC : (qb s n + n + 6) * 4 ^ n ≤ 4500000000
theorem qT.oR {s n : Nat} {a : ZX} (h : qT s n a) : qb s n + n + 6 ≤ 4500000000 := Nat.le_trans (Nat.le_mul_of_pos_right _ (Nat.pow_pos (by decide))) h.hC
theorem qT.dv {s n : Nat} {a c : ZX} (h : qT s n a) (ha : Nf a) (hc : Nf c) (hd : ZX.dv c a) : BZ (qb s n) n c := apz ha hc hd h.bz h.hs
theorem qT.nfz {s n : Nat} {a : ZX} (h : qT s n a) : qT s n (nf a) := ⟨h.bz.nf, h.hn, h.hs, h.hC⟩
theorem qT.gdz {s n : Nat} {a c : ZX} (h : qT s n a) (ha : Nf a) (hc : Nf c) (hd : ZX.dv c a) : aI env.P 161 [Po c.l, Po (ZX.bK c).l] (Po (gd c).l) ∧ aI env.P 104 [Po c.l] (Po (ZX.bK c).l) ∧ aI env.P 160 [Po c.l, Po (gd c).l] (Po (qz c (gd c)).l) := by
 have b := h.dv ha hc hd
 have b2 := b.bK (by have := h.hn; omega)
 have hq := h.oR
 have hn := h.hn
 have bg := h.dv ha (Q6 hc.ne) ((wW c).trans hd)
 refine ⟨aeq (s := qb s n + 5) (b.mono (by omega) (Nat.le_refl _)) b2 ?_ h.hn (C := 4500000000) (Nat.le_refl _), sI b (by omega) (by omega), RA b bg hc (Q6 hc.ne) (wW c) (by
  have : n * (qb s n + n + 1) ≤ 20 * 4500000000 := Nat.mul_le_mul hn (by omega)
  omega)⟩
 have hN := ZX.kN c
 have h1 : ZX.N c ≤ n := b.N
 have h2 := ZX.aD.1 hc.ne
 unfold xU
 rw [B4, B4, if_pos (by omega)]
 refine Nat.le_trans (Nat.mul_le_mul (show qb s n + 5 + n + 1 ≤ qb s n + n + 6 by omega) (Nat.pow_le_pow_right (by decide) h1)) h.hC
theorem N5 {s n : Nat} {a : ZX} (h : qT s n a) : aI env.P 235 [Po a.l] (aJ zp ((List.range (nl (nf a))).map (wz (nf a)))) := by
 have p1 := k9 h.bz (by have := h.oR; unfold qb at this; omega) (by have := h.hn; omega)
 have hA := h.nfz
 have hNf : 2 ≤ ZX.N (nf a) → Nf (nf a) := fun h2 => gD fun h0 => by rw [h0, jE] at h2; revert h2; decide
 have hle := DP (nf a)
 have hbn := hA.bz.N
 have hn := h.hn
 generalize hAe : nf a = A at *
 refine aB (E := env) (fun _ => 0) [(0, Po a.l)] Tryz.func235 rfl (by kernel_rfl) (by kernel_rfl) (show 1 ≤ 23 by decide) (by simp) ?_
 refine W.sr ?_; simp (disch := omega) [gw]; refine W.lx [0] ?_; simp
 refine W.sr ?_; simp (disch := omega) [gw]; refine W.lx [0, 3] ?_; simp
 refine W.seq ?_
 refine W.sr ?_
 simp (disch := omega) [gw]
 refine aA p1 ?_
 simp (disch := omega) [gw]
 refine W.lx [3, 4] ?_; simp
 refine W.nil 3 3 31 1 (by simp) (by decide) (fun K hK => ?_)
 refine W.lw [3, 4] hK ?_; clear hK K; simp
 refine W.block ?_
 refine W.a9 (fun k σ => ∃ (i ver : Nat) (rows : Pm.Rows) (clk : Nat), σ = ⟨fa [(3, .own 3 ver 0 i), (4, Po (gs A i).l)], rows, clk⟩ ∧ rows 3 = some ⟨ver, 31, 1, emap zp ((List.range i).map (wz A))⟩ ∧ i + k = nl A) (nl A) ?_ ?_
 ·exact ⟨_, .refl, 0, _, _, _, rfl, by simp [emap], by omega⟩
 rintro k _ ⟨i, ver, rows, clk, rfl, hr, I0⟩
 have sE : (emap zp ((List.range i).map (wz A))).length = i := by simp [emap]
 refine W.seq ?_
 have ajU : aI env.P 102 [Po (gs A i).l] (.int .i64 ((ZX.N (gs A i) : Int) - 1)) := lK (gs A i).l (by
  have h1 : ZX.N (gs A i) = (gs A i).l.length := rfl
  rcases aen (a := A) i with h2 | h2 <;> omega)
 refine W.sr ?_
 simp (disch := omega) [gw]
 refine aA ajU ?_
 simp (disch := omega) [gw]
 refine W.lx [3, 4, 10] ?_; simp
 refine W.cond ⟨_, rfl, fun h3 => ?_, fun h3 => ?_⟩
 ·have h2 : 2 ≤ ZX.N (gs A i) := by simp at h3; omega
  have hi : i < nl A := by
   rcases Nat.lt_or_ge i (nl A) with h4 | h4
   ·exact h4
   ·have h5 := (jF A).1
    rw [show nl A = i by omega] at h5; omega
  have hA0 : 2 ≤ ZX.N A := by
   have := (jF A).2 0 (by omega)
   exact this
  have nA := hNf hA0
  have ng := lM nA i
  obtain ⟨t1, t2, t3⟩ := hA.gdz nA ng (DO A i)
  have hw : qz (gs A i) (gd (gs A i)) = wz A i := rfl
  have hs : gd (gs A i) = gs A (i + 1) := rfl
  rw [hw, hs] at t3
  rw [hs] at t1
  generalize hg : (gs A i).l = g at *
  generalize mX : (gs A (i + 1)).l = g2 at *
  refine W.skip ?_
  refine W.block ?_
  refine W.sr ?_
  simp (disch := omega) [gw]
  refine aA t2 ?_
  simp (disch := omega) [gw]
  refine aA t1 ?_
  simp (disch := omega) [gw]
  refine W.lx [3, 4, 5] ?_; simp
  refine W.sr ?_
  simp (disch := omega) [gw]
  refine aA t3 ?_
  simp (disch := omega) [gw, hr, sE]
  refine W.lx [3, 5] ?_; simp
  refine W.b8 (fun K hK => ?_); simp (disch := omega) [gw]
  subst mX
  refine hK _ ⟨k - 1, _, aC _ [3, 4], by omega, i + 1, _, _, _, rfl, ?_, by omega⟩
  rw [List.range_succ, List.map_append]
  simp [emap, zp]
 ·have h2 : ZX.N (gs A i) ≤ 1 := by simp at h3; omega
  have hi : i = nl A := by
   rcases Nat.lt_or_ge i (nl A) with h4 | h4
   ·have := (jF A).2 i h4; omega
   ·omega
  rw [hi] at hr
  have uR : List.take (nl A) (List.map (wz A) (List.range (nl A))) = List.map (wz A) (List.range (nl A)) := List.take_of_length_le (by simp)
  refine W.exit ?_; simp only [pX, if_true, if_false, reduceIte, Nat.reduceEqDiff]
  refine W.sr ?_
  rw [hi]
  simp (disch := omega) [gw, hr, uR]
  refine W.lx [2] ?_; simp
  refine W.ret ?_
  simp [go, hr, uR]
theorem KB {s n : Nat} {a : ZX} (hA : qT s n a) (na : Nf a) (k : Nat) : BZ (qb s n) n (wz a k) := hA.dv na (eU na k).1 (xS na k)
theorem dS (f : Nat → ZX) {m i : Nat} (h : i < m) : nth ((List.range m).map f) i = f i := by
 rw [cS (by simpa using h)]; simp
theorem apC {a : ZX} (h : 0 < nl (nf a)) : Nf (nf a) := by
 have h1 := (jF (nf a)).2 0 h
 exact gD fun h0 => by
  rw [h0, jE] at h1
  have h2 : ZX.N (gs 0 0) = 0 := by decide
  omega
theorem KC {s n : Nat} {a : ZX} (h : qT s n a) : aI env.P 194 [Po a.l] (aJ zp (fl (nf a))) := by
 have hL := N5 h
 have hA := h.nfz
 have hNf := apC (a := a)
 have hle := DP (nf a)
 have hbn := hA.bz.N
 have hn := h.hn
 have hqb := h.oR
 generalize hAe : nf a = A at *
 have BH : ((List.range (nl A)).map (wz A)).length = nl A := by simp
 have hq : ∀ i, i + 1 < nl A → aI env.P 160 [Po (nth ((List.range (nl A)).map (wz A)) i).l, Po (nth ((List.range (nl A)).map (wz A)) (i + 1)).l] (Po (kG A i).l) := fun i hi => by
  have nA := hNf (by omega)
  rw [dS _ (by omega), dS _ hi]
  exact RA (KB hA nA i) (KB hA nA (i + 1)) (eU nA i).1 (eU nA (i + 1)).1 (J8 nA i) (by
   have : n * (qb s n + n + 1) ≤ 20 * 4500000000 := Nat.mul_le_mul hn (by omega)
   omega)
 have RB : ∀ i, i + 1 = nl A → nth ((List.range (nl A)).map (wz A)) i = kG A i := fun i hi => by
  rw [dS _ (by omega), aeo (hNf (by omega)) hi]
 generalize hM : (List.range (nl A)).map (wz A) = M at *
 obtain ⟨m, hm⟩ : ∃ m, m = nl A := ⟨_, rfl⟩
 have QL : (fl A) = (List.range m).map (kG A) := by rw [hm]; rfl
 rw [QL]
 rw [← hm] at BH hq RB hle
 refine aB (E := env) (fun _ => 0) [(0, Po a.l)] Tryz.func194 rfl (by kernel_rfl) (by kernel_rfl) (show 1 ≤ 40 by decide) (by simp) ?_
 refine W.sr ?_; simp (disch := omega) [gw]; refine W.lx [0] ?_; simp
 refine W.sr ?_
 simp (disch := omega) [gw]
 refine aA hL ?_
 simp (disch := omega) [gw]
 refine W.lx [3] ?_; simp
 refine W.sr ?_; simp (disch := omega) [gw, BH]; refine W.lx [3, 4] ?_; simp
 refine W.seq ?_
 refine W.sr ?_; simp (disch := omega) [gw, BH]; refine W.lx [3, 4, 12, 13, 14] ?_; simp
 refine W.block ?_
 refine W.a9 (fun k σ => ∃ (i ver : Nat) (els : List (List PV)) (rows : Pm.Rows) (clk : Nat), σ = ⟨fa [(3, aJ zp M), (4, .own 11 ver 0 m), (12, aJ zp M), (13, .int .i64 m), (14, .int .i64 i)], rows, clk⟩ ∧
  rows 11 = some ⟨ver, 31, 1, els⟩ ∧ els.length = m ∧ (∀ e ∈ els, e.length = 1) ∧ els.take i = emap zp ((List.range i).map (kG A)) ∧ i + k = m) m ?_ ?_
 ·exact ⟨_, .refl, 0, _, List.replicate m [.nil], _, _, rfl, by simp, by simp, by simp, by simp [emap], by omega⟩
 rintro k _ ⟨i, ver, els, rows, clk, rfl, hr, kX, K7, oU, I0⟩
 refine W.sr ?_; simp (disch := omega) [gw]; refine W.lx [3, 4, 12, 13, 14, 15] ?_; simp
 refine W.seq ?_
 refine W.cond ⟨_, rfl, fun h3 => ?_, fun h3 => ?_⟩
 ·have hi : i < m := by simp at h3; omega
  clear h3
  have hiM : i < M.length := by omega
  have sE : i < els.length := by omega
  have hE : ∀ e : List (List PV), e.length = m → (∀ x ∈ e, x.length = 1) → rQ e i 1 = True := fun e h1 h2 => by
   simp only [eq_iff_iff, iff_true]
   exact ⟨e[i]'(by omega), List.getElem?_eq_getElem (by omega), by rw [h2 _ (List.getElem_mem _)]; omega⟩
  have hS : ∀ (e : List (List PV)) (v : PV), e.length = m → (∀ x ∈ e, x.length = 1) → gN e i 0 [v] = e.set i [v] := fun e v h1 h2 => by
   have h4 := h2 _ (List.getElem_mem (show i < e.length by omega))
   rw [gN, List.getElem?_eq_getElem (by omega)]
   simp [List.drop_of_length_le, h4]
  have h1E := hE els kX K7
  have h1S := hS els (Po (nth M i).l) kX K7
  have WJ : (els.set i [Po (nth M i).l]).length = m := by simpa using kX
  have DQ : ∀ e ∈ els.set i [Po (nth M i).l], e.length = 1 := fun e he => by
   rcases List.mem_or_eq_of_mem_set he with h4 | h4
   ·exact K7 e h4
   ·rw [h4]; rfl
  have apD : (els.set i [Po (nth M i).l]).take i = emap zp ((List.range i).map (kG A)) := by rw [fB (Nat.le_refl i)]; exact oU
  have h2E := hE _ WJ DQ
  have h2S := hS (els.set i [Po (nth M i).l]) (Po (kG A i).l) WJ DQ
  have fin : ∀ (e : List (List PV)), e.length = m → (∀ x ∈ e, x.length = 1) → e.take i = emap zp ((List.range i).map (kG A)) → (e.set i [Po (kG A i).l]).take (i + 1) = emap zp ((List.range (i + 1)).map (kG A)) := fun e h1 h2 h4 => by
   rw [kC h4 (by omega), List.range_succ, List.map_append]
   simp [emap, zp]
  refine W.skip ?_
  refine W.eM (fun σ => ∃ (els : List (List PV)) (rows : Pm.Rows) (clk : Nat), σ = ⟨fa [(3, aJ zp M), (4, .own 11 ver 0 m), (12, aJ zp M), (13, .int .i64 m), (14, .int .i64 i)], rows, clk⟩ ∧
   rows 11 = some ⟨ver, 31, 1, els⟩ ∧ els.length = m ∧ (∀ e ∈ els, e.length = 1) ∧ els.take (i + 1) = emap zp ((List.range (i + 1)).map (kG A))) ?_ ?_
  ·refine W.sr ?_; simp (disch := omega) [gw]; refine W.lx [3, 4, 5, 6, 12, 13, 14] ?_; simp
   refine W.sr ?_; simp (disch := omega) [gw, hr, h1E, h1S]; refine W.lx [3, 4, 5, 6, 12, 13, 14] ?_; simp
   refine W.sr ?_; simp (disch := omega) [gw, BH]; refine W.lx [3, 4, 5, 6, 12, 13, 14, 27] ?_; simp
   refine W.cond ⟨_, rfl, fun h3 => ?_, fun h3 => ?_⟩
   ·have hi1 : i + 1 < m := by simp at h3; omega
    have auw : i + 1 < M.length := by omega
    have e1 : ((i : Int) + 1).toNat = i + 1 := by omega
    refine W.b8 (fun K hK => ?_)
    simp (disch := omega) [gw, e1, auw]
    refine aA (hq i hi1) ?_
    simp (disch := omega) [gw, h2E, h2S]
    exact hK _ ⟨_, aC _ [3, 4, 12, 13, 14], _, _, _, rfl, by simp, by simpa using kX, fun e he => by
     rcases List.mem_or_eq_of_mem_set he with h4 | h4
     ·exact DQ e h4
     ·rw [h4]; rfl, fin _ WJ DQ apD⟩
   ·have hi1 : i + 1 = m := by simp at h3; omega
    refine W.skip ?_
    refine ⟨_, aC _ [3, 4, 12, 13, 14], _, _, _, rfl, by simp, WJ, DQ, ?_⟩
    have h4 := fin els kX K7 oU
    rw [← RB i hi1] at h4
    rw [h4]
  rintro _ ⟨els, rows, clk, rfl, hr, kX, K7, oU⟩
  refine W.b8 (fun K hK => ?_); simp (disch := omega) [gw]
  refine hK _ ⟨k - 1, _, aC _ [3, 4, 12, 13, 14], by omega, i + 1, _, _, _, _, rfl, hr, kX, K7, oU, by omega⟩
 ·have hi : i = m := by simp at h3; omega
  subst hi
  rw [bE kX] at oU
  subst oU
  have uR : List.take i (List.map (kG A) (List.range i)) = List.map (kG A) (List.range i) := List.take_of_length_le (by simp)
  refine W.exit ?_; simp only [pX, if_true, if_false, reduceIte, Nat.reduceEqDiff]
  refine W.sr ?_
  simp (disch := omega) [gw, hr, uR]
  refine W.lx [2] ?_; simp
  refine W.ret ?_
  simp [go, hr, uR]
theorem aaJ : aI env.P 46 [.sl [[.int .i64 1]]] (Po (1 : ZX).l) := by
 have := FI [1] (by decide) (by decide)
 exact this
noncomputable def sq (a : ZX) : ZX := if ZX.N a ≤ 1 then nf a else sz' (nf a)
theorem KE {α : Type} {g : α → List PV} {l : List α} {s n : Nat} {a : ZX} (h : qT s n a) (p1 : aI env.P 159 [aJ g l] (Po (nf a).l)) : aI env.P 83 [aJ g l] (Po (sq a).l) := by
 have hqb := h.oR
 have hn := h.hn
 have hA := h.nfz
 have ajU := aer hA.bz (by omega)
 have hsq : sq a = if ZX.N (nf a) ≤ 1 then nf a else sz' (nf a) := by rw [B4]; rfl
 have nA : 2 ≤ ZX.N (nf a) → Nf (nf a) := fun h2 => gD fun h0 => by rw [h0, jE] at h2; revert h2; decide
 rw [hsq]
 generalize nf a = A at *
 refine aB (E := env) (fun _ => 0) [(0, aJ g l)] Tryz.func83 rfl (by kernel_rfl) (by kernel_rfl) (show 1 ≤ 15 by decide) (by simp) ?_
 refine W.sr ?_; simp (disch := omega) [gw]; refine W.lx [0] ?_; simp
 refine W.sr ?_
 simp (disch := omega) [gw]
 refine aA p1 ?_
 simp (disch := omega) [gw]
 refine W.lx [0] ?_; simp
 refine W.seq ?_
 refine W.sr ?_
 simp (disch := omega) [gw]
 refine aA ajU ?_
 simp (disch := omega) [gw]
 refine W.lx [0, 7] ?_; simp
 refine W.cond ⟨_, rfl, fun h3 => ?_, fun h3 => ?_⟩
 ·have h2 : ZX.N A ≤ 1 := by simp at h3; omega
  rw [if_pos h2]
  refine W.sr ?_; simp (disch := omega) [gw]; refine W.lx [2] ?_; simp
  refine W.ret ?_
  simp [go]
 ·have h2 : 2 ≤ ZX.N A := by simp at h3; omega
  obtain ⟨t1, t2, t3⟩ := hA.gdz (nA h2) (nA h2) (ZX.dv.refl A)
  rw [if_neg (by omega), show sz' A = qz A (gd A) from rfl]
  generalize (gd A).l = g1 at *
  refine W.skip ?_
  refine W.sr ?_
  simp (disch := omega) [gw]
  refine aA t2 ?_
  simp (disch := omega) [gw]
  refine aA t1 ?_
  simp (disch := omega) [gw]
  refine aA t3 ?_
  simp (disch := omega) [gw]
  refine W.lx [2] ?_; simp
  refine W.ret ?_
  simp [go]
theorem AK {s n : Nat} {a : ZX} (h : qT s n a) : aI env.P 83 [Po a.l] (Po (sq a).l) := by
 have hqb := h.oR
 have hn := h.hn
 exact KE h (k9 h.bz (by unfold qb at hqb; omega) (by omega))
theorem aet {s n : Nat} {a : ZX} (h : qT s n a) (h0 : a ≠ 0) : aI env.P 120 [Po a.l] (Po (oz (nf a)).l) := by
 have hqb := h.oR
 have hn := h.hn
 have qO : s < 1099511627774 := by unfold qb at hqb; omega
 have p1 := k9 h.bz qO (by omega)
 have hA := h.nfz
 have nA := gD h0
 have hF := KC hA
 rw [J2] at hF
 have hle := DP (nf a)
 have hNA : ZX.N (nf a) ≤ n := hA.bz.N
 have qG : (nf a).l.length ≠ 0 := fun h1 => by have h2 := ZX.aD.1 nA.ne; have h3 : ZX.N (nf a) = (nf a).l.length := rfl; omega
 generalize nf a = A at *
 have hmul : ∀ i, aI env.P 39 [Po (pf A (fun k => k % 2 == 0) i).l, Po (kG A i).l] (Po (pf A (fun k => k % 2 == 0) i * kG A i).l) := fun i => by
  have b1 := hA.dv nA (uA nA (fun k => k % 2 == 0) i) (xT nA _ i)
  have b2 := hA.dv nA (tZ nA i).1 (F3 nA i)
  exact u9 (G6 b1) (G6 b2) (by omega)
 obtain ⟨m, hm⟩ : ∃ m, m = nl A := ⟨_, rfl⟩
 have hoz : oz A = pf A (fun k => k % 2 == 0) m := by rw [hm]; rfl
 have QL : fl A = (List.range m).map (kG A) := by rw [hm]; rfl
 rw [hoz]
 rw [QL] at hF
 have BH : ((List.range m).map (kG A)).length = m := by simp
 have sJ : ∀ i, i < m → nth ((List.range m).map (kG A)) i = kG A i := fun i hi => dS _ hi
 generalize (List.range m).map (kG A) = L at *
 have h1 := aaJ
 rw [show (1 : ZX) = pf A (fun k => k % 2 == 0) 0 from rfl] at h1
 generalize hg : pf A (fun k => k % 2 == 0) 0 = g0 at *
 refine aB (E := env) (fun _ => 0) [(0, Po a.l)] Tryz.func120 rfl (by kernel_rfl) (by kernel_rfl) (show 1 ≤ 29 by decide) (by simp) ?_
 refine W.sr ?_; simp (disch := omega) [gw]; refine W.lx [0] ?_; simp
 refine W.sr ?_
 simp (disch := omega) [gw]
 refine aA p1 ?_
 simp (disch := omega) [gw]
 refine W.lx [0] ?_; simp
 refine W.seq ?_
 refine W.sr ?_; simp (disch := omega) [gw]; refine W.lx [0, 10] ?_; simp
 refine W.cond ⟨_, rfl, fun h3 => ?_, fun h3 => ?_⟩
 ·simp at h3; exact absurd (by rw [h3]; rfl) qG
 clear h3
 refine W.skip ?_
 refine W.sr ?_
 simp (disch := omega) [gw]
 refine aA h1 ?_
 simp (disch := omega) [gw]
 refine W.lx [0, 3] ?_; simp
 refine W.seq ?_
 refine W.sr ?_
 simp (disch := omega) [gw]
 refine aA hF ?_
 simp (disch := omega) [gw, BH]
 refine W.lx [3, 14, 15, 16] ?_; simp
 subst hg
 refine W.block ?_
 refine W.a9 (fun k σ => ∃ (i : Nat) (rows : Pm.Rows) (clk : Nat), σ = ⟨fa [(3, Po (pf A (fun k => k % 2 == 0) i).l), (14, aJ zp L), (15, .int .i64 m), (16, .int .i64 i)], rows, clk⟩ ∧ i + k = m) m ?_ ?_
 ·exact ⟨_, .refl, 0, _, _, rfl, by omega⟩
 rintro k _ ⟨i, rows, clk, rfl, I0⟩
 refine W.sr ?_; simp (disch := omega) [gw]; refine W.lx [3, 14, 15, 16, 17] ?_; simp
 refine W.seq ?_
 refine W.cond ⟨_, rfl, fun h => ?_, fun h => ?_⟩
 ·have hi : i < m := by simp at h; omega
  have hiL : i < L.length := by omega
  have ht := hmul i
  have uB := sJ i hi
  have hpf : pf A (fun k => k % 2 == 0) (i + 1) = if i % 2 == 0 then pf A (fun k => k % 2 == 0) i * kG A i else pf A (fun k => k % 2 == 0) i := rfl
  generalize mX : pf A (fun k => k % 2 == 0) (i + 1) = g2 at *
  generalize pf A (fun k => k % 2 == 0) i = g at *
  have e2 : ((i : Int) % 2 == 0) = (i % 2 == 0) := by rw [Bool.eq_iff_iff, beq_iff_eq, beq_iff_eq]; omega
  refine W.skip ?_
  refine W.eM (fun σ => ∃ (rows : Pm.Rows) (clk : Nat), σ = ⟨fa [(3, Po g2.l), (14, aJ zp L), (15, .int .i64 m), (16, .int .i64 i)], rows, clk⟩) ?_ ?_
  ·refine W.sr ?_; simp (disch := omega) [gw, uB]; refine W.lx [3, 4, 5, 14, 15, 16] ?_; simp
   refine W.sr ?_; simp (disch := omega) [gw, e2]; refine W.lx [3, 5, 14, 15, 16, 23] ?_; simp
   refine W.cond ⟨_, rfl, fun h => ?_, fun h => ?_⟩
   ·rw [h, if_pos rfl] at hpf
    rw [hpf]
    refine W.b8 (fun K hK => ?_)
    simp (disch := omega) [gw]
    refine aA ht ?_
    simp (disch := omega) [gw]
    exact hK _ ⟨_, aC _ [3, 14, 15, 16], _, _, rfl⟩
   ·rw [h, if_neg (by decide)] at hpf
    rw [hpf]
    refine W.skip ?_
    exact ⟨_, aC _ [3, 14, 15, 16], _, _, rfl⟩
  rintro _ ⟨rows, clk, rfl⟩
  subst mX
  refine W.b8 (fun K hK => ?_); simp (disch := omega) [gw]
  refine hK _ ⟨k - 1, _, aC _ [3, 14, 15, 16], by omega, i + 1, _, _, rfl, by omega⟩
 ·have hi : i = m := by simp at h; omega
  subst hi
  refine W.exit ?_; simp only [pX, if_true, if_false, reduceIte, Nat.reduceEqDiff]
  refine W.sr ?_; simp (disch := omega) [gw]; refine W.lx [2] ?_; simp
  refine W.ret ?_
  simp [go]
@[simp] theorem U0 : ([] : List Int).length = 0 := rfl
theorem BZ.yy {h n : Nat} {a : ZX} (b : BZ h n a) (hh : h ≤ YY) (hn : n ≤ 1099511627775) : Bd 2 YY 1099511627775 a.l := Bd.mono b hh hn
theorem j2 {h n : Nat} {a : ZX} (b : BZ h n a) (h1 : 1 ≤ h) (hh : h ≤ YY) (hn : n < 1099511627776) : aI env.P 111 [PI a.l] (PI (nf a).l) := by
 have hP := z8 a.l b a.c h1 hh hn
 have e : pV a.l = (nf a).l := rfl
 rw [e] at hP
 generalize j1 a.l = c at *
 generalize (nf a).l = d at *
 generalize a.l = x at *
 refine aB (E := env) (fun _ => 0) [(0, PI x)] Tryz.func111 rfl (by kernel_rfl) (by kernel_rfl) (show 1 ≤ 11 by decide) (by simp) ?_
 refine W.sr ?_; simp (disch := omega) [gw]; refine W.lx [0] ?_; simp
 refine W.sr ?_
 simp (disch := omega) [gw]
 refine aA hP ?_
 simp (disch := omega) [gw]
 refine W.lx [4] ?_; simp
 refine W.sr ?_; simp (disch := omega) [gw]; refine W.lx [2] ?_; simp
 refine W.ret ?_
 simp [go]
theorem oB {h n : Nat} {a : ZX} (b : BZ h n a) (hh : h ≤ YY) (hn : n ≤ 1000) : aI env.P 125 [PI a.l] (PI (ZX.bK a).l) := by
 have hlen := b.len
 have e0 : (ZX.bK a).l = aM ((List.range (a.l.length - 1)).map fun k => nth a.l (k + 1) * ((k : Int) + 1)) := rfl
 rw [e0]
 have hz := fun k => b.nth k
 generalize a.l = x at *
 generalize hm : x.length - 1 = m at *
 refine aB (E := env) (fun id => if id = 5 then 2 else 0) [(0, PI x)] Tryz.func125 rfl (by kernel_rfl) (by kernel_rfl) (show 1 ≤ 23 by decide) (by simp) ?_
 refine W.sr ?_; simp (disch := omega) [gw]; refine W.lx [0] ?_; simp
 refine W.sr ?_; simp (disch := omega) [gw]; refine W.lx [0, 3] ?_; simp
 refine W.nil 3 3 50 4 (by simp) (by decide) (fun K hK => ?_)
 refine W.lw [0, 3] hK ?_; clear hK K; simp
 refine W.seq ?_
 refine W.sr ?_; simp (disch := omega) [gw]; refine W.lx [0, 3, 4] ?_; simp
 refine W.block ?_
 refine W.a9 (fun k σ => ∃ (i ver : Nat) (rows : Pm.Rows) (clk : Nat), σ = ⟨fa [(0, PI x), (3, .own 3 ver 0 i), (4, .int .i64 ((i : Int) + 1))], rows, clk⟩ ∧
  rows 3 = some ⟨ver, 50, 4, emap ri ((List.range i).map fun k => nth x (k + 1) * ((k : Int) + 1))⟩ ∧ i + k = m) m ?_ ?_
 ·exact ⟨_, .refl, 0, _, _, _, rfl, by simp [emap], by omega⟩
 rintro k _ ⟨i, ver, rows, clk, rfl, hr, I0⟩
 have sE : (emap ri ((List.range i).map fun k => nth x (k + 1) * ((k : Int) + 1))).length = i := by simp [emap]
 refine W.seq ?_
 refine W.sr ?_; simp (disch := omega) [gw]; refine W.lx [0, 3, 4, 8] ?_; simp
 refine W.cond ⟨_, rfl, fun h => ?_, fun h => ?_⟩
 ·have hi : i + 1 < x.length := by simp at h; omega
  have o1 := JF ((i : Int) + 1) (by omega)
  have hzi := hz (i + 1)
  have m1 := DF (nth x (i + 1)) ((i : Int) + 1) (Nat.le_trans hzi hh) (Nat.le_trans (cN (k := 10) (by decide) (by show ((i : Int) + 1).natAbs < 1024; omega)) (by decide))
  have e1 : ((i : Int) + 1).toNat = i + 1 := by omega
  have er : (List.range (i + 1)).map (fun k => nth x (k + 1) * ((k : Int) + 1)) = (List.range i).map (fun k => nth x (k + 1) * ((k : Int) + 1)) ++ [nth x (i + 1) * ((i : Int) + 1)] := by
   rw [List.range_succ, List.map_append]; simp
  have auA : ((List.range i).map fun k => nth x (k + 1) * ((k : Int) + 1)).length = i := by simp
  generalize (List.range i).map (fun k => nth x (k + 1) * ((k : Int) + 1)) = acc at *
  generalize hq : nth x (i + 1) * ((i : Int) + 1) = q at *
  refine W.skip ?_
  refine W.seq ?_
  refine W.block ?_
  refine W.M3 (fun K hK => ?_)
  rw [if_pos rfl, dQ]
  simp (disch := omega) [gw, e1]
  refine aA o1 ?_
  simp (disch := omega) [gw]
  refine aA m1 ?_
  simp (disch := omega) [gw, hr, auA]
  refine W.lw [0, 3, 4] hK ?_; clear hK K; simp
  refine W.b8 (fun K hK => ?_); simp (disch := omega) [gw]
  refine hK _ ⟨k - 1, _, aC _ [0, 3, 4], by omega, i + 1, _, _, _, by rw [Int.natCast_add]; rfl, by rw [er]; simp, by omega⟩
 ·have hi : i = m := by simp at h; omega
  subst hi
  have fA : ((List.range i).map fun k => nth x (k + 1) * ((k : Int) + 1)).length = i := by simp
  generalize (List.range i).map (fun k => nth x (k + 1) * ((k : Int) + 1)) = acc at *
  have ez := bE fA
  refine W.exit ?_; simp only [pX, if_true, if_false, reduceIte, Nat.reduceEqDiff]
  refine W.sr ?_
  simp (disch := omega) [gw, hr, ez]
  refine aA (nD acc (by omega)) ?_
  simp (disch := omega) [gw]
  refine W.lx [2] ?_; simp
  refine W.ret ?_
  simp [go]
theorem p7 : aI env.P 80 [.sl [[.int .i64 1]]] (PI (1 : ZX).l) := xO [1] (by decide) (by decide)
theorem DR {a : ZX} {k : Nat} (hk : k < 1099511627776) (h2 : ∀ i, i < k → aI env.P 54 [PI (a ^ i).l, PI a.l] (PI (a ^ (i + 1)).l)) : aI env.P 55 [PI a.l, .int .i64 k] (PI (a ^ k).l) := by
 have h1 := p7
 rw [show (1 : ZX) = a ^ 0 from rfl] at h1
 refine aB (E := env) (fun _ => 0) [(0, PI a.l), (1, .int .i64 k)] Tryz.func55 rfl (by kernel_rfl) (by kernel_rfl) (show 2 ≤ 18 by decide) (by simp) ?_
 refine W.sr ?_; simp (disch := omega) [gw]; refine W.lx [0, 1] ?_; simp
 generalize hg : a ^ 0 = g0 at *
 refine W.sr ?_
 simp (disch := omega) [gw]
 refine aA h1 ?_
 simp (disch := omega) [gw]
 refine W.lx [0, 1, 5] ?_; simp
 refine W.seq ?_
 refine W.sr ?_; simp (disch := omega) [gw]; refine W.lx [0, 1, 5, 6] ?_; simp
 subst hg
 refine W.block ?_
 refine W.a9 (fun j σ => ∃ (i : Nat) (rows : Pm.Rows) (clk : Nat), σ = ⟨fa [(0, PI a.l), (1, .int .i64 k), (5, PI (a ^ i).l), (6, .int .i64 i)], rows, clk⟩ ∧ i + j = k) k ?_ ?_
 ·exact ⟨_, .refl, 0, _, _, rfl, by omega⟩
 rintro j _ ⟨i, rows, clk, rfl, I0⟩
 refine W.seq ?_
 refine W.sr ?_; simp (disch := omega) [gw]; refine W.lx [0, 1, 5, 6, 11] ?_; simp
 refine W.cond ⟨_, rfl, fun h => ?_, fun h => ?_⟩
 ·have hi : i < k := by simp at h; omega
  have ht := h2 i hi
  generalize mX : a ^ (i + 1) = g2 at *
  generalize a ^ i = g at *
  refine W.skip ?_
  refine W.seq ?_
  refine W.block ?_
  refine W.b8 (fun K hK => ?_)
  simp (disch := omega) [gw]
  refine aA ht ?_
  simp (disch := omega) [gw]
  refine W.lw [0, 1, 5, 6] hK ?_; clear hK K; simp
  refine W.b8 (fun K hK => ?_); simp (disch := omega) [gw]
  subst mX
  refine hK _ ⟨j - 1, _, aC _ [0, 1, 5, 6], by omega, i + 1, _, _, rfl, by omega⟩
 ·have hi : i = k := by simp at h; omega
  subst hi
  refine W.exit ?_; simp only [pX, if_true, if_false, reduceIte, Nat.reduceEqDiff]
  refine W.sr ?_; simp (disch := omega) [gw]; refine W.lx [4] ?_; simp
  refine W.ret ?_
  simp [go]
end Go.Proofs.YtbbjgncblhfegaaGreat
