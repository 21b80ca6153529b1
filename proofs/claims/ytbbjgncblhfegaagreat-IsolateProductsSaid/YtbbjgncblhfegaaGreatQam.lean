import Derived.Test.YtbbjgncblhfegaaGreatQaf
import Derived.Test.YtbbjgncblhfegaaGreatQal
set_option linter.unusedSimpArgs false
set_option linter.unusedVariables false
namespace Pm
structure ZX where
 l : List Int
 c : Cn l
namespace ZX
theorem ext {x y : ZX} (h : ∀ t, V t x.l = V t y.l) : x = y := by
 obtain ⟨x, hx⟩ := x
 obtain ⟨y, hy⟩ := y
 have := Cn.ext hx hy h
 subst this
 rfl
def of (x : List Int) : ZX := ⟨aM x, Cn.cut x⟩
def K (c : Int) : ZX := of [c]
instance : Zero ZX := ⟨⟨[], Cn.nil⟩⟩
instance : One ZX := ⟨K 1⟩
instance : Add ZX := ⟨fun x y => ⟨fU x.l y.l, Cn.fU _ _⟩⟩
instance : Mul ZX := ⟨fun x y => ⟨bI x.l y.l, Cn.bI _ _⟩⟩
instance : Neg ZX := ⟨fun x => ⟨fD x.l, Cn.fD _⟩⟩
instance : Sub ZX := ⟨fun x y => ⟨dZ x.l y.l, Cn.dZ _ _⟩⟩
def pow (x : ZX) : Nat → ZX
 | 0 => 1
 | n + 1 => pow x n * x
instance : HPow ZX Nat ZX := ⟨pow⟩
instance : NatCast ZX := ⟨fun n => K n⟩
instance (n : Nat) : OfNat ZX n := ⟨K n⟩
instance : IntCast ZX := ⟨fun n => K n⟩
instance : SMul Nat ZX := ⟨fun n x => K n * x⟩
instance : SMul Int ZX := ⟨fun n x => K n * x⟩
variable {t : Int}
theorem M0 (x : List Int) : V t (of x).l = V t x := cA x
theorem rW (c : Int) : V t (K c).l = c := by rw [K, M0]; simp [V]
theorem rX : V t (0 : ZX).l = 0 := rW 0
theorem C0 : V t (1 : ZX).l = 1 := rW 1
theorem j5 (x y : ZX) : V t (x + y).l = V t x.l + V t y.l := o0 _ _
theorem c7 (x y : ZX) : V t (x * y).l = V t x.l * V t y.l := cN _ _
theorem C2 (x : ZX) : V t (-x).l = -V t x.l := y5 _
theorem aou (x y : ZX) : V t (x - y).l = V t x.l - V t y.l := gJ _ _
theorem PM (x : ZX) : ∀ n : Nat, V t (x ^ n).l = V t x.l ^ n
 | 0 => by show V t (1 : ZX).l = _; rw [C0, Int.pow_zero]
 | n + 1 => by show V t ((x ^ n) * x).l = _; rw [c7, PM x n, Int.pow_succ]
theorem PN (n : Nat) : V t (OfNat.ofNat n : ZX).l = n := rW n
theorem afS (n : Int) : V t (n : ZX).l = n := rW n
theorem PO (n : Int) (x : ZX) : V t (n • x).l = n * V t x.l := by show V t (K n * x).l = _; rw [c7, rW]
instance : Lean.Grind.CommRing ZX where
 add_zero x := ext fun t => by rw [j5, rX]; omega
 add_comm x y := ext fun t => by rw [j5, j5]; omega
 add_assoc x y z := ext fun t => by simp only [j5]; omega
 mul_assoc x y z := ext fun t => by simp only [c7]; grind
 mul_one x := ext fun t => by rw [c7, C0]; omega
 one_mul x := ext fun t => by rw [c7, C0]; omega
 left_distrib x y z := ext fun t => by simp only [c7, j5]; grind
 right_distrib x y z := ext fun t => by simp only [c7, j5]; grind
 zero_mul x := ext fun t => by rw [c7, rX]; omega
 mul_zero x := ext fun t => by rw [c7, rX]; omega
 pow_zero x := ext fun t => by rw [PM, C0, Int.pow_zero]
 pow_succ x n := ext fun t => by rw [c7, PM, PM, Int.pow_succ]
 ofNat_succ n := ext fun t => by rw [j5, PN, PN, C0]; omega
 ofNat_eq_natCast n := rfl
 nsmul_eq_natCast_mul n x := rfl
 neg_add_cancel x := ext fun t => by rw [j5, C2, rX]; omega
 sub_eq_add_neg x y := ext fun t => by rw [aou, j5, C2]; omega
 neg_zsmul n x := ext fun t => by rw [PO, C2, PO]; grind
 zsmul_natCast_eq_nsmul n x := rfl
 intCast_ofNat n := rfl
 intCast_neg n := ext fun t => by rw [afS, C2, afS]
 mul_comm x y := ext fun t => by rw [c7, c7, Int.mul_comm]
def N (x : ZX) : Nat := x.l.length
theorem aG {x : ZX} : x ≠ 0 ↔ 0 < N x := by
 constructor
 ·intro h
  rcases Nat.eq_zero_or_pos (N x) with h1 | h1
  ·exfalso
   apply h
   have : x.l = [] := List.eq_nil_of_length_eq_zero h1
   exact ext fun t => by rw [this, rX]; rfl
  ·exact h1
 ·rintro h rfl
  have : N (0 : ZX) = 0 := by decide
  omega
theorem YH : N (0 : ZX) = 0 := by decide
theorem kB {x y : ZX} (hx : x ≠ 0) (hy : y ≠ 0) : N (x * y) = N x + N y - 1 := iN x.c y.c (aG.1 hx) (aG.1 hy)
theorem kZ {x y : ZX} (hx : x ≠ 0) (hy : y ≠ 0) : x * y ≠ 0 := by
 rw [aG, kB hx hy]
 have := aG.1 hx
 have := aG.1 hy
 omega
theorem pG {x y : ZX} (h : x * y = 0) : x = 0 ∨ y = 0 := by
 by_cases hx : x = 0
 ·exact .inl hx
 ·by_cases hy : y = 0
  ·exact .inr hy
  ·exact absurd h (kZ hx hy)
theorem C3 (x y : ZX) : x * y = y * x := by grind
theorem cancel {x y z : ZX} (hz : z ≠ 0) (h : z * x = z * y) : x = y := by
 have h1 : z * (x - y) = 0 := by grind
 rcases pG h1 with h2 | h2
 ·exact absurd h2 hz
 ·grind
theorem rY {c : Int} (h : c ≠ 0) : K c ≠ 0 := fun e => h (by
 have := rW (t := 0) c
 rw [e, rX] at this; omega)
theorem N_K {c : Int} (h : c ≠ 0) : N (K c) = 1 := by
 show (aM [c]).length = 1
 rw [show aM [c] = [c] from iZ h []]; rfl
theorem mU (c d : Int) : K c * K d = K (c * d) := ext fun t => by rw [c7, rW, rW, rW]
theorem mV {x : ZX} (h : N x = 1) : ∃ c, c ≠ 0 ∧ x = K c := by
 obtain ⟨l, hl⟩ := x
 match l, hl, h with
 | [c], hl, _ =>
  have hc : c ≠ 0 := by
   have := cI hl (by simp)
   simpa [lead, p0] using this
  exact ⟨c, hc, ext fun t => by rw [rW]; simp [V]⟩
theorem kH {c : Int} {x y q : ZX} (hc : c ≠ 0) (hx : x ≠ 0) (h : K c * x = q * y) : q ≠ 0 ∧ y ≠ 0 := by
 have h1 := kZ (rY hc) hx
 rw [h] at h1
 constructor
 ·rintro rfl; apply h1; grind
 ·rintro rfl; apply h1; grind
theorem pH : (1 : ZX) ≠ 0 := rY (by decide)
theorem wJ : N (1 : ZX) = 1 := N_K (by decide)
def dv (y x : ZX) : Prop := ∃ c : Int, c ≠ 0 ∧ ∃ q, K c * x = q * y
theorem dv.refl (x : ZX) : dv x x := ⟨1, by decide, K 1, rfl⟩
theorem dv.zero (x : ZX) : dv x 0 := ⟨1, by decide, 0, by grind⟩
theorem dv.trans {x y z : ZX} (h1 : dv x y) (h2 : dv y z) : dv x z := by
 obtain ⟨c, hc, q, h1⟩ := h1
 obtain ⟨d, hd, r, h2⟩ := h2
 exact ⟨c * d, Int.mul_ne_zero hc hd, q * r, by rw [← mU]; grind⟩
theorem dv.mul_right {x y : ZX} (h : dv x y) (z : ZX) : dv x (y * z) := by
 obtain ⟨c, hc, q, h⟩ := h
 exact ⟨c, hc, q * z, by grind⟩
theorem dv.mul_left {x y : ZX} (h : dv x y) (z : ZX) : dv x (z * y) := by
 obtain ⟨c, hc, q, h⟩ := h
 exact ⟨c, hc, q * z, by grind⟩
theorem dv.mul {x y z w : ZX} (h1 : dv x y) (h2 : dv z w) : dv (x * z) (y * w) := by
 obtain ⟨c, hc, q, h1⟩ := h1
 obtain ⟨d, hd, r, h2⟩ := h2
 exact ⟨c * d, Int.mul_ne_zero hc hd, q * r, by rw [← mU]; grind⟩
theorem dv.add {x y z : ZX} (h1 : dv x y) (h2 : dv x z) : dv x (y + z) := by
 obtain ⟨c, hc, q, h1⟩ := h1
 obtain ⟨d, hd, r, h2⟩ := h2
 exact ⟨c * d, Int.mul_ne_zero hc hd, K d * q + K c * r, by rw [← mU]; grind⟩
theorem dv.JC {x y : ZX} {c : Int} (hc : c ≠ 0) (h : dv x (K c * y)) : dv x y := by
 obtain ⟨d, hd, q, h⟩ := h
 exact ⟨d * c, Int.mul_ne_zero hd hc, q, by rw [← mU]; grind⟩
theorem dv.pI {x y : ZX} (h : dv x y) (hy : y ≠ 0) : N x ≤ N y := by
 obtain ⟨c, hc, q, h⟩ := h
 obtain ⟨h1, h2⟩ := kH hc hy h
 have h3 : N (K c * y) = N y := by rw [kB (rY hc) hy, N_K hc]; have := aG.1 hy; omega
 rw [h, kB h1 h2] at h3
 have := aG.1 h1
 omega
theorem dv.ne {x y : ZX} (h : dv x y) (hy : y ≠ 0) : x ≠ 0 := by
 obtain ⟨c, hc, q, h⟩ := h
 exact (kH hc hy h).2
theorem xN {x : ZX} (h : dv 0 x) : x = 0 := by
 obtain ⟨c, hc, q, h⟩ := h
 have h2 : K c * x = 0 := by grind
 exact (pG h2).resolve_left (rY hc)
theorem aov {c : Int} (hc : c ≠ 0) (x : ZX) : dv (K c) x := ⟨c, hc, x, by grind⟩
theorem adH {x y : ZX} (h : dv x y) (hy : y ≠ 0) (hN : N x = N y) : dv y x := by
 obtain ⟨c, hc, q, h⟩ := h
 obtain ⟨h1, h2⟩ := kH hc hy h
 have h3 : N (K c * y) = N y := by rw [kB (rY hc) hy, N_K hc]; have := aG.1 hy; omega
 rw [h, kB h1 h2] at h3
 have h4 := aG.1 h1
 have h5 := aG.1 h2
 obtain ⟨d, hd, rfl⟩ := mV (x := q) (by omega)
 exact ⟨d, hd, K c, by rw [h]⟩
theorem aiU (a : ZX) {b : ZX} (hb : b ≠ 0) : ∃ c : Int, c ≠ 0 ∧ ∃ q r, K c * a = q * b + r ∧ N r < N b := by
 have h0 := aG.1 hb
 obtain ⟨c1, c2⟩ := y8 (b := b.l) a.c
 refine ⟨lead b.l ^ iA a.l b.l, Int.pow_ne_zero (cI b.c h0), ⟨_, c1⟩, ⟨_, c2⟩, ext fun t => ?_, ?_⟩
 ·rw [c7, rW, j5, c7]
  exact (XR t a.l b.l).symm
 ·have := EL (a := a.l) h0
  show (vX a.l b.l).2.length < b.l.length
  have : 0 < b.l.length := h0
  omega
structure oG (g a b : ZX) : Prop where
 l : dv g a
 r : dv g b
 uv : ∃ c : Int, c ≠ 0 ∧ ∃ u v, K c * g = u * a + v * b
theorem oG.least {g a b d : ZX} (h : oG g a b) (ha : dv d a) (hb : dv d b) : dv d g := by
 obtain ⟨c, hc, u, v, e⟩ := h.uv
 refine dv.JC hc ?_
 rw [e]
 exact (ha.mul_left u).add (hb.mul_left v)
theorem oG.ne {g a b : ZX} (h : oG g a b) (ha : a ≠ 0 ∨ b ≠ 0) : g ≠ 0 := by
 rintro rfl
 rcases ha with h1 | h1
 ·exact h1 (xN h.l)
 ·exact h1 (xN h.r)
theorem oG.zero (a : ZX) : oG a a 0 := ⟨dv.refl a, dv.zero a, 1, by decide, 1, 0, by show (1 : ZX) * a = _; grind⟩
theorem oG.symm {g a b : ZX} (h : oG g a b) : oG g b a := by
 obtain ⟨c, hc, u, v, e⟩ := h.uv
 exact ⟨h.r, h.l, c, hc, v, u, by grind⟩
theorem oG.step {g a b q r : ZX} {c : Int} (hc : c ≠ 0) (e : K c * a = q * b + r) (h : oG g b r) : oG g a b := by
 obtain ⟨d, hd, u, v, e2⟩ := h.uv
 refine ⟨dv.JC hc ?_, h.l, d, hd, v * K c, u - v * q, by grind⟩
 rw [e]
 exact (h.l.mul_left q).add h.r
theorem iE : ∀ (n : Nat) (a b : ZX), N b ≤ n → ∃ g, oG g a b
 | 0, a, b, h => by
  have : b = 0 := Classical.byContradiction fun hb => by have := aG.1 hb; omega
  subst this
  exact ⟨a, oG.zero a⟩
 | n + 1, a, b, h => by
  by_cases hb : b = 0
  ·subst hb; exact ⟨a, oG.zero a⟩
  ·obtain ⟨c, hc, q, r, e, hr⟩ := aiU a hb
   obtain ⟨g, hg⟩ := iE n b r (by omega)
   exact ⟨g, hg.step hc e⟩
structure oC (p : ZX) : Prop where
 deg : 2 ≤ N p
 irr : ∀ d, dv d p → N d = 1 ∨ N d = N p
theorem oC.ne {p : ZX} (h : oC p) : p ≠ 0 := aG.2 (by have := h.deg; omega)
theorem oC.afT {p a b : ZX} (hp : oC p) (h : dv p (a * b)) : dv p a ∨ dv p b := by
 obtain ⟨g, hg⟩ := iE _ p a (Nat.le_refl _)
 rcases hp.irr g hg.l with h1 | h1
 ·right
  obtain ⟨k, hk, rfl⟩ := mV h1
  obtain ⟨c, hc, u, v, e⟩ := hg.uv
  refine dv.JC (c := c * k) (Int.mul_ne_zero hc hk) ?_
  have e2 : K (c * k) * b = (u * b) * p + v * (a * b) := by rw [← mU]; grind
  rw [e2]
  exact ((dv.refl p).mul_left _).add (h.mul_left v)
 ·left
  exact (adH hg.l hp.ne h1).trans hg.r
theorem z0 : ∀ (n : Nat) (a : ZX), N a ≤ n → 2 ≤ N a → ∃ p, oC p ∧ dv p a
 | 0, a, h, h2 => by omega
 | n + 1, a, h, h2 => by
  by_cases hi : ∃ d, dv d a ∧ N d ≠ 1 ∧ N d ≠ N a
  ·obtain ⟨d, hd, h3, h4⟩ := hi
   have h5 := hd.pI (aG.2 (by omega))
   have h6 := aG.1 (hd.ne (aG.2 (by omega)))
   obtain ⟨p, hp, hpd⟩ := z0 n d (by omega) (by omega)
   exact ⟨p, hp, hpd.trans hd⟩
  ·refine ⟨a, ⟨h2, fun d hd => ?_⟩, dv.refl a⟩
   by_cases h3 : N d = 1
   ·exact .inl h3
   ·by_cases h4 : N d = N a
    ·exact .inr h4
    ·exact absurd ⟨d, hd, h3, h4⟩ hi
theorem pow_succ' (p : ZX) (k : Nat) : p ^ (k + 1) = p ^ k * p := rfl
theorem gC (p : ZX) : p ^ 0 = 1 := rfl
theorem pow_add' (p : ZX) (j : Nat) : ∀ k, p ^ (j + k) = p ^ j * p ^ k
 | 0 => by rw [Nat.add_zero, gC]; grind
 | k + 1 => by rw [← Nat.add_assoc, pow_succ', pow_succ', pow_add' p j k]; grind
theorem E3 {p : ZX} (hp : p ≠ 0) : ∀ k : Nat, p ^ k ≠ 0
 | 0 => pH
 | k + 1 => kZ (E3 hp k) hp
theorem afU {p : ZX} (hp : oC p) : ∀ k : Nat, k < N (p ^ k)
 | 0 => by rw [gC, wJ]; omega
 | k + 1 => by
  rw [pow_succ', kB (E3 hp.ne k) hp.ne]
  have := afU hp k
  have := hp.deg
  omega
theorem ZH {p : ZX} {j k : Nat} (h : j ≤ k) : dv (p ^ j) (p ^ k) := by
 obtain ⟨d, rfl⟩ := Nat.exists_eq_add_of_le h
 rw [pow_add']
 exact (dv.refl _).mul_right _
theorem TQ {p a : ZX} (hp : oC p) (ha : a ≠ 0) : ∃ k, dv (p ^ k) a ∧ ¬ dv (p ^ (k + 1)) a := by
 have key : ∀ n, (∃ k, k ≤ n ∧ dv (p ^ k) a ∧ ¬ dv (p ^ (k + 1)) a) ∨ dv (p ^ (n + 1)) a := by
  intro n
  induction n with
  | zero =>
   by_cases h : dv (p ^ 1) a
   ·exact .inr h
   ·exact .inl ⟨0, Nat.le_refl _, aov (by decide) a, h⟩
  | succ n ih =>
   rcases ih with ⟨k, h1, h2⟩ | ih
   ·exact .inl ⟨k, by omega, h2⟩
   ·by_cases h : dv (p ^ (n + 2)) a
    ·exact .inr h
    ·exact .inl ⟨n + 1, Nat.le_refl _, ih, h⟩
 rcases key (N a) with ⟨k, _, h⟩ | h
 ·exact ⟨k, h⟩
 ·have h1 := h.pI ha
  have h2 := afU hp (N a + 1)
  omega
open Classical in
noncomputable def mu (p a : ZX) : Nat := if h : ∃ k, dv (p ^ k) a ∧ ¬ dv (p ^ (k + 1)) a then h.choose else 0
theorem PQ {p a : ZX} (hp : oC p) (ha : a ≠ 0) : dv (p ^ mu p a) a ∧ ¬ dv (p ^ (mu p a + 1)) a := by
 have h := TQ hp ha
 unfold mu
 rw [dif_pos h]
 exact h.choose_spec
theorem pJ {p a : ZX} (hp : oC p) (ha : a ≠ 0) {k : Nat} : k ≤ mu p a ↔ dv (p ^ k) a := by
 obtain ⟨h1, h2⟩ := PQ hp ha
 constructor
 ·intro h; exact (ZH h).trans h1
 ·intro h
  rcases Nat.lt_or_ge (mu p a) k with h3 | h3
  ·exact absurd ((ZH h3).trans h) h2
  ·exact h3
theorem z5 {p a : ZX} (hp : oC p) (ha : a ≠ 0) : ∃ c : Int, c ≠ 0 ∧ ∃ b, b ≠ 0 ∧ K c * a = b * p ^ mu p a ∧ ¬ dv p b := by
 obtain ⟨⟨c, hc, b, e⟩, h2⟩ := PQ hp ha
 refine ⟨c, hc, b, (kH hc ha e).1, e, fun h => h2 (dv.JC hc ?_)⟩
 rw [e, pow_succ']
 have := h.mul (dv.refl (p ^ mu p a))
 rw [show p ^ mu p a * p = p * p ^ mu p a by grind]
 exact this
theorem uZ {p a b : ZX} (hp : oC p) (ha : a ≠ 0) {c : Int} (hc : c ≠ 0) {k : Nat} (e : K c * a = b * p ^ k) (h : ¬ dv p b) : mu p a = k := by
 have h1 : k ≤ mu p a := (pJ hp ha).2 ⟨c, hc, b, e⟩
 rcases Nat.lt_or_ge k (mu p a) with h2 | h2
 ·exfalso
  obtain ⟨d, hd, r, e2⟩ := (pJ hp ha).1 h2
  apply h
  refine ⟨d, hd, K c * r, ZX.cancel (E3 hp.ne k) ?_⟩
  rw [pow_succ'] at e2
  grind
 ·omega
theorem pK {p a b : ZX} (hp : oC p) (ha : a ≠ 0) (hb : b ≠ 0) : mu p (a * b) = mu p a + mu p b := by
 obtain ⟨c, hc, x, _, e1, h1⟩ := z5 hp ha
 obtain ⟨d, hd, y, _, e2, h2⟩ := z5 hp hb
 refine uZ (b := x * y) hp (kZ ha hb) (Int.mul_ne_zero hc hd) ?_ fun h => ?_
 ·rw [pow_add', ← mU]; grind
 ·rcases hp.afT h with h3 | h3
  ·exact h1 h3
  ·exact h2 h3
theorem ZI {p : ZX} (hp : oC p) {c : Int} (hc : c ≠ 0) : mu p (K c) = 0 := by
 refine uZ (b := K c) (c := 1) hp (rY hc) (by decide) (by rw [gC]; show (1 : ZX) * K c = _; grind) fun h => ?_
 have := h.pI (rY hc)
 rw [N_K hc] at this
 have := hp.deg
 omega
theorem PR {p a b : ZX} (hp : oC p) (hb : b ≠ 0) (h : dv a b) : mu p a ≤ mu p b := (pJ hp hb).2 (((pJ hp (h.ne hb)).1 (Nat.le_refl _)).trans h)
theorem afV {p a b q : ZX} (hp : oC p) {c : Int} (hc : c ≠ 0) (ha : a ≠ 0) (e : K c * a = q * b) : mu p a = mu p q + mu p b := by
 obtain ⟨h1, h2⟩ := kH hc ha e
 rw [← pK hp h1 h2, ← e, pK hp (rY hc) ha, ZI hp hc]; omega
theorem JD : ∀ (n : Nat) (a b : ZX), N a ≤ n → a ≠ 0 → b ≠ 0 → (∀ p, oC p → mu p a ≤ mu p b) → dv a b
 | 0, a, b, hn, ha, _, _ => by have := aG.1 ha; omega
 | n + 1, a, b, hn, ha, hb, h => by
  rcases Nat.lt_or_ge (N a) 2 with h1 | h1
  ·obtain ⟨c, hc, rfl⟩ := mV (x := a) (by have := aG.1 ha; omega)
   exact aov hc b
  ·obtain ⟨p, hp, hpa⟩ := z0 _ a (Nat.le_refl _) h1
   have h2 : 1 ≤ mu p a := (pJ hp ha).2 (by rw [show p ^ 1 = p by rw [pow_succ', gC]; grind]; exact hpa)
   have h3 : dv p b := by
    have := (pJ hp hb).1 (Nat.le_trans h2 (h p hp))
    rwa [show p ^ 1 = p by rw [pow_succ', gC]; grind] at this
   obtain ⟨c, hc, a', ea⟩ := hpa
   obtain ⟨d, hd, b', eb⟩ := h3
   obtain ⟨F8, _⟩ := kH hc ha ea
   obtain ⟨wV, _⟩ := kH hd hb eb
   have h4 : N (K c * a) = N a := by rw [kB (rY hc) ha, N_K hc]; have := aG.1 ha; omega
   have h5 : dv a' b' := JD n a' b' (by
    rw [ea, kB F8 hp.ne] at h4
    have := hp.deg
    omega) F8 wV fun r hr => by
    have h6 := h r hr
    rw [afV hr hc ha ea, afV hr hd hb eb] at h6
    omega
   refine dv.JC hd ?_
   rw [eb]
   have h7 := h5.mul (dv.refl p)
   rw [← ea] at h7
   obtain ⟨e, he, q, e3⟩ := h7
   exact ⟨e, he, q * K c, by grind⟩
theorem jS {a b : ZX} (ha : a ≠ 0) (hb : b ≠ 0) : dv a b ↔ ∀ p, oC p → mu p a ≤ mu p b := ⟨fun h p hp => PR hp hb h, JD _ a b (Nat.le_refl _) ha hb⟩
theorem oG.mu {g a b p : ZX} (h : oG g a b) (ha : a ≠ 0) (hb : b ≠ 0) (hp : oC p) : mu p g = min (ZX.mu p a) (ZX.mu p b) := by
 have hg := h.ne (.inl ha)
 have h1 := PR hp ha h.l
 have h2 := PR hp hb h.r
 have h3 : min (ZX.mu p a) (ZX.mu p b) ≤ ZX.mu p g := (pJ hp hg).2 (h.least ((pJ hp ha).1 (Nat.min_le_left _ _)) ((pJ hp hb).1 (Nat.min_le_right _ _)))
 omega
def u0 (x : List Int) : List Int := (List.range (x.length - 1)).map fun i => nth x (i + 1) * ((i + 1 : Nat) : Int)
def oD : Nat → List Int → List Int
 | _, [] => []
 | k, a :: l => a * (k : Int) :: oD (k + 1) l
def W (t : Int) : List Int → Int
 | [] => 0
 | _ :: l => V t l + t * W t l
theorem PT : ∀ (l : List Int) (k : Nat), oD k l = (List.range l.length).map fun i => nth l i * ((k + i : Nat) : Int)
 | [], k => rfl
 | a :: l, k => by
  rw [oD, PT l (k + 1), List.length_cons, List.range_succ_eq_map, List.map_cons, List.map_map]
  congr 1
  refine List.map_congr_left fun i _ => ?_
  simp only [Function.comp_apply, iO]
  rw [show k + 1 + i = k + (i + 1) by omega]
theorem C4 (a : Int) (l : List Int) : u0 (a :: l) = oD 1 l := by
 rw [PT, u0, List.length_cons, Nat.add_sub_cancel]
 refine List.map_congr_left fun i _ => ?_
 rw [iO, show i + 1 = 1 + i by omega]
theorem wK (t : Int) : ∀ (l : List Int) (k : Nat), V t (oD (k + 1) l) = V t (oD k l) + V t l
 | [], k => by simp [oD, V]
 | a :: l, k => by
  simp only [oD, V]
  rw [wK t l (k + 1)]
  have : ((k + 1 : Nat) : Int) = (k : Int) + 1 := by omega
  rw [this]; grind
theorem z6 (t : Int) : ∀ l : List Int, V t (oD 1 l) = V t l + t * W t l
 | [] => by simp [oD, V, W]
 | b :: m => by
  rw [oD]
  simp only [V, W]
  rw [wK, z6 t m]
  rw [show ((1 : Nat) : Int) = 1 from rfl]
  grind
theorem aiW (t : Int) : ∀ x : List Int, V t (u0 x) = W t x
 | [] => rfl
 | a :: l => by rw [C4, z6]; rfl
def bO (x : ZX) : ZX := of (u0 x.l)
theorem PU (x : ZX) : V t (bO x).l = W t x.l := by rw [bO, M0, aiW]
theorem E4 (t h : Int) : ∀ x : List Int, ∃ R : Int, V (t + h) x = V t x + h * W t x + h * h * R
 | [] => ⟨0, by simp [V, W]⟩
 | a :: l => by
  obtain ⟨R, hR⟩ := E4 t h l
  refine ⟨W t l + (t + h) * R, ?_⟩
  simp only [V, W]
  rw [hR]; grind
theorem ZJ {t A : Int} {z : List Int} (hA : ∀ h, ∃ R : Int, V (t + h) z = V t z + h * A + h * h * R) : W t z = A := by
 have key : ∀ h : Int, h ≠ 0 → h ∣ W t z - A := fun h hh => by
  obtain ⟨R, hR⟩ := hA h
  obtain ⟨S, hS⟩ := E4 t h z
  refine ⟨R - S, Int.eq_of_mul_eq_mul_left hh ?_⟩
  grind
 have h1 := key (((W t z - A).natAbs : Int) + 1) (by omega)
 have h2 := Int.natAbs_dvd_natAbs.2 h1
 rcases Nat.eq_zero_or_pos (W t z - A).natAbs with h3 | h3
 ·omega
 ·have := Nat.le_of_dvd h3 h2
  omega
theorem qA (x y : ZX) : bO (x * y) = bO x * y + x * bO y := ext fun t => by
 rw [PU, j5, c7, c7, PU, PU]
 refine ZJ fun h => ?_
 obtain ⟨R, hR⟩ := E4 t h x.l
 obtain ⟨S, hS⟩ := E4 t h y.l
 refine ⟨V t x.l * S + R * V t y.l + W t x.l * W t y.l + h * (W t x.l * S + R * W t y.l) + h * h * R * S, ?_⟩
 rw [c7, c7, hR, hS]; grind
theorem afW (c : Int) : bO (K c) = 0 := ext fun t => by
 rw [PU, rX]
 refine ZJ fun h => ⟨0, ?_⟩
 rw [rW, rW]; grind
theorem ZK (c : Int) (x : ZX) : bO (K c * x) = K c * bO x := by rw [qA, afW]; grind
theorem PW : bO (1 : ZX) = 0 := afW 1
theorem PY (p : ZX) : ∀ m : Nat, bO (p ^ (m + 1)) = K ((m + 1 : Nat) : Int) * p ^ m * bO p
 | 0 => by
  rw [pow_succ', qA, gC, PW]
  show _ = (1 : ZX) * 1 * bO p
  grind
 | m + 1 => by
  rw [pow_succ', qA, PY p m]
  have : K ((m + 1 + 1 : Nat) : Int) = K ((m + 1 : Nat) : Int) + 1 := ext fun t => by rw [j5, rW, rW, C0]; omega
  rw [this, pow_succ']; grind
theorem mW (a : ZX) : N (bO a) ≤ N a - 1 := Nat.le_trans (bN _) (by simp [u0, N])
theorem E5 {a : ZX} (h : 2 ≤ N a) : bO a ≠ 0 := by
 have h1 : a.l.length = N a := rfl
 have hl := cI a.c (by omega)
 intro h0
 have h2 : nth (bO a).l (N a - 2) = nth a.l (N a - 1) * ((N a - 1 : Nat) : Int) := by
  show nth (aM (u0 a.l)) _ = _
  rw [gP, u0, cC (by simp; omega)]
  simp only [List.getElem_map, List.getElem_range]
  rw [show N a - 2 + 1 = N a - 1 by omega]
 rw [h0] at h2
 have h3 : nth (0 : ZX).l (N a - 2) = 0 := fS (by show (0 : ZX).l.length ≤ _; exact Nat.zero_le _)
 rw [h3] at h2
 have h4 : nth a.l (N a - 1) = lead a.l := by rw [lead, h1]
 rw [h4] at h2
 exact Int.mul_ne_zero hl (by omega) h2.symm
theorem oC.M3 {p : ZX} (hp : oC p) : ¬ dv p (bO p) := fun h => by
 have h1 := h.pI (E5 hp.deg)
 have h2 := mW p
 have := hp.deg
 omega
theorem z7 {p a : ZX} (hp : oC p) (ha : a ≠ 0) {m : Nat} (h : mu p a = m + 1) : bO a ≠ 0 ∧ mu p (bO a) = m := by
 obtain ⟨c, hc, b, hb, e, hn⟩ := z5 hp ha
 rw [h] at e
 have e2 : K c * bO a = (bO b * p + K ((m + 1 : Nat) : Int) * (b * bO p)) * p ^ m := by
  rw [← ZK, e, qA, PY, pow_succ']; grind
 have G0 : ¬ dv p (bO b * p + K ((m + 1 : Nat) : Int) * (b * bO p)) := fun h1 => by
  have h2 : dv p (K ((m + 1 : Nat) : Int) * (b * bO p)) := by
   have h3 := h1.add ((dv.refl p).mul_left (-bO b))
   rwa [show bO b * p + K ((m + 1 : Nat) : Int) * (b * bO p) + -bO b * p = K ((m + 1 : Nat) : Int) * (b * bO p) by grind] at h3
  have h4 := dv.JC (by omega) h2
  rcases hp.afT h4 with h5 | h5
  ·exact hn h5
  ·exact hp.M3 h5
 have h6 : bO a ≠ 0 := fun h0 => by
  rw [h0] at e2
  have h7 : (bO b * p + K ((m + 1 : Nat) : Int) * (b * bO p)) * p ^ m = 0 := by rw [← e2]; grind
  rcases pG h7 with h8 | h8
  ·rw [h8] at G0; exact G0 (dv.zero p)
  ·exact E3 hp.ne m h8
 exact ⟨h6, uZ hp h6 hc e2 G0⟩
theorem oG.z7 {g a p : ZX} (h : oG g a (bO a)) (ha : a ≠ 0) (hp : oC p) : ZX.mu p g = ZX.mu p a - 1 := by
 rcases Nat.eq_zero_or_pos (ZX.mu p a) with h1 | h1
 ·have := PR hp ha h.l
  omega
 ·obtain ⟨m, hm⟩ : ∃ m, ZX.mu p a = m + 1 := ⟨ZX.mu p a - 1, by omega⟩
  obtain ⟨h2, h3⟩ := ZX.z7 hp ha hm
  rw [h.mu ha h2 hp, h3, hm]; omega
theorem ZL {p : ZX} (hp : oC p) : mu p 1 = 0 := ZI hp (by decide)
theorem oG.aow {g a b q r : ZX} {c k : Int} (hc : c ≠ 0) (hk : k ≠ 0) (e : K c * a = q * b + K k * r) (h : oG g b r) : oG g a b := by
 obtain ⟨d, hd, u, v, e2⟩ := h.uv
 refine ⟨dv.JC hc ?_, h.l, k * d, Int.mul_ne_zero hk hd, v * K c, K k * u - v * q, by rw [← mU]; grind⟩
 rw [e]
 exact (h.l.mul_left q).add (h.r.mul_left _)
theorem oG.assoc {g g' a b : ZX} (h : oG g a b) (h' : oG g' a b) : dv g g' ∧ dv g' g := ⟨h'.least h.l h.r, h.least h'.l h'.r⟩
theorem oG.congr {g a b a' b' : ZX} (h : oG g a b) (h1 : dv a a') (h2 : dv a' a) (h3 : dv b b') (h4 : dv b' b) : oG g a' b' := by
 obtain ⟨g', hg'⟩ := iE _ a' b' (Nat.le_refl _)
 obtain ⟨c, hc, u, v, e⟩ := hg'.uv
 have h5 : dv g g' := hg'.least (h.l.trans h1) (h.r.trans h3)
 have h6 : dv g' g := h.least (hg'.l.trans h2) (hg'.r.trans h4)
 obtain ⟨d, hd, w, e2⟩ := h6
 refine ⟨h.l.trans h1, h.r.trans h3, c * d, Int.mul_ne_zero hc hd, w * u, w * v, by rw [← mU]; grind⟩
end ZX
theorem JE {H t : Int} (ht : H + 1 ≤ t) (hH : 0 ≤ H) : ∀ {x : List Int}, (∀ c ∈ x, -H ≤ c ∧ c ≤ H) → aM x ≠ [] → V t x ≠ 0
 | [], _, h => absurd rfl h
 | a :: l, hb, h => by
  have ha := hb a (by simp)
  by_cases hl : aM l = []
  ·have h1 : V t l = 0 := by rw [← cA, hl]; rfl
   have h2 : a ≠ 0 := fun h0 => h (by rw [aM, if_pos ⟨hl, h0⟩])
   simp only [V]
   rw [h1]
   intro h3
   apply h2
   have : t * 0 = 0 := Int.mul_zero t
   omega
  ·have ih := JE ht hH (x := l) (fun c hc => hb c (by simp [hc])) hl
   simp only [V]
   intro h3
   rcases Int.lt_or_gt_of_ne ih with h4 | h4
   ·have : t * V t l ≤ t * (-1) := Int.mul_le_mul_of_nonneg_left (by omega) (by omega)
    omega
   ·have : t * 1 ≤ t * V t l := Int.mul_le_mul_of_nonneg_left (by omega) (by omega)
    omega
theorem JF {H t : Nat} : ∀ {x : List Int}, (∀ c ∈ x, c.natAbs ≤ H) → (V (t : Int) x).natAbs ≤ H * (1 + t) ^ x.length
 | [], _ => by simp [V]
 | a :: l, h => by
  have h1 := JF (t := t) (x := l) fun c hc => h c (by simp [hc])
  have h2 := h a (by simp)
  simp only [V]
  have h3 : (a + (t : Int) * V t l).natAbs ≤ a.natAbs + t * (V (t : Int) l).natAbs := by
   have := Int.natAbs_add_le a ((t : Int) * V t l)
   rwa [Int.natAbs_mul, Int.natAbs_natCast] at this
  have h4 : t * (V (t : Int) l).natAbs ≤ t * (H * (1 + t) ^ l.length) := Nat.mul_le_mul_left _ h1
  have h5 : H * 1 ≤ H * (1 + t) ^ l.length := Nat.mul_le_mul_left _ (Nat.one_le_pow _ _ (by omega))
  rw [List.length_cons, Nat.pow_succ]
  have h6 : H * ((1 + t) ^ l.length * (1 + t)) = H * (1 + t) ^ l.length + t * (H * (1 + t) ^ l.length) := by grind
  omega
def TR (s : Int) : List Int → List Int
 | [] => []
 | _ :: l => V s l :: TR s l
theorem afX (s t : Int) : ∀ x : List Int, V t x = V s x + (t - s) * V t (TR s x)
 | [] => by simp [V, TR]
 | a :: l => by
  have := afX s t l
  simp only [V, TR]
  have h2 : t * V t l = t * (V s l + (t - s) * V t (TR s l)) := by rw [← this]
  grind
theorem JG (s : Int) : ∀ x : List Int, x ≠ [] → ∃ y, TR s x = y ++ [0] ∧ y.length = x.length - 1
 | [], h => absurd rfl h
 | [a], _ => ⟨[], by simp [TR, V], rfl⟩
 | a :: b :: l, _ => by
  obtain ⟨y, h1, h2⟩ := JG s (b :: l) (by simp)
  refine ⟨V s (b :: l) :: y, by rw [TR, h1]; rfl, by simp at h2 ⊢; omega⟩
theorem z8 {s : Nat} {M : Nat} : ∀ {x : List Int}, (V (s : Int) x).natAbs ≤ M → (∀ c ∈ TR s x, c.natAbs ≤ M) → ∀ c ∈ x, c.natAbs ≤ M * (1 + s)
 | [], _, _, c, hc => by cases hc
 | a :: l, h0, h, c, hc => by
  have h1 : (V (s : Int) l).natAbs ≤ M := h _ (by simp [TR])
  have h2 : ∀ c ∈ TR s l, c.natAbs ≤ M := fun c hc => h c (by simp [TR, hc])
  rcases List.mem_cons.1 hc with rfl | hc
  ·simp only [V] at h0
   have h3 : c.natAbs ≤ (c + (s : Int) * V s l).natAbs + s * (V (s : Int) l).natAbs := by
    have h4 : c = (c + (s : Int) * V s l) + (-((s : Int) * V s l)) := by omega
    have h5 := Int.natAbs_add_le (c + (s : Int) * V s l) (-((s : Int) * V s l))
    rw [← h4, Int.natAbs_neg, Int.natAbs_mul, Int.natAbs_natCast] at h5
    exact h5
   have h4 : s * (V (s : Int) l).natAbs ≤ s * M := Nat.mul_le_mul_left _ h1
   rw [Nat.mul_add, Nat.mul_one, Nat.mul_comm M s]; omega
  ·exact z8 h1 h2 c hc
theorem PZ : ∀ (n s A : Nat) (x : List Int), x.length ≤ n → (∀ j : Nat, j < n → (V ((s + j : Nat) : Int) x).natAbs ≤ A) → ∀ c ∈ x, c.natAbs ≤ A * (2 * (s + n + 1)) ^ n
 | 0, s, A, x, hl, _, c, hc => by
  have : x = [] := List.eq_nil_of_length_eq_zero (by omega)
  rw [this] at hc; cases hc
 | n + 1, s, A, x, hl, hv, c, hc => by
  have hx : x ≠ [] := fun h => by rw [h] at hc; cases hc
  have h0 := hv 0 (by omega)
  obtain ⟨y, h1, h2⟩ := JG s x hx
  have hy : ∀ t : Int, V t (TR s x) = V t y := fun t => by rw [h1, dF]; simp [V]
  have h3 : ∀ j : Nat, j < n → (V ((s + 1 + j : Nat) : Int) y).natAbs ≤ 2 * A := fun j hj => by
   have h4 := afX s ((s + 1 + j : Nat) : Int) x
   rw [hy] at h4
   have h5 := hv (j + 1) (by omega)
   rw [show s + (j + 1) = s + 1 + j by omega] at h5
   have e : ((s + 1 + j : Nat) : Int) - (s : Int) = ((j + 1 : Nat) : Int) := by omega
   rw [e] at h4
   have h6 : (((j + 1 : Nat) : Int) * V ((s + 1 + j : Nat) : Int) y).natAbs ≤ 2 * A := by
    have : ((j + 1 : Nat) : Int) * V ((s + 1 + j : Nat) : Int) y = V ((s + 1 + j : Nat) : Int) x - V (s : Int) x := by omega
    rw [this]
    rw [Nat.add_zero] at h0
    omega
   rw [Int.natAbs_mul, Int.natAbs_natCast] at h6
   exact Nat.le_trans (Nat.le_mul_of_pos_left _ (by omega)) h6
  have h4 := PZ n (s + 1) (2 * A) y (by omega) h3
  have hP : 1 ≤ (2 * (s + 1 + n + 1)) ^ n := Nat.one_le_pow _ _ (by omega)
  rw [Nat.add_zero] at h0
  have h5 := z8 (s := s) (M := 2 * A * (2 * (s + 1 + n + 1)) ^ n) (x := x) (by
   have : A * 1 ≤ 2 * A * (2 * (s + 1 + n + 1)) ^ n := Nat.mul_le_mul (by omega) hP
   omega) (fun d hd => by
   rw [h1] at hd
   rcases List.mem_append.1 hd with hd | hd
   ·exact h4 d hd
   ·simp at hd; subst hd; simp) c hc
  refine Nat.le_trans h5 ?_
  rw [Nat.pow_succ, show s + (n + 1) + 1 = s + 1 + n + 1 by omega]
  have h6 : A * ((2 * (s + 1 + n + 1)) ^ n * (2 * (s + 1 + n + 1))) = (2 * A * (2 * (s + 1 + n + 1)) ^ n) * (s + 1 + n + 1) := by grind
  rw [h6]
  exact Nat.mul_le_mul_left _ (by omega)
namespace ZX
theorem ZM {a w g : ZX} {h n : Nat} (ha : a ≠ 0) (e : a = w * g) (hb : Bd 2 h n a.l) (hn : n + 1 ≤ 2 ^ h) : Bd 2 (h + n * (2 * h + 5) + 1) n g.l := by
 have hw : w ≠ 0 ∧ g ≠ 0 := ⟨fun h0 => ha (by rw [e, h0]; grind), fun h0 => ha (by rw [e, h0]; grind)⟩
 have hlen : g.l.length ≤ n := by
  have h1 : N a = N w + N g - 1 := by rw [e, kB hw.1 hw.2]
  have h2 := aG.1 hw.1
  have h3 : N a ≤ n := hb.len
  show N g ≤ n
  omega
 refine ⟨hlen, fun c hc => ?_⟩
 have hH : ∀ d ∈ a.l, d.natAbs ≤ 2 ^ h := fun d hd => by
  have h1 := kR (b := 2) (by decide) d
  have h2 := sZ (b := 2) (by decide) (hb.sz d hd)
  omega
 have hv : ∀ j : Nat, j < n → (V ((2 ^ h + 1 + j : Nat) : Int) g.l).natAbs ≤ 2 ^ h * (2 ^ (h + 2)) ^ n := fun j hj => by
  have h1 : V ((2 ^ h + 1 + j : Nat) : Int) a.l = V ((2 ^ h + 1 + j : Nat) : Int) w.l * V ((2 ^ h + 1 + j : Nat) : Int) g.l := by
   conv => lhs; rw [e]
   rw [c7]
  have h2 : V ((2 ^ h + 1 + j : Nat) : Int) a.l ≠ 0 := JE (H := ((2 ^ h : Nat) : Int)) (by omega) (by omega) (fun d hd => by have := hH d hd; omega) (by
   rw [show aM a.l = a.l from a.c]
   have := aG.1 ha
   intro h0
   have h3 : N a = a.l.length := rfl
   rw [h3, h0] at this; simp at this)
  have h3 : (V ((2 ^ h + 1 + j : Nat) : Int) g.l).natAbs ≤ (V ((2 ^ h + 1 + j : Nat) : Int) a.l).natAbs := by
   rw [h1, Int.natAbs_mul]
   have : V ((2 ^ h + 1 + j : Nat) : Int) w.l ≠ 0 := fun h0 => h2 (by rw [h1, h0, Int.zero_mul])
   exact Nat.le_mul_of_pos_left _ (by omega)
  refine Nat.le_trans h3 (Nat.le_trans (JF hH) (Nat.mul_le_mul_left _ ?_))
  have h4 : 1 + (2 ^ h + 1 + j) ≤ 2 ^ (h + 2) := by rw [Nat.pow_add]; omega
  refine Nat.le_trans (Nat.pow_le_pow_left h4 _) (Nat.pow_le_pow_right (Nat.two_pow_pos _) hb.len)
 have h5 := PZ n (2 ^ h + 1) _ g.l hlen hv c hc
 have h6 : 2 ^ h * (2 ^ (h + 2)) ^ n * (2 * (2 ^ h + 1 + n + 1)) ^ n < 2 ^ (h + n * (2 * h + 5) + 1) := by
  have h7 : 2 * (2 ^ h + 1 + n + 1) ≤ 2 ^ (h + 3) := by rw [Nat.pow_add]; omega
  have h8 : (2 * (2 ^ h + 1 + n + 1)) ^ n ≤ (2 ^ (h + 3)) ^ n := Nat.pow_le_pow_left h7 _
  have h9 : 2 ^ h * (2 ^ (h + 2)) ^ n * (2 ^ (h + 3)) ^ n = 2 ^ (h + (h + 2) * n + (h + 3) * n) := by rw [← Nat.pow_mul, ← Nat.pow_mul, ← Nat.pow_add, ← Nat.pow_add]
  refine Nat.lt_of_le_of_lt (Nat.mul_le_mul_left _ h8) ?_
  rw [h9]
  refine Nat.pow_lt_pow_right (by decide) ?_
  have : (h + 2) * n + (h + 3) * n = n * (2 * h + 5) := by grind
  omega
 exact cS (by decide) (Nat.lt_of_le_of_lt h5 h6)
end ZX
end Pm
namespace Go.Proofs.YtbbjgncblhfegaaGreat
open Go Pm
open ZX hiding N W
structure Nf (a : ZX) : Prop where
 ne : a ≠ 0
 g : bH a.l = 1
 l : 0 < lead a.l
theorem u3 {a : ZX} (h : a ≠ 0) : a.l ≠ [] := fun e => by
 have := aG.1 h
 have h2 : ZX.N a = a.l.length := rfl
 rw [h2, e] at this; simp at this
theorem aiX (x : List Int) : Cn (pE x) := Cn.cut _
def nf (a : ZX) : ZX := ⟨pE a.l, aiX _⟩
theorem kI : nf 0 = 0 := ZX.ext fun t => rfl
theorem JH {a : ZX} (ha : a ≠ 0) : K (jR a.l) * nf a = a := ZX.ext fun t => by
 rw [c7, rW]
 conv => rhs; rw [← TK a.c (u3 ha)]
 rw [bU, Int.mul_comm]; rfl
theorem nR {a : ZX} (ha : a ≠ 0) : jR a.l ≠ 0 := MW a.c (u3 ha)
theorem afY {a : ZX} (ha : a ≠ 0) : nf a ≠ 0 := fun h => ha (by rw [← JH ha, h]; grind)
theorem lV {a : ZX} (ha : a ≠ 0) : Nf (nf a) := ⟨afY ha, adx a.c (u3 ha), Y4 a.c (u3 ha)⟩
theorem Nf.nfe {a : ZX} (h : Nf a) : nf a = a := by
 have h1 : jR a.l = 1 := by
  unfold jR
  rw [if_neg (by have := h.l; omega), h.g]; rfl
 have := JH h.ne
 rw [h1] at this
 rw [← this]
 conv => lhs; rw [this]
 show _ = (1 : ZX) * _
 grind
theorem ZN {c : Int} (hc : c ≠ 0) (a : ZX) : ZX.N (K c * a) = ZX.N a := by
 by_cases ha : a = 0
 ·rw [ha, show K c * (0 : ZX) = 0 by grind]
 ·rw [kB (rY hc) ha, N_K hc]; have := aG.1 ha; omega
theorem xA (a : ZX) : ZX.N (nf a) = ZX.N a := by
 by_cases ha : a = 0
 ·rw [ha, kI]
 ·have := ZN (nR ha) (nf a)
  rw [JH ha] at this
  exact this.symm
theorem K_l {c : Int} (hc : c ≠ 0) (a : ZX) : (K c * a).l = a.l.map (· * c) := by
 refine Cn.ext (K c * a).c (jP a.c hc) fun t => ?_
 rw [c7, rW, dA, Int.mul_comm]
theorem ZO {c : Int} (hc : c ≠ 0) {a : ZX} (ha : a ≠ 0) : lead (K c * a).l = c * lead a.l := by
 have h : (K c * a).l = bI (K c).l a.l := rfl
 have hK : (K c).l = [c] := by show aM [c] = [c]; exact iZ hc []
 rw [h, uU (K c).c a.c (by rw [hK]; simp) (aG.1 ha), hK]
 rfl
theorem Nf.E6 {a b : ZX} (ha : Nf a) (hb : Nf b) {c d : Int} (hc : c ≠ 0) (hd : d ≠ 0) (e : K c * a = K d * b) : a = b := by
 have h1 : c.natAbs = d.natAbs := by
  have h2 : bH (K c * a).l = bH (K d * b).l := by rw [e]
  rw [K_l hc, K_l hd, jQ, jQ, ha.g, hb.g] at h2
  omega
 have h3 : c * lead a.l = d * lead b.l := by rw [← ZO hc ha.ne, ← ZO hd hb.ne, e]
 have h4 : c = d := by
  rcases Int.natAbs_eq_natAbs_iff.1 h1 with h5 | h5
  ·exact h5
  ·exfalso
   subst h5
   have hl := ha.l
   have hl2 := hb.l
   rcases Int.lt_or_gt_of_ne hd with h6 | h6
   ·have := Int.mul_pos (show 0 < -d by omega) hl
    have := Int.mul_neg_of_neg_of_pos h6 hl2
    omega
   ·have := Int.mul_neg_of_neg_of_pos (show -d < 0 by omega) hl
    have := Int.mul_pos h6 hl2
    omega
 subst h4
 exact ZX.cancel (rY hc) e
theorem adI {a b : ZX} {c d : Int} (ha : a ≠ 0) (hc : c ≠ 0) (hd : d ≠ 0) (e : K c * a = K d * b) : nf a = nf b := by
 have hb : b ≠ 0 := fun h => by
  rw [h, show K d * (0 : ZX) = 0 by grind] at e
  exact kZ (rY hc) ha e
 refine Nf.E6 (lV ha) (lV hb) (c := c * jR a.l) (d := d * jR b.l) (Int.mul_ne_zero hc (nR ha)) (Int.mul_ne_zero hd (nR hb)) ?_
 rw [← mU, ← mU]
 have h1 := JH ha
 have h2 := JH hb
 grind
theorem P3 (a : ZX) : nf (nf a) = nf a := by
 by_cases ha : a = 0
 ·rw [ha, kI, kI]
 ·exact (lV ha).nfe
theorem JI (a : ZX) : dv a (nf a) ∧ dv (nf a) a := by
 by_cases ha : a = 0
 ·rw [ha, kI]; exact ⟨dv.refl 0, dv.refl 0⟩
 ·have h := JH ha
  exact ⟨⟨jR a.l, nR ha, 1, by rw [h]; grind⟩, ⟨1, by decide, K (jR a.l), by rw [h]; show (1 : ZX) * a = a; grind⟩⟩
theorem wL {a b : ZX} (h1 : dv a b) (h2 : dv b a) : nf a = nf b := by
 by_cases ha : a = 0
 ·subst ha; rw [xN h1]
 ·obtain ⟨c, hc, q, e⟩ := h2
  have h3 := h1.pI (fun hb => ha (by subst hb; exact xN ⟨c, hc, q, e⟩))
  have h4 := dv.pI ⟨c, hc, q, e⟩ ha
  obtain ⟨hq, hb⟩ := kH hc ha e
  have h5 := ZN hc a
  rw [e, kB hq hb] at h5
  have := aG.1 hq
  have := aG.1 hb
  obtain ⟨d, hd, rfl⟩ := mV (x := q) (by omega)
  exact adI ha hc hd e
theorem Nf.one : Nf 1 := ⟨pH, by decide, by decide⟩
theorem Nf.mul {a b : ZX} (ha : Nf a) (hb : Nf b) : Nf (a * b) := by
 refine ⟨kZ ha.ne hb.ne, ?_, ?_⟩
 ·show bH (bI a.l b.l) = 1
  rw [Y3 a.c b.c (u3 ha.ne) (u3 hb.ne), ha.g, hb.g]
 ·show 0 < lead (bI a.l b.l)
  rw [uU a.c b.c (aG.1 ha.ne) (aG.1 hb.ne)]
  exact Int.mul_pos ha.l hb.l
theorem ZP {p a : ZX} (hp : oC p) (ha : a ≠ 0) : mu p (nf a) = mu p a := by
 conv => rhs; rw [← JH ha]
 rw [pK hp (rY (nR ha)) (afY ha), ZI hp (nR ha)]; omega
theorem Nf.mX {a b : ZX} (ha : Nf a) (hb : Nf b) (h : ∀ p, oC p → mu p a = mu p b) : a = b := by
 rw [← ha.nfe, ← hb.nfe]
 exact wL ((jS ha.ne hb.ne).2 fun p hp => by have := h p hp; omega) ((jS hb.ne ha.ne).2 fun p hp => by have := h p hp; omega)
theorem Nf.quo {a b : ZX} (ha : Nf a) (hb : Nf b) (h : dv b a) : ∃ w, Nf w ∧ a = w * b := by
 obtain ⟨c, hc, q, e⟩ := h
 obtain ⟨hq, _⟩ := kH hc ha.ne e
 refine ⟨nf q, lV hq, Nf.E6 ha ((lV hq).mul hb) hc (nR hq) ?_⟩
 have := JH hq
 grind
theorem Nf.exact {a b w : ZX} (hb : Nf b) (e : a = w * b) : exact a.l b.l = some w.l := by
 subst e
 exact MZ w.c b.c (aG.1 hb.ne)
theorem Nf.N1 {a : ZX} (ha : Nf a) (h : ZX.N a ≤ 1) : a = 1 := by
 obtain ⟨c, hc, rfl⟩ := mV (x := a) (by have := aG.1 ha.ne; omega)
 exact Nf.E6 ha Nf.one (show (1 : Int) ≠ 0 by decide) hc (by show (1 : ZX) * _ = K c * 1; grind)
noncomputable def gz (a b : ZX) : ZX := nf (Classical.choose (iE _ a b (Nat.le_refl _)))
theorem qB (a b : ZX) : ∃ g, oG g a b ∧ gz a b = nf g := ⟨_, Classical.choose_spec (iE _ a b (Nat.le_refl _)), rfl⟩
theorem P4 {g a b : ZX} (h : oG g a b) : gz a b = nf g := by
 obtain ⟨g', h', e⟩ := qB a b
 rw [e]
 obtain ⟨h1, h2⟩ := h'.assoc h
 exact wL h1 h2
theorem oG.aox {g g' a b : ZX} (h : oG g a b) (h1 : dv g g') (h2 : dv g' g) : oG g' a b := by
 obtain ⟨c, hc, u, v, e⟩ := h.uv
 obtain ⟨d, hd, w, e2⟩ := h1
 exact ⟨h2.trans h.l, h2.trans h.r, c * d, Int.mul_ne_zero hc hd, w * u, w * v, by rw [← mU]; grind⟩
theorem dV (a b : ZX) : oG (gz a b) a b := by
 obtain ⟨g, h, e⟩ := qB a b
 rw [e]
 obtain ⟨h1, h2⟩ := JI g
 exact oG.aox h h1 h2
theorem afZ {a b : ZX} (h : a ≠ 0 ∨ b ≠ 0) : gz a b ≠ 0 := (dV a b).ne h
theorem C5 {a b : ZX} (h : a ≠ 0 ∨ b ≠ 0) : Nf (gz a b) := by
 have h0 := afZ h
 obtain ⟨g, h, e⟩ := qB a b
 rw [e] at h0 ⊢
 exact lV (fun hg => h0 (by rw [hg, kI]))
theorem tR (a b : ZX) : gz a b = gz b a := by
 have h := dV a b
 rw [P4 h.symm]
 obtain ⟨g, _, e⟩ := qB a b
 rw [e, P3]
theorem qC (a : ZX) : gz a 0 = nf a := P4 (oG.zero a)
theorem ZQ (a : ZX) : gz 0 a = nf a := by rw [tR, qC]
theorem z9 {a b a' b' : ZX} (h1 : dv a a') (h2 : dv a' a) (h3 : dv b b') (h4 : dv b' b) : gz a b = gz a' b' := by
 obtain ⟨g, hg, e⟩ := qB a b
 rw [e, P4 (hg.congr h1 h2 h3 h4)]
theorem af0 (a b : ZX) : gz (nf a) b = gz a b := z9 (JI a).2 (JI a).1 (dv.refl b) (dv.refl b)
theorem M4 (a b : ZX) : gz a (nf b) = gz a b := z9 (dv.refl a) (dv.refl a) (JI b).2 (JI b).1
theorem E7 {a b q r : ZX} {c k : Int} (hc : c ≠ 0) (hk : k ≠ 0) (e : K c * a = q * b + K k * r) : gz a b = gz b r := by
 obtain ⟨g, hg, e2⟩ := qB b r
 rw [e2, P4 (hg.aow hc hk e)]
end Go.Proofs.YtbbjgncblhfegaaGreat
namespace Go.Proofs.YtbbjgncblhfegaaGreat
open Go Pm
open ZX hiding N W
open Classical in
noncomputable def qz (a b : ZX) : ZX := if h : ∃ w, Nf w ∧ a = w * b then h.choose else 0
theorem lW {a b : ZX} (ha : Nf a) (hb : Nf b) (h : dv b a) : Nf (qz a b) ∧ a = qz a b * b := by
 have h := ha.quo hb h
 unfold qz
 rw [dif_pos h]
 exact h.choose_spec
theorem aoy {a b w : ZX} (hb : Nf b) (hw : Nf w) (e : a = w * b) : qz a b = w := by
 have ha : Nf a := by rw [e]; exact hw.mul hb
 obtain ⟨h1, h2⟩ := lW ha hb ⟨1, by decide, w, by rw [e]; show (1 : ZX) * _ = _; grind⟩
 refine ZX.cancel hb.ne ?_
 have : qz a b * b = w * b := by rw [← h2, e]
 grind
theorem ZS {a b : ZX} (ha : Nf a) (hb : Nf b) (h : dv b a) : exact a.l b.l = some (qz a b).l := Nf.exact hb (lW ha hb h).2
theorem af1 {a b p : ZX} (ha : Nf a) (hb : Nf b) (h : dv b a) (hp : oC p) : mu p (qz a b) = mu p a - mu p b := by
 obtain ⟨h1, h2⟩ := lW ha hb h
 have h3 : mu p a = mu p (qz a b) + mu p b := by
  conv => lhs; rw [h2]
  exact pK hp h1.ne hb.ne
 omega
theorem Nf.self {a : ZX} (ha : Nf a) : qz a a = 1 := aoy ha Nf.one (by grind)
noncomputable def gd (a : ZX) : ZX := gz a (bO a)
theorem P5 {a : ZX} (ha : a ≠ 0) : Nf (gd a) := C5 (.inl ha)
theorem wM (a : ZX) : dv (gd a) a := (dV a (bO a)).l
theorem af2 {a p : ZX} (ha : a ≠ 0) (hp : oC p) : mu p (gd a) = mu p a - 1 := (dV a (bO a)).z7 ha hp
theorem atu {a : ZX} (h : 2 ≤ ZX.N a) : ZX.N (gd a) < ZX.N a := by
 have h1 := (dV a (bO a)).r.pI (E5 h)
 have h2 := mW a
 have : ZX.N (gd a) = ZX.N (gz a (bO a)) := rfl
 omega
theorem ZT : gd 1 = 1 := by
 unfold gd
 rw [PW, qC, Nf.one.nfe]
noncomputable def gs (a : ZX) : Nat → ZX
 | 0 => a
 | k + 1 => gd (gs a k)
theorem lY {a : ZX} (ha : Nf a) : ∀ k, Nf (gs a k)
 | 0 => ha
 | k + 1 => P5 (lY ha k).ne
theorem JJ (a : ZX) : ∀ k, dv (gs a k) a
 | 0 => dv.refl a
 | k + 1 => (wM _).trans (JJ a k)
theorem P6 {a p : ZX} (ha : Nf a) (hp : oC p) : ∀ k, mu p (gs a k) = mu p a - k
 | 0 => rfl
 | k + 1 => by
  show mu p (gd (gs a k)) = _
  rw [af2 (lY ha k).ne hp, P6 ha hp k]; omega
theorem aiY {a : ZX} : ∀ k, ZX.N (gs a k) ≤ 1 ∨ ZX.N (gs a k) + k ≤ ZX.N a
 | 0 => .inr (Nat.le_refl _)
 | k + 1 => by
  rcases aiY (a := a) k with h | h
  ·left
   show ZX.N (gz (gs a k) (bO (gs a k))) ≤ 1
   by_cases h0 : gs a k = 0
   ·rw [h0, show bO (0 : ZX) = 0 from ZX.ext fun t => rfl, qC, kI]; decide
   ·exact Nat.le_trans ((dV _ _).l.pI h0) h
  ·rcases Nat.lt_or_ge (ZX.N (gs a k)) 2 with h2 | h2
   ·left
    show ZX.N (gz (gs a k) (bO (gs a k))) ≤ 1
    by_cases h0 : gs a k = 0
    ·rw [h0, show bO (0 : ZX) = 0 from ZX.ext fun t => rfl, qC, kI]; decide
    ·exact Nat.le_trans ((dV _ _).l.pI h0) (by omega)
   ·right
    have := atu h2
    show ZX.N (gd (gs a k)) + (k + 1) ≤ _
    omega
open Classical in
noncomputable def nl (a : ZX) : Nat := if h : ∃ m, ZX.N (gs a m) ≤ 1 ∧ ∀ k, k < m → 2 ≤ ZX.N (gs a k) then h.choose else 0
theorem tS (a : ZX) : ZX.N (gs a (nl a)) ≤ 1 ∧ ∀ k, k < nl a → 2 ≤ ZX.N (gs a k) := by
 have h : ∃ m, ZX.N (gs a m) ≤ 1 ∧ ∀ k, k < m → 2 ≤ ZX.N (gs a k) := by
  have key : ∀ n, (∃ m, m ≤ n ∧ ZX.N (gs a m) ≤ 1 ∧ ∀ k, k < m → 2 ≤ ZX.N (gs a k)) ∨ ∀ k, k ≤ n → 2 ≤ ZX.N (gs a k) := by
   intro n
   induction n with
   | zero =>
    rcases Nat.lt_or_ge (ZX.N (gs a 0)) 2 with h | h
    ·exact .inl ⟨0, Nat.le_refl _, by omega, fun k hk => by omega⟩
    ·exact .inr fun k hk => by rw [show k = 0 by omega]; exact h
   | succ n ih =>
    rcases ih with ⟨m, h1, h2⟩ | ih
    ·exact .inl ⟨m, by omega, h2⟩
    ·rcases Nat.lt_or_ge (ZX.N (gs a (n + 1))) 2 with h | h
     ·exact .inl ⟨n + 1, Nat.le_refl _, by omega, fun k hk => ih k (by omega)⟩
     ·refine .inr fun k hk => ?_
      rcases Nat.lt_or_ge k (n + 1) with h3 | h3
      ·exact ih k (by omega)
      ·rw [show k = n + 1 by omega]; exact h
  rcases key (ZX.N a) with ⟨m, _, h⟩ | h
  ·exact ⟨m, h⟩
  ·have h1 := h (ZX.N a) (Nat.le_refl _)
   rcases aiY (a := a) (ZX.N a) with h2 | h2 <;> omega
 unfold nl
 rw [dif_pos h]
 exact h.choose_spec
theorem af3 (a : ZX) : nl a ≤ ZX.N a := by
 rcases Nat.eq_zero_or_pos (nl a) with h | h
 ·omega
 ·have h1 := (tS a).2 (nl a - 1) (by omega)
  rcases aiY (a := a) (nl a - 1) with h2 | h2 <;> omega
theorem ZU {a : ZX} (ha : Nf a) : ∀ j, gs a (nl a + j) = 1
 | 0 => (lY ha _).N1 (tS a).1
 | j + 1 => by
  show gd (gs a (nl a + j)) = 1
  rw [ZU ha j, ZT]
noncomputable def wz (a : ZX) (k : Nat) : ZX := qz (gs a k) (gs a (k + 1))
theorem gV {a : ZX} (ha : Nf a) (k : Nat) : Nf (wz a k) ∧ gs a k = wz a k * gs a (k + 1) := lW (lY ha k) (lY ha (k + 1)) (wM _)
theorem JK {a p : ZX} (ha : Nf a) (hp : oC p) (k : Nat) : mu p (wz a k) = if k < mu p a then 1 else 0 := by
 rw [wz, af1 (lY ha k) (lY ha (k + 1)) (wM _) hp, P6 ha hp, P6 ha hp]
 split <;> omega
theorem P7 {a : ZX} (ha : Nf a) (k : Nat) : dv (wz a (k + 1)) (wz a k) := (jS (gV ha _).1.ne (gV ha _).1.ne).2 fun p hp => by
 rw [JK ha hp, JK ha hp]
 split <;> split <;> omega
noncomputable def AA (a : ZX) (k : Nat) : ZX := qz (wz a k) (wz a (k + 1))
theorem E8 {a : ZX} (ha : Nf a) (k : Nat) : Nf (AA a k) ∧ wz a k = AA a k * wz a (k + 1) := lW (gV ha k).1 (gV ha (k + 1)).1 (P7 ha k)
theorem aoz {a p : ZX} (ha : Nf a) (hp : oC p) (k : Nat) : mu p (AA a k) = if mu p a = k + 1 then 1 else 0 := by
 rw [AA, af1 (gV ha k).1 (gV ha (k + 1)).1 (P7 ha k) hp, JK ha hp, JK ha hp]
 split <;> split <;> split <;> omega
noncomputable def fl (a : ZX) : List ZX := (List.range (nl a)).map (AA a)
theorem ZV {a p : ZX} (ha : Nf a) (hp : oC p) : mu p a ≤ nl a := by
 have h := P6 ha hp (nl a)
 have h1 := ZU ha 0
 rw [Nat.add_zero] at h1
 rw [h1, ZL hp] at h
 omega
noncomputable def pf (a : ZX) (c : Nat → Bool) : Nat → ZX
 | 0 => 1
 | k + 1 => if c k then pf a c k * AA a k else pf a c k
theorem C6 {a : ZX} (ha : Nf a) (c : Nat → Bool) : ∀ k, Nf (pf a c k)
 | 0 => Nf.one
 | k + 1 => by
  rw [pf]
  split
  ·exact (C6 ha c k).mul (E8 ha k).1
  ·exact C6 ha c k
theorem ZW {a p : ZX} (ha : Nf a) (hp : oC p) (c : Nat → Bool) : ∀ k, mu p (pf a c k) = if 1 ≤ mu p a ∧ mu p a ≤ k ∧ c (mu p a - 1) = true then 1 else 0
 | 0 => by
  rw [pf, ZL hp, if_neg (by omega)]
 | k + 1 => by
  have ih := ZW ha hp c k
  have hf := aoz ha hp k
  rw [pf]
  by_cases hc : c k = true
  ·rw [if_pos hc, pK hp (C6 ha c k).ne (E8 ha k).1.ne, ih, hf]
   by_cases h1 : mu p a = k + 1
   ·rw [if_pos h1, h1, Nat.add_sub_cancel, if_neg (by omega), if_pos ⟨by omega, Nat.le_refl _, hc⟩]
   ·rw [if_neg h1]
    by_cases h2 : 1 ≤ mu p a ∧ mu p a ≤ k ∧ c (mu p a - 1) = true
    ·rw [if_pos h2, if_pos ⟨h2.1, by omega, h2.2.2⟩]
    ·rw [if_neg h2, if_neg (fun h3 => h2 ⟨h3.1, by omega, h3.2.2⟩)]
  ·rw [if_neg hc, ih]
   by_cases h1 : mu p a = k + 1
   ·rw [h1, Nat.add_sub_cancel, if_neg (by omega), if_neg (fun h3 => hc h3.2.2)]
   ·by_cases h2 : 1 ≤ mu p a ∧ mu p a ≤ k ∧ c (mu p a - 1) = true
    ·rw [if_pos h2, if_pos ⟨h2.1, by omega, h2.2.2⟩]
    ·rw [if_neg h2, if_neg (fun h3 => h2 ⟨h3.1, by omega, h3.2.2⟩)]
noncomputable def sz' (a : ZX) : ZX := wz a 0
theorem ZY {a : ZX} (ha : Nf a) : Nf (sz' a) := (gV ha 0).1
theorem ZZ {a p : ZX} (ha : Nf a) (hp : oC p) : mu p (sz' a) = min (mu p a) 1 := by
 rw [sz', JK ha hp]
 split <;> omega
theorem aiZ {a : ZX} (ha : Nf a) : pf a (fun _ => true) (nl a) = sz' a := Nf.mX (C6 ha _ _) (ZY ha) fun p hp => by
 have h := ZV ha hp
 rw [ZW ha hp, ZZ ha hp]
 by_cases h1 : 1 ≤ mu p a
 ·rw [if_pos ⟨h1, h, rfl⟩]; omega
 ·rw [if_neg (fun h2 => h1 h2.1)]; omega
theorem JL {a : ZX} (h : ZX.N a ≤ 1) : nl a = 0 := by
 rcases Nat.eq_zero_or_pos (nl a) with h1 | h1
 ·exact h1
 ·have := (tS a).2 0 h1
  have : ZX.N (gs a 0) = ZX.N a := rfl
  omega
def qb (h n : Nat) : Nat := h + n * (2 * h + 5) + 1
theorem aoA {a b : ZX} (ha : Nf a) (hb : Nf b) (hd : dv b a) {h n : Nat} (hx : Bd 2 h n a.l) (hn : n + 1 ≤ 2 ^ h) : Bd 2 (qb h n) n b.l := by
 obtain ⟨w, _, e⟩ := ha.quo hb hd
 exact ZM ha.ne e hx hn
theorem Z0 {a b : ZX} (ha : Nf a) (hb : Nf b) (h : dv b a) : dv (qz a b) a := by
 obtain ⟨_, h2⟩ := lW ha hb h
 exact ⟨1, by decide, b, by rw [ZX.C3 b, ← h2]; show (1 : ZX) * _ = _; grind⟩
theorem E9 {a : ZX} (ha : Nf a) (k : Nat) : dv (wz a k) a := (Z0 (lY ha k) (lY ha (k + 1)) (wM _)).trans (JJ a k)
theorem adJ {a : ZX} (ha : Nf a) (k : Nat) : dv (AA a k) a := (Z0 (gV ha k).1 (gV ha (k + 1)).1 (P7 ha k)).trans (E9 ha k)
theorem adK {a : ZX} (ha : Nf a) (c : Nat → Bool) (k : Nat) : dv (pf a c k) a := (jS (C6 ha c k).ne ha.ne).2 fun p hp => by
 rw [ZW ha hp]
 split <;> omega
end Go.Proofs.YtbbjgncblhfegaaGreat
namespace Go.Proofs.YtbbjgncblhfegaaGreat
open Go Pm
theorem AB (v : Int) : sz LL v ≤ sz 2 v := cS fL (Nat.lt_of_lt_of_le (kR (b := 2) (by decide) v) (Nat.pow_le_pow_left (by decide) _))
theorem JM {h n : Nat} {x : List Int} (hx : Bd 2 h n x) : Bd LL h n x := ⟨hx.len, fun c hc => Nat.le_trans (AB c) (hx.sz c hc)⟩
instance : Inhabited ZX := ⟨0⟩
abbrev BZ (h n : Nat) (a : ZX) : Prop := Bd 2 h n a.l
theorem BZ.pb {h n : Nat} {a : ZX} (b : BZ h n a) (hh : h < 1099511627775) (hn : n < 1099511627775) : PB a.l := PB.of (JM b) hh hn
theorem BZ.BK {h n : Nat} {a : ZX} (b : BZ h n a) (hh : h < 1099511627775) (hn : n < 1099511627775) : qP (a.l.map qO) := (b.pb hh hn).BK
theorem wN (a : ZX) : kM (a.l.map qO) = a.l := by rw [adu]; exact a.c
theorem BZ.mono {h h' n n' : Nat} {a : ZX} (b : BZ h n a) (hh : h ≤ h') (hn : n ≤ n') : BZ h' n' a := Bd.mono b hh hn
theorem BZ.nf {h n : Nat} {a : ZX} (b : BZ h n a) : BZ h n (nf a) := ZF b
theorem BZ.N {h n : Nat} {a : ZX} (b : BZ h n a) : ZX.N a ≤ n := Bd.len b
theorem Z1 {h n : Nat} {a : ZX} (b : BZ h n a) (hh : h < 1099511627774) (hn : n < 1099511627774) (k : Nat) (hk : k + 1 < a.l.length) : aL env.P 181 [.int .i64 (k : Int), .rd [Po a.l]] (I (nth a.l (k + 1) * ((k + 1 : Nat) : Int))) := by
 have hlen := b.len
 have hz := (JM b).nth (k + 1)
 have o1 := zC ((k + 1 : Nat) : Int) (by omega) (by omega)
 have hk1 : Sz ((k + 1 : Nat) : Int) := Nat.lt_of_le_of_lt (cS (k := 2) fL (by rw [Int.natAbs_natCast]; show k + 1 < 4294967296 ^ 2; omega)) (by decide)
 have m1 := tC (x := nth a.l (k + 1)) (y := ((k + 1 : Nat) : Int)) (by show Pm.sz LL _ < _; omega) hk1
 have e : ((k : Int) + 1).toNat = k + 1 := by omega
 rw [Int.natCast_add, Int.natCast_one] at o1 m1
 refine aB (E := env) (fun _ => 0) [(0, .int .i64 (k : Int)), (1, .rd [Po a.l])] Tryz.func181 rfl (by kernel_rfl) (by kernel_rfl) (show 2 ≤ 13 by decide) (by simp) ?_
 generalize a.l = x at *
 refine W.sr ?_; simp (disch := omega) [gw]; refine W.lx [0, 1, 3] ?_; simp
 refine W.sd ?_
 simp (disch := omega) [gw, e]
 refine aA o1 ?_
 simp (disch := omega) [gw]
 refine aA m1 ?_
 simp (disch := omega) [gw]
 refine W.lx [3] ?_; simp
 refine W.ret ?_
 simp [go]
theorem rZ {h n : Nat} {a : ZX} (b : BZ h n a) (hh : h < 1099511627774) (hn : n < 1099511627774) : aL env.P 104 [Po a.l] (Po (ZX.bO a).l) := by
 have hlen := b.len
 have hc := fun k hk => Z1 b hh hn k hk
 have hE := pA 181 rfl [.rd [Po a.l]] rfl (a.l.length - 1) (by omega) (fun k => nth a.l (k + 1) * ((k + 1 : Nat) : Int)) (fun k hk => hc k (by omega))
 have e0 : aM ((List.range (a.l.length - 1)).map fun k => nth a.l (k + 1) * ((k + 1 : Nat) : Int)) = (ZX.bO a).l := rfl
 rw [e0] at hE
 generalize (ZX.bO a).l = d at *
 generalize a.l = x at *
 have e1 : (if (1 : Int) < (x.length : Int) then (x.length : Int) - 1 else 0) = ((x.length - 1 : Nat) : Int) := by split <;> omega
 refine aB (E := env) (fun _ => 0) [(0, Po x)] Tryz.func104 rfl (by kernel_rfl) (by kernel_rfl) (show 1 ≤ 9 by decide) (by simp) ?_
 refine W.sr ?_; simp (disch := omega) [gw]; refine W.lx [1] ?_; simp
 refine W.sr ?_
 simp (disch := omega) [gw, e1]
 refine aA hE ?_
 simp (disch := omega) [gw]
 refine W.lx [2] ?_; simp
 refine W.ret ?_
 simp [go]
theorem M5 {α : Type} {g : α → List PV} {l : List α} {c : Int} {d : List Int} (h1 : aL env.P 157 [aJ g l] (.eN [I c, Po d])) : aL env.P 159 [aJ g l] (Po d) := by
 refine aB (E := env) (fun _ => 0) [(0, aJ g l)] Tryz.func159 rfl (by kernel_rfl) (by kernel_rfl) (show 1 ≤ 11 by decide) (by simp) ?_
 refine W.sr ?_; simp (disch := omega) [gw]; refine W.lx [0] ?_; simp
 refine W.sr ?_
 simp (disch := omega) [gw]
 refine aA h1 ?_
 simp (disch := omega) [gw]
 refine W.lx [4] ?_; simp
 refine W.sr ?_; simp (disch := omega) [gw]; refine W.lx [2] ?_; simp
 refine W.ret ?_
 simp [go]
theorem qD {h n : Nat} {a : ZX} (b : BZ h n a) (hh : h < 1099511627774) (hn : n < 1099511627774) : aL env.P 159 [Po a.l] (Po (nf a).l) := by
 have h1 := rE (a.l.map qO) (b.BK (by omega) (by omega)) (s := h) (n := n) (by rw [bQ]; exact JM b) hh hn
 rw [wN, ← gQ] at h1
 exact M5 h1
theorem adL {h h' n : Nat} {a c : ZX} (b : BZ h n a) (b' : BZ h' n c) (ha : Nf a) (hc : Nf c) (hd : ZX.dv c a) (hB : h + n * (h' + n + 1) + h' + n + n + 10 < 1099511627774) : aL env.P 160 [Po a.l, Po c.l] (Po (qz a c).l) := by
 have h0 : ¬ c.l = [] := u3 hc.ne
 have h1 := TJ (a.l.map qO) (c.l.map qO) (b.BK (by omega) (by omega)) (b'.BK (by omega) (by omega)) (s := h) (s' := h') (N := n) (by rw [bQ]; exact JM b) (by rw [bQ]; exact JM b') hB
 rw [wN, wN, if_neg h0, ZS ha hc hd, ← gQ, ← gQ, exR] at h1
 generalize (qz a c).l = d at *
 generalize a.l = x at *
 generalize c.l = y at *
 refine aB (E := env) (fun _ => 0) [(0, Po x), (1, Po y)] Tryz.func160 rfl (by kernel_rfl) (by kernel_rfl) (show 2 ≤ 14 by decide) (by simp) ?_
 refine W.sr ?_; simp (disch := omega) [gw]; refine W.lx [0, 1] ?_; simp
 refine W.sr ?_
 simp (disch := omega) [gw]
 refine aA h1 ?_
 simp (disch := omega) [gw]
 refine W.lx [5] ?_; simp
 refine W.sr ?_; simp (disch := omega) [gw]; refine W.lx [4] ?_; simp
 refine W.ret ?_
 simp [go]
def rs (a c : ZX) : ZX := ⟨I3 a.l c.l, aiN _ _⟩
theorem AD {x : List Int} (cx : Cn x) (hx : x ≠ []) : (iR x).map (· * (bH x : Int)) = x := by
 have hg := bV cx hx
 have h1 := xM (g := (bH x : Int)) (fun c hc => fV x c hc)
 have h2 : Cn (x.map (oF (bH x))) := by
  have h3 : x.map (oF (bH x)) = aM (x.map (oF (bH x))) := by
   refine (List.map_inj_right (f := fun v : Int => v * (bH x : Int)) (fun u v e => Int.eq_of_mul_eq_mul_right (by omega) e)).1 ?_
   rw [h1]
   refine Cn.ext cx (jP (Cn.cut _) (by omega)) fun t => ?_
   rw [dA, cA, ← dA, h1]
  exact h3.symm
 rw [iR, show aM (x.map (oF (bH x))) = _ from h2, h1]
theorem adM {a c : ZX} (hc : c ≠ 0) : ∃ (m k : Int) (q : ZX), m ≠ 0 ∧ k ≠ 0 ∧ ZX.K m * a = q * c + ZX.K k * rs a c := by
 have h0 := ZX.aG.1 hc
 obtain ⟨c1, c2⟩ := y8 (b := c.l) a.c
 have hm : lead c.l ^ iA a.l c.l ≠ 0 := Int.pow_ne_zero (cI c.c h0)
 have hsg := YX (lead c.l) (iA a.l c.l)
 have hr := YZ (b := c.l) a.c
 have hV := fun t => XR t a.l c.l
 have hg : sg (lead c.l) (iA a.l c.l) ≠ 0 := fun h => by rw [h] at hsg; simp at hsg
 generalize sg (lead c.l) (iA a.l c.l) = g at *
 generalize lead c.l ^ iA a.l c.l = m at *
 have hl : (rs a c).l = iR (aV (vX a.l c.l).2 g) := hr
 generalize rs a c = R at *
 generalize (vX a.l c.l).1 = q at *
 generalize (vX a.l c.l).2 = r at *
 have hcp : Cn (aV r g) := Cn.aV _ _
 by_cases hz : aV r g = []
 ·refine ⟨m, 1, ⟨q, c1⟩, hm, by decide, ZX.ext fun t => ?_⟩
  rw [hz] at hl
  have h1 : V t R.l = 0 := by rw [hl]; rfl
  have h2 : V t r = 0 := by
   have h3 : V t (aV r g) = 0 := by rw [hz]; rfl
   rw [bU] at h3
   rcases Int.mul_eq_zero.1 h3 with h4 | h4
   ·exact h4
   ·exact absurd h4 hg
  rw [ZX.c7, ZX.rW, ZX.j5, ZX.c7, ZX.c7, ZX.rW, h1]
  have := hV t
  rw [h2] at this
  show m * V t a.l = V t q * V t c.l + 1 * 0
  omega
 ·have hgp := bV hcp hz
  refine ⟨m, g * (bH (aV r g) : Int), ⟨q, c1⟩, hm, Int.mul_ne_zero hg (by omega), ZX.ext fun t => ?_⟩
  have h1 := AD hcp hz
  have h2 : V t (aV r g) = V t R.l * (bH (aV r g) : Int) := by
   rw [hl, ← dA, h1]
  rw [bU] at h2
  rw [ZX.c7, ZX.rW, ZX.j5, ZX.c7, ZX.c7, ZX.rW]
  have := hV t
  show m * V t a.l = V t q * V t c.l + g * (bH (aV r g) : Int) * V t R.l
  rw [← this]
  have h3 : V t r = g * (V t r * g) := by
   have : g * (V t r * g) = V t r * (g * g) := by grind
   rw [this, hsg]; omega
  rw [h3, h2]; grind
theorem aoB {a c : ZX} (hc : c ≠ 0) : ZX.N (rs a c) < ZX.N c := adw (ZX.aG.1 hc)
theorem gR {s n : Nat} {x : List Int} (hx : Bd 2 s n x) : Bd 2 s n (iR x) := Bd.cut ⟨by simpa using hx.len, fun c hc => by
 simp only [List.mem_map] at hc
 obtain ⟨v, hv, rfl⟩ := hc
 refine Nat.le_trans (cU (by decide) ?_) (hx.sz v hv)
 unfold oF
 split
 ·exact Int.natAbs_ediv_le_natAbs _ _
 ·simp⟩
theorem aoC {s s' n : Nat} {a c : ZX} (ha : BZ s n a) (hb : BZ s' n c) (hc : c ≠ 0) : BZ (s + (ZX.N a + 1 - ZX.N c) * (s' + n + 1)) n (rs a c) := by
 have h0 := ZX.aG.1 hc
 have hl := aoB (a := a) hc
 have hk : iA a.l c.l ≤ n := by
  have h1 := ha.N
  have h2 : iA a.l c.l = ZX.N a + 1 - ZX.N c := rfl
  omega
 obtain ⟨_, h2⟩ := XQ (B := 2) (by decide) hb (iA a.l c.l) s [] a.l hk ⟨by simp, fun c hc => by cases hc⟩ (ha.mono (Nat.le_refl _) (by omega))
 have h3 : Bd 2 (s + iA a.l c.l * (s' + n + 1)) (n + n) (I3 a.l c.l) := by
  unfold I3
  split
  ·exact gR (Bd.fD h2)
  ·exact gR h2
 have h4 := hb.N
 have h5 : ZX.N (rs a c) = (I3 a.l c.l).length := rfl
 exact ⟨by show (I3 a.l c.l).length ≤ n; omega, fun d hd => h3.sz d hd⟩
theorem Z2 {d : Nat} (h : 1 ≤ d) : d + 2 ≤ 4 ^ d := by
 obtain ⟨k, rfl⟩ : ∃ k, d = k + 1 := ⟨d - 1, by omega⟩
 clear h
 induction k with
 | zero => decide
 | succ k ih => rw [Nat.pow_succ]; omega
def u4 (C n s : Nat) (a c : ZX) : Prop := if ZX.N c < ZX.N a then (s + n + 1) * 4 ^ ZX.N a ≤ C else (s + n + 1) * 2 * 4 ^ ZX.N c ≤ C
theorem u4.le {C n s : Nat} {a c : ZX} (h : u4 C n s a c) : s + n + 1 ≤ C := by
 unfold u4 at h
 split at h
 ·exact Nat.le_trans (Nat.le_mul_of_pos_right _ (Nat.pow_pos (by decide))) h
 ·refine Nat.le_trans ?_ h
  rw [Nat.mul_assoc]
  exact Nat.le_mul_of_pos_right _ (Nat.mul_pos (by decide) (Nat.pow_pos (by decide)))
theorem u4.step {C n s : Nat} {a c r : ZX} (h : u4 C n s a c) (hr : ZX.N r < ZX.N c) : u4 C n (s + (ZX.N a + 1 - ZX.N c) * (s + n + 1)) c r := by
 unfold u4 at h ⊢
 rw [if_pos hr]
 generalize hT : s + n + 1 = T at *
 have e : s + (ZX.N a + 1 - ZX.N c) * T + n + 1 = (ZX.N a + 1 - ZX.N c + 1) * T := by
  rw [Nat.add_mul, Nat.one_mul]; omega
 rw [e]
 split at h
 ·rename_i h1
  obtain ⟨d, hd⟩ : ∃ d, ZX.N a = ZX.N c + d := ⟨ZX.N a - ZX.N c, by omega⟩
  have h2 := Z2 (d := d) (by omega)
  rw [hd, Nat.pow_add] at h
  have h3 : (ZX.N a + 1 - ZX.N c + 1) * T ≤ 4 ^ d * T := Nat.mul_le_mul_right _ (by omega)
  refine Nat.le_trans (Nat.mul_le_mul_right _ h3) ?_
  have : 4 ^ d * T * 4 ^ ZX.N c = T * (4 ^ ZX.N c * 4 ^ d) := by grind
  omega
 ·rename_i h1
  refine Nat.le_trans (Nat.mul_le_mul_right _ (Nat.mul_le_mul_right T (show ZX.N a + 1 - ZX.N c + 1 ≤ 2 by omega))) ?_
  rw [Nat.mul_comm 2 T]; exact h
theorem JN {s n C : Nat} {a c : ZX} (b : BZ s n a) (b' : BZ s n c) (hP : u4 C n s (nf a) (nf c)) (hB : (n + 1) * C ≤ 99000000000) : aL env.P 161 [Po a.l, Po c.l] (Po (gz a c).l) := by
 have hC : C ≤ 99000000000 := Nat.le_trans (Nat.le_mul_of_pos_left C (by omega)) hB
 rw [Nat.succ_mul] at hB
 have hs := hP.le
 have p1 := qD b (by omega) (by omega)
 have p2 := qD b' (by omega) (by omega)
 have b1 := b.nf
 have b2 := b'.nf
 have hg : gz (nf a) (nf c) = gz a c := by rw [af0, M4]
 rw [← hg]
 generalize n8 : nf a = x0 at *
 generalize MD : nf c = y0 at *
 generalize hG : gz x0 y0 = G at *
 refine aB (E := env) (fun _ => 0) [(0, Po a.l), (1, Po c.l)] Tryz.func161 rfl (by kernel_rfl) (by kernel_rfl) (show 2 ≤ 24 by decide) (by simp) ?_
 generalize a.l = al at *
 generalize c.l = cl at *
 refine W.sr ?_; simp (disch := omega) [gw]; refine W.lx [0, 1] ?_; simp
 refine W.sr ?_
 simp (disch := omega) [gw]
 refine aA p1 ?_
 simp (disch := omega) [gw]
 refine aA p2 ?_
 simp (disch := omega) [gw]
 refine W.lx [0, 1] ?_; simp
 refine W.seq ?_
 refine W.block ?_
 refine W.bB (fun k σ => ∃ (x y : ZX) (s : Nat) (rows : Pm.Rows) (clk : Nat), σ = ⟨fa [(0, Po x.l), (1, Po y.l)], rows, clk⟩ ∧ BZ s n x ∧ BZ s n y ∧ u4 C n s x y ∧ gz x y = G ∧ k = ZX.N y) (ZX.N y0) ?_ ?_
 ·exact ⟨_, .refl, x0, y0, s, _, _, rfl, b1, b2, hP, hG, rfl⟩
 rintro k _ ⟨x, y, s, rows, clk, rfl, bx, qE, hp, hgz, rfl⟩
 have hs := hp.le
 have hlx := bx.len
 have hly := qE.len
 refine W.seq ?_
 refine W.sr ?_; simp (disch := omega) [gw]; refine W.lx [0, 1, 13] ?_; simp
 refine W.cond ⟨_, rfl, fun h => ?_, fun h => ?_⟩
 ·have hy : y ≠ 0 := ZX.aG.2 (by show 0 < y.l.length; simp at h; omega)
  obtain ⟨m, k, q, hm, hk, e⟩ := adM (a := x) hy
  have hR := I5 (x.l.map qO) (y.l.map qO) (bx.BK (by omega) (by omega)) (qE.BK (by omega) (by omega)) (s := s) (s' := s) (N := n) (by rw [bQ]; exact JM bx) (by rw [bQ]; exact JM qE) (by
   have : n * (s + n + 1) ≤ n * C := Nat.mul_le_mul_left n hs
   omega)
  rw [wN, wN, if_neg (u3 hy), ← gQ, ← gQ, show I3 x.l y.l = (rs x y).l from rfl] at hR
  have br := aoC bx qE hy
  have hN := aoB (a := x) hy
  have hp2 := hp.step hN
  have oP := E7 hm hk e
  refine W.skip ?_
  refine W.block ?_
  refine W.sr ?_
  simp (disch := omega) [gw]
  refine aA hR ?_
  simp (disch := omega) [gw]
  refine W.lx [1, 5] ?_; simp
  refine W.b9 (fun K hK => ?_)
  simp (disch := omega) [gw]
  refine hK _ ⟨ZX.N (rs x y), _, aC _ [0, 1], hN, y, rs x y, _, _, _, rfl, qE.mono (by omega) (Nat.le_refl _), br, hp2, by rw [← oP, hgz], rfl⟩
 ·have hy : y = 0 := by
   refine Classical.byContradiction fun h0 => ?_
   have h1 := ZX.aG.1 h0
   have h2 : ZX.N y = y.l.length := rfl
   simp at h; rw [h2, h] at h1; simp at h1
  subst hy
  rw [qC] at hgz
  have p3 := qD bx (by omega) (by omega)
  rw [hgz] at p3
  refine W.exit ?_; simp only [pX, if_true, if_false, reduceIte, Nat.reduceEqDiff]
  refine W.sr ?_
  simp (disch := omega) [gw]
  refine aA p3 ?_
  simp (disch := omega) [gw]
  refine W.lx [4] ?_; simp
  refine W.ret ?_
  simp [go]
theorem adN {s n C : Nat} {a c : ZX} (b : BZ s n a) (b' : BZ s n c) (hP : u4 C n s (nf a) (nf c)) (hn : n ≤ 20) (hC : C ≤ 4500000000) : aL env.P 161 [Po a.l, Po c.l] (Po (gz a c).l) :=
 JN b b' hP (Nat.le_trans (Nat.mul_le_mul (show n + 1 ≤ 21 by omega) hC) (by decide))
def zp (a : ZX) : List PV := [Po a.l]
@[simp] theorem atv {a : ZX} : zp a = [Po a.l] := rfl
@[simp] theorem ald {l : List ZX} : bC 1 (emap zp l) = True := cR fun _ => rfl
@[simp] theorem atw {l : List ZX} {a : ZX} : emap zp l ++ [[aJ ie a.l]] = emap zp (l ++ [a]) := by simp [emap]
@[simp] theorem ai2 {v e n : Nat} {l : List ZX} : cO (some ⟨v, e, n, emap zp l⟩) = True := cH fun _ => rfl
theorem BZ.bO {h n : Nat} {a : ZX} (b : BZ h n a) (hn : n ≤ 31) : BZ (h + 5) n (ZX.bO a) := Bd.cut ⟨by have := b.len; simp [ZX.u0]; omega, fun c hc => by
 simp only [ZX.u0, List.mem_map, List.mem_range] at hc
 obtain ⟨i, hi, rfl⟩ := hc
 have := b.len
 exact bS (by decide) (b.nth _) (cS (k := 5) (by decide) (by rw [Int.natAbs_natCast]; show i + 1 < 32; omega))⟩
theorem adO {h n : Nat} {a : ZX} (b : BZ h n a) (hn : n < 1099511627776) : aL env.P 102 [Po a.l] (.int .i64 ((ZX.N a : Int) - 1)) := j3 a.l (by have := b.len; omega)
structure uL (s n : Nat) (a : ZX) : Prop where
 bz : BZ s n a
 hn : n ≤ 20
 hs : n + 1 ≤ 2 ^ s
 hC : (qb s n + n + 6) * 4 ^ n ≤ 4500000000
theorem uL.wO {s n : Nat} {a : ZX} (h : uL s n a) : qb s n + n + 6 ≤ 4500000000 := Nat.le_trans (Nat.le_mul_of_pos_right _ (Nat.pow_pos (by decide))) h.hC
theorem uL.dv {s n : Nat} {a c : ZX} (h : uL s n a) (ha : Nf a) (hc : Nf c) (hd : ZX.dv c a) : BZ (qb s n) n c := aoA ha hc hd h.bz h.hs
theorem uL.nfz {s n : Nat} {a : ZX} (h : uL s n a) : uL s n (nf a) := ⟨h.bz.nf, h.hn, h.hs, h.hC⟩
theorem uL.gdz {s n : Nat} {a c : ZX} (h : uL s n a) (ha : Nf a) (hc : Nf c) (hd : ZX.dv c a) : aL env.P 161 [Po c.l, Po (ZX.bO c).l] (Po (gd c).l) ∧ aL env.P 104 [Po c.l] (Po (ZX.bO c).l) ∧ aL env.P 160 [Po c.l, Po (gd c).l] (Po (qz c (gd c)).l) := by
 have b := h.dv ha hc hd
 have b2 := b.bO (by have := h.hn; omega)
 have hq := h.wO
 have hn := h.hn
 have bg := h.dv ha (P5 hc.ne) ((wM c).trans hd)
 refine ⟨adN (s := qb s n + 5) (b.mono (by omega) (Nat.le_refl _)) b2 ?_ h.hn (C := 4500000000) (Nat.le_refl _), rZ b (by omega) (by omega), adL b bg hc (P5 hc.ne) (wM c) (by
  have : n * (qb s n + n + 1) ≤ 20 * 4500000000 := Nat.mul_le_mul hn (by omega)
  omega)⟩
 have hN := ZX.mW c
 have h1 : ZX.N c ≤ n := b.N
 have h2 := ZX.aG.1 hc.ne
 unfold u4
 rw [xA, xA, if_pos (by omega)]
 refine Nat.le_trans (Nat.mul_le_mul (show qb s n + 5 + n + 1 ≤ qb s n + n + 6 by omega) (Nat.pow_le_pow_right (by decide) h1)) h.hC
theorem mI (f : Nat → ZX) {m i : Nat} (h : i < m) : nth ((List.range m).map f) i = f i := by
 rw [cC (by simpa using h)]; simp
theorem FA {s n C : Nat} {a c : ZX} (b : BZ s n a) (b' : BZ s n c) (hP : u4 C n s (nf a) (nf c)) (hn : n ≤ 20) (hB : (n + 1) * C ≤ 99000000000) : aL env.P 103 [Po a.l, Po c.l] (.bool (decide (ZX.N (gz a c) = 1))) := by
 have h1 := JN b b' hP hB
 have hl : ZX.N (gz a c) ≤ 20 := by
  by_cases ha : a = 0
  ·subst ha
   rw [ZQ, xA]
   exact Nat.le_trans b'.N hn
  ·exact Nat.le_trans ((dV a c).l.pI ha) (Nat.le_trans b.N hn)
 have h2 := j3 (gz a c).l (by show ZX.N (gz a c) < _; omega)
 have e : (((gz a c).l.length : Int) - 1 == 0) = decide (ZX.N (gz a c) = 1) := by
  rw [Bool.eq_iff_iff, beq_iff_eq, decide_eq_true_iff]
  have : ZX.N (gz a c) = (gz a c).l.length := rfl
  omega
 generalize gz a c = g at *
 refine aB (E := env) (fun _ => 0) [(0, Po a.l), (1, Po c.l)] Tryz.func103 rfl (by kernel_rfl) (by kernel_rfl) (show 2 ≤ 10 by decide) (by simp) ?_
 generalize a.l = x at *
 generalize c.l = y at *
 refine W.sr ?_; simp (disch := omega) [gw]; refine W.lx [0, 1] ?_; simp
 refine W.sr ?_
 simp (disch := omega) [gw]
 refine aA h1 ?_
 simp (disch := omega) [gw]
 refine aA h2 ?_
 simp (disch := omega) [gw, e]
 refine W.lx [4] ?_; simp
 refine W.ret ?_
 simp [go]
theorem JO {s n C : Nat} {a c : ZX} (b : BZ s n a) (b' : BZ s n c) (hP : u4 C n s (nf a) (nf c)) (hn : n ≤ 20) (hC : C ≤ 4500000000) : aL env.P 103 [Po a.l, Po c.l] (.bool (decide (ZX.N (gz a c) = 1))) :=
 FA b b' hP hn (Nat.le_trans (Nat.mul_le_mul (show n + 1 ≤ 21 by omega) hC) (by decide))
noncomputable def sq (a : ZX) : ZX := if ZX.N a ≤ 1 then nf a else sz' (nf a)
theorem JP {α : Type} {g : α → List PV} {l : List α} {s n : Nat} {a : ZX} (h : uL s n a) (p1 : aL env.P 159 [aJ g l] (Po (nf a).l)) : aL env.P 83 [aJ g l] (Po (sq a).l) := by
 have hqb := h.wO
 have hn := h.hn
 have hA := h.nfz
 have atx := adO hA.bz (by omega)
 have hsq : sq a = if ZX.N (nf a) ≤ 1 then nf a else sz' (nf a) := by rw [xA]; rfl
 have nA : 2 ≤ ZX.N (nf a) → Nf (nf a) := fun h2 => lV fun h0 => by rw [h0, kI] at h2; revert h2; decide
 rw [hsq]
 generalize nf a = A at *
 refine aB (E := env) (fun _ => 0) [(0, aJ g l)] Tryz.func83 rfl (by kernel_rfl) (by kernel_rfl) (show 1 ≤ 15 by decide) (by simp) ?_
 refine W.sr ?_; simp (disch := omega) [gw]; refine W.lx [0] ?_; simp
 refine W.sr ?_
 simp (disch := omega) [gw]
 refine aA p1 ?_
 simp (disch := omega) [gw]
 refine W.lx [0] ?_; simp
 refine W.seq ?_
 refine W.sr ?_
 simp (disch := omega) [gw]
 refine aA atx ?_
 simp (disch := omega) [gw]
 refine W.lx [0, 7] ?_; simp
 refine W.cond ⟨_, rfl, fun h3 => ?_, fun h3 => ?_⟩
 ·have h2 : ZX.N A ≤ 1 := by simp at h3; omega
  rw [if_pos h2]
  refine W.sr ?_; simp (disch := omega) [gw]; refine W.lx [2] ?_; simp
  refine W.ret ?_
  simp [go]
 ·have h2 : 2 ≤ ZX.N A := by simp at h3; omega
  obtain ⟨t1, t2, t3⟩ := hA.gdz (nA h2) (nA h2) (ZX.dv.refl A)
  rw [if_neg (by omega), show sz' A = qz A (gd A) from rfl]
  generalize (gd A).l = g1 at *
  refine W.skip ?_
  refine W.sr ?_
  simp (disch := omega) [gw]
  refine aA t2 ?_
  simp (disch := omega) [gw]
  refine aA t1 ?_
  simp (disch := omega) [gw]
  refine aA t3 ?_
  simp (disch := omega) [gw]
  refine W.lx [2] ?_; simp
  refine W.ret ?_
  simp [go]
theorem k7 {s n : Nat} {a : ZX} (h : uL s n a) : aL env.P 83 [Po a.l] (Po (sq a).l) := by
 have hqb := h.wO
 have hn := h.hn
 exact JP h (qD h.bz (by unfold qb at hqb; omega) (by omega))
@[simp] theorem TS : ([] : List Int).length = 0 := rfl
theorem BZ.yy {h n : Nat} {a : ZX} (b : BZ h n a) (hh : h ≤ YY) (hn : n ≤ 1099511627775) : Bd 2 YY 1099511627775 a.l := Bd.mono b hh hn
theorem jT {h n : Nat} {a : ZX} (b : BZ h n a) (h1 : 1 ≤ h) (hh : h ≤ YY) (hn : n < 1099511627776) : aL env.P 111 [PI a.l] (PI (nf a).l) := by
 have hP := zZ a.l b a.c h1 hh hn
 have e : pE a.l = (nf a).l := rfl
 rw [e] at hP
 generalize jR a.l = c at *
 generalize (nf a).l = d at *
 generalize a.l = x at *
 refine aB (E := env) (fun _ => 0) [(0, PI x)] Tryz.func111 rfl (by kernel_rfl) (by kernel_rfl) (show 1 ≤ 11 by decide) (by simp) ?_
 refine W.sr ?_; simp (disch := omega) [gw]; refine W.lx [0] ?_; simp
 refine W.sr ?_
 simp (disch := omega) [gw]
 refine aA hP ?_
 simp (disch := omega) [gw]
 refine W.lx [4] ?_; simp
 refine W.sr ?_; simp (disch := omega) [gw]; refine W.lx [2] ?_; simp
 refine W.ret ?_
 simp [go]
theorem tT {h n : Nat} {a : ZX} (b : BZ h n a) (hh : h ≤ YY) (hn : n ≤ 1000) : aL env.P 125 [PI a.l] (PI (ZX.bO a).l) := by
 have hlen := b.len
 have e0 : (ZX.bO a).l = aM ((List.range (a.l.length - 1)).map fun k => nth a.l (k + 1) * ((k : Int) + 1)) := rfl
 rw [e0]
 have hz := fun k => b.nth k
 generalize a.l = x at *
 generalize hm : x.length - 1 = m at *
 refine aB (E := env) (fun id => if id = 5 then 2 else 0) [(0, PI x)] Tryz.func125 rfl (by kernel_rfl) (by kernel_rfl) (show 1 ≤ 23 by decide) (by simp) ?_
 refine W.sr ?_; simp (disch := omega) [gw]; refine W.lx [0] ?_; simp
 refine W.sr ?_; simp (disch := omega) [gw]; refine W.lx [0, 3] ?_; simp
 refine W.nil 3 3 50 4 (by simp) (by decide) (fun K hK => ?_)
 refine W.lw [0, 3] hK ?_; clear hK K; simp
 refine W.seq ?_
 refine W.sr ?_; simp (disch := omega) [gw]; refine W.lx [0, 3, 4] ?_; simp
 refine W.block ?_
 refine W.bB (fun k σ => ∃ (i ver : Nat) (rows : Pm.Rows) (clk : Nat), σ = ⟨fa [(0, PI x), (3, .own 3 ver 0 i), (4, .int .i64 ((i : Int) + 1))], rows, clk⟩ ∧
  rows 3 = some ⟨ver, 50, 4, emap ri ((List.range i).map fun k => nth x (k + 1) * ((k : Int) + 1))⟩ ∧ i + k = m) m ?_ ?_
 ·exact ⟨_, .refl, 0, _, _, _, rfl, by simp [emap], by omega⟩
 rintro k _ ⟨i, ver, rows, clk, rfl, hr, UY⟩
 have uK : (emap ri ((List.range i).map fun k => nth x (k + 1) * ((k : Int) + 1))).length = i := by simp [emap]
 refine W.seq ?_
 refine W.sr ?_; simp (disch := omega) [gw]; refine W.lx [0, 3, 4, 8] ?_; simp
 refine W.cond ⟨_, rfl, fun h => ?_, fun h => ?_⟩
 ·have hi : i + 1 < x.length := by simp at h; omega
  have o1 := IW ((i : Int) + 1) (by omega)
  have hzi := hz (i + 1)
  have m1 := CU (nth x (i + 1)) ((i : Int) + 1) (Nat.le_trans hzi hh) (Nat.le_trans (cS (k := 10) (by decide) (by show ((i : Int) + 1).natAbs < 1024; omega)) (by decide))
  have e1 : ((i : Int) + 1).toNat = i + 1 := by omega
  have er : (List.range (i + 1)).map (fun k => nth x (k + 1) * ((k : Int) + 1)) = (List.range i).map (fun k => nth x (k + 1) * ((k : Int) + 1)) ++ [nth x (i + 1) * ((i : Int) + 1)] := by
   rw [List.range_succ, List.map_append]; simp
  have aty : ((List.range i).map fun k => nth x (k + 1) * ((k : Int) + 1)).length = i := by simp
  generalize (List.range i).map (fun k => nth x (k + 1) * ((k : Int) + 1)) = acc at *
  generalize hq : nth x (i + 1) * ((i : Int) + 1) = q at *
  refine W.skip ?_
  refine W.seq ?_
  refine W.block ?_
  refine W.HS (fun K hK => ?_)
  rw [if_pos rfl, eD]
  simp (disch := omega) [gw, e1]
  refine aA o1 ?_
  simp (disch := omega) [gw]
  refine aA m1 ?_
  simp (disch := omega) [gw, hr, aty]
  refine W.lw [0, 3, 4] hK ?_; clear hK K; simp
  refine W.b9 (fun K hK => ?_); simp (disch := omega) [gw]
  refine hK _ ⟨k - 1, _, aC _ [0, 3, 4], by omega, i + 1, _, _, _, by rw [Int.natCast_add]; rfl, by rw [er]; simp, by omega⟩
 ·have hi : i = m := by simp at h; omega
  subst hi
  have eT : ((List.range i).map fun k => nth x (k + 1) * ((k : Int) + 1)).length = i := by simp
  generalize (List.range i).map (fun k => nth x (k + 1) * ((k : Int) + 1)) = acc at *
  have ez := bG eT
  refine W.exit ?_; simp only [pX, if_true, if_false, reduceIte, Nat.reduceEqDiff]
  refine W.sr ?_
  simp (disch := omega) [gw, hr, ez]
  refine aA (mT acc (by omega)) ?_
  simp (disch := omega) [gw]
  refine W.lx [2] ?_; simp
  refine W.ret ?_
  simp [go]
theorem tU : aL env.P 80 [.sl [[.int .i64 1]]] (PI (1 : ZX).l) := xL [1] (by decide) (by decide)
theorem TT {a : ZX} {k : Nat} (hk : k < 1099511627776) (h2 : ∀ i, i < k → aL env.P 54 [PI (a ^ i).l, PI a.l] (PI (a ^ (i + 1)).l)) : aL env.P 55 [PI a.l, .int .i64 k] (PI (a ^ k).l) := by
 have h1 := tU
 rw [show (1 : ZX) = a ^ 0 from rfl] at h1
 refine aB (E := env) (fun _ => 0) [(0, PI a.l), (1, .int .i64 k)] Tryz.func55 rfl (by kernel_rfl) (by kernel_rfl) (show 2 ≤ 18 by decide) (by simp) ?_
 refine W.sr ?_; simp (disch := omega) [gw]; refine W.lx [0, 1] ?_; simp
 generalize hg : a ^ 0 = g0 at *
 refine W.sr ?_
 simp (disch := omega) [gw]
 refine aA h1 ?_
 simp (disch := omega) [gw]
 refine W.lx [0, 1, 5] ?_; simp
 refine W.seq ?_
 refine W.sr ?_; simp (disch := omega) [gw]; refine W.lx [0, 1, 5, 6] ?_; simp
 subst hg
 refine W.block ?_
 refine W.bB (fun j σ => ∃ (i : Nat) (rows : Pm.Rows) (clk : Nat), σ = ⟨fa [(0, PI a.l), (1, .int .i64 k), (5, PI (a ^ i).l), (6, .int .i64 i)], rows, clk⟩ ∧ i + j = k) k ?_ ?_
 ·exact ⟨_, .refl, 0, _, _, rfl, by omega⟩
 rintro j _ ⟨i, rows, clk, rfl, UY⟩
 refine W.seq ?_
 refine W.sr ?_; simp (disch := omega) [gw]; refine W.lx [0, 1, 5, 6, 11] ?_; simp
 refine W.cond ⟨_, rfl, fun h => ?_, fun h => ?_⟩
 ·have hi : i < k := by simp at h; omega
  have ht := h2 i hi
  generalize oP : a ^ (i + 1) = g2 at *
  generalize a ^ i = g at *
  refine W.skip ?_
  refine W.seq ?_
  refine W.block ?_
  refine W.b9 (fun K hK => ?_)
  simp (disch := omega) [gw]
  refine aA ht ?_
  simp (disch := omega) [gw]
  refine W.lw [0, 1, 5, 6] hK ?_; clear hK K; simp
  refine W.b9 (fun K hK => ?_); simp (disch := omega) [gw]
  subst oP
  refine hK _ ⟨j - 1, _, aC _ [0, 1, 5, 6], by omega, i + 1, _, _, rfl, by omega⟩
 ·have hi : i = k := by simp at h; omega
  subst hi
  refine W.exit ?_; simp only [pX, if_true, if_false, reduceIte, Nat.reduceEqDiff]
  refine W.sr ?_; simp (disch := omega) [gw]; refine W.lx [4] ?_; simp
  refine W.ret ?_
  simp [go]
def uM (l : Int) : Int := if l < 0 then -1 else 1
theorem adP (l : Int) : uM l * l = l.natAbs := by unfold uM; split <;> omega
def P8 (y x : List Int) : List Int := uI y (lead y).natAbs (uM (lead y) * lead x) (x.length - y.length) x
def P9 (y x : List Int) (i : Nat) : Int := nth x i * ((lead y).natAbs : Int) - if x.length - y.length ≤ i then uM (lead y) * lead x * nth y (i - (x.length - y.length)) else 0
theorem Z3 {y x : List Int} (h : y.length ≤ x.length) : aM ((List.range x.length).map (P9 y x)) = P8 y x := by
 refine Cn.ext (Cn.cut _) (Cn.dZ _ _) fun t => ?_
 unfold P8
 rw [cA, uI, gJ, bU, cN, lS]
 obtain ⟨k, hk⟩ : ∃ k, x.length = k + y.length := ⟨x.length - y.length, by omega⟩
 have e1 : (List.range x.length).map (P9 y x) = (List.range x.length).map fun i => nth x i * ((lead y).natAbs : Int) + (-(if x.length - y.length ≤ i then uM (lead y) * lead x * nth y (i - (x.length - y.length)) else 0)) := List.map_congr_left fun i _ => by unfold P9; omega
 rw [e1, pZ, fG, iM (Nat.le_refl _)]
 generalize uM (lead y) * lead x = T at *
 have e2 : ((List.range x.length).map fun i => -(if x.length - y.length ≤ i then T * nth y (i - (x.length - y.length)) else 0)) = List.replicate k 0 ++ y.map fun v => v * (-T) := by
  have hk2 : x.length - y.length = k := by omega
  rw [hk2, hk, List.range_add, List.map_append, List.map_map]
  congr 1
  ·rw [List.eq_replicate_iff]
   refine ⟨by simp, fun v hv => ?_⟩
   simp only [List.mem_map, List.mem_range] at hv
   obtain ⟨i, hi, rfl⟩ := hv
   rw [if_neg (by omega)]; rfl
  ·have h2 := mQ (x := y) (n := y.length) (Nat.le_refl _)
   rw [Nat.sub_self, List.replicate_zero, List.append_nil] at h2
   conv => rhs; rw [← h2]
   rw [List.map_map]
   refine List.map_congr_left fun i _ => ?_
   simp only [Function.comp_apply]
   rw [if_pos (by omega), Nat.add_sub_cancel_left]; grind
 rw [e2, dF, n5]
 have h3 := fG (t := t) (-T) id y
 simp only [id_eq, List.map_id_fun] at h3
 rw [h3, List.length_replicate, show x.length - y.length = k by omega]
 grind
theorem qF {y x : List Int} (hy : 0 < y.length) (h : y.length ≤ x.length) : (P8 y x).length < x.length := by
 have h1 := xJ (b := y) (r := x) (i := x.length - y.length) hy (by omega)
 rw [show s5 y x (x.length - y.length) = lead x from by rw [s5, if_pos (by omega)]] at h1
 have e : P8 y x = aV (uI y (lead y) (lead x) (x.length - y.length) x) (uM (lead y)) := Cn.ext (Cn.dZ _ _) (Cn.aV _ _) fun t => by
  unfold P8
  rw [bU, uI, uI, gJ, gJ, bU, bU, cN, cN, lS, lS, ← adP]
  grind
 rw [e]
 have := nM (uI y (lead y) (lead x) (x.length - y.length) x) (uM (lead y))
 omega
theorem Z4 (t : Int) (y x : List Int) : ((lead y).natAbs : Int) * V t x = t ^ (x.length - y.length) * (uM (lead y) * lead x) * V t y + V t (P8 y x) := by
 unfold P8
 rw [uI, gJ, bU, cN, lS]; grind
def rq (y : List Int) : Nat → List Int → List Int
 | 0, x => x
 | n + 1, x => if x.length < y.length then x else rq y n (P8 y x)
theorem ai4 {y x : List Int} (h : x.length < y.length) : ∀ n, rq y n x = x
 | 0 => rfl
 | n + 1 => by rw [rq, if_pos h]
theorem QC {y : List Int} (cy : Cn y) (hy : 0 < y.length) : ∀ (n : Nat) (x : List Int), Cn x → x.length < n → Cn (rq y n x) ∧ (rq y n x).length < y.length ∧ ∃ (m : Int) (q : List Int), m ≠ 0 ∧ ∀ t, m * V t x = V t q * V t y + V t (rq y n x)
 | 0, x, _, h => by omega
 | n + 1, x, cx, h => by
  rw [rq]
  split
  ·rename_i h1
   exact ⟨cx, h1, 1, [], by decide, fun t => by simp [V]⟩
  ·rename_i h1
   have hl := qF hy (show y.length ≤ x.length by omega)
   obtain ⟨h2, h3, m, q, hm, h4⟩ := QC cy hy n (P8 y x) (Cn.dZ _ _) (by omega)
   have wX := cI cy hy
   refine ⟨h2, h3, m * (lead y).natAbs, fU q (aV (oB (x.length - y.length) (uM (lead y) * lead x)) m), Int.mul_ne_zero hm (by omega), fun t => ?_⟩
   have h5 := Z4 t y x
   have h6 := h4 t
   rw [o0, bU, lS]
   have : m * ((lead y).natAbs : Int) * V t x = m * (((lead y).natAbs : Int) * V t x) := by grind
   rw [this, h5]
   grind
theorem M6 {s s' N : Nat} {y x : List Int} (qE : Bd 2 s' N y) (bx : Bd 2 s N x) (hy : 0 < y.length) (h : y.length ≤ x.length) : Bd 2 (s + (s' + N + 1)) N (P8 y x) := by
 have hl := qF hy h
 have hlx := bx.len
 have hls : sz 2 ((lead y).natAbs : Int) ≤ s' := Nat.le_trans (cU (by decide) (by rw [Int.natAbs_natCast]; exact Nat.le_refl _)) (fA qE)
 have hlr : sz 2 (uM (lead y) * lead x) ≤ s := Nat.le_trans (cU (by decide) (by
  rw [Int.natAbs_mul]
  have : (uM (lead y)).natAbs = 1 := by unfold uM; split <;> rfl
  rw [this, Nat.one_mul]; exact Nat.le_refl _)) (fA bx)
 have b1 : Bd 2 (s + s' + N) (max N (x.length - y.length + 1 + N)) (aV x ((lead y).natAbs : Int)) := (bx.aV (by decide) hls).mono (by omega) (by omega)
 have b2 : Bd 2 (s + s' + N) (max N (x.length - y.length + 1 + N)) (bI (oB (x.length - y.length) (uM (lead y) * lead x)) y) := ((Bd.oB hlr (x.length - y.length)).bI (by decide) qE).mono (by omega) (by omega)
 exact ⟨by omega, fun c hc => by
  have h6 := (Bd.dZ (by decide) b1 b2).sz c hc
  omega⟩
theorem af5 {s' N : Nat} {y : List Int} (qE : Bd 2 s' N y) (hy : 0 < y.length) : ∀ (n j s : Nat) (x : List Int), Bd 2 s N x → x.length + 1 ≤ y.length + j → Bd 2 (s + j * (s' + N + 1)) N (rq y n x)
 | 0, j, s, x, bx, _ => bx.mono (by simp) (Nat.le_refl _)
 | n + 1, j, s, x, bx, hj => by
  rw [rq]
  split
  ·exact bx.mono (by simp) (Nat.le_refl _)
  ·rename_i h1
   obtain ⟨i, rfl⟩ : ∃ i, j = i + 1 := ⟨j - 1, by omega⟩
   have hl := qF hy (show y.length ≤ x.length by omega)
   have := af5 qE hy n i (s + (s' + N + 1)) (P8 y x) (M6 qE bx hy (by omega)) (by omega)
   rw [Nat.add_mul, Nat.one_mul]
   exact this.mono (by omega) (Nat.le_refl _)
theorem ai5 (n : Nat) : RI (n : Int) = .ag [aJ aF (aR DD n), .bool false] := by
 simp [show ¬ ((n : Int) < 0) by omega]
set_option maxHeartbeats 2000000 in
theorem C7 {s s' N : Nat} {x0 y : List Int} (bx0 : Bd 2 s N x0) (qE : Bd 2 s' N y) (cx0 : Cn x0) (cy : Cn y) (MD : 0 < y.length) (hN : N ≤ 1000) (hB : s + (x0.length + 1 - y.length + 1) * (s' + N + 1) < YY) :
  aL env.P 127 [PI x0, PI y] (PI (rq y (x0.length + 1) x0)) := by
 have hlN := bx0.len
 have hNy := qE.len
 obtain ⟨R, hR⟩ : ∃ R, R = rq y (x0.length + 1) x0 := ⟨_, rfl⟩
 rw [← hR]
 obtain ⟨M, hM⟩ : ∃ M, M = s + (x0.length + 1 - y.length + 1) * (s' + N + 1) := ⟨_, rfl⟩
 rw [← hM] at hB
 have hB : M < 137438953472 := hB
 have hls : sz 2 ((lead y).natAbs : Int) ≤ s' := Nat.le_trans (cU (by decide) (by rw [Int.natAbs_natCast]; exact Nat.le_refl _)) (fA qE)
 have e2 : ((y.length : Int) - 1).toNat = y.length - 1 := by omega
 have KJ : nth y (y.length - 1) = lead y := rfl
 refine aB (E := env) (fun id => if id = 16 then 2 else 0) [(0, PI x0), (1, PI y)] Tryz.func127 rfl (by kernel_rfl) (by kernel_rfl) (show 2 ≤ 78 by decide) (by simp) ?_
 refine W.sr ?_; simp (disch := omega) [gw]; refine W.lx [0, 1] ?_; simp
 refine W.sr ?_; simp (disch := omega) [gw, e2, KJ]; refine W.lx [0, 1, 5] ?_; simp
 refine W.sr ?_; simp (disch := omega) [gw]; refine W.lx [0, 1, 5, 6] ?_; simp
 refine W.sr ?_; simp (disch := omega) [gw]; refine W.lx [0, 1, 5, 6] ?_; simp
 refine W.seq ?_
 refine W.block ?_
 refine W.bB (fun n σ => ∃ (x : List Int) (j u : Nat) (rows : Pm.Rows) (clk : Nat), σ = ⟨fa [(0, PI x), (1, PI y), (5, .ptr 5 0 0 0), (6, .ptr 6 1 0 0)], rows, clk⟩ ∧
  rows 5 = some ⟨0, 48, 2, [[aJ aF (aR DD (lead y).natAbs), .bool (decide (lead y < 0))]]⟩ ∧ rows 6 = some ⟨1, 48, 2, [[aJ aF (aR DD (lead y).natAbs), .bool false]]⟩ ∧
  Cn x ∧ x.length < n ∧ rq y n x = R ∧ Bd 2 u N x ∧ x.length + 1 ≤ y.length + j ∧ u + (j + 1) * (s' + N + 1) ≤ M) (x0.length + 1) ?_ ?_
 ·exact ⟨_, .refl, x0, x0.length + 1 - y.length, s, _, _, rfl, by simp, by simp, cx0, by omega, hR.symm, bx0, by omega, by omega⟩
 rintro n _ ⟨x, j, u, rows, clk, rfl, lT, tP, cx, hxn, hxR, bx, hj, hu⟩
 have hlx := bx.len
 refine W.seq ?_
 refine W.sr ?_; simp (disch := omega) [gw]; refine W.lx [0, 1, 5, 6, 25] ?_; simp
 refine W.cond ⟨_, rfl, fun h => ?_, fun h => ?_⟩
 ·have h : y.length ≤ x.length := by simp at h; omega
  obtain ⟨n, rfl⟩ : ∃ m, n = m + 1 := ⟨n - 1, by omega⟩
  rw [rq, if_neg (by omega)] at hxR
  have hl2 := qF MD h
  obtain ⟨k, hk⟩ : ∃ k, k = x.length - y.length := ⟨_, rfl⟩
  have hkI : (x.length : Int) - (y.length : Int) = k := by omega
  have e1 : ((x.length : Int) - 1).toNat = x.length - 1 := by omega
  have hxl : nth x (x.length - 1) = lead x := rfl
  have aoE := Z3 h
  have b2 := M6 qE bx MD h
  have hlX : sz 2 (lead x) ≤ u := fA bx
  have hu1 : u + (s' + N + 1) ≤ M := by
   have := Nat.le_mul_of_pos_left (s' + N + 1) (show 0 < j + 1 by omega)
   omega
  refine W.skip ?_
  refine W.block ?_
  refine W.sr ?_; simp (disch := omega) [gw, hkI]; refine W.lx [0, 1, 5, 6, 7] ?_; simp
  refine W.sr ?_; simp (disch := omega) [gw, e1, hxl]; refine W.lx [0, 1, 5, 6, 7, 8] ?_; simp
  obtain ⟨T, hT⟩ : ∃ T, T = uM (lead y) * lead x := ⟨_, rfl⟩
  have hTs : sz 2 T ≤ u := Nat.le_trans (cU (by decide) (by
   rw [hT, Int.natAbs_mul]
   have : (uM (lead y)).natAbs = 1 := by unfold uM; split <;> rfl
   rw [this, Nat.one_mul]; exact Nat.le_refl _)) hlX
  have hTp : (lead y < 0 → T = -lead x) ∧ (¬ lead y < 0 → T = lead x) := by
   rw [hT]; unfold uM
   constructor
   ·intro h; rw [if_pos h]; omega
   ·intro h; rw [if_neg h]; omega
  refine W.fQ (fun σ => ∃ (v : Nat) (rows : Pm.Rows) (clk : Nat), σ = ⟨fa [(0, PI x), (1, PI y), (5, .ptr 5 0 0 0), (6, .ptr 6 1 0 0), (7, .int .i64 k), (8, .ptr 8 v 0 0)], rows, clk⟩ ∧
   rows 5 = some ⟨0, 48, 2, [[aJ aF (aR DD (lead y).natAbs), .bool (decide (lead y < 0))]]⟩ ∧ rows 6 = some ⟨1, 48, 2, [[aJ aF (aR DD (lead y).natAbs), .bool false]]⟩ ∧
   rows 8 = some ⟨v, 48, 2, [[aJ aF (aR DD T.natAbs), .bool (decide (T < 0))]]⟩) ?_ ?_
  ·refine W.sr ?_; simp (disch := omega) [gw, lT]; refine W.lx [0, 1, 5, 6, 7, 8, 39] ?_; simp
   refine W.cond ⟨_, rfl, fun h => ?_, fun h => ?_⟩
   ·have h : lead y < 0 := by simpa using h
    have YB := pC (lead x)
    rw [← hTp.1 h] at YB
    refine W.b9 (fun K hK => ?_)
    simp (disch := omega) [gw]
    refine aA YB ?_
    simp (disch := omega) [gw]
    exact hK _ ⟨_, aC _ [0, 1, 5, 6, 7, 8], _, _, _, rfl, by simp [lT], by simp [tP], by simp⟩
   ·have h : ¬ lead y < 0 := by simpa using h
    rw [hTp.2 h]
    refine W.skip ?_
    exact ⟨_, aC _ [0, 1, 5, 6, 7, 8], _, _, _, rfl, by simp [lT], by simp [tP], by simp⟩
  clear lT tP rows clk
  rintro _ ⟨v8, rows, clk, rfl, lT, tP, w9⟩
  refine W.sr ?_; simp (disch := omega) [gw]; refine W.lx [0, 1, 5, 6, 7, 8, 9] ?_; simp
  refine W.nil 9 9 50 4 (by simp) (by decide) (fun K hK => ?_)
  refine W.lw [0, 1, 5, 6, 7, 8, 9] hK ?_; clear hK K; simp
  refine W.seq ?_
  refine W.sr ?_; simp (disch := omega) [gw]; refine W.lx [0, 1, 5, 6, 7, 8, 9, 43, 44] ?_; simp
  refine W.block ?_
  refine W.bB (fun m σ => ∃ (i v9 : Nat) (rows : Pm.Rows) (clk : Nat), σ = ⟨fa [(0, PI x), (1, PI y), (5, .ptr 5 0 0 0), (6, .ptr 6 1 0 0), (7, .int .i64 k), (8, .ptr 8 v8 0 0), (9, .own 9 v9 0 i), (43, .int .i64 x.length), (44, .int .i64 i)], rows, clk⟩ ∧
   rows 5 = some ⟨0, 48, 2, [[aJ aF (aR DD (lead y).natAbs), .bool (decide (lead y < 0))]]⟩ ∧ rows 6 = some ⟨1, 48, 2, [[aJ aF (aR DD (lead y).natAbs), .bool false]]⟩ ∧
   rows 8 = some ⟨v8, 48, 2, [[aJ aF (aR DD T.natAbs), .bool (decide (T < 0))]]⟩ ∧ rows 9 = some ⟨v9, 50, 4, emap ri ((List.range i).map (P9 y x))⟩ ∧ i + m = x.length) x.length ?_ ?_
  ·exact ⟨_, aC _ [0, 1, 5, 6, 7, 8, 9, 43, 44], 0, _, _, _, rfl, by simp [lT], by simp [tP], by simp [w9], by simp [emap], by omega⟩
  clear lT tP w9 rows clk
  rintro m _ ⟨i, v9, rows, clk, rfl, lT, tP, w9, hr9, him⟩
  have uK : ((List.range i).map (P9 y x)).length = i := by simp
  refine W.sr ?_; simp (disch := omega) [gw]; refine W.lx [0, 1, 5, 6, 7, 8, 9, 43, 44, 45] ?_; simp
  refine W.seq ?_
  refine W.cond ⟨_, rfl, fun h => ?_, fun h => ?_⟩
  ·have hi : i < x.length := by simp at h; omega
   have hxi := bx.nth i
   have m1 := dO (nth x i) ((lead y).natAbs : Int) (by show sz 2 _ < 1099511627776; omega) (by show sz 2 _ < 1099511627776; omega)
   rw [ai5] at m1
   have s1 : sz 2 (nth x i * ((lead y).natAbs : Int)) ≤ u + s' := bS (by decide) hxi hls
   have er : (List.range (i + 1)).map (P9 y x) = (List.range i).map (P9 y x) ++ [P9 y x i] := by
    rw [List.range_succ, List.map_append]; rfl
   have hF : P9 y x i = nth x i * ((lead y).natAbs : Int) - if k ≤ i then T * nth y (i - k) else 0 := by unfold P9; rw [hk, hT]
   generalize (List.range i).map (P9 y x) = acc at *
   generalize hP : nth x i * ((lead y).natAbs : Int) = P at *
   refine W.skip ?_
   refine W.seq ?_
   refine W.block ?_
   refine W.sr ?_; simp (disch := omega) [gw]; refine W.lx [0, 1, 5, 6, 7, 8, 9, 10, 43, 44] ?_; simp
   refine W.sd ?_
   simp (disch := omega) [gw, tP]
   refine aA m1 ?_
   simp (disch := omega) [gw]
   rw [if_pos (by kernel_rfl)]
   simp (disch := omega) [gw]
   refine W.lx [0, 1, 5, 6, 7, 8, 9, 10, 11, 43, 44] ?_; simp
   generalize hQ : P9 y x i = Q at *
   have sQ : sz 2 Q ≤ u + (s' + N + 1) := by
    have RO : sz 2 (nth y (i - k)) ≤ s' := qE.nth _
    rw [hF]
    split
    ·have := bS (b := 2) (by decide) hTs RO
     have h1 := mG (b := 2) (by decide) (x := P) (y := -(T * nth y (i - k))) (k := u + s') s1 (by rw [nJ]; exact this)
     rw [← Int.sub_eq_add_neg] at h1
     omega
    ·rw [Int.sub_zero]; omega
   refine W.fQ (fun σ => ∃ (v11 : Nat) (rows : Pm.Rows) (clk : Nat), σ = ⟨fa [(0, PI x), (1, PI y), (5, .ptr 5 0 0 0), (6, .ptr 6 1 0 0), (7, .int .i64 k), (8, .ptr 8 v8 0 0), (9, .own 9 v9 0 i), (11, .ptr 11 v11 0 0), (43, .int .i64 x.length), (44, .int .i64 i)], rows, clk⟩ ∧
    rows 5 = some ⟨0, 48, 2, [[aJ aF (aR DD (lead y).natAbs), .bool (decide (lead y < 0))]]⟩ ∧ rows 6 = some ⟨1, 48, 2, [[aJ aF (aR DD (lead y).natAbs), .bool false]]⟩ ∧
    rows 8 = some ⟨v8, 48, 2, [[aJ aF (aR DD T.natAbs), .bool (decide (T < 0))]]⟩ ∧ rows 9 = some ⟨v9, 50, 4, emap ri acc⟩ ∧
    rows 11 = some ⟨v11, 48, 2, [[aJ aF (aR DD Q.natAbs), .bool (decide (Q < 0))]]⟩) ?_ ?_
   ·refine W.sr ?_; simp (disch := omega) [gw]; refine W.lx [0, 1, 5, 6, 7, 8, 9, 10, 11, 43, 44, 56] ?_; simp
    refine W.cond ⟨_, rfl, fun h => ?_, fun h => ?_⟩
    ·have VR : k ≤ i := by simp at h; omega
     rw [if_pos VR] at hF
     have eik : (i : Int) - (k : Int) = ((i - k : Nat) : Int) := by omega
     have hyb : i - k < y.length := by omega
     have m2 := dO T (nth y (i - k)) (by show sz 2 _ < 1099511627776; omega) (by have := qE.nth (i - k); show sz 2 _ < 1099511627776; omega)
     have s2 := bS (b := 2) (by decide) hTs (qE.nth (i - k))
     have m3 := IM P (T * nth y (i - k)) (by show sz 2 _ < 1099511627776; omega) (by show sz 2 _ < 1099511627776; omega)
     rw [← hF] at m3
     generalize T * nth y (i - k) = P2 at *
     refine W.HS (fun K hK => ?_)
     simp (disch := omega) [gw, w9, eik]
     refine aA m2 ?_
     simp (disch := omega) [gw]
     refine aA m3 ?_
     simp (disch := omega) [gw]
     refine cP (by kernel_rfl) ?_
     simp (disch := omega) [gw]
     exact hK _ ⟨_, aC _ [0, 1, 5, 6, 7, 8, 9, 11, 43, 44], _, _, _, rfl, by simp [lT], by simp [tP], by simp [w9], by simp [hr9], by simp⟩
    ·have VR : ¬ k ≤ i := by simp at h; omega
     rw [if_neg VR, Int.sub_zero] at hF
     rw [hF]
     refine W.skip ?_
     exact ⟨_, aC _ [0, 1, 5, 6, 7, 8, 9, 11, 43, 44], _, _, _, rfl, by simp [lT], by simp [tP], by simp [w9], by simp [hr9], by simp⟩
   clear lT tP w9 hr9 rows clk
   rintro _ ⟨v11, rows, clk, rfl, lT, tP, w9, hr9, atz⟩
   have o1 := nO 1 (by decide) (by decide)
   have mk := CT Q (by show sz 2 Q < 549755813888; omega)
   refine W.HS (fun K hK => ?_)
   rw [if_pos rfl, eD]
   simp (disch := omega) [gw, atz]
   refine aA o1 ?_
   simp (disch := omega) [gw]
   refine aA mk ?_
   simp (disch := omega) [gw, hr9, uK]
   refine W.lw [0, 1, 5, 6, 7, 8, 9, 43, 44] hK ?_; clear hK K; simp
   refine W.b9 (fun K hK => ?_); simp (disch := omega) [gw]
   refine hK _ ⟨m - 1, _, aC _ [0, 1, 5, 6, 7, 8, 9, 43, 44], by omega, i + 1, _, _, _, rfl, by simp [lT], by simp [tP], by simp [w9], by rw [er]; simp, by omega⟩
  ·have hi : i = x.length := by simp at h; omega
   subst hi
   have eT : ((List.range x.length).map (P9 y x)).length = x.length := by simp
   generalize (List.range x.length).map (P9 y x) = acc at *
   have ez := bG eT
   have lG := mT acc (by omega)
   rw [aoE] at lG
   refine W.exit ?_; simp only [pX, if_true, if_false, reduceIte, Nat.reduceEqDiff]
   refine W.b9 (fun K hK => ?_)
   simp (disch := omega) [gw, hr9, ez]
   refine aA lG ?_
   simp (disch := omega) [gw]
   obtain ⟨j, rfl⟩ : ∃ i, j = i + 1 := ⟨j - 1, by omega⟩
   rw [Nat.add_mul, Nat.one_mul] at hu
   refine hK _ ⟨n, _, aC _ [0, 1, 5, 6], by omega, P8 y x, j, u + (s' + N + 1), _, _, rfl, by simp [lT], by simp [tP], Cn.dZ _ _, by omega, hxR, b2, by omega, by omega⟩
 ·have h : x.length < y.length := by simp at h; omega
  rw [ai4 h] at hxR
  subst hxR
  refine W.exit ?_; simp only [pX, if_true, if_false, reduceIte, Nat.reduceEqDiff]
  refine W.sr ?_; simp (disch := omega) [gw]; refine W.lx [4] ?_; simp
  refine W.ret ?_
  simp [go]
end Go.Proofs.YtbbjgncblhfegaaGreat
