import Derived.Test.YtbbjgncblhfegaaGreatFaf
import Derived.Test.YtbbjgncblhfegaaGreatFal
set_option linter.unusedSimpArgs false
set_option linter.unusedVariables false
namespace Pm
structure ZX where
 l : List Int
 c : Cn l
namespace ZX
theorem ext {x y : ZX} (h : ∀ t, V t x.l = V t y.l) : x = y := by
 obtain ⟨x, hx⟩ := x
 obtain ⟨y, hy⟩ := y
 have := Cn.ext hx hy h
 subst this
 rfl
def of (x : List Int) : ZX := ⟨aM x, Cn.cut x⟩
def K (c : Int) : ZX := of [c]
instance : Zero ZX := ⟨⟨[], Cn.nil⟩⟩
instance : One ZX := ⟨K 1⟩
instance : Add ZX := ⟨fun x y => ⟨gC x.l y.l, Cn.gC _ _⟩⟩
instance : Mul ZX := ⟨fun x y => ⟨bJ x.l y.l, Cn.bJ _ _⟩⟩
instance : Neg ZX := ⟨fun x => ⟨fJ x.l, Cn.fJ _⟩⟩
instance : Sub ZX := ⟨fun x y => ⟨eC x.l y.l, Cn.eC _ _⟩⟩
def pow (x : ZX) : Nat → ZX
 | 0 => 1
 | n + 1 => pow x n * x
instance : HPow ZX Nat ZX := ⟨pow⟩
instance : NatCast ZX := ⟨fun n => K n⟩
instance (n : Nat) : OfNat ZX n := ⟨K n⟩
instance : IntCast ZX := ⟨fun n => K n⟩
instance : SMul Nat ZX := ⟨fun n x => K n * x⟩
instance : SMul Int ZX := ⟨fun n x => K n * x⟩
variable {t : Int}
theorem N9 (x : List Int) : V t (of x).l = V t x := cF x
theorem sF (c : Int) : V t (K c).l = c := by rw [K, N9]; simp [V]
theorem sG : V t (0 : ZX).l = 0 := sF 0
theorem DY : V t (1 : ZX).l = 1 := sF 1
theorem kC (x y : ZX) : V t (x + y).l = V t x.l + V t y.l := pJ _ _
theorem c9 (x y : ZX) : V t (x * y).l = V t x.l * V t y.l := cR _ _
theorem DZ (x : ZX) : V t (-x).l = -V t x.l := zS _
theorem apm (x y : ZX) : V t (x - y).l = V t x.l - V t y.l := gS _ _
theorem Q3 (x : ZX) : ∀ n : Nat, V t (x ^ n).l = V t x.l ^ n
 | 0 => by show V t (1 : ZX).l = _; rw [DY, Int.pow_zero]
 | n + 1 => by show V t ((x ^ n) * x).l = _; rw [c9, Q3 x n, Int.pow_succ]
theorem Q4 (n : Nat) : V t (OfNat.ofNat n : ZX).l = n := sF n
theorem agE (n : Int) : V t (n : ZX).l = n := sF n
theorem Q5 (n : Int) (x : ZX) : V t (n • x).l = n * V t x.l := by show V t (K n * x).l = _; rw [c9, sF]
instance : Lean.Grind.CommRing ZX where
 add_zero x := ext fun t => by rw [kC, sG]; omega
 add_comm x y := ext fun t => by rw [kC, kC]; omega
 add_assoc x y z := ext fun t => by simp only [kC]; omega
 mul_assoc x y z := ext fun t => by simp only [c9]; grind
 mul_one x := ext fun t => by rw [c9, DY]; omega
 one_mul x := ext fun t => by rw [c9, DY]; omega
 left_distrib x y z := ext fun t => by simp only [c9, kC]; grind
 right_distrib x y z := ext fun t => by simp only [c9, kC]; grind
 zero_mul x := ext fun t => by rw [c9, sG]; omega
 mul_zero x := ext fun t => by rw [c9, sG]; omega
 pow_zero x := ext fun t => by rw [Q3, DY, Int.pow_zero]
 pow_succ x n := ext fun t => by rw [c9, Q3, Q3, Int.pow_succ]
 ofNat_succ n := ext fun t => by rw [kC, Q4, Q4, DY]; omega
 ofNat_eq_natCast n := rfl
 nsmul_eq_natCast_mul n x := rfl
 neg_add_cancel x := ext fun t => by rw [kC, DZ, sG]; omega
 sub_eq_add_neg x y := ext fun t => by rw [apm, kC, DZ]; omega
 neg_zsmul n x := ext fun t => by rw [Q5, DZ, Q5]; grind
 zsmul_natCast_eq_nsmul n x := rfl
 intCast_ofNat n := rfl
 intCast_neg n := ext fun t => by rw [agE, DZ, agE]
 mul_comm x y := ext fun t => by rw [c9, c9, Int.mul_comm]
def N (x : ZX) : Nat := x.l.length
theorem aG {x : ZX} : x ≠ 0 ↔ 0 < N x := by
 constructor
 ·intro h
  rcases Nat.eq_zero_or_pos (N x) with h1 | h1
  ·exfalso
   apply h
   have : x.l = [] := List.eq_nil_of_length_eq_zero h1
   exact ext fun t => by rw [this, sG]; rfl
  ·exact h1
 ·rintro h rfl
  have : N (0 : ZX) = 0 := by decide
  omega
theorem ZQ : N (0 : ZX) = 0 := by decide
theorem lL {x y : ZX} (hx : x ≠ 0) (hy : y ≠ 0) : N (x * y) = N x + N y - 1 := iT x.c y.c (aG.1 hx) (aG.1 hy)
theorem mS {x y : ZX} (hx : x ≠ 0) (hy : y ≠ 0) : x * y ≠ 0 := by
 rw [aG, lL hx hy]
 have := aG.1 hx
 have := aG.1 hy
 omega
theorem pU {x y : ZX} (h : x * y = 0) : x = 0 ∨ y = 0 := by
 by_cases hx : x = 0
 ·exact .inl hx
 ·by_cases hy : y = 0
  ·exact .inr hy
  ·exact absurd h (mS hx hy)
theorem D0 (x y : ZX) : x * y = y * x := by grind
theorem cancel {x y z : ZX} (hz : z ≠ 0) (h : z * x = z * y) : x = y := by
 have h1 : z * (x - y) = 0 := by grind
 rcases pU h1 with h2 | h2
 ·exact absurd h2 hz
 ·grind
theorem sH {c : Int} (h : c ≠ 0) : K c ≠ 0 := fun e => h (by
 have := sF (t := 0) c
 rw [e, sG] at this; omega)
theorem N_K {c : Int} (h : c ≠ 0) : N (K c) = 1 := by
 show (aM [c]).length = 1
 rw [show aM [c] = [c] from jB h []]; rfl
theorem nG (c d : Int) : K c * K d = K (c * d) := ext fun t => by rw [c9, sF, sF, sF]
theorem nI {x : ZX} (h : N x = 1) : ∃ c, c ≠ 0 ∧ x = K c := by
 obtain ⟨l, hl⟩ := x
 match l, hl, h with
 | [c], hl, _ =>
  have hc : c ≠ 0 := by
   have := cH hl (by simp)
   simpa [lead, qM] using this
  exact ⟨c, hc, ext fun t => by rw [sF]; simp [V]⟩
theorem kT {c : Int} {x y q : ZX} (hc : c ≠ 0) (hx : x ≠ 0) (h : K c * x = q * y) : q ≠ 0 ∧ y ≠ 0 := by
 have h1 := mS (sH hc) hx
 rw [h] at h1
 constructor
 ·rintro rfl; apply h1; grind
 ·rintro rfl; apply h1; grind
theorem pV : (1 : ZX) ≠ 0 := sH (by decide)
theorem tZ : N (1 : ZX) = 1 := N_K (by decide)
def dv (y x : ZX) : Prop := ∃ c : Int, c ≠ 0 ∧ ∃ q, K c * x = q * y
theorem dv.refl (x : ZX) : dv x x := ⟨1, by decide, K 1, rfl⟩
theorem dv.zero (x : ZX) : dv x 0 := ⟨1, by decide, 0, by grind⟩
theorem dv.trans {x y z : ZX} (h1 : dv x y) (h2 : dv y z) : dv x z := by
 obtain ⟨c, hc, q, h1⟩ := h1
 obtain ⟨d, hd, r, h2⟩ := h2
 exact ⟨c * d, Int.mul_ne_zero hc hd, q * r, by rw [← nG]; grind⟩
theorem dv.mul_right {x y : ZX} (h : dv x y) (z : ZX) : dv x (y * z) := by
 obtain ⟨c, hc, q, h⟩ := h
 exact ⟨c, hc, q * z, by grind⟩
theorem dv.mul_left {x y : ZX} (h : dv x y) (z : ZX) : dv x (z * y) := by
 obtain ⟨c, hc, q, h⟩ := h
 exact ⟨c, hc, q * z, by grind⟩
theorem dv.mul {x y z w : ZX} (h1 : dv x y) (h2 : dv z w) : dv (x * z) (y * w) := by
 obtain ⟨c, hc, q, h1⟩ := h1
 obtain ⟨d, hd, r, h2⟩ := h2
 exact ⟨c * d, Int.mul_ne_zero hc hd, q * r, by rw [← nG]; grind⟩
theorem dv.add {x y z : ZX} (h1 : dv x y) (h2 : dv x z) : dv x (y + z) := by
 obtain ⟨c, hc, q, h1⟩ := h1
 obtain ⟨d, hd, r, h2⟩ := h2
 exact ⟨c * d, Int.mul_ne_zero hc hd, K d * q + K c * r, by rw [← nG]; grind⟩
theorem dv.J3 {x y : ZX} {c : Int} (hc : c ≠ 0) (h : dv x (K c * y)) : dv x y := by
 obtain ⟨d, hd, q, h⟩ := h
 exact ⟨d * c, Int.mul_ne_zero hd hc, q, by rw [← nG]; grind⟩
theorem dv.pW {x y : ZX} (h : dv x y) (hy : y ≠ 0) : N x ≤ N y := by
 obtain ⟨c, hc, q, h⟩ := h
 obtain ⟨h1, h2⟩ := kT hc hy h
 have h3 : N (K c * y) = N y := by rw [lL (sH hc) hy, N_K hc]; have := aG.1 hy; omega
 rw [h, lL h1 h2] at h3
 have := aG.1 h1
 omega
theorem dv.ne {x y : ZX} (h : dv x y) (hy : y ≠ 0) : x ≠ 0 := by
 obtain ⟨c, hc, q, h⟩ := h
 exact (kT hc hy h).2
theorem yC {x : ZX} (h : dv 0 x) : x = 0 := by
 obtain ⟨c, hc, q, h⟩ := h
 have h2 : K c * x = 0 := by grind
 exact (pU h2).resolve_left (sH hc)
theorem apn {c : Int} (hc : c ≠ 0) (x : ZX) : dv (K c) x := ⟨c, hc, x, by grind⟩
theorem aeg {x y : ZX} (h : dv x y) (hy : y ≠ 0) (hN : N x = N y) : dv y x := by
 obtain ⟨c, hc, q, h⟩ := h
 obtain ⟨h1, h2⟩ := kT hc hy h
 have h3 : N (K c * y) = N y := by rw [lL (sH hc) hy, N_K hc]; have := aG.1 hy; omega
 rw [h, lL h1 h2] at h3
 have h4 := aG.1 h1
 have h5 := aG.1 h2
 obtain ⟨d, hd, rfl⟩ := nI (x := q) (by omega)
 exact ⟨d, hd, K c, by rw [h]⟩
theorem ajI (a : ZX) {b : ZX} (hb : b ≠ 0) : ∃ c : Int, c ≠ 0 ∧ ∃ q r, K c * a = q * b + r ∧ N r < N b := by
 have h0 := aG.1 hb
 obtain ⟨c1, c2⟩ := zV (b := b.l) a.c
 refine ⟨lead b.l ^ iG a.l b.l, Int.pow_ne_zero (cH b.c h0), ⟨_, c1⟩, ⟨_, c2⟩, ext fun t => ?_, ?_⟩
 ·rw [c9, sF, kC, c9]
  exact (Y1 t a.l b.l).symm
 ·have := FQ (a := a.l) h0
  show (wT a.l b.l).2.length < b.l.length
  have : 0 < b.l.length := h0
  omega
structure oT (g a b : ZX) : Prop where
 l : dv g a
 r : dv g b
 uv : ∃ c : Int, c ≠ 0 ∧ ∃ u v, K c * g = u * a + v * b
theorem oT.least {g a b d : ZX} (h : oT g a b) (ha : dv d a) (hb : dv d b) : dv d g := by
 obtain ⟨c, hc, u, v, e⟩ := h.uv
 refine dv.J3 hc ?_
 rw [e]
 exact (ha.mul_left u).add (hb.mul_left v)
theorem oT.ne {g a b : ZX} (h : oT g a b) (ha : a ≠ 0 ∨ b ≠ 0) : g ≠ 0 := by
 rintro rfl
 rcases ha with h1 | h1
 ·exact h1 (yC h.l)
 ·exact h1 (yC h.r)
theorem oT.zero (a : ZX) : oT a a 0 := ⟨dv.refl a, dv.zero a, 1, by decide, 1, 0, by show (1 : ZX) * a = _; grind⟩
theorem oT.symm {g a b : ZX} (h : oT g a b) : oT g b a := by
 obtain ⟨c, hc, u, v, e⟩ := h.uv
 exact ⟨h.r, h.l, c, hc, v, u, by grind⟩
theorem oT.step {g a b q r : ZX} {c : Int} (hc : c ≠ 0) (e : K c * a = q * b + r) (h : oT g b r) : oT g a b := by
 obtain ⟨d, hd, u, v, e2⟩ := h.uv
 refine ⟨dv.J3 hc ?_, h.l, d, hd, v * K c, u - v * q, by grind⟩
 rw [e]
 exact (h.l.mul_left q).add h.r
theorem iJ : ∀ (n : Nat) (a b : ZX), N b ≤ n → ∃ g, oT g a b
 | 0, a, b, h => by
  have : b = 0 := Classical.byContradiction fun hb => by have := aG.1 hb; omega
  subst this
  exact ⟨a, oT.zero a⟩
 | n + 1, a, b, h => by
  by_cases hb : b = 0
  ·subst hb; exact ⟨a, oT.zero a⟩
  ·obtain ⟨c, hc, q, r, e, hr⟩ := ajI a hb
   obtain ⟨g, hg⟩ := iJ n b r (by omega)
   exact ⟨g, hg.step hc e⟩
structure pY (p : ZX) : Prop where
 deg : 2 ≤ N p
 irr : ∀ d, dv d p → N d = 1 ∨ N d = N p
theorem pY.ne {p : ZX} (h : pY p) : p ≠ 0 := aG.2 (by have := h.deg; omega)
theorem pY.agF {p a b : ZX} (hp : pY p) (h : dv p (a * b)) : dv p a ∨ dv p b := by
 obtain ⟨g, hg⟩ := iJ _ p a (Nat.le_refl _)
 rcases hp.irr g hg.l with h1 | h1
 ·right
  obtain ⟨k, hk, rfl⟩ := nI h1
  obtain ⟨c, hc, u, v, e⟩ := hg.uv
  refine dv.J3 (c := c * k) (Int.mul_ne_zero hc hk) ?_
  have e2 : K (c * k) * b = (u * b) * p + v * (a * b) := by rw [← nG]; grind
  rw [e2]
  exact ((dv.refl p).mul_left _).add (h.mul_left v)
 ·left
  exact (aeg hg.l hp.ne h1).trans hg.r
theorem AR : ∀ (n : Nat) (a : ZX), N a ≤ n → 2 ≤ N a → ∃ p, pY p ∧ dv p a
 | 0, a, h, h2 => by omega
 | n + 1, a, h, h2 => by
  by_cases hi : ∃ d, dv d a ∧ N d ≠ 1 ∧ N d ≠ N a
  ·obtain ⟨d, hd, h3, h4⟩ := hi
   have h5 := hd.pW (aG.2 (by omega))
   have h6 := aG.1 (hd.ne (aG.2 (by omega)))
   obtain ⟨p, hp, hpd⟩ := AR n d (by omega) (by omega)
   exact ⟨p, hp, hpd.trans hd⟩
  ·refine ⟨a, ⟨h2, fun d hd => ?_⟩, dv.refl a⟩
   by_cases h3 : N d = 1
   ·exact .inl h3
   ·by_cases h4 : N d = N a
    ·exact .inr h4
    ·exact absurd ⟨d, hd, h3, h4⟩ hi
theorem pow_succ' (p : ZX) (k : Nat) : p ^ (k + 1) = p ^ k * p := rfl
theorem gL (p : ZX) : p ^ 0 = 1 := rfl
theorem pow_add' (p : ZX) (j : Nat) : ∀ k, p ^ (j + k) = p ^ j * p ^ k
 | 0 => by rw [Nat.add_zero, gL]; grind
 | k + 1 => by rw [← Nat.add_assoc, pow_succ', pow_succ', pow_add' p j k]; grind
theorem GD {p : ZX} (hp : p ≠ 0) : ∀ k : Nat, p ^ k ≠ 0
 | 0 => pV
 | k + 1 => mS (GD hp k) hp
theorem agG {p : ZX} (hp : pY p) : ∀ k : Nat, k < N (p ^ k)
 | 0 => by rw [gL, tZ]; omega
 | k + 1 => by
  rw [pow_succ', lL (GD hp.ne k) hp.ne]
  have := agG hp k
  have := hp.deg
  omega
theorem aaq {p : ZX} {j k : Nat} (h : j ≤ k) : dv (p ^ j) (p ^ k) := by
 obtain ⟨d, rfl⟩ := Nat.exists_eq_add_of_le h
 rw [pow_add']
 exact (dv.refl _).mul_right _
theorem UZ {p a : ZX} (hp : pY p) (ha : a ≠ 0) : ∃ k, dv (p ^ k) a ∧ ¬ dv (p ^ (k + 1)) a := by
 have key : ∀ n, (∃ k, k ≤ n ∧ dv (p ^ k) a ∧ ¬ dv (p ^ (k + 1)) a) ∨ dv (p ^ (n + 1)) a := by
  intro n
  induction n with
  | zero =>
   by_cases h : dv (p ^ 1) a
   ·exact .inr h
   ·exact .inl ⟨0, Nat.le_refl _, apn (by decide) a, h⟩
  | succ n ih =>
   rcases ih with ⟨k, h1, h2⟩ | ih
   ·exact .inl ⟨k, by omega, h2⟩
   ·by_cases h : dv (p ^ (n + 2)) a
    ·exact .inr h
    ·exact .inl ⟨n + 1, Nat.le_refl _, ih, h⟩
 rcases key (N a) with ⟨k, _, h⟩ | h
 ·exact ⟨k, h⟩
 ·have h1 := h.pW ha
  have h2 := agG hp (N a + 1)
  omega
open Classical in
noncomputable def mu (p a : ZX) : Nat := if h : ∃ k, dv (p ^ k) a ∧ ¬ dv (p ^ (k + 1)) a then h.choose else 0
theorem Q6 {p a : ZX} (hp : pY p) (ha : a ≠ 0) : dv (p ^ mu p a) a ∧ ¬ dv (p ^ (mu p a + 1)) a := by
 have h := UZ hp ha
 unfold mu
 rw [dif_pos h]
 exact h.choose_spec
theorem pZ {p a : ZX} (hp : pY p) (ha : a ≠ 0) {k : Nat} : k ≤ mu p a ↔ dv (p ^ k) a := by
 obtain ⟨h1, h2⟩ := Q6 hp ha
 constructor
 ·intro h; exact (aaq h).trans h1
 ·intro h
  rcases Nat.lt_or_ge (mu p a) k with h3 | h3
  ·exact absurd ((aaq h3).trans h) h2
  ·exact h3
theorem AS {p a : ZX} (hp : pY p) (ha : a ≠ 0) : ∃ c : Int, c ≠ 0 ∧ ∃ b, b ≠ 0 ∧ K c * a = b * p ^ mu p a ∧ ¬ dv p b := by
 obtain ⟨⟨c, hc, b, e⟩, h2⟩ := Q6 hp ha
 refine ⟨c, hc, b, (kT hc ha e).1, e, fun h => h2 (dv.J3 hc ?_)⟩
 rw [e, pow_succ']
 have := h.mul (dv.refl (p ^ mu p a))
 rw [show p ^ mu p a * p = p * p ^ mu p a by grind]
 exact this
theorem vE {p a b : ZX} (hp : pY p) (ha : a ≠ 0) {c : Int} (hc : c ≠ 0) {k : Nat} (e : K c * a = b * p ^ k) (h : ¬ dv p b) : mu p a = k := by
 have h1 : k ≤ mu p a := (pZ hp ha).2 ⟨c, hc, b, e⟩
 rcases Nat.lt_or_ge k (mu p a) with h2 | h2
 ·exfalso
  obtain ⟨d, hd, r, e2⟩ := (pZ hp ha).1 h2
  apply h
  refine ⟨d, hd, K c * r, ZX.cancel (GD hp.ne k) ?_⟩
  rw [pow_succ'] at e2
  grind
 ·omega
theorem AU {p a b : ZX} (hp : pY p) (ha : a ≠ 0) (hb : b ≠ 0) : mu p (a * b) = mu p a + mu p b := by
 obtain ⟨c, hc, x, _, e1, h1⟩ := AS hp ha
 obtain ⟨d, hd, y, _, e2, h2⟩ := AS hp hb
 refine vE (b := x * y) hp (mS ha hb) (Int.mul_ne_zero hc hd) ?_ fun h => ?_
 ·rw [pow_add', ← nG]; grind
 ·rcases hp.agF h with h3 | h3
  ·exact h1 h3
  ·exact h2 h3
theorem aar {p : ZX} (hp : pY p) {c : Int} (hc : c ≠ 0) : mu p (K c) = 0 := by
 refine vE (b := K c) (c := 1) hp (sH hc) (by decide) (by rw [gL]; show (1 : ZX) * K c = _; grind) fun h => ?_
 have := h.pW (sH hc)
 rw [N_K hc] at this
 have := hp.deg
 omega
theorem Q7 {p a b : ZX} (hp : pY p) (hb : b ≠ 0) (h : dv a b) : mu p a ≤ mu p b := (pZ hp hb).2 (((pZ hp (h.ne hb)).1 (Nat.le_refl _)).trans h)
theorem agH {p a b q : ZX} (hp : pY p) {c : Int} (hc : c ≠ 0) (ha : a ≠ 0) (e : K c * a = q * b) : mu p a = mu p q + mu p b := by
 obtain ⟨h1, h2⟩ := kT hc ha e
 rw [← AU hp h1 h2, ← e, AU hp (sH hc) ha, aar hp hc]; omega
theorem J4 : ∀ (n : Nat) (a b : ZX), N a ≤ n → a ≠ 0 → b ≠ 0 → (∀ p, pY p → mu p a ≤ mu p b) → dv a b
 | 0, a, b, hn, ha, _, _ => by have := aG.1 ha; omega
 | n + 1, a, b, hn, ha, hb, h => by
  rcases Nat.lt_or_ge (N a) 2 with h1 | h1
  ·obtain ⟨c, hc, rfl⟩ := nI (x := a) (by have := aG.1 ha; omega)
   exact apn hc b
  ·obtain ⟨p, hp, hpa⟩ := AR _ a (Nat.le_refl _) h1
   have h2 : 1 ≤ mu p a := (pZ hp ha).2 (by rw [show p ^ 1 = p by rw [pow_succ', gL]; grind]; exact hpa)
   have h3 : dv p b := by
    have := (pZ hp hb).1 (Nat.le_trans h2 (h p hp))
    rwa [show p ^ 1 = p by rw [pow_succ', gL]; grind] at this
   obtain ⟨c, hc, a', ea⟩ := hpa
   obtain ⟨d, hd, b', eb⟩ := h3
   obtain ⟨G6, _⟩ := kT hc ha ea
   obtain ⟨yP, _⟩ := kT hd hb eb
   have h4 : N (K c * a) = N a := by rw [lL (sH hc) ha, N_K hc]; have := aG.1 ha; omega
   have h5 : dv a' b' := J4 n a' b' (by
    rw [ea, lL G6 hp.ne] at h4
    have := hp.deg
    omega) G6 yP fun r hr => by
    have h6 := h r hr
    rw [agH hr hc ha ea, agH hr hd hb eb] at h6
    omega
   refine dv.J3 hd ?_
   rw [eb]
   have h7 := h5.mul (dv.refl p)
   rw [← ea] at h7
   obtain ⟨e, he, q, e3⟩ := h7
   exact ⟨e, he, q * K c, by grind⟩
theorem qQ {a b : ZX} (ha : a ≠ 0) (hb : b ≠ 0) : dv a b ↔ ∀ p, pY p → mu p a ≤ mu p b := ⟨fun h p hp => Q7 hp hb h, J4 _ a b (Nat.le_refl _) ha hb⟩
theorem oT.mu {g a b p : ZX} (h : oT g a b) (ha : a ≠ 0) (hb : b ≠ 0) (hp : pY p) : mu p g = min (ZX.mu p a) (ZX.mu p b) := by
 have hg := h.ne (.inl ha)
 have h1 := Q7 hp ha h.l
 have h2 := Q7 hp hb h.r
 have h3 : min (ZX.mu p a) (ZX.mu p b) ≤ ZX.mu p g := (pZ hp hg).2 (h.least ((pZ hp ha).1 (Nat.min_le_left _ _)) ((pZ hp hb).1 (Nat.min_le_right _ _)))
 omega
def vF (x : List Int) : List Int := (List.range (x.length - 1)).map fun i => nth x (i + 1) * ((i + 1 : Nat) : Int)
def oU : Nat → List Int → List Int
 | _, [] => []
 | k, a :: l => a * (k : Int) :: oU (k + 1) l
def W (t : Int) : List Int → Int
 | [] => 0
 | _ :: l => V t l + t * W t l
theorem Q8 : ∀ (l : List Int) (k : Nat), oU k l = (List.range l.length).map fun i => nth l i * ((k + i : Nat) : Int)
 | [], k => rfl
 | a :: l, k => by
  rw [oU, Q8 l (k + 1), List.length_cons, List.range_succ_eq_map, List.map_cons, List.map_map]
  congr 1
  refine List.map_congr_left fun i _ => ?_
  simp only [Function.comp_apply, iU]
  rw [show k + 1 + i = k + (i + 1) by omega]
theorem D3 (a : Int) (l : List Int) : vF (a :: l) = oU 1 l := by
 rw [Q8, vF, List.length_cons, Nat.add_sub_cancel]
 refine List.map_congr_left fun i _ => ?_
 rw [iU, show i + 1 = 1 + i by omega]
theorem w9 (t : Int) : ∀ (l : List Int) (k : Nat), V t (oU (k + 1) l) = V t (oU k l) + V t l
 | [], k => by simp [oU, V]
 | a :: l, k => by
  simp only [oU, V]
  rw [w9 t l (k + 1)]
  have : ((k + 1 : Nat) : Int) = (k : Int) + 1 := by omega
  rw [this]; grind
theorem AV (t : Int) : ∀ l : List Int, V t (oU 1 l) = V t l + t * W t l
 | [] => by simp [oU, V, W]
 | b :: m => by
  rw [oU]
  simp only [V, W]
  rw [w9, AV t m]
  rw [show ((1 : Nat) : Int) = 1 from rfl]
  grind
theorem ajK (t : Int) : ∀ x : List Int, V t (vF x) = W t x
 | [] => rfl
 | a :: l => by rw [D3, AV]; rfl
def bP (x : ZX) : ZX := of (vF x.l)
theorem Q9 (x : ZX) : V t (bP x).l = W t x.l := by rw [bP, N9, ajK]
theorem GF (t h : Int) : ∀ x : List Int, ∃ R : Int, V (t + h) x = V t x + h * W t x + h * h * R
 | [] => ⟨0, by simp [V, W]⟩
 | a :: l => by
  obtain ⟨R, hR⟩ := GF t h l
  refine ⟨W t l + (t + h) * R, ?_⟩
  simp only [V, W]
  rw [hR]; grind
theorem aas {t A : Int} {z : List Int} (hA : ∀ h, ∃ R : Int, V (t + h) z = V t z + h * A + h * h * R) : W t z = A := by
 have key : ∀ h : Int, h ≠ 0 → h ∣ W t z - A := fun h hh => by
  obtain ⟨R, hR⟩ := hA h
  obtain ⟨S, hS⟩ := GF t h z
  refine ⟨R - S, Int.eq_of_mul_eq_mul_left hh ?_⟩
  grind
 have h1 := key (((W t z - A).natAbs : Int) + 1) (by omega)
 have h2 := Int.natAbs_dvd_natAbs.2 h1
 rcases Nat.eq_zero_or_pos (W t z - A).natAbs with h3 | h3
 ·omega
 ·have := Nat.le_of_dvd h3 h2
  omega
theorem uA (x y : ZX) : bP (x * y) = bP x * y + x * bP y := ext fun t => by
 rw [Q9, kC, c9, c9, Q9, Q9]
 refine aas fun h => ?_
 obtain ⟨R, hR⟩ := GF t h x.l
 obtain ⟨S, hS⟩ := GF t h y.l
 refine ⟨V t x.l * S + R * V t y.l + W t x.l * W t y.l + h * (W t x.l * S + R * W t y.l) + h * h * R * S, ?_⟩
 rw [c9, c9, hR, hS]; grind
theorem agI (c : Int) : bP (K c) = 0 := ext fun t => by
 rw [Q9, sG]
 refine aas fun h => ⟨0, ?_⟩
 rw [sF, sF]; grind
theorem aat (c : Int) (x : ZX) : bP (K c * x) = K c * bP x := by rw [uA, agI]; grind
theorem RA : bP (1 : ZX) = 0 := agI 1
theorem RB (p : ZX) : ∀ m : Nat, bP (p ^ (m + 1)) = K ((m + 1 : Nat) : Int) * p ^ m * bP p
 | 0 => by
  rw [pow_succ', uA, gL, RA]
  show _ = (1 : ZX) * 1 * bP p
  grind
 | m + 1 => by
  rw [pow_succ', uA, RB p m]
  have : K ((m + 1 + 1 : Nat) : Int) = K ((m + 1 : Nat) : Int) + 1 := ext fun t => by rw [kC, sF, sF, DY]; omega
  rw [this, pow_succ']; grind
theorem nJ (a : ZX) : N (bP a) ≤ N a - 1 := Nat.le_trans (bO _) (by simp [vF, N])
theorem GG {a : ZX} (h : 2 ≤ N a) : bP a ≠ 0 := by
 have h1 : a.l.length = N a := rfl
 have hl := cH a.c (by omega)
 intro h0
 have h2 : nth (bP a).l (N a - 2) = nth a.l (N a - 1) * ((N a - 1 : Nat) : Int) := by
  show nth (aM (vF a.l)) _ = _
  rw [gY, vF, cE (by simp; omega)]
  simp only [List.getElem_map, List.getElem_range]
  rw [show N a - 2 + 1 = N a - 1 by omega]
 rw [h0] at h2
 have h3 : nth (0 : ZX).l (N a - 2) = 0 := fZ (by show (0 : ZX).l.length ≤ _; exact Nat.zero_le _)
 rw [h3] at h2
 have h4 : nth a.l (N a - 1) = lead a.l := by rw [lead, h1]
 rw [h4] at h2
 exact Int.mul_ne_zero hl (by omega) h2.symm
theorem pY.OA {p : ZX} (hp : pY p) : ¬ dv p (bP p) := fun h => by
 have h1 := h.pW (GG hp.deg)
 have h2 := nJ p
 have := hp.deg
 omega
theorem AW {p a : ZX} (hp : pY p) (ha : a ≠ 0) {m : Nat} (h : mu p a = m + 1) : bP a ≠ 0 ∧ mu p (bP a) = m := by
 obtain ⟨c, hc, b, hb, e, hn⟩ := AS hp ha
 rw [h] at e
 have e2 : K c * bP a = (bP b * p + K ((m + 1 : Nat) : Int) * (b * bP p)) * p ^ m := by
  rw [← aat, e, uA, RB, pow_succ']; grind
 have HV : ¬ dv p (bP b * p + K ((m + 1 : Nat) : Int) * (b * bP p)) := fun h1 => by
  have h2 : dv p (K ((m + 1 : Nat) : Int) * (b * bP p)) := by
   have h3 := h1.add ((dv.refl p).mul_left (-bP b))
   rwa [show bP b * p + K ((m + 1 : Nat) : Int) * (b * bP p) + -bP b * p = K ((m + 1 : Nat) : Int) * (b * bP p) by grind] at h3
  have h4 := dv.J3 (by omega) h2
  rcases hp.agF h4 with h5 | h5
  ·exact hn h5
  ·exact hp.OA h5
 have h6 : bP a ≠ 0 := fun h0 => by
  rw [h0] at e2
  have h7 : (bP b * p + K ((m + 1 : Nat) : Int) * (b * bP p)) * p ^ m = 0 := by rw [← e2]; grind
  rcases pU h7 with h8 | h8
  ·rw [h8] at HV; exact HV (dv.zero p)
  ·exact GD hp.ne m h8
 exact ⟨h6, vE hp h6 hc e2 HV⟩
theorem oT.AW {g a p : ZX} (h : oT g a (bP a)) (ha : a ≠ 0) (hp : pY p) : ZX.mu p g = ZX.mu p a - 1 := by
 rcases Nat.eq_zero_or_pos (ZX.mu p a) with h1 | h1
 ·have := Q7 hp ha h.l
  omega
 ·obtain ⟨m, hm⟩ : ∃ m, ZX.mu p a = m + 1 := ⟨ZX.mu p a - 1, by omega⟩
  obtain ⟨h2, h3⟩ := ZX.AW hp ha hm
  rw [h.mu ha h2 hp, h3, hm]; omega
theorem aau {p : ZX} (hp : pY p) : mu p 1 = 0 := aar hp (by decide)
theorem oT.apo {g a b q r : ZX} {c k : Int} (hc : c ≠ 0) (hk : k ≠ 0) (e : K c * a = q * b + K k * r) (h : oT g b r) : oT g a b := by
 obtain ⟨d, hd, u, v, e2⟩ := h.uv
 refine ⟨dv.J3 hc ?_, h.l, k * d, Int.mul_ne_zero hk hd, v * K c, K k * u - v * q, by rw [← nG]; grind⟩
 rw [e]
 exact (h.l.mul_left q).add (h.r.mul_left _)
theorem oT.assoc {g g' a b : ZX} (h : oT g a b) (h' : oT g' a b) : dv g g' ∧ dv g' g := ⟨h'.least h.l h.r, h.least h'.l h'.r⟩
theorem oT.congr {g a b a' b' : ZX} (h : oT g a b) (h1 : dv a a') (h2 : dv a' a) (h3 : dv b b') (h4 : dv b' b) : oT g a' b' := by
 obtain ⟨g', hg'⟩ := iJ _ a' b' (Nat.le_refl _)
 obtain ⟨c, hc, u, v, e⟩ := hg'.uv
 have h5 : dv g g' := hg'.least (h.l.trans h1) (h.r.trans h3)
 have h6 : dv g' g := h.least (hg'.l.trans h2) (hg'.r.trans h4)
 obtain ⟨d, hd, w, e2⟩ := h6
 refine ⟨h.l.trans h1, h.r.trans h3, c * d, Int.mul_ne_zero hc hd, w * u, w * v, by rw [← nG]; grind⟩
end ZX
theorem J5 {H t : Int} (ht : H + 1 ≤ t) (hH : 0 ≤ H) : ∀ {x : List Int}, (∀ c ∈ x, -H ≤ c ∧ c ≤ H) → aM x ≠ [] → V t x ≠ 0
 | [], _, h => absurd rfl h
 | a :: l, hb, h => by
  have ha := hb a (by simp)
  by_cases hl : aM l = []
  ·have h1 : V t l = 0 := by rw [← cF, hl]; rfl
   have h2 : a ≠ 0 := fun h0 => h (by rw [aM, if_pos ⟨hl, h0⟩])
   simp only [V]
   rw [h1]
   intro h3
   apply h2
   have : t * 0 = 0 := Int.mul_zero t
   omega
  ·have ih := J5 ht hH (x := l) (fun c hc => hb c (by simp [hc])) hl
   simp only [V]
   intro h3
   rcases Int.lt_or_gt_of_ne ih with h4 | h4
   ·have : t * V t l ≤ t * (-1) := Int.mul_le_mul_of_nonneg_left (by omega) (by omega)
    omega
   ·have : t * 1 ≤ t * V t l := Int.mul_le_mul_of_nonneg_left (by omega) (by omega)
    omega
theorem J6 {H t : Nat} : ∀ {x : List Int}, (∀ c ∈ x, c.natAbs ≤ H) → (V (t : Int) x).natAbs ≤ H * (1 + t) ^ x.length
 | [], _ => by simp [V]
 | a :: l, h => by
  have h1 := J6 (t := t) (x := l) fun c hc => h c (by simp [hc])
  have h2 := h a (by simp)
  simp only [V]
  have h3 : (a + (t : Int) * V t l).natAbs ≤ a.natAbs + t * (V (t : Int) l).natAbs := by
   have := Int.natAbs_add_le a ((t : Int) * V t l)
   rwa [Int.natAbs_mul, Int.natAbs_natCast] at this
  have h4 : t * (V (t : Int) l).natAbs ≤ t * (H * (1 + t) ^ l.length) := Nat.mul_le_mul_left _ h1
  have h5 : H * 1 ≤ H * (1 + t) ^ l.length := Nat.mul_le_mul_left _ (Nat.one_le_pow _ _ (by omega))
  rw [List.length_cons, Nat.pow_succ]
  have h6 : H * ((1 + t) ^ l.length * (1 + t)) = H * (1 + t) ^ l.length + t * (H * (1 + t) ^ l.length) := by grind
  omega
def U0 (s : Int) : List Int → List Int
 | [] => []
 | _ :: l => V s l :: U0 s l
theorem agJ (s t : Int) : ∀ x : List Int, V t x = V s x + (t - s) * V t (U0 s x)
 | [] => by simp [V, U0]
 | a :: l => by
  have := agJ s t l
  simp only [V, U0]
  have h2 : t * V t l = t * (V s l + (t - s) * V t (U0 s l)) := by rw [← this]
  grind
theorem J7 (s : Int) : ∀ x : List Int, x ≠ [] → ∃ y, U0 s x = y ++ [0] ∧ y.length = x.length - 1
 | [], h => absurd rfl h
 | [a], _ => ⟨[], by simp [U0, V], rfl⟩
 | a :: b :: l, _ => by
  obtain ⟨y, h1, h2⟩ := J7 s (b :: l) (by simp)
  refine ⟨V s (b :: l) :: y, by rw [U0, h1]; rfl, by simp at h2 ⊢; omega⟩
theorem AX {s : Nat} {M : Nat} : ∀ {x : List Int}, (V (s : Int) x).natAbs ≤ M → (∀ c ∈ U0 s x, c.natAbs ≤ M) → ∀ c ∈ x, c.natAbs ≤ M * (1 + s)
 | [], _, _, c, hc => by cases hc
 | a :: l, h0, h, c, hc => by
  have h1 : (V (s : Int) l).natAbs ≤ M := h _ (by simp [U0])
  have h2 : ∀ c ∈ U0 s l, c.natAbs ≤ M := fun c hc => h c (by simp [U0, hc])
  rcases List.mem_cons.1 hc with rfl | hc
  ·simp only [V] at h0
   have h3 : c.natAbs ≤ (c + (s : Int) * V s l).natAbs + s * (V (s : Int) l).natAbs := by
    have h4 : c = (c + (s : Int) * V s l) + (-((s : Int) * V s l)) := by omega
    have h5 := Int.natAbs_add_le (c + (s : Int) * V s l) (-((s : Int) * V s l))
    rw [← h4, Int.natAbs_neg, Int.natAbs_mul, Int.natAbs_natCast] at h5
    exact h5
   have h4 : s * (V (s : Int) l).natAbs ≤ s * M := Nat.mul_le_mul_left _ h1
   rw [Nat.mul_add, Nat.mul_one, Nat.mul_comm M s]; omega
  ·exact AX h1 h2 c hc
theorem RC : ∀ (n s A : Nat) (x : List Int), x.length ≤ n → (∀ j : Nat, j < n → (V ((s + j : Nat) : Int) x).natAbs ≤ A) → ∀ c ∈ x, c.natAbs ≤ A * (2 * (s + n + 1)) ^ n
 | 0, s, A, x, hl, _, c, hc => by
  have : x = [] := List.eq_nil_of_length_eq_zero (by omega)
  rw [this] at hc; cases hc
 | n + 1, s, A, x, hl, hv, c, hc => by
  have hx : x ≠ [] := fun h => by rw [h] at hc; cases hc
  have h0 := hv 0 (by omega)
  obtain ⟨y, h1, h2⟩ := J7 s x hx
  have hy : ∀ t : Int, V t (U0 s x) = V t y := fun t => by rw [h1, dK]; simp [V]
  have h3 : ∀ j : Nat, j < n → (V ((s + 1 + j : Nat) : Int) y).natAbs ≤ 2 * A := fun j hj => by
   have h4 := agJ s ((s + 1 + j : Nat) : Int) x
   rw [hy] at h4
   have h5 := hv (j + 1) (by omega)
   rw [show s + (j + 1) = s + 1 + j by omega] at h5
   have e : ((s + 1 + j : Nat) : Int) - (s : Int) = ((j + 1 : Nat) : Int) := by omega
   rw [e] at h4
   have h6 : (((j + 1 : Nat) : Int) * V ((s + 1 + j : Nat) : Int) y).natAbs ≤ 2 * A := by
    have : ((j + 1 : Nat) : Int) * V ((s + 1 + j : Nat) : Int) y = V ((s + 1 + j : Nat) : Int) x - V (s : Int) x := by omega
    rw [this]
    rw [Nat.add_zero] at h0
    omega
   rw [Int.natAbs_mul, Int.natAbs_natCast] at h6
   exact Nat.le_trans (Nat.le_mul_of_pos_left _ (by omega)) h6
  have h4 := RC n (s + 1) (2 * A) y (by omega) h3
  have hP : 1 ≤ (2 * (s + 1 + n + 1)) ^ n := Nat.one_le_pow _ _ (by omega)
  rw [Nat.add_zero] at h0
  have h5 := AX (s := s) (M := 2 * A * (2 * (s + 1 + n + 1)) ^ n) (x := x) (by
   have : A * 1 ≤ 2 * A * (2 * (s + 1 + n + 1)) ^ n := Nat.mul_le_mul (by omega) hP
   omega) (fun d hd => by
   rw [h1] at hd
   rcases List.mem_append.1 hd with hd | hd
   ·exact h4 d hd
   ·simp at hd; subst hd; simp) c hc
  refine Nat.le_trans h5 ?_
  rw [Nat.pow_succ, show s + (n + 1) + 1 = s + 1 + n + 1 by omega]
  have h6 : A * ((2 * (s + 1 + n + 1)) ^ n * (2 * (s + 1 + n + 1))) = (2 * A * (2 * (s + 1 + n + 1)) ^ n) * (s + 1 + n + 1) := by grind
  rw [h6]
  exact Nat.mul_le_mul_left _ (by omega)
namespace ZX
theorem aav {a w g : ZX} {h n : Nat} (ha : a ≠ 0) (e : a = w * g) (hb : Bd 2 h n a.l) (hn : n + 1 ≤ 2 ^ h) : Bd 2 (h + n * (2 * h + 5) + 1) n g.l := by
 have hw : w ≠ 0 ∧ g ≠ 0 := ⟨fun h0 => ha (by rw [e, h0]; grind), fun h0 => ha (by rw [e, h0]; grind)⟩
 have hlen : g.l.length ≤ n := by
  have h1 : N a = N w + N g - 1 := by rw [e, lL hw.1 hw.2]
  have h2 := aG.1 hw.1
  have h3 : N a ≤ n := hb.len
  show N g ≤ n
  omega
 refine ⟨hlen, fun c hc => ?_⟩
 have hH : ∀ d ∈ a.l, d.natAbs ≤ 2 ^ h := fun d hd => by
  have h1 := lC (b := 2) (by decide) d
  have h2 := tH (b := 2) (by decide) (hb.sz d hd)
  omega
 have hv : ∀ j : Nat, j < n → (V ((2 ^ h + 1 + j : Nat) : Int) g.l).natAbs ≤ 2 ^ h * (2 ^ (h + 2)) ^ n := fun j hj => by
  have h1 : V ((2 ^ h + 1 + j : Nat) : Int) a.l = V ((2 ^ h + 1 + j : Nat) : Int) w.l * V ((2 ^ h + 1 + j : Nat) : Int) g.l := by
   conv => lhs; rw [e]
   rw [c9]
  have h2 : V ((2 ^ h + 1 + j : Nat) : Int) a.l ≠ 0 := J5 (H := ((2 ^ h : Nat) : Int)) (by omega) (by omega) (fun d hd => by have := hH d hd; omega) (by
   rw [show aM a.l = a.l from a.c]
   have := aG.1 ha
   intro h0
   have h3 : N a = a.l.length := rfl
   rw [h3, h0] at this; simp at this)
  have h3 : (V ((2 ^ h + 1 + j : Nat) : Int) g.l).natAbs ≤ (V ((2 ^ h + 1 + j : Nat) : Int) a.l).natAbs := by
   rw [h1, Int.natAbs_mul]
   have : V ((2 ^ h + 1 + j : Nat) : Int) w.l ≠ 0 := fun h0 => h2 (by rw [h1, h0, Int.zero_mul])
   exact Nat.le_mul_of_pos_left _ (by omega)
  refine Nat.le_trans h3 (Nat.le_trans (J6 hH) (Nat.mul_le_mul_left _ ?_))
  have h4 : 1 + (2 ^ h + 1 + j) ≤ 2 ^ (h + 2) := by rw [Nat.pow_add]; omega
  refine Nat.le_trans (Nat.pow_le_pow_left h4 _) (Nat.pow_le_pow_right (Nat.two_pow_pos _) hb.len)
 have h5 := RC n (2 ^ h + 1) _ g.l hlen hv c hc
 have h6 : 2 ^ h * (2 ^ (h + 2)) ^ n * (2 * (2 ^ h + 1 + n + 1)) ^ n < 2 ^ (h + n * (2 * h + 5) + 1) := by
  have h7 : 2 * (2 ^ h + 1 + n + 1) ≤ 2 ^ (h + 3) := by rw [Nat.pow_add]; omega
  have h8 : (2 * (2 ^ h + 1 + n + 1)) ^ n ≤ (2 ^ (h + 3)) ^ n := Nat.pow_le_pow_left h7 _
  have h9 : 2 ^ h * (2 ^ (h + 2)) ^ n * (2 ^ (h + 3)) ^ n = 2 ^ (h + (h + 2) * n + (h + 3) * n) := by rw [← Nat.pow_mul, ← Nat.pow_mul, ← Nat.pow_add, ← Nat.pow_add]
  refine Nat.lt_of_le_of_lt (Nat.mul_le_mul_left _ h8) ?_
  rw [h9]
  refine Nat.pow_lt_pow_right (by decide) ?_
  have : (h + 2) * n + (h + 3) * n = n * (2 * h + 5) := by grind
  omega
 exact cT (by decide) (Nat.lt_of_le_of_lt h5 h6)
end ZX
end Pm
namespace Go.Proofs.YtbbjgncblhfegaaGreat
open Go Pm
open ZX hiding N W
structure Nf (a : ZX) : Prop where
 ne : a ≠ 0
 g : bI a.l = 1
 l : 0 < lead a.l
theorem vG {a : ZX} (h : a ≠ 0) : a.l ≠ [] := fun e => by
 have := aG.1 h
 have h2 : ZX.N a = a.l.length := rfl
 rw [h2, e] at this; simp at this
theorem ajL (x : List Int) : Cn (pS x) := Cn.cut _
def nf (a : ZX) : ZX := ⟨pS a.l, ajL _⟩
theorem j2 : nf 0 = 0 := ZX.ext fun t => rfl
theorem J8 {a : ZX} (ha : a ≠ 0) : K (jV a.l) * nf a = a := ZX.ext fun t => by
 rw [c9, sF]
 conv => rhs; rw [← US a.c (vG ha)]
 rw [bV, Int.mul_comm]; rfl
theorem oB {a : ZX} (ha : a ≠ 0) : jV a.l ≠ 0 := N5 a.c (vG ha)
theorem agK {a : ZX} (ha : a ≠ 0) : nf a ≠ 0 := fun h => ha (by rw [← J8 ha, h]; grind)
theorem mD {a : ZX} (ha : a ≠ 0) : Nf (nf a) := ⟨agK ha, ad8 a.c (vG ha), aad a.c (vG ha)⟩
theorem Nf.nfe {a : ZX} (h : Nf a) : nf a = a := by
 have h1 : jV a.l = 1 := by
  unfold jV
  rw [if_neg (by have := h.l; omega), h.g]; rfl
 have := J8 h.ne
 rw [h1] at this
 rw [← this]
 conv => lhs; rw [this]
 show _ = (1 : ZX) * _
 grind
theorem aax {c : Int} (hc : c ≠ 0) (a : ZX) : ZX.N (K c * a) = ZX.N a := by
 by_cases ha : a = 0
 ·rw [ha, show K c * (0 : ZX) = 0 by grind]
 ·rw [lL (sH hc) ha, N_K hc]; have := aG.1 ha; omega
theorem xT (a : ZX) : ZX.N (nf a) = ZX.N a := by
 by_cases ha : a = 0
 ·rw [ha, j2]
 ·have := aax (oB ha) (nf a)
  rw [J8 ha] at this
  exact this.symm
theorem K_l {c : Int} (hc : c ≠ 0) (a : ZX) : (K c * a).l = a.l.map (· * c) := by
 refine Cn.ext (K c * a).c (jT a.c hc) fun t => ?_
 rw [c9, sF, dE, Int.mul_comm]
theorem aay {c : Int} (hc : c ≠ 0) {a : ZX} (ha : a ≠ 0) : lead (K c * a).l = c * lead a.l := by
 have h : (K c * a).l = bJ (K c).l a.l := rfl
 have hK : (K c).l = [c] := by show aM [c] = [c]; exact jB hc []
 rw [h, vA (K c).c a.c (by rw [hK]; simp) (aG.1 ha), hK]
 rfl
theorem Nf.GH {a b : ZX} (ha : Nf a) (hb : Nf b) {c d : Int} (hc : c ≠ 0) (hd : d ≠ 0) (e : K c * a = K d * b) : a = b := by
 have h1 : c.natAbs = d.natAbs := by
  have h2 : bI (K c * a).l = bI (K d * b).l := by rw [e]
  rw [K_l hc, K_l hd, jU, jU, ha.g, hb.g] at h2
  omega
 have h3 : c * lead a.l = d * lead b.l := by rw [← aay hc ha.ne, ← aay hd hb.ne, e]
 have h4 : c = d := by
  rcases Int.natAbs_eq_natAbs_iff.1 h1 with h5 | h5
  ·exact h5
  ·exfalso
   subst h5
   have hl := ha.l
   have ZE := hb.l
   rcases Int.lt_or_gt_of_ne hd with h6 | h6
   ·have := Int.mul_pos (show 0 < -d by omega) hl
    have := Int.mul_neg_of_neg_of_pos h6 ZE
    omega
   ·have := Int.mul_neg_of_neg_of_pos (show -d < 0 by omega) hl
    have := Int.mul_pos h6 ZE
    omega
 subst h4
 exact ZX.cancel (sH hc) e
theorem aeh {a b : ZX} {c d : Int} (ha : a ≠ 0) (hc : c ≠ 0) (hd : d ≠ 0) (e : K c * a = K d * b) : nf a = nf b := by
 have hb : b ≠ 0 := fun h => by
  rw [h, show K d * (0 : ZX) = 0 by grind] at e
  exact mS (sH hc) ha e
 refine Nf.GH (mD ha) (mD hb) (c := c * jV a.l) (d := d * jV b.l) (Int.mul_ne_zero hc (oB ha)) (Int.mul_ne_zero hd (oB hb)) ?_
 rw [← nG, ← nG]
 have h1 := J8 ha
 have h2 := J8 hb
 grind
theorem RD (a : ZX) : nf (nf a) = nf a := by
 by_cases ha : a = 0
 ·rw [ha, j2, j2]
 ·exact (mD ha).nfe
theorem J9 (a : ZX) : dv a (nf a) ∧ dv (nf a) a := by
 by_cases ha : a = 0
 ·rw [ha, j2]; exact ⟨dv.refl 0, dv.refl 0⟩
 ·have h := J8 ha
  exact ⟨⟨jV a.l, oB ha, 1, by rw [h]; grind⟩, ⟨1, by decide, K (jV a.l), by rw [h]; show (1 : ZX) * a = a; grind⟩⟩
theorem xA {a b : ZX} (h1 : dv a b) (h2 : dv b a) : nf a = nf b := by
 by_cases ha : a = 0
 ·subst ha; rw [yC h1]
 ·obtain ⟨c, hc, q, e⟩ := h2
  have h3 := h1.pW (fun hb => ha (by subst hb; exact yC ⟨c, hc, q, e⟩))
  have h4 := dv.pW ⟨c, hc, q, e⟩ ha
  obtain ⟨hq, hb⟩ := kT hc ha e
  have h5 := aax hc a
  rw [e, lL hq hb] at h5
  have := aG.1 hq
  have := aG.1 hb
  obtain ⟨d, hd, rfl⟩ := nI (x := q) (by omega)
  exact aeh ha hc hd e
theorem Nf.one : Nf 1 := ⟨pV, by decide, by decide⟩
theorem Nf.mul {a b : ZX} (ha : Nf a) (hb : Nf b) : Nf (a * b) := by
 refine ⟨mS ha.ne hb.ne, ?_, ?_⟩
 ·show bI (bJ a.l b.l) = 1
  rw [aac a.c b.c (vG ha.ne) (vG hb.ne), ha.g, hb.g]
 ·show 0 < lead (bJ a.l b.l)
  rw [vA a.c b.c (aG.1 ha.ne) (aG.1 hb.ne)]
  exact Int.mul_pos ha.l hb.l
theorem aaz {p a : ZX} (hp : pY p) (ha : a ≠ 0) : mu p (nf a) = mu p a := by
 conv => rhs; rw [← J8 ha]
 rw [AU hp (sH (oB ha)) (agK ha), aar hp (oB ha)]; omega
theorem Nf.AY {a b : ZX} (ha : Nf a) (hb : Nf b) (h : ∀ p, pY p → mu p a = mu p b) : a = b := by
 rw [← ha.nfe, ← hb.nfe]
 exact xA ((qQ ha.ne hb.ne).2 fun p hp => by have := h p hp; omega) ((qQ hb.ne ha.ne).2 fun p hp => by have := h p hp; omega)
theorem Nf.quo {a b : ZX} (ha : Nf a) (hb : Nf b) (h : dv b a) : ∃ w, Nf w ∧ a = w * b := by
 obtain ⟨c, hc, q, e⟩ := h
 obtain ⟨hq, _⟩ := kT hc ha.ne e
 refine ⟨nf q, mD hq, Nf.GH ha ((mD hq).mul hb) hc (oB hq) ?_⟩
 have := J8 hq
 grind
theorem Nf.exact {a b w : ZX} (hb : Nf b) (e : a = w * b) : exact a.l b.l = some w.l := by
 subst e
 exact N8 w.c b.c (aG.1 hb.ne)
theorem Nf.N1 {a : ZX} (ha : Nf a) (h : ZX.N a ≤ 1) : a = 1 := by
 obtain ⟨c, hc, rfl⟩ := nI (x := a) (by have := aG.1 ha.ne; omega)
 exact Nf.GH ha Nf.one (show (1 : Int) ≠ 0 by decide) hc (by show (1 : ZX) * _ = K c * 1; grind)
noncomputable def gz (a b : ZX) : ZX := nf (Classical.choose (iJ _ a b (Nat.le_refl _)))
theorem qR (a b : ZX) : ∃ g, oT g a b ∧ gz a b = nf g := ⟨_, Classical.choose_spec (iJ _ a b (Nat.le_refl _)), rfl⟩
theorem KA {g a b : ZX} (h : oT g a b) : gz a b = nf g := by
 obtain ⟨g', h', e⟩ := qR a b
 rw [e]
 obtain ⟨h1, h2⟩ := h'.assoc h
 exact xA h1 h2
theorem oT.apq {g g' a b : ZX} (h : oT g a b) (h1 : dv g g') (h2 : dv g' g) : oT g' a b := by
 obtain ⟨c, hc, u, v, e⟩ := h.uv
 obtain ⟨d, hd, w, e2⟩ := h1
 exact ⟨h2.trans h.l, h2.trans h.r, c * d, Int.mul_ne_zero hc hd, w * u, w * v, by rw [← nG]; grind⟩
theorem fQ (a b : ZX) : oT (gz a b) a b := by
 obtain ⟨g, h, e⟩ := qR a b
 rw [e]
 obtain ⟨h1, h2⟩ := J9 g
 exact oT.apq h h1 h2
theorem agL {a b : ZX} (h : a ≠ 0 ∨ b ≠ 0) : gz a b ≠ 0 := (fQ a b).ne h
theorem RE {a b : ZX} (h : a ≠ 0 ∨ b ≠ 0) : Nf (gz a b) := by
 have h0 := agL h
 obtain ⟨g, h, e⟩ := qR a b
 rw [e] at h0 ⊢
 exact mD (fun hg => h0 (by rw [hg, j2]))
theorem uB (a b : ZX) : gz a b = gz b a := by
 have h := fQ a b
 rw [KA h.symm]
 obtain ⟨g, _, e⟩ := qR a b
 rw [e, RD]
theorem qS (a : ZX) : gz a 0 = nf a := KA (oT.zero a)
theorem aaA (a : ZX) : gz 0 a = nf a := by rw [uB, qS]
theorem AZ {a b a' b' : ZX} (h1 : dv a a') (h2 : dv a' a) (h3 : dv b b') (h4 : dv b' b) : gz a b = gz a' b' := by
 obtain ⟨g, hg, e⟩ := qR a b
 rw [e, KA (hg.congr h1 h2 h3 h4)]
theorem agM (a b : ZX) : gz (nf a) b = gz a b := AZ (J9 a).2 (J9 a).1 (dv.refl b) (dv.refl b)
theorem OB (a b : ZX) : gz a (nf b) = gz a b := AZ (dv.refl a) (dv.refl a) (J9 b).2 (J9 b).1
theorem GI {a b q r : ZX} {c k : Int} (hc : c ≠ 0) (hk : k ≠ 0) (e : K c * a = q * b + K k * r) : gz a b = gz b r := by
 obtain ⟨g, hg, e2⟩ := qR b r
 rw [e2, KA (hg.apo hc hk e)]
end Go.Proofs.YtbbjgncblhfegaaGreat
namespace Go.Proofs.YtbbjgncblhfegaaGreat
open Go Pm
open ZX hiding N W
open Classical in
noncomputable def qz (a b : ZX) : ZX := if h : ∃ w, Nf w ∧ a = w * b then h.choose else 0
theorem mE {a b : ZX} (ha : Nf a) (hb : Nf b) (h : dv b a) : Nf (qz a b) ∧ a = qz a b * b := by
 have h := ha.quo hb h
 unfold qz
 rw [dif_pos h]
 exact h.choose_spec
theorem apr {a b w : ZX} (hb : Nf b) (hw : Nf w) (e : a = w * b) : qz a b = w := by
 have ha : Nf a := by rw [e]; exact hw.mul hb
 obtain ⟨h1, h2⟩ := mE ha hb ⟨1, by decide, w, by rw [e]; show (1 : ZX) * _ = _; grind⟩
 refine ZX.cancel hb.ne ?_
 have : qz a b * b = w * b := by rw [← h2, e]
 grind
theorem aaB {a b : ZX} (ha : Nf a) (hb : Nf b) (h : dv b a) : exact a.l b.l = some (qz a b).l := Nf.exact hb (mE ha hb h).2
theorem agN {a b p : ZX} (ha : Nf a) (hb : Nf b) (h : dv b a) (hp : pY p) : mu p (qz a b) = mu p a - mu p b := by
 obtain ⟨h1, h2⟩ := mE ha hb h
 have h3 : mu p a = mu p (qz a b) + mu p b := by
  conv => lhs; rw [h2]
  exact AU hp h1.ne hb.ne
 omega
theorem Nf.self {a : ZX} (ha : Nf a) : qz a a = 1 := apr ha Nf.one (by grind)
noncomputable def gd (a : ZX) : ZX := gz a (bP a)
theorem RF {a : ZX} (ha : a ≠ 0) : Nf (gd a) := RE (.inl ha)
theorem xB (a : ZX) : dv (gd a) a := (fQ a (bP a)).l
theorem agO {a p : ZX} (ha : a ≠ 0) (hp : pY p) : mu p (gd a) = mu p a - 1 := (fQ a (bP a)).AW ha hp
theorem aur {a : ZX} (h : 2 ≤ ZX.N a) : ZX.N (gd a) < ZX.N a := by
 have h1 := (fQ a (bP a)).r.pW (GG h)
 have h2 := nJ a
 have : ZX.N (gd a) = ZX.N (gz a (bP a)) := rfl
 omega
theorem aaC : gd 1 = 1 := by
 unfold gd
 rw [RA, qS, Nf.one.nfe]
noncomputable def gs (a : ZX) : Nat → ZX
 | 0 => a
 | k + 1 => gd (gs a k)
theorem mF {a : ZX} (ha : Nf a) : ∀ k, Nf (gs a k)
 | 0 => ha
 | k + 1 => RF (mF ha k).ne
theorem KB (a : ZX) : ∀ k, dv (gs a k) a
 | 0 => dv.refl a
 | k + 1 => (xB _).trans (KB a k)
theorem RG {a p : ZX} (ha : Nf a) (hp : pY p) : ∀ k, mu p (gs a k) = mu p a - k
 | 0 => rfl
 | k + 1 => by
  show mu p (gd (gs a k)) = _
  rw [agO (mF ha k).ne hp, RG ha hp k]; omega
theorem ajM {a : ZX} : ∀ k, ZX.N (gs a k) ≤ 1 ∨ ZX.N (gs a k) + k ≤ ZX.N a
 | 0 => .inr (Nat.le_refl _)
 | k + 1 => by
  rcases ajM (a := a) k with h | h
  ·left
   show ZX.N (gz (gs a k) (bP (gs a k))) ≤ 1
   by_cases h0 : gs a k = 0
   ·rw [h0, show bP (0 : ZX) = 0 from ZX.ext fun t => rfl, qS, j2]; decide
   ·exact Nat.le_trans ((fQ _ _).l.pW h0) h
  ·rcases Nat.lt_or_ge (ZX.N (gs a k)) 2 with h2 | h2
   ·left
    show ZX.N (gz (gs a k) (bP (gs a k))) ≤ 1
    by_cases h0 : gs a k = 0
    ·rw [h0, show bP (0 : ZX) = 0 from ZX.ext fun t => rfl, qS, j2]; decide
    ·exact Nat.le_trans ((fQ _ _).l.pW h0) (by omega)
   ·right
    have := aur h2
    show ZX.N (gd (gs a k)) + (k + 1) ≤ _
    omega
open Classical in
noncomputable def nl (a : ZX) : Nat := if h : ∃ m, ZX.N (gs a m) ≤ 1 ∧ ∀ k, k < m → 2 ≤ ZX.N (gs a k) then h.choose else 0
theorem oC (a : ZX) : ZX.N (gs a (nl a)) ≤ 1 ∧ ∀ k, k < nl a → 2 ≤ ZX.N (gs a k) := by
 have h : ∃ m, ZX.N (gs a m) ≤ 1 ∧ ∀ k, k < m → 2 ≤ ZX.N (gs a k) := by
  have key : ∀ n, (∃ m, m ≤ n ∧ ZX.N (gs a m) ≤ 1 ∧ ∀ k, k < m → 2 ≤ ZX.N (gs a k)) ∨ ∀ k, k ≤ n → 2 ≤ ZX.N (gs a k) := by
   intro n
   induction n with
   | zero =>
    rcases Nat.lt_or_ge (ZX.N (gs a 0)) 2 with h | h
    ·exact .inl ⟨0, Nat.le_refl _, by omega, fun k hk => by omega⟩
    ·exact .inr fun k hk => by rw [show k = 0 by omega]; exact h
   | succ n ih =>
    rcases ih with ⟨m, h1, h2⟩ | ih
    ·exact .inl ⟨m, by omega, h2⟩
    ·rcases Nat.lt_or_ge (ZX.N (gs a (n + 1))) 2 with h | h
     ·exact .inl ⟨n + 1, Nat.le_refl _, by omega, fun k hk => ih k (by omega)⟩
     ·refine .inr fun k hk => ?_
      rcases Nat.lt_or_ge k (n + 1) with h3 | h3
      ·exact ih k (by omega)
      ·rw [show k = n + 1 by omega]; exact h
  rcases key (ZX.N a) with ⟨m, _, h⟩ | h
  ·exact ⟨m, h⟩
  ·have h1 := h (ZX.N a) (Nat.le_refl _)
   rcases ajM (a := a) (ZX.N a) with h2 | h2 <;> omega
 unfold nl
 rw [dif_pos h]
 exact h.choose_spec
theorem agP (a : ZX) : nl a ≤ ZX.N a := by
 rcases Nat.eq_zero_or_pos (nl a) with h | h
 ·omega
 ·have h1 := (oC a).2 (nl a - 1) (by omega)
  rcases ajM (a := a) (nl a - 1) with h2 | h2 <;> omega
theorem aps {a : ZX} {k : Nat} (h : ∀ j, j ≤ k → 2 ≤ ZX.N (gs a j)) : k < nl a := by
 rcases Nat.lt_or_ge k (nl a) with h1 | h1
 ·exact h1
 ·have := h _ h1
  have := (oC a).1
  omega
theorem aaD {a : ZX} (ha : Nf a) : ∀ j, gs a (nl a + j) = 1
 | 0 => (mF ha _).N1 (oC a).1
 | j + 1 => by
  show gd (gs a (nl a + j)) = 1
  rw [aaD ha j, aaC]
noncomputable def wz (a : ZX) (k : Nat) : ZX := qz (gs a k) (gs a (k + 1))
theorem iB {a : ZX} (ha : Nf a) (k : Nat) : Nf (wz a k) ∧ gs a k = wz a k * gs a (k + 1) := mE (mF ha k) (mF ha (k + 1)) (xB _)
theorem KC {a p : ZX} (ha : Nf a) (hp : pY p) (k : Nat) : mu p (wz a k) = if k < mu p a then 1 else 0 := by
 rw [wz, agN (mF ha k) (mF ha (k + 1)) (xB _) hp, RG ha hp, RG ha hp]
 split <;> omega
theorem RH {a : ZX} (ha : Nf a) (k : Nat) : dv (wz a (k + 1)) (wz a k) := (qQ (iB ha _).1.ne (iB ha _).1.ne).2 fun p hp => by
 rw [KC ha hp, KC ha hp]
 split <;> split <;> omega
noncomputable def A3 (a : ZX) (k : Nat) : ZX := qz (wz a k) (wz a (k + 1))
theorem GJ {a : ZX} (ha : Nf a) (k : Nat) : Nf (A3 a k) ∧ wz a k = A3 a k * wz a (k + 1) := mE (iB ha k).1 (iB ha (k + 1)).1 (RH ha k)
theorem apt {a p : ZX} (ha : Nf a) (hp : pY p) (k : Nat) : mu p (A3 a k) = if mu p a = k + 1 then 1 else 0 := by
 rw [A3, agN (iB ha k).1 (iB ha (k + 1)).1 (RH ha k) hp, KC ha hp, KC ha hp]
 split <;> split <;> split <;> omega
noncomputable def fl (a : ZX) : List ZX := (List.range (nl a)).map (A3 a)
theorem ajN (a : ZX) : (fl a).length = nl a := by simp [fl]
theorem aaE {a p : ZX} (ha : Nf a) (hp : pY p) : mu p a ≤ nl a := by
 have h := RG ha hp (nl a)
 have h1 := aaD ha 0
 rw [Nat.add_zero] at h1
 rw [h1, aau hp] at h
 omega
noncomputable def pf (a : ZX) (c : Nat → Bool) : Nat → ZX
 | 0 => 1
 | k + 1 => if c k then pf a c k * A3 a k else pf a c k
theorem D4 {a : ZX} (ha : Nf a) (c : Nat → Bool) : ∀ k, Nf (pf a c k)
 | 0 => Nf.one
 | k + 1 => by
  rw [pf]
  split
  ·exact (D4 ha c k).mul (GJ ha k).1
  ·exact D4 ha c k
theorem aaF {a p : ZX} (ha : Nf a) (hp : pY p) (c : Nat → Bool) : ∀ k, mu p (pf a c k) = if 1 ≤ mu p a ∧ mu p a ≤ k ∧ c (mu p a - 1) = true then 1 else 0
 | 0 => by
  rw [pf, aau hp, if_neg (by omega)]
 | k + 1 => by
  have ih := aaF ha hp c k
  have hf := apt ha hp k
  rw [pf]
  by_cases hc : c k = true
  ·rw [if_pos hc, AU hp (D4 ha c k).ne (GJ ha k).1.ne, ih, hf]
   by_cases h1 : mu p a = k + 1
   ·rw [if_pos h1, h1, Nat.add_sub_cancel, if_neg (by omega), if_pos ⟨by omega, Nat.le_refl _, hc⟩]
   ·rw [if_neg h1]
    by_cases h2 : 1 ≤ mu p a ∧ mu p a ≤ k ∧ c (mu p a - 1) = true
    ·rw [if_pos h2, if_pos ⟨h2.1, by omega, h2.2.2⟩]
    ·rw [if_neg h2, if_neg (fun h3 => h2 ⟨h3.1, by omega, h3.2.2⟩)]
  ·rw [if_neg hc, ih]
   by_cases h1 : mu p a = k + 1
   ·rw [h1, Nat.add_sub_cancel, if_neg (by omega), if_neg (fun h3 => hc h3.2.2)]
   ·by_cases h2 : 1 ≤ mu p a ∧ mu p a ≤ k ∧ c (mu p a - 1) = true
    ·rw [if_pos h2, if_pos ⟨h2.1, by omega, h2.2.2⟩]
    ·rw [if_neg h2, if_neg (fun h3 => h2 ⟨h3.1, by omega, h3.2.2⟩)]
noncomputable def sz' (a : ZX) : ZX := wz a 0
theorem aaG {a : ZX} (ha : Nf a) : Nf (sz' a) := (iB ha 0).1
theorem aaH {a p : ZX} (ha : Nf a) (hp : pY p) : mu p (sz' a) = min (mu p a) 1 := by
 rw [sz', KC ha hp]
 split <;> omega
theorem ajO {a : ZX} (ha : Nf a) : pf a (fun _ => true) (nl a) = sz' a := Nf.AY (D4 ha _ _) (aaG ha) fun p hp => by
 have h := aaE ha hp
 rw [aaF ha hp, aaH ha hp]
 by_cases h1 : 1 ≤ mu p a
 ·rw [if_pos ⟨h1, h, rfl⟩]; omega
 ·rw [if_neg (fun h2 => h1 h2.1)]; omega
theorem KE {a : ZX} (h : ZX.N a ≤ 1) : nl a = 0 := by
 rcases Nat.eq_zero_or_pos (nl a) with h1 | h1
 ·exact h1
 ·have := (oC a).2 0 h1
  have : ZX.N (gs a 0) = ZX.N a := rfl
  omega
def qb (h n : Nat) : Nat := h + n * (2 * h + 5) + 1
theorem apu {a b : ZX} (ha : Nf a) (hb : Nf b) (hd : dv b a) {h n : Nat} (hx : Bd 2 h n a.l) (hn : n + 1 ≤ 2 ^ h) : Bd 2 (qb h n) n b.l := by
 obtain ⟨w, _, e⟩ := ha.quo hb hd
 exact aav ha.ne e hx hn
theorem aaI {a b : ZX} (ha : Nf a) (hb : Nf b) (h : dv b a) : dv (qz a b) a := by
 obtain ⟨_, h2⟩ := mE ha hb h
 exact ⟨1, by decide, b, by rw [ZX.D0 b, ← h2]; show (1 : ZX) * _ = _; grind⟩
theorem GK {a : ZX} (ha : Nf a) (k : Nat) : dv (wz a k) a := (aaI (mF ha k) (mF ha (k + 1)) (xB _)).trans (KB a k)
theorem aei {a : ZX} (ha : Nf a) (k : Nat) : dv (A3 a k) a := (aaI (iB ha k).1 (iB ha (k + 1)).1 (RH ha k)).trans (GK ha k)
theorem aej {a : ZX} (ha : Nf a) (c : Nat → Bool) (k : Nat) : dv (pf a c k) a := (qQ (D4 ha c k).ne ha.ne).2 fun p hp => by
 rw [aaF ha hp]
 split <;> omega
end Go.Proofs.YtbbjgncblhfegaaGreat
namespace Go.Proofs.YtbbjgncblhfegaaGreat
open Go Pm
theorem A4 (v : Int) : sz LL v ≤ sz 2 v := cT fT (Nat.lt_of_lt_of_le (lC (b := 2) (by decide) v) (Nat.pow_le_pow_left (by decide) _))
theorem LO {h n : Nat} {x : List Int} (hx : Bd 2 h n x) : Bd LL h n x := ⟨hx.len, fun c hc => Nat.le_trans (A4 c) (hx.sz c hc)⟩
instance : Inhabited ZX := ⟨0⟩
abbrev BZ (h n : Nat) (a : ZX) : Prop := Bd 2 h n a.l
theorem BZ.pb {h n : Nat} {a : ZX} (b : BZ h n a) (hh : h < 1099511627775) (hn : n < 1099511627775) : PB a.l := PB.of (LO b) hh hn
theorem BZ.CJ {h n : Nat} {a : ZX} (b : BZ h n a) (hh : h < 1099511627775) (hn : n < 1099511627775) : rF (a.l.map rE) := (b.pb hh hn).CJ
theorem xC (a : ZX) : kZ (a.l.map rE) = a.l := by rw [ad6]; exact a.c
theorem BZ.mono {h h' n n' : Nat} {a : ZX} (b : BZ h n a) (hh : h ≤ h') (hn : n ≤ n') : BZ h' n' a := Bd.mono b hh hn
theorem BZ.nf {h n : Nat} {a : ZX} (b : BZ h n a) : BZ h n (nf a) := aao b
theorem BZ.N {h n : Nat} {a : ZX} (b : BZ h n a) : ZX.N a ≤ n := Bd.len b
theorem aaJ {h n : Nat} {a : ZX} (b : BZ h n a) (hh : h < 1099511627774) (hn : n < 1099511627774) (k : Nat) (hk : k + 1 < a.l.length) : aI env.P 181 [.int .i64 (k : Int), .rd [Po a.l]] (I (nth a.l (k + 1) * ((k + 1 : Nat) : Int))) := by
 have hlen := b.len
 have hz := (LO b).nth (k + 1)
 have o1 := z0 ((k + 1 : Nat) : Int) (by omega) (by omega)
 have hk1 : Sz ((k + 1 : Nat) : Int) := Nat.lt_of_le_of_lt (cT (k := 2) fT (by rw [Int.natAbs_natCast]; show k + 1 < 4294967296 ^ 2; omega)) (by decide)
 have m1 := tN (x := nth a.l (k + 1)) (y := ((k + 1 : Nat) : Int)) (by show Pm.sz LL _ < _; omega) hk1
 have e : ((k : Int) + 1).toNat = k + 1 := by omega
 rw [Int.natCast_add, Int.natCast_one] at o1 m1
 refine aB (E := env) (fun _ => 0) [(0, .int .i64 (k : Int)), (1, .rd [Po a.l])] Tryz.func181 rfl (by kernel_rfl) (by kernel_rfl) (show 2 ≤ 13 by decide) (by simp) ?_
 generalize a.l = x at *
 refine W.sr ?_; simp (disch := omega) [gw]; refine W.lx [0, 1, 3] ?_; simp
 refine W.sd ?_
 simp (disch := omega) [gw, e]
 refine aA o1 ?_
 simp (disch := omega) [gw]
 refine aA m1 ?_
 simp (disch := omega) [gw]
 refine W.lx [3] ?_; simp
 refine W.ret ?_
 simp [go]
theorem sI {h n : Nat} {a : ZX} (b : BZ h n a) (hh : h < 1099511627774) (hn : n < 1099511627774) : aI env.P 104 [Po a.l] (Po (ZX.bP a).l) := by
 have hlen := b.len
 have hc := fun k hk => aaJ b hh hn k hk
 have hE := pO 181 rfl [.rd [Po a.l]] rfl (a.l.length - 1) (by omega) (fun k => nth a.l (k + 1) * ((k + 1 : Nat) : Int)) (fun k hk => hc k (by omega))
 have e0 : aM ((List.range (a.l.length - 1)).map fun k => nth a.l (k + 1) * ((k + 1 : Nat) : Int)) = (ZX.bP a).l := rfl
 rw [e0] at hE
 generalize (ZX.bP a).l = d at *
 generalize a.l = x at *
 have e1 : (if (1 : Int) < (x.length : Int) then (x.length : Int) - 1 else 0) = ((x.length - 1 : Nat) : Int) := by split <;> omega
 refine aB (E := env) (fun _ => 0) [(0, Po x)] Tryz.func104 rfl (by kernel_rfl) (by kernel_rfl) (show 1 ≤ 9 by decide) (by simp) ?_
 refine W.sr ?_; simp (disch := omega) [gw]; refine W.lx [1] ?_; simp
 refine W.sr ?_
 simp (disch := omega) [gw, e1]
 refine aA hE ?_
 simp (disch := omega) [gw]
 refine W.lx [2] ?_; simp
 refine W.ret ?_
 simp [go]
theorem OC {α : Type} {g : α → List PV} {l : List α} {c : Int} {d : List Int} (h1 : aI env.P 157 [aJ g l] (.dP [I c, Po d])) : aI env.P 159 [aJ g l] (Po d) := by
 refine aB (E := env) (fun _ => 0) [(0, aJ g l)] Tryz.func159 rfl (by kernel_rfl) (by kernel_rfl) (show 1 ≤ 11 by decide) (by simp) ?_
 refine W.sr ?_; simp (disch := omega) [gw]; refine W.lx [0] ?_; simp
 refine W.sr ?_
 simp (disch := omega) [gw]
 refine aA h1 ?_
 simp (disch := omega) [gw]
 refine W.lx [4] ?_; simp
 refine W.sr ?_; simp (disch := omega) [gw]; refine W.lx [2] ?_; simp
 refine W.ret ?_
 simp [go]
theorem qT {h n : Nat} {a : ZX} (b : BZ h n a) (hh : h < 1099511627774) (hn : n < 1099511627774) : aI env.P 159 [Po a.l] (Po (nf a).l) := by
 have h1 := rR (a.l.map rE) (b.CJ (by omega) (by omega)) (s := h) (n := n) (by rw [bS]; exact LO b) hh hn
 rw [xC, ← gZ] at h1
 exact OC h1
theorem aek {h h' n : Nat} {a c : ZX} (b : BZ h n a) (b' : BZ h' n c) (ha : Nf a) (hc : Nf c) (hd : ZX.dv c a) (hB : h + n * (h' + n + 1) + h' + n + n + 10 < 1099511627774) : aI env.P 160 [Po a.l, Po c.l] (Po (qz a c).l) := by
 have h0 : ¬ c.l = [] := vG hc.ne
 have h1 := UR (a.l.map rE) (c.l.map rE) (b.CJ (by omega) (by omega)) (b'.CJ (by omega) (by omega)) (s := h) (s' := h') (N := n) (by rw [bS]; exact LO b) (by rw [bS]; exact LO b') hB
 rw [xC, xC, if_neg h0, aaB ha hc hd, ← gZ, ← gZ, exR] at h1
 generalize (qz a c).l = d at *
 generalize a.l = x at *
 generalize c.l = y at *
 refine aB (E := env) (fun _ => 0) [(0, Po x), (1, Po y)] Tryz.func160 rfl (by kernel_rfl) (by kernel_rfl) (show 2 ≤ 14 by decide) (by simp) ?_
 refine W.sr ?_; simp (disch := omega) [gw]; refine W.lx [0, 1] ?_; simp
 refine W.sr ?_
 simp (disch := omega) [gw]
 refine aA h1 ?_
 simp (disch := omega) [gw]
 refine W.lx [5] ?_; simp
 refine W.sr ?_; simp (disch := omega) [gw]; refine W.lx [4] ?_; simp
 refine W.ret ?_
 simp [go]
def rs (a c : ZX) : ZX := ⟨JT a.l c.l, ajB _ _⟩
theorem A5 {x : List Int} (cx : Cn x) (hx : x ≠ []) : (iY x).map (· * (bI x : Int)) = x := by
 have hg := bW cx hx
 have h1 := yB (g := (bI x : Int)) (fun c hc => gF x c hc)
 have h2 : Cn (x.map (oV (bI x))) := by
  have h3 : x.map (oV (bI x)) = aM (x.map (oV (bI x))) := by
   refine (List.map_inj_right (f := fun v : Int => v * (bI x : Int)) (fun u v e => Int.eq_of_mul_eq_mul_right (by omega) e)).1 ?_
   rw [h1]
   refine Cn.ext cx (jT (Cn.cut _) (by omega)) fun t => ?_
   rw [dE, cF, ← dE, h1]
  exact h3.symm
 rw [iY, show aM (x.map (oV (bI x))) = _ from h2, h1]
theorem ael {a c : ZX} (hc : c ≠ 0) : ∃ (m k : Int) (q : ZX), m ≠ 0 ∧ k ≠ 0 ∧ ZX.K m * a = q * c + ZX.K k * rs a c := by
 have h0 := ZX.aG.1 hc
 obtain ⟨c1, c2⟩ := zV (b := c.l) a.c
 have hm : lead c.l ^ iG a.l c.l ≠ 0 := Int.pow_ne_zero (cH c.c h0)
 have hsg := Z8 (lead c.l) (iG a.l c.l)
 have hr := Z9 (b := c.l) a.c
 have hV := fun t => Y1 t a.l c.l
 have hg : sg (lead c.l) (iG a.l c.l) ≠ 0 := fun h => by rw [h] at hsg; simp at hsg
 generalize sg (lead c.l) (iG a.l c.l) = g at *
 generalize lead c.l ^ iG a.l c.l = m at *
 have hl : (rs a c).l = iY (aX (wT a.l c.l).2 g) := hr
 generalize rs a c = R at *
 generalize (wT a.l c.l).1 = q at *
 generalize (wT a.l c.l).2 = r at *
 have hcp : Cn (aX r g) := Cn.aX _ _
 by_cases hz : aX r g = []
 ·refine ⟨m, 1, ⟨q, c1⟩, hm, by decide, ZX.ext fun t => ?_⟩
  rw [hz] at hl
  have h1 : V t R.l = 0 := by rw [hl]; rfl
  have h2 : V t r = 0 := by
   have h3 : V t (aX r g) = 0 := by rw [hz]; rfl
   rw [bV] at h3
   rcases Int.mul_eq_zero.1 h3 with h4 | h4
   ·exact h4
   ·exact absurd h4 hg
  rw [ZX.c9, ZX.sF, ZX.kC, ZX.c9, ZX.c9, ZX.sF, h1]
  have := hV t
  rw [h2] at this
  show m * V t a.l = V t q * V t c.l + 1 * 0
  omega
 ·have hgp := bW hcp hz
  refine ⟨m, g * (bI (aX r g) : Int), ⟨q, c1⟩, hm, Int.mul_ne_zero hg (by omega), ZX.ext fun t => ?_⟩
  have h1 := A5 hcp hz
  have h2 : V t (aX r g) = V t R.l * (bI (aX r g) : Int) := by
   rw [hl, ← dE, h1]
  rw [bV] at h2
  rw [ZX.c9, ZX.sF, ZX.kC, ZX.c9, ZX.c9, ZX.sF]
  have := hV t
  show m * V t a.l = V t q * V t c.l + g * (bI (aX r g) : Int) * V t R.l
  rw [← this]
  have h3 : V t r = g * (V t r * g) := by
   have : g * (V t r * g) = V t r * (g * g) := by grind
   rw [this, hsg]; omega
  rw [h3, h2]; grind
theorem apv {a c : ZX} (hc : c ≠ 0) : ZX.N (rs a c) < ZX.N c := ad7 (ZX.aG.1 hc)
theorem iA {s n : Nat} {x : List Int} (hx : Bd 2 s n x) : Bd 2 s n (iY x) := Bd.cut ⟨by simpa using hx.len, fun c hc => by
 simp only [List.mem_map] at hc
 obtain ⟨v, hv, rfl⟩ := hc
 refine Nat.le_trans (cG (by decide) ?_) (hx.sz v hv)
 unfold oV
 split
 ·exact Int.natAbs_ediv_le_natAbs _ _
 ·simp⟩
theorem apw {s s' n : Nat} {a c : ZX} (ha : BZ s n a) (hb : BZ s' n c) (hc : c ≠ 0) : BZ (s + (ZX.N a + 1 - ZX.N c) * (s' + n + 1)) n (rs a c) := by
 have h0 := ZX.aG.1 hc
 have hl := apv (a := a) hc
 have hk : iG a.l c.l ≤ n := by
  have h1 := ha.N
  have h2 : iG a.l c.l = ZX.N a + 1 - ZX.N c := rfl
  omega
 obtain ⟨_, h2⟩ := YZ (B := 2) (by decide) hb (iG a.l c.l) s [] a.l hk ⟨by simp, fun c hc => by cases hc⟩ (ha.mono (Nat.le_refl _) (by omega))
 have h3 : Bd 2 (s + iG a.l c.l * (s' + n + 1)) (n + n) (JT a.l c.l) := by
  unfold JT
  split
  ·exact iA (Bd.fJ h2)
  ·exact iA h2
 have h4 := hb.N
 have h5 : ZX.N (rs a c) = (JT a.l c.l).length := rfl
 exact ⟨by show (JT a.l c.l).length ≤ n; omega, fun d hd => h3.sz d hd⟩
theorem aaK {d : Nat} (h : 1 ≤ d) : d + 2 ≤ 4 ^ d := by
 obtain ⟨k, rfl⟩ : ∃ k, d = k + 1 := ⟨d - 1, by omega⟩
 clear h
 induction k with
 | zero => decide
 | succ k ih => rw [Nat.pow_succ]; omega
def vH (C n s : Nat) (a c : ZX) : Prop := if ZX.N c < ZX.N a then (s + n + 1) * 4 ^ ZX.N a ≤ C else (s + n + 1) * 2 * 4 ^ ZX.N c ≤ C
theorem vH.le {C n s : Nat} {a c : ZX} (h : vH C n s a c) : s + n + 1 ≤ C := by
 unfold vH at h
 split at h
 ·exact Nat.le_trans (Nat.le_mul_of_pos_right _ (Nat.pow_pos (by decide))) h
 ·refine Nat.le_trans ?_ h
  rw [Nat.mul_assoc]
  exact Nat.le_mul_of_pos_right _ (Nat.mul_pos (by decide) (Nat.pow_pos (by decide)))
theorem vH.step {C n s : Nat} {a c r : ZX} (h : vH C n s a c) (hr : ZX.N r < ZX.N c) : vH C n (s + (ZX.N a + 1 - ZX.N c) * (s + n + 1)) c r := by
 unfold vH at h ⊢
 rw [if_pos hr]
 generalize hT : s + n + 1 = T at *
 have e : s + (ZX.N a + 1 - ZX.N c) * T + n + 1 = (ZX.N a + 1 - ZX.N c + 1) * T := by
  rw [Nat.add_mul, Nat.one_mul]; omega
 rw [e]
 split at h
 ·rename_i h1
  obtain ⟨d, hd⟩ : ∃ d, ZX.N a = ZX.N c + d := ⟨ZX.N a - ZX.N c, by omega⟩
  have h2 := aaK (d := d) (by omega)
  rw [hd, Nat.pow_add] at h
  have h3 : (ZX.N a + 1 - ZX.N c + 1) * T ≤ 4 ^ d * T := Nat.mul_le_mul_right _ (by omega)
  refine Nat.le_trans (Nat.mul_le_mul_right _ h3) ?_
  have : 4 ^ d * T * 4 ^ ZX.N c = T * (4 ^ ZX.N c * 4 ^ d) := by grind
  omega
 ·rename_i h1
  refine Nat.le_trans (Nat.mul_le_mul_right _ (Nat.mul_le_mul_right T (show ZX.N a + 1 - ZX.N c + 1 ≤ 2 by omega))) ?_
  rw [Nat.mul_comm 2 T]; exact h
theorem KF {s n C : Nat} {a c : ZX} (b : BZ s n a) (b' : BZ s n c) (hP : vH C n s (nf a) (nf c)) (hB : (n + 1) * C ≤ 99000000000) : aI env.P 161 [Po a.l, Po c.l] (Po (gz a c).l) := by
 have hC : C ≤ 99000000000 := Nat.le_trans (Nat.le_mul_of_pos_left C (by omega)) hB
 rw [Nat.succ_mul] at hB
 have hs := hP.le
 have p1 := qT b (by omega) (by omega)
 have p2 := qT b' (by omega) (by omega)
 have b1 := b.nf
 have b2 := b'.nf
 have hg : gz (nf a) (nf c) = gz a c := by rw [agM, OB]
 rw [← hg]
 generalize nN : nf a = x0 at *
 generalize NI : nf c = y0 at *
 generalize hG : gz x0 y0 = G at *
 refine aB (E := env) (fun _ => 0) [(0, Po a.l), (1, Po c.l)] Tryz.func161 rfl (by kernel_rfl) (by kernel_rfl) (show 2 ≤ 24 by decide) (by simp) ?_
 generalize a.l = al at *
 generalize c.l = cl at *
 refine W.sr ?_; simp (disch := omega) [gw]; refine W.lx [0, 1] ?_; simp
 refine W.sr ?_
 simp (disch := omega) [gw]
 refine aA p1 ?_
 simp (disch := omega) [gw]
 refine aA p2 ?_
 simp (disch := omega) [gw]
 refine W.lx [0, 1] ?_; simp
 refine W.seq ?_
 refine W.block ?_
 refine W.bE (fun k σ => ∃ (x y : ZX) (s : Nat) (rows : Pm.Rows) (clk : Nat), σ = ⟨fa [(0, Po x.l), (1, Po y.l)], rows, clk⟩ ∧ BZ s n x ∧ BZ s n y ∧ vH C n s x y ∧ gz x y = G ∧ k = ZX.N y) (ZX.N y0) ?_ ?_
 ·exact ⟨_, .refl, x0, y0, s, _, _, rfl, b1, b2, hP, hG, rfl⟩
 rintro k _ ⟨x, y, s, rows, clk, rfl, bx, qU, hp, hgz, rfl⟩
 have hs := hp.le
 have hlx := bx.len
 have hly := qU.len
 refine W.seq ?_
 refine W.sr ?_; simp (disch := omega) [gw]; refine W.lx [0, 1, 13] ?_; simp
 refine W.cond ⟨_, rfl, fun h => ?_, fun h => ?_⟩
 ·have hy : y ≠ 0 := ZX.aG.2 (by show 0 < y.l.length; simp at h; omega)
  obtain ⟨m, k, q, hm, hk, e⟩ := ael (a := x) hy
  have hR := JV (x.l.map rE) (y.l.map rE) (bx.CJ (by omega) (by omega)) (qU.CJ (by omega) (by omega)) (s := s) (s' := s) (N := n) (by rw [bS]; exact LO bx) (by rw [bS]; exact LO qU) (by
   have : n * (s + n + 1) ≤ n * C := Nat.mul_le_mul_left n hs
   omega)
  rw [xC, xC, if_neg (vG hy), ← gZ, ← gZ, show JT x.l y.l = (rs x y).l from rfl] at hR
  have br := apw bx qU hy
  have hN := apv (a := x) hy
  have hp2 := hp.step hN
  have o7 := GI hm hk e
  refine W.skip ?_
  refine W.block ?_
  refine W.sr ?_
  simp (disch := omega) [gw]
  refine aA hR ?_
  simp (disch := omega) [gw]
  refine W.lx [1, 5] ?_; simp
  refine W.cB (fun K hK => ?_)
  simp (disch := omega) [gw]
  refine hK _ ⟨ZX.N (rs x y), _, aC _ [0, 1], hN, y, rs x y, _, _, _, rfl, qU.mono (by omega) (Nat.le_refl _), br, hp2, by rw [← o7, hgz], rfl⟩
 ·have hy : y = 0 := by
   refine Classical.byContradiction fun h0 => ?_
   have h1 := ZX.aG.1 h0
   have h2 : ZX.N y = y.l.length := rfl
   simp at h; rw [h2, h] at h1; simp at h1
  subst hy
  rw [qS] at hgz
  have p3 := qT bx (by omega) (by omega)
  rw [hgz] at p3
  refine W.exit ?_; simp only [pX, if_true, if_false, reduceIte, Nat.reduceEqDiff]
  refine W.sr ?_
  simp (disch := omega) [gw]
  refine aA p3 ?_
  simp (disch := omega) [gw]
  refine W.lx [4] ?_; simp
  refine W.ret ?_
  simp [go]
theorem aem {s n C : Nat} {a c : ZX} (b : BZ s n a) (b' : BZ s n c) (hP : vH C n s (nf a) (nf c)) (hn : n ≤ 20) (hC : C ≤ 4500000000) : aI env.P 161 [Po a.l, Po c.l] (Po (gz a c).l) :=
 KF b b' hP (Nat.le_trans (Nat.mul_le_mul (show n + 1 ≤ 21 by omega) hC) (by decide))
def zp (a : ZX) : List PV := [Po a.l]
@[simp] theorem aus {a : ZX} : zp a = [Po a.l] := rfl
@[simp] theorem amd {l : List ZX} : bF 1 (emap zp l) = True := dB fun _ => rfl
@[simp] theorem aut {l : List ZX} {a : ZX} : emap zp l ++ [[aJ ie a.l]] = emap zp (l ++ [a]) := by simp [emap]
@[simp] theorem ajR {v e n : Nat} {l : List ZX} : cW (some ⟨v, e, n, emap zp l⟩) = True := cS fun _ => rfl
theorem BZ.bP {h n : Nat} {a : ZX} (b : BZ h n a) (hn : n ≤ 31) : BZ (h + 5) n (ZX.bP a) := Bd.cut ⟨by have := b.len; simp [ZX.vF]; omega, fun c hc => by
 simp only [ZX.vF, List.mem_map, List.mem_range] at hc
 obtain ⟨i, hi, rfl⟩ := hc
 have := b.len
 exact bT (by decide) (b.nth _) (cT (k := 5) (by decide) (by rw [Int.natAbs_natCast]; show i + 1 < 32; omega))⟩
theorem aen {h n : Nat} {a : ZX} (b : BZ h n a) (hn : n < 1099511627776) : aI env.P 102 [Po a.l] (.int .i64 ((ZX.N a : Int) - 1)) := kA a.l (by have := b.len; omega)
structure vI (s n : Nat) (a : ZX) : Prop where
 bz : BZ s n a
 hn : n ≤ 20
 hs : n + 1 ≤ 2 ^ s
 hC : (qb s n + n + 6) * 4 ^ n ≤ 4500000000
theorem vI.xD {s n : Nat} {a : ZX} (h : vI s n a) : qb s n + n + 6 ≤ 4500000000 := Nat.le_trans (Nat.le_mul_of_pos_right _ (Nat.pow_pos (by decide))) h.hC
theorem vI.dv {s n : Nat} {a c : ZX} (h : vI s n a) (ha : Nf a) (hc : Nf c) (hd : ZX.dv c a) : BZ (qb s n) n c := apu ha hc hd h.bz h.hs
theorem vI.nfz {s n : Nat} {a : ZX} (h : vI s n a) : vI s n (nf a) := ⟨h.bz.nf, h.hn, h.hs, h.hC⟩
theorem vI.gdz {s n : Nat} {a c : ZX} (h : vI s n a) (ha : Nf a) (hc : Nf c) (hd : ZX.dv c a) : aI env.P 161 [Po c.l, Po (ZX.bP c).l] (Po (gd c).l) ∧ aI env.P 104 [Po c.l] (Po (ZX.bP c).l) ∧ aI env.P 160 [Po c.l, Po (gd c).l] (Po (qz c (gd c)).l) := by
 have b := h.dv ha hc hd
 have b2 := b.bP (by have := h.hn; omega)
 have hq := h.xD
 have hn := h.hn
 have bg := h.dv ha (RF hc.ne) ((xB c).trans hd)
 refine ⟨aem (s := qb s n + 5) (b.mono (by omega) (Nat.le_refl _)) b2 ?_ h.hn (C := 4500000000) (Nat.le_refl _), sI b (by omega) (by omega), aek b bg hc (RF hc.ne) (xB c) (by
  have : n * (qb s n + n + 1) ≤ 20 * 4500000000 := Nat.mul_le_mul hn (by omega)
  omega)⟩
 have hN := ZX.nJ c
 have h1 : ZX.N c ≤ n := b.N
 have h2 := ZX.aG.1 hc.ne
 unfold vH
 rw [xT, xT, if_pos (by omega)]
 refine Nat.le_trans (Nat.mul_le_mul (show qb s n + 5 + n + 1 ≤ qb s n + n + 6 by omega) (Nat.pow_le_pow_right (by decide) h1)) h.hC
theorem mT (f : Nat → ZX) {m i : Nat} (h : i < m) : nth ((List.range m).map f) i = f i := by
 rw [cE (by simpa using h)]; simp
theorem GL {s n C : Nat} {a c : ZX} (b : BZ s n a) (b' : BZ s n c) (hP : vH C n s (nf a) (nf c)) (hn : n ≤ 20) (hB : (n + 1) * C ≤ 99000000000) : aI env.P 103 [Po a.l, Po c.l] (.bool (decide (ZX.N (gz a c) = 1))) := by
 have h1 := KF b b' hP hB
 have hl : ZX.N (gz a c) ≤ 20 := by
  by_cases ha : a = 0
  ·subst ha
   rw [aaA, xT]
   exact Nat.le_trans b'.N hn
  ·exact Nat.le_trans ((fQ a c).l.pW ha) (Nat.le_trans b.N hn)
 have h2 := kA (gz a c).l (by show ZX.N (gz a c) < _; omega)
 have e : (((gz a c).l.length : Int) - 1 == 0) = decide (ZX.N (gz a c) = 1) := by
  rw [Bool.eq_iff_iff, beq_iff_eq, decide_eq_true_iff]
  have : ZX.N (gz a c) = (gz a c).l.length := rfl
  omega
 generalize gz a c = g at *
 refine aB (E := env) (fun _ => 0) [(0, Po a.l), (1, Po c.l)] Tryz.func103 rfl (by kernel_rfl) (by kernel_rfl) (show 2 ≤ 10 by decide) (by simp) ?_
 generalize a.l = x at *
 generalize c.l = y at *
 refine W.sr ?_; simp (disch := omega) [gw]; refine W.lx [0, 1] ?_; simp
 refine W.sr ?_
 simp (disch := omega) [gw]
 refine aA h1 ?_
 simp (disch := omega) [gw]
 refine aA h2 ?_
 simp (disch := omega) [gw, e]
 refine W.lx [4] ?_; simp
 refine W.ret ?_
 simp [go]
theorem KG {s n C : Nat} {a c : ZX} (b : BZ s n a) (b' : BZ s n c) (hP : vH C n s (nf a) (nf c)) (hn : n ≤ 20) (hC : C ≤ 4500000000) : aI env.P 103 [Po a.l, Po c.l] (.bool (decide (ZX.N (gz a c) = 1))) :=
 GL b b' hP hn (Nat.le_trans (Nat.mul_le_mul (show n + 1 ≤ 21 by omega) hC) (by decide))
noncomputable def sq (a : ZX) : ZX := if ZX.N a ≤ 1 then nf a else sz' (nf a)
theorem KH {α : Type} {g : α → List PV} {l : List α} {s n : Nat} {a : ZX} (h : vI s n a) (p1 : aI env.P 159 [aJ g l] (Po (nf a).l)) : aI env.P 83 [aJ g l] (Po (sq a).l) := by
 have hqb := h.xD
 have hn := h.hn
 have hA := h.nfz
 have auu := aen hA.bz (by omega)
 have hsq : sq a = if ZX.N (nf a) ≤ 1 then nf a else sz' (nf a) := by rw [xT]; rfl
 have nA : 2 ≤ ZX.N (nf a) → Nf (nf a) := fun h2 => mD fun h0 => by rw [h0, j2] at h2; revert h2; decide
 rw [hsq]
 generalize nf a = A at *
 refine aB (E := env) (fun _ => 0) [(0, aJ g l)] Tryz.func83 rfl (by kernel_rfl) (by kernel_rfl) (show 1 ≤ 15 by decide) (by simp) ?_
 refine W.sr ?_; simp (disch := omega) [gw]; refine W.lx [0] ?_; simp
 refine W.sr ?_
 simp (disch := omega) [gw]
 refine aA p1 ?_
 simp (disch := omega) [gw]
 refine W.lx [0] ?_; simp
 refine W.seq ?_
 refine W.sr ?_
 simp (disch := omega) [gw]
 refine aA auu ?_
 simp (disch := omega) [gw]
 refine W.lx [0, 7] ?_; simp
 refine W.cond ⟨_, rfl, fun h3 => ?_, fun h3 => ?_⟩
 ·have h2 : ZX.N A ≤ 1 := by simp at h3; omega
  rw [if_pos h2]
  refine W.sr ?_; simp (disch := omega) [gw]; refine W.lx [2] ?_; simp
  refine W.ret ?_
  simp [go]
 ·have h2 : 2 ≤ ZX.N A := by simp at h3; omega
  obtain ⟨t1, t2, t3⟩ := hA.gdz (nA h2) (nA h2) (ZX.dv.refl A)
  rw [if_neg (by omega), show sz' A = qz A (gd A) from rfl]
  generalize (gd A).l = g1 at *
  refine W.skip ?_
  refine W.sr ?_
  simp (disch := omega) [gw]
  refine aA t2 ?_
  simp (disch := omega) [gw]
  refine aA t1 ?_
  simp (disch := omega) [gw]
  refine aA t3 ?_
  simp (disch := omega) [gw]
  refine W.lx [2] ?_; simp
  refine W.ret ?_
  simp [go]
theorem lM {s n : Nat} {a : ZX} (h : vI s n a) : aI env.P 83 [Po a.l] (Po (sq a).l) := by
 have hqb := h.xD
 have hn := h.hn
 exact KH h (qT h.bz (by unfold qb at hqb; omega) (by omega))
@[simp] theorem U1 : ([] : List Int).length = 0 := rfl
theorem BZ.yy {h n : Nat} {a : ZX} (b : BZ h n a) (hh : h ≤ YY) (hn : n ≤ 1099511627775) : Bd 2 YY 1099511627775 a.l := Bd.mono b hh hn
theorem jW {h n : Nat} {a : ZX} (b : BZ h n a) (h1 : 1 ≤ h) (hh : h ≤ YY) (hn : n < 1099511627776) : aI env.P 111 [PI a.l] (PI (nf a).l) := by
 have hP := AQ a.l b a.c h1 hh hn
 have e : pS a.l = (nf a).l := rfl
 rw [e] at hP
 generalize jV a.l = c at *
 generalize (nf a).l = d at *
 generalize a.l = x at *
 refine aB (E := env) (fun _ => 0) [(0, PI x)] Tryz.func111 rfl (by kernel_rfl) (by kernel_rfl) (show 1 ≤ 11 by decide) (by simp) ?_
 refine W.sr ?_; simp (disch := omega) [gw]; refine W.lx [0] ?_; simp
 refine W.sr ?_
 simp (disch := omega) [gw]
 refine aA hP ?_
 simp (disch := omega) [gw]
 refine W.lx [4] ?_; simp
 refine W.sr ?_; simp (disch := omega) [gw]; refine W.lx [2] ?_; simp
 refine W.ret ?_
 simp [go]
theorem uC {h n : Nat} {a : ZX} (b : BZ h n a) (hh : h ≤ YY) (hn : n ≤ 1000) : aI env.P 125 [PI a.l] (PI (ZX.bP a).l) := by
 have hlen := b.len
 have e0 : (ZX.bP a).l = aM ((List.range (a.l.length - 1)).map fun k => nth a.l (k + 1) * ((k : Int) + 1)) := rfl
 rw [e0]
 have hz := fun k => b.nth k
 generalize a.l = x at *
 generalize hm : x.length - 1 = m at *
 refine aB (E := env) (fun id => if id = 5 then 2 else 0) [(0, PI x)] Tryz.func125 rfl (by kernel_rfl) (by kernel_rfl) (show 1 ≤ 23 by decide) (by simp) ?_
 refine W.sr ?_; simp (disch := omega) [gw]; refine W.lx [0] ?_; simp
 refine W.sr ?_; simp (disch := omega) [gw]; refine W.lx [0, 3] ?_; simp
 refine W.nil 3 3 50 4 (by simp) (by decide) (fun K hK => ?_)
 refine W.lw [0, 3] hK ?_; clear hK K; simp
 refine W.seq ?_
 refine W.sr ?_; simp (disch := omega) [gw]; refine W.lx [0, 3, 4] ?_; simp
 refine W.block ?_
 refine W.bE (fun k σ => ∃ (i ver : Nat) (rows : Pm.Rows) (clk : Nat), σ = ⟨fa [(0, PI x), (3, .own 3 ver 0 i), (4, .int .i64 ((i : Int) + 1))], rows, clk⟩ ∧
  rows 3 = some ⟨ver, 50, 4, emap ri ((List.range i).map fun k => nth x (k + 1) * ((k : Int) + 1))⟩ ∧ i + k = m) m ?_ ?_
 ·exact ⟨_, .refl, 0, _, _, _, rfl, by simp [emap], by omega⟩
 rintro k _ ⟨i, ver, rows, clk, rfl, hr, LN⟩
 have uW : (emap ri ((List.range i).map fun k => nth x (k + 1) * ((k : Int) + 1))).length = i := by simp [emap]
 refine W.seq ?_
 refine W.sr ?_; simp (disch := omega) [gw]; refine W.lx [0, 3, 4, 8] ?_; simp
 refine W.cond ⟨_, rfl, fun h => ?_, fun h => ?_⟩
 ·have hi : i + 1 < x.length := by simp at h; omega
  have o1 := JM ((i : Int) + 1) (by omega)
  have hzi := hz (i + 1)
  have m1 := DR (nth x (i + 1)) ((i : Int) + 1) (Nat.le_trans hzi hh) (Nat.le_trans (cT (k := 10) (by decide) (by show ((i : Int) + 1).natAbs < 1024; omega)) (by decide))
  have e1 : ((i : Int) + 1).toNat = i + 1 := by omega
  have er : (List.range (i + 1)).map (fun k => nth x (k + 1) * ((k : Int) + 1)) = (List.range i).map (fun k => nth x (k + 1) * ((k : Int) + 1)) ++ [nth x (i + 1) * ((i : Int) + 1)] := by
   rw [List.range_succ, List.map_append]; simp
  have auv : ((List.range i).map fun k => nth x (k + 1) * ((k : Int) + 1)).length = i := by simp
  generalize (List.range i).map (fun k => nth x (k + 1) * ((k : Int) + 1)) = acc at *
  generalize hq : nth x (i + 1) * ((i : Int) + 1) = q at *
  refine W.skip ?_
  refine W.seq ?_
  refine W.block ?_
  refine W.M9 (fun K hK => ?_)
  rw [if_pos rfl, dU]
  simp (disch := omega) [gw, e1]
  refine aA o1 ?_
  simp (disch := omega) [gw]
  refine aA m1 ?_
  simp (disch := omega) [gw, hr, auv]
  refine W.lw [0, 3, 4] hK ?_; clear hK K; simp
  refine W.cB (fun K hK => ?_); simp (disch := omega) [gw]
  refine hK _ ⟨k - 1, _, aC _ [0, 3, 4], by omega, i + 1, _, _, _, by rw [Int.natCast_add]; rfl, by rw [er]; simp, by omega⟩
 ·have hi : i = m := by simp at h; omega
  subst hi
  have eY : ((List.range i).map fun k => nth x (k + 1) * ((k : Int) + 1)).length = i := by simp
  generalize (List.range i).map (fun k => nth x (k + 1) * ((k : Int) + 1)) = acc at *
  have ez := bH eY
  refine W.exit ?_; simp only [pX, if_true, if_false, reduceIte, Nat.reduceEqDiff]
  refine W.sr ?_
  simp (disch := omega) [gw, hr, ez]
  refine aA (nD acc (by omega)) ?_
  simp (disch := omega) [gw]
  refine W.lx [2] ?_; simp
  refine W.ret ?_
  simp [go]
theorem uD : aI env.P 80 [.sl [[.int .i64 1]]] (PI (1 : ZX).l) := x9 [1] (by decide) (by decide)
theorem U2 {a : ZX} {k : Nat} (hk : k < 1099511627776) (h2 : ∀ i, i < k → aI env.P 54 [PI (a ^ i).l, PI a.l] (PI (a ^ (i + 1)).l)) : aI env.P 55 [PI a.l, .int .i64 k] (PI (a ^ k).l) := by
 have h1 := uD
 rw [show (1 : ZX) = a ^ 0 from rfl] at h1
 refine aB (E := env) (fun _ => 0) [(0, PI a.l), (1, .int .i64 k)] Tryz.func55 rfl (by kernel_rfl) (by kernel_rfl) (show 2 ≤ 18 by decide) (by simp) ?_
 refine W.sr ?_; simp (disch := omega) [gw]; refine W.lx [0, 1] ?_; simp
 generalize hg : a ^ 0 = g0 at *
 refine W.sr ?_
 simp (disch := omega) [gw]
 refine aA h1 ?_
 simp (disch := omega) [gw]
 refine W.lx [0, 1, 5] ?_; simp
 refine W.seq ?_
 refine W.sr ?_; simp (disch := omega) [gw]; refine W.lx [0, 1, 5, 6] ?_; simp
 subst hg
 refine W.block ?_
 refine W.bE (fun j σ => ∃ (i : Nat) (rows : Pm.Rows) (clk : Nat), σ = ⟨fa [(0, PI a.l), (1, .int .i64 k), (5, PI (a ^ i).l), (6, .int .i64 i)], rows, clk⟩ ∧ i + j = k) k ?_ ?_
 ·exact ⟨_, .refl, 0, _, _, rfl, by omega⟩
 rintro j _ ⟨i, rows, clk, rfl, LN⟩
 refine W.seq ?_
 refine W.sr ?_; simp (disch := omega) [gw]; refine W.lx [0, 1, 5, 6, 11] ?_; simp
 refine W.cond ⟨_, rfl, fun h => ?_, fun h => ?_⟩
 ·have hi : i < k := by simp at h; omega
  have ht := h2 i hi
  generalize o7 : a ^ (i + 1) = g2 at *
  generalize a ^ i = g at *
  refine W.skip ?_
  refine W.seq ?_
  refine W.block ?_
  refine W.cB (fun K hK => ?_)
  simp (disch := omega) [gw]
  refine aA ht ?_
  simp (disch := omega) [gw]
  refine W.lw [0, 1, 5, 6] hK ?_; clear hK K; simp
  refine W.cB (fun K hK => ?_); simp (disch := omega) [gw]
  subst o7
  refine hK _ ⟨j - 1, _, aC _ [0, 1, 5, 6], by omega, i + 1, _, _, rfl, by omega⟩
 ·have hi : i = k := by simp at h; omega
  subst hi
  refine W.exit ?_; simp only [pX, if_true, if_false, reduceIte, Nat.reduceEqDiff]
  refine W.sr ?_; simp (disch := omega) [gw]; refine W.lx [4] ?_; simp
  refine W.ret ?_
  simp [go]
end Go.Proofs.YtbbjgncblhfegaaGreat
