import Derived.Test.YtdiladmkbpnhoaaGreatMe
set_option linter.unusedSimpArgs false
set_option linter.unusedVariables false
namespace Pm
structure ZX where
 l : List Int
 c : Cn l
namespace ZX
theorem ext {x y : ZX} (h : ∀ t, V t x.l = V t y.l) : x = y := by
 obtain ⟨x, hx⟩ := x
 obtain ⟨y, hy⟩ := y
 have := Cn.ext hx hy h
 subst this
 rfl
def of (x : List Int) : ZX := ⟨cutR x, Cn.cut x⟩
def K (c : Int) : ZX := of [c]
instance : Zero ZX := ⟨⟨[], Cn.nil⟩⟩
instance : One ZX := ⟨K 1⟩
instance : Add ZX := ⟨fun x y => ⟨padd x.l y.l, Cn.padd _ _⟩⟩
instance : Mul ZX := ⟨fun x y => ⟨pmul x.l y.l, Cn.pmul _ _⟩⟩
instance : Neg ZX := ⟨fun x => ⟨pneg x.l, Cn.pneg _⟩⟩
instance : Sub ZX := ⟨fun x y => ⟨psub x.l y.l, Cn.psub _ _⟩⟩
def pow (x : ZX) : Nat → ZX
 | 0 => 1
 | n + 1 => pow x n * x
instance : HPow ZX Nat ZX := ⟨pow⟩
instance : NatCast ZX := ⟨fun n => K n⟩
instance (n : Nat) : OfNat ZX n := ⟨K n⟩
instance : IntCast ZX := ⟨fun n => K n⟩
instance : SMul Nat ZX := ⟨fun n x => K n * x⟩
instance : SMul Int ZX := ⟨fun n x => K n * x⟩
variable {t : Int}
theorem v_of (x : List Int) : V t (of x).l = V t x := V_cutR x
theorem v_K (c : Int) : V t (K c).l = c := by rw [K, v_of]; simp [V]
theorem v_zero : V t (0 : ZX).l = 0 := v_K 0
theorem v_zero' : V t (Zero.zero : ZX).l = 0 := rfl
theorem v_one : V t (1 : ZX).l = 1 := v_K 1
theorem v_add (x y : ZX) : V t (x + y).l = V t x.l + V t y.l := V_padd _ _
theorem v_mul (x y : ZX) : V t (x * y).l = V t x.l * V t y.l := V_pmul _ _
theorem v_neg (x : ZX) : V t (-x).l = -V t x.l := V_pneg _
theorem v_sub (x y : ZX) : V t (x - y).l = V t x.l - V t y.l := V_psub _ _
theorem v_pow (x : ZX) : ∀ n : Nat, V t (x ^ n).l = V t x.l ^ n
 | 0 => by show V t (1 : ZX).l = _; rw [v_one, Int.pow_zero]
 | n + 1 => by show V t ((x ^ n) * x).l = _; rw [v_mul, v_pow x n, Int.pow_succ]
theorem v_nat (n : Nat) : V t (n : ZX).l = n := v_K n
theorem v_ofNat (n : Nat) : V t (OfNat.ofNat n : ZX).l = n := v_K n
theorem v_int (n : Int) : V t (n : ZX).l = n := v_K n
theorem v_nsmul (n : Nat) (x : ZX) : V t (n • x).l = n * V t x.l := by show V t (K n * x).l = _; rw [v_mul, v_K]
theorem v_zsmul (n : Int) (x : ZX) : V t (n • x).l = n * V t x.l := by show V t (K n * x).l = _; rw [v_mul, v_K]
instance : Lean.Grind.CommRing ZX where
 add_zero x := ext fun t => by rw [v_add, v_zero]; omega
 add_comm x y := ext fun t => by rw [v_add, v_add]; omega
 add_assoc x y z := ext fun t => by simp only [v_add]; omega
 mul_assoc x y z := ext fun t => by simp only [v_mul]; grind
 mul_one x := ext fun t => by rw [v_mul, v_one]; omega
 one_mul x := ext fun t => by rw [v_mul, v_one]; omega
 left_distrib x y z := ext fun t => by simp only [v_mul, v_add]; grind
 right_distrib x y z := ext fun t => by simp only [v_mul, v_add]; grind
 zero_mul x := ext fun t => by rw [v_mul, v_zero]; omega
 mul_zero x := ext fun t => by rw [v_mul, v_zero]; omega
 pow_zero x := ext fun t => by rw [v_pow, v_one, Int.pow_zero]
 pow_succ x n := ext fun t => by rw [v_mul, v_pow, v_pow, Int.pow_succ]
 ofNat_succ n := ext fun t => by rw [v_add, v_ofNat, v_ofNat, v_one]; omega
 ofNat_eq_natCast n := rfl
 nsmul_eq_natCast_mul n x := rfl
 neg_add_cancel x := ext fun t => by rw [v_add, v_neg, v_zero]; omega
 sub_eq_add_neg x y := ext fun t => by rw [v_sub, v_add, v_neg]; omega
 neg_zsmul n x := ext fun t => by rw [v_zsmul, v_neg, v_zsmul]; grind
 zsmul_natCast_eq_nsmul n x := rfl
 intCast_ofNat n := rfl
 intCast_neg n := ext fun t => by rw [v_int, v_neg, v_int]
 mul_comm x y := ext fun t => by rw [v_mul, v_mul, Int.mul_comm]
def N (x : ZX) : Nat := x.l.length
theorem ne_zero {x : ZX} : x ≠ 0 ↔ 0 < N x := by
 constructor
 ·intro h
  rcases Nat.eq_zero_or_pos (N x) with h1 | h1
  ·exfalso
   apply h
   have : x.l = [] := List.eq_nil_of_length_eq_zero h1
   exact ext fun t => by rw [this, v_zero]; rfl
  ·exact h1
 ·rintro h rfl
  have : N (0 : ZX) = 0 := by decide
  omega
theorem N_zero : N (0 : ZX) = 0 := by decide
theorem N_mul {x y : ZX} (hx : x ≠ 0) (hy : y ≠ 0) : N (x * y) = N x + N y - 1 := pmul_len_eq x.c y.c (ne_zero.1 hx) (ne_zero.1 hy)
theorem mul_ne {x y : ZX} (hx : x ≠ 0) (hy : y ≠ 0) : x * y ≠ 0 := by
 rw [ne_zero, N_mul hx hy]
 have := ne_zero.1 hx
 have := ne_zero.1 hy
 omega
theorem mul_zero_or {x y : ZX} (h : x * y = 0) : x = 0 ∨ y = 0 := by
 by_cases hx : x = 0
 ·exact .inl hx
 ·by_cases hy : y = 0
  ·exact .inr hy
  ·exact absurd h (mul_ne hx hy)
theorem mul_comm' (x y : ZX) : x * y = y * x := by grind
theorem cancel {x y z : ZX} (hz : z ≠ 0) (h : z * x = z * y) : x = y := by
 have h1 : z * (x - y) = 0 := by grind
 rcases mul_zero_or h1 with h2 | h2
 ·exact absurd h2 hz
 ·grind
theorem K_ne {c : Int} (h : c ≠ 0) : K c ≠ 0 := fun e => h (by
 have := v_K (t := 0) c
 rw [e, v_zero] at this; omega)
theorem K_inj {c d : Int} (h : K c = K d) : c = d := by
 have := v_K (t := 0) c
 rw [h, v_K] at this; omega
theorem N_K {c : Int} (h : c ≠ 0) : N (K c) = 1 := by
 show (cutR [c]).length = 1
 rw [show cutR [c] = [c] from cutR_ne h []]; rfl
theorem K_mul (c d : Int) : K c * K d = K (c * d) := ext fun t => by rw [v_mul, v_K, v_K, v_K]
theorem of_N1 {x : ZX} (h : N x = 1) : ∃ c, c ≠ 0 ∧ x = K c := by
 obtain ⟨l, hl⟩ := x
 match l, hl, h with
 | [c], hl, _ =>
  have hc : c ≠ 0 := by
   have := lead_ne hl (by simp)
   simpa [lead, nth_cons0] using this
  exact ⟨c, hc, ext fun t => by rw [v_K]; simp [V]⟩
theorem ne_of_K {c : Int} {x y q : ZX} (hc : c ≠ 0) (hx : x ≠ 0) (h : K c * x = q * y) : q ≠ 0 ∧ y ≠ 0 := by
 have h1 := mul_ne (K_ne hc) hx
 rw [h] at h1
 constructor
 ·rintro rfl; apply h1; grind
 ·rintro rfl; apply h1; grind
theorem one_ne : (1 : ZX) ≠ 0 := K_ne (by decide)
theorem N_one : N (1 : ZX) = 1 := N_K (by decide)
def dv (y x : ZX) : Prop := ∃ c : Int, c ≠ 0 ∧ ∃ q, K c * x = q * y
theorem dv.refl (x : ZX) : dv x x := ⟨1, by decide, K 1, rfl⟩
theorem dv.zero (x : ZX) : dv x 0 := ⟨1, by decide, 0, by grind⟩
theorem dv.trans {x y z : ZX} (h1 : dv x y) (h2 : dv y z) : dv x z := by
 obtain ⟨c, hc, q, h1⟩ := h1
 obtain ⟨d, hd, r, h2⟩ := h2
 exact ⟨c * d, Int.mul_ne_zero hc hd, q * r, by rw [← K_mul]; grind⟩
theorem dv.mul_right {x y : ZX} (h : dv x y) (z : ZX) : dv x (y * z) := by
 obtain ⟨c, hc, q, h⟩ := h
 exact ⟨c, hc, q * z, by grind⟩
theorem dv.mul_left {x y : ZX} (h : dv x y) (z : ZX) : dv x (z * y) := by
 obtain ⟨c, hc, q, h⟩ := h
 exact ⟨c, hc, q * z, by grind⟩
theorem dv.mul {x y z w : ZX} (h1 : dv x y) (h2 : dv z w) : dv (x * z) (y * w) := by
 obtain ⟨c, hc, q, h1⟩ := h1
 obtain ⟨d, hd, r, h2⟩ := h2
 exact ⟨c * d, Int.mul_ne_zero hc hd, q * r, by rw [← K_mul]; grind⟩
theorem dv.add {x y z : ZX} (h1 : dv x y) (h2 : dv x z) : dv x (y + z) := by
 obtain ⟨c, hc, q, h1⟩ := h1
 obtain ⟨d, hd, r, h2⟩ := h2
 exact ⟨c * d, Int.mul_ne_zero hc hd, K d * q + K c * r, by rw [← K_mul]; grind⟩
theorem dv.of_K {x y : ZX} {c : Int} (hc : c ≠ 0) (h : dv x (K c * y)) : dv x y := by
 obtain ⟨d, hd, q, h⟩ := h
 exact ⟨d * c, Int.mul_ne_zero hd hc, q, by rw [← K_mul]; grind⟩
theorem dv.K_of {x y : ZX} {c : Int} (hc : c ≠ 0) (h : dv x y) : dv (K c * x) y := by
 obtain ⟨d, hd, q, h⟩ := h
 exact ⟨c * d, Int.mul_ne_zero hc hd, q, by rw [← K_mul]; grind⟩
theorem dv.cancel {x y z : ZX} (hz : z ≠ 0) (h : dv (z * x) (z * y)) : dv x y := by
 obtain ⟨c, hc, q, h⟩ := h
 exact ⟨c, hc, q, ZX.cancel hz (by grind)⟩
theorem dv.N_le {x y : ZX} (h : dv x y) (hy : y ≠ 0) : N x ≤ N y := by
 obtain ⟨c, hc, q, h⟩ := h
 obtain ⟨h1, h2⟩ := ne_of_K hc hy h
 have h3 : N (K c * y) = N y := by rw [N_mul (K_ne hc) hy, N_K hc]; have := ne_zero.1 hy; omega
 rw [h, N_mul h1 h2] at h3
 have := ne_zero.1 h1
 omega
theorem dv.ne {x y : ZX} (h : dv x y) (hy : y ≠ 0) : x ≠ 0 := by
 obtain ⟨c, hc, q, h⟩ := h
 exact (ne_of_K hc hy h).2
theorem dv_zero {x : ZX} (h : dv 0 x) : x = 0 := by
 obtain ⟨c, hc, q, h⟩ := h
 have h2 : K c * x = 0 := by grind
 exact (mul_zero_or h2).resolve_left (K_ne hc)
theorem K_dv {c : Int} (hc : c ≠ 0) (x : ZX) : dv (K c) x := ⟨c, hc, x, by grind⟩
theorem dv_same {x y : ZX} (h : dv x y) (hy : y ≠ 0) (hN : N x = N y) : dv y x := by
 obtain ⟨c, hc, q, h⟩ := h
 obtain ⟨h1, h2⟩ := ne_of_K hc hy h
 have h3 : N (K c * y) = N y := by rw [N_mul (K_ne hc) hy, N_K hc]; have := ne_zero.1 hy; omega
 rw [h, N_mul h1 h2] at h3
 have h4 := ne_zero.1 h1
 have h5 := ne_zero.1 h2
 obtain ⟨d, hd, rfl⟩ := of_N1 (x := q) (by omega)
 exact ⟨d, hd, K c, by rw [h]⟩
theorem divide (a : ZX) {b : ZX} (hb : b ≠ 0) : ∃ c : Int, c ≠ 0 ∧ ∃ q r, K c * a = q * b + r ∧ N r < N b := by
 have h0 := ne_zero.1 hb
 obtain ⟨c1, c2⟩ := pdm_Cn (b := b.l) a.c
 refine ⟨lead b.l ^ psk a.l b.l, Int.pow_ne_zero (lead_ne b.c h0), ⟨_, c1⟩, ⟨_, c2⟩, ext fun t => ?_, ?_⟩
 ·rw [v_mul, v_K, v_add, v_mul]
  exact (V_pdm t a.l b.l).symm
 ·have := pdm_len (a := a.l) h0
  show (pdm a.l b.l).2.length < b.l.length
  have : 0 < b.l.length := h0
  omega
structure IsG (g a b : ZX) : Prop where
 l : dv g a
 r : dv g b
 uv : ∃ c : Int, c ≠ 0 ∧ ∃ u v, K c * g = u * a + v * b
theorem IsG.least {g a b d : ZX} (h : IsG g a b) (ha : dv d a) (hb : dv d b) : dv d g := by
 obtain ⟨c, hc, u, v, e⟩ := h.uv
 refine dv.of_K hc ?_
 rw [e]
 exact (ha.mul_left u).add (hb.mul_left v)
theorem IsG.ne {g a b : ZX} (h : IsG g a b) (ha : a ≠ 0 ∨ b ≠ 0) : g ≠ 0 := by
 rintro rfl
 rcases ha with h1 | h1
 ·exact h1 (dv_zero h.l)
 ·exact h1 (dv_zero h.r)
theorem IsG.zero (a : ZX) : IsG a a 0 := ⟨dv.refl a, dv.zero a, 1, by decide, 1, 0, by show (1 : ZX) * a = _; grind⟩
theorem IsG.symm {g a b : ZX} (h : IsG g a b) : IsG g b a := by
 obtain ⟨c, hc, u, v, e⟩ := h.uv
 exact ⟨h.r, h.l, c, hc, v, u, by grind⟩
theorem IsG.step {g a b q r : ZX} {c : Int} (hc : c ≠ 0) (e : K c * a = q * b + r) (h : IsG g b r) : IsG g a b := by
 obtain ⟨d, hd, u, v, e2⟩ := h.uv
 refine ⟨dv.of_K hc ?_, h.l, d, hd, v * K c, u - v * q, by grind⟩
 rw [e]
 exact (h.l.mul_left q).add h.r
theorem exists_gcd : ∀ (n : Nat) (a b : ZX), N b ≤ n → ∃ g, IsG g a b
 | 0, a, b, h => by
  have : b = 0 := Classical.byContradiction fun hb => by have := ne_zero.1 hb; omega
  subst this
  exact ⟨a, IsG.zero a⟩
 | n + 1, a, b, h => by
  by_cases hb : b = 0
  ·subst hb; exact ⟨a, IsG.zero a⟩
  ·obtain ⟨c, hc, q, r, e, hr⟩ := divide a hb
   obtain ⟨g, hg⟩ := exists_gcd n b r (by omega)
   exact ⟨g, hg.step hc e⟩
structure Irr (p : ZX) : Prop where
 deg : 2 ≤ N p
 irr : ∀ d, dv d p → N d = 1 ∨ N d = N p
theorem Irr.ne {p : ZX} (h : Irr p) : p ≠ 0 := ne_zero.2 (by have := h.deg; omega)
theorem Irr.prime {p a b : ZX} (hp : Irr p) (h : dv p (a * b)) : dv p a ∨ dv p b := by
 obtain ⟨g, hg⟩ := exists_gcd _ p a (Nat.le_refl _)
 rcases hp.irr g hg.l with h1 | h1
 ·right
  obtain ⟨k, hk, rfl⟩ := of_N1 h1
  obtain ⟨c, hc, u, v, e⟩ := hg.uv
  refine dv.of_K (c := c * k) (Int.mul_ne_zero hc hk) ?_
  have e2 : K (c * k) * b = (u * b) * p + v * (a * b) := by rw [← K_mul]; grind
  rw [e2]
  exact ((dv.refl p).mul_left _).add (h.mul_left v)
 ·left
  exact (dv_same hg.l hp.ne h1).trans hg.r
theorem exists_irr : ∀ (n : Nat) (a : ZX), N a ≤ n → 2 ≤ N a → ∃ p, Irr p ∧ dv p a
 | 0, a, h, h2 => by omega
 | n + 1, a, h, h2 => by
  by_cases hi : ∃ d, dv d a ∧ N d ≠ 1 ∧ N d ≠ N a
  ·obtain ⟨d, hd, h3, h4⟩ := hi
   have h5 := hd.N_le (ne_zero.2 (by omega))
   have h6 := ne_zero.1 (hd.ne (ne_zero.2 (by omega)))
   obtain ⟨p, hp, hpd⟩ := exists_irr n d (by omega) (by omega)
   exact ⟨p, hp, hpd.trans hd⟩
  ·refine ⟨a, ⟨h2, fun d hd => ?_⟩, dv.refl a⟩
   by_cases h3 : N d = 1
   ·exact .inl h3
   ·by_cases h4 : N d = N a
    ·exact .inr h4
    ·exact absurd ⟨d, hd, h3, h4⟩ hi
theorem pow_succ' (p : ZX) (k : Nat) : p ^ (k + 1) = p ^ k * p := rfl
theorem pow_zero' (p : ZX) : p ^ 0 = 1 := rfl
theorem pow_add' (p : ZX) (j : Nat) : ∀ k, p ^ (j + k) = p ^ j * p ^ k
 | 0 => by rw [Nat.add_zero, pow_zero']; grind
 | k + 1 => by rw [← Nat.add_assoc, pow_succ', pow_succ', pow_add' p j k]; grind
theorem pow_ne {p : ZX} (hp : p ≠ 0) : ∀ k : Nat, p ^ k ≠ 0
 | 0 => one_ne
 | k + 1 => mul_ne (pow_ne hp k) hp
theorem N_pow {p : ZX} (hp : Irr p) : ∀ k : Nat, k < N (p ^ k)
 | 0 => by rw [pow_zero', N_one]; omega
 | k + 1 => by
  rw [pow_succ', N_mul (pow_ne hp.ne k) hp.ne]
  have := N_pow hp k
  have := hp.deg
  omega
theorem pow_dv {p : ZX} {j k : Nat} (h : j ≤ k) : dv (p ^ j) (p ^ k) := by
 obtain ⟨d, rfl⟩ := Nat.exists_eq_add_of_le h
 rw [pow_add']
 exact (dv.refl _).mul_right _
theorem exists_mu {p a : ZX} (hp : Irr p) (ha : a ≠ 0) : ∃ k, dv (p ^ k) a ∧ ¬ dv (p ^ (k + 1)) a := by
 have key : ∀ n, (∃ k, k ≤ n ∧ dv (p ^ k) a ∧ ¬ dv (p ^ (k + 1)) a) ∨ dv (p ^ (n + 1)) a := by
  intro n
  induction n with
  | zero =>
   by_cases h : dv (p ^ 1) a
   ·exact .inr h
   ·exact .inl ⟨0, Nat.le_refl _, K_dv (by decide) a, h⟩
  | succ n ih =>
   rcases ih with ⟨k, h1, h2⟩ | ih
   ·exact .inl ⟨k, by omega, h2⟩
   ·by_cases h : dv (p ^ (n + 2)) a
    ·exact .inr h
    ·exact .inl ⟨n + 1, Nat.le_refl _, ih, h⟩
 rcases key (N a) with ⟨k, _, h⟩ | h
 ·exact ⟨k, h⟩
 ·have h1 := h.N_le ha
  have h2 := N_pow hp (N a + 1)
  omega
open Classical in
noncomputable def mu (p a : ZX) : Nat := if h : ∃ k, dv (p ^ k) a ∧ ¬ dv (p ^ (k + 1)) a then h.choose else 0
theorem mu_spec {p a : ZX} (hp : Irr p) (ha : a ≠ 0) : dv (p ^ mu p a) a ∧ ¬ dv (p ^ (mu p a + 1)) a := by
 have h := exists_mu hp ha
 unfold mu
 rw [dif_pos h]
 exact h.choose_spec
theorem mu_le {p a : ZX} (hp : Irr p) (ha : a ≠ 0) {k : Nat} : k ≤ mu p a ↔ dv (p ^ k) a := by
 obtain ⟨h1, h2⟩ := mu_spec hp ha
 constructor
 ·intro h; exact (pow_dv h).trans h1
 ·intro h
  rcases Nat.lt_or_ge (mu p a) k with h3 | h3
  ·exact absurd ((pow_dv h3).trans h) h2
  ·exact h3
theorem mu_split {p a : ZX} (hp : Irr p) (ha : a ≠ 0) : ∃ c : Int, c ≠ 0 ∧ ∃ b, b ≠ 0 ∧ K c * a = b * p ^ mu p a ∧ ¬ dv p b := by
 obtain ⟨⟨c, hc, b, e⟩, h2⟩ := mu_spec hp ha
 refine ⟨c, hc, b, (ne_of_K hc ha e).1, e, fun h => h2 (dv.of_K hc ?_)⟩
 rw [e, pow_succ']
 have := h.mul (dv.refl (p ^ mu p a))
 rw [show p ^ mu p a * p = p * p ^ mu p a by grind]
 exact this
theorem mu_unique {p a b : ZX} (hp : Irr p) (ha : a ≠ 0) {c : Int} (hc : c ≠ 0) {k : Nat} (e : K c * a = b * p ^ k) (h : ¬ dv p b) : mu p a = k := by
 have h1 : k ≤ mu p a := (mu_le hp ha).2 ⟨c, hc, b, e⟩
 rcases Nat.lt_or_ge k (mu p a) with h2 | h2
 ·exfalso
  obtain ⟨d, hd, r, e2⟩ := (mu_le hp ha).1 h2
  apply h
  refine ⟨d, hd, K c * r, ZX.cancel (pow_ne hp.ne k) ?_⟩
  rw [pow_succ'] at e2
  grind
 ·omega
theorem mu_mul {p a b : ZX} (hp : Irr p) (ha : a ≠ 0) (hb : b ≠ 0) : mu p (a * b) = mu p a + mu p b := by
 obtain ⟨c, hc, x, _, e1, h1⟩ := mu_split hp ha
 obtain ⟨d, hd, y, _, e2, h2⟩ := mu_split hp hb
 refine mu_unique (b := x * y) hp (mul_ne ha hb) (Int.mul_ne_zero hc hd) ?_ fun h => ?_
 ·rw [pow_add', ← K_mul]; grind
 ·rcases hp.prime h with h3 | h3
  ·exact h1 h3
  ·exact h2 h3
theorem mu_K {p : ZX} (hp : Irr p) {c : Int} (hc : c ≠ 0) : mu p (K c) = 0 := by
 refine mu_unique (b := K c) (c := 1) hp (K_ne hc) (by decide) (by rw [pow_zero']; show (1 : ZX) * K c = _; grind) fun h => ?_
 have := h.N_le (K_ne hc)
 rw [N_K hc] at this
 have := hp.deg
 omega
theorem mu_dv {p a b : ZX} (hp : Irr p) (hb : b ≠ 0) (h : dv a b) : mu p a ≤ mu p b := (mu_le hp hb).2 (((mu_le hp (h.ne hb)).1 (Nat.le_refl _)).trans h)
theorem mu_KK {p a b q : ZX} (hp : Irr p) {c : Int} (hc : c ≠ 0) (ha : a ≠ 0) (e : K c * a = q * b) : mu p a = mu p q + mu p b := by
 obtain ⟨h1, h2⟩ := ne_of_K hc ha e
 rw [← mu_mul hp h1 h2, ← e, mu_mul hp (K_ne hc) ha, mu_K hp hc]; omega
theorem dv_of_mu : ∀ (n : Nat) (a b : ZX), N a ≤ n → a ≠ 0 → b ≠ 0 → (∀ p, Irr p → mu p a ≤ mu p b) → dv a b
 | 0, a, b, hn, ha, _, _ => by have := ne_zero.1 ha; omega
 | n + 1, a, b, hn, ha, hb, h => by
  rcases Nat.lt_or_ge (N a) 2 with h1 | h1
  ·obtain ⟨c, hc, rfl⟩ := of_N1 (x := a) (by have := ne_zero.1 ha; omega)
   exact K_dv hc b
  ·obtain ⟨p, hp, hpa⟩ := exists_irr _ a (Nat.le_refl _) h1
   have h2 : 1 ≤ mu p a := (mu_le hp ha).2 (by rw [show p ^ 1 = p by rw [pow_succ', pow_zero']; grind]; exact hpa)
   have h3 : dv p b := by
    have := (mu_le hp hb).1 (Nat.le_trans h2 (h p hp))
    rwa [show p ^ 1 = p by rw [pow_succ', pow_zero']; grind] at this
   obtain ⟨c, hc, a', ea⟩ := hpa
   obtain ⟨d, hd, b', eb⟩ := h3
   obtain ⟨ha', _⟩ := ne_of_K hc ha ea
   obtain ⟨hb', _⟩ := ne_of_K hd hb eb
   have h4 : N (K c * a) = N a := by rw [N_mul (K_ne hc) ha, N_K hc]; have := ne_zero.1 ha; omega
   have h5 : dv a' b' := dv_of_mu n a' b' (by
    rw [ea, N_mul ha' hp.ne] at h4
    have := hp.deg
    omega) ha' hb' fun r hr => by
    have h6 := h r hr
    rw [mu_KK hr hc ha ea, mu_KK hr hd hb eb] at h6
    omega
   refine dv.of_K hd ?_
   rw [eb]
   have h7 := h5.mul (dv.refl p)
   rw [← ea] at h7
   obtain ⟨e, he, q, e3⟩ := h7
   exact ⟨e, he, q * K c, by grind⟩
theorem dv_iff_mu {a b : ZX} (ha : a ≠ 0) (hb : b ≠ 0) : dv a b ↔ ∀ p, Irr p → mu p a ≤ mu p b := ⟨fun h p hp => mu_dv hp hb h, dv_of_mu _ a b (Nat.le_refl _) ha hb⟩
theorem IsG.mu {g a b p : ZX} (h : IsG g a b) (ha : a ≠ 0) (hb : b ≠ 0) (hp : Irr p) : mu p g = min (ZX.mu p a) (ZX.mu p b) := by
 have hg := h.ne (.inl ha)
 have h1 := mu_dv hp ha h.l
 have h2 := mu_dv hp hb h.r
 have h3 : min (ZX.mu p a) (ZX.mu p b) ≤ ZX.mu p g := (mu_le hp hg).2 (h.least ((mu_le hp ha).1 (Nat.min_le_left _ _)) ((mu_le hp hb).1 (Nat.min_le_right _ _)))
 omega
def derL (x : List Int) : List Int := (List.range (x.length - 1)).map fun i => nth x (i + 1) * ((i + 1 : Nat) : Int)
def derK : Nat → List Int → List Int
 | _, [] => []
 | k, a :: l => a * (k : Int) :: derK (k + 1) l
def W (t : Int) : List Int → Int
 | [] => 0
 | _ :: l => V t l + t * W t l
theorem derK_eq : ∀ (l : List Int) (k : Nat), derK k l = (List.range l.length).map fun i => nth l i * ((k + i : Nat) : Int)
 | [], k => rfl
 | a :: l, k => by
  rw [derK, derK_eq l (k + 1), List.length_cons, List.range_succ_eq_map, List.map_cons, List.map_map]
  congr 1
  refine List.map_congr_left fun i _ => ?_
  simp only [Function.comp_apply, nth_consS]
  rw [show k + 1 + i = k + (i + 1) by omega]
theorem derL_cons (a : Int) (l : List Int) : derL (a :: l) = derK 1 l := by
 rw [derK_eq, derL, List.length_cons, Nat.add_sub_cancel]
 refine List.map_congr_left fun i _ => ?_
 rw [nth_consS, show i + 1 = 1 + i by omega]
theorem V_derK_succ (t : Int) : ∀ (l : List Int) (k : Nat), V t (derK (k + 1) l) = V t (derK k l) + V t l
 | [], k => by simp [derK, V]
 | a :: l, k => by
  simp only [derK, V]
  rw [V_derK_succ t l (k + 1)]
  have : ((k + 1 : Nat) : Int) = (k : Int) + 1 := by omega
  rw [this]; grind
theorem V_derK_one (t : Int) : ∀ l : List Int, V t (derK 1 l) = V t l + t * W t l
 | [] => by simp [derK, V, W]
 | b :: m => by
  rw [derK]
  simp only [V, W]
  rw [V_derK_succ, V_derK_one t m]
  rw [show ((1 : Nat) : Int) = 1 from rfl]
  grind
theorem V_derL (t : Int) : ∀ x : List Int, V t (derL x) = W t x
 | [] => rfl
 | a :: l => by rw [derL_cons, V_derK_one]; rfl
def der (x : ZX) : ZX := of (derL x.l)
theorem v_der (x : ZX) : V t (der x).l = W t x.l := by rw [der, v_of, V_derL]
theorem taylor (t h : Int) : ∀ x : List Int, ∃ R : Int, V (t + h) x = V t x + h * W t x + h * h * R
 | [] => ⟨0, by simp [V, W]⟩
 | a :: l => by
  obtain ⟨R, hR⟩ := taylor t h l
  refine ⟨W t l + (t + h) * R, ?_⟩
  simp only [V, W]
  rw [hR]; grind
theorem W_uniq {t A : Int} {z : List Int} (hA : ∀ h, ∃ R : Int, V (t + h) z = V t z + h * A + h * h * R) : W t z = A := by
 have key : ∀ h : Int, h ≠ 0 → h ∣ W t z - A := fun h hh => by
  obtain ⟨R, hR⟩ := hA h
  obtain ⟨S, hS⟩ := taylor t h z
  refine ⟨R - S, Int.eq_of_mul_eq_mul_left hh ?_⟩
  grind
 have h1 := key (((W t z - A).natAbs : Int) + 1) (by omega)
 have h2 := Int.natAbs_dvd_natAbs.2 h1
 rcases Nat.eq_zero_or_pos (W t z - A).natAbs with h3 | h3
 ·omega
 ·have := Nat.le_of_dvd h3 h2
  omega
theorem der_mul (x y : ZX) : der (x * y) = der x * y + x * der y := ext fun t => by
 rw [v_der, v_add, v_mul, v_mul, v_der, v_der]
 refine W_uniq fun h => ?_
 obtain ⟨R, hR⟩ := taylor t h x.l
 obtain ⟨S, hS⟩ := taylor t h y.l
 refine ⟨V t x.l * S + R * V t y.l + W t x.l * W t y.l + h * (W t x.l * S + R * W t y.l) + h * h * R * S, ?_⟩
 rw [v_mul, v_mul, hR, hS]; grind
theorem der_K (c : Int) : der (K c) = 0 := ext fun t => by
 rw [v_der, v_zero]
 refine W_uniq fun h => ⟨0, ?_⟩
 rw [v_K, v_K]; grind
theorem der_Kmul (c : Int) (x : ZX) : der (K c * x) = K c * der x := by rw [der_mul, der_K]; grind
theorem der_one : der (1 : ZX) = 0 := der_K 1
theorem der_pow (p : ZX) : ∀ m : Nat, der (p ^ (m + 1)) = K ((m + 1 : Nat) : Int) * p ^ m * der p
 | 0 => by
  rw [pow_succ', der_mul, pow_zero', der_one]
  show _ = (1 : ZX) * 1 * der p
  grind
 | m + 1 => by
  rw [pow_succ', der_mul, der_pow p m]
  have : K ((m + 1 + 1 : Nat) : Int) = K ((m + 1 : Nat) : Int) + 1 := ext fun t => by rw [v_add, v_K, v_K, v_one]; omega
  rw [this, pow_succ']; grind
theorem N_der (a : ZX) : N (der a) ≤ N a - 1 := Nat.le_trans (cutR_len _) (by simp [derL, N])
theorem der_ne {a : ZX} (h : 2 ≤ N a) : der a ≠ 0 := by
 have h1 : a.l.length = N a := rfl
 have hl := lead_ne a.c (by omega)
 intro h0
 have h2 : nth (der a).l (N a - 2) = nth a.l (N a - 1) * ((N a - 1 : Nat) : Int) := by
  show nth (cutR (derL a.l)) _ = _
  rw [nth_cutR, derL, nth_eq (by simp; omega)]
  simp only [List.getElem_map, List.getElem_range]
  rw [show N a - 2 + 1 = N a - 1 by omega]
 rw [h0] at h2
 have h3 : nth (0 : ZX).l (N a - 2) = 0 := nth_ge (by show (0 : ZX).l.length ≤ _; have : (0 : ZX).l.length = 0 := by decide
                                                      omega)
 rw [h3] at h2
 have h4 : nth a.l (N a - 1) = lead a.l := by rw [lead, h1]
 rw [h4] at h2
 exact Int.mul_ne_zero hl (by omega) h2.symm
theorem Irr.not_dv_der {p : ZX} (hp : Irr p) : ¬ dv p (der p) := fun h => by
 have h1 := h.N_le (der_ne hp.deg)
 have h2 := N_der p
 have := hp.deg
 omega
theorem mu_der {p a : ZX} (hp : Irr p) (ha : a ≠ 0) {m : Nat} (h : mu p a = m + 1) : der a ≠ 0 ∧ mu p (der a) = m := by
 obtain ⟨c, hc, b, hb, e, hn⟩ := mu_split hp ha
 rw [h] at e
 have e2 : K c * der a = (der b * p + K ((m + 1 : Nat) : Int) * (b * der p)) * p ^ m := by
  rw [← der_Kmul, e, der_mul, der_pow, pow_succ']; grind
 have hnd : ¬ dv p (der b * p + K ((m + 1 : Nat) : Int) * (b * der p)) := fun h1 => by
  have h2 : dv p (K ((m + 1 : Nat) : Int) * (b * der p)) := by
   have h3 := h1.add ((dv.refl p).mul_left (-der b))
   rwa [show der b * p + K ((m + 1 : Nat) : Int) * (b * der p) + -der b * p = K ((m + 1 : Nat) : Int) * (b * der p) by grind] at h3
  have h4 := dv.of_K (by omega) h2
  rcases hp.prime h4 with h5 | h5
  ·exact hn h5
  ·exact hp.not_dv_der h5
 have h6 : der a ≠ 0 := fun h0 => by
  rw [h0] at e2
  have h7 : (der b * p + K ((m + 1 : Nat) : Int) * (b * der p)) * p ^ m = 0 := by rw [← e2]; grind
  rcases mul_zero_or h7 with h8 | h8
  ·rw [h8] at hnd; exact hnd (dv.zero p)
  ·exact pow_ne hp.ne m h8
 exact ⟨h6, mu_unique hp h6 hc e2 hnd⟩
theorem IsG.mu_der {g a p : ZX} (h : IsG g a (der a)) (ha : a ≠ 0) (hp : Irr p) : ZX.mu p g = ZX.mu p a - 1 := by
 rcases Nat.eq_zero_or_pos (ZX.mu p a) with h1 | h1
 ·have := mu_dv hp ha h.l
  omega
 ·obtain ⟨m, hm⟩ : ∃ m, ZX.mu p a = m + 1 := ⟨ZX.mu p a - 1, by omega⟩
  obtain ⟨h2, h3⟩ := ZX.mu_der hp ha hm
  rw [h.mu ha h2 hp, h3, hm]; omega
theorem mu_one {p : ZX} (hp : Irr p) : mu p 1 = 0 := mu_K hp (by decide)
theorem mu_pow {p a : ZX} (hp : Irr p) (ha : a ≠ 0) : ∀ k : Nat, mu p (a ^ k) = k * mu p a
 | 0 => by rw [pow_zero', mu_one hp]; omega
 | k + 1 => by rw [pow_succ', mu_mul hp (pow_ne ha k) ha, mu_pow hp ha k, Nat.add_mul]; omega
theorem IsG.step2 {g a b q r : ZX} {c k : Int} (hc : c ≠ 0) (hk : k ≠ 0) (e : K c * a = q * b + K k * r) (h : IsG g b r) : IsG g a b := by
 obtain ⟨d, hd, u, v, e2⟩ := h.uv
 refine ⟨dv.of_K hc ?_, h.l, k * d, Int.mul_ne_zero hk hd, v * K c, K k * u - v * q, by rw [← K_mul]; grind⟩
 rw [e]
 exact (h.l.mul_left q).add (h.r.mul_left _)
theorem IsG.scale {g a b : ZX} (h : IsG g a b) (z : ZX) : IsG (g * z) (a * z) (b * z) := by
 obtain ⟨c, hc, u, v, e⟩ := h.uv
 exact ⟨h.l.mul (dv.refl z), h.r.mul (dv.refl z), c, hc, u, v, by grind⟩
theorem IsG.assoc {g g' a b : ZX} (h : IsG g a b) (h' : IsG g' a b) : dv g g' ∧ dv g' g := ⟨h'.least h.l h.r, h.least h'.l h'.r⟩
theorem IsG.congr {g a b a' b' : ZX} (h : IsG g a b) (h1 : dv a a') (h2 : dv a' a) (h3 : dv b b') (h4 : dv b' b) : IsG g a' b' := by
 obtain ⟨g', hg'⟩ := exists_gcd _ a' b' (Nat.le_refl _)
 obtain ⟨c, hc, u, v, e⟩ := hg'.uv
 have h5 : dv g g' := hg'.least (h.l.trans h1) (h.r.trans h3)
 have h6 : dv g' g := h.least (hg'.l.trans h2) (hg'.r.trans h4)
 obtain ⟨d, hd, w, e2⟩ := h6
 refine ⟨h.l.trans h1, h.r.trans h3, c * d, Int.mul_ne_zero hc hd, w * u, w * v, by rw [← K_mul]; grind⟩
end ZX
theorem V_ne_big {H t : Int} (ht : H + 1 ≤ t) (hH : 0 ≤ H) : ∀ {x : List Int}, (∀ c ∈ x, -H ≤ c ∧ c ≤ H) → cutR x ≠ [] → V t x ≠ 0
 | [], _, h => absurd rfl h
 | a :: l, hb, h => by
  have ha := hb a (by simp)
  by_cases hl : cutR l = []
  ·have h1 : V t l = 0 := by rw [← V_cutR, hl]; rfl
   have h2 : a ≠ 0 := fun h0 => h (by rw [cutR, if_pos ⟨hl, h0⟩])
   simp only [V]
   rw [h1]
   intro h3
   apply h2
   have : t * 0 = 0 := Int.mul_zero t
   omega
  ·have ih := V_ne_big ht hH (x := l) (fun c hc => hb c (by simp [hc])) hl
   simp only [V]
   intro h3
   rcases Int.lt_or_gt_of_ne ih with h4 | h4
   ·have : t * V t l ≤ t * (-1) := Int.mul_le_mul_of_nonneg_left (by omega) (by omega)
    omega
   ·have : t * 1 ≤ t * V t l := Int.mul_le_mul_of_nonneg_left (by omega) (by omega)
    omega
theorem V_abs_le {H t : Nat} : ∀ {x : List Int}, (∀ c ∈ x, c.natAbs ≤ H) → (V (t : Int) x).natAbs ≤ H * (1 + t) ^ x.length
 | [], _ => by simp [V]
 | a :: l, h => by
  have h1 := V_abs_le (t := t) (x := l) fun c hc => h c (by simp [hc])
  have h2 := h a (by simp)
  simp only [V]
  have h3 : (a + (t : Int) * V t l).natAbs ≤ a.natAbs + t * (V (t : Int) l).natAbs := by
   have := Int.natAbs_add_le a ((t : Int) * V t l)
   rwa [Int.natAbs_mul, Int.natAbs_natCast] at this
  have h4 : t * (V (t : Int) l).natAbs ≤ t * (H * (1 + t) ^ l.length) := Nat.mul_le_mul_left _ h1
  have h5 : H * 1 ≤ H * (1 + t) ^ l.length := Nat.mul_le_mul_left _ (Nat.one_le_pow _ _ (by omega))
  rw [List.length_cons, Nat.pow_succ]
  have h6 : H * ((1 + t) ^ l.length * (1 + t)) = H * (1 + t) ^ l.length + t * (H * (1 + t) ^ l.length) := by grind
  omega
def sdv (s : Int) : List Int → List Int
 | [] => []
 | _ :: l => V s l :: sdv s l
theorem V_sdv (s t : Int) : ∀ x : List Int, V t x = V s x + (t - s) * V t (sdv s x)
 | [] => by simp [V, sdv]
 | a :: l => by
  have := V_sdv s t l
  simp only [V, sdv]
  have h2 : t * V t l = t * (V s l + (t - s) * V t (sdv s l)) := by rw [← this]
  grind
theorem sdv_last (s : Int) : ∀ x : List Int, x ≠ [] → ∃ y, sdv s x = y ++ [0] ∧ y.length = x.length - 1
 | [], h => absurd rfl h
 | [a], _ => ⟨[], by simp [sdv, V], rfl⟩
 | a :: b :: l, _ => by
  obtain ⟨y, h1, h2⟩ := sdv_last s (b :: l) (by simp)
  refine ⟨V s (b :: l) :: y, by rw [sdv, h1]; rfl, by simp at h2 ⊢; omega⟩
theorem mem_of_sdv {s : Nat} {M : Nat} : ∀ {x : List Int}, (V (s : Int) x).natAbs ≤ M → (∀ c ∈ sdv s x, c.natAbs ≤ M) → ∀ c ∈ x, c.natAbs ≤ M * (1 + s)
 | [], _, _, c, hc => by cases hc
 | a :: l, h0, h, c, hc => by
  have h1 : (V (s : Int) l).natAbs ≤ M := h _ (by simp [sdv])
  have h2 : ∀ c ∈ sdv s l, c.natAbs ≤ M := fun c hc => h c (by simp [sdv, hc])
  rcases List.mem_cons.1 hc with rfl | hc
  ·simp only [V] at h0
   have h3 : c.natAbs ≤ (c + (s : Int) * V s l).natAbs + s * (V (s : Int) l).natAbs := by
    have h4 : c = (c + (s : Int) * V s l) + (-((s : Int) * V s l)) := by omega
    have h5 := Int.natAbs_add_le (c + (s : Int) * V s l) (-((s : Int) * V s l))
    rw [← h4, Int.natAbs_neg, Int.natAbs_mul, Int.natAbs_natCast] at h5
    exact h5
   have h4 : s * (V (s : Int) l).natAbs ≤ s * M := Nat.mul_le_mul_left _ h1
   rw [Nat.mul_add, Nat.mul_one, Nat.mul_comm M s]; omega
  ·exact mem_of_sdv h1 h2 c hc
theorem coef_bd : ∀ (n s A : Nat) (x : List Int), x.length ≤ n → (∀ j : Nat, j < n → (V ((s + j : Nat) : Int) x).natAbs ≤ A) → ∀ c ∈ x, c.natAbs ≤ A * (2 * (s + n + 1)) ^ n
 | 0, s, A, x, hl, _, c, hc => by
  have : x = [] := List.eq_nil_of_length_eq_zero (by omega)
  rw [this] at hc; cases hc
 | n + 1, s, A, x, hl, hv, c, hc => by
  have hx : x ≠ [] := fun h => by rw [h] at hc; cases hc
  have h0 := hv 0 (by omega)
  obtain ⟨y, h1, h2⟩ := sdv_last s x hx
  have hy : ∀ t : Int, V t (sdv s x) = V t y := fun t => by rw [h1, V_append]; simp [V]
  have h3 : ∀ j : Nat, j < n → (V ((s + 1 + j : Nat) : Int) y).natAbs ≤ 2 * A := fun j hj => by
   have h4 := V_sdv s ((s + 1 + j : Nat) : Int) x
   rw [hy] at h4
   have h5 := hv (j + 1) (by omega)
   rw [show s + (j + 1) = s + 1 + j by omega] at h5
   have e : ((s + 1 + j : Nat) : Int) - (s : Int) = ((j + 1 : Nat) : Int) := by omega
   rw [e] at h4
   have h6 : (((j + 1 : Nat) : Int) * V ((s + 1 + j : Nat) : Int) y).natAbs ≤ 2 * A := by
    have : ((j + 1 : Nat) : Int) * V ((s + 1 + j : Nat) : Int) y = V ((s + 1 + j : Nat) : Int) x - V (s : Int) x := by omega
    rw [this]
    rw [Nat.add_zero] at h0
    omega
   rw [Int.natAbs_mul, Int.natAbs_natCast] at h6
   exact Nat.le_trans (Nat.le_mul_of_pos_left _ (by omega)) h6
  have h4 := coef_bd n (s + 1) (2 * A) y (by omega) h3
  have hP : 1 ≤ (2 * (s + 1 + n + 1)) ^ n := Nat.one_le_pow _ _ (by omega)
  rw [Nat.add_zero] at h0
  have h5 := mem_of_sdv (s := s) (M := 2 * A * (2 * (s + 1 + n + 1)) ^ n) (x := x) (by
   have : A * 1 ≤ 2 * A * (2 * (s + 1 + n + 1)) ^ n := Nat.mul_le_mul (by omega) hP
   omega) (fun d hd => by
   rw [h1] at hd
   rcases List.mem_append.1 hd with hd | hd
   ·exact h4 d hd
   ·simp at hd; subst hd; simp) c hc
  refine Nat.le_trans h5 ?_
  rw [Nat.pow_succ, show s + (n + 1) + 1 = s + 1 + n + 1 by omega]
  have h6 : A * ((2 * (s + 1 + n + 1)) ^ n * (2 * (s + 1 + n + 1))) = (2 * A * (2 * (s + 1 + n + 1)) ^ n) * (s + 1 + n + 1) := by grind
  rw [h6]
  exact Nat.mul_le_mul_left _ (by omega)
namespace ZX
theorem quo_bd {a w g : ZX} {h n : Nat} (ha : a ≠ 0) (e : a = w * g) (hb : Bd 2 h n a.l) (hn : n + 1 ≤ 2 ^ h) : Bd 2 (h + n * (2 * h + 5) + 1) n g.l := by
 have hw : w ≠ 0 ∧ g ≠ 0 := ⟨fun h0 => ha (by rw [e, h0]; grind), fun h0 => ha (by rw [e, h0]; grind)⟩
 have hlen : g.l.length ≤ n := by
  have h1 : N a = N w + N g - 1 := by rw [e, N_mul hw.1 hw.2]
  have h2 := ne_zero.1 hw.1
  have h3 : N a ≤ n := hb.len
  show N g ≤ n
  omega
 refine ⟨hlen, fun c hc => ?_⟩
 have hH : ∀ d ∈ a.l, d.natAbs ≤ 2 ^ h := fun d hd => by
  have h1 := sz_lt (b := 2) (by decide) d
  have h2 := pow_le' (b := 2) (by decide) (hb.sz d hd)
  omega
 have hv : ∀ j : Nat, j < n → (V ((2 ^ h + 1 + j : Nat) : Int) g.l).natAbs ≤ 2 ^ h * (2 ^ (h + 2)) ^ n := fun j hj => by
  have h1 : V ((2 ^ h + 1 + j : Nat) : Int) a.l = V ((2 ^ h + 1 + j : Nat) : Int) w.l * V ((2 ^ h + 1 + j : Nat) : Int) g.l := by
   conv => lhs; rw [e]
   rw [v_mul]
  have h2 : V ((2 ^ h + 1 + j : Nat) : Int) a.l ≠ 0 := V_ne_big (H := ((2 ^ h : Nat) : Int)) (by omega) (by omega) (fun d hd => by have := hH d hd; omega) (by
   rw [show cutR a.l = a.l from a.c]
   have := ne_zero.1 ha
   intro h0
   have h3 : N a = a.l.length := rfl
   rw [h3, h0] at this; simp at this)
  have h3 : (V ((2 ^ h + 1 + j : Nat) : Int) g.l).natAbs ≤ (V ((2 ^ h + 1 + j : Nat) : Int) a.l).natAbs := by
   rw [h1, Int.natAbs_mul]
   have : V ((2 ^ h + 1 + j : Nat) : Int) w.l ≠ 0 := fun h0 => h2 (by rw [h1, h0, Int.zero_mul])
   exact Nat.le_mul_of_pos_left _ (by omega)
  refine Nat.le_trans h3 (Nat.le_trans (V_abs_le hH) (Nat.mul_le_mul_left _ ?_))
  have h4 : 1 + (2 ^ h + 1 + j) ≤ 2 ^ (h + 2) := by rw [Nat.pow_add]; omega
  refine Nat.le_trans (Nat.pow_le_pow_left h4 _) (Nat.pow_le_pow_right (Nat.two_pow_pos _) hb.len)
 have h5 := coef_bd n (2 ^ h + 1) _ g.l hlen hv c hc
 have h6 : 2 ^ h * (2 ^ (h + 2)) ^ n * (2 * (2 ^ h + 1 + n + 1)) ^ n < 2 ^ (h + n * (2 * h + 5) + 1) := by
  have h7 : 2 * (2 ^ h + 1 + n + 1) ≤ 2 ^ (h + 3) := by rw [Nat.pow_add]; omega
  have h8 : (2 * (2 ^ h + 1 + n + 1)) ^ n ≤ (2 ^ (h + 3)) ^ n := Nat.pow_le_pow_left h7 _
  have h9 : 2 ^ h * (2 ^ (h + 2)) ^ n * (2 ^ (h + 3)) ^ n = 2 ^ (h + (h + 2) * n + (h + 3) * n) := by rw [← Nat.pow_mul, ← Nat.pow_mul, ← Nat.pow_add, ← Nat.pow_add]
  refine Nat.lt_of_le_of_lt (Nat.mul_le_mul_left _ h8) ?_
  rw [h9]
  refine Nat.pow_lt_pow_right (by decide) ?_
  have : (h + 2) * n + (h + 3) * n = n * (2 * h + 5) := by grind
  omega
 exact sz_le (by decide) (Nat.lt_of_le_of_lt h5 h6)
end ZX
end Pm
