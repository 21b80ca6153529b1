import Derived.Test.YtbbjgncblhfegaaGreatAan
import Derived.Test.YtbbjgncblhfegaaGreatAap
import Derived.Test.YtbbjgncblhfegaaGreatAaq
set_option linter.unusedSimpArgs false
set_option linter.unusedVariables false
namespace Pm
namespace ZX
theorem AV : ∀ l : List Int, ∃ s : Nat, ∀ c ∈ l, c.natAbs ≤ 2 ^ s
 | [] => ⟨0, fun c hc => by cases hc⟩
 | a :: l => by
  obtain ⟨s, h⟩ := AV l
  refine ⟨s + a.natAbs, fun c hc => ?_⟩
  rcases List.mem_cons.1 hc with rfl | hc
  ·have h1 : c.natAbs < 2 ^ c.natAbs := Nat.lt_two_pow_self
   exact Nat.le_trans (Nat.le_of_lt h1) (Nat.pow_le_pow_right (by decide) (by omega))
  ·exact Nat.le_trans (h c hc) (Nat.pow_le_pow_right (by decide) (by omega))
theorem KS (B : Rat) : ∃ β : Nat, B ≤ 2 ^ β := by
 have h1 := Rat.lt_floor_add_one B
 refine ⟨(B.floor + 1).toNat, Rat.le_trans (Rat.le_of_lt h1) ?_⟩
 have h2 : ((2 ^ (B.floor + 1).toNat : Int) : Rat) = 2 ^ (B.floor + 1).toNat := by rw [Rat.intCast_pow]; rfl
 rw [← h2]
 refine Rat.intCast_le_intCast.2 ?_
 have h3 : (B.floor + 1).toNat < 2 ^ (B.floor + 1).toNat := Nat.lt_two_pow_self
 have h4 : ((2 ^ (B.floor + 1).toNat : Nat) : Int) = 2 ^ (B.floor + 1).toNat := by rw [Int.natCast_pow]; rfl
 omega
theorem vM (k : Nat) : ∃ δ : Rat, 0 < δ ∧ δ * 2 ^ k = 1 := by
 have h := gU k
 have h1 : (1 / 2 ^ k) * (2 : Rat) ^ k = 1 := Rat.div_mul_cancel (Rat.ne_of_gt h)
 exact ⟨1 / 2 ^ k, (Rat.lt_div_iff h).2 (by grind), h1⟩
theorem min2 {a b : Rat} (ha : 0 < a) (hb : 0 < b) : ∃ c : Rat, 0 < c ∧ c ≤ a ∧ c ≤ b := by
 by_cases h : a ≤ b
 ·exact ⟨a, ha, Rat.le_refl, h⟩
 ·exact ⟨b, hb, by grind, Rat.le_refl⟩
theorem ag7 {P : Rat → Rat → Prop} (ht : ∀ a b c, a < b → b < c → P a b → P b c → P a c) (hs : ∀ B : Rat, 1 ≤ B → ∃ δ : Rat, 0 < δ ∧ ∀ a b, Ab a B → Ab b B → a < b → b - a ≤ δ → P a b) {a b : Rat} (gE : a < b) : P a b := by
 obtain ⟨B, hB, ha, hb⟩ := sO a b
 obtain ⟨δ, hδ, h⟩ := hs B hB
 exact aj3 hδ ht h ha hb gE
theorem lip (p : ZX) (B : Rat) (hB : 1 ≤ B) : ∃ Q : Rat, 0 < Q ∧ ∀ a b, Ab a B → Ab b B → a ≤ b → Ab (e b p - e a p) ((b - a) * Q) := by
 obtain ⟨S, hS, hc⟩ := F9 p.l
 obtain ⟨h3, _⟩ := oD hS hB p.l.length
 refine ⟨B6 S B p.l.length + 1, by grind, fun a b ha hb gE => ?_⟩
 have h1 := (DV hS hB ha hb p.l hc).mono (show B6 S B p.l.length ≤ B6 S B p.l.length + 1 by grind)
 have h2 := lN a b p.l
 have h4 : e b p - e a p = qv b p.l - qv a p.l := rfl
 rw [h4, h2]
 exact Ab.mul ⟨by grind, Rat.le_refl⟩ h1
def D3 (a b : ZX) : Prop := ∀ d, dv d a → dv d b → N d ≤ 1
theorem D3.mono {a b c d : ZX} (h : D3 a b) (h1 : dv c a) (h2 : dv d b) : D3 c d := fun x h3 h4 => h x (h3.trans h1) (h4.trans h2)
theorem au0 {a b : ZX} (ha : a ≠ 0) (hb : b ≠ 0) (hc : D3 a b) (B : Rat) : ∃ ε : Rat, 0 < ε ∧ ∀ t, Ab t B → kO ε (e t a) ∨ kO ε (e t b) := by
 obtain ⟨s1, h1⟩ := AV a.l
 obtain ⟨s2, h2⟩ := AV b.l
 obtain ⟨β, hβ⟩ := KS B
 obtain ⟨ε, h3, h4⟩ := vM (sk (s1 + s2) (N a + N b) (N a + N b) β)
 exact ⟨ε, h3, fun t ht => sep (s := s1 + s2) (l := N a + N b) (β := β) ha hb (fun c hc => Nat.le_trans (h1 c hc) (Nat.pow_le_pow_right (by decide) (by omega))) (fun c hc => Nat.le_trans (h2 c hc) (Nat.pow_le_pow_right (by decide) (by omega))) (Nat.le_refl _) (Nat.le_of_lt Nat.lt_two_pow_self) hc (ht.mono hβ) (by rw [h4]; exact Rat.le_refl)⟩
structure w8 (f : ZX) (v : Rat → Nat) : Prop where
 ne : f ≠ 0
 cop : D3 f (bK f)
 g : ∃ L, xI L f ∧ v = vt L
structure au1 (f : ZX) (v : Rat → Nat) (B δ : Rat) : Prop where
 turns : ∀ s t, Ab s B → Ab t B → s < t → t - s ≤ δ → v s = v t + ind f s t
 simple : ∀ s t, Ab s B → Ab t B → s < t → t - s ≤ δ → e s f = 0 → e t f ≠ 0
 par : ∀ s t, Ab s B → Ab t B → s < t → t - s ≤ δ → OW f t = (if ind f s t = 0 then 1 else -1) * OW f s
def sg1 (n : Nat) : Int := if n % 2 = 0 then 1 else -1
theorem aeP (a b : Nat) : sg1 (a + b) = sg1 a * sg1 b := by
 unfold sg1
 split <;> split <;> split <;> omega
theorem OX (f : ZX) (s t : Rat) : ind f s t = 0 ∨ ind f s t = 1 := by unfold ind; split <;> simp
namespace w8
variable {f : ZX} {v : Rat → Nat} (S : w8 f v)
include S
theorem rB (B : Rat) : ∃ δ : Rat, 0 < δ ∧ au1 f v B δ := by
 obtain ⟨L, G, rfl⟩ := S.g
 obtain ⟨s, h1⟩ := AV f.l
 obtain ⟨β, hβ⟩ := KS B
 obtain ⟨δ, h3, h4⟩ := vM (lk s (N f) (N f) β)
 obtain ⟨h5, h6⟩ := vL G S.ne h1 (Nat.le_refl _) (Nat.le_of_lt Nat.lt_two_pow_self) S.cop (δ := δ) (by rw [h4]; exact Rat.le_refl)
 exact ⟨δ, h3, fun s t hs ht => h5.turns s t (hs.mono hβ) (ht.mono hβ), fun s t hs ht => h5.simple s t (hs.mono hβ) (ht.mono hβ), fun s t hs ht => h6.par s t (hs.mono hβ) (ht.mono hβ)⟩
theorem dP {a b : Rat} (gE : a ≤ b) : v b ≤ v a := by
 obtain ⟨L, G, rfl⟩ := S.g
 exact G.dP gE
theorem const {a b : Rat} (gE : a < b) {σ : Int} (h0 : e a f = 0 ∨ bT (e a f) = σ) (h1 : ∀ x, a < x → x ≤ b → bT (e x f) = σ) : v a = v b := by
 obtain ⟨L, G, rfl⟩ := S.g
 exact G.const gE h0 h1
theorem root {s t : Rat} (lR : s < t) (h0 : e t f = 0) : v t < v s := by
 obtain ⟨L, G, rfl⟩ := S.g
 exact G.root lR h0
theorem par {s t : Rat} (h : s ≤ t) : OW f t = sg1 (v s - v t) * OW f s := by
 rcases Rat.le_iff_lt_or_eq.1 h with h1 | rfl
 ·refine ag7 (P := fun a b => OW f b = sg1 (v a - v b) * OW f a) (fun a b c h1 h2 p1 p2 => ?_) (fun B hB => ?_) h1
  ·have := S.dP (Rat.le_of_lt h1)
   have := S.dP (Rat.le_of_lt h2)
   rw [p2, p1, show v a - v c = (v a - v b) + (v b - v c) by omega, aeP]; grind
  ·obtain ⟨δ, hδ, hN⟩ := S.rB B
   refine ⟨δ, hδ, fun a b ha hb gE hd => ?_⟩
   have h1 := hN.turns a b ha hb gE hd
   have h2 := hN.par a b ha hb gE hd
   rw [h2, show v a - v b = ind f a b by omega]
   rcases OX f a b with h3 | h3 <;> rw [h3] <;> rfl
 ·rw [Nat.sub_self]; show _ = 1 * _; omega
end w8
theorem R7 {f : ZX} {t : Rat} (h : e t f ≠ 0) : ∃ r : Rat, 0 < r ∧ ∀ x, t - r ≤ x → x ≤ t + r → bT (e x f) = bT (e t f) := by
 obtain ⟨B, hB, ha, hb⟩ := sO (t - 1) (t + 1)
 obtain ⟨Q, hQ, hl⟩ := lip f B hB
 have hε : ∃ ε : Rat, 0 < ε ∧ kO ε (e t f) := by
  by_cases h0 : 0 ≤ e t f
  ·exact ⟨e t f, by grind, .inr Rat.le_refl⟩
  ·exact ⟨-e t f, by grind, .inl (by grind)⟩
 obtain ⟨ε, hε, OB⟩ := hε
 have h1 : ε / (2 * Q) * (2 * Q) = ε := Rat.div_mul_cancel (by grind)
 have h2 : 0 < ε / (2 * Q) := (Rat.lt_div_iff (by grind)).2 (by grind)
 generalize ε / (2 * Q) = η at *
 obtain ⟨r, hr, BW, cI⟩ := min2 (show (0 : Rat) < 1 by decide) h2
 refine ⟨r, hr, fun x hx hy => ?_⟩
 have CJ : Ab x B := eO ha hb (by grind) (by grind)
 have ht' : Ab t B := eO ha hb (by grind) (by grind)
 have hrQ : r * Q ≤ η * Q := Rat.mul_le_mul_of_nonneg_right cI (Rat.le_of_lt hQ)
 refine (eC OB hε fun hn => ?_).1
 by_cases hxt : t ≤ x
 ·have h3 := hl t x ht' CJ hxt
  have h4 : (x - t) * Q ≤ r * Q := Rat.mul_le_mul_of_nonneg_right (by grind) (Rat.le_of_lt hQ)
  obtain ⟨p1, p2⟩ := h3
  rcases hn with hn | hn <;> grind
 ·have h3 := hl x t CJ ht' (by grind)
  have h4 : (t - x) * Q ≤ r * Q := Rat.mul_le_mul_of_nonneg_right (by grind) (Rat.le_of_lt hQ)
  obtain ⟨p1, p2⟩ := h3
  rcases hn with hn | hn <;> grind
namespace w8
variable {f : ZX} {v : Rat → Nat} (S : w8 f v)
include S
theorem lft {t : Rat} (h : e t f ≠ 0) {a : Rat} (hat : a < t) : ∃ s, a ≤ s ∧ s < t ∧ v s = v t ∧ bT (e s f) = bT (e t f) := by
 obtain ⟨B, hB, ha, hb⟩ := sO a t
 obtain ⟨δ, hδ, hN⟩ := S.rB B
 obtain ⟨r1, BW, hc⟩ := R7 h
 obtain ⟨r2, cI, h1, h2⟩ := min2 hδ (show 0 < t - a by grind)
 obtain ⟨r, hr, h3, h4⟩ := min2 BW cI
 have hs : Ab (t - r) B := eO ha hb (by grind) (by grind)
 have g1 := hN.turns (t - r) t hs hb (by grind) (by grind)
 have g5 := hc (t - r) (by grind) (by grind)
 have g4 : ind f (t - r) t = 0 := if_neg fun hh => hh.2 g5.symm
 exact ⟨t - r, by grind, by grind, by omega, g5⟩
theorem small {s t Q : Rat} (lR : s < t) (hv : v s ≠ v t) (hQ : 0 < Q) (hl : ∀ a b, s ≤ a → a ≤ b → b ≤ t → Ab (e b f - e a f) ((b - a) * Q)) {x : Rat} (hx : s ≤ x) (hy : x ≤ t) : Ab (e x f) ((t - s) * Q) := by
 refine Classical.byContradiction fun hn => hv ?_
 have key : ∀ y, s ≤ y → y ≤ t → bT (e y f) = bT (e x f) := fun y h1 h2 => by
  have h3 : Ab (e y f - e x f) ((t - s) * Q) := by
   by_cases uQ : x ≤ y
   ·exact (hl x y hx uQ h2).mono (Rat.mul_le_mul_of_nonneg_right (by grind) (Rat.le_of_lt hQ))
   ·have h4 := (hl y x h1 (by grind) hy).mono (Rat.mul_le_mul_of_nonneg_right (show x - y ≤ t - s by grind) (Rat.le_of_lt hQ))
    obtain ⟨p1, p2⟩ := h4
    exact ⟨by grind, by grind⟩
  obtain ⟨p1, p2⟩ := h3
  have h0 : 0 ≤ (t - s) * Q := Rat.mul_nonneg (by grind) (Rat.le_of_lt hQ)
  generalize (t - s) * Q = M at *
  rcases cB (e x f) with ⟨h5, h6⟩ | ⟨h5, h6⟩ | ⟨h5, h6⟩
  ·rw [h6]
   refine fR ?_
   have : e x f < -M := Rat.not_le.1 fun h => hn ⟨h, by grind⟩
   grind
  ·exact absurd ⟨by grind, by grind⟩ hn
  ·rw [h6]
   refine dJ ?_
   have : M < e x f := Rat.not_le.1 fun h => hn ⟨by grind, h⟩
   grind
 exact S.const lR (σ := bT (e x f)) (.inr (key s Rat.le_refl (Rat.le_of_lt lR))) fun y h1 h2 => key y (Rat.le_of_lt h1) h2
end w8
theorem D4 {p q : Prop} [Decidable p] [Decidable q] (h : p ↔ q) : (if p then 1 else 0 : Nat) = if q then 1 else 0 := by
 by_cases hp : p
 ·rw [if_pos hp, if_pos (h.1 hp)]
 ·rw [if_neg hp, if_neg (fun hq => hp (h.2 hq))]
theorem D5 {c x y z : Rat} (hc : c ≠ 0) (h : c * x = y * z) : bT x = bT c * (bT y * bT z) := by
 have h1 : bT c * bT x = bT y * bT z := by rw [← mH, ← mH, h]
 rw [← h1]
 rcases cB c with ⟨h2, h3⟩ | ⟨h2, h3⟩ | ⟨h2, h3⟩
 ·rw [h3]; omega
 ·exact absurd h2 hc
 ·rw [h3]; omega
theorem w8.mul {f g h : ZX} {v w u : Rat → Nat} (Sf : w8 f v) (Sg : w8 g w) (Sh : w8 h u) {c : Int} (hc : c ≠ 0) (he : K c * f = g * h) (au2 : D3 g h) {s t : Rat} (lR : s ≤ t) : v s + w t + u t = v t + w s + u s := by
 rcases Rat.le_iff_lt_or_eq.1 lR with h1 | rfl
 ·refine ag7 (P := fun s t => v s + w t + u t = v t + w s + u s) (fun a b c h1 h2 p1 p2 => by omega) (fun B hB => ?_) h1
  obtain ⟨δ1, hδ1, N1⟩ := Sf.rB B
  obtain ⟨δ2, hδ2, N2⟩ := Sg.rB B
  obtain ⟨δ3, hδ3, N3⟩ := Sh.rB B
  obtain ⟨ε, hε, au6⟩ := au0 Sg.ne Sh.ne au2 B
  obtain ⟨Q1, hQ1, l1⟩ := lip g B hB
  obtain ⟨Q2, hQ2, l2⟩ := lip h B hB
  have hQ : 0 < Q1 + Q2 := by grind
  have e1 : ε / (2 * (Q1 + Q2)) * (2 * (Q1 + Q2)) = ε := Rat.div_mul_cancel (by grind)
  have e2 : 0 < ε / (2 * (Q1 + Q2)) := (Rat.lt_div_iff (by grind)).2 (by grind)
  generalize ε / (2 * (Q1 + Q2)) = δ4 at *
  obtain ⟨m1, G1, a1, a2⟩ := min2 hδ1 hδ2
  obtain ⟨m2, hm2, a3, a4⟩ := min2 hδ3 e2
  obtain ⟨δ, hδ, a5, a6⟩ := min2 G1 hm2
  refine ⟨δ, hδ, fun s t hs ht eZ hd => ?_⟩
  have t1 := N1.turns s t hs ht eZ (by grind)
  have t2 := N2.turns s t hs ht eZ (by grind)
  have t3 := N3.turns s t hs ht eZ (by grind)
  have hcq : (c : Rat) ≠ 0 := fun h0 => hc (Rat.intCast_eq_zero_iff.1 h0)
  have sgm : ∀ x, bT (e x f) = bT (c : Rat) * (bT (e x g) * bT (e x h)) := fun x => by
   refine D5 hcq ?_
   rw [← jO, ← he, jO, LF]
  have dl : ∀ Q, 0 < Q → Q ≤ Q1 + Q2 → (t - s) * Q < ε := fun Q h0 h1 => by
   have h2 : (t - s) * Q ≤ δ4 * (Q1 + Q2) := by
    have h3 := Rat.mul_le_mul_of_nonneg_right (show t - s ≤ δ4 by grind) (Rat.le_of_lt h0)
    have h4 := Rat.mul_le_mul_of_nonneg_left h1 (Rat.le_of_lt e2)
    grind
   have h5 : δ4 * (Q1 + Q2) * 2 = ε := by rw [← e1]; grind
   grind
  have sc := cB (c : Rat)
  have GY : bT (c : Rat) = 1 ∨ bT (c : Rat) = -1 := by
   rcases sc with ⟨_, h⟩ | ⟨h, _⟩ | ⟨_, h⟩
   ·exact .inr h
   ·exact absurd h hcq
   ·exact .inl h
  have ez : ∀ (p : ZX) x, (e x p ≠ 0) = (bT (e x p) ≠ 0) := fun p x => propext ⟨fun h h0 => h (dH.1 h0), fun h h0 => h (by rw [h0]; exact jH)⟩
  rcases au6 s hs with hb | hb
  ·have hs2 := eC (y := e t g) hb hε fun hn => by
    obtain ⟨p1, p2⟩ := l1 s t hs ht (Rat.le_of_lt eZ)
    have := dl Q1 hQ1 (by grind)
    rcases hn with hn | hn <;> grind
   have i1 : ind g s t = 0 := if_neg fun hh => hh.2 hs2.1
   have i2 : ind f s t = ind h s t := by
    refine D4 ?_
    rw [ez f s, ez h s, sgm s, sgm t, hs2.1]
    have := mG (e s g)
    have h7 : bT (c : Rat) * bT (e s g) = 1 ∨ bT (c : Rat) * bT (e s g) = -1 := by
     rcases GY with h | h <;> rw [h] <;> omega
    rw [← Int.mul_assoc, ← Int.mul_assoc]
    rcases h7 with h | h <;> rw [h]
    ·simp only [Int.one_mul]
    ·simp only [Int.neg_mul, Int.one_mul, ne_eq, Int.neg_eq_zero, Int.neg_inj]
   omega
  ·have hs2 := eC (y := e t h) hb hε fun hn => by
    obtain ⟨p1, p2⟩ := l2 s t hs ht (Rat.le_of_lt eZ)
    have := dl Q2 hQ2 (by grind)
    rcases hn with hn | hn <;> grind
   have i1 : ind h s t = 0 := if_neg fun hh => hh.2 hs2.1
   have i2 : ind f s t = ind g s t := by
    refine D4 ?_
    rw [ez f s, ez g s, sgm s, sgm t, hs2.1]
    have := mG (e s h)
    have h7 : bT (c : Rat) * bT (e s h) = 1 ∨ bT (c : Rat) * bT (e s h) = -1 := by
     rcases GY with h | h <;> rw [h] <;> omega
    have cm : ∀ y : Int, bT (c : Rat) * (y * bT (e s h)) = bT (c : Rat) * bT (e s h) * y := fun y => by grind
    rw [cm, cm]
    rcases h7 with h | h <;> rw [h]
    ·simp only [Int.one_mul]
    ·simp only [Int.neg_mul, Int.one_mul, ne_eq, Int.neg_eq_zero, Int.neg_inj]
   omega
 ·omega
structure oY (f : ZX) (v : Rat → Nat) (lo hi : Rat) : Prop where
 S : w8 f v
 k : (lo = hi ∧ e lo f = 0) ∨ (lo < hi ∧ v lo = v hi + 1)
def gK (v : Rat → Nat) (lo hi t : Rat) : Prop := hi ≤ t ∨ (lo < t ∧ v t < v lo)
noncomputable def cr (U : Rat → Prop) (t : Rat) : Int := open Classical in if U t then (if ∃ s, s < t ∧ U s then -1 else 0) else 1
theorem oG {U : Rat → Prop} {t : Rat} : cr U t = 1 ↔ ¬ U t := by
 unfold cr
 split
 ·rename_i h
  split <;> simp [h]
 ·rename_i h
  simp [h]
theorem AW {U : Rat → Prop} (hU : ∀ s t, U s → s ≤ t → U t) {t : Rat} : cr U t = -1 ↔ ∃ s, s < t ∧ U s := by
 unfold cr
 split
 ·split
  ·rename_i h; simp [h]
  ·rename_i h; simp [h]
 ·rename_i h
  refine ⟨fun h1 => absurd h1 (by decide), fun ⟨s, h1, h2⟩ => absurd (hU s t h2 (Rat.le_of_lt h1)) h⟩
theorem x9 {U : Rat → Prop} {t : Rat} : cr U t = 0 ↔ U t ∧ ∀ s, s < t → ¬ U s := by
 unfold cr
 split
 ·rename_i h
  split
  ·rename_i h2
   refine ⟨fun h1 => absurd h1 (by decide), fun ⟨_, h3⟩ => ?_⟩
   obtain ⟨s, h4, h5⟩ := h2
   exact absurd h5 (h3 s h4)
  ·rename_i h2
   exact ⟨fun _ => ⟨h, fun s h3 h4 => h2 ⟨s, h3, h4⟩⟩, fun _ => rfl⟩
 ·rename_i h
  exact ⟨fun h1 => absurd h1 (by decide), fun h1 => absurd h1.1 h⟩
noncomputable def cu (U V : Rat → Prop) : Int := open Classical in if ∃ t, U t ∧ ¬ V t then -1 else if ∃ t, V t ∧ ¬ U t then 1 else 0
theorem aeQ (U : Rat → Prop) : cu U U = 0 := by
 unfold cu
 rw [if_neg (fun ⟨t, h1, h2⟩ => h2 h1), if_neg (fun ⟨t, h1, h2⟩ => h2 h1)]
theorem aeR {U V : Rat → Prop} : cu U V = 0 ↔ ∀ t, U t ↔ V t := by
 unfold cu
 split
 ·rename_i h
  refine ⟨fun h1 => absurd h1 (by decide), fun h1 => ?_⟩
  obtain ⟨t, h2, h3⟩ := h
  exact absurd ((h1 t).1 h2) h3
 ·rename_i h
  split
  ·rename_i h'
   refine ⟨fun h1 => absurd h1 (by decide), fun h1 => ?_⟩
   obtain ⟨t, h2, h3⟩ := h'
   exact absurd ((h1 t).2 h2) h3
  ·rename_i h'
   exact ⟨fun _ t => ⟨fun h1 => Classical.byContradiction fun h2 => h ⟨t, h1, h2⟩, fun h1 => Classical.byContradiction fun h2 => h' ⟨t, h1, h2⟩⟩, fun _ => rfl⟩
theorem kW {v : Rat → Nat} {lo hi : Rat} : gK v lo hi hi := .inl Rat.le_refl
namespace oY
variable {f : ZX} {v : Rat → Nat} {lo hi : Rat} (A : oY f v lo hi)
include A
theorem le : lo ≤ hi := by
 rcases A.k with ⟨h, _⟩ | ⟨h, _⟩
 ·rw [h]; exact Rat.le_refl
 ·exact Rat.le_of_lt h
theorem up {s t : Rat} (h : gK v lo hi s) (lR : s ≤ t) : gK v lo hi t := by
 rcases h with h | ⟨h1, h2⟩
 ·exact .inl (by grind)
 ·have := A.S.dP lR
  exact .inr ⟨by grind, by omega⟩
theorem oH {t : Rat} (h : t < lo ∨ (t = lo ∧ lo < hi)) : ¬ gK v lo hi t := by
 have := A.le
 rintro (h1 | ⟨h1, _⟩) <;> grind
theorem au7 (t : Rat) : cr (gK v lo hi) t = if lo = hi then (if lo < t then -1 else if t < lo then 1 else 0) else if t ≤ lo then 1 else if hi < t then -1 else if v lo = v t then 1 else if e t f = 0 then 0 else -1 := by
 have hup := fun s t (h : gK v lo hi s) (h' : s ≤ t) => A.up h h'
 have hle := A.le
 split
 ·rename_i h
  subst h
  have hU : ∀ t, gK v lo lo t ↔ lo ≤ t := fun t => ⟨fun h => by rcases h with h | h <;> grind, fun h => .inl h⟩
  split
  ·exact (AW hup).2 ⟨lo, by assumption, .inl Rat.le_refl⟩
  ·split
   ·exact oG.2 (fun h => by have := (hU t).1 h; grind)
   ·exact x9.2 ⟨.inl (by grind), fun s h1 h2 => by have := (hU s).1 h2; grind⟩
 ·rename_i qG
  have eZ : lo < hi := by grind
  have hk : v lo = v hi + 1 := by
   rcases A.k with ⟨h, _⟩ | ⟨_, h⟩
   ·exact absurd h qG
   ·exact h
  split
  ·rename_i h
   exact oG.2 (A.oH (by grind))
  ·rename_i h1
   split
   ·rename_i h2
    exact (AW hup).2 ⟨hi, h2, kW⟩
   ·rename_i h2
    have b1 := A.S.dP (show lo ≤ t by grind)
    have b2 := A.S.dP (show t ≤ hi by grind)
    split
    ·rename_i h3
     refine oG.2 ?_
     rintro (h4 | ⟨_, h4⟩)
     ·have : t = hi := by grind
      subst this; omega
     ·omega
    ·rename_i h3
     split
     ·rename_i h4
      refine x9.2 ⟨.inr ⟨by grind, by omega⟩, fun s h5 h6 => ?_⟩
      have h7 := A.S.root h5 h4
      rcases h6 with h6 | ⟨h6, h8⟩
      ·grind
      ·omega
     ·rename_i h4
      obtain ⟨s, h5, h6, h7, _⟩ := A.S.lft h4 (show lo < t by grind)
      refine (AW hup).2 ⟨s, h6, .inr ⟨?_, by omega⟩⟩
      rcases Rat.le_iff_lt_or_eq.1 h5 with h8 | rfl
      ·exact h8
      ·omega
theorem half {m : Rat} (h1 : lo < m) (h2 : m < hi) : (v m < v lo → oY f v lo m ∧ ∀ t, gK v lo m t ↔ gK v lo hi t) ∧ (¬ v m < v lo → oY f v m hi ∧ ∀ t, gK v m hi t ↔ gK v lo hi t) := by
 have hk : v lo = v hi + 1 := by
  rcases A.k with ⟨h, _⟩ | ⟨_, h⟩
  ·grind
  ·exact h
 have b1 := A.S.dP (Rat.le_of_lt h1)
 have b2 := A.S.dP (Rat.le_of_lt h2)
 refine ⟨fun h => ⟨⟨A.S, .inr ⟨h1, by omega⟩⟩, fun t => ⟨?_, ?_⟩⟩, fun h => ⟨⟨A.S, .inr ⟨h2, by omega⟩⟩, fun t => ⟨?_, ?_⟩⟩⟩
 ·rintro (h3 | h3)
  ·have := A.S.dP h3
   exact .inr ⟨by grind, by omega⟩
  ·exact .inr h3
 ·rintro (h3 | h3)
  ·exact .inl (by grind)
  ·exact .inr h3
 ·rintro (h3 | ⟨h3, h4⟩)
  ·exact .inl h3
  ·exact .inr ⟨by grind, by omega⟩
 ·rintro (h3 | ⟨h3, h4⟩)
  ·exact .inl h3
  ·refine .inr ⟨?_, by omega⟩
   refine Rat.not_le.1 fun h5 => ?_
   have := A.S.dP h5
   omega
theorem exact (h : e hi f = 0) : oY f v hi hi ∧ ∀ t, gK v hi hi t ↔ gK v lo hi t := by
 refine ⟨⟨A.S, .inl ⟨rfl, h⟩⟩, fun t => ⟨?_, ?_⟩⟩
 ·rintro (h3 | ⟨h3, _⟩)
  ·exact .inl h3
  ·exact .inl (by grind)
 ·rintro (h3 | ⟨h3, h4⟩)
  ·exact .inl h3
  ·refine .inl (Rat.not_lt.1 fun h5 => ?_)
   have h6 := A.S.root h5 h
   rcases A.k with ⟨h7, _⟩ | ⟨_, h7⟩
   ·grind
   ·omega
end oY
end ZX
end Pm
namespace Pm
open Go Go.RowKit
section
variable {E : Env} {m : Nat} {G : Gs} {w0 : World} {S0 : c9}
def mx3 (p q r : PV) (K : PV → Prop) : Prop := ∃ k a b c, p = .int k a ∧ q = .int k b ∧ r = .int k c ∧ K (.int k (max (max a b) c))
@[simp] theorem arS {k : IntKind} {a b c : Int} {K : PV → Prop} : mx3 (.int k a) (.int k b) (.int k c) K = K (.int k (max (max a b) c)) := by
 apply propext
 constructor
 ·rintro ⟨k', a', b', c', h1, h2, h3, h⟩
  cases h1; cases h2; cases h3; exact h
 ·exact fun h => ⟨k, a, b, c, rfl, rfl, rfl, h⟩
def ap0 (o : Oper) (K : PS → Prop) (σ : PS) : Prop :=
 match o.op with
 | .call { callee := .builtin .max, args := ⟨[x, y, z]⟩, argTypes := _ } => mx3 (aR σ.f x) (aR σ.f y) (aR σ.f z) fun v => K (σ.put o.dst v)
 | _ => False
end
@[simp] theorem ap1 {K : PS → Prop} {f : Nat → PV} {rows : Rows} {clk : Nat} {d : Option Tmp} {ty : TypeId} {pos : String} {af : Array Edge} {ts : Array TypeId} {x y z : Operand} :
  ap0 ⟨d, .call { callee := .builtin .max, args := ⟨[x, y, z]⟩, argTypes := ts }, ty, pos, af, none⟩ K ⟨f, rows, clk⟩ = mx3 (aR f x) (aR f y) (aR f z) fun v => K ⟨put f d v, rows, clk⟩ := rfl
section
variable {E : Env} {w0 : World} {S0 : c9} {n : Nat} {G : Gs}
theorem CA {id tl : Nat} {ops : Array Oper} {T : PS → Prop} {Q : Exit → Act → World → Prop} (fL : pF E n tl ops true = true) (htl : tl ≠ 0) {σ : PS} {a : Act} {w : World}
  (h : aN E ops.toList σ.clock 0 (ops.toList.take (ops.size - tl)) T ⟨σ.f, σ.rows, fun _ _ => False, fun _ _ => False⟩) (hR : Rel w0 S0 n G σ a w)
  (hT : ∀ σ' a' w', T σ' → Rel w0 S0 n G σ' a' w' → wpList E.P ops Q (ops.toList.drop (ops.size - tl)) a' w') : (Code.region id ops true).wp E.P Q a w := by
 simp only [pF, Bool.and_eq_true, Bool.not_true, Bool.false_or] at fL
 obtain ⟨ahG, rO, fL⟩ := fL
 have hd : ∀ o, o ∈ ops → ∀ t, o.dst = some t → t < n := by
  intro o ho t ht
  have := Array.all_eq_true_iff_forall_mem.1 ahG o ho
  simpa [ht] using this
 refine wp_region_any E.mixed ?_
 have HN := hR.drew
 have hU0 : ∀ k (l : Array Bool), nP w0 S0 n G (Ul E ops σ.clock k l) σ.f σ.rows a { w with drawn := w.drawn + 1 } := fun k l => HN.mono fun v hv => .inl hv
 have acF : ∀ (l : List Oper), r5 E l = true → ∀ (i : Nat) (oi : Oper), l[i]? = some oi → cT E oi.op = true → oi.dst.isSome = true := fun l h i oi hi hn => by
  have := List.all_eq_true.1 h oi (List.mem_of_getElem? hi)
  rw [hn] at this; simp at this; exact Option.isSome_iff_exists.2 (by obtain ⟨x, hx⟩ := Option.isSome_iff_exists.1 this.1; exact ⟨x, hx⟩)
 rw [if_neg htl] at fL rO
 have nO : ∀ i oi, i < ops.size - tl → ops[i]? = some oi → cT E oi.op = true → oi.dst.isSome = true := fun i oi h1 hi => acF _ rO i oi (by rw [List.getElem?_take, if_pos h1]; simpa using hi)
 simp only [Bool.and_eq_true, decide_eq_true_eq] at fL
 obtain ⟨hle, hB⟩ := fL
 simp only [Region.lexTailB, Bool.and_eq_true, decide_eq_true_eq] at hB
 obtain ⟨⟨⟨⟨asz, uP⟩, hs⟩, hc⟩, ahH⟩ := hB
 have hl := m6 (c0 := σ.clock) (ops.toList.take (ops.size - tl)) 0 _ _ (fun j hj => by
  have hj' : j < ops.size - tl := by simpa using hj
  simp [hj']) rO (by simp [rk]) h
 have W3 : HeadInv .any ops (ops.size - tl) (Array.replicate ops.size false) :=
  ⟨by simp, fun j oj _ hl => (by rw [getD_replicate_false] at hl; cases hl), fun t _ ht => getD_in (by simpa using ht) (getD_replicate_false _ _)⟩
 have uR : (ops.toList.take (ops.size - tl)).length = ops.size - tl := by simp
 have W4 : (ops.toList.drop (ops.size - tl)).length = ops.size - (ops.size - tl) := by simp
 have H := qH (E := E) (md := .any) (n := ops.size - tl) (g := ops.size - (ops.size - tl)) nO (fun aY inv i hi K9 t ht => tail_waits hs hc uP inv _ i rfl hi K9 t ht) (ops.toList.take (ops.size - tl)) 0 _ _ (fun j hj => by
  rw [uR] at hj
  simp [hj]) (by rw [uR]; simp) W3 (by rw [uR]; exact ahH) hl
 have := j4 (E := E) (md := .any) (g := ops.size - (ops.size - tl)) (Q := Q) (m := n) hd (fun aY st a' w' hL j9 => by
  obtain ⟨h1, h2⟩ := hL
  have h3 := hT _ a' w' h2 (j9.mono fun v hv => by have := MA hv; simpa using this)
  have h4 := wpAny_of_seq (md := .any) (Q' := Q) (ops.toList.drop (ops.size - tl)) (ops.size - tl) aY a' w' (fun j => by simp [List.getElem?_drop]) (by rw [W4]; exact h1) h3
  rwa [W4] at h4) _ _ _ _ _ (by simp) H (hU0 _ _)
 rw [uR, show ops.size - tl + (ops.size - (ops.size - tl)) = ops.size by omega] at this
 exact this
end
theorem W.ap2 {E : Env} {n : Nat} {tl : Nat → Nat} {Q : PX → PS → Prop} {f : Nat → PV} {rows : Rows} {clk : Nat} {id : Nat} {ops : List Oper} {y : Code} (m : Nat) {o : Oper} {r : List Oper} (hm : tl id = m + 1) (ho : ops.drop (ops.length - (m + 1)) = o :: r) (hg : o.guard = none)
  (h : ∀ K : PS → Prop, (∀ σ, W E n tl y Q σ → K σ) → go (aN E ops clk 0 (ops.take (ops.length - (m + 1))) (fun σ => B5 E o (aL E ops r K) σ) ⟨f, rows, fun _ _ => False, fun _ _ => False⟩)) : W E n tl (.seq (.region id ops.toArray true) y) Q ⟨f, rows, clk⟩ := by
 refine W.seq ?_
 intro fL w0 S0 G a w Q' hR hQ
 have akk : pF E n (tl id) ops.toArray true = true := by simpa [eA] using fL
 have hd : ∀ o ∈ ops, ∀ t, o.dst = some t → t < n := fun o ho t ht => by
  simp only [pF, Bool.and_eq_true] at akk
  have := Array.all_eq_true_iff_forall_mem.1 akk.1 o (by simpa using ho)
  simpa [ht] using this
 have h1 := h (fun σ => W E n tl y Q σ) fun _ h => h
 have rZ : ∀ x ∈ o :: r, x ∈ ops := fun x hx => by rw [← ho] at hx; exact List.mem_of_mem_drop hx
 refine CA (T := fun σ => B5 E o (aL E ops r (fun σ => W E n tl y Q σ)) σ) akk (by omega) (by rw [hm]; exact h1) hR fun σ' a' w' hT j9 => ?_
 rw [hm]
 have e : ops.toArray.toList.drop (ops.toArray.size - (m + 1)) = o :: r := by simpa using ho
 rw [e]
 unfold wpList
 rw [if_pos (by simp [Region.wanted, hg])]
 refine .inl (sK hT j9 (hd o (rZ o (by simp))) fun σ2 a2 w2 hk hR2 => ?_)
 exact fV (E := E) (ops := ops.toArray) (fun σ3 a3 w3 hk3 hR3 => hQ .normal σ3 a3 w3 hk3 hR3) _ σ2 a2 w2 (fun o ho => hd o (rZ o (by simp [ho]))) hk hR2
end Pm
namespace Go.Proofs.YtbbjgncblhfegaaGreat
open Go Pm
open ZX hiding N W
theorem eV {α β : Type} {c : Prop} [Decidable c] (f g : α → β) (x : α) : (if c then f else g) x = if c then f x else g x := by split <;> rfl
def LG (v : Rat → Nat) : Nat → Rat → Rat → List (Rat × Rat)
 | 0, lo, hi => if v lo = v hi then [] else [(lo, hi)]
 | k + 1, lo, hi => if v lo = v hi then [] else if v lo = v hi + 1 then [(lo, hi)] else LG v k lo ((lo + hi) / 2) ++ LG v k ((lo + hi) / 2) hi
theorem vN {lo hi : Rat} (h : lo < hi) : lo < (lo + hi) / 2 ∧ (lo + hi) / 2 < hi := by
 have h1 : (lo + hi) / 2 * 2 = lo + hi := Rat.div_mul_cancel (by decide)
 exact ⟨by grind, by grind⟩
theorem uJ {lo hi δ : Rat} {k : Nat} (h : hi - lo ≤ δ * 2 ^ (k + 1)) : (lo + hi) / 2 - lo ≤ δ * 2 ^ k ∧ hi - (lo + hi) / 2 ≤ δ * 2 ^ k := by
 have h1 : (lo + hi) / 2 * 2 = lo + hi := Rat.div_mul_cancel (by decide)
 rw [Rat.pow_succ] at h
 generalize (2 : Rat) ^ k = p at *
 exact ⟨by grind, by grind⟩
structure Gr (D : Nat) (B : Rat) (j : Nat) (q : Rat) : Prop where
 z : ∃ z : Int, q * ((D * 2 ^ j : Nat) : Int) = (z : Rat)
 b : Ab q B
theorem Gr.mono {D : Nat} {B q : Rat} {i j : Nat} (h : Gr D B i q) (hij : i ≤ j) : Gr D B j q := by
 obtain ⟨⟨z, hz⟩, hb⟩ := h
 obtain ⟨k, rfl⟩ : ∃ k, j = i + k := ⟨j - i, by omega⟩
 refine ⟨⟨z * (2 ^ k : Nat), ?_⟩, hb⟩
 rw [Rat.intCast_mul, ← hz, Nat.pow_add, ← Nat.mul_assoc, Int.natCast_mul (D * 2 ^ i), Rat.intCast_mul]
 grind
theorem Gr.G4 {D : Nat} {B p q : Rat} {j : Nat} (hp : Gr D B j p) (hq : Gr D B j q) : Gr D B (j + 1) ((p + q) / 2) := by
 obtain ⟨⟨y, hy⟩, b1, b2⟩ := hp
 obtain ⟨⟨z, hz⟩, b3, b4⟩ := hq
 have h1 : (p + q) / 2 * 2 = p + q := Rat.div_mul_cancel (by decide)
 refine ⟨⟨y + z, ?_⟩, by grind, by grind⟩
 rw [Rat.intCast_add, ← hy, ← hz, Nat.pow_succ, ← Nat.mul_assoc, Int.natCast_mul (D * 2 ^ j), Rat.intCast_mul]
 have h2 : (((2 : Nat) : Int) : Rat) = 2 := rfl
 rw [h2]
 generalize (((D * 2 ^ j : Nat) : Int) : Rat) = M at *
 grind
theorem Gr.sq {D d β j : Nat} {q : Rat} (h : Gr D (2 ^ β) j q) (h0 : 1 ≤ D) (hD : D ≤ 2 ^ d) : SQ (β + d + j + 1) q := by
 obtain ⟨⟨z, hz⟩, hb⟩ := h
 have hM : 1 ≤ D * 2 ^ j := Nat.mul_pos h0 (Nat.two_pow_pos _)
 have hM2 : D * 2 ^ j ≤ 2 ^ (d + j) := by rw [Nat.pow_add]; exact Nat.mul_le_mul_right _ hD
 have hMq : (0 : Rat) < (((D * 2 ^ j : Nat) : Int) : Rat) := Rat.intCast_pos.2 (by omega)
 have hzb : z.natAbs ≤ 2 ^ (β + d + j) := by
  have h1 : Ab (z : Rat) (((2 ^ β * (D * 2 ^ j) : Nat) : Int) : Rat) := by
   rw [← hz, Int.natCast_mul (2 ^ β), Rat.intCast_mul, GM]
   exact hb.mul ⟨by grind, Rat.le_refl⟩
  obtain ⟨h2, h3⟩ := h1
  rw [← Rat.intCast_neg] at h2
  have h4 := Rat.intCast_le_intCast.1 h2
  have h5 := Rat.intCast_le_intCast.1 h3
  have h6 : 2 ^ β * (D * 2 ^ j) ≤ 2 ^ (β + d + j) := by
   rw [Nat.add_assoc, Nat.pow_add]; exact Nat.mul_le_mul_left _ hM2
  omega
 have e := OO (n := z) (d := ((D * 2 ^ j : Nat) : Int)) (by omega) hz.symm
 have qG : ((D * 2 ^ j : Nat) : Int) ≠ 0 := by omega
 have T7 := n3 z ((D * 2 ^ j : Nat) : Int) qG
 have HM := n4 z ((D * 2 ^ j : Nat) : Int) qG
 rw [if_neg (by omega)] at T7 HM
 rw [e] at T7 HM
 have b1 : q.num.natAbs ≤ z.natAbs := by rw [T7]; exact Int.natAbs_ediv_le_natAbs _ _
 have b2 : ((q.den : Int)).natAbs ≤ D * 2 ^ j := by rw [HM]; exact Nat.le_trans (Int.natAbs_ediv_le_natAbs _ _) (by omega)
 have hp : ∀ i, 2 ^ i < 2 ^ (i + 1) := fun i => Nat.pow_lt_pow_right (by decide) (by omega)
 refine ⟨cN (by decide) (Nat.lt_of_le_of_lt (Nat.le_trans b1 hzb) (hp _)), cN (by decide) (Nat.lt_of_le_of_lt (Nat.le_trans b2 hM2) ?_), by omega⟩
 exact Nat.pow_lt_pow_right (by decide) (by omega)
structure Cut (v : Rat → Nat) (B δ : Rat) : Prop where
 dP : ∀ a b, a ≤ b → v b ≤ v a
 rB : ∀ a b, Ab a B → Ab b B → a < b → b - a ≤ δ → v a ≤ v b + 1
theorem Cut.leaf {v : Rat → Nat} {B δ : Rat} (C : Cut v B δ) {lo hi : Rat} (ED : Ab lo B) (SN : Ab hi B) (h : lo < hi) (hd : hi - lo ≤ δ) (qG : v lo ≠ v hi) : v lo = v hi + 1 := by
 have := C.rB lo hi ED SN h hd
 have := C.dP lo hi (Rat.le_of_lt h)
 omega
theorem oI {v : Rat → Nat} {D : Nat} {B δ : Rat} (C : Cut v B δ) : ∀ (k j : Nat) (lo hi : Rat), Gr D B j lo → Gr D B j hi → lo < hi → hi - lo ≤ δ * 2 ^ k →
  (∀ p ∈ LG v k lo hi, Gr D B (j + k) p.1 ∧ Gr D B (j + k) p.2 ∧ lo ≤ p.1 ∧ p.1 < p.2 ∧ p.2 ≤ hi ∧ v p.1 = v p.2 + 1) ∧ (LG v k lo hi).length = v lo - v hi ∧ (LG v k lo hi).Pairwise fun p q => p.2 ≤ q.1
 | 0, j, lo, hi, g1, g2, h, hd => by
  rw [LG]
  split
  ·rename_i he
   exact ⟨fun p hp => absurd hp List.not_mem_nil, by rw [he]; simp, List.Pairwise.nil⟩
  ·rename_i he
   have := C.leaf g1.b g2.b h (by rw [Rat.pow_zero, Rat.mul_one] at hd; exact hd) he
   refine ⟨fun p hp => ?_, by simp; omega, List.pairwise_singleton _ _⟩
   rw [List.mem_singleton] at hp; subst hp
   exact ⟨g1, g2, Rat.le_refl, h, Rat.le_refl, this⟩
 | k + 1, j, lo, hi, g1, g2, h, hd => by
  rw [LG]
  split
  ·rename_i he
   exact ⟨fun p hp => absurd hp List.not_mem_nil, by rw [he]; simp, List.Pairwise.nil⟩
  ·rename_i he
   split
   ·rename_i DQ
    refine ⟨fun p hp => ?_, by simp; omega, List.pairwise_singleton _ _⟩
    rw [List.mem_singleton] at hp; subst hp
    exact ⟨g1.mono (by omega), g2.mono (by omega), Rat.le_refl, h, Rat.le_refl, DQ⟩
   ·obtain ⟨m1, m2⟩ := vN h
    obtain ⟨d1, d2⟩ := uJ hd
    have gm := g1.G4 g2
    obtain ⟨a1, a2, a3⟩ := oI C k (j + 1) lo ((lo + hi) / 2) (g1.mono (by omega)) gm m1 d1
    obtain ⟨b1, b2, b3⟩ := oI C k (j + 1) ((lo + hi) / 2) hi gm (g2.mono (by omega)) m2 d2
    have n1 := C.dP lo ((lo + hi) / 2) (Rat.le_of_lt m1)
    have n2 := C.dP ((lo + hi) / 2) hi (Rat.le_of_lt m2)
    rw [show j + 1 + k = j + (k + 1) by omega] at a1 b1
    generalize (lo + hi) / 2 = m at *
    refine ⟨fun p hp => ?_, by rw [List.length_append, a2, b2]; omega, List.pairwise_append.2 ⟨a3, b3, fun p hp q hq => ?_⟩⟩
    ·rcases List.mem_append.1 hp with hp | hp
     ·obtain ⟨c1, c2, c3, c4, c5, c6⟩ := a1 p hp
      exact ⟨c1, c2, c3, c4, by grind, c6⟩
     ·obtain ⟨c1, c2, c3, c4, c5, c6⟩ := b1 p hp
      exact ⟨c1, c2, by grind, c4, c5, c6⟩
    ·obtain ⟨c1, c2, c3, c4, c5, c6⟩ := a1 p hp
     obtain ⟨d1, d2, d3, d4, d5, d6⟩ := b1 q hq
     grind
theorem SQ.mono {u w : Nat} {q : Rat} (h : SQ u q) (hu : u ≤ w) : SQ w q := ⟨Nat.le_trans h.n2 hu, Nat.le_trans h.d2 hu, Nat.le_trans h.hu hu⟩
theorem SQ.LLs {u : Nat} {q : Rat} (h : SQ u q) {k : Nat} (hu : u ≤ k) : sz LL q.num ≤ k ∧ sz LL (q.den : Int) ≤ k := ⟨Nat.le_trans h.nL hu, Nat.le_trans h.dL hu⟩
theorem SQ.LLt {u : Nat} {q : Rat} (h : SQ u q) {k : Nat} (hu : u < k) : sz LL q.num < k ∧ sz LL (q.den : Int) < k := ⟨Nat.lt_of_le_of_lt h.nL hu, Nat.lt_of_le_of_lt h.dL hu⟩
structure mV (s n : Nat) (f : ZX) : Prop where
 lay : qT s n f
 uB : 1 ≤ n
 nf : Nf f
 sq : Go.Proofs.YtbbjgncblhfegaaGreat.sq f = f
 hs : s ≤ 5000000
namespace mV
variable {s n : Nat} {f : ZX} (I : mV s n f)
include I
theorem ch : Ch s n f := ⟨I.lay.bz, I.lay.hn, I.uB, Nat.le_trans (Nat.mul_le_mul_right _ (by unfold qb; omega)) I.lay.hC⟩
theorem s1 : 1 ≤ s := by
 have h1 := I.lay.hs
 have h2 := I.uB
 rcases Nat.eq_zero_or_pos s with h | h
 ·rw [h] at h1; simp at h1; omega
 ·exact h
theorem hb : ∀ p ∈ bC f, BZ 4500000000 n p := I.ch.all.1
theorem hl : (bC f).length ≤ 21 := I.ch.all.2
theorem gz1 : gz f (bK f) = 1 := by
 have := apW I.nf.ne
 rwa [I.sq] at this
theorem cop : D3 f (bK f) := fun d h1 h2 => by
 have h3 := (gS f (bK f)).least h1 h2
 rw [I.gz1] at h3
 have := h3.rF ZX.pZ
 rwa [ZX.z9] at this
theorem VH : xI (bC f) f := I.ch.VH I.nf.ne I.gz1
theorem S : w8 f (vt (bC f)) := ⟨I.nf.ne, I.cop, _, I.VH, rfl⟩
theorem szf : ∀ c ∈ f.l, c.natAbs ≤ 2 ^ s := fun c hc => by
 have h1 := lF (b := 2) (by decide) c
 have h2 := Nat.pow_le_pow_right (show 0 < 2 by decide) (I.ch.bz.sz c hc)
 omega
theorem cut (β : Nat) : ∃ δ : Rat, 0 < δ ∧ δ * 2 ^ lk s n 5 β = 1 ∧ Cut (vt (bC f)) (2 ^ β) δ := by
 obtain ⟨δ, h1, h2⟩ := vM (lk s n 5 β)
 have hn := I.ch.hn
 obtain ⟨h3, _⟩ := vL I.VH (s := s) (n := n) (l := 5) (β := β) I.nf.ne I.szf I.ch.bz.N (by omega) I.cop (by rw [h2]; exact Rat.le_refl)
 refine ⟨δ, h1, h2, fun a b gE => I.VH.dP gE, fun a b ha hb gE hd => ?_⟩
 have := h3.turns a b ha hb gE hd
 rcases OX f a b with h4 | h4 <;> omega
end mV
section
variable {c : List ZX} {n u : Nat} {p q : Rat} (hb : ∀ p ∈ c, BZ 4500000000 n p) (hn : n ≤ 20) (hl : c.length ≤ 21) (hp : SQ u p) (hq : SQ u q) (hu : u ≤ 1000000000)
include hb hn hl hp hq hu
theorem akl : aI env.P 106 [CH c, RT p, RT q] (.int .i64 (if q < p then 0 else (vt c p : Int) - vt c q)) := by
 have z1 := D0 hq.nL hq.dL hp.nL hp.dL (by omega) (eE q) (eE p) ⟨hq.nL, hq.dL⟩ ⟨hp.nL, hp.dL⟩
 have b1 := GB (by omega) z1 (aa9 hb hn hl hp hu) (aa9 hb hn hl hq hu)
 rw [AR, AR] at b1
 simp only [iV] at b1
 exact b1
theorem abk : aI env.P 59 [aJ zq c, RR p, RR q] (.int .i64 (if q < p then 0 else (vt c p : Int) - vt c q)) := by
 have yy : ∀ {v : Int}, sz 2 v ≤ u → sz 2 v ≤ YY := fun h => by simp only [YY]; omega
 have b1 := KI (yy hp.n2) (yy hp.d2) (yy hq.n2) (yy hq.d2) (by omega) (aa8 hb hn hl hp hu) (aa8 hb hn hl hq hu)
 have hcm : (q.num * (p.den : Int) < p.num * (q.den : Int)) = (q < p) := propext (by rw [← iV]; exact m7.symm)
 rw [AR, AR] at b1
 simp only [hcm] at b1
 rw [b9, b9]
 exact b1
end
abbrev tc (q : Rat) : List PV := [.bool (decide (q.num < 0)), us (aQ LL q.num.natAbs), .bool (decide ((q.den : Int) < 0)), us (aQ LL (q.den : Int).natAbs)]
def ga (f : ZX) (p : Rat × Rat) : List PV := Po f.l :: (tc p.1 ++ tc p.2)
@[simp] theorem avc {f : ZX} {p : Rat × Rat} : ga f p = Po f.l :: (tc p.1 ++ tc p.2) := rfl
@[simp] theorem vO {f : ZX} {l : List (Rat × Rat)} : bB 9 (emap (ga f) l) = True := cZ fun _ => rfl
@[simp] theorem akm {v e n : Nat} {f : ZX} {l : List (Rat × Rat)} : cQ (some ⟨v, e, n, emap (ga f) l⟩) = True := cM fun _ => rfl
theorem GN {f : ZX} {l : List (Rat × Rat)} : ∀ x ∈ emap (ga f) l, ∀ p ∈ x, bY p = true := fun x hx p hp => by
 simp only [emap, List.mem_map] at hx
 obtain ⟨r, _, rfl⟩ := hx
 simp at hp
 rcases hp with rfl | rfl | rfl | rfl | rfl | rfl | rfl | rfl | rfl <;> rfl
theorem abl {f : ZX} {c : List ZX} {lo hi : Rat} : gG env.P 85 [Po f.l, CH c, RT lo, RT hi, .int .i64 0] 44 9 [] := by
 show gG env.P _ [Po f.l, .rd [aJ zp c], T2 lo.num lo.den, T2 hi.num hi.den, .int .i64 0] _ _ _
 generalize lo.num = ln at *
 generalize (lo.den : Int) = ld at *
 generalize hi.num = hn at *
 generalize (hi.den : Int) = hd at *
 generalize aJ zp c = X at *
 refine iJ (E := env) (fun id => if id = 5 then 2 else if id = 8 then 2 else 0) (t := 10) [(0, Po f.l), (1, .rd [X]), (2, T2 ln ld), (3, T2 hn hd), (4, .int .i64 0)] Tryz.func85 rfl (by kernel_rfl) (by kernel_rfl) (show 5 ≤ 48 by decide) rfl (by simp) ?_
 refine W.sr ?_; simp (disch := omega) [gw]; refine W.lx [0, 1, 4, 7, 8] ?_; simp
 refine W.seq ?_
 refine W.sr ?_; simp (disch := omega) [gw]; refine W.lx [0, 1, 4, 7, 8, 13] ?_; simp
 refine W.block ?_
 refine W.sr ?_; simp (disch := omega) [gw]; refine W.lx [0, 1, 4, 7, 8, 13, 14] ?_; simp
 refine W.cond ⟨_, rfl, fun h => ?_, fun h => ?_⟩
 ·refine W.sr ?_; simp (disch := omega) [gw]; refine W.lx [10] ?_; simp
  refine W.nil 10 10 44 9 (by simp) (by decide) (fun K hK => ?_)
  simp
  refine hK _ ?_
  refine W.ret ?_
  exact ⟨10, _, by simp; exact rfl, by simp, fun x hx => by cases hx⟩
 ·simp at h
theorem aeS {s n : Nat} {f : ZX} (I : mV s n f) {c : List ZX} {lo hi : Rat} {u : Nat} (q1 : SQ u lo) (q2 : SQ u hi) (hu : u ≤ 1000000000) : gG env.P 85 [Po f.l, CH c, RT lo, RT hi, .int .i64 1] 44 9 (emap (ga f) [(lo, hi)]) := by
 have N1 := fG (x := f.l) (I.ch.bz.pb (by have := I.hs; omega) (by have := I.ch.hn; omega))
 rw [f.c] at N1
 obtain ⟨l1, l2⟩ := q1.LLt (show u < 1099511627770 by omega)
 obtain ⟨l3, l4⟩ := q2.LLt (show u < 1099511627770 by omega)
 have M1 := uG l1 l2
 have M2 := uG l3 l4
 rw [eE] at M1 M2
 rw [show emap (ga f) [(lo, hi)] = [Po f.l :: (tc lo ++ tc hi)] from rfl]
 show gG env.P _ [Po f.l, .rd [aJ zp c], T2 lo.num lo.den, T2 hi.num hi.den, .int .i64 1] _ _ _
 replace M1 : aI env.P 117 [T2 lo.num lo.den, .sl []] (T2 lo.num lo.den) := M1
 replace M2 : aI env.P 117 [T2 hi.num hi.den, .sl []] (T2 hi.num hi.den) := M2
 clear l1 l2 l3 l4 q1 q2
 simp only [tc]
 generalize lo.num = ln at *
 generalize (lo.den : Int) = ld at *
 generalize hi.num = hn at *
 generalize (hi.den : Int) = hd at *
 generalize aJ zp c = X at *
 refine iJ (E := env) (fun id => if id = 5 then 2 else if id = 8 then 2 else 0) (t := 10) [(0, Po f.l), (1, .rd [X]), (2, T2 ln ld), (3, T2 hn hd), (4, .int .i64 1)] Tryz.func85 rfl (by kernel_rfl) (by kernel_rfl) (show 5 ≤ 48 by decide) rfl (by simp) ?_
 refine W.sr ?_; simp (disch := omega) [gw]; refine W.lx [0, 1, 4, 7, 8] ?_; simp
 refine W.seq ?_
 refine W.sr ?_; simp (disch := omega) [gw]; refine W.lx [0, 1, 4, 7, 8, 13] ?_; simp
 refine W.block ?_
 refine W.sr ?_; simp (disch := omega) [gw]; refine W.lx [0, 1, 4, 7, 8, 13, 14] ?_; simp
 refine W.cond ⟨_, rfl, fun h => ?_, fun h => ?_⟩
 ·simp at h
 ·refine W.sr ?_; simp (disch := omega) [gw]; refine W.lx [0, 1, 4, 7, 8, 16] ?_; simp
  refine W.cond ⟨_, rfl, fun h => ?_, fun h => ?_⟩
  ·refine W.ap2 1 rfl rfl rfl (fun K hK => ?_)
   simp (disch := omega) [gw]
   refine aA N1 ?_
   simp (disch := omega) [gw]
   refine aA M1 ?_
   simp (disch := omega) [gw]
   refine aA M2 ?_
   simp (disch := omega) [gw]
   refine W.lw [10] hK ?_; clear hK K; simp
   refine W.ret ?_
   exact ⟨25, _, by simp; exact rfl, by simp, fun x hx p hp => by
    simp at hx; subst hx
    simp at hp
    rcases hp with rfl | rfl | rfl | rfl | rfl | rfl | rfl | rfl | rfl <;> rfl⟩
  ·simp at h
theorem abm {f : ZX} {c : List ZX} {lo hi : Rat} {n k : Int} {la lb : List (Rat × Rat)} (hn : 2 ≤ n ∧ n ≤ 21) (hk : 0 ≤ k ∧ k ≤ n) (M8 : la.length ≤ 21) (hlb : lb.length ≤ 21)
  (M : aI env.P 118 [RT lo, RT hi] (RT ((lo + hi) / 2))) (B : aI env.P 106 [CH c, RT lo, RT ((lo + hi) / 2)] (.int .i64 k))
  (h1 : gG env.P 85 [Po f.l, CH c, RT lo, RT ((lo + hi) / 2), .int .i64 k] 44 9 (emap (ga f) la)) (h2 : gG env.P 85 [Po f.l, CH c, RT ((lo + hi) / 2), RT hi, .int .i64 (n - k)] 44 9 (emap (ga f) lb)) :
  gG env.P 85 [Po f.l, CH c, RT lo, RT hi, .int .i64 n] 44 9 (emap (ga f) (la ++ lb)) := by
 rw [← wK]
 have el1 : (emap (ga f) la).length ≤ 21 := by simpa [emap] using M8
 have el2 : (emap (ga f) lb).length ≤ 21 := by simpa [emap] using hlb
 have p1 := GN (f := f) (l := la)
 have p2 := GN (f := f) (l := lb)
 have a1 : bB 9 (emap (ga f) la) = True := vO
 have a2 : bB 9 (emap (ga f) lb) = True := vO
 show gG env.P _ [Po f.l, .rd [aJ zp c], T2 lo.num lo.den, T2 hi.num hi.den, .int .i64 n] _ _ _
 replace M : aI env.P 118 [T2 lo.num lo.den, T2 hi.num hi.den] (T2 ((lo + hi) / 2).num ((lo + hi) / 2).den) := M
 replace B : aI env.P 106 [.rd [aJ zp c], T2 lo.num lo.den, T2 ((lo + hi) / 2).num ((lo + hi) / 2).den] (.int .i64 k) := B
 replace h1 : gG env.P 85 [Po f.l, .rd [aJ zp c], T2 lo.num lo.den, T2 ((lo + hi) / 2).num ((lo + hi) / 2).den, .int .i64 k] 44 9 (emap (ga f) la) := h1
 replace h2 : gG env.P 85 [Po f.l, .rd [aJ zp c], T2 ((lo + hi) / 2).num ((lo + hi) / 2).den, T2 hi.num hi.den, .int .i64 (n - k)] 44 9 (emap (ga f) lb) := h2
 generalize ((lo + hi) / 2).num = mn at *
 generalize (((lo + hi) / 2).den : Int) = md at *
 generalize lo.num = ln at *
 generalize (lo.den : Int) = ld at *
 generalize hi.num = uP at *
 generalize (hi.den : Int) = hd at *
 generalize aJ zp c = X at *
 generalize emap (ga f) la = ea at *
 generalize emap (ga f) lb = eb at *
 have w1 : IntKind.wrap .i64 (n - k) = n - k := wrap_i64 (by omega) (by omega)
 refine iJ (E := env) (fun id => if id = 5 then 2 else if id = 8 then 2 else 0) (t := 10) [(0, Po f.l), (1, .rd [X]), (2, T2 ln ld), (3, T2 uP hd), (4, .int .i64 n)] Tryz.func85 rfl (by kernel_rfl) (by kernel_rfl) (show 5 ≤ 48 by decide) rfl (by simp) ?_
 refine W.sr ?_; simp (disch := omega) [gw]; refine W.lx [0, 1, 4, 7, 8] ?_; simp
 refine W.seq ?_
 refine W.sr ?_; simp (disch := omega) [gw]; refine W.lx [0, 1, 4, 7, 8, 13] ?_; simp
 refine W.block ?_
 refine W.sr ?_; simp (disch := omega) [gw]; refine W.lx [0, 1, 4, 7, 8, 13, 14] ?_; simp
 refine W.cond ⟨_, rfl, fun h => ?_, fun h => ?_⟩
 ·simp at h; omega
 ·refine W.sr ?_; simp (disch := omega) [gw]; refine W.lx [0, 1, 4, 7, 8, 16] ?_; simp
  refine W.cond ⟨_, rfl, fun h => ?_, fun h => ?_⟩
  ·simp at h; omega
  ·refine W.skip ?_
   refine W.sr ?_
   simp (disch := omega) [gw]
   refine aA M ?_
   simp (disch := omega) [gw]
   refine W.lx [0, 1, 4, 7, 8, 11] ?_; simp
   refine W.sr ?_
   simp (disch := omega) [gw]
   refine aA B ?_
   simp (disch := omega) [gw]
   refine W.lx [0, 1, 4, 7, 8, 11, 12] ?_; simp
   refine W.sd ?_
   rw [show (if 8 = 5 then 2 else if 8 = 8 then 2 else 0) = 1 + 1 from rfl, dQ]
   simp (disch := omega) [gw]
   refine CZ h1 rfl trivial ?_
   simp (disch := omega) [gw, w1, eV]
   refine CZ h2 rfl trivial ?_
   simp (disch := omega) [gw, a1, a2, eV]
   refine W.lx [10] ?_; simp
   refine W.ret ?_
   exact ⟨38, 5, by simp, by simp, fun x hx => by
    rcases List.mem_append.1 hx with hx | hx
    ·exact p1 x hx
    ·exact p2 x hx⟩
theorem abn {s n : Nat} {f : ZX} (I : mV s n f) {D d β J : Nat} {δ : Rat} (uU : 1 ≤ D) (hD : D ≤ 2 ^ d) (C : Cut (vt (bC f)) (2 ^ β) δ) (hu : β + d + J + 1 ≤ 1000000000) : ∀ (k j : Nat) (lo hi : Rat), j + k ≤ J → Gr D (2 ^ β) j lo → Gr D (2 ^ β) j hi → lo < hi → hi - lo ≤ δ * 2 ^ k →
  gG env.P 85 [Po f.l, CH (bC f), RT lo, RT hi, .int .i64 ((vt (bC f) lo : Int) - vt (bC f) hi)] 44 9 (emap (ga f) (LG (vt (bC f)) k lo hi)) := by
 have leaf : ∀ (j : Nat) (lo hi : Rat), j ≤ J → Gr D (2 ^ β) j lo → Gr D (2 ^ β) j hi → vt (bC f) lo = vt (bC f) hi + 1 → gG env.P 85 [Po f.l, CH (bC f), RT lo, RT hi, .int .i64 ((vt (bC f) lo : Int) - vt (bC f) hi)] 44 9 (emap (ga f) [(lo, hi)]) := fun j lo hi hj g1 g2 he => by
  rw [show (vt (bC f) lo : Int) - vt (bC f) hi = 1 by omega]
  exact aeS I ((g1.mono hj).sq uU hD) ((g2.mono hj).sq uU hD) hu
 have KT : ∀ (lo hi : Rat), vt (bC f) lo = vt (bC f) hi → gG env.P 85 [Po f.l, CH (bC f), RT lo, RT hi, .int .i64 ((vt (bC f) lo : Int) - vt (bC f) hi)] 44 9 (emap (ga f) []) := fun lo hi he => by
  rw [show (vt (bC f) lo : Int) - vt (bC f) hi = 0 by omega]
  exact abl
 intro k
 induction k with
 | zero =>
  intro j lo hi hj g1 g2 eZ hd
  rw [LG]
  by_cases he : vt (bC f) lo = vt (bC f) hi
  ·rw [if_pos he]; exact KT lo hi he
  ·rw [if_neg he]; exact leaf j lo hi (by omega) g1 g2 (C.leaf g1.b g2.b eZ (by rw [Rat.pow_zero, Rat.mul_one] at hd; exact hd) he)
 | succ k ih =>
  intro j lo hi hj g1 g2 eZ hd
  rw [LG]
  by_cases he : vt (bC f) lo = vt (bC f) hi
  ·rw [if_pos he]; exact KT lo hi he
  ·rw [if_neg he]
   by_cases DQ : vt (bC f) lo = vt (bC f) hi + 1
   ·rw [if_pos DQ]; exact leaf j lo hi (by omega) g1 g2 DQ
   ·rw [if_neg DQ]
    obtain ⟨m1, m2⟩ := vN eZ
    obtain ⟨d1, d2⟩ := uJ hd
    have gm := g1.G4 g2
    have n1 := C.dP lo ((lo + hi) / 2) (Rat.le_of_lt m1)
    have n2 := C.dP ((lo + hi) / 2) hi (Rat.le_of_lt m2)
    have hv1 := Nat.le_trans (abb (bC f) lo) I.hl
    obtain ⟨_, a2, _⟩ := oI C k (j + 1) lo ((lo + hi) / 2) (g1.mono (by omega)) gm m1 d1
    obtain ⟨_, b2, _⟩ := oI C k (j + 1) ((lo + hi) / 2) hi gm (g2.mono (by omega)) m2 d2
    have r1 := ih (j + 1) lo ((lo + hi) / 2) (by omega) (g1.mono (by omega)) gm m1 d1
    have r2 := ih (j + 1) ((lo + hi) / 2) hi (by omega) gm (g2.mono (by omega)) m2 d2
    have q1 : SQ (β + d + J + 1) lo := (g1.mono (by omega)).sq uU hD
    have q2 : SQ (β + d + J + 1) hi := (g2.mono (by omega)).sq uU hD
    have q3 : SQ (β + d + J + 1) ((lo + hi) / 2) := (gm.mono (by omega)).sq uU hD
    have hM := abc (q1.LLs (Nat.le_refl _)) (q2.LLs (Nat.le_refl _)) (by omega)
    have hB := akl I.hb I.ch.hn I.hl q1 q3 hu
    rw [if_neg (Rat.not_lt.2 (Rat.le_of_lt m1))] at hB
    refine abm (n := (vt (bC f) lo : Int) - vt (bC f) hi) (k := (vt (bC f) lo : Int) - vt (bC f) ((lo + hi) / 2)) (by omega) (by omega) (by omega) (by omega) hM hB r1 ?_
    rw [show (vt (bC f) lo : Int) - vt (bC f) hi - ((vt (bC f) lo : Int) - vt (bC f) ((lo + hi) / 2)) = (vt (bC f) ((lo + hi) / 2) : Int) - vt (bC f) hi by omega]
    exact r2
end Go.Proofs.YtbbjgncblhfegaaGreat
namespace Go.Proofs.YtbbjgncblhfegaaGreat
open Go Pm
open ZX hiding N W
section
variable {C : List ZX} {u : Nat} (hb : ∀ p ∈ C, BZ 4500000000 20 p) (hl : C.length ≤ 21) {p q : Rat} (hp : SQ u p) (hq : SQ u q) (hu : u ≤ 1000000000)
include hb hl hp hu
include hq
end
theorem SQ.tor {u : Nat} {p : Rat} (hp : SQ u p) (hu : u ≤ YY) : aI env.P 35 [RR p] (RT p) := by
 rw [b9]
 have h1 := hp.n2; have h2 := hp.d2
 exact aeC (by simp only [Z, YY] at *; omega) (by simp only [Z, YY] at *; omega)
def l1 (x : List Int) : Nat := (x.map Int.natAbs).sum
theorem iD (a : Int) (x : List Int) : l1 (a :: x) = a.natAbs + l1 x := by simp [l1]
theorem GO : l1 [] = 0 := rfl
theorem GP : ∀ x : List Int, l1 (aM x) ≤ l1 x
 | [] => Nat.le_refl _
 | a :: x => by
  have := GP x
  rw [aM]
  split
  ·rw [GO]; omega
  ·rw [iD, iD]; omega
theorem AX {α : Type} (f g : α → Int) : ∀ l : List α, l1 (l.map fun k => f k + g k) ≤ l1 (l.map f) + l1 (l.map g)
 | [] => Nat.le_refl _
 | x :: l => by
  have := AX f g l
  simp only [List.map_cons, iD]
  omega
theorem sU : ∀ (x : List Int) (n : Nat), l1 (x ++ List.replicate n 0) = l1 x
 | [], n => by simp [l1]
 | a :: x, n => by rw [List.cons_append, iD, iD, sU x n]
theorem aeT (x y : List Int) : l1 (fZ x y) ≤ l1 x + l1 y := by
 have h1 := AX (nth x) (nth y) (List.range (max x.length y.length))
 rw [m9 (by omega), m9 (by omega), sU, sU] at h1
 exact Nat.le_trans (GP _) h1
theorem abo (a : Int) : ∀ y : List Int, l1 (y.map fun c => c * a) = a.natAbs * l1 y
 | [] => by simp [l1]
 | c :: y => by rw [List.map_cons, iD, iD, abo a y, Int.natAbs_mul, Nat.mul_add, Nat.mul_comm]
theorem KU : ∀ x y : List Int, l1 (fC x y) ≤ l1 x * l1 y
 | [], y => by rw [fC, GO]; omega
 | a :: x, y => by
  have h1 := KU x y
  have h2 := aeT (y.map fun c => c * a) (0 :: fC x y)
  rw [abo, iD] at h2
  rw [fC, iD, Nat.add_mul]
  simp only [Int.natAbs_zero] at h2
  omega
def n1 (a : ZX) : Nat := l1 a.l
theorem AY (a b : ZX) : n1 (a * b) ≤ n1 a * n1 b := Nat.le_trans (GP _) (KU _ _)
theorem ap3 (x : List Int) : n1 (of x) ≤ l1 x := GP x
theorem akn (c : Int) : n1 (K c) ≤ c.natAbs := Nat.le_trans (ap3 _) (by simp [l1])
theorem abp {a : ZX} {m : Nat} (h : n1 a ≤ m) : ∀ k : Nat, n1 (a ^ k) ≤ m ^ k
 | 0 => akn 1
 | k + 1 => by
  rw [pow_succ', Nat.pow_succ]
  exact Nat.le_trans (AY _ _) (Nat.mul_le_mul (abp h k) h)
theorem abq : ∀ {x : List Int} {c : Int}, c ∈ x → c.natAbs ≤ l1 x
 | a :: x, c, h => by
  rw [iD]
  rcases List.mem_cons.1 h with rfl | h
  ·omega
  ·have := abq h; omega
theorem BZ.R8 {s n : Nat} {a : ZX} (h : n1 a < 2 ^ s) (hn : ZX.N a ≤ n) : BZ s n a := ⟨hn, fun c hc => cN (by decide) (Nat.lt_of_le_of_lt (abq hc) h)⟩
theorem aeU (l : List Int) (i : Nat) : n1 (of (fK l i)) ≤ 9 ^ (ZX.N (of (fK l i)) - 1) ∧ 2 ≤ ZX.N (of (fK l i)) := by
 obtain ⟨_, hl, _⟩ := x7 l i
 have h9 := Int.emod_nonneg (nth l i) (show (9 : Int) ≠ 0 by decide)
 have h9' := Int.emod_lt_of_pos (nth l i) (show (0 : Int) < 9 by decide)
 have h5 := Int.emod_nonneg (nth l (i + 1)) (show (5 : Int) ≠ 0 by decide)
 have h5' := Int.emod_lt_of_pos (nth l (i + 1)) (show (0 : Int) < 5 by decide)
 have h3 := Int.emod_nonneg (nth l (i + 2)) (show (3 : Int) ≠ 0 by decide)
 have h3' := Int.emod_lt_of_pos (nth l (i + 2)) (show (0 : Int) < 3 by decide)
 unfold n1 ZX.N
 rw [hl]
 unfold fK
 split
 ·simp only [iD, GO, List.length_cons, List.length_nil]
  refine ⟨?_, by omega⟩
  show _ ≤ 81
  omega
 ·simp only [iD, GO, List.length_cons, List.length_nil]
  refine ⟨?_, by omega⟩
  show _ ≤ 9
  omega
theorem KV (l : List Int) (most : Nat) : ∀ j, n1 (c7 l most j) ≤ 9 ^ (ZX.N (c7 l most j) - 1)
 | 0 => Nat.le_trans (akn 1) (Nat.one_le_pow _ _ (by decide))
 | j + 1 => by
  have ih := KV l most j
  obtain ⟨h0, _⟩ := lO l most j
  obtain ⟨b1, b2, b3⟩ := x7 l (3 * j)
  obtain ⟨e1, e2⟩ := GF l (3 * j)
  obtain ⟨f1, f2⟩ := aeU l (3 * j)
  obtain ⟨p1, p2, p3⟩ := aa0 b3 b1 _ e1
  show n1 (uH l most (3 * j) (c7 l most j)) ≤ 9 ^ (ZX.N (uH l most (3 * j) (c7 l most j)) - 1)
  unfold uH
  split
  ·exact ih
  ·have h1 := Nat.mul_le_mul ih (abp f1 (p9 l (3 * j)))
   refine Nat.le_trans (AY _ _) (Nat.le_trans h1 ?_)
   rw [← Nat.pow_mul, ← Nat.pow_add]
   refine Nat.pow_le_pow_right (by decide) ?_
   rw [ZX.iB h0 p2, p3, Nat.mul_comm]
   have := ZX.aD.1 h0
   omega
theorem aeV (l : List Int) (most : Nat) : n1 (made l most) ≤ 3 * 9 ^ most ∧ ZX.N (made l most) ≤ most + 1 := by
 have hN := (RO l most).2.N
 refine ⟨?_, hN⟩
 have h1 := KV l most (min 6 (l.length / 3))
 have h2 := (lO l most (min 6 (l.length / 3))).2.N
 have h3 : 9 ^ (ZX.N (c7 l most (min 6 (l.length / 3))) - 1) ≤ 9 ^ most := Nat.pow_le_pow_right (by decide) (by omega)
 unfold made
 split
 ·have h4 := AY (K (-3)) (c7 l most (min 6 (l.length / 3)))
  have h5 := akn (-3)
  exact Nat.le_trans h4 (Nat.mul_le_mul h5 (Nat.le_trans h1 h3))
 ·omega
theorem AZ {S τ t : Rat} (hS : 0 ≤ S) (hτ : 0 < τ) (ht : kO τ t) : ∀ {x : List Int}, Cn x → 0 < x.length → (∀ c ∈ x.dropLast, Ab (c : Rat) S) → S + (((lead x).natAbs : Int) : Rat) ≤ (((lead x).natAbs : Int) : Rat) * τ → kO (((lead x).natAbs : Int) : Rat) (qv t x)
 | [a], hc, _, _, _ => by
  have e1 : qv t [a] = (a : Rat) := by simp only [qv]; grind
  have e2 : lead [a] = a := rfl
  rw [e1, e2]
  by_cases h : 0 ≤ a
  ·right
   exact Rat.intCast_le_intCast.2 (by omega)
  ·left
   rw [← Rat.intCast_neg]
   exact Rat.intCast_le_intCast.2 (by omega)
 | a :: b :: l, hc, _, hb, hL => by
  have hl := cD (xY hc) (by simp)
  rw [vF] at hL ⊢
  have ih := AZ hS hτ ht (xY hc) (by simp) (fun c hc => hb c (by
   rw [List.dropLast_cons_of_ne_nil (by simp)]; exact List.mem_cons_of_mem _ hc)) hL
  obtain ⟨h4, h5⟩ := hb a (by rw [List.dropLast_cons_of_ne_nil (by simp)]; simp)
  have e1 : qv t (a :: b :: l) = a + t * qv t (b :: l) := rfl
  have hp : (0 : Rat) < (((lead (b :: l)).natAbs : Int) : Rat) := Rat.intCast_pos.2 (by omega)
  have hm := kO.mul hτ hp ht ih
  rw [e1]
  generalize (((lead (b :: l)).natAbs : Int) : Rat) = L at *
  rcases hm with h | h
  ·left; grind
  ·right; grind
theorem GQ {x : List Int} (cx : Cn x) (hx : x ≠ []) {t : Rat} (ht : kO (iY x) t) : kO 1 (qv t x) ∧ 1 ≤ iY x := by
 have nM := List.length_pos_iff.2 hx
 have hl := cD cx nM
 have hL : (1 : Rat) ≤ (((lead x).natAbs : Int) : Rat) := eD (by omega)
 have hm : (0 : Rat) ≤ ((kL x (x.length - 1) : Int) : Rat) := Rat.intCast_nonneg.2 (abe _ _)
 have e := AU cx hx
 have h2 := Rat.div_mul_cancel (a := ((kL x (x.length - 1) : Int) : Rat)) (b := (((lead x).natAbs : Int) : Rat)) (by grind)
 have hw : (0 : Rat) ≤ ((kL x (x.length - 1) : Int) : Rat) / (((lead x).natAbs : Int) : Rat) := by
  refine Rat.not_lt.1 fun h => ?_
  have := Rat.mul_le_mul_of_nonneg_left hL (show 0 ≤ -(((kL x (x.length - 1) : Int) : Rat) / (((lead x).natAbs : Int) : Rat)) by grind)
  grind
 have h1 : 1 ≤ iY x := by rw [e]; grind
 refine ⟨(AZ hm (show 0 < iY x by grind) ht cx nM (fun c hc => ?_) ?_).mono hL, h1⟩
 ·obtain ⟨k, hk, rfl⟩ := List.mem_iff_getElem.1 hc
  rw [List.length_dropLast] at hk
  have h3 := abf x (x.length - 1) k hk
  rw [cS (by omega)] at h3
  rw [List.getElem_dropLast]
  constructor
  ·rw [← Rat.intCast_neg]
   exact Rat.intCast_le_intCast.2 (by omega)
  ·exact Rat.intCast_le_intCast.2 (by omega)
 ·rw [e]
  generalize ((kL x (x.length - 1) : Int) : Rat) / (((lead x).natAbs : Int) : Rat) = w at *
  grind
abbrev rc (q : Rat) : List PV := [aJ aF (aQ DD q.num.natAbs), .bool (decide (q.num < 0)), aJ aF (aQ DD (q.den : Int).natAbs), .bool (decide ((q.den : Int) < 0))]
def qa (f : ZX) (c : List ZX) (p : Rat × Rat) : List PV := PI f.l :: aJ zq c :: (rc p.1 ++ rc p.2)
@[simp] theorem avd {f : ZX} {c : List ZX} {p : Rat × Rat} : qa f c p = PI f.l :: aJ zq c :: (rc p.1 ++ rc p.2) := rfl
@[simp] theorem D6 {f : ZX} {c : List ZX} {l : List (Rat × Rat)} : bB 10 (emap (qa f c) l) = True := cZ fun _ => rfl
@[simp] theorem ako {v e n : Nat} {f : ZX} {c : List ZX} {l : List (Rat × Rat)} : cQ (some ⟨v, e, n, emap (qa f c) l⟩) = True := cM fun _ => rfl
theorem R9 {f : ZX} {c : List ZX} {l : List (Rat × Rat)} : ∀ x ∈ emap (qa f c) l, ∀ p ∈ x, bY p = true := fun x hx p hp => by
 simp only [emap, List.mem_map] at hx
 obtain ⟨r, _, rfl⟩ := hx
 simp at hp
 rcases hp with rfl | rfl | rfl | rfl | rfl | rfl | rfl | rfl | rfl | rfl <;> rfl
abbrev QA (f : ZX) (c : List ZX) (p : Rat × Rat) : PV := .ag (qa f c p)
def ex (f : ZX) (p : Rat × Rat) : Rat × Rat := if e p.2 f = 0 then (p.2, p.2) else p
theorem SQ.yy {u : Nat} {q : Rat} (h : SQ u q) (hu : u ≤ 1000000000) : ZR YY q := ⟨by have := h.n2; simp only [YY]; omega, by have := h.d2; simp only [YY]; omega⟩
theorem nI {p q : Rat} : dC (p.num * q.den) (q.num * p.den) = 0 ↔ p = q := by
 have h1 := iV p q
 have h2 := iV q p
 rw [m7] at h1 h2
 refine ⟨fun h => ?_, fun h => ?_⟩
 ·have h := Pm.u4.1 h
  by_cases h3 : p < q
  ·have := h1.2 h3; omega
  ·rcases Rat.le_iff_lt_or_eq.1 (Rat.not_lt.1 h3) with h4 | h4
   ·have := h2.2 h4; omega
   ·exact h4.symm
 ·rw [h]; exact xJ _
abbrev c4 (n d : Int) : List PV := [aJ aF (aQ DD n.natAbs), .bool (decide (n < 0)), aJ aF (aQ DD d.natAbs), .bool (decide (d < 0))]
theorem OY {x : List Int} {c : List ZX} {ln ld hn hd z σ : Int} (hz : (z != 0) = false) (c1 : aI env.P 27 [R2 ln ld, R2 hn hd] (.int .i64 z)) (s1 : aI env.P 107 [PI x, R2 hn hd] (.int .i64 σ)) :
  aI env.P 112 [.ag (PI x :: aJ zq c :: (c4 ln ld ++ c4 hn hd))] (.ag (PI x :: aJ zq c :: (c4 ln ld ++ c4 hn hd))) := by
 simp only [c4]
 refine aB (E := env) (fun _ => 0) [(0, .ag (PI x :: aJ zq c :: [aJ aF (aQ DD ln.natAbs), .bool (decide (ln < 0)), aJ aF (aQ DD ld.natAbs), .bool (decide (ld < 0)), aJ aF (aQ DD hn.natAbs), .bool (decide (hn < 0)), aJ aF (aQ DD hd.natAbs), .bool (decide (hd < 0))]))] Tryz.func112 rfl (by kernel_rfl) (by kernel_rfl) (show 1 ≤ 21 by decide) (by simp) ?_
 refine W.sr ?_
 simp (disch := omega) [gw]
 refine W.lx [1, 2] ?_; simp
 refine W.seq ?_
 refine W.sr ?_
 simp (disch := omega) [gw]
 refine aA c1 ?_
 simp (disch := omega) [gw, hz]
 refine W.lx [1, 2, 16] ?_; simp
 refine W.cond ⟨_, rfl, fun h => ?_, fun h => ?_⟩
 ·simp at h
 ·refine W.skip ?_
  refine W.sr ?_; simp (disch := omega) [gw]; refine W.lx [2] ?_; simp
  refine W.ret ?_
  simp [go]
theorem abr {x : List Int} {c : List ZX} {ln ld hn hd z σ : Int} (hz : (z != 0) = true) (hs : (σ == 0) = false) (c1 : aI env.P 27 [R2 ln ld, R2 hn hd] (.int .i64 z)) (s1 : aI env.P 107 [PI x, R2 hn hd] (.int .i64 σ)) :
  aI env.P 112 [.ag (PI x :: aJ zq c :: (c4 ln ld ++ c4 hn hd))] (.ag (PI x :: aJ zq c :: (c4 ln ld ++ c4 hn hd))) := by
 simp only [c4]
 refine aB (E := env) (fun _ => 0) [(0, .ag (PI x :: aJ zq c :: [aJ aF (aQ DD ln.natAbs), .bool (decide (ln < 0)), aJ aF (aQ DD ld.natAbs), .bool (decide (ld < 0)), aJ aF (aQ DD hn.natAbs), .bool (decide (hn < 0)), aJ aF (aQ DD hd.natAbs), .bool (decide (hd < 0))]))] Tryz.func112 rfl (by kernel_rfl) (by kernel_rfl) (show 1 ≤ 21 by decide) (by simp) ?_
 refine W.sr ?_
 simp (disch := omega) [gw]
 refine W.lx [1, 2] ?_; simp
 refine W.seq ?_
 refine W.sr ?_
 simp (disch := omega) [gw]
 refine aA c1 ?_
 simp (disch := omega) [gw, hz]
 refine aA s1 ?_
 simp (disch := omega) [gw, hs]
 refine W.lx [1, 2, 16] ?_; simp
 refine W.cond ⟨_, rfl, fun h => ?_, fun h => ?_⟩
 ·simp at h
 ·refine W.skip ?_
  refine W.sr ?_; simp (disch := omega) [gw]; refine W.lx [2] ?_; simp
  refine W.ret ?_
  simp [go]
theorem VM {x : List Int} {c : List ZX} {ln ld hn hd z σ : Int} (hz : (z != 0) = true) (hs : (σ == 0) = true) (c1 : aI env.P 27 [R2 ln ld, R2 hn hd] (.int .i64 z)) (s1 : aI env.P 107 [PI x, R2 hn hd] (.int .i64 σ)) :
  aI env.P 112 [.ag (PI x :: aJ zq c :: (c4 ln ld ++ c4 hn hd))] (.ag (PI x :: aJ zq c :: (c4 hn hd ++ c4 hn hd))) := by
 simp only [c4]
 refine aB (E := env) (fun _ => 0) [(0, .ag (PI x :: aJ zq c :: [aJ aF (aQ DD ln.natAbs), .bool (decide (ln < 0)), aJ aF (aQ DD ld.natAbs), .bool (decide (ld < 0)), aJ aF (aQ DD hn.natAbs), .bool (decide (hn < 0)), aJ aF (aQ DD hd.natAbs), .bool (decide (hd < 0))]))] Tryz.func112 rfl (by kernel_rfl) (by kernel_rfl) (show 1 ≤ 21 by decide) (by simp) ?_
 refine W.sr ?_
 simp (disch := omega) [gw]
 refine W.lx [1, 2] ?_; simp
 refine W.seq ?_
 refine W.sr ?_
 simp (disch := omega) [gw]
 refine aA c1 ?_
 simp (disch := omega) [gw, hz]
 refine aA s1 ?_
 simp (disch := omega) [gw, hs]
 refine W.lx [1, 2, 16] ?_; simp
 refine W.cond ⟨_, rfl, fun h => ?_, fun h => ?_⟩
 ·refine W.b8 (fun K hK => ?_); simp (disch := omega) [gw]
  refine W.lw [1, 2] hK ?_; clear hK K; simp
  refine W.sr ?_; simp (disch := omega) [gw]; refine W.lx [2] ?_; simp
  refine W.ret ?_
  simp [go]
 ·simp at h
theorem lP {f : ZX} {c : List ZX} {p : Rat × Rat} : QA f c p = .ag (PI f.l :: aJ zq c :: (c4 p.1.num p.1.den ++ c4 p.2.num p.2.den)) := rfl
theorem D7 {f : ZX} {c : List ZX} {p : Rat × Rat} {n u : Nat} (hb : BZ 4500000000 n f) (hn : n ≤ 20) (q1 : SQ u p.1) (q2 : SQ u p.2) (hu : u ≤ 1000000000) : aI env.P 112 [QA f c p] (QA f c (ex f p)) := by
 have c1 := kF p.1 p.2 (q1.yy hu) (q2.yy hu)
 have hmul : n * (u + 1) ≤ 20 * (u + 1) := Nat.mul_le_mul_right _ hn
 have s1 := qX hb q2.n2 q2.d2 q2.hu (by omega) (by show _ < 137438953472; omega)
 rw [kV] at s1
 rw [b9, b9] at c1
 by_cases h : p.1 = p.2
 ·have he : ex f p = p := by
   unfold ex; split
   ·exact Prod.ext h.symm rfl
   ·rfl
  rw [he, lP]
  exact OY (by rw [nI.2 h]; rfl) c1 s1
 ·have hz : (dC (p.1.num * p.2.den) (p.2.num * p.1.den) != 0) = true := bne_iff_ne.2 fun h0 => h (nI.1 h0)
  by_cases h2 : e p.2 f = 0
  ·rw [show ex f p = (p.2, p.2) from if_pos h2, lP, lP]
   exact VM hz (by rw [h2, jH]; rfl) c1 s1
  ·rw [show ex f p = p from if_neg h2, lP]
   exact abr hz (by simp only [beq_eq_false_iff_ne]; exact fun h0 => h2 (dH.1 h0)) c1 s1
theorem OZ {f : ZX} {c : List ZX} {lo hi : Rat} (B : aI env.P 59 [aJ zq c, RR lo, RR hi] (.int .i64 0)) : gG env.P 89 [PI f.l, aJ zq c, RR lo, RR hi] 68 10 [] := by
 rw [b9, b9] at B ⊢
 generalize lo.num = ln at *
 generalize (lo.den : Int) = ld at *
 generalize hi.num = hn at *
 generalize (hi.den : Int) = hd at *
 refine iJ (E := env) (fun id => if id = 7 then 2 else 0) (t := 8) [(0, PI f.l), (1, aJ zq c), (2, R2 ln ld), (3, R2 hn hd)] Tryz.func89 rfl (by kernel_rfl) (by kernel_rfl) (show 4 ≤ 40 by decide) rfl (by simp) ?_
 refine W.sr ?_; simp (disch := omega) [gw]; refine W.lx [0, 1, 6, 7] ?_; simp
 refine W.sr ?_
 simp (disch := omega) [gw]
 refine aA B ?_
 simp (disch := omega) [gw]
 refine W.lx [0, 1, 6, 7, 9] ?_; simp
 refine W.seq ?_
 refine W.sr ?_; simp (disch := omega) [gw]; refine W.lx [0, 1, 6, 7, 9, 16] ?_; simp
 refine W.cond ⟨_, rfl, fun h => ?_, fun h => ?_⟩
 ·refine W.sr ?_; simp (disch := omega) [gw]; refine W.lx [8] ?_; simp
  refine W.nil 8 8 68 10 (by simp) (by decide) (fun K hK => ?_)
  simp
  refine hK _ ?_
  refine W.ret ?_
  exact ⟨8, _, by simp; exact rfl, by simp, fun x hx => by cases hx⟩
 ·simp at h
theorem VN {f : ZX} {c : List ZX} {lo hi : Rat} (B : aI env.P 59 [aJ zq c, RR lo, RR hi] (.int .i64 1)) (X : aI env.P 112 [QA f c (lo, hi)] (QA f c (ex f (lo, hi)))) : gG env.P 89 [PI f.l, aJ zq c, RR lo, RR hi] 68 10 (emap (qa f c) [ex f (lo, hi)]) := by
 rw [show emap (qa f c) [ex f (lo, hi)] = [qa f c (ex f (lo, hi))] from rfl]
 rw [b9, b9] at *
 generalize hy : ex f (lo, hi) = y at *
 rw [lP, lP] at X
 rw [show qa f c y = PI f.l :: aJ zq c :: (c4 y.1.num y.1.den ++ c4 y.2.num y.2.den) from rfl]
 simp only [c4, List.cons_append, List.nil_append] at X ⊢
 clear hy
 generalize y.1.num = an at *
 generalize (y.1.den : Int) = ad at *
 generalize y.2.num = bn at *
 generalize (y.2.den : Int) = bd at *
 generalize lo.num = ln at *
 generalize (lo.den : Int) = ld at *
 generalize hi.num = hn at *
 generalize (hi.den : Int) = hd at *
 refine iJ (E := env) (fun id => if id = 7 then 2 else 0) (t := 8) [(0, PI f.l), (1, aJ zq c), (2, R2 ln ld), (3, R2 hn hd)] Tryz.func89 rfl (by kernel_rfl) (by kernel_rfl) (show 4 ≤ 40 by decide) rfl (by simp) ?_
 refine W.sr ?_; simp (disch := omega) [gw]; refine W.lx [0, 1, 6, 7] ?_; simp
 refine W.sr ?_
 simp (disch := omega) [gw]
 refine aA B ?_
 simp (disch := omega) [gw]
 refine W.lx [0, 1, 6, 7, 9] ?_; simp
 refine W.seq ?_
 refine W.sr ?_; simp (disch := omega) [gw]; refine W.lx [0, 1, 6, 7, 9, 16] ?_; simp
 refine W.cond ⟨_, rfl, fun h => ?_, fun h => ?_⟩
 ·simp at h
 refine W.skip ?_
 refine W.seq ?_
 refine W.sr ?_; simp (disch := omega) [gw]; refine W.lx [0, 1, 6, 7, 18] ?_; simp
 refine W.cond ⟨_, rfl, fun h => ?_, fun h => ?_⟩
 ·refine W.aaM 6 rfl rfl (fun K hK => ?_)
  simp (disch := omega) [gw]
  refine aA X ?_
  simp (disch := omega) [gw]
  refine W.lw [8] hK ?_; clear hK K; simp
  refine W.ret ?_
  exact ⟨25, _, by simp; exact rfl, by simp, fun x hx p hp => by
   simp at hx; subst hx
   simp at hp
   rcases hp with rfl | rfl | rfl | rfl | rfl | rfl | rfl | rfl | rfl | rfl <;> rfl⟩
 ·simp at h
theorem O0 {f : ZX} {c : List ZX} {lo hi : Rat} {n : Int} {la lb : List (Rat × Rat)} (hn : 2 ≤ n ∧ n ≤ 21) (M8 : la.length ≤ 21) (hlb : lb.length ≤ 21)
  (M : aI env.P 60 [RR lo, RR hi] (RR ((lo + hi) / 2))) (B : aI env.P 59 [aJ zq c, RR lo, RR hi] (.int .i64 n))
  (h1 : gG env.P 89 [PI f.l, aJ zq c, RR lo, RR ((lo + hi) / 2)] 68 10 (emap (qa f c) la)) (h2 : gG env.P 89 [PI f.l, aJ zq c, RR ((lo + hi) / 2), RR hi] 68 10 (emap (qa f c) lb)) :
  gG env.P 89 [PI f.l, aJ zq c, RR lo, RR hi] 68 10 (emap (qa f c) (la ++ lb)) := by
 rw [← wK]
 have el1 : (emap (qa f c) la).length ≤ 21 := by simpa [emap] using M8
 have el2 : (emap (qa f c) lb).length ≤ 21 := by simpa [emap] using hlb
 have p1 := R9 (f := f) (c := c) (l := la)
 have p2 := R9 (f := f) (c := c) (l := lb)
 have a1 : bB 10 (emap (qa f c) la) = True := D6
 have a2 : bB 10 (emap (qa f c) lb) = True := D6
 simp only [b9] at *
 generalize ((lo + hi) / 2).num = mn at *
 generalize (((lo + hi) / 2).den : Int) = md at *
 generalize lo.num = ln at *
 generalize (lo.den : Int) = ld at *
 generalize hi.num = uP at *
 generalize (hi.den : Int) = hd at *
 generalize emap (qa f c) la = ea at *
 generalize emap (qa f c) lb = eb at *
 refine iJ (E := env) (fun id => if id = 7 then 2 else 0) (t := 8) [(0, PI f.l), (1, aJ zq c), (2, R2 ln ld), (3, R2 uP hd)] Tryz.func89 rfl (by kernel_rfl) (by kernel_rfl) (show 4 ≤ 40 by decide) rfl (by simp) ?_
 refine W.sr ?_; simp (disch := omega) [gw]; refine W.lx [0, 1, 6, 7] ?_; simp
 refine W.sr ?_
 simp (disch := omega) [gw]
 refine aA B ?_
 simp (disch := omega) [gw]
 refine W.lx [0, 1, 6, 7, 9] ?_; simp
 refine W.seq ?_
 refine W.sr ?_; simp (disch := omega) [gw]; refine W.lx [0, 1, 6, 7, 9, 16] ?_; simp
 refine W.cond ⟨_, rfl, fun h => ?_, fun h => ?_⟩
 ·simp at h; omega
 refine W.skip ?_
 refine W.seq ?_
 refine W.sr ?_; simp (disch := omega) [gw]; refine W.lx [0, 1, 6, 7, 18] ?_; simp
 refine W.cond ⟨_, rfl, fun h => ?_, fun h => ?_⟩
 ·simp at h; omega
 refine W.skip ?_
 refine W.sr ?_
 simp (disch := omega) [gw]
 refine aA M ?_
 simp (disch := omega) [gw]
 refine W.lx [0, 1, 6, 7, 10] ?_; simp
 refine W.sd ?_
 rw [if_pos rfl, dQ]
 simp (disch := omega) [gw]
 refine CZ h1 rfl trivial ?_
 simp (disch := omega) [gw, eV]
 refine CZ h2 rfl trivial ?_
 simp (disch := omega) [gw, a1, a2, eV]
 refine W.lx [8] ?_; simp
 refine W.ret ?_
 exact ⟨33, _, by simp; exact rfl, by simp, fun x hx => by
  rcases List.mem_append.1 hx with hx | hx
  ·exact p1 x hx
  ·exact p2 x hx⟩
theorem Gr.add {D β j : Nat} {p q : Rat} (hp : Gr D (2 ^ β) j p) (hq : Gr D (2 ^ β) j q) : Gr D (2 ^ (β + 1)) j (p + q) := by
 obtain ⟨⟨y, hy⟩, b1, b2⟩ := hp
 obtain ⟨⟨z, hz⟩, b3, b4⟩ := hq
 refine ⟨⟨y + z, ?_⟩, ?_⟩
 ·rw [Rat.intCast_add, ← hy, ← hz]; grind
 ·rw [Rat.pow_succ]; exact ⟨by grind, by grind⟩
theorem VO {s n : Nat} {f : ZX} (I : mV s n f) {D d β J : Nat} {δ : Rat} (uU : 1 ≤ D) (hD : D ≤ 2 ^ d) (C : Cut (vt (bC f)) (2 ^ β) δ) (hu : β + 1 + d + J + 1 ≤ 1000000000) : ∀ (k j : Nat) (lo hi : Rat), j + k ≤ J → Gr D (2 ^ β) j lo → Gr D (2 ^ β) j hi → lo < hi → hi - lo ≤ δ * 2 ^ k →
  gG env.P 89 [PI f.l, aJ zq (bC f), RR lo, RR hi] 68 10 (emap (qa f (bC f)) ((LG (vt (bC f)) k lo hi).map (ex f))) := by
 have hbt : ∀ (j : Nat) (lo hi : Rat), j ≤ J → Gr D (2 ^ β) j lo → Gr D (2 ^ β) j hi → lo < hi → aI env.P 59 [aJ zq (bC f), RR lo, RR hi] (.int .i64 ((vt (bC f) lo : Int) - vt (bC f) hi)) := fun j lo hi hj g1 g2 eZ => by
  have := abk I.hb I.ch.hn I.hl ((g1.mono hj).sq uU hD) ((g2.mono hj).sq uU hD) (by omega)
  rwa [if_neg (Rat.not_lt.2 (Rat.le_of_lt eZ))] at this
 have leaf : ∀ (j : Nat) (lo hi : Rat), j ≤ J → Gr D (2 ^ β) j lo → Gr D (2 ^ β) j hi → lo < hi → vt (bC f) lo = vt (bC f) hi + 1 → gG env.P 89 [PI f.l, aJ zq (bC f), RR lo, RR hi] 68 10 (emap (qa f (bC f)) ([(lo, hi)].map (ex f))) := fun j lo hi hj g1 g2 eZ he => by
  have h1 := hbt j lo hi hj g1 g2 eZ
  rw [show (vt (bC f) lo : Int) - vt (bC f) hi = 1 by omega] at h1
  exact VN h1 (D7 (I.ch.bz.mono (by have := I.hs; omega) (Nat.le_refl _)) I.ch.hn ((g1.mono hj).sq uU hD) ((g2.mono hj).sq uU hD) (by omega))
 have KT : ∀ (j : Nat) (lo hi : Rat), j ≤ J → Gr D (2 ^ β) j lo → Gr D (2 ^ β) j hi → lo < hi → vt (bC f) lo = vt (bC f) hi → gG env.P 89 [PI f.l, aJ zq (bC f), RR lo, RR hi] 68 10 (emap (qa f (bC f)) ([].map (ex f))) := fun j lo hi hj g1 g2 eZ he => by
  have h1 := hbt j lo hi hj g1 g2 eZ
  rw [show (vt (bC f) lo : Int) - vt (bC f) hi = 0 by omega] at h1
  exact OZ h1
 intro k
 induction k with
 | zero =>
  intro j lo hi hj g1 g2 eZ hd
  rw [LG]
  by_cases he : vt (bC f) lo = vt (bC f) hi
  ·rw [if_pos he]; exact KT j lo hi (by omega) g1 g2 eZ he
  ·rw [if_neg he]; exact leaf j lo hi (by omega) g1 g2 eZ (C.leaf g1.b g2.b eZ (by rw [Rat.pow_zero, Rat.mul_one] at hd; exact hd) he)
 | succ k ih =>
  intro j lo hi hj g1 g2 eZ hd
  rw [LG]
  by_cases he : vt (bC f) lo = vt (bC f) hi
  ·rw [if_pos he]; exact KT j lo hi (by omega) g1 g2 eZ he
  ·rw [if_neg he]
   by_cases DQ : vt (bC f) lo = vt (bC f) hi + 1
   ·rw [if_pos DQ]; exact leaf j lo hi (by omega) g1 g2 eZ DQ
   ·rw [if_neg DQ]
    obtain ⟨m1, m2⟩ := vN eZ
    obtain ⟨d1, d2⟩ := uJ hd
    have gm := g1.G4 g2
    have n1 := C.dP lo ((lo + hi) / 2) (Rat.le_of_lt m1)
    have n2 := C.dP ((lo + hi) / 2) hi (Rat.le_of_lt m2)
    have hv1 := Nat.le_trans (abb (bC f) lo) I.hl
    obtain ⟨_, a2, _⟩ := oI C k (j + 1) lo ((lo + hi) / 2) (g1.mono (by omega)) gm m1 d1
    obtain ⟨_, b2, _⟩ := oI C k (j + 1) ((lo + hi) / 2) hi gm (g2.mono (by omega)) m2 d2
    have r1 := ih (j + 1) lo ((lo + hi) / 2) (by omega) (g1.mono (by omega)) gm m1 d1
    have r2 := ih (j + 1) ((lo + hi) / 2) hi (by omega) gm (g2.mono (by omega)) m2 d2
    have q1 : SQ (β + 1 + d + J + 1) lo := ((g1.mono (show j ≤ J by omega)).sq uU hD).mono (by omega)
    have q2 : SQ (β + 1 + d + J + 1) hi := ((g2.mono (show j ≤ J by omega)).sq uU hD).mono (by omega)
    have q3 : SQ (β + 1 + d + J + 1) (lo + hi) := ((g1.add g2).mono (show j ≤ J by omega)).sq uU hD
    have hM := KP (q1.yy hu) (q2.yy hu) (q3.yy hu)
    have hB := hbt j lo hi (by omega) g1 g2 eZ
    rw [List.map_append]
    exact O0 (n := (vt (bC f) lo : Int) - vt (bC f) hi) (by omega) (by rw [List.length_map]; omega) (by rw [List.length_map]; omega) hM hB r1 r2
def lvl (s n : Nat) : Nat := lk s n 5 (s + 1) + s + 2
theorem O1 {s n : Nat} (hn : n ≤ 20) : lvl s n ≤ 102 * s + 700 := by
 have h1 : (n + n) * (s + 5 + 1 + (5 + 1)) ≤ 40 * (s + 12) := Nat.mul_le_mul (by omega) (by omega)
 have h2 : (n + n) * (s + 1 + 2) ≤ 40 * (s + 3) := Nat.mul_le_mul (by omega) (by omega)
 have h3 : n * (s + 1 + 2) ≤ 20 * (s + 3) := Nat.mul_le_mul hn (by omega)
 unfold lvl lk sk
 omega
def uu (s : Nat) : Nat := 105 * s + 800
namespace mV
variable {s n : Nat} {f : ZX} (I : mV s n f)
include I
theorem f0 : f.l ≠ [] := tX I.nf.ne
theorem qB : 1 ≤ (lead f.l).natAbs ∧ (lead f.l).natAbs ≤ 2 ^ s := by
 have h1 := cD f.c (List.length_pos_iff.2 I.f0)
 have h2 := lF (b := 2) (by decide) (lead f.l)
 have h3 := Nat.pow_le_pow_right (show 0 < 2 by decide) (eT I.ch.bz)
 omega
theorem ap4 : 1 ≤ iY f.l := (GQ f.c I.f0 (t := iY f.l) (.inr Rat.le_refl)).2
theorem abt : Ab (iY f.l) (2 ^ (s + 1)) := by
 have h1 := AU f.c I.f0
 have hL : (1 : Rat) ≤ (((lead f.l).natAbs : Int) : Rat) := eD (by have := I.qB.1; omega)
 have h2 := Rat.div_mul_cancel (a := ((kL f.l (f.l.length - 1) : Int) : Rat)) (b := (((lead f.l).natAbs : Int) : Rat)) (by grind)
 have h3 := I.ap4
 have h4 : ((kL f.l (f.l.length - 1) : Int) : Rat) ≤ 2 ^ s := by
  have h5 := lF (b := 2) (by decide) (kL f.l (f.l.length - 1))
  have h6 := Nat.pow_le_pow_right (show 0 < 2 by decide) (vI I.ch.bz (f.l.length - 1))
  exact (KR (s := s) (by omega)).2
 have h7 := vK s
 rw [Rat.pow_succ]
 generalize (2 : Rat) ^ s = T at *
 generalize ((kL f.l (f.l.length - 1) : Int) : Rat) = m at *
 have hw : m / (((lead f.l).natAbs : Int) : Rat) ≤ T := by
  refine Rat.not_lt.1 fun h => ?_
  have h8 := Rat.mul_le_mul_of_nonneg_left hL (show 0 ≤ m / (((lead f.l).natAbs : Int) : Rat) by grind)
  grind
 exact ⟨by grind, by grind⟩
theorem A3 : Gr (lead f.l).natAbs (2 ^ (s + 1)) 0 (iY f.l) := by
 refine ⟨⟨((lead f.l).natAbs : Int) + kL f.l (f.l.length - 1), ?_⟩, I.abt⟩
 have hL : (1 : Rat) ≤ (((lead f.l).natAbs : Int) : Rat) := eD (by have := I.qB.1; omega)
 have h1 := AU f.c I.f0
 have h2 := Rat.div_mul_cancel (a := ((kL f.l (f.l.length - 1) : Int) : Rat)) (b := (((lead f.l).natAbs : Int) : Rat)) (by grind)
 rw [Nat.pow_zero, Nat.mul_one, Rat.intCast_add, h1]
 grind
theorem GR : Gr (lead f.l).natAbs (2 ^ (s + 1)) 0 (-iY f.l) := by
 obtain ⟨⟨z, hz⟩, h1, h2⟩ := I.A3
 exact ⟨⟨-z, by rw [Rat.intCast_neg, ← hz]; grind⟩, by grind, by grind⟩
theorem count : (vr (RM (bC f)) : Int) - vr (RN (bC f)) = (vt (bC f) (-iY f.l) : Int) - vt (bC f) (iY f.l) := by
 have hG := I.VH
 have h1 : vr (RN (bC f)) = vt (bC f) (iY f.l) := ON hG fun b => ⟨1, by decide, fun x h2 _ => (GQ f.c I.f0 (.inr h2)).1⟩
 have h2 : vr (RM (bC f)) = vt (bC f) (-iY f.l) := VI hG fun b => ⟨1, by decide, fun x _ h2 => (GQ f.c I.f0 (.inl h2)).1⟩
 rw [h1, h2]
theorem SA : -iY f.l < iY f.l := by have := I.ap4; grind
end mV
def A4 (s n : Nat) (f : ZX) : List (Rat × Rat) := LG (vt (bC f)) (lvl s n) (-iY f.l) (iY f.l)
structure Ivs (f : ZX) (u : Nat) (lo hi : Rat) (l : List (Rat × Rat)) : Prop where
 mem : ∀ p ∈ l, SQ u p.1 ∧ SQ u p.2 ∧ lo ≤ p.1 ∧ p.1 < p.2 ∧ p.2 ≤ hi ∧ vt (bC f) p.1 = vt (bC f) p.2 + 1
 len : l.length = vt (bC f) lo - vt (bC f) hi
 srt : l.Pairwise fun p q => p.2 ≤ q.1
theorem mV.width {s n : Nat} {f : ZX} (I : mV s n f) {δ : Rat} (hδ : δ * 2 ^ lk s n 5 (s + 1) = 1) : iY f.l - -iY f.l ≤ δ * 2 ^ lvl s n := by
 have h1 := I.abt.2
 unfold lvl
 rw [show lk s n 5 (s + 1) + s + 2 = lk s n 5 (s + 1) + (s + 1 + 1) by omega, oF, ← Rat.mul_assoc, hδ, Rat.one_mul, Rat.pow_succ]
 grind
theorem mV.ivs {s n : Nat} {f : ZX} (I : mV s n f) : Ivs f (uu s) (-iY f.l) (iY f.l) (A4 s n f) := by
 obtain ⟨δ, h1, h2, C⟩ := I.cut (s + 1)
 have hl := O1 (s := s) I.ch.hn
 obtain ⟨a1, a2, a3⟩ := oI C (lvl s n) 0 _ _ I.GR I.A3 I.SA (I.width h2)
 refine ⟨fun p hp => ?_, a2, a3⟩
 obtain ⟨b1, b2, b3⟩ := a1 p hp
 obtain ⟨l1, l2⟩ := I.qB
 exact ⟨(b1.sq l1 l2).mono (by unfold uu; omega), (b2.sq l1 l2).mono (by unfold uu; omega), b3⟩
theorem GS {s n : Nat} {f : ZX} (I : mV s n f) : (A4 s n f).length ≤ 21 := by
 have := I.ivs.len
 have h1 := Nat.le_trans (abb (bC f) (-iY f.l)) I.hl
 omega
theorem O2 {α : Type} {g : α → List PV} {l : List α} {s n : Nat} {f : ZX} (hS : aI env.P 83 [aJ g l] (Po f.l)) (I : mV s n f) : aI env.P 21 [aJ g l] (.eP [aJ (ga f) (A4 s n f), .int .i64 0]) := by
 have hs := I.hs
 have hn := I.ch.hn
 have N1 := RS hS I.ch I.nf
 have P1 := fG (x := f.l) (I.ch.bz.pb (by omega) (by omega))
 rw [f.c] at P1
 have B1 := OP P1 f.c I.f0 (G6 I.ch.bz) (by omega) (by omega)
 obtain ⟨l1, l2⟩ := I.qB
 have qb := (I.A3.sq l1 l2).mono (show s + 1 + s + 0 + 1 ≤ uu s by unfold uu; omega)
 have hu : uu s ≤ 1000000000 := by unfold uu; omega
 have M1 := VJ (qb.LLt (show uu s < 1099511627770 by omega))
 have C1 := OI (c := bC f) (by have := I.hl; omega) (pbs I.hb hn)
 rw [I.count] at C1
 obtain ⟨δ, h1, h2, C⟩ := I.cut (s + 1)
 have hl := O1 (s := s) hn
 have R1 := abn I l1 l2 C (J := lvl s n) (by omega) (lvl s n) 0 _ _ (by omega) I.GR I.A3 I.SA (I.width h2)
 rw [show LG (vt (bC f)) (lvl s n) (-iY f.l) (iY f.l) = A4 s n f from rfl] at R1
 have hlen := GS I
 have el : (emap (ga f) (A4 s n f)).length ≤ 21 := by simpa [emap] using hlen
 have pe := GN (f := f) (l := A4 s n f)
 have a1 : bB 9 (emap (ga f) (A4 s n f)) = True := vO
 replace B1 : aI env.P 84 [Po f.l] (.eP [T2 (iY f.l).num (iY f.l).den, .int .i64 0]) := B1
 replace M1 : aI env.P 86 [T2 (iY f.l).num (iY f.l).den] (T2 (-iY f.l).num (-iY f.l).den) := M1
 replace R1 : gG env.P 85 [Po f.l, CH (bC f), T2 (-iY f.l).num (-iY f.l).den, T2 (iY f.l).num (iY f.l).den, .int .i64 ((vt (bC f) (-iY f.l) : Int) - vt (bC f) (iY f.l))] 44 9 (emap (ga f) (A4 s n f)) := R1
 generalize A4 s n f = L at *
 generalize (vt (bC f) (-iY f.l) : Int) - vt (bC f) (iY f.l) = cn at *
 generalize bC f = c at *
 generalize (-iY f.l).num = mn at *
 generalize ((-iY f.l).den : Int) = md at *
 generalize (iY f.l).num = bn at *
 generalize ((iY f.l).den : Int) = bd at *
 refine aB (E := env) (fun _ => 0) [(0, aJ g l)] Tryz.func21 rfl (by kernel_rfl) (by kernel_rfl) (show 1 ≤ 32 by decide) (by simp) ?_
 refine W.sr ?_; simp (disch := omega) [gw]; refine W.lx [0] ?_; simp
 refine W.sr ?_
 simp (disch := omega) [gw]
 refine aA N1 ?_
 simp (disch := omega) [gw]
 refine W.lx [0, 4, 5] ?_; simp
 refine W.seq ?_
 refine W.sr ?_; simp (disch := omega) [gw]; refine W.lx [0, 4, 5, 15] ?_; simp
 refine W.cond ⟨_, rfl, fun h => ?_, fun h => ?_⟩
 ·simp at h
 refine W.skip ?_
 refine W.sr ?_
 simp (disch := omega) [gw]
 refine aA hS ?_
 simp (disch := omega) [gw]
 refine W.lx [4, 6] ?_; simp
 refine W.sr ?_
 simp (disch := omega) [gw]
 refine aA B1 ?_
 simp (disch := omega) [gw]
 refine W.lx [4, 6, 7] ?_; simp
 refine W.sd ?_
 simp (disch := omega) [gw]
 refine aA M1 ?_
 simp (disch := omega) [gw]
 refine aA C1 ?_
 simp (disch := omega) [gw]
 refine CZ R1 rfl trivial ?_
 simp (disch := omega) [gw]
 refine W.lx [2, 3] ?_; simp
 refine W.E8 31 (by simp) (fun K hK => ?_)
 simp
 refine hK _ ?_
 refine W.ret ?_
 simp [go]
theorem O3 {x : List Int} {s n : Nat} {f : ZX} (hS : aI env.P 26 [PI x] (PI f.l)) (hC : aI env.P 57 [PI x] (aJ zq (bC f))) (I : mV s n f) (qO : 1 ≤ s) : aI env.P 24 [PI x] (aJ (qa f (bC f)) ((A4 s n f).map (ex f))) := by
 have hs := I.hs
 have hn := I.ch.hn
 have B1 := OR f.c I.f0 I.ch.bz qO (by omega) (by omega)
 obtain ⟨l1, l2⟩ := I.qB
 have M1 := zY (iY f.l)
 obtain ⟨δ, h1, h2, C⟩ := I.cut (s + 1)
 have hl := O1 (s := s) hn
 have R1 := VO I l1 l2 C (J := lvl s n) (by omega) (lvl s n) 0 _ _ (by omega) I.GR I.A3 I.SA (I.width h2)
 rw [show LG (vt (bC f)) (lvl s n) (-iY f.l) (iY f.l) = A4 s n f from rfl] at R1
 have hlen := GS I
 rw [b9] at B1 M1
 rw [b9] at M1
 simp only [b9] at R1
 generalize (A4 s n f).map (ex f) = L at *
 generalize bC f = c at *
 generalize (-iY f.l).num = mn at *
 generalize ((-iY f.l).den : Int) = md at *
 generalize (iY f.l).num = bn at *
 generalize ((iY f.l).den : Int) = bd at *
 refine aB (E := env) (fun _ => 0) [(0, PI x)] Tryz.func24 rfl (by kernel_rfl) (by kernel_rfl) (show 1 ≤ 18 by decide) (by simp) ?_
 refine W.sr ?_; simp (disch := omega) [gw]; refine W.lx [0] ?_; simp
 refine W.sr ?_
 simp (disch := omega) [gw]
 refine aA hS ?_
 simp (disch := omega) [gw]
 refine W.lx [0, 3] ?_; simp
 refine W.sr ?_
 simp (disch := omega) [gw]
 refine aA hC ?_
 simp (disch := omega) [gw]
 refine W.lx [3, 4] ?_; simp
 refine W.sr ?_
 simp (disch := omega) [gw]
 refine aA B1 ?_
 simp (disch := omega) [gw]
 refine W.lx [3, 4, 5] ?_; simp
 refine W.sd ?_
 simp (disch := omega) [gw]
 refine aA M1 ?_
 simp (disch := omega) [gw]
 refine CZ R1 rfl trivial ?_
 simp (disch := omega) [gw]
 refine W.lx [2] ?_; simp
 refine W.E8 17 (by simp) (fun K hK => ?_)
 simp
 refine hK _ ?_
 refine W.ret ?_
 simp [go]
end Go.Proofs.YtbbjgncblhfegaaGreat
namespace Go.Proofs.YtbbjgncblhfegaaGreat
open Go Pm
open ZX hiding N W
theorem akp (f : ZX) : nl f = 1 ↔ 2 ≤ ZX.N f ∧ ZX.N (gz f (bK f)) ≤ 1 := by
 obtain ⟨h1, h2⟩ := jF f
 refine ⟨fun h => ?_, fun ⟨h3, h4⟩ => ?_⟩
 ·rw [h] at h1 h2
  exact ⟨h2 0 (by omega), h1⟩
 ·have h5 : 0 < nl f := apw fun j hj => by rw [show j = 0 by omega]; exact h3
  rcases Nat.lt_or_ge 1 (nl f) with h6 | h6
  ·have h7 : 2 ≤ ZX.N (gz f (bK f)) := h2 1 h6
   omega
  ·omega
abbrev GA (f : ZX) (p : Rat × Rat) : PV := .ag (ga f p)
namespace mV
variable {s n : Nat} {f : ZX} (I : mV s n f)
include I
theorem ag8 : aI env.P 32 [Po f.l] (PI f.l) := by
 have hs := I.hs
 have hn := I.ch.hn
 have b := G6 I.ch.bz
 have := UL (f.l.map rC) ⟨fun c hc => by
  simp only [List.mem_map] at hc
  obtain ⟨x, hx, rfl⟩ := hc
  exact ⟨eS fS _, Nat.lt_of_le_of_lt (b.sz x hx) (by omega)⟩, by rw [List.length_map]; exact Nat.lt_of_le_of_lt b.len (by omega)⟩
 rw [bP, ← iA, show aM f.l = f.l from f.c] at this
 exact this
theorem ap5 : aI env.P 111 [PI f.l] (PI f.l) := by
 have := j2 I.ch.bz I.s1 (by have := I.hs; show s ≤ 137438953472; omega) (by have := I.ch.hn; omega)
 rwa [I.nf.nfe] at this
theorem SB : aI env.P 26 [PI f.l] (PI f.l) := by
 have := uC I.lay I.s1
 rwa [I.sq] at this
theorem GU : aI env.P 57 [PI f.l] (aJ zq (bC f)) := wZ I.SB I.ch I.s1
theorem aeW : aI env.P 83 [Po f.l] (Po f.l) := by
 have := AK I.lay
 rwa [I.sq] at this
theorem ag9 {u : Nat} {t : Rat} (q : SQ u t) (hu : u ≤ 1000000000) : aI env.P 107 [PI f.l, RR t] (.int .i64 (bT (e t f))) := by
 have hs := I.hs
 have hn := I.ch.hn
 have hmul : n * (u + 1) ≤ 20 * (u + 1) := Nat.mul_le_mul_right _ hn
 have s1 := qX I.ch.bz q.n2 q.d2 q.hu (by omega) (by show _ < 137438953472; omega)
 rw [kV] at s1
 rw [b9]
 exact s1
theorem uK {u : Nat} {p q : Rat} (hp : SQ u p) (hq : SQ u q) (hu : u ≤ 1000000000) : aI env.P 59 [aJ zq (bC f), RR p, RR q] (.int .i64 (if q < p then 0 else (vt (bC f) p : Int) - vt (bC f) q)) := abk I.hb I.ch.hn I.hl hp hq hu
theorem abu {u : Nat} {p : Rat × Rat} (q1 : SQ u p.1) (q2 : SQ u p.2) (hu : u ≤ 1000000000) : aI env.P 112 [QA f (bC f) p] (QA f (bC f) (ex f p)) := D7 (I.ch.bz.mono (by have := I.hs; omega) (Nat.le_refl _)) I.ch.hn q1 q2 hu
end mV
theorem SQ.SC {u : Nat} {q : Rat} (h : SQ u q) (hu : u ≤ 1000000000) : aI env.P 28 [RT q] (RR q) := VK (h.LLt (by omega)) ⟨by have := h.n2; show _ < 549755813888; omega, by have := h.d2; show _ < 549755813888; omega⟩
theorem mV.ap6 {s n : Nat} {f : ZX} (I : mV s n f) {u : Nat} {p : Rat × Rat} (q1 : SQ u p.1) (q2 : SQ u p.2) (hu : u ≤ 1000000000) : aI env.P 41 [GA f p] (QA f (bC f) (ex f p)) := by
 have f1 := I.ag8
 have f2 := I.ap5
 have f3 := I.GU
 have f4 := q1.SC hu
 have f5 := q2.SC hu
 have f6 := I.abu q1 q2 hu
 generalize ex f p = y at *
 rw [b9] at f4 f5
 rw [lP, lP] at f6
 rw [lP]
 replace f4 : aI env.P 28 [T2 p.1.num p.1.den] (R2 p.1.num p.1.den) := f4
 replace f5 : aI env.P 28 [T2 p.2.num p.2.den] (R2 p.2.num p.2.den) := f5
 show aI env.P _ [.ag (Po f.l :: (tc p.1 ++ tc p.2))] _
 simp only [c4, tc, List.cons_append, List.nil_append] at f6 ⊢
 generalize bC f = c at *
 generalize p.1.num = an at *
 generalize (p.1.den : Int) = ad at *
 generalize p.2.num = bn at *
 generalize (p.2.den : Int) = bd at *
 generalize y.1.num = yn at *
 generalize (y.1.den : Int) = yd at *
 generalize y.2.num = zn at *
 generalize (y.2.den : Int) = zd at *
 refine aB (E := env) (fun _ => 0) [(0, .ag [Po f.l, .bool (decide (an < 0)), us (aQ LL an.natAbs), .bool (decide (ad < 0)), us (aQ LL ad.natAbs), .bool (decide (bn < 0)), us (aQ LL bn.natAbs), .bool (decide (bd < 0)), us (aQ LL bd.natAbs)])] Tryz.func41 rfl (by kernel_rfl) (by kernel_rfl) (show 1 ≤ 19 by decide) (by simp) ?_
 refine W.sr ?_; simp (disch := omega) [gw]; refine W.lx [1, 2] ?_; simp
 refine W.sr ?_
 simp (disch := omega) [gw]
 refine aA f1 ?_
 simp (disch := omega) [gw]
 refine aA f2 ?_
 simp (disch := omega) [gw]
 refine W.lx [1, 2, 3] ?_; simp
 refine W.sd ?_
 simp (disch := omega) [gw]
 refine aA f3 ?_
 simp (disch := omega) [gw]
 refine aA f4 ?_
 simp (disch := omega) [gw]
 refine aA f5 ?_
 simp (disch := omega) [gw]
 refine aA f6 ?_
 simp (disch := omega) [gw]
 (try (refine bN (of_decide_eq_true (by kernel_rfl)) ?_)); (try simp (maxSteps := 4000000) (disch := omega) [gw]); (repeat rw [if_pos (by kernel_rfl)]); (try simp (maxSteps := 4000000) (disch := omega) [gw])
 refine W.lx [2] ?_; simp
 refine W.ret ?_
 simp [go]
theorem qC {f : ZX} {c : List ZX} {p : Rat × Rat} {u : Nat} (q1 : SQ u p.1) (q2 : SQ u p.2) (hu : u ≤ 1000000000) : aI env.P 113 [QA f c p] (.bool (decide (p.1 = p.2))) := by
 have c1 := kF p.1 p.2 (q1.yy hu) (q2.yy hu)
 have e : decide (p.1 = p.2) = (dC (p.1.num * p.2.den) (p.2.num * p.1.den) == 0) := by
  rw [Bool.eq_iff_iff]; simp only [decide_eq_true_eq, beq_iff_eq]; exact nI.symm
 rw [e, lP]
 rw [b9, b9] at c1
 simp only [c4, List.cons_append, List.nil_append]
 generalize dC (p.1.num * p.2.den) (p.2.num * p.1.den) = z at *
 generalize p.1.num = an at *
 generalize (p.1.den : Int) = ad at *
 generalize p.2.num = bn at *
 generalize (p.2.den : Int) = bd at *
 refine aB (E := env) (fun _ => 0) [(0, .ag [PI f.l, aJ zq c, aJ aF (aQ DD an.natAbs), .bool (decide (an < 0)), aJ aF (aQ DD ad.natAbs), .bool (decide (ad < 0)), aJ aF (aQ DD bn.natAbs), .bool (decide (bn < 0)), aJ aF (aQ DD bd.natAbs), .bool (decide (bd < 0))])] Tryz.func113 rfl (by kernel_rfl) (by kernel_rfl) (show 1 ≤ 9 by decide) (by simp) ?_
 refine W.sr ?_
 simp (disch := omega) [gw]
 refine W.lx [1] ?_; simp
 refine W.sr ?_
 simp (disch := omega) [gw]
 refine aA c1 ?_
 simp (disch := omega) [gw]
 refine W.lx [2] ?_; simp
 refine W.ret ?_
 simp [go]
end Go.Proofs.YtbbjgncblhfegaaGreat
