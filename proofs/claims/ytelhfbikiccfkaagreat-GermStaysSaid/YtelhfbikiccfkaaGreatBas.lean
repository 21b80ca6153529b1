import Derived.Test.YtelhfbikiccfkaaGreatBap
import Derived.Test.YtelhfbikiccfkaaGreatBar
set_option linter.unusedSimpArgs false
set_option linter.unusedVariables false
namespace Go.Proofs.YtelhfbikiccfkaaGreat
open Go Pm
open ZX hiding N W
theorem xT {u : Nat} (q : ZX) {s' k : Nat} (bq : BZ s' k q) (hs : s' ≤ 1000000000) (hk : k ≤ 100) {t : Rat} (qt : SQ u t) (hu : u ≤ 1000000000) : aG env.P 91 [Po q.l, RT t] (.int .i64 (bG (e t q))) := by
 have hm : k * (u + 1) ≤ 100 * (u + 1) := Nat.mul_le_mul_right _ hk
 have k2 := xM (EN bq) q.c qt.nL qt.dL qt.hu (by omega) (by omega) (by omega) (c7 t) ⟨qt.nL, qt.dL⟩
 rwa [j3] at k2
section
variable {s n u : Nat} {f : ZX} (I : j4 s n f)
include I
theorem VG (hs : s ≤ 1000000) {t : Rat} (qt : SQ u t) (hu : u ≤ 1000000000) : aG env.P 236 [Po f.l, RT t] (.int .i64 (wX f t)) := by
 have hn := I.ch.hn
 have h1 := xT f I.ch.bz (by omega) (by omega) qt hu
 have h2 := pH I.ch.bz (by omega) (by omega)
 have h3 := xT (bI f) (I.ch.bz.bI (by omega)) (by omega) (by omega) qt hu
 have := ac7 (n := t.num) (d := t.den) h1 h2 h3
 have e1 : (if bG (e t f) = 0 then bG (e t (bI f)) else bG (e t f)) = wX f t := by
  unfold wX
  by_cases h : e t f = 0
  ·rw [if_pos h, if_pos (by rw [h, eV])]
  ·rw [if_neg h, if_neg (fun h0 => h (cP.1 h0))]
 rw [e1] at this
 exact this
theorem amo (hs : s ≤ 1000000) {p : Rat × Rat} (A : sJ f (vt (aU f)) p.1 p.2) {m : Rat} (h1 : p.1 < m) (h2 : m ≤ p.2) (q1 : SQ u p.1) (q2 : SQ u p.2) (qm : SQ u m) (hu : u ≤ 1000000000) :
  aG env.P 205 [GA f p, RT m] (.int .i64 (if e m f = 0 then 0 else if vt (aU f) m < vt (aU f) p.1 then -1 else 1)) := by
 have cW : p.1 < p.2 := by grind
 have z0 := kU q1.nL q1.dL q2.nL q2.dL (by omega) (c7 p.1) (c7 p.2) ⟨q1.nL, q1.dL⟩ ⟨q2.nL, q2.dL⟩
 have z1 := kU qm.nL qm.dL q1.nL q1.dL (by omega) (c7 m) (c7 p.1) ⟨qm.nL, qm.dL⟩ ⟨q1.nL, q1.dL⟩
 have z2 := kU qm.nL qm.dL q2.nL q2.dL (by omega) (c7 m) (c7 p.2) ⟨qm.nL, qm.dL⟩ ⟨q2.nL, q2.dL⟩
 have hp := uP (x := f.l) z0
 have n3 : ¬ 0 ≤ dQ (p.1.num * (p.2.den : Int)) (p.2.num * (p.1.den : Int)) := by have := (oR (p := p.1) (q := p.2)).2 cW; omega
 rw [decide_eq_false n3] at hp
 have MT := xT f I.ch.bz (by omega) (by have := I.ch.hn; omega) qm hu
 have hlw := VG I hs q1 hu
 refine NP hp z1 z2 MT hlw ?_
 have g1 : ¬ dQ (m.num * (p.1.den : Int)) (p.1.num * (m.den : Int)) ≤ 0 := fun h => absurd (NH.1 h) (Rat.not_le.2 h1)
 have g2 : ¬ 0 < dQ (m.num * (p.2.den : Int)) (p.2.num * (m.den : Int)) := fun h => absurd (sL.1 h) (Rat.not_lt.2 h2)
 have JL := I.S.par (Rat.le_of_lt h1)
 have hv : vt (aU f) p.1 = vt (aU f) p.2 + 1 := by
  rcases A.k with ⟨h, _⟩ | ⟨_, h⟩
  ·rw [h] at cW; exact absurd cW Rat.lt_irrefl
  ·exact h
 have m1 := I.S.bX (Rat.le_of_lt h1)
 have m2 := I.S.bX h2
 rw [if_neg g1, if_neg g2]
 by_cases h0 : e m f = 0
 ·rw [if_pos h0, if_pos (by rw [h0, eV])]
 ·have h3 : ¬ bG (e m f) = 0 := fun h => h0 (cP.1 h)
  rw [if_neg h0, if_neg h3]
  have h4 : wX f m = bG (e m f) := by unfold wX; rw [if_neg h0]
  rw [h4] at JL
  by_cases h5 : vt (aU f) m < vt (aU f) p.1
  ·rw [if_pos h5, if_neg]
   intro h6
   rw [show vt (aU f) p.1 - vt (aU f) m = 1 by omega, show sH 1 = -1 from rfl] at JL
   omega
  ·rw [if_neg h5, if_pos]
   rw [show vt (aU f) p.1 - vt (aU f) m = 0 by omega, show sH 0 = 1 from rfl, Int.one_mul] at JL
   exact JL
end
def EW (f : ZX) (p : Rat × Rat) : Rat × Rat := if p.1 < p.2 then (if e ((p.1 + p.2) / 2) f = 0 then ((p.1 + p.2) / 2, (p.1 + p.2) / 2) else if vt (aU f) ((p.1 + p.2) / 2) < vt (aU f) p.1 then (p.1, (p.1 + p.2) / 2) else ((p.1 + p.2) / 2, p.2)) else p
theorem adb {s n u : Nat} {f : ZX} (I : j4 s n f) (hs : s ≤ 1000000) {p : Rat × Rat} (A : sJ f (vt (aU f)) p.1 p.2) (q1 : SQ u p.1) (q2 : SQ u p.2) (qm : SQ u ((p.1 + p.2) / 2)) (hu : u ≤ 1000000000) : aG env.P 187 [GA f p] (GA f (EW f p)) := by
 have z0 := kU q1.nL q1.dL q2.nL q2.dL (by omega) (c7 p.1) (c7 p.2) ⟨q1.nL, q1.dL⟩ ⟨q2.nL, q2.dL⟩
 have hp := uP (x := f.l) z0
 unfold EW
 by_cases cW : p.1 < p.2
 ·rw [if_pos cW]
  have n3 : ¬ 0 ≤ dQ (p.1.num * (p.2.den : Int)) (p.2.num * (p.1.den : Int)) := by have := (oR (p := p.1) (q := p.2)).2 cW; omega
  rw [decide_eq_false n3] at hp
  obtain ⟨m1, m2⟩ := oD cW
  have hm := M7 (q1.LLs (Nat.le_refl _)) (q2.LLs (Nat.le_refl _)) (by omega)
  have hc := amo I hs A m1 (Rat.le_of_lt m2) q1 q2 qm hu
  generalize (p.1 + p.2) / 2 = m at *
  have k := YN hp hm hc
  by_cases h0 : e m f = 0
  ·rw [if_pos h0, if_pos rfl] at k
   rw [if_pos h0]; exact k
  ·rw [if_neg h0] at k
   rw [if_neg h0]
   by_cases h5 : vt (aU f) m < vt (aU f) p.1
   ·rw [if_pos h5, if_neg (by decide), if_pos rfl] at k
    rw [if_pos h5]; exact k
   ·rw [if_neg h5, if_neg (by decide), if_neg (by decide)] at k
    rw [if_neg h5]; exact k
 ·rw [if_neg cW]
  have n3 : 0 ≤ dQ (p.1.num * (p.2.den : Int)) (p.2.num * (p.1.den : Int)) := by
   have := mt (oR (p := p.1) (q := p.2)).1 cW; omega
  rw [decide_eq_true n3] at hp
  exact ac9 hp
theorem ade {f : ZX} {p : Rat × Rat} (A : sJ f (vt (aU f)) p.1 p.2) : sJ f (vt (aU f)) (EW f p).1 (EW f p).2 ∧ (∀ t, eO f (EW f p) t ↔ eO f p t) ∧ p.1 ≤ (EW f p).1 ∧ (EW f p).2 ≤ p.2 ∧ ((EW f p).2 - (EW f p).1) * 2 ≤ p.2 - p.1 := by
 unfold EW
 by_cases cW : p.1 < p.2
 ·rw [if_pos cW]
  obtain ⟨m1, m2⟩ := oD cW
  obtain ⟨d1, d2⟩ := A.half m1 m2
  have e2 : (p.1 + p.2) / 2 * 2 = p.1 + p.2 := Rat.div_mul_cancel (by decide)
  have hr := fun h0 => A.S.root m2 (t := p.2) (s := (p.1 + p.2) / 2) h0
  generalize (p.1 + p.2) / 2 = m at *
  by_cases h0 : e m f = 0
  ·rw [if_pos h0]
   have h5 : vt (aU f) m < vt (aU f) p.1 := by
    have hv : vt (aU f) p.1 = vt (aU f) p.2 + 1 := by
     rcases A.k with ⟨h, _⟩ | ⟨_, h⟩
     ·rw [h] at cW; exact absurd cW Rat.lt_irrefl
     ·exact h
    refine Nat.not_le.1 fun h6 => ?_
    have h7 := A.S.bX (Rat.le_of_lt m1)
    exact (A.S.flat m1 (by omega)).1 h0
   obtain ⟨a1, a2⟩ := d1 h5
   obtain ⟨b1, b2⟩ := a1.exact h0
   exact ⟨b1, fun t => (b2 t).trans (a2 t), Rat.le_of_lt m1, Rat.le_of_lt m2, by show (m - m) * 2 ≤ _; grind⟩
  ·rw [if_neg h0]
   by_cases h5 : vt (aU f) m < vt (aU f) p.1
   ·rw [if_pos h5]
    obtain ⟨a1, a2⟩ := d1 h5
    exact ⟨a1, a2, Rat.le_refl, Rat.le_of_lt m2, by show (m - p.1) * 2 ≤ _; grind⟩
   ·rw [if_neg h5]
    obtain ⟨a1, a2⟩ := d2 h5
    exact ⟨a1, a2, Rat.le_of_lt m1, Rat.le_refl, by show (p.2 - m) * 2 ≤ _; grind⟩
 ·rw [if_neg cW]
  have := A.le
  exact ⟨A, fun t => Iff.rfl, Rat.le_refl, Rat.le_refl, by grind⟩
theorem agM {s n u : Nat} {g : ZX} (I : j4 s n g) (hs : s ≤ 1000000) {lo hi : Rat} (h : lo < hi) (hv : vt (aU g) lo ≤ vt (aU g) hi + 1) (q1 : SQ u lo) (q2 : SQ u hi) (hu : u ≤ 1000000000) : aG env.P 185 [Po g.l, RT lo, RT hi] (.bool (decide (vt (aU g) hi < vt (aU g) lo))) := by
 have h1 := xT g I.ch.bz (by omega) (by have := I.ch.hn; omega) q2 hu
 have h2 := VG I hs q1 hu
 have k := ac8 (an := lo.num) (ad := lo.den) (bn := hi.num) (bd := hi.den) h1 h2
 have m1 := I.S.bX (Rat.le_of_lt h)
 have e1 : decide (bG (e hi g) = 0 ∨ bG (e hi g) ≠ wX g lo) = decide (vt (aU g) hi < vt (aU g) lo) := by
  refine decide_eq_decide.2 ?_
  by_cases h0 : e hi g = 0
  ·refine ⟨fun _ => Nat.not_le.1 fun h5 => (I.S.flat h (by omega)).1 h0, fun _ => .inl (by rw [h0, eV])⟩
  ·have h3 : bG (e hi g) ≠ 0 := fun h => h0 (cP.1 h)
   have JL := I.S.par (Rat.le_of_lt h)
   have h4 : wX g hi = bG (e hi g) := by unfold wX; rw [if_neg h0]
   rw [h4] at JL
   by_cases h5 : vt (aU g) hi < vt (aU g) lo
   ·rw [show vt (aU g) lo - vt (aU g) hi = 1 by omega, show sH 1 = -1 from rfl] at JL
    exact ⟨fun _ => h5, fun _ => .inr fun h6 => by omega⟩
   ·rw [show vt (aU g) lo - vt (aU g) hi = 0 by omega, show sH 0 = 1 from rfl, Int.one_mul] at JL
    exact ⟨fun h6 => (h6.elim (fun h7 => h3 h7) (fun h7 => h7 JL)).elim, fun h6 => absurd h6 h5⟩
 rw [e1] at k
 exact k
def fZ (f : ZX) (p : Rat × Rat) : Nat → Rat × Rat
 | 0 => p
 | j + 1 => EW f (fZ f p j)
theorem amp {f : ZX} {p : Rat × Rat} {D j : Nat} {B : Rat} (h1 : Gr D B j p.1) (h2 : Gr D B j p.2) : Gr D B (j + 1) (EW f p).1 ∧ Gr D B (j + 1) (EW f p).2 := by
 have hm := h1.H4 h2
 unfold EW
 split
 ·split
  ·exact ⟨hm, hm⟩
  ·split
   ·exact ⟨h1.mono (by omega), hm⟩
   ·exact ⟨hm, h2.mono (by omega)⟩
 ·exact ⟨h1.mono (by omega), h2.mono (by omega)⟩
theorem DO {f : ZX} {p : Rat × Rat} (A : sJ f (vt (aU f)) p.1 p.2) {D : Nat} {B : Rat} (h1 : Gr D B 0 p.1) (h2 : Gr D B 0 p.2) : ∀ j, sJ f (vt (aU f)) (fZ f p j).1 (fZ f p j).2 ∧ (∀ t, eO f (fZ f p j) t ↔ eO f p t) ∧ p.1 ≤ (fZ f p j).1 ∧ (fZ f p j).2 ≤ p.2 ∧ ((fZ f p j).2 - (fZ f p j).1) * 2 ^ j ≤ p.2 - p.1 ∧ Gr D B j (fZ f p j).1 ∧ Gr D B j (fZ f p j).2
 | 0 => ⟨A, fun _ => Iff.rfl, Rat.le_refl, Rat.le_refl, by rw [Rat.pow_zero, Rat.mul_one]; exact Rat.le_refl, h1, h2⟩
 | j + 1 => by
  obtain ⟨a1, a2, a3, a4, a5, a6, a7⟩ := DO A h1 h2 j
  obtain ⟨b1, b2, b3, b4, b5⟩ := ade a1
  obtain ⟨c1, c2⟩ := amp (f := f) a6 a7
  refine ⟨b1, fun t => (b2 t).trans (a2 t), by show _ ≤ (EW f (fZ f p j)).1; grind, by show (EW f (fZ f p j)).2 ≤ _; grind, ?_, c1, c2⟩
  show ((EW f (fZ f p j)).2 - (EW f (fZ f p j)).1) * 2 ^ (j + 1) ≤ _
  have hP := iB j
  have g3 := Rat.mul_le_mul_of_nonneg_right b5 (Rat.le_of_lt hP)
  rw [Rat.pow_succ]
  grind
structure J0 (U : Rat → Prop) : Prop where
 up : ∀ s t, U s → s ≤ t → U t
 lo : ∃ s, ¬ U s
 hi : ∃ t, U t
namespace J0
variable {U : Rat → Prop} (H : J0 U)
include H
theorem lt {s t : Rat} (h1 : ¬ U s) (h2 : U t) : s < t := Rat.not_le.1 fun h => h1 (H.up t s h2 h)
theorem inter {s t s' t' : Rat} (h1 : ¬ U s) (h2 : U t) (h3 : ¬ U s') (h4 : U t') : ∃ a b, ¬ U a ∧ U b ∧ s ≤ a ∧ s' ≤ a ∧ b ≤ t ∧ b ≤ t' ∧ a < b := by
 obtain ⟨a, a1, a2, a3⟩ : ∃ a, ¬ U a ∧ s ≤ a ∧ s' ≤ a := by
  by_cases h : s ≤ s'
  ·exact ⟨s', h3, h, Rat.le_refl⟩
  ·exact ⟨s, h1, Rat.le_refl, by grind⟩
 obtain ⟨b, b1, b2, b3⟩ : ∃ b, U b ∧ b ≤ t ∧ b ≤ t' := by
  by_cases h : t ≤ t'
  ·exact ⟨t, h2, Rat.le_refl, h⟩
  ·exact ⟨t', h4, by grind, Rat.le_refl⟩
 exact ⟨a, b, a1, b1, a2, a3, b2, b3, H.lt a1 b1⟩
end J0
def Up (U : Rat → Prop) (x : Rat) : Prop := ∃ s, s < x ∧ U s
def Sn (U : Rat → Prop) (q : ZX) (σ : Int) : Prop := ∃ ε s t : Rat, 0 < ε ∧ ¬ U s ∧ U t ∧ ∀ x, s < x → x ≤ t → bG (e x q) = σ ∧ j7 ε (e x q)
def NQ (U : Rat → Prop) (q : ZX) : Prop := ∀ ε : Rat, 0 < ε → ∃ s t, ¬ U s ∧ U t ∧ ∀ x, s ≤ x → x ≤ t → Ab (e x q) ε
def JM (U : Rat → Prop) (q : ZX) (σ : Int) : Prop := (σ = 0 ∧ NQ U q) ∨ ((σ = 1 ∨ σ = -1) ∧ Sn U q σ)
theorem Sn.VH {U : Rat → Prop} (H : J0 U) {q : ZX} {σ : Int} (h : Sn U q σ) : ¬ NQ U q := fun h2 => by
 obtain ⟨ε, s, t, h0, h1, h2', h3⟩ := h
 obtain ⟨s', t', h4, h5, h6⟩ := h2 (ε / 2) (by grind)
 obtain ⟨a, b, g1, g2, g3, g4, g5, g6, g7⟩ := H.inter h1 h2' h4 h5
 have k1 := (h3 b (by grind) g5).2
 obtain ⟨k2, k3⟩ := h6 b (by grind) g6
 rcases k1 with k1 | k1 <;> grind
theorem JM.uniq {U : Rat → Prop} (H : J0 U) {q : ZX} {σ τ : Int} (h : JM U q σ) (h' : JM U q τ) : σ = τ := by
 rcases h with ⟨rfl, h⟩ | ⟨h1, h⟩
 ·rcases h' with ⟨rfl, h'⟩ | ⟨_, h'⟩
  ·rfl
  ·exact absurd h (h'.VH H)
 ·rcases h' with ⟨_, h'⟩ | ⟨_, h'⟩
  ·exact absurd h' (h.VH H)
  ·obtain ⟨ε, s, t, _, h2, h3, h4⟩ := h
   obtain ⟨ε', s', t', _, h5, h6, h7⟩ := h'
   obtain ⟨a, b, g1, g2, g3, g4, g5, g6, g7⟩ := H.inter h2 h3 h5 h6
   rw [← (h4 b (by grind) g5).1, ← (h7 b (by grind) g6).1]
noncomputable def SC (U : Rat → Prop) (q : ZX) : Int := open Classical in if h : ∃ σ, JM U q σ then h.choose else 0
theorem JM.eq {U : Rat → Prop} (H : J0 U) {q : ZX} {σ : Int} (h : JM U q σ) : SC U q = σ := by
 have h1 : ∃ σ, JM U q σ := ⟨σ, h⟩
 unfold SC
 rw [dif_pos h1]
 exact h1.choose_spec.uniq H h
theorem rO {U : Rat → Prop} (H : J0 U) : NQ U 0 := fun ε hε => by
 obtain ⟨s, hs⟩ := H.lo
 obtain ⟨t, ht⟩ := H.hi
 refine ⟨s, t, hs, ht, fun x _ _ => ?_⟩
 have : e x 0 = 0 := rfl
 rw [this]
 exact ⟨by grind, by grind⟩
theorem NQ.mul {U : Rat → Prop} (H : J0 U) {g : ZX} (h : NQ U g) (k : ZX) : NQ U (k * g) := fun ε hε => by
 obtain ⟨s0, hs⟩ := H.lo
 obtain ⟨t0, ht⟩ := H.hi
 obtain ⟨B, hB, ha, hb⟩ := gJ s0 t0
 obtain ⟨Q, hQ, hl⟩ := lip k B hB
 obtain ⟨M, hM, hm, _⟩ := gJ (e s0 k) 0
 have kG := H.lt hs ht
 have hC : 0 < M + (t0 - s0) * Q := by
  have := Rat.mul_pos (show 0 < t0 - s0 by grind) hQ; grind
 have hk : ∀ x, s0 ≤ x → x ≤ t0 → Ab (e x k) (M + (t0 - s0) * Q) := fun x h1 h2 => by
  have h3 := hl s0 x ha (bY ha hb h1 h2) h1
  have h4 : (x - s0) * Q ≤ (t0 - s0) * Q := Rat.mul_le_mul_of_nonneg_right (by grind) (Rat.le_of_lt hQ)
  obtain ⟨p1, p2⟩ := h3
  obtain ⟨p3, p4⟩ := hm
  exact ⟨by grind, by grind⟩
 generalize M + (t0 - s0) * Q = C at *
 have e1 : ε / C * C = ε := Rat.div_mul_cancel (Rat.ne_of_gt hC)
 obtain ⟨s, t, g1, g2, g3⟩ := h (ε / C) ((Rat.lt_div_iff hC).2 (by grind))
 obtain ⟨a, b, k1, k2, k3, k4, k5, k6, k7⟩ := H.inter hs ht g1 g2
 refine ⟨a, b, k1, k2, fun x h1 h2 => ?_⟩
 have h3 := (hk x (by grind) (by grind)).mul (g3 x (by grind) (by grind))
 rw [gR]
 refine h3.mono ?_
 grind
theorem NQ.EM {U : Rat → Prop} {c : Int} (hc : c ≠ 0) {q : ZX} (h : NQ U (K c * q)) : NQ U q := fun ε hε => by
 obtain ⟨s, t, h1, h2, h3⟩ := h ε hε
 refine ⟨s, t, h1, h2, fun x h4 h5 => ?_⟩
 have h6 := h3 x h4 h5
 rw [gR, uU] at h6
 have h7 := sC hc
 obtain ⟨p1, p2⟩ := h6
 generalize (c : Rat) = C at *
 generalize e x q = y at *
 have key : ∀ C y : Rat, 1 ≤ C → C * y ≤ ε → -ε ≤ C * y → Ab y ε := fun C y h1 h2 h3 => by
  refine ⟨Rat.not_lt.1 fun h => ?_, Rat.not_lt.1 fun h => ?_⟩
  ·have := Rat.mul_le_mul_of_nonneg_right h1 (show 0 ≤ -y by grind); grind
  ·have := Rat.mul_le_mul_of_nonneg_right h1 (show 0 ≤ y by grind); grind
 rcases h7 with h7 | h7
 ·have := key (-C) (-y) (by grind) (by grind) (by grind)
  obtain ⟨q1, q2⟩ := this
  exact ⟨by grind, by grind⟩
 ·exact key C y h7 p2 p1
theorem NQ.dv {U : Rat → Prop} (H : J0 U) {g q : ZX} (h : NQ U g) (hd : dv g q) : NQ U q := by
 obtain ⟨c, hc, k, hk⟩ := hd
 have h1 := h.mul H k
 rw [← hk] at h1
 exact h1.EM hc
theorem NR {U : Rat → Prop} (H : J0 U) {w : ZX} {φ : Rat → Nat} (S : tD w φ) {s0 t0 : Rat} (h1 : ¬ U s0) (h2 : U t0) (ht : ∀ s t, s0 ≤ s → t ≤ t0 → ¬ U s → U t → φ s ≠ φ t) : NQ U w := fun ε hε => by
 obtain ⟨B, hB, ha, hb⟩ := gJ s0 t0
 obtain ⟨Q, hQ, hl⟩ := lip w B hB
 have e1 : ε / Q * Q = ε := Rat.div_mul_cancel (Rat.ne_of_gt hQ)
 have e2 : 0 < ε / Q := (Rat.lt_div_iff hQ).2 (by grind)
 obtain ⟨s, t, g1, g2, g3, g4, g5, g6⟩ := VC (U := U) e2 (H.lt h1 h2) h1 h2
 refine ⟨s, t, g5, g6, fun x hx hy => ?_⟩
 have h3 := S.small g2 (ht s t g1 g3 g5 g6) hQ (fun a b q1 q2 q3 => hl a b (bY ha hb (by grind) (by grind)) (bY ha hb (by grind) (by grind)) q2) hx hy
 refine h3.mono ?_
 have h4 := Rat.mul_le_mul_of_nonneg_right g4 (Rat.le_of_lt hQ)
 grind
theorem YP (p : ZX) {c a b : Rat} (gO : a < b) (h : ∀ x, a < x → x ≤ b → 0 ≤ c * e x (bI p)) : c * e a p ≤ c * e b p := by
 refine Rat.not_lt.1 fun RS => ?_
 obtain ⟨M, hM, hc, _⟩ := gJ c 0
 have key : ∀ η : Rat, 0 < η → -(η * (b - a)) ≤ c * e b p - c * e a p := fun η hη => by
  have := acQ (P := fun x y => a ≤ x → y ≤ b → -(η * (y - x)) ≤ c * e y p - c * e x p) (fun x y z h1 h2 p1 p2 h3 h4 => by
   have := p1 h3 (by grind)
   have := p2 (by grind) h4
   grind) (fun B hB => by
   obtain ⟨S, hS, hcS⟩ := wF p.l
   obtain ⟨h3, _⟩ := nR hS hB p.l.length
   have hQ : 0 < M * (wW S B p.l.length + 1) := Rat.mul_pos (by grind) (by grind)
   have e1 : η / (M * (wW S B p.l.length + 1)) * (M * (wW S B p.l.length + 1)) = η := Rat.div_mul_cancel (Rat.ne_of_gt hQ)
   refine ⟨η / (M * (wW S B p.l.length + 1)), (Rat.lt_div_iff hQ).2 (by grind), fun x y hx hy tM hd h4 h5 => ?_⟩
   have g1 := l5 y x p.l
   have g2 := IU y x p.l
   have g3 : dd y y p.l = e y (bI p) := (acr y p).symm
   have g4 := hc.mul ((UP hS hB hy hx p.l hcS).mono (show wW S B p.l.length ≤ wW S B p.l.length + 1 by grind))
   have g5 := h y (by grind) h5
   have g6 : e y p = qv y p.l := rfl
   have g7 : e x p = qv x p.l := rfl
   rw [g6, g7]
   rw [g3] at g2
   generalize M * (wW S B p.l.length + 1) = Q at *
   have g8 : c * qv y p.l - c * qv x p.l = (y - x) * (c * e y (bI p)) - (y - x) * ((y - x) * (c * cc y x p.l)) := by grind
   rw [g8]
   have g9 := Rat.mul_nonneg (show 0 ≤ y - x by grind) g5
   have g10 : (y - x) * (c * cc y x p.l) ≤ η := by
    have q1 := Rat.mul_le_mul_of_nonneg_left g4.2 (show 0 ≤ y - x by grind)
    have q2 := Rat.mul_le_mul_of_nonneg_right hd (Rat.le_of_lt hQ)
    grind
   have g11 := Rat.mul_le_mul_of_nonneg_left g10 (show 0 ≤ y - x by grind)
   grind) gO Rat.le_refl Rat.le_refl
  exact this
 have h2 : 0 < b - a := by grind
 have e2 : (c * e a p - c * e b p) / (2 * (b - a)) * (2 * (b - a)) = c * e a p - c * e b p := Rat.div_mul_cancel (by grind)
 have h3 := key _ ((Rat.lt_div_iff (show 0 < 2 * (b - a) by grind)).2 (show 0 * (2 * (b - a)) < c * e a p - c * e b p by grind))
 generalize (c * e a p - c * e b p) / (2 * (b - a)) = η at *
 grind
theorem DP {α : Type} {P : α → Prop} {f : α → Nat} : ∀ n, (∀ x, P x → f x ≤ n) → (∃ x, P x) → ∃ x, P x ∧ ∀ y, P y → f y ≤ f x
 | 0, h, ⟨x, hx⟩ => ⟨x, hx, fun y hy => by have := h y hy; omega⟩
 | n + 1, h, hx => by
  by_cases h1 : ∃ x, P x ∧ f x = n + 1
  ·obtain ⟨x, h2, h3⟩ := h1
   exact ⟨x, h2, fun y hy => by have := h y hy; omega⟩
  ·exact DP n (fun y hy => by
    have h2 := h y hy
    have h3 : f y ≠ n + 1 := fun h3 => h1 ⟨y, hy, h3⟩
    omega) hx
theorem adf {U : Rat → Prop} (H : J0 U) {p : ZX} (h0 : p ≠ 0) (hN : ZX.N p ≤ 20) {t : Rat} (ht : Up U t) : ∃ t1, Up U t1 ∧ t1 ≤ t ∧ ∀ x, Up U x → x ≤ t1 → e x p ≠ 0 := by
 obtain ⟨nf, hf⟩ := mU h0
 have NB : uM (sq p) (bI (sq p)) := fun d h1 h2 => by
  have h3 := (eE (sq p) (bI (sq p))).least h1 h2
  rw [U1 h0] at h3
  have := h3.lZ ZX.lY
  rwa [ZX.rB] at this
 have CG : ZX.N (sq p) ≤ 20 := by
  have h1 := (sG h0).lZ h0
  omega
 have S := NL nf.ne NB CG
 obtain ⟨s0, JU⟩ := H.lo
 obtain ⟨t1, ⟨h1, h2⟩, h3⟩ := DP (P := fun x => Up U x ∧ x ≤ t) (f := vt (aU (sq p))) (vt (aU (sq p)) s0) (fun x hx => by
  obtain ⟨⟨s, h1, h2⟩, _⟩ := hx
  have := H.lt JU h2
  exact S.bX (by grind)) ⟨t, ht, Rat.le_refl⟩
 refine ⟨t1, h1, h2, fun x hx hxt => ?_⟩
 obtain ⟨s, h4, h5⟩ := hx
 obtain ⟨m1, m2⟩ := oD h4
 generalize (s + x) / 2 = y at *
 have h6 := h3 y ⟨⟨s, m1, h5⟩, by grind⟩
 have h7 := S.bX hxt
 have h8 := S.bX (Rat.le_of_lt m2)
 exact (AG nf NB S CG m2 (by omega) _ p (Nat.le_refl _) h0 (fun q hq => by rw [hf q hq]; exact Nat.le_refl _) x m2 Rat.le_refl).1
def Af (U : Rat → Prop) (q : ZX) (σ : Int) : Prop := σ ≠ 0 ∧ ∃ t, Up U t ∧ ∀ x, Up U x → x ≤ t → bG (e x q) = σ
theorem Up.min {U : Rat → Prop} {s t : Rat} (hs : Up U s) (ht : Up U t) : ∃ x, Up U x ∧ x ≤ s ∧ x ≤ t := by
 by_cases h : s ≤ t
 ·exact ⟨s, hs, Rat.le_refl, h⟩
 ·exact ⟨t, ht, by grind, Rat.le_refl⟩
theorem Af.uniq {U : Rat → Prop} {q : ZX} {σ τ : Int} (h : Af U q σ) (h' : Af U q τ) : σ = τ := by
 obtain ⟨_, s, h1, h2⟩ := h
 obtain ⟨_, t, h3, h4⟩ := h'
 obtain ⟨x, h5, h6, h7⟩ := h1.min h3
 rw [← h2 x h5 h6, h4 x h5 h7]
theorem Af.mul {U : Rat → Prop} {p q : ZX} {σ τ : Int} (h : Af U p σ) (h' : Af U q τ) : Af U (p * q) (σ * τ) := by
 obtain ⟨n1, s, h1, h2⟩ := h
 obtain ⟨n2, t, h3, h4⟩ := h'
 obtain ⟨x, h5, h6, h7⟩ := h1.min h3
 exact ⟨Int.mul_ne_zero n1 n2, x, h5, fun y hy hyx => by rw [gR, k9, h2 y hy (by grind), h4 y hy (by grind)]⟩
theorem Af.neg {U : Rat → Prop} {p : ZX} {σ : Int} (h : Af U p σ) : Af U (-p) (-σ) := by
 obtain ⟨n1, s, h1, h2⟩ := h
 refine ⟨by omega, s, h1, fun y hy hyx => ?_⟩
 have h3 := UM (t := y) (-p) p
 rw [show -p + p = 0 by grind, show e y 0 = 0 from rfl] at h3
 rw [show e y (-p) = -e y p by grind, agp, h2 y hy hyx]
theorem Af.abs {U : Rat → Prop} {q : ZX} {σ : Int} (h : Af U q σ) : σ = 1 ∨ σ = -1 := by
 obtain ⟨n1, s, h1, h2⟩ := h
 have := mE (e s q)
 rw [h2 s h1 Rat.le_refl] at this
 omega
theorem Sn.Af {U : Rat → Prop} (H : J0 U) {q : ZX} {σ : Int} (h0 : σ ≠ 0) (h : Sn U q σ) : Af U q σ := by
 obtain ⟨ε, s, t, _, h1, h2, h3⟩ := h
 by_cases h4 : Up U t
 ·exact ⟨h0, t, h4, fun x ⟨y, hy1, hy2⟩ hx2 => (h3 x (by have := H.lt h1 hy2; grind) hx2).1⟩
 ·have h5 := (h3 t (H.lt h1 h2) Rat.le_refl).1
  obtain ⟨r, hr, hc⟩ := AB (f := q) (t := t) fun h => by rw [h, eV] at h5; exact h0 h5.symm
  refine ⟨h0, t + r, ⟨t, by grind, h2⟩, fun x hx hx2 => ?_⟩
  have h6 : t < x := Rat.not_le.1 fun h6 => h4 (by
   obtain ⟨y, hy1, hy2⟩ := hx
   exact ⟨y, by grind, hy2⟩)
  rw [hc x (by grind) hx2, h5]
theorem NQ.Af {U : Rat → Prop} (H : J0 U) {p : ZX} (hp : p ≠ 0) (hN : ZX.N p ≤ 20) {σ : Int} (h : NQ U p) (hd : Af U (bI p) σ) : Af U p σ := by
 have ha := hd.abs
 obtain ⟨h0, t, h1, h2⟩ := hd
 obtain ⟨t1, g1, g2, g3⟩ := adf H hp hN h1
 refine ⟨h0, t1, g1, fun x hx hxt => ?_⟩
 have main : ∀ c : Rat, (∀ y, Up U y → y ≤ t → 0 ≤ c * e y (bI p)) → (c = 1 ∨ c = -1) → 0 ≤ c * e x p := fun c hc u0 => Rat.not_lt.1 fun WX => by
  obtain ⟨s, t', k1, k2, k3⟩ := h (-(c * e x p)/2) (by grind)
  obtain ⟨y, hy1, hy2⟩ := hx
  obtain ⟨z, z1, z2, z3, z4⟩ : ∃ z, U z ∧ z ≤ t' ∧ z < x ∧ s ≤ z := by
   by_cases q : y ≤ t'
   ·exact ⟨y, hy2, q, hy1, Rat.le_of_lt (H.lt k1 hy2)⟩
   ·exact ⟨t', k2, Rat.le_refl, by grind, Rat.le_of_lt (H.lt k1 k2)⟩
  have q1 := k3 z z4 z2
  have q2 := YP p (c := c) z3 fun v hv1 hv2 => hc v ⟨z, hv1, z1⟩ (by grind)
  obtain ⟨q3, q4⟩ := q1
  rcases u0 with rfl | rfl <;> grind
 have nZ := g3 x hx hxt
 have sx := bQ (e x p)
 rcases ha with rfl | rfl
 ·have := main 1 (fun y hy hyt => by have := C5.1 (h2 y hy hyt); grind) (.inl rfl)
  exact dJ (by grind)
 ·have := main (-1) (fun y hy hyt => by have := C4.1 (h2 y hy hyt); grind) (.inr rfl)
  exact eY (by grind)
theorem adg {U : Rat → Prop} (H : J0 U) {sg : ZX → Int} (hs : ∀ q : ZX, ZX.N q ≤ 20 → JM U q (sg q)) : ∀ (k : Nat) (p : ZX), ZX.N p ≤ k → ZX.N p ≤ 20 → p ≠ 0 → Af U p (D2 sg k p)
 | 0, p, hk, _, h0 => absurd hk (by have := ZX.aC.1 h0; omega)
 | k + 1, p, hk, hN, h0 => by
  rw [D2]
  rcases hs p hN with ⟨h1, h2⟩ | ⟨h1, h2⟩
  ·rw [if_pos h1]
   have hd : bI p ≠ 0 := fun hd => by
    have hN1 : ZX.N p = 1 := by
     have := ZX.aC.1 h0
     rcases Nat.lt_or_ge (ZX.N p) 2 with h3 | h3
     ·omega
     ·exact absurd hd (CQ h3)
    obtain ⟨c, hc, rfl⟩ := ZX.jZ hN1
    obtain ⟨s, t, g1, g2, g3⟩ := h2 (1 / 2) (by grind)
    have g4 := g3 t (Rat.le_of_lt (H.lt g1 g2)) Rat.le_refl
    rw [uU] at g4
    have g5 := sC hc
    obtain ⟨p1, p2⟩ := g4
    rcases g5 with g5 | g5 <;> grind
   have hNd := lN p
   exact h2.Af H h0 hN (adg H hs k (bI p) (by omega) (by omega) hd)
  ·rw [if_neg (by omega)]
   exact h2.Af H (by omega)
end Go.Proofs.YtelhfbikiccfkaaGreat
namespace Go.Proofs.YtelhfbikiccfkaaGreat
open Go Pm
open ZX hiding N W
theorem adh {a b : ZX} (na : Nf a) (nb : Nf b) (hd : dv b a) {h n l : Nat} (hH : ∀ d ∈ a.l, d.natAbs ≤ 2 ^ h) (hN : ZX.N a ≤ n) (hn : n ≤ 2 ^ l) : ∀ c ∈ b.l, c.natAbs ≤ 2 ^ (h + n * (2 * l + 3)) := by
 obtain ⟨w, _, e⟩ := na.quo nb hd
 exact ab5 na.ne e hH hN hn
theorem agN {z n : Nat} {f : ZX} (nf : Nf f) (bz : BZ z n f) : Ab (eW f.l) (2 ^ (z + 1)) := by
 have f0 := tZ nf.ne
 have h1 := xO f.c f0
 have hl := cK f.c (List.length_pos_iff.2 f0)
 have hL : (1 : Rat) ≤ (((lead f.l).natAbs : Int) : Rat) := eN (by omega)
 have h2 := Rat.div_mul_cancel (a := ((kX f.l (f.l.length - 1) : Int) : Rat)) (b := (((lead f.l).natAbs : Int) : Rat)) (by grind)
 have h3 : (1 : Rat) ≤ eW f.l := (sK f.c f0 (t := eW f.l) (.inr Rat.le_refl)).2
 have h4 : ((kX f.l (f.l.length - 1) : Int) : Rat) ≤ 2 ^ z := by
  have h5 := kB (b := 2) (by decide) (kX f.l (f.l.length - 1))
  have h6 := Nat.pow_le_pow_right (show 0 < 2 by decide) (uK bz (f.l.length - 1))
  exact (GI (s := z) (by omega)).2
 have h7 := uL z
 rw [Rat.pow_succ]
 generalize (2 : Rat) ^ z = T at *
 generalize ((kX f.l (f.l.length - 1) : Int) : Rat) = m at *
 have hw : m / (((lead f.l).natAbs : Int) : Rat) ≤ T := by
  refine Rat.not_lt.1 fun h => ?_
  have h8 := Rat.mul_le_mul_of_nonneg_left hL (show 0 ≤ m / (((lead f.l).natAbs : Int) : Rat) by grind)
  grind
 exact ⟨by grind, by grind⟩
section
variable {f : ZX} {v : Rat → Nat} {lo hi : Rat} (nf : Nf f) (A : sJ f v lo hi)
include nf A
theorem ass : 2 ≤ ZX.N f := Nat.not_lt.1 fun h => by
 have := ZX.aC.1 nf.ne
 obtain ⟨c, hc, rfl⟩ := ZX.jZ (x := f) (by omega)
 have hcq : (c : Rat) ≠ 0 := fun h0 => hc (Rat.intCast_eq_zero_iff.1 h0)
 rcases A.k with ⟨_, h2⟩ | ⟨h1, h2⟩
 ·rw [uU] at h2; exact hcq h2
 ·have := A.S.const h1 (σ := bG (c : Rat)) (.inr (by rw [uU])) (fun x _ _ => by rw [uU])
  omega
end
theorem cL {f : ZX} {v : Rat → Nat} {lo hi : Rat} (A : sJ f v lo hi) : J0 (oC v lo hi) := ⟨fun _ _ h h' => A.up h h', ⟨lo - 1, A.uN (.inl (by grind))⟩, ⟨hi, nV⟩⟩
def se (s r n m β : Nat) : Nat := 6 * (n + m) + (s + n * 9) * m + r * n + (n + m) * (β + 2) + 2
theorem amq {f h g w : ZX} (S : pM f h g w) (nf : Nf f) (nh : Nf h) (ch : uM h (bI h)) {s r n m β : Nat} (hA : ∀ c ∈ f.l, c.natAbs ≤ 2 ^ s) (hB : ∀ c ∈ h.l, c.natAbs ≤ 2 ^ r) (hn : ZX.N f ≤ n) (hm : ZX.N h ≤ m) (n8 : n ≤ 8) (m8 : m ≤ 8)
  {a b : Rat} (ha : Ab a (2 ^ β)) (hb : Ab b (2 ^ β)) (gO : a < b) (hd : (b - a) * 2 ^ se s r n m β ≤ 1) : vt (aU w) a = vt (aU w) b ∨ vt (aU h) a = vt (aU h) b := by
 have n1 := S.N
 have Sw := NL S.nw.ne S.sw (by omega)
 have Sh := NL nh.ne ch (by omega)
 refine VB Sw Sh S.wh (s := s + n * 9) (r := r) (l := 4) (β := β) (adh nf S.nw (by rw [S.eq]; exact (dv.refl w).mul_right _) hA hn (show n ≤ 2 ^ 3 by omega)) hB (by omega) ha hb gO (U4 hd ?_)
 unfold se sx
 have h1 : (s + n * 9) * ZX.N h ≤ (s + n * 9) * m := Nat.mul_le_mul_left _ hm
 have h2 : r * ZX.N w ≤ r * n := Nat.mul_le_mul_left _ (by omega)
 have h3 : (ZX.N w + ZX.N h) * (β + 2) ≤ (n + m) * (β + 2) := Nat.mul_le_mul_right _ (by omega)
 omega
theorem adi {s r n m : Nat} (n2 : 2 ≤ n) (m1 : 1 ≤ m) (n8 : n ≤ 8) (m8 : m ≤ 8) : se s (r + m * 9) n m (s + 1) + s + 2 ≤ 64 + 4 * (n + m) * (s + r + (n + m) + 8) := by
 have e1 : 4 * (n + m) * (s + r + (n + m) + 8) = 4 * (n * s) + 4 * (n * r) + 4 * (m * s) + 4 * (m * r) + 4 * (n * n) + 8 * (n * m) + 4 * (m * m) + 32 * n + 32 * m := by grind
 have e2 : se s (r + m * 9) n m (s + 1) = 6 * (n + m) + m * s + 18 * (n * m) + n * r + n * s + m * s + 3 * n + 3 * m + 2 := by unfold se; grind
 have h3 : n * m ≤ 8 * m := Nat.mul_le_mul_right _ n8
 have h4 : 2 * (n * m) ≤ n * n + m * m := by
  rcases Nat.le_total n m with h | h
  ·obtain ⟨d, rfl⟩ := Nat.exists_eq_add_of_le h; grind
  ·obtain ⟨d, rfl⟩ := Nat.exists_eq_add_of_le h; grind
 have h5 : 2 * s ≤ n * s := Nat.mul_le_mul_right _ n2
 omega
theorem VI (q : ZX) (x0 : Rat) {ε : Rat} (hε : 0 < ε) : ∃ r : Rat, 0 < r ∧ ∀ x, x0 - r ≤ x → x ≤ x0 + r → Ab (e x q - e x0 q) ε := by
 obtain ⟨B, hB, ha, hb⟩ := gJ (x0 - 1) (x0 + 1)
 obtain ⟨Q, hQ, hl⟩ := lip q B hB
 have e1 : ε / Q * Q = ε := Rat.div_mul_cancel (Rat.ne_of_gt hQ)
 obtain ⟨r, hr, h1, h2⟩ := min2 (show (0 : Rat) < 1 by decide) ((Rat.lt_div_iff hQ).2 (show 0 * Q < ε by grind))
 have hrQ : r * Q ≤ ε := by have := Rat.mul_le_mul_of_nonneg_right h2 (Rat.le_of_lt hQ); grind
 have n9 : Ab x0 B := bY ha hb (by grind) (by grind)
 refine ⟨r, hr, fun x h3 h4 => ?_⟩
 have hx : Ab x B := bY ha hb (by grind) (by grind)
 by_cases h : x0 ≤ x
 ·have h5 := hl x0 x n9 hx h
  refine h5.mono ?_
  have := Rat.mul_le_mul_of_nonneg_right (show x - x0 ≤ r by grind) (Rat.le_of_lt hQ)
  grind
 ·have h5 := (hl x x0 hx n9 (by grind)).mono (show (x0 - x) * Q ≤ ε by
   have := Rat.mul_le_mul_of_nonneg_right (show x0 - x ≤ r by grind) (Rat.le_of_lt hQ)
   grind)
  obtain ⟨p1, p2⟩ := h5
  exact ⟨by grind, by grind⟩
theorem amr {x y ε : Rat} (hε : 0 < ε) (h : j7 (ε + ε) x) (tM : Ab (y - x) ε) : bG y = bG x ∧ j7 ε y := by
 obtain ⟨p1, p2⟩ := tM
 rcases h with h | h
 ·exact ⟨by rw [eY (show x < 0 by grind), eY (by grind)], .inl (by grind)⟩
 ·exact ⟨by rw [dJ (show 0 < x by grind), dJ (by grind)], .inr (by grind)⟩
theorem xU {U : Rat → Prop} {x0 : Rat} (hU : ∀ t, U t ↔ x0 ≤ t) (q : ZX) : JM U q (bG (e x0 q)) := by
 have lo : ∀ {r : Rat}, 0 < r → ¬ U (x0 - r) := fun hr h => by have := (hU _).1 h; grind
 have hi : ∀ {r : Rat}, 0 < r → U (x0 + r) := fun hr => (hU _).2 (by grind)
 by_cases h0 : e x0 q = 0
 ·refine .inl ⟨by rw [h0, eV], fun ε hε => ?_⟩
  obtain ⟨r, hr, h⟩ := VI q x0 hε
  refine ⟨x0 - r, x0 + r, lo hr, hi hr, fun x h1 h2 => ?_⟩
  have := h x h1 h2
  rwa [h0, show e x q - 0 = e x q by grind] at this
 ·have hs : bG (e x0 q) = 1 ∨ bG (e x0 q) = -1 := by
   rcases bQ (e x0 q) with ⟨_, h⟩ | ⟨h, _⟩ | ⟨_, h⟩
   ·exact .inr h
   ·exact absurd h h0
   ·exact .inl h
  obtain ⟨ε, hε, hb⟩ : ∃ ε : Rat, 0 < ε ∧ j7 (ε + ε) (e x0 q) := by
   by_cases h : 0 ≤ e x0 q
   ·exact ⟨e x0 q / 2, by grind, .inr (by grind)⟩
   ·exact ⟨-(e x0 q) / 2, by grind, .inl (by grind)⟩
  obtain ⟨r, hr, h⟩ := VI q x0 hε
  exact .inr ⟨hs, ε, x0 - r, x0 + r, hε, lo hr, hi hr, fun x h1 h2 => amr hε hb (h x (Rat.le_of_lt h1) h2)⟩
theorem ast {r q : ZX} (hr : nK r) (q0 : q ≠ 0) (h : dv r q) : dv r (sq q) := by
 obtain ⟨nf, hf⟩ := mU q0
 have p1 : r ^ 1 = r := by rw [pow_succ', dH]; grind
 have h1 := (j0 hr q0 (k := 1)).2 (by rw [p1]; exact h)
 have h2 := (j0 hr nf.ne (k := 1)).1 (by rw [hf r hr]; omega)
 rwa [p1] at h2
theorem uM.asu {w q : ZX} (q0 : q ≠ 0) (h : uM w (sq q)) : uM w q := fun d h1 h2 => Nat.not_lt.1 fun hd => by
 obtain ⟨r, hr, hrd⟩ := kS _ d (Nat.le_refl _) (by omega)
 have := h r (hrd.trans h1) (ast hr q0 (hrd.trans h2))
 have := hr.deg
 omega
theorem adj {f q : ZX} (nf : Nf f) (hf : sq f = f) (q0 : q ≠ 0) : gz f (sq q) = gz q f := by
 obtain ⟨nq, hq⟩ := mU q0
 refine Nf.rD (CU (.inl nf.ne)) (CU (.inl q0)) fun p hp => ?_
 rw [(eE f (sq q)).mu nf.ne nq.ne hp, (eE q f).mu q0 nf.ne hp, hq p hp]
 have := (mU nf.ne).2 p hp
 rw [hf] at this
 omega
section
variable {f h g w : ZX} {v γ φ : Rat → Nat} {lo hi : Rat} (A : sJ f v lo hi) (S : pM f h g w) (Sg : tD g γ) (Sw : tD w φ)
include A S Sg Sw
theorem asv (cW : lo < hi) (hγ : γ hi < γ lo) : NQ (oC v lo hi) g := by
 have hv : v lo = v hi + 1 := by
  rcases A.k with ⟨h, _⟩ | ⟨_, h⟩
  ·rw [h] at cW; exact absurd cW Rat.lt_irrefl
  ·exact h
 refine NR (cL A) Sg (A.uN (.inr ⟨rfl, cW⟩)) nV fun s t h1 h2 h3 h4 => ?_
 have kG := (cL A).lt h3 h4
 have c0 := S.cnt A.S Sg Sw (Rat.le_of_lt cW)
 have c1 := S.cnt A.S Sg Sw (Rat.le_of_lt kG)
 have o := R5 A h3 h4 kG
 have m1 := Sw.bX h1
 have m2 := Sw.bX (Rat.le_of_lt kG)
 have m3 := Sw.bX h2
 have m4 := Sg.bX h1
 have m5 := Sg.bX (Rat.le_of_lt kG)
 have m6 := Sg.bX h2
 omega
theorem axw (cW : lo < hi) (hγ : γ lo = γ hi) : NQ (oC v lo hi) w := by
 refine NR (cL A) Sw (A.uN (.inr ⟨rfl, cW⟩)) nV fun s t h1 h2 h3 h4 => ?_
 have kG := (cL A).lt h3 h4
 have c1 := S.cnt A.S Sg Sw (Rat.le_of_lt kG)
 have o := R5 A h3 h4 kG
 have m4 := Sg.bX h1
 have m5 := Sg.bX (Rat.le_of_lt kG)
 have m6 := Sg.bX h2
 omega
theorem SD {q : ZX} (cW : lo < hi) (hγ : γ lo = γ hi) (q0 : q ≠ 0) (hh : h = sq q) (hN : ZX.N (sq q) ≤ 20) (Sq : tD (sq q) (vt (aU (sq q)))) (hη : vt (aU (sq q)) lo = vt (aU (sq q)) hi) : JM (oC v lo hi) q (bG (e hi q)) := by
 obtain ⟨nf, hf⟩ := mU q0
 have hw : uM w q := uM.asu q0 (hh ▸ S.wh)
 have k := AG nf Sq.NB Sq hN cW hη _ q (Nat.le_refl _) q0 (fun r hr => by rw [hf r hr]; exact Nat.le_refl _)
 obtain ⟨B, hB, ha, hb⟩ := gJ lo hi
 obtain ⟨ε, hε, hs⟩ := asf S.nw.ne q0 hw B
 obtain ⟨s, t, h1, h2, h3⟩ := axw A S Sg Sw cW hγ (ε / 2) (by grind)
 obtain ⟨a, b, k1, k2, k3, k4, k5, k6, k7⟩ := (cL A).inter h1 h2 (A.uN (.inr ⟨rfl, cW⟩)) (nV (v := v) (lo := lo) (hi := hi))
 have hs3 : bG (e hi q) = 1 ∨ bG (e hi q) = -1 := by
  have h4 := (k hi cW Rat.le_refl).1
  rcases bQ (e hi q) with ⟨_, h⟩ | ⟨h, _⟩ | ⟨_, h⟩
  ·exact .inr h
  ·exact absurd h h4
  ·exact .inl h
 refine .inr ⟨hs3, ε, a, b, hε, k1, k2, fun x hx hy => ⟨(k x (by grind) (by grind)).2, ?_⟩⟩
 refine (hs x (bY ha hb (by grind) (by grind))).resolve_left fun h4 => ?_
 obtain ⟨p1, p2⟩ := h3 x (by grind) (by grind)
 rcases h4 with h4 | h4 <;> grind
end
theorem agO {f g w q : ZX} {γ φ : Rat → Nat} {p : Rat × Rat} (A : sJ f (vt (aU f)) p.1 p.2) (S : pM f (sq q) g w) (Sg : tD g γ) (Sw : tD w φ) (Sq : tD (sq q) (vt (aU (sq q)))) (cW : p.1 < p.2) (hγ : γ p.1 = γ p.2) : ∃ a b, p.1 ≤ a ∧ a < b ∧ b ≤ p.2 ∧ sJ f (vt (aU f)) a b ∧ oC (vt (aU f)) a b = eO f p ∧ vt (aU (sq q)) a = vt (aU (sq q)) b := by
 obtain ⟨B, hB, ha, hb⟩ := gJ p.1 p.2
 obtain ⟨δ, hδ, Y2⟩ := agI Sw Sq S.wh B
 obtain ⟨a, b, g1, g2, g3, g4, g5, g6⟩ := VC (U := eO f p) hδ cW (A.uN (.inr ⟨rfl, cW⟩)) nV
 have o := R5 A g5 g6 g2
 have c1 := S.cnt A.S Sg Sw (Rat.le_of_lt g2)
 have m1 := Sg.bX g1
 have m2 := Sg.bX g3
 have m3 := Sg.bX (Rat.le_of_lt g2)
 have hη := (Y2 a b (bY ha hb g1 (by grind)) (bY ha hb (by grind) g3) g2 g4).resolve_left (by omega)
 have v1 := A.S.bX g1
 have v2 := A.S.bX g3
 have hv : vt (aU f) p.1 = vt (aU f) p.2 + 1 := by
  rcases A.k with ⟨h, _⟩ | ⟨_, h⟩
  ·grind
  ·exact h
 refine ⟨a, b, g1, g2, g3, ⟨A.S, .inr ⟨g2, by omega⟩⟩, funext fun t => propext ⟨fun h => ?_, fun h => ?_⟩, hη⟩
 ·rcases h with h | ⟨h, h3⟩
  ·exact A.up g6 h
  ·by_cases h4 : p.1 < t
   ·exact .inr ⟨h4, by omega⟩
   ·exact absurd (A.S.bX (show t ≤ p.1 by grind)) (by omega)
 ·by_cases h4 : b ≤ t
  ·exact .inl h4
  ·refine .inr ⟨(cL A).lt g5 h, ?_⟩
   rcases h with h | ⟨h, h3⟩
   ·have := A.S.bX h; omega
   ·omega
theorem VJ {q : ZX} (q0 : q ≠ 0) : uM (sq q) (bI (sq q)) := fun d h1 h2 => by
 have h3 := (eE (sq q) (bI (sq q))).least h1 h2
 rw [U1 q0] at h3
 have := h3.lZ ZX.lY
 rwa [ZX.rB] at this
theorem JN {f : ZX} {p : Rat × Rat} (nf : Nf f) (hf : sq f = f) (cf : uM f (bI f)) (hN : ZX.N f ≤ 20) (A : sJ f (vt (aU f)) p.1 p.2) {q : ZX} (hq : ZX.N q ≤ 20) (q0 : q ≠ 0) (cW : p.1 < p.2) : ∃ σ, JM (eO f p) q σ ∧ (σ = 0 ↔ vt (aU (gz q f)) p.2 < vt (aU (gz q f)) p.1) := by
 obtain ⟨nq, hmu⟩ := mU q0
 have hNq : ZX.N (sq q) ≤ 20 := Nat.le_trans ((sG q0).lZ q0) hq
 have Sq := NL nq.ne (VJ q0) hNq
 obtain ⟨w, S⟩ := JI (h := sq q) nf cf
 rw [adj nf hf q0] at S
 have n1 := S.N
 have Sg := NL S.ng.ne S.sg (by omega)
 have Sw := NL S.nw.ne S.sw (by omega)
 have m := Sg.bX (Rat.le_of_lt cW)
 by_cases hγ : vt (aU (gz q f)) p.2 < vt (aU (gz q f)) p.1
 ·exact ⟨0, .inl ⟨rfl, (asv A S Sg Sw cW hγ).dv (cL A) (eE q f).l⟩, ⟨fun _ => hγ, fun _ => rfl⟩⟩
 ·obtain ⟨a, b, g1, g2, g3, A2, e1, hη⟩ := agO A S Sg Sw Sq cW (by omega)
  have m1 := Sg.bX g1
  have m2 := Sg.bX g3
  have m3 := Sg.bX (Rat.le_of_lt g2)
  have k := SD A2 S Sg Sw g2 (by omega) q0 rfl hNq Sq hη
  rw [e1] at k
  refine ⟨_, k, ⟨fun h => ?_, fun h => absurd h hγ⟩⟩
  exact absurd (cP.1 h) (AG nq Sq.NB Sq hNq g2 hη _ q (Nat.le_refl _) q0 (fun r hr => by rw [hmu r hr]; exact Nat.le_refl _) b g2 Rat.le_refl).1
theorem ams {f : ZX} {p : Rat × Rat} (nf : Nf f) (hf : sq f = f) (cf : uM f (bI f)) (hN : ZX.N f ≤ 20) (A : sJ f (vt (aU f)) p.1 p.2) (q : ZX) (hq : ZX.N q ≤ 20) : JM (eO f p) q (SC (eO f p) q) := by
 have main : ∃ σ, JM (eO f p) q σ := by
  by_cases q0 : q = 0
  ·exact ⟨0, .inl ⟨rfl, q0 ▸ rO (cL A)⟩⟩
  by_cases YQ : p.1 = p.2
  ·exact ⟨_, xU (sM YQ) q⟩
  obtain ⟨σ, h, _⟩ := JN nf hf cf hN A hq q0 (by have := A.le; grind)
  exact ⟨σ, h⟩
 obtain ⟨σ, h⟩ := main
 rwa [h.eq (cL A)]
theorem GN {n k : Nat} (h : n < 2 ^ k) : 0 ≤ bl (aS LL n) ∧ bl (aS LL n) ≤ k ∧ n < 2 ^ (bl (aS LL n)).toNat := by
 have hV := jU fY n
 have hL := fR fY n
 have hc := jC fY n
 generalize aS LL n = l at *
 unfold bl
 by_cases h0 : l = []
 ·subst h0
  simp [V] at hV
  rw [if_pos rfl]
  exact ⟨by omega, by omega, by simp; omega⟩
 ·rw [if_neg h0]
  have hl := List.length_pos_iff.2 h0
  obtain ⟨j, hj⟩ : ∃ j, l.length = j + 1 := ⟨l.length - 1, by omega⟩
  rw [hj, show j + 1 - 1 = j by omega]
  have e := bA (l := l) (i := j) (by omega)
  rw [List.take_of_length_le (by omega)] at e
  have ht := hL.nth (i := j) (by omega)
  have hVt := o6 (b := (LL : Int)) (by decide) (hL.take j)
  have P5 : V (LL : Int) l = V (LL : Int) (l.take j) + (LL : Int) ^ j * nth l j := by
   conv => lhs; rw [e]
   rw [dU, show (l.take j).length = j by rw [List.length_take]; omega]
   simp [V]
  have SJ := kJ (b := (LL : Int)) (by decide) hL hc h0
  rw [hj, show j + 1 - 1 = j by omega] at SJ
  rw [show (l.take j).length = j by rw [List.length_take]; omega] at hVt
  have eP : ((LL : Int) ^ j) = ((2 ^ (32 * j) : Nat) : Int) := by
   rw [Nat.pow_mul, Int.natCast_pow]
  rw [eP] at hVt P5 SJ
  have hnl := nG (n := (nth l j).toNat) (k := nb (nth l j).toNat)
  have hnk := nG (n := (nth l j).toNat) (k := k - 32 * j)
  have hT := hnl.1 (Nat.le_refl _)
  have e3 : (32 * (((j + 1 : Nat) : Int) - 1) + ((nb (nth l j).toNat : Nat) : Int)).toNat = 32 * j + nb (nth l j).toNat := by omega
  have hP := Nat.two_pow_pos (32 * j)
  have hkj : 32 * j < k := Nat.not_le.1 fun hh => by
   have := Nat.pow_le_pow_right (show 0 < 2 by decide) hh
   omega
  have e4 : 2 ^ (32 * j) * 2 ^ (k - 32 * j) = 2 ^ k := by rw [← Nat.pow_add, show 32 * j + (k - 32 * j) = k by omega]
  have hV0 : 0 ≤ V (LL : Int) (l.take j) := bN (by decide) (hL.take j)
  refine ⟨by omega, ?_, ?_⟩
  ·have : (nth l j).toNat < 2 ^ (k - 32 * j) := Nat.not_le.1 fun hh => by
    have h2 := Nat.mul_le_mul_left (2 ^ (32 * j)) hh
    have h3 : ((2 ^ (32 * j) : Nat) : Int) * nth l j = ((2 ^ (32 * j) * (nth l j).toNat : Nat) : Int) := by rw [Int.natCast_mul]; congr 1; omega
    omega
   have := hnk.2 this
   omega
  ·rw [e3, Nat.pow_add]
   have h2 : 2 ^ (32 * j) * ((nth l j).toNat + 1) ≤ 2 ^ (32 * j) * 2 ^ nb (nth l j).toNat := Nat.mul_le_mul_left _ hT
   have h3 : ((2 ^ (32 * j) : Nat) : Int) * nth l j = ((2 ^ (32 * j) * (nth l j).toNat : Nat) : Int) := by rw [Int.natCast_mul]; congr 1; omega
   rw [Nat.mul_add, Nat.mul_one] at h2
   omega
theorem rP {x : Int} {k : Nat} (h : x.natAbs < 2 ^ k) (hk : k ≤ 1000000000) : aG env.P 237 [us (aS LL x.natAbs)] (.int .i64 (bl (aS LL x.natAbs))) := by
 have h1 := LC (aS LL x.natAbs) ⟨fR fY _, by
  have h2 : x.natAbs < LL ^ k := Nat.lt_of_lt_of_le h (Nat.pow_le_pow_left (by decide) k)
  have := zN fY h2
  omega⟩
 rwa [jC fY] at h1
def zs (f : ZX) : Nat := (JZ f.l f.l.length).toNat
theorem wK {x : List Int} {k : Nat} (h : ∀ c ∈ x, c.natAbs < 2 ^ k) : ∀ i, i ≤ x.length → 0 ≤ JZ x i ∧ JZ x i ≤ k ∧ ∀ j, j < i → (nth x j).natAbs < 2 ^ (JZ x i).toNat
 | 0, _ => ⟨Int.le_refl _, by show (0 : Int) ≤ k; omega, fun j hj => absurd hj (Nat.not_lt_zero _)⟩
 | i + 1, hi => by
  obtain ⟨h1, h2, h3⟩ := wK h i (by omega)
  obtain ⟨g1, g2, g3⟩ := GN (h (nth x i) (bU (by omega)))
  rw [JZ]
  have key : ∀ {a : Nat} {y z : Int}, y ≤ z → a < 2 ^ y.toNat → a < 2 ^ z.toNat := fun hyz ha => Nat.lt_of_lt_of_le ha (Nat.pow_le_pow_right (by decide) (by omega))
  split
  ·refine ⟨g1, g2, fun j hj => ?_⟩
   rcases Nat.lt_or_ge j i with hh | hh
   ·exact key (by omega) (h3 j hh)
   ·rw [show j = i by omega]; exact g3
  ·refine ⟨h1, h2, fun j hj => ?_⟩
   rcases Nat.lt_or_ge j i with hh | hh
   ·exact h3 j hh
   ·rw [show j = i by omega]; exact key (by omega) g3
section
variable {s n : Nat} {f : ZX} (b : BZ s n f)
include b
theorem BZ.lt : ∀ c ∈ f.l, c.natAbs < 2 ^ s := fun c hc => Nat.lt_of_lt_of_le (kB (by decide) c) (Nat.pow_le_pow_right (by decide) (b.sz c hc))
theorem GO : zs f ≤ s := by
 have := (wK b.lt _ (Nat.le_refl _)).2.1
 unfold zs; omega
theorem asw : ∀ c ∈ f.l, c.natAbs < 2 ^ zs f := fun c hc => by
 obtain ⟨i, hi, rfl⟩ := List.getElem_of_mem hc
 rw [← cQ hi]
 exact (wK b.lt _ (Nat.le_refl _)).2.2 i hi
theorem adk : BZ (zs f) n f := ⟨b.N, fun c hc => dD (by decide) (asw b c hc)⟩
theorem NS (hs : s ≤ 1000000000) (hn : n ≤ 50) : aG env.P 238 [Po f.l] (.int .i64 ((zs f : Nat) : Int)) := by
 have h1 := wK b.lt _ (Nat.le_refl _)
 have := YO (x := f.l) (by have := b.N; show ZX.N f < _; omega) fun i hi => by
  have h2 := b.lt _ (bU hi)
  obtain ⟨g1, g2, _⟩ := GN h2
  exact ⟨rP h2 hs, g1, by omega⟩
 rw [show ((zs f : Nat) : Int) = JZ f.l f.l.length by unfold zs; omega]
 exact this
end
theorem YR {s k s' k' u : Nat} {f h : ZX} (bf : BZ s k f) (bh : BZ s' k' h) (hs : s ≤ 1000000000) (uY : s' ≤ 1000000000) (hk : k ≤ 50) (wO : k' ≤ 50) {an ad bn bd cn cd dn dd : Int} (h1 : an.natAbs < 2 ^ u) (h2 : bn.natAbs < 2 ^ u) (h3 : cn.natAbs < 2 ^ u) (h4 : dn.natAbs < 2 ^ u) (hu : u ≤ 1000000000) :
  ∃ N : Nat, aG env.P 186 [.ag (G9 f.l an ad bn bd), .ag (G9 h.l cn cd dn dd)] (.int .i64 N) ∧ 64 + 4 * (ZX.N f + ZX.N h) * (zs f + zs h + (ZX.N f + ZX.N h) + 8) ≤ N ∧ N ≤ 64 + 8 * u + 4 * (ZX.N f + ZX.N h) * (zs f + zs h + (ZX.N f + ZX.N h) + 8) := by
 obtain ⟨a1, a2, _⟩ := GN h1
 obtain ⟨b1, b2, _⟩ := GN h2
 obtain ⟨c1, c2, _⟩ := GN h3
 obtain ⟨d1, d2, _⟩ := GN h4
 have z1 := GO bf
 have z2 := GO bh
 have n1 := bf.N
 have n2 := bh.N
 have R := SA (ad := ad) (bd := bd) (cd := cd) (dd := dd) (show f.l.length ≤ 50 by show ZX.N f ≤ _; omega) (show h.l.length ≤ 50 by show ZX.N h ≤ _; omega) (rP h1 hu) (rP h2 hu) (rP h3 hu) (rP h4 hu) ⟨a1, by omega⟩ ⟨b1, by omega⟩ ⟨c1, by omega⟩ ⟨d1, by omega⟩ (NS bf hs hk) (NS bh uY wO) ⟨by omega, by omega⟩ ⟨by omega, by omega⟩
 have e1 : 4 * ((f.l.length : Int) + h.l.length) * ((zs f : Int) + zs h + ((f.l.length : Int) + h.l.length) + 8) = ((4 * (ZX.N f + ZX.N h) * (zs f + zs h + (ZX.N f + ZX.N h) + 8) : Nat) : Int) := by
  show 4 * ((ZX.N f : Int) + (ZX.N h : Nat)) * _ = _
  simp only [Int.natCast_mul, Int.natCast_add]
  rfl
 rw [e1] at R
 generalize 4 * (ZX.N f + ZX.N h) * (zs f + zs h + (ZX.N f + ZX.N h) + 8) = M at *
 generalize bl (aS LL an.natAbs) = x1 at *
 generalize bl (aS LL bn.natAbs) = x2 at *
 generalize bl (aS LL cn.natAbs) = x3 at *
 generalize bl (aS LL dn.natAbs) = x4 at *
 refine ⟨64 + 2 * (x1 + x2 + x3 + x4).toNat + M, ?_, by omega, by omega⟩
 have e2 : (((64 + 2 * (x1 + x2 + x3 + x4).toNat + M : Nat)) : Int) = 64 + 2 * (x1 + x2 + x3 + x4) + (M : Int) := by omega
 rw [e2]
 exact R
theorem uQ (P : Nat → Prop) : ∀ N, ∃ J, J ≤ N ∧ (∀ j, j < J → ¬ P j) ∧ (J < N → P J)
 | 0 => ⟨0, Nat.le_refl _, fun j h => absurd h (Nat.not_lt_zero _), fun h => absurd h (Nat.lt_irrefl _)⟩
 | N + 1 => by
  obtain ⟨J, h1, h2, h3⟩ := uQ P N
  by_cases hJ : J < N
  ·exact ⟨J, by omega, h2, fun _ => h3 hJ⟩
  ·have : J = N := by omega
   subst this
   by_cases hP : P J
   ·exact ⟨J, by omega, h2, fun _ => hP⟩
   ·exact ⟨J + 1, by omega, fun j hj => by
     rcases Nat.lt_or_ge j J with h | h
     ·exact h2 j h
     ·rw [show j = J by omega]; exact hP, fun h => by omega⟩
theorem xV {x : List Int} {u : Nat} {p : Rat × Rat} (q1 : SQ u p.1) (q2 : SQ u p.2) (hu : u ≤ 1000000000) : aG env.P 183 [.ag (G9 x p.1.num p.1.den p.2.num p.2.den)] (.bool (decide (p.2 ≤ p.1))) := by
 have z0 := kU q1.nL q1.dL q2.nL q2.dL (by omega) (c7 p.1) (c7 p.2) ⟨q1.nL, q1.dL⟩ ⟨q2.nL, q2.dL⟩
 have hp := uP (x := x) z0
 have e : decide (0 ≤ dQ (p.1.num * (p.2.den : Int)) (p.2.num * (p.1.den : Int))) = decide (p.2 ≤ p.1) := decide_eq_decide.2 (by
  have := oR (p := p.1) (q := p.2)
  rw [← Rat.not_lt, ← this]
  omega)
 rwa [e] at hp
theorem xW {u : Nat} {t : Rat} (q : SQ u t) (hu : u ≤ 1000000000) : aG env.P 94 [RT t, .sl []] (RT t) := by
 obtain ⟨l1, l2⟩ := q.LLt (show u < 1099511627770 by omega)
 have := wG l1 l2
 rwa [c7] at this
theorem adl {s n u : Nat} {f : ZX} {p : Rat × Rat} (b : BZ s n f) (hs : s ≤ 1000000000) (hn : n ≤ 50) (q1 : SQ u p.1) (q2 : SQ u p.2) (hu : u ≤ 1000000000) : aG env.P 182 [GA f p] (GA f p) := by
 have N1 := fP (x := f.l) (b.pb (by omega) (by omega))
 rw [f.c] at N1
 exact YM N1 (xW q1 hu) (xW q2 hu)
theorem YS {x : List Int} {an ad bn bd : Int} (hq : aG env.P 68 [Po []] (Po [])) (hN : aG env.P 182 [.ag (G9 x an ad bn bd)] (.ag (G9 x an ad bn bd))) : aG env.P 105 [Po [], .ag (G9 x an ad bn bd)] (.int .i64 0) := by
 simp only [G9] at *
 refine bV [(0, Po []), (1, .ag (G9 x an ad bn bd))] Tryz.func105 ?_
 refine aA [0, 3] ?_
 refine oE ?_
 refine bZ hq ?_
 refine aD hN ?_
 (try (refine bR (of_decide_eq_true (by kernel_rfl)) ?_)); (try simp (maxSteps := 4000000) (disch := omega) [gw]); (repeat rw [if_pos (by kernel_rfl)]); (try simp (maxSteps := 4000000) (disch := omega) [gw])
 (try (refine bR (of_decide_eq_true (by kernel_rfl)) ?_)); (try simp (maxSteps := 4000000) (disch := omega) [gw]); (repeat rw [if_pos (by kernel_rfl)]); (try simp (maxSteps := 4000000) (disch := omega) [gw])
 refine bH [0, 3] ?_
 refine aL [0, 3, 14] ?_
 refine bE ?_ ?_ <;> intro h
 ·refine aA [4] ?_
  exact bT
 ·simp at h
structure AN (s n u : Nat) (f : ZX) (p : Rat × Rat) : Prop where
 I : j4 s n f
 hs : s ≤ 100000
 A : sJ f (vt (aU f)) p.1 p.2
 q1 : SQ u p.1
 q2 : SQ u p.2
 hu : u ≤ 30000000
 n8 : ZX.N f ≤ 8
 b1 : p.1 < p.2 → Ab p.1 (2 ^ (zs f + 1))
 b2 : p.1 < p.2 → Ab p.2 (2 ^ (zs f + 1))
structure SgC (s' k : Nat) (f q : ZX) : Prop where
 bq : BZ s' k q
 hs : s' ≤ 100000
 hk : k ≤ 31
 q8 : ZX.N q ≤ 8
 hG : aG env.P 184 [.sl [[Po q.l], [Po f.l]]] (Po (gz q f).l)
 IG : 2 ≤ ZX.N (gz q f) → ∃ sg ng, j4 sg ng (gz q f) ∧ sg ≤ 1000000
 hC : q ≠ 0 → ∃ sc nc, Ch sc nc (sq q)
 axx : q ≠ 0 → aG env.P 73 [Po q.l] (.fH [CH (aU (sq q)), .int .i64 0])
theorem AN.stop {s n u s' k N : Nat} {f q g w : ZX} {p r : Rat × Rat} (a : AN s n u f p) (bq : BZ s' k q) (m8 : ZX.N q ≤ 8) (q0 : q ≠ 0) (S : pM f (sq q) g w) (cW : p.1 < p.2) (hγ : vt (aU g) p.1 = vt (aU g) p.2) (A' : sJ f (vt (aU f)) r.1 r.2) (k3 : p.1 ≤ r.1) (k4 : r.2 ≤ p.2) (k5 : (r.2 - r.1) * 2 ^ N ≤ p.2 - p.1)
  (hN1 : 64 + 4 * (ZX.N f + ZX.N q) * (zs f + zs q + (ZX.N f + ZX.N q) + 8) ≤ N) : r.1 = r.2 ∨ vt (aU (sq q)) r.1 = vt (aU (sq q)) r.2 := by
 have I := a.I
 have n8 := a.n8
 obtain ⟨nq, _⟩ := mU q0
 have hNq : ZX.N (sq q) ≤ ZX.N q := (sG q0).lZ q0
 have n1 := S.N
 have Sg := NL S.ng.ne S.sg (by omega)
 have Sw := NL S.nw.ne S.sw (by omega)
 refine Classical.byContradiction fun RS => ?_
 obtain ⟨u0, Y1⟩ := not_or.1 RS
 have JO : r.1 < r.2 := by have := A'.le; grind
 have a1 := bY (a.b1 cW) (a.b2 cW) (x := r.1) k3 (by grind)
 have a2 := bY (a.b1 cW) (a.b2 cW) (x := r.2) (by grind) k4
 have hvJ : vt (aU f) r.1 = vt (aU f) r.2 + 1 := by
  rcases A'.k with ⟨h, _⟩ | ⟨_, h⟩
  ·exact absurd h u0
  ·exact h
 have m1 := Sg.bX k3
 have m2 := Sg.bX k4
 have m3 := Sg.bX (Rat.le_of_lt JO)
 have cJ := S.cnt A'.S Sg Sw (Rat.le_of_lt JO)
 have fz := adk I.ch.bz
 have qz := (adk bq).nf
 have N2f := ass I.nf a.A
 have q1' := ZX.aC.1 q0
 have axy : ∀ x ∈ (sq q).l, x.natAbs ≤ 2 ^ (zs q + ZX.N q * 9) := adh (l := 3) (fF q0) nq (zA q0).2 (fun d hd => Nat.le_of_lt (BZ.lt qz d hd)) (by rw [vX]; exact Nat.le_refl _) (by omega)
 have JU := adi (s := zs f) (r := zs q) N2f (show 1 ≤ ZX.N q by omega) n8 m8
 have hw := amq S I.nf nq (VJ q0) (s := zs f) (r := zs q + ZX.N q * 9) (n := ZX.N f) (m := ZX.N q) (β := zs f + 1) (fun d hd => Nat.le_of_lt (BZ.lt fz d hd)) axy (Nat.le_refl _) hNq n8 m8 a1 a2 JO ?_
 ·rcases hw with hw | hw
  ·omega
  ·exact Y1 hw
 ·have w0 : p.2 - p.1 ≤ 2 ^ (zs f + 2) := by
   obtain ⟨x1, x2⟩ := a.b1 cW
   obtain ⟨x3, x4⟩ := a.b2 cW
   rw [show zs f + 2 = zs f + 1 + 1 by omega, Rat.pow_succ]; grind
  have w1 := Rat.le_trans k5 w0
  have hP := iB (zs f + 2)
  have w2 : (r.2 - r.1) * 2 ^ se (zs f) (zs q + ZX.N q * 9) (ZX.N f) (ZX.N q) (zs f + 1) * 2 ^ (zs f + 2) ≤ 1 * 2 ^ (zs f + 2) := by
   rw [Rat.one_mul, Rat.mul_assoc, ← rI]
   refine Rat.le_trans (Rat.mul_le_mul_of_nonneg_left (M9 ?_) (by grind)) w1
   omega
  exact Rat.le_of_mul_le_mul_right w2 hP
theorem AN.sg {s n u s' k : Nat} {f q : ZX} {p : Rat × Rat} (a : AN s n u f p) (c : SgC s' k f q) : aG env.P 105 [Po q.l, GA f p] (.int .i64 (SC (eO f p) q)) := by
 have I := a.I
 have A := a.A
 have hs := a.hs
 have hu := a.hu
 have hfn := I.ch.hn
 have uY := c.hs
 have hk := c.hk
 have n8 := a.n8
 have m8 := c.q8
 have N1 := adl I.ch.bz (by omega) (by omega) a.q1 a.q2 (by omega)
 have Nq := fP (x := q.l) (c.bq.pb (by omega) (by omega))
 rw [q.c] at Nq
 by_cases q0 : q = 0
 ·subst q0
  rw [(show JM (eO f p) 0 0 from .inl ⟨rfl, rO (cL A)⟩).eq (cL A)]
  exact YS Nq N1
 have hl : 0 < q.l.length := by have := ZX.aC.1 q0; exact Nat.pos_of_ne_zero fun h => by (have : ZX.N q = q.l.length := rfl); omega
 have JV : q.l.length < 1000000 := by show ZX.N q < _; omega
 by_cases YQ : p.1 = p.2
 ·have hS := xT q c.bq (by omega) (by omega) a.q1 (by omega)
  have hz := kU a.q1.nL a.q1.dL a.q1.nL a.q1.dL (by omega) (c7 p.1) (c7 p.1) ⟨a.q1.nL, a.q1.dL⟩ ⟨a.q1.nL, a.q1.dL⟩
  have e0 : dQ (p.1.num * (p.1.den : Int)) (p.1.num * (p.1.den : Int)) = 0 := rK.2 rfl
  rw [e0] at hz
  have Nf := fP (x := f.l) (I.ch.bz.pb (by omega) (by omega))
  rw [f.c] at Nf
  have := ac6 (q := q.l) (x := f.l) JV (fun h => by omega) Nq Nf (xW a.q1 (by omega)) hz hS
  rw [(xU (sM YQ) q).eq (cL A)]
  rw [show GA f p = .ag (G9 f.l p.1.num p.1.den p.1.num p.1.den) by rw [show p = (p.1, p.1) from Prod.ext rfl YQ.symm]; rfl]
  exact this
 have cW : p.1 < p.2 := by have := A.le; grind
 obtain ⟨nq, hmu⟩ := mU q0
 have hNq : ZX.N (sq q) ≤ ZX.N q := (sG q0).lZ q0
 have cq := VJ q0
 have Sq := NL nq.ne cq (by omega)
 obtain ⟨w, S⟩ := JI (h := sq q) I.nf I.NB
 rw [adj I.nf I.sq q0] at S
 have n1 := S.N
 have Sg := NL S.ng.ne S.sg (by omega)
 have Sw := NL S.nw.ne S.sw (by omega)
 have mγ := Sg.bX (Rat.le_of_lt cW)
 have mφ := Sw.bX (Rat.le_of_lt cW)
 have hv : vt (aU f) p.1 = vt (aU f) p.2 + 1 := by
  rcases A.k with ⟨h, _⟩ | ⟨_, h⟩
  ·exact absurd h YQ
  ·exact h
 have c0 := S.cnt A.S Sg Sw (Rat.le_of_lt cW)
 have P0 := xV (x := f.l) a.q1 a.q2 (by omega)
 rw [decide_eq_false (Rat.not_le.2 cW)] at P0
 have hD : aG env.P 87 [Po (gz q f).l] (.int .i64 ((ZX.N (gz q f) : Int) - 1)) := lL (gz q f).l (by show ZX.N (gz q f) < _; omega)
 have asx : 2 ≤ ZX.N (gz q f) → aG env.P 185 [Po (gz q f).l, RT p.1, RT p.2] (.bool (decide (vt (aU (gz q f)) p.2 < vt (aU (gz q f)) p.1))) := fun h2 => by
  obtain ⟨sg, ng, IG, MT⟩ := c.IG h2
  exact agM IG MT cW (by omega) a.q1 a.q2 (by omega)
 by_cases hz : vt (aU (gz q f)) p.2 < vt (aU (gz q f)) p.1
 ·have h2 : 2 ≤ ZX.N (gz q f) := Nat.not_lt.1 fun h2 => by
   obtain ⟨d, hd, e⟩ := ZX.jZ (x := gz q f) (by have := ZX.aC.1 S.ng.ne; omega)
   rw [e] at hz Sg
   have := Sg.const cW (σ := bG (d : Rat)) (.inr (by rw [uU])) (fun x _ _ => by rw [uU])
   omega
  have hH := asx h2
  rw [decide_eq_true hz] at hH
  have := SB hl JV Nq N1 P0 c.hG hD (by omega) hH
  rw [(show JM (eO f p) q 0 from .inl ⟨rfl, (asv A S Sg Sw cW hz).dv (cL A) (eE q f).l⟩).eq (cL A)]
  exact this
 obtain ⟨sc, nc, C⟩ := c.hC q0
 obtain ⟨cb, cl⟩ := C.all
 obtain ⟨D, hD1, DY, g1, g2⟩ := aiO a.q1 a.q2
 have key := DO A g1 g2
 obtain ⟨N, R, hN1, CG⟩ := YR (u := u) (ad := p.1.den) (bd := p.2.den) (cn := 0) (cd := 0) (dn := 0) (dd := 0) I.ch.bz c.bq (by omega) (by omega) (by omega) (by omega) (Nat.lt_of_lt_of_le (kB (b := 2) (by decide) p.1.num) (Nat.pow_le_pow_right (by decide) a.q1.n2)) (Nat.lt_of_lt_of_le (kB (b := 2) (by decide) p.2.num) (Nat.pow_le_pow_right (by decide) a.q2.n2)) (Nat.two_pow_pos _) (Nat.two_pow_pos _) (by omega)
 have hzf := GO I.ch.bz
 have hzq := GO c.bq
 have hM : 4 * (ZX.N f + ZX.N q) * (zs f + zs q + (ZX.N f + ZX.N q) + 8) ≤ 4 * 16 * (100000 + 100000 + 16 + 8) := Nat.mul_le_mul (by omega) (by omega)
 obtain ⟨J, hJ, hj, kG⟩ := uQ (fun j => (fZ f p j).1 = (fZ f p j).2 ∨ vt (aU (sq q)) (fZ f p j).1 = vt (aU (sq q)) (fZ f p j).2) N
 have tC : (fZ f p J).1 = (fZ f p J).2 ∨ vt (aU (sq q)) (fZ f p J).1 = vt (aU (sq q)) (fZ f p J).2 := by
  by_cases hJN : J < N
  ·exact kG hJN
  have hJE : J = N := by omega
  obtain ⟨k1, k2, k3, k4, k5, _⟩ := key J
  exact a.stop c.bq m8 q0 S cW (by omega) k1 k3 k4 k5 (hJE ▸ hN1)
 have sqJ : ∀ j, j ≤ N → SQ (3 * u + N + 2) (fZ f p j).1 ∧ SQ (3 * u + N + 2) (fZ f p j).2 ∧ SQ (3 * u + N + 2) (((fZ f p j).1 + (fZ f p j).2) / 2) := fun j hj => by
  obtain ⟨_, _, _, _, _, k6, k7⟩ := key j
  exact ⟨(k6.sq hD1 DY).mono (by omega), (k7.sq hD1 DY).mono (by omega), ((k6.H4 k7).sq hD1 DY).mono (by omega)⟩
 have hV : 3 * u + N + 2 ≤ 1000000000 := by omega
 have btw : ∀ j, j ≤ N → aG env.P 92 [CH (aU (sq q)), RT (fZ f p j).1, RT (fZ f p j).2] (.int .i64 ((vt (aU (sq q)) (fZ f p j).1 : Int) - vt (aU (sq q)) (fZ f p j).2)) := fun j hj => by
  obtain ⟨s1, s2, _⟩ := sqJ j hj
  have := acS cb C.hn cl s1 s2 hV
  rwa [if_neg (Rat.not_lt.2 (key j).1.le)] at this
 obtain ⟨sJ1, sJ2, _⟩ := sqJ J hJ
 have R1 := ada (gc := zp) (C := aU (sq q)) (an := fun j => (fZ f p j).1.num) (ad := fun j => (fZ f p j).1.den) (bn := fun j => (fZ f p j).2.num) (bd := fun j => (fZ f p j).2.den) (J := J) (N := N) (r := bG (e (fZ f p J).2 q)) hl JV Nq N1 P0 c.hG hD (fun h0 => by
   have hH := asx (by omega)
   rwa [decide_eq_false hz] at hH) (c.axx q0) R (by omega) (fun j hj' => by
   obtain ⟨s1, s2, s3⟩ := sqJ j (by omega)
   have Y2 := not_or.1 (hj j hj')
   have amu : (fZ f p j).1 < (fZ f p j).2 := by have := (key j).1.le; grind
   have Pj := xV (x := f.l) s1 s2 hV
   rw [decide_eq_false (Rat.not_le.2 amu)] at Pj
   refine ⟨Pj, ⟨_, btw j (by omega), ?_⟩, adb I (by omega) (key j).1 s1 s2 s3 hV⟩
   have := Y2.2
   simp only [beq_eq_false_iff_ne, ne_eq]
   omega) hJ (fun hJN => by
   have Pj := xV (x := f.l) sJ1 sJ2 hV
   by_cases hp : (fZ f p J).2 ≤ (fZ f p J).1
   ·rw [decide_eq_true hp] at Pj; exact .inl Pj
   ·rw [decide_eq_false hp] at Pj
    refine .inr ⟨Pj, ?_⟩
    have h3 := btw J hJ
    rw [tC.resolve_left (by grind), Int.sub_self] at h3
    exact h3) (xT q c.bq (by omega) (by omega) sJ2 hV)
 have hU : SC (eO f p) q = bG (e (fZ f p J).2 q) := by
  obtain ⟨k1, k2, k3, k4, _⟩ := key J
  have e1 : eO f p = eO f (fZ f p J) := funext fun t => propext (k2 t).symm
  rw [e1]
  by_cases hp : (fZ f p J).1 = (fZ f p J).2
  ·rw [← hp]; exact (xU (sM hp) q).eq (cL k1)
  ·have JO : (fZ f p J).1 < (fZ f p J).2 := by have := k1.le; grind
   have m1 := Sg.bX k3
   have m2 := Sg.bX k4
   have m3 := Sg.bX (Rat.le_of_lt JO)
   exact (SD k1 S Sg Sw JO (by omega) q0 rfl (by omega) Sq (tC.resolve_left hp)).eq (cL k1)
 rw [hU]
 exact R1
theorem NT {y x : List Int} {c : List ZX} {an ad bn bd : Int} (hz : aG env.P 133 [PI y, .ag (lR x c an ad bn bd)] (.bool true)) : aG env.P 106 [PI y, .ag (lR x c an ad bn bd)] (.int .i64 0) := by
 simp only [lR] at *
 refine bV [(0, PI y), (1, .ag (lR x c an ad bn bd))] Tryz.func106 ?_
 refine aA [0, 3] ?_
 refine W.seq ?_
 refine aK [0, 3, 8] hz ?_
 refine bE ?_ ?_ <;> intro h
 ·refine aA [4] ?_
  exact bT
 ·simp at h
theorem YT {y x : List Int} {c : List ZX} {an ad bn bd r : Int} {pt : Bool} (hy : y.length < 1000000) (hz : aG env.P 133 [PI y, .ag (lR x c an ad bn bd)] (.bool false)) (hp : aG env.P 79 [.ag (lR x c an ad bn bd)] (.bool pt)) (h1 : pt = true ∨ y.length = 1) (hs : aG env.P 81 [PI y, R2 an ad] (.int .i64 r)) :
  aG env.P 106 [PI y, .ag (lR x c an ad bn bd)] (.int .i64 r) := by
 simp only [lR] at *
 refine bV [(0, PI y), (1, .ag (lR x c an ad bn bd))] Tryz.func106 ?_
 refine aA [0, 3] ?_
 refine W.seq ?_
 refine aK [0, 3, 8] hz ?_
 refine bE ?_ ?_ <;> intro h
 ·simp at h
 refine W.skip ?_
 refine W.seq ?_
 refine W.gM (fun σ => ∃ (v3 : Nat) (rows : Pm.Rows) (clk : Nat), σ = ⟨fa [(0, PI y), (3, .ptr 3 v3 0 0), (15, .bool true)], rows, clk⟩ ∧ rows 3 = some ⟨v3, 49, 10, [lR x c an ad bn bd]⟩) (fun K hK => ?_) ?_
 ·cases pt with
  | true =>
   simp (disch := omega) [gw]
   refine bZ hp ?_
   exact hK _ _ (aB _ [0, 3, 15]) ⟨_, _, _, rfl, by simp⟩
  | false =>
   have h1 : y.length = 1 := h1.resolve_left (by decide)
   simp (disch := omega) [gw]
   refine aD hp ?_
   simp (disch := omega) [gw, h1]
   exact hK _ _ (aB _ [0, 3, 15]) ⟨_, _, _, rfl, by simp⟩
 rintro _ ⟨v3, rows, clk, rfl, fC⟩
 simp only [lR] at fC
 refine bE ?_ ?_ <;> intro h
 ·refine W.sr ?_
  simp (disch := omega) [gw, fC]
  refine cI [4] hs ?_
  exact bT
 ·simp at h
theorem YU {y x : List Int} {c cg : List ZX} {an ad bn bd : Nat → Int} {r : Int} {J : Nat} (hy : y.length < 1000000) (hy1 : ¬ y.length = 1) (hz : aG env.P 133 [PI y, .ag (lR x c (an 0) (ad 0) (bn 0) (bd 0))] (.bool false)) (hp : aG env.P 79 [.ag (lR x c (an 0) (ad 0) (bn 0) (bd 0))] (.bool false)) (hC : aG env.P 85 [PI y] (aI zq cg))
  (hb : ∀ j, j < J → aG env.P 79 [.ag (lR x c (an j) (ad j) (bn j) (bd j))] (.bool false) ∧ (∃ z : Int, aG env.P 80 [aI zq cg, R2 (an j) (ad j), R2 (bn j) (bd j)] (.int .i64 z) ∧ 0 < z) ∧ aG env.P 134 [.ag (lR x c (an j) (ad j) (bn j) (bd j))] (.ag (lR x c (an (j + 1)) (ad (j + 1)) (bn (j + 1)) (bd (j + 1)))))
  (kG : aG env.P 79 [.ag (lR x c (an J) (ad J) (bn J) (bd J))] (.bool true) ∨ aG env.P 79 [.ag (lR x c (an J) (ad J) (bn J) (bd J))] (.bool false) ∧ aG env.P 80 [aI zq cg, R2 (an J) (ad J), R2 (bn J) (bd J)] (.int .i64 0)) (hr : aG env.P 81 [PI y, R2 (bn J) (bd J)] (.int .i64 r)) :
  aG env.P 106 [PI y, .ag (lR x c (an 0) (ad 0) (bn 0) (bd 0))] (.int .i64 r) := by
 have axA : ((y.length : Int) == 1) = false := by
  have : ¬ (y.length : Int) = 1 := by omega
  simpa using this
 simp only [lR] at *
 refine bV [(0, PI y), (1, .ag (lR x c (an 0) (ad 0) (bn 0) (bd 0)))] Tryz.func106 ?_
 refine aA [0, 3] ?_
 refine W.seq ?_
 refine aK [0, 3, 8] hz ?_
 refine bE ?_ ?_ <;> intro h
 ·simp at h
 refine W.skip ?_
 refine W.seq ?_
 refine iU ?_
 refine aD hp ?_
 simp (disch := omega) [gw, axA]
 refine bH [0, 3, 15] ?_
 refine bE ?_ ?_ <;> intro h
 ·first | (simp at h; omega) | simp at h
 refine W.skip ?_
 refine aK [0, 3, 5] hC ?_
 refine W.seq ?_
 refine W.block ?_
 refine W.bC (fun k σ => ∃ (j v3 : Nat) (rows : Pm.Rows) (clk : Nat), σ = ⟨fa [(0, PI y), (3, .ptr 3 v3 0 0), (5, aI zq cg)], rows, clk⟩ ∧ rows 3 = some ⟨v3, 49, 10, [lR x c (an j) (ad j) (bn j) (bd j)]⟩ ∧ j + k = J) J ?_ ?_
 ·exact ⟨_, .refl, 0, _, _, _, rfl, by simp, by omega⟩
 rintro k _ ⟨j, v3, rows, clk, rfl, fC, hjk⟩
 simp only [lR] at fC
 refine W.seq ?_
 by_cases hjJ : j < J
 ·obtain ⟨g1, ⟨z, g2, g3⟩, g4⟩ := hb j hjJ
  refine W.sr ?_
  simp (disch := omega) [gw, fC]
  refine aD g1 ?_
  simp (disch := omega) [gw, fC]
  refine aD g2 ?_
  simp (disch := omega) [gw, g3]
  refine bH [0, 3, 5, 33] ?_
  refine bE ?_ ?_ <;> intro h
  ·refine W.skip ?_
   refine W.block ?_
   refine W.b8 (fun K hK => ?_)
   simp (disch := omega) [gw, fC]
   refine aD g4 ?_
   simp (disch := omega) [gw, fC]
   refine hK _ ⟨k - 1, _, aB _ [0, 3, 5], by omega, j + 1, v3, _, _, rfl, by simp, by omega⟩
  ·simp at h
 ·have hjE : j = J := by omega
  subst hjE
  refine W.gM (fun σ => ∃ (v3 : Nat) (rows : Pm.Rows) (clk : Nat), σ = ⟨fa [(0, PI y), (3, .ptr 3 v3 0 0), (5, aI zq cg), (33, .bool false)], rows, clk⟩ ∧ rows 3 = some ⟨v3, 49, 10, [lR x c (an j) (ad j) (bn j) (bd j)]⟩) (fun K hK => ?_) ?_
  ·rcases kG with g1 | ⟨g1, g2⟩
   ·simp (disch := omega) [gw, fC]
    refine bZ g1 ?_
    exact hK _ _ (aB _ [0, 3, 5, 33]) ⟨_, _, _, rfl, by simp [fC]⟩
   ·simp (disch := omega) [gw, fC]
    refine aD g1 ?_
    simp (disch := omega) [gw, fC]
    refine bZ g2 ?_
    exact hK _ _ (aB _ [0, 3, 5, 33]) ⟨_, _, _, rfl, by simp [fC]⟩
  rintro _ ⟨v3, rows, clk, rfl, fC⟩
  simp only [lR] at fC
  refine bE ?_ ?_ <;> intro h
  ·simp at h
  refine fB ?_
  refine W.sr ?_
  simp (disch := omega) [gw, fC]
  refine cI [4] hr ?_
  exact bT
theorem SE {s k : Nat} {p : ZX} {x : List Int} {c : List ZX} {an ad bn bd : Int} (sg : ZX → Int) (h00 : sg 0 = 0) (hp : BZ s k p) (hk : k ≤ 31) (hs : s ≤ 1000000) (MT : ∀ (q : ZX) (s' : Nat), s' ≤ s + 5 * k → BZ s' k q → aG env.P 106 [PI q.l, .ag (lR x c an ad bn bd)] (.int .i64 (sg q))) :
  aG env.P 35 [PI p.l, .ag (lR x c an ad bn bd)] (.int .i64 (D2 sg (ZX.N p) p)) := by
 simp only [lR] at *
 refine bV [(0, PI p.l), (1, .ag (lR x c an ad bn bd))] Tryz.func35 ?_
 refine cS [0, 3] ?_
 refine W.block ?_
 obtain ⟨v, hv⟩ : ∃ v, D2 sg (ZX.N p) p = v := ⟨_, rfl⟩
 rw [hv]
 refine W.bC (fun m σ => ∃ (q : ZX) (i : Nat) (v3 : Nat) (rows : Pm.Rows) (clk : Nat), σ = ⟨fa [(0, PI q.l), (3, .ptr 3 v3 0 0)], rows, clk⟩ ∧ rows 3 = some ⟨v3, 49, 10, [lR x c an ad bn bd]⟩ ∧ BZ (s + 5 * i) k q ∧ i + ZX.N q ≤ k ∧ D2 sg (ZX.N q) q = v ∧ m = ZX.N q) (ZX.N p) ?_ ?_
 ·exact ⟨_, .refl, p, 0, _, _, _, rfl, by simp, hp, by have := hp.N; omega, hv, rfl⟩
 rintro m _ ⟨q, i, v3, rows, clk, rfl, fC, bq, EJ, hg, rfl⟩
 simp only [lR] at fC
 have hql : q.l.length = ZX.N q := rfl
 refine aL [0, 3, 8] ?_
 refine bE ?_ ?_ <;> intro h
 ·have h0 : 0 < ZX.N q := by simp at h; omega
  obtain ⟨j, hj⟩ : ∃ j, ZX.N q = j + 1 := ⟨ZX.N q - 1, by omega⟩
  have S1 := MT q (s + 5 * i) (by omega) bq
  have D1 := pI bq (by show _ ≤ 137438953472; omega) (by omega)
  have hNd := lN q
  rw [hj, D2] at hg
  refine W.skip ?_
  refine W.block ?_
  refine W.seq ?_
  refine W.sr ?_
  simp (disch := omega) [gw, fC]
  refine cI [0, 3, 5] S1 ?_
  refine aA [0, 3, 5, 13] ?_
  refine bE ?_ ?_ <;> intro h
  ·have h : ¬ sg q = 0 := by simpa using h
   rw [if_neg h] at hg
   rw [hg]
   refine aA [4] ?_
   exact bT
  ·have h : sg q = 0 := by simpa using h
   rw [if_pos h] at hg
   refine W.skip ?_
   refine W.b8 (fun K hK => ?_)
   simp (disch := omega) [gw]
   refine bZ D1 ?_
   refine hK _ ⟨ZX.N (bI q), _, aB _ [0, 3], by omega, bI q, i + 1, v3, _, _, rfl, by simp [fC], bq.bI (by omega), by omega, ?_, rfl⟩
   rw [← hg]
   exact R7 h00 (Nat.le_refl _) (by omega)
 ·have h0 : ZX.N q = 0 := by
   simp at h
   first | omega | (show q.l.length = 0; rw [h]; rfl)
  have hv0 : v = 0 := by rw [← hg, h0]; rfl
  subst hv0
  refine fB ?_
  refine aA [4] ?_
  exact bT
def Ex (f : ZX) (p : Rat × Rat) : Prop := e p.2 f = 0 → p.1 = p.2
theorem asA (f : ZX) (p : Rat × Rat) : Ex f (ex f p) := by
 unfold Ex ex
 split
 ·intro _; rfl
 ·intro h; contradiction
theorem adm {f : ZX} {p : Rat × Rat} (A : sJ f (vt (aU f)) p.1 p.2) (h : Ex f p) : hv f p = EW f p ∧ Ex f (EW f p) := by
 unfold hv EW
 by_cases hp : p.1 = p.2
 ·rw [if_pos hp, if_neg (by rw [hp]; exact Rat.lt_irrefl)]; exact ⟨rfl, h⟩
 ·have cW : p.1 < p.2 := by have := A.le; grind
  have nZ : e p.2 f ≠ 0 := fun h0 => hp (h h0)
  rw [if_neg hp, if_pos cW]
  obtain ⟨m1, m2⟩ := oD cW
  generalize (p.1 + p.2) / 2 = m at *
  by_cases h0 : e m f = 0
  ·have hv : vt (aU f) p.1 = vt (aU f) p.2 + 1 := by
    rcases A.k with ⟨h, _⟩ | ⟨_, h⟩
    ·exact absurd h hp
    ·exact h
   have h5 : vt (aU f) m < vt (aU f) p.1 := A.S.root m1 h0
   rw [if_pos h5, if_pos h0]
   exact ⟨if_pos h0, fun _ => rfl⟩
  ·rw [if_neg h0]
   by_cases h5 : vt (aU f) m < vt (aU f) p.1
   ·rw [if_pos h5]
    exact ⟨if_neg h0, fun h => absurd h h0⟩
   ·rw [if_neg h5]
    exact ⟨if_neg nZ, fun h => absurd h nZ⟩
theorem adn {f : ZX} {p : Rat × Rat} (h : Ex f p) (hA : ∀ j, sJ f (vt (aU f)) (fZ f p j).1 (fZ f p j).2) : ∀ j, Ex f (fZ f p j)
 | 0 => h
 | j + 1 => (adm (hA j) (adn h hA j)).2
theorem sN {s n u : Nat} {f : ZX} (b : BZ s n f) (hs : s ≤ 5000000) (hn : n ≤ 31) {t : Rat} (q : SQ u t) (hu : u ≤ 1000000000) : aG env.P 81 [PI f.l, RR t] (.int .i64 (bG (e t f))) := by
 have hmul : n * (u + 1) ≤ 31 * (u + 1) := Nat.mul_le_mul_right _ hn
 have s1 := sB b q.n2 q.d2 q.hu (by omega) (by show _ < 137438953472; omega)
 rw [j3] at s1
 rw [c8]
 exact s1
structure QgC (s' k : Nat) (f q : ZX) : Prop where
 bq : BZ s' k q
 hs : s' ≤ 100000
 hk : k ≤ 31
 q8 : ZX.N q ≤ 8
 hG : aG env.P 208 [PI q.l, PI f.l] (PI (gz q f).l)
 IG : 2 ≤ ZX.N (gz q f) → ∃ sg ng, j4 sg ng (gz q f)
 hC : q ≠ 0 → ∃ sc nc, Ch sc nc (sq q)
 hCh : q ≠ 0 → aG env.P 85 [PI q.l] (aI zq (aU (sq q)))
theorem AN.asB {s n u s' k : Nat} {f q : ZX} {p : Rat × Rat} (a : AN s n u f p) (c : QgC s' k f q) : aG env.P 133 [PI q.l, QA f (aU f) p] (.bool (decide (SC (eO f p) q = 0))) := by
 have I := a.I
 have A := a.A
 have hu := a.hu
 have n8 := a.n8
 have m8 := c.q8
 have uY := c.hs
 have e1 := xR (f := f) (c := aU f) a.q1 a.q2 (by omega)
 have hgN : ZX.N (gz q f) ≤ ZX.N f := (eE q f).r.lZ I.nf.ne
 have u1 : (q.l.length = 0) ↔ q = 0 := by
  rw [show q.l.length = ZX.N q from rfl]
  exact ⟨fun h => Classical.byContradiction fun h0 => by have := ZX.aC.1 h0; omega, fun h => by rw [h]; rfl⟩
 by_cases q0 : q = 0
 ·have hU : SC (eO f p) q = 0 := by rw [q0]; exact (show JM (eO f p) 0 0 from .inl ⟨rfl, rO (cL A)⟩).eq (cL A)
  rw [decide_eq_true hU]
  by_cases h2 : 2 ≤ ZX.N (gz q f)
  ·obtain ⟨sg, ng, IGG⟩ := c.IG h2
   have k4 := IGG.rM a.q1 a.q2 (by omega)
   rw [c8, c8] at k4
   exact mJ (by show ZX.N q < _; omega) (by show ZX.N (gz q f) < _; omega) e1 (fun _ => sN c.bq (by omega) c.hk a.q1 (by omega)) c.hG (fun _ => IGG.JH) (fun _ => k4) (by rw [if_pos (u1.2 q0)])
  ·exact mJ (by show ZX.N q < _; omega) (by show ZX.N (gz q f) < _; omega) e1 (fun _ => sN c.bq (by omega) c.hk a.q1 (by omega)) c.hG (fun hh => absurd hh h2) (fun hh => absurd hh h2) (b := 0) (cg := []) (by rw [if_pos (u1.2 q0)])
 have SU : ¬ q.l.length = 0 := fun h => q0 (u1.1 h)
 by_cases YQ : p.1 = p.2
 ·rw [decide_eq_true YQ] at e1
  have hU := (xU (sM YQ) q).eq (cL A)
  rw [hU]
  have hz : decide (bG (e p.1 q) = 0) = if q.l.length = 0 then true else if true = true then bG (e p.1 q) == 0 else if (gz q f).l.length < 2 then false else decide ((0 : Int) < 0) := by
   rw [if_neg SU, if_pos rfl]; rfl
  by_cases h2 : 2 ≤ ZX.N (gz q f)
  ·obtain ⟨sg, ng, IGG⟩ := c.IG h2
   have k4 := IGG.rM a.q1 a.q2 (by omega)
   rw [c8, c8] at k4
   exact mJ (by show ZX.N q < _; omega) (by show ZX.N (gz q f) < _; omega) e1 (fun _ => sN c.bq (by omega) c.hk a.q1 (by omega)) c.hG (fun _ => IGG.JH) (fun _ => k4) (by rw [if_neg SU, if_pos rfl]; rfl)
  ·exact mJ (by show ZX.N q < _; omega) (by show ZX.N (gz q f) < _; omega) e1 (fun _ => sN c.bq (by omega) c.hk a.q1 (by omega)) c.hG (fun hh => absurd hh h2) (fun hh => absurd hh h2) (b := 0) (cg := []) hz
 have cW : p.1 < p.2 := by have := A.le; grind
 rw [decide_eq_false YQ] at e1
 obtain ⟨σ, hσ, asC⟩ := JN I.nf I.sq I.NB (by omega) A (by omega) q0 cW
 rw [hσ.eq (cL A)]
 by_cases h2 : 2 ≤ ZX.N (gz q f)
 ·obtain ⟨sg, ng, IGG⟩ := c.IG h2
  have k4 := IGG.rM a.q1 a.q2 (by omega)
  rw [if_neg (Rat.not_lt.2 (Rat.le_of_lt cW)), c8, c8] at k4
  refine mJ (by show ZX.N q < _; omega) (by show ZX.N (gz q f) < _; omega) e1 (fun hh => by cases hh) c.hG (fun _ => IGG.JH) (fun _ => k4) (σ := 0) ?_
  rw [if_neg SU, if_neg (by decide), if_neg (by show ¬ ZX.N (gz q f) < 2; omega)]
  exact decide_eq_decide.2 (by omega)
 ·refine mJ (by show ZX.N q < _; omega) (by show ZX.N (gz q f) < _; omega) e1 (fun hh => by cases hh) c.hG (fun hh => absurd hh h2) (fun hh => absurd hh h2) (σ := 0) (b := 0) (cg := []) ?_
  rw [if_neg SU, if_neg (by decide), if_pos (by show ZX.N (gz q f) < 2; omega)]
  refine decide_eq_false fun hh => ?_
  have hz := asC.1 hh
  have : gz q f = 1 := (CU (.inr I.nf.ne)).N1 (by omega)
  rw [this] at hz
  have hS1 := NL ZX.lY (fun d h1 h2 => by have := h1.lZ ZX.lY; rwa [ZX.rB] at this) (by rw [ZX.rB]; omega)
  have := hS1.const cW (σ := 1) (.inr (by rw [UN]; decide)) (fun x _ _ => by rw [UN]; decide)
  omega
theorem AN.qsg {s n u s' k : Nat} {f q : ZX} {p : Rat × Rat} (a : AN s n u f p) (hx : Ex f p) (c : QgC s' k f q) : aG env.P 106 [PI q.l, QA f (aU f) p] (.int .i64 (SC (eO f p) q)) := by
 have I := a.I
 have A := a.A
 have hu := a.hu
 have hs := a.hs
 have uY := c.hs
 have hk := c.hk
 have n8 := a.n8
 have m8 := c.q8
 have Z := a.asB c
 by_cases hz : SC (eO f p) q = 0
 ·rw [hz]
  rw [decide_eq_true hz] at Z
  exact NT Z
 rw [decide_eq_false hz] at Z
 have q0 : q ≠ 0 := fun h => hz (by rw [h]; exact (show JM (eO f p) 0 0 from .inl ⟨rfl, rO (cL A)⟩).eq (cL A))
 have P0 := xR (f := f) (c := aU f) a.q1 a.q2 (by omega)
 have JV : q.l.length < 1000000 := by show ZX.N q < _; omega
 by_cases YQ : p.1 = p.2 ∨ ZX.N q = 1
 ·have p7 := sN c.bq (by omega) hk a.q1 (show u ≤ 1000000000 by omega)
  have hv : SC (eO f p) q = bG (e p.1 q) := by
   by_cases h1 : p.1 = p.2
   ·exact (xU (sM h1) q).eq (cL A)
   ·obtain ⟨d, hd, rfl⟩ := ZX.jZ (YQ.resolve_left h1)
    rw [uU]
    have hdq : (d : Rat) ≠ 0 := fun h0 => hd (Rat.intCast_eq_zero_iff.1 h0)
    refine JM.eq (cL A) (.inr ⟨?_, 1, p.1 - 1, p.2, by decide, A.uN (.inl (by grind)), nV, fun x _ _ => by rw [uU]; exact ⟨rfl, sC hd⟩⟩)
    rcases bQ (d : Rat) with ⟨_, h⟩ | ⟨h, _⟩ | ⟨_, h⟩
    ·exact .inr h
    ·exact absurd h hdq
    ·exact .inl h
  rw [hv]
  exact YT JV Z P0 (by
   rcases YQ with h | h
   ·exact .inl (decide_eq_true h)
   ·exact .inr h) p7
 obtain ⟨h1, h2⟩ := not_or.1 YQ
 have cW : p.1 < p.2 := by have := A.le; grind
 rw [decide_eq_false h1] at P0
 obtain ⟨σ, hσ, asC⟩ := JN I.nf I.sq I.NB (by omega) A (by omega) q0 cW
 rw [hσ.eq (cL A)] at hz
 obtain ⟨nq, hmu⟩ := mU q0
 have hNq : ZX.N (sq q) ≤ ZX.N q := (sG q0).lZ q0
 have Sq := NL nq.ne (VJ q0) (by omega)
 obtain ⟨w, S⟩ := JI (h := sq q) I.nf I.NB
 rw [adj I.nf I.sq q0] at S
 have n1 := S.N
 have Sg := NL S.ng.ne S.sg (by omega)
 have Sw := NL S.nw.ne S.sw (by omega)
 have mγ := Sg.bX (Rat.le_of_lt cW)
 obtain ⟨sc, nc, C⟩ := c.hC q0
 obtain ⟨cb, cl⟩ := C.all
 obtain ⟨D, hD1, DY, g1, g2⟩ := aiO a.q1 a.q2
 have key := DO A g1 g2
 have hE := adn hx fun j => (key j).1
 obtain ⟨N, hN⟩ : ∃ N, N = 64 + 4 * (ZX.N f + ZX.N q) * (zs f + zs q + (ZX.N f + ZX.N q) + 8) := ⟨_, rfl⟩
 have hzf := GO I.ch.bz
 have hzq := GO c.bq
 have hM : 4 * (ZX.N f + ZX.N q) * (zs f + zs q + (ZX.N f + ZX.N q) + 8) ≤ 4 * 16 * (100000 + 100000 + 16 + 8) := Nat.mul_le_mul (by omega) (by omega)
 obtain ⟨J, hJ, hj, kG⟩ := uQ (fun j => (fZ f p j).1 = (fZ f p j).2 ∨ vt (aU (sq q)) (fZ f p j).1 = vt (aU (sq q)) (fZ f p j).2) N
 have tC : (fZ f p J).1 = (fZ f p J).2 ∨ vt (aU (sq q)) (fZ f p J).1 = vt (aU (sq q)) (fZ f p J).2 := by
  by_cases hJN : J < N
  ·exact kG hJN
  have hJE : J = N := by omega
  obtain ⟨k1, k2, k3, k4, k5, _⟩ := key J
  exact a.stop c.bq m8 q0 S cW (by omega) k1 k3 k4 k5 (by omega)
 have hV : 3 * u + N + 3 ≤ 1000000000 := by omega
 have sqJ : ∀ j, j ≤ N → SQ (3 * u + N + 3) (fZ f p j).1 ∧ SQ (3 * u + N + 3) (fZ f p j).2 ∧ SQ (3 * u + N + 3) (((fZ f p j).1 + (fZ f p j).2) / 2) ∧ SQ (3 * u + N + 3) ((fZ f p j).1 + (fZ f p j).2) := fun j hj => by
  obtain ⟨_, _, _, _, _, k6, k7⟩ := key j
  exact ⟨(k6.sq hD1 DY).mono (by omega), (k7.sq hD1 DY).mono (by omega), ((k6.H4 k7).sq hD1 DY).mono (by omega), ((k6.add k7).sq hD1 DY).mono (by omega)⟩
 have btw : ∀ j, j ≤ N → aG env.P 80 [aI zq (aU (sq q)), RR (fZ f p j).1, RR (fZ f p j).2] (.int .i64 ((vt (aU (sq q)) (fZ f p j).1 : Int) - vt (aU (sq q)) (fZ f p j).2)) := fun j hj => by
  obtain ⟨s1, s2, _⟩ := sqJ j hj
  have := RV cb C.hn cl s1 s2 hV
  rwa [if_neg (Rat.not_lt.2 (key j).1.le)] at this
 obtain ⟨sJ1, sJ2, _⟩ := sqJ J hJ
 have R1 := YU (c := aU f) (cg := aU (sq q)) (an := fun j => (fZ f p j).1.num) (ad := fun j => (fZ f p j).1.den) (bn := fun j => (fZ f p j).2.num) (bd := fun j => (fZ f p j).2.den) (J := J) (r := bG (e (fZ f p J).2 q)) JV h2 Z P0 (c.hCh q0) (fun j hj' => by
   obtain ⟨s1, s2, s3, s4⟩ := sqJ j (by omega)
   have Y2 := not_or.1 (hj j hj')
   have amu : (fZ f p j).1 < (fZ f p j).2 := by have := (key j).1.le; grind
   have Pj := xR (f := f) (c := aU f) s1 s2 hV
   rw [decide_eq_false Y2.1] at Pj
   have m := Sq.bX (Rat.le_of_lt amu)
   have H := I.asn (key j).1.le s1 s2 s3 s4 hV
   rw [(adm (key j).1 (hE j)).1] at H
   exact ⟨Pj, ⟨_, btw j (by omega), by have := Y2.2; omega⟩, H⟩) (by
   have Pj := xR (f := f) (c := aU f) sJ1 sJ2 hV
   by_cases hp : (fZ f p J).1 = (fZ f p J).2
   ·rw [decide_eq_true hp] at Pj; exact .inl Pj
   ·rw [decide_eq_false hp] at Pj
    refine .inr ⟨Pj, ?_⟩
    have h3 := btw J hJ
    rw [tC.resolve_left hp, Int.sub_self] at h3
    exact h3) (sN c.bq (by omega) hk sJ2 hV)
 have hU : SC (eO f p) q = bG (e (fZ f p J).2 q) := by
  obtain ⟨k1, k2, k3, k4, _⟩ := key J
  have e1 : eO f p = eO f (fZ f p J) := funext fun t => propext (k2 t).symm
  rw [e1]
  by_cases hp : (fZ f p J).1 = (fZ f p J).2
  ·rw [← hp]; exact (xU (sM hp) q).eq (cL k1)
  ·have JO : (fZ f p J).1 < (fZ f p J).2 := by have := k1.le; grind
   have m1 := Sg.bX k3
   have m2 := Sg.bX k4
   have m3 := Sg.bX (Rat.le_of_lt JO)
   exact (SD k1 S Sg Sw JO (by omega) q0 rfl (by omega) Sq (tC.resolve_left hp)).eq (cL k1)
 rw [hU]
 exact R1
def gg (x : ZX × Rat × Rat) : List PV := Po x.1.l :: (tc x.2.1 ++ tc x.2.2)
@[simp] theorem axC {x : ZX × Rat × Rat} : gg x = Po x.1.l :: (tc x.2.1 ++ tc x.2.2) := rfl
@[simp] theorem aoq {l : List (ZX × Rat × Rat)} : bF 9 (emap gg l) = True := dG fun _ => rfl
@[simp] theorem amv {v e n : Nat} {l : List (ZX × Rat × Rat)} : dC (some ⟨v, e, n, emap gg l⟩) = True := cY fun _ => rfl
theorem GP {f : ZX} {p : Rat × Rat} (S : tD f (vt (aU f))) (h : vt (aU f) p.1 = vt (aU f) p.2 + 1) (t : Rat) : eO f p t ↔ vt (aU f) t ≤ vt (aU f) p.2 := by
 refine ⟨fun hh => ?_, fun hh => ?_⟩
 ·rcases hh with hh | ⟨_, hh⟩
  ·exact S.bX hh
  ·omega
 ·refine .inr ⟨?_, by omega⟩
  refine Rat.not_le.1 fun h2 => ?_
  have := S.bX h2
  omega
theorem xY {v : Rat → Nat} {D : Nat} {B δ : Rat} (C : Cut v B δ) : ∀ (k j : Nat) (lo hi : Rat), Gr D B j lo → Gr D B j hi → lo < hi → hi - lo ≤ δ * 2 ^ k → ∀ i, i < (D0 v k lo hi).length → v (nth (D0 v k lo hi) i).2 + i + 1 = v lo
 | 0, j, lo, hi, g1, g2, h, hd, i, l6 => by
  rw [D0] at l6 ⊢
  split at l6
  ·cases l6
  ·rename_i he
   rw [if_neg he]
   have := C.leaf g1.b g2.b h (by rw [Rat.pow_zero, Rat.mul_one] at hd; exact hd) he
   simp at l6; subst l6
   show v hi + 0 + 1 = v lo
   omega
 | k + 1, j, lo, hi, g1, g2, h, hd, i, l6 => by
  rw [D0] at l6 ⊢
  by_cases he : v lo = v hi
  ·rw [if_pos he] at l6; cases l6
  ·rw [if_neg he] at l6 ⊢
   by_cases CY : v lo = v hi + 1
   ·rw [if_pos CY] at l6 ⊢
    simp at l6; subst l6
    show v hi + 0 + 1 = v lo
    omega
   ·rw [if_neg CY] at l6 ⊢
    obtain ⟨m1, m2⟩ := oD h
    obtain ⟨d1, d2⟩ := rJ hd
    have gm := g1.H4 g2
    have a := xY C k (j + 1) lo ((lo + hi) / 2) (g1.mono (by omega)) gm m1 d1
    have b := xY C k (j + 1) ((lo + hi) / 2) hi gm (g2.mono (by omega)) m2 d2
    obtain ⟨_, l1, _⟩ := nW C k (j + 1) lo ((lo + hi) / 2) (g1.mono (by omega)) gm m1 d1
    have n1 := C.bX lo ((lo + hi) / 2) (Rat.le_of_lt m1)
    generalize (lo + hi) / 2 = m at *
    rw [List.length_append] at l6
    rcases Nat.lt_or_ge i (D0 v k lo m).length with h3 | h3
    ·have h4 := a i h3
     rw [cQ (by rw [List.length_append]; omega), List.getElem_append_left h3, ← cQ h3]
     exact h4
    ·have h4 := b (i - (D0 v k lo m).length) (by omega)
     rw [cQ (by rw [List.length_append]; omega), List.getElem_append_right h3, ← cQ]
     omega
namespace j4
variable {s n : Nat} {f : ZX} (I : j4 s n f)
include I
theorem GQ (i : Nat) (hi : i < (wY s n f).length) : vt (aU f) (nth (wY s n f) i).2 + i + 1 = vt (aU f) (-eW f.l) := by
 obtain ⟨δ, h1, h2, C⟩ := I.cut (s + 1)
 exact xY C (lvl s n) 0 _ _ I.AE I.xQ I.NG (I.width h2) i hi
theorem ado (x : Rat) : vt (aU f) x ≤ vt (aU f) (-eW f.l) := by
 by_cases h : x < -eW f.l
 ·exact Nat.le_of_eq (I.S.bg (a := x) (b := -eW f.l) ⟨1, by decide, fun y _ h2 => (sK f.c I.f0 (.inl h2)).1⟩ h)
 ·exact I.S.bX (Rat.not_lt.1 h)
theorem adp (x : Rat) : vt (aU f) (eW f.l) ≤ vt (aU f) x := by
 by_cases h : eW f.l < x
 ·exact Nat.le_of_eq (I.S.bg (a := eW f.l) (b := x) ⟨1, by decide, fun y h2 _ => (sK f.c I.f0 (.inr h2)).1⟩ h)
 ·exact I.S.bX (Rat.not_lt.1 h)
theorem SG (i : Nat) (hi : i < (wY s n f).length) (t : Rat) : eO f (nth ((wY s n f).map (ex f)) i) t ↔ vt (aU f) t + i + 1 ≤ vt (aU f) (-eW f.l) := by
 obtain ⟨a1, a2, a3, a4, a5, a6⟩ := I.ivs.mem _ (bU hi)
 have hl := I.GQ i hi
 rw [DJ hi]
 refine ((VA ⟨I.S, .inr ⟨a4, a6⟩⟩).2 t).trans ?_
 rw [GP I.S a6]
 omega
end j4
end Go.Proofs.YtelhfbikiccfkaaGreat
namespace Go.Proofs.YtelhfbikiccfkaaGreat
open Go Pm
open ZX hiding N W
theorem adq {s n : Nat} {f : ZX} (I : j4 s n f) (h : ZX) (hC : (qb (qb s n) n + n + 6) * 4 ^ n ≤ 4500000000) (hq : qb s n ≤ 5000000) : j4 (qb s n) n (gz h f) := by
 have nd : Nf (gz h f) := CU (.inr I.nf.ne)
 have hd : dv (gz h f) f := (eE h f).r
 obtain ⟨w, nw, e⟩ := I.nf.quo nd hd
 have hD : bI f = bI w * gz h f + w * bI (gz h f) := by
  have h1 := congrArg bI e
  rwa [nM] at h1
 refine ⟨⟨I.lay.dv I.nf nd hd, I.lay.hn, Nat.le_trans I.lay.hs (Nat.pow_le_pow_right (by decide) (by unfold qb; omega)), hC⟩, I.uC, nd, JJ nd fun d h1 h2 => I.NB d (h1.trans hd) (by rw [hD]; exact (h1.mul_left _).add (h2.mul_left _)), hq⟩
theorem j4.root {s n : Nat} {f : ZX} (I : j4 s n f) {p : Rat × Rat} (hp : p ∈ wY s n f) : SQ (uu s) p.1 ∧ SQ (uu s) p.2 ∧ sJ f (vt (aU f)) (ex f p).1 (ex f p).2 ∧ SQ (uu s) (ex f p).1 ∧ SQ (uu s) (ex f p).2 := by
 obtain ⟨a1, a2, a3, a4, a5, a6⟩ := I.ivs.mem _ hp
 refine ⟨a1, a2, (VA ⟨I.S, .inr ⟨a4, a6⟩⟩).1, ?_, ?_⟩ <;> (unfold ex; split <;> assumption)
def pk (l : List Int) (i : Nat) : Int := IntKind.wrap .i64 (nth l i + 6) % 13 - 6
theorem aiT (l : List Int) (i : Nat) : -6 ≤ pk l i ∧ pk l i ≤ 6 := by
 unfold pk
 have h1 := Int.emod_nonneg (IntKind.wrap .i64 (nth l i + 6)) (show (13 : Int) ≠ 0 by decide)
 have h2 := Int.emod_lt_of_pos (IntKind.wrap .i64 (nth l i + 6)) (show (0 : Int) < 13 by decide)
 omega
def YV (l : List Int) (n : Nat) : List Int := (List.range n).map (pk l)
theorem adr (l : List Int) (n : Nat) : YV l (n + 1) = YV l n ++ [pk l n] := by
 simp [YV, List.range_succ]
theorem JP (l : List Int) (n : Nat) : (YV l n).length = n := by simp [YV]
theorem ads (l : List Int) (n : Nat) : List.take n (YV l n) = YV l n := List.take_of_length_le (by rw [JP]; exact Nat.le_refl _)
theorem adt (v : Int) : -9223372036854775808 ≤ IntKind.wrap .i64 v ∧ IntKind.wrap .i64 v < 9223372036854775808 := by
 simp only [IntKind.wrap, IntKind.bits, IntKind.signed]
 have h1 := Int.emod_nonneg v (show (2 ^ 64 : Int) ≠ 0 by decide)
 have h2 := Int.emod_lt_of_pos v (show (0 : Int) < 2 ^ 64 by decide)
 simp
 split <;> omega
theorem xZ {l al : List Int} {k : Int} {f : ZX} {L : List (Rat × Rat)} {x C : List Int} {cc : List ZX} {n d : Int} {r : PV} (hl : l.length < 9223372036854775808) (hk : -9223372036854775808 ≤ k ∧ k < 9223372036854775808) (hOf : aG env.P 96 [aI aF (YV l (min l.length 5))] (PI al)) (ha : al.length < 1000000) (hL : L.length < 1000000)
  (hS : aG env.P 26 [.int .i64 k, .int .i64 l.length] (R2 n d)) (hR : aG env.P 45 [R2 n d] (.ag (lR x cc n d n d))) (hRo : 2 ≤ al.length → aG env.P 97 [PI al] (aI (qa f (aU f)) L))
  (hr : r = if al.length < 2 ∨ L = [] then .ag (lR x cc n d n d) else QA f (aU f) (nth L (k % L.length).toNat)) : aG env.P 28 [aI aF l, .int .i64 k] r := by
 simp only [lR] at *
 refine bV [(0, aI aF l), (1, .int .i64 k)] Tryz.func28 ?_
 refine aA [0, 1, 4] ?_
 refine aA [0, 1, 4, 5] ?_
 refine W.nil 5 5 3 1 (by simp) (by decide) (fun K hK => ?_)
 refine W.lw [0, 1, 4, 5] hK ?_; clear hK K; simp
 refine aL [0, 1, 4, 5, 6] ?_
 refine W.block ?_
 refine W.bC (fun m σ => ∃ (i v4 ver : Nat) (rows : Pm.Rows) (clk : Nat), σ = ⟨fa [(0, aI aF l), (1, .int .i64 k), (4, .ptr 4 v4 0 0), (5, .own 5 ver 0 i), (6, .int .i64 i)], rows, clk⟩ ∧ rows 4 = some ⟨v4, 49, 10, [[.nil, .nil, .nil, .bool false, .nil, .bool false, .nil, .bool false, .nil, .bool false]]⟩ ∧ rows 5 = some ⟨ver, 3, 1, emap aF (YV l i)⟩ ∧ i + m = min l.length 5) (min l.length 5) ?_ ?_
 ·exact ⟨_, .refl, 0, _, _, _, _, rfl, by simp, by simp [YV, emap], by omega⟩
 rintro m _ ⟨i, v4, ver, rows, clk, rfl, iV, lW, him⟩
 refine W.seq ?_
 have SM := JP l i
 by_cases hi : i < min l.length 5
 ·have YW : i < l.length := by omega
  have hi5 : (i : Int) < 5 := by omega
  have aCI : (i : Int) < l.length := by omega
  have hw := adt (nth l i + 6)
  have hW := gZ (IntKind.wrap .i64 (nth l i + 6)) 13 hw (by decide) (by decide)
  have hp := aiT l i
  have e1 : IntKind.wrap .i64 (IntKind.wrap .i64 (nth l i + 6) % 13 - 6) = pk l i := wrap_i64 (by show -9223372036854775808 ≤ pk l i; omega) (by show pk l i < 9223372036854775808; omega)
  refine W.sr ?_
  simp (disch := omega) [gw, YW, hi5]
  refine bH [0, 1, 4, 5, 6, 16] ?_
  refine bE ?_ ?_ <;> intro h
  ·refine lG ?_
   refine W.b8 (fun K hK => ?_)
   simp (disch := omega) [gw, YW]
   refine aD hW ?_
   simp (disch := omega) [gw, lW, SM, e1]
   refine W.lw [0, 1, 4, 5, 6] hK ?_; clear hK K; simp
   refine W.b8 (fun K hK => ?_); simp (disch := omega) [gw]
   refine hK _ ⟨m - 1, _, aB _ [0, 1, 4, 5, 6], by omega, i + 1, _, _, _, _, rfl, by simp [iV], ?_, by omega⟩
   rw [adr]
   simp
  ·simp at h
 ·have l6 : i = min l.length 5 := by omega
  subst l6
  refine W.gM (fun σ => ∃ (rows : Pm.Rows) (clk : Nat), σ = ⟨fa [(0, aI aF l), (1, .int .i64 k), (4, .ptr 4 v4 0 0), (5, .own 5 ver 0 (min l.length 5)), (6, .int .i64 ((min l.length 5 : Nat) : Int)), (16, .bool false)], rows, clk⟩ ∧ rows 4 = some ⟨v4, 49, 10, [[.nil, .nil, .nil, .bool false, .nil, .bool false, .nil, .bool false, .nil, .bool false]]⟩ ∧ rows 5 = some ⟨ver, 3, 1, emap aF (YV l (min l.length 5))⟩) (fun K hK => ?_) ?_
  ·obtain ⟨q, hq⟩ : ∃ q : Nat, min l.length 5 = q := ⟨_, rfl⟩
   rw [hq] at hi him lW SM hK ⊢
   by_cases h1 : q < l.length
   ·have h5 : ¬ (q : Int) < 5 := by omega
    have YZ : (q : Int) < l.length := by omega
    simp (disch := omega) [gw, h1, YZ, h5]
    exact hK _ _ (aB _ [0, 1, 4, 5, 6, 16]) ⟨_, _, rfl, iV, lW⟩
   ·have YZ : ¬ (q : Int) < l.length := by omega
    simp (disch := omega) [gw, h1, YZ]
    exact hK _ _ (aB _ [0, 1, 4, 5, 6, 16]) ⟨_, _, rfl, iV, lW⟩
  rintro _ ⟨rows, clk, rfl, iV, lW⟩
  refine bE ?_ ?_ <;> intro h
  ·simp at h
  refine fB ?_
  refine W.sr ?_
  simp (disch := omega) [gw, lW, ads]
  refine cI [0, 1, 4, 7] hOf ?_
  refine W.seq ?_
  by_cases h2 : al.length < 2
  ·rw [if_pos (.inl h2)] at hr
   subst hr
   refine aA [0, 1, 4, 7, 33] ?_
   refine bE ?_ ?_ <;> intro h
   ·refine iU ?_
    refine bZ hS ?_
    refine aD hR ?_
    simp (disch := omega) [gw, iV]
    refine bH [4] ?_
    exact bT
   ·exfalso; simp at h; omega
  ·have axD := hRo (by omega)
   refine aA [0, 1, 4, 7, 33] ?_
   refine bE ?_ ?_ <;> intro h
   ·exfalso; simp at h; omega
   refine W.skip ?_
   refine aK [0, 1, 4, 8] axD ?_
   refine W.seq ?_
   by_cases h3 : L = []
   ·rw [if_pos (.inr h3)] at hr
    subst hr h3
    refine aA [0, 1, 4, 8, 43] ?_
    refine bE ?_ ?_ <;> intro h
    ·refine iU ?_
     refine bZ hS ?_
     refine aD hR ?_
     simp (disch := omega) [gw, iV]
     refine bH [4] ?_
     exact bT
    ·simp at h
   ·rw [if_neg (by simp [h2, h3])] at hr
    subst hr
    have hLp := List.length_pos_iff.2 h3
    have hW := gZ k (L.length : Int) hk (by omega) (by omega)
    have FO := Int.emod_nonneg k (show (L.length : Int) ≠ 0 by omega)
    have hm2 := Int.emod_lt_of_pos k (show (0 : Int) < L.length by omega)
    obtain ⟨j, hj⟩ : ∃ j : Nat, k % (L.length : Int) = j := ⟨(k % (L.length : Int)).toNat, by omega⟩
    have hjL : j < L.length := by omega
    rw [hj] at hW ⊢
    rw [Int.toNat_natCast]
    refine aA [0, 1, 4, 8, 43] ?_
    refine bE ?_ ?_ <;> intro h
    ·exfalso; simp at h; exact h3 h
    refine W.skip ?_
    refine iU ?_
    refine aD hW ?_
    simp (disch := omega) [gw, hjL, iV]
    refine bH [4] ?_
    exact bT
end Go.Proofs.YtelhfbikiccfkaaGreat
namespace Go.Proofs.YtelhfbikiccfkaaGreat
open Go Pm
theorem aiU (a b : ZX) : CZ [a, b] = gz a b := by
 show gz (gz 0 a) b = _
 rw [MN, T9]
theorem asD (a : ZX) : CZ [a] = nf a := by
 show gz 0 a = _
 rw [MN]
theorem adu {C n s : Nat} {a c : ZX} (ha : ZX.N a ≤ n) (hc : ZX.N c ≤ n) (h : (s + n + 1) * 2 * 4 ^ n ≤ C) : zK C n s (nf a) (nf c) := by
 unfold zK
 rw [vX, vX]
 have h1 : ∀ k, k ≤ n → (s + n + 1) * 2 * 4 ^ k ≤ C := fun k hk => Nat.le_trans (Nat.mul_le_mul_left _ (Nat.pow_le_pow_right (by decide) hk)) h
 split
 ·refine Nat.le_trans (Nat.mul_le_mul_right _ ?_) (h1 _ ha)
  omega
 ·exact h1 _ hc
structure Eu (s n : Nat) : Prop where
 hn : n ≤ 20
 hs : 1 ≤ s
 hC : (s + n + 1) * 2 * 4 ^ n ≤ 4500000000
theorem Eu.two {s n : Nat} (h : Eu s n) {a c : ZX} (ba : BZ s n a) (bc : BZ s n c) : aG env.P 157 [Po a.l, Po c.l] (Po (gz a c).l) := UF ba bc (adu ba.N bc.N h.hC) h.hn (Nat.le_refl _)
theorem Eu.qg {s n : Nat} (h : Eu s n) {a c : ZX} (ba : BZ s n a) (bc : BZ s n c) : aG env.P 208 [PI a.l, PI c.l] (PI (gz a c).l) := GB ba bc (adu ba.N bc.N h.hC) h.hn (Nat.le_refl _) h.hs
theorem agP (s n : Nat) : BZ s n 0 := ⟨Nat.zero_le _, fun c hc => by cases hc⟩
theorem Eu.alX {s n : Nat} (h : Eu s n) {a c : ZX} (ba : BZ s n a) (bc : BZ s n c) : aG env.P 184 [.sl [[Po a.l], [Po c.l]]] (Po (gz a c).l) := by
 have := agh [a, c] (by simp) (fun i hi => by
  match i, hi with
  | 0, _ => exact h.two (agP s n) ba
  | 1, _ =>
   have e : CZ ([a, c].take 1) = nf a := asD a
   rw [e]
   have := h.two ba.nf bc
   rw [show CZ ([a, c].take (1 + 1)) = gz (nf a) c from by rw [T9]; exact aiU a c]
   exact this)
 rw [aiU] at this
 exact this
end Go.Proofs.YtelhfbikiccfkaaGreat
