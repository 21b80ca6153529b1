import Derived.Test.YtbbjgncblhfegaaGreatFas
set_option linter.unusedSimpArgs false
set_option linter.unusedVariables false
namespace Go.Proofs.YtbbjgncblhfegaaGreat
open Go Pm
open ZX hiding N W
def qD (v : Rat → Nat) : Nat → Rat → Rat → Rat × Rat
 | 0, lo, hi => (lo, hi)
 | k + 1, lo, hi => if v lo ≤ v hi + 1 then (lo, hi) else if v ((lo + hi) / 2) < v lo then qD v k lo ((lo + hi) / 2) else qD v k ((lo + hi) / 2) hi
theorem aby {v : Rat → Nat} {lo hi : Rat} (h : v lo ≤ v hi + 1) : ∀ k, qD v k lo hi = (lo, hi)
 | 0 => rfl
 | k + 1 => if_pos h
theorem BP {v : Rat → Nat} {D : Nat} {B δ : Rat} (C : Cut v B δ) : ∀ (k j : Nat) (lo hi : Rat), Gr D B j lo → Gr D B j hi → lo < hi → hi - lo ≤ δ * 2 ^ k → v hi < v lo →
  Gr D B (j + k) (qD v k lo hi).1 ∧ Gr D B (j + k) (qD v k lo hi).2 ∧ lo ≤ (qD v k lo hi).1 ∧ (qD v k lo hi).1 < (qD v k lo hi).2 ∧ v (qD v k lo hi).1 = v lo ∧ v (qD v k lo hi).1 = v (qD v k lo hi).2 + 1
 | 0, j, lo, hi, g1, g2, h, hd, hv => by
  have := C.leaf g1.b g2.b h (by rw [Rat.pow_zero, Rat.mul_one] at hd; exact hd) (by omega)
  exact ⟨g1, g2, Rat.le_refl, h, rfl, this⟩
 | k + 1, j, lo, hi, g1, g2, h, hd, hv => by
  rw [qD]
  split
  ·exact ⟨g1.mono (by omega), g2.mono (by omega), Rat.le_refl, h, rfl, by show v lo = v hi + 1; omega⟩
  ·obtain ⟨m1, m2⟩ := oG h
   obtain ⟨d1, d2⟩ := lP hd
   have gm := g1.CI g2
   have n1 := C.cY lo ((lo + hi) / 2) (Rat.le_of_lt m1)
   generalize (lo + hi) / 2 = m at *
   split
   ·rename_i h3
    have := BP C k (j + 1) lo m (g1.mono (by omega)) gm m1 d1 h3
    rwa [show j + 1 + k = j + (k + 1) by omega] at this
   ·rename_i h3
    obtain ⟨a1, a2, a3, a4, a5, a6⟩ := BP C k (j + 1) m hi gm (g2.mono (by omega)) m2 d2 (by omega)
    rw [show j + 1 + k = j + (k + 1) by omega] at a1 a2
    exact ⟨a1, a2, by grind, a4, by omega, a6⟩
def lvf (s n : Nat) : Nat := lk s n 5 (2 * s + 7) + (2 * s + 7) + 1
theorem akr {s n : Nat} (hn : n ≤ 20) : lvf s n ≤ 163 * s + 2000 := by
 have h1 : (n + n) * (s + 5 + 1 + (5 + 1)) ≤ 40 * (s + 12) := Nat.mul_le_mul (by omega) (by omega)
 have h2 : (n + n) * (2 * s + 7 + 2) ≤ 40 * (2 * s + 9) := Nat.mul_le_mul (by omega) (by omega)
 have h3 : n * (2 * s + 7 + 2) ≤ 20 * (2 * s + 9) := Nat.mul_le_mul hn (by omega)
 unfold lvf lk sk
 omega
def VX (s n : Nat) (f : ZX) (t : Rat) : Rat × Rat := qD (vt (aP f)) (lvf s n) t (dZ f.l)
structure FC (f : ZX) (D u J : Nat) (δ : Rat) : Prop where
 D1 : 1 ≤ D
 D2 : D ≤ 2 ^ (2 * u)
 C : Cut (vt (aP f)) (2 ^ u) δ
 hu : u + 2 * u + J + 1 ≤ 1000000000
theorem PJ {s n : Nat} {f : ZX} (I : j3 s n f) {D u J : Nat} {δ : Rat} (F : FC f D u J δ) {l : List Int} {t b : Rat} {N1 : Int} (hN1 : N1 = (vt (aP f) t : Int) - vt (aP f) b) (hS : aI env.P 83 [Po l] (Po f.l)) (abz : aI env.P 82 [Po l] (.dP [CH (aP f), .int .i64 0]))
  (A1 : aI env.P 116 [CH (aP f), RT t] (.int .i64 N1)) (B1 : aI env.P 84 [Po f.l] (.dP [RT b, .int .i64 0])) (M1 : aI env.P 117 [RT t, .sl []] (RT t)) (htb : t < b) (hv : vt (aP f) b < vt (aP f) t) (g1 : Gr D (2 ^ u) 0 t) (g2 : Gr D (2 ^ u) 0 b) (hd : b - t ≤ δ * 2 ^ J) :
  aI env.P 44 [Po l, RT t] (.dP [GA f (qD (vt (aP f)) J t b), .bool true]) := by
 have ave := Nat.le_trans (KU (aP f) t) I.hl
 have hN0 : (N1 == 0) = false := by rw [beq_eq_false_iff_ne]; omega
 obtain ⟨r, hr⟩ : ∃ r, r = qD (vt (aP f)) J t b := ⟨_, rfl⟩
 rw [← hr, aqc]
 replace A1 : aI env.P 116 [CH (aP f), T2 t.num t.den] (.int .i64 N1) := A1
 replace B1 : aI env.P 84 [Po f.l] (.dP [T2 b.num b.den, .int .i64 0]) := B1
 replace M1 : aI env.P 117 [T2 t.num t.den, .sl []] (T2 t.num t.den) := M1
 show aI env.P _ [Po l, T2 t.num t.den] (.dP [.ag (G9 f.l r.1.num r.1.den r.2.num r.2.den), .bool true])
 simp only [G9]
 refine aB (E := env) (fun _ => 0) [(0, Po l), (1, T2 t.num t.den)] Tryz.func44 rfl (by kernel_rfl) (by kernel_rfl) (show 2 ≤ 59 by decide) (by simp) ?_
 refine W.sr ?_; simp (disch := omega) [gw]; refine W.lx [0, 3, 4] ?_; simp
 refine W.sr ?_
 simp (disch := omega) [gw]
 refine aA abz ?_
 simp (disch := omega) [gw]
 refine W.lx [0, 3, 4, 6, 7] ?_; simp
 refine W.seq ?_
 refine W.sr ?_
 simp (disch := omega) [gw]
 refine aA A1 ?_
 simp (disch := omega) [gw, hN0]
 refine W.lx [0, 3, 4, 6, 27] ?_; simp
 refine W.cond ⟨_, rfl, fun h => ?_, fun h => ?_⟩
 ·simp at h
 refine W.skip ?_
 refine W.sr ?_
 simp (disch := omega) [gw]
 refine aA hS ?_
 simp (disch := omega) [gw]
 refine W.lx [3, 4, 6, 8] ?_; simp
 refine W.sr ?_
 simp (disch := omega) [gw]
 refine aA B1 ?_
 simp (disch := omega) [gw]
 refine W.lx [3, 4, 6, 8, 9] ?_; simp
 refine W.sr ?_
 simp (disch := omega) [gw]
 refine aA M1 ?_
 simp (disch := omega) [gw]
 refine W.lx [3, 4, 6, 8, 9, 11] ?_; simp
 refine W.seq ?_
 refine W.sr ?_
 simp (disch := omega) [gw]
 refine aA A1 ?_
 simp (disch := omega) [gw]
 refine W.lx [4, 6, 8, 9, 11, 12] ?_; simp
 refine W.block ?_
 refine W.bE (fun k σ => ∃ (lo hi : Rat) (j v4 v9 v11 : Nat) (rows : Pm.Rows) (clk : Nat), σ = ⟨fa [(4, .ptr 4 v4 0 0), (6, CH (aP f)), (8, Po f.l), (9, .ptr 9 v9 0 0), (11, .ptr 11 v11 0 0), (12, .int .i64 ((vt (aP f) lo : Int) - vt (aP f) hi))], rows, clk⟩ ∧ rows 4 = some ⟨v4, 44, 9, [[.nil, .bool false, .nil, .bool false, .nil, .bool false, .nil, .bool false, .nil]]⟩ ∧
  rows 9 = some ⟨v9, 42, 4, [tc hi]⟩ ∧ rows 11 = some ⟨v11, 42, 4, [tc lo]⟩ ∧ Gr D (2 ^ u) j lo ∧ Gr D (2 ^ u) j hi ∧ lo < hi ∧ hi - lo ≤ δ * 2 ^ k ∧ vt (aP f) hi < vt (aP f) lo ∧ vt (aP f) lo ≤ 21 ∧ qD (vt (aP f)) k lo hi = r ∧ j + k = J) J ?_ ?_
 ·exact ⟨_, .refl, t, b, 0, _, _, _, _, _, by rw [hN1], by simp, by simp, by simp, g1, g2, htb, hd, hv, ave, hr.symm, by omega⟩
 rintro k _ ⟨lo, hi, j, v4, v9, v11, rows, clk, rfl, iZ, J0, GM, ga, gb, dI, hw, hv2, hv3, hf, hjk⟩
 simp only [tc] at J0 GM
 refine W.seq ?_
 refine W.sr ?_; simp (disch := omega) [gw]; refine W.lx [4, 6, 8, 9, 11, 12, 42] ?_; simp
 refine W.cond ⟨_, rfl, fun h => ?_, fun h => ?_⟩
 ·have hn2 : 1 < (vt (aP f) lo : Int) - vt (aP f) hi := by simpa using h
  have hk : k ≠ 0 := fun uV => by
   subst uV
   have := F.C.leaf ga.b gb.b dI (by rw [Rat.pow_zero, Rat.mul_one] at hw; exact hw) (by omega)
   omega
  obtain ⟨k', rfl⟩ : ∃ k', k = k' + 1 := ⟨k - 1, by omega⟩
  obtain ⟨m1, m2⟩ := oG dI
  obtain ⟨d1, d2⟩ := lP hw
  have gm := ga.CI gb
  have s1 := (ga.mono (show j ≤ J by omega)).sq F.D1 F.D2
  have s2 := (gb.mono (show j ≤ J by omega)).sq F.D1 F.D2
  have s3 := (gm.mono (show j + 1 ≤ J by omega)).sq F.D1 F.D2
  have hu := F.hu
  have M2 := KV (s1.LLs (Nat.le_refl _)) (s2.LLs (Nat.le_refl _)) (by omega)
  have B2 := G3 I.hb I.ch.hn I.hl s1 s3 hu
  rw [if_neg (Rat.not_lt.2 (Rat.le_of_lt m1))] at B2
  have n1 := F.C.cY lo ((lo + hi) / 2) (Rat.le_of_lt m1)
  have n2 := F.C.cY ((lo + hi) / 2) hi (Rat.le_of_lt m2)
  rw [qD, if_neg (by omega)] at hf
  replace M2 : aI env.P 118 [T2 lo.num lo.den, T2 hi.num hi.den] (T2 ((lo + hi) / 2).num ((lo + hi) / 2).den) := M2
  replace B2 : aI env.P 106 [CH (aP f), T2 lo.num lo.den, T2 ((lo + hi) / 2).num ((lo + hi) / 2).den] (.int .i64 ((vt (aP f) lo : Int) - vt (aP f) ((lo + hi) / 2))) := B2
  generalize (lo + hi) / 2 = m at *
  refine W.skip ?_
  refine W.block ?_
  refine W.sr ?_
  simp (disch := omega) [gw, J0, GM]
  refine aA M2 ?_
  simp (disch := omega) [gw]
  refine W.lx [4, 6, 8, 9, 11, 12, 13] ?_; simp
  refine W.sr ?_
  simp (disch := omega) [gw, J0, GM]
  refine aA B2 ?_
  simp (disch := omega) [gw]
  refine W.lx [4, 6, 8, 9, 11, 12, 13, 14] ?_; simp
  refine W.sr ?_; simp (disch := omega) [gw]; refine W.lx [4, 6, 8, 9, 11, 12, 13, 14, 51] ?_; simp
  refine W.cond ⟨_, rfl, fun h => ?_, fun h => ?_⟩
  ·have h3 : vt (aP f) m < vt (aP f) lo := by simp at h; omega
   rw [if_pos h3] at hf
   refine W.cB (fun K hK => ?_); simp (disch := omega) [gw, J0, GM]
   refine hK _ ⟨k', _, aC _ [4, 6, 8, 9, 11, 12], by omega, lo, m, j + 1, _, _, _, _, _, rfl, by simp [iZ], by simp, by simp [GM], ga.mono (by omega), gm, m1, d1, h3, hv3, hf, by omega⟩
  ·have h3 : ¬ vt (aP f) m < vt (aP f) lo := by simp at h; omega
   have h4 : vt (aP f) m = vt (aP f) lo := by omega
   rw [if_neg h3] at hf
   refine W.cB (fun K hK => ?_); simp (disch := omega) [gw, J0, GM]
   rw [← h4]
   refine hK _ ⟨k', _, aC _ [4, 6, 8, 9, 11, 12], by omega, m, hi, j + 1, _, _, _, _, _, rfl, by simp [iZ], by simp [J0], by simp, gm, gb.mono (by omega), m2, d2, by omega, by omega, hf, by omega⟩
 ·have hn2 : ¬ 1 < (vt (aP f) lo : Int) - vt (aP f) hi := by simpa using h
  rw [aby (by omega)] at hf
  subst hf
  refine W.exit ?_; simp only [pX, if_true, if_false, reduceIte, Nat.reduceEqDiff]
  refine W.sr ?_
  simp (disch := omega) [gw, iZ, J0, GM]
  refine W.lx [4, 5] ?_; simp
  refine W.ret ?_
  simp [go]
structure RK (a : ZX) (f : ZX) (L : List (Rat × Rat)) : Prop where
 to : aI env.P 22 [PI a.l] (Po a.l)
 roots : aI env.P 21 [Po a.l] (.dP [aJ (ga f) L, .int .i64 0])
 aks : aI env.P 24 [PI a.l] (aJ (qa f (aP f)) (L.map (ex f)))
 right : aI env.P 23 [aJ (ga f) L, aJ (qa f (aP f)) (L.map (ex f))] (.bool true)
theorem aqd {s n : Nat} {a : ZX} (h : vI s n a) (h0 : a ≠ 0) (xE : 1 ≤ n) (hC : (qb (qb s n) n + n + 6) * 4 ^ n ≤ 4500000000) (hs : qb s n ≤ 20000) (rD : 1 ≤ s) : RK a (sq a) (kX (qb s n) n (sq a)) := by
 have I := abw h h0 xE hC (by omega)
 have hn := h.hn
 exact ⟨RZ h.bz (by unfold qb at hs; omega) (by omega), BK (lM h) I, O7 (oD h rD) (BB h h0 xE rD) I I.s1, I.LB hs⟩
theorem vX {f : ZX} {p : Rat × Rat} (S : vS f (vt (aP f))) (h : vt (aP f) p.1 = vt (aP f) p.2 + 1) (t : Rat) : cM f p t ↔ vt (aP f) t ≤ vt (aP f) p.2 := by
 refine ⟨fun hh => ?_, fun hh => ?_⟩
 ·rcases hh with hh | ⟨_, hh⟩
  ·exact S.cY hh
  ·omega
 ·refine .inr ⟨?_, by omega⟩
  refine Rat.not_le.1 fun h2 => ?_
  have := S.cY h2
  omega
theorem rA {v : Rat → Nat} {D : Nat} {B δ : Rat} (C : Cut v B δ) : ∀ (k j : Nat) (lo hi : Rat), Gr D B j lo → Gr D B j hi → lo < hi → hi - lo ≤ δ * 2 ^ k → ∀ i, i < (xW v k lo hi).length → v (nth (xW v k lo hi) i).2 + i + 1 = v lo
 | 0, j, lo, hi, g1, g2, h, hd, i, eQ => by
  rw [xW] at eQ ⊢
  split at eQ
  ·cases eQ
  ·rename_i he
   rw [if_neg he]
   have := C.leaf g1.b g2.b h (by rw [Rat.pow_zero, Rat.mul_one] at hd; exact hd) he
   simp at eQ; subst eQ
   show v hi + 0 + 1 = v lo
   omega
 | k + 1, j, lo, hi, g1, g2, h, hd, i, eQ => by
  rw [xW] at eQ ⊢
  by_cases he : v lo = v hi
  ·rw [if_pos he] at eQ; cases eQ
  ·rw [if_neg he] at eQ ⊢
   by_cases KJ : v lo = v hi + 1
   ·rw [if_pos KJ] at eQ ⊢
    simp at eQ; subst eQ
    show v hi + 0 + 1 = v lo
    omega
   ·rw [if_neg KJ] at eQ ⊢
    obtain ⟨m1, m2⟩ := oG h
    obtain ⟨d1, d2⟩ := lP hd
    have gm := g1.CI g2
    have a := rA C k (j + 1) lo ((lo + hi) / 2) (g1.mono (by omega)) gm m1 d1
    have b := rA C k (j + 1) ((lo + hi) / 2) hi gm (g2.mono (by omega)) m2 d2
    obtain ⟨_, l1, _⟩ := kW C k (j + 1) lo ((lo + hi) / 2) (g1.mono (by omega)) gm m1 d1
    have n1 := C.cY lo ((lo + hi) / 2) (Rat.le_of_lt m1)
    generalize (lo + hi) / 2 = m at *
    rw [List.length_append] at eQ
    rcases Nat.lt_or_ge i (xW v k lo m).length with h3 | h3
    ·have h4 := a i h3
     rw [cE (by rw [List.length_append]; omega), List.getElem_append_left h3, ← cE h3]
     exact h4
    ·have h4 := b (i - (xW v k lo m).length) (by omega)
     rw [cE (by rw [List.length_append]; omega), List.getElem_append_right h3, ← cE]
     omega
namespace j3
variable {s n : Nat} {f : ZX} (I : j3 s n f)
include I
theorem VY (i : Nat) (hi : i < (kX s n f).length) : vt (aP f) (nth (kX s n f) i).2 + i + 1 = vt (aP f) (-dZ f.l) := by
 obtain ⟨δ, h1, h2, C⟩ := I.cut (s + 1)
 exact rA C (lvl s n) 0 _ _ I.yN I.sW I.K5 (I.width h2) i hi
theorem ag9 (x : Rat) : vt (aP f) x ≤ vt (aP f) (-dZ f.l) := by
 by_cases h : x < -dZ f.l
 ·exact Nat.le_of_eq (I.S.bg (a := x) (b := -dZ f.l) ⟨1, by decide, fun y _ h2 => (oH f.c I.f0 (.inl h2)).1⟩ h)
 ·exact I.S.cY (Rat.not_lt.1 h)
theorem abA (x : Rat) : vt (aP f) (dZ f.l) ≤ vt (aP f) x := by
 by_cases h : dZ f.l < x
 ·exact Nat.le_of_eq (I.S.bg (a := dZ f.l) (b := x) ⟨1, by decide, fun y h2 _ => (oH f.c I.f0 (.inr h2)).1⟩ h)
 ·exact I.S.cY (Rat.not_lt.1 h)
theorem oJ (i : Nat) (hi : i < (kX s n f).length) (t : Rat) : cM f (nth ((kX s n f).map (ex f)) i) t ↔ vt (aP f) t + i + 1 ≤ vt (aP f) (-dZ f.l) := by
 obtain ⟨a1, a2, a3, a4, a5, a6⟩ := I.ivs.mem _ (bM hi)
 have hl := I.VY i hi
 rw [sX hi]
 refine ((uN ⟨I.S, .inr ⟨a4, a6⟩⟩).2 t).trans ?_
 rw [vX I.S a6]
 omega
theorem abB {lo hi : Rat} (q1 : SQ 5 lo) (q2 : SQ 5 hi) (dI : lo < hi) (i : Nat) (eQ : i < (wl s n f lo hi).length) (t : Rat) : cM f (nth (wl s n f lo hi) i) t ↔ vt (aP f) t + i + 1 ≤ vt (aP f) lo := by
 obtain ⟨a1, a2, a3⟩ := qC I q1 q2 dI
 obtain ⟨b1, b2, b3, b4, b5, b6⟩ := a1 _ (bM eQ)
 rw [vX I.S b6]
 have e : wl s n f lo hi = xW (vt (aP f)) (lk s n 5 5 + 6) lo hi := if_pos dI
 obtain ⟨D, h1, h2, g1, g2⟩ := LA q1 q2
 obtain ⟨δ, d1, d2, C⟩ := I.cut 5
 have hw : hi - lo ≤ δ * 2 ^ (lk s n 5 5 + 6) := by
  rw [kM, ← Rat.mul_assoc, d2, Rat.one_mul]
  have := g1.b.1
  have := g2.b.2
  have e : (2 : Rat) ^ 6 = 2 ^ 5 * 2 := Rat.pow_succ ..
  rw [e]; grind
 have := rA C (lk s n 5 5 + 6) 0 lo hi g1 g2 dI hw i (by rw [← e]; exact eQ)
 rw [← e] at this
 omega
theorem PK {l : List Int} (hS : aI env.P 83 [Po l] (Po f.l)) {t : Rat} (q : SQ 5 t) (hv : vt (aP f) (dZ f.l) < vt (aP f) t) : aI env.P 44 [Po l, RT t] (.dP [GA f (VX s n f t), .bool true]) ∧ SQ (180 * s + 2100) (VX s n f t).1 ∧ SQ (180 * s + 2100) (VX s n f t).2 ∧ t ≤ (VX s n f t).1 ∧ (VX s n f t).1 < (VX s n f t).2 ∧ vt (aP f) (VX s n f t).1 = vt (aP f) t ∧ vt (aP f) (VX s n f t).1 = vt (aP f) (VX s n f t).2 + 1 := by
 have hs := I.hs
 have hn := I.ch.hn
 have hl := akr (s := s) hn
 obtain ⟨l1, l2⟩ := I.nK
 have qb : SQ (2 * s + 7) (dZ f.l) := (I.sW.sq l1 l2).mono (by omega)
 have qt : SQ (2 * s + 7) t := q.mono (by omega)
 obtain ⟨D, h1, h2, g1, g2⟩ := LA qt qb
 obtain ⟨δ, d1, d2, C⟩ := I.cut (2 * s + 7)
 have htb : t < dZ f.l := Rat.not_le.1 fun hh => by have := I.S.cY hh; omega
 have hd : dZ f.l - t ≤ δ * 2 ^ lvf s n := by
  unfold lvf
  rw [Nat.add_assoc, kM, ← Rat.mul_assoc, d2, Rat.one_mul, Rat.pow_succ]
  have := g1.b.1
  have := g2.b.2
  grind
 have F : FC f D (2 * s + 7) (lvf s n) δ := ⟨h1, h2, C, by omega⟩
 have abz := qZ hS I.ch I.nf
 have A1 := BA (c := aP f) (by have := I.hl; omega) (pbs I.hb hn) (GW I.hb hn I.hl q (by omega))
 have hR : vr (CO (aP f)) = vt (aP f) (dZ f.l) := sU I.KT fun b => ⟨1, by decide, fun x h2 _ => (oH f.c I.f0 (.inr h2)).1⟩
 rw [sS, hR] at A1
 have P1 := gE (x := f.l) (I.ch.bz.pb (by omega) (by omega))
 rw [f.c] at P1
 have B1 := BD P1 f.c I.f0 (LO I.ch.bz) (by omega) (by omega)
 have M1 := uI (q.LLt (show 5 < 1099511627770 by decide)).1 (q.LLt (show 5 < 1099511627770 by decide)).2
 rw [fL] at M1
 obtain ⟨a1, a2, a3, a4, a5, a6⟩ := BP C (lvf s n) 0 t (dZ f.l) g1 g2 htb hd hv
 exact ⟨PJ I F rfl hS abz A1 B1 M1 htb hv g1 g2 hd, (a1.sq h1 h2).mono (by omega), (a2.sq h1 h2).mono (by omega), a3, a4, a5, a6⟩
theorem PL {l : List Int} (hS : aI env.P 83 [Po l] (Po f.l)) {t : Rat} (q : SQ 5 t) (hv : ¬ vt (aP f) (dZ f.l) < vt (aP f) t) : aI env.P 44 [Po l, RT t] (.dP [EL, .bool false]) := by
 have hn := I.ch.hn
 have abz := qZ hS I.ch I.nf
 have A1 := BA (c := aP f) (by have := I.hl; omega) (pbs I.hb hn) (GW I.hb hn I.hl q (by omega))
 have hR : vr (CO (aP f)) = vt (aP f) (dZ f.l) := sU I.KT fun b => ⟨1, by decide, fun x h2 _ => (oH f.c I.f0 (.inr h2)).1⟩
 rw [sS, hR] at A1
 have h2 := I.abA t
 rw [show (vt (aP f) t : Int) - vt (aP f) (dZ f.l) = 0 by omega] at A1
 exact PH abz A1
end j3
end Go.Proofs.YtbbjgncblhfegaaGreat
namespace Go.Proofs.YtbbjgncblhfegaaGreat
open Go Pm
open ZX hiding N W
theorem BQ {α : Type} [Inhabited α] {M : List α} {i i0 i1 : Nat} (hi : i < M.length) (h0 : i0 ≤ i) (h1 : i < i1) : (M.take (min (i + 1) i1)).drop i0 = (M.take (min i i1)).drop i0 ++ [nth M i] := by
 rw [Nat.min_eq_left (show i + 1 ≤ i1 by omega), Nat.min_eq_left (show i ≤ i1 by omega), bA hi, List.drop_append, List.length_take, Nat.min_eq_left (Nat.le_of_lt hi), show i0 - i = 0 by omega, List.drop_zero]
theorem qE {α : Type} {M : List α} {i i0 i1 : Nat} (h : i < i0 ∨ i1 ≤ i) : (M.take (min (i + 1) i1)).drop i0 = (M.take (min i i1)).drop i0 := by
 rcases h with h | h
 ·rw [List.drop_eq_nil_of_le (by rw [List.length_take]; omega), List.drop_eq_nil_of_le (by rw [List.length_take]; omega)]
 ·rw [show min (i + 1) i1 = min i i1 by omega]
theorem CR {α : Type} [Inhabited α] {M : List α} {i i0 m : Nat} (hi : i0 + i < m) (hm : i0 + i < M.length) : nth ((M.take m).drop i0) i = nth M (i0 + i) := by
 rw [cE (by rw [List.length_drop, List.length_take]; omega), cE hm, List.getElem_drop, List.getElem_take]
structure FF (f : ZX) (c : List ZX) (al : List Int) (M w : List (Rat × Rat)) (lo hi : Rat) (i0 i1 : Nat) (a : Rat × Rat) : Prop where
 lt : M.length < 1000000
 i1l : i1 ≤ M.length
 cmp : ∀ i, i < M.length → ∃ x y : Int, aI env.P 43 [QA f c (nth M i), RR lo] (.int .i64 x) ∧ aI env.P 43 [QA f c (nth M i), RR hi] (.int .i64 y) ∧ (0 < x ↔ i0 ≤ i) ∧ (y ≤ 0 ↔ i < i1)
 fst : i0 < M.length → aI env.P 44 [Po al, RT lo] (.dP [GA f a, .bool true]) ∧ aI env.P 23 [aJ (ga f) [a], aJ (qa f c) [nth M i0]] (.bool true) ∧ ∃ z : Int, aI env.P 28 [RT a.1] (RR a.1) ∧ aI env.P 27 [RR a.1, RR lo] (.int .i64 z) ∧ ¬ z < 0
 fno : ¬ i0 < M.length → aI env.P 44 [Po al, RT lo] (.dP [EL, .bool false])
 win : aI env.P 45 [Po al, RT lo, RT hi] (aJ (ga f) w)
 wlt : w.length < 1000000
 wr : ∀ i, i < w.length → ∃ x y : Int, aI env.P 28 [RT (nth w i).1] (RR (nth w i).1) ∧ aI env.P 28 [RT (nth w i).2] (RR (nth w i).2) ∧ aI env.P 27 [RR (nth w i).1, RR lo] (.int .i64 x) ∧ aI env.P 27 [RR (nth w i).2, RR hi] (.int .i64 y) ∧ ¬ x < 0 ∧ ¬ 0 < y
 avf : aI env.P 23 [aJ (ga f) w, aJ (qa f c) ((M.take (min M.length i1)).drop i0)] (.bool true)
theorem aqe {s n : Nat} {f : ZX} (I : j3 s n f) (hs : s ≤ 10000) {al : List Int} (hS : aI env.P 83 [Po al] (Po f.l)) {lo hi : Rat} (q1 : SQ 5 lo) (q2 : SQ 5 hi) :
  FF f (aP f) al ((kX s n f).map (ex f)) (wl s n f lo hi) lo hi (vt (aP f) (-dZ f.l) - vt (aP f) lo) (vt (aP f) (-dZ f.l) - vt (aP f) hi) (VX s n f lo) := by
 have V := I.ivs
 have hlen := yO I
 have t1 := I.ag9 lo
 have t2 := I.ag9 hi
 have b1 := I.abA lo
 have b2 := I.abA hi
 have hA : ∀ i, i < (kX s n f).length → nO f (vt (aP f)) (nth ((kX s n f).map (ex f)) i).1 (nth ((kX s n f).map (ex f)) i).2 ∧ SQ (uu s) (nth ((kX s n f).map (ex f)) i).1 ∧ SQ (uu s) (nth ((kX s n f).map (ex f)) i).2 := fun i hi => by
  obtain ⟨a1, a2, a3, a4, a5, a6⟩ := V.mem _ (bM hi)
  rw [sX hi]
  refine ⟨(uN ⟨I.S, .inr ⟨a4, a6⟩⟩).1, ?_, ?_⟩ <;> (unfold ex; split <;> assumption)
 have hU : uu s ≤ 1000000000 := by unfold uu; omega
 have HG : ∀ {p : Rat × Rat}, vt (aP f) p.1 = vt (aP f) p.2 + 1 → p.1 < p.2 → 2 ≤ ZX.N f := fun {p} h1 h2 => by
  refine Nat.not_lt.1 fun h3 => ?_
  have e : f = 1 := I.nf.N1 (by omega)
  have h4 := I.S.const h2 (σ := 1) (.inr (by rw [e, D7]; decide)) (fun x _ _ => by rw [e, D7]; decide)
  omega
 refine ⟨by rw [List.length_map]; omega, by rw [List.length_map, V.len]; omega, fun i eQ => ?_, fun h0 => ?_, fun h0 => ?_, LC hS I q1 q2, by have := PF I q1 q2; omega, fun i eQ => ?_, ?_⟩
 ·rw [List.length_map] at eQ
  obtain ⟨c1, c2, c3⟩ := hA i eQ
  have k1 := I.vV c1 c2 c3 (q1.mono (show 5 ≤ uu s by unfold uu; omega)) hU
  have k2 := I.vV c1 c2 c3 (q2.mono (show 5 ≤ uu s by unfold uu; omega)) hU
  have r1 := I.oJ i eQ lo
  have r2 := I.oJ i eQ hi
  refine ⟨_, _, k1, k2, ⟨fun h => ?_, fun h => ?_⟩, ⟨fun h => ?_, fun h => ?_⟩⟩
  ·have h3 : cr (cM f (nth ((kX s n f).map (ex f)) i)) lo = 1 := by rcases qB (cM f (nth ((kX s n f).map (ex f)) i)) lo with h4 | h4 | h4 <;> omega
   have h5 := jY.1 h3
   rw [r1] at h5; omega
  ·have h3 : cr (cM f (nth ((kX s n f).map (ex f)) i)) lo = 1 := jY.2 (by rw [r1]; omega)
   omega
  ·have h3 : cM f (nth ((kX s n f).map (ex f)) i) hi := Classical.byContradiction fun h4 => by have := jY.2 h4; omega
   rw [r2] at h3; omega
  ·have h3 : ¬ cr (cM f (nth ((kX s n f).map (ex f)) i)) hi = 1 := fun h4 => (jY.1 h4) (r2.2 (by omega))
   rcases qB (cM f (nth ((kX s n f).map (ex f)) i)) hi with h4 | h4 | h4 <;> omega
 ·rw [List.length_map, V.len] at h0
  obtain ⟨a1, a2, a3, a4, a5, a6, a7⟩ := I.PK hS q1 (by omega)
  have V1 : nO f (vt (aP f)) (VX s n f lo).1 (VX s n f lo).2 := ⟨I.S, .inr ⟨a5, a7⟩⟩
  have hi0 : vt (aP f) (-dZ f.l) - vt (aP f) lo < (kX s n f).length := by rw [V.len]; omega
  obtain ⟨c1, c2, c3⟩ := hA _ hi0
  refine ⟨a1, ?_, ?_⟩
  ·refine I.right (by omega) (HG a7 a5) rfl (u := 180 * s + 2100) (by omega) (fun p hp => ?_) (fun p hp => ?_) (fun i eQ t => ?_) (by simp)
   ·rw [List.mem_singleton] at hp; subst hp
    exact ⟨V1, a2, a3⟩
   ·rw [List.mem_singleton] at hp; subst hp
    exact ⟨c1, c2.mono (by unfold uu; omega), c3.mono (by unfold uu; omega)⟩
   ·have : i = 0 := by simp at eQ; exact eQ
    subst this
    show cM f (VX s n f lo) t ↔ cM f (nth ((kX s n f).map (ex f)) (vt (aP f) (-dZ f.l) - vt (aP f) lo)) t
    rw [vX I.S a7, I.oJ _ hi0]
    omega
  ·exact ⟨_, a2.BL (by omega), gG _ _ (a2.yy (by omega)) (q1.yy (by omega)), by rw [vU]; grind⟩
 ·rw [List.length_map, V.len] at h0
  exact I.PL hS q1 (by omega)
 ·by_cases dI : lo < hi
  ·obtain ⟨d1, d2, d3, d4, d5, d6⟩ := (qC I q1 q2 dI).1 _ (bM eQ)
   have hu : uu s + 300 ≤ 1000000000 := by unfold uu; omega
   exact ⟨_, _, d1.BL hu, d2.BL hu, gG _ _ (d1.yy hu) (q1.yy (by omega)), gG _ _ (d2.yy hu) (q2.yy (by omega)), by rw [vU]; grind, by rw [k7]; grind⟩
  ·unfold wl at eQ; rw [if_neg dI] at eQ; cases eQ
 ·by_cases dI : lo < hi
  ·obtain ⟨w1, w2, _⟩ := qC I q1 q2 dI
   have hl1 : (kX s n f).length = vt (aP f) (-dZ f.l) - vt (aP f) (dZ f.l) := V.len
   have E1 : min ((kX s n f).map (ex f)).length (vt (aP f) (-dZ f.l) - vt (aP f) hi) = vt (aP f) (-dZ f.l) - vt (aP f) hi := by rw [List.length_map]; omega
   rw [E1]
   have hve : vt (aP f) hi ≤ vt (aP f) lo := I.S.cY (Rat.le_of_lt dI)
   have aeV : ∀ i, i < (wl s n f lo hi).length → vt (aP f) (-dZ f.l) - vt (aP f) lo + i < (kX s n f).length ∧ nth ((((kX s n f).map (ex f)).take (vt (aP f) (-dZ f.l) - vt (aP f) hi)).drop (vt (aP f) (-dZ f.l) - vt (aP f) lo)) i = nth ((kX s n f).map (ex f)) (vt (aP f) (-dZ f.l) - vt (aP f) lo + i) := fun i eQ => by
    have h1 : vt (aP f) (-dZ f.l) - vt (aP f) lo + i < (kX s n f).length := by omega
    exact ⟨h1, CR (by omega) (by rw [List.length_map]; exact h1)⟩
   have L7 : (wl s n f lo hi).length = ((((kX s n f).map (ex f)).take (vt (aP f) (-dZ f.l) - vt (aP f) hi)).drop (vt (aP f) (-dZ f.l) - vt (aP f) lo)).length := by
    rw [List.length_drop, List.length_take, List.length_map]; omega
   by_cases h0 : (wl s n f lo hi).length = 0
   ·have e1 := List.eq_nil_of_length_eq_zero h0
    have e2 := List.eq_nil_of_length_eq_zero (L7.symm.trans h0)
    rw [e1, e2]
    exact vW
   ·obtain ⟨d1, d2, d3, d4, d5, d6⟩ := w1 _ (bM (show 0 < (wl s n f lo hi).length by omega))
    refine I.right (by omega) (HG d6 d4) L7 (u := uu s + 300) (by unfold uu; omega) (fun p hp => ?_) (fun p hp => ?_) (fun i eQ t => ?_) (by have := PF I q1 q2; omega)
    ·obtain ⟨e1, e2, e3, e4, e5, e6⟩ := w1 p hp
     exact ⟨⟨I.S, .inr ⟨e4, e6⟩⟩, e1, e2⟩
    ·obtain ⟨j, hj, rfl⟩ := List.mem_iff_getElem.1 hp
     rw [← cE hj, (aeV j (by omega)).2]
     obtain ⟨c1, c2, c3⟩ := hA _ (aeV j (by omega)).1
     exact ⟨c1, c2.mono (by omega), c3.mono (by omega)⟩
    ·rw [(aeV i eQ).2, I.abB q1 q2 dI i eQ, I.oJ _ (aeV i eQ).1]
     omega
  ·have hve : vt (aP f) lo ≤ vt (aP f) hi := I.S.cY (Rat.not_lt.1 dI)
   have e1 : wl s n f lo hi = [] := if_neg dI
   have e2 : ((((kX s n f).map (ex f)).take (min ((kX s n f).map (ex f)).length (vt (aP f) (-dZ f.l) - vt (aP f) hi))).drop (vt (aP f) (-dZ f.l) - vt (aP f) lo)) = [] := List.drop_eq_nil_of_le (by rw [List.length_take]; omega)
   rw [e1, e2]
   exact vW
theorem abC {α : Type} [Inhabited α] {M : List α} {i0 i : Nat} : (if i ≤ i0 then ([] : List α) else [nth M i0]).length = if i ≤ i0 then 0 else 1 := by split <;> rfl
theorem aqf {f : ZX} {c : List ZX} {D : List (Rat × Rat)} {rows : Pm.Rows} {id : Nat} : List.map (fun e => List.map (FL rows id) e) (emap (qa f c) D) = emap (qa f c) D := by
 unfold emap; rw [List.map_map]; exact List.map_congr_left fun p _ => by simp [qa, rc]
set_option maxHeartbeats 4000000 in
theorem LD {f : ZX} {c : List ZX} {al : List Int} {M w : List (Rat × Rat)} {lo hi : Rat} {i0 i1 : Nat} {a : Rat × Rat} (F : FF f c al M w lo hi i0 i1 a) {l : List Int} {n d m k : Int} (hM : aI env.P 20 [aJ aF l, .int .i64 6] (PI al)) (hT : aI env.P 22 [PI al] (Po al))
  (S1 : aI env.P 36 [.int .i64 n, .int .i64 d] (RR lo)) (S2 : aI env.P 36 [.int .i64 m, .int .i64 k] (RR hi)) (r1 : aI env.P 35 [RR lo] (RT lo)) (r2 : aI env.P 35 [RR hi] (RT hi)) (hQ : aI env.P 24 [PI al] (aJ (qa f c) M)) :
  aI env.P 7 [aJ aF l, .int .i64 n, .int .i64 d, .int .i64 m, .int .i64 k] (.bool true) := by
 have hw := PE
 have fn := VW (t := lo)
 have wn := PG (lo := lo) (hi := hi)
 obtain ⟨dI, azX, aeW, aeX, akt, aku, azY, hwr, SM⟩ := F
 have hMl : M.length < 1000000 := dI
 rw [bQ] at S1 S2 r1 r2
 replace r1 : aI env.P 35 [R2 lo.num lo.den] (T2 lo.num lo.den) := r1
 replace r2 : aI env.P 35 [R2 hi.num hi.den] (T2 hi.num hi.den) := r2
 replace fn : aI env.P 44 [.sl [], T2 lo.num lo.den] (.dP [EL, .bool false]) := fn
 replace wn : aI env.P 45 [.sl [], T2 lo.num lo.den, T2 hi.num hi.den] (.sl []) := wn
 replace aku : aI env.P 45 [Po al, T2 lo.num lo.den, T2 hi.num hi.den] (aJ (ga f) w) := aku
 replace akt : ¬ i0 < M.length → aI env.P 44 [Po al, T2 lo.num lo.den] (.dP [EL, .bool false]) := akt
 replace aeX : i0 < M.length → aI env.P 44 [Po al, T2 lo.num lo.den] (.dP [GA f a, .bool true]) ∧ aI env.P 23 [aJ (ga f) [a], aJ (qa f c) [nth M i0]] (.bool true) ∧ ∃ z : Int, aI env.P 28 [T2 a.1.num a.1.den] (R2 a.1.num a.1.den) ∧ aI env.P 27 [R2 a.1.num a.1.den, R2 lo.num lo.den] (.int .i64 z) ∧ ¬ z < 0 := fun h => by
  obtain ⟨h1, h2, z, h3, h4, h5⟩ := aeX h
  rw [bQ] at h3
  rw [bQ, bQ] at h4
  exact ⟨h1, h2, z, h3, h4, h5⟩
 replace aeW : ∀ i, i < M.length → ∃ x y : Int, aI env.P 43 [QA f c (nth M i), R2 lo.num lo.den] (.int .i64 x) ∧ aI env.P 43 [QA f c (nth M i), R2 hi.num hi.den] (.int .i64 y) ∧ (0 < x ↔ i0 ≤ i) ∧ (y ≤ 0 ↔ i < i1) := fun i h => by
  have := aeW i h
  rwa [bQ, bQ] at this
 replace hwr : ∀ i, i < w.length → ∃ x y : Int, aI env.P 28 [T2 (nth w i).1.num (nth w i).1.den] (R2 (nth w i).1.num (nth w i).1.den) ∧ aI env.P 28 [T2 (nth w i).2.num (nth w i).2.den] (R2 (nth w i).2.num (nth w i).2.den) ∧
   aI env.P 27 [R2 (nth w i).1.num (nth w i).1.den, R2 lo.num lo.den] (.int .i64 x) ∧ aI env.P 27 [R2 (nth w i).2.num (nth w i).2.den, R2 hi.num hi.den] (.int .i64 y) ∧ ¬ x < 0 ∧ ¬ 0 < y := fun i h => by
  obtain ⟨x, y, h1, h2, h3, h4, h5⟩ := hwr i h
  rw [bQ] at h1 h2
  rw [bQ, bQ] at h3 h4
  exact ⟨x, y, h1, h2, h3, h4, h5⟩
 generalize lo.num = ln at *
 generalize (lo.den : Int) = ld at *
 generalize hi.num = hn at *
 generalize (hi.den : Int) = hd at *
 refine aB (E := env) (fun _ => 0) [(0, aJ aF l), (1, .int .i64 n), (2, .int .i64 d), (3, .int .i64 m), (4, .int .i64 k)] Tryz.func7 rfl (by kernel_rfl) (by kernel_rfl) (show 5 ≤ 171 by decide) (by simp) ?_
 refine W.sr ?_; simp (disch := omega) [gw]; refine W.lx [0, 1, 2, 3, 4] ?_; simp
 refine W.sr ?_
 simp (disch := omega) [gw]
 refine aA hM ?_
 simp (disch := omega) [gw]
 refine W.lx [1, 2, 3, 4, 11] ?_; simp
 refine W.sr ?_
 simp (disch := omega) [gw]
 refine aA hT ?_
 simp (disch := omega) [gw]
 refine W.lx [1, 2, 3, 4, 11, 12] ?_; simp
 refine W.sr ?_
 simp (disch := omega) [gw]
 refine aA S1 ?_
 simp (disch := omega) [gw]
 refine aA S2 ?_
 simp (disch := omega) [gw]
 refine W.lx [11, 12, 13, 14] ?_; simp
 refine W.sr ?_
 simp (disch := omega) [gw]
 refine aA hQ ?_
 simp (disch := omega) [gw]
 refine W.lx [12, 13, 14, 15] ?_; simp
 refine W.sr ?_; simp (disch := omega) [gw]; refine W.lx [12, 13, 14, 15, 16, 17] ?_; simp
 refine W.seq ?_
 refine W.sr ?_; simp (disch := omega) [gw]; refine W.lx [12, 13, 14, 15, 16, 17, 38, 39] ?_; simp
 refine W.nil 16 16 68 10 (by simp) (by decide) (fun K hK => ?_)
 refine W.lw [12, 13, 14, 15, 16, 17, 38, 39] hK ?_; clear hK K; simp
 refine W.nil 17 17 68 10 (by simp) (by decide) (fun K hK => ?_)
 refine W.lw [12, 13, 14, 15, 16, 17, 38, 39] hK ?_; clear hK K; simp
 refine W.block ?_
 refine W.bE (fun k' σ => ∃ (i BR BS VZ SN : Nat) (rows : Pm.Rows) (clk : Nat), σ = ⟨fa [(12, Po al), (13, .ptr 13 BR 0 0), (14, .ptr 14 BS 0 0), (15, aJ (qa f c) M), (16, .own 16 VZ 0 (if i ≤ i0 then 0 else 1)), (17, .own 17 SN 0 (min i i1 - i0)), (38, .int .i64 M.length), (39, .int .i64 i)], rows, clk⟩ ∧
  rows 13 = some ⟨BR, 50, 4, [c4 ln ld]⟩ ∧ rows 14 = some ⟨BS, 50, 4, [c4 hn hd]⟩ ∧ rows 16 = some ⟨VZ, 68, 10, emap (qa f c) (if i ≤ i0 then [] else [nth M i0])⟩ ∧ rows 17 = some ⟨SN, 68, 10, emap (qa f c) ((M.take (min i i1)).drop i0)⟩ ∧ i + k' = M.length) M.length ?_ ?_
 ·exact ⟨_, .refl, 0, 0, 1, 2, 3, _, _, by rw [if_pos (Nat.zero_le _), Nat.zero_min, Nat.zero_sub]; rfl, by simp, by simp, by simp [emap], by simp [emap], by omega⟩
 rintro k' _ ⟨i, BR, BS, VZ, SN, rows, clk, rfl, iK, jZ, kE, xX, LN⟩
 simp only [c4] at iK jZ
 refine W.sr ?_; simp (disch := omega) [gw]; refine W.lx [12, 13, 14, 15, 16, 17, 38, 39, 40] ?_; simp
 refine W.seq ?_
 refine W.cond ⟨_, rfl, fun h => ?_, fun h => ?_⟩
 ·have hi : i < M.length := by simp at h; omega
  obtain ⟨x, y, c1, c2, hx, hy⟩ := aeW i hi
  simp only [QA, qa, List.cons_append, List.nil_append] at c1 c2
  have S8 : min i i1 - i0 ≤ 1000000 := by omega
  obtain ⟨q, hq⟩ : ∃ q, q = min i i1 - i0 := ⟨_, rfl⟩
  rw [← hq] at S8 ⊢
  refine W.skip ?_
  refine W.fE (fun σ => ∃ (BR BS VZ SN : Nat) (rows : Pm.Rows) (clk : Nat), σ = ⟨fa [(12, Po al), (13, .ptr 13 BR 0 0), (14, .ptr 14 BS 0 0), (15, aJ (qa f c) M), (16, .own 16 VZ 0 (if i + 1 ≤ i0 then 0 else 1)), (17, .own 17 SN 0 (min (i + 1) i1 - i0)), (38, .int .i64 M.length), (39, .int .i64 i)], rows, clk⟩ ∧
   rows 13 = some ⟨BR, 50, 4, [c4 ln ld]⟩ ∧ rows 14 = some ⟨BS, 50, 4, [c4 hn hd]⟩ ∧ rows 16 = some ⟨VZ, 68, 10, emap (qa f c) (if i + 1 ≤ i0 then [] else [nth M i0])⟩ ∧ rows 17 = some ⟨SN, 68, 10, emap (qa f c) ((M.take (min (i + 1) i1)).drop i0)⟩) ?_ ?_
  ·refine W.sr ?_; simp (disch := omega) [gw]; refine W.lx [12, 13, 14, 15, 16, 17, 18, 38, 39] ?_; simp
   refine W.sd ?_
   simp (disch := omega) [gw, hi, iK]
   refine aA c1 ?_
   simp (disch := omega) [gw]
   refine W.lx [12, 13, 14, 15, 16, 17, 18, 38, 39, 48] ?_; simp
   refine W.cond ⟨_, rfl, fun h => ?_, fun h => ?_⟩
   ·have h0 : i0 ≤ i := hx.1 (by simpa using h)
    have e0 : (if i + 1 ≤ i0 then 0 else 1) = 1 := if_neg (by omega)
    have e1 : (if i + 1 ≤ i0 then ([] : List (Rat × Rat)) else [nth M i0]) = [nth M i0] := if_neg (by omega)
    rw [e0, e1]
    refine W.fI (fun σ => ∃ (BR BS VZ SN : Nat) (rows : Pm.Rows) (clk : Nat), σ = ⟨fa [(12, Po al), (13, .ptr 13 BR 0 0), (14, .ptr 14 BS 0 0), (15, aJ (qa f c) M), (16, .own 16 VZ 0 1), (17, .own 17 SN 0 q), (18, .int .i64 i), (38, .int .i64 M.length), (39, .int .i64 i)], rows, clk⟩ ∧
     rows 13 = some ⟨BR, 50, 4, [c4 ln ld]⟩ ∧ rows 14 = some ⟨BS, 50, 4, [c4 hn hd]⟩ ∧ rows 16 = some ⟨VZ, 68, 10, emap (qa f c) [nth M i0]⟩ ∧ rows 17 = some ⟨SN, 68, 10, emap (qa f c) ((M.take (min i i1)).drop i0)⟩) ?_ ?_
    ·by_cases h1 : i ≤ i0
     ·have h2 : i = i0 := by omega
      subst h2
      rw [if_pos h1]
      rw [if_pos h1] at kE
      refine W.sr ?_; simp (disch := omega) [gw, kE]; refine W.lx [12, 13, 14, 15, 16, 17, 18, 38, 39, 51] ?_; simp
      refine W.cond ⟨_, rfl, fun h => ?_, fun h => ?_⟩
      ·refine W.cB (fun K hK => ?_); simp (disch := omega) [gw, hi, kE]
       refine hK _ ⟨_, aC _ [12, 13, 14, 15, 16, 17, 18, 38, 39], BR, BS, _, SN, _, _, by simp; exact ⟨rfl, rfl, rfl⟩, by simp [iK], by simp [jZ], by simp [qa, emap], by simp [xX]⟩
      ·simp at h
     ·rw [if_neg h1]
      rw [if_neg h1] at kE
      refine W.sr ?_; simp (disch := omega) [gw, kE]; refine W.lx [12, 13, 14, 15, 16, 17, 18, 38, 39, 51] ?_; simp
      refine W.cond ⟨_, rfl, fun h => ?_, fun h => ?_⟩
      ·simp at h
      ·refine W.skip ?_
       exact ⟨_, aC _ [12, 13, 14, 15, 16, 17, 18, 38, 39], _, _, _, _, _, _, rfl, iK, jZ, kE, xX⟩
    rintro _ ⟨BR, BS, VZ, SN, rows, clk, rfl, iK, jZ, kE, xX⟩
    simp only [c4] at iK jZ
    refine W.sd ?_
    simp (disch := omega) [gw, hi, jZ]
    refine aA c2 ?_
    simp (disch := omega) [gw]
    refine W.lx [12, 13, 14, 15, 16, 17, 18, 38, 39, 65] ?_; simp
    refine W.cond ⟨_, rfl, fun h => ?_, fun h => ?_⟩
    ·have h1 : i < i1 := hy.1 (by simpa using h)
     rw [BQ hi h0 h1, show min (i + 1) i1 - i0 = q + 1 by omega]
     have ZK : ((M.take (min i i1)).drop i0).length = q := by rw [List.length_drop, List.length_take]; omega
     generalize (M.take (min i i1)).drop i0 = D at xX ZK ⊢
     refine W.cB (fun K hK => ?_); simp (disch := omega) [gw, hi, xX, ZK]
     refine hK _ ⟨_, aC _ [12, 13, 14, 15, 16, 17, 38, 39], BR, BS, VZ, _, _, _, by simp; exact ⟨rfl, rfl, rfl⟩, by simp [iK], by simp [jZ], by simp [kE], by simp [qa, emap]⟩
    ·have h1 : ¬ i < i1 := fun h1 => by have := hy.2 h1; simp at h; omega
     rw [qE (.inr (by omega)), show min (i + 1) i1 - i0 = q by omega]
     refine W.skip ?_
     exact ⟨_, aC _ [12, 13, 14, 15, 16, 17, 38, 39], _, _, _, _, _, _, rfl, iK, jZ, kE, xX⟩
   ·have h0 : ¬ i0 ≤ i := fun h0 => by have := hx.2 h0; simp at h; omega
    rw [if_pos (show i ≤ i0 by omega)] at kE ⊢
    rw [if_pos (show i + 1 ≤ i0 by omega), if_pos (show i + 1 ≤ i0 by omega), qE (.inl (by omega)), show min (i + 1) i1 - i0 = q by omega]
    refine W.skip ?_
    exact ⟨_, aC _ [12, 13, 14, 15, 16, 17, 38, 39], _, _, _, _, _, _, rfl, iK, jZ, kE, xX⟩
  rintro _ ⟨BR, BS, VZ, SN, rows, clk, rfl, iK, jZ, kE, xX⟩
  refine W.cB (fun K hK => ?_); simp (disch := omega) [gw]
  refine hK _ ⟨k' - 1, _, aC _ [12, 13, 14, 15, 16, 17, 38, 39], by omega, i + 1, BR, BS, VZ, SN, rows, clk, rfl, iK, jZ, kE, xX, by omega⟩
 ·have WG : ¬ i < M.length := by simpa using h
  obtain ⟨E, hE⟩ : ∃ E, E = (if i ≤ i0 then ([] : List (Rat × Rat)) else [nth M i0]) := ⟨_, rfl⟩
  obtain ⟨D, hD⟩ : ∃ D, D = (M.take (min M.length i1)).drop i0 := ⟨_, rfl⟩
  have hii : min i i1 = min M.length i1 := by omega
  have hEl : E.length = if i ≤ i0 then 0 else 1 := by rw [hE]; exact abC
  have ZK : D.length = min i i1 - i0 := by rw [hD, List.length_drop, List.length_take]; omega
  have hE0 : i0 < M.length → E = [nth M i0] := fun h0 => by rw [hE, if_neg (by omega)]
  have hE1 : ¬ i0 < M.length → E = [] := fun h0 => by rw [hE, if_pos (by omega)]
  rw [hii, ← hD] at xX
  rw [← hE] at kE
  rw [← hD] at SM
  rw [← hEl, ← ZK]
  clear hE hEl ZK hD hii aeW LN
  refine W.exit ?_; simp only [pX, if_true, if_false, reduceIte, Nat.reduceEqDiff]
  refine W.qK 16 (by rw [kE]; simp) (fun K hK => ?_)
  simp [kE]
  refine hK _ ?_; clear hK K
  have k13 : pF rows 16 13 = some ⟨BR, 50, 4, [c4 ln ld]⟩ := by simp [iK, kE]
  have k14 : pF rows 16 14 = some ⟨BS, 50, 4, [c4 hn hd]⟩ := by simp [jZ, kE]
  have k17 : pF rows 16 17 = some ⟨SN, 68, 10, emap (qa f c) D⟩ := by simp [xX, kE, aqf]
  clear iK jZ kE xX
  generalize pF rows 16 = m9 at *
  refine W.qK 17 (by rw [k17]; simp) (fun K hK => ?_)
  simp [k17]
  refine hK _ ?_; clear hK K
  have iK : pF m9 17 13 = some ⟨BR, 50, 4, [c4 ln ld]⟩ := by simp [k13, k17]
  have jZ : pF m9 17 14 = some ⟨BS, 50, 4, [c4 hn hd]⟩ := by simp [k14, k17]
  clear k13 k14 k17
  generalize pF m9 17 = aoQ at *
  simp only [c4] at iK jZ
  have az0 : bF 9 [ga f a] = True := eq_true fun x hx => by rw [List.mem_singleton] at hx; subst hx; rfl
  refine W.fI (fun σ => ∃ (v19 : Nat) (b : Bool) (rows : Pm.Rows) (clk : Nat), σ = ⟨fa [(12, Po al), (13, .ptr 13 BR 0 0), (14, .ptr 14 BS 0 0), (16, aJ (qa f c) E), (17, aJ (qa f c) D), (19, .ptr 19 v19 0 0), (20, .bool b)], rows, clk⟩ ∧ rows 13 = some ⟨BR, 50, 4, [c4 ln ld]⟩ ∧ rows 14 = some ⟨BS, 50, 4, [c4 hn hd]⟩ ∧
   (i0 < M.length ∧ b = true ∧ rows 19 = some ⟨v19, 44, 9, [ga f a]⟩ ∨ ¬ i0 < M.length ∧ b = false ∧ rows 19 = some ⟨v19, 44, 9, [[.sl [], .bool false, .sl [], .bool false, .sl [], .bool false, .sl [], .bool false, .sl []]]⟩)) ?_ ?_
  ·by_cases h0 : i0 < M.length
   ·obtain ⟨f1, f2, z, f3, f4, f5⟩ := aeX h0
    refine W.cB (fun K hK => ?_); simp (disch := omega) [gw, iK]
    refine aA r1 ?_
    simp (disch := omega) [gw]
    refine aA f1 ?_
    simp (disch := omega) [gw]
    refine hK _ ⟨_, aC _ [12, 13, 14, 16, 17, 19, 20], clk, true, _, _, by simp; exact ⟨rfl, rfl⟩, by simp [iK], by simp [jZ], .inl ⟨h0, rfl, by simp⟩⟩
   ·refine W.cB (fun K hK => ?_); simp (disch := omega) [gw, iK]
    refine aA r1 ?_
    simp (disch := omega) [gw]
    refine aA (akt h0) ?_
    simp (disch := omega) [gw]
    refine hK _ ⟨_, aC _ [12, 13, 14, 16, 17, 19, 20], clk, false, _, _, by simp; exact ⟨rfl, rfl⟩, by simp [iK], by simp [jZ], .inr ⟨h0, rfl, by simp⟩⟩
  rintro _ ⟨v19, b, rows, clk, rfl, iK, jZ, alt⟩
  simp only [c4] at iK jZ
  refine W.fI (fun σ => ∃ (rows : Pm.Rows) (clk : Nat), σ = ⟨fa [(12, Po al), (13, .ptr 13 BR 0 0), (14, .ptr 14 BS 0 0), (17, aJ (qa f c) D)], rows, clk⟩ ∧ rows 13 = some ⟨BR, 50, 4, [c4 ln ld]⟩ ∧ rows 14 = some ⟨BS, 50, 4, [c4 hn hd]⟩) ?_ ?_
  ·refine W.afP (fun σ => σ = ⟨fa [(12, Po al), (13, .ptr 13 BR 0 0), (14, .ptr 14 BS 0 0), (17, aJ (qa f c) D), (113, .bool false)], rows, clk⟩) (fun K hK => ?_) ?_
   ·rcases alt with ⟨h0, rfl, abD⟩ | ⟨h0, rfl, abD⟩
    ·obtain ⟨f1, f2, z, f3, f4, f5⟩ := aeX h0
     rw [hE0 h0]
     simp only [ga, tc, List.cons_append, List.nil_append] at abD
     simp (disch := omega) [gw, abD]
     refine aA f2 ?_
     simp (disch := omega) [gw, abD]
     refine aA f3 ?_
     simp (disch := omega) [gw, iK]
     refine aA f4 ?_
     simp (disch := omega) [gw, f5]
     exact hK _ _ (aC _ [12, 13, 14, 17, 113]) (by simp)
    ·rw [hE1 h0]
     simp (disch := omega) [gw, abD]
     exact hK _ _ (aC _ [12, 13, 14, 17, 113]) (by simp)
   rintro _ rfl
   refine W.cond ⟨_, rfl, fun h => ?_, fun h => ?_⟩
   ·simp at h
   refine W.skip ?_
   exact ⟨_, aC _ [12, 13, 14, 17], _, _, rfl, iK, jZ⟩
  rintro _ ⟨rows, clk, rfl, iK, jZ⟩
  simp only [c4] at iK jZ
  clear alt
  refine W.sd ?_
  simp (disch := omega) [gw, iK, jZ]
  refine aA r1 ?_
  simp (disch := omega) [gw, iK, jZ]
  refine aA r2 ?_
  simp (disch := omega) [gw, iK, jZ]
  refine aA aku ?_
  simp (disch := omega) [gw]
  refine W.lx [13, 14, 17, 21] ?_; simp
  refine W.seq ?_
  refine W.sr ?_; simp (disch := omega) [gw]; refine W.lx [13, 14, 17, 21, 121, 122] ?_; simp
  refine W.block ?_
  refine W.bE (fun k' σ => ∃ i : Nat, σ = ⟨fa [(13, .ptr 13 BR 0 0), (14, .ptr 14 BS 0 0), (17, aJ (qa f c) D), (21, aJ (ga f) w), (121, .int .i64 w.length), (122, .int .i64 i)], rows, clk⟩ ∧ i + k' = w.length) w.length ?_ ?_
  ·exact ⟨_, .refl, 0, rfl, by omega⟩
  rintro k' _ ⟨i, rfl, LN⟩
  refine W.sr ?_; simp (disch := omega) [gw]; refine W.lx [13, 14, 17, 21, 121, 122, 123] ?_; simp
  refine W.seq ?_
  refine W.cond ⟨_, rfl, fun h => ?_, fun h => ?_⟩
  ·have hi : i < w.length := by simp at h; omega
   obtain ⟨x, y, e1, e2, e3, e4, e5, e6⟩ := hwr i hi
   refine W.skip ?_
   refine W.seq ?_
   refine W.block ?_
   refine W.sr ?_; simp (disch := omega) [gw]; refine W.lx [13, 14, 17, 21, 22, 121, 122] ?_; simp
   refine W.afP (fun σ => σ = ⟨fa [(13, .ptr 13 BR 0 0), (14, .ptr 14 BS 0 0), (17, aJ (qa f c) D), (21, aJ (ga f) w), (121, .int .i64 w.length), (122, .int .i64 i), (144, .bool false)], rows, clk⟩) (fun K hK => ?_) ?_
   ·simp (disch := omega) [gw, hi]
    refine aA e1 ?_
    simp (disch := omega) [gw, iK]
    refine aA e3 ?_
    simp (disch := omega) [gw, hi, e5]
    refine aA e2 ?_
    simp (disch := omega) [gw, jZ]
    refine aA e4 ?_
    simp (disch := omega) [gw, e6]
    exact hK _ _ (aC _ [13, 14, 17, 21, 121, 122, 144]) (by simp)
   rintro _ rfl
   refine W.cond ⟨_, rfl, fun h => ?_, fun h => ?_⟩
   ·simp at h
   refine W.skip ?_
   refine W.cB (fun K hK => ?_); simp (disch := omega) [gw]
   exact hK _ ⟨k' - 1, _, aC _ [13, 14, 17, 21, 121, 122], by omega, i + 1, rfl, by omega⟩
  ·refine W.exit ?_; simp only [pX, if_true, if_false, reduceIte, Nat.reduceEqDiff]
   refine W.sr ?_
   simp (disch := omega) [gw, iK]
   refine aA r1 ?_
   simp (disch := omega) [gw]
   refine aA fn ?_
   simp (disch := omega) [gw]
   refine W.lx [13, 14, 17, 21, 24] ?_; simp
   refine W.sd ?_
   simp (disch := omega) [gw]
   refine aA SM ?_
   simp (disch := omega) [gw, iK]
   refine aA r1 ?_
   simp (disch := omega) [gw, jZ]
   refine aA r2 ?_
   simp (disch := omega) [gw]
   refine aA wn ?_
   simp (disch := omega) [gw]
   refine aA hw ?_
   simp (disch := omega) [gw]
   refine W.lx [10] ?_; simp
   refine W.ret ?_
   simp [go]
end Go.Proofs.YtbbjgncblhfegaaGreat
