import Derived.Test.YtbbjgncblhfegaaGreatRar
set_option linter.unusedSimpArgs false
set_option linter.unusedVariables false
namespace Go.Proofs.YtbbjgncblhfegaaGreat
open Go Pm
open ZX hiding N W
theorem agW {u : Nat} {p q : Rat} (hp : SQ u p) (hq : SQ u q) : ∃ D, 1 ≤ D ∧ D ≤ 2 ^ (2 * u) ∧ Gr D (2 ^ u) 0 p ∧ Gr D (2 ^ u) 0 q := by
 have key : ∀ r : Rat, SQ u r → 1 ≤ r.den ∧ r.den ≤ 2 ^ u ∧ Ab r (2 ^ u) ∧ r * ((r.den : Int) : Rat) = (r.num : Rat) := fun r hr => by
  have h1 := r.den_pos
  have h2 := kY (b := 2) (by decide) (r.den : Int)
  have h3 := Nat.pow_le_pow_right (show 0 < 2 by decide) hr.d2
  have h4 := kY (b := 2) (by decide) r.num
  have h5 := Nat.pow_le_pow_right (show 0 < 2 by decide) hr.n2
  have h6 := F7 r
  have h7 : Ab (r.num : Rat) (2 ^ u) := KH (by omega)
  have h8 : (1 : Rat) ≤ ((r.den : Int) : Rat) := eD (by omega)
  refine ⟨h1, by omega, ?_, h6.symm⟩
  rw [h6] at h7
  obtain ⟨g1, g2⟩ := h7
  have hT := gQ u
  generalize (2 : Rat) ^ u = T at *
  constructor
  ·refine Rat.not_lt.1 fun hh => ?_
   have := Rat.mul_le_mul_of_nonneg_left h8 (show 0 ≤ -r by grind)
   grind
  ·refine Rat.not_lt.1 fun hh => ?_
   have := Rat.mul_le_mul_of_nonneg_left h8 (show 0 ≤ r by grind)
   grind
 obtain ⟨a1, a2, a3, a4⟩ := key p hp
 obtain ⟨b1, b2, b3, b4⟩ := key q hq
 refine ⟨p.den * q.den, Nat.mul_pos a1 b1, ?_, ⟨⟨p.num * (q.den : Int), ?_⟩, a3⟩, ⟨⟨q.num * (p.den : Int), ?_⟩, b3⟩⟩
 ·rw [Nat.two_mul, Nat.pow_add]; exact Nat.mul_le_mul a2 b2
 ·rw [Nat.pow_zero, Nat.mul_one, Rat.intCast_mul, ← a4, Int.natCast_mul p.den, Rat.intCast_mul]; grind
 ·rw [Nat.pow_zero, Nat.mul_one, Rat.intCast_mul, ← b4, Int.natCast_mul p.den, Rat.intCast_mul]; grind
theorem agX {f : ZX} {p : Rat × Rat} {D j : Nat} {B : Rat} (h1 : Gr D B j p.1) (h2 : Gr D B j p.2) (hle : p.1 ≤ p.2) : Gr D B (j + 1) (hv f p).1 ∧ Gr D B (j + 1) (hv f p).2 ∧ ((hv f p).2 - (hv f p).1) * 2 ≤ p.2 - p.1 := by
 have hm := h1.GS h2
 have e : (p.1 + p.2) / 2 * 2 = p.1 + p.2 := Rat.div_mul_cancel (by decide)
 have key : ∀ q : Rat × Rat, Gr D B (j + 1) q.1 → Gr D B (j + 1) q.2 → q.1 ≤ q.2 → (q.2 - q.1) * 2 ≤ p.2 - p.1 → Gr D B (j + 1) (ex f q).1 ∧ Gr D B (j + 1) (ex f q).2 ∧ ((ex f q).2 - (ex f q).1) * 2 ≤ p.2 - p.1 := fun q a1 a2 a3 a4 => by
  unfold ex
  split
  ·exact ⟨a2, a2, by show (q.2 - q.2) * 2 ≤ _; grind⟩
  ·exact ⟨a1, a2, a4⟩
 unfold hv
 split
 ·rename_i hh
  exact ⟨h1.mono (by omega), h2.mono (by omega), by rw [hh]; grind⟩
 ·split
  ·exact key (p.1, (p.1 + p.2) / 2) (h1.mono (by omega)) hm (by show p.1 ≤ _; grind) (by show ((p.1 + p.2) / 2 - p.1) * 2 ≤ _; grind)
  ·exact key ((p.1 + p.2) / 2, p.2) hm (h2.mono (by omega)) (by show _ ≤ p.2; grind) (by show (p.2 - (p.1 + p.2) / 2) * 2 ≤ _; grind)
theorem abm {s n s' n' S N u : Nat} {f fb : ZX} {p q : Rat × Rat} (I : mP s n f) (I' : mP s' n' fb) (T : Two S N f fb) (hS : S ≤ 20000) (hG : aK env.P 171 [PI fb.l, PI f.l] (PI (gz fb f).l)) (IG : 2 ≤ ZX.N (gz fb f) → ∃ sg ng, mP sg ng (gz fb f))
  (A : oJ f (vt (bC f)) p.1 p.2) (B : oJ fb (vt (bC fb)) q.1 q.2) (p1 : SQ u p.1) (p2 : SQ u p.2) (q1 : SQ u q.1) (q2 : SQ u q.2) (hu : u ≤ 2200000) : aK env.P 42 [QA f (bC f) p, QA fb (bC fb) q] (.int .i64 (cu (cX f p) (cX fb q))) := by
 by_cases hpt : p.1 = p.2 ∨ q.1 = q.2
 ·exact abl I I' A B p1 p2 q1 q2 (by omega) hpt
 obtain ⟨hp, hq⟩ := not_or.1 hpt
 have O9 : p.1 < p.2 := by have := A.le; grind
 have hql : q.1 < q.2 := by have := B.le; grind
 have hTn := T.hn
 have hN1 := T.Nf
 have ND := T.Nh
 have e1 := pS (f := f) (c := bC f) p1 p2 (by omega)
 have e2 := pS (f := fb) (c := bC fb) q1 q2 (by omega)
 rw [decide_eq_false hp] at e1
 rw [decide_eq_false hq] at e2
 have ⟨zv, hzv, Z⟩ : ∃ z : Bool, (z = true ↔ vt (bC (gz fb f)) p.2 < vt (bC (gz fb f)) p.1) ∧ aK env.P 114 [PI fb.l, QA f (bC f) p] (.bool z) := by
  have hg0 : gz fb f ≠ 0 := agz (.inr I.nf.ne)
  have hgN : ZX.N (gz fb f) ≤ ZX.N f := (gP fb f).r.qT I.nf.ne
  have vP : ¬ fb.l.length = 0 := by have := ZX.aG.1 I'.nf.ne; have : ZX.N fb = fb.l.length := rfl; omega
  by_cases h2 : 2 ≤ ZX.N (gz fb f)
  ·obtain ⟨sg, ng, IGG⟩ := IG h2
   have k4 := IGG.uB p1 p2 (by omega)
   rw [if_neg (Rat.not_lt.2 (Rat.le_of_lt O9)), cG, cG] at k4
   refine ⟨_, ?_, D1 (by show ZX.N fb < _; omega) (by show ZX.N (gz fb f) < _; omega) e1 (fun hh => by cases hh) hG (fun _ => IGG.GI) (fun _ => k4) (σ := 0) rfl⟩
   rw [if_neg vP, if_neg (by decide), if_neg (by show ¬ ZX.N (gz fb f) < 2; omega), decide_eq_true_eq]
   omega
  ·refine ⟨_, ?_, D1 (by show ZX.N fb < _; omega) (by show ZX.N (gz fb f) < _; omega) e1 (fun hh => by cases hh) hG (fun hh => absurd hh h2) (fun hh => absurd hh h2) (σ := 0) (b := 0) (cg := []) rfl⟩
   rw [if_neg vP, if_neg (by decide), if_pos (by show ZX.N (gz fb f) < 2; omega)]
   refine ⟨fun hh => absurd hh (by decide), fun hh => ?_⟩
   exfalso
   have : gz fb f = 1 := (QZ (.inr I.nf.ne)).N1 (by omega)
   rw [this] at hh
   have hS1 := sqf ZX.r6 (fun d h1 h2 => by have := h1.qT ZX.r6; rwa [ZX.AA] at this) (by rw [ZX.AA]; omega)
   have := hS1.const O9 (σ := 1) (.inr (by rw [RE]; decide)) (fun x _ _ => by rw [RE]; decide)
   omega
 have r1 := I.GJ A p1 p2 q1 (by omega)
 have r2 := I.GJ A p1 p2 q2 (by omega)
 obtain ⟨D, hD1, GR, g1, g2⟩ := agW p1 p2
 obtain ⟨D', aeK, aeL, g1', g2'⟩ := agW q1 q2
 have hK := apI (s := S) (β := u) hTn
 have apJ : ∀ r : Rat × Rat, Ab r.1 (2 ^ u) → Ab r.2 (2 ^ u) → r.2 - r.1 ≤ 2 ^ (u + 1) := fun r ⟨a1, a2⟩ ⟨a3, a4⟩ => by rw [Rat.pow_succ]; grind
 obtain ⟨J, hJ⟩ : ∃ J, J = kc S N u + u + 2 := ⟨_, rfl⟩
 have hJ2 : u + 1 + 2 * u + J + 1 ≤ 1000000000 := by omega
 have sqA : ∀ (D : Nat), 1 ≤ D → D ≤ 2 ^ (2 * u) → ∀ (j : Nat) (r : Rat), j ≤ J → Gr D (2 ^ u) j r → SQ (u + 1 + 2 * u + J + 1) r := fun D h1 h2 j r hj hr => ((hr.mono hj).sq h1 h2).mono (by omega)
 have sqS : ∀ (D : Nat), 1 ≤ D → D ≤ 2 ^ (2 * u) → ∀ (j : Nat) (r r' : Rat), j ≤ J → Gr D (2 ^ u) j r → Gr D (2 ^ u) j r' → SQ (u + 1 + 2 * u + J + 1) (r + r') := fun D h1 h2 j r r' hj hr jI => (((hr.add jI).mono hj).sq h1 h2)
 by_cases A6 : ∀ x, cX f p x ↔ cX fb q x
 ·-- auL are one
  have hz : zv = true := hzv.2 (VN T A B O9 A6)
  subst hz
  have c1 : cr (cX f p) q.1 = 1 := n6.2 fun hh => B.n7 (.inr ⟨rfl, hql⟩) ((A6 _).1 hh)
  have c2 : cr (cX f p) q.2 ≤ 0 := by
   rcases A5 (cX f p) q.2 with hh | hh | hh
   ·omega
   ·omega
   ·exact absurd ((A6 _).2 kO) (n6.1 hh)
  rw [c1] at r1
  rw [aeD.2 A6, pV, pV]
  rw [pV] at Z e1 e2 r1 r2
  rw [cG] at r1 r2
  generalize cr (cX f p) q.2 = r at *
  simp only [uM] at Z e1 e2 r1 r2 ⊢
  refine aB (E := env) (fun _ => 0) [(0, .ag (uM f.l (bC f) p.1.num p.1.den p.2.num p.2.den)), (1, .ag (uM fb.l (bC fb) q.1.num q.1.den q.2.num q.2.den))] Tryz.func42 rfl (by kernel_rfl) (by kernel_rfl) (show 2 ≤ 59 by decide) (by simp) ?_
  refine W.sr ?_
  simp (disch := omega) [gw]
  refine W.lx [2, 3] ?_; simp
  refine W.seq ?_
  refine W.sr ?_
  simp (disch := omega) [gw]
  refine aA e1 ?_
  simp (disch := omega) [gw]
  refine W.lx [2, 3, 6] ?_; simp
  refine W.cond ⟨_, rfl, fun h => ?_, fun h => ?_⟩
  ·simp at h
  refine W.skip ?_
  refine W.seq ?_
  refine W.sr ?_
  simp (disch := omega) [gw]
  refine aA e2 ?_
  simp (disch := omega) [gw]
  refine W.lx [2, 3, 13] ?_; simp
  refine W.cond ⟨_, rfl, fun h => ?_, fun h => ?_⟩
  ·simp at h
  refine W.skip ?_
  refine W.fV (fun σ => False) ?_ (fun _ hh => hh.elim)
  refine W.sr ?_
  simp (disch := omega) [gw]
  refine aA Z ?_
  simp (disch := omega) [gw]
  refine W.lx [2, 3, 21] ?_; simp
  refine W.cond ⟨_, rfl, fun h => ?_, fun h => ?_⟩
  ·refine W.sr ?_
   simp (disch := omega) [gw]
   refine aA r1 ?_
   simp (disch := omega) [gw]
   refine aA r2 ?_
   simp (disch := omega) [gw, c2]
   refine W.lx [2, 3, 33] ?_; simp
   refine W.cond ⟨_, rfl, fun h => ?_, fun h => ?_⟩
   ·refine W.sr ?_; simp (disch := omega) [gw]; refine W.lx [4] ?_; simp
    refine W.ret ?_
    simp [go]
   ·simp at h
  ·simp at h
 ·-- auL are two
  have B9 : zv = true → ¬ (0 < cr (cX f p) q.1 ∧ cr (cX f p) q.2 ≤ 0) := fun hz ⟨c1, c2⟩ => A6 (VM T A B O9 hql (by
   rcases A5 (cX f p) q.1 with hh | hh | hh
   ·omega
   ·omega
   ·exact n6.1 hh) (Classical.byContradiction fun hh => by have := n6.2 hh; omega) (hzv.1 hz))
  have hsw : ¬ ∀ x, gH (vt (bC f)) p.1 p.2 x ↔ gH (vt (bC fb)) q.1 q.2 x := A6
  rw [pV, pV]
  rw [pV] at Z e1 e2 r1 r2
  rw [cG] at r1 r2
  generalize hv1 : cr (cX f p) q.1 = x1 at *
  generalize hv2 : cr (cX f p) q.2 = x2 at *
  clear hv1 hv2
  simp only [uM] at Z e1 e2 r1 r2 ⊢
  refine aB (E := env) (fun _ => 0) [(0, .ag (uM f.l (bC f) p.1.num p.1.den p.2.num p.2.den)), (1, .ag (uM fb.l (bC fb) q.1.num q.1.den q.2.num q.2.den))] Tryz.func42 rfl (by kernel_rfl) (by kernel_rfl) (show 2 ≤ 59 by decide) (by simp) ?_
  refine W.sr ?_
  simp (disch := omega) [gw]
  refine W.lx [2, 3] ?_; simp
  refine W.seq ?_
  refine W.sr ?_
  simp (disch := omega) [gw]
  refine aA e1 ?_
  simp (disch := omega) [gw]
  refine W.lx [2, 3, 6] ?_; simp
  refine W.cond ⟨_, rfl, fun h => ?_, fun h => ?_⟩
  ·simp at h
  refine W.skip ?_
  refine W.seq ?_
  refine W.sr ?_
  simp (disch := omega) [gw]
  refine aA e2 ?_
  simp (disch := omega) [gw]
  refine W.lx [2, 3, 13] ?_; simp
  refine W.cond ⟨_, rfl, fun h => ?_, fun h => ?_⟩
  ·simp at h
  refine W.skip ?_
  refine W.fV (fun σ => ∃ (v2 v3 : Nat) (rows : Pm.Rows) (clk : Nat), σ = ⟨fa [(2, .ptr 2 v2 0 0), (3, .ptr 3 v3 0 0)], rows, clk⟩ ∧ rows 2 = some ⟨v2, 68, 10, [uM f.l (bC f) p.1.num p.1.den p.2.num p.2.den]⟩ ∧ rows 3 = some ⟨v3, 68, 10, [uM fb.l (bC fb) q.1.num q.1.den q.2.num q.2.den]⟩) ?_ ?_
  ·refine W.sr ?_
   simp (disch := omega) [gw]
   refine aA Z ?_
   simp (disch := omega) [gw]
   refine W.lx [2, 3, 21] ?_; simp
   refine W.cond ⟨_, rfl, fun h => ?_, fun h => ?_⟩
   ·have hc := B9 h
    by_cases hx1 : 0 < x1
    ·have hx2 : ¬ x2 ≤ 0 := fun hh => hc ⟨hx1, hh⟩
     refine W.sr ?_
     simp (disch := omega) [gw]
     refine aA r1 ?_
     simp (disch := omega) [gw, hx1]
     refine aA r2 ?_
     simp (disch := omega) [gw, hx2]
     refine W.lx [2, 3, 33] ?_; simp
     refine W.cond ⟨_, rfl, fun h => ?_, fun h => ?_⟩
     ·simp at h
     ·refine W.skip ?_
      exact ⟨_, aC _ [2, 3], _, _, _, _, rfl, by simp, by simp⟩
    ·refine W.sr ?_
     simp (disch := omega) [gw]
     refine aA r1 ?_
     simp (disch := omega) [gw, hx1]
     refine W.lx [2, 3, 33] ?_; simp
     refine W.cond ⟨_, rfl, fun h => ?_, fun h => ?_⟩
     ·simp at h
     ·refine W.skip ?_
      exact ⟨_, aC _ [2, 3], _, _, _, _, rfl, by simp, by simp⟩
   ·refine W.skip ?_
    exact ⟨_, aC _ [2, 3], _, _, _, _, rfl, by simp, by simp⟩
  rintro _ ⟨v2, v3, rows, clk, rfl, cI, fY⟩
  clear Z e1 e2 r1 r2
  refine W.block ?_
  refine W.a8 (fun k σ => ∃ (a b : Rat × Rat) (j v2 v3 : Nat) (rows : Pm.Rows) (clk : Nat), σ = ⟨fa [(2, .ptr 2 v2 0 0), (3, .ptr 3 v3 0 0)], rows, clk⟩ ∧ rows 2 = some ⟨v2, 68, 10, [uM f.l (bC f) a.1.num a.1.den a.2.num a.2.den]⟩ ∧ rows 3 = some ⟨v3, 68, 10, [uM fb.l (bC fb) b.1.num b.1.den b.2.num b.2.den]⟩ ∧
   oJ f (vt (bC f)) a.1 a.2 ∧ oJ fb (vt (bC fb)) b.1 b.2 ∧ (∀ x, cX f a x ↔ cX f p x) ∧ (∀ x, cX fb b x ↔ cX fb q x) ∧ Gr D (2 ^ u) j a.1 ∧ Gr D (2 ^ u) j a.2 ∧ Gr D' (2 ^ u) j b.1 ∧ Gr D' (2 ^ u) j b.2 ∧ (a.2 - a.1) * 2 ^ j ≤ 2 ^ (u + 1) ∧ (b.2 - b.1) * 2 ^ j ≤ 2 ^ (u + 1) ∧ j + k = J) J ?_ ?_
  ·exact ⟨_, .refl, p, q, 0, _, _, _, _, rfl, cI, fY, A, B, fun _ => Iff.rfl, fun _ => Iff.rfl, g1, g2, g1', g2', by rw [Rat.pow_zero, Rat.mul_one]; exact apJ p g1.b g2.b, by rw [Rat.pow_zero, Rat.mul_one]; exact apJ q g1'.b g2'.b, by omega⟩
  rintro k _ ⟨a, b, j, v2, v3, rows, clk, rfl, cI, fY, HA, HB, ha, hb, ga1, ga2, gb1, gb2, wa, wb, hjk⟩
  have s1 := sqA D hD1 GR j a.1 (by omega) ga1
  have s2 := sqA D hD1 GR j a.2 (by omega) ga2
  have s3 := sqA D' aeK aeL j b.1 (by omega) gb1
  have s4 := sqA D' aeK aeL j b.2 (by omega) gb2
  have e1 := pS (f := f) (c := bC f) s1 s2 hJ2
  have e2 := pS (f := fb) (c := bC fb) s3 s4 hJ2
  rw [pV] at e1 e2
  simp only [uM] at e1 e2 cI fY
  refine W.block ?_
  refine W.seq ?_
  by_cases hpt : a.1 = a.2 ∨ b.1 = b.2
  ·have C := abl I I' HA HB s1 s2 s3 s4 hJ2 hpt
   rw [nC ha hb, pV, pV] at C
   simp only [uM] at C
   by_cases h1 : a.1 = a.2
   ·rw [decide_eq_true h1] at e1
    refine W.sr ?_
    simp (disch := omega) [gw, cI]
    refine aA e1 ?_
    simp (disch := omega) [gw]
    refine W.lx [2, 3, 39] ?_; simp
    refine W.cond ⟨_, rfl, fun h => ?_, fun h => ?_⟩
    ·refine W.sr ?_
     simp (disch := omega) [gw, cI, fY]
     refine aA C ?_
     simp (disch := omega) [gw]
     refine W.lx [4] ?_; simp
     refine W.ret ?_
     simp [go]
    ·simp at h
   ·rw [decide_eq_false h1] at e1
    rw [decide_eq_true (hpt.resolve_left h1)] at e2
    refine W.sr ?_
    simp (disch := omega) [gw, cI, fY]
    refine aA e1 ?_
    simp (disch := omega) [gw, cI, fY]
    refine aA e2 ?_
    simp (disch := omega) [gw]
    refine W.lx [2, 3, 39] ?_; simp
    refine W.cond ⟨_, rfl, fun h => ?_, fun h => ?_⟩
    ·refine W.sr ?_
     simp (disch := omega) [gw, cI, fY]
     refine aA C ?_
     simp (disch := omega) [gw]
     refine W.lx [4] ?_; simp
     refine W.ret ?_
     simp [go]
    ·simp at h
  ·obtain ⟨h1, h2⟩ := not_or.1 hpt
   rw [decide_eq_false h1] at e1
   rw [decide_eq_false h2] at e2
   have hal : a.1 < a.2 := by have := HA.le; grind
   have VS : b.1 < b.2 := by have := HB.le; grind
   have m1 := j7 a.2 b.1 (s2.yy hJ2) (s3.yy hJ2)
   have m2 := j7 b.2 a.1 (s4.yy hJ2) (s1.yy hJ2)
   rw [cG, cG] at m1 m2
   refine W.sr ?_
   simp (disch := omega) [gw, cI, fY]
   refine aA e1 ?_
   simp (disch := omega) [gw, cI, fY]
   refine aA e2 ?_
   simp (disch := omega) [gw]
   refine W.lx [2, 3, 39] ?_; simp
   refine W.cond ⟨_, rfl, fun h => ?_, fun h => ?_⟩
   ·simp at h
   refine W.skip ?_
   refine W.seq ?_
   refine W.sr ?_
   simp (disch := omega) [gw, cI, fY]
   refine aA m1 ?_
   simp (disch := omega) [gw]
   refine W.lx [2, 3, 48] ?_; simp
   refine W.cond ⟨_, rfl, fun h => ?_, fun h => ?_⟩
   ·simp at h
    rw [pT] at h
    have hcu : cu (cX f p) (cX fb q) = -1 := by rw [← nC ha hb]; exact apG HB h VS
    rw [hcu]
    refine W.sr ?_; simp (disch := omega) [gw]; refine W.lx [4] ?_; simp
    refine W.ret ?_
    simp [go]
   ·simp at h
    rw [← Int.not_le, pT] at h
    have fP := Rat.not_le.1 h
    refine W.skip ?_
    refine W.seq ?_
    refine W.sr ?_
    simp (disch := omega) [gw, cI, fY]
    refine aA m2 ?_
    simp (disch := omega) [gw]
    refine W.lx [2, 3, 54] ?_; simp
    refine W.cond ⟨_, rfl, fun h => ?_, fun h => ?_⟩
    ·simp at h
     rw [pT] at h
     have hcu : cu (cX f p) (cX fb q) = 1 := by rw [← nC ha hb]; exact apH HA HB h hal
     rw [hcu]
     refine W.sr ?_; simp (disch := omega) [gw]; refine W.lx [4] ?_; simp
     refine W.ret ?_
     simp [go]
    ·simp at h
     rw [← Int.not_le, pT] at h
     have hba := Rat.not_le.1 h
     have hk : k ≠ 0 := fun wF => by
      have hjJ : j = J := by omega
      refine A6 fun x => ?_
      have hP := gQ j
      have hW : ∀ w : Rat, w * 2 ^ j ≤ 2 ^ (u + 1) → w ≤ 2 ^ (u + 1) / 2 ^ j := fun w hw => Rat.not_lt.1 fun eX => by
       have e0 : (2 : Rat) ^ (u + 1) / 2 ^ j * 2 ^ j = 2 ^ (u + 1) := Rat.div_mul_cancel (Rat.ne_of_gt hP)
       have := Rat.mul_lt_mul_of_pos_right eX hP
       grind
      have := VL (W := 2 ^ (u + 1) / 2 ^ j) T HA HB hal VS hba fP ga1.b ga2.b gb1.b gb2.b (hW _ wa) (hW _ wb) (by
       have e0 : (2 : Rat) ^ (u + 1) / 2 ^ j * 2 ^ j = 2 ^ (u + 1) := Rat.div_mul_cancel (Rat.ne_of_gt hP)
       have e3 : (2 : Rat) ^ j = 2 ^ kc S N u * 2 ^ (u + 2) := by rw [← n5, hjJ, hJ]; congr 1
       have e4 : (2 : Rat) ^ (u + 2) = 2 ^ (u + 1) * 2 := by rw [← Rat.pow_succ]
       have hQ := gQ (kc S N u)
       have hR := gQ (u + 1)
       rw [e4] at e3
       generalize (2 : Rat) ^ (u + 1) / 2 ^ j = W at *
       rw [e3] at e0
       generalize (2 : Rat) ^ kc S N u = κ at *
       generalize (2 : Rat) ^ (u + 1) = R at *
       have e5 : R * (2 * W * κ) = R * 1 := by grind
       have e6 := Rat.le_of_mul_le_mul_left (show R * (2 * W * κ) ≤ R * 1 by rw [e5]; exact Rat.le_refl) hR
       exact e6) x
      exact (ha x).symm.trans (this.trans (hb x))
     obtain ⟨k', rfl⟩ : ∃ k', k = k' + 1 := ⟨k - 1, by omega⟩
     have ma := ga1.GS ga2
     have mb := gb1.GS gb2
     have H1 := I.agT (u := u + 1 + 2 * u + J + 1) (Rat.le_of_lt hal) s1 s2 (sqA D hD1 GR (j + 1) _ (by omega) ma) (sqS D hD1 GR j _ _ (by omega) ga1 ga2) hJ2
     have H2 := I'.agT (u := u + 1 + 2 * u + J + 1) (Rat.le_of_lt VS) s3 s4 (sqA D' aeK aeL (j + 1) _ (by omega) mb) (sqS D' aeK aeL j _ _ (by omega) gb1 gb2) hJ2
     obtain ⟨ha1, ha2⟩ := R7 HA
     obtain ⟨EG, vS⟩ := R7 HB
     obtain ⟨ga3, ga4, wa'⟩ := agX (f := f) ga1 ga2 (Rat.le_of_lt hal)
     obtain ⟨gb3, gb4, wb'⟩ := agX (f := fb) gb1 gb2 (Rat.le_of_lt VS)
     rw [pV, pV] at H1 H2
     simp only [uM] at H1 H2
     have hwd : ∀ w w' : Rat, w * 2 ^ j ≤ 2 ^ (u + 1) → w' * 2 ≤ w → w' * 2 ^ (j + 1) ≤ 2 ^ (u + 1) := fun w w' g1 g2 => by
      have hP := gQ j
      have g3 := Rat.mul_le_mul_of_nonneg_right g2 (Rat.le_of_lt hP)
      rw [Rat.pow_succ]
      grind
     have wa2 := hwd _ _ wa wa'
     have wb2 := hwd _ _ wb wb'
     have ha3 : ∀ x, cX f (hv f a) x ↔ cX f p x := fun x => (ha2 x).trans (ha x)
     have hb3 : ∀ x, cX fb (hv fb b) x ↔ cX fb q x := fun x => (vS x).trans (hb x)
     generalize hv f a = a' at *
     generalize hv fb b = b' at *
     refine W.skip ?_
     refine W.MR (fun K hK => ?_)
     simp (disch := omega) [gw, cI, fY]
     refine aA H1 ?_
     simp (disch := omega) [gw, cI, fY]
     refine aA H2 ?_
     (try (refine b8 (of_decide_eq_true (by kernel_rfl)) ?_)); (try simp (maxSteps := 4000000) (disch := omega) [gw, cI, fY, eS]); (repeat rw [if_pos (by kernel_rfl)]); (try simp (maxSteps := 4000000) (disch := omega) [gw, cI, fY, eS])
     (try (refine b8 (of_decide_eq_true (by kernel_rfl)) ?_)); (try simp (maxSteps := 4000000) (disch := omega) [gw, cI, fY, eS]); (repeat rw [if_pos (by kernel_rfl)]); (try simp (maxSteps := 4000000) (disch := omega) [gw, cI, fY, eS])
     (try (refine b8 (of_decide_eq_true (by kernel_rfl)) ?_)); (try simp (maxSteps := 4000000) (disch := omega) [gw, cI, fY, eS]); (repeat rw [if_pos (by kernel_rfl)]); (try simp (maxSteps := 4000000) (disch := omega) [gw, cI, fY, eS])
     refine hK _ ⟨k', _, aC _ [2, 3], by omega, a', b', j + 1, _, _, _, _, rfl, by simp, by simp, ha1, EG, ha3, hb3, ga3, ga4, gb3, gb4, wa2, wb2, by omega⟩
theorem aeN {f : ZX} (nf : Nf f) : gz f f = f := by
 have h : oM f f f := ⟨dv.refl f, dv.refl f, ⟨1, by decide, 1, 0, by show (1 : ZX) * f = _; grind⟩⟩
 rw [JU h, nf.nfe]
namespace mP
variable {s n : Nat} {f : ZX} (I : mP s n f)
include I
theorem two : Two s n f f := ⟨I.nf, I.nf, I.cop, I.cop, I.szf, I.szf, I.ch.bz.N, I.ch.bz.N, I.ch.hn, I.lay.hs⟩
theorem aeO : aK env.P 171 [PI f.l, PI f.l] (PI (gz f f).l) := by
 have hC := I.lay.hC
 have hn := I.ch.hn
 have hq : s + n + 1 ≤ qb s n := by
  unfold qb
  have := I.tS
  have : 1 * (2 * s + 5) ≤ n * (2 * s + 5) := Nat.mul_le_mul_right _ I.tS
  have hh := I.lay.hs
  have h2 : n < 2 ^ s := by omega
  have h3 : n ≤ n * (2 * s + 5) := Nat.le_mul_of_pos_right _ (by omega)
  have h4 : n * (2 * s + 5) = n * (2 * s) + n * 5 := Nat.mul_add _ _ _
  omega
 refine DN (C := 4500000000) I.ch.bz I.ch.bz ?_ hn (by decide) I.s1
 rw [I.nf.nfe]
 unfold xT
 rw [if_neg (by omega)]
 have h4 : (4 : Nat) ^ ZX.N f ≤ 4 ^ n := Nat.pow_le_pow_right (by decide) I.ch.bz.N
 refine Nat.le_trans (Nat.mul_le_mul (show (s + n + 1) * 2 ≤ qb s n + n + 6 by unfold qb at *; have := I.lay.hs; have h5 : 1 * (2 * s + 5) ≤ n * (2 * s + 5) := Nat.mul_le_mul_right _ I.tS; have h3 : n * 5 ≤ n * (2 * s + 5) := Nat.mul_le_mul_left _ (by omega); omega) h4) hC
theorem cmp (hs : s ≤ 20000) {u : Nat} {p q : Rat × Rat} (A : oJ f (vt (bC f)) p.1 p.2) (B : oJ f (vt (bC f)) q.1 q.2) (p1 : SQ u p.1) (p2 : SQ u p.2) (q1 : SQ u q.1) (q2 : SQ u q.2) (hu : u ≤ 2200000) : aK env.P 42 [QA f (bC f) p, QA f (bC f) q] (.int .i64 (cu (cX f p) (cX f q))) :=
 abm I I I.two hs I.aeO (fun _ => ⟨s, n, by rw [aeN I.nf]; exact I⟩) A B p1 p2 q1 q2 hu
end mP
theorem A7 {f : ZX} {c : List ZX} {l m : List (Rat × Rat)} (hl : l.length = m.length) (Y6 : l.length < 1000000) (hv : ∀ i, i < l.length → aK env.P 38 [GA f (nth l i)] (.bool true) ∧ aK env.P 41 [GA f (nth l i)] (QA f c (ex f (nth l i))) ∧ aK env.P 42 [QA f c (ex f (nth l i)), QA f c (nth m i)] (.int .i64 0)) :
  aK env.P 23 [aI (ga f) l, aI (qa f c) m] (.bool true) := by
 refine aB (E := env) (fun _ => 0) [(0, aI (ga f) l), (1, aI (qa f c) m)] Tryz.func23 rfl (by kernel_rfl) (by kernel_rfl) (show 2 ≤ 36 by decide) (by simp) ?_
 refine W.sr ?_; simp (disch := omega) [gw]; refine W.lx [0, 1] ?_; simp
 refine W.seq ?_
 have e1 : ((l.length : Int) != (m.length : Int)) = false := by rw [hl]; simp
 refine W.sr ?_
 simp (disch := omega) [gw, e1]
 refine W.lx [0, 1, 10] ?_; simp
 refine W.cond ⟨_, rfl, fun h => ?_, fun h => ?_⟩
 ·simp at h
 refine W.skip ?_
 refine W.seq ?_
 refine W.sr ?_; simp (disch := omega) [gw]; refine W.lx [0, 1, 12, 13] ?_; simp
 refine W.block ?_
 refine W.a8 (fun k σ => ∃ (i : Nat) (rows : Pm.Rows) (clk : Nat), σ = ⟨fa [(0, aI (ga f) l), (1, aI (qa f c) m), (12, .int .i64 l.length), (13, .int .i64 i)], rows, clk⟩ ∧ i + k = l.length) l.length ?_ ?_
 ·exact ⟨_, .refl, 0, _, _, rfl, by omega⟩
 rintro k _ ⟨i, rows, clk, rfl, FD⟩
 refine W.sr ?_; simp (disch := omega) [gw]; refine W.lx [0, 1, 12, 13, 14] ?_; simp
 refine W.seq ?_
 refine W.cond ⟨_, rfl, fun h => ?_, fun h => ?_⟩
 ·have hi : i < l.length := by simp at h; omega
  have A9 : i < m.length := by omega
  obtain ⟨v1, v2, v3⟩ := hv i hi
  simp only [GA, QA, qa, ga, List.cons_append, List.nil_append] at v1 v2 v3
  refine W.skip ?_
  refine W.seq ?_
  refine W.block ?_
  refine W.sr ?_; simp (disch := omega) [gw]; refine W.lx [0, 1, 5, 12, 13] ?_; simp
  refine W.sd ?_
  simp (disch := omega) [gw, hi, A9]
  refine aA v1 ?_
  simp (disch := omega) [gw, hi, A9]
  refine aA v2 ?_
  simp (disch := omega) [gw, hi, A9]
  refine aA v3 ?_
  simp (disch := omega) [gw, hi, A9]
  refine W.lx [0, 1, 12, 13, 34] ?_; simp
  refine W.cond ⟨_, rfl, fun h => ?_, fun h => ?_⟩
  ·simp at h
  ·refine W.skip ?_
   refine W.bY (fun K hK => ?_); simp (disch := omega) [gw]
   refine hK _ ⟨k - 1, _, aC _ [0, 1, 12, 13], by omega, i + 1, _, _, rfl, by omega⟩
 ·refine W.exit ?_; simp only [pX, if_true, if_false, reduceIte, Nat.reduceEqDiff]
  refine W.sr ?_; simp (disch := omega) [gw]; refine W.lx [4] ?_; simp
  refine W.ret ?_
  simp [go]
theorem mP.right {s n : Nat} {f : ZX} (I : mP s n f) (hs : s ≤ 20000) (hN : 2 ≤ ZX.N f) {l m : List (Rat × Rat)} (hl : l.length = m.length) {u : Nat} (hu : u ≤ 2200000) (h1 : ∀ p ∈ l, oJ f (vt (bC f)) p.1 p.2 ∧ SQ u p.1 ∧ SQ u p.2) (h2 : ∀ p ∈ m, oJ f (vt (bC f)) p.1 p.2 ∧ SQ u p.1 ∧ SQ u p.2)
  (h3 : ∀ i, i < l.length → ∀ t, cX f (nth l i) t ↔ cX f (nth m i) t) (Y6 : l.length < 1000000) : aK env.P 23 [aI (ga f) l, aI (qa f (bC f)) m] (.bool true) := by
 refine A7 hl Y6 fun i hi => ?_
 obtain ⟨a1, a2, a3⟩ := h1 _ (bN hi)
 obtain ⟨b1, b2, b3⟩ := h2 _ (bN (show i < m.length by omega))
 obtain ⟨c1, c2⟩ := yC a1
 have c3 : SQ u (ex f (nth l i)).1 ∧ SQ u (ex f (nth l i)).2 := by
  unfold ex; split
  ·exact ⟨a3, a3⟩
  ·exact ⟨a2, a3⟩
 refine ⟨I.valid a1 hN a2 a3 (by omega), I.agS a2 a3 (by omega), ?_⟩
 have := I.cmp hs c1 b1 c3.1 c3.2 b2 b3 hu
 rwa [nC (fun t => (c2 t).trans (h3 i hi t)) (fun _ => Iff.rfl), RZ] at this
theorem OX {α β : Type} [Inhabited α] [Inhabited β] {g : α → β} {l : List α} {i : Nat} (h : i < l.length) : nth (l.map g) i = g (nth l i) := by
 rw [cS (by simpa using h), cS h, List.getElem_map]
theorem mP.OY {s n : Nat} {f : ZX} (I : mP s n f) (hs : s ≤ 20000) (hN : 2 ≤ ZX.N f) : aK env.P 23 [aI (ga f) (qN s n f), aI (qa f (bC f)) ((qN s n f).map (ex f))] (.bool true) := by
 have V := I.ivs
 have hA : ∀ p ∈ qN s n f, oJ f (vt (bC f)) p.1 p.2 ∧ SQ (uu s) p.1 ∧ SQ (uu s) p.2 := fun p hp => by
  obtain ⟨a1, a2, a3, a4, a5, a6⟩ := V.mem p hp
  exact ⟨⟨I.S, .inr ⟨a4, a6⟩⟩, a1, a2⟩
 refine I.right hs hN (by simp) (u := uu s) (by unfold uu; omega) hA (fun p hp => ?_) (fun i hi t => ?_) (by have := yB I; omega)
 ·obtain ⟨p0, WD, rfl⟩ := List.mem_map.1 hp
  obtain ⟨a1, a2, a3⟩ := hA p0 WD
  refine ⟨(yC a1).1, ?_, ?_⟩ <;> (unfold ex; split <;> assumption)
 ·rw [OX hi]
  exact ((yC (hA _ (bN hi)).1).2 t).symm
theorem vG {s n : Nat} {f : ZX} (I : mP s n f) (hN : ZX.N f ≤ 1) : qN s n f = [] := by
 have V := I.ivs.len
 have h1 : f = 1 := I.nf.N1 hN
 have h2 := I.S.const I.R4 (σ := 1) (.inr (by rw [h1, RE]; decide)) (fun x _ _ => by rw [h1, RE]; decide)
 rw [h2, Nat.sub_self] at V
 exact List.eq_nil_of_length_eq_zero V
theorem VQ {f : ZX} {c : List ZX} : aK env.P 23 [aI (ga f) [], aI (qa f c) []] (.bool true) := A7 rfl (by simp) fun i hi => absurd hi (by simp)
theorem mP.KQ {s n : Nat} {f : ZX} (I : mP s n f) (hs : s ≤ 20000) : aK env.P 23 [aI (ga f) (qN s n f), aI (qa f (bC f)) ((qN s n f).map (ex f))] (.bool true) := by
 by_cases hN : 2 ≤ ZX.N f
 ·exact I.OY hs hN
 ·rw [vG I (by omega)]
  exact VQ
end Go.Proofs.YtbbjgncblhfegaaGreat
namespace Go.Proofs.YtbbjgncblhfegaaGreat
open Go Pm
open ZX hiding N W
section
variable {x d : List Int} {c : List ZX} {an ad bn bd z b σ : Int} {cop : Bool} (hx : x.length < 1000000) (f1 : aK env.P 101 [Po x] (Po x)) (f2 : aK env.P 102 [Po x] (.int .i64 ((x.length : Int) - 1))) (f3 : aK env.P 104 [Po x] (Po d)) (f4 : aK env.P 103 [Po x, Po d] (.bool cop))
  (k3 : aK env.P 105 [T2 an ad, T2 bn bd] (.int .i64 z)) (k4 : aK env.P 82 [Po x] (.eA [CH c, .int .i64 0])) (k5 : aK env.P 106 [CH c, T2 an ad, T2 bn bd] (.int .i64 b)) (k6 : aK env.P 62 [Po x, T2 an ad] (.int .i64 σ))
include hx f1 f2
include f3 f4
include k3 k4 k5 k6
end
theorem KR {α : Type} {g : α → List PV} {l : List α} (hN : aK env.P 82 [aI g l] (.eA [.gZ, .int .i64 2])) : aK env.P 21 [aI g l] (.eA [.sl [], .int .i64 2]) := by
 refine aB (E := env) (fun _ => 0) [(0, aI g l)] Tryz.func21 rfl (by kernel_rfl) (by kernel_rfl) (show 1 ≤ 32 by decide) (by simp) ?_
 refine W.sr ?_; simp (disch := omega) [gw]; refine W.lx [0] ?_; simp
 refine W.sr ?_
 simp (disch := omega) [gw]
 refine aA hN ?_
 simp (disch := omega) [gw]
 refine W.lx [0, 4, 5] ?_; simp
 refine W.seq ?_
 refine W.sr ?_; simp (disch := omega) [gw]; refine W.lx [0, 4, 5, 15] ?_; simp
 refine W.cond ⟨_, rfl, fun h => ?_, fun h => ?_⟩
 ·refine W.sr ?_; simp (disch := omega) [gw]; refine W.lx [2, 3] ?_; simp
  refine W.ret ?_
  simp [go]
 ·simp at h
def VR (sg : ZX → Int) : Nat → ZX → Int
 | 0, _ => 0
 | k + 1, p => if sg p = 0 then VR sg k (bM p) else sg p
theorem nD {sg : ZX → Int} (h0 : sg 0 = 0) : ∀ k, VR sg k 0 = 0
 | 0 => rfl
 | k + 1 => by
  have h1 : bM 0 = 0 := rfl
  rw [VR, if_pos h0, h1, nD h0 k]
theorem abn {sg : ZX → Int} (h0 : sg 0 = 0) : ∀ {k j : Nat} {p : ZX}, ZX.N p ≤ k → ZX.N p ≤ j → VR sg k p = VR sg j p
 | 0, j, p, h, _ => by
  have : p = 0 := Classical.byContradiction fun h0 => by have := ZX.aG.1 h0; omega
  rw [this, nD h0, nD h0]
 | k + 1, 0, p, _, h => by
  have : p = 0 := Classical.byContradiction fun h0 => by have := ZX.aG.1 h0; omega
  rw [this, nD h0, nD h0]
 | k + 1, j + 1, p, h1, h2 => by
  rw [VR, VR]
  have := l6 p
  rw [abn h0 (k := k) (j := j) (p := bM p) (by omega) (by omega)]
theorem OZ (g : FuncId) (hw : E3 g = false) (bQ : List PV) (hc : bQ.all eW = true) (sg : ZX → Int) (h0 : sg 0 = 0) {s k : Nat} {p : ZX} (hp : BZ s k p) (hk : k ≤ 31) (hs : s ≤ 1000000) (hg : ∀ (q : ZX) (s' : Nat), s' ≤ s + 5 * k → BZ s' k q → aK env.P g (Po q.l :: bQ) (.int .i64 (sg q))) :
  aK env.P 130 [Po p.l, .fn g bQ] (.int .i64 (VR sg (ZX.N p) p)) := by
 have hN := hp.N
 have N1 := iG (x := p.l) (hp.pb (by omega) (by omega))
 rw [p.c] at N1
 obtain ⟨r, hr⟩ : ∃ r, r = VR sg (ZX.N p) p := ⟨_, rfl⟩
 rw [← hr]
 refine aB (E := env) (fun _ => 0) [(0, Po p.l), (1, .fn g bQ)] Tryz.func130 rfl (by kernel_rfl) (by kernel_rfl) (show 2 ≤ 19 by decide) (by simp) ?_
 refine W.sr ?_; simp (disch := omega) [gw]; refine W.lx [0, 1] ?_; simp
 refine W.seq ?_
 refine W.sr ?_
 simp (disch := omega) [gw]
 refine aA N1 ?_
 simp (disch := omega) [gw]
 refine W.lx [0, 1] ?_; simp
 refine W.block ?_
 refine W.a8 (fun m σ => ∃ (q : ZX) (s' : Nat) (rows : Pm.Rows) (clk : Nat), σ = ⟨fa [(0, Po q.l), (1, .fn g bQ)], rows, clk⟩ ∧ m = ZX.N q ∧ BZ s' k q ∧ s' + 5 * ZX.N q ≤ s + 5 * k ∧ VR sg (ZX.N q) q = r) (ZX.N p) ?_ ?_
 ·exact ⟨_, .refl, p, s, _, _, rfl, rfl, hp, by omega, hr.symm⟩
 rintro m _ ⟨q, s', rows, clk, rfl, rfl, bq, hsq, hq⟩
 have hNq := bq.N
 have hNl : ZX.N q = q.l.length := rfl
 refine W.seq ?_
 refine W.sr ?_; simp (disch := omega) [gw]; refine W.lx [0, 1, 10] ?_; simp
 refine W.cond ⟨_, rfl, fun h => ?_, fun h => ?_⟩
 ·have VZ : q ≠ 0 := ZX.aG.2 (by show 0 < q.l.length; simp at h; omega)
  have hgq := hg q s' (by omega) bq
  have hD := r7 bq (by omega) (by omega)
  have auN : ZX.N (bM q) < ZX.N q := by have := l6 q; have := ZX.aG.1 VZ; omega
  have bd := bq.bM hk
  obtain ⟨j, hj⟩ : ∃ j, ZX.N q = j + 1 := ⟨ZX.N q - 1, by have := ZX.aG.1 VZ; omega⟩
  rw [hj, VR] at hq
  generalize hv : sg q = w at *
  refine W.skip ?_
  refine W.seq ?_
  refine W.block ?_
  refine W.sr ?_
  simp only [E3] at hw
  simp (disch := omega) [gw, hw, hc]
  refine aA hgq ?_
  simp (disch := omega) [gw]
  refine W.lx [0, 1, 5] ?_; simp
  refine W.sr ?_; simp (disch := omega) [gw]; refine W.lx [0, 1, 5, 17] ?_; simp
  refine W.cond ⟨_, rfl, fun h => ?_, fun h => ?_⟩
  ·have hw : w ≠ 0 := by simpa using h
   rw [if_neg hw] at hq
   subst hq
   refine W.sr ?_; simp (disch := omega) [gw]; refine W.lx [4] ?_; simp
   refine W.ret ?_
   simp [go]
  ·have hw : w = 0 := by simpa using h
   rw [if_pos hw] at hq
   refine W.skip ?_
   refine W.bY (fun K hK => ?_)
   simp (disch := omega) [gw]
   refine aA hD ?_
   simp (disch := omega) [gw]
   refine hK _ ⟨ZX.N (bM q), _, aC _ [0, 1], auN, bM q, s' + 5, _, _, rfl, rfl, bd, by omega, ?_⟩
   rw [← hq]
   exact abn h0 (Nat.le_refl _) (by omega)
 ·have VZ : q = 0 := by
   refine Classical.byContradiction fun h0 => ?_
   have h1 := ZX.aG.1 h0
   simp at h; rw [hNl, h] at h1; simp at h1
  subst VZ
  rw [nD h0] at hq
  subst hq
  refine W.exit ?_; simp only [pX, if_true, if_false, reduceIte, Nat.reduceEqDiff]
  refine W.sr ?_; simp (disch := omega) [gw]; refine W.lx [4] ?_; simp
  refine W.ret ?_
  simp [go]
theorem SB (n d : Int) : ∀ (k : Nat) (p : ZX), VR (fun q => xE q.l n d) k p = aeo n d k p
 | 0, _ => rfl
 | k + 1, p => by rw [VR, aeo, SB n d k (bM p)]
theorem O0 {s k u : Nat} {p : ZX} {n d : Int} {t : Rat} (hp : BZ s k p) (hk : k ≤ 31) (hs : s ≤ 1000000) (ht : cR n d = t) (hn : sz LL n ≤ u) (hd : sz LL d ≤ u) (hu1 : 1 ≤ u) (qt : sz LL t.num ≤ u ∧ sz LL (t.den : Int) ≤ u) (hu : u ≤ 1000000000) : aK env.P 61 [Po p.l, T2 n d] (.int .i64 (aft t.num t.den p)) := by
 have hsg : ∀ (q : ZX) (s' : Nat), s' ≤ s + 5 * k → BZ s' k q → aK env.P 131 [Po q.l, .rd [.bool (decide (n < 0)), us (aR LL n.natAbs), .bool (decide (d < 0)), us (aR LL d.natAbs)]] (.int .i64 (xE q.l t.num t.den)) := fun q s' GO bq => by
  have hmul : k * (u + 1) ≤ 31 * (u + 1) := Nat.mul_le_mul_right _ hk
  have k6 := DU (xD bq) q.c hn hd hu1 (by omega) (by omega) (by omega) ht qt
  generalize xE q.l t.num t.den = r at *
  refine aB (E := env) (fun _ => 0) [(0, Po q.l), (1, .rd [.bool (decide (n < 0)), us (aR LL n.natAbs), .bool (decide (d < 0)), us (aR LL d.natAbs)])] Tryz.func131 rfl (by kernel_rfl) (by kernel_rfl) (show 2 ≤ 7 by decide) (by simp) ?_
  refine W.sr ?_; simp (disch := omega) [gw]; refine W.lx [0, 1] ?_; simp
  refine W.sr ?_
  simp (disch := omega) [gw]
  refine aA k6 ?_
  simp (disch := omega) [gw]
  refine W.lx [3] ?_; simp
  refine W.ret ?_
  simp [go]
 have F1 := OZ 131 rfl [.rd [.bool (decide (n < 0)), us (aR LL n.natAbs), .bool (decide (d < 0)), us (aR LL d.natAbs)]] rfl (fun q => xE q.l t.num t.den) rfl hp hk hs hsg
 rw [SB] at F1
 replace F1 : aK env.P 130 [Po p.l, .fn 131 [.rd [.bool (decide (n < 0)), us (aR LL n.natAbs), .bool (decide (d < 0)), us (aR LL d.natAbs)]]] (.int .i64 (aft t.num t.den p)) := F1
 generalize aft t.num t.den p = r at *
 refine aB (E := env) (fun _ => 0) [(0, Po p.l), (1, T2 n d)] Tryz.func61 rfl (by kernel_rfl) (by kernel_rfl) (show 2 ≤ 8 by decide) (by simp) ?_
 refine W.sr ?_; simp (disch := omega) [gw]; refine W.lx [0, 3] ?_; simp
 refine W.sr ?_
 simp (disch := omega) [gw]
 refine aA F1 ?_
 simp (disch := omega) [gw]
 refine W.lx [4] ?_; simp
 refine W.ret ?_
 simp [go]
theorem O1 {α : Type} {g : α → List PV} {l : List α} {m : Nat} {f : ZX} {L : List (Rat × Rat)} (hO : aK env.P 120 [aI g l] (Po f.l)) (hR : aK env.P 21 [Po f.l] (.eA [aI (ga f) L, .int .i64 0])) (hm : m = 0) : aK env.P 51 [aI g l] (aI (ga f) L) := by
 refine aB (E := env) (fun _ => 0) [(0, aI g l)] Tryz.func51 rfl (by kernel_rfl) (by kernel_rfl) (show 1 ≤ 14 by decide) (by simp) ?_
 refine W.sr ?_; simp (disch := omega) [gw]; refine W.lx [0] ?_; simp
 refine W.sr ?_
 simp (disch := omega) [gw]
 refine aA hO ?_
 simp (disch := omega) [gw]
 refine aA hR ?_
 simp (disch := omega) [gw]
 refine W.lx [3, 4] ?_; simp
 refine W.seq ?_
 refine W.sr ?_; simp (disch := omega) [gw]; refine W.lx [3, 12] ?_; simp
 refine W.cond ⟨_, rfl, fun h => ?_, fun h => ?_⟩
 ·simp at h
 refine W.skip ?_
 refine W.sr ?_; simp (disch := omega) [gw]; refine W.lx [2] ?_; simp
 refine W.ret ?_
 simp [go]
theorem abo : aK env.P 120 [.sl []] (.sl []) := by
 have P1 := jU (a := (0 : ZX)) (h := 1) (n := 1) ⟨by decide, fun c hc => by cases hc⟩ (by decide) (by decide)
 rw [gG] at P1
 replace P1 : aK env.P 159 [.sl []] (.sl []) := P1
 refine aB (E := env) (fun _ => 0) [(0, .sl [])] Tryz.func120 rfl (by kernel_rfl) (by kernel_rfl) (show 1 ≤ 29 by decide) (by simp) ?_
 refine W.sr ?_; simp (disch := omega) [gw]; refine W.lx [0] ?_; simp
 refine W.sr ?_
 simp (disch := omega) [gw]
 refine aA P1 ?_
 simp (disch := omega) [gw]
 refine W.lx [0] ?_; simp
 refine W.seq ?_
 refine W.sr ?_; simp (disch := omega) [gw]; refine W.lx [0, 10] ?_; simp
 refine W.cond ⟨_, rfl, fun h => ?_, fun h => ?_⟩
 ·refine W.sr ?_; simp (disch := omega) [gw]; refine W.lx [2] ?_; simp
  refine W.ret ?_
  simp [go]
 ·simp at h
theorem O2 : aK env.P 51 [.sl []] (.sl []) := by
 have hO := abo
 have hN := KR (g := ie) (l := []) aeu
 replace hN : aK env.P 21 [.sl []] (.eA [.sl [], .int .i64 2]) := hN
 refine aB (E := env) (fun _ => 0) [(0, .sl [])] Tryz.func51 rfl (by kernel_rfl) (by kernel_rfl) (show 1 ≤ 14 by decide) (by simp) ?_
 refine W.sr ?_; simp (disch := omega) [gw]; refine W.lx [0] ?_; simp
 refine W.sr ?_
 simp (disch := omega) [gw]
 refine aA hO ?_
 simp (disch := omega) [gw]
 refine aA hN ?_
 simp (disch := omega) [gw]
 refine W.lx [3, 4] ?_; simp
 refine W.seq ?_
 refine W.sr ?_; simp (disch := omega) [gw]; refine W.lx [3, 12] ?_; simp
 refine W.cond ⟨_, rfl, fun h => ?_, fun h => ?_⟩
 ·refine W.sr ?_; simp (disch := omega) [gw]; refine W.lx [2] ?_; simp
  refine W.ret ?_
  simp [go]
 ·simp at h
theorem O3 {x : List Int} {m : List Int} {f : ZX} {c : List ZX} {L : List (Rat × Rat)} (hx : x ≠ []) (hO : aK env.P 121 [PI x] (PI f.l)) (hR : aK env.P 24 [PI f.l] (aI (qa f c) L)) : aK env.P 52 [PI x] (aI (qa f c) L) := by
 refine aB (E := env) (fun _ => 0) [(0, PI x)] Tryz.func52 rfl (by kernel_rfl) (by kernel_rfl) (show 1 ≤ 9 by decide) (by simp) ?_
 refine W.sr ?_; simp (disch := omega) [gw]; refine W.lx [0] ?_; simp
 refine W.seq ?_
 refine W.sr ?_; simp (disch := omega) [gw]; refine W.lx [0, 5] ?_; simp
 refine W.cond ⟨_, rfl, fun h => ?_, fun h => ?_⟩
 ·simp at h; exact absurd h hx
 refine W.skip ?_
 refine W.sr ?_
 simp (disch := omega) [gw]
 refine aA hO ?_
 simp (disch := omega) [gw]
 refine aA hR ?_
 simp (disch := omega) [gw]
 refine W.lx [2] ?_; simp
 refine W.ret ?_
 simp [go]
theorem aj4 {a : ZX} (na : Nf a) : DW (oz a) (bM (oz a)) := fun d h1 h2 => by
 refine Classical.byContradiction fun h3 => ?_
 have ho := DK na
 have ZM := h1.ne ho.ne
 obtain ⟨p, hp, hpd⟩ := nY _ d (Nat.le_refl _) (by omega)
 have hmu := JZ na hp
 have hpo : dv p (oz a) := hpd.trans h1
 have h4 : 1 ≤ mu p (oz a) := (lC hp ho.ne).2 (by rw [show p ^ 1 = p by rw [pow_succ', dZ]; grind]; exact hpo)
 have h5 : mu p (oz a) = 0 + 1 := by
  rw [hmu] at h4 ⊢
  omega
 obtain ⟨h6, h7⟩ := u0 hp ho.ne h5
 have h8 : 1 ≤ mu p (bM (oz a)) := (lC hp h6).2 (by rw [show p ^ 1 = p by rw [pow_succ', dZ]; grind]; exact hpd.trans h2)
 omega
structure TK (a : ZX) (f : ZX) (L : List (Rat × Rat)) : Prop where
 turns : aK env.P 51 [Po a.l] (aI (ga f) L)
 aj5 : aK env.P 52 [PI a.l] (aI (qa f (bC f)) (L.map (ex f)))
 right : aK env.P 23 [aI (ga f) L, aI (qa f (bC f)) (L.map (ex f))] (.bool true)
theorem A8 {s n : Nat} {a : ZX} (h : oO s n a) (h0 : a ≠ 0) (tS : 1 ≤ n) (hC : (qb (qb s n) n + n + 6) * 4 ^ n ≤ 4500000000) (hs : qb s n ≤ 5000000) : mP (qb s n) n (oz (nf a)) := by
 have na := eV h0
 have no := DK na
 have hb : BZ (qb s n) n (oz (nf a)) := h.nfz.dv na no (xS na _ _)
 exact ⟨⟨hb, h.hn, Nat.le_trans h.hs (Nat.pow_le_pow_right (by decide) (by unfold qb; omega)), hC⟩, tS, no, aj3 no (aj4 na), hs⟩
theorem D2 {s n : Nat} {a : ZX} (h : oO s n a) (h0 : a ≠ 0) (tS : 1 ≤ n) (hC : (qb (qb s n) n + n + 6) * 4 ^ n ≤ 4500000000) (hs : qb s n ≤ 20000) (qA : 1 ≤ s) : TK a (oz (nf a)) (qN (qb s n) n (oz (nf a))) := by
 have I := A8 h h0 tS hC (by omega)
 exact ⟨O1 (aef h h0) (OU I.aeH I) rfl, O3 (m := []) (tO h0) (UW h qA h0) (OV I.R5 I.GI I I.s1), I.KQ hs⟩
theorem abp {a : ZX} (h0 : a ≠ 0) (h : ∀ p, nX p → mu p a = 0) : ZX.N a ≤ 1 := by
 refine Classical.byContradiction fun h1 => ?_
 obtain ⟨p, hp, hd⟩ := nY _ a (Nat.le_refl _) (by omega)
 have h2 : 1 ≤ mu p a := (lC hp h0).2 (by rw [show p ^ 1 = p by rw [pow_succ', dZ]; grind]; exact hd)
 have := h p hp
 omega
theorem KS {a b : ZX} (na : Nf a) (nb : Nf b) (h : ∀ p, nX p → mu p a = mu p b) : a = b := by
 have h1 := (kT na.ne nb.ne).2 fun p hp => Nat.le_of_eq (h p hp)
 have h2 := (kT nb.ne na.ne).2 fun p hp => Nat.le_of_eq (h p hp).symm
 have := pN h1 h2
 rwa [na.nfe, nb.nfe] at this
theorem D3 {a : ZX} (h0 : a ≠ 0) : ZX.N (oz (nf (a * a))) ≤ 1 := by
 have h1 := ZX.fF h0 h0
 refine abp (DK (eV h1)).ne fun p hp => ?_
 rw [JZ (eV h1) hp, AF hp h1, mM hp h0 h0]
 omega
def xX : ZX := ZX.of [0, 1]
theorem KT : Nf xX := ⟨ZX.aG.2 (by decide), by decide, by decide⟩
theorem apO {p : ZX} (hp : nX p) : mu p xX ≤ 1 := by
 refine Nat.not_lt.1 fun h => ?_
 have h1 := (lC hp KT.ne).1 (show 2 ≤ mu p xX by omega)
 have h2 := h1.qT KT.ne
 have h3 := aah hp 2
 have h4 : ZX.N xX = 2 := by decide
 omega
theorem apP : xX * xX = ZX.of [0, 0, 1] := ZX.ext fun t => by
 rw [xX, ZX.cU, ZX.JL, ZX.JL]; simp only [V]; grind
theorem apQ : xX * (xX * xX) = ZX.of [0, 0, 0, 1] := ZX.ext fun t => by
 rw [xX, ZX.cU, ZX.cU, ZX.JL, ZX.JL]; simp only [V]; grind
theorem SC : oz (nf (ZX.of [0, 0, 0, 1])) = xX := by
 have h0 := KT.ne
 have h1 : xX * (xX * xX) ≠ 0 := ZX.fF h0 (ZX.fF h0 h0)
 rw [← apQ]
 refine KS (DK (eV h1)) KT fun p hp => ?_
 rw [JZ (eV h1) hp, AF hp h1, mM hp h0 (ZX.fF h0 h0), mM hp h0 h0]
 have := apO hp
 omega
theorem abq : vr (RH (bC xX)) = 1 ∧ vr (RJ (bC xX)) = 0 := ⟨by kernel_rfl, by kernel_rfl⟩
theorem wY : aK env.P 53 [] (.bool true) := by
 have o1 : aK env.P 46 [.sl [[.int .i64 0], [.int .i64 0], [.int .i64 1]]] (Po [0, 0, 1]) := FC [0, 0, 1] (by decide) (by decide)
 have o2 : aK env.P 46 [.sl [[.int .i64 0], [.int .i64 0], [.int .i64 0], [.int .i64 1]]] (Po [0, 0, 0, 1]) := FC [0, 0, 0, 1] (by decide) (by decide)
 have L1 : oO 3 4 (ZX.of [0, 0, 1]) := ⟨AR (by decide) (by decide), by decide, by decide, by decide⟩
 have L2 : oO 3 4 (ZX.of [0, 0, 0, 1]) := ⟨AR (by decide) (by decide), by decide, by decide, by decide⟩
 have n1 : ZX.of [0, 0, 1] ≠ 0 := ZX.aG.2 (by decide)
 have n2 : ZX.of [0, 0, 0, 1] ≠ 0 := ZX.aG.2 (by decide)
 have T1 := (D2 L1 n1 (by decide) (by decide) (by decide) (by decide)).turns
 have T2' := (D2 L2 n2 (by decide) (by decide) (by decide) (by decide)).turns
 have I1 := A8 L1 n1 (by decide) (by decide) (by decide)
 have I2 := A8 L2 n2 (by decide) (by decide) (by decide)
 have e1 : qN (qb 3 4) 4 (oz (nf (ZX.of [0, 0, 1]))) = [] := vG I1 (by rw [← apP]; exact D3 KT.ne)
 rw [e1] at T1
 have hlen : (qN (qb 3 4) 4 (oz (nf (ZX.of [0, 0, 0, 1])))).length = 1 := by
  have h1 := I2.ivs.len
  have h2 := I2.count
  rw [SC] at h1 h2
  obtain ⟨f1, f2⟩ := abq
  rw [f1, f2] at h2
  rw [SC]
  omega
 have A1 := O0 (n := 0) (d := 0) (u := 5) L1.bz (by decide) (by decide) (t := 0) (by decide) (by decide) (by decide) (by decide) (by decide) (by decide)
 rw [show aft (0 : Rat).num (0 : Rat).den (ZX.of [0, 0, 1]) = 1 by kernel_rfl, ← aev] at A1
 replace A1 : aK env.P 61 [Po [0, 0, 1], .ag [.bool false, .sl [], .bool false, .sl []]] (.int .i64 1) := A1
 replace T1 : aK env.P 51 [Po [0, 0, 1]] (aI (ga (oz (nf (ZX.of [0, 0, 1])))) []) := T1
 replace T2' : aK env.P 51 [Po [0, 0, 0, 1]] (aI (ga (oz (nf (ZX.of [0, 0, 0, 1])))) (qN (qb 3 4) 4 (oz (nf (ZX.of [0, 0, 0, 1]))))) := T2'
 generalize qN (qb 3 4) 4 (oz (nf (ZX.of [0, 0, 0, 1]))) = L at *
 generalize oz (nf (ZX.of [0, 0, 0, 1])) = f2 at *
 generalize oz (nf (ZX.of [0, 0, 1])) = f1 at *
 have e2 : ((L.length : Int) == 1) = true := by rw [hlen]; rfl
 refine aB (E := env) (fun _ => 0) [] Tryz.func53 rfl (by kernel_rfl) (by kernel_rfl) (show 0 ≤ 20 by decide) (by simp) ?_
 refine W.sr ?_
 simp (disch := omega) [gw]
 refine W.lx [] ?_; simp
 refine W.sr ?_
 simp (disch := omega) [gw]
 refine aA o1 ?_
 simp (disch := omega) [gw]
 refine aA A1 ?_
 simp (disch := omega) [gw]
 refine aA o1 ?_
 simp (disch := omega) [gw]
 refine aA T1 ?_
 simp (disch := omega) [gw]
 refine aA o2 ?_
 simp (disch := omega) [gw]
 refine aA T2' ?_
 simp (disch := omega) [gw, e2]
 refine W.lx [0] ?_; simp
 refine W.ret ?_
 simp [go]
theorem O4 (l : List Int) : oO 24 8 (made l 7) := by
 obtain ⟨h1, h2⟩ := GF l 7
 have e1 : 3 * 9 ^ 7 = 14348907 := by decide
 have e2 : 2 ^ 24 = 16777216 := by decide
 exact ⟨BZ.DY (by omega) h2, by decide, by decide, by decide⟩
end Go.Proofs.YtbbjgncblhfegaaGreat
