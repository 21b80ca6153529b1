import Derived.Test.YtbbjgncblhfegaaGreatQaq
set_option linter.unusedSimpArgs false
set_option linter.unusedVariables false
namespace Go.Proofs.YtbbjgncblhfegaaGreat
open Go Pm
open ZX hiding N W
theorem qL {p q : Rat} : 0 < dH (p.num * q.den) (q.num * p.den) ↔ q < p := by
 rw [sY, ← iP q p, mP]
theorem UG {p q : Rat} : dH (p.num * q.den) (q.num * p.den) < 0 ↔ p < q := iP p q
theorem pP {p q : Rat} : dH (p.num * q.den) (q.num * p.den) ≤ 0 ↔ p ≤ q := by
 rw [← Int.not_lt, qL, Rat.not_lt]
theorem J5 {x : List Int} {c : List ZX} {an ad bn bd tn td zt z1 z2 b σ r : Int} {pt : Bool} (p1 : aL env.P 113 [.ag (PI x :: aJ zq c :: (c4 an ad ++ c4 bn bd))] (.bool pt)) (k0 : aL env.P 27 [R2 an ad, R2 tn td] (.int .i64 zt))
  (k1 : aL env.P 27 [R2 tn td, R2 an ad] (.int .i64 z1)) (k2 : aL env.P 27 [R2 tn td, R2 bn bd] (.int .i64 z2)) (k3 : aL env.P 59 [aJ zq c, R2 an ad, R2 tn td] (.int .i64 b)) (k4 : aL env.P 107 [PI x, R2 tn td] (.int .i64 σ))
  (hr : r = if pt = true then zt else if z1 ≤ 0 then 1 else if 0 < z2 then -1 else if b = 0 then 1 else if σ = 0 then 0 else -1) : aL env.P 43 [.ag (PI x :: aJ zq c :: (c4 an ad ++ c4 bn bd)), R2 tn td] (.int .i64 r) := by
 simp only [c4, List.cons_append, List.nil_append] at p1 ⊢
 refine aB (E := env) (fun _ => 0) [(0, .ag [PI x, aJ zq c, aJ aF (aR DD an.natAbs), .bool (decide (an < 0)), aJ aF (aR DD ad.natAbs), .bool (decide (ad < 0)), aJ aF (aR DD bn.natAbs), .bool (decide (bn < 0)), aJ aF (aR DD bd.natAbs), .bool (decide (bd < 0))]), (1, R2 tn td)] Tryz.func43 rfl (by kernel_rfl) (by kernel_rfl) (show 2 ≤ 33 by decide) (by simp) ?_
 refine W.sr ?_; simp (disch := omega) [gw]; refine W.lx [2, 3] ?_; simp
 refine W.seq ?_
 refine W.sr ?_
 simp (disch := omega) [gw]
 refine aA p1 ?_
 simp (disch := omega) [gw]
 refine W.lx [2, 3, 6] ?_; simp
 refine W.cond ⟨_, rfl, fun h => ?_, fun h => ?_⟩
 ·subst h
  rw [if_pos rfl] at hr
  subst hr
  refine W.sr ?_
  simp (disch := omega) [gw]
  refine aA k0 ?_
  simp (disch := omega) [gw]
  refine W.lx [4] ?_; simp
  refine W.ret ?_
  simp [go]
 ·subst h
  rw [if_neg (by decide)] at hr
  refine W.skip ?_
  refine W.seq ?_
  refine W.sr ?_
  simp (disch := omega) [gw]
  refine aA k1 ?_
  simp (disch := omega) [gw]
  refine W.lx [2, 3, 15] ?_; simp
  refine W.cond ⟨_, rfl, fun h => ?_, fun h => ?_⟩
  ·simp at h
   rw [if_pos h] at hr
   subst hr
   refine W.sr ?_; simp (disch := omega) [gw]; refine W.lx [4] ?_; simp
   refine W.ret ?_
   simp [go]
  ·simp at h
   rw [if_neg (by omega)] at hr
   refine W.skip ?_
   refine W.seq ?_
   refine W.sr ?_
   simp (disch := omega) [gw]
   refine aA k2 ?_
   simp (disch := omega) [gw]
   refine W.lx [2, 3, 20] ?_; simp
   refine W.cond ⟨_, rfl, fun h => ?_, fun h => ?_⟩
   ·simp at h
    rw [if_pos h] at hr
    subst hr
    refine W.sr ?_; simp (disch := omega) [gw]; refine W.lx [4] ?_; simp
    refine W.ret ?_
    simp [go]
   ·simp at h
    rw [if_neg (by omega)] at hr
    refine W.skip ?_
    refine W.seq ?_
    refine W.sr ?_
    simp (disch := omega) [gw]
    refine aA k3 ?_
    simp (disch := omega) [gw]
    refine W.lx [2, 3, 27] ?_; simp
    refine W.cond ⟨_, rfl, fun h => ?_, fun h => ?_⟩
    ·simp at h
     rw [if_pos h] at hr
     subst hr
     refine W.sr ?_; simp (disch := omega) [gw]; refine W.lx [4] ?_; simp
     refine W.ret ?_
     simp [go]
    ·simp at h
     rw [if_neg h] at hr
     refine W.skip ?_
     refine W.seq ?_
     refine W.sr ?_
     simp (disch := omega) [gw]
     refine aA k4 ?_
     simp (disch := omega) [gw]
     refine W.lx [32] ?_; simp
     refine W.cond ⟨_, rfl, fun h => ?_, fun h => ?_⟩
     ·simp at h
      rw [if_pos h] at hr
      subst hr
      refine W.sr ?_; simp (disch := omega) [gw]; refine W.lx [4] ?_; simp
      refine W.ret ?_
      simp [go]
     ·simp at h
      rw [if_neg h] at hr
      subst hr
      refine W.skip ?_
      refine W.sr ?_; simp (disch := omega) [gw]; refine W.lx [4] ?_; simp
      refine W.ret ?_
      simp [go]
abbrev bR (f : ZX) (p : Rat × Rat) : Rat → Prop := gD (vt (bE f)) p.1 p.2
theorem jB.F1 {s n : Nat} {f : ZX} (I : jB s n f) {u : Nat} {p : Rat × Rat} {t : Rat} (A : pN f (vt (bE f)) p.1 p.2) (q1 : SQ u p.1) (q2 : SQ u p.2) (qt : SQ u t) (hu : u ≤ 1000000000) : aL env.P 43 [QA f (bE f) p, RR t] (.int .i64 (cr (bR f p) t)) := by
 have p1 := pO (f := f) (c := bE f) q1 q2 hu
 have k0 := k8 p.1 t (q1.yy hu) (qt.yy hu)
 have k1 := k8 t p.1 (qt.yy hu) (q1.yy hu)
 have k2 := k8 t p.2 (qt.yy hu) (q2.yy hu)
 have k3 := I.AS q1 qt hu
 have k4 := I.ao8 qt hu
 have hc := A.at5 t
 rw [dP, dP] at k0 k1 k2
 rw [dP, dP] at k3
 rw [dP] at k4 ⊢
 rw [mZ] at p1 ⊢
 refine J5 p1 k0 k1 k2 k3 k4 ?_
 rw [hc]
 simp only [decide_eq_true_eq]
 by_cases h1 : p.1 = p.2
 ·rw [if_pos h1, if_pos h1]
  by_cases h2 : p.1 < t
  ·rw [if_pos h2, lP (mP.1 (UG.2 h2))]
  ·rw [if_neg h2]
   by_cases h3 : t < p.1
   ·rw [if_pos h3, lR (sY.1 (qL.2 h3))]
   ·rw [if_neg h3, mY.2 (by grind)]
 ·rw [if_neg h1, if_neg h1]
  simp only [pP, qL]
  by_cases h2 : t ≤ p.1
  ·rw [if_pos h2, if_pos h2]
  ·rw [if_neg h2, if_neg h2]
   by_cases h3 : p.2 < t
   ·rw [if_pos h3, if_pos h3]
   ·rw [if_neg h3, if_neg h3, if_neg (show ¬ t < p.1 by grind)]
    have e1 : ((vt (bE f) p.1 : Int) - vt (bE f) t = 0) ↔ vt (bE f) p.1 = vt (bE f) t := by omega
    simp only [e1, fW]
def hv (f : ZX) (p : Rat × Rat) : Rat × Rat := if p.1 = p.2 then p else ex f (if vt (bE f) ((p.1 + p.2) / 2) < vt (bE f) p.1 then (p.1, (p.1 + p.2) / 2) else ((p.1 + p.2) / 2, p.2))
theorem J6 {x : List Int} {c : List ZX} {an ad bn bd : Int} (p1 : aL env.P 113 [.ag (PI x :: aJ zq c :: (c4 an ad ++ c4 bn bd))] (.bool true)) : aL env.P 115 [.ag (PI x :: aJ zq c :: (c4 an ad ++ c4 bn bd))] (.ag (PI x :: aJ zq c :: (c4 an ad ++ c4 bn bd))) := by
 simp only [c4, List.cons_append, List.nil_append] at p1 ⊢
 refine aB (E := env) (fun _ => 0) [(0, .ag [PI x, aJ zq c, aJ aF (aR DD an.natAbs), .bool (decide (an < 0)), aJ aF (aR DD ad.natAbs), .bool (decide (ad < 0)), aJ aF (aR DD bn.natAbs), .bool (decide (bn < 0)), aJ aF (aR DD bd.natAbs), .bool (decide (bd < 0))])] Tryz.func115 rfl (by kernel_rfl) (by kernel_rfl) (show 1 ≤ 25 by decide) (by simp) ?_
 refine W.sr ?_; simp (disch := omega) [gw]; refine W.lx [1, 2] ?_; simp
 refine W.seq ?_
 refine W.sr ?_
 simp (disch := omega) [gw]
 refine aA p1 ?_
 simp (disch := omega) [gw]
 refine W.lx [1, 2, 5] ?_; simp
 refine W.cond ⟨_, rfl, fun h => ?_, fun h => ?_⟩
 ·refine W.sr ?_; simp (disch := omega) [gw]; refine W.lx [2] ?_; simp
  refine W.ret ?_
  simp [go]
 ·simp at h
theorem J7 {x : List Int} {c : List ZX} {an ad bn bd mn md yn yd zn zd b : Int} (p1 : aL env.P 113 [.ag (PI x :: aJ zq c :: (c4 an ad ++ c4 bn bd))] (.bool false)) (k1 : aL env.P 60 [R2 an ad, R2 bn bd] (R2 mn md)) (k2 : aL env.P 59 [aJ zq c, R2 an ad, R2 mn md] (.int .i64 b))
  (k3 : aL env.P 112 [.ag (PI x :: aJ zq c :: (if 0 < b then c4 an ad ++ c4 mn md else c4 mn md ++ c4 bn bd))] (.ag (PI x :: aJ zq c :: (c4 yn yd ++ c4 zn zd)))) : aL env.P 115 [.ag (PI x :: aJ zq c :: (c4 an ad ++ c4 bn bd))] (.ag (PI x :: aJ zq c :: (c4 yn yd ++ c4 zn zd))) := by
 simp only [c4, List.cons_append, List.nil_append] at p1 k3 ⊢
 refine aB (E := env) (fun _ => 0) [(0, .ag [PI x, aJ zq c, aJ aF (aR DD an.natAbs), .bool (decide (an < 0)), aJ aF (aR DD ad.natAbs), .bool (decide (ad < 0)), aJ aF (aR DD bn.natAbs), .bool (decide (bn < 0)), aJ aF (aR DD bd.natAbs), .bool (decide (bd < 0))])] Tryz.func115 rfl (by kernel_rfl) (by kernel_rfl) (show 1 ≤ 25 by decide) (by simp) ?_
 refine W.sr ?_; simp (disch := omega) [gw]; refine W.lx [1, 2] ?_; simp
 refine W.seq ?_
 refine W.sr ?_
 simp (disch := omega) [gw]
 refine aA p1 ?_
 simp (disch := omega) [gw]
 refine W.lx [1, 2, 5] ?_; simp
 refine W.cond ⟨_, rfl, fun h => ?_, fun h => ?_⟩
 ·simp at h
 refine W.skip ?_
 refine W.sr ?_
 simp (disch := omega) [gw]
 refine aA k1 ?_
 simp (disch := omega) [gw]
 refine W.lx [1, 2, 3] ?_; simp
 by_cases hb : 0 < b
 ·rw [if_pos hb] at k3
  refine W.fQ (fun σ => ∃ (v1 v2 : Nat) (rows : Pm.Rows) (clk : Nat), σ = ⟨fa [(1, .ptr 1 v1 0 0), (2, .ptr 2 v2 0 0)], rows, clk⟩ ∧ rows 1 = some ⟨v1, 68, 10, [[PI x, aJ zq c, aJ aF (aR DD an.natAbs), .bool (decide (an < 0)), aJ aF (aR DD ad.natAbs), .bool (decide (ad < 0)), aJ aF (aR DD mn.natAbs), .bool (decide (mn < 0)), aJ aF (aR DD md.natAbs), .bool (decide (md < 0))]]⟩ ∧ rows 2 = some ⟨v2, 68, 10, [[PV.nil, PV.nil, PV.nil, PV.bool false, PV.nil, PV.bool false, PV.nil, PV.bool false, PV.nil, PV.bool false]]⟩) ?_ ?_
  ·refine W.sr ?_
   simp (disch := omega) [gw]
   refine aA k2 ?_
   simp (disch := omega) [gw]
   refine W.lx [1, 2, 3, 18] ?_; simp
   refine W.cond ⟨_, rfl, fun h => ?_, fun h => ?_⟩
   ·refine W.b9 (fun K hK => ?_); simp (disch := omega) [gw]
    exact hK _ ⟨_, aC _ [1, 2], _, _, _, _, rfl, by simp, by simp⟩
   ·simp at h; omega
  rintro _ ⟨v1, v2, rows, clk, rfl, BJ, cT⟩
  refine W.sr ?_
  simp (disch := omega) [gw, BJ, cT]
  refine aA k3 ?_
  simp (disch := omega) [gw, BJ, cT]
  refine W.lx [2] ?_; simp
  refine W.ret ?_
  simp [go]
 ·rw [if_neg hb] at k3
  refine W.fQ (fun σ => ∃ (v1 v2 : Nat) (rows : Pm.Rows) (clk : Nat), σ = ⟨fa [(1, .ptr 1 v1 0 0), (2, .ptr 2 v2 0 0)], rows, clk⟩ ∧ rows 1 = some ⟨v1, 68, 10, [[PI x, aJ zq c, aJ aF (aR DD mn.natAbs), .bool (decide (mn < 0)), aJ aF (aR DD md.natAbs), .bool (decide (md < 0)), aJ aF (aR DD bn.natAbs), .bool (decide (bn < 0)), aJ aF (aR DD bd.natAbs), .bool (decide (bd < 0))]]⟩ ∧ rows 2 = some ⟨v2, 68, 10, [[PV.nil, PV.nil, PV.nil, PV.bool false, PV.nil, PV.bool false, PV.nil, PV.bool false, PV.nil, PV.bool false]]⟩) ?_ ?_
  ·refine W.sr ?_
   simp (disch := omega) [gw]
   refine aA k2 ?_
   simp (disch := omega) [gw]
   refine W.lx [1, 2, 3, 18] ?_; simp
   refine W.cond ⟨_, rfl, fun h => ?_, fun h => ?_⟩
   ·simp at h; omega
   ·refine W.b9 (fun K hK => ?_); simp (disch := omega) [gw]
    exact hK _ ⟨_, aC _ [1, 2], _, _, _, _, rfl, by simp, by simp⟩
  rintro _ ⟨v1, v2, rows, clk, rfl, BJ, cT⟩
  refine W.sr ?_
  simp (disch := omega) [gw, BJ, cT]
  refine aA k3 ?_
  simp (disch := omega) [gw, BJ, cT]
  refine W.lx [2] ?_; simp
  refine W.ret ?_
  simp [go]
theorem jB.agm {s n : Nat} {f : ZX} (I : jB s n f) {u : Nat} {p : Rat × Rat} (hle : p.1 ≤ p.2) (q1 : SQ u p.1) (q2 : SQ u p.2) (q3 : SQ u ((p.1 + p.2) / 2)) (q4 : SQ u (p.1 + p.2)) (hu : u ≤ 1000000000) : aL env.P 115 [QA f (bE f) p] (QA f (bE f) (hv f p)) := by
 have p1 := pO (f := f) (c := bE f) q1 q2 hu
 by_cases h : p.1 = p.2
 ·rw [decide_eq_true h] at p1
  rw [show hv f p = p from if_pos h, mZ]
  rw [mZ] at p1
  exact J6 p1
 ·rw [decide_eq_false h] at p1
  have gL : p.1 < p.2 := by grind
  obtain ⟨m1, m2⟩ := vD gL
  have k1 := aas (q1.yy hu) (q2.yy hu) (q4.yy hu)
  have k2 := I.AS q1 q3 hu
  rw [if_neg (Rat.not_lt.2 (Rat.le_of_lt m1))] at k2
  have e : hv f p = ex f (if vt (bE f) ((p.1 + p.2) / 2) < vt (bE f) p.1 then (p.1, (p.1 + p.2) / 2) else ((p.1 + p.2) / 2, p.2)) := if_neg h
  rw [e]
  have hb : (0 < (vt (bE f) p.1 : Int) - vt (bE f) ((p.1 + p.2) / 2)) ↔ vt (bE f) ((p.1 + p.2) / 2) < vt (bE f) p.1 := by omega
  have k3 := I.aaN (u := u) (p := if vt (bE f) ((p.1 + p.2) / 2) < vt (bE f) p.1 then (p.1, (p.1 + p.2) / 2) else ((p.1 + p.2) / 2, p.2)) (by split <;> assumption) (by split <;> assumption) hu
  rw [dP, dP] at k1 k2
  rw [dP] at k1
  rw [mZ] at p1 ⊢
  rw [mZ]
  refine J7 p1 k1 k2 ?_
  by_cases h2 : vt (bE f) ((p.1 + p.2) / 2) < vt (bE f) p.1
  ·rw [if_pos (hb.2 h2)]
   rw [if_pos h2] at k3 ⊢
   exact k3
  ·rw [if_neg (fun h3 => h2 (hb.1 h3))]
   rw [if_neg h2] at k3 ⊢
   exact k3
theorem Q0 {f : ZX} {p : Rat × Rat} (A : pN f (vt (bE f)) p.1 p.2) : pN f (vt (bE f)) (hv f p).1 (hv f p).2 ∧ ∀ t, bR f (hv f p) t ↔ bR f p t := by
 unfold hv
 split
 ·exact ⟨A, fun _ => Iff.rfl⟩
 ·rename_i h
  have gL : p.1 < p.2 := by have := A.le; grind
  obtain ⟨m1, m2⟩ := vD gL
  obtain ⟨h1, h2⟩ := A.half m1 m2
  have key : ∀ q : Rat × Rat, pN f (vt (bE f)) q.1 q.2 → (∀ t, bR f q t ↔ bR f p t) → pN f (vt (bE f)) (ex f q).1 (ex f q).2 ∧ ∀ t, bR f (ex f q) t ↔ bR f p t := fun q hq hc => by
   unfold ex
   split
   ·rename_i h0
    obtain ⟨g1, g2⟩ := hq.exact h0
    exact ⟨g1, fun t => (g2 t).trans (hc t)⟩
   ·exact ⟨hq, hc⟩
  split
  ·rename_i h3
   obtain ⟨g1, g2⟩ := h1 h3
   exact key (p.1, (p.1 + p.2) / 2) g1 g2
  ·rename_i h3
   obtain ⟨g1, g2⟩ := h2 h3
   exact key ((p.1 + p.2) / 2, p.2) g1 g2
theorem Q3 {f : ZX} {p : Rat × Rat} (A : pN f (vt (bE f)) p.1 p.2) : pN f (vt (bE f)) (ex f p).1 (ex f p).2 ∧ ∀ t, bR f (ex f p) t ↔ bR f p t := by
 unfold ex
 split
 ·rename_i h0
  exact A.exact h0
 ·exact ⟨A, fun _ => Iff.rfl⟩
section
variable {x : List Int} {c : List ZX} {fs : List ZX} {an ad bn bd z b σ : Int} (hx : x.length < 1000000)  (f1 : aL env.P 32 [Po x] (PI x)) (f2 : aL env.P 93 [PI x] (aJ zq fs)) (k1 : aL env.P 28 [T2 an ad] (R2 an ad)) (k2 : aL env.P 28 [T2 bn bd] (R2 bn bd))
  (k3 : aL env.P 27 [R2 an ad, R2 bn bd] (.int .i64 z)) (k4 : aL env.P 57 [PI x] (aJ zq c)) (k5 : aL env.P 59 [aJ zq c, R2 an ad, R2 bn bd] (.int .i64 b)) (k6 : aL env.P 107 [PI x, R2 an ad] (.int .i64 σ))
include hx f1
include f2 k1 k2 k3 k4 k5 k6
end
theorem NY {f : ZX} (h0 : f ≠ 0) (hc : A3 f (bO f)) (hN : ZX.N f ≤ 20) : uB f (vt (bE f)) := by
 have hg : gz f (bO f) = 1 := (C5 (.inl h0)).N1 (hc _ (dV _ _).l (dV _ _).r)
 refine ⟨h0, hc, _, ⟨fun B hB => ?_⟩, rfl⟩
 obtain ⟨s, hs⟩ := AN f.l
 obtain ⟨β, hβ⟩ := J2 B
 have hb : BZ (s + 1 + 5) 20 f := ⟨hN, fun c hc => cS (by decide) (by
  have h1 := hs c hc
  have h2 : 2 ^ s < 2 ^ (s + 1 + 5) := Nat.pow_lt_pow_right (by decide) (by omega)
  omega)⟩
 have XK : BZ (s + 1) 20 f := ⟨hN, fun c hc => cS (by decide) (by
  have h1 := hs c hc
  have h2 : 2 ^ s < 2 ^ (s + 1) := Nat.pow_lt_pow_right (by decide) (by omega)
  omega)⟩
 have bd : BZ (s + 1 + 5) 20 (bO f) := XK.bO (by decide)
 have hND := mW f
 have hP1 : ZX.N (oA (bO f)) ≤ ZX.N (bO f) := j4 _
 obtain ⟨δ, h1, h2⟩ := vC (jb ((s + 1 + 5 + 20 + 1) * 2 * 4 ^ 20) 20 β)
 refine ⟨δ, h1, Lcl.mono (QR (s := s + 1) (n := 20) (by decide) h0 hb ?_ (gR bd) hg (by rw [h2]; exact Rat.le_refl)) hβ⟩
 unfold u4
 split
 ·have : (4 : Nat) ^ ZX.N f ≤ 4 ^ 20 := Nat.pow_le_pow_right (by decide) hN
  exact Nat.mul_le_mul (by omega) this
 ·have : (4 : Nat) ^ ZX.N (oA (bO f)) ≤ 4 ^ 20 := Nat.pow_le_pow_right (by decide) (by omega)
  exact Nat.mul_le_mul (Nat.le_refl _) this
structure pQ (f h g w : ZX) : Prop where
 eq : f = w * g
 ng : Nf g
 nw : Nf w
 wg : A3 w g
 wh : A3 w h
 gd : dv g h
 sg : A3 g (bO g)
 sw : A3 w (bO w)
theorem pR {f h : ZX} (nf : Nf f) (hc : A3 f (bO f)) : ∃ w, pQ f h (gz f h) w := by
 have ng : Nf (gz f h) := C5 (.inl nf.ne)
 obtain ⟨w, nw, e⟩ := nf.quo ng (dV f h).l
 have hd : bO f = bO w * gz f h + w * bO (gz f h) := by
  have h1 := congrArg bO e
  rwa [qA] at h1
 have dwf : dv w f := by rw [e]; exact (dv.refl w).mul_right _
 have dgf : dv (gz f h) f := (dV f h).l
 have wg : A3 w (gz f h) := fun d h1 h2 => hc d (h1.trans dwf) (by rw [hd]; exact (h2.mul_left _).add (h1.mul_right _))
 exact ⟨w, e, ng, nw, wg, fun d h1 h2 => wg d h1 ((dV f h).least (h1.trans dwf) h2), (dV f h).r,
  fun d h1 h2 => hc d (h1.trans dgf) (by rw [hd]; exact (h1.mul_left _).add (h2.mul_left _)), fun d h1 h2 => hc d (h1.trans dwf) (by rw [hd]; exact (h2.mul_right _).add (h1.mul_right _))⟩
theorem pQ.N {f h g w : ZX} (S : pQ f h g w) : ZX.N w ≤ ZX.N f ∧ ZX.N g ≤ ZX.N f := by
 have h1 := kB S.nw.ne S.ng.ne
 rw [← S.eq] at h1
 have := ZX.aG.1 S.nw.ne
 have := ZX.aG.1 S.ng.ne
 omega
theorem pQ.xD {f h g w : ZX} (S : pQ f h g w) {v γ φ : Rat → Nat} (hv : uB f v) (hg : uB g γ) (hw : uB w φ) {s t : Rat} (lE : s ≤ t) : v s + γ t + φ t = v t + γ s + φ s := by
 have e : K 1 * f = w * g := by rw [← S.eq]; show (1 : ZX) * f = f; grind
 have := hv.mul hw hg (by decide) e S.wg lE
 omega
theorem aaP {f h : ZX} {v w : Rat → Nat} (hv : uB f v) (hw : uB h w) (hc : A3 f h) {s n l β : Nat} (hA : ∀ c ∈ f.l, c.natAbs ≤ 2 ^ s) (hB : ∀ c ∈ h.l, c.natAbs ≤ 2 ^ s) (hn : ZX.N f + ZX.N h ≤ n) (hl : n ≤ 2 ^ l)
  {a b : Rat} (ha : Ab a (2 ^ β)) (hb : Ab b (2 ^ β)) (fH : a < b) (hd : (b - a) * 2 ^ (sk s n l β + (s + n * (β + 2)) + 1) ≤ 1) : v a = v b ∨ w a = w b := by
 refine Classical.byContradiction fun UC => ?_
 have agn := not_or.1 UC
 have hQ := gK (s + n * (β + 2))
 have hlf : ∀ p : ZX, (∀ c ∈ p.l, c.natAbs ≤ 2 ^ s) → ZX.N p ≤ n → ∀ x y, a ≤ x → x ≤ y → y ≤ b → Ab (e y p - e x p) ((y - x) * 2 ^ (s + n * (β + 2))) := fun p hp hN x y h1 h2 h3 => by
  have g1 := (aay hp hN (dK ha hb h1 (by grind)) (dK ha hb (show a ≤ y by grind) h3)).1
  have g2 := lA x y p.l
  have g3 : e y p - e x p = qv y p.l - qv x p.l := rfl
  rw [g3, g2]
  exact Ab.mul ⟨by grind, Rat.le_refl⟩ g1
 have b1 := hv.small fH agn.1 hQ (hlf f hA (by omega)) Rat.le_refl (Rat.le_of_lt fH)
 have b2 := hw.small fH agn.2 hQ (hlf h hB (by omega)) Rat.le_refl (Rat.le_of_lt fH)
 obtain ⟨ε, h3, h4⟩ := vC (sk s n l β)
 have h5 := sep hv.ne hw.ne hA hB hn hl hc ha (ε := ε) (by rw [h4]; exact Rat.le_refl)
 rw [nT, nT] at hd
 have hK := gK (sk s n l β)
 generalize (2 : Rat) ^ sk s n l β = κ at *
 generalize (2 : Rat) ^ (s + n * (β + 2)) = Q at *
 have e2 : (2 : Rat) ^ 1 = 2 := by rw [Rat.pow_succ, Rat.pow_zero]; grind
 rw [e2] at hd
 have h6 : (b - a) * Q * 2 ≤ ε := by
  have h7 : (b - a) * (κ * Q * 2) = (b - a) * Q * 2 * κ := by grind
  rw [h7, ← h4] at hd
  exact Rat.le_of_mul_le_mul_right hd hK
 have h8 : 0 ≤ (b - a) * Q := Rat.mul_nonneg (by grind) (Rat.le_of_lt hQ)
 obtain ⟨p1, p2⟩ := b1
 obtain ⟨p3, p4⟩ := b2
 rcases h5 with (h5 | h5) | (h5 | h5) <;> grind
theorem F5 {f h : ZX} {v w : Rat → Nat} (hv : uB f v) (hw : uB h w) (hc : A3 f h) (B : Rat) : ∃ δ : Rat, 0 < δ ∧ ∀ a b, Ab a B → Ab b B → a < b → b - a ≤ δ → v a = v b ∨ w a = w b := by
 obtain ⟨s1, h1⟩ := AN f.l
 obtain ⟨s2, h2⟩ := AN h.l
 obtain ⟨β, hβ⟩ := J2 B
 obtain ⟨δ, h3, h4⟩ := vC (sk (s1 + s2) (ZX.N f + ZX.N h) (ZX.N f + ZX.N h) β + (s1 + s2 + (ZX.N f + ZX.N h) * (β + 2)) + 1)
 refine ⟨δ, h3, fun a b ha hb fH hd => aaP hv hw hc (s := s1 + s2) (l := ZX.N f + ZX.N h) (β := β) (fun c hc => Nat.le_trans (h1 c hc) (Nat.pow_le_pow_right (by decide) (by omega))) (fun c hc => Nat.le_trans (h2 c hc) (Nat.pow_le_pow_right (by decide) (by omega))) (Nat.le_refl _) (Nat.le_of_lt Nat.lt_two_pow_self) (ha.mono hβ) (hb.mono hβ) fH ?_⟩
 rw [← h4]
 exact Rat.mul_le_mul_of_nonneg_right hd (Rat.le_of_lt (gK _))
section
variable {f : ZX} {v : Rat → Nat} {lo hi : Rat} (A : pN f v lo hi)
include A
theorem nX {s t : Rat} (h1 : ¬ gD v lo hi s) (h2 : gD v lo hi t) (lE : s < t) : v t < v s := by
 have g1 : s < hi := Rat.not_le.1 fun h => h1 (.inl h)
 rcases A.k with ⟨rfl, h0⟩ | ⟨gL, hk⟩
 ·have h3 : lo ≤ t := by rcases h2 with h | h <;> grind
  have h4 := A.S.root g1 h0
  have h5 := A.S.cD h3
  omega
 ·have h3 : v lo ≤ v s := by
   by_cases h : s ≤ lo
   ·exact A.S.cD h
   ·exact Nat.not_lt.1 fun h4 => h1 (.inr ⟨by grind, h4⟩)
  rcases h2 with h | ⟨_, h⟩
  ·have := A.S.cD h; omega
  ·omega
theorem Q4 {s t : Rat} (h1 : ¬ gD v lo hi s) (h2 : gD v lo hi t) (hv : v s = v t + 1) {x : Rat} (hx : s ≤ x) (hy : x ≤ t) : gD v lo hi x ↔ v x < v s := by
 refine ⟨fun h => ?_, fun h => ?_⟩
 ·refine nX A h1 h ?_
  rcases Rat.le_iff_lt_or_eq.1 hx with h3 | rfl
  ·exact h3
  ·exact absurd h h1
 ·refine Classical.byContradiction fun h3 => ?_
  have h4 : x < t := by
   rcases Rat.le_iff_lt_or_eq.1 hy with h4 | rfl
   ·exact h4
   ·exact absurd h2 h3
  have := nX A h3 h2 h4
  omega
end
theorem NZ {U : Rat → Prop} {δ : Rat} (hδ : 0 < δ) : ∀ (n : Nat) (s t : Rat), s < t → ¬ U s → U t → t - s ≤ δ * 2 ^ n → ∃ a b, s ≤ a ∧ a < b ∧ b ≤ t ∧ b - a ≤ δ ∧ ¬ U a ∧ U b
 | 0, s, t, h, h1, h2, hd => ⟨s, t, Rat.le_refl, h, Rat.le_refl, by rwa [Rat.pow_zero, Rat.mul_one] at hd, h1, h2⟩
 | n + 1, s, t, h, h1, h2, hd => by
  obtain ⟨m1, m2⟩ := vD h
  obtain ⟨d1, d2⟩ := uC hd
  generalize (s + t) / 2 = m at *
  by_cases hm : U m
  ·obtain ⟨a, b, g1, g2, g3, g4⟩ := NZ hδ n s m m1 h1 hm d1
   exact ⟨a, b, g1, g2, by grind, g4⟩
  ·obtain ⟨a, b, g1, g2, g3, g4⟩ := NZ hδ n m t m2 hm h2 d2
   exact ⟨a, b, by grind, g2, g3, g4⟩
theorem Q5 {U : Rat → Prop} {δ : Rat} (hδ : 0 < δ) {s t : Rat} (h : s < t) (h1 : ¬ U s) (h2 : U t) : ∃ a b, s ≤ a ∧ a < b ∧ b ≤ t ∧ b - a ≤ δ ∧ ¬ U a ∧ U b := by
 obtain ⟨n, hn⟩ := J2 ((t - s) / δ)
 refine NZ hδ n s t h h1 h2 ?_
 have h3 : (t - s) / δ * δ = t - s := Rat.div_mul_cancel (Rat.ne_of_gt hδ)
 have h4 := Rat.mul_le_mul_of_nonneg_right hn (Rat.le_of_lt hδ)
 grind
section
variable {f h : ZX} {v w : Rat → Nat} {lo hi KH gT : Rat} (A : pN f v lo hi) (B : pN h w KH gT)
include A B
theorem J8 {g w1 w2 : ZX} {γ φ η : Rat → Nat} (S1 : pQ f h g w1) (S2 : pQ h f g w2) (hg : uB g γ) (h1 : uB w1 φ) (h2 : uB w2 η) {s t : Rat} (lE : s < t) (a1 : ¬ gD v lo hi s) (a2 : gD v lo hi t) (b1 : ¬ gD w KH gT s) (b2 : gD w KH gT t) (hv : v s ≤ v t + 1) (hw : w s ≤ w t + 1) (hγ : γ t < γ s) :
  ∀ x, gD v lo hi x ↔ gD w KH gT x := fun x => by
 have c1 := nX A a1 a2 lE
 have c2 := nX B b1 b2 lE
 have e1 : v s = v t + 1 := by omega
 have e2 : w s = w t + 1 := by omega
 have k1 := S1.xD A.S hg h1 (Rat.le_of_lt lE)
 have k2 := S2.xD B.S hg h2 (Rat.le_of_lt lE)
 by_cases hx : x < s
 ·exact ⟨fun hh => absurd (A.up hh (Rat.le_of_lt hx)) a1, fun hh => absurd (B.up hh (Rat.le_of_lt hx)) b1⟩
 ·by_cases hy : t < x
  ·exact ⟨fun _ => B.up b2 (Rat.le_of_lt hy), fun _ => A.up a2 (Rat.le_of_lt hy)⟩
  ·have BX := Rat.not_lt.1 hx
   have A6 := Rat.not_lt.1 hy
   rw [Q4 A a1 a2 e1 BX A6, Q4 B b1 b2 e2 BX A6]
   have q1 := S1.xD A.S hg h1 BX
   have q2 := S2.xD B.S hg h2 BX
   have r1 := h1.cD BX
   have r2 := h2.cD BX
   have r3 := h1.cD A6
   have r4 := h2.cD A6
   have m1 := hg.cD (Rat.le_of_lt lE)
   have m2 := h1.cD (Rat.le_of_lt lE)
   have m3 := h2.cD (Rat.le_of_lt lE)
   omega
end
theorem aaQ {q : Rat} {V : Rat → Prop} (hV : ∀ s t, V s → s ≤ t → V t) : cu (fun t => q ≤ t) V = -cr V q := by
 by_cases h : V q
 ·by_cases h2 : ∃ s, s < q ∧ V s
  ·rw [(AO hV).2 h2]
   unfold cu
   obtain ⟨s, h3, h4⟩ := h2
   rw [if_neg (fun ⟨t, h5, h6⟩ => h6 (hV q t h h5)), if_pos ⟨s, h4, by grind⟩]
   rfl
  ·rw [xW.2 ⟨h, fun s h3 h4 => h2 ⟨s, h3, h4⟩⟩]
   unfold cu
   rw [if_neg (fun ⟨t, h5, h6⟩ => h6 (hV q t h h5)), if_neg (fun ⟨t, h5, h6⟩ => h2 ⟨t, by grind, h5⟩)]
   rfl
 ·rw [nU.2 h]
  unfold cu
  rw [if_pos ⟨q, Rat.le_refl, h⟩]
theorem UH {q : Rat} {U : Rat → Prop} (hU : ∀ s t, U s → s ≤ t → U t) : cu U (fun t => q ≤ t) = cr U q := by
 by_cases h : U q
 ·by_cases h2 : ∃ s, s < q ∧ U s
  ·rw [(AO hU).2 h2]
   unfold cu
   obtain ⟨s, h3, h4⟩ := h2
   rw [if_pos ⟨s, h4, by grind⟩]
  ·rw [xW.2 ⟨h, fun s h3 h4 => h2 ⟨s, h3, h4⟩⟩]
   unfold cu
   rw [if_neg (fun ⟨t, h5, h6⟩ => h2 ⟨t, by grind, h5⟩), if_neg (fun ⟨t, h5, h6⟩ => h6 (hU q t h h5))]
 ·rw [nU.2 h]
  unfold cu
  rw [if_neg (fun ⟨t, h5, h6⟩ => h (hU t q h5 (by grind))), if_pos ⟨q, Rat.le_refl, h⟩]
theorem pS {U U' V V' : Rat → Prop} (h1 : ∀ t, U t ↔ U' t) (h2 : ∀ t, V t ↔ V' t) : cu U V = cu U' V' := by
 have e1 : U = U' := funext fun t => propext (h1 t)
 have e2 : V = V' := funext fun t => propext (h2 t)
 rw [e1, e2]
theorem Q6 {f : ZX} {p : Rat × Rat} (h : p.1 = p.2) (t : Rat) : bR f p t ↔ p.1 ≤ t := by
 refine ⟨fun h1 => ?_, fun h1 => .inl (h ▸ h1)⟩
 rcases h1 with h1 | ⟨h1, _⟩
 ·rw [h]; exact h1
 ·grind
theorem ao9 {h : ZX} {w : Rat → Nat} {lo hi KH gT : Rat} {v : Rat → Nat} (B : pN h w KH gT) (h1 : hi ≤ KH) (h2 : KH < gT) : cu (gD v lo hi) (gD w KH gT) = -1 := by
 unfold cu
 rw [if_pos ⟨hi, kK, B.nV (by grind)⟩]
theorem apa {f h : ZX} {v w : Rat → Nat} {lo hi KH gT : Rat} (A : pN f v lo hi) (B : pN h w KH gT) (h1 : gT ≤ lo) (h2 : lo < hi) : cu (gD v lo hi) (gD w KH gT) = 1 := by
 have h3 : ¬ gD v lo hi gT := A.nV (by grind)
 have h4 : ¬ ∃ t, gD v lo hi t ∧ ¬ gD w KH gT t := fun ⟨t, h4, h5⟩ => h5 (B.up kK (Rat.not_lt.1 fun h6 => h3 (A.up h4 (Rat.le_of_lt h6))))
 unfold cu
 rw [if_neg h4, if_pos ⟨gT, kK, h3⟩]
structure Two (s n : Nat) (f h : ZX) : Prop where
 nf : Nf f
 nh : Nf h
 cf : A3 f (bO f)
 ch : A3 h (bO h)
 af : ∀ c ∈ f.l, c.natAbs ≤ 2 ^ s
 ah : ∀ c ∈ h.l, c.natAbs ≤ 2 ^ s
 Nf : ZX.N f ≤ n
 Nh : ZX.N h ≤ n
 hn : n ≤ 20
 hs : n + 1 ≤ 2 ^ s
namespace Two
variable {s n : Nat} {f h : ZX} (T : Two s n f h)
include T
theorem Sf : uB f (vt (bE f)) := NY T.nf.ne T.cf (Nat.le_trans T.Nf T.hn)
theorem Sh : uB h (vt (bE h)) := NY T.nh.ne T.ch (Nat.le_trans T.Nh T.hn)
end Two
def kc (s n β : Nat) : Nat := lk s n 5 β + (sk (qb (s + 1) n) (n + n) 6 β + (qb (s + 1) n + (n + n) * (β + 2)) + 1)
theorem apb {s n β : Nat} (hn : n ≤ 20) : kc s n β ≤ 1722 * s + 140 * β + 9000 := by
 have h1 : (n + n) * (s + 5 + 1 + (5 + 1)) ≤ 40 * (s + 12) := Nat.mul_le_mul (by omega) (by omega)
 have h2 : (n + n) * (β + 2) ≤ 40 * (β + 2) := Nat.mul_le_mul (by omega) (by omega)
 have h3 : n * (β + 2) ≤ 20 * (β + 2) := Nat.mul_le_mul hn (by omega)
 have h4 : n * (2 * (s + 1) + 5) ≤ 20 * (2 * (s + 1) + 5) := Nat.mul_le_mul hn (by omega)
 have h5 : qb (s + 1) n ≤ 41 * s + 150 := by unfold qb; omega
 have h6 : (n + n) * (qb (s + 1) n + 1 + 6) ≤ 40 * (41 * s + 157) := Nat.mul_le_mul (by omega) (by omega)
 unfold kc lk sk
 omega
theorem aud {s n : Nat} {f h g w : ZX} (S : pQ f h g w) (hf : f ≠ 0) (hA : ∀ c ∈ f.l, c.natAbs ≤ 2 ^ s) (hN : ZX.N f ≤ n) (hs : n + 1 ≤ 2 ^ s) : ∀ c ∈ w.l, c.natAbs ≤ 2 ^ qb (s + 1) n := fun c hc => by
 have hb : Bd 2 (s + 1) n f.l := ⟨hN, fun c hc => cS (by decide) (by
  have h1 := hA c hc
  have h2 : 2 ^ s < 2 ^ (s + 1) := Nat.pow_lt_pow_right (by decide) (by omega)
  omega)⟩
 have h1 := ZM (a := f) (w := g) (g := w) hf (by rw [S.eq, ZX.C3]) hb (Nat.le_trans hs (Nat.pow_le_pow_right (by decide) (by omega)))
 have h2 := kR (b := 2) (by decide) c
 have h3 := Nat.pow_le_pow_right (show 0 < 2 by decide) (h1.sz c hc)
 unfold qb
 omega
theorem UI {s n β : Nat} {f h : ZX} {p q : Rat × Rat} (T : Two s n f h) (A : pN f (vt (bE f)) p.1 p.2) (B : pN h (vt (bE h)) q.1 q.2) (h1 : p.1 < p.2) (h2 : q.1 < q.2) (h3 : p.1 < q.2) (h4 : q.1 < p.2)
  (a1 : Ab p.1 (2 ^ β)) (a2 : Ab p.2 (2 ^ β)) (b1 : Ab q.1 (2 ^ β)) (b2 : Ab q.2 (2 ^ β)) {W : Rat} (w1 : p.2 - p.1 ≤ W) (w2 : q.2 - q.1 ≤ W) (hW : 2 * W * 2 ^ kc s n β ≤ 1) : ∀ x, bR f p x ↔ bR h q x := by
 obtain ⟨S, hS, hS1, hS2⟩ : ∃ S, (S = p.1 ∨ S = q.1) ∧ S ≤ p.1 ∧ S ≤ q.1 := by
  by_cases hh : p.1 ≤ q.1
  ·exact ⟨p.1, .inl rfl, Rat.le_refl, hh⟩
  ·exact ⟨q.1, .inr rfl, by grind, Rat.le_refl⟩
 obtain ⟨E, hE, hE1, hE2⟩ : ∃ E, (E = p.2 ∨ E = q.2) ∧ p.2 ≤ E ∧ q.2 ≤ E := by
  by_cases hh : p.2 ≤ q.2
  ·exact ⟨q.2, .inr rfl, hh, Rat.le_refl⟩
  ·exact ⟨p.2, .inl rfl, Rat.le_refl, by grind⟩
 have aS : Ab S (2 ^ β) := by rcases hS with rfl | rfl <;> assumption
 have aE : Ab E (2 ^ β) := by rcases hE with rfl | rfl <;> assumption
 have Q7 : S < E := by grind
 have hd : E - S ≤ 2 * W := by rcases hS with rfl | rfl <;> rcases hE with rfl | rfl <;> grind
 have hd0 : 0 ≤ E - S := by grind
 have hdK : (E - S) * 2 ^ kc s n β ≤ 1 := Rat.le_trans (Rat.mul_le_mul_of_nonneg_right hd (Rat.le_of_lt (gK _))) hW
 have lt1 : ∀ k, k ≤ kc s n β → (E - S) * 2 ^ k ≤ 1 := fun k hk => Rat.le_trans (Rat.mul_le_mul_of_nonneg_left (QV hk) hd0) hdK
 obtain ⟨Lf, _⟩ := (show ∃ L, xC L f ∧ vt (bE f) = vt L from T.Sf.g)
 have qN : ∀ x : ZX, uB x (vt (bE x)) → x ≠ 0 → (∀ c ∈ x.l, c.natAbs ≤ 2 ^ s) → ZX.N x ≤ n → vt (bE x) S ≤ vt (bE x) E + 1 := fun x hx h0 hA hN => by
  obtain ⟨L, G, e⟩ := hx.g
  obtain ⟨g1, _⟩ := vB G (s := s) (n := n) (l := 5) (β := β) h0 hA hN (by have := T.hn; omega) hx.QX (δ := E - S) (lt1 _ (by unfold kc; omega))
  have := g1.turns S E aS aE Q7 Rat.le_refl
  rw [e]
  rcases NW x S E with h5 | h5 <;> omega
 have nF := qN f T.Sf T.nf.ne T.af T.Nf
 have nH := qN h T.Sh T.nh.ne T.ah T.Nh
 obtain ⟨w1', S1⟩ := pR (h := h) T.nf T.cf
 obtain ⟨w2', S2⟩ := pR (h := f) T.nh T.ch
 rw [← tR] at S2
 have SW := T.hn
 have n1 := S1.N
 have n2 := S2.N
 have hTN := T.Nf
 have aue := T.Nh
 have hg := NY S1.ng.ne S1.sg (by omega)
 have KI := NY S1.nw.ne S1.sw (by omega)
 have hw2 := NY S2.nw.ne S2.sw (by omega)
 have c1 : ¬ bR f p S := A.nV (by grind)
 have c2 : bR f p E := A.up kK hE1
 have c3 : ¬ bR h q S := B.nV (by grind)
 have c4 : bR h q E := B.up kK hE2
 have o1 := nX A c1 c2 Q7
 have o2 := nX B c3 c4 Q7
 have k1 := S1.xD T.Sf hg KI (Rat.le_of_lt Q7)
 have mD := aud S1 T.nf.ne T.af T.Nf T.hs
 have VS := aaP KI T.Sh S1.wh (s := qb (s + 1) n) (n := n + n) (l := 6) (β := β) mD (fun c hc => Nat.le_trans (T.ah c hc) (Nat.pow_le_pow_right (by decide) (by unfold qb; omega))) (by omega) (by omega) aS aE Q7 (lt1 _ (by unfold kc; omega))
 have m0 := hg.cD (Rat.le_of_lt Q7)
 refine J8 A B S1 S2 hg KI hw2 Q7 c1 c2 c3 c4 nF nH ?_
 rcases VS with VS | VS
 ·omega
 ·omega
theorem UJ {s n : Nat} {f h : ZX} {p q : Rat × Rat} (T : Two s n f h) (A : pN f (vt (bE f)) p.1 p.2) (B : pN h (vt (bE h)) q.1 q.2) (h1 : p.1 < p.2) (h2 : q.1 < q.2) (h3 : ¬ bR f p q.1) (h4 : bR f p q.2) (hz : vt (bE (gz h f)) p.2 < vt (bE (gz h f)) p.1) : ∀ x, bR f p x ↔ bR h q x := by
 rw [tR] at hz
 obtain ⟨w1', S1⟩ := pR (h := h) T.nf T.cf
 obtain ⟨w2', S2⟩ := pR (h := f) T.nh T.ch
 rw [← tR] at S2
 have SW := T.hn
 have n1 := S1.N
 have n2 := S2.N
 have hTN := T.Nf
 have aue := T.Nh
 have hg := NY S1.ng.ne S1.sg (by omega)
 have KI := NY S1.nw.ne S1.sw (by omega)
 have hw2 := NY S2.nw.ne S2.sw (by omega)
 have hv : vt (bE f) p.1 = vt (bE f) p.2 + 1 := by
  rcases A.k with ⟨g, _⟩ | ⟨_, g⟩
  ·grind
  ·exact g
 have hw : vt (bE h) q.1 = vt (bE h) q.2 + 1 := by
  rcases B.k with ⟨g, _⟩ | ⟨_, g⟩
  ·grind
  ·exact g
 have YC : q.1 < p.2 := Rat.not_le.1 fun hh => h3 (.inl hh)
 have hq2 : p.1 < q.2 := Rat.not_le.1 fun hh => (A.nV (show q.2 < p.1 ∨ (q.2 = p.1 ∧ p.1 < p.2) by grind)) h4
 obtain ⟨S, hS, hS1, hS2⟩ : ∃ S, (S = p.1 ∨ S = q.1) ∧ p.1 ≤ S ∧ q.1 ≤ S := by
  by_cases hh : p.1 ≤ q.1
  ·exact ⟨q.1, .inr rfl, hh, Rat.le_refl⟩
  ·exact ⟨p.1, .inl rfl, Rat.le_refl, by grind⟩
 obtain ⟨E, hE, hE1, hE2⟩ : ∃ E, (E = p.2 ∨ E = q.2) ∧ E ≤ p.2 ∧ E ≤ q.2 := by
  by_cases hh : p.2 ≤ q.2
  ·exact ⟨p.2, .inl rfl, Rat.le_refl, hh⟩
  ·exact ⟨q.2, .inr rfl, by grind, Rat.le_refl⟩
 have Q7 : S < E := by rcases hS with rfl | rfl <;> rcases hE with rfl | rfl <;> assumption
 have c1 : ¬ bR f p S := by
  rcases hS with rfl | rfl
  ·exact A.nV (.inr ⟨rfl, h1⟩)
  ·exact h3
 have c2 : bR f p E := by
  rcases hE with rfl | rfl
  ·exact kK
  ·exact h4
 have o1 := nX A c1 c2 Q7
 have v1 := T.Sf.cD hS1
 have v2 := T.Sf.cD hE1
 have k1 := S1.xD T.Sf hg KI hS1
 have k2 := S1.xD T.Sf hg KI hE1
 have k3 := S1.xD T.Sf hg KI (Rat.le_of_lt Q7)
 have k4 := S2.xD T.Sh hg hw2 (Rat.le_of_lt Q7)
 have a1 := hg.cD hS1
 have a2 := hg.cD hE1
 have a3 := KI.cD hS1
 have a4 := KI.cD hE1
 have a5 := hw2.cD (Rat.le_of_lt Q7)
 have a6 := KI.cD (Rat.le_of_lt Q7)
 have u1 := T.Sh.cD hS2
 have u2 := T.Sh.cD hE2
 have c3 : ¬ bR h q S := fun hh => by
  rcases hh with hh | ⟨_, hh⟩
  ·have := T.Sh.cD hh; omega
  ·omega
 have c4 : bR h q E := .inr ⟨by grind, by omega⟩
 exact J8 A B S1 S2 hg KI hw2 Q7 c1 c2 c3 c4 (by omega) (by omega) (by omega)
theorem UK {s n : Nat} {f h : ZX} {p q : Rat × Rat} (T : Two s n f h) (A : pN f (vt (bE f)) p.1 p.2) (B : pN h (vt (bE h)) q.1 q.2) (h1 : p.1 < p.2) (hx : ∀ x, bR f p x ↔ bR h q x) : vt (bE (gz h f)) p.2 < vt (bE (gz h f)) p.1 := by
 rw [tR]
 obtain ⟨w1', S1⟩ := pR (h := h) T.nf T.cf
 have SW := T.hn
 have n1 := S1.N
 have hTN := T.Nf
 have hg := NY S1.ng.ne S1.sg (by omega)
 have KI := NY S1.nw.ne S1.sw (by omega)
 obtain ⟨B0, hB0, ab1, ab2⟩ := r9 p.1 p.2
 obtain ⟨δ, hδ, VS⟩ := F5 KI T.Sh S1.wh B0
 obtain ⟨a, b, g1, g2, g3, g4, g5, g6⟩ := Q5 (U := bR f p) hδ h1 (A.nV (.inr ⟨rfl, h1⟩)) kK
 have o1 := nX A g5 g6 g2
 have o2 := nX B (fun hh => g5 ((hx _).2 hh)) ((hx _).1 g6) g2
 have k1 := S1.xD T.Sf hg KI (Rat.le_of_lt g2)
 have a1 := hg.cD g1
 have a2 := hg.cD g3
 rcases VS a b (dK ab1 ab2 g1 (by grind)) (dK ab1 ab2 (by grind) g3) g2 g4 with hh | hh
 ·omega
 ·omega
end Go.Proofs.YtbbjgncblhfegaaGreat
namespace Go.Proofs.YtbbjgncblhfegaaGreat
open Go Pm
open ZX hiding N W
theorem aaR {a : ZX} (na : Nf a) (hc : A3 a (bO a)) : sq a = a := by
 obtain ⟨g, hg⟩ := iE _ a (bO a) (Nat.le_refl _)
 have h0 := hg.ne (.inl na.ne)
 have h1 := hc g hg.l hg.r
 have h2 := ZX.aG.1 h0
 obtain ⟨k, hk, rfl⟩ := mV (show ZX.N g = 1 by omega)
 obtain ⟨c, s8, u, v, e⟩ := hg.uv
 rw [mU] at e
 exact QN na (Int.mul_ne_zero s8 hk) e.symm
abbrev oI (x : List Int) (c : List ZX) (an ad bn bd : Int) : List PV := [PI x, aJ zq c, aJ aF (aR DD an.natAbs), .bool (decide (an < 0)), aJ aF (aR DD ad.natAbs), .bool (decide (ad < 0)), aJ aF (aR DD bn.natAbs), .bool (decide (bn < 0)), aJ aF (aR DD bd.natAbs), .bool (decide (bd < 0))]
theorem l9 {f : ZX} {c : List ZX} {p : Rat × Rat} : QA f c p = .ag (oI f.l c p.1.num p.1.den p.2.num p.2.den) := rfl
theorem DK {y x g : List Int} {c cg : List ZX} {an ad bn bd σ b : Int} {pt z : Bool} (hl : y.length < 1000000) (hg : g.length < 1000000) (p1 : aL env.P 113 [.ag (oI x c an ad bn bd)] (.bool pt)) (k1 : pt = true → aL env.P 107 [PI y, R2 an ad] (.int .i64 σ)) (k2 : aL env.P 171 [PI y, PI x] (PI g))
  (k3 : 2 ≤ g.length → aL env.P 57 [PI g] (aJ zq cg)) (k4 : 2 ≤ g.length → aL env.P 59 [aJ zq cg, R2 an ad, R2 bn bd] (.int .i64 b)) (hz : z = if y.length = 0 then true else if pt = true then σ == 0 else if g.length < 2 then false else decide (0 < b)) :
  aL env.P 114 [PI y, .ag (oI x c an ad bn bd)] (.bool z) := by
 simp only [oI] at p1 ⊢
 refine aB (E := env) (fun _ => 0) [(0, PI y), (1, .ag [PI x, aJ zq c, aJ aF (aR DD an.natAbs), .bool (decide (an < 0)), aJ aF (aR DD ad.natAbs), .bool (decide (ad < 0)), aJ aF (aR DD bn.natAbs), .bool (decide (bn < 0)), aJ aF (aR DD bd.natAbs), .bool (decide (bd < 0))])] Tryz.func114 rfl (by kernel_rfl) (by kernel_rfl) (show 2 ≤ 31 by decide) (by simp) ?_
 refine W.sr ?_; simp (disch := omega) [gw]; refine W.lx [0, 3] ?_; simp
 refine W.seq ?_
 refine W.sr ?_; simp (disch := omega) [gw]; refine W.lx [0, 3, 8] ?_; simp
 refine W.cond ⟨_, rfl, fun h => ?_, fun h => ?_⟩
 ·have hy : y.length = 0 := by simp at h; simp [h]
  rw [if_pos hy] at hz; subst hz
  refine W.sr ?_; simp (disch := omega) [gw]; refine W.lx [4] ?_; simp
  refine W.ret ?_
  simp [go]
 ·have hy : ¬ y.length = 0 := by simp at h; simp [h]
  rw [if_neg hy] at hz
  refine W.skip ?_
  refine W.seq ?_
  refine W.sr ?_
  simp (disch := omega) [gw]
  refine aA p1 ?_
  simp (disch := omega) [gw]
  refine W.lx [0, 3, 10] ?_; simp
  refine W.cond ⟨_, rfl, fun h => ?_, fun h => ?_⟩
  ·subst h
   rw [if_pos rfl] at hz; subst hz
   have k1' := k1 rfl
   refine W.sr ?_
   simp (disch := omega) [gw]
   refine aA k1' ?_
   simp (disch := omega) [gw]
   refine W.lx [4] ?_; simp
   refine W.ret ?_
   simp [go]
  ·subst h
   rw [if_neg (by decide)] at hz
   refine W.skip ?_
   refine W.sr ?_
   simp (disch := omega) [gw]
   refine aA k2 ?_
   simp (disch := omega) [gw]
   refine W.lx [3, 5] ?_; simp
   refine W.seq ?_
   refine W.sr ?_; simp (disch := omega) [gw]; refine W.lx [3, 5, 22] ?_; simp
   refine W.cond ⟨_, rfl, fun h => ?_, fun h => ?_⟩
   ·have oP : g.length < 2 := by simp at h; omega
    rw [if_pos oP] at hz; subst hz
    refine W.sr ?_; simp (disch := omega) [gw]; refine W.lx [4] ?_; simp
    refine W.ret ?_
    simp [go]
   ·have oP : ¬ g.length < 2 := by simp at h; omega
    rw [if_neg oP] at hz
    have k3' := k3 (by omega)
    have k4' := k4 (by omega)
    refine W.skip ?_
    refine W.sd ?_
    simp (disch := omega) [gw]
    refine aA k3' ?_
    simp (disch := omega) [gw]
    refine aA k4' ?_
    simp (disch := omega) [gw]
    refine W.lx [4] ?_; simp
    refine W.ret ?_
    simp [go, hz]
theorem AU (U : Rat → Prop) (t : Rat) : cr U t = -1 ∨ cr U t = 0 ∨ cr U t = 1 := by
 unfold cr
 split
 ·split <;> simp
 ·simp
theorem UL {x y : List Int} {c d : List ZX} {an ad bn bd en ed gn gd r : Int} (hr : r = -1 ∨ r = 0 ∨ r = 1) (p1 : aL env.P 113 [.ag (oI x c an ad bn bd)] (.bool true)) (k1 : aL env.P 43 [.ag (oI y d en ed gn gd), R2 an ad] (.int .i64 r)) :
  aL env.P 42 [.ag (oI x c an ad bn bd), .ag (oI y d en ed gn gd)] (.int .i64 (-r)) := by
 have hw : IntKind.wrap .i64 (-r) = -r := wrap_i64 (by omega) (by omega)
 simp only [oI] at p1 k1 ⊢
 refine aB (E := env) (fun _ => 0) [(0, .ag [PI x, aJ zq c, aJ aF (aR DD an.natAbs), .bool (decide (an < 0)), aJ aF (aR DD ad.natAbs), .bool (decide (ad < 0)), aJ aF (aR DD bn.natAbs), .bool (decide (bn < 0)), aJ aF (aR DD bd.natAbs), .bool (decide (bd < 0))]), (1, .ag [PI y, aJ zq d, aJ aF (aR DD en.natAbs), .bool (decide (en < 0)), aJ aF (aR DD ed.natAbs), .bool (decide (ed < 0)), aJ aF (aR DD gn.natAbs), .bool (decide (gn < 0)), aJ aF (aR DD gd.natAbs), .bool (decide (gd < 0))])] Tryz.func42 rfl (by kernel_rfl) (by kernel_rfl) (show 2 ≤ 59 by decide) (by simp) ?_
 refine W.sr ?_; simp (disch := omega) [gw]; refine W.lx [2, 3] ?_; simp
 refine W.seq ?_
 refine W.sr ?_
 simp (disch := omega) [gw]
 refine aA p1 ?_
 simp (disch := omega) [gw]
 refine W.lx [2, 3, 6] ?_; simp
 refine W.cond ⟨_, rfl, fun h => ?_, fun h => ?_⟩
 ·refine W.sr ?_
  simp (disch := omega) [gw]
  refine aA k1 ?_
  simp (disch := omega) [gw, hw]
  refine W.lx [4] ?_; simp
  refine W.ret ?_
  simp [go]
 ·simp at h
theorem UM {x y : List Int} {c d : List ZX} {an ad bn bd en ed gn gd r : Int} (p1 : aL env.P 113 [.ag (oI x c an ad bn bd)] (.bool false)) (p2 : aL env.P 113 [.ag (oI y d en ed gn gd)] (.bool true)) (k1 : aL env.P 43 [.ag (oI x c an ad bn bd), R2 en ed] (.int .i64 r)) :
  aL env.P 42 [.ag (oI x c an ad bn bd), .ag (oI y d en ed gn gd)] (.int .i64 r) := by
 simp only [oI] at p1 p2 k1 ⊢
 refine aB (E := env) (fun _ => 0) [(0, .ag [PI x, aJ zq c, aJ aF (aR DD an.natAbs), .bool (decide (an < 0)), aJ aF (aR DD ad.natAbs), .bool (decide (ad < 0)), aJ aF (aR DD bn.natAbs), .bool (decide (bn < 0)), aJ aF (aR DD bd.natAbs), .bool (decide (bd < 0))]), (1, .ag [PI y, aJ zq d, aJ aF (aR DD en.natAbs), .bool (decide (en < 0)), aJ aF (aR DD ed.natAbs), .bool (decide (ed < 0)), aJ aF (aR DD gn.natAbs), .bool (decide (gn < 0)), aJ aF (aR DD gd.natAbs), .bool (decide (gd < 0))])] Tryz.func42 rfl (by kernel_rfl) (by kernel_rfl) (show 2 ≤ 59 by decide) (by simp) ?_
 refine W.sr ?_; simp (disch := omega) [gw]; refine W.lx [2, 3] ?_; simp
 refine W.seq ?_
 refine W.sr ?_
 simp (disch := omega) [gw]
 refine aA p1 ?_
 simp (disch := omega) [gw]
 refine W.lx [2, 3, 6] ?_; simp
 refine W.cond ⟨_, rfl, fun h => ?_, fun h => ?_⟩
 ·simp at h
 refine W.skip ?_
 refine W.seq ?_
 refine W.sr ?_
 simp (disch := omega) [gw]
 refine aA p2 ?_
 simp (disch := omega) [gw]
 refine W.lx [2, 3, 13] ?_; simp
 refine W.cond ⟨_, rfl, fun h => ?_, fun h => ?_⟩
 ·refine W.sr ?_
  simp (disch := omega) [gw]
  refine aA k1 ?_
  simp (disch := omega) [gw]
  refine W.lx [4] ?_; simp
  refine W.ret ?_
  simp [go]
 ·simp at h
section
variable {s n s' n' u : Nat} {f h : ZX} {p q : Rat × Rat} (I : jB s n f) (I' : jB s' n' h) (A : pN f (vt (bE f)) p.1 p.2) (B : pN h (vt (bE h)) q.1 q.2) (p1 : SQ u p.1) (p2 : SQ u p.2) (q1 : SQ u q.1) (q2 : SQ u q.2) (hu : u ≤ 1000000000)
include I I' A B p1 p2 q1 q2 hu
theorem aaS (hp : p.1 = p.2 ∨ q.1 = q.2) : aL env.P 42 [QA f (bE f) p, QA h (bE h) q] (.int .i64 (cu (bR f p) (bR h q))) := by
 have e1 := pO (f := f) (c := bE f) p1 p2 hu
 have e2 := pO (f := h) (c := bE h) q1 q2 hu
 by_cases h1 : p.1 = p.2
 ·rw [decide_eq_true h1] at e1
  have k1 := I'.F1 B q1 q2 p1 hu
  rw [pS (Q6 h1) (fun _ => Iff.rfl), aaQ fun s t => B.up]
  rw [dP] at k1
  exact UL (AU _ _) e1 k1
 ·rw [decide_eq_false h1] at e1
  have h2 : q.1 = q.2 := hp.resolve_left h1
  rw [decide_eq_true h2] at e2
  have k1 := I.F1 A p1 p2 q1 hu
  rw [pS (fun _ => Iff.rfl) (Q6 h2), UH fun s t => A.up]
  rw [dP] at k1
  exact UM e1 e2 k1
end
theorem aaT {u : Nat} {p q : Rat} (hp : SQ u p) (hq : SQ u q) : ∃ D, 1 ≤ D ∧ D ≤ 2 ^ (2 * u) ∧ Gr D (2 ^ u) 0 p ∧ Gr D (2 ^ u) 0 q := by
 have key : ∀ r : Rat, SQ u r → 1 ≤ r.den ∧ r.den ≤ 2 ^ u ∧ Ab r (2 ^ u) ∧ r * ((r.den : Int) : Rat) = (r.num : Rat) := fun r hr => by
  have h1 := r.den_pos
  have h2 := kR (b := 2) (by decide) (r.den : Int)
  have h3 := Nat.pow_le_pow_right (show 0 < 2 by decide) hr.d2
  have h4 := kR (b := 2) (by decide) r.num
  have h5 := Nat.pow_le_pow_right (show 0 < 2 by decide) hr.n2
  have h6 := FR r
  have h7 : Ab (r.num : Rat) (2 ^ u) := J1 (by omega)
  have h8 : (1 : Rat) ≤ ((r.den : Int) : Rat) := eF (by omega)
  refine ⟨h1, by omega, ?_, h6.symm⟩
  rw [h6] at h7
  obtain ⟨g1, g2⟩ := h7
  have hT := gK u
  generalize (2 : Rat) ^ u = T at *
  constructor
  ·refine Rat.not_lt.1 fun hh => ?_
   have := Rat.mul_le_mul_of_nonneg_left h8 (show 0 ≤ -r by grind)
   grind
  ·refine Rat.not_lt.1 fun hh => ?_
   have := Rat.mul_le_mul_of_nonneg_left h8 (show 0 ≤ r by grind)
   grind
 obtain ⟨a1, a2, a3, a4⟩ := key p hp
 obtain ⟨b1, b2, b3, b4⟩ := key q hq
 refine ⟨p.den * q.den, Nat.mul_pos a1 b1, ?_, ⟨⟨p.num * (q.den : Int), ?_⟩, a3⟩, ⟨⟨q.num * (p.den : Int), ?_⟩, b3⟩⟩
 ·rw [Nat.two_mul, Nat.pow_add]; exact Nat.mul_le_mul a2 b2
 ·rw [Nat.pow_zero, Nat.mul_one, Rat.intCast_mul, ← a4, Int.natCast_mul p.den, Rat.intCast_mul]; grind
 ·rw [Nat.pow_zero, Nat.mul_one, Rat.intCast_mul, ← b4, Int.natCast_mul p.den, Rat.intCast_mul]; grind
theorem agp {f : ZX} {p : Rat × Rat} {D j : Nat} {B : Rat} (h1 : Gr D B j p.1) (h2 : Gr D B j p.2) (hle : p.1 ≤ p.2) : Gr D B (j + 1) (hv f p).1 ∧ Gr D B (j + 1) (hv f p).2 ∧ ((hv f p).2 - (hv f p).1) * 2 ≤ p.2 - p.1 := by
 have hm := h1.GI h2
 have e : (p.1 + p.2) / 2 * 2 = p.1 + p.2 := Rat.div_mul_cancel (by decide)
 have key : ∀ q : Rat × Rat, Gr D B (j + 1) q.1 → Gr D B (j + 1) q.2 → q.1 ≤ q.2 → (q.2 - q.1) * 2 ≤ p.2 - p.1 → Gr D B (j + 1) (ex f q).1 ∧ Gr D B (j + 1) (ex f q).2 ∧ ((ex f q).2 - (ex f q).1) * 2 ≤ p.2 - p.1 := fun q a1 a2 a3 a4 => by
  unfold ex
  split
  ·exact ⟨a2, a2, by show (q.2 - q.2) * 2 ≤ _; grind⟩
  ·exact ⟨a1, a2, a4⟩
 unfold hv
 split
 ·rename_i hh
  exact ⟨h1.mono (by omega), h2.mono (by omega), by rw [hh]; grind⟩
 ·split
  ·exact key (p.1, (p.1 + p.2) / 2) (h1.mono (by omega)) hm (by show p.1 ≤ _; grind) (by show ((p.1 + p.2) / 2 - p.1) * 2 ≤ _; grind)
  ·exact key ((p.1 + p.2) / 2, p.2) hm (h2.mono (by omega)) (by show _ ≤ p.2; grind) (by show (p.2 - (p.1 + p.2) / 2) * 2 ≤ _; grind)
theorem aaU {s n s' n' S N u : Nat} {f fb : ZX} {p q : Rat × Rat} (I : jB s n f) (I' : jB s' n' fb) (T : Two S N f fb) (hS : S ≤ 20000) (hG : aL env.P 171 [PI fb.l, PI f.l] (PI (gz fb f).l)) (IG : 2 ≤ ZX.N (gz fb f) → ∃ sg ng, jB sg ng (gz fb f))
  (A : pN f (vt (bE f)) p.1 p.2) (B : pN fb (vt (bE fb)) q.1 q.2) (p1 : SQ u p.1) (p2 : SQ u p.2) (q1 : SQ u q.1) (q2 : SQ u q.2) (hu : u ≤ 2200000) : aL env.P 42 [QA f (bE f) p, QA fb (bE fb) q] (.int .i64 (cu (bR f p) (bR fb q))) := by
 by_cases hpt : p.1 = p.2 ∨ q.1 = q.2
 ·exact aaS I I' A B p1 p2 q1 q2 (by omega) hpt
 obtain ⟨hp, hq⟩ := not_or.1 hpt
 have OB : p.1 < p.2 := by have := A.le; grind
 have hql : q.1 < q.2 := by have := B.le; grind
 have hTn := T.hn
 have hN1 := T.Nf
 have KL := T.Nh
 have e1 := pO (f := f) (c := bE f) p1 p2 (by omega)
 have e2 := pO (f := fb) (c := bE fb) q1 q2 (by omega)
 rw [decide_eq_false hp] at e1
 rw [decide_eq_false hq] at e2
 have ⟨zv, hzv, Z⟩ : ∃ z : Bool, (z = true ↔ vt (bE (gz fb f)) p.2 < vt (bE (gz fb f)) p.1) ∧ aL env.P 114 [PI fb.l, QA f (bE f) p] (.bool z) := by
  have hg0 : gz fb f ≠ 0 := afZ (.inr I.nf.ne)
  have hgN : ZX.N (gz fb f) ≤ ZX.N f := (dV fb f).r.pI I.nf.ne
  have wX : ¬ fb.l.length = 0 := by have := ZX.aG.1 I'.nf.ne; have : ZX.N fb = fb.l.length := rfl; omega
  by_cases h2 : 2 ≤ ZX.N (gz fb f)
  ·obtain ⟨sg, ng, IGG⟩ := IG h2
   have k4 := IGG.AS p1 p2 (by omega)
   rw [if_neg (Rat.not_lt.2 (Rat.le_of_lt OB)), dP, dP] at k4
   refine ⟨_, ?_, DK (by show ZX.N fb < _; omega) (by show ZX.N (gz fb f) < _; omega) e1 (fun hh => by cases hh) hG (fun _ => IGG.aaM) (fun _ => k4) (σ := 0) rfl⟩
   rw [if_neg wX, if_neg (by decide), if_neg (by show ¬ ZX.N (gz fb f) < 2; omega), decide_eq_true_eq]
   omega
  ·refine ⟨_, ?_, DK (by show ZX.N fb < _; omega) (by show ZX.N (gz fb f) < _; omega) e1 (fun hh => by cases hh) hG (fun hh => absurd hh h2) (fun hh => absurd hh h2) (σ := 0) (b := 0) (cg := []) rfl⟩
   rw [if_neg wX, if_neg (by decide), if_pos (by show ZX.N (gz fb f) < 2; omega)]
   refine ⟨fun hh => absurd hh (by decide), fun hh => ?_⟩
   exfalso
   have : gz fb f = 1 := (C5 (.inr I.nf.ne)).N1 (by omega)
   rw [this] at hh
   have hS1 := NY ZX.pH (fun d h1 h2 => by have := h1.pI ZX.pH; rwa [ZX.wJ] at this) (by rw [ZX.wJ]; omega)
   have := hS1.const OB (σ := 1) (.inr (by rw [af9]; decide)) (fun x _ _ => by rw [af9]; decide)
   omega
 have r1 := I.F1 A p1 p2 q1 (by omega)
 have r2 := I.F1 A p1 p2 q2 (by omega)
 obtain ⟨D, hD1, GH, g1, g2⟩ := aaT p1 p2
 obtain ⟨D', aeb, aec, g1', g2'⟩ := aaT q1 q2
 have hK := apb (s := S) (β := u) hTn
 have apc : ∀ r : Rat × Rat, Ab r.1 (2 ^ u) → Ab r.2 (2 ^ u) → r.2 - r.1 ≤ 2 ^ (u + 1) := fun r ⟨a1, a2⟩ ⟨a3, a4⟩ => by rw [Rat.pow_succ]; grind
 obtain ⟨J, hJ⟩ : ∃ J, J = kc S N u + u + 2 := ⟨_, rfl⟩
 have hJ2 : u + 1 + 2 * u + J + 1 ≤ 1000000000 := by omega
 have sqA : ∀ (D : Nat), 1 ≤ D → D ≤ 2 ^ (2 * u) → ∀ (j : Nat) (r : Rat), j ≤ J → Gr D (2 ^ u) j r → SQ (u + 1 + 2 * u + J + 1) r := fun D h1 h2 j r hj hr => ((hr.mono hj).sq h1 h2).mono (by omega)
 have sqS : ∀ (D : Nat), 1 ≤ D → D ≤ 2 ^ (2 * u) → ∀ (j : Nat) (r r' : Rat), j ≤ J → Gr D (2 ^ u) j r → Gr D (2 ^ u) j r' → SQ (u + 1 + 2 * u + J + 1) (r + r') := fun D h1 h2 j r r' hj hr jG => (((hr.add jG).mono hj).sq h1 h2)
 by_cases AV : ∀ x, bR f p x ↔ bR fb q x
 ·-- auf are one
  have hz : zv = true := hzv.2 (UK T A B OB AV)
  subst hz
  have c1 : cr (bR f p) q.1 = 1 := nU.2 fun hh => B.nV (.inr ⟨rfl, hql⟩) ((AV _).1 hh)
  have c2 : cr (bR f p) q.2 ≤ 0 := by
   rcases AU (bR f p) q.2 with hh | hh | hh
   ·omega
   ·omega
   ·exact absurd ((AV _).2 kK) (nU.1 hh)
  rw [c1] at r1
  rw [FW.2 AV, l9, l9]
  rw [l9] at Z e1 e2 r1 r2
  rw [dP] at r1 r2
  generalize cr (bR f p) q.2 = r at *
  simp only [oI] at Z e1 e2 r1 r2 ⊢
  refine aB (E := env) (fun _ => 0) [(0, .ag (oI f.l (bE f) p.1.num p.1.den p.2.num p.2.den)), (1, .ag (oI fb.l (bE fb) q.1.num q.1.den q.2.num q.2.den))] Tryz.func42 rfl (by kernel_rfl) (by kernel_rfl) (show 2 ≤ 59 by decide) (by simp) ?_
  refine W.sr ?_
  simp (disch := omega) [gw]
  refine W.lx [2, 3] ?_; simp
  refine W.seq ?_
  refine W.sr ?_
  simp (disch := omega) [gw]
  refine aA e1 ?_
  simp (disch := omega) [gw]
  refine W.lx [2, 3, 6] ?_; simp
  refine W.cond ⟨_, rfl, fun h => ?_, fun h => ?_⟩
  ·simp at h
  refine W.skip ?_
  refine W.seq ?_
  refine W.sr ?_
  simp (disch := omega) [gw]
  refine aA e2 ?_
  simp (disch := omega) [gw]
  refine W.lx [2, 3, 13] ?_; simp
  refine W.cond ⟨_, rfl, fun h => ?_, fun h => ?_⟩
  ·simp at h
  refine W.skip ?_
  refine W.fQ (fun σ => False) ?_ (fun _ hh => hh.elim)
  refine W.sr ?_
  simp (disch := omega) [gw]
  refine aA Z ?_
  simp (disch := omega) [gw]
  refine W.lx [2, 3, 21] ?_; simp
  refine W.cond ⟨_, rfl, fun h => ?_, fun h => ?_⟩
  ·refine W.sr ?_
   simp (disch := omega) [gw]
   refine aA r1 ?_
   simp (disch := omega) [gw]
   refine aA r2 ?_
   simp (disch := omega) [gw, c2]
   refine W.lx [2, 3, 33] ?_; simp
   refine W.cond ⟨_, rfl, fun h => ?_, fun h => ?_⟩
   ·refine W.sr ?_; simp (disch := omega) [gw]; refine W.lx [4] ?_; simp
    refine W.ret ?_
    simp [go]
   ·simp at h
  ·simp at h
 ·-- auf are two
  have BU : zv = true → ¬ (0 < cr (bR f p) q.1 ∧ cr (bR f p) q.2 ≤ 0) := fun hz ⟨c1, c2⟩ => AV (UJ T A B OB hql (by
   rcases AU (bR f p) q.1 with hh | hh | hh
   ·omega
   ·omega
   ·exact nU.1 hh) (Classical.byContradiction fun hh => by have := nU.2 hh; omega) (hzv.1 hz))
  have hsw : ¬ ∀ x, gD (vt (bE f)) p.1 p.2 x ↔ gD (vt (bE fb)) q.1 q.2 x := AV
  rw [l9, l9]
  rw [l9] at Z e1 e2 r1 r2
  rw [dP] at r1 r2
  generalize hv1 : cr (bR f p) q.1 = x1 at *
  generalize hv2 : cr (bR f p) q.2 = x2 at *
  clear hv1 hv2
  simp only [oI] at Z e1 e2 r1 r2 ⊢
  refine aB (E := env) (fun _ => 0) [(0, .ag (oI f.l (bE f) p.1.num p.1.den p.2.num p.2.den)), (1, .ag (oI fb.l (bE fb) q.1.num q.1.den q.2.num q.2.den))] Tryz.func42 rfl (by kernel_rfl) (by kernel_rfl) (show 2 ≤ 59 by decide) (by simp) ?_
  refine W.sr ?_
  simp (disch := omega) [gw]
  refine W.lx [2, 3] ?_; simp
  refine W.seq ?_
  refine W.sr ?_
  simp (disch := omega) [gw]
  refine aA e1 ?_
  simp (disch := omega) [gw]
  refine W.lx [2, 3, 6] ?_; simp
  refine W.cond ⟨_, rfl, fun h => ?_, fun h => ?_⟩
  ·simp at h
  refine W.skip ?_
  refine W.seq ?_
  refine W.sr ?_
  simp (disch := omega) [gw]
  refine aA e2 ?_
  simp (disch := omega) [gw]
  refine W.lx [2, 3, 13] ?_; simp
  refine W.cond ⟨_, rfl, fun h => ?_, fun h => ?_⟩
  ·simp at h
  refine W.skip ?_
  refine W.fQ (fun σ => ∃ (v2 v3 : Nat) (rows : Pm.Rows) (clk : Nat), σ = ⟨fa [(2, .ptr 2 v2 0 0), (3, .ptr 3 v3 0 0)], rows, clk⟩ ∧ rows 2 = some ⟨v2, 68, 10, [oI f.l (bE f) p.1.num p.1.den p.2.num p.2.den]⟩ ∧ rows 3 = some ⟨v3, 68, 10, [oI fb.l (bE fb) q.1.num q.1.den q.2.num q.2.den]⟩) ?_ ?_
  ·refine W.sr ?_
   simp (disch := omega) [gw]
   refine aA Z ?_
   simp (disch := omega) [gw]
   refine W.lx [2, 3, 21] ?_; simp
   refine W.cond ⟨_, rfl, fun h => ?_, fun h => ?_⟩
   ·have hc := BU h
    by_cases hx1 : 0 < x1
    ·have hx2 : ¬ x2 ≤ 0 := fun hh => hc ⟨hx1, hh⟩
     refine W.sr ?_
     simp (disch := omega) [gw]
     refine aA r1 ?_
     simp (disch := omega) [gw, hx1]
     refine aA r2 ?_
     simp (disch := omega) [gw, hx2]
     refine W.lx [2, 3, 33] ?_; simp
     refine W.cond ⟨_, rfl, fun h => ?_, fun h => ?_⟩
     ·simp at h
     ·refine W.skip ?_
      exact ⟨_, aC _ [2, 3], _, _, _, _, rfl, by simp, by simp⟩
    ·refine W.sr ?_
     simp (disch := omega) [gw]
     refine aA r1 ?_
     simp (disch := omega) [gw, hx1]
     refine W.lx [2, 3, 33] ?_; simp
     refine W.cond ⟨_, rfl, fun h => ?_, fun h => ?_⟩
     ·simp at h
     ·refine W.skip ?_
      exact ⟨_, aC _ [2, 3], _, _, _, _, rfl, by simp, by simp⟩
   ·refine W.skip ?_
    exact ⟨_, aC _ [2, 3], _, _, _, _, rfl, by simp, by simp⟩
  rintro _ ⟨v2, v3, rows, clk, rfl, cT, gU⟩
  clear Z e1 e2 r1 r2
  refine W.block ?_
  refine W.bB (fun k σ => ∃ (a b : Rat × Rat) (j v2 v3 : Nat) (rows : Pm.Rows) (clk : Nat), σ = ⟨fa [(2, .ptr 2 v2 0 0), (3, .ptr 3 v3 0 0)], rows, clk⟩ ∧ rows 2 = some ⟨v2, 68, 10, [oI f.l (bE f) a.1.num a.1.den a.2.num a.2.den]⟩ ∧ rows 3 = some ⟨v3, 68, 10, [oI fb.l (bE fb) b.1.num b.1.den b.2.num b.2.den]⟩ ∧
   pN f (vt (bE f)) a.1 a.2 ∧ pN fb (vt (bE fb)) b.1 b.2 ∧ (∀ x, bR f a x ↔ bR f p x) ∧ (∀ x, bR fb b x ↔ bR fb q x) ∧ Gr D (2 ^ u) j a.1 ∧ Gr D (2 ^ u) j a.2 ∧ Gr D' (2 ^ u) j b.1 ∧ Gr D' (2 ^ u) j b.2 ∧ (a.2 - a.1) * 2 ^ j ≤ 2 ^ (u + 1) ∧ (b.2 - b.1) * 2 ^ j ≤ 2 ^ (u + 1) ∧ j + k = J) J ?_ ?_
  ·exact ⟨_, .refl, p, q, 0, _, _, _, _, rfl, cT, gU, A, B, fun _ => Iff.rfl, fun _ => Iff.rfl, g1, g2, g1', g2', by rw [Rat.pow_zero, Rat.mul_one]; exact apc p g1.b g2.b, by rw [Rat.pow_zero, Rat.mul_one]; exact apc q g1'.b g2'.b, by omega⟩
  rintro k _ ⟨a, b, j, v2, v3, rows, clk, rfl, cT, gU, HA, HB, ha, hb, ga1, ga2, gb1, gb2, wa, wb, hjk⟩
  have s1 := sqA D hD1 GH j a.1 (by omega) ga1
  have s2 := sqA D hD1 GH j a.2 (by omega) ga2
  have s3 := sqA D' aeb aec j b.1 (by omega) gb1
  have s4 := sqA D' aeb aec j b.2 (by omega) gb2
  have e1 := pO (f := f) (c := bE f) s1 s2 hJ2
  have e2 := pO (f := fb) (c := bE fb) s3 s4 hJ2
  rw [l9] at e1 e2
  simp only [oI] at e1 e2 cT gU
  refine W.block ?_
  refine W.seq ?_
  by_cases hpt : a.1 = a.2 ∨ b.1 = b.2
  ·have C := aaS I I' HA HB s1 s2 s3 s4 hJ2 hpt
   rw [pS ha hb, l9, l9] at C
   simp only [oI] at C
   by_cases h1 : a.1 = a.2
   ·rw [decide_eq_true h1] at e1
    refine W.sr ?_
    simp (disch := omega) [gw, cT]
    refine aA e1 ?_
    simp (disch := omega) [gw]
    refine W.lx [2, 3, 39] ?_; simp
    refine W.cond ⟨_, rfl, fun h => ?_, fun h => ?_⟩
    ·refine W.sr ?_
     simp (disch := omega) [gw, cT, gU]
     refine aA C ?_
     simp (disch := omega) [gw]
     refine W.lx [4] ?_; simp
     refine W.ret ?_
     simp [go]
    ·simp at h
   ·rw [decide_eq_false h1] at e1
    rw [decide_eq_true (hpt.resolve_left h1)] at e2
    refine W.sr ?_
    simp (disch := omega) [gw, cT, gU]
    refine aA e1 ?_
    simp (disch := omega) [gw, cT, gU]
    refine aA e2 ?_
    simp (disch := omega) [gw]
    refine W.lx [2, 3, 39] ?_; simp
    refine W.cond ⟨_, rfl, fun h => ?_, fun h => ?_⟩
    ·refine W.sr ?_
     simp (disch := omega) [gw, cT, gU]
     refine aA C ?_
     simp (disch := omega) [gw]
     refine W.lx [4] ?_; simp
     refine W.ret ?_
     simp [go]
    ·simp at h
  ·obtain ⟨h1, h2⟩ := not_or.1 hpt
   rw [decide_eq_false h1] at e1
   rw [decide_eq_false h2] at e2
   have hal : a.1 < a.2 := by have := HA.le; grind
   have KY : b.1 < b.2 := by have := HB.le; grind
   have m1 := k8 a.2 b.1 (s2.yy hJ2) (s3.yy hJ2)
   have m2 := k8 b.2 a.1 (s4.yy hJ2) (s1.yy hJ2)
   rw [dP, dP] at m1 m2
   refine W.sr ?_
   simp (disch := omega) [gw, cT, gU]
   refine aA e1 ?_
   simp (disch := omega) [gw, cT, gU]
   refine aA e2 ?_
   simp (disch := omega) [gw]
   refine W.lx [2, 3, 39] ?_; simp
   refine W.cond ⟨_, rfl, fun h => ?_, fun h => ?_⟩
   ·simp at h
   refine W.skip ?_
   refine W.seq ?_
   refine W.sr ?_
   simp (disch := omega) [gw, cT, gU]
   refine aA m1 ?_
   simp (disch := omega) [gw]
   refine W.lx [2, 3, 48] ?_; simp
   refine W.cond ⟨_, rfl, fun h => ?_, fun h => ?_⟩
   ·simp at h
    rw [pP] at h
    have hcu : cu (bR f p) (bR fb q) = -1 := by rw [← pS ha hb]; exact ao9 HB h KY
    rw [hcu]
    refine W.sr ?_; simp (disch := omega) [gw]; refine W.lx [4] ?_; simp
    refine W.ret ?_
    simp [go]
   ·simp at h
    rw [← Int.not_le, pP] at h
    have fH := Rat.not_le.1 h
    refine W.skip ?_
    refine W.seq ?_
    refine W.sr ?_
    simp (disch := omega) [gw, cT, gU]
    refine aA m2 ?_
    simp (disch := omega) [gw]
    refine W.lx [2, 3, 54] ?_; simp
    refine W.cond ⟨_, rfl, fun h => ?_, fun h => ?_⟩
    ·simp at h
     rw [pP] at h
     have hcu : cu (bR f p) (bR fb q) = 1 := by rw [← pS ha hb]; exact apa HA HB h hal
     rw [hcu]
     refine W.sr ?_; simp (disch := omega) [gw]; refine W.lx [4] ?_; simp
     refine W.ret ?_
     simp [go]
    ·simp at h
     rw [← Int.not_le, pP] at h
     have hba := Rat.not_le.1 h
     have hk : k ≠ 0 := fun vZ => by
      have hjJ : j = J := by omega
      refine AV fun x => ?_
      have hP := gK j
      have hW : ∀ w : Rat, w * 2 ^ j ≤ 2 ^ (u + 1) → w ≤ 2 ^ (u + 1) / 2 ^ j := fun w hw => Rat.not_lt.1 fun gL => by
       have e0 : (2 : Rat) ^ (u + 1) / 2 ^ j * 2 ^ j = 2 ^ (u + 1) := Rat.div_mul_cancel (Rat.ne_of_gt hP)
       have := Rat.mul_lt_mul_of_pos_right gL hP
       grind
      have := UI (W := 2 ^ (u + 1) / 2 ^ j) T HA HB hal KY hba fH ga1.b ga2.b gb1.b gb2.b (hW _ wa) (hW _ wb) (by
       have e0 : (2 : Rat) ^ (u + 1) / 2 ^ j * 2 ^ j = 2 ^ (u + 1) := Rat.div_mul_cancel (Rat.ne_of_gt hP)
       have e3 : (2 : Rat) ^ j = 2 ^ kc S N u * 2 ^ (u + 2) := by rw [← nT, hjJ, hJ]; congr 1
       have e4 : (2 : Rat) ^ (u + 2) = 2 ^ (u + 1) * 2 := by rw [← Rat.pow_succ]
       have hQ := gK (kc S N u)
       have hR := gK (u + 1)
       rw [e4] at e3
       generalize (2 : Rat) ^ (u + 1) / 2 ^ j = W at *
       rw [e3] at e0
       generalize (2 : Rat) ^ kc S N u = κ at *
       generalize (2 : Rat) ^ (u + 1) = R at *
       have e5 : R * (2 * W * κ) = R * 1 := by grind
       have e6 := Rat.le_of_mul_le_mul_left (show R * (2 * W * κ) ≤ R * 1 by rw [e5]; exact Rat.le_refl) hR
       exact e6) x
      exact (ha x).symm.trans (this.trans (hb x))
     obtain ⟨k', rfl⟩ : ∃ k', k = k' + 1 := ⟨k - 1, by omega⟩
     have ma := ga1.GI ga2
     have mb := gb1.GI gb2
     have H1 := I.agm (u := u + 1 + 2 * u + J + 1) (Rat.le_of_lt hal) s1 s2 (sqA D hD1 GH (j + 1) _ (by omega) ma) (sqS D hD1 GH j _ _ (by omega) ga1 ga2) hJ2
     have H2 := I'.agm (u := u + 1 + 2 * u + J + 1) (Rat.le_of_lt KY) s3 s4 (sqA D' aeb aec (j + 1) _ (by omega) mb) (sqS D' aeb aec j _ _ (by omega) gb1 gb2) hJ2
     obtain ⟨ha1, ha2⟩ := Q0 HA
     obtain ⟨GU, xE⟩ := Q0 HB
     obtain ⟨ga3, ga4, wa'⟩ := agp (f := f) ga1 ga2 (Rat.le_of_lt hal)
     obtain ⟨gb3, gb4, wb'⟩ := agp (f := fb) gb1 gb2 (Rat.le_of_lt KY)
     rw [l9, l9] at H1 H2
     simp only [oI] at H1 H2
     have hwd : ∀ w w' : Rat, w * 2 ^ j ≤ 2 ^ (u + 1) → w' * 2 ≤ w → w' * 2 ^ (j + 1) ≤ 2 ^ (u + 1) := fun w w' g1 g2 => by
      have hP := gK j
      have g3 := Rat.mul_le_mul_of_nonneg_right g2 (Rat.le_of_lt hP)
      rw [Rat.pow_succ]
      grind
     have wa2 := hwd _ _ wa wa'
     have wb2 := hwd _ _ wb wb'
     have ha3 : ∀ x, bR f (hv f a) x ↔ bR f p x := fun x => (ha2 x).trans (ha x)
     have hb3 : ∀ x, bR fb (hv fb b) x ↔ bR fb q x := fun x => (xE x).trans (hb x)
     generalize hv f a = a' at *
     generalize hv fb b = b' at *
     refine W.skip ?_
     refine W.HS (fun K hK => ?_)
     simp (disch := omega) [gw, cT, gU]
     refine aA H1 ?_
     simp (disch := omega) [gw, cT, gU]
     refine aA H2 ?_
     (try (refine cP (of_decide_eq_true (by kernel_rfl)) ?_)); (try simp (maxSteps := 4000000) (disch := omega) [gw, cT, gU, l8]); (repeat rw [if_pos (by kernel_rfl)]); (try simp (maxSteps := 4000000) (disch := omega) [gw, cT, gU, l8])
     (try (refine cP (of_decide_eq_true (by kernel_rfl)) ?_)); (try simp (maxSteps := 4000000) (disch := omega) [gw, cT, gU, l8]); (repeat rw [if_pos (by kernel_rfl)]); (try simp (maxSteps := 4000000) (disch := omega) [gw, cT, gU, l8])
     (try (refine cP (of_decide_eq_true (by kernel_rfl)) ?_)); (try simp (maxSteps := 4000000) (disch := omega) [gw, cT, gU, l8]); (repeat rw [if_pos (by kernel_rfl)]); (try simp (maxSteps := 4000000) (disch := omega) [gw, cT, gU, l8])
     refine hK _ ⟨k', _, aC _ [2, 3], by omega, a', b', j + 1, _, _, _, _, rfl, by simp, by simp, ha1, GU, ha3, hb3, ga3, ga4, gb3, gb4, wa2, wb2, by omega⟩
namespace jB
variable {s n : Nat} {f : ZX} (I : jB s n f)
include I
end jB
theorem N4 {s n : Nat} {a : ZX} (h : uL s n a) (h0 : a ≠ 0) (AG : 1 ≤ n) (hC : (qb (qb s n) n + n + 6) * 4 ^ n ≤ 4500000000) (hs : qb s n ≤ 5000000) : jB (qb s n) n (sq a) := by
 have h1 := (QK h0).1
 refine ⟨⟨h.sqb h0, h.hn, ?_, hC⟩, AG, h1, aaR h1 fun d d1 d2 => ?_, hs⟩
 ·exact Nat.le_trans h.hs (Nat.pow_le_pow_right (by decide) (by unfold qb; omega))
 ·have h3 := (dV (sq a) (bO (sq a))).least d1 d2
  rw [age h0] at h3
  have := h3.pI ZX.pH
  rwa [ZX.wJ] at this
theorem dW {α β : Type} [Inhabited α] [Inhabited β] {g : α → β} {l : List α} {i : Nat} (h : i < l.length) : nth (l.map g) i = g (nth l i) := by
 rw [cC (by simpa using h), cC h, List.getElem_map]
end Go.Proofs.YtbbjgncblhfegaaGreat
namespace Go.Proofs.YtbbjgncblhfegaaGreat
open Go Pm
open ZX hiding N W
abbrev G9 (x : List Int) (an ad bn bd : Int) : List PV := [Po x, .bool (decide (an < 0)), us (aR LL an.natAbs), .bool (decide (ad < 0)), us (aR LL ad.natAbs), .bool (decide (bn < 0)), us (aR LL bn.natAbs), .bool (decide (bd < 0)), us (aR LL bd.natAbs)]
theorem auh {f : ZX} {p : Rat × Rat} : GA f p = .ag (G9 f.l p.1.num p.1.den p.2.num p.2.den) := rfl
section
variable {x d : List Int} {c : List ZX} {an ad bn bd z b σ : Int} {QX : Bool} (hx : x.length < 1000000) (f1 : aL env.P 101 [Po x] (Po x)) (f2 : aL env.P 102 [Po x] (.int .i64 ((x.length : Int) - 1))) (f3 : aL env.P 104 [Po x] (Po d)) (f4 : aL env.P 103 [Po x, Po d] (.bool QX))
  (k3 : aL env.P 105 [T2 an ad, T2 bn bd] (.int .i64 z)) (k4 : aL env.P 82 [Po x] (.eN [CH c, .int .i64 0])) (k5 : aL env.P 106 [CH c, T2 an ad, T2 bn bd] (.int .i64 b)) (k6 : aL env.P 62 [Po x, T2 an ad] (.int .i64 σ))
include hx f1 f2
include f3 f4
include k3 k4 k5 k6
theorem N5 (h2 : 2 ≤ x.length) (hc : QX = true) (hz : z = -1 ∨ z = 0 ∨ z = 1) {r : Bool} (hr : r = if z = 1 then false else if z = 0 then σ == 0 else b == 1) : aL env.P 37 [.ag (G9 x an ad bn bd)] (.bool r) := by
 subst hc
 simp only [G9]
 refine aB (E := env) (fun _ => 0) [(0, .ag (G9 x an ad bn bd))] Tryz.func37 rfl (by kernel_rfl) (by kernel_rfl) (show 1 ≤ 45 by decide) (by simp) ?_
 refine W.sr ?_
 simp (disch := omega) [gw]
 refine W.lx [1] ?_; simp
 refine W.sr ?_
 simp (disch := omega) [gw]
 refine aA f1 ?_
 simp (disch := omega) [gw]
 refine W.lx [1, 3] ?_; simp
 refine W.seq ?_
 have e1 : ((x.length : Int) - 1 < 1) = False := eq_false (by omega)
 refine W.sr ?_
 simp (disch := omega) [gw]
 refine aA f2 ?_
 simp (disch := omega) [gw, e1]
 refine aA f3 ?_
 simp (disch := omega) [gw]
 refine aA f4 ?_
 simp (disch := omega) [gw]
 refine W.lx [1, 3, 18] ?_; simp
 refine W.cond ⟨_, rfl, fun h => ?_, fun h => ?_⟩
 ·simp at h
 refine W.skip ?_
 refine W.seq ?_
 refine W.sr ?_
 simp (disch := omega) [gw]
 refine aA k3 ?_
 simp (disch := omega) [gw]
 refine W.lx [1, 3, 23] ?_; simp
 refine W.block ?_
 refine W.sr ?_; simp (disch := omega) [gw]; refine W.lx [1, 3, 23, 24] ?_; simp
 refine W.cond ⟨_, rfl, fun h => ?_, fun h => ?_⟩
 ·simp at h
  rw [if_pos h] at hr; subst hr
  refine W.sr ?_; simp (disch := omega) [gw]; refine W.lx [2] ?_; simp
  refine W.ret ?_
  simp [go]
 ·simp at h
  rw [if_neg h] at hr
  refine W.sr ?_; simp (disch := omega) [gw]; refine W.lx [1, 3, 26] ?_; simp
  refine W.cond ⟨_, rfl, fun h => ?_, fun h => ?_⟩
  ·simp at h
   rw [if_pos h] at hr; subst hr
   refine W.sr ?_
   simp (disch := omega) [gw]
   refine aA k6 ?_
   simp (disch := omega) [gw]
   refine W.lx [2] ?_; simp
   refine W.ret ?_
   simp [go]
  ·simp at h
   rw [if_neg h] at hr; subst hr
   refine W.skip ?_
   refine W.sr ?_
   simp (disch := omega) [gw]
   refine aA k4 ?_
   simp (disch := omega) [gw]
   refine W.lx [1, 4] ?_; simp
   refine W.sr ?_
   simp (disch := omega) [gw]
   refine aA k5 ?_
   simp (disch := omega) [gw]
   refine W.lx [2] ?_; simp
   refine W.ret ?_
   simp [go]
end
theorem aaV (x y : Int) : dH x y = -1 ∨ dH x y = 0 ∨ dH x y = 1 := by
 unfold dH
 split
 ·simp
 ·split <;> simp
theorem jB.aju {s n : Nat} {f : ZX} (I : jB s n f) {u : Nat} {p : Rat × Rat} (A : pN f (vt (bE f)) p.1 p.2) (hN : 2 ≤ ZX.N f) (q1 : SQ u p.1) (q2 : SQ u p.2) (hu : u ≤ 1000000000) : aL env.P 37 [GA f p] (.bool true) := by
 have hs := I.hs
 have hn := I.ch.hn
 have hN' := I.ch.bz.N
 have N1 := iD (x := f.l) (I.ch.bz.pb (by omega) (by omega))
 rw [f.c] at N1
 have F2 := j3 f.l (by show ZX.N f < _; omega)
 have F3 := rZ I.ch.bz (by omega) (by omega)
 have bd : BZ (s + 5) n (bO f) := I.ch.bz.bO (by omega)
 have hC := I.lay.hC
 have F4 := JO (C := 4500000000) (I.ch.bz.mono (show s ≤ s + 5 by omega) (Nat.le_refl _)) bd (by
  have h1 : ZX.N (Go.Proofs.YtbbjgncblhfegaaGreat.nf (bO f)) ≤ ZX.N (Go.Proofs.YtbbjgncblhfegaaGreat.nf f) - 1 := by rw [I.nf.nfe, xA]; exact mW f
  have h2 := ZX.aG.1 I.nf.ne
  unfold u4
  rw [I.nf.nfe] at h1 ⊢
  rw [if_pos (by omega)]
  have h4 : (4 : Nat) ^ ZX.N f ≤ 4 ^ n := Nat.pow_le_pow_right (by decide) hN'
  exact Nat.le_trans (Nat.mul_le_mul (by unfold qb; omega) h4) hC) hn (by decide)
 rw [I.gz1, ZX.wJ] at F4
 have k3 := DG q1.nL q1.dL q2.nL q2.dL (by omega) (fX p.1) (fX p.2) ⟨q1.nL, q1.dL⟩ ⟨q2.nL, q2.dL⟩
 have k4 := FM I.QZ I.ch I.nf
 have k5 := aaA I.hb hn I.hl q1 q2 hu
 have hmul : n * (u + 1) ≤ 20 * (u + 1) := Nat.mul_le_mul_right _ hn
 have k6 := DH (JM I.ch.bz) f.c q1.nL q1.dL q1.hu (by omega) (by omega) (by omega) (fX p.1) ⟨q1.nL, q1.dL⟩
 rw [xU] at k6
 rw [auh]
 refine N5 (by show ZX.N f < _; omega) N1 F2 F3 F4 k3 k4 k5 k6 hN (by decide) (aaV _ _) ?_
 rw [if_neg (fun h => by have := qL.1 (show 0 < dH (p.1.num * p.2.den) (p.2.num * p.1.den) by omega); have := A.le; grind)]
 rcases A.k with ⟨h1, h2⟩ | ⟨h1, h2⟩
 ·rw [if_pos (mY.2 h1), h2, k9]; rfl
 ·rw [if_neg (fun h => by rw [mY] at h; grind), if_neg (by grind)]
  have : (vt (bE f) p.1 : Int) - vt (bE f) p.2 = 1 := by omega
  rw [this]; rfl
theorem ajv : jB 3 3 a8 := ⟨⟨aaj (by decide) (by decide), by decide, by decide, by decide⟩, by decide, ⟨ZX.aG.2 (by decide), by decide, by decide⟩, aoX, by decide⟩
theorem N6 : aL env.P 30 [] (.bool true) := by
 have o1 : aL env.P 46 [.sl [[.int .i64 (-2)], [.int .i64 0], [.int .i64 1]]] (Po [-2, 0, 1]) := adb [-2, 0, 1] (by decide) (by decide)
 have I := ajv
 have R1 := nW I.QZ I
 rw [show a8.l = [-2, 0, 1] from rfl] at R1
 have V := I.ivs
 have hlen : (gS 3 3 a8).length = 2 := by
  have h1 := V.len
  have h2 := I.count
  obtain ⟨f1, f2, _, _⟩ := aap
  rw [f1, f2] at h2
  omega
 have hm := V.mem _ (bK (show 0 < (gS 3 3 a8).length by omega))
 have v1 := I.aju ⟨I.S, .inr ⟨hm.2.2.2.1, hm.2.2.2.2.2⟩⟩ (by decide) hm.1 hm.2.1 (by decide)
 simp only [GA, ga, List.cons_append, List.nil_append] at v1
 generalize gS 3 3 a8 = L at *
 generalize hf : a8 = f at *
 refine aB (E := env) (fun _ => 0) [] Tryz.func30 rfl (by kernel_rfl) (by kernel_rfl) (show 0 ≤ 22 by decide) (by simp) ?_
 refine W.sr ?_
 simp (disch := omega) [gw]
 refine W.lx [] ?_; simp
 refine W.sr ?_
 simp (disch := omega) [gw]
 refine aA o1 ?_
 simp (disch := omega) [gw]
 refine aA R1 ?_
 simp (disch := omega) [gw]
 refine W.lx [1, 2] ?_; simp
 have e0 : 0 < L.length := by omega
 have e2 : ((L.length : Int) == 2) = true := by rw [hlen]; rfl
 refine W.sr ?_
 simp (disch := omega) [gw, e2, e0]
 refine aA v1 ?_
 simp (disch := omega) [gw]
 refine W.lx [0] ?_; simp
 refine W.ret ?_
 simp [go]
def hs (κ : Nat → Nat) : Nat → Nat → Nat
 | 0, _ => 0
 | m + 1, k => if κ m = k then 1 else hs κ m k
def Q8 (κ : Nat → Nat) : Nat → Nat
 | 0 => 0
 | m + 1 => Q8 κ m + (1 - hs κ m (κ m))
def xD (κ : Nat → Nat) (m : Nat) : Nat → Nat
 | 0 => 0
 | r + 1 => xD κ m r + hs κ m r
theorem aaW (κ : Nat → Nat) : ∀ m k, hs κ m k = 0 ∨ hs κ m k = 1
 | 0, _ => .inl rfl
 | m + 1, k => by
  rw [hs]; split
  ·exact .inr rfl
  ·exact aaW κ m k
theorem J9 (κ : Nat → Nat) : ∀ r, xD κ 0 r = 0
 | 0 => rfl
 | r + 1 => by rw [xD, J9 κ r, hs]
theorem KA (κ : Nat → Nat) (m : Nat) : ∀ r, xD κ (m + 1) r = xD κ m r + if κ m < r then 1 - hs κ m (κ m) else 0
 | 0 => rfl
 | r + 1 => by
  rw [xD, KA κ m r, xD, hs]
  by_cases h : κ m = r
  ·have h1 : ¬ κ m < r := by omega
   have h2 : κ m < r + 1 := by omega
   rw [if_pos h, if_neg h1, if_pos h2, h]
   rcases aaW κ m r with h3 | h3 <;> omega
  ·rw [if_neg h]
   by_cases h1 : κ m < r
   ·rw [if_pos h1, if_pos (by omega)]; omega
   ·rw [if_neg h1, if_neg (by omega)]; omega
theorem Q9 {κ : Nat → Nat} {r : Nat} : ∀ m, (∀ i, i < m → κ i < r) → Q8 κ m = xD κ m r
 | 0, _ => (J9 κ r).symm
 | m + 1, h => by rw [Q8, Q9 m fun i hi => h i (by omega), KA, if_pos (h m (by omega))]
theorem aaX {κ : Nat → Nat} {k : Nat} : ∀ {m i : Nat}, i < m → κ i = k → hs κ m k = 1
 | m + 1, i, h, e => by
  rw [hs]; split
  ·rfl
  ·rename_i h1
   have : i ≠ m := fun h2 => h1 (by rw [← h2]; exact e)
   exact aaX (show i < m by omega) e
theorem RA {κ : Nat → Nat} {m : Nat} : ∀ r, (∀ k, k < r → ∃ i, i < m ∧ κ i = k) → xD κ m r = r
 | 0, _ => rfl
 | r + 1, h => by
  obtain ⟨i, h1, h2⟩ := h r (by omega)
  rw [xD, RA r fun k hk => h k (by omega), aaX h1 h2]
theorem aee {κ : Nat → Nat} {m r : Nat} (h : ∀ i, i < m → κ i < r) (ho : ∀ k, k < r → ∃ i, i < m ∧ κ i = k) : Q8 κ m = r := by rw [Q9 m h, RA r ho]
theorem aaY (κ : Nat → Nat) : ∀ m, Q8 κ m ≤ m
 | 0 => Nat.le_refl _
 | m + 1 => by have := aaY κ m; rw [Q8]; omega
theorem F6 {f : ZX} (L : List (Rat × Rat)) (hM : L.length < 1000000) : jL env.P 40 [aJ (ga f) L] 44 9 (emap (ga f) L) := by
 refine kW (E := env) (fun _ => 0) (t := 2) [(0, aJ (ga f) L)] Tryz.func40 rfl (by kernel_rfl) (by kernel_rfl) (show 1 ≤ 5 by decide) rfl (by simp) ?_
 refine W.sr ?_; simp (disch := omega) [gw]; refine W.lx [0] ?_; simp
 refine W.sr ?_
 simp (disch := omega) [gw]
 refine W.lx [2] ?_; simp
 refine W.ret ?_
 exact ⟨4, 0, by simp [emap], by simp, xX⟩
def gg (x : ZX × Rat × Rat) : List PV := Po x.1.l :: (tc x.2.1 ++ tc x.2.2)
@[simp] theorem aui {x : ZX × Rat × Rat} : gg x = Po x.1.l :: (tc x.2.1 ++ tc x.2.2) := rfl
@[simp] theorem alp {l : List (ZX × Rat × Rat)} : bC 9 (emap gg l) = True := cR fun _ => rfl
@[simp] theorem ajw {v e n : Nat} {l : List (ZX × Rat × Rat)} : cO (some ⟨v, e, n, emap gg l⟩) = True := cH fun _ => rfl
abbrev QB (x : ZX × Rat × Rat) : PV := QA x.1 (bE x.1) (ex x.1 x.2)
structure PK (F : ZX) (R : List (Rat × Rat)) (B : List (ZX × Rat × Rat)) (κ : Nat → Nat) : Prop where
 rl : R.length < 1000000
 bl : B.length < 1000000
 fr : ∀ k, k < R.length → aL env.P 41 [GA F (nth R k)] (QB (F, nth R k))
 fb : ∀ i, i < B.length → aL env.P 41 [GA (nth B i).1 (nth B i).2] (QB (nth B i))
 c1 : ∀ k i, k < R.length → i < B.length → ∃ z : Int, aL env.P 42 [QB (F, nth R k), QB (nth B i)] (.int .i64 z) ∧ (z = 0 ↔ κ i = k)
 c2 : ∀ k i, k < i → i < B.length → ∃ z : Int, aL env.P 42 [QB (nth B k), QB (nth B i)] (.int .i64 z) ∧ (z = 0 ↔ κ k = κ i)
 kr : ∀ i, i < B.length → κ i < R.length
 on : ∀ k, k < R.length → ∃ i, i < B.length ∧ κ i = k
set_option maxHeartbeats 4000000 in
theorem BR {F f g : ZX} {R S T : List (Rat × Rat)} {κ : Nat → Nat} (P : PK F R (S.map (fun p => (f, p)) ++ T.map (fun p => (g, p))) κ) {l m al bl cl : List Int} (hA : aL env.P 20 [aJ aF l, .int .i64 3] (PI al)) (hB : aL env.P 20 [aJ aF m, .int .i64 3] (PI bl))
  (tA : aL env.P 22 [PI al] (Po al)) (tB : aL env.P 22 [PI bl] (Po bl)) (hM : aL env.P 39 [Po al, Po bl] (Po cl)) (rC : aL env.P 21 [Po cl] (.eN [aJ (ga F) R, .int .i64 0])) (rA : aL env.P 21 [Po al] (.eN [aJ (ga f) S, .int .i64 0])) (rB : aL env.P 21 [Po bl] (.eN [aJ (ga g) T, .int .i64 0])) :
  aL env.P 6 [aJ aF l, aJ aF m] (.bool true) := by
 have hw := N6
 obtain ⟨GD, KY, fr, fb, c1, c2, hkr, hon⟩ := P
 have hn := aee hkr hon
 have hS : S.length < 1000000 := by simp at KY; omega
 have hT : T.length < 1000000 := by simp at KY; omega
 have hC := F6 (f := f) S hS
 have OA : emap (ga f) S ++ emap (ga g) T = emap gg (S.map (fun p => (f, p)) ++ T.map (fun p => (g, p))) := by unfold emap; rw [List.map_append, List.map_map, List.map_map]; rfl
 have hlen : S.length + T.length = (S.map (fun p => (f, p)) ++ T.map (fun p => (g, p))).length := by simp
 generalize hBB : S.map (fun p => (f, p)) ++ T.map (fun p => (g, p)) = B at *
 refine aB (E := env) (fun _ => 0) [(0, aJ aF l), (1, aJ aF m)] Tryz.func6 rfl (by kernel_rfl) (by kernel_rfl) (show 2 ≤ 113 by decide) (by simp) ?_
 refine W.sr ?_; simp (disch := omega) [gw]; refine W.lx [0, 1] ?_; simp
 refine W.sr ?_
 simp (disch := omega) [gw]
 refine aA hA ?_
 simp (disch := omega) [gw]
 refine aA tA ?_
 simp (disch := omega) [gw]
 refine aA hB ?_
 simp (disch := omega) [gw]
 refine aA tB ?_
 simp (disch := omega) [gw]
 refine W.lx [5, 6] ?_; simp
 refine W.sr ?_
 simp (disch := omega) [gw]
 refine aA hM ?_
 simp (disch := omega) [gw]
 refine aA rC ?_
 simp (disch := omega) [gw]
 refine W.lx [5, 6, 7, 8] ?_; simp
 refine W.sr ?_
 simp (disch := omega) [gw]
 refine aA rA ?_
 simp (disch := omega) [gw]
 refine W.lx [6, 7, 8, 9, 10] ?_; simp
 refine W.sr ?_
 simp (disch := omega) [gw]
 refine aA rB ?_
 simp (disch := omega) [gw]
 refine W.lx [7, 8, 9, 10, 11, 12] ?_; simp
 refine W.seq ?_
 refine W.sr ?_
 simp (disch := omega) [gw]
 refine W.lx [7, 9, 11, 53] ?_; simp
 refine W.cond ⟨_, rfl, fun h => ?_, fun h => ?_⟩
 ·simp at h
 refine W.skip ?_
 refine W.sr ?_
 simp (disch := omega) [gw]
 refine X9 hC 55 (by simp) (by simp) (by simp) ?_
 simp (disch := omega) [gw]
 refine W.lx [7, 13] ?_; simp
 rw [hlen, OA]
 refine W.EI 55 (by simp) (fun K hK => ?_)
 simp
 refine hK _ ?_; clear hK K
 generalize y3 _ 55 = awJ
 clear OA hlen rA rB rC hC hA hB tA tB hM hS hT hBB
 refine W.sr ?_; simp (disch := omega) [gw]; refine W.lx [7, 13, 14] ?_; simp
 refine W.seq ?_
 refine W.sr ?_; simp (disch := omega) [gw]; refine W.lx [7, 13, 14, 59, 60] ?_; simp
 refine W.block ?_
 refine W.bB (fun k σ => ∃ (i : Nat) (rows : Pm.Rows) (clk : Nat), σ = ⟨fa [(7, aJ (ga F) R), (13, aJ gg B), (14, .int .i64 (Q8 κ i)), (59, .int .i64 B.length), (60, .int .i64 i)], rows, clk⟩ ∧ i + k = B.length) B.length ?_ ?_
 ·exact ⟨_, .refl, 0, _, _, rfl, by omega⟩
 rintro k _ ⟨i, rows, clk, rfl, UY⟩
 refine W.sr ?_; simp (disch := omega) [gw]; refine W.lx [7, 13, 14, 59, 60, 61] ?_; simp
 refine W.seq ?_
 refine W.cond ⟨_, rfl, fun h => ?_, fun h => ?_⟩
 ·have hi : i < B.length := by simp at h; omega
  have fbi := fb i hi
  have VR := hkr i hi
  have c1i := fun j hj => c1 j i hj hi
  have c2i := fun j hj => c2 j i hj hi
  have hnl := aaY κ i
  refine W.skip ?_
  refine W.eY (fun σ => ∃ (rows : Pm.Rows) (clk : Nat), σ = ⟨fa [(7, aJ (ga F) R), (13, aJ gg B), (14, .int .i64 (Q8 κ (i + 1) : Nat)), (59, .int .i64 B.length), (60, .int .i64 i)], rows, clk⟩) ?_ ?_
  ·refine W.sr ?_; simp (disch := omega) [gw]; refine W.lx [7, 13, 14, 15, 59, 60] ?_; simp
   obtain ⟨q, hq⟩ : ∃ q, q = ex (nth B i).1 (nth B i).2 := ⟨_, rfl⟩
   have hQB : QB (nth B i) = .ag (oI (nth B i).1.l (bE (nth B i).1) q.1.num q.1.den q.2.num q.2.den) := by rw [hq]; exact l9
   rw [hQB] at fbi
   simp only [hQB] at c1i c2i
   simp only [oI] at fbi c1i c2i
   clear hQB hq
   refine W.fR (fun σ => ∃ (v16 : Nat) (rows : Pm.Rows) (clk : Nat), σ = ⟨fa [(7, aJ (ga F) R), (13, aJ gg B), (14, .int .i64 (Q8 κ i)), (15, .int .i64 i), (16, .ptr 16 v16 0 0), (59, .int .i64 B.length), (60, .int .i64 i)], rows, clk⟩ ∧ rows 16 = some ⟨v16, 68, 10, [oI (nth B i).1.l (bE (nth B i).1) q.1.num q.1.den q.2.num q.2.den]⟩) (fun K hK => ?_) ?_
   ·simp (disch := omega) [gw, hi]
    refine aA fbi ?_
    simp (disch := omega) [gw]
    refine hK _ _ (aC _ [7, 13, 14, 15, 16, 59, 60]) ⟨clk, _, _, by simp; exact ⟨rfl, rfl⟩, by simp⟩
   rintro _ ⟨v16, rows, clk, rfl, FN⟩
   simp only [oI] at FN
   refine W.sr ?_; simp (disch := omega) [gw]; refine W.lx [7, 13, 14, 15, 16, 17, 18, 59, 60] ?_; simp
   refine W.seq ?_
   refine W.sr ?_; simp (disch := omega) [gw]; refine W.lx [7, 13, 14, 15, 16, 17, 18, 59, 60, 69, 70] ?_; simp
   refine W.block ?_
   refine W.bB (fun k' σ => ∃ j c : Nat, σ = ⟨fa [(7, aJ (ga F) R), (13, aJ gg B), (14, .int .i64 (Q8 κ i)), (15, .int .i64 i), (16, .ptr 16 v16 0 0), (17, .int .i64 c), (18, .bool true), (59, .int .i64 B.length), (60, .int .i64 i), (69, .int .i64 R.length), (70, .int .i64 j)], rows, clk⟩ ∧ (c = 0 ∧ j ≤ κ i ∨ c = 1 ∧ κ i < j) ∧ j + k' = R.length) R.length ?_ ?_
   ·exact ⟨_, .refl, 0, 0, rfl, .inl ⟨rfl, Nat.zero_le _⟩, by omega⟩
   rintro k' _ ⟨j, c, rfl, hc, hjk⟩
   refine W.sr ?_; simp (disch := omega) [gw]; refine W.lx [7, 13, 14, 15, 16, 17, 18, 59, 60, 69, 70, 71] ?_; simp
   refine W.seq ?_
   refine W.cond ⟨_, rfl, fun h => ?_, fun h => ?_⟩
   ·have hj : j < R.length := by simp at h; omega
    obtain ⟨z, hz, hzk⟩ := c1i j hj
    have frj := fr j hj
    obtain ⟨q', OD⟩ : ∃ q', q' = ex F (nth R j) := ⟨_, rfl⟩
    have hQB : QB (F, nth R j) = .ag (oI F.l (bE F) q'.1.num q'.1.den q'.2.num q'.2.den) := by rw [OD]; exact l9
    rw [hQB] at frj hz
    simp only [oI] at frj hz
    clear hQB OD
    refine W.skip ?_
    refine W.eY (fun σ => ∃ c' : Nat, σ = ⟨fa [(7, aJ (ga F) R), (13, aJ gg B), (14, .int .i64 (Q8 κ i)), (15, .int .i64 i), (16, .ptr 16 v16 0 0), (17, .int .i64 c'), (18, .bool true), (59, .int .i64 B.length), (60, .int .i64 i), (69, .int .i64 R.length), (70, .int .i64 j)], rows, clk⟩ ∧ (c' = 0 ∧ j + 1 ≤ κ i ∨ c' = 1 ∧ κ i < j + 1)) ?_ ?_
    ·refine W.sr ?_; simp (disch := omega) [gw]; refine W.lx [7, 13, 14, 15, 16, 17, 18, 19, 59, 60, 69, 70] ?_; simp
     refine W.sd ?_
     simp (disch := omega) [gw, hj]
     refine aA frj ?_
     simp (disch := omega) [gw, FN]
     refine aA hz ?_
     simp (disch := omega) [gw]
     refine W.lx [7, 13, 14, 15, 16, 17, 18, 59, 60, 69, 70, 80] ?_; simp
     refine W.cond ⟨_, rfl, fun h => ?_, fun h => ?_⟩
     ·have h0 : κ i = j := hzk.1 (by simpa using h)
      have s8 : c = 0 := by omega
      subst s8
      refine W.b9 (fun K hK => ?_); simp (disch := omega) [gw]
      exact hK _ ⟨_, aC _ [7, 13, 14, 15, 16, 17, 18, 59, 60, 69, 70], 1, rfl, .inr ⟨rfl, by omega⟩⟩
     ·have h0 : κ i ≠ j := fun h0 => by have := hzk.2 h0; simp at h; exact h this
      refine W.skip ?_
      exact ⟨_, aC _ [7, 13, 14, 15, 16, 17, 18, 59, 60, 69, 70], c, rfl, by omega⟩
    rintro _ ⟨c', rfl, U7⟩
    refine W.b9 (fun K hK => ?_); simp (disch := omega) [gw]
    exact hK _ ⟨k' - 1, _, aC _ [7, 13, 14, 15, 16, 17, 18, 59, 60, 69, 70], by omega, j + 1, c', rfl, U7, by omega⟩
   ·have hj : ¬ j < R.length := by simpa using h
    have sI : c = 1 := by omega
    subst sI
    refine W.exit ?_; simp only [pX, if_true, if_false, reduceIte, Nat.reduceEqDiff]
    refine W.seq ?_
    refine W.sr ?_; simp (disch := omega) [gw]; refine W.lx [7, 13, 14, 15, 16, 17, 18, 20, 59, 60] ?_; simp
    refine W.block ?_
    refine W.bB (fun k' σ => ∃ (j : Nat) (b : Bool), σ = ⟨fa [(7, aJ (ga F) R), (13, aJ gg B), (14, .int .i64 (Q8 κ i)), (15, .int .i64 i), (16, .ptr 16 v16 0 0), (17, .int .i64 1), (18, .bool b), (20, .int .i64 j), (59, .int .i64 B.length), (60, .int .i64 i)], rows, clk⟩ ∧ (b = true ↔ hs κ j (κ i) = 0) ∧ j + k' = i) i ?_ ?_
    ·exact ⟨_, .refl, 0, true, rfl, by simp [hs], by omega⟩
    rintro k' _ ⟨j, b, rfl, hb, hjk⟩
    refine W.seq ?_
    refine W.sr ?_; simp (disch := omega) [gw]; refine W.lx [7, 13, 14, 15, 16, 17, 18, 20, 59, 60, 86] ?_; simp
    refine W.cond ⟨_, rfl, fun h => ?_, fun h => ?_⟩
    ·have hj : j < i := by simp at h; omega
     have hjB : j < B.length := by omega
     obtain ⟨z, hz, hzk⟩ := c2i j hj
     have frj := fb j hjB
     obtain ⟨q', OD⟩ : ∃ q', q' = ex (nth B j).1 (nth B j).2 := ⟨_, rfl⟩
     have hQB : QB (nth B j) = .ag (oI (nth B j).1.l (bE (nth B j).1) q'.1.num q'.1.den q'.2.num q'.2.den) := by rw [OD]; exact l9
     rw [hQB] at frj hz
     simp only [oI] at frj hz
     clear hQB OD
     refine W.skip ?_
     refine W.seq ?_
     refine W.block ?_
     cases b with
     | true =>
      have XK := hb.1 rfl
      refine W.HS (fun K hK => ?_)
      simp (disch := omega) [gw, hjB]
      refine aA frj ?_
      simp (disch := omega) [gw, FN]
      refine aA hz ?_
      simp (disch := omega) [gw]
      refine W.lw [7, 13, 14, 15, 16, 17, 18, 20, 59, 60] hK ?_; clear hK K; simp
      refine W.b9 (fun K hK => ?_); simp (disch := omega) [gw]
      refine hK _ ⟨k' - 1, _, aC _ [7, 13, 14, 15, 16, 17, 18, 20, 59, 60], by omega, j + 1, _, rfl, ?_, by omega⟩
      rw [hs]
      by_cases oE : z = 0
      ·rw [if_pos (hzk.1 oE)]; simp [oE]
      ·rw [if_neg (fun h1 => oE (hzk.2 h1))]; simp [oE, XK]
     | false =>
      have XK : hs κ j (κ i) ≠ 0 := fun h1 => by have := hb.2 h1; cases this
      refine W.HS (fun K hK => ?_)
      simp (disch := omega) [gw]
      refine W.lw [7, 13, 14, 15, 16, 17, 18, 20, 59, 60] hK ?_; clear hK K; simp
      refine W.b9 (fun K hK => ?_); simp (disch := omega) [gw]
      refine hK _ ⟨k' - 1, _, aC _ [7, 13, 14, 15, 16, 17, 18, 20, 59, 60], by omega, j + 1, _, rfl, ?_, by omega⟩
      rw [hs]
      split
      ·simp
      ·simp [XK]
    ·have hj : j = i := by simp at h; omega
     subst hj
     refine W.exit ?_; simp only [pX, if_true, if_false, reduceIte, Nat.reduceEqDiff]
     refine W.seq ?_
     refine W.sr ?_; simp (disch := omega) [gw]; refine W.lx [7, 13, 14, 18, 59, 60, 101] ?_; simp
     refine W.cond ⟨_, rfl, fun h => ?_, fun h => ?_⟩
     ·simp at h
     refine W.skip ?_
     refine W.sr ?_; simp (disch := omega) [gw]; refine W.lx [7, 13, 14, 59, 60, 102] ?_; simp
     rw [show Q8 κ (j + 1) = Q8 κ j + (1 - hs κ j (κ j)) from rfl]
     have h01 := aaW κ j (κ j)
     refine W.cond ⟨_, rfl, fun h => ?_, fun h => ?_⟩
     ·have h1 : hs κ j (κ j) = 0 := hb.1 (by simpa using h)
      rw [h1]
      refine W.b9 (fun K hK => ?_); simp (disch := omega) [gw]
      exact hK _ ⟨_, aC _ [7, 13, 14, 59, 60], rows, clk, rfl⟩
     ·have h1 : hs κ j (κ j) = 1 := by
       have : ¬ b = true := by simpa using h
       have := mt hb.2 this
       omega
      rw [h1]
      refine W.skip ?_
      exact ⟨_, aC _ [7, 13, 14, 59, 60], rows, clk, rfl⟩
  rintro _ ⟨rows, clk, rfl⟩
  refine W.b9 (fun K hK => ?_); simp (disch := omega) [gw]
  exact hK _ ⟨k - 1, _, aC _ [7, 13, 14, 59, 60], by omega, i + 1, _, _, rfl, by omega⟩
 ·have hi : i = B.length := by simp at h; omega
  subst hi
  rw [hn]
  refine W.exit ?_; simp only [pX, if_true, if_false, reduceIte, Nat.reduceEqDiff]
  refine W.fR (fun σ => ∃ (rows : Pm.Rows) (clk : Nat), σ = ⟨fa [(4, .bool true)], rows, clk⟩) (fun K hK => ?_) ?_
  ·simp (disch := omega) [gw]
   refine aA hw ?_
   simp (disch := omega) [gw]
   exact hK _ _ (aC _ [4]) ⟨_, _, rfl⟩
  rintro _ ⟨rows, clk, rfl⟩
  refine W.ret ?_
  simp [go]
theorem UN {f : ZX} {p : Rat × Rat} (S : uB f (vt (bE f))) (h : vt (bE f) p.1 = vt (bE f) p.2 + 1) (t : Rat) : bR f p t ↔ vt (bE f) t ≤ vt (bE f) p.2 := by
 refine ⟨fun hh => ?_, fun hh => ?_⟩
 ·rcases hh with hh | ⟨_, hh⟩
  ·exact S.cD hh
  ·omega
 ·refine .inr ⟨?_, by omega⟩
  refine Rat.not_le.1 fun h2 => ?_
  have := S.cD h2
  omega
theorem vF {v : Rat → Nat} {D : Nat} {B δ : Rat} (C : Cut v B δ) : ∀ (k j : Nat) (lo hi : Rat), Gr D B j lo → Gr D B j hi → lo < hi → hi - lo ≤ δ * 2 ^ k → ∀ i, i < (GL v k lo hi).length → v (nth (GL v k lo hi) i).2 + i + 1 = v lo
 | 0, j, lo, hi, g1, g2, h, hd, i, gT => by
  rw [GL] at gT ⊢
  split at gT
  ·cases gT
  ·rename_i he
   rw [if_neg he]
   have := C.leaf g1.b g2.b h (by rw [Rat.pow_zero, Rat.mul_one] at hd; exact hd) he
   simp at gT; subst gT
   show v hi + 0 + 1 = v lo
   omega
 | k + 1, j, lo, hi, g1, g2, h, hd, i, gT => by
  rw [GL] at gT ⊢
  by_cases he : v lo = v hi
  ·rw [if_pos he] at gT; cases gT
  ·rw [if_neg he] at gT ⊢
   by_cases TX : v lo = v hi + 1
   ·rw [if_pos TX] at gT ⊢
    simp at gT; subst gT
    show v hi + 0 + 1 = v lo
    omega
   ·rw [if_neg TX] at gT ⊢
    obtain ⟨m1, m2⟩ := vD h
    obtain ⟨d1, d2⟩ := uC hd
    have gm := g1.GI g2
    have a := vF C k (j + 1) lo ((lo + hi) / 2) (g1.mono (by omega)) gm m1 d1
    have b := vF C k (j + 1) ((lo + hi) / 2) hi gm (g2.mono (by omega)) m2 d2
    obtain ⟨_, l1, _⟩ := qK C k (j + 1) lo ((lo + hi) / 2) (g1.mono (by omega)) gm m1 d1
    have n1 := C.cD lo ((lo + hi) / 2) (Rat.le_of_lt m1)
    generalize (lo + hi) / 2 = m at *
    rw [List.length_append] at gT
    rcases Nat.lt_or_ge i (GL v k lo m).length with h3 | h3
    ·have h4 := a i h3
     rw [cC (by rw [List.length_append]; omega), List.getElem_append_left h3, ← cC h3]
     exact h4
    ·have h4 := b (i - (GL v k lo m).length) (by omega)
     rw [cC (by rw [List.length_append]; omega), List.getElem_append_right h3, ← cC]
     omega
namespace jB
variable {s n : Nat} {f : ZX} (I : jB s n f)
include I
theorem qM (i : Nat) (hi : i < (gS s n f).length) : vt (bE f) (nth (gS s n f) i).2 + i + 1 = vt (bE f) (-i7 f.l) := by
 obtain ⟨δ, h1, h2, C⟩ := I.cut (s + 1)
 exact vF C (lvl s n) 0 _ _ I.F0 I.AR I.aaL (I.width h2) i hi
theorem aph (x : Rat) : vt (bE f) x ≤ vt (bE f) (-i7 f.l) := by
 by_cases h : x < -i7 f.l
 ·exact Nat.le_of_eq (I.S.bg (a := x) (b := -i7 f.l) ⟨1, by decide, fun y _ h2 => (uD f.c I.f0 (.inl h2)).1⟩ h)
 ·exact I.S.cD (Rat.not_lt.1 h)
theorem api (x : Rat) : vt (bE f) (i7 f.l) ≤ vt (bE f) x := by
 by_cases h : i7 f.l < x
 ·exact Nat.le_of_eq (I.S.bg (a := i7 f.l) (b := x) ⟨1, by decide, fun y h2 _ => (uD f.c I.f0 (.inr h2)).1⟩ h)
 ·exact I.S.cD (Rat.not_lt.1 h)
theorem nY (i : Nat) (hi : i < (gS s n f).length) (t : Rat) : bR f (nth ((gS s n f).map (ex f)) i) t ↔ vt (bE f) t + i + 1 ≤ vt (bE f) (-i7 f.l) := by
 obtain ⟨a1, a2, a3, a4, a5, a6⟩ := I.ivs.mem _ (bK hi)
 have hl := I.qM i hi
 rw [dW hi]
 refine ((Q3 ⟨I.S, .inr ⟨a4, a6⟩⟩).2 t).trans ?_
 rw [UN I.S a6]
 omega
end jB
end Go.Proofs.YtbbjgncblhfegaaGreat
