import Derived.Test.YtbbjgncblhfegaaGreatAar
set_option linter.unusedSimpArgs false
set_option linter.unusedVariables false
namespace Go.Proofs.YtbbjgncblhfegaaGreat
open Go Pm
open ZX hiding N W
theorem q9 {p q : Rat} : 0 < dC (p.num * q.den) (q.num * p.den) ↔ q < p := by
 rw [m8, ← iV q p, m7]
theorem VP {p q : Rat} : dC (p.num * q.den) (q.num * p.den) < 0 ↔ p < q := iV p q
theorem qD {p q : Rat} : dC (p.num * q.den) (q.num * p.den) ≤ 0 ↔ p ≤ q := by
 rw [← Int.not_lt, q9, Rat.not_lt]
theorem KW {x : List Int} {c : List ZX} {an ad bn bd tn td zt z1 z2 b σ r : Int} {pt : Bool} (p1 : aI env.P 113 [.ag (PI x :: aJ zq c :: (c4 an ad ++ c4 bn bd))] (.bool pt)) (k0 : aI env.P 27 [R2 an ad, R2 tn td] (.int .i64 zt))
  (k1 : aI env.P 27 [R2 tn td, R2 an ad] (.int .i64 z1)) (k2 : aI env.P 27 [R2 tn td, R2 bn bd] (.int .i64 z2)) (k3 : aI env.P 59 [aJ zq c, R2 an ad, R2 tn td] (.int .i64 b)) (k4 : aI env.P 107 [PI x, R2 tn td] (.int .i64 σ))
  (hr : r = if pt = true then zt else if z1 ≤ 0 then 1 else if 0 < z2 then -1 else if b = 0 then 1 else if σ = 0 then 0 else -1) : aI env.P 43 [.ag (PI x :: aJ zq c :: (c4 an ad ++ c4 bn bd)), R2 tn td] (.int .i64 r) := by
 simp only [c4, List.cons_append, List.nil_append] at p1 ⊢
 refine aB (E := env) (fun _ => 0) [(0, .ag [PI x, aJ zq c, aJ aF (aQ DD an.natAbs), .bool (decide (an < 0)), aJ aF (aQ DD ad.natAbs), .bool (decide (ad < 0)), aJ aF (aQ DD bn.natAbs), .bool (decide (bn < 0)), aJ aF (aQ DD bd.natAbs), .bool (decide (bd < 0))]), (1, R2 tn td)] Tryz.func43 rfl (by kernel_rfl) (by kernel_rfl) (show 2 ≤ 33 by decide) (by simp) ?_
 refine W.sr ?_; simp (disch := omega) [gw]; refine W.lx [2, 3] ?_; simp
 refine W.seq ?_
 refine W.sr ?_
 simp (disch := omega) [gw]
 refine aA p1 ?_
 simp (disch := omega) [gw]
 refine W.lx [2, 3, 6] ?_; simp
 refine W.cond ⟨_, rfl, fun h => ?_, fun h => ?_⟩
 ·subst h
  rw [if_pos rfl] at hr
  subst hr
  refine W.sr ?_
  simp (disch := omega) [gw]
  refine aA k0 ?_
  simp (disch := omega) [gw]
  refine W.lx [4] ?_; simp
  refine W.ret ?_
  simp [go]
 ·subst h
  rw [if_neg (by decide)] at hr
  refine W.skip ?_
  refine W.seq ?_
  refine W.sr ?_
  simp (disch := omega) [gw]
  refine aA k1 ?_
  simp (disch := omega) [gw]
  refine W.lx [2, 3, 15] ?_; simp
  refine W.cond ⟨_, rfl, fun h => ?_, fun h => ?_⟩
  ·simp at h
   rw [if_pos h] at hr
   subst hr
   refine W.sr ?_; simp (disch := omega) [gw]; refine W.lx [4] ?_; simp
   refine W.ret ?_
   simp [go]
  ·simp at h
   rw [if_neg (by omega)] at hr
   refine W.skip ?_
   refine W.seq ?_
   refine W.sr ?_
   simp (disch := omega) [gw]
   refine aA k2 ?_
   simp (disch := omega) [gw]
   refine W.lx [2, 3, 20] ?_; simp
   refine W.cond ⟨_, rfl, fun h => ?_, fun h => ?_⟩
   ·simp at h
    rw [if_pos h] at hr
    subst hr
    refine W.sr ?_; simp (disch := omega) [gw]; refine W.lx [4] ?_; simp
    refine W.ret ?_
    simp [go]
   ·simp at h
    rw [if_neg (by omega)] at hr
    refine W.skip ?_
    refine W.seq ?_
    refine W.sr ?_
    simp (disch := omega) [gw]
    refine aA k3 ?_
    simp (disch := omega) [gw]
    refine W.lx [2, 3, 27] ?_; simp
    refine W.cond ⟨_, rfl, fun h => ?_, fun h => ?_⟩
    ·simp at h
     rw [if_pos h] at hr
     subst hr
     refine W.sr ?_; simp (disch := omega) [gw]; refine W.lx [4] ?_; simp
     refine W.ret ?_
     simp [go]
    ·simp at h
     rw [if_neg h] at hr
     refine W.skip ?_
     refine W.seq ?_
     refine W.sr ?_
     simp (disch := omega) [gw]
     refine aA k4 ?_
     simp (disch := omega) [gw]
     refine W.lx [32] ?_; simp
     refine W.cond ⟨_, rfl, fun h => ?_, fun h => ?_⟩
     ·simp at h
      rw [if_pos h] at hr
      subst hr
      refine W.sr ?_; simp (disch := omega) [gw]; refine W.lx [4] ?_; simp
      refine W.ret ?_
      simp [go]
     ·simp at h
      rw [if_neg h] at hr
      subst hr
      refine W.skip ?_
      refine W.sr ?_; simp (disch := omega) [gw]; refine W.lx [4] ?_; simp
      refine W.ret ?_
      simp [go]
abbrev cX (f : ZX) (p : Rat × Rat) : Rat → Prop := gK (vt (bC f)) p.1 p.2
theorem mV.GV {s n : Nat} {f : ZX} (I : mV s n f) {u : Nat} {p : Rat × Rat} {t : Rat} (A : oY f (vt (bC f)) p.1 p.2) (q1 : SQ u p.1) (q2 : SQ u p.2) (qt : SQ u t) (hu : u ≤ 1000000000) : aI env.P 43 [QA f (bC f) p, RR t] (.int .i64 (cr (cX f p) t)) := by
 have p1 := qC (f := f) (c := bC f) q1 q2 hu
 have k0 := kF p.1 t (q1.yy hu) (qt.yy hu)
 have k1 := kF t p.1 (qt.yy hu) (q1.yy hu)
 have k2 := kF t p.2 (qt.yy hu) (q2.yy hu)
 have k3 := I.uK q1 qt hu
 have k4 := I.ag9 qt hu
 have hc := A.au7 t
 rw [b9, b9] at k0 k1 k2
 rw [b9, b9] at k3
 rw [b9] at k4 ⊢
 rw [lP] at p1 ⊢
 refine KW p1 k0 k1 k2 k3 k4 ?_
 rw [hc]
 simp only [decide_eq_true_eq]
 by_cases h1 : p.1 = p.2
 ·rw [if_pos h1, if_pos h1]
  by_cases h2 : p.1 < t
  ·rw [if_pos h2, l7 (m7.1 (VP.2 h2))]
  ·rw [if_neg h2]
   by_cases h3 : t < p.1
   ·rw [if_pos h3, l8 (m8.1 (q9.2 h3))]
   ·rw [if_neg h3, nI.2 (by grind)]
 ·rw [if_neg h1, if_neg h1]
  simp only [qD, q9]
  by_cases h2 : t ≤ p.1
  ·rw [if_pos h2, if_pos h2]
  ·rw [if_neg h2, if_neg h2]
   by_cases h3 : p.2 < t
   ·rw [if_pos h3, if_pos h3]
   ·rw [if_neg h3, if_neg h3, if_neg (show ¬ t < p.1 by grind)]
    have e1 : ((vt (bC f) p.1 : Int) - vt (bC f) t = 0) ↔ vt (bC f) p.1 = vt (bC f) t := by omega
    simp only [e1, dH]
def hv (f : ZX) (p : Rat × Rat) : Rat × Rat := if p.1 = p.2 then p else ex f (if vt (bC f) ((p.1 + p.2) / 2) < vt (bC f) p.1 then (p.1, (p.1 + p.2) / 2) else ((p.1 + p.2) / 2, p.2))
theorem KX {x : List Int} {c : List ZX} {an ad bn bd : Int} (p1 : aI env.P 113 [.ag (PI x :: aJ zq c :: (c4 an ad ++ c4 bn bd))] (.bool true)) : aI env.P 115 [.ag (PI x :: aJ zq c :: (c4 an ad ++ c4 bn bd))] (.ag (PI x :: aJ zq c :: (c4 an ad ++ c4 bn bd))) := by
 simp only [c4, List.cons_append, List.nil_append] at p1 ⊢
 refine aB (E := env) (fun _ => 0) [(0, .ag [PI x, aJ zq c, aJ aF (aQ DD an.natAbs), .bool (decide (an < 0)), aJ aF (aQ DD ad.natAbs), .bool (decide (ad < 0)), aJ aF (aQ DD bn.natAbs), .bool (decide (bn < 0)), aJ aF (aQ DD bd.natAbs), .bool (decide (bd < 0))])] Tryz.func115 rfl (by kernel_rfl) (by kernel_rfl) (show 1 ≤ 25 by decide) (by simp) ?_
 refine W.sr ?_; simp (disch := omega) [gw]; refine W.lx [1, 2] ?_; simp
 refine W.seq ?_
 refine W.sr ?_
 simp (disch := omega) [gw]
 refine aA p1 ?_
 simp (disch := omega) [gw]
 refine W.lx [1, 2, 5] ?_; simp
 refine W.cond ⟨_, rfl, fun h => ?_, fun h => ?_⟩
 ·refine W.sr ?_; simp (disch := omega) [gw]; refine W.lx [2] ?_; simp
  refine W.ret ?_
  simp [go]
 ·simp at h
theorem KY {x : List Int} {c : List ZX} {an ad bn bd mn md yn yd zn zd b : Int} (p1 : aI env.P 113 [.ag (PI x :: aJ zq c :: (c4 an ad ++ c4 bn bd))] (.bool false)) (k1 : aI env.P 60 [R2 an ad, R2 bn bd] (R2 mn md)) (k2 : aI env.P 59 [aJ zq c, R2 an ad, R2 mn md] (.int .i64 b))
  (k3 : aI env.P 112 [.ag (PI x :: aJ zq c :: (if 0 < b then c4 an ad ++ c4 mn md else c4 mn md ++ c4 bn bd))] (.ag (PI x :: aJ zq c :: (c4 yn yd ++ c4 zn zd)))) : aI env.P 115 [.ag (PI x :: aJ zq c :: (c4 an ad ++ c4 bn bd))] (.ag (PI x :: aJ zq c :: (c4 yn yd ++ c4 zn zd))) := by
 simp only [c4, List.cons_append, List.nil_append] at p1 k3 ⊢
 refine aB (E := env) (fun _ => 0) [(0, .ag [PI x, aJ zq c, aJ aF (aQ DD an.natAbs), .bool (decide (an < 0)), aJ aF (aQ DD ad.natAbs), .bool (decide (ad < 0)), aJ aF (aQ DD bn.natAbs), .bool (decide (bn < 0)), aJ aF (aQ DD bd.natAbs), .bool (decide (bd < 0))])] Tryz.func115 rfl (by kernel_rfl) (by kernel_rfl) (show 1 ≤ 25 by decide) (by simp) ?_
 refine W.sr ?_; simp (disch := omega) [gw]; refine W.lx [1, 2] ?_; simp
 refine W.seq ?_
 refine W.sr ?_
 simp (disch := omega) [gw]
 refine aA p1 ?_
 simp (disch := omega) [gw]
 refine W.lx [1, 2, 5] ?_; simp
 refine W.cond ⟨_, rfl, fun h => ?_, fun h => ?_⟩
 ·simp at h
 refine W.skip ?_
 refine W.sr ?_
 simp (disch := omega) [gw]
 refine aA k1 ?_
 simp (disch := omega) [gw]
 refine W.lx [1, 2, 3] ?_; simp
 by_cases hb : 0 < b
 ·rw [if_pos hb] at k3
  refine W.fX (fun σ => ∃ (v1 v2 : Nat) (rows : Pm.Rows) (clk : Nat), σ = ⟨fa [(1, .ptr 1 v1 0 0), (2, .ptr 2 v2 0 0)], rows, clk⟩ ∧ rows 1 = some ⟨v1, 68, 10, [[PI x, aJ zq c, aJ aF (aQ DD an.natAbs), .bool (decide (an < 0)), aJ aF (aQ DD ad.natAbs), .bool (decide (ad < 0)), aJ aF (aQ DD mn.natAbs), .bool (decide (mn < 0)), aJ aF (aQ DD md.natAbs), .bool (decide (md < 0))]]⟩ ∧ rows 2 = some ⟨v2, 68, 10, [[PV.nil, PV.nil, PV.nil, PV.bool false, PV.nil, PV.bool false, PV.nil, PV.bool false, PV.nil, PV.bool false]]⟩) ?_ ?_
  ·refine W.sr ?_
   simp (disch := omega) [gw]
   refine aA k2 ?_
   simp (disch := omega) [gw]
   refine W.lx [1, 2, 3, 18] ?_; simp
   refine W.cond ⟨_, rfl, fun h => ?_, fun h => ?_⟩
   ·refine W.b8 (fun K hK => ?_); simp (disch := omega) [gw]
    exact hK _ ⟨_, aC _ [1, 2], _, _, _, _, rfl, by simp, by simp⟩
   ·simp at h; omega
  rintro _ ⟨v1, v2, rows, clk, rfl, BW, cI⟩
  refine W.sr ?_
  simp (disch := omega) [gw, BW, cI]
  refine aA k3 ?_
  simp (disch := omega) [gw, BW, cI]
  refine W.lx [2] ?_; simp
  refine W.ret ?_
  simp [go]
 ·rw [if_neg hb] at k3
  refine W.fX (fun σ => ∃ (v1 v2 : Nat) (rows : Pm.Rows) (clk : Nat), σ = ⟨fa [(1, .ptr 1 v1 0 0), (2, .ptr 2 v2 0 0)], rows, clk⟩ ∧ rows 1 = some ⟨v1, 68, 10, [[PI x, aJ zq c, aJ aF (aQ DD mn.natAbs), .bool (decide (mn < 0)), aJ aF (aQ DD md.natAbs), .bool (decide (md < 0)), aJ aF (aQ DD bn.natAbs), .bool (decide (bn < 0)), aJ aF (aQ DD bd.natAbs), .bool (decide (bd < 0))]]⟩ ∧ rows 2 = some ⟨v2, 68, 10, [[PV.nil, PV.nil, PV.nil, PV.bool false, PV.nil, PV.bool false, PV.nil, PV.bool false, PV.nil, PV.bool false]]⟩) ?_ ?_
  ·refine W.sr ?_
   simp (disch := omega) [gw]
   refine aA k2 ?_
   simp (disch := omega) [gw]
   refine W.lx [1, 2, 3, 18] ?_; simp
   refine W.cond ⟨_, rfl, fun h => ?_, fun h => ?_⟩
   ·simp at h; omega
   ·refine W.b8 (fun K hK => ?_); simp (disch := omega) [gw]
    exact hK _ ⟨_, aC _ [1, 2], _, _, _, _, rfl, by simp, by simp⟩
  rintro _ ⟨v1, v2, rows, clk, rfl, BW, cI⟩
  refine W.sr ?_
  simp (disch := omega) [gw, BW, cI]
  refine aA k3 ?_
  simp (disch := omega) [gw, BW, cI]
  refine W.lx [2] ?_; simp
  refine W.ret ?_
  simp [go]
theorem mV.aha {s n : Nat} {f : ZX} (I : mV s n f) {u : Nat} {p : Rat × Rat} (hle : p.1 ≤ p.2) (q1 : SQ u p.1) (q2 : SQ u p.2) (q3 : SQ u ((p.1 + p.2) / 2)) (q4 : SQ u (p.1 + p.2)) (hu : u ≤ 1000000000) : aI env.P 115 [QA f (bC f) p] (QA f (bC f) (hv f p)) := by
 have p1 := qC (f := f) (c := bC f) q1 q2 hu
 by_cases h : p.1 = p.2
 ·rw [decide_eq_true h] at p1
  rw [show hv f p = p from if_pos h, lP]
  rw [lP] at p1
  exact KX p1
 ·rw [decide_eq_false h] at p1
  have eZ : p.1 < p.2 := by grind
  obtain ⟨m1, m2⟩ := vN eZ
  have k1 := KP (q1.yy hu) (q2.yy hu) (q4.yy hu)
  have k2 := I.uK q1 q3 hu
  rw [if_neg (Rat.not_lt.2 (Rat.le_of_lt m1))] at k2
  have e : hv f p = ex f (if vt (bC f) ((p.1 + p.2) / 2) < vt (bC f) p.1 then (p.1, (p.1 + p.2) / 2) else ((p.1 + p.2) / 2, p.2)) := if_neg h
  rw [e]
  have hb : (0 < (vt (bC f) p.1 : Int) - vt (bC f) ((p.1 + p.2) / 2)) ↔ vt (bC f) ((p.1 + p.2) / 2) < vt (bC f) p.1 := by omega
  have k3 := I.abu (u := u) (p := if vt (bC f) ((p.1 + p.2) / 2) < vt (bC f) p.1 then (p.1, (p.1 + p.2) / 2) else ((p.1 + p.2) / 2, p.2)) (by split <;> assumption) (by split <;> assumption) hu
  rw [b9, b9] at k1 k2
  rw [b9] at k1
  rw [lP] at p1 ⊢
  rw [lP]
  refine KY p1 k1 k2 ?_
  by_cases h2 : vt (bC f) ((p.1 + p.2) / 2) < vt (bC f) p.1
  ·rw [if_pos (hb.2 h2)]
   rw [if_pos h2] at k3 ⊢
   exact k3
  ·rw [if_neg (fun h3 => h2 (hb.1 h3))]
   rw [if_neg h2] at k3 ⊢
   exact k3
theorem SD {f : ZX} {p : Rat × Rat} (A : oY f (vt (bC f)) p.1 p.2) : oY f (vt (bC f)) (hv f p).1 (hv f p).2 ∧ ∀ t, cX f (hv f p) t ↔ cX f p t := by
 unfold hv
 split
 ·exact ⟨A, fun _ => Iff.rfl⟩
 ·rename_i h
  have eZ : p.1 < p.2 := by have := A.le; grind
  obtain ⟨m1, m2⟩ := vN eZ
  obtain ⟨h1, h2⟩ := A.half m1 m2
  have key : ∀ q : Rat × Rat, oY f (vt (bC f)) q.1 q.2 → (∀ t, cX f q t ↔ cX f p t) → oY f (vt (bC f)) (ex f q).1 (ex f q).2 ∧ ∀ t, cX f (ex f q) t ↔ cX f p t := fun q hq hc => by
   unfold ex
   split
   ·rename_i h0
    obtain ⟨g1, g2⟩ := hq.exact h0
    exact ⟨g1, fun t => (g2 t).trans (hc t)⟩
   ·exact ⟨hq, hc⟩
  split
  ·rename_i h3
   obtain ⟨g1, g2⟩ := h1 h3
   exact key (p.1, (p.1 + p.2) / 2) g1 g2
  ·rename_i h3
   obtain ⟨g1, g2⟩ := h2 h3
   exact key ((p.1 + p.2) / 2, p.2) g1 g2
theorem GW {f : ZX} {p : Rat × Rat} (A : oY f (vt (bC f)) p.1 p.2) : oY f (vt (bC f)) (ex f p).1 (ex f p).2 ∧ ∀ t, cX f (ex f p) t ↔ cX f p t := by
 unfold ex
 split
 ·rename_i h0
  exact A.exact h0
 ·exact ⟨A, fun _ => Iff.rfl⟩
abbrev t4 (n d : Int) : List PV := [.bool (decide (n < 0)), us (aQ LL n.natAbs), .bool (decide (d < 0)), us (aQ LL d.natAbs)]
section
variable {x : List Int} {c : List ZX} {fs : List ZX} {an ad bn bd z b σ : Int} (hx : x.length < 1000000)  (f1 : aI env.P 32 [Po x] (PI x)) (f2 : aI env.P 93 [PI x] (aJ zq fs)) (k1 : aI env.P 28 [T2 an ad] (R2 an ad)) (k2 : aI env.P 28 [T2 bn bd] (R2 bn bd))
  (k3 : aI env.P 27 [R2 an ad, R2 bn bd] (.int .i64 z)) (k4 : aI env.P 57 [PI x] (aJ zq c)) (k5 : aI env.P 59 [aJ zq c, R2 an ad, R2 bn bd] (.int .i64 b)) (k6 : aI env.P 107 [PI x, R2 an ad] (.int .i64 σ))
include hx f1
include f2 k1 k2 k3 k4 k5 k6
theorem VQ (h2 : 2 ≤ x.length) (hm : fs.length = 1) {r : Bool} (hr : r = if 0 < z then false else if z = 0 then σ == 0 else b == 1) : aI env.P 38 [.ag (Po x :: (t4 an ad ++ t4 bn bd))] (.bool r) := by
 simp only [t4, List.cons_append, List.nil_append]
 refine aB (E := env) (fun _ => 0) [(0, .ag [Po x, .bool (decide (an < 0)), us (aQ LL an.natAbs), .bool (decide (ad < 0)), us (aQ LL ad.natAbs), .bool (decide (bn < 0)), us (aQ LL bn.natAbs), .bool (decide (bd < 0)), us (aQ LL bd.natAbs)])] Tryz.func38 rfl (by kernel_rfl) (by kernel_rfl) (show 1 ≤ 52 by decide) (by simp) ?_
 refine W.sr ?_; simp (disch := omega) [gw]; refine W.lx [1] ?_; simp
 refine W.sr ?_
 simp (disch := omega) [gw]
 refine aA f1 ?_
 simp (disch := omega) [gw]
 refine W.lx [1, 3] ?_; simp
 refine W.seq ?_
 have e1 : ((x.length : Int) < 2) = False := eq_false (by omega)
 have e2 : (((fs.length : Int)) != 1) = false := by rw [hm]; rfl
 refine W.sr ?_
 simp (disch := omega) [gw, e1]
 refine aA f2 ?_
 simp (disch := omega) [gw, e2]
 refine W.lx [1, 3, 26] ?_; simp
 refine W.cond ⟨_, rfl, fun h => ?_, fun h => ?_⟩
 ·simp at h
 refine W.skip ?_
 refine W.sd ?_
 simp (disch := omega) [gw]
 refine aA k1 ?_
 simp (disch := omega) [gw]
 refine aA k2 ?_
 (try (refine bN (of_decide_eq_true (by kernel_rfl)) ?_)); (try simp (maxSteps := 4000000) (disch := omega) [gw, eV]); (repeat rw [if_pos (by kernel_rfl)]); (try simp (maxSteps := 4000000) (disch := omega) [gw, eV])
 (try (refine bN (of_decide_eq_true (by kernel_rfl)) ?_)); (try simp (maxSteps := 4000000) (disch := omega) [gw, eV]); (repeat rw [if_pos (by kernel_rfl)]); (try simp (maxSteps := 4000000) (disch := omega) [gw, eV])
 (try (refine bN (of_decide_eq_true (by kernel_rfl)) ?_)); (try simp (maxSteps := 4000000) (disch := omega) [gw, eV]); (repeat rw [if_pos (by kernel_rfl)]); (try simp (maxSteps := 4000000) (disch := omega) [gw, eV])
 refine W.lx [3, 4, 5] ?_; simp
 refine W.seq ?_
 refine W.sr ?_
 simp (disch := omega) [gw]
 refine aA k3 ?_
 simp (disch := omega) [gw]
 refine W.lx [3, 4, 5, 6] ?_; simp
 refine W.block ?_
 refine W.sr ?_; simp (disch := omega) [gw]; refine W.lx [3, 4, 5, 6, 36] ?_; simp
 refine W.cond ⟨_, rfl, fun h => ?_, fun h => ?_⟩
 ·simp at h
  rw [if_pos h] at hr; subst hr
  refine W.sr ?_; simp (disch := omega) [gw]; refine W.lx [2] ?_; simp
  refine W.ret ?_
  simp [go]
 ·simp at h
  rw [if_neg (by omega)] at hr
  refine W.sr ?_; simp (disch := omega) [gw]; refine W.lx [3, 4, 5, 39] ?_; simp
  refine W.cond ⟨_, rfl, fun h => ?_, fun h => ?_⟩
  ·simp at h
   rw [if_pos h] at hr; subst hr
   refine W.sr ?_
   simp (disch := omega) [gw]
   refine aA k6 ?_
   simp (disch := omega) [gw]
   refine W.lx [2] ?_; simp
   refine W.ret ?_
   simp [go]
  ·simp at h
   rw [if_neg h] at hr; subst hr
   refine W.skip ?_
   refine W.sd ?_
   simp (disch := omega) [gw]
   refine aA k4 ?_
   simp (disch := omega) [gw]
   refine aA k5 ?_
   simp (disch := omega) [gw]
   refine W.lx [2] ?_; simp
   refine W.ret ?_
   simp [go]
end
theorem mV.valid {s n : Nat} {f : ZX} (I : mV s n f) {u : Nat} {p : Rat × Rat} (A : oY f (vt (bC f)) p.1 p.2) (hN : 2 ≤ ZX.N f) (q1 : SQ u p.1) (q2 : SQ u p.2) (hu : u ≤ 1000000000) : aI env.P 38 [GA f p] (.bool true) := by
 have hN' := I.ch.bz.N
 have hn := I.ch.hn
 have hx : f.l.length < 1000000 := by show ZX.N f < _; omega
 have f2 := oC I.lay I.s1
 rw [I.nf.nfe] at f2
 have hnl : nl f = 1 := (akp f).2 ⟨hN, by rw [I.gz1, ZX.z9]; omega⟩
 have QL : (fl f).length = 1 := by rw [ajQ, hnl]
 have k1 := q1.SC hu
 have k2 := q2.SC hu
 have k3 := kF p.1 p.2 (q1.yy hu) (q2.yy hu)
 have k5 := I.uK q1 q2 hu
 have k6 := I.ag9 q1 hu
 rw [b9] at k1 k2 k6
 rw [b9, b9] at k3 k5
 refine VQ hx I.ag8 f2 k1 k2 k3 I.GU k5 k6 hN QL ?_
 rw [if_neg (by rw [q9]; have := A.le; grind)]
 rcases A.k with ⟨h1, h2⟩ | ⟨h1, h2⟩
 ·rw [if_pos (nI.2 h1), h2, jH]; rfl
 ·rw [if_neg (fun h => by rw [nI] at h; grind), if_neg (by grind)]
  have : (vt (bC f) p.1 : Int) - vt (bC f) p.2 = 1 := by omega
  rw [this]; rfl
theorem sqf {f : ZX} (h0 : f ≠ 0) (hc : D3 f (bK f)) (hN : ZX.N f ≤ 20) : w8 f (vt (bC f)) := by
 have hg : gz f (bK f) = 1 := (Q5 (.inl h0)).N1 (hc _ (gS _ _).l (gS _ _).r)
 refine ⟨h0, hc, _, ⟨fun B hB => ?_⟩, rfl⟩
 obtain ⟨s, hs⟩ := AV f.l
 obtain ⟨β, hβ⟩ := KS B
 have hb : BZ (s + 1 + 5) 20 f := ⟨hN, fun c hc => cN (by decide) (by
  have h1 := hs c hc
  have h2 : 2 ^ s < 2 ^ (s + 1 + 5) := Nat.pow_lt_pow_right (by decide) (by omega)
  omega)⟩
 have hb0 : BZ (s + 1) 20 f := ⟨hN, fun c hc => cN (by decide) (by
  have h1 := hs c hc
  have h2 : 2 ^ s < 2 ^ (s + 1) := Nat.pow_lt_pow_right (by decide) (by omega)
  omega)⟩
 have bd : BZ (s + 1 + 5) 20 (bK f) := hb0.bK (by decide)
 have hND := kN f
 have hP1 : ZX.N (oS (bK f)) ≤ ZX.N (bK f) := kE _
 obtain ⟨δ, h1, h2⟩ := vM (jb ((s + 1 + 5 + 20 + 1) * 2 * 4 ^ 20) 20 β)
 refine ⟨δ, h1, Lcl.mono (RY (s := s + 1) (n := 20) (by decide) h0 hb ?_ (iC bd) hg (by rw [h2]; exact Rat.le_refl)) hβ⟩
 unfold xU
 split
 ·have : (4 : Nat) ^ ZX.N f ≤ 4 ^ 20 := Nat.pow_le_pow_right (by decide) hN
  exact Nat.mul_le_mul (by omega) this
 ·have : (4 : Nat) ^ ZX.N (oS (bK f)) ≤ 4 ^ 20 := Nat.pow_le_pow_right (by decide) (by omega)
  exact Nat.mul_le_mul (Nat.le_refl _) this
structure qE (f h g w : ZX) : Prop where
 eq : f = w * g
 ng : Nf g
 nw : Nf w
 wg : D3 w g
 wh : D3 w h
 gd : dv g h
 sg : D3 g (bK g)
 sw : D3 w (bK w)
theorem A5 {f h : ZX} (nf : Nf f) (hc : D3 f (bK f)) : ∃ w, qE f h (gz f h) w := by
 have ng : Nf (gz f h) := Q5 (.inl nf.ne)
 obtain ⟨w, nw, e⟩ := nf.quo ng (gS f h).l
 have hd : bK f = bK w * gz f h + w * bK (gz f h) := by
  have h1 := congrArg bK e
  rwa [n9] at h1
 have dwf : dv w f := by rw [e]; exact (dv.refl w).mul_right _
 have dgf : dv (gz f h) f := (gS f h).l
 have wg : D3 w (gz f h) := fun d h1 h2 => hc d (h1.trans dwf) (by rw [hd]; exact (h2.mul_left _).add (h1.mul_right _))
 exact ⟨w, e, ng, nw, wg, fun d h1 h2 => wg d h1 ((gS f h).least (h1.trans dwf) h2), (gS f h).r,
  fun d h1 h2 => hc d (h1.trans dgf) (by rw [hd]; exact (h1.mul_left _).add (h2.mul_left _)), fun d h1 h2 => hc d (h1.trans dwf) (by rw [hd]; exact (h2.mul_right _).add (h1.mul_right _))⟩
theorem qE.N {f h g w : ZX} (S : qE f h g w) : ZX.N w ≤ ZX.N f ∧ ZX.N g ≤ ZX.N f := by
 have h1 := iB S.nw.ne S.ng.ne
 rw [← S.eq] at h1
 have := ZX.aD.1 S.nw.ne
 have := ZX.aD.1 S.ng.ne
 omega
theorem qE.cnt {f h g w : ZX} (S : qE f h g w) {v γ φ : Rat → Nat} (hv : w8 f v) (hg : w8 g γ) (hw : w8 w φ) {s t : Rat} (lR : s ≤ t) : v s + γ t + φ t = v t + γ s + φ s := by
 have e : K 1 * f = w * g := by rw [← S.eq]; show (1 : ZX) * f = f; grind
 have := hv.mul hw hg (by decide) e S.wg lR
 omega
theorem abw {f h : ZX} {v w : Rat → Nat} (hv : w8 f v) (hw : w8 h w) (hc : D3 f h) {s n l β : Nat} (hA : ∀ c ∈ f.l, c.natAbs ≤ 2 ^ s) (hB : ∀ c ∈ h.l, c.natAbs ≤ 2 ^ s) (hn : ZX.N f + ZX.N h ≤ n) (hl : n ≤ 2 ^ l)
  {a b : Rat} (ha : Ab a (2 ^ β)) (hb : Ab b (2 ^ β)) (gE : a < b) (hd : (b - a) * 2 ^ (sk s n l β + (s + n * (β + 2)) + 1) ≤ 1) : v a = v b ∨ w a = w b := by
 refine Classical.byContradiction fun VL => ?_
 have ahb := not_or.1 VL
 have hQ := gU (s + n * (β + 2))
 have hlf : ∀ p : ZX, (∀ c ∈ p.l, c.natAbs ≤ 2 ^ s) → ZX.N p ≤ n → ∀ x y, a ≤ x → x ≤ y → y ≤ b → Ab (e y p - e x p) ((y - x) * 2 ^ (s + n * (β + 2))) := fun p hp hN x y h1 h2 h3 => by
  have g1 := (abi hp hN (eO ha hb h1 (by grind)) (eO ha hb (show a ≤ y by grind) h3)).1
  have g2 := lN x y p.l
  have g3 : e y p - e x p = qv y p.l - qv x p.l := rfl
  rw [g3, g2]
  exact Ab.mul ⟨by grind, Rat.le_refl⟩ g1
 have b1 := hv.small gE ahb.1 hQ (hlf f hA (by omega)) Rat.le_refl (Rat.le_of_lt gE)
 have b2 := hw.small gE ahb.2 hQ (hlf h hB (by omega)) Rat.le_refl (Rat.le_of_lt gE)
 obtain ⟨ε, h3, h4⟩ := vM (sk s n l β)
 have h5 := sep hv.ne hw.ne hA hB hn hl hc ha (ε := ε) (by rw [h4]; exact Rat.le_refl)
 rw [oF, oF] at hd
 have hK := gU (sk s n l β)
 generalize (2 : Rat) ^ sk s n l β = κ at *
 generalize (2 : Rat) ^ (s + n * (β + 2)) = Q at *
 have e2 : (2 : Rat) ^ 1 = 2 := by rw [Rat.pow_succ, Rat.pow_zero]; grind
 rw [e2] at hd
 have h6 : (b - a) * Q * 2 ≤ ε := by
  have h7 : (b - a) * (κ * Q * 2) = (b - a) * Q * 2 * κ := by grind
  rw [h7, ← h4] at hd
  exact Rat.le_of_mul_le_mul_right hd hK
 have h8 : 0 ≤ (b - a) * Q := Rat.mul_nonneg (by grind) (Rat.le_of_lt hQ)
 obtain ⟨p1, p2⟩ := b1
 obtain ⟨p3, p4⟩ := b2
 rcases h5 with (h5 | h5) | (h5 | h5) <;> grind
theorem aeX {f h : ZX} {v w : Rat → Nat} (hv : w8 f v) (hw : w8 h w) (hc : D3 f h) (B : Rat) : ∃ δ : Rat, 0 < δ ∧ ∀ a b, Ab a B → Ab b B → a < b → b - a ≤ δ → v a = v b ∨ w a = w b := by
 obtain ⟨s1, h1⟩ := AV f.l
 obtain ⟨s2, h2⟩ := AV h.l
 obtain ⟨β, hβ⟩ := KS B
 obtain ⟨δ, h3, h4⟩ := vM (sk (s1 + s2) (ZX.N f + ZX.N h) (ZX.N f + ZX.N h) β + (s1 + s2 + (ZX.N f + ZX.N h) * (β + 2)) + 1)
 refine ⟨δ, h3, fun a b ha hb gE hd => abw hv hw hc (s := s1 + s2) (l := ZX.N f + ZX.N h) (β := β) (fun c hc => Nat.le_trans (h1 c hc) (Nat.pow_le_pow_right (by decide) (by omega))) (fun c hc => Nat.le_trans (h2 c hc) (Nat.pow_le_pow_right (by decide) (by omega))) (Nat.le_refl _) (Nat.le_of_lt Nat.lt_two_pow_self) (ha.mono hβ) (hb.mono hβ) gE ?_⟩
 rw [← h4]
 exact Rat.mul_le_mul_of_nonneg_right hd (Rat.le_of_lt (gU _))
section
variable {f : ZX} {v : Rat → Nat} {lo hi : Rat} (A : oY f v lo hi)
include A
theorem oJ {s t : Rat} (h1 : ¬ gK v lo hi s) (h2 : gK v lo hi t) (lR : s < t) : v t < v s := by
 have g1 : s < hi := Rat.not_le.1 fun h => h1 (.inl h)
 rcases A.k with ⟨rfl, h0⟩ | ⟨eZ, hk⟩
 ·have h3 : lo ≤ t := by rcases h2 with h | h <;> grind
  have h4 := A.S.root g1 h0
  have h5 := A.S.dP h3
  omega
 ·have h3 : v lo ≤ v s := by
   by_cases h : s ≤ lo
   ·exact A.S.dP h
   ·exact Nat.not_lt.1 fun h4 => h1 (.inr ⟨by grind, h4⟩)
  rcases h2 with h | ⟨_, h⟩
  ·have := A.S.dP h; omega
  ·omega
theorem SE {s t : Rat} (h1 : ¬ gK v lo hi s) (h2 : gK v lo hi t) (hv : v s = v t + 1) {x : Rat} (hx : s ≤ x) (hy : x ≤ t) : gK v lo hi x ↔ v x < v s := by
 refine ⟨fun h => ?_, fun h => ?_⟩
 ·refine oJ A h1 h ?_
  rcases Rat.le_iff_lt_or_eq.1 hx with h3 | rfl
  ·exact h3
  ·exact absurd h h1
 ·refine Classical.byContradiction fun h3 => ?_
  have h4 : x < t := by
   rcases Rat.le_iff_lt_or_eq.1 hy with h4 | rfl
   ·exact h4
   ·exact absurd h2 h3
  have := oJ A h3 h2 h4
  omega
end
theorem O4 {U : Rat → Prop} {δ : Rat} (hδ : 0 < δ) : ∀ (n : Nat) (s t : Rat), s < t → ¬ U s → U t → t - s ≤ δ * 2 ^ n → ∃ a b, s ≤ a ∧ a < b ∧ b ≤ t ∧ b - a ≤ δ ∧ ¬ U a ∧ U b
 | 0, s, t, h, h1, h2, hd => ⟨s, t, Rat.le_refl, h, Rat.le_refl, by rwa [Rat.pow_zero, Rat.mul_one] at hd, h1, h2⟩
 | n + 1, s, t, h, h1, h2, hd => by
  obtain ⟨m1, m2⟩ := vN h
  obtain ⟨d1, d2⟩ := uJ hd
  generalize (s + t) / 2 = m at *
  by_cases hm : U m
  ·obtain ⟨a, b, g1, g2, g3, g4⟩ := O4 hδ n s m m1 h1 hm d1
   exact ⟨a, b, g1, g2, by grind, g4⟩
  ·obtain ⟨a, b, g1, g2, g3, g4⟩ := O4 hδ n m t m2 hm h2 d2
   exact ⟨a, b, by grind, g2, g3, g4⟩
theorem aeY {U : Rat → Prop} {δ : Rat} (hδ : 0 < δ) {s t : Rat} (h : s < t) (h1 : ¬ U s) (h2 : U t) : ∃ a b, s ≤ a ∧ a < b ∧ b ≤ t ∧ b - a ≤ δ ∧ ¬ U a ∧ U b := by
 obtain ⟨n, hn⟩ := KS ((t - s) / δ)
 refine O4 hδ n s t h h1 h2 ?_
 have h3 : (t - s) / δ * δ = t - s := Rat.div_mul_cancel (Rat.ne_of_gt hδ)
 have h4 := Rat.mul_le_mul_of_nonneg_right hn (Rat.le_of_lt hδ)
 grind
section
variable {f h : ZX} {v w : Rat → Nat} {lo hi LA kY : Rat} (A : oY f v lo hi) (B : oY h w LA kY)
include A B
theorem KZ {g w1 w2 : ZX} {γ φ η : Rat → Nat} (S1 : qE f h g w1) (S2 : qE h f g w2) (hg : w8 g γ) (h1 : w8 w1 φ) (h2 : w8 w2 η) {s t : Rat} (lR : s < t) (a1 : ¬ gK v lo hi s) (a2 : gK v lo hi t) (b1 : ¬ gK w LA kY s) (b2 : gK w LA kY t) (hv : v s ≤ v t + 1) (hw : w s ≤ w t + 1) (hγ : γ t < γ s) :
  ∀ x, gK v lo hi x ↔ gK w LA kY x := fun x => by
 have c1 := oJ A a1 a2 lR
 have c2 := oJ B b1 b2 lR
 have e1 : v s = v t + 1 := by omega
 have e2 : w s = w t + 1 := by omega
 have k1 := S1.cnt A.S hg h1 (Rat.le_of_lt lR)
 have k2 := S2.cnt B.S hg h2 (Rat.le_of_lt lR)
 by_cases hx : x < s
 ·exact ⟨fun hh => absurd (A.up hh (Rat.le_of_lt hx)) a1, fun hh => absurd (B.up hh (Rat.le_of_lt hx)) b1⟩
 ·by_cases hy : t < x
  ·exact ⟨fun _ => B.up b2 (Rat.le_of_lt hy), fun _ => A.up a2 (Rat.le_of_lt hy)⟩
  ·have CJ := Rat.not_lt.1 hx
   have BI := Rat.not_lt.1 hy
   rw [SE A a1 a2 e1 CJ BI, SE B b1 b2 e2 CJ BI]
   have q1 := S1.cnt A.S hg h1 CJ
   have q2 := S2.cnt B.S hg h2 CJ
   have r1 := h1.dP CJ
   have r2 := h2.dP CJ
   have r3 := h1.dP BI
   have r4 := h2.dP BI
   have m1 := hg.dP (Rat.le_of_lt lR)
   have m2 := h1.dP (Rat.le_of_lt lR)
   have m3 := h2.dP (Rat.le_of_lt lR)
   omega
end
theorem abx {q : Rat} {V : Rat → Prop} (hV : ∀ s t, V s → s ≤ t → V t) : cu (fun t => q ≤ t) V = -cr V q := by
 by_cases h : V q
 ·by_cases h2 : ∃ s, s < q ∧ V s
  ·rw [(AW hV).2 h2]
   unfold cu
   obtain ⟨s, h3, h4⟩ := h2
   rw [if_neg (fun ⟨t, h5, h6⟩ => h6 (hV q t h h5)), if_pos ⟨s, h4, by grind⟩]
   rfl
  ·rw [x9.2 ⟨h, fun s h3 h4 => h2 ⟨s, h3, h4⟩⟩]
   unfold cu
   rw [if_neg (fun ⟨t, h5, h6⟩ => h6 (hV q t h h5)), if_neg (fun ⟨t, h5, h6⟩ => h2 ⟨t, by grind, h5⟩)]
   rfl
 ·rw [oG.2 h]
  unfold cu
  rw [if_pos ⟨q, Rat.le_refl, h⟩]
theorem VR {q : Rat} {U : Rat → Prop} (hU : ∀ s t, U s → s ≤ t → U t) : cu U (fun t => q ≤ t) = cr U q := by
 by_cases h : U q
 ·by_cases h2 : ∃ s, s < q ∧ U s
  ·rw [(AW hU).2 h2]
   unfold cu
   obtain ⟨s, h3, h4⟩ := h2
   rw [if_pos ⟨s, h4, by grind⟩]
  ·rw [x9.2 ⟨h, fun s h3 h4 => h2 ⟨s, h3, h4⟩⟩]
   unfold cu
   rw [if_neg (fun ⟨t, h5, h6⟩ => h2 ⟨t, by grind, h5⟩), if_neg (fun ⟨t, h5, h6⟩ => h6 (hU q t h h5))]
 ·rw [oG.2 h]
  unfold cu
  rw [if_neg (fun ⟨t, h5, h6⟩ => h (hU t q h5 (by grind))), if_pos ⟨q, Rat.le_refl, h⟩]
theorem nJ {U U' V V' : Rat → Prop} (h1 : ∀ t, U t ↔ U' t) (h2 : ∀ t, V t ↔ V' t) : cu U V = cu U' V' := by
 have e1 : U = U' := funext fun t => propext (h1 t)
 have e2 : V = V' := funext fun t => propext (h2 t)
 rw [e1, e2]
theorem SF {f : ZX} {p : Rat × Rat} (h : p.1 = p.2) (t : Rat) : cX f p t ↔ p.1 ≤ t := by
 refine ⟨fun h1 => ?_, fun h1 => .inl (h ▸ h1)⟩
 rcases h1 with h1 | ⟨h1, _⟩
 ·rw [h]; exact h1
 ·grind
theorem ap7 {h : ZX} {w : Rat → Nat} {lo hi LA kY : Rat} {v : Rat → Nat} (B : oY h w LA kY) (h1 : hi ≤ LA) (h2 : LA < kY) : cu (gK v lo hi) (gK w LA kY) = -1 := by
 unfold cu
 rw [if_pos ⟨hi, kW, B.oH (by grind)⟩]
theorem ap8 {f h : ZX} {v w : Rat → Nat} {lo hi LA kY : Rat} (A : oY f v lo hi) (B : oY h w LA kY) (h1 : kY ≤ lo) (h2 : lo < hi) : cu (gK v lo hi) (gK w LA kY) = 1 := by
 have h3 : ¬ gK v lo hi kY := A.oH (by grind)
 have h4 : ¬ ∃ t, gK v lo hi t ∧ ¬ gK w LA kY t := fun ⟨t, h4, h5⟩ => h5 (B.up kW (Rat.not_lt.1 fun h6 => h3 (A.up h4 (Rat.le_of_lt h6))))
 unfold cu
 rw [if_neg h4, if_pos ⟨kY, kW, h3⟩]
structure Two (s n : Nat) (f h : ZX) : Prop where
 nf : Nf f
 nh : Nf h
 cf : D3 f (bK f)
 ch : D3 h (bK h)
 af : ∀ c ∈ f.l, c.natAbs ≤ 2 ^ s
 ah : ∀ c ∈ h.l, c.natAbs ≤ 2 ^ s
 Nf : ZX.N f ≤ n
 Nh : ZX.N h ≤ n
 hn : n ≤ 20
 hs : n + 1 ≤ 2 ^ s
namespace Two
variable {s n : Nat} {f h : ZX} (T : Two s n f h)
include T
theorem Sf : w8 f (vt (bC f)) := sqf T.nf.ne T.cf (Nat.le_trans T.Nf T.hn)
theorem Sh : w8 h (vt (bC h)) := sqf T.nh.ne T.ch (Nat.le_trans T.Nh T.hn)
end Two
def kc (s n β : Nat) : Nat := lk s n 5 β + (sk (qb (s + 1) n) (n + n) 6 β + (qb (s + 1) n + (n + n) * (β + 2)) + 1)
theorem ap9 {s n β : Nat} (hn : n ≤ 20) : kc s n β ≤ 1722 * s + 140 * β + 9000 := by
 have h1 : (n + n) * (s + 5 + 1 + (5 + 1)) ≤ 40 * (s + 12) := Nat.mul_le_mul (by omega) (by omega)
 have h2 : (n + n) * (β + 2) ≤ 40 * (β + 2) := Nat.mul_le_mul (by omega) (by omega)
 have h3 : n * (β + 2) ≤ 20 * (β + 2) := Nat.mul_le_mul hn (by omega)
 have h4 : n * (2 * (s + 1) + 5) ≤ 20 * (2 * (s + 1) + 5) := Nat.mul_le_mul hn (by omega)
 have h5 : qb (s + 1) n ≤ 41 * s + 150 := by unfold qb; omega
 have h6 : (n + n) * (qb (s + 1) n + 1 + 6) ≤ 40 * (41 * s + 157) := Nat.mul_le_mul (by omega) (by omega)
 unfold kc lk sk
 omega
theorem avg {s n : Nat} {f h g w : ZX} (S : qE f h g w) (hf : f ≠ 0) (hA : ∀ c ∈ f.l, c.natAbs ≤ 2 ^ s) (hN : ZX.N f ≤ n) (hs : n + 1 ≤ 2 ^ s) : ∀ c ∈ w.l, c.natAbs ≤ 2 ^ qb (s + 1) n := fun c hc => by
 have hb : Bd 2 (s + 1) n f.l := ⟨hN, fun c hc => cN (by decide) (by
  have h1 := hA c hc
  have h2 : 2 ^ s < 2 ^ (s + 1) := Nat.pow_lt_pow_right (by decide) (by omega)
  omega)⟩
 have h1 := aau (a := f) (w := g) (g := w) hf (by rw [S.eq, ZX.DM]) hb (Nat.le_trans hs (Nat.pow_le_pow_right (by decide) (by omega)))
 have h2 := lF (b := 2) (by decide) c
 have h3 := Nat.pow_le_pow_right (show 0 < 2 by decide) (h1.sz c hc)
 unfold qb
 omega
theorem VS {s n β : Nat} {f h : ZX} {p q : Rat × Rat} (T : Two s n f h) (A : oY f (vt (bC f)) p.1 p.2) (B : oY h (vt (bC h)) q.1 q.2) (h1 : p.1 < p.2) (h2 : q.1 < q.2) (h3 : p.1 < q.2) (h4 : q.1 < p.2)
  (a1 : Ab p.1 (2 ^ β)) (a2 : Ab p.2 (2 ^ β)) (b1 : Ab q.1 (2 ^ β)) (b2 : Ab q.2 (2 ^ β)) {W : Rat} (w1 : p.2 - p.1 ≤ W) (w2 : q.2 - q.1 ≤ W) (hW : 2 * W * 2 ^ kc s n β ≤ 1) : ∀ x, cX f p x ↔ cX h q x := by
 obtain ⟨S, hS, hS1, hS2⟩ : ∃ S, (S = p.1 ∨ S = q.1) ∧ S ≤ p.1 ∧ S ≤ q.1 := by
  by_cases hh : p.1 ≤ q.1
  ·exact ⟨p.1, .inl rfl, Rat.le_refl, hh⟩
  ·exact ⟨q.1, .inr rfl, by grind, Rat.le_refl⟩
 obtain ⟨E, hE, hE1, hE2⟩ : ∃ E, (E = p.2 ∨ E = q.2) ∧ p.2 ≤ E ∧ q.2 ≤ E := by
  by_cases hh : p.2 ≤ q.2
  ·exact ⟨q.2, .inr rfl, hh, Rat.le_refl⟩
  ·exact ⟨p.2, .inl rfl, Rat.le_refl, by grind⟩
 have aS : Ab S (2 ^ β) := by rcases hS with rfl | rfl <;> assumption
 have aE : Ab E (2 ^ β) := by rcases hE with rfl | rfl <;> assumption
 have SG : S < E := by grind
 have hd : E - S ≤ 2 * W := by rcases hS with rfl | rfl <;> rcases hE with rfl | rfl <;> grind
 have ZU : 0 ≤ E - S := by grind
 have hdK : (E - S) * 2 ^ kc s n β ≤ 1 := Rat.le_trans (Rat.mul_le_mul_of_nonneg_right hd (Rat.le_of_lt (gU _))) hW
 have lt1 : ∀ k, k ≤ kc s n β → (E - S) * 2 ^ k ≤ 1 := fun k hk => Rat.le_trans (Rat.mul_le_mul_of_nonneg_left (R5 hk) ZU) hdK
 obtain ⟨Lf, _⟩ := (show ∃ L, xI L f ∧ vt (bC f) = vt L from T.Sf.g)
 have rB : ∀ x : ZX, w8 x (vt (bC x)) → x ≠ 0 → (∀ c ∈ x.l, c.natAbs ≤ 2 ^ s) → ZX.N x ≤ n → vt (bC x) S ≤ vt (bC x) E + 1 := fun x hx h0 hA hN => by
  obtain ⟨L, G, e⟩ := hx.g
  obtain ⟨g1, _⟩ := vL G (s := s) (n := n) (l := 5) (β := β) h0 hA hN (by have := T.hn; omega) hx.cop (δ := E - S) (lt1 _ (by unfold kc; omega))
  have := g1.turns S E aS aE SG Rat.le_refl
  rw [e]
  rcases OX x S E with h5 | h5 <;> omega
 have nF := rB f T.Sf T.nf.ne T.af T.Nf
 have nH := rB h T.Sh T.nh.ne T.ah T.Nh
 obtain ⟨w1', S1⟩ := A5 (h := h) T.nf T.cf
 obtain ⟨w2', S2⟩ := A5 (h := f) T.nh T.ch
 rw [← xR] at S2
 have T7 := T.hn
 have n1 := S1.N
 have n2 := S2.N
 have hTN := T.Nf
 have avh := T.Nh
 have hg := sqf S1.ng.ne S1.sg (by omega)
 have LB := sqf S1.nw.ne S1.sw (by omega)
 have hw2 := sqf S2.nw.ne S2.sw (by omega)
 have c1 : ¬ cX f p S := A.oH (by grind)
 have c2 : cX f p E := A.up kW hE1
 have c3 : ¬ cX h q S := B.oH (by grind)
 have c4 : cX h q E := B.up kW hE2
 have o1 := oJ A c1 c2 SG
 have o2 := oJ B c3 c4 SG
 have k1 := S1.cnt T.Sf hg LB (Rat.le_of_lt SG)
 have mN := avg S1 T.nf.ne T.af T.Nf T.hs
 have hno := abw LB T.Sh S1.wh (s := qb (s + 1) n) (n := n + n) (l := 6) (β := β) mN (fun c hc => Nat.le_trans (T.ah c hc) (Nat.pow_le_pow_right (by decide) (by unfold qb; omega))) (by omega) (by omega) aS aE SG (lt1 _ (by unfold kc; omega))
 have m0 := hg.dP (Rat.le_of_lt SG)
 refine KZ A B S1 S2 hg LB hw2 SG c1 c2 c3 c4 nF nH ?_
 rcases hno with hno | hno
 ·omega
 ·omega
theorem VT {s n : Nat} {f h : ZX} {p q : Rat × Rat} (T : Two s n f h) (A : oY f (vt (bC f)) p.1 p.2) (B : oY h (vt (bC h)) q.1 q.2) (h1 : p.1 < p.2) (h2 : q.1 < q.2) (h3 : ¬ cX f p q.1) (h4 : cX f p q.2) (hz : vt (bC (gz h f)) p.2 < vt (bC (gz h f)) p.1) : ∀ x, cX f p x ↔ cX h q x := by
 rw [xR] at hz
 obtain ⟨w1', S1⟩ := A5 (h := h) T.nf T.cf
 obtain ⟨w2', S2⟩ := A5 (h := f) T.nh T.ch
 rw [← xR] at S2
 have T7 := T.hn
 have n1 := S1.N
 have n2 := S2.N
 have hTN := T.Nf
 have avh := T.Nh
 have hg := sqf S1.ng.ne S1.sg (by omega)
 have LB := sqf S1.nw.ne S1.sw (by omega)
 have hw2 := sqf S2.nw.ne S2.sw (by omega)
 have hv : vt (bC f) p.1 = vt (bC f) p.2 + 1 := by
  rcases A.k with ⟨g, _⟩ | ⟨_, g⟩
  ·grind
  ·exact g
 have hw : vt (bC h) q.1 = vt (bC h) q.2 + 1 := by
  rcases B.k with ⟨g, _⟩ | ⟨_, g⟩
  ·grind
  ·exact g
 have ZJ : q.1 < p.2 := Rat.not_le.1 fun hh => h3 (.inl hh)
 have hq2 : p.1 < q.2 := Rat.not_le.1 fun hh => (A.oH (show q.2 < p.1 ∨ (q.2 = p.1 ∧ p.1 < p.2) by grind)) h4
 obtain ⟨S, hS, hS1, hS2⟩ : ∃ S, (S = p.1 ∨ S = q.1) ∧ p.1 ≤ S ∧ q.1 ≤ S := by
  by_cases hh : p.1 ≤ q.1
  ·exact ⟨q.1, .inr rfl, hh, Rat.le_refl⟩
  ·exact ⟨p.1, .inl rfl, Rat.le_refl, by grind⟩
 obtain ⟨E, hE, hE1, hE2⟩ : ∃ E, (E = p.2 ∨ E = q.2) ∧ E ≤ p.2 ∧ E ≤ q.2 := by
  by_cases hh : p.2 ≤ q.2
  ·exact ⟨p.2, .inl rfl, Rat.le_refl, hh⟩
  ·exact ⟨q.2, .inr rfl, by grind, Rat.le_refl⟩
 have SG : S < E := by rcases hS with rfl | rfl <;> rcases hE with rfl | rfl <;> assumption
 have c1 : ¬ cX f p S := by
  rcases hS with rfl | rfl
  ·exact A.oH (.inr ⟨rfl, h1⟩)
  ·exact h3
 have c2 : cX f p E := by
  rcases hE with rfl | rfl
  ·exact kW
  ·exact h4
 have o1 := oJ A c1 c2 SG
 have v1 := T.Sf.dP hS1
 have v2 := T.Sf.dP hE1
 have k1 := S1.cnt T.Sf hg LB hS1
 have k2 := S1.cnt T.Sf hg LB hE1
 have k3 := S1.cnt T.Sf hg LB (Rat.le_of_lt SG)
 have k4 := S2.cnt T.Sh hg hw2 (Rat.le_of_lt SG)
 have a1 := hg.dP hS1
 have a2 := hg.dP hE1
 have a3 := LB.dP hS1
 have a4 := LB.dP hE1
 have a5 := hw2.dP (Rat.le_of_lt SG)
 have a6 := LB.dP (Rat.le_of_lt SG)
 have u1 := T.Sh.dP hS2
 have u2 := T.Sh.dP hE2
 have c3 : ¬ cX h q S := fun hh => by
  rcases hh with hh | ⟨_, hh⟩
  ·have := T.Sh.dP hh; omega
  ·omega
 have c4 : cX h q E := .inr ⟨by grind, by omega⟩
 exact KZ A B S1 S2 hg LB hw2 SG c1 c2 c3 c4 (by omega) (by omega) (by omega)
theorem VU {s n : Nat} {f h : ZX} {p q : Rat × Rat} (T : Two s n f h) (A : oY f (vt (bC f)) p.1 p.2) (B : oY h (vt (bC h)) q.1 q.2) (h1 : p.1 < p.2) (hx : ∀ x, cX f p x ↔ cX h q x) : vt (bC (gz h f)) p.2 < vt (bC (gz h f)) p.1 := by
 rw [xR]
 obtain ⟨w1', S1⟩ := A5 (h := h) T.nf T.cf
 have T7 := T.hn
 have n1 := S1.N
 have hTN := T.Nf
 have hg := sqf S1.ng.ne S1.sg (by omega)
 have LB := sqf S1.nw.ne S1.sw (by omega)
 obtain ⟨B0, hB0, ab1, ab2⟩ := sO p.1 p.2
 obtain ⟨δ, hδ, hno⟩ := aeX LB T.Sh S1.wh B0
 obtain ⟨a, b, g1, g2, g3, g4, g5, g6⟩ := aeY (U := cX f p) hδ h1 (A.oH (.inr ⟨rfl, h1⟩)) kW
 have o1 := oJ A g5 g6 g2
 have o2 := oJ B (fun hh => g5 ((hx _).2 hh)) ((hx _).1 g6) g2
 have k1 := S1.cnt T.Sf hg LB (Rat.le_of_lt g2)
 have a1 := hg.dP g1
 have a2 := hg.dP g3
 rcases hno a b (eO ab1 ab2 g1 (by grind)) (eO ab1 ab2 (by grind) g3) g2 g4 with hh | hh
 ·omega
 ·omega
end Go.Proofs.YtbbjgncblhfegaaGreat
namespace Go.Proofs.YtbbjgncblhfegaaGreat
open Go Pm
open ZX hiding N W
theorem akr {a : ZX} (na : Nf a) (hc : D3 a (bK a)) : sq a = a := by
 obtain ⟨g, hg⟩ := iK _ a (bK a) (Nat.le_refl _)
 have h0 := hg.ne (.inl na.ne)
 have h1 := hc g hg.l hg.r
 have h2 := ZX.aD.1 h0
 obtain ⟨k, hk, rfl⟩ := mD (show ZX.N g = 1 by omega)
 obtain ⟨c, tI, u, v, e⟩ := hg.uv
 rw [nG] at e
 exact aeH na (Int.mul_ne_zero tI hk) e.symm
abbrev uW (x : List Int) (c : List ZX) (an ad bn bd : Int) : List PV := [PI x, aJ zq c, aJ aF (aQ DD an.natAbs), .bool (decide (an < 0)), aJ aF (aQ DD ad.natAbs), .bool (decide (ad < 0)), aJ aF (aQ DD bn.natAbs), .bool (decide (bn < 0)), aJ aF (aQ DD bd.natAbs), .bool (decide (bd < 0))]
theorem qF {f : ZX} {c : List ZX} {p : Rat × Rat} : QA f c p = .ag (uW f.l c p.1.num p.1.den p.2.num p.2.den) := rfl
theorem D8 {y x g : List Int} {c cg : List ZX} {an ad bn bd σ b : Int} {pt z : Bool} (hl : y.length < 1000000) (hg : g.length < 1000000) (p1 : aI env.P 113 [.ag (uW x c an ad bn bd)] (.bool pt)) (k1 : pt = true → aI env.P 107 [PI y, R2 an ad] (.int .i64 σ)) (k2 : aI env.P 171 [PI y, PI x] (PI g))
  (k3 : 2 ≤ g.length → aI env.P 57 [PI g] (aJ zq cg)) (k4 : 2 ≤ g.length → aI env.P 59 [aJ zq cg, R2 an ad, R2 bn bd] (.int .i64 b)) (hz : z = if y.length = 0 then true else if pt = true then σ == 0 else if g.length < 2 then false else decide (0 < b)) :
  aI env.P 114 [PI y, .ag (uW x c an ad bn bd)] (.bool z) := by
 simp only [uW] at p1 ⊢
 refine aB (E := env) (fun _ => 0) [(0, PI y), (1, .ag [PI x, aJ zq c, aJ aF (aQ DD an.natAbs), .bool (decide (an < 0)), aJ aF (aQ DD ad.natAbs), .bool (decide (ad < 0)), aJ aF (aQ DD bn.natAbs), .bool (decide (bn < 0)), aJ aF (aQ DD bd.natAbs), .bool (decide (bd < 0))])] Tryz.func114 rfl (by kernel_rfl) (by kernel_rfl) (show 2 ≤ 31 by decide) (by simp) ?_
 refine W.sr ?_; simp (disch := omega) [gw]; refine W.lx [0, 3] ?_; simp
 refine W.seq ?_
 refine W.sr ?_; simp (disch := omega) [gw]; refine W.lx [0, 3, 8] ?_; simp
 refine W.cond ⟨_, rfl, fun h => ?_, fun h => ?_⟩
 ·have hy : y.length = 0 := by simp at h; simp [h]
  rw [if_pos hy] at hz; subst hz
  refine W.sr ?_; simp (disch := omega) [gw]; refine W.lx [4] ?_; simp
  refine W.ret ?_
  simp [go]
 ·have hy : ¬ y.length = 0 := by simp at h; simp [h]
  rw [if_neg hy] at hz
  refine W.skip ?_
  refine W.seq ?_
  refine W.sr ?_
  simp (disch := omega) [gw]
  refine aA p1 ?_
  simp (disch := omega) [gw]
  refine W.lx [0, 3, 10] ?_; simp
  refine W.cond ⟨_, rfl, fun h => ?_, fun h => ?_⟩
  ·subst h
   rw [if_pos rfl] at hz; subst hz
   have k1' := k1 rfl
   refine W.sr ?_
   simp (disch := omega) [gw]
   refine aA k1' ?_
   simp (disch := omega) [gw]
   refine W.lx [4] ?_; simp
   refine W.ret ?_
   simp [go]
  ·subst h
   rw [if_neg (by decide)] at hz
   refine W.skip ?_
   refine W.sr ?_
   simp (disch := omega) [gw]
   refine aA k2 ?_
   simp (disch := omega) [gw]
   refine W.lx [3, 5] ?_; simp
   refine W.seq ?_
   refine W.sr ?_; simp (disch := omega) [gw]; refine W.lx [3, 5, 22] ?_; simp
   refine W.cond ⟨_, rfl, fun h => ?_, fun h => ?_⟩
   ·have mX : g.length < 2 := by simp at h; omega
    rw [if_pos mX] at hz; subst hz
    refine W.sr ?_; simp (disch := omega) [gw]; refine W.lx [4] ?_; simp
    refine W.ret ?_
    simp [go]
   ·have mX : ¬ g.length < 2 := by simp at h; omega
    rw [if_neg mX] at hz
    have k3' := k3 (by omega)
    have k4' := k4 (by omega)
    refine W.skip ?_
    refine W.sd ?_
    simp (disch := omega) [gw]
    refine aA k3' ?_
    simp (disch := omega) [gw]
    refine aA k4' ?_
    simp (disch := omega) [gw]
    refine W.lx [4] ?_; simp
    refine W.ret ?_
    simp [go, hz]
theorem A6 (U : Rat → Prop) (t : Rat) : cr U t = -1 ∨ cr U t = 0 ∨ cr U t = 1 := by
 unfold cr
 split
 ·split <;> simp
 ·simp
theorem VV {x y : List Int} {c d : List ZX} {an ad bn bd en ed gn gd r : Int} (hr : r = -1 ∨ r = 0 ∨ r = 1) (p1 : aI env.P 113 [.ag (uW x c an ad bn bd)] (.bool true)) (k1 : aI env.P 43 [.ag (uW y d en ed gn gd), R2 an ad] (.int .i64 r)) :
  aI env.P 42 [.ag (uW x c an ad bn bd), .ag (uW y d en ed gn gd)] (.int .i64 (-r)) := by
 have hw : IntKind.wrap .i64 (-r) = -r := wrap_i64 (by omega) (by omega)
 simp only [uW] at p1 k1 ⊢
 refine aB (E := env) (fun _ => 0) [(0, .ag [PI x, aJ zq c, aJ aF (aQ DD an.natAbs), .bool (decide (an < 0)), aJ aF (aQ DD ad.natAbs), .bool (decide (ad < 0)), aJ aF (aQ DD bn.natAbs), .bool (decide (bn < 0)), aJ aF (aQ DD bd.natAbs), .bool (decide (bd < 0))]), (1, .ag [PI y, aJ zq d, aJ aF (aQ DD en.natAbs), .bool (decide (en < 0)), aJ aF (aQ DD ed.natAbs), .bool (decide (ed < 0)), aJ aF (aQ DD gn.natAbs), .bool (decide (gn < 0)), aJ aF (aQ DD gd.natAbs), .bool (decide (gd < 0))])] Tryz.func42 rfl (by kernel_rfl) (by kernel_rfl) (show 2 ≤ 59 by decide) (by simp) ?_
 refine W.sr ?_; simp (disch := omega) [gw]; refine W.lx [2, 3] ?_; simp
 refine W.seq ?_
 refine W.sr ?_
 simp (disch := omega) [gw]
 refine aA p1 ?_
 simp (disch := omega) [gw]
 refine W.lx [2, 3, 6] ?_; simp
 refine W.cond ⟨_, rfl, fun h => ?_, fun h => ?_⟩
 ·refine W.sr ?_
  simp (disch := omega) [gw]
  refine aA k1 ?_
  simp (disch := omega) [gw, hw]
  refine W.lx [4] ?_; simp
  refine W.ret ?_
  simp [go]
 ·simp at h
theorem VW {x y : List Int} {c d : List ZX} {an ad bn bd en ed gn gd r : Int} (p1 : aI env.P 113 [.ag (uW x c an ad bn bd)] (.bool false)) (p2 : aI env.P 113 [.ag (uW y d en ed gn gd)] (.bool true)) (k1 : aI env.P 43 [.ag (uW x c an ad bn bd), R2 en ed] (.int .i64 r)) :
  aI env.P 42 [.ag (uW x c an ad bn bd), .ag (uW y d en ed gn gd)] (.int .i64 r) := by
 simp only [uW] at p1 p2 k1 ⊢
 refine aB (E := env) (fun _ => 0) [(0, .ag [PI x, aJ zq c, aJ aF (aQ DD an.natAbs), .bool (decide (an < 0)), aJ aF (aQ DD ad.natAbs), .bool (decide (ad < 0)), aJ aF (aQ DD bn.natAbs), .bool (decide (bn < 0)), aJ aF (aQ DD bd.natAbs), .bool (decide (bd < 0))]), (1, .ag [PI y, aJ zq d, aJ aF (aQ DD en.natAbs), .bool (decide (en < 0)), aJ aF (aQ DD ed.natAbs), .bool (decide (ed < 0)), aJ aF (aQ DD gn.natAbs), .bool (decide (gn < 0)), aJ aF (aQ DD gd.natAbs), .bool (decide (gd < 0))])] Tryz.func42 rfl (by kernel_rfl) (by kernel_rfl) (show 2 ≤ 59 by decide) (by simp) ?_
 refine W.sr ?_; simp (disch := omega) [gw]; refine W.lx [2, 3] ?_; simp
 refine W.seq ?_
 refine W.sr ?_
 simp (disch := omega) [gw]
 refine aA p1 ?_
 simp (disch := omega) [gw]
 refine W.lx [2, 3, 6] ?_; simp
 refine W.cond ⟨_, rfl, fun h => ?_, fun h => ?_⟩
 ·simp at h
 refine W.skip ?_
 refine W.seq ?_
 refine W.sr ?_
 simp (disch := omega) [gw]
 refine aA p2 ?_
 simp (disch := omega) [gw]
 refine W.lx [2, 3, 13] ?_; simp
 refine W.cond ⟨_, rfl, fun h => ?_, fun h => ?_⟩
 ·refine W.sr ?_
  simp (disch := omega) [gw]
  refine aA k1 ?_
  simp (disch := omega) [gw]
  refine W.lx [4] ?_; simp
  refine W.ret ?_
  simp [go]
 ·simp at h
section
variable {s n s' n' u : Nat} {f h : ZX} {p q : Rat × Rat} (I : mV s n f) (I' : mV s' n' h) (A : oY f (vt (bC f)) p.1 p.2) (B : oY h (vt (bC h)) q.1 q.2) (p1 : SQ u p.1) (p2 : SQ u p.2) (q1 : SQ u q.1) (q2 : SQ u q.2) (hu : u ≤ 1000000000)
include I I' A B p1 p2 q1 q2 hu
theorem aby (hp : p.1 = p.2 ∨ q.1 = q.2) : aI env.P 42 [QA f (bC f) p, QA h (bC h) q] (.int .i64 (cu (cX f p) (cX h q))) := by
 have e1 := qC (f := f) (c := bC f) p1 p2 hu
 have e2 := qC (f := h) (c := bC h) q1 q2 hu
 by_cases h1 : p.1 = p.2
 ·rw [decide_eq_true h1] at e1
  have k1 := I'.GV B q1 q2 p1 hu
  rw [nJ (SF h1) (fun _ => Iff.rfl), abx fun s t => B.up]
  rw [b9] at k1
  exact VV (A6 _ _) e1 k1
 ·rw [decide_eq_false h1] at e1
  have h2 : q.1 = q.2 := hp.resolve_left h1
  rw [decide_eq_true h2] at e2
  have k1 := I.GV A p1 p2 q1 hu
  rw [nJ (fun _ => Iff.rfl) (SF h2), VR fun s t => A.up]
  rw [b9] at k1
  exact VW e1 e2 k1
end
theorem ahd {u : Nat} {p q : Rat} (hp : SQ u p) (hq : SQ u q) : ∃ D, 1 ≤ D ∧ D ≤ 2 ^ (2 * u) ∧ Gr D (2 ^ u) 0 p ∧ Gr D (2 ^ u) 0 q := by
 have key : ∀ r : Rat, SQ u r → 1 ≤ r.den ∧ r.den ≤ 2 ^ u ∧ Ab r (2 ^ u) ∧ r * ((r.den : Int) : Rat) = (r.num : Rat) := fun r hr => by
  have h1 := r.den_pos
  have h2 := lF (b := 2) (by decide) (r.den : Int)
  have h3 := Nat.pow_le_pow_right (show 0 < 2 by decide) hr.d2
  have h4 := lF (b := 2) (by decide) r.num
  have h5 := Nat.pow_le_pow_right (show 0 < 2 by decide) hr.n2
  have h6 := GK r
  have h7 : Ab (r.num : Rat) (2 ^ u) := KR (by omega)
  have h8 : (1 : Rat) ≤ ((r.den : Int) : Rat) := eD (by omega)
  refine ⟨h1, by omega, ?_, h6.symm⟩
  rw [h6] at h7
  obtain ⟨g1, g2⟩ := h7
  have hT := gU u
  generalize (2 : Rat) ^ u = T at *
  constructor
  ·refine Rat.not_lt.1 fun hh => ?_
   have := Rat.mul_le_mul_of_nonneg_left h8 (show 0 ≤ -r by grind)
   grind
  ·refine Rat.not_lt.1 fun hh => ?_
   have := Rat.mul_le_mul_of_nonneg_left h8 (show 0 ≤ r by grind)
   grind
 obtain ⟨a1, a2, a3, a4⟩ := key p hp
 obtain ⟨b1, b2, b3, b4⟩ := key q hq
 refine ⟨p.den * q.den, Nat.mul_pos a1 b1, ?_, ⟨⟨p.num * (q.den : Int), ?_⟩, a3⟩, ⟨⟨q.num * (p.den : Int), ?_⟩, b3⟩⟩
 ·rw [Nat.two_mul, Nat.pow_add]; exact Nat.mul_le_mul a2 b2
 ·rw [Nat.pow_zero, Nat.mul_one, Rat.intCast_mul, ← a4, Int.natCast_mul p.den, Rat.intCast_mul]; grind
 ·rw [Nat.pow_zero, Nat.mul_one, Rat.intCast_mul, ← b4, Int.natCast_mul p.den, Rat.intCast_mul]; grind
theorem ahe {f : ZX} {p : Rat × Rat} {D j : Nat} {B : Rat} (h1 : Gr D B j p.1) (h2 : Gr D B j p.2) (hle : p.1 ≤ p.2) : Gr D B (j + 1) (hv f p).1 ∧ Gr D B (j + 1) (hv f p).2 ∧ ((hv f p).2 - (hv f p).1) * 2 ≤ p.2 - p.1 := by
 have hm := h1.G4 h2
 have e : (p.1 + p.2) / 2 * 2 = p.1 + p.2 := Rat.div_mul_cancel (by decide)
 have key : ∀ q : Rat × Rat, Gr D B (j + 1) q.1 → Gr D B (j + 1) q.2 → q.1 ≤ q.2 → (q.2 - q.1) * 2 ≤ p.2 - p.1 → Gr D B (j + 1) (ex f q).1 ∧ Gr D B (j + 1) (ex f q).2 ∧ ((ex f q).2 - (ex f q).1) * 2 ≤ p.2 - p.1 := fun q a1 a2 a3 a4 => by
  unfold ex
  split
  ·exact ⟨a2, a2, by show (q.2 - q.2) * 2 ≤ _; grind⟩
  ·exact ⟨a1, a2, a4⟩
 unfold hv
 split
 ·rename_i hh
  exact ⟨h1.mono (by omega), h2.mono (by omega), by rw [hh]; grind⟩
 ·split
  ·exact key (p.1, (p.1 + p.2) / 2) (h1.mono (by omega)) hm (by show p.1 ≤ _; grind) (by show ((p.1 + p.2) / 2 - p.1) * 2 ≤ _; grind)
  ·exact key ((p.1 + p.2) / 2, p.2) hm (h2.mono (by omega)) (by show _ ≤ p.2; grind) (by show (p.2 - (p.1 + p.2) / 2) * 2 ≤ _; grind)
theorem abz {s n s' n' S N u : Nat} {f fb : ZX} {p q : Rat × Rat} (I : mV s n f) (I' : mV s' n' fb) (T : Two S N f fb) (hS : S ≤ 20000) (hG : aI env.P 171 [PI fb.l, PI f.l] (PI (gz fb f).l)) (IG : 2 ≤ ZX.N (gz fb f) → ∃ sg ng, mV sg ng (gz fb f))
  (A : oY f (vt (bC f)) p.1 p.2) (B : oY fb (vt (bC fb)) q.1 q.2) (p1 : SQ u p.1) (p2 : SQ u p.2) (q1 : SQ u q.1) (q2 : SQ u q.2) (hu : u ≤ 2200000) : aI env.P 42 [QA f (bC f) p, QA fb (bC fb) q] (.int .i64 (cu (cX f p) (cX fb q))) := by
 by_cases hpt : p.1 = p.2 ∨ q.1 = q.2
 ·exact aby I I' A B p1 p2 q1 q2 (by omega) hpt
 obtain ⟨hp, hq⟩ := not_or.1 hpt
 have PG : p.1 < p.2 := by have := A.le; grind
 have hql : q.1 < q.2 := by have := B.le; grind
 have hTn := T.hn
 have hN1 := T.Nf
 have JM := T.Nh
 have e1 := qC (f := f) (c := bC f) p1 p2 (by omega)
 have e2 := qC (f := fb) (c := bC fb) q1 q2 (by omega)
 rw [decide_eq_false hp] at e1
 rw [decide_eq_false hq] at e2
 have ⟨zv, hzv, Z⟩ : ∃ z : Bool, (z = true ↔ vt (bC (gz fb f)) p.2 < vt (bC (gz fb f)) p.1) ∧ aI env.P 114 [PI fb.l, QA f (bC f) p] (.bool z) := by
  have hg0 : gz fb f ≠ 0 := agQ (.inr I.nf.ne)
  have hgN : ZX.N (gz fb f) ≤ ZX.N f := (gS fb f).r.rF I.nf.ne
  have uN : ¬ fb.l.length = 0 := by have := ZX.aD.1 I'.nf.ne; have : ZX.N fb = fb.l.length := rfl; omega
  by_cases h2 : 2 ≤ ZX.N (gz fb f)
  ·obtain ⟨sg, ng, IGG⟩ := IG h2
   have k4 := IGG.uK p1 p2 (by omega)
   rw [if_neg (Rat.not_lt.2 (Rat.le_of_lt PG)), b9, b9] at k4
   refine ⟨_, ?_, D8 (by show ZX.N fb < _; omega) (by show ZX.N (gz fb f) < _; omega) e1 (fun hh => by cases hh) hG (fun _ => IGG.GU) (fun _ => k4) (σ := 0) rfl⟩
   rw [if_neg uN, if_neg (by decide), if_neg (by show ¬ ZX.N (gz fb f) < 2; omega), decide_eq_true_eq]
   omega
  ·refine ⟨_, ?_, D8 (by show ZX.N fb < _; omega) (by show ZX.N (gz fb f) < _; omega) e1 (fun hh => by cases hh) hG (fun hh => absurd hh h2) (fun hh => absurd hh h2) (σ := 0) (b := 0) (cg := []) rfl⟩
   rw [if_neg uN, if_neg (by decide), if_pos (by show ZX.N (gz fb f) < 2; omega)]
   refine ⟨fun hh => absurd hh (by decide), fun hh => ?_⟩
   exfalso
   have : gz fb f = 1 := (Q5 (.inr I.nf.ne)).N1 (by omega)
   rw [this] at hh
   have hS1 := sqf ZX.pZ (fun d h1 h2 => by have := h1.rF ZX.pZ; rwa [ZX.z9] at this) (by rw [ZX.z9]; omega)
   have := hS1.const PG (σ := 1) (.inr (by rw [RJ]; decide)) (fun x _ _ => by rw [RJ]; decide)
   omega
 have r1 := I.GV A p1 p2 q1 (by omega)
 have r2 := I.GV A p1 p2 q2 (by omega)
 obtain ⟨D, hD1, G3, g1, g2⟩ := ahd p1 p2
 obtain ⟨D', aeZ, ae0, g1', g2'⟩ := ahd q1 q2
 have hK := ap9 (s := S) (β := u) hTn
 have aqa : ∀ r : Rat × Rat, Ab r.1 (2 ^ u) → Ab r.2 (2 ^ u) → r.2 - r.1 ≤ 2 ^ (u + 1) := fun r ⟨a1, a2⟩ ⟨a3, a4⟩ => by rw [Rat.pow_succ]; grind
 obtain ⟨J, hJ⟩ : ∃ J, J = kc S N u + u + 2 := ⟨_, rfl⟩
 have hJ2 : u + 1 + 2 * u + J + 1 ≤ 1000000000 := by omega
 have sqA : ∀ (D : Nat), 1 ≤ D → D ≤ 2 ^ (2 * u) → ∀ (j : Nat) (r : Rat), j ≤ J → Gr D (2 ^ u) j r → SQ (u + 1 + 2 * u + J + 1) r := fun D h1 h2 j r hj hr => ((hr.mono hj).sq h1 h2).mono (by omega)
 have sqS : ∀ (D : Nat), 1 ≤ D → D ≤ 2 ^ (2 * u) → ∀ (j : Nat) (r r' : Rat), j ≤ J → Gr D (2 ^ u) j r → Gr D (2 ^ u) j r' → SQ (u + 1 + 2 * u + J + 1) (r + r') := fun D h1 h2 j r r' hj hr jP => (((hr.add jP).mono hj).sq h1 h2)
 by_cases A7 : ∀ x, cX f p x ↔ cX fb q x
 ·-- avi are one
  have hz : zv = true := hzv.2 (VU T A B PG A7)
  subst hz
  have c1 : cr (cX f p) q.1 = 1 := oG.2 fun hh => B.oH (.inr ⟨rfl, hql⟩) ((A7 _).1 hh)
  have c2 : cr (cX f p) q.2 ≤ 0 := by
   rcases A6 (cX f p) q.2 with hh | hh | hh
   ·omega
   ·omega
   ·exact absurd ((A7 _).2 kW) (oG.1 hh)
  rw [c1] at r1
  rw [aeR.2 A7, qF, qF]
  rw [qF] at Z e1 e2 r1 r2
  rw [b9] at r1 r2
  generalize cr (cX f p) q.2 = r at *
  simp only [uW] at Z e1 e2 r1 r2 ⊢
  refine aB (E := env) (fun _ => 0) [(0, .ag (uW f.l (bC f) p.1.num p.1.den p.2.num p.2.den)), (1, .ag (uW fb.l (bC fb) q.1.num q.1.den q.2.num q.2.den))] Tryz.func42 rfl (by kernel_rfl) (by kernel_rfl) (show 2 ≤ 59 by decide) (by simp) ?_
  refine W.sr ?_
  simp (disch := omega) [gw]
  refine W.lx [2, 3] ?_; simp
  refine W.seq ?_
  refine W.sr ?_
  simp (disch := omega) [gw]
  refine aA e1 ?_
  simp (disch := omega) [gw]
  refine W.lx [2, 3, 6] ?_; simp
  refine W.cond ⟨_, rfl, fun h => ?_, fun h => ?_⟩
  ·simp at h
  refine W.skip ?_
  refine W.seq ?_
  refine W.sr ?_
  simp (disch := omega) [gw]
  refine aA e2 ?_
  simp (disch := omega) [gw]
  refine W.lx [2, 3, 13] ?_; simp
  refine W.cond ⟨_, rfl, fun h => ?_, fun h => ?_⟩
  ·simp at h
  refine W.skip ?_
  refine W.fX (fun σ => False) ?_ (fun _ hh => hh.elim)
  refine W.sr ?_
  simp (disch := omega) [gw]
  refine aA Z ?_
  simp (disch := omega) [gw]
  refine W.lx [2, 3, 21] ?_; simp
  refine W.cond ⟨_, rfl, fun h => ?_, fun h => ?_⟩
  ·refine W.sr ?_
   simp (disch := omega) [gw]
   refine aA r1 ?_
   simp (disch := omega) [gw]
   refine aA r2 ?_
   simp (disch := omega) [gw, c2]
   refine W.lx [2, 3, 33] ?_; simp
   refine W.cond ⟨_, rfl, fun h => ?_, fun h => ?_⟩
   ·refine W.sr ?_; simp (disch := omega) [gw]; refine W.lx [4] ?_; simp
    refine W.ret ?_
    simp [go]
   ·simp at h
  ·simp at h
 ·-- avi are two
  have CF : zv = true → ¬ (0 < cr (cX f p) q.1 ∧ cr (cX f p) q.2 ≤ 0) := fun hz ⟨c1, c2⟩ => A7 (VT T A B PG hql (by
   rcases A6 (cX f p) q.1 with hh | hh | hh
   ·omega
   ·omega
   ·exact oG.1 hh) (Classical.byContradiction fun hh => by have := oG.2 hh; omega) (hzv.1 hz))
  have hsw : ¬ ∀ x, gK (vt (bC f)) p.1 p.2 x ↔ gK (vt (bC fb)) q.1 q.2 x := A7
  rw [qF, qF]
  rw [qF] at Z e1 e2 r1 r2
  rw [b9] at r1 r2
  generalize hv1 : cr (cX f p) q.1 = x1 at *
  generalize hv2 : cr (cX f p) q.2 = x2 at *
  clear hv1 hv2
  simp only [uW] at Z e1 e2 r1 r2 ⊢
  refine aB (E := env) (fun _ => 0) [(0, .ag (uW f.l (bC f) p.1.num p.1.den p.2.num p.2.den)), (1, .ag (uW fb.l (bC fb) q.1.num q.1.den q.2.num q.2.den))] Tryz.func42 rfl (by kernel_rfl) (by kernel_rfl) (show 2 ≤ 59 by decide) (by simp) ?_
  refine W.sr ?_
  simp (disch := omega) [gw]
  refine W.lx [2, 3] ?_; simp
  refine W.seq ?_
  refine W.sr ?_
  simp (disch := omega) [gw]
  refine aA e1 ?_
  simp (disch := omega) [gw]
  refine W.lx [2, 3, 6] ?_; simp
  refine W.cond ⟨_, rfl, fun h => ?_, fun h => ?_⟩
  ·simp at h
  refine W.skip ?_
  refine W.seq ?_
  refine W.sr ?_
  simp (disch := omega) [gw]
  refine aA e2 ?_
  simp (disch := omega) [gw]
  refine W.lx [2, 3, 13] ?_; simp
  refine W.cond ⟨_, rfl, fun h => ?_, fun h => ?_⟩
  ·simp at h
  refine W.skip ?_
  refine W.fX (fun σ => ∃ (v2 v3 : Nat) (rows : Pm.Rows) (clk : Nat), σ = ⟨fa [(2, .ptr 2 v2 0 0), (3, .ptr 3 v3 0 0)], rows, clk⟩ ∧ rows 2 = some ⟨v2, 68, 10, [uW f.l (bC f) p.1.num p.1.den p.2.num p.2.den]⟩ ∧ rows 3 = some ⟨v3, 68, 10, [uW fb.l (bC fb) q.1.num q.1.den q.2.num q.2.den]⟩) ?_ ?_
  ·refine W.sr ?_
   simp (disch := omega) [gw]
   refine aA Z ?_
   simp (disch := omega) [gw]
   refine W.lx [2, 3, 21] ?_; simp
   refine W.cond ⟨_, rfl, fun h => ?_, fun h => ?_⟩
   ·have hc := CF h
    by_cases hx1 : 0 < x1
    ·have hx2 : ¬ x2 ≤ 0 := fun hh => hc ⟨hx1, hh⟩
     refine W.sr ?_
     simp (disch := omega) [gw]
     refine aA r1 ?_
     simp (disch := omega) [gw, hx1]
     refine aA r2 ?_
     simp (disch := omega) [gw, hx2]
     refine W.lx [2, 3, 33] ?_; simp
     refine W.cond ⟨_, rfl, fun h => ?_, fun h => ?_⟩
     ·simp at h
     ·refine W.skip ?_
      exact ⟨_, aC _ [2, 3], _, _, _, _, rfl, by simp, by simp⟩
    ·refine W.sr ?_
     simp (disch := omega) [gw]
     refine aA r1 ?_
     simp (disch := omega) [gw, hx1]
     refine W.lx [2, 3, 33] ?_; simp
     refine W.cond ⟨_, rfl, fun h => ?_, fun h => ?_⟩
     ·simp at h
     ·refine W.skip ?_
      exact ⟨_, aC _ [2, 3], _, _, _, _, rfl, by simp, by simp⟩
   ·refine W.skip ?_
    exact ⟨_, aC _ [2, 3], _, _, _, _, rfl, by simp, by simp⟩
  rintro _ ⟨v2, v3, rows, clk, rfl, cI, fQ⟩
  clear Z e1 e2 r1 r2
  refine W.block ?_
  refine W.a9 (fun k σ => ∃ (a b : Rat × Rat) (j v2 v3 : Nat) (rows : Pm.Rows) (clk : Nat), σ = ⟨fa [(2, .ptr 2 v2 0 0), (3, .ptr 3 v3 0 0)], rows, clk⟩ ∧ rows 2 = some ⟨v2, 68, 10, [uW f.l (bC f) a.1.num a.1.den a.2.num a.2.den]⟩ ∧ rows 3 = some ⟨v3, 68, 10, [uW fb.l (bC fb) b.1.num b.1.den b.2.num b.2.den]⟩ ∧
   oY f (vt (bC f)) a.1 a.2 ∧ oY fb (vt (bC fb)) b.1 b.2 ∧ (∀ x, cX f a x ↔ cX f p x) ∧ (∀ x, cX fb b x ↔ cX fb q x) ∧ Gr D (2 ^ u) j a.1 ∧ Gr D (2 ^ u) j a.2 ∧ Gr D' (2 ^ u) j b.1 ∧ Gr D' (2 ^ u) j b.2 ∧ (a.2 - a.1) * 2 ^ j ≤ 2 ^ (u + 1) ∧ (b.2 - b.1) * 2 ^ j ≤ 2 ^ (u + 1) ∧ j + k = J) J ?_ ?_
  ·exact ⟨_, .refl, p, q, 0, _, _, _, _, rfl, cI, fQ, A, B, fun _ => Iff.rfl, fun _ => Iff.rfl, g1, g2, g1', g2', by rw [Rat.pow_zero, Rat.mul_one]; exact aqa p g1.b g2.b, by rw [Rat.pow_zero, Rat.mul_one]; exact aqa q g1'.b g2'.b, by omega⟩
  rintro k _ ⟨a, b, j, v2, v3, rows, clk, rfl, cI, fQ, HA, HB, ha, hb, ga1, ga2, gb1, gb2, wa, wb, hjk⟩
  have s1 := sqA D hD1 G3 j a.1 (by omega) ga1
  have s2 := sqA D hD1 G3 j a.2 (by omega) ga2
  have s3 := sqA D' aeZ ae0 j b.1 (by omega) gb1
  have s4 := sqA D' aeZ ae0 j b.2 (by omega) gb2
  have e1 := qC (f := f) (c := bC f) s1 s2 hJ2
  have e2 := qC (f := fb) (c := bC fb) s3 s4 hJ2
  rw [qF] at e1 e2
  simp only [uW] at e1 e2 cI fQ
  refine W.block ?_
  refine W.seq ?_
  by_cases hpt : a.1 = a.2 ∨ b.1 = b.2
  ·have C := aby I I' HA HB s1 s2 s3 s4 hJ2 hpt
   rw [nJ ha hb, qF, qF] at C
   simp only [uW] at C
   by_cases h1 : a.1 = a.2
   ·rw [decide_eq_true h1] at e1
    refine W.sr ?_
    simp (disch := omega) [gw, cI]
    refine aA e1 ?_
    simp (disch := omega) [gw]
    refine W.lx [2, 3, 39] ?_; simp
    refine W.cond ⟨_, rfl, fun h => ?_, fun h => ?_⟩
    ·refine W.sr ?_
     simp (disch := omega) [gw, cI, fQ]
     refine aA C ?_
     simp (disch := omega) [gw]
     refine W.lx [4] ?_; simp
     refine W.ret ?_
     simp [go]
    ·simp at h
   ·rw [decide_eq_false h1] at e1
    rw [decide_eq_true (hpt.resolve_left h1)] at e2
    refine W.sr ?_
    simp (disch := omega) [gw, cI, fQ]
    refine aA e1 ?_
    simp (disch := omega) [gw, cI, fQ]
    refine aA e2 ?_
    simp (disch := omega) [gw]
    refine W.lx [2, 3, 39] ?_; simp
    refine W.cond ⟨_, rfl, fun h => ?_, fun h => ?_⟩
    ·refine W.sr ?_
     simp (disch := omega) [gw, cI, fQ]
     refine aA C ?_
     simp (disch := omega) [gw]
     refine W.lx [4] ?_; simp
     refine W.ret ?_
     simp [go]
    ·simp at h
  ·obtain ⟨h1, h2⟩ := not_or.1 hpt
   rw [decide_eq_false h1] at e1
   rw [decide_eq_false h2] at e2
   have hal : a.1 < a.2 := by have := HA.le; grind
   have V1 : b.1 < b.2 := by have := HB.le; grind
   have m1 := kF a.2 b.1 (s2.yy hJ2) (s3.yy hJ2)
   have m2 := kF b.2 a.1 (s4.yy hJ2) (s1.yy hJ2)
   rw [b9, b9] at m1 m2
   refine W.sr ?_
   simp (disch := omega) [gw, cI, fQ]
   refine aA e1 ?_
   simp (disch := omega) [gw, cI, fQ]
   refine aA e2 ?_
   simp (disch := omega) [gw]
   refine W.lx [2, 3, 39] ?_; simp
   refine W.cond ⟨_, rfl, fun h => ?_, fun h => ?_⟩
   ·simp at h
   refine W.skip ?_
   refine W.seq ?_
   refine W.sr ?_
   simp (disch := omega) [gw, cI, fQ]
   refine aA m1 ?_
   simp (disch := omega) [gw]
   refine W.lx [2, 3, 48] ?_; simp
   refine W.cond ⟨_, rfl, fun h => ?_, fun h => ?_⟩
   ·simp at h
    rw [qD] at h
    have hcu : cu (cX f p) (cX fb q) = -1 := by rw [← nJ ha hb]; exact ap7 HB h V1
    rw [hcu]
    refine W.sr ?_; simp (disch := omega) [gw]; refine W.lx [4] ?_; simp
    refine W.ret ?_
    simp [go]
   ·simp at h
    rw [← Int.not_le, qD] at h
    have gE := Rat.not_le.1 h
    refine W.skip ?_
    refine W.seq ?_
    refine W.sr ?_
    simp (disch := omega) [gw, cI, fQ]
    refine aA m2 ?_
    simp (disch := omega) [gw]
    refine W.lx [2, 3, 54] ?_; simp
    refine W.cond ⟨_, rfl, fun h => ?_, fun h => ?_⟩
    ·simp at h
     rw [qD] at h
     have hcu : cu (cX f p) (cX fb q) = 1 := by rw [← nJ ha hb]; exact ap8 HA HB h hal
     rw [hcu]
     refine W.sr ?_; simp (disch := omega) [gw]; refine W.lx [4] ?_; simp
     refine W.ret ?_
     simp [go]
    ·simp at h
     rw [← Int.not_le, qD] at h
     have hba := Rat.not_le.1 h
     have hk : k ≠ 0 := fun wL => by
      have hjJ : j = J := by omega
      refine A7 fun x => ?_
      have hP := gU j
      have hW : ∀ w : Rat, w * 2 ^ j ≤ 2 ^ (u + 1) → w ≤ 2 ^ (u + 1) / 2 ^ j := fun w hw => Rat.not_lt.1 fun eZ => by
       have e0 : (2 : Rat) ^ (u + 1) / 2 ^ j * 2 ^ j = 2 ^ (u + 1) := Rat.div_mul_cancel (Rat.ne_of_gt hP)
       have := Rat.mul_lt_mul_of_pos_right eZ hP
       grind
      have := VS (W := 2 ^ (u + 1) / 2 ^ j) T HA HB hal V1 hba gE ga1.b ga2.b gb1.b gb2.b (hW _ wa) (hW _ wb) (by
       have e0 : (2 : Rat) ^ (u + 1) / 2 ^ j * 2 ^ j = 2 ^ (u + 1) := Rat.div_mul_cancel (Rat.ne_of_gt hP)
       have e3 : (2 : Rat) ^ j = 2 ^ kc S N u * 2 ^ (u + 2) := by rw [← oF, hjJ, hJ]; congr 1
       have e4 : (2 : Rat) ^ (u + 2) = 2 ^ (u + 1) * 2 := by rw [← Rat.pow_succ]
       have hQ := gU (kc S N u)
       have hR := gU (u + 1)
       rw [e4] at e3
       generalize (2 : Rat) ^ (u + 1) / 2 ^ j = W at *
       rw [e3] at e0
       generalize (2 : Rat) ^ kc S N u = κ at *
       generalize (2 : Rat) ^ (u + 1) = R at *
       have e5 : R * (2 * W * κ) = R * 1 := by grind
       have e6 := Rat.le_of_mul_le_mul_left (show R * (2 * W * κ) ≤ R * 1 by rw [e5]; exact Rat.le_refl) hR
       exact e6) x
      exact (ha x).symm.trans (this.trans (hb x))
     obtain ⟨k', rfl⟩ : ∃ k', k = k' + 1 := ⟨k - 1, by omega⟩
     have ma := ga1.G4 ga2
     have mb := gb1.G4 gb2
     have H1 := I.aha (u := u + 1 + 2 * u + J + 1) (Rat.le_of_lt hal) s1 s2 (sqA D hD1 G3 (j + 1) _ (by omega) ma) (sqS D hD1 G3 j _ _ (by omega) ga1 ga2) hJ2
     have H2 := I'.aha (u := u + 1 + 2 * u + J + 1) (Rat.le_of_lt V1) s3 s4 (sqA D' aeZ ae0 (j + 1) _ (by omega) mb) (sqS D' aeZ ae0 j _ _ (by omega) gb1 gb2) hJ2
     obtain ⟨ha1, ha2⟩ := SD HA
     obtain ⟨EM, vZ⟩ := SD HB
     obtain ⟨ga3, ga4, wa'⟩ := ahe (f := f) ga1 ga2 (Rat.le_of_lt hal)
     obtain ⟨gb3, gb4, wb'⟩ := ahe (f := fb) gb1 gb2 (Rat.le_of_lt V1)
     rw [qF, qF] at H1 H2
     simp only [uW] at H1 H2
     have hwd : ∀ w w' : Rat, w * 2 ^ j ≤ 2 ^ (u + 1) → w' * 2 ≤ w → w' * 2 ^ (j + 1) ≤ 2 ^ (u + 1) := fun w w' g1 g2 => by
      have hP := gU j
      have g3 := Rat.mul_le_mul_of_nonneg_right g2 (Rat.le_of_lt hP)
      rw [Rat.pow_succ]
      grind
     have wa2 := hwd _ _ wa wa'
     have wb2 := hwd _ _ wb wb'
     have ha3 : ∀ x, cX f (hv f a) x ↔ cX f p x := fun x => (ha2 x).trans (ha x)
     have hb3 : ∀ x, cX fb (hv fb b) x ↔ cX fb q x := fun x => (vZ x).trans (hb x)
     generalize hv f a = a' at *
     generalize hv fb b = b' at *
     refine W.skip ?_
     refine W.M3 (fun K hK => ?_)
     simp (disch := omega) [gw, cI, fQ]
     refine aA H1 ?_
     simp (disch := omega) [gw, cI, fQ]
     refine aA H2 ?_
     (try (refine bN (of_decide_eq_true (by kernel_rfl)) ?_)); (try simp (maxSteps := 4000000) (disch := omega) [gw, cI, fQ, eV]); (repeat rw [if_pos (by kernel_rfl)]); (try simp (maxSteps := 4000000) (disch := omega) [gw, cI, fQ, eV])
     (try (refine bN (of_decide_eq_true (by kernel_rfl)) ?_)); (try simp (maxSteps := 4000000) (disch := omega) [gw, cI, fQ, eV]); (repeat rw [if_pos (by kernel_rfl)]); (try simp (maxSteps := 4000000) (disch := omega) [gw, cI, fQ, eV])
     (try (refine bN (of_decide_eq_true (by kernel_rfl)) ?_)); (try simp (maxSteps := 4000000) (disch := omega) [gw, cI, fQ, eV]); (repeat rw [if_pos (by kernel_rfl)]); (try simp (maxSteps := 4000000) (disch := omega) [gw, cI, fQ, eV])
     refine hK _ ⟨k', _, aC _ [2, 3], by omega, a', b', j + 1, _, _, _, _, rfl, by simp, by simp, ha1, EM, ha3, hb3, ga3, ga4, gb3, gb4, wa2, wb2, by omega⟩
theorem ae2 {f : ZX} (nf : Nf f) : gz f f = f := by
 have h : oW f f f := ⟨dv.refl f, dv.refl f, ⟨1, by decide, 1, 0, by show (1 : ZX) * f = _; grind⟩⟩
 rw [J5 h, nf.nfe]
namespace mV
variable {s n : Nat} {f : ZX} (I : mV s n f)
include I
theorem two : Two s n f f := ⟨I.nf, I.nf, I.cop, I.cop, I.szf, I.szf, I.ch.bz.N, I.ch.bz.N, I.ch.hn, I.lay.hs⟩
theorem ae3 : aI env.P 171 [PI f.l, PI f.l] (PI (gz f f).l) := by
 have hC := I.lay.hC
 have hn := I.ch.hn
 have hq : s + n + 1 ≤ qb s n := by
  unfold qb
  have := I.uB
  have : 1 * (2 * s + 5) ≤ n * (2 * s + 5) := Nat.mul_le_mul_right _ I.uB
  have hh := I.lay.hs
  have h2 : n < 2 ^ s := by omega
  have h3 : n ≤ n * (2 * s + 5) := Nat.le_mul_of_pos_right _ (by omega)
  have h4 : n * (2 * s + 5) = n * (2 * s) + n * 5 := Nat.mul_add _ _ _
  omega
 refine DU (C := 4500000000) I.ch.bz I.ch.bz ?_ hn (by decide) I.s1
 rw [I.nf.nfe]
 unfold xU
 rw [if_neg (by omega)]
 have h4 : (4 : Nat) ^ ZX.N f ≤ 4 ^ n := Nat.pow_le_pow_right (by decide) I.ch.bz.N
 refine Nat.le_trans (Nat.mul_le_mul (show (s + n + 1) * 2 ≤ qb s n + n + 6 by unfold qb at *; have := I.lay.hs; have h5 : 1 * (2 * s + 5) ≤ n * (2 * s + 5) := Nat.mul_le_mul_right _ I.uB; have h3 : n * 5 ≤ n * (2 * s + 5) := Nat.mul_le_mul_left _ (by omega); omega) h4) hC
theorem cmp (hs : s ≤ 20000) {u : Nat} {p q : Rat × Rat} (A : oY f (vt (bC f)) p.1 p.2) (B : oY f (vt (bC f)) q.1 q.2) (p1 : SQ u p.1) (p2 : SQ u p.2) (q1 : SQ u q.1) (q2 : SQ u q.2) (hu : u ≤ 2200000) : aI env.P 42 [QA f (bC f) p, QA f (bC f) q] (.int .i64 (cu (cX f p) (cX f q))) :=
 abz I I I.two hs I.ae3 (fun _ => ⟨s, n, by rw [ae2 I.nf]; exact I⟩) A B p1 p2 q1 q2 hu
end mV
theorem A8 {f : ZX} {c : List ZX} {l m : List (Rat × Rat)} (hl : l.length = m.length) (ZC : l.length < 1000000) (hv : ∀ i, i < l.length → aI env.P 38 [GA f (nth l i)] (.bool true) ∧ aI env.P 41 [GA f (nth l i)] (QA f c (ex f (nth l i))) ∧ aI env.P 42 [QA f c (ex f (nth l i)), QA f c (nth m i)] (.int .i64 0)) :
  aI env.P 23 [aJ (ga f) l, aJ (qa f c) m] (.bool true) := by
 refine aB (E := env) (fun _ => 0) [(0, aJ (ga f) l), (1, aJ (qa f c) m)] Tryz.func23 rfl (by kernel_rfl) (by kernel_rfl) (show 2 ≤ 36 by decide) (by simp) ?_
 refine W.sr ?_; simp (disch := omega) [gw]; refine W.lx [0, 1] ?_; simp
 refine W.seq ?_
 have e1 : ((l.length : Int) != (m.length : Int)) = false := by rw [hl]; simp
 refine W.sr ?_
 simp (disch := omega) [gw, e1]
 refine W.lx [0, 1, 10] ?_; simp
 refine W.cond ⟨_, rfl, fun h => ?_, fun h => ?_⟩
 ·simp at h
 refine W.skip ?_
 refine W.seq ?_
 refine W.sr ?_; simp (disch := omega) [gw]; refine W.lx [0, 1, 12, 13] ?_; simp
 refine W.block ?_
 refine W.a9 (fun k σ => ∃ (i : Nat) (rows : Pm.Rows) (clk : Nat), σ = ⟨fa [(0, aJ (ga f) l), (1, aJ (qa f c) m), (12, .int .i64 l.length), (13, .int .i64 i)], rows, clk⟩ ∧ i + k = l.length) l.length ?_ ?_
 ·exact ⟨_, .refl, 0, _, _, rfl, by omega⟩
 rintro k _ ⟨i, rows, clk, rfl, I0⟩
 refine W.sr ?_; simp (disch := omega) [gw]; refine W.lx [0, 1, 12, 13, 14] ?_; simp
 refine W.seq ?_
 refine W.cond ⟨_, rfl, fun h => ?_, fun h => ?_⟩
 ·have hi : i < l.length := by simp at h; omega
  have BB : i < m.length := by omega
  obtain ⟨v1, v2, v3⟩ := hv i hi
  simp only [GA, QA, qa, ga, List.cons_append, List.nil_append] at v1 v2 v3
  refine W.skip ?_
  refine W.seq ?_
  refine W.block ?_
  refine W.sr ?_; simp (disch := omega) [gw]; refine W.lx [0, 1, 5, 12, 13] ?_; simp
  refine W.sd ?_
  simp (disch := omega) [gw, hi, BB]
  refine aA v1 ?_
  simp (disch := omega) [gw, hi, BB]
  refine aA v2 ?_
  simp (disch := omega) [gw, hi, BB]
  refine aA v3 ?_
  simp (disch := omega) [gw, hi, BB]
  refine W.lx [0, 1, 12, 13, 34] ?_; simp
  refine W.cond ⟨_, rfl, fun h => ?_, fun h => ?_⟩
  ·simp at h
  ·refine W.skip ?_
   refine W.b8 (fun K hK => ?_); simp (disch := omega) [gw]
   refine hK _ ⟨k - 1, _, aC _ [0, 1, 12, 13], by omega, i + 1, _, _, rfl, by omega⟩
 ·refine W.exit ?_; simp only [pX, if_true, if_false, reduceIte, Nat.reduceEqDiff]
  refine W.sr ?_; simp (disch := omega) [gw]; refine W.lx [4] ?_; simp
  refine W.ret ?_
  simp [go]
theorem mV.right {s n : Nat} {f : ZX} (I : mV s n f) (hs : s ≤ 20000) (hN : 2 ≤ ZX.N f) {l m : List (Rat × Rat)} (hl : l.length = m.length) {u : Nat} (hu : u ≤ 2200000) (h1 : ∀ p ∈ l, oY f (vt (bC f)) p.1 p.2 ∧ SQ u p.1 ∧ SQ u p.2) (h2 : ∀ p ∈ m, oY f (vt (bC f)) p.1 p.2 ∧ SQ u p.1 ∧ SQ u p.2)
  (h3 : ∀ i, i < l.length → ∀ t, cX f (nth l i) t ↔ cX f (nth m i) t) (ZC : l.length < 1000000) : aI env.P 23 [aJ (ga f) l, aJ (qa f (bC f)) m] (.bool true) := by
 refine A8 hl ZC fun i hi => ?_
 obtain ⟨a1, a2, a3⟩ := h1 _ (bQ hi)
 obtain ⟨b1, b2, b3⟩ := h2 _ (bQ (show i < m.length by omega))
 obtain ⟨c1, c2⟩ := GW a1
 have c3 : SQ u (ex f (nth l i)).1 ∧ SQ u (ex f (nth l i)).2 := by
  unfold ex; split
  ·exact ⟨a3, a3⟩
  ·exact ⟨a2, a3⟩
 refine ⟨I.valid a1 hN a2 a3 (by omega), I.ap6 a2 a3 (by omega), ?_⟩
 have := I.cmp hs c1 b1 c3.1 c3.2 b2 b3 hu
 rwa [nJ (fun t => (c2 t).trans (h3 i hi t)) (fun _ => Iff.rfl), aeQ] at this
theorem O5 {α β : Type} [Inhabited α] [Inhabited β] {g : α → β} {l : List α} {i : Nat} (h : i < l.length) : nth (l.map g) i = g (nth l i) := by
 rw [cS (by simpa using h), cS h, List.getElem_map]
theorem mV.O6 {s n : Nat} {f : ZX} (I : mV s n f) (hs : s ≤ 20000) (hN : 2 ≤ ZX.N f) : aI env.P 23 [aJ (ga f) (A4 s n f), aJ (qa f (bC f)) ((A4 s n f).map (ex f))] (.bool true) := by
 have V := I.ivs
 have hA : ∀ p ∈ A4 s n f, oY f (vt (bC f)) p.1 p.2 ∧ SQ (uu s) p.1 ∧ SQ (uu s) p.2 := fun p hp => by
  obtain ⟨a1, a2, a3, a4, a5, a6⟩ := V.mem p hp
  exact ⟨⟨I.S, .inr ⟨a4, a6⟩⟩, a1, a2⟩
 refine I.right hs hN (by simp) (u := uu s) (by unfold uu; omega) hA (fun p hp => ?_) (fun i hi t => ?_) (by have := GS I; omega)
 ·obtain ⟨p0, SR, rfl⟩ := List.mem_map.1 hp
  obtain ⟨a1, a2, a3⟩ := hA p0 SR
  refine ⟨(GW a1).1, ?_, ?_⟩ <;> (unfold ex; split <;> assumption)
 ·rw [O5 hi]
  exact ((GW (hA _ (bQ hi)).1).2 t).symm
theorem D9 {s n : Nat} {f : ZX} (I : mV s n f) (hN : ZX.N f ≤ 1) : A4 s n f = [] := by
 have V := I.ivs.len
 have h1 : f = 1 := I.nf.N1 hN
 have h2 := I.S.const I.SA (σ := 1) (.inr (by rw [h1, RJ]; decide)) (fun x _ _ => by rw [h1, RJ]; decide)
 rw [h2, Nat.sub_self] at V
 exact List.eq_nil_of_length_eq_zero V
theorem VX {f : ZX} {c : List ZX} : aI env.P 23 [aJ (ga f) [], aJ (qa f c) []] (.bool true) := A8 rfl (by simp) fun i hi => absurd hi (by simp)
theorem mV.K1 {s n : Nat} {f : ZX} (I : mV s n f) (hs : s ≤ 20000) : aI env.P 23 [aJ (ga f) (A4 s n f), aJ (qa f (bC f)) ((A4 s n f).map (ex f))] (.bool true) := by
 by_cases hN : 2 ≤ ZX.N f
 ·exact I.O6 hs hN
 ·rw [D9 I (by omega)]
  exact VX
end Go.Proofs.YtbbjgncblhfegaaGreat
namespace Go.Proofs.YtbbjgncblhfegaaGreat
open Go Pm
open ZX hiding N W
abbrev G9 (x : List Int) (an ad bn bd : Int) : List PV := [Po x, .bool (decide (an < 0)), us (aQ LL an.natAbs), .bool (decide (ad < 0)), us (aQ LL ad.natAbs), .bool (decide (bn < 0)), us (aQ LL bn.natAbs), .bool (decide (bd < 0)), us (aQ LL bd.natAbs)]
section
variable {x d : List Int} {c : List ZX} {an ad bn bd z b σ : Int} {cop : Bool} (hx : x.length < 1000000) (f1 : aI env.P 101 [Po x] (Po x)) (f2 : aI env.P 102 [Po x] (.int .i64 ((x.length : Int) - 1))) (f3 : aI env.P 104 [Po x] (Po d)) (f4 : aI env.P 103 [Po x, Po d] (.bool cop))
  (k3 : aI env.P 105 [T2 an ad, T2 bn bd] (.int .i64 z)) (k4 : aI env.P 82 [Po x] (.eP [CH c, .int .i64 0])) (k5 : aI env.P 106 [CH c, T2 an ad, T2 bn bd] (.int .i64 b)) (k6 : aI env.P 62 [Po x, T2 an ad] (.int .i64 σ))
include hx f1 f2
include f3 f4
include k3 k4 k5 k6
end
def VY (sg : ZX → Int) : Nat → ZX → Int
 | 0, _ => 0
 | k + 1, p => if sg p = 0 then VY sg k (bK p) else sg p
theorem nK {sg : ZX → Int} (h0 : sg 0 = 0) : ∀ k, VY sg k 0 = 0
 | 0 => rfl
 | k + 1 => by
  have h1 : bK 0 = 0 := rfl
  rw [VY, if_pos h0, h1, nK h0 k]
theorem abA {sg : ZX → Int} (h0 : sg 0 = 0) : ∀ {k j : Nat} {p : ZX}, ZX.N p ≤ k → ZX.N p ≤ j → VY sg k p = VY sg j p
 | 0, j, p, h, _ => by
  have : p = 0 := Classical.byContradiction fun h0 => by have := ZX.aD.1 h0; omega
  rw [this, nK h0, nK h0]
 | k + 1, 0, p, _, h => by
  have : p = 0 := Classical.byContradiction fun h0 => by have := ZX.aD.1 h0; omega
  rw [this, nK h0, nK h0]
 | k + 1, j + 1, p, h1, h2 => by
  rw [VY, VY]
  have := kN p
  rw [abA h0 (k := k) (j := j) (p := bK p) (by omega) (by omega)]
theorem A9 (g : FuncId) (hw : E9 g = false) (bR : List PV) (hc : bR.all eY = true) (sg : ZX → Int) (h0 : sg 0 = 0) {s k : Nat} {p : ZX} (hp : BZ s k p) (hk : k ≤ 31) (hs : s ≤ 1000000) (hg : ∀ (q : ZX) (s' : Nat), s' ≤ s + 5 * k → BZ s' k q → aI env.P g (Po q.l :: bR) (.int .i64 (sg q))) :
  aI env.P 130 [Po p.l, .fn g bR] (.int .i64 (VY sg (ZX.N p) p)) := by
 have hN := hp.N
 have N1 := fG (x := p.l) (hp.pb (by omega) (by omega))
 rw [p.c] at N1
 obtain ⟨r, hr⟩ : ∃ r, r = VY sg (ZX.N p) p := ⟨_, rfl⟩
 rw [← hr]
 refine aB (E := env) (fun _ => 0) [(0, Po p.l), (1, .fn g bR)] Tryz.func130 rfl (by kernel_rfl) (by kernel_rfl) (show 2 ≤ 19 by decide) (by simp) ?_
 refine W.sr ?_; simp (disch := omega) [gw]; refine W.lx [0, 1] ?_; simp
 refine W.seq ?_
 refine W.sr ?_
 simp (disch := omega) [gw]
 refine aA N1 ?_
 simp (disch := omega) [gw]
 refine W.lx [0, 1] ?_; simp
 refine W.block ?_
 refine W.a9 (fun m σ => ∃ (q : ZX) (s' : Nat) (rows : Pm.Rows) (clk : Nat), σ = ⟨fa [(0, Po q.l), (1, .fn g bR)], rows, clk⟩ ∧ m = ZX.N q ∧ BZ s' k q ∧ s' + 5 * ZX.N q ≤ s + 5 * k ∧ VY sg (ZX.N q) q = r) (ZX.N p) ?_ ?_
 ·exact ⟨_, .refl, p, s, _, _, rfl, rfl, hp, by omega, hr.symm⟩
 rintro m _ ⟨q, s', rows, clk, rfl, rfl, bq, hsq, hq⟩
 have hNq := bq.N
 have hNl : ZX.N q = q.l.length := rfl
 refine W.seq ?_
 refine W.sr ?_; simp (disch := omega) [gw]; refine W.lx [0, 1, 10] ?_; simp
 refine W.cond ⟨_, rfl, fun h => ?_, fun h => ?_⟩
 ·have BX : q ≠ 0 := ZX.aD.2 (by show 0 < q.l.length; simp at h; omega)
  have hgq := hg q s' (by omega) bq
  have hD := sI bq (by omega) (by omega)
  have aj7 : ZX.N (bK q) < ZX.N q := by have := kN q; have := ZX.aD.1 BX; omega
  have bd := bq.bK hk
  obtain ⟨j, hj⟩ : ∃ j, ZX.N q = j + 1 := ⟨ZX.N q - 1, by have := ZX.aD.1 BX; omega⟩
  rw [hj, VY] at hq
  generalize hv : sg q = w at *
  refine W.skip ?_
  refine W.seq ?_
  refine W.block ?_
  refine W.sr ?_
  simp only [E9] at hw
  simp (disch := omega) [gw, hw, hc]
  refine aA hgq ?_
  simp (disch := omega) [gw]
  refine W.lx [0, 1, 5] ?_; simp
  refine W.sr ?_; simp (disch := omega) [gw]; refine W.lx [0, 1, 5, 17] ?_; simp
  refine W.cond ⟨_, rfl, fun h => ?_, fun h => ?_⟩
  ·have hw : w ≠ 0 := by simpa using h
   rw [if_neg hw] at hq
   subst hq
   refine W.sr ?_; simp (disch := omega) [gw]; refine W.lx [4] ?_; simp
   refine W.ret ?_
   simp [go]
  ·have hw : w = 0 := by simpa using h
   rw [if_pos hw] at hq
   refine W.skip ?_
   refine W.b8 (fun K hK => ?_)
   simp (disch := omega) [gw]
   refine aA hD ?_
   simp (disch := omega) [gw]
   refine hK _ ⟨ZX.N (bK q), _, aC _ [0, 1], aj7, bK q, s' + 5, _, _, rfl, rfl, bd, by omega, ?_⟩
   rw [← hq]
   exact abA h0 (Nat.le_refl _) (by omega)
 ·have BX : q = 0 := by
   refine Classical.byContradiction fun h0 => ?_
   have h1 := ZX.aD.1 h0
   simp at h; rw [hNl, h] at h1; simp at h1
  subst BX
  rw [nK h0] at hq
  subst hq
  refine W.exit ?_; simp only [pX, if_true, if_false, reduceIte, Nat.reduceEqDiff]
  refine W.sr ?_; simp (disch := omega) [gw]; refine W.lx [4] ?_; simp
  refine W.ret ?_
  simp [go]
theorem GX (n d : Int) : ∀ (k : Nat) (p : ZX), VY (fun q => o0 q.l n d) k p = kU n d k p
 | 0, _ => rfl
 | k + 1, p => by rw [VY, kU, GX n d k (bK p)]
theorem sV {s k u : Nat} {p : ZX} {n d : Int} {t : Rat} (hp : BZ s k p) (hk : k ≤ 31) (hs : s ≤ 1000000) (ht : cO n d = t) (hn : sz LL n ≤ u) (hd : sz LL d ≤ u) (hu1 : 1 ≤ u) (qt : sz LL t.num ≤ u ∧ sz LL (t.den : Int) ≤ u) (hu : u ≤ 1000000000) : aI env.P 61 [Po p.l, T2 n d] (.int .i64 (D2 t.num t.den p)) := by
 have hsg : ∀ (q : ZX) (s' : Nat), s' ≤ s + 5 * k → BZ s' k q → aI env.P 131 [Po q.l, .rd [.bool (decide (n < 0)), us (aQ LL n.natAbs), .bool (decide (d < 0)), us (aQ LL d.natAbs)]] (.int .i64 (o0 q.l t.num t.den)) := fun q s' BG bq => by
  have hmul : k * (u + 1) ≤ 31 * (u + 1) := Nat.mul_le_mul_right _ hk
  have k6 := vH (G6 bq) q.c hn hd hu1 (by omega) (by omega) (by omega) ht qt
  generalize o0 q.l t.num t.den = r at *
  refine aB (E := env) (fun _ => 0) [(0, Po q.l), (1, .rd [.bool (decide (n < 0)), us (aQ LL n.natAbs), .bool (decide (d < 0)), us (aQ LL d.natAbs)])] Tryz.func131 rfl (by kernel_rfl) (by kernel_rfl) (show 2 ≤ 7 by decide) (by simp) ?_
  refine W.sr ?_; simp (disch := omega) [gw]; refine W.lx [0, 1] ?_; simp
  refine W.sr ?_
  simp (disch := omega) [gw]
  refine aA k6 ?_
  simp (disch := omega) [gw]
  refine W.lx [3] ?_; simp
  refine W.ret ?_
  simp [go]
 have F1 := A9 131 rfl [.rd [.bool (decide (n < 0)), us (aQ LL n.natAbs), .bool (decide (d < 0)), us (aQ LL d.natAbs)]] rfl (fun q => o0 q.l t.num t.den) rfl hp hk hs hsg
 rw [GX] at F1
 replace F1 : aI env.P 130 [Po p.l, .fn 131 [.rd [.bool (decide (n < 0)), us (aQ LL n.natAbs), .bool (decide (d < 0)), us (aQ LL d.natAbs)]]] (.int .i64 (D2 t.num t.den p)) := F1
 generalize D2 t.num t.den p = r at *
 refine aB (E := env) (fun _ => 0) [(0, Po p.l), (1, T2 n d)] Tryz.func61 rfl (by kernel_rfl) (by kernel_rfl) (show 2 ≤ 8 by decide) (by simp) ?_
 refine W.sr ?_; simp (disch := omega) [gw]; refine W.lx [0, 3] ?_; simp
 refine W.sr ?_
 simp (disch := omega) [gw]
 refine aA F1 ?_
 simp (disch := omega) [gw]
 refine W.lx [4] ?_; simp
 refine W.ret ?_
 simp [go]
theorem O7 {α : Type} {g : α → List PV} {l : List α} {m : Nat} {f : ZX} {L : List (Rat × Rat)} (hO : aI env.P 120 [aJ g l] (Po f.l)) (hR : aI env.P 21 [Po f.l] (.eP [aJ (ga f) L, .int .i64 0])) (hm : m = 0) : aI env.P 51 [aJ g l] (aJ (ga f) L) := by
 refine aB (E := env) (fun _ => 0) [(0, aJ g l)] Tryz.func51 rfl (by kernel_rfl) (by kernel_rfl) (show 1 ≤ 14 by decide) (by simp) ?_
 refine W.sr ?_; simp (disch := omega) [gw]; refine W.lx [0] ?_; simp
 refine W.sr ?_
 simp (disch := omega) [gw]
 refine aA hO ?_
 simp (disch := omega) [gw]
 refine aA hR ?_
 simp (disch := omega) [gw]
 refine W.lx [3, 4] ?_; simp
 refine W.seq ?_
 refine W.sr ?_; simp (disch := omega) [gw]; refine W.lx [3, 12] ?_; simp
 refine W.cond ⟨_, rfl, fun h => ?_, fun h => ?_⟩
 ·simp at h
 refine W.skip ?_
 refine W.sr ?_; simp (disch := omega) [gw]; refine W.lx [2] ?_; simp
 refine W.ret ?_
 simp [go]
theorem O8 {x : List Int} {m : List Int} {f : ZX} {c : List ZX} {L : List (Rat × Rat)} (hx : x ≠ []) (hO : aI env.P 121 [PI x] (PI f.l)) (hR : aI env.P 24 [PI f.l] (aJ (qa f c) L)) : aI env.P 52 [PI x] (aJ (qa f c) L) := by
 refine aB (E := env) (fun _ => 0) [(0, PI x)] Tryz.func52 rfl (by kernel_rfl) (by kernel_rfl) (show 1 ≤ 9 by decide) (by simp) ?_
 refine W.sr ?_; simp (disch := omega) [gw]; refine W.lx [0] ?_; simp
 refine W.seq ?_
 refine W.sr ?_; simp (disch := omega) [gw]; refine W.lx [0, 5] ?_; simp
 refine W.cond ⟨_, rfl, fun h => ?_, fun h => ?_⟩
 ·simp at h; exact absurd h hx
 refine W.skip ?_
 refine W.sr ?_
 simp (disch := omega) [gw]
 refine aA hO ?_
 simp (disch := omega) [gw]
 refine aA hR ?_
 simp (disch := omega) [gw]
 refine W.lx [2] ?_; simp
 refine W.ret ?_
 simp [go]
theorem aks {a : ZX} (na : Nf a) : D3 (oz a) (bK (oz a)) := fun d h1 h2 => by
 refine Classical.byContradiction fun h3 => ?_
 have ho := Q9 na
 have ZU := h1.ne ho.ne
 obtain ⟨p, hp, hpd⟩ := n8 _ d (Nat.le_refl _) (by omega)
 have hmu := aaB na hp
 have hpo : dv p (oz a) := hpd.trans h1
 have h4 : 1 ≤ mu p (oz a) := (lL hp ho.ne).2 (by rw [show p ^ 1 = p by rw [pow_succ', dD]; grind]; exact hpo)
 have h5 : mu p (oz a) = 0 + 1 := by
  rw [hmu] at h4 ⊢
  omega
 obtain ⟨h6, h7⟩ := vE hp ho.ne h5
 have h8 : 1 ≤ mu p (bK (oz a)) := (lL hp h6).2 (by rw [show p ^ 1 = p by rw [pow_succ', dD]; grind]; exact hpd.trans h2)
 omega
structure TK (a : ZX) (f : ZX) (L : List (Rat × Rat)) : Prop where
 turns : aI env.P 51 [Po a.l] (aJ (ga f) L)
 avk : aI env.P 52 [PI a.l] (aJ (qa f (bC f)) (L.map (ex f)))
 right : aI env.P 23 [aJ (ga f) L, aJ (qa f (bC f)) (L.map (ex f))] (.bool true)
theorem O9 {s n : Nat} {a : ZX} (h : qT s n a) (h0 : a ≠ 0) (uB : 1 ≤ n) (hC : (qb (qb s n) n + n + 6) * 4 ^ n ≤ 4500000000) (hs : qb s n ≤ 5000000) : mV (qb s n) n (oz (nf a)) := by
 have na := gD h0
 have no := Q9 na
 have hb : BZ (qb s n) n (oz (nf a)) := h.nfz.dv na no (xT na _ _)
 exact ⟨⟨hb, h.hn, Nat.le_trans h.hs (Nat.pow_le_pow_right (by decide) (by unfold qb; omega)), hC⟩, uB, no, akr no (aks na), hs⟩
theorem ahf {s n : Nat} {a : ZX} (h : qT s n a) (h0 : a ≠ 0) (uB : 1 ≤ n) (hC : (qb (qb s n) n + n + 6) * 4 ^ n ≤ 4500000000) (hs : qb s n ≤ 20000) (qO : 1 ≤ s) : TK a (oz (nf a)) (A4 (qb s n) n (oz (nf a))) := by
 have I := O9 h h0 uB hC (by omega)
 exact ⟨O7 (aet h h0) (O2 I.aeW I) rfl, O8 (m := []) (tX h0) (U2 h qO h0) (O3 I.SB I.GU I I.s1), I.K1 hs⟩
theorem abB {a : ZX} (h0 : a ≠ 0) (h : ∀ p, n7 p → mu p a = 0) : ZX.N a ≤ 1 := by
 refine Classical.byContradiction fun h1 => ?_
 obtain ⟨p, hp, hd⟩ := n8 _ a (Nat.le_refl _) (by omega)
 have h2 : 1 ≤ mu p a := (lL hp h0).2 (by rw [show p ^ 1 = p by rw [pow_succ', dD]; grind]; exact hd)
 have := h p hp
 omega
theorem abC {a b : ZX} (na : Nf a) (nb : Nf b) (h : ∀ p, n7 p → mu p a = mu p b) : a = b := by
 have h1 := (k8 na.ne nb.ne).2 fun p hp => Nat.le_of_eq (h p hp)
 have h2 := (k8 nb.ne na.ne).2 fun p hp => Nat.le_of_eq (h p hp).symm
 have := p6 h1 h2
 rwa [na.nfe, nb.nfe] at this
theorem VZ {a : ZX} (h0 : a ≠ 0) : ZX.N (oz (nf (a * a))) ≤ 1 := by
 have h1 := ZX.gC h0 h0
 refine abB (Q9 (gD h1)).ne fun p hp => ?_
 rw [aaB (gD h1) hp, J4 hp h1, p5 hp h0 h0]
 omega
def xX : ZX := ZX.of [0, 1]
theorem K2 : Nf xX := ⟨ZX.aD.2 (by decide), by decide, by decide⟩
theorem aqf {p : ZX} (hp : n7 p) : mu p xX ≤ 1 := by
 refine Nat.not_lt.1 fun h => ?_
 have h1 := (lL hp K2.ne).1 (show 2 ≤ mu p xX by omega)
 have h2 := h1.rF K2.ne
 have h3 := aaq hp 2
 have h4 : ZX.N xX = 2 := by decide
 omega
theorem aqg : xX * xX = ZX.of [0, 0, 1] := ZX.ext fun t => by
 rw [xX, ZX.cU, ZX.B3, ZX.B3]; simp only [V]; grind
theorem aqh : xX * (xX * xX) = ZX.of [0, 0, 0, 1] := ZX.ext fun t => by
 rw [xX, ZX.cU, ZX.cU, ZX.B3, ZX.B3]; simp only [V]; grind
theorem SH : oz (nf (ZX.of [0, 0, 0, 1])) = xX := by
 have h0 := K2.ne
 have h1 : xX * (xX * xX) ≠ 0 := ZX.gC h0 (ZX.gC h0 h0)
 rw [← aqh]
 refine abC (Q9 (gD h1)) K2 fun p hp => ?_
 rw [aaB (gD h1) hp, J4 hp h1, p5 hp h0 (ZX.gC h0 h0), p5 hp h0 h0]
 have := aqf hp
 omega
theorem abD : vr (RM (bC xX)) = 1 ∧ vr (RN (bC xX)) = 0 := ⟨by kernel_rfl, by kernel_rfl⟩
theorem K3 : aI env.P 53 [] (.bool true) := by
 have o1 : aI env.P 46 [.sl [[.int .i64 0], [.int .i64 0], [.int .i64 1]]] (Po [0, 0, 1]) := FI [0, 0, 1] (by decide) (by decide)
 have o2 : aI env.P 46 [.sl [[.int .i64 0], [.int .i64 0], [.int .i64 0], [.int .i64 1]]] (Po [0, 0, 0, 1]) := FI [0, 0, 0, 1] (by decide) (by decide)
 have L1 : qT 3 4 (ZX.of [0, 0, 1]) := ⟨KL (by decide) (by decide), by decide, by decide, by decide⟩
 have L2 : qT 3 4 (ZX.of [0, 0, 0, 1]) := ⟨KL (by decide) (by decide), by decide, by decide, by decide⟩
 have n1 : ZX.of [0, 0, 1] ≠ 0 := ZX.aD.2 (by decide)
 have n2 : ZX.of [0, 0, 0, 1] ≠ 0 := ZX.aD.2 (by decide)
 have T1 := (ahf L1 n1 (by decide) (by decide) (by decide) (by decide)).turns
 have T2' := (ahf L2 n2 (by decide) (by decide) (by decide) (by decide)).turns
 have I1 := O9 L1 n1 (by decide) (by decide) (by decide)
 have I2 := O9 L2 n2 (by decide) (by decide) (by decide)
 have e1 : A4 (qb 3 4) 4 (oz (nf (ZX.of [0, 0, 1]))) = [] := D9 I1 (by rw [← aqg]; exact VZ K2.ne)
 rw [e1] at T1
 have hlen : (A4 (qb 3 4) 4 (oz (nf (ZX.of [0, 0, 0, 1])))).length = 1 := by
  have h1 := I2.ivs.len
  have h2 := I2.count
  rw [SH] at h1 h2
  obtain ⟨f1, f2⟩ := abD
  rw [f1, f2] at h2
  rw [SH]
  omega
 have A1 := sV (n := 0) (d := 0) (u := 5) L1.bz (by decide) (by decide) (t := 0) (by decide) (by decide) (by decide) (by decide) (by decide) (by decide)
 rw [show D2 (0 : Rat).num (0 : Rat).den (ZX.of [0, 0, 1]) = 1 by kernel_rfl, ← aeI] at A1
 replace A1 : aI env.P 61 [Po [0, 0, 1], .ag [.bool false, .sl [], .bool false, .sl []]] (.int .i64 1) := A1
 replace T1 : aI env.P 51 [Po [0, 0, 1]] (aJ (ga (oz (nf (ZX.of [0, 0, 1])))) []) := T1
 replace T2' : aI env.P 51 [Po [0, 0, 0, 1]] (aJ (ga (oz (nf (ZX.of [0, 0, 0, 1])))) (A4 (qb 3 4) 4 (oz (nf (ZX.of [0, 0, 0, 1]))))) := T2'
 generalize A4 (qb 3 4) 4 (oz (nf (ZX.of [0, 0, 0, 1]))) = L at *
 generalize oz (nf (ZX.of [0, 0, 0, 1])) = f2 at *
 generalize oz (nf (ZX.of [0, 0, 1])) = f1 at *
 have e2 : ((L.length : Int) == 1) = true := by rw [hlen]; rfl
 refine aB (E := env) (fun _ => 0) [] Tryz.func53 rfl (by kernel_rfl) (by kernel_rfl) (show 0 ≤ 20 by decide) (by simp) ?_
 refine W.sr ?_
 simp (disch := omega) [gw]
 refine W.lx [] ?_; simp
 refine W.sr ?_
 simp (disch := omega) [gw]
 refine aA o1 ?_
 simp (disch := omega) [gw]
 refine aA A1 ?_
 simp (disch := omega) [gw]
 refine aA o1 ?_
 simp (disch := omega) [gw]
 refine aA T1 ?_
 simp (disch := omega) [gw]
 refine aA o2 ?_
 simp (disch := omega) [gw]
 refine aA T2' ?_
 simp (disch := omega) [gw, e2]
 refine W.lx [0] ?_; simp
 refine W.ret ?_
 simp [go]
end Go.Proofs.YtbbjgncblhfegaaGreat
