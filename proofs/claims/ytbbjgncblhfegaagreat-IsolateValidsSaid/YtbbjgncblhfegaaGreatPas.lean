import Derived.Test.YtbbjgncblhfegaaGreatPar
set_option linter.unusedSimpArgs false
set_option linter.unusedVariables false
namespace Go.Proofs.YtbbjgncblhfegaaGreat
open Go Pm
open ZX hiding N W
theorem kR {p q : Rat} : 0 < dB (p.num * q.den) (q.num * p.den) ↔ q < p := by
 rw [mY, ← iR q p, mX]
theorem VB {p q : Rat} : dB (p.num * q.den) (q.num * p.den) < 0 ↔ p < q := iR p q
theorem pZ {p q : Rat} : dB (p.num * q.den) (q.num * p.den) ≤ 0 ↔ p ≤ q := by
 rw [← Int.not_lt, kR, Rat.not_lt]
theorem KR {x : List Int} {c : List ZX} {an ad bn bd tn td zt z1 z2 b σ r : Int} {pt : Bool} (p1 : aK env.P 113 [.ag (PI x :: aJ zq c :: (c4 an ad ++ c4 bn bd))] (.bool pt)) (k0 : aK env.P 27 [R2 an ad, R2 tn td] (.int .i64 zt))
  (k1 : aK env.P 27 [R2 tn td, R2 an ad] (.int .i64 z1)) (k2 : aK env.P 27 [R2 tn td, R2 bn bd] (.int .i64 z2)) (k3 : aK env.P 59 [aJ zq c, R2 an ad, R2 tn td] (.int .i64 b)) (k4 : aK env.P 107 [PI x, R2 tn td] (.int .i64 σ))
  (hr : r = if pt = true then zt else if z1 ≤ 0 then 1 else if 0 < z2 then -1 else if b = 0 then 1 else if σ = 0 then 0 else -1) : aK env.P 43 [.ag (PI x :: aJ zq c :: (c4 an ad ++ c4 bn bd)), R2 tn td] (.int .i64 r) := by
 simp only [c4, List.cons_append, List.nil_append] at p1 ⊢
 refine aB (E := env) (fun _ => 0) [(0, .ag [PI x, aJ zq c, aJ aF (aQ DD an.natAbs), .bool (decide (an < 0)), aJ aF (aQ DD ad.natAbs), .bool (decide (ad < 0)), aJ aF (aQ DD bn.natAbs), .bool (decide (bn < 0)), aJ aF (aQ DD bd.natAbs), .bool (decide (bd < 0))]), (1, R2 tn td)] Tryz.func43 rfl (by kernel_rfl) (by kernel_rfl) (show 2 ≤ 33 by decide) (by simp) ?_
 refine W.sr ?_; simp (disch := omega) [gw]; refine W.lx [2, 3] ?_; simp
 refine W.seq ?_
 refine W.sr ?_
 simp (disch := omega) [gw]
 refine aA p1 ?_
 simp (disch := omega) [gw]
 refine W.lx [2, 3, 6] ?_; simp
 refine W.cond ⟨_, rfl, fun h => ?_, fun h => ?_⟩
 ·subst h
  rw [if_pos rfl] at hr
  subst hr
  refine W.sr ?_
  simp (disch := omega) [gw]
  refine aA k0 ?_
  simp (disch := omega) [gw]
  refine W.lx [4] ?_; simp
  refine W.ret ?_
  simp [go]
 ·subst h
  rw [if_neg (by decide)] at hr
  refine W.skip ?_
  refine W.seq ?_
  refine W.sr ?_
  simp (disch := omega) [gw]
  refine aA k1 ?_
  simp (disch := omega) [gw]
  refine W.lx [2, 3, 15] ?_; simp
  refine W.cond ⟨_, rfl, fun h => ?_, fun h => ?_⟩
  ·simp at h
   rw [if_pos h] at hr
   subst hr
   refine W.sr ?_; simp (disch := omega) [gw]; refine W.lx [4] ?_; simp
   refine W.ret ?_
   simp [go]
  ·simp at h
   rw [if_neg (by omega)] at hr
   refine W.skip ?_
   refine W.seq ?_
   refine W.sr ?_
   simp (disch := omega) [gw]
   refine aA k2 ?_
   simp (disch := omega) [gw]
   refine W.lx [2, 3, 20] ?_; simp
   refine W.cond ⟨_, rfl, fun h => ?_, fun h => ?_⟩
   ·simp at h
    rw [if_pos h] at hr
    subst hr
    refine W.sr ?_; simp (disch := omega) [gw]; refine W.lx [4] ?_; simp
    refine W.ret ?_
    simp [go]
   ·simp at h
    rw [if_neg (by omega)] at hr
    refine W.skip ?_
    refine W.seq ?_
    refine W.sr ?_
    simp (disch := omega) [gw]
    refine aA k3 ?_
    simp (disch := omega) [gw]
    refine W.lx [2, 3, 27] ?_; simp
    refine W.cond ⟨_, rfl, fun h => ?_, fun h => ?_⟩
    ·simp at h
     rw [if_pos h] at hr
     subst hr
     refine W.sr ?_; simp (disch := omega) [gw]; refine W.lx [4] ?_; simp
     refine W.ret ?_
     simp [go]
    ·simp at h
     rw [if_neg h] at hr
     refine W.skip ?_
     refine W.seq ?_
     refine W.sr ?_
     simp (disch := omega) [gw]
     refine aA k4 ?_
     simp (disch := omega) [gw]
     refine W.lx [32] ?_; simp
     refine W.cond ⟨_, rfl, fun h => ?_, fun h => ?_⟩
     ·simp at h
      rw [if_pos h] at hr
      subst hr
      refine W.sr ?_; simp (disch := omega) [gw]; refine W.lx [4] ?_; simp
      refine W.ret ?_
      simp [go]
     ·simp at h
      rw [if_neg h] at hr
      subst hr
      refine W.skip ?_
      refine W.sr ?_; simp (disch := omega) [gw]; refine W.lx [4] ?_; simp
      refine W.ret ?_
      simp [go]
abbrev cZ (f : ZX) (p : Rat × Rat) : Rat → Prop := gJ (vt (bE f)) p.1 p.2
theorem lH.GR {s n : Nat} {f : ZX} (I : lH s n f) {u : Nat} {p : Rat × Rat} {t : Rat} (A : oJ f (vt (bE f)) p.1 p.2) (q1 : SQ u p.1) (q2 : SQ u p.2) (qt : SQ u t) (hu : u ≤ 1000000000) : aK env.P 43 [QA f (bE f) p, RR t] (.int .i64 (cr (cZ f p) t)) := by
 have p1 := pY (f := f) (c := bE f) q1 q2 hu
 have k0 := gW p.1 t (q1.yy hu) (qt.yy hu)
 have k1 := gW t p.1 (qt.yy hu) (q1.yy hu)
 have k2 := gW t p.2 (qt.yy hu) (q2.yy hu)
 have k3 := I.uA q1 qt hu
 have k4 := I.agI qt hu
 have hc := A.auB t
 rw [bV, bV] at k0 k1 k2
 rw [bV, bV] at k3
 rw [bV] at k4 ⊢
 rw [lF] at p1 ⊢
 refine KR p1 k0 k1 k2 k3 k4 ?_
 rw [hc]
 simp only [decide_eq_true_eq]
 by_cases h1 : p.1 = p.2
 ·rw [if_pos h1, if_pos h1]
  by_cases h2 : p.1 < t
  ·rw [if_pos h2, lT (mX.1 (VB.2 h2))]
  ·rw [if_neg h2]
   by_cases h3 : t < p.1
   ·rw [if_pos h3, lU (mY.1 (kR.2 h3))]
   ·rw [if_neg h3, j8.2 (by grind)]
 ·rw [if_neg h1, if_neg h1]
  simp only [pZ, kR]
  by_cases h2 : t ≤ p.1
  ·rw [if_pos h2, if_pos h2]
  ·rw [if_neg h2, if_neg h2]
   by_cases h3 : p.2 < t
   ·rw [if_pos h3, if_pos h3]
   ·rw [if_neg h3, if_neg h3, if_neg (show ¬ t < p.1 by grind)]
    have e1 : ((vt (bE f) p.1 : Int) - vt (bE f) t = 0) ↔ vt (bE f) p.1 = vt (bE f) t := by omega
    simp only [e1, gC]
def hv (f : ZX) (p : Rat × Rat) : Rat × Rat := if p.1 = p.2 then p else ex f (if vt (bE f) ((p.1 + p.2) / 2) < vt (bE f) p.1 then (p.1, (p.1 + p.2) / 2) else ((p.1 + p.2) / 2, p.2))
theorem KS {x : List Int} {c : List ZX} {an ad bn bd : Int} (p1 : aK env.P 113 [.ag (PI x :: aJ zq c :: (c4 an ad ++ c4 bn bd))] (.bool true)) : aK env.P 115 [.ag (PI x :: aJ zq c :: (c4 an ad ++ c4 bn bd))] (.ag (PI x :: aJ zq c :: (c4 an ad ++ c4 bn bd))) := by
 simp only [c4, List.cons_append, List.nil_append] at p1 ⊢
 refine aB (E := env) (fun _ => 0) [(0, .ag [PI x, aJ zq c, aJ aF (aQ DD an.natAbs), .bool (decide (an < 0)), aJ aF (aQ DD ad.natAbs), .bool (decide (ad < 0)), aJ aF (aQ DD bn.natAbs), .bool (decide (bn < 0)), aJ aF (aQ DD bd.natAbs), .bool (decide (bd < 0))])] Tryz.func115 rfl (by kernel_rfl) (by kernel_rfl) (show 1 ≤ 25 by decide) (by simp) ?_
 refine W.sr ?_; simp (disch := omega) [gw]; refine W.lx [1, 2] ?_; simp
 refine W.seq ?_
 refine W.sr ?_
 simp (disch := omega) [gw]
 refine aA p1 ?_
 simp (disch := omega) [gw]
 refine W.lx [1, 2, 5] ?_; simp
 refine W.cond ⟨_, rfl, fun h => ?_, fun h => ?_⟩
 ·refine W.sr ?_; simp (disch := omega) [gw]; refine W.lx [2] ?_; simp
  refine W.ret ?_
  simp [go]
 ·simp at h
theorem KT {x : List Int} {c : List ZX} {an ad bn bd mn md yn yd zn zd b : Int} (p1 : aK env.P 113 [.ag (PI x :: aJ zq c :: (c4 an ad ++ c4 bn bd))] (.bool false)) (k1 : aK env.P 60 [R2 an ad, R2 bn bd] (R2 mn md)) (k2 : aK env.P 59 [aJ zq c, R2 an ad, R2 mn md] (.int .i64 b))
  (k3 : aK env.P 112 [.ag (PI x :: aJ zq c :: (if 0 < b then c4 an ad ++ c4 mn md else c4 mn md ++ c4 bn bd))] (.ag (PI x :: aJ zq c :: (c4 yn yd ++ c4 zn zd)))) : aK env.P 115 [.ag (PI x :: aJ zq c :: (c4 an ad ++ c4 bn bd))] (.ag (PI x :: aJ zq c :: (c4 yn yd ++ c4 zn zd))) := by
 simp only [c4, List.cons_append, List.nil_append] at p1 k3 ⊢
 refine aB (E := env) (fun _ => 0) [(0, .ag [PI x, aJ zq c, aJ aF (aQ DD an.natAbs), .bool (decide (an < 0)), aJ aF (aQ DD ad.natAbs), .bool (decide (ad < 0)), aJ aF (aQ DD bn.natAbs), .bool (decide (bn < 0)), aJ aF (aQ DD bd.natAbs), .bool (decide (bd < 0))])] Tryz.func115 rfl (by kernel_rfl) (by kernel_rfl) (show 1 ≤ 25 by decide) (by simp) ?_
 refine W.sr ?_; simp (disch := omega) [gw]; refine W.lx [1, 2] ?_; simp
 refine W.seq ?_
 refine W.sr ?_
 simp (disch := omega) [gw]
 refine aA p1 ?_
 simp (disch := omega) [gw]
 refine W.lx [1, 2, 5] ?_; simp
 refine W.cond ⟨_, rfl, fun h => ?_, fun h => ?_⟩
 ·simp at h
 refine W.skip ?_
 refine W.sr ?_
 simp (disch := omega) [gw]
 refine aA k1 ?_
 simp (disch := omega) [gw]
 refine W.lx [1, 2, 3] ?_; simp
 by_cases hb : 0 < b
 ·rw [if_pos hb] at k3
  refine W.fO (fun σ => ∃ (v1 v2 : Nat) (rows : Pm.Rows) (clk : Nat), σ = ⟨fa [(1, .ptr 1 v1 0 0), (2, .ptr 2 v2 0 0)], rows, clk⟩ ∧ rows 1 = some ⟨v1, 68, 10, [[PI x, aJ zq c, aJ aF (aQ DD an.natAbs), .bool (decide (an < 0)), aJ aF (aQ DD ad.natAbs), .bool (decide (ad < 0)), aJ aF (aQ DD mn.natAbs), .bool (decide (mn < 0)), aJ aF (aQ DD md.natAbs), .bool (decide (md < 0))]]⟩ ∧ rows 2 = some ⟨v2, 68, 10, [[PV.nil, PV.nil, PV.nil, PV.bool false, PV.nil, PV.bool false, PV.nil, PV.bool false, PV.nil, PV.bool false]]⟩) ?_ ?_
  ·refine W.sr ?_
   simp (disch := omega) [gw]
   refine aA k2 ?_
   simp (disch := omega) [gw]
   refine W.lx [1, 2, 3, 18] ?_; simp
   refine W.cond ⟨_, rfl, fun h => ?_, fun h => ?_⟩
   ·refine W.cA (fun K hK => ?_); simp (disch := omega) [gw]
    exact hK _ ⟨_, aC _ [1, 2], _, _, _, _, rfl, by simp, by simp⟩
   ·simp at h; omega
  rintro _ ⟨v1, v2, rows, clk, rfl, B4, cM⟩
  refine W.sr ?_
  simp (disch := omega) [gw, B4, cM]
  refine aA k3 ?_
  simp (disch := omega) [gw, B4, cM]
  refine W.lx [2] ?_; simp
  refine W.ret ?_
  simp [go]
 ·rw [if_neg hb] at k3
  refine W.fO (fun σ => ∃ (v1 v2 : Nat) (rows : Pm.Rows) (clk : Nat), σ = ⟨fa [(1, .ptr 1 v1 0 0), (2, .ptr 2 v2 0 0)], rows, clk⟩ ∧ rows 1 = some ⟨v1, 68, 10, [[PI x, aJ zq c, aJ aF (aQ DD mn.natAbs), .bool (decide (mn < 0)), aJ aF (aQ DD md.natAbs), .bool (decide (md < 0)), aJ aF (aQ DD bn.natAbs), .bool (decide (bn < 0)), aJ aF (aQ DD bd.natAbs), .bool (decide (bd < 0))]]⟩ ∧ rows 2 = some ⟨v2, 68, 10, [[PV.nil, PV.nil, PV.nil, PV.bool false, PV.nil, PV.bool false, PV.nil, PV.bool false, PV.nil, PV.bool false]]⟩) ?_ ?_
  ·refine W.sr ?_
   simp (disch := omega) [gw]
   refine aA k2 ?_
   simp (disch := omega) [gw]
   refine W.lx [1, 2, 3, 18] ?_; simp
   refine W.cond ⟨_, rfl, fun h => ?_, fun h => ?_⟩
   ·simp at h; omega
   ·refine W.cA (fun K hK => ?_); simp (disch := omega) [gw]
    exact hK _ ⟨_, aC _ [1, 2], _, _, _, _, rfl, by simp, by simp⟩
  rintro _ ⟨v1, v2, rows, clk, rfl, B4, cM⟩
  refine W.sr ?_
  simp (disch := omega) [gw, B4, cM]
  refine aA k3 ?_
  simp (disch := omega) [gw, B4, cM]
  refine W.lx [2] ?_; simp
  refine W.ret ?_
  simp [go]
theorem lH.agJ {s n : Nat} {f : ZX} (I : lH s n f) {u : Nat} {p : Rat × Rat} (hle : p.1 ≤ p.2) (q1 : SQ u p.1) (q2 : SQ u p.2) (q3 : SQ u ((p.1 + p.2) / 2)) (q4 : SQ u (p.1 + p.2)) (hu : u ≤ 1000000000) : aK env.P 115 [QA f (bE f) p] (QA f (bE f) (hv f p)) := by
 have p1 := pY (f := f) (c := bE f) q1 q2 hu
 by_cases h : p.1 = p.2
 ·rw [decide_eq_true h] at p1
  rw [show hv f p = p from if_pos h, lF]
  rw [lF] at p1
  exact KS p1
 ·rw [decide_eq_false h] at p1
  have eV : p.1 < p.2 := by grind
  obtain ⟨m1, m2⟩ := vE eV
  have k1 := KK (q1.yy hu) (q2.yy hu) (q4.yy hu)
  have k2 := I.uA q1 q3 hu
  rw [if_neg (Rat.not_lt.2 (Rat.le_of_lt m1))] at k2
  have e : hv f p = ex f (if vt (bE f) ((p.1 + p.2) / 2) < vt (bE f) p.1 then (p.1, (p.1 + p.2) / 2) else ((p.1 + p.2) / 2, p.2)) := if_neg h
  rw [e]
  have hb : (0 < (vt (bE f) p.1 : Int) - vt (bE f) ((p.1 + p.2) / 2)) ↔ vt (bE f) ((p.1 + p.2) / 2) < vt (bE f) p.1 := by omega
  have k3 := I.abf (u := u) (p := if vt (bE f) ((p.1 + p.2) / 2) < vt (bE f) p.1 then (p.1, (p.1 + p.2) / 2) else ((p.1 + p.2) / 2, p.2)) (by split <;> assumption) (by split <;> assumption) hu
  rw [bV, bV] at k1 k2
  rw [bV] at k1
  rw [lF] at p1 ⊢
  rw [lF]
  refine KT p1 k1 k2 ?_
  by_cases h2 : vt (bE f) ((p.1 + p.2) / 2) < vt (bE f) p.1
  ·rw [if_pos (hb.2 h2)]
   rw [if_pos h2] at k3 ⊢
   exact k3
  ·rw [if_neg (fun h3 => h2 (hb.1 h3))]
   rw [if_neg h2] at k3 ⊢
   exact k3
theorem R7 {f : ZX} {p : Rat × Rat} (A : oJ f (vt (bE f)) p.1 p.2) : oJ f (vt (bE f)) (hv f p).1 (hv f p).2 ∧ ∀ t, cZ f (hv f p) t ↔ cZ f p t := by
 unfold hv
 split
 ·exact ⟨A, fun _ => Iff.rfl⟩
 ·rename_i h
  have eV : p.1 < p.2 := by have := A.le; grind
  obtain ⟨m1, m2⟩ := vE eV
  obtain ⟨h1, h2⟩ := A.half m1 m2
  have key : ∀ q : Rat × Rat, oJ f (vt (bE f)) q.1 q.2 → (∀ t, cZ f q t ↔ cZ f p t) → oJ f (vt (bE f)) (ex f q).1 (ex f q).2 ∧ ∀ t, cZ f (ex f q) t ↔ cZ f p t := fun q hq hc => by
   unfold ex
   split
   ·rename_i h0
    obtain ⟨g1, g2⟩ := hq.exact h0
    exact ⟨g1, fun t => (g2 t).trans (hc t)⟩
   ·exact ⟨hq, hc⟩
  split
  ·rename_i h3
   obtain ⟨g1, g2⟩ := h1 h3
   exact key (p.1, (p.1 + p.2) / 2) g1 g2
  ·rename_i h3
   obtain ⟨g1, g2⟩ := h2 h3
   exact key ((p.1 + p.2) / 2, p.2) g1 g2
theorem GS {f : ZX} {p : Rat × Rat} (A : oJ f (vt (bE f)) p.1 p.2) : oJ f (vt (bE f)) (ex f p).1 (ex f p).2 ∧ ∀ t, cZ f (ex f p) t ↔ cZ f p t := by
 unfold ex
 split
 ·rename_i h0
  exact A.exact h0
 ·exact ⟨A, fun _ => Iff.rfl⟩
abbrev t4 (n d : Int) : List PV := [.bool (decide (n < 0)), us (aQ LL n.natAbs), .bool (decide (d < 0)), us (aQ LL d.natAbs)]
section
variable {x : List Int} {c : List ZX} {fs : List ZX} {an ad bn bd z b σ : Int} (hx : x.length < 1000000)  (f1 : aK env.P 32 [Po x] (PI x)) (f2 : aK env.P 93 [PI x] (aJ zq fs)) (k1 : aK env.P 28 [T2 an ad] (R2 an ad)) (k2 : aK env.P 28 [T2 bn bd] (R2 bn bd))
  (k3 : aK env.P 27 [R2 an ad, R2 bn bd] (.int .i64 z)) (k4 : aK env.P 57 [PI x] (aJ zq c)) (k5 : aK env.P 59 [aJ zq c, R2 an ad, R2 bn bd] (.int .i64 b)) (k6 : aK env.P 107 [PI x, R2 an ad] (.int .i64 σ))
include hx f1
theorem KU (h2 : x.length < 2) : aK env.P 38 [.ag (Po x :: (t4 an ad ++ t4 bn bd))] (.bool false) := by
 simp only [t4, List.cons_append, List.nil_append]
 refine aB (E := env) (fun _ => 0) [(0, .ag [Po x, .bool (decide (an < 0)), us (aQ LL an.natAbs), .bool (decide (ad < 0)), us (aQ LL ad.natAbs), .bool (decide (bn < 0)), us (aQ LL bn.natAbs), .bool (decide (bd < 0)), us (aQ LL bd.natAbs)])] Tryz.func38 rfl (by kernel_rfl) (by kernel_rfl) (show 1 ≤ 52 by decide) (by simp) ?_
 refine W.sr ?_; simp (disch := omega) [gw]; refine W.lx [1] ?_; simp
 refine W.sr ?_
 simp (disch := omega) [gw]
 refine aA f1 ?_
 simp (disch := omega) [gw]
 refine W.lx [1, 3] ?_; simp
 refine W.seq ?_
 have e1 : ((x.length : Int) < 2) = True := eq_true (by omega)
 refine W.sr ?_
 simp (disch := omega) [gw, e1]
 refine W.lx [1, 3, 26] ?_; simp
 refine W.cond ⟨_, rfl, fun h => ?_, fun h => ?_⟩
 ·refine W.sr ?_; simp (disch := omega) [gw]; refine W.lx [2] ?_; simp
  refine W.ret ?_
  simp [go]
 ·simp at h
include f2 in
theorem O0 (h2 : 2 ≤ x.length) (hm : fs.length ≠ 1) : aK env.P 38 [.ag (Po x :: (t4 an ad ++ t4 bn bd))] (.bool false) := by
 simp only [t4, List.cons_append, List.nil_append]
 refine aB (E := env) (fun _ => 0) [(0, .ag [Po x, .bool (decide (an < 0)), us (aQ LL an.natAbs), .bool (decide (ad < 0)), us (aQ LL ad.natAbs), .bool (decide (bn < 0)), us (aQ LL bn.natAbs), .bool (decide (bd < 0)), us (aQ LL bd.natAbs)])] Tryz.func38 rfl (by kernel_rfl) (by kernel_rfl) (show 1 ≤ 52 by decide) (by simp) ?_
 refine W.sr ?_; simp (disch := omega) [gw]; refine W.lx [1] ?_; simp
 refine W.sr ?_
 simp (disch := omega) [gw]
 refine aA f1 ?_
 simp (disch := omega) [gw]
 refine W.lx [1, 3] ?_; simp
 refine W.seq ?_
 have e1 : ((x.length : Int) < 2) = False := eq_false (by omega)
 have e2 : (((fs.length : Int)) != 1) = true := bne_iff_ne.2 (by omega)
 refine W.sr ?_
 simp (disch := omega) [gw, e1]
 refine aA f2 ?_
 simp (disch := omega) [gw, e2]
 refine W.lx [1, 3, 26] ?_; simp
 refine W.cond ⟨_, rfl, fun h => ?_, fun h => ?_⟩
 ·refine W.sr ?_; simp (disch := omega) [gw]; refine W.lx [2] ?_; simp
  refine W.ret ?_
  simp [go]
 ·simp at h
include f2 k1 k2 k3 k4 k5 k6
theorem D4 (h2 : 2 ≤ x.length) (hm : fs.length = 1) {r : Bool} (hr : r = if 0 < z then false else if z = 0 then σ == 0 else b == 1) : aK env.P 38 [.ag (Po x :: (t4 an ad ++ t4 bn bd))] (.bool r) := by
 simp only [t4, List.cons_append, List.nil_append]
 refine aB (E := env) (fun _ => 0) [(0, .ag [Po x, .bool (decide (an < 0)), us (aQ LL an.natAbs), .bool (decide (ad < 0)), us (aQ LL ad.natAbs), .bool (decide (bn < 0)), us (aQ LL bn.natAbs), .bool (decide (bd < 0)), us (aQ LL bd.natAbs)])] Tryz.func38 rfl (by kernel_rfl) (by kernel_rfl) (show 1 ≤ 52 by decide) (by simp) ?_
 refine W.sr ?_; simp (disch := omega) [gw]; refine W.lx [1] ?_; simp
 refine W.sr ?_
 simp (disch := omega) [gw]
 refine aA f1 ?_
 simp (disch := omega) [gw]
 refine W.lx [1, 3] ?_; simp
 refine W.seq ?_
 have e1 : ((x.length : Int) < 2) = False := eq_false (by omega)
 have e2 : (((fs.length : Int)) != 1) = false := by rw [hm]; rfl
 refine W.sr ?_
 simp (disch := omega) [gw, e1]
 refine aA f2 ?_
 simp (disch := omega) [gw, e2]
 refine W.lx [1, 3, 26] ?_; simp
 refine W.cond ⟨_, rfl, fun h => ?_, fun h => ?_⟩
 ·simp at h
 refine W.skip ?_
 refine W.sd ?_
 simp (disch := omega) [gw]
 refine aA k1 ?_
 simp (disch := omega) [gw]
 refine aA k2 ?_
 (try (refine b6 (of_decide_eq_true (by kernel_rfl)) ?_)); (try simp (maxSteps := 4000000) (disch := omega) [gw, eS]); (repeat rw [if_pos (by kernel_rfl)]); (try simp (maxSteps := 4000000) (disch := omega) [gw, eS])
 (try (refine b6 (of_decide_eq_true (by kernel_rfl)) ?_)); (try simp (maxSteps := 4000000) (disch := omega) [gw, eS]); (repeat rw [if_pos (by kernel_rfl)]); (try simp (maxSteps := 4000000) (disch := omega) [gw, eS])
 (try (refine b6 (of_decide_eq_true (by kernel_rfl)) ?_)); (try simp (maxSteps := 4000000) (disch := omega) [gw, eS]); (repeat rw [if_pos (by kernel_rfl)]); (try simp (maxSteps := 4000000) (disch := omega) [gw, eS])
 refine W.lx [3, 4, 5] ?_; simp
 refine W.seq ?_
 refine W.sr ?_
 simp (disch := omega) [gw]
 refine aA k3 ?_
 simp (disch := omega) [gw]
 refine W.lx [3, 4, 5, 6] ?_; simp
 refine W.block ?_
 refine W.sr ?_; simp (disch := omega) [gw]; refine W.lx [3, 4, 5, 6, 36] ?_; simp
 refine W.cond ⟨_, rfl, fun h => ?_, fun h => ?_⟩
 ·simp at h
  rw [if_pos h] at hr; subst hr
  refine W.sr ?_; simp (disch := omega) [gw]; refine W.lx [2] ?_; simp
  refine W.ret ?_
  simp [go]
 ·simp at h
  rw [if_neg (by omega)] at hr
  refine W.sr ?_; simp (disch := omega) [gw]; refine W.lx [3, 4, 5, 39] ?_; simp
  refine W.cond ⟨_, rfl, fun h => ?_, fun h => ?_⟩
  ·simp at h
   rw [if_pos h] at hr; subst hr
   refine W.sr ?_
   simp (disch := omega) [gw]
   refine aA k6 ?_
   simp (disch := omega) [gw]
   refine W.lx [2] ?_; simp
   refine W.ret ?_
   simp [go]
  ·simp at h
   rw [if_neg h] at hr; subst hr
   refine W.skip ?_
   refine W.sd ?_
   simp (disch := omega) [gw]
   refine aA k4 ?_
   simp (disch := omega) [gw]
   refine aA k5 ?_
   simp (disch := omega) [gw]
   refine W.lx [2] ?_; simp
   refine W.ret ?_
   simp [go]
end
theorem lH.valid {s n : Nat} {f : ZX} (I : lH s n f) {u : Nat} {p : Rat × Rat} (A : oJ f (vt (bE f)) p.1 p.2) (hN : 2 ≤ ZX.N f) (q1 : SQ u p.1) (q2 : SQ u p.2) (hu : u ≤ 1000000000) : aK env.P 38 [GA f p] (.bool true) := by
 have hN' := I.ch.bz.N
 have hn := I.ch.hn
 have hx : f.l.length < 1000000 := by show ZX.N f < _; omega
 have f2 := n3 I.lay I.s1
 rw [I.nf.VT] at f2
 have hnl : nl f = 1 := (abe f).2 ⟨hN, by rw [I.gz1, ZX.tN]; omega⟩
 have ZL : (fl f).length = 1 := by rw [aan, hnl]
 have k1 := q1.w6 hu
 have k2 := q2.w6 hu
 have k3 := gW p.1 p.2 (q1.yy hu) (q2.yy hu)
 have k5 := I.uA q1 q2 hu
 have k6 := I.agI q1 hu
 rw [bV] at k1 k2 k6
 rw [bV, bV] at k3 k5
 refine D4 hx I.agH f2 k1 k2 k3 I.OZ k5 k6 hN ZL ?_
 rw [if_neg (by rw [kR]; have := A.le; grind)]
 rcases A.k with ⟨h1, h2⟩ | ⟨h1, h2⟩
 ·rw [if_pos (j8.2 h1), h2, j7]; rfl
 ·rw [if_neg (fun h => by rw [j8] at h; grind), if_neg (by grind)]
  have : (vt (bE f) p.1 : Int) - vt (bE f) p.2 = 1 := by omega
  rw [this]; rfl
theorem sqf {f : ZX} (h0 : f ≠ 0) (hc : GL f (bM f)) (hN : ZX.N f ≤ 20) : w5 f (vt (bE f)) := by
 have hg : gz f (bM f) = 1 := (J1 (.inl h0)).N1 (hc _ (fE _ _).l (fE _ _).r)
 refine ⟨h0, hc, _, ⟨fun B hB => ?_⟩, rfl⟩
 obtain ⟨s, hs⟩ := AZ f.l
 obtain ⟨β, hβ⟩ := KN B
 have hb : BZ (s + 1 + 5) 20 f := ⟨hN, fun c hc => cG (by decide) (by
  have h1 := hs c hc
  have h2 : 2 ^ s < 2 ^ (s + 1 + 5) := Nat.pow_lt_pow_right (by decide) (by omega)
  omega)⟩
 have hb0 : BZ (s + 1) 20 f := ⟨hN, fun c hc => cG (by decide) (by
  have h1 := hs c hc
  have h2 : 2 ^ s < 2 ^ (s + 1) := Nat.pow_lt_pow_right (by decide) (by omega)
  omega)⟩
 have bd : BZ (s + 1 + 5) 20 (bM f) := hb0.bM (by decide)
 have hND := l5 f
 have hP1 : ZX.N (oI (bM f)) ≤ ZX.N (bM f) := j5 _
 obtain ⟨δ, h1, h2⟩ := vD (jb ((s + 1 + 5 + 20 + 1) * 2 * 4 ^ 20) 20 β)
 refine ⟨δ, h1, Lcl.mono (RV (s := s + 1) (n := 20) (by decide) h0 hb ?_ (gV bd) hg (by rw [h2]; exact Rat.le_refl)) hβ⟩
 unfold uJ
 split
 ·have : (4 : Nat) ^ ZX.N f ≤ 4 ^ 20 := Nat.pow_le_pow_right (by decide) hN
  exact Nat.mul_le_mul (by omega) this
 ·have : (4 : Nat) ^ ZX.N (oI (bM f)) ≤ 4 ^ 20 := Nat.pow_le_pow_right (by decide) (by omega)
  exact Nat.mul_le_mul (Nat.le_refl _) this
structure p5 (f h g w : ZX) : Prop where
 eq : f = w * g
 ng : Nf g
 nw : Nf w
 wg : GL w g
 wh : GL w h
 gd : dv g h
 sg : GL g (bM g)
 sw : GL w (bM w)
theorem A8 {f h : ZX} (nf : Nf f) (hc : GL f (bM f)) : ∃ w, p5 f h (gz f h) w := by
 have ng : Nf (gz f h) := J1 (.inl nf.ne)
 obtain ⟨w, nw, e⟩ := nf.quo ng (fE f h).l
 have hd : bM f = bM w * gz f h + w * bM (gz f h) := by
  have h1 := congrArg bM e
  rwa [tO] at h1
 have dwf : dv w f := by rw [e]; exact (dv.refl w).mul_right _
 have dgf : dv (gz f h) f := (fE f h).l
 have wg : GL w (gz f h) := fun d h1 h2 => hc d (h1.trans dwf) (by rw [hd]; exact (h2.mul_left _).add (h1.mul_right _))
 exact ⟨w, e, ng, nw, wg, fun d h1 h2 => wg d h1 ((fE f h).least (h1.trans dwf) h2), (fE f h).r,
  fun d h1 h2 => hc d (h1.trans dgf) (by rw [hd]; exact (h1.mul_left _).add (h2.mul_left _)), fun d h1 h2 => hc d (h1.trans dwf) (by rw [hd]; exact (h2.mul_right _).add (h1.mul_right _))⟩
theorem p5.N {f h g w : ZX} (S : p5 f h g w) : ZX.N w ≤ ZX.N f ∧ ZX.N g ≤ ZX.N f := by
 have h1 := lA S.nw.ne S.ng.ne
 rw [← S.eq] at h1
 have := ZX.aG.1 S.nw.ne
 have := ZX.aG.1 S.ng.ne
 omega
theorem p5.cnt {f h g w : ZX} (S : p5 f h g w) {v γ φ : Rat → Nat} (hv : w5 f v) (hg : w5 g γ) (hw : w5 w φ) {s t : Rat} (lI : s ≤ t) : v s + γ t + φ t = v t + γ s + φ s := by
 have e : K 1 * f = w * g := by rw [← S.eq]; show (1 : ZX) * f = f; grind
 have := hv.mul hw hg (by decide) e S.wg lI
 omega
theorem abh {f h : ZX} {v w : Rat → Nat} (hv : w5 f v) (hw : w5 h w) (hc : GL f h) {s n l β : Nat} (hA : ∀ c ∈ f.l, c.natAbs ≤ 2 ^ s) (hB : ∀ c ∈ h.l, c.natAbs ≤ 2 ^ s) (hn : ZX.N f + ZX.N h ≤ n) (hl : n ≤ 2 ^ l)
  {a b : Rat} (ha : Ab a (2 ^ β)) (hb : Ab b (2 ^ β)) (gD : a < b) (hd : (b - a) * 2 ^ (sk s n l β + (s + n * (β + 2)) + 1) ≤ 1) : v a = v b ∨ w a = w b := by
 refine Classical.byContradiction fun U5 => ?_
 have agK := not_or.1 U5
 have hQ := gQ (s + n * (β + 2))
 have hlf : ∀ p : ZX, (∀ c ∈ p.l, c.natAbs ≤ 2 ^ s) → ZX.N p ≤ n → ∀ x y, a ≤ x → x ≤ y → y ≤ b → Ab (e y p - e x p) ((y - x) * 2 ^ (s + n * (β + 2))) := fun p hp hN x y h1 h2 h3 => by
  have g1 := (aa3 hp hN (eN ha hb h1 (by grind)) (eN ha hb (show a ≤ y by grind) h3)).1
  have g2 := lC x y p.l
  have g3 : e y p - e x p = qv y p.l - qv x p.l := rfl
  rw [g3, g2]
  exact Ab.mul ⟨by grind, Rat.le_refl⟩ g1
 have b1 := hv.small gD agK.1 hQ (hlf f hA (by omega)) Rat.le_refl (Rat.le_of_lt gD)
 have b2 := hw.small gD agK.2 hQ (hlf h hB (by omega)) Rat.le_refl (Rat.le_of_lt gD)
 obtain ⟨ε, h3, h4⟩ := vD (sk s n l β)
 have h5 := sep hv.ne hw.ne hA hB hn hl hc ha (ε := ε) (by rw [h4]; exact Rat.le_refl)
 rw [n6, n6] at hd
 have hK := gQ (sk s n l β)
 generalize (2 : Rat) ^ sk s n l β = κ at *
 generalize (2 : Rat) ^ (s + n * (β + 2)) = Q at *
 have e2 : (2 : Rat) ^ 1 = 2 := by rw [Rat.pow_succ, Rat.pow_zero]; grind
 rw [e2] at hd
 have h6 : (b - a) * Q * 2 ≤ ε := by
  have h7 : (b - a) * (κ * Q * 2) = (b - a) * Q * 2 * κ := by grind
  rw [h7, ← h4] at hd
  exact Rat.le_of_mul_le_mul_right hd hK
 have h8 : 0 ≤ (b - a) * Q := Rat.mul_nonneg (by grind) (Rat.le_of_lt hQ)
 obtain ⟨p1, p2⟩ := b1
 obtain ⟨p3, p4⟩ := b2
 rcases h5 with (h5 | h5) | (h5 | h5) <;> grind
theorem aez {f h : ZX} {v w : Rat → Nat} (hv : w5 f v) (hw : w5 h w) (hc : GL f h) (B : Rat) : ∃ δ : Rat, 0 < δ ∧ ∀ a b, Ab a B → Ab b B → a < b → b - a ≤ δ → v a = v b ∨ w a = w b := by
 obtain ⟨s1, h1⟩ := AZ f.l
 obtain ⟨s2, h2⟩ := AZ h.l
 obtain ⟨β, hβ⟩ := KN B
 obtain ⟨δ, h3, h4⟩ := vD (sk (s1 + s2) (ZX.N f + ZX.N h) (ZX.N f + ZX.N h) β + (s1 + s2 + (ZX.N f + ZX.N h) * (β + 2)) + 1)
 refine ⟨δ, h3, fun a b ha hb gD hd => abh hv hw hc (s := s1 + s2) (l := ZX.N f + ZX.N h) (β := β) (fun c hc => Nat.le_trans (h1 c hc) (Nat.pow_le_pow_right (by decide) (by omega))) (fun c hc => Nat.le_trans (h2 c hc) (Nat.pow_le_pow_right (by decide) (by omega))) (Nat.le_refl _) (Nat.le_of_lt Nat.lt_two_pow_self) (ha.mono hβ) (hb.mono hβ) gD ?_⟩
 rw [← h4]
 exact Rat.mul_le_mul_of_nonneg_right hd (Rat.le_of_lt (gQ _))
section
variable {f : ZX} {v : Rat → Nat} {lo hi : Rat} (A : oJ f v lo hi)
include A
theorem oA {s t : Rat} (h1 : ¬ gJ v lo hi s) (h2 : gJ v lo hi t) (lI : s < t) : v t < v s := by
 have g1 : s < hi := Rat.not_le.1 fun h => h1 (.inl h)
 rcases A.k with ⟨rfl, h0⟩ | ⟨eV, hk⟩
 ·have h3 : lo ≤ t := by rcases h2 with h | h <;> grind
  have h4 := A.S.root g1 h0
  have h5 := A.S.dO h3
  omega
 ·have h3 : v lo ≤ v s := by
   by_cases h : s ≤ lo
   ·exact A.S.dO h
   ·exact Nat.not_lt.1 fun h4 => h1 (.inr ⟨by grind, h4⟩)
  rcases h2 with h | ⟨_, h⟩
  ·have := A.S.dO h; omega
  ·omega
theorem R8 {s t : Rat} (h1 : ¬ gJ v lo hi s) (h2 : gJ v lo hi t) (hv : v s = v t + 1) {x : Rat} (hx : s ≤ x) (hy : x ≤ t) : gJ v lo hi x ↔ v x < v s := by
 refine ⟨fun h => ?_, fun h => ?_⟩
 ·refine oA A h1 h ?_
  rcases Rat.le_iff_lt_or_eq.1 hx with h3 | rfl
  ·exact h3
  ·exact absurd h h1
 ·refine Classical.byContradiction fun h3 => ?_
  have h4 : x < t := by
   rcases Rat.le_iff_lt_or_eq.1 hy with h4 | rfl
   ·exact h4
   ·exact absurd h2 h3
  have := oA A h3 h2 h4
  omega
end
theorem O1 {U : Rat → Prop} {δ : Rat} (hδ : 0 < δ) : ∀ (n : Nat) (s t : Rat), s < t → ¬ U s → U t → t - s ≤ δ * 2 ^ n → ∃ a b, s ≤ a ∧ a < b ∧ b ≤ t ∧ b - a ≤ δ ∧ ¬ U a ∧ U b
 | 0, s, t, h, h1, h2, hd => ⟨s, t, Rat.le_refl, h, Rat.le_refl, by rwa [Rat.pow_zero, Rat.mul_one] at hd, h1, h2⟩
 | n + 1, s, t, h, h1, h2, hd => by
  obtain ⟨m1, m2⟩ := vE h
  obtain ⟨d1, d2⟩ := tZ hd
  generalize (s + t) / 2 = m at *
  by_cases hm : U m
  ·obtain ⟨a, b, g1, g2, g3, g4⟩ := O1 hδ n s m m1 h1 hm d1
   exact ⟨a, b, g1, g2, by grind, g4⟩
  ·obtain ⟨a, b, g1, g2, g3, g4⟩ := O1 hδ n m t m2 hm h2 d2
   exact ⟨a, b, by grind, g2, g3, g4⟩
theorem aeA {U : Rat → Prop} {δ : Rat} (hδ : 0 < δ) {s t : Rat} (h : s < t) (h1 : ¬ U s) (h2 : U t) : ∃ a b, s ≤ a ∧ a < b ∧ b ≤ t ∧ b - a ≤ δ ∧ ¬ U a ∧ U b := by
 obtain ⟨n, hn⟩ := KN ((t - s) / δ)
 refine O1 hδ n s t h h1 h2 ?_
 have h3 : (t - s) / δ * δ = t - s := Rat.div_mul_cancel (Rat.ne_of_gt hδ)
 have h4 := Rat.mul_le_mul_of_nonneg_right hn (Rat.le_of_lt hδ)
 grind
section
variable {f h : ZX} {v w : Rat → Nat} {lo hi K3 kE : Rat} (A : oJ f v lo hi) (B : oJ h w K3 kE)
include A B
theorem KV {g w1 w2 : ZX} {γ φ η : Rat → Nat} (S1 : p5 f h g w1) (S2 : p5 h f g w2) (hg : w5 g γ) (h1 : w5 w1 φ) (h2 : w5 w2 η) {s t : Rat} (lI : s < t) (a1 : ¬ gJ v lo hi s) (a2 : gJ v lo hi t) (b1 : ¬ gJ w K3 kE s) (b2 : gJ w K3 kE t) (hv : v s ≤ v t + 1) (hw : w s ≤ w t + 1) (hγ : γ t < γ s) :
  ∀ x, gJ v lo hi x ↔ gJ w K3 kE x := fun x => by
 have c1 := oA A a1 a2 lI
 have c2 := oA B b1 b2 lI
 have e1 : v s = v t + 1 := by omega
 have e2 : w s = w t + 1 := by omega
 have k1 := S1.cnt A.S hg h1 (Rat.le_of_lt lI)
 have k2 := S2.cnt B.S hg h2 (Rat.le_of_lt lI)
 by_cases hx : x < s
 ·exact ⟨fun hh => absurd (A.up hh (Rat.le_of_lt hx)) a1, fun hh => absurd (B.up hh (Rat.le_of_lt hx)) b1⟩
 ·by_cases hy : t < x
  ·exact ⟨fun _ => B.up b2 (Rat.le_of_lt hy), fun _ => A.up a2 (Rat.le_of_lt hy)⟩
  ·have CG := Rat.not_lt.1 hx
   have BM := Rat.not_lt.1 hy
   rw [R8 A a1 a2 e1 CG BM, R8 B b1 b2 e2 CG BM]
   have q1 := S1.cnt A.S hg h1 CG
   have q2 := S2.cnt B.S hg h2 CG
   have r1 := h1.dO CG
   have r2 := h2.dO CG
   have r3 := h1.dO BM
   have r4 := h2.dO BM
   have m1 := hg.dO (Rat.le_of_lt lI)
   have m2 := h1.dO (Rat.le_of_lt lI)
   have m3 := h2.dO (Rat.le_of_lt lI)
   omega
end
theorem abi {q : Rat} {V : Rat → Prop} (hV : ∀ s t, V s → s ≤ t → V t) : cu (fun t => q ≤ t) V = -cr V q := by
 by_cases h : V q
 ·by_cases h2 : ∃ s, s < q ∧ V s
  ·rw [(A3 hV).2 h2]
   unfold cu
   obtain ⟨s, h3, h4⟩ := h2
   rw [if_neg (fun ⟨t, h5, h6⟩ => h6 (hV q t h h5)), if_pos ⟨s, h4, by grind⟩]
   rfl
  ·rw [x6.2 ⟨h, fun s h3 h4 => h2 ⟨s, h3, h4⟩⟩]
   unfold cu
   rw [if_neg (fun ⟨t, h5, h6⟩ => h6 (hV q t h h5)), if_neg (fun ⟨t, h5, h6⟩ => h2 ⟨t, by grind, h5⟩)]
   rfl
 ·rw [n7.2 h]
  unfold cu
  rw [if_pos ⟨q, Rat.le_refl, h⟩]
theorem VC {q : Rat} {U : Rat → Prop} (hU : ∀ s t, U s → s ≤ t → U t) : cu U (fun t => q ≤ t) = cr U q := by
 by_cases h : U q
 ·by_cases h2 : ∃ s, s < q ∧ U s
  ·rw [(A3 hU).2 h2]
   unfold cu
   obtain ⟨s, h3, h4⟩ := h2
   rw [if_pos ⟨s, h4, by grind⟩]
  ·rw [x6.2 ⟨h, fun s h3 h4 => h2 ⟨s, h3, h4⟩⟩]
   unfold cu
   rw [if_neg (fun ⟨t, h5, h6⟩ => h2 ⟨t, by grind, h5⟩), if_neg (fun ⟨t, h5, h6⟩ => h6 (hU q t h h5))]
 ·rw [n7.2 h]
  unfold cu
  rw [if_neg (fun ⟨t, h5, h6⟩ => h (hU t q h5 (by grind))), if_pos ⟨q, Rat.le_refl, h⟩]
theorem nD {U U' V V' : Rat → Prop} (h1 : ∀ t, U t ↔ U' t) (h2 : ∀ t, V t ↔ V' t) : cu U V = cu U' V' := by
 have e1 : U = U' := funext fun t => propext (h1 t)
 have e2 : V = V' := funext fun t => propext (h2 t)
 rw [e1, e2]
theorem R9 {f : ZX} {p : Rat × Rat} (h : p.1 = p.2) (t : Rat) : cZ f p t ↔ p.1 ≤ t := by
 refine ⟨fun h1 => ?_, fun h1 => .inl (h ▸ h1)⟩
 rcases h1 with h1 | ⟨h1, _⟩
 ·rw [h]; exact h1
 ·grind
theorem apH {h : ZX} {w : Rat → Nat} {lo hi K3 kE : Rat} {v : Rat → Nat} (B : oJ h w K3 kE) (h1 : hi ≤ K3) (h2 : K3 < kE) : cu (gJ v lo hi) (gJ w K3 kE) = -1 := by
 unfold cu
 rw [if_pos ⟨hi, kO, B.n8 (by grind)⟩]
theorem apI {f h : ZX} {v w : Rat → Nat} {lo hi K3 kE : Rat} (A : oJ f v lo hi) (B : oJ h w K3 kE) (h1 : kE ≤ lo) (h2 : lo < hi) : cu (gJ v lo hi) (gJ w K3 kE) = 1 := by
 have h3 : ¬ gJ v lo hi kE := A.n8 (by grind)
 have h4 : ¬ ∃ t, gJ v lo hi t ∧ ¬ gJ w K3 kE t := fun ⟨t, h4, h5⟩ => h5 (B.up kO (Rat.not_lt.1 fun h6 => h3 (A.up h4 (Rat.le_of_lt h6))))
 unfold cu
 rw [if_neg h4, if_pos ⟨kE, kO, h3⟩]
structure Two (s n : Nat) (f h : ZX) : Prop where
 nf : Nf f
 nh : Nf h
 cf : GL f (bM f)
 ch : GL h (bM h)
 af : ∀ c ∈ f.l, c.natAbs ≤ 2 ^ s
 ah : ∀ c ∈ h.l, c.natAbs ≤ 2 ^ s
 Nf : ZX.N f ≤ n
 Nh : ZX.N h ≤ n
 hn : n ≤ 20
 hs : n + 1 ≤ 2 ^ s
namespace Two
variable {s n : Nat} {f h : ZX} (T : Two s n f h)
include T
theorem Sf : w5 f (vt (bE f)) := sqf T.nf.ne T.cf (Nat.le_trans T.Nf T.hn)
theorem Sh : w5 h (vt (bE h)) := sqf T.nh.ne T.ch (Nat.le_trans T.Nh T.hn)
end Two
def kc (s n β : Nat) : Nat := lk s n 5 β + (sk (qb (s + 1) n) (n + n) 6 β + (qb (s + 1) n + (n + n) * (β + 2)) + 1)
theorem apJ {s n β : Nat} (hn : n ≤ 20) : kc s n β ≤ 1722 * s + 140 * β + 9000 := by
 have h1 : (n + n) * (s + 5 + 1 + (5 + 1)) ≤ 40 * (s + 12) := Nat.mul_le_mul (by omega) (by omega)
 have h2 : (n + n) * (β + 2) ≤ 40 * (β + 2) := Nat.mul_le_mul (by omega) (by omega)
 have h3 : n * (β + 2) ≤ 20 * (β + 2) := Nat.mul_le_mul hn (by omega)
 have h4 : n * (2 * (s + 1) + 5) ≤ 20 * (2 * (s + 1) + 5) := Nat.mul_le_mul hn (by omega)
 have h5 : qb (s + 1) n ≤ 41 * s + 150 := by unfold qb; omega
 have h6 : (n + n) * (qb (s + 1) n + 1 + 6) ≤ 40 * (41 * s + 157) := Nat.mul_le_mul (by omega) (by omega)
 unfold kc lk sk
 omega
theorem auJ {s n : Nat} {f h g w : ZX} (S : p5 f h g w) (hf : f ≠ 0) (hA : ∀ c ∈ f.l, c.natAbs ≤ 2 ^ s) (hN : ZX.N f ≤ n) (hs : n + 1 ≤ 2 ^ s) : ∀ c ∈ w.l, c.natAbs ≤ 2 ^ qb (s + 1) n := fun c hc => by
 have hb : Bd 2 (s + 1) n f.l := ⟨hN, fun c hc => cG (by decide) (by
  have h1 := hA c hc
  have h2 : 2 ^ s < 2 ^ (s + 1) := Nat.pow_lt_pow_right (by decide) (by omega)
  omega)⟩
 have h1 := aae (a := f) (w := g) (g := w) hf (by rw [S.eq, ZX.DM]) hb (Nat.le_trans hs (Nat.pow_le_pow_right (by decide) (by omega)))
 have h2 := kG (b := 2) (by decide) c
 have h3 := Nat.pow_le_pow_right (show 0 < 2 by decide) (h1.sz c hc)
 unfold qb
 omega
theorem VD {s n β : Nat} {f h : ZX} {p q : Rat × Rat} (T : Two s n f h) (A : oJ f (vt (bE f)) p.1 p.2) (B : oJ h (vt (bE h)) q.1 q.2) (h1 : p.1 < p.2) (h2 : q.1 < q.2) (h3 : p.1 < q.2) (h4 : q.1 < p.2)
  (a1 : Ab p.1 (2 ^ β)) (a2 : Ab p.2 (2 ^ β)) (b1 : Ab q.1 (2 ^ β)) (b2 : Ab q.2 (2 ^ β)) {W : Rat} (w1 : p.2 - p.1 ≤ W) (w2 : q.2 - q.1 ≤ W) (hW : 2 * W * 2 ^ kc s n β ≤ 1) : ∀ x, cZ f p x ↔ cZ h q x := by
 obtain ⟨S, hS, hS1, hS2⟩ : ∃ S, (S = p.1 ∨ S = q.1) ∧ S ≤ p.1 ∧ S ≤ q.1 := by
  by_cases hh : p.1 ≤ q.1
  ·exact ⟨p.1, .inl rfl, Rat.le_refl, hh⟩
  ·exact ⟨q.1, .inr rfl, by grind, Rat.le_refl⟩
 obtain ⟨E, hE, hE1, hE2⟩ : ∃ E, (E = p.2 ∨ E = q.2) ∧ p.2 ≤ E ∧ q.2 ≤ E := by
  by_cases hh : p.2 ≤ q.2
  ·exact ⟨q.2, .inr rfl, hh, Rat.le_refl⟩
  ·exact ⟨p.2, .inl rfl, Rat.le_refl, by grind⟩
 have aS : Ab S (2 ^ β) := by rcases hS with rfl | rfl <;> assumption
 have aE : Ab E (2 ^ β) := by rcases hE with rfl | rfl <;> assumption
 have SA : S < E := by grind
 have hd : E - S ≤ 2 * W := by rcases hS with rfl | rfl <;> rcases hE with rfl | rfl <;> grind
 have hd0 : 0 ≤ E - S := by grind
 have hdK : (E - S) * 2 ^ kc s n β ≤ 1 := Rat.le_trans (Rat.mul_le_mul_of_nonneg_right hd (Rat.le_of_lt (gQ _))) hW
 have lt1 : ∀ k, k ≤ kc s n β → (E - S) * 2 ^ k ≤ 1 := fun k hk => Rat.le_trans (Rat.mul_le_mul_of_nonneg_left (RZ hk) hd0) hdK
 obtain ⟨Lf, _⟩ := (show ∃ L, xI L f ∧ vt (bE f) = vt L from T.Sf.g)
 have qV : ∀ x : ZX, w5 x (vt (bE x)) → x ≠ 0 → (∀ c ∈ x.l, c.natAbs ≤ 2 ^ s) → ZX.N x ≤ n → vt (bE x) S ≤ vt (bE x) E + 1 := fun x hx h0 hA hN => by
  obtain ⟨L, G, e⟩ := hx.g
  obtain ⟨g1, _⟩ := vC G (s := s) (n := n) (l := 5) (β := β) h0 hA hN (by have := T.hn; omega) hx.cop (δ := E - S) (lt1 _ (by unfold kc; omega))
  have := g1.turns S E aS aE SA Rat.le_refl
  rw [e]
  rcases OR x S E with h5 | h5 <;> omega
 have nF := qV f T.Sf T.nf.ne T.af T.Nf
 have nH := qV h T.Sh T.nh.ne T.ah T.Nh
 obtain ⟨w1', S1⟩ := A8 (h := h) T.nf T.cf
 obtain ⟨w2', S2⟩ := A8 (h := f) T.nh T.ch
 rw [← tQ] at S2
 have TS := T.hn
 have n1 := S1.N
 have n2 := S2.N
 have hTN := T.Nf
 have auK := T.Nh
 have hg := sqf S1.ng.ne S1.sg (by omega)
 have IK := sqf S1.nw.ne S1.sw (by omega)
 have hw2 := sqf S2.nw.ne S2.sw (by omega)
 have c1 : ¬ cZ f p S := A.n8 (by grind)
 have c2 : cZ f p E := A.up kO hE1
 have c3 : ¬ cZ h q S := B.n8 (by grind)
 have c4 : cZ h q E := B.up kO hE2
 have o1 := oA A c1 c2 SA
 have o2 := oA B c3 c4 SA
 have k1 := S1.cnt T.Sf hg IK (Rat.le_of_lt SA)
 have mG := auJ S1 T.nf.ne T.af T.Nf T.hs
 have hno := abh IK T.Sh S1.wh (s := qb (s + 1) n) (n := n + n) (l := 6) (β := β) mG (fun c hc => Nat.le_trans (T.ah c hc) (Nat.pow_le_pow_right (by decide) (by unfold qb; omega))) (by omega) (by omega) aS aE SA (lt1 _ (by unfold kc; omega))
 have m0 := hg.dO (Rat.le_of_lt SA)
 refine KV A B S1 S2 hg IK hw2 SA c1 c2 c3 c4 nF nH ?_
 rcases hno with hno | hno
 ·omega
 ·omega
theorem VE {s n : Nat} {f h : ZX} {p q : Rat × Rat} (T : Two s n f h) (A : oJ f (vt (bE f)) p.1 p.2) (B : oJ h (vt (bE h)) q.1 q.2) (h1 : p.1 < p.2) (h2 : q.1 < q.2) (h3 : ¬ cZ f p q.1) (h4 : cZ f p q.2) (hz : vt (bE (gz h f)) p.2 < vt (bE (gz h f)) p.1) : ∀ x, cZ f p x ↔ cZ h q x := by
 rw [tQ] at hz
 obtain ⟨w1', S1⟩ := A8 (h := h) T.nf T.cf
 obtain ⟨w2', S2⟩ := A8 (h := f) T.nh T.ch
 rw [← tQ] at S2
 have TS := T.hn
 have n1 := S1.N
 have n2 := S2.N
 have hTN := T.Nf
 have auK := T.Nh
 have hg := sqf S1.ng.ne S1.sg (by omega)
 have IK := sqf S1.nw.ne S1.sw (by omega)
 have hw2 := sqf S2.nw.ne S2.sw (by omega)
 have hv : vt (bE f) p.1 = vt (bE f) p.2 + 1 := by
  rcases A.k with ⟨g, _⟩ | ⟨_, g⟩
  ·grind
  ·exact g
 have hw : vt (bE h) q.1 = vt (bE h) q.2 + 1 := by
  rcases B.k with ⟨g, _⟩ | ⟨_, g⟩
  ·grind
  ·exact g
 have Y4 : q.1 < p.2 := Rat.not_le.1 fun hh => h3 (.inl hh)
 have hq2 : p.1 < q.2 := Rat.not_le.1 fun hh => (A.n8 (show q.2 < p.1 ∨ (q.2 = p.1 ∧ p.1 < p.2) by grind)) h4
 obtain ⟨S, hS, hS1, hS2⟩ : ∃ S, (S = p.1 ∨ S = q.1) ∧ p.1 ≤ S ∧ q.1 ≤ S := by
  by_cases hh : p.1 ≤ q.1
  ·exact ⟨q.1, .inr rfl, hh, Rat.le_refl⟩
  ·exact ⟨p.1, .inl rfl, Rat.le_refl, by grind⟩
 obtain ⟨E, hE, hE1, hE2⟩ : ∃ E, (E = p.2 ∨ E = q.2) ∧ E ≤ p.2 ∧ E ≤ q.2 := by
  by_cases hh : p.2 ≤ q.2
  ·exact ⟨p.2, .inl rfl, Rat.le_refl, hh⟩
  ·exact ⟨q.2, .inr rfl, by grind, Rat.le_refl⟩
 have SA : S < E := by rcases hS with rfl | rfl <;> rcases hE with rfl | rfl <;> assumption
 have c1 : ¬ cZ f p S := by
  rcases hS with rfl | rfl
  ·exact A.n8 (.inr ⟨rfl, h1⟩)
  ·exact h3
 have c2 : cZ f p E := by
  rcases hE with rfl | rfl
  ·exact kO
  ·exact h4
 have o1 := oA A c1 c2 SA
 have v1 := T.Sf.dO hS1
 have v2 := T.Sf.dO hE1
 have k1 := S1.cnt T.Sf hg IK hS1
 have k2 := S1.cnt T.Sf hg IK hE1
 have k3 := S1.cnt T.Sf hg IK (Rat.le_of_lt SA)
 have k4 := S2.cnt T.Sh hg hw2 (Rat.le_of_lt SA)
 have a1 := hg.dO hS1
 have a2 := hg.dO hE1
 have a3 := IK.dO hS1
 have a4 := IK.dO hE1
 have a5 := hw2.dO (Rat.le_of_lt SA)
 have a6 := IK.dO (Rat.le_of_lt SA)
 have u1 := T.Sh.dO hS2
 have u2 := T.Sh.dO hE2
 have c3 : ¬ cZ h q S := fun hh => by
  rcases hh with hh | ⟨_, hh⟩
  ·have := T.Sh.dO hh; omega
  ·omega
 have c4 : cZ h q E := .inr ⟨by grind, by omega⟩
 exact KV A B S1 S2 hg IK hw2 SA c1 c2 c3 c4 (by omega) (by omega) (by omega)
theorem VF {s n : Nat} {f h : ZX} {p q : Rat × Rat} (T : Two s n f h) (A : oJ f (vt (bE f)) p.1 p.2) (B : oJ h (vt (bE h)) q.1 q.2) (h1 : p.1 < p.2) (hx : ∀ x, cZ f p x ↔ cZ h q x) : vt (bE (gz h f)) p.2 < vt (bE (gz h f)) p.1 := by
 rw [tQ]
 obtain ⟨w1', S1⟩ := A8 (h := h) T.nf T.cf
 have TS := T.hn
 have n1 := S1.N
 have hTN := T.Nf
 have hg := sqf S1.ng.ne S1.sg (by omega)
 have IK := sqf S1.nw.ne S1.sw (by omega)
 obtain ⟨B0, hB0, ab1, ab2⟩ := r9 p.1 p.2
 obtain ⟨δ, hδ, hno⟩ := aez IK T.Sh S1.wh B0
 obtain ⟨a, b, g1, g2, g3, g4, g5, g6⟩ := aeA (U := cZ f p) hδ h1 (A.n8 (.inr ⟨rfl, h1⟩)) kO
 have o1 := oA A g5 g6 g2
 have o2 := oA B (fun hh => g5 ((hx _).2 hh)) ((hx _).1 g6) g2
 have k1 := S1.cnt T.Sf hg IK (Rat.le_of_lt g2)
 have a1 := hg.dO g1
 have a2 := hg.dO g3
 rcases hno a b (eN ab1 ab2 g1 (by grind)) (eN ab1 ab2 (by grind) g3) g2 g4 with hh | hh
 ·omega
 ·omega
end Go.Proofs.YtbbjgncblhfegaaGreat
namespace Go.Proofs.YtbbjgncblhfegaaGreat
open Go Pm
open ZX hiding N W
theorem ajX {a : ZX} (na : Nf a) (hc : GL a (bM a)) : sq a = a := by
 obtain ⟨g, hg⟩ := iG _ a (bM a) (Nat.le_refl _)
 have h0 := hg.ne (.inl na.ne)
 have h1 := hc g hg.l hg.r
 have h2 := ZX.aG.1 h0
 obtain ⟨k, hk, rfl⟩ := nC (show ZX.N g = 1 by omega)
 obtain ⟨c, uV, u, v, e⟩ := hg.uv
 rw [nB] at e
 exact RN na (Int.mul_ne_zero uV hk) e.symm
abbrev uL (x : List Int) (c : List ZX) (an ad bn bd : Int) : List PV := [PI x, aJ zq c, aJ aF (aQ DD an.natAbs), .bool (decide (an < 0)), aJ aF (aQ DD ad.natAbs), .bool (decide (ad < 0)), aJ aF (aQ DD bn.natAbs), .bool (decide (bn < 0)), aJ aF (aQ DD bd.natAbs), .bool (decide (bd < 0))]
theorem p6 {f : ZX} {c : List ZX} {p : Rat × Rat} : QA f c p = .ag (uL f.l c p.1.num p.1.den p.2.num p.2.den) := rfl
theorem D5 {y x g : List Int} {c cg : List ZX} {an ad bn bd σ b : Int} {pt z : Bool} (hl : y.length < 1000000) (hg : g.length < 1000000) (p1 : aK env.P 113 [.ag (uL x c an ad bn bd)] (.bool pt)) (k1 : pt = true → aK env.P 107 [PI y, R2 an ad] (.int .i64 σ)) (k2 : aK env.P 171 [PI y, PI x] (PI g))
  (k3 : 2 ≤ g.length → aK env.P 57 [PI g] (aJ zq cg)) (k4 : 2 ≤ g.length → aK env.P 59 [aJ zq cg, R2 an ad, R2 bn bd] (.int .i64 b)) (hz : z = if y.length = 0 then true else if pt = true then σ == 0 else if g.length < 2 then false else decide (0 < b)) :
  aK env.P 114 [PI y, .ag (uL x c an ad bn bd)] (.bool z) := by
 simp only [uL] at p1 ⊢
 refine aB (E := env) (fun _ => 0) [(0, PI y), (1, .ag [PI x, aJ zq c, aJ aF (aQ DD an.natAbs), .bool (decide (an < 0)), aJ aF (aQ DD ad.natAbs), .bool (decide (ad < 0)), aJ aF (aQ DD bn.natAbs), .bool (decide (bn < 0)), aJ aF (aQ DD bd.natAbs), .bool (decide (bd < 0))])] Tryz.func114 rfl (by kernel_rfl) (by kernel_rfl) (show 2 ≤ 31 by decide) (by simp) ?_
 refine W.sr ?_; simp (disch := omega) [gw]; refine W.lx [0, 3] ?_; simp
 refine W.seq ?_
 refine W.sr ?_; simp (disch := omega) [gw]; refine W.lx [0, 3, 8] ?_; simp
 refine W.cond ⟨_, rfl, fun h => ?_, fun h => ?_⟩
 ·have hy : y.length = 0 := by simp at h; simp [h]
  rw [if_pos hy] at hz; subst hz
  refine W.sr ?_; simp (disch := omega) [gw]; refine W.lx [4] ?_; simp
  refine W.ret ?_
  simp [go]
 ·have hy : ¬ y.length = 0 := by simp at h; simp [h]
  rw [if_neg hy] at hz
  refine W.skip ?_
  refine W.seq ?_
  refine W.sr ?_
  simp (disch := omega) [gw]
  refine aA p1 ?_
  simp (disch := omega) [gw]
  refine W.lx [0, 3, 10] ?_; simp
  refine W.cond ⟨_, rfl, fun h => ?_, fun h => ?_⟩
  ·subst h
   rw [if_pos rfl] at hz; subst hz
   have k1' := k1 rfl
   refine W.sr ?_
   simp (disch := omega) [gw]
   refine aA k1' ?_
   simp (disch := omega) [gw]
   refine W.lx [4] ?_; simp
   refine W.ret ?_
   simp [go]
  ·subst h
   rw [if_neg (by decide)] at hz
   refine W.skip ?_
   refine W.sr ?_
   simp (disch := omega) [gw]
   refine aA k2 ?_
   simp (disch := omega) [gw]
   refine W.lx [3, 5] ?_; simp
   refine W.seq ?_
   refine W.sr ?_; simp (disch := omega) [gw]; refine W.lx [3, 5, 22] ?_; simp
   refine W.cond ⟨_, rfl, fun h => ?_, fun h => ?_⟩
   ·have oX : g.length < 2 := by simp at h; omega
    rw [if_pos oX] at hz; subst hz
    refine W.sr ?_; simp (disch := omega) [gw]; refine W.lx [4] ?_; simp
    refine W.ret ?_
    simp [go]
   ·have oX : ¬ g.length < 2 := by simp at h; omega
    rw [if_neg oX] at hz
    have k3' := k3 (by omega)
    have k4' := k4 (by omega)
    refine W.skip ?_
    refine W.sd ?_
    simp (disch := omega) [gw]
    refine aA k3' ?_
    simp (disch := omega) [gw]
    refine aA k4' ?_
    simp (disch := omega) [gw]
    refine W.lx [4] ?_; simp
    refine W.ret ?_
    simp [go, hz]
theorem A9 (U : Rat → Prop) (t : Rat) : cr U t = -1 ∨ cr U t = 0 ∨ cr U t = 1 := by
 unfold cr
 split
 ·split <;> simp
 ·simp
theorem VG {x y : List Int} {c d : List ZX} {an ad bn bd en ed gn gd r : Int} (hr : r = -1 ∨ r = 0 ∨ r = 1) (p1 : aK env.P 113 [.ag (uL x c an ad bn bd)] (.bool true)) (k1 : aK env.P 43 [.ag (uL y d en ed gn gd), R2 an ad] (.int .i64 r)) :
  aK env.P 42 [.ag (uL x c an ad bn bd), .ag (uL y d en ed gn gd)] (.int .i64 (-r)) := by
 have hw : IntKind.wrap .i64 (-r) = -r := wrap_i64 (by omega) (by omega)
 simp only [uL] at p1 k1 ⊢
 refine aB (E := env) (fun _ => 0) [(0, .ag [PI x, aJ zq c, aJ aF (aQ DD an.natAbs), .bool (decide (an < 0)), aJ aF (aQ DD ad.natAbs), .bool (decide (ad < 0)), aJ aF (aQ DD bn.natAbs), .bool (decide (bn < 0)), aJ aF (aQ DD bd.natAbs), .bool (decide (bd < 0))]), (1, .ag [PI y, aJ zq d, aJ aF (aQ DD en.natAbs), .bool (decide (en < 0)), aJ aF (aQ DD ed.natAbs), .bool (decide (ed < 0)), aJ aF (aQ DD gn.natAbs), .bool (decide (gn < 0)), aJ aF (aQ DD gd.natAbs), .bool (decide (gd < 0))])] Tryz.func42 rfl (by kernel_rfl) (by kernel_rfl) (show 2 ≤ 59 by decide) (by simp) ?_
 refine W.sr ?_; simp (disch := omega) [gw]; refine W.lx [2, 3] ?_; simp
 refine W.seq ?_
 refine W.sr ?_
 simp (disch := omega) [gw]
 refine aA p1 ?_
 simp (disch := omega) [gw]
 refine W.lx [2, 3, 6] ?_; simp
 refine W.cond ⟨_, rfl, fun h => ?_, fun h => ?_⟩
 ·refine W.sr ?_
  simp (disch := omega) [gw]
  refine aA k1 ?_
  simp (disch := omega) [gw, hw]
  refine W.lx [4] ?_; simp
  refine W.ret ?_
  simp [go]
 ·simp at h
theorem VH {x y : List Int} {c d : List ZX} {an ad bn bd en ed gn gd r : Int} (p1 : aK env.P 113 [.ag (uL x c an ad bn bd)] (.bool false)) (p2 : aK env.P 113 [.ag (uL y d en ed gn gd)] (.bool true)) (k1 : aK env.P 43 [.ag (uL x c an ad bn bd), R2 en ed] (.int .i64 r)) :
  aK env.P 42 [.ag (uL x c an ad bn bd), .ag (uL y d en ed gn gd)] (.int .i64 r) := by
 simp only [uL] at p1 p2 k1 ⊢
 refine aB (E := env) (fun _ => 0) [(0, .ag [PI x, aJ zq c, aJ aF (aQ DD an.natAbs), .bool (decide (an < 0)), aJ aF (aQ DD ad.natAbs), .bool (decide (ad < 0)), aJ aF (aQ DD bn.natAbs), .bool (decide (bn < 0)), aJ aF (aQ DD bd.natAbs), .bool (decide (bd < 0))]), (1, .ag [PI y, aJ zq d, aJ aF (aQ DD en.natAbs), .bool (decide (en < 0)), aJ aF (aQ DD ed.natAbs), .bool (decide (ed < 0)), aJ aF (aQ DD gn.natAbs), .bool (decide (gn < 0)), aJ aF (aQ DD gd.natAbs), .bool (decide (gd < 0))])] Tryz.func42 rfl (by kernel_rfl) (by kernel_rfl) (show 2 ≤ 59 by decide) (by simp) ?_
 refine W.sr ?_; simp (disch := omega) [gw]; refine W.lx [2, 3] ?_; simp
 refine W.seq ?_
 refine W.sr ?_
 simp (disch := omega) [gw]
 refine aA p1 ?_
 simp (disch := omega) [gw]
 refine W.lx [2, 3, 6] ?_; simp
 refine W.cond ⟨_, rfl, fun h => ?_, fun h => ?_⟩
 ·simp at h
 refine W.skip ?_
 refine W.seq ?_
 refine W.sr ?_
 simp (disch := omega) [gw]
 refine aA p2 ?_
 simp (disch := omega) [gw]
 refine W.lx [2, 3, 13] ?_; simp
 refine W.cond ⟨_, rfl, fun h => ?_, fun h => ?_⟩
 ·refine W.sr ?_
  simp (disch := omega) [gw]
  refine aA k1 ?_
  simp (disch := omega) [gw]
  refine W.lx [4] ?_; simp
  refine W.ret ?_
  simp [go]
 ·simp at h
section
variable {s n s' n' u : Nat} {f h : ZX} {p q : Rat × Rat} (I : lH s n f) (I' : lH s' n' h) (A : oJ f (vt (bE f)) p.1 p.2) (B : oJ h (vt (bE h)) q.1 q.2) (p1 : SQ u p.1) (p2 : SQ u p.2) (q1 : SQ u q.1) (q2 : SQ u q.2) (hu : u ≤ 1000000000)
include I I' A B p1 p2 q1 q2 hu
theorem abj (hp : p.1 = p.2 ∨ q.1 = q.2) : aK env.P 42 [QA f (bE f) p, QA h (bE h) q] (.int .i64 (cu (cZ f p) (cZ h q))) := by
 have e1 := pY (f := f) (c := bE f) p1 p2 hu
 have e2 := pY (f := h) (c := bE h) q1 q2 hu
 by_cases h1 : p.1 = p.2
 ·rw [decide_eq_true h1] at e1
  have k1 := I'.GR B q1 q2 p1 hu
  rw [nD (R9 h1) (fun _ => Iff.rfl), abi fun s t => B.up]
  rw [bV] at k1
  exact VG (A9 _ _) e1 k1
 ·rw [decide_eq_false h1] at e1
  have h2 : q.1 = q.2 := hp.resolve_left h1
  rw [decide_eq_true h2] at e2
  have k1 := I.GR A p1 p2 q1 hu
  rw [nD (fun _ => Iff.rfl) (R9 h2), VC fun s t => A.up]
  rw [bV] at k1
  exact VH e1 e2 k1
end
theorem agM {u : Nat} {p q : Rat} (hp : SQ u p) (hq : SQ u q) : ∃ D, 1 ≤ D ∧ D ≤ 2 ^ (2 * u) ∧ Gr D (2 ^ u) 0 p ∧ Gr D (2 ^ u) 0 q := by
 have key : ∀ r : Rat, SQ u r → 1 ≤ r.den ∧ r.den ≤ 2 ^ u ∧ Ab r (2 ^ u) ∧ r * ((r.den : Int) : Rat) = (r.num : Rat) := fun r hr => by
  have h1 := r.den_pos
  have h2 := kG (b := 2) (by decide) (r.den : Int)
  have h3 := Nat.pow_le_pow_right (show 0 < 2 by decide) hr.d2
  have h4 := kG (b := 2) (by decide) r.num
  have h5 := Nat.pow_le_pow_right (show 0 < 2 by decide) hr.n2
  have h6 := GI r
  have h7 : Ab (r.num : Rat) (2 ^ u) := KM (by omega)
  have h8 : (1 : Rat) ≤ ((r.den : Int) : Rat) := eE (by omega)
  refine ⟨h1, by omega, ?_, h6.symm⟩
  rw [h6] at h7
  obtain ⟨g1, g2⟩ := h7
  have hT := gQ u
  generalize (2 : Rat) ^ u = T at *
  constructor
  ·refine Rat.not_lt.1 fun hh => ?_
   have := Rat.mul_le_mul_of_nonneg_left h8 (show 0 ≤ -r by grind)
   grind
  ·refine Rat.not_lt.1 fun hh => ?_
   have := Rat.mul_le_mul_of_nonneg_left h8 (show 0 ≤ r by grind)
   grind
 obtain ⟨a1, a2, a3, a4⟩ := key p hp
 obtain ⟨b1, b2, b3, b4⟩ := key q hq
 refine ⟨p.den * q.den, Nat.mul_pos a1 b1, ?_, ⟨⟨p.num * (q.den : Int), ?_⟩, a3⟩, ⟨⟨q.num * (p.den : Int), ?_⟩, b3⟩⟩
 ·rw [Nat.two_mul, Nat.pow_add]; exact Nat.mul_le_mul a2 b2
 ·rw [Nat.pow_zero, Nat.mul_one, Rat.intCast_mul, ← a4, Int.natCast_mul p.den, Rat.intCast_mul]; grind
 ·rw [Nat.pow_zero, Nat.mul_one, Rat.intCast_mul, ← b4, Int.natCast_mul p.den, Rat.intCast_mul]; grind
theorem agN {f : ZX} {p : Rat × Rat} {D j : Nat} {B : Rat} (h1 : Gr D B j p.1) (h2 : Gr D B j p.2) (hle : p.1 ≤ p.2) : Gr D B (j + 1) (hv f p).1 ∧ Gr D B (j + 1) (hv f p).2 ∧ ((hv f p).2 - (hv f p).1) * 2 ≤ p.2 - p.1 := by
 have hm := h1.G3 h2
 have e : (p.1 + p.2) / 2 * 2 = p.1 + p.2 := Rat.div_mul_cancel (by decide)
 have key : ∀ q : Rat × Rat, Gr D B (j + 1) q.1 → Gr D B (j + 1) q.2 → q.1 ≤ q.2 → (q.2 - q.1) * 2 ≤ p.2 - p.1 → Gr D B (j + 1) (ex f q).1 ∧ Gr D B (j + 1) (ex f q).2 ∧ ((ex f q).2 - (ex f q).1) * 2 ≤ p.2 - p.1 := fun q a1 a2 a3 a4 => by
  unfold ex
  split
  ·exact ⟨a2, a2, by show (q.2 - q.2) * 2 ≤ _; grind⟩
  ·exact ⟨a1, a2, a4⟩
 unfold hv
 split
 ·rename_i hh
  exact ⟨h1.mono (by omega), h2.mono (by omega), by rw [hh]; grind⟩
 ·split
  ·exact key (p.1, (p.1 + p.2) / 2) (h1.mono (by omega)) hm (by show p.1 ≤ _; grind) (by show ((p.1 + p.2) / 2 - p.1) * 2 ≤ _; grind)
  ·exact key ((p.1 + p.2) / 2, p.2) hm (h2.mono (by omega)) (by show _ ≤ p.2; grind) (by show (p.2 - (p.1 + p.2) / 2) * 2 ≤ _; grind)
theorem abk {s n s' n' S N u : Nat} {f fb : ZX} {p q : Rat × Rat} (I : lH s n f) (I' : lH s' n' fb) (T : Two S N f fb) (hS : S ≤ 20000) (hG : aK env.P 171 [PI fb.l, PI f.l] (PI (gz fb f).l)) (IG : 2 ≤ ZX.N (gz fb f) → ∃ sg ng, lH sg ng (gz fb f))
  (A : oJ f (vt (bE f)) p.1 p.2) (B : oJ fb (vt (bE fb)) q.1 q.2) (p1 : SQ u p.1) (p2 : SQ u p.2) (q1 : SQ u q.1) (q2 : SQ u q.2) (hu : u ≤ 2200000) : aK env.P 42 [QA f (bE f) p, QA fb (bE fb) q] (.int .i64 (cu (cZ f p) (cZ fb q))) := by
 by_cases hpt : p.1 = p.2 ∨ q.1 = q.2
 ·exact abj I I' A B p1 p2 q1 q2 (by omega) hpt
 obtain ⟨hp, hq⟩ := not_or.1 hpt
 have O9 : p.1 < p.2 := by have := A.le; grind
 have hql : q.1 < q.2 := by have := B.le; grind
 have hTn := T.hn
 have hN1 := T.Nf
 have NJ := T.Nh
 have e1 := pY (f := f) (c := bE f) p1 p2 (by omega)
 have e2 := pY (f := fb) (c := bE fb) q1 q2 (by omega)
 rw [decide_eq_false hp] at e1
 rw [decide_eq_false hq] at e2
 have ⟨zv, hzv, Z⟩ : ∃ z : Bool, (z = true ↔ vt (bE (gz fb f)) p.2 < vt (bE (gz fb f)) p.1) ∧ aK env.P 114 [PI fb.l, QA f (bE f) p] (.bool z) := by
  have hg0 : gz fb f ≠ 0 := aai (.inr I.nf.ne)
  have hgN : ZX.N (gz fb f) ≤ ZX.N f := (fE fb f).r.pQ I.nf.ne
  have vP : ¬ fb.l.length = 0 := by have := ZX.aG.1 I'.nf.ne; have : ZX.N fb = fb.l.length := rfl; omega
  by_cases h2 : 2 ≤ ZX.N (gz fb f)
  ·obtain ⟨sg, ng, IGG⟩ := IG h2
   have k4 := IGG.uA p1 p2 (by omega)
   rw [if_neg (Rat.not_lt.2 (Rat.le_of_lt O9)), bV, bV] at k4
   refine ⟨_, ?_, D5 (by show ZX.N fb < _; omega) (by show ZX.N (gz fb f) < _; omega) e1 (fun hh => by cases hh) hG (fun _ => IGG.OZ) (fun _ => k4) (σ := 0) rfl⟩
   rw [if_neg vP, if_neg (by decide), if_neg (by show ¬ ZX.N (gz fb f) < 2; omega), decide_eq_true_eq]
   omega
  ·refine ⟨_, ?_, D5 (by show ZX.N fb < _; omega) (by show ZX.N (gz fb f) < _; omega) e1 (fun hh => by cases hh) hG (fun hh => absurd hh h2) (fun hh => absurd hh h2) (σ := 0) (b := 0) (cg := []) rfl⟩
   rw [if_neg vP, if_neg (by decide), if_pos (by show ZX.N (gz fb f) < 2; omega)]
   refine ⟨fun hh => absurd hh (by decide), fun hh => ?_⟩
   exfalso
   have : gz fb f = 1 := (J1 (.inr I.nf.ne)).N1 (by omega)
   rw [this] at hh
   have hS1 := sqf ZX.pP (fun d h1 h2 => by have := h1.pQ ZX.pP; rwa [ZX.tN] at this) (by rw [ZX.tN]; omega)
   have := hS1.const O9 (σ := 1) (.inr (by rw [RD]; decide)) (fun x _ _ => by rw [RD]; decide)
   omega
 have r1 := I.GR A p1 p2 q1 (by omega)
 have r2 := I.GR A p1 p2 q2 (by omega)
 obtain ⟨D, hD1, G2, g1, g2⟩ := agM p1 p2
 obtain ⟨D', aeB, aeC, g1', g2'⟩ := agM q1 q2
 have hK := apJ (s := S) (β := u) hTn
 have apK : ∀ r : Rat × Rat, Ab r.1 (2 ^ u) → Ab r.2 (2 ^ u) → r.2 - r.1 ≤ 2 ^ (u + 1) := fun r ⟨a1, a2⟩ ⟨a3, a4⟩ => by rw [Rat.pow_succ]; grind
 obtain ⟨J, hJ⟩ : ∃ J, J = kc S N u + u + 2 := ⟨_, rfl⟩
 have hJ2 : u + 1 + 2 * u + J + 1 ≤ 1000000000 := by omega
 have sqA : ∀ (D : Nat), 1 ≤ D → D ≤ 2 ^ (2 * u) → ∀ (j : Nat) (r : Rat), j ≤ J → Gr D (2 ^ u) j r → SQ (u + 1 + 2 * u + J + 1) r := fun D h1 h2 j r hj hr => ((hr.mono hj).sq h1 h2).mono (by omega)
 have sqS : ∀ (D : Nat), 1 ≤ D → D ≤ 2 ^ (2 * u) → ∀ (j : Nat) (r r' : Rat), j ≤ J → Gr D (2 ^ u) j r → Gr D (2 ^ u) j r' → SQ (u + 1 + 2 * u + J + 1) (r + r') := fun D h1 h2 j r r' hj hr jJ => (((hr.add jJ).mono hj).sq h1 h2)
 by_cases BA : ∀ x, cZ f p x ↔ cZ fb q x
 ·-- auM are one
  have hz : zv = true := hzv.2 (VF T A B O9 BA)
  subst hz
  have c1 : cr (cZ f p) q.1 = 1 := n7.2 fun hh => B.n8 (.inr ⟨rfl, hql⟩) ((BA _).1 hh)
  have c2 : cr (cZ f p) q.2 ≤ 0 := by
   rcases A9 (cZ f p) q.2 with hh | hh | hh
   ·omega
   ·omega
   ·exact absurd ((BA _).2 kO) (n7.1 hh)
  rw [c1] at r1
  rw [aet.2 BA, p6, p6]
  rw [p6] at Z e1 e2 r1 r2
  rw [bV] at r1 r2
  generalize cr (cZ f p) q.2 = r at *
  simp only [uL] at Z e1 e2 r1 r2 ⊢
  refine aB (E := env) (fun _ => 0) [(0, .ag (uL f.l (bE f) p.1.num p.1.den p.2.num p.2.den)), (1, .ag (uL fb.l (bE fb) q.1.num q.1.den q.2.num q.2.den))] Tryz.func42 rfl (by kernel_rfl) (by kernel_rfl) (show 2 ≤ 59 by decide) (by simp) ?_
  refine W.sr ?_
  simp (disch := omega) [gw]
  refine W.lx [2, 3] ?_; simp
  refine W.seq ?_
  refine W.sr ?_
  simp (disch := omega) [gw]
  refine aA e1 ?_
  simp (disch := omega) [gw]
  refine W.lx [2, 3, 6] ?_; simp
  refine W.cond ⟨_, rfl, fun h => ?_, fun h => ?_⟩
  ·simp at h
  refine W.skip ?_
  refine W.seq ?_
  refine W.sr ?_
  simp (disch := omega) [gw]
  refine aA e2 ?_
  simp (disch := omega) [gw]
  refine W.lx [2, 3, 13] ?_; simp
  refine W.cond ⟨_, rfl, fun h => ?_, fun h => ?_⟩
  ·simp at h
  refine W.skip ?_
  refine W.fO (fun σ => False) ?_ (fun _ hh => hh.elim)
  refine W.sr ?_
  simp (disch := omega) [gw]
  refine aA Z ?_
  simp (disch := omega) [gw]
  refine W.lx [2, 3, 21] ?_; simp
  refine W.cond ⟨_, rfl, fun h => ?_, fun h => ?_⟩
  ·refine W.sr ?_
   simp (disch := omega) [gw]
   refine aA r1 ?_
   simp (disch := omega) [gw]
   refine aA r2 ?_
   simp (disch := omega) [gw, c2]
   refine W.lx [2, 3, 33] ?_; simp
   refine W.cond ⟨_, rfl, fun h => ?_, fun h => ?_⟩
   ·refine W.sr ?_; simp (disch := omega) [gw]; refine W.lx [4] ?_; simp
    refine W.ret ?_
    simp [go]
   ·simp at h
  ·simp at h
 ·-- auM are two
  have CD : zv = true → ¬ (0 < cr (cZ f p) q.1 ∧ cr (cZ f p) q.2 ≤ 0) := fun hz ⟨c1, c2⟩ => BA (VE T A B O9 hql (by
   rcases A9 (cZ f p) q.1 with hh | hh | hh
   ·omega
   ·omega
   ·exact n7.1 hh) (Classical.byContradiction fun hh => by have := n7.2 hh; omega) (hzv.1 hz))
  have hsw : ¬ ∀ x, gJ (vt (bE f)) p.1 p.2 x ↔ gJ (vt (bE fb)) q.1 q.2 x := BA
  rw [p6, p6]
  rw [p6] at Z e1 e2 r1 r2
  rw [bV] at r1 r2
  generalize hv1 : cr (cZ f p) q.1 = x1 at *
  generalize hv2 : cr (cZ f p) q.2 = x2 at *
  clear hv1 hv2
  simp only [uL] at Z e1 e2 r1 r2 ⊢
  refine aB (E := env) (fun _ => 0) [(0, .ag (uL f.l (bE f) p.1.num p.1.den p.2.num p.2.den)), (1, .ag (uL fb.l (bE fb) q.1.num q.1.den q.2.num q.2.den))] Tryz.func42 rfl (by kernel_rfl) (by kernel_rfl) (show 2 ≤ 59 by decide) (by simp) ?_
  refine W.sr ?_
  simp (disch := omega) [gw]
  refine W.lx [2, 3] ?_; simp
  refine W.seq ?_
  refine W.sr ?_
  simp (disch := omega) [gw]
  refine aA e1 ?_
  simp (disch := omega) [gw]
  refine W.lx [2, 3, 6] ?_; simp
  refine W.cond ⟨_, rfl, fun h => ?_, fun h => ?_⟩
  ·simp at h
  refine W.skip ?_
  refine W.seq ?_
  refine W.sr ?_
  simp (disch := omega) [gw]
  refine aA e2 ?_
  simp (disch := omega) [gw]
  refine W.lx [2, 3, 13] ?_; simp
  refine W.cond ⟨_, rfl, fun h => ?_, fun h => ?_⟩
  ·simp at h
  refine W.skip ?_
  refine W.fO (fun σ => ∃ (v2 v3 : Nat) (rows : Pm.Rows) (clk : Nat), σ = ⟨fa [(2, .ptr 2 v2 0 0), (3, .ptr 3 v3 0 0)], rows, clk⟩ ∧ rows 2 = some ⟨v2, 68, 10, [uL f.l (bE f) p.1.num p.1.den p.2.num p.2.den]⟩ ∧ rows 3 = some ⟨v3, 68, 10, [uL fb.l (bE fb) q.1.num q.1.den q.2.num q.2.den]⟩) ?_ ?_
  ·refine W.sr ?_
   simp (disch := omega) [gw]
   refine aA Z ?_
   simp (disch := omega) [gw]
   refine W.lx [2, 3, 21] ?_; simp
   refine W.cond ⟨_, rfl, fun h => ?_, fun h => ?_⟩
   ·have hc := CD h
    by_cases hx1 : 0 < x1
    ·have hx2 : ¬ x2 ≤ 0 := fun hh => hc ⟨hx1, hh⟩
     refine W.sr ?_
     simp (disch := omega) [gw]
     refine aA r1 ?_
     simp (disch := omega) [gw, hx1]
     refine aA r2 ?_
     simp (disch := omega) [gw, hx2]
     refine W.lx [2, 3, 33] ?_; simp
     refine W.cond ⟨_, rfl, fun h => ?_, fun h => ?_⟩
     ·simp at h
     ·refine W.skip ?_
      exact ⟨_, aC _ [2, 3], _, _, _, _, rfl, by simp, by simp⟩
    ·refine W.sr ?_
     simp (disch := omega) [gw]
     refine aA r1 ?_
     simp (disch := omega) [gw, hx1]
     refine W.lx [2, 3, 33] ?_; simp
     refine W.cond ⟨_, rfl, fun h => ?_, fun h => ?_⟩
     ·simp at h
     ·refine W.skip ?_
      exact ⟨_, aC _ [2, 3], _, _, _, _, rfl, by simp, by simp⟩
   ·refine W.skip ?_
    exact ⟨_, aC _ [2, 3], _, _, _, _, rfl, by simp, by simp⟩
  rintro _ ⟨v2, v3, rows, clk, rfl, cM, fK⟩
  clear Z e1 e2 r1 r2
  refine W.block ?_
  refine W.bB (fun k σ => ∃ (a b : Rat × Rat) (j v2 v3 : Nat) (rows : Pm.Rows) (clk : Nat), σ = ⟨fa [(2, .ptr 2 v2 0 0), (3, .ptr 3 v3 0 0)], rows, clk⟩ ∧ rows 2 = some ⟨v2, 68, 10, [uL f.l (bE f) a.1.num a.1.den a.2.num a.2.den]⟩ ∧ rows 3 = some ⟨v3, 68, 10, [uL fb.l (bE fb) b.1.num b.1.den b.2.num b.2.den]⟩ ∧
   oJ f (vt (bE f)) a.1 a.2 ∧ oJ fb (vt (bE fb)) b.1 b.2 ∧ (∀ x, cZ f a x ↔ cZ f p x) ∧ (∀ x, cZ fb b x ↔ cZ fb q x) ∧ Gr D (2 ^ u) j a.1 ∧ Gr D (2 ^ u) j a.2 ∧ Gr D' (2 ^ u) j b.1 ∧ Gr D' (2 ^ u) j b.2 ∧ (a.2 - a.1) * 2 ^ j ≤ 2 ^ (u + 1) ∧ (b.2 - b.1) * 2 ^ j ≤ 2 ^ (u + 1) ∧ j + k = J) J ?_ ?_
  ·exact ⟨_, .refl, p, q, 0, _, _, _, _, rfl, cM, fK, A, B, fun _ => Iff.rfl, fun _ => Iff.rfl, g1, g2, g1', g2', by rw [Rat.pow_zero, Rat.mul_one]; exact apK p g1.b g2.b, by rw [Rat.pow_zero, Rat.mul_one]; exact apK q g1'.b g2'.b, by omega⟩
  rintro k _ ⟨a, b, j, v2, v3, rows, clk, rfl, cM, fK, HA, HB, ha, hb, ga1, ga2, gb1, gb2, wa, wb, hjk⟩
  have s1 := sqA D hD1 G2 j a.1 (by omega) ga1
  have s2 := sqA D hD1 G2 j a.2 (by omega) ga2
  have s3 := sqA D' aeB aeC j b.1 (by omega) gb1
  have s4 := sqA D' aeB aeC j b.2 (by omega) gb2
  have e1 := pY (f := f) (c := bE f) s1 s2 hJ2
  have e2 := pY (f := fb) (c := bE fb) s3 s4 hJ2
  rw [p6] at e1 e2
  simp only [uL] at e1 e2 cM fK
  refine W.block ?_
  refine W.seq ?_
  by_cases hpt : a.1 = a.2 ∨ b.1 = b.2
  ·have C := abj I I' HA HB s1 s2 s3 s4 hJ2 hpt
   rw [nD ha hb, p6, p6] at C
   simp only [uL] at C
   by_cases h1 : a.1 = a.2
   ·rw [decide_eq_true h1] at e1
    refine W.sr ?_
    simp (disch := omega) [gw, cM]
    refine aA e1 ?_
    simp (disch := omega) [gw]
    refine W.lx [2, 3, 39] ?_; simp
    refine W.cond ⟨_, rfl, fun h => ?_, fun h => ?_⟩
    ·refine W.sr ?_
     simp (disch := omega) [gw, cM, fK]
     refine aA C ?_
     simp (disch := omega) [gw]
     refine W.lx [4] ?_; simp
     refine W.ret ?_
     simp [go]
    ·simp at h
   ·rw [decide_eq_false h1] at e1
    rw [decide_eq_true (hpt.resolve_left h1)] at e2
    refine W.sr ?_
    simp (disch := omega) [gw, cM, fK]
    refine aA e1 ?_
    simp (disch := omega) [gw, cM, fK]
    refine aA e2 ?_
    simp (disch := omega) [gw]
    refine W.lx [2, 3, 39] ?_; simp
    refine W.cond ⟨_, rfl, fun h => ?_, fun h => ?_⟩
    ·refine W.sr ?_
     simp (disch := omega) [gw, cM, fK]
     refine aA C ?_
     simp (disch := omega) [gw]
     refine W.lx [4] ?_; simp
     refine W.ret ?_
     simp [go]
    ·simp at h
  ·obtain ⟨h1, h2⟩ := not_or.1 hpt
   rw [decide_eq_false h1] at e1
   rw [decide_eq_false h2] at e2
   have hal : a.1 < a.2 := by have := HA.le; grind
   have VK : b.1 < b.2 := by have := HB.le; grind
   have m1 := gW a.2 b.1 (s2.yy hJ2) (s3.yy hJ2)
   have m2 := gW b.2 a.1 (s4.yy hJ2) (s1.yy hJ2)
   rw [bV, bV] at m1 m2
   refine W.sr ?_
   simp (disch := omega) [gw, cM, fK]
   refine aA e1 ?_
   simp (disch := omega) [gw, cM, fK]
   refine aA e2 ?_
   simp (disch := omega) [gw]
   refine W.lx [2, 3, 39] ?_; simp
   refine W.cond ⟨_, rfl, fun h => ?_, fun h => ?_⟩
   ·simp at h
   refine W.skip ?_
   refine W.seq ?_
   refine W.sr ?_
   simp (disch := omega) [gw, cM, fK]
   refine aA m1 ?_
   simp (disch := omega) [gw]
   refine W.lx [2, 3, 48] ?_; simp
   refine W.cond ⟨_, rfl, fun h => ?_, fun h => ?_⟩
   ·simp at h
    rw [pZ] at h
    have hcu : cu (cZ f p) (cZ fb q) = -1 := by rw [← nD ha hb]; exact apH HB h VK
    rw [hcu]
    refine W.sr ?_; simp (disch := omega) [gw]; refine W.lx [4] ?_; simp
    refine W.ret ?_
    simp [go]
   ·simp at h
    rw [← Int.not_le, pZ] at h
    have gD := Rat.not_le.1 h
    refine W.skip ?_
    refine W.seq ?_
    refine W.sr ?_
    simp (disch := omega) [gw, cM, fK]
    refine aA m2 ?_
    simp (disch := omega) [gw]
    refine W.lx [2, 3, 54] ?_; simp
    refine W.cond ⟨_, rfl, fun h => ?_, fun h => ?_⟩
    ·simp at h
     rw [pZ] at h
     have hcu : cu (cZ f p) (cZ fb q) = 1 := by rw [← nD ha hb]; exact apI HA HB h hal
     rw [hcu]
     refine W.sr ?_; simp (disch := omega) [gw]; refine W.lx [4] ?_; simp
     refine W.ret ?_
     simp [go]
    ·simp at h
     rw [← Int.not_le, pZ] at h
     have hba := Rat.not_le.1 h
     have hk : k ≠ 0 := fun wE => by
      have hjJ : j = J := by omega
      refine BA fun x => ?_
      have hP := gQ j
      have hW : ∀ w : Rat, w * 2 ^ j ≤ 2 ^ (u + 1) → w ≤ 2 ^ (u + 1) / 2 ^ j := fun w hw => Rat.not_lt.1 fun eV => by
       have e0 : (2 : Rat) ^ (u + 1) / 2 ^ j * 2 ^ j = 2 ^ (u + 1) := Rat.div_mul_cancel (Rat.ne_of_gt hP)
       have := Rat.mul_lt_mul_of_pos_right eV hP
       grind
      have := VD (W := 2 ^ (u + 1) / 2 ^ j) T HA HB hal VK hba gD ga1.b ga2.b gb1.b gb2.b (hW _ wa) (hW _ wb) (by
       have e0 : (2 : Rat) ^ (u + 1) / 2 ^ j * 2 ^ j = 2 ^ (u + 1) := Rat.div_mul_cancel (Rat.ne_of_gt hP)
       have e3 : (2 : Rat) ^ j = 2 ^ kc S N u * 2 ^ (u + 2) := by rw [← n6, hjJ, hJ]; congr 1
       have e4 : (2 : Rat) ^ (u + 2) = 2 ^ (u + 1) * 2 := by rw [← Rat.pow_succ]
       have hQ := gQ (kc S N u)
       have hR := gQ (u + 1)
       rw [e4] at e3
       generalize (2 : Rat) ^ (u + 1) / 2 ^ j = W at *
       rw [e3] at e0
       generalize (2 : Rat) ^ kc S N u = κ at *
       generalize (2 : Rat) ^ (u + 1) = R at *
       have e5 : R * (2 * W * κ) = R * 1 := by grind
       have e6 := Rat.le_of_mul_le_mul_left (show R * (2 * W * κ) ≤ R * 1 by rw [e5]; exact Rat.le_refl) hR
       exact e6) x
      exact (ha x).symm.trans (this.trans (hb x))
     obtain ⟨k', rfl⟩ : ∃ k', k = k' + 1 := ⟨k - 1, by omega⟩
     have ma := ga1.G3 ga2
     have mb := gb1.G3 gb2
     have H1 := I.agJ (u := u + 1 + 2 * u + J + 1) (Rat.le_of_lt hal) s1 s2 (sqA D hD1 G2 (j + 1) _ (by omega) ma) (sqS D hD1 G2 j _ _ (by omega) ga1 ga2) hJ2
     have H2 := I'.agJ (u := u + 1 + 2 * u + J + 1) (Rat.le_of_lt VK) s3 s4 (sqA D' aeB aeC (j + 1) _ (by omega) mb) (sqS D' aeB aeC j _ _ (by omega) gb1 gb2) hJ2
     obtain ⟨ha1, ha2⟩ := R7 HA
     obtain ⟨EI, vS⟩ := R7 HB
     obtain ⟨ga3, ga4, wa'⟩ := agN (f := f) ga1 ga2 (Rat.le_of_lt hal)
     obtain ⟨gb3, gb4, wb'⟩ := agN (f := fb) gb1 gb2 (Rat.le_of_lt VK)
     rw [p6, p6] at H1 H2
     simp only [uL] at H1 H2
     have hwd : ∀ w w' : Rat, w * 2 ^ j ≤ 2 ^ (u + 1) → w' * 2 ≤ w → w' * 2 ^ (j + 1) ≤ 2 ^ (u + 1) := fun w w' g1 g2 => by
      have hP := gQ j
      have g3 := Rat.mul_le_mul_of_nonneg_right g2 (Rat.le_of_lt hP)
      rw [Rat.pow_succ]
      grind
     have wa2 := hwd _ _ wa wa'
     have wb2 := hwd _ _ wb wb'
     have ha3 : ∀ x, cZ f (hv f a) x ↔ cZ f p x := fun x => (ha2 x).trans (ha x)
     have hb3 : ∀ x, cZ fb (hv fb b) x ↔ cZ fb q x := fun x => (vS x).trans (hb x)
     generalize hv f a = a' at *
     generalize hv fb b = b' at *
     refine W.skip ?_
     refine W.MV (fun K hK => ?_)
     simp (disch := omega) [gw, cM, fK]
     refine aA H1 ?_
     simp (disch := omega) [gw, cM, fK]
     refine aA H2 ?_
     (try (refine b6 (of_decide_eq_true (by kernel_rfl)) ?_)); (try simp (maxSteps := 4000000) (disch := omega) [gw, cM, fK, eS]); (repeat rw [if_pos (by kernel_rfl)]); (try simp (maxSteps := 4000000) (disch := omega) [gw, cM, fK, eS])
     (try (refine b6 (of_decide_eq_true (by kernel_rfl)) ?_)); (try simp (maxSteps := 4000000) (disch := omega) [gw, cM, fK, eS]); (repeat rw [if_pos (by kernel_rfl)]); (try simp (maxSteps := 4000000) (disch := omega) [gw, cM, fK, eS])
     (try (refine b6 (of_decide_eq_true (by kernel_rfl)) ?_)); (try simp (maxSteps := 4000000) (disch := omega) [gw, cM, fK, eS]); (repeat rw [if_pos (by kernel_rfl)]); (try simp (maxSteps := 4000000) (disch := omega) [gw, cM, fK, eS])
     refine hK _ ⟨k', _, aC _ [2, 3], by omega, a', b', j + 1, _, _, _, _, rfl, by simp, by simp, ha1, EI, ha3, hb3, ga3, ga4, gb3, gb4, wa2, wb2, by omega⟩
theorem aeE {f : ZX} (nf : Nf f) : gz f f = f := by
 have h : oM f f f := ⟨dv.refl f, dv.refl f, ⟨1, by decide, 1, 0, by show (1 : ZX) * f = _; grind⟩⟩
 rw [DP h, nf.VT]
namespace lH
variable {s n : Nat} {f : ZX} (I : lH s n f)
include I
theorem two : Two s n f f := ⟨I.nf, I.nf, I.cop, I.cop, I.szf, I.szf, I.ch.bz.N, I.ch.bz.N, I.ch.hn, I.lay.hs⟩
theorem aeF : aK env.P 171 [PI f.l, PI f.l] (PI (gz f f).l) := by
 have hC := I.lay.hC
 have hn := I.ch.hn
 have hq : s + n + 1 ≤ qb s n := by
  unfold qb
  have := I.tT
  have : 1 * (2 * s + 5) ≤ n * (2 * s + 5) := Nat.mul_le_mul_right _ I.tT
  have hh := I.lay.hs
  have h2 : n < 2 ^ s := by omega
  have h3 : n ≤ n * (2 * s + 5) := Nat.le_mul_of_pos_right _ (by omega)
  have h4 : n * (2 * s + 5) = n * (2 * s) + n * 5 := Nat.mul_add _ _ _
  omega
 refine DT (C := 4500000000) I.ch.bz I.ch.bz ?_ hn (by decide) I.s1
 rw [I.nf.VT]
 unfold uJ
 rw [if_neg (by omega)]
 have h4 : (4 : Nat) ^ ZX.N f ≤ 4 ^ n := Nat.pow_le_pow_right (by decide) I.ch.bz.N
 refine Nat.le_trans (Nat.mul_le_mul (show (s + n + 1) * 2 ≤ qb s n + n + 6 by unfold qb at *; have := I.lay.hs; have h5 : 1 * (2 * s + 5) ≤ n * (2 * s + 5) := Nat.mul_le_mul_right _ I.tT; have h3 : n * 5 ≤ n * (2 * s + 5) := Nat.mul_le_mul_left _ (by omega); omega) h4) hC
theorem cmp (hs : s ≤ 20000) {u : Nat} {p q : Rat × Rat} (A : oJ f (vt (bE f)) p.1 p.2) (B : oJ f (vt (bE f)) q.1 q.2) (p1 : SQ u p.1) (p2 : SQ u p.2) (q1 : SQ u q.1) (q2 : SQ u q.2) (hu : u ≤ 2200000) : aK env.P 42 [QA f (bE f) p, QA f (bE f) q] (.int .i64 (cu (cZ f p) (cZ f q))) :=
 abk I I I.two hs I.aeF (fun _ => ⟨s, n, by rw [aeE I.nf]; exact I⟩) A B p1 p2 q1 q2 hu
end lH
theorem O2 {s n : Nat} {a : ZX} (h : rZ s n a) (h0 : a ≠ 0) (tT : 1 ≤ n) (hC : (qb (qb s n) n + n + 6) * 4 ^ n ≤ 4500000000) (hs : qb s n ≤ 5000000) : lH (qb s n) n (sq a) := by
 have h1 := (KC h0).1
 refine ⟨⟨h.sqb h0, h.hn, ?_, hC⟩, tT, h1, ajX h1 fun d d1 d2 => ?_, hs⟩
 ·exact Nat.le_trans h.hs (Nat.pow_le_pow_right (by decide) (by unfold qb; omega))
 ·have h3 := (fE (sq a) (bM (sq a))).least d1 d2
  rw [agD h0] at h3
  have := h3.pQ ZX.pP
  rwa [ZX.tN] at this
theorem BB {f : ZX} {c : List ZX} {l m : List (Rat × Rat)} (hl : l.length = m.length) (YW : l.length < 1000000) (hv : ∀ i, i < l.length → aK env.P 38 [GA f (nth l i)] (.bool true) ∧ aK env.P 41 [GA f (nth l i)] (QA f c (ex f (nth l i))) ∧ aK env.P 42 [QA f c (ex f (nth l i)), QA f c (nth m i)] (.int .i64 0)) :
  aK env.P 23 [aJ (ga f) l, aJ (qa f c) m] (.bool true) := by
 refine aB (E := env) (fun _ => 0) [(0, aJ (ga f) l), (1, aJ (qa f c) m)] Tryz.func23 rfl (by kernel_rfl) (by kernel_rfl) (show 2 ≤ 36 by decide) (by simp) ?_
 refine W.sr ?_; simp (disch := omega) [gw]; refine W.lx [0, 1] ?_; simp
 refine W.seq ?_
 have e1 : ((l.length : Int) != (m.length : Int)) = false := by rw [hl]; simp
 refine W.sr ?_
 simp (disch := omega) [gw, e1]
 refine W.lx [0, 1, 10] ?_; simp
 refine W.cond ⟨_, rfl, fun h => ?_, fun h => ?_⟩
 ·simp at h
 refine W.skip ?_
 refine W.seq ?_
 refine W.sr ?_; simp (disch := omega) [gw]; refine W.lx [0, 1, 12, 13] ?_; simp
 refine W.block ?_
 refine W.bB (fun k σ => ∃ (i : Nat) (rows : Pm.Rows) (clk : Nat), σ = ⟨fa [(0, aJ (ga f) l), (1, aJ (qa f c) m), (12, .int .i64 l.length), (13, .int .i64 i)], rows, clk⟩ ∧ i + k = l.length) l.length ?_ ?_
 ·exact ⟨_, .refl, 0, _, _, rfl, by omega⟩
 rintro k _ ⟨i, rows, clk, rfl, K6⟩
 refine W.sr ?_; simp (disch := omega) [gw]; refine W.lx [0, 1, 12, 13, 14] ?_; simp
 refine W.seq ?_
 refine W.cond ⟨_, rfl, fun h => ?_, fun h => ?_⟩
 ·have hi : i < l.length := by simp at h; omega
  have GX : i < m.length := by omega
  obtain ⟨v1, v2, v3⟩ := hv i hi
  simp only [GA, QA, qa, ga, List.cons_append, List.nil_append] at v1 v2 v3
  refine W.skip ?_
  refine W.seq ?_
  refine W.block ?_
  refine W.sr ?_; simp (disch := omega) [gw]; refine W.lx [0, 1, 5, 12, 13] ?_; simp
  refine W.sd ?_
  simp (disch := omega) [gw, hi, GX]
  refine aA v1 ?_
  simp (disch := omega) [gw, hi, GX]
  refine aA v2 ?_
  simp (disch := omega) [gw, hi, GX]
  refine aA v3 ?_
  simp (disch := omega) [gw, hi, GX]
  refine W.lx [0, 1, 12, 13, 34] ?_; simp
  refine W.cond ⟨_, rfl, fun h => ?_, fun h => ?_⟩
  ·simp at h
  ·refine W.skip ?_
   refine W.cA (fun K hK => ?_); simp (disch := omega) [gw]
   refine hK _ ⟨k - 1, _, aC _ [0, 1, 12, 13], by omega, i + 1, _, _, rfl, by omega⟩
 ·refine W.exit ?_; simp only [pX, if_true, if_false, reduceIte, Nat.reduceEqDiff]
  refine W.sr ?_; simp (disch := omega) [gw]; refine W.lx [4] ?_; simp
  refine W.ret ?_
  simp [go]
theorem lH.right {s n : Nat} {f : ZX} (I : lH s n f) (hs : s ≤ 20000) (hN : 2 ≤ ZX.N f) {l m : List (Rat × Rat)} (hl : l.length = m.length) {u : Nat} (hu : u ≤ 2200000) (h1 : ∀ p ∈ l, oJ f (vt (bE f)) p.1 p.2 ∧ SQ u p.1 ∧ SQ u p.2) (h2 : ∀ p ∈ m, oJ f (vt (bE f)) p.1 p.2 ∧ SQ u p.1 ∧ SQ u p.2)
  (h3 : ∀ i, i < l.length → ∀ t, cZ f (nth l i) t ↔ cZ f (nth m i) t) (YW : l.length < 1000000) : aK env.P 23 [aJ (ga f) l, aJ (qa f (bE f)) m] (.bool true) := by
 refine BB hl YW fun i hi => ?_
 obtain ⟨a1, a2, a3⟩ := h1 _ (bL hi)
 obtain ⟨b1, b2, b3⟩ := h2 _ (bL (show i < m.length by omega))
 obtain ⟨c1, c2⟩ := GS a1
 have c3 : SQ u (ex f (nth l i)).1 ∧ SQ u (ex f (nth l i)).2 := by
  unfold ex; split
  ·exact ⟨a3, a3⟩
  ·exact ⟨a2, a3⟩
 refine ⟨I.valid a1 hN a2 a3 (by omega), I.apG a2 a3 (by omega), ?_⟩
 have := I.cmp hs c1 b1 c3.1 c3.2 b2 b3 hu
 rwa [nD (fun t => (c2 t).trans (h3 i hi t)) (fun _ => Iff.rfl), aes] at this
theorem O3 {α β : Type} [Inhabited α] [Inhabited β] {g : α → β} {l : List α} {i : Nat} (h : i < l.length) : nth (l.map g) i = g (nth l i) := by
 rw [cL (by simpa using h), cL h, List.getElem_map]
theorem lH.O4 {s n : Nat} {f : ZX} (I : lH s n f) (hs : s ≤ 20000) (hN : 2 ≤ ZX.N f) : aK env.P 23 [aJ (ga f) (x7 s n f), aJ (qa f (bE f)) ((x7 s n f).map (ex f))] (.bool true) := by
 have V := I.ivs
 have hA : ∀ p ∈ x7 s n f, oJ f (vt (bE f)) p.1 p.2 ∧ SQ (uu s) p.1 ∧ SQ (uu s) p.2 := fun p hp => by
  obtain ⟨a1, a2, a3, a4, a5, a6⟩ := V.mem p hp
  exact ⟨⟨I.S, .inr ⟨a4, a6⟩⟩, a1, a2⟩
 refine I.right hs hN (by simp) (u := uu s) (by unfold uu; omega) hA (fun p hp => ?_) (fun i hi t => ?_) (by have := x8 I; omega)
 ·obtain ⟨p0, KX, rfl⟩ := List.mem_map.1 hp
  obtain ⟨a1, a2, a3⟩ := hA p0 KX
  refine ⟨(GS a1).1, ?_, ?_⟩ <;> (unfold ex; split <;> assumption)
 ·rw [O3 hi]
  exact ((GS (hA _ (bL hi)).1).2 t).symm
theorem VI {s n : Nat} {f : ZX} (I : lH s n f) (hN : ZX.N f ≤ 1) : x7 s n f = [] := by
 have V := I.ivs.len
 have h1 : f = 1 := I.nf.N1 hN
 have h2 := I.S.const I.R5 (σ := 1) (.inr (by rw [h1, RD]; decide)) (fun x _ _ => by rw [h1, RD]; decide)
 rw [h2, Nat.sub_self] at V
 exact List.eq_nil_of_length_eq_zero V
theorem VJ {f : ZX} {c : List ZX} : aK env.P 23 [aJ (ga f) [], aJ (qa f c) []] (.bool true) := BB rfl (by simp) fun i hi => absurd hi (by simp)
theorem lH.w7 {s n : Nat} {f : ZX} (I : lH s n f) (hs : s ≤ 20000) : aK env.P 23 [aJ (ga f) (x7 s n f), aJ (qa f (bE f)) ((x7 s n f).map (ex f))] (.bool true) := by
 by_cases hN : 2 ≤ ZX.N f
 ·exact I.O4 hs hN
 ·rw [VI I (by omega)]
  exact VJ
end Go.Proofs.YtbbjgncblhfegaaGreat
namespace Go.Proofs.YtbbjgncblhfegaaGreat
open Go Pm
open ZX hiding N W
abbrev G9 (x : List Int) (an ad bn bd : Int) : List PV := [Po x, .bool (decide (an < 0)), us (aQ LL an.natAbs), .bool (decide (ad < 0)), us (aQ LL ad.natAbs), .bool (decide (bn < 0)), us (aQ LL bn.natAbs), .bool (decide (bd < 0)), us (aQ LL bd.natAbs)]
theorem apP {f : ZX} {p : Rat × Rat} : GA f p = .ag (G9 f.l p.1.num p.1.den p.2.num p.2.den) := rfl
section
variable {x d : List Int} {c : List ZX} {an ad bn bd z b σ : Int} {cop : Bool} (hx : x.length < 1000000) (f1 : aK env.P 101 [Po x] (Po x)) (f2 : aK env.P 102 [Po x] (.int .i64 ((x.length : Int) - 1))) (f3 : aK env.P 104 [Po x] (Po d)) (f4 : aK env.P 103 [Po x, Po d] (.bool cop))
  (k3 : aK env.P 105 [T2 an ad, T2 bn bd] (.int .i64 z)) (k4 : aK env.P 82 [Po x] (.eA [CH c, .int .i64 0])) (k5 : aK env.P 106 [CH c, T2 an ad, T2 bn bd] (.int .i64 b)) (k6 : aK env.P 62 [Po x, T2 an ad] (.int .i64 σ))
include hx f1 f2
theorem GU (h2 : x.length < 2) : aK env.P 37 [.ag (G9 x an ad bn bd)] (.bool false) := by
 simp only [G9]
 refine aB (E := env) (fun _ => 0) [(0, .ag (G9 x an ad bn bd))] Tryz.func37 rfl (by kernel_rfl) (by kernel_rfl) (show 1 ≤ 45 by decide) (by simp) ?_
 refine W.sr ?_
 simp (disch := omega) [gw]
 refine W.lx [1] ?_; simp
 refine W.sr ?_
 simp (disch := omega) [gw]
 refine aA f1 ?_
 simp (disch := omega) [gw]
 refine W.lx [1, 3] ?_; simp
 refine W.seq ?_
 have e1 : ((x.length : Int) - 1 < 1) = True := eq_true (by omega)
 refine W.sr ?_
 simp (disch := omega) [gw]
 refine aA f2 ?_
 simp (disch := omega) [gw, e1]
 refine W.lx [1, 3, 18] ?_; simp
 refine W.cond ⟨_, rfl, fun h => ?_, fun h => ?_⟩
 ·refine W.sr ?_; simp (disch := omega) [gw]; refine W.lx [2] ?_; simp
  refine W.ret ?_
  simp [go]
 ·simp at h
include f3 f4
theorem KW (h2 : 2 ≤ x.length) (hc : cop = false) : aK env.P 37 [.ag (G9 x an ad bn bd)] (.bool false) := by
 subst hc
 simp only [G9]
 refine aB (E := env) (fun _ => 0) [(0, .ag (G9 x an ad bn bd))] Tryz.func37 rfl (by kernel_rfl) (by kernel_rfl) (show 1 ≤ 45 by decide) (by simp) ?_
 refine W.sr ?_
 simp (disch := omega) [gw]
 refine W.lx [1] ?_; simp
 refine W.sr ?_
 simp (disch := omega) [gw]
 refine aA f1 ?_
 simp (disch := omega) [gw]
 refine W.lx [1, 3] ?_; simp
 refine W.seq ?_
 have e1 : ((x.length : Int) - 1 < 1) = False := eq_false (by omega)
 refine W.sr ?_
 simp (disch := omega) [gw]
 refine aA f2 ?_
 simp (disch := omega) [gw, e1]
 refine aA f3 ?_
 simp (disch := omega) [gw]
 refine aA f4 ?_
 simp (disch := omega) [gw]
 refine W.lx [1, 3, 18] ?_; simp
 refine W.cond ⟨_, rfl, fun h => ?_, fun h => ?_⟩
 ·refine W.sr ?_; simp (disch := omega) [gw]; refine W.lx [2] ?_; simp
  refine W.ret ?_
  simp [go]
 ·simp at h
include k3 k4 k5 k6
theorem BC (h2 : 2 ≤ x.length) (hc : cop = true) (hz : z = -1 ∨ z = 0 ∨ z = 1) {r : Bool} (hr : r = if z = 1 then false else if z = 0 then σ == 0 else b == 1) : aK env.P 37 [.ag (G9 x an ad bn bd)] (.bool r) := by
 subst hc
 simp only [G9]
 refine aB (E := env) (fun _ => 0) [(0, .ag (G9 x an ad bn bd))] Tryz.func37 rfl (by kernel_rfl) (by kernel_rfl) (show 1 ≤ 45 by decide) (by simp) ?_
 refine W.sr ?_
 simp (disch := omega) [gw]
 refine W.lx [1] ?_; simp
 refine W.sr ?_
 simp (disch := omega) [gw]
 refine aA f1 ?_
 simp (disch := omega) [gw]
 refine W.lx [1, 3] ?_; simp
 refine W.seq ?_
 have e1 : ((x.length : Int) - 1 < 1) = False := eq_false (by omega)
 refine W.sr ?_
 simp (disch := omega) [gw]
 refine aA f2 ?_
 simp (disch := omega) [gw, e1]
 refine aA f3 ?_
 simp (disch := omega) [gw]
 refine aA f4 ?_
 simp (disch := omega) [gw]
 refine W.lx [1, 3, 18] ?_; simp
 refine W.cond ⟨_, rfl, fun h => ?_, fun h => ?_⟩
 ·simp at h
 refine W.skip ?_
 refine W.seq ?_
 refine W.sr ?_
 simp (disch := omega) [gw]
 refine aA k3 ?_
 simp (disch := omega) [gw]
 refine W.lx [1, 3, 23] ?_; simp
 refine W.block ?_
 refine W.sr ?_; simp (disch := omega) [gw]; refine W.lx [1, 3, 23, 24] ?_; simp
 refine W.cond ⟨_, rfl, fun h => ?_, fun h => ?_⟩
 ·simp at h
  rw [if_pos h] at hr; subst hr
  refine W.sr ?_; simp (disch := omega) [gw]; refine W.lx [2] ?_; simp
  refine W.ret ?_
  simp [go]
 ·simp at h
  rw [if_neg h] at hr
  refine W.sr ?_; simp (disch := omega) [gw]; refine W.lx [1, 3, 26] ?_; simp
  refine W.cond ⟨_, rfl, fun h => ?_, fun h => ?_⟩
  ·simp at h
   rw [if_pos h] at hr; subst hr
   refine W.sr ?_
   simp (disch := omega) [gw]
   refine aA k6 ?_
   simp (disch := omega) [gw]
   refine W.lx [2] ?_; simp
   refine W.ret ?_
   simp [go]
  ·simp at h
   rw [if_neg h] at hr; subst hr
   refine W.skip ?_
   refine W.sr ?_
   simp (disch := omega) [gw]
   refine aA k4 ?_
   simp (disch := omega) [gw]
   refine W.lx [1, 4] ?_; simp
   refine W.sr ?_
   simp (disch := omega) [gw]
   refine aA k5 ?_
   simp (disch := omega) [gw]
   refine W.lx [2] ?_; simp
   refine W.ret ?_
   simp [go]
end
theorem BD (x y : Int) : dB x y = -1 ∨ dB x y = 0 ∨ dB x y = 1 := by
 unfold dB
 split
 ·simp
 ·split <;> simp
theorem lH.ajY {s n : Nat} {f : ZX} (I : lH s n f) {u : Nat} {p : Rat × Rat} (A : oJ f (vt (bE f)) p.1 p.2) (hN : 2 ≤ ZX.N f) (q1 : SQ u p.1) (q2 : SQ u p.2) (hu : u ≤ 1000000000) : aK env.P 37 [GA f p] (.bool true) := by
 have hs := I.hs
 have hn := I.ch.hn
 have hN' := I.ch.bz.N
 have N1 := fZ (x := f.l) (I.ch.bz.pb (by omega) (by omega))
 rw [f.c] at N1
 have F2 := jB f.l (by show ZX.N f < _; omega)
 have F3 := nZ I.ch.bz (by omega) (by omega)
 have bd : BZ (s + 5) n (bM f) := I.ch.bz.bM (by omega)
 have hC := I.lay.hC
 have F4 := wS (C := 4500000000) (I.ch.bz.mono (show s ≤ s + 5 by omega) (Nat.le_refl _)) bd (by
  have h1 : ZX.N (Go.Proofs.YtbbjgncblhfegaaGreat.nf (bM f)) ≤ ZX.N (Go.Proofs.YtbbjgncblhfegaaGreat.nf f) - 1 := by rw [I.nf.VT, pT]; exact l5 f
  have h2 := ZX.aG.1 I.nf.ne
  unfold uJ
  rw [I.nf.VT] at h1 ⊢
  rw [if_pos (by omega)]
  have h4 : (4 : Nat) ^ ZX.N f ≤ 4 ^ n := Nat.pow_le_pow_right (by decide) hN'
  exact Nat.le_trans (Nat.mul_le_mul (by unfold qb; omega) h4) hC) hn (by decide)
 rw [I.gz1, ZX.tN] at F4
 have k3 := u5 q1.nL q1.dL q2.nL q2.dL (by omega) (eF p.1) (eF p.2) ⟨q1.nL, q1.dL⟩ ⟨q2.nL, q2.dL⟩
 have k4 := xX I.R6 I.ch I.nf
 have k5 := OS I.hb hn I.hl q1 q2 hu
 have hmul : n * (u + 1) ≤ 20 * (u + 1) := Nat.mul_le_mul_right _ hn
 have k6 := u7 (J5 I.ch.bz) f.c q1.nL q1.dL q1.hu (by omega) (by omega) (by omega) (eF p.1) ⟨q1.nL, q1.dL⟩
 rw [xY] at k6
 rw [apP]
 refine BC (by show ZX.N f < _; omega) N1 F2 F3 F4 k3 k4 k5 k6 hN (by decide) (BD _ _) ?_
 rw [if_neg (fun h => by have := kR.1 (show 0 < dB (p.1.num * p.2.den) (p.2.num * p.1.den) by omega); have := A.le; grind)]
 rcases A.k with ⟨h1, h2⟩ | ⟨h1, h2⟩
 ·rw [if_pos (j8.2 h1), h2, j7]; rfl
 ·rw [if_neg (fun h => by rw [j8] at h; grind), if_neg (by grind)]
  have : (vt (bE f) p.1 : Int) - vt (bE f) p.2 = 1 := by omega
  rw [this]; rfl
theorem ajZ : lH 3 3 a8 := ⟨⟨aaM (by decide) (by decide), by decide, by decide, by decide⟩, by decide, ⟨ZX.aG.2 (by decide), by decide, by decide⟩, aps, by decide⟩
theorem sG : aK env.P 30 [] (.bool true) := by
 have o1 : aK env.P 46 [.sl [[.int .i64 (-2)], [.int .i64 0], [.int .i64 1]]] (Po [-2, 0, 1]) := adz [-2, 0, 1] (by decide) (by decide)
 have I := ajZ
 have R1 := sF I.R6 I
 rw [show a8.l = [-2, 0, 1] from rfl] at R1
 have V := I.ivs
 have hlen : (x7 3 3 a8).length = 2 := by
  have h1 := V.len
  have h2 := I.count
  obtain ⟨f1, f2, _, _⟩ := aaU
  rw [f1, f2] at h2
  omega
 have hm := V.mem _ (bL (show 0 < (x7 3 3 a8).length by omega))
 have v1 := I.ajY ⟨I.S, .inr ⟨hm.2.2.2.1, hm.2.2.2.2.2⟩⟩ (by decide) hm.1 hm.2.1 (by decide)
 simp only [GA, ga, List.cons_append, List.nil_append] at v1
 generalize x7 3 3 a8 = L at *
 generalize hf : a8 = f at *
 refine aB (E := env) (fun _ => 0) [] Tryz.func30 rfl (by kernel_rfl) (by kernel_rfl) (show 0 ≤ 22 by decide) (by simp) ?_
 refine W.sr ?_
 simp (disch := omega) [gw]
 refine W.lx [] ?_; simp
 refine W.sr ?_
 simp (disch := omega) [gw]
 refine aA o1 ?_
 simp (disch := omega) [gw]
 refine aA R1 ?_
 simp (disch := omega) [gw]
 refine W.lx [1, 2] ?_; simp
 have e0 : 0 < L.length := by omega
 have e2 : ((L.length : Int) == 2) = true := by rw [hlen]; rfl
 refine W.sr ?_
 simp (disch := omega) [gw, e2, e0]
 refine aA v1 ?_
 simp (disch := omega) [gw]
 refine W.lx [0] ?_; simp
 refine W.ret ?_
 simp [go]
theorem w8 {α : Type} {g : α → List PV} {l : List α} (hN : aK env.P 82 [aJ g l] (.eA [.gZ, .int .i64 2])) : aK env.P 21 [aJ g l] (.eA [.sl [], .int .i64 2]) := by
 refine aB (E := env) (fun _ => 0) [(0, aJ g l)] Tryz.func21 rfl (by kernel_rfl) (by kernel_rfl) (show 1 ≤ 32 by decide) (by simp) ?_
 refine W.sr ?_; simp (disch := omega) [gw]; refine W.lx [0] ?_; simp
 refine W.sr ?_
 simp (disch := omega) [gw]
 refine aA hN ?_
 simp (disch := omega) [gw]
 refine W.lx [0, 4, 5] ?_; simp
 refine W.seq ?_
 refine W.sr ?_; simp (disch := omega) [gw]; refine W.lx [0, 4, 5, 15] ?_; simp
 refine W.cond ⟨_, rfl, fun h => ?_, fun h => ?_⟩
 ·refine W.sr ?_; simp (disch := omega) [gw]; refine W.lx [2, 3] ?_; simp
  refine W.ret ?_
  simp [go]
 ·simp at h
theorem BE (p0 : RP) (KX : InP p0) : aK env.P 4 [Pg p0] (.bool true) := by
 obtain ⟨k1, f1, hL, pr⟩ := apC p0 KX 5 (by decide) 1 (by decide) (by decide)
 have hSq := wT hL pr
 have hw := sG
 have hx : (ZX.of ((cH 5 1 p0).map gv)).l.length ≤ 6 := hL.bz.len
 by_cases h0 : ZX.of ((cH 5 1 p0).map gv) = 0
 ·rw [h0, RO] at hSq
  have hN := w8 (KG (g := ge) hSq)
  rw [h0] at f1
  replace f1 : aK env.P 32 [Pg (cH 5 1 p0)] (PI []) := f1
  clear hSq pr hL h0 hx
  generalize cH 5 1 p0 = kp at *
  refine aB (E := env) (fun _ => 0) [(0, Pg p0)] Tryz.func4 rfl (by kernel_rfl) (by kernel_rfl) (show 1 ≤ 39 by decide) (by simp) ?_
  refine W.sr ?_; simp (disch := omega) [gw]; refine W.lx [0] ?_; simp
  refine W.sr ?_
  simp (disch := omega) [gw]
  refine aA k1 ?_
  simp (disch := omega) [gw]
  refine W.lx [0] ?_; simp
  refine W.sr ?_
  simp (disch := omega) [gw]
  refine aA f1 ?_
  simp (disch := omega) [gw]
  refine W.lx [0, 3] ?_; simp
  refine W.sr ?_
  simp (disch := omega) [gw]
  refine aA hN ?_
  simp (disch := omega) [gw]
  refine W.lx [3, 4, 5] ?_; simp
  refine W.seq ?_
  refine W.sr ?_; simp (disch := omega) [gw]; refine W.lx [3, 4, 5, 17] ?_; simp
  refine W.cond ⟨_, rfl, fun h => ?_, fun h => ?_⟩
  ·refine W.sr ?_
   simp (disch := omega) [gw]
   refine aA hw ?_
   simp (disch := omega) [gw]
   refine W.lx [2] ?_; simp
   refine W.ret ?_
   simp [go]
  ·simp at h
 ·have I := O2 hL h0 (by decide) (by decide) (by decide)
  have hN := sF hSq I
  have hCh := n5 hL h0 (by decide) (by decide)
  have hQ := A7 (jC hL (by decide)) hCh I (by decide)
  have mR : (ZX.of ((cH 5 1 p0).map gv)).l ≠ [] := tP h0
  have hR := I.w7 (by decide)
  clear hSq pr hL h0 I hCh
  generalize x7 (qb (32 * 1) (5 + 1)) (5 + 1) (sq (ZX.of ((cH 5 1 p0).map gv))) = L at *
  generalize bE (sq (ZX.of ((cH 5 1 p0).map gv))) = C at *
  generalize sq (ZX.of ((cH 5 1 p0).map gv)) = f at *
  generalize (ZX.of ((cH 5 1 p0).map gv)).l = al at *
  generalize cH 5 1 p0 = kp at *
  refine aB (E := env) (fun _ => 0) [(0, Pg p0)] Tryz.func4 rfl (by kernel_rfl) (by kernel_rfl) (show 1 ≤ 39 by decide) (by simp) ?_
  refine W.sr ?_; simp (disch := omega) [gw]; refine W.lx [0] ?_; simp
  refine W.sr ?_
  simp (disch := omega) [gw]
  refine aA k1 ?_
  simp (disch := omega) [gw]
  refine W.lx [0] ?_; simp
  refine W.sr ?_
  simp (disch := omega) [gw]
  refine aA f1 ?_
  simp (disch := omega) [gw]
  refine W.lx [0, 3] ?_; simp
  refine W.sr ?_
  simp (disch := omega) [gw]
  refine aA hN ?_
  simp (disch := omega) [gw]
  refine W.lx [3, 4, 5] ?_; simp
  refine W.seq ?_
  refine W.sr ?_; simp (disch := omega) [gw]; refine W.lx [3, 4, 5, 17] ?_; simp
  refine W.cond ⟨_, rfl, fun h => ?_, fun h => ?_⟩
  ·simp at h; exact absurd h mR
  refine W.skip ?_
  refine W.sr ?_
  simp (disch := omega) [gw]
  refine aA hQ ?_
  simp (disch := omega) [gw]
  refine aA hR ?_
  simp (disch := omega) [gw]
  refine aA hw ?_
  simp (disch := omega) [gw]
  refine W.lx [2] ?_; simp
  refine W.ret ?_
  simp [go]
end Go.Proofs.YtbbjgncblhfegaaGreat
