import Derived.Test.YtbbjgncblhfegaaGreatFar
set_option linter.unusedSimpArgs false
set_option linter.unusedVariables false
namespace Go.Proofs.YtbbjgncblhfegaaGreat
open Go Pm
open ZX hiding N W
theorem k7 {p q : Rat} : 0 < dD (p.num * q.den) (q.num * p.den) ↔ q < p := by
 rw [m7, ← iV q p, m6]
theorem vU {p q : Rat} : dD (p.num * q.den) (q.num * p.den) < 0 ↔ p < q := iV p q
theorem p8 {p q : Rat} : dD (p.num * q.den) (q.num * p.den) ≤ 0 ↔ p ≤ q := by
 rw [← Int.not_lt, k7, Rat.not_lt]
theorem K6 {x : List Int} {c : List ZX} {an ad bn bd tn td zt z1 z2 b σ r : Int} {pt : Bool} (p1 : aI env.P 113 [.ag (PI x :: aJ zq c :: (c4 an ad ++ c4 bn bd))] (.bool pt)) (k0 : aI env.P 27 [R2 an ad, R2 tn td] (.int .i64 zt))
  (k1 : aI env.P 27 [R2 tn td, R2 an ad] (.int .i64 z1)) (k2 : aI env.P 27 [R2 tn td, R2 bn bd] (.int .i64 z2)) (k3 : aI env.P 59 [aJ zq c, R2 an ad, R2 tn td] (.int .i64 b)) (k4 : aI env.P 107 [PI x, R2 tn td] (.int .i64 σ))
  (hr : r = if pt = true then zt else if z1 ≤ 0 then 1 else if 0 < z2 then -1 else if b = 0 then 1 else if σ = 0 then 0 else -1) : aI env.P 43 [.ag (PI x :: aJ zq c :: (c4 an ad ++ c4 bn bd)), R2 tn td] (.int .i64 r) := by
 simp only [c4, List.cons_append, List.nil_append] at p1 ⊢
 refine aB (E := env) (fun _ => 0) [(0, .ag [PI x, aJ zq c, aJ aF (aT DD an.natAbs), .bool (decide (an < 0)), aJ aF (aT DD ad.natAbs), .bool (decide (ad < 0)), aJ aF (aT DD bn.natAbs), .bool (decide (bn < 0)), aJ aF (aT DD bd.natAbs), .bool (decide (bd < 0))]), (1, R2 tn td)] Tryz.func43 rfl (by kernel_rfl) (by kernel_rfl) (show 2 ≤ 33 by decide) (by simp) ?_
 refine W.sr ?_; simp (disch := omega) [gw]; refine W.lx [2, 3] ?_; simp
 refine W.seq ?_
 refine W.sr ?_
 simp (disch := omega) [gw]
 refine aA p1 ?_
 simp (disch := omega) [gw]
 refine W.lx [2, 3, 6] ?_; simp
 refine W.cond ⟨_, rfl, fun h => ?_, fun h => ?_⟩
 ·subst h
  rw [if_pos rfl] at hr
  subst hr
  refine W.sr ?_
  simp (disch := omega) [gw]
  refine aA k0 ?_
  simp (disch := omega) [gw]
  refine W.lx [4] ?_; simp
  refine W.ret ?_
  simp [go]
 ·subst h
  rw [if_neg (by decide)] at hr
  refine W.skip ?_
  refine W.seq ?_
  refine W.sr ?_
  simp (disch := omega) [gw]
  refine aA k1 ?_
  simp (disch := omega) [gw]
  refine W.lx [2, 3, 15] ?_; simp
  refine W.cond ⟨_, rfl, fun h => ?_, fun h => ?_⟩
  ·simp at h
   rw [if_pos h] at hr
   subst hr
   refine W.sr ?_; simp (disch := omega) [gw]; refine W.lx [4] ?_; simp
   refine W.ret ?_
   simp [go]
  ·simp at h
   rw [if_neg (by omega)] at hr
   refine W.skip ?_
   refine W.seq ?_
   refine W.sr ?_
   simp (disch := omega) [gw]
   refine aA k2 ?_
   simp (disch := omega) [gw]
   refine W.lx [2, 3, 20] ?_; simp
   refine W.cond ⟨_, rfl, fun h => ?_, fun h => ?_⟩
   ·simp at h
    rw [if_pos h] at hr
    subst hr
    refine W.sr ?_; simp (disch := omega) [gw]; refine W.lx [4] ?_; simp
    refine W.ret ?_
    simp [go]
   ·simp at h
    rw [if_neg (by omega)] at hr
    refine W.skip ?_
    refine W.seq ?_
    refine W.sr ?_
    simp (disch := omega) [gw]
    refine aA k3 ?_
    simp (disch := omega) [gw]
    refine W.lx [2, 3, 27] ?_; simp
    refine W.cond ⟨_, rfl, fun h => ?_, fun h => ?_⟩
    ·simp at h
     rw [if_pos h] at hr
     subst hr
     refine W.sr ?_; simp (disch := omega) [gw]; refine W.lx [4] ?_; simp
     refine W.ret ?_
     simp [go]
    ·simp at h
     rw [if_neg h] at hr
     refine W.skip ?_
     refine W.seq ?_
     refine W.sr ?_
     simp (disch := omega) [gw]
     refine aA k4 ?_
     simp (disch := omega) [gw]
     refine W.lx [32] ?_; simp
     refine W.cond ⟨_, rfl, fun h => ?_, fun h => ?_⟩
     ·simp at h
      rw [if_pos h] at hr
      subst hr
      refine W.sr ?_; simp (disch := omega) [gw]; refine W.lx [4] ?_; simp
      refine W.ret ?_
      simp [go]
     ·simp at h
      rw [if_neg h] at hr
      subst hr
      refine W.skip ?_
      refine W.sr ?_; simp (disch := omega) [gw]; refine W.lx [4] ?_; simp
      refine W.ret ?_
      simp [go]
abbrev cM (f : ZX) (p : Rat × Rat) : Rat → Prop := gM (vt (aP f)) p.1 p.2
theorem j3.vV {s n : Nat} {f : ZX} (I : j3 s n f) {u : Nat} {p : Rat × Rat} {t : Rat} (A : nO f (vt (aP f)) p.1 p.2) (q1 : SQ u p.1) (q2 : SQ u p.2) (qt : SQ u t) (hu : u ≤ 1000000000) : aI env.P 43 [QA f (aP f) p, RR t] (.int .i64 (cr (cM f p) t)) := by
 have p1 := p7 (f := f) (c := aP f) q1 q2 hu
 have k0 := gG p.1 t (q1.yy hu) (qt.yy hu)
 have k1 := gG t p.1 (qt.yy hu) (q1.yy hu)
 have k2 := gG t p.2 (qt.yy hu) (q2.yy hu)
 have k3 := I.uM q1 qt hu
 have k4 := I.ag3 qt hu
 have hc := A.au2 t
 rw [bQ, bQ] at k0 k1 k2
 rw [bQ, bQ] at k3
 rw [bQ] at k4 ⊢
 rw [lR] at p1 ⊢
 refine K6 p1 k0 k1 k2 k3 k4 ?_
 rw [hc]
 simp only [decide_eq_true_eq]
 by_cases h1 : p.1 = p.2
 ·rw [if_pos h1, if_pos h1]
  by_cases h2 : p.1 < t
  ·rw [if_pos h2, l8 (m6.1 (vU.2 h2))]
  ·rw [if_neg h2]
   by_cases h3 : t < p.1
   ·rw [if_pos h3, l9 (m7.1 (k7.2 h3))]
   ·rw [if_neg h3, kF.2 (by grind)]
 ·rw [if_neg h1, if_neg h1]
  simp only [p8, k7]
  by_cases h2 : t ≤ p.1
  ·rw [if_pos h2, if_pos h2]
  ·rw [if_neg h2, if_neg h2]
   by_cases h3 : p.2 < t
   ·rw [if_pos h3, if_pos h3]
   ·rw [if_neg h3, if_neg h3, if_neg (show ¬ t < p.1 by grind)]
    have e1 : ((vt (aP f) p.1 : Int) - vt (aP f) t = 0) ↔ vt (aP f) p.1 = vt (aP f) t := by omega
    simp only [e1, gH]
def hv (f : ZX) (p : Rat × Rat) : Rat × Rat := if p.1 = p.2 then p else ex f (if vt (aP f) ((p.1 + p.2) / 2) < vt (aP f) p.1 then (p.1, (p.1 + p.2) / 2) else ((p.1 + p.2) / 2, p.2))
theorem K7 {x : List Int} {c : List ZX} {an ad bn bd : Int} (p1 : aI env.P 113 [.ag (PI x :: aJ zq c :: (c4 an ad ++ c4 bn bd))] (.bool true)) : aI env.P 115 [.ag (PI x :: aJ zq c :: (c4 an ad ++ c4 bn bd))] (.ag (PI x :: aJ zq c :: (c4 an ad ++ c4 bn bd))) := by
 simp only [c4, List.cons_append, List.nil_append] at p1 ⊢
 refine aB (E := env) (fun _ => 0) [(0, .ag [PI x, aJ zq c, aJ aF (aT DD an.natAbs), .bool (decide (an < 0)), aJ aF (aT DD ad.natAbs), .bool (decide (ad < 0)), aJ aF (aT DD bn.natAbs), .bool (decide (bn < 0)), aJ aF (aT DD bd.natAbs), .bool (decide (bd < 0))])] Tryz.func115 rfl (by kernel_rfl) (by kernel_rfl) (show 1 ≤ 25 by decide) (by simp) ?_
 refine W.sr ?_; simp (disch := omega) [gw]; refine W.lx [1, 2] ?_; simp
 refine W.seq ?_
 refine W.sr ?_
 simp (disch := omega) [gw]
 refine aA p1 ?_
 simp (disch := omega) [gw]
 refine W.lx [1, 2, 5] ?_; simp
 refine W.cond ⟨_, rfl, fun h => ?_, fun h => ?_⟩
 ·refine W.sr ?_; simp (disch := omega) [gw]; refine W.lx [2] ?_; simp
  refine W.ret ?_
  simp [go]
 ·simp at h
theorem K8 {x : List Int} {c : List ZX} {an ad bn bd mn md yn yd zn zd b : Int} (p1 : aI env.P 113 [.ag (PI x :: aJ zq c :: (c4 an ad ++ c4 bn bd))] (.bool false)) (k1 : aI env.P 60 [R2 an ad, R2 bn bd] (R2 mn md)) (k2 : aI env.P 59 [aJ zq c, R2 an ad, R2 mn md] (.int .i64 b))
  (k3 : aI env.P 112 [.ag (PI x :: aJ zq c :: (if 0 < b then c4 an ad ++ c4 mn md else c4 mn md ++ c4 bn bd))] (.ag (PI x :: aJ zq c :: (c4 yn yd ++ c4 zn zd)))) : aI env.P 115 [.ag (PI x :: aJ zq c :: (c4 an ad ++ c4 bn bd))] (.ag (PI x :: aJ zq c :: (c4 yn yd ++ c4 zn zd))) := by
 simp only [c4, List.cons_append, List.nil_append] at p1 k3 ⊢
 refine aB (E := env) (fun _ => 0) [(0, .ag [PI x, aJ zq c, aJ aF (aT DD an.natAbs), .bool (decide (an < 0)), aJ aF (aT DD ad.natAbs), .bool (decide (ad < 0)), aJ aF (aT DD bn.natAbs), .bool (decide (bn < 0)), aJ aF (aT DD bd.natAbs), .bool (decide (bd < 0))])] Tryz.func115 rfl (by kernel_rfl) (by kernel_rfl) (show 1 ≤ 25 by decide) (by simp) ?_
 refine W.sr ?_; simp (disch := omega) [gw]; refine W.lx [1, 2] ?_; simp
 refine W.seq ?_
 refine W.sr ?_
 simp (disch := omega) [gw]
 refine aA p1 ?_
 simp (disch := omega) [gw]
 refine W.lx [1, 2, 5] ?_; simp
 refine W.cond ⟨_, rfl, fun h => ?_, fun h => ?_⟩
 ·simp at h
 refine W.skip ?_
 refine W.sr ?_
 simp (disch := omega) [gw]
 refine aA k1 ?_
 simp (disch := omega) [gw]
 refine W.lx [1, 2, 3] ?_; simp
 by_cases hb : 0 < b
 ·rw [if_pos hb] at k3
  refine W.fI (fun σ => ∃ (v1 v2 : Nat) (rows : Pm.Rows) (clk : Nat), σ = ⟨fa [(1, .ptr 1 v1 0 0), (2, .ptr 2 v2 0 0)], rows, clk⟩ ∧ rows 1 = some ⟨v1, 68, 10, [[PI x, aJ zq c, aJ aF (aT DD an.natAbs), .bool (decide (an < 0)), aJ aF (aT DD ad.natAbs), .bool (decide (ad < 0)), aJ aF (aT DD mn.natAbs), .bool (decide (mn < 0)), aJ aF (aT DD md.natAbs), .bool (decide (md < 0))]]⟩ ∧ rows 2 = some ⟨v2, 68, 10, [[PV.nil, PV.nil, PV.nil, PV.bool false, PV.nil, PV.bool false, PV.nil, PV.bool false, PV.nil, PV.bool false]]⟩) ?_ ?_
  ·refine W.sr ?_
   simp (disch := omega) [gw]
   refine aA k2 ?_
   simp (disch := omega) [gw]
   refine W.lx [1, 2, 3, 18] ?_; simp
   refine W.cond ⟨_, rfl, fun h => ?_, fun h => ?_⟩
   ·refine W.cB (fun K hK => ?_); simp (disch := omega) [gw]
    exact hK _ ⟨_, aC _ [1, 2], _, _, _, _, rfl, by simp, by simp⟩
   ·simp at h; omega
  rintro _ ⟨v1, v2, rows, clk, rfl, CG, cO⟩
  refine W.sr ?_
  simp (disch := omega) [gw, CG, cO]
  refine aA k3 ?_
  simp (disch := omega) [gw, CG, cO]
  refine W.lx [2] ?_; simp
  refine W.ret ?_
  simp [go]
 ·rw [if_neg hb] at k3
  refine W.fI (fun σ => ∃ (v1 v2 : Nat) (rows : Pm.Rows) (clk : Nat), σ = ⟨fa [(1, .ptr 1 v1 0 0), (2, .ptr 2 v2 0 0)], rows, clk⟩ ∧ rows 1 = some ⟨v1, 68, 10, [[PI x, aJ zq c, aJ aF (aT DD mn.natAbs), .bool (decide (mn < 0)), aJ aF (aT DD md.natAbs), .bool (decide (md < 0)), aJ aF (aT DD bn.natAbs), .bool (decide (bn < 0)), aJ aF (aT DD bd.natAbs), .bool (decide (bd < 0))]]⟩ ∧ rows 2 = some ⟨v2, 68, 10, [[PV.nil, PV.nil, PV.nil, PV.bool false, PV.nil, PV.bool false, PV.nil, PV.bool false, PV.nil, PV.bool false]]⟩) ?_ ?_
  ·refine W.sr ?_
   simp (disch := omega) [gw]
   refine aA k2 ?_
   simp (disch := omega) [gw]
   refine W.lx [1, 2, 3, 18] ?_; simp
   refine W.cond ⟨_, rfl, fun h => ?_, fun h => ?_⟩
   ·simp at h; omega
   ·refine W.cB (fun K hK => ?_); simp (disch := omega) [gw]
    exact hK _ ⟨_, aC _ [1, 2], _, _, _, _, rfl, by simp, by simp⟩
  rintro _ ⟨v1, v2, rows, clk, rfl, CG, cO⟩
  refine W.sr ?_
  simp (disch := omega) [gw, CG, cO]
  refine aA k3 ?_
  simp (disch := omega) [gw, CG, cO]
  refine W.lx [2] ?_; simp
  refine W.ret ?_
  simp [go]
theorem j3.ag4 {s n : Nat} {f : ZX} (I : j3 s n f) {u : Nat} {p : Rat × Rat} (hle : p.1 ≤ p.2) (q1 : SQ u p.1) (q2 : SQ u p.2) (q3 : SQ u ((p.1 + p.2) / 2)) (q4 : SQ u (p.1 + p.2)) (hu : u ≤ 1000000000) : aI env.P 115 [QA f (aP f) p] (QA f (aP f) (hv f p)) := by
 have p1 := p7 (f := f) (c := aP f) q1 q2 hu
 by_cases h : p.1 = p.2
 ·rw [decide_eq_true h] at p1
  rw [show hv f p = p from if_pos h, lR]
  rw [lR] at p1
  exact K7 p1
 ·rw [decide_eq_false h] at p1
  have dI : p.1 < p.2 := by grind
  obtain ⟨m1, m2⟩ := oG dI
  have k1 := KW (q1.yy hu) (q2.yy hu) (q4.yy hu)
  have k2 := I.uM q1 q3 hu
  rw [if_neg (Rat.not_lt.2 (Rat.le_of_lt m1))] at k2
  have e : hv f p = ex f (if vt (aP f) ((p.1 + p.2) / 2) < vt (aP f) p.1 then (p.1, (p.1 + p.2) / 2) else ((p.1 + p.2) / 2, p.2)) := if_neg h
  rw [e]
  have hb : (0 < (vt (aP f) p.1 : Int) - vt (aP f) ((p.1 + p.2) / 2)) ↔ vt (aP f) ((p.1 + p.2) / 2) < vt (aP f) p.1 := by omega
  have k3 := I.abp (u := u) (p := if vt (aP f) ((p.1 + p.2) / 2) < vt (aP f) p.1 then (p.1, (p.1 + p.2) / 2) else ((p.1 + p.2) / 2, p.2)) (by split <;> assumption) (by split <;> assumption) hu
  rw [bQ, bQ] at k1 k2
  rw [bQ] at k1
  rw [lR] at p1 ⊢
  rw [lR]
  refine K8 p1 k1 k2 ?_
  by_cases h2 : vt (aP f) ((p.1 + p.2) / 2) < vt (aP f) p.1
  ·rw [if_pos (hb.2 h2)]
   rw [if_pos h2] at k3 ⊢
   exact k3
  ·rw [if_neg (fun h3 => h2 (hb.1 h3))]
   rw [if_neg h2] at k3 ⊢
   exact k3
theorem SI {f : ZX} {p : Rat × Rat} (A : nO f (vt (aP f)) p.1 p.2) : nO f (vt (aP f)) (hv f p).1 (hv f p).2 ∧ ∀ t, cM f (hv f p) t ↔ cM f p t := by
 unfold hv
 split
 ·exact ⟨A, fun _ => Iff.rfl⟩
 ·rename_i h
  have dI : p.1 < p.2 := by have := A.le; grind
  obtain ⟨m1, m2⟩ := oG dI
  obtain ⟨h1, h2⟩ := A.half m1 m2
  have key : ∀ q : Rat × Rat, nO f (vt (aP f)) q.1 q.2 → (∀ t, cM f q t ↔ cM f p t) → nO f (vt (aP f)) (ex f q).1 (ex f q).2 ∧ ∀ t, cM f (ex f q) t ↔ cM f p t := fun q hq hc => by
   unfold ex
   split
   ·rename_i h0
    obtain ⟨g1, g2⟩ := hq.exact h0
    exact ⟨g1, fun t => (g2 t).trans (hc t)⟩
   ·exact ⟨hq, hc⟩
  split
  ·rename_i h3
   obtain ⟨g1, g2⟩ := h1 h3
   exact key (p.1, (p.1 + p.2) / 2) g1 g2
  ·rename_i h3
   obtain ⟨g1, g2⟩ := h2 h3
   exact key ((p.1 + p.2) / 2, p.2) g1 g2
theorem uN {f : ZX} {p : Rat × Rat} (A : nO f (vt (aP f)) p.1 p.2) : nO f (vt (aP f)) (ex f p).1 (ex f p).2 ∧ ∀ t, cM f (ex f p) t ↔ cM f p t := by
 unfold ex
 split
 ·rename_i h0
  exact A.exact h0
 ·exact ⟨A, fun _ => Iff.rfl⟩
abbrev t4 (n d : Int) : List PV := [.bool (decide (n < 0)), us (aT LL n.natAbs), .bool (decide (d < 0)), us (aT LL d.natAbs)]
section
variable {x : List Int} {c : List ZX} {fs : List ZX} {an ad bn bd z b σ : Int} (hx : x.length < 1000000)  (f1 : aI env.P 32 [Po x] (PI x)) (f2 : aI env.P 93 [PI x] (aJ zq fs)) (k1 : aI env.P 28 [T2 an ad] (R2 an ad)) (k2 : aI env.P 28 [T2 bn bd] (R2 bn bd))
  (k3 : aI env.P 27 [R2 an ad, R2 bn bd] (.int .i64 z)) (k4 : aI env.P 57 [PI x] (aJ zq c)) (k5 : aI env.P 59 [aJ zq c, R2 an ad, R2 bn bd] (.int .i64 b)) (k6 : aI env.P 107 [PI x, R2 an ad] (.int .i64 σ))
include hx f1
include f2 k1 k2 k3 k4 k5 k6
theorem VO (h2 : 2 ≤ x.length) (hm : fs.length = 1) {r : Bool} (hr : r = if 0 < z then false else if z = 0 then σ == 0 else b == 1) : aI env.P 38 [.ag (Po x :: (t4 an ad ++ t4 bn bd))] (.bool r) := by
 simp only [t4, List.cons_append, List.nil_append]
 refine aB (E := env) (fun _ => 0) [(0, .ag [Po x, .bool (decide (an < 0)), us (aT LL an.natAbs), .bool (decide (ad < 0)), us (aT LL ad.natAbs), .bool (decide (bn < 0)), us (aT LL bn.natAbs), .bool (decide (bd < 0)), us (aT LL bd.natAbs)])] Tryz.func38 rfl (by kernel_rfl) (by kernel_rfl) (show 1 ≤ 52 by decide) (by simp) ?_
 refine W.sr ?_; simp (disch := omega) [gw]; refine W.lx [1] ?_; simp
 refine W.sr ?_
 simp (disch := omega) [gw]
 refine aA f1 ?_
 simp (disch := omega) [gw]
 refine W.lx [1, 3] ?_; simp
 refine W.seq ?_
 have e1 : ((x.length : Int) < 2) = False := eq_false (by omega)
 have e2 : (((fs.length : Int)) != 1) = false := by rw [hm]; rfl
 refine W.sr ?_
 simp (disch := omega) [gw, e1]
 refine aA f2 ?_
 simp (disch := omega) [gw, e2]
 refine W.lx [1, 3, 26] ?_; simp
 refine W.cond ⟨_, rfl, fun h => ?_, fun h => ?_⟩
 ·simp at h
 refine W.skip ?_
 refine W.sd ?_
 simp (disch := omega) [gw]
 refine aA k1 ?_
 simp (disch := omega) [gw]
 refine aA k2 ?_
 (try (refine cA (of_decide_eq_true (by kernel_rfl)) ?_)); (try simp (maxSteps := 4000000) (disch := omega) [gw, eV]); (repeat rw [if_pos (by kernel_rfl)]); (try simp (maxSteps := 4000000) (disch := omega) [gw, eV])
 (try (refine cA (of_decide_eq_true (by kernel_rfl)) ?_)); (try simp (maxSteps := 4000000) (disch := omega) [gw, eV]); (repeat rw [if_pos (by kernel_rfl)]); (try simp (maxSteps := 4000000) (disch := omega) [gw, eV])
 (try (refine cA (of_decide_eq_true (by kernel_rfl)) ?_)); (try simp (maxSteps := 4000000) (disch := omega) [gw, eV]); (repeat rw [if_pos (by kernel_rfl)]); (try simp (maxSteps := 4000000) (disch := omega) [gw, eV])
 refine W.lx [3, 4, 5] ?_; simp
 refine W.seq ?_
 refine W.sr ?_
 simp (disch := omega) [gw]
 refine aA k3 ?_
 simp (disch := omega) [gw]
 refine W.lx [3, 4, 5, 6] ?_; simp
 refine W.block ?_
 refine W.sr ?_; simp (disch := omega) [gw]; refine W.lx [3, 4, 5, 6, 36] ?_; simp
 refine W.cond ⟨_, rfl, fun h => ?_, fun h => ?_⟩
 ·simp at h
  rw [if_pos h] at hr; subst hr
  refine W.sr ?_; simp (disch := omega) [gw]; refine W.lx [2] ?_; simp
  refine W.ret ?_
  simp [go]
 ·simp at h
  rw [if_neg (by omega)] at hr
  refine W.sr ?_; simp (disch := omega) [gw]; refine W.lx [3, 4, 5, 39] ?_; simp
  refine W.cond ⟨_, rfl, fun h => ?_, fun h => ?_⟩
  ·simp at h
   rw [if_pos h] at hr; subst hr
   refine W.sr ?_
   simp (disch := omega) [gw]
   refine aA k6 ?_
   simp (disch := omega) [gw]
   refine W.lx [2] ?_; simp
   refine W.ret ?_
   simp [go]
  ·simp at h
   rw [if_neg h] at hr; subst hr
   refine W.skip ?_
   refine W.sd ?_
   simp (disch := omega) [gw]
   refine aA k4 ?_
   simp (disch := omega) [gw]
   refine aA k5 ?_
   simp (disch := omega) [gw]
   refine W.lx [2] ?_; simp
   refine W.ret ?_
   simp [go]
end
theorem j3.valid {s n : Nat} {f : ZX} (I : j3 s n f) {u : Nat} {p : Rat × Rat} (A : nO f (vt (aP f)) p.1 p.2) (hN : 2 ≤ ZX.N f) (q1 : SQ u p.1) (q2 : SQ u p.2) (hu : u ≤ 1000000000) : aI env.P 38 [GA f p] (.bool true) := by
 have hN' := I.ch.bz.N
 have hn := I.ch.hn
 have hx : f.l.length < 1000000 := by show ZX.N f < _; omega
 have f2 := uE I.lay I.s1
 rw [I.nf.nfe] at f2
 have hnl : nl f = 1 := (akk f).2 ⟨hN, by rw [I.gz1, ZX.tZ]; omega⟩
 have hfl : (fl f).length = 1 := by rw [ajN, hnl]
 have k1 := q1.BL hu
 have k2 := q2.BL hu
 have k3 := gG p.1 p.2 (q1.yy hu) (q2.yy hu)
 have k5 := I.uM q1 q2 hu
 have k6 := I.ag3 q1 hu
 rw [bQ] at k1 k2 k6
 rw [bQ, bQ] at k3 k5
 refine VO hx I.ag2 f2 k1 k2 k3 I.O8 k5 k6 hN hfl ?_
 rw [if_neg (by rw [k7]; have := A.le; grind)]
 rcases A.k with ⟨h1, h2⟩ | ⟨h1, h2⟩
 ·rw [if_pos (kF.2 h1), h2, kD]; rfl
 ·rw [if_neg (fun h => by rw [kF] at h; grind), if_neg (by grind)]
  have : (vt (aP f) p.1 : Int) - vt (aP f) p.2 = 1 := by omega
  rw [this]; rfl
theorem sqf {f : ZX} (h0 : f ≠ 0) (hc : G2 f (bP f)) (hN : ZX.N f ≤ 20) : vS f (vt (aP f)) := by
 have hg : gz f (bP f) = 1 := (RE (.inl h0)).N1 (hc _ (fQ _ _).l (fQ _ _).r)
 refine ⟨h0, hc, _, ⟨fun B hB => ?_⟩, rfl⟩
 obtain ⟨s, hs⟩ := BF f.l
 obtain ⟨β, hβ⟩ := KZ B
 have hb : BZ (s + 1 + 5) 20 f := ⟨hN, fun c hc => cT (by decide) (by
  have h1 := hs c hc
  have h2 : 2 ^ s < 2 ^ (s + 1 + 5) := Nat.pow_lt_pow_right (by decide) (by omega)
  omega)⟩
 have hb0 : BZ (s + 1) 20 f := ⟨hN, fun c hc => cT (by decide) (by
  have h1 := hs c hc
  have h2 : 2 ^ s < 2 ^ (s + 1) := Nat.pow_lt_pow_right (by decide) (by omega)
  omega)⟩
 have bd : BZ (s + 1 + 5) 20 (bP f) := hb0.bP (by decide)
 have hND := nJ f
 have hP1 : ZX.N (oR (bP f)) ≤ ZX.N (bP f) := kB _
 obtain ⟨δ, h1, h2⟩ := vR (jb ((s + 1 + 5 + 20 + 1) * 2 * 4 ^ 20) 20 β)
 refine ⟨δ, h1, Lcl.mono (SA (s := s + 1) (n := 20) (by decide) h0 hb ?_ (iA bd) hg (by rw [h2]; exact Rat.le_refl)) hβ⟩
 unfold vH
 split
 ·have : (4 : Nat) ^ ZX.N f ≤ 4 ^ 20 := Nat.pow_le_pow_right (by decide) hN
  exact Nat.mul_le_mul (by omega) this
 ·have : (4 : Nat) ^ ZX.N (oR (bP f)) ≤ 4 ^ 20 := Nat.pow_le_pow_right (by decide) (by omega)
  exact Nat.mul_le_mul (Nat.le_refl _) this
structure p9 (f h g w : ZX) : Prop where
 eq : f = w * g
 ng : Nf g
 nw : Nf w
 wg : G2 w g
 wh : G2 w h
 gd : dv g h
 sg : G2 g (bP g)
 sw : G2 w (bP w)
theorem BM {f h : ZX} (nf : Nf f) (hc : G2 f (bP f)) : ∃ w, p9 f h (gz f h) w := by
 have ng : Nf (gz f h) := RE (.inl nf.ne)
 obtain ⟨w, nw, e⟩ := nf.quo ng (fQ f h).l
 have hd : bP f = bP w * gz f h + w * bP (gz f h) := by
  have h1 := congrArg bP e
  rwa [uA] at h1
 have dwf : dv w f := by rw [e]; exact (dv.refl w).mul_right _
 have dgf : dv (gz f h) f := (fQ f h).l
 have wg : G2 w (gz f h) := fun d h1 h2 => hc d (h1.trans dwf) (by rw [hd]; exact (h2.mul_left _).add (h1.mul_right _))
 exact ⟨w, e, ng, nw, wg, fun d h1 h2 => wg d h1 ((fQ f h).least (h1.trans dwf) h2), (fQ f h).r,
  fun d h1 h2 => hc d (h1.trans dgf) (by rw [hd]; exact (h1.mul_left _).add (h2.mul_left _)), fun d h1 h2 => hc d (h1.trans dwf) (by rw [hd]; exact (h2.mul_right _).add (h1.mul_right _))⟩
theorem p9.N {f h g w : ZX} (S : p9 f h g w) : ZX.N w ≤ ZX.N f ∧ ZX.N g ≤ ZX.N f := by
 have h1 := lL S.nw.ne S.ng.ne
 rw [← S.eq] at h1
 have := ZX.aG.1 S.nw.ne
 have := ZX.aG.1 S.ng.ne
 omega
theorem p9.cnt {f h g w : ZX} (S : p9 f h g w) {v γ φ : Rat → Nat} (hv : vS f v) (hg : vS g γ) (hw : vS w φ) {s t : Rat} (lS : s ≤ t) : v s + γ t + φ t = v t + γ s + φ s := by
 have e : K 1 * f = w * g := by rw [← S.eq]; show (1 : ZX) * f = f; grind
 have := hv.mul hw hg (by decide) e S.wg lS
 omega
theorem abr {f h : ZX} {v w : Rat → Nat} (hv : vS f v) (hw : vS h w) (hc : G2 f h) {s n l β : Nat} (hA : ∀ c ∈ f.l, c.natAbs ≤ 2 ^ s) (hB : ∀ c ∈ h.l, c.natAbs ≤ 2 ^ s) (hn : ZX.N f + ZX.N h ≤ n) (hl : n ≤ 2 ^ l)
  {a b : Rat} (ha : Ab a (2 ^ β)) (hb : Ab b (2 ^ β)) (fU : a < b) (hd : (b - a) * 2 ^ (sk s n l β + (s + n * (β + 2)) + 1) ≤ 1) : v a = v b ∨ w a = w b := by
 refine Classical.byContradiction fun VI => ?_
 have ag5 := not_or.1 VI
 have hQ := gT (s + n * (β + 2))
 have hlf : ∀ p : ZX, (∀ c ∈ p.l, c.natAbs ≤ 2 ^ s) → ZX.N p ≤ n → ∀ x y, a ≤ x → x ≤ y → y ≤ b → Ab (e y p - e x p) ((y - x) * 2 ^ (s + n * (β + 2))) := fun p hp hN x y h1 h2 h3 => by
  have g1 := (abg hp hN (eP ha hb h1 (by grind)) (eP ha hb (show a ≤ y by grind) h3)).1
  have g2 := lN x y p.l
  have g3 : e y p - e x p = qv y p.l - qv x p.l := rfl
  rw [g3, g2]
  exact Ab.mul ⟨by grind, Rat.le_refl⟩ g1
 have b1 := hv.small fU ag5.1 hQ (hlf f hA (by omega)) Rat.le_refl (Rat.le_of_lt fU)
 have b2 := hw.small fU ag5.2 hQ (hlf h hB (by omega)) Rat.le_refl (Rat.le_of_lt fU)
 obtain ⟨ε, h3, h4⟩ := vR (sk s n l β)
 have h5 := sep hv.ne hw.ne hA hB hn hl hc ha (ε := ε) (by rw [h4]; exact Rat.le_refl)
 rw [kM, kM] at hd
 have hK := gT (sk s n l β)
 generalize (2 : Rat) ^ sk s n l β = κ at *
 generalize (2 : Rat) ^ (s + n * (β + 2)) = Q at *
 have e2 : (2 : Rat) ^ 1 = 2 := by rw [Rat.pow_succ, Rat.pow_zero]; grind
 rw [e2] at hd
 have h6 : (b - a) * Q * 2 ≤ ε := by
  have h7 : (b - a) * (κ * Q * 2) = (b - a) * Q * 2 * κ := by grind
  rw [h7, ← h4] at hd
  exact Rat.le_of_mul_le_mul_right hd hK
 have h8 : 0 ≤ (b - a) * Q := Rat.mul_nonneg (by grind) (Rat.le_of_lt hQ)
 obtain ⟨p1, p2⟩ := b1
 obtain ⟨p3, p4⟩ := b2
 rcases h5 with (h5 | h5) | (h5 | h5) <;> grind
theorem aeO {f h : ZX} {v w : Rat → Nat} (hv : vS f v) (hw : vS h w) (hc : G2 f h) (B : Rat) : ∃ δ : Rat, 0 < δ ∧ ∀ a b, Ab a B → Ab b B → a < b → b - a ≤ δ → v a = v b ∨ w a = w b := by
 obtain ⟨s1, h1⟩ := BF f.l
 obtain ⟨s2, h2⟩ := BF h.l
 obtain ⟨β, hβ⟩ := KZ B
 obtain ⟨δ, h3, h4⟩ := vR (sk (s1 + s2) (ZX.N f + ZX.N h) (ZX.N f + ZX.N h) β + (s1 + s2 + (ZX.N f + ZX.N h) * (β + 2)) + 1)
 refine ⟨δ, h3, fun a b ha hb fU hd => abr hv hw hc (s := s1 + s2) (l := ZX.N f + ZX.N h) (β := β) (fun c hc => Nat.le_trans (h1 c hc) (Nat.pow_le_pow_right (by decide) (by omega))) (fun c hc => Nat.le_trans (h2 c hc) (Nat.pow_le_pow_right (by decide) (by omega))) (Nat.le_refl _) (Nat.le_of_lt Nat.lt_two_pow_self) (ha.mono hβ) (hb.mono hβ) fU ?_⟩
 rw [← h4]
 exact Rat.mul_le_mul_of_nonneg_right hd (Rat.le_of_lt (gT _))
section
variable {f : ZX} {v : Rat → Nat} {lo hi : Rat} (A : nO f v lo hi)
include A
theorem oI {s t : Rat} (h1 : ¬ gM v lo hi s) (h2 : gM v lo hi t) (lS : s < t) : v t < v s := by
 have g1 : s < hi := Rat.not_le.1 fun h => h1 (.inl h)
 rcases A.k with ⟨rfl, h0⟩ | ⟨dI, hk⟩
 ·have h3 : lo ≤ t := by rcases h2 with h | h <;> grind
  have h4 := A.S.root g1 h0
  have h5 := A.S.cY h3
  omega
 ·have h3 : v lo ≤ v s := by
   by_cases h : s ≤ lo
   ·exact A.S.cY h
   ·exact Nat.not_lt.1 fun h4 => h1 (.inr ⟨by grind, h4⟩)
  rcases h2 with h | ⟨_, h⟩
  ·have := A.S.cY h; omega
  ·omega
theorem SJ {s t : Rat} (h1 : ¬ gM v lo hi s) (h2 : gM v lo hi t) (hv : v s = v t + 1) {x : Rat} (hx : s ≤ x) (hy : x ≤ t) : gM v lo hi x ↔ v x < v s := by
 refine ⟨fun h => ?_, fun h => ?_⟩
 ·refine oI A h1 h ?_
  rcases Rat.le_iff_lt_or_eq.1 hx with h3 | rfl
  ·exact h3
  ·exact absurd h h1
 ·refine Classical.byContradiction fun h3 => ?_
  have h4 : x < t := by
   rcases Rat.le_iff_lt_or_eq.1 hy with h4 | rfl
   ·exact h4
   ·exact absurd h2 h3
  have := oI A h3 h2 h4
  omega
end
theorem O9 {U : Rat → Prop} {δ : Rat} (hδ : 0 < δ) : ∀ (n : Nat) (s t : Rat), s < t → ¬ U s → U t → t - s ≤ δ * 2 ^ n → ∃ a b, s ≤ a ∧ a < b ∧ b ≤ t ∧ b - a ≤ δ ∧ ¬ U a ∧ U b
 | 0, s, t, h, h1, h2, hd => ⟨s, t, Rat.le_refl, h, Rat.le_refl, by rwa [Rat.pow_zero, Rat.mul_one] at hd, h1, h2⟩
 | n + 1, s, t, h, h1, h2, hd => by
  obtain ⟨m1, m2⟩ := oG h
  obtain ⟨d1, d2⟩ := lP hd
  generalize (s + t) / 2 = m at *
  by_cases hm : U m
  ·obtain ⟨a, b, g1, g2, g3, g4⟩ := O9 hδ n s m m1 h1 hm d1
   exact ⟨a, b, g1, g2, by grind, g4⟩
  ·obtain ⟨a, b, g1, g2, g3, g4⟩ := O9 hδ n m t m2 hm h2 d2
   exact ⟨a, b, by grind, g2, g3, g4⟩
theorem aeP {U : Rat → Prop} {δ : Rat} (hδ : 0 < δ) {s t : Rat} (h : s < t) (h1 : ¬ U s) (h2 : U t) : ∃ a b, s ≤ a ∧ a < b ∧ b ≤ t ∧ b - a ≤ δ ∧ ¬ U a ∧ U b := by
 obtain ⟨n, hn⟩ := KZ ((t - s) / δ)
 refine O9 hδ n s t h h1 h2 ?_
 have h3 : (t - s) / δ * δ = t - s := Rat.div_mul_cancel (Rat.ne_of_gt hδ)
 have h4 := Rat.mul_le_mul_of_nonneg_right hn (Rat.le_of_lt hδ)
 grind
section
variable {f h : ZX} {v w : Rat → Nat} {lo hi LI eQ : Rat} (A : nO f v lo hi) (B : nO h w LI eQ)
include A B
theorem K9 {g w1 w2 : ZX} {γ φ η : Rat → Nat} (S1 : p9 f h g w1) (S2 : p9 h f g w2) (hg : vS g γ) (h1 : vS w1 φ) (h2 : vS w2 η) {s t : Rat} (lS : s < t) (a1 : ¬ gM v lo hi s) (a2 : gM v lo hi t) (b1 : ¬ gM w LI eQ s) (b2 : gM w LI eQ t) (hv : v s ≤ v t + 1) (hw : w s ≤ w t + 1) (hγ : γ t < γ s) :
  ∀ x, gM v lo hi x ↔ gM w LI eQ x := fun x => by
 have c1 := oI A a1 a2 lS
 have c2 := oI B b1 b2 lS
 have e1 : v s = v t + 1 := by omega
 have e2 : w s = w t + 1 := by omega
 have k1 := S1.cnt A.S hg h1 (Rat.le_of_lt lS)
 have k2 := S2.cnt B.S hg h2 (Rat.le_of_lt lS)
 by_cases hx : x < s
 ·exact ⟨fun hh => absurd (A.up hh (Rat.le_of_lt hx)) a1, fun hh => absurd (B.up hh (Rat.le_of_lt hx)) b1⟩
 ·by_cases hy : t < x
  ·exact ⟨fun _ => B.up b2 (Rat.le_of_lt hy), fun _ => A.up a2 (Rat.le_of_lt hy)⟩
  ·have CX := Rat.not_lt.1 hx
   have B3 := Rat.not_lt.1 hy
   rw [SJ A a1 a2 e1 CX B3, SJ B b1 b2 e2 CX B3]
   have q1 := S1.cnt A.S hg h1 CX
   have q2 := S2.cnt B.S hg h2 CX
   have r1 := h1.cY CX
   have r2 := h2.cY CX
   have r3 := h1.cY B3
   have r4 := h2.cY B3
   have m1 := hg.cY (Rat.le_of_lt lS)
   have m2 := h1.cY (Rat.le_of_lt lS)
   have m3 := h2.cY (Rat.le_of_lt lS)
   omega
end
theorem abt {q : Rat} {V : Rat → Prop} (hV : ∀ s t, V s → s ≤ t → V t) : cu (fun t => q ≤ t) V = -cr V q := by
 by_cases h : V q
 ·by_cases h2 : ∃ s, s < q ∧ V s
  ·rw [(BG hV).2 h2]
   unfold cu
   obtain ⟨s, h3, h4⟩ := h2
   rw [if_neg (fun ⟨t, h5, h6⟩ => h6 (hV q t h h5)), if_pos ⟨s, h4, by grind⟩]
   rfl
  ·rw [yL.2 ⟨h, fun s h3 h4 => h2 ⟨s, h3, h4⟩⟩]
   unfold cu
   rw [if_neg (fun ⟨t, h5, h6⟩ => h6 (hV q t h h5)), if_neg (fun ⟨t, h5, h6⟩ => h2 ⟨t, by grind, h5⟩)]
   rfl
 ·rw [jY.2 h]
  unfold cu
  rw [if_pos ⟨q, Rat.le_refl, h⟩]
theorem VP {q : Rat} {U : Rat → Prop} (hU : ∀ s t, U s → s ≤ t → U t) : cu U (fun t => q ≤ t) = cr U q := by
 by_cases h : U q
 ·by_cases h2 : ∃ s, s < q ∧ U s
  ·rw [(BG hU).2 h2]
   unfold cu
   obtain ⟨s, h3, h4⟩ := h2
   rw [if_pos ⟨s, h4, by grind⟩]
  ·rw [yL.2 ⟨h, fun s h3 h4 => h2 ⟨s, h3, h4⟩⟩]
   unfold cu
   rw [if_neg (fun ⟨t, h5, h6⟩ => h2 ⟨t, by grind, h5⟩), if_neg (fun ⟨t, h5, h6⟩ => h6 (hU q t h h5))]
 ·rw [jY.2 h]
  unfold cu
  rw [if_neg (fun ⟨t, h5, h6⟩ => h (hU t q h5 (by grind))), if_pos ⟨q, Rat.le_refl, h⟩]
theorem nM {U U' V V' : Rat → Prop} (h1 : ∀ t, U t ↔ U' t) (h2 : ∀ t, V t ↔ V' t) : cu U V = cu U' V' := by
 have e1 : U = U' := funext fun t => propext (h1 t)
 have e2 : V = V' := funext fun t => propext (h2 t)
 rw [e1, e2]
theorem SK {f : ZX} {p : Rat × Rat} (h : p.1 = p.2) (t : Rat) : cM f p t ↔ p.1 ≤ t := by
 refine ⟨fun h1 => ?_, fun h1 => .inl (h ▸ h1)⟩
 rcases h1 with h1 | ⟨h1, _⟩
 ·rw [h]; exact h1
 ·grind
theorem ap4 {h : ZX} {w : Rat → Nat} {lo hi LI eQ : Rat} {v : Rat → Nat} (B : nO h w LI eQ) (h1 : hi ≤ LI) (h2 : LI < eQ) : cu (gM v lo hi) (gM w LI eQ) = -1 := by
 unfold cu
 rw [if_pos ⟨hi, kV, B.oF (by grind)⟩]
theorem ap5 {f h : ZX} {v w : Rat → Nat} {lo hi LI eQ : Rat} (A : nO f v lo hi) (B : nO h w LI eQ) (h1 : eQ ≤ lo) (h2 : lo < hi) : cu (gM v lo hi) (gM w LI eQ) = 1 := by
 have h3 : ¬ gM v lo hi eQ := A.oF (by grind)
 have h4 : ¬ ∃ t, gM v lo hi t ∧ ¬ gM w LI eQ t := fun ⟨t, h4, h5⟩ => h5 (B.up kV (Rat.not_lt.1 fun h6 => h3 (A.up h4 (Rat.le_of_lt h6))))
 unfold cu
 rw [if_neg h4, if_pos ⟨eQ, kV, h3⟩]
structure Two (s n : Nat) (f h : ZX) : Prop where
 nf : Nf f
 nh : Nf h
 cf : G2 f (bP f)
 ch : G2 h (bP h)
 af : ∀ c ∈ f.l, c.natAbs ≤ 2 ^ s
 ah : ∀ c ∈ h.l, c.natAbs ≤ 2 ^ s
 Nf : ZX.N f ≤ n
 Nh : ZX.N h ≤ n
 hn : n ≤ 20
 hs : n + 1 ≤ 2 ^ s
namespace Two
variable {s n : Nat} {f h : ZX} (T : Two s n f h)
include T
theorem Sf : vS f (vt (aP f)) := sqf T.nf.ne T.cf (Nat.le_trans T.Nf T.hn)
theorem Sh : vS h (vt (aP h)) := sqf T.nh.ne T.ch (Nat.le_trans T.Nh T.hn)
end Two
def kc (s n β : Nat) : Nat := lk s n 5 β + (sk (qb (s + 1) n) (n + n) 6 β + (qb (s + 1) n + (n + n) * (β + 2)) + 1)
theorem ap6 {s n β : Nat} (hn : n ≤ 20) : kc s n β ≤ 1722 * s + 140 * β + 9000 := by
 have h1 : (n + n) * (s + 5 + 1 + (5 + 1)) ≤ 40 * (s + 12) := Nat.mul_le_mul (by omega) (by omega)
 have h2 : (n + n) * (β + 2) ≤ 40 * (β + 2) := Nat.mul_le_mul (by omega) (by omega)
 have h3 : n * (β + 2) ≤ 20 * (β + 2) := Nat.mul_le_mul hn (by omega)
 have h4 : n * (2 * (s + 1) + 5) ≤ 20 * (2 * (s + 1) + 5) := Nat.mul_le_mul hn (by omega)
 have h5 : qb (s + 1) n ≤ 41 * s + 150 := by unfold qb; omega
 have h6 : (n + n) * (qb (s + 1) n + 1 + 6) ≤ 40 * (41 * s + 157) := Nat.mul_le_mul (by omega) (by omega)
 unfold kc lk sk
 omega
theorem ava {s n : Nat} {f h g w : ZX} (S : p9 f h g w) (hf : f ≠ 0) (hA : ∀ c ∈ f.l, c.natAbs ≤ 2 ^ s) (hN : ZX.N f ≤ n) (hs : n + 1 ≤ 2 ^ s) : ∀ c ∈ w.l, c.natAbs ≤ 2 ^ qb (s + 1) n := fun c hc => by
 have hb : Bd 2 (s + 1) n f.l := ⟨hN, fun c hc => cT (by decide) (by
  have h1 := hA c hc
  have h2 : 2 ^ s < 2 ^ (s + 1) := Nat.pow_lt_pow_right (by decide) (by omega)
  omega)⟩
 have h1 := aav (a := f) (w := g) (g := w) hf (by rw [S.eq, ZX.D0]) hb (Nat.le_trans hs (Nat.pow_le_pow_right (by decide) (by omega)))
 have h2 := lC (b := 2) (by decide) c
 have h3 := Nat.pow_le_pow_right (show 0 < 2 by decide) (h1.sz c hc)
 unfold qb
 omega
theorem VQ {s n β : Nat} {f h : ZX} {p q : Rat × Rat} (T : Two s n f h) (A : nO f (vt (aP f)) p.1 p.2) (B : nO h (vt (aP h)) q.1 q.2) (h1 : p.1 < p.2) (h2 : q.1 < q.2) (h3 : p.1 < q.2) (h4 : q.1 < p.2)
  (a1 : Ab p.1 (2 ^ β)) (a2 : Ab p.2 (2 ^ β)) (b1 : Ab q.1 (2 ^ β)) (b2 : Ab q.2 (2 ^ β)) {W : Rat} (w1 : p.2 - p.1 ≤ W) (w2 : q.2 - q.1 ≤ W) (hW : 2 * W * 2 ^ kc s n β ≤ 1) : ∀ x, cM f p x ↔ cM h q x := by
 obtain ⟨S, hS, hS1, hS2⟩ : ∃ S, (S = p.1 ∨ S = q.1) ∧ S ≤ p.1 ∧ S ≤ q.1 := by
  by_cases hh : p.1 ≤ q.1
  ·exact ⟨p.1, .inl rfl, Rat.le_refl, hh⟩
  ·exact ⟨q.1, .inr rfl, by grind, Rat.le_refl⟩
 obtain ⟨E, hE, hE1, hE2⟩ : ∃ E, (E = p.2 ∨ E = q.2) ∧ p.2 ≤ E ∧ q.2 ≤ E := by
  by_cases hh : p.2 ≤ q.2
  ·exact ⟨q.2, .inr rfl, hh, Rat.le_refl⟩
  ·exact ⟨p.2, .inl rfl, Rat.le_refl, by grind⟩
 have aS : Ab S (2 ^ β) := by rcases hS with rfl | rfl <;> assumption
 have aE : Ab E (2 ^ β) := by rcases hE with rfl | rfl <;> assumption
 have SL : S < E := by grind
 have hd : E - S ≤ 2 * W := by rcases hS with rfl | rfl <;> rcases hE with rfl | rfl <;> grind
 have hd0 : 0 ≤ E - S := by grind
 have hdK : (E - S) * 2 ^ kc s n β ≤ 1 := Rat.le_trans (Rat.mul_le_mul_of_nonneg_right hd (Rat.le_of_lt (gT _))) hW
 have lt1 : ∀ k, k ≤ kc s n β → (E - S) * 2 ^ k ≤ 1 := fun k hk => Rat.le_trans (Rat.mul_le_mul_of_nonneg_left (SE hk) hd0) hdK
 obtain ⟨Lf, _⟩ := (show ∃ L, xV L f ∧ vt (aP f) = vt L from T.Sf.g)
 have rC : ∀ x : ZX, vS x (vt (aP x)) → x ≠ 0 → (∀ c ∈ x.l, c.natAbs ≤ 2 ^ s) → ZX.N x ≤ n → vt (aP x) S ≤ vt (aP x) E + 1 := fun x hx h0 hA hN => by
  obtain ⟨L, G, e⟩ := hx.g
  obtain ⟨g1, _⟩ := vQ G (s := s) (n := n) (l := 5) (β := β) h0 hA hN (by have := T.hn; omega) hx.cop (δ := E - S) (lt1 _ (by unfold kc; omega))
  have := g1.turns S E aS aE SL Rat.le_refl
  rw [e]
  rcases O1 x S E with h5 | h5 <;> omega
 have nF := rC f T.Sf T.nf.ne T.af T.Nf
 have nH := rC h T.Sh T.nh.ne T.ah T.Nh
 obtain ⟨w1', S1⟩ := BM (h := h) T.nf T.cf
 obtain ⟨w2', S2⟩ := BM (h := f) T.nh T.ch
 rw [← uB] at S2
 have T8 := T.hn
 have n1 := S1.N
 have n2 := S2.N
 have hTN := T.Nf
 have avb := T.Nh
 have hg := sqf S1.ng.ne S1.sg (by omega)
 have LJ := sqf S1.nw.ne S1.sw (by omega)
 have hw2 := sqf S2.nw.ne S2.sw (by omega)
 have c1 : ¬ cM f p S := A.oF (by grind)
 have c2 : cM f p E := A.up kV hE1
 have c3 : ¬ cM h q S := B.oF (by grind)
 have c4 : cM h q E := B.up kV hE2
 have o1 := oI A c1 c2 SL
 have o2 := oI B c3 c4 SL
 have k1 := S1.cnt T.Sf hg LJ (Rat.le_of_lt SL)
 have mM := ava S1 T.nf.ne T.af T.Nf T.hs
 have hno := abr LJ T.Sh S1.wh (s := qb (s + 1) n) (n := n + n) (l := 6) (β := β) mM (fun c hc => Nat.le_trans (T.ah c hc) (Nat.pow_le_pow_right (by decide) (by unfold qb; omega))) (by omega) (by omega) aS aE SL (lt1 _ (by unfold kc; omega))
 have m0 := hg.cY (Rat.le_of_lt SL)
 refine K9 A B S1 S2 hg LJ hw2 SL c1 c2 c3 c4 nF nH ?_
 rcases hno with hno | hno
 ·omega
 ·omega
theorem VR {s n : Nat} {f h : ZX} {p q : Rat × Rat} (T : Two s n f h) (A : nO f (vt (aP f)) p.1 p.2) (B : nO h (vt (aP h)) q.1 q.2) (h1 : p.1 < p.2) (h2 : q.1 < q.2) (h3 : ¬ cM f p q.1) (h4 : cM f p q.2) (hz : vt (aP (gz h f)) p.2 < vt (aP (gz h f)) p.1) : ∀ x, cM f p x ↔ cM h q x := by
 rw [uB] at hz
 obtain ⟨w1', S1⟩ := BM (h := h) T.nf T.cf
 obtain ⟨w2', S2⟩ := BM (h := f) T.nh T.ch
 rw [← uB] at S2
 have T8 := T.hn
 have n1 := S1.N
 have n2 := S2.N
 have hTN := T.Nf
 have avb := T.Nh
 have hg := sqf S1.ng.ne S1.sg (by omega)
 have LJ := sqf S1.nw.ne S1.sw (by omega)
 have hw2 := sqf S2.nw.ne S2.sw (by omega)
 have hv : vt (aP f) p.1 = vt (aP f) p.2 + 1 := by
  rcases A.k with ⟨g, _⟩ | ⟨_, g⟩
  ·grind
  ·exact g
 have hw : vt (aP h) q.1 = vt (aP h) q.2 + 1 := by
  rcases B.k with ⟨g, _⟩ | ⟨_, g⟩
  ·grind
  ·exact g
 have ZM : q.1 < p.2 := Rat.not_le.1 fun hh => h3 (.inl hh)
 have hq2 : p.1 < q.2 := Rat.not_le.1 fun hh => (A.oF (show q.2 < p.1 ∨ (q.2 = p.1 ∧ p.1 < p.2) by grind)) h4
 obtain ⟨S, hS, hS1, hS2⟩ : ∃ S, (S = p.1 ∨ S = q.1) ∧ p.1 ≤ S ∧ q.1 ≤ S := by
  by_cases hh : p.1 ≤ q.1
  ·exact ⟨q.1, .inr rfl, hh, Rat.le_refl⟩
  ·exact ⟨p.1, .inl rfl, Rat.le_refl, by grind⟩
 obtain ⟨E, hE, hE1, hE2⟩ : ∃ E, (E = p.2 ∨ E = q.2) ∧ E ≤ p.2 ∧ E ≤ q.2 := by
  by_cases hh : p.2 ≤ q.2
  ·exact ⟨p.2, .inl rfl, Rat.le_refl, hh⟩
  ·exact ⟨q.2, .inr rfl, by grind, Rat.le_refl⟩
 have SL : S < E := by rcases hS with rfl | rfl <;> rcases hE with rfl | rfl <;> assumption
 have c1 : ¬ cM f p S := by
  rcases hS with rfl | rfl
  ·exact A.oF (.inr ⟨rfl, h1⟩)
  ·exact h3
 have c2 : cM f p E := by
  rcases hE with rfl | rfl
  ·exact kV
  ·exact h4
 have o1 := oI A c1 c2 SL
 have v1 := T.Sf.cY hS1
 have v2 := T.Sf.cY hE1
 have k1 := S1.cnt T.Sf hg LJ hS1
 have k2 := S1.cnt T.Sf hg LJ hE1
 have k3 := S1.cnt T.Sf hg LJ (Rat.le_of_lt SL)
 have k4 := S2.cnt T.Sh hg hw2 (Rat.le_of_lt SL)
 have a1 := hg.cY hS1
 have a2 := hg.cY hE1
 have a3 := LJ.cY hS1
 have a4 := LJ.cY hE1
 have a5 := hw2.cY (Rat.le_of_lt SL)
 have a6 := LJ.cY (Rat.le_of_lt SL)
 have u1 := T.Sh.cY hS2
 have u2 := T.Sh.cY hE2
 have c3 : ¬ cM h q S := fun hh => by
  rcases hh with hh | ⟨_, hh⟩
  ·have := T.Sh.cY hh; omega
  ·omega
 have c4 : cM h q E := .inr ⟨by grind, by omega⟩
 exact K9 A B S1 S2 hg LJ hw2 SL c1 c2 c3 c4 (by omega) (by omega) (by omega)
theorem VS {s n : Nat} {f h : ZX} {p q : Rat × Rat} (T : Two s n f h) (A : nO f (vt (aP f)) p.1 p.2) (B : nO h (vt (aP h)) q.1 q.2) (h1 : p.1 < p.2) (hx : ∀ x, cM f p x ↔ cM h q x) : vt (aP (gz h f)) p.2 < vt (aP (gz h f)) p.1 := by
 rw [uB]
 obtain ⟨w1', S1⟩ := BM (h := h) T.nf T.cf
 have T8 := T.hn
 have n1 := S1.N
 have hTN := T.Nf
 have hg := sqf S1.ng.ne S1.sg (by omega)
 have LJ := sqf S1.nw.ne S1.sw (by omega)
 obtain ⟨B0, hB0, ab1, ab2⟩ := sN p.1 p.2
 obtain ⟨δ, hδ, hno⟩ := aeO LJ T.Sh S1.wh B0
 obtain ⟨a, b, g1, g2, g3, g4, g5, g6⟩ := aeP (U := cM f p) hδ h1 (A.oF (.inr ⟨rfl, h1⟩)) kV
 have o1 := oI A g5 g6 g2
 have o2 := oI B (fun hh => g5 ((hx _).2 hh)) ((hx _).1 g6) g2
 have k1 := S1.cnt T.Sf hg LJ (Rat.le_of_lt g2)
 have a1 := hg.cY g1
 have a2 := hg.cY g3
 rcases hno a b (eP ab1 ab2 g1 (by grind)) (eP ab1 ab2 (by grind) g3) g2 g4 with hh | hh
 ·omega
 ·omega
end Go.Proofs.YtbbjgncblhfegaaGreat
namespace Go.Proofs.YtbbjgncblhfegaaGreat
open Go Pm
open ZX hiding N W
theorem akm {a : ZX} (na : Nf a) (hc : G2 a (bP a)) : sq a = a := by
 obtain ⟨g, hg⟩ := iJ _ a (bP a) (Nat.le_refl _)
 have h0 := hg.ne (.inl na.ne)
 have h1 := hc g hg.l hg.r
 have h2 := ZX.aG.1 h0
 obtain ⟨k, hk, rfl⟩ := nI (show ZX.N g = 1 by omega)
 obtain ⟨c, vC, u, v, e⟩ := hg.uv
 rw [nG] at e
 exact R5 na (Int.mul_ne_zero vC hk) e.symm
abbrev uZ (x : List Int) (c : List ZX) (an ad bn bd : Int) : List PV := [PI x, aJ zq c, aJ aF (aT DD an.natAbs), .bool (decide (an < 0)), aJ aF (aT DD ad.natAbs), .bool (decide (ad < 0)), aJ aF (aT DD bn.natAbs), .bool (decide (bn < 0)), aJ aF (aT DD bd.natAbs), .bool (decide (bd < 0))]
theorem qA {f : ZX} {c : List ZX} {p : Rat × Rat} : QA f c p = .ag (uZ f.l c p.1.num p.1.den p.2.num p.2.den) := rfl
theorem EK {y x g : List Int} {c cg : List ZX} {an ad bn bd σ b : Int} {pt z : Bool} (hl : y.length < 1000000) (hg : g.length < 1000000) (p1 : aI env.P 113 [.ag (uZ x c an ad bn bd)] (.bool pt)) (k1 : pt = true → aI env.P 107 [PI y, R2 an ad] (.int .i64 σ)) (k2 : aI env.P 171 [PI y, PI x] (PI g))
  (k3 : 2 ≤ g.length → aI env.P 57 [PI g] (aJ zq cg)) (k4 : 2 ≤ g.length → aI env.P 59 [aJ zq cg, R2 an ad, R2 bn bd] (.int .i64 b)) (hz : z = if y.length = 0 then true else if pt = true then σ == 0 else if g.length < 2 then false else decide (0 < b)) :
  aI env.P 114 [PI y, .ag (uZ x c an ad bn bd)] (.bool z) := by
 simp only [uZ] at p1 ⊢
 refine aB (E := env) (fun _ => 0) [(0, PI y), (1, .ag [PI x, aJ zq c, aJ aF (aT DD an.natAbs), .bool (decide (an < 0)), aJ aF (aT DD ad.natAbs), .bool (decide (ad < 0)), aJ aF (aT DD bn.natAbs), .bool (decide (bn < 0)), aJ aF (aT DD bd.natAbs), .bool (decide (bd < 0))])] Tryz.func114 rfl (by kernel_rfl) (by kernel_rfl) (show 2 ≤ 31 by decide) (by simp) ?_
 refine W.sr ?_; simp (disch := omega) [gw]; refine W.lx [0, 3] ?_; simp
 refine W.seq ?_
 refine W.sr ?_; simp (disch := omega) [gw]; refine W.lx [0, 3, 8] ?_; simp
 refine W.cond ⟨_, rfl, fun h => ?_, fun h => ?_⟩
 ·have hy : y.length = 0 := by simp at h; simp [h]
  rw [if_pos hy] at hz; subst hz
  refine W.sr ?_; simp (disch := omega) [gw]; refine W.lx [4] ?_; simp
  refine W.ret ?_
  simp [go]
 ·have hy : ¬ y.length = 0 := by simp at h; simp [h]
  rw [if_neg hy] at hz
  refine W.skip ?_
  refine W.seq ?_
  refine W.sr ?_
  simp (disch := omega) [gw]
  refine aA p1 ?_
  simp (disch := omega) [gw]
  refine W.lx [0, 3, 10] ?_; simp
  refine W.cond ⟨_, rfl, fun h => ?_, fun h => ?_⟩
  ·subst h
   rw [if_pos rfl] at hz; subst hz
   have k1' := k1 rfl
   refine W.sr ?_
   simp (disch := omega) [gw]
   refine aA k1' ?_
   simp (disch := omega) [gw]
   refine W.lx [4] ?_; simp
   refine W.ret ?_
   simp [go]
  ·subst h
   rw [if_neg (by decide)] at hz
   refine W.skip ?_
   refine W.sr ?_
   simp (disch := omega) [gw]
   refine aA k2 ?_
   simp (disch := omega) [gw]
   refine W.lx [3, 5] ?_; simp
   refine W.seq ?_
   refine W.sr ?_; simp (disch := omega) [gw]; refine W.lx [3, 5, 22] ?_; simp
   refine W.cond ⟨_, rfl, fun h => ?_, fun h => ?_⟩
   ·have o7 : g.length < 2 := by simp at h; omega
    rw [if_pos o7] at hz; subst hz
    refine W.sr ?_; simp (disch := omega) [gw]; refine W.lx [4] ?_; simp
    refine W.ret ?_
    simp [go]
   ·have o7 : ¬ g.length < 2 := by simp at h; omega
    rw [if_neg o7] at hz
    have k3' := k3 (by omega)
    have k4' := k4 (by omega)
    refine W.skip ?_
    refine W.sd ?_
    simp (disch := omega) [gw]
    refine aA k3' ?_
    simp (disch := omega) [gw]
    refine aA k4' ?_
    simp (disch := omega) [gw]
    refine W.lx [4] ?_; simp
    refine W.ret ?_
    simp [go, hz]
theorem qB (U : Rat → Prop) (t : Rat) : cr U t = -1 ∨ cr U t = 0 ∨ cr U t = 1 := by
 unfold cr
 split
 ·split <;> simp
 ·simp
theorem VT {x y : List Int} {c d : List ZX} {an ad bn bd en ed gn gd r : Int} (hr : r = -1 ∨ r = 0 ∨ r = 1) (p1 : aI env.P 113 [.ag (uZ x c an ad bn bd)] (.bool true)) (k1 : aI env.P 43 [.ag (uZ y d en ed gn gd), R2 an ad] (.int .i64 r)) :
  aI env.P 42 [.ag (uZ x c an ad bn bd), .ag (uZ y d en ed gn gd)] (.int .i64 (-r)) := by
 have hw : IntKind.wrap .i64 (-r) = -r := wrap_i64 (by omega) (by omega)
 simp only [uZ] at p1 k1 ⊢
 refine aB (E := env) (fun _ => 0) [(0, .ag [PI x, aJ zq c, aJ aF (aT DD an.natAbs), .bool (decide (an < 0)), aJ aF (aT DD ad.natAbs), .bool (decide (ad < 0)), aJ aF (aT DD bn.natAbs), .bool (decide (bn < 0)), aJ aF (aT DD bd.natAbs), .bool (decide (bd < 0))]), (1, .ag [PI y, aJ zq d, aJ aF (aT DD en.natAbs), .bool (decide (en < 0)), aJ aF (aT DD ed.natAbs), .bool (decide (ed < 0)), aJ aF (aT DD gn.natAbs), .bool (decide (gn < 0)), aJ aF (aT DD gd.natAbs), .bool (decide (gd < 0))])] Tryz.func42 rfl (by kernel_rfl) (by kernel_rfl) (show 2 ≤ 59 by decide) (by simp) ?_
 refine W.sr ?_; simp (disch := omega) [gw]; refine W.lx [2, 3] ?_; simp
 refine W.seq ?_
 refine W.sr ?_
 simp (disch := omega) [gw]
 refine aA p1 ?_
 simp (disch := omega) [gw]
 refine W.lx [2, 3, 6] ?_; simp
 refine W.cond ⟨_, rfl, fun h => ?_, fun h => ?_⟩
 ·refine W.sr ?_
  simp (disch := omega) [gw]
  refine aA k1 ?_
  simp (disch := omega) [gw, hw]
  refine W.lx [4] ?_; simp
  refine W.ret ?_
  simp [go]
 ·simp at h
theorem VU {x y : List Int} {c d : List ZX} {an ad bn bd en ed gn gd r : Int} (p1 : aI env.P 113 [.ag (uZ x c an ad bn bd)] (.bool false)) (p2 : aI env.P 113 [.ag (uZ y d en ed gn gd)] (.bool true)) (k1 : aI env.P 43 [.ag (uZ x c an ad bn bd), R2 en ed] (.int .i64 r)) :
  aI env.P 42 [.ag (uZ x c an ad bn bd), .ag (uZ y d en ed gn gd)] (.int .i64 r) := by
 simp only [uZ] at p1 p2 k1 ⊢
 refine aB (E := env) (fun _ => 0) [(0, .ag [PI x, aJ zq c, aJ aF (aT DD an.natAbs), .bool (decide (an < 0)), aJ aF (aT DD ad.natAbs), .bool (decide (ad < 0)), aJ aF (aT DD bn.natAbs), .bool (decide (bn < 0)), aJ aF (aT DD bd.natAbs), .bool (decide (bd < 0))]), (1, .ag [PI y, aJ zq d, aJ aF (aT DD en.natAbs), .bool (decide (en < 0)), aJ aF (aT DD ed.natAbs), .bool (decide (ed < 0)), aJ aF (aT DD gn.natAbs), .bool (decide (gn < 0)), aJ aF (aT DD gd.natAbs), .bool (decide (gd < 0))])] Tryz.func42 rfl (by kernel_rfl) (by kernel_rfl) (show 2 ≤ 59 by decide) (by simp) ?_
 refine W.sr ?_; simp (disch := omega) [gw]; refine W.lx [2, 3] ?_; simp
 refine W.seq ?_
 refine W.sr ?_
 simp (disch := omega) [gw]
 refine aA p1 ?_
 simp (disch := omega) [gw]
 refine W.lx [2, 3, 6] ?_; simp
 refine W.cond ⟨_, rfl, fun h => ?_, fun h => ?_⟩
 ·simp at h
 refine W.skip ?_
 refine W.seq ?_
 refine W.sr ?_
 simp (disch := omega) [gw]
 refine aA p2 ?_
 simp (disch := omega) [gw]
 refine W.lx [2, 3, 13] ?_; simp
 refine W.cond ⟨_, rfl, fun h => ?_, fun h => ?_⟩
 ·refine W.sr ?_
  simp (disch := omega) [gw]
  refine aA k1 ?_
  simp (disch := omega) [gw]
  refine W.lx [4] ?_; simp
  refine W.ret ?_
  simp [go]
 ·simp at h
section
variable {s n s' n' u : Nat} {f h : ZX} {p q : Rat × Rat} (I : j3 s n f) (I' : j3 s' n' h) (A : nO f (vt (aP f)) p.1 p.2) (B : nO h (vt (aP h)) q.1 q.2) (p1 : SQ u p.1) (p2 : SQ u p.2) (q1 : SQ u q.1) (q2 : SQ u q.2) (hu : u ≤ 1000000000)
include I I' A B p1 p2 q1 q2 hu
theorem abu (hp : p.1 = p.2 ∨ q.1 = q.2) : aI env.P 42 [QA f (aP f) p, QA h (aP h) q] (.int .i64 (cu (cM f p) (cM h q))) := by
 have e1 := p7 (f := f) (c := aP f) p1 p2 hu
 have e2 := p7 (f := h) (c := aP h) q1 q2 hu
 by_cases h1 : p.1 = p.2
 ·rw [decide_eq_true h1] at e1
  have k1 := I'.vV B q1 q2 p1 hu
  rw [nM (SK h1) (fun _ => Iff.rfl), abt fun s t => B.up]
  rw [bQ] at k1
  exact VT (qB _ _) e1 k1
 ·rw [decide_eq_false h1] at e1
  have h2 : q.1 = q.2 := hp.resolve_left h1
  rw [decide_eq_true h2] at e2
  have k1 := I.vV A p1 p2 q1 hu
  rw [nM (fun _ => Iff.rfl) (SK h2), VP fun s t => A.up]
  rw [bQ] at k1
  exact VU e1 e2 k1
end
theorem LA {u : Nat} {p q : Rat} (hp : SQ u p) (hq : SQ u q) : ∃ D, 1 ≤ D ∧ D ≤ 2 ^ (2 * u) ∧ Gr D (2 ^ u) 0 p ∧ Gr D (2 ^ u) 0 q := by
 have key : ∀ r : Rat, SQ u r → 1 ≤ r.den ∧ r.den ≤ 2 ^ u ∧ Ab r (2 ^ u) ∧ r * ((r.den : Int) : Rat) = (r.num : Rat) := fun r hr => by
  have h1 := r.den_pos
  have h2 := lC (b := 2) (by decide) (r.den : Int)
  have h3 := Nat.pow_le_pow_right (show 0 < 2 by decide) hr.d2
  have h4 := lC (b := 2) (by decide) r.num
  have h5 := Nat.pow_le_pow_right (show 0 < 2 by decide) hr.n2
  have h6 := GZ r
  have h7 : Ab (r.num : Rat) (2 ^ u) := KY (by omega)
  have h8 : (1 : Rat) ≤ ((r.den : Int) : Rat) := eH (by omega)
  refine ⟨h1, by omega, ?_, h6.symm⟩
  rw [h6] at h7
  obtain ⟨g1, g2⟩ := h7
  have hT := gT u
  generalize (2 : Rat) ^ u = T at *
  constructor
  ·refine Rat.not_lt.1 fun hh => ?_
   have := Rat.mul_le_mul_of_nonneg_left h8 (show 0 ≤ -r by grind)
   grind
  ·refine Rat.not_lt.1 fun hh => ?_
   have := Rat.mul_le_mul_of_nonneg_left h8 (show 0 ≤ r by grind)
   grind
 obtain ⟨a1, a2, a3, a4⟩ := key p hp
 obtain ⟨b1, b2, b3, b4⟩ := key q hq
 refine ⟨p.den * q.den, Nat.mul_pos a1 b1, ?_, ⟨⟨p.num * (q.den : Int), ?_⟩, a3⟩, ⟨⟨q.num * (p.den : Int), ?_⟩, b3⟩⟩
 ·rw [Nat.two_mul, Nat.pow_add]; exact Nat.mul_le_mul a2 b2
 ·rw [Nat.pow_zero, Nat.mul_one, Rat.intCast_mul, ← a4, Int.natCast_mul p.den, Rat.intCast_mul]; grind
 ·rw [Nat.pow_zero, Nat.mul_one, Rat.intCast_mul, ← b4, Int.natCast_mul p.den, Rat.intCast_mul]; grind
theorem ag8 {f : ZX} {p : Rat × Rat} {D j : Nat} {B : Rat} (h1 : Gr D B j p.1) (h2 : Gr D B j p.2) (hle : p.1 ≤ p.2) : Gr D B (j + 1) (hv f p).1 ∧ Gr D B (j + 1) (hv f p).2 ∧ ((hv f p).2 - (hv f p).1) * 2 ≤ p.2 - p.1 := by
 have hm := h1.CI h2
 have e : (p.1 + p.2) / 2 * 2 = p.1 + p.2 := Rat.div_mul_cancel (by decide)
 have key : ∀ q : Rat × Rat, Gr D B (j + 1) q.1 → Gr D B (j + 1) q.2 → q.1 ≤ q.2 → (q.2 - q.1) * 2 ≤ p.2 - p.1 → Gr D B (j + 1) (ex f q).1 ∧ Gr D B (j + 1) (ex f q).2 ∧ ((ex f q).2 - (ex f q).1) * 2 ≤ p.2 - p.1 := fun q a1 a2 a3 a4 => by
  unfold ex
  split
  ·exact ⟨a2, a2, by show (q.2 - q.2) * 2 ≤ _; grind⟩
  ·exact ⟨a1, a2, a4⟩
 unfold hv
 split
 ·rename_i hh
  exact ⟨h1.mono (by omega), h2.mono (by omega), by rw [hh]; grind⟩
 ·split
  ·exact key (p.1, (p.1 + p.2) / 2) (h1.mono (by omega)) hm (by show p.1 ≤ _; grind) (by show ((p.1 + p.2) / 2 - p.1) * 2 ≤ _; grind)
  ·exact key ((p.1 + p.2) / 2, p.2) hm (h2.mono (by omega)) (by show _ ≤ p.2; grind) (by show (p.2 - (p.1 + p.2) / 2) * 2 ≤ _; grind)
theorem abv {s n s' n' S N u : Nat} {f fb : ZX} {p q : Rat × Rat} (I : j3 s n f) (I' : j3 s' n' fb) (T : Two S N f fb) (hS : S ≤ 20000) (hG : aI env.P 171 [PI fb.l, PI f.l] (PI (gz fb f).l)) (IG : 2 ≤ ZX.N (gz fb f) → ∃ sg ng, j3 sg ng (gz fb f))
  (A : nO f (vt (aP f)) p.1 p.2) (B : nO fb (vt (aP fb)) q.1 q.2) (p1 : SQ u p.1) (p2 : SQ u p.2) (q1 : SQ u q.1) (q2 : SQ u q.2) (hu : u ≤ 2200000) : aI env.P 42 [QA f (aP f) p, QA fb (aP fb) q] (.int .i64 (cu (cM f p) (cM fb q))) := by
 by_cases hpt : p.1 = p.2 ∨ q.1 = q.2
 ·exact abu I I' A B p1 p2 q1 q2 (by omega) hpt
 obtain ⟨hp, hq⟩ := not_or.1 hpt
 have PQ : p.1 < p.2 := by have := A.le; grind
 have hql : q.1 < q.2 := by have := B.le; grind
 have hTn := T.hn
 have hN1 := T.Nf
 have HG := T.Nh
 have e1 := p7 (f := f) (c := aP f) p1 p2 (by omega)
 have e2 := p7 (f := fb) (c := aP fb) q1 q2 (by omega)
 rw [decide_eq_false hp] at e1
 rw [decide_eq_false hq] at e2
 have ⟨zv, hzv, Z⟩ : ∃ z : Bool, (z = true ↔ vt (aP (gz fb f)) p.2 < vt (aP (gz fb f)) p.1) ∧ aI env.P 114 [PI fb.l, QA f (aP f) p] (.bool z) := by
  have hg0 : gz fb f ≠ 0 := agL (.inr I.nf.ne)
  have hgN : ZX.N (gz fb f) ≤ ZX.N f := (fQ fb f).r.pW I.nf.ne
  have wH : ¬ fb.l.length = 0 := by have := ZX.aG.1 I'.nf.ne; have : ZX.N fb = fb.l.length := rfl; omega
  by_cases h2 : 2 ≤ ZX.N (gz fb f)
  ·obtain ⟨sg, ng, IGG⟩ := IG h2
   have k4 := IGG.uM p1 p2 (by omega)
   rw [if_neg (Rat.not_lt.2 (Rat.le_of_lt PQ)), bQ, bQ] at k4
   refine ⟨_, ?_, EK (by show ZX.N fb < _; omega) (by show ZX.N (gz fb f) < _; omega) e1 (fun hh => by cases hh) hG (fun _ => IGG.O8) (fun _ => k4) (σ := 0) rfl⟩
   rw [if_neg wH, if_neg (by decide), if_neg (by show ¬ ZX.N (gz fb f) < 2; omega), decide_eq_true_eq]
   omega
  ·refine ⟨_, ?_, EK (by show ZX.N fb < _; omega) (by show ZX.N (gz fb f) < _; omega) e1 (fun hh => by cases hh) hG (fun hh => absurd hh h2) (fun hh => absurd hh h2) (σ := 0) (b := 0) (cg := []) rfl⟩
   rw [if_neg wH, if_neg (by decide), if_pos (by show ZX.N (gz fb f) < 2; omega)]
   refine ⟨fun hh => absurd hh (by decide), fun hh => ?_⟩
   exfalso
   have : gz fb f = 1 := (RE (.inr I.nf.ne)).N1 (by omega)
   rw [this] at hh
   have hS1 := sqf ZX.pV (fun d h1 h2 => by have := h1.pW ZX.pV; rwa [ZX.tZ] at this) (by rw [ZX.tZ]; omega)
   have := hS1.const PQ (σ := 1) (.inr (by rw [D7]; decide)) (fun x _ _ => by rw [D7]; decide)
   omega
 have r1 := I.vV A p1 p2 q1 (by omega)
 have r2 := I.vV A p1 p2 q2 (by omega)
 obtain ⟨D, hD1, HF, g1, g2⟩ := LA p1 p2
 obtain ⟨D', aeQ, aeR, g1', g2'⟩ := LA q1 q2
 have hK := ap6 (s := S) (β := u) hTn
 have ap7 : ∀ r : Rat × Rat, Ab r.1 (2 ^ u) → Ab r.2 (2 ^ u) → r.2 - r.1 ≤ 2 ^ (u + 1) := fun r ⟨a1, a2⟩ ⟨a3, a4⟩ => by rw [Rat.pow_succ]; grind
 obtain ⟨J, hJ⟩ : ∃ J, J = kc S N u + u + 2 := ⟨_, rfl⟩
 have hJ2 : u + 1 + 2 * u + J + 1 ≤ 1000000000 := by omega
 have sqA : ∀ (D : Nat), 1 ≤ D → D ≤ 2 ^ (2 * u) → ∀ (j : Nat) (r : Rat), j ≤ J → Gr D (2 ^ u) j r → SQ (u + 1 + 2 * u + J + 1) r := fun D h1 h2 j r hj hr => ((hr.mono hj).sq h1 h2).mono (by omega)
 have sqS : ∀ (D : Nat), 1 ≤ D → D ≤ 2 ^ (2 * u) → ∀ (j : Nat) (r r' : Rat), j ≤ J → Gr D (2 ^ u) j r → Gr D (2 ^ u) j r' → SQ (u + 1 + 2 * u + J + 1) (r + r') := fun D h1 h2 j r r' hj hr jL => (((hr.add jL).mono hj).sq h1 h2)
 by_cases BN : ∀ x, cM f p x ↔ cM fb q x
 ·-- avc are one
  have hz : zv = true := hzv.2 (VS T A B PQ BN)
  subst hz
  have c1 : cr (cM f p) q.1 = 1 := jY.2 fun hh => B.oF (.inr ⟨rfl, hql⟩) ((BN _).1 hh)
  have c2 : cr (cM f p) q.2 ≤ 0 := by
   rcases qB (cM f p) q.2 with hh | hh | hh
   ·omega
   ·omega
   ·exact absurd ((BN _).2 kV) (jY.1 hh)
  rw [c1] at r1
  rw [aeI.2 BN, qA, qA]
  rw [qA] at Z e1 e2 r1 r2
  rw [bQ] at r1 r2
  generalize cr (cM f p) q.2 = r at *
  simp only [uZ] at Z e1 e2 r1 r2 ⊢
  refine aB (E := env) (fun _ => 0) [(0, .ag (uZ f.l (aP f) p.1.num p.1.den p.2.num p.2.den)), (1, .ag (uZ fb.l (aP fb) q.1.num q.1.den q.2.num q.2.den))] Tryz.func42 rfl (by kernel_rfl) (by kernel_rfl) (show 2 ≤ 59 by decide) (by simp) ?_
  refine W.sr ?_
  simp (disch := omega) [gw]
  refine W.lx [2, 3] ?_; simp
  refine W.seq ?_
  refine W.sr ?_
  simp (disch := omega) [gw]
  refine aA e1 ?_
  simp (disch := omega) [gw]
  refine W.lx [2, 3, 6] ?_; simp
  refine W.cond ⟨_, rfl, fun h => ?_, fun h => ?_⟩
  ·simp at h
  refine W.skip ?_
  refine W.seq ?_
  refine W.sr ?_
  simp (disch := omega) [gw]
  refine aA e2 ?_
  simp (disch := omega) [gw]
  refine W.lx [2, 3, 13] ?_; simp
  refine W.cond ⟨_, rfl, fun h => ?_, fun h => ?_⟩
  ·simp at h
  refine W.skip ?_
  refine W.fI (fun σ => False) ?_ (fun _ hh => hh.elim)
  refine W.sr ?_
  simp (disch := omega) [gw]
  refine aA Z ?_
  simp (disch := omega) [gw]
  refine W.lx [2, 3, 21] ?_; simp
  refine W.cond ⟨_, rfl, fun h => ?_, fun h => ?_⟩
  ·refine W.sr ?_
   simp (disch := omega) [gw]
   refine aA r1 ?_
   simp (disch := omega) [gw]
   refine aA r2 ?_
   simp (disch := omega) [gw, c2]
   refine W.lx [2, 3, 33] ?_; simp
   refine W.cond ⟨_, rfl, fun h => ?_, fun h => ?_⟩
   ·refine W.sr ?_; simp (disch := omega) [gw]; refine W.lx [4] ?_; simp
    refine W.ret ?_
    simp [go]
   ·simp at h
  ·simp at h
 ·-- avc are two
  have CU : zv = true → ¬ (0 < cr (cM f p) q.1 ∧ cr (cM f p) q.2 ≤ 0) := fun hz ⟨c1, c2⟩ => BN (VR T A B PQ hql (by
   rcases qB (cM f p) q.1 with hh | hh | hh
   ·omega
   ·omega
   ·exact jY.1 hh) (Classical.byContradiction fun hh => by have := jY.2 hh; omega) (hzv.1 hz))
  have hsw : ¬ ∀ x, gM (vt (aP f)) p.1 p.2 x ↔ gM (vt (aP fb)) q.1 q.2 x := BN
  rw [qA, qA]
  rw [qA] at Z e1 e2 r1 r2
  rw [bQ] at r1 r2
  generalize hv1 : cr (cM f p) q.1 = x1 at *
  generalize hv2 : cr (cM f p) q.2 = x2 at *
  clear hv1 hv2
  simp only [uZ] at Z e1 e2 r1 r2 ⊢
  refine aB (E := env) (fun _ => 0) [(0, .ag (uZ f.l (aP f) p.1.num p.1.den p.2.num p.2.den)), (1, .ag (uZ fb.l (aP fb) q.1.num q.1.den q.2.num q.2.den))] Tryz.func42 rfl (by kernel_rfl) (by kernel_rfl) (show 2 ≤ 59 by decide) (by simp) ?_
  refine W.sr ?_
  simp (disch := omega) [gw]
  refine W.lx [2, 3] ?_; simp
  refine W.seq ?_
  refine W.sr ?_
  simp (disch := omega) [gw]
  refine aA e1 ?_
  simp (disch := omega) [gw]
  refine W.lx [2, 3, 6] ?_; simp
  refine W.cond ⟨_, rfl, fun h => ?_, fun h => ?_⟩
  ·simp at h
  refine W.skip ?_
  refine W.seq ?_
  refine W.sr ?_
  simp (disch := omega) [gw]
  refine aA e2 ?_
  simp (disch := omega) [gw]
  refine W.lx [2, 3, 13] ?_; simp
  refine W.cond ⟨_, rfl, fun h => ?_, fun h => ?_⟩
  ·simp at h
  refine W.skip ?_
  refine W.fI (fun σ => ∃ (v2 v3 : Nat) (rows : Pm.Rows) (clk : Nat), σ = ⟨fa [(2, .ptr 2 v2 0 0), (3, .ptr 3 v3 0 0)], rows, clk⟩ ∧ rows 2 = some ⟨v2, 68, 10, [uZ f.l (aP f) p.1.num p.1.den p.2.num p.2.den]⟩ ∧ rows 3 = some ⟨v3, 68, 10, [uZ fb.l (aP fb) q.1.num q.1.den q.2.num q.2.den]⟩) ?_ ?_
  ·refine W.sr ?_
   simp (disch := omega) [gw]
   refine aA Z ?_
   simp (disch := omega) [gw]
   refine W.lx [2, 3, 21] ?_; simp
   refine W.cond ⟨_, rfl, fun h => ?_, fun h => ?_⟩
   ·have hc := CU h
    by_cases hx1 : 0 < x1
    ·have hx2 : ¬ x2 ≤ 0 := fun hh => hc ⟨hx1, hh⟩
     refine W.sr ?_
     simp (disch := omega) [gw]
     refine aA r1 ?_
     simp (disch := omega) [gw, hx1]
     refine aA r2 ?_
     simp (disch := omega) [gw, hx2]
     refine W.lx [2, 3, 33] ?_; simp
     refine W.cond ⟨_, rfl, fun h => ?_, fun h => ?_⟩
     ·simp at h
     ·refine W.skip ?_
      exact ⟨_, aC _ [2, 3], _, _, _, _, rfl, by simp, by simp⟩
    ·refine W.sr ?_
     simp (disch := omega) [gw]
     refine aA r1 ?_
     simp (disch := omega) [gw, hx1]
     refine W.lx [2, 3, 33] ?_; simp
     refine W.cond ⟨_, rfl, fun h => ?_, fun h => ?_⟩
     ·simp at h
     ·refine W.skip ?_
      exact ⟨_, aC _ [2, 3], _, _, _, _, rfl, by simp, by simp⟩
   ·refine W.skip ?_
    exact ⟨_, aC _ [2, 3], _, _, _, _, rfl, by simp, by simp⟩
  rintro _ ⟨v2, v3, rows, clk, rfl, cO, gD⟩
  clear Z e1 e2 r1 r2
  refine W.block ?_
  refine W.bE (fun k σ => ∃ (a b : Rat × Rat) (j v2 v3 : Nat) (rows : Pm.Rows) (clk : Nat), σ = ⟨fa [(2, .ptr 2 v2 0 0), (3, .ptr 3 v3 0 0)], rows, clk⟩ ∧ rows 2 = some ⟨v2, 68, 10, [uZ f.l (aP f) a.1.num a.1.den a.2.num a.2.den]⟩ ∧ rows 3 = some ⟨v3, 68, 10, [uZ fb.l (aP fb) b.1.num b.1.den b.2.num b.2.den]⟩ ∧
   nO f (vt (aP f)) a.1 a.2 ∧ nO fb (vt (aP fb)) b.1 b.2 ∧ (∀ x, cM f a x ↔ cM f p x) ∧ (∀ x, cM fb b x ↔ cM fb q x) ∧ Gr D (2 ^ u) j a.1 ∧ Gr D (2 ^ u) j a.2 ∧ Gr D' (2 ^ u) j b.1 ∧ Gr D' (2 ^ u) j b.2 ∧ (a.2 - a.1) * 2 ^ j ≤ 2 ^ (u + 1) ∧ (b.2 - b.1) * 2 ^ j ≤ 2 ^ (u + 1) ∧ j + k = J) J ?_ ?_
  ·exact ⟨_, .refl, p, q, 0, _, _, _, _, rfl, cO, gD, A, B, fun _ => Iff.rfl, fun _ => Iff.rfl, g1, g2, g1', g2', by rw [Rat.pow_zero, Rat.mul_one]; exact ap7 p g1.b g2.b, by rw [Rat.pow_zero, Rat.mul_one]; exact ap7 q g1'.b g2'.b, by omega⟩
  rintro k _ ⟨a, b, j, v2, v3, rows, clk, rfl, cO, gD, HA, HB, ha, hb, ga1, ga2, gb1, gb2, wa, wb, hjk⟩
  have s1 := sqA D hD1 HF j a.1 (by omega) ga1
  have s2 := sqA D hD1 HF j a.2 (by omega) ga2
  have s3 := sqA D' aeQ aeR j b.1 (by omega) gb1
  have s4 := sqA D' aeQ aeR j b.2 (by omega) gb2
  have e1 := p7 (f := f) (c := aP f) s1 s2 hJ2
  have e2 := p7 (f := fb) (c := aP fb) s3 s4 hJ2
  rw [qA] at e1 e2
  simp only [uZ] at e1 e2 cO gD
  refine W.block ?_
  refine W.seq ?_
  by_cases hpt : a.1 = a.2 ∨ b.1 = b.2
  ·have C := abu I I' HA HB s1 s2 s3 s4 hJ2 hpt
   rw [nM ha hb, qA, qA] at C
   simp only [uZ] at C
   by_cases h1 : a.1 = a.2
   ·rw [decide_eq_true h1] at e1
    refine W.sr ?_
    simp (disch := omega) [gw, cO]
    refine aA e1 ?_
    simp (disch := omega) [gw]
    refine W.lx [2, 3, 39] ?_; simp
    refine W.cond ⟨_, rfl, fun h => ?_, fun h => ?_⟩
    ·refine W.sr ?_
     simp (disch := omega) [gw, cO, gD]
     refine aA C ?_
     simp (disch := omega) [gw]
     refine W.lx [4] ?_; simp
     refine W.ret ?_
     simp [go]
    ·simp at h
   ·rw [decide_eq_false h1] at e1
    rw [decide_eq_true (hpt.resolve_left h1)] at e2
    refine W.sr ?_
    simp (disch := omega) [gw, cO, gD]
    refine aA e1 ?_
    simp (disch := omega) [gw, cO, gD]
    refine aA e2 ?_
    simp (disch := omega) [gw]
    refine W.lx [2, 3, 39] ?_; simp
    refine W.cond ⟨_, rfl, fun h => ?_, fun h => ?_⟩
    ·refine W.sr ?_
     simp (disch := omega) [gw, cO, gD]
     refine aA C ?_
     simp (disch := omega) [gw]
     refine W.lx [4] ?_; simp
     refine W.ret ?_
     simp [go]
    ·simp at h
  ·obtain ⟨h1, h2⟩ := not_or.1 hpt
   rw [decide_eq_false h1] at e1
   rw [decide_eq_false h2] at e2
   have hal : a.1 < a.2 := by have := HA.le; grind
   have V0 : b.1 < b.2 := by have := HB.le; grind
   have m1 := gG a.2 b.1 (s2.yy hJ2) (s3.yy hJ2)
   have m2 := gG b.2 a.1 (s4.yy hJ2) (s1.yy hJ2)
   rw [bQ, bQ] at m1 m2
   refine W.sr ?_
   simp (disch := omega) [gw, cO, gD]
   refine aA e1 ?_
   simp (disch := omega) [gw, cO, gD]
   refine aA e2 ?_
   simp (disch := omega) [gw]
   refine W.lx [2, 3, 39] ?_; simp
   refine W.cond ⟨_, rfl, fun h => ?_, fun h => ?_⟩
   ·simp at h
   refine W.skip ?_
   refine W.seq ?_
   refine W.sr ?_
   simp (disch := omega) [gw, cO, gD]
   refine aA m1 ?_
   simp (disch := omega) [gw]
   refine W.lx [2, 3, 48] ?_; simp
   refine W.cond ⟨_, rfl, fun h => ?_, fun h => ?_⟩
   ·simp at h
    rw [p8] at h
    have hcu : cu (cM f p) (cM fb q) = -1 := by rw [← nM ha hb]; exact ap4 HB h V0
    rw [hcu]
    refine W.sr ?_; simp (disch := omega) [gw]; refine W.lx [4] ?_; simp
    refine W.ret ?_
    simp [go]
   ·simp at h
    rw [← Int.not_le, p8] at h
    have fU := Rat.not_le.1 h
    refine W.skip ?_
    refine W.seq ?_
    refine W.sr ?_
    simp (disch := omega) [gw, cO, gD]
    refine aA m2 ?_
    simp (disch := omega) [gw]
    refine W.lx [2, 3, 54] ?_; simp
    refine W.cond ⟨_, rfl, fun h => ?_, fun h => ?_⟩
    ·simp at h
     rw [p8] at h
     have hcu : cu (cM f p) (cM fb q) = 1 := by rw [← nM ha hb]; exact ap5 HA HB h hal
     rw [hcu]
     refine W.sr ?_; simp (disch := omega) [gw]; refine W.lx [4] ?_; simp
     refine W.ret ?_
     simp [go]
    ·simp at h
     rw [← Int.not_le, p8] at h
     have hba := Rat.not_le.1 h
     have hk : k ≠ 0 := fun uV => by
      have hjJ : j = J := by omega
      refine BN fun x => ?_
      have hP := gT j
      have hW : ∀ w : Rat, w * 2 ^ j ≤ 2 ^ (u + 1) → w ≤ 2 ^ (u + 1) / 2 ^ j := fun w hw => Rat.not_lt.1 fun dI => by
       have e0 : (2 : Rat) ^ (u + 1) / 2 ^ j * 2 ^ j = 2 ^ (u + 1) := Rat.div_mul_cancel (Rat.ne_of_gt hP)
       have := Rat.mul_lt_mul_of_pos_right dI hP
       grind
      have := VQ (W := 2 ^ (u + 1) / 2 ^ j) T HA HB hal V0 hba fU ga1.b ga2.b gb1.b gb2.b (hW _ wa) (hW _ wb) (by
       have e0 : (2 : Rat) ^ (u + 1) / 2 ^ j * 2 ^ j = 2 ^ (u + 1) := Rat.div_mul_cancel (Rat.ne_of_gt hP)
       have e3 : (2 : Rat) ^ j = 2 ^ kc S N u * 2 ^ (u + 2) := by rw [← kM, hjJ, hJ]; congr 1
       have e4 : (2 : Rat) ^ (u + 2) = 2 ^ (u + 1) * 2 := by rw [← Rat.pow_succ]
       have hQ := gT (kc S N u)
       have hR := gT (u + 1)
       rw [e4] at e3
       generalize (2 : Rat) ^ (u + 1) / 2 ^ j = W at *
       rw [e3] at e0
       generalize (2 : Rat) ^ kc S N u = κ at *
       generalize (2 : Rat) ^ (u + 1) = R at *
       have e5 : R * (2 * W * κ) = R * 1 := by grind
       have e6 := Rat.le_of_mul_le_mul_left (show R * (2 * W * κ) ≤ R * 1 by rw [e5]; exact Rat.le_refl) hR
       exact e6) x
      exact (ha x).symm.trans (this.trans (hb x))
     obtain ⟨k', rfl⟩ : ∃ k', k = k' + 1 := ⟨k - 1, by omega⟩
     have ma := ga1.CI ga2
     have mb := gb1.CI gb2
     have H1 := I.ag4 (u := u + 1 + 2 * u + J + 1) (Rat.le_of_lt hal) s1 s2 (sqA D hD1 HF (j + 1) _ (by omega) ma) (sqS D hD1 HF j _ _ (by omega) ga1 ga2) hJ2
     have H2 := I'.ag4 (u := u + 1 + 2 * u + J + 1) (Rat.le_of_lt V0) s3 s4 (sqA D' aeQ aeR (j + 1) _ (by omega) mb) (sqS D' aeQ aeR j _ _ (by omega) gb1 gb2) hJ2
     obtain ⟨ha1, ha2⟩ := SI HA
     obtain ⟨EZ, wK⟩ := SI HB
     obtain ⟨ga3, ga4, wa'⟩ := ag8 (f := f) ga1 ga2 (Rat.le_of_lt hal)
     obtain ⟨gb3, gb4, wb'⟩ := ag8 (f := fb) gb1 gb2 (Rat.le_of_lt V0)
     rw [qA, qA] at H1 H2
     simp only [uZ] at H1 H2
     have hwd : ∀ w w' : Rat, w * 2 ^ j ≤ 2 ^ (u + 1) → w' * 2 ≤ w → w' * 2 ^ (j + 1) ≤ 2 ^ (u + 1) := fun w w' g1 g2 => by
      have hP := gT j
      have g3 := Rat.mul_le_mul_of_nonneg_right g2 (Rat.le_of_lt hP)
      rw [Rat.pow_succ]
      grind
     have wa2 := hwd _ _ wa wa'
     have wb2 := hwd _ _ wb wb'
     have ha3 : ∀ x, cM f (hv f a) x ↔ cM f p x := fun x => (ha2 x).trans (ha x)
     have hb3 : ∀ x, cM fb (hv fb b) x ↔ cM fb q x := fun x => (wK x).trans (hb x)
     generalize hv f a = a' at *
     generalize hv fb b = b' at *
     refine W.skip ?_
     refine W.M9 (fun K hK => ?_)
     simp (disch := omega) [gw, cO, gD]
     refine aA H1 ?_
     simp (disch := omega) [gw, cO, gD]
     refine aA H2 ?_
     (try (refine cA (of_decide_eq_true (by kernel_rfl)) ?_)); (try simp (maxSteps := 4000000) (disch := omega) [gw, cO, gD, eV]); (repeat rw [if_pos (by kernel_rfl)]); (try simp (maxSteps := 4000000) (disch := omega) [gw, cO, gD, eV])
     (try (refine cA (of_decide_eq_true (by kernel_rfl)) ?_)); (try simp (maxSteps := 4000000) (disch := omega) [gw, cO, gD, eV]); (repeat rw [if_pos (by kernel_rfl)]); (try simp (maxSteps := 4000000) (disch := omega) [gw, cO, gD, eV])
     (try (refine cA (of_decide_eq_true (by kernel_rfl)) ?_)); (try simp (maxSteps := 4000000) (disch := omega) [gw, cO, gD, eV]); (repeat rw [if_pos (by kernel_rfl)]); (try simp (maxSteps := 4000000) (disch := omega) [gw, cO, gD, eV])
     refine hK _ ⟨k', _, aC _ [2, 3], by omega, a', b', j + 1, _, _, _, _, rfl, by simp, by simp, ha1, EZ, ha3, hb3, ga3, ga4, gb3, gb4, wa2, wb2, by omega⟩
theorem aeT {f : ZX} (nf : Nf f) : gz f f = f := by
 have h : oT f f f := ⟨dv.refl f, dv.refl f, ⟨1, by decide, 1, 0, by show (1 : ZX) * f = _; grind⟩⟩
 rw [KA h, nf.nfe]
namespace j3
variable {s n : Nat} {f : ZX} (I : j3 s n f)
include I
theorem two : Two s n f f := ⟨I.nf, I.nf, I.cop, I.cop, I.szf, I.szf, I.ch.bz.N, I.ch.bz.N, I.ch.hn, I.lay.hs⟩
theorem aeU : aI env.P 171 [PI f.l, PI f.l] (PI (gz f f).l) := by
 have hC := I.lay.hC
 have hn := I.ch.hn
 have hq : s + n + 1 ≤ qb s n := by
  unfold qb
  have := I.xE
  have : 1 * (2 * s + 5) ≤ n * (2 * s + 5) := Nat.mul_le_mul_right _ I.xE
  have hh := I.lay.hs
  have h2 : n < 2 ^ s := by omega
  have h3 : n ≤ n * (2 * s + 5) := Nat.le_mul_of_pos_right _ (by omega)
  have h4 : n * (2 * s + 5) = n * (2 * s) + n * 5 := Nat.mul_add _ _ _
  omega
 refine D6 (C := 4500000000) I.ch.bz I.ch.bz ?_ hn (by decide) I.s1
 rw [I.nf.nfe]
 unfold vH
 rw [if_neg (by omega)]
 have h4 : (4 : Nat) ^ ZX.N f ≤ 4 ^ n := Nat.pow_le_pow_right (by decide) I.ch.bz.N
 refine Nat.le_trans (Nat.mul_le_mul (show (s + n + 1) * 2 ≤ qb s n + n + 6 by unfold qb at *; have := I.lay.hs; have h5 : 1 * (2 * s + 5) ≤ n * (2 * s + 5) := Nat.mul_le_mul_right _ I.xE; have h3 : n * 5 ≤ n * (2 * s + 5) := Nat.mul_le_mul_left _ (by omega); omega) h4) hC
theorem cmp (hs : s ≤ 20000) {u : Nat} {p q : Rat × Rat} (A : nO f (vt (aP f)) p.1 p.2) (B : nO f (vt (aP f)) q.1 q.2) (p1 : SQ u p.1) (p2 : SQ u p.2) (q1 : SQ u q.1) (q2 : SQ u q.2) (hu : u ≤ 2200000) : aI env.P 42 [QA f (aP f) p, QA f (aP f) q] (.int .i64 (cu (cM f p) (cM f q))) :=
 abv I I I.two hs I.aeU (fun _ => ⟨s, n, by rw [aeT I.nf]; exact I⟩) A B p1 p2 q1 q2 hu
end j3
theorem abw {s n : Nat} {a : ZX} (h : vI s n a) (h0 : a ≠ 0) (xE : 1 ≤ n) (hC : (qb (qb s n) n + n + 6) * 4 ^ n ≤ 4500000000) (hs : qb s n ≤ 5000000) : j3 (qb s n) n (sq a) := by
 have h1 := (RX h0).1
 refine ⟨⟨h.sqb h0, h.hn, ?_, hC⟩, xE, h1, akm h1 fun d d1 d2 => ?_, hs⟩
 ·exact Nat.le_trans h.hs (Nat.pow_le_pow_right (by decide) (by unfold qb; omega))
 ·have h3 := (fQ (sq a) (bP (sq a))).least d1 d2
  rw [agY h0] at h3
  have := h3.pW ZX.pV
  rwa [ZX.tZ] at this
theorem BO {f : ZX} {c : List ZX} {l m : List (Rat × Rat)} (hl : l.length = m.length) (ZE : l.length < 1000000) (hv : ∀ i, i < l.length → aI env.P 38 [GA f (nth l i)] (.bool true) ∧ aI env.P 41 [GA f (nth l i)] (QA f c (ex f (nth l i))) ∧ aI env.P 42 [QA f c (ex f (nth l i)), QA f c (nth m i)] (.int .i64 0)) :
  aI env.P 23 [aJ (ga f) l, aJ (qa f c) m] (.bool true) := by
 refine aB (E := env) (fun _ => 0) [(0, aJ (ga f) l), (1, aJ (qa f c) m)] Tryz.func23 rfl (by kernel_rfl) (by kernel_rfl) (show 2 ≤ 36 by decide) (by simp) ?_
 refine W.sr ?_; simp (disch := omega) [gw]; refine W.lx [0, 1] ?_; simp
 refine W.seq ?_
 have e1 : ((l.length : Int) != (m.length : Int)) = false := by rw [hl]; simp
 refine W.sr ?_
 simp (disch := omega) [gw, e1]
 refine W.lx [0, 1, 10] ?_; simp
 refine W.cond ⟨_, rfl, fun h => ?_, fun h => ?_⟩
 ·simp at h
 refine W.skip ?_
 refine W.seq ?_
 refine W.sr ?_; simp (disch := omega) [gw]; refine W.lx [0, 1, 12, 13] ?_; simp
 refine W.block ?_
 refine W.bE (fun k σ => ∃ (i : Nat) (rows : Pm.Rows) (clk : Nat), σ = ⟨fa [(0, aJ (ga f) l), (1, aJ (qa f c) m), (12, .int .i64 l.length), (13, .int .i64 i)], rows, clk⟩ ∧ i + k = l.length) l.length ?_ ?_
 ·exact ⟨_, .refl, 0, _, _, rfl, by omega⟩
 rintro k _ ⟨i, rows, clk, rfl, LN⟩
 refine W.sr ?_; simp (disch := omega) [gw]; refine W.lx [0, 1, 12, 13, 14] ?_; simp
 refine W.seq ?_
 refine W.cond ⟨_, rfl, fun h => ?_, fun h => ?_⟩
 ·have hi : i < l.length := by simp at h; omega
  have G7 : i < m.length := by omega
  obtain ⟨v1, v2, v3⟩ := hv i hi
  simp only [GA, QA, qa, ga, List.cons_append, List.nil_append] at v1 v2 v3
  refine W.skip ?_
  refine W.seq ?_
  refine W.block ?_
  refine W.sr ?_; simp (disch := omega) [gw]; refine W.lx [0, 1, 5, 12, 13] ?_; simp
  refine W.sd ?_
  simp (disch := omega) [gw, hi, G7]
  refine aA v1 ?_
  simp (disch := omega) [gw, hi, G7]
  refine aA v2 ?_
  simp (disch := omega) [gw, hi, G7]
  refine aA v3 ?_
  simp (disch := omega) [gw, hi, G7]
  refine W.lx [0, 1, 12, 13, 34] ?_; simp
  refine W.cond ⟨_, rfl, fun h => ?_, fun h => ?_⟩
  ·simp at h
  ·refine W.skip ?_
   refine W.cB (fun K hK => ?_); simp (disch := omega) [gw]
   refine hK _ ⟨k - 1, _, aC _ [0, 1, 12, 13], by omega, i + 1, _, _, rfl, by omega⟩
 ·refine W.exit ?_; simp only [pX, if_true, if_false, reduceIte, Nat.reduceEqDiff]
  refine W.sr ?_; simp (disch := omega) [gw]; refine W.lx [4] ?_; simp
  refine W.ret ?_
  simp [go]
theorem j3.right {s n : Nat} {f : ZX} (I : j3 s n f) (hs : s ≤ 20000) (hN : 2 ≤ ZX.N f) {l m : List (Rat × Rat)} (hl : l.length = m.length) {u : Nat} (hu : u ≤ 2200000) (h1 : ∀ p ∈ l, nO f (vt (aP f)) p.1 p.2 ∧ SQ u p.1 ∧ SQ u p.2) (h2 : ∀ p ∈ m, nO f (vt (aP f)) p.1 p.2 ∧ SQ u p.1 ∧ SQ u p.2)
  (h3 : ∀ i, i < l.length → ∀ t, cM f (nth l i) t ↔ cM f (nth m i) t) (ZE : l.length < 1000000) : aI env.P 23 [aJ (ga f) l, aJ (qa f (aP f)) m] (.bool true) := by
 refine BO hl ZE fun i hi => ?_
 obtain ⟨a1, a2, a3⟩ := h1 _ (bM hi)
 obtain ⟨b1, b2, b3⟩ := h2 _ (bM (show i < m.length by omega))
 obtain ⟨c1, c2⟩ := uN a1
 have c3 : SQ u (ex f (nth l i)).1 ∧ SQ u (ex f (nth l i)).2 := by
  unfold ex; split
  ·exact ⟨a3, a3⟩
  ·exact ⟨a2, a3⟩
 refine ⟨I.valid a1 hN a2 a3 (by omega), I.ap3 a2 a3 (by omega), ?_⟩
 have := I.cmp hs c1 b1 c3.1 c3.2 b2 b3 hu
 rwa [nM (fun t => (c2 t).trans (h3 i hi t)) (fun _ => Iff.rfl), aeH] at this
theorem sX {α β : Type} [Inhabited α] [Inhabited β] {g : α → β} {l : List α} {i : Nat} (h : i < l.length) : nth (l.map g) i = g (nth l i) := by
 rw [cE (by simpa using h), cE h, List.getElem_map]
theorem j3.PA {s n : Nat} {f : ZX} (I : j3 s n f) (hs : s ≤ 20000) (hN : 2 ≤ ZX.N f) : aI env.P 23 [aJ (ga f) (kX s n f), aJ (qa f (aP f)) ((kX s n f).map (ex f))] (.bool true) := by
 have V := I.ivs
 have hA : ∀ p ∈ kX s n f, nO f (vt (aP f)) p.1 p.2 ∧ SQ (uu s) p.1 ∧ SQ (uu s) p.2 := fun p hp => by
  obtain ⟨a1, a2, a3, a4, a5, a6⟩ := V.mem p hp
  exact ⟨⟨I.S, .inr ⟨a4, a6⟩⟩, a1, a2⟩
 refine I.right hs hN (by simp) (u := uu s) (by unfold uu; omega) hA (fun p hp => ?_) (fun i hi t => ?_) (by have := yO I; omega)
 ·obtain ⟨p0, WM, rfl⟩ := List.mem_map.1 hp
  obtain ⟨a1, a2, a3⟩ := hA p0 WM
  refine ⟨(uN a1).1, ?_, ?_⟩ <;> (unfold ex; split <;> assumption)
 ·rw [sX hi]
  exact ((uN (hA _ (bM hi)).1).2 t).symm
theorem VV {s n : Nat} {f : ZX} (I : j3 s n f) (hN : ZX.N f ≤ 1) : kX s n f = [] := by
 have V := I.ivs.len
 have h1 : f = 1 := I.nf.N1 hN
 have h2 := I.S.const I.K5 (σ := 1) (.inr (by rw [h1, D7]; decide)) (fun x _ _ => by rw [h1, D7]; decide)
 rw [h2, Nat.sub_self] at V
 exact List.eq_nil_of_length_eq_zero V
theorem vW {f : ZX} {c : List ZX} : aI env.P 23 [aJ (ga f) [], aJ (qa f c) []] (.bool true) := BO rfl (by simp) fun i hi => absurd hi (by simp)
theorem j3.LB {s n : Nat} {f : ZX} (I : j3 s n f) (hs : s ≤ 20000) : aI env.P 23 [aJ (ga f) (kX s n f), aJ (qa f (aP f)) ((kX s n f).map (ex f))] (.bool true) := by
 by_cases hN : 2 ≤ ZX.N f
 ·exact I.PA hs hN
 ·rw [VV I (by omega)]
  exact vW
end Go.Proofs.YtbbjgncblhfegaaGreat
namespace Go.Proofs.YtbbjgncblhfegaaGreat
open Go Pm
open ZX hiding N W
abbrev G9 (x : List Int) (an ad bn bd : Int) : List PV := [Po x, .bool (decide (an < 0)), us (aT LL an.natAbs), .bool (decide (ad < 0)), us (aT LL ad.natAbs), .bool (decide (bn < 0)), us (aT LL bn.natAbs), .bool (decide (bd < 0)), us (aT LL bd.natAbs)]
theorem aqc {f : ZX} {p : Rat × Rat} : GA f p = .ag (G9 f.l p.1.num p.1.den p.2.num p.2.den) := rfl
section
variable {x d : List Int} {c : List ZX} {an ad bn bd z b σ : Int} {cop : Bool} (hx : x.length < 1000000) (f1 : aI env.P 101 [Po x] (Po x)) (f2 : aI env.P 102 [Po x] (.int .i64 ((x.length : Int) - 1))) (f3 : aI env.P 104 [Po x] (Po d)) (f4 : aI env.P 103 [Po x, Po d] (.bool cop))
  (k3 : aI env.P 105 [T2 an ad, T2 bn bd] (.int .i64 z)) (k4 : aI env.P 82 [Po x] (.dP [CH c, .int .i64 0])) (k5 : aI env.P 106 [CH c, T2 an ad, T2 bn bd] (.int .i64 b)) (k6 : aI env.P 62 [Po x, T2 an ad] (.int .i64 σ))
include hx f1 f2
include f3 f4
include k3 k4 k5 k6
theorem PC (h2 : 2 ≤ x.length) (hc : cop = true) (hz : z = -1 ∨ z = 0 ∨ z = 1) {r : Bool} (hr : r = if z = 1 then false else if z = 0 then σ == 0 else b == 1) : aI env.P 37 [.ag (G9 x an ad bn bd)] (.bool r) := by
 subst hc
 simp only [G9]
 refine aB (E := env) (fun _ => 0) [(0, .ag (G9 x an ad bn bd))] Tryz.func37 rfl (by kernel_rfl) (by kernel_rfl) (show 1 ≤ 45 by decide) (by simp) ?_
 refine W.sr ?_
 simp (disch := omega) [gw]
 refine W.lx [1] ?_; simp
 refine W.sr ?_
 simp (disch := omega) [gw]
 refine aA f1 ?_
 simp (disch := omega) [gw]
 refine W.lx [1, 3] ?_; simp
 refine W.seq ?_
 have e1 : ((x.length : Int) - 1 < 1) = False := eq_false (by omega)
 refine W.sr ?_
 simp (disch := omega) [gw]
 refine aA f2 ?_
 simp (disch := omega) [gw, e1]
 refine aA f3 ?_
 simp (disch := omega) [gw]
 refine aA f4 ?_
 simp (disch := omega) [gw]
 refine W.lx [1, 3, 18] ?_; simp
 refine W.cond ⟨_, rfl, fun h => ?_, fun h => ?_⟩
 ·simp at h
 refine W.skip ?_
 refine W.seq ?_
 refine W.sr ?_
 simp (disch := omega) [gw]
 refine aA k3 ?_
 simp (disch := omega) [gw]
 refine W.lx [1, 3, 23] ?_; simp
 refine W.block ?_
 refine W.sr ?_; simp (disch := omega) [gw]; refine W.lx [1, 3, 23, 24] ?_; simp
 refine W.cond ⟨_, rfl, fun h => ?_, fun h => ?_⟩
 ·simp at h
  rw [if_pos h] at hr; subst hr
  refine W.sr ?_; simp (disch := omega) [gw]; refine W.lx [2] ?_; simp
  refine W.ret ?_
  simp [go]
 ·simp at h
  rw [if_neg h] at hr
  refine W.sr ?_; simp (disch := omega) [gw]; refine W.lx [1, 3, 26] ?_; simp
  refine W.cond ⟨_, rfl, fun h => ?_, fun h => ?_⟩
  ·simp at h
   rw [if_pos h] at hr; subst hr
   refine W.sr ?_
   simp (disch := omega) [gw]
   refine aA k6 ?_
   simp (disch := omega) [gw]
   refine W.lx [2] ?_; simp
   refine W.ret ?_
   simp [go]
  ·simp at h
   rw [if_neg h] at hr; subst hr
   refine W.skip ?_
   refine W.sr ?_
   simp (disch := omega) [gw]
   refine aA k4 ?_
   simp (disch := omega) [gw]
   refine W.lx [1, 4] ?_; simp
   refine W.sr ?_
   simp (disch := omega) [gw]
   refine aA k5 ?_
   simp (disch := omega) [gw]
   refine W.lx [2] ?_; simp
   refine W.ret ?_
   simp [go]
end
theorem abx (x y : Int) : dD x y = -1 ∨ dD x y = 0 ∨ dD x y = 1 := by
 unfold dD
 split
 ·simp
 ·split <;> simp
theorem j3.akn {s n : Nat} {f : ZX} (I : j3 s n f) {u : Nat} {p : Rat × Rat} (A : nO f (vt (aP f)) p.1 p.2) (hN : 2 ≤ ZX.N f) (q1 : SQ u p.1) (q2 : SQ u p.2) (hu : u ≤ 1000000000) : aI env.P 37 [GA f p] (.bool true) := by
 have hs := I.hs
 have hn := I.ch.hn
 have hN' := I.ch.bz.N
 have N1 := gE (x := f.l) (I.ch.bz.pb (by omega) (by omega))
 rw [f.c] at N1
 have F2 := kA f.l (by show ZX.N f < _; omega)
 have F3 := sI I.ch.bz (by omega) (by omega)
 have bd : BZ (s + 5) n (bP f) := I.ch.bz.bP (by omega)
 have hC := I.lay.hC
 have F4 := KG (C := 4500000000) (I.ch.bz.mono (show s ≤ s + 5 by omega) (Nat.le_refl _)) bd (by
  have h1 : ZX.N (Go.Proofs.YtbbjgncblhfegaaGreat.nf (bP f)) ≤ ZX.N (Go.Proofs.YtbbjgncblhfegaaGreat.nf f) - 1 := by rw [I.nf.nfe, xT]; exact nJ f
  have h2 := ZX.aG.1 I.nf.ne
  unfold vH
  rw [I.nf.nfe] at h1 ⊢
  rw [if_pos (by omega)]
  have h4 : (4 : Nat) ^ ZX.N f ≤ 4 ^ n := Nat.pow_le_pow_right (by decide) hN'
  exact Nat.le_trans (Nat.mul_le_mul (by unfold qb; omega) h4) hC) hn (by decide)
 rw [I.gz1, ZX.tZ] at F4
 have k3 := ED q1.nL q1.dL q2.nL q2.dL (by omega) (fL p.1) (fL p.2) ⟨q1.nL, q1.dL⟩ ⟨q2.nL, q2.dL⟩
 have k4 := qZ I.SH I.ch I.nf
 have k5 := G3 I.hb hn I.hl q1 q2 hu
 have hmul : n * (u + 1) ≤ 20 * (u + 1) := Nat.mul_le_mul_right _ hn
 have k6 := EE (LO I.ch.bz) f.c q1.nL q1.dL q1.hu (by omega) (by omega) (by omega) (fL p.1) ⟨q1.nL, q1.dL⟩
 rw [yJ] at k6
 rw [aqc]
 refine PC (by show ZX.N f < _; omega) N1 F2 F3 F4 k3 k4 k5 k6 hN (by decide) (abx _ _) ?_
 rw [if_neg (fun h => by have := k7.1 (show 0 < dD (p.1.num * p.2.den) (p.2.num * p.1.den) by omega); have := A.le; grind)]
 rcases A.k with ⟨h1, h2⟩ | ⟨h1, h2⟩
 ·rw [if_pos (kF.2 h1), h2, kD]; rfl
 ·rw [if_neg (fun h => by rw [kF] at h; grind), if_neg (by grind)]
  have : (vt (aP f) p.1 : Int) - vt (aP f) p.2 = 1 := by omega
  rw [this]; rfl
theorem ako : j3 3 3 a8 := ⟨⟨aa2 (by decide) (by decide), by decide, by decide, by decide⟩, by decide, ⟨ZX.aG.2 (by decide), by decide, by decide⟩, apR, by decide⟩
theorem PE : aI env.P 30 [] (.bool true) := by
 have o1 : aI env.P 46 [.sl [[.int .i64 (-2)], [.int .i64 0], [.int .i64 1]]] (Po [-2, 0, 1]) := adP [-2, 0, 1] (by decide) (by decide)
 have I := ako
 have R1 := BK I.SH I
 rw [show a8.l = [-2, 0, 1] from rfl] at R1
 have V := I.ivs
 have hlen : (kX 3 3 a8).length = 2 := by
  have h1 := V.len
  have h2 := I.count
  obtain ⟨f1, f2, _, _⟩ := aa9
  rw [f1, f2] at h2
  omega
 have hm := V.mem _ (bM (show 0 < (kX 3 3 a8).length by omega))
 have v1 := I.akn ⟨I.S, .inr ⟨hm.2.2.2.1, hm.2.2.2.2.2⟩⟩ (by decide) hm.1 hm.2.1 (by decide)
 simp only [GA, ga, List.cons_append, List.nil_append] at v1
 generalize kX 3 3 a8 = L at *
 generalize hf : a8 = f at *
 refine aB (E := env) (fun _ => 0) [] Tryz.func30 rfl (by kernel_rfl) (by kernel_rfl) (show 0 ≤ 22 by decide) (by simp) ?_
 refine W.sr ?_
 simp (disch := omega) [gw]
 refine W.lx [] ?_; simp
 refine W.sr ?_
 simp (disch := omega) [gw]
 refine aA o1 ?_
 simp (disch := omega) [gw]
 refine aA R1 ?_
 simp (disch := omega) [gw]
 refine W.lx [1, 2] ?_; simp
 have e0 : 0 < L.length := by omega
 have e2 : ((L.length : Int) == 2) = true := by rw [hlen]; rfl
 refine W.sr ?_
 simp (disch := omega) [gw, e2, e0]
 refine aA v1 ?_
 simp (disch := omega) [gw]
 refine W.lx [0] ?_; simp
 refine W.ret ?_
 simp [go]
def wl (s n : Nat) (f : ZX) (lo hi : Rat) : List (Rat × Rat) := if lo < hi then xW (vt (aP f)) (lk s n 5 5 + 6) lo hi else []
theorem akp {s n : Nat} (hn : n ≤ 20) : lk s n 5 5 ≤ 41 * s + 1000 := by
 have h1 : (n + n) * (s + 5 + 1 + (5 + 1)) ≤ 40 * (s + 12) := Nat.mul_le_mul (by omega) (by omega)
 have h2 : (n + n) * (5 + 2) ≤ 40 * 7 := Nat.mul_le_mul (by omega) (by omega)
 have h3 : n * (5 + 2) ≤ 20 * 7 := Nat.mul_le_mul hn (by omega)
 unfold lk sk
 omega
theorem qC {s n : Nat} {f : ZX} (I : j3 s n f) {lo hi : Rat} (q1 : SQ 5 lo) (q2 : SQ 5 hi) (dI : lo < hi) : (∀ p ∈ wl s n f lo hi, SQ (uu s + 300) p.1 ∧ SQ (uu s + 300) p.2 ∧ lo ≤ p.1 ∧ p.1 < p.2 ∧ p.2 ≤ hi ∧ vt (aP f) p.1 = vt (aP f) p.2 + 1) ∧ (wl s n f lo hi).length = vt (aP f) lo - vt (aP f) hi ∧
  fO env.P 85 [Po f.l, CH (aP f), RT lo, RT hi, .int .i64 ((vt (aP f) lo : Int) - vt (aP f) hi)] 44 9 (emap (ga f) (wl s n f lo hi)) := by
 obtain ⟨D, h1, h2, g1, g2⟩ := LA q1 q2
 obtain ⟨δ, d1, d2, C⟩ := I.cut 5
 have hl := akp (s := s) I.ch.hn
 have hs := I.hs
 have hw : hi - lo ≤ δ * 2 ^ (lk s n 5 5 + 6) := by
  rw [kM, ← Rat.mul_assoc, d2, Rat.one_mul]
  have := g1.b.1
  have := g2.b.2
  have e : (2 : Rat) ^ 6 = 2 ^ 5 * 2 := Rat.pow_succ ..
  rw [e]; grind
 obtain ⟨a1, a2, a3⟩ := kW C (lk s n 5 5 + 6) 0 lo hi g1 g2 dI hw
 have R := K1 I h1 h2 C (J := lk s n 5 5 + 6) (by omega) (lk s n 5 5 + 6) 0 lo hi (by omega) g1 g2 dI hw
 have e : wl s n f lo hi = xW (vt (aP f)) (lk s n 5 5 + 6) lo hi := if_pos dI
 rw [e]
 refine ⟨fun p hp => ?_, a2, R⟩
 obtain ⟨b1, b2, b3⟩ := a1 p hp
 exact ⟨(b1.sq h1 h2).mono (by unfold uu; omega), (b2.sq h1 h2).mono (by unfold uu; omega), b3⟩
theorem PF {s n : Nat} {f : ZX} (I : j3 s n f) {lo hi : Rat} (q1 : SQ 5 lo) (q2 : SQ 5 hi) : (wl s n f lo hi).length ≤ 21 := by
 by_cases dI : lo < hi
 ·have := (qC I q1 q2 dI).2.1
  have := Nat.le_trans (KU (aP f) lo) I.hl
  omega
 ·unfold wl; rw [if_neg dI]; simp
theorem LC {α : Type} {g : α → List PV} {l : List α} {s n : Nat} {f : ZX} (hS : aI env.P 83 [aJ g l] (Po f.l)) (I : j3 s n f) {lo hi : Rat} (q1 : SQ 5 lo) (q2 : SQ 5 hi) : aI env.P 45 [aJ g l, RT lo, RT hi] (aJ (ga f) (wl s n f lo hi)) := by
 have N1 := qZ hS I.ch I.nf
 have B1 := G3 I.hb I.ch.hn I.hl q1 q2 (by omega)
 have R1 : fO env.P 85 [Po f.l, CH (aP f), RT lo, RT hi, .int .i64 (if hi < lo then 0 else (vt (aP f) lo : Int) - vt (aP f) hi)] 44 9 (emap (ga f) (wl s n f lo hi)) := by
  by_cases dI : lo < hi
  ·rw [if_neg (by grind)]
   exact (qC I q1 q2 dI).2.2
  ·have e : wl s n f lo hi = [] := if_neg dI
   rw [e]
   by_cases h2 : hi < lo
   ·rw [if_pos h2]; exact BH
   ·have h3 : lo = hi := by grind
    subst h3
    rw [if_neg h2, Int.sub_self]; exact BH
 have hlen := PF I q1 q2
 have pe := yM (f := f) (l := wl s n f lo hi)
 show aI env.P _ [aJ g l, T2 lo.num lo.den, T2 hi.num hi.den] _
 replace B1 : aI env.P 106 [CH (aP f), T2 lo.num lo.den, T2 hi.num hi.den] (.int .i64 (if hi < lo then 0 else (vt (aP f) lo : Int) - vt (aP f) hi)) := B1
 replace R1 : fO env.P 85 [Po f.l, CH (aP f), T2 lo.num lo.den, T2 hi.num hi.den, .int .i64 (if hi < lo then 0 else (vt (aP f) lo : Int) - vt (aP f) hi)] 44 9 (emap (ga f) (wl s n f lo hi)) := R1
 generalize wl s n f lo hi = L at *
 generalize (if hi < lo then 0 else (vt (aP f) lo : Int) - vt (aP f) hi) = cn at *
 generalize aP f = c at *
 generalize lo.num = an at *
 generalize (lo.den : Int) = ad at *
 generalize hi.num = bn at *
 generalize (hi.den : Int) = bd at *
 refine aB (E := env) (fun _ => 0) [(0, aJ g l), (1, T2 an ad), (2, T2 bn bd)] Tryz.func45 rfl (by kernel_rfl) (by kernel_rfl) (show 3 ≤ 26 by decide) (by simp) ?_
 refine W.sr ?_; simp (disch := omega) [gw]; refine W.lx [0, 4, 5] ?_; simp
 refine W.sr ?_
 simp (disch := omega) [gw]
 refine aA N1 ?_
 simp (disch := omega) [gw]
 refine W.lx [0, 4, 5, 7, 8] ?_; simp
 refine W.seq ?_
 refine W.sr ?_; simp (disch := omega) [gw]; refine W.lx [0, 4, 5, 7, 15] ?_; simp
 refine W.cond ⟨_, rfl, fun h => ?_, fun h => ?_⟩
 ·simp at h
 refine W.skip ?_
 refine W.sd ?_
 simp (disch := omega) [gw]
 refine aA hS ?_
 simp (disch := omega) [gw]
 refine aA B1 ?_
 simp (disch := omega) [gw]
 refine zN R1 rfl trivial ?_
 simp (disch := omega) [gw]
 refine W.lx [6] ?_; simp
 refine W.qK 25 (by simp) (fun K hK => ?_)
 simp
 refine hK _ ?_
 refine W.ret ?_
 simp [go]
theorem PG {lo hi : Rat} : aI env.P 45 [.sl [], RT lo, RT hi] (.sl []) := by
 have N1 := R6
 show aI env.P _ [.sl [], T2 lo.num lo.den, T2 hi.num hi.den] _
 generalize lo.num = an at *
 generalize (lo.den : Int) = ad at *
 generalize hi.num = bn at *
 generalize (hi.den : Int) = bd at *
 refine aB (E := env) (fun _ => 0) [(0, .sl []), (1, T2 an ad), (2, T2 bn bd)] Tryz.func45 rfl (by kernel_rfl) (by kernel_rfl) (show 3 ≤ 26 by decide) (by simp) ?_
 refine W.sr ?_; simp (disch := omega) [gw]; refine W.lx [0, 4, 5] ?_; simp
 refine W.sr ?_
 simp (disch := omega) [gw]
 refine aA N1 ?_
 simp (disch := omega) [gw]
 refine W.lx [0, 4, 5, 7, 8] ?_; simp
 refine W.seq ?_
 refine W.sr ?_; simp (disch := omega) [gw]; refine W.lx [0, 4, 5, 7, 15] ?_; simp
 refine W.cond ⟨_, rfl, fun h => ?_, fun h => ?_⟩
 ·refine W.sr ?_; simp (disch := omega) [gw]; refine W.lx [6] ?_; simp
  refine W.ret ?_
  simp [go]
 ·simp at h
abbrev EL : PV := .ag [.sl [], .bool false, .sl [], .bool false, .sl [], .bool false, .sl [], .bool false, .sl []]
theorem VW {t : Rat} : aI env.P 44 [.sl [], RT t] (.dP [EL, .bool false]) := by
 have N1 := R6
 show aI env.P _ [.sl [], T2 t.num t.den] _
 generalize t.num = an at *
 generalize (t.den : Int) = ad at *
 refine aB (E := env) (fun _ => 0) [(0, .sl []), (1, T2 an ad)] Tryz.func44 rfl (by kernel_rfl) (by kernel_rfl) (show 2 ≤ 59 by decide) (by simp) ?_
 refine W.sr ?_; simp (disch := omega) [gw]; refine W.lx [0, 3, 4] ?_; simp
 refine W.sr ?_
 simp (disch := omega) [gw]
 refine aA N1 ?_
 simp (disch := omega) [gw]
 refine W.lx [0, 3, 4, 6, 7] ?_; simp
 refine W.seq ?_
 refine W.sr ?_
 simp (disch := omega) [gw]
 refine W.lx [0, 3, 4, 6, 27] ?_; simp
 refine W.cond ⟨_, rfl, fun h => ?_, fun h => ?_⟩
 ·refine W.sr ?_; simp (disch := omega) [gw]; refine W.lx [4, 5] ?_; simp
  refine W.ret ?_
  simp [go]
 ·simp at h
theorem PH {α : Type} {g : α → List PV} {l : List α} {c : List ZX} {t : Rat} (N1 : aI env.P 82 [aJ g l] (.dP [CH c, .int .i64 0])) (A1 : aI env.P 116 [CH c, RT t] (.int .i64 0)) : aI env.P 44 [aJ g l, RT t] (.dP [EL, .bool false]) := by
 show aI env.P _ [aJ g l, T2 t.num t.den] _
 replace A1 : aI env.P 116 [CH c, T2 t.num t.den] (.int .i64 0) := A1
 generalize t.num = an at *
 generalize (t.den : Int) = ad at *
 refine aB (E := env) (fun _ => 0) [(0, aJ g l), (1, T2 an ad)] Tryz.func44 rfl (by kernel_rfl) (by kernel_rfl) (show 2 ≤ 59 by decide) (by simp) ?_
 refine W.sr ?_; simp (disch := omega) [gw]; refine W.lx [0, 3, 4] ?_; simp
 refine W.sr ?_
 simp (disch := omega) [gw]
 refine aA N1 ?_
 simp (disch := omega) [gw]
 refine W.lx [0, 3, 4, 6, 7] ?_; simp
 refine W.seq ?_
 refine W.sr ?_
 simp (disch := omega) [gw]
 refine aA A1 ?_
 simp (disch := omega) [gw]
 refine W.lx [0, 3, 4, 6, 27] ?_; simp
 refine W.cond ⟨_, rfl, fun h => ?_, fun h => ?_⟩
 ·refine W.sr ?_; simp (disch := omega) [gw]; refine W.lx [4, 5] ?_; simp
  refine W.ret ?_
  simp [go]
 ·simp at h
end Go.Proofs.YtbbjgncblhfegaaGreat
