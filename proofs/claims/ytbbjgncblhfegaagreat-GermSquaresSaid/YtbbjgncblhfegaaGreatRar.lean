import Derived.Test.YtbbjgncblhfegaaGreatRaq
set_option linter.unusedSimpArgs false
set_option linter.unusedVariables false
namespace Go.Proofs.YtbbjgncblhfegaaGreat
open Go Pm
open ZX hiding N W
abbrev rc (q : Rat) : List PV := [aI aD (aR DD q.num.natAbs), .bool (decide (q.num < 0)), aI aD (aR DD (q.den : Int).natAbs), .bool (decide ((q.den : Int) < 0))]
def qa (f : ZX) (c : List ZX) (p : Rat × Rat) : List PV := PI f.l :: aI zq c :: (rc p.1 ++ rc p.2)
@[simp] theorem auG {f : ZX} {c : List ZX} {p : Rat × Rat} : qa f c p = PI f.l :: aI zq c :: (rc p.1 ++ rc p.2) := rfl
@[simp] theorem DZ {f : ZX} {c : List ZX} {l : List (Rat × Rat)} : bB 10 (emap (qa f c) l) = True := cZ fun _ => rfl
@[simp] theorem aj0 {v e n : Nat} {f : ZX} {c : List ZX} {l : List (Rat × Rat)} : cP (some ⟨v, e, n, emap (qa f c) l⟩) = True := cM fun _ => rfl
theorem R3 {f : ZX} {c : List ZX} {l : List (Rat × Rat)} : ∀ x ∈ emap (qa f c) l, ∀ p ∈ x, bW p = true := fun x hx p hp => by
 simp only [emap, List.mem_map] at hx
 obtain ⟨r, _, rfl⟩ := hx
 simp at hp
 rcases hp with rfl | rfl | rfl | rfl | rfl | rfl | rfl | rfl | rfl | rfl <;> rfl
abbrev QA (f : ZX) (c : List ZX) (p : Rat × Rat) : PV := .ag (qa f c p)
def ex (f : ZX) (p : Rat × Rat) : Rat × Rat := if e p.2 f = 0 then (p.2, p.2) else p
theorem SQ.yy {u : Nat} {q : Rat} (h : SQ u q) (hu : u ≤ 1000000000) : ZR YY q := ⟨by have := h.n2; simp only [YY]; omega, by have := h.d2; simp only [YY]; omega⟩
theorem nB {p q : Rat} : dH (p.num * q.den) (q.num * p.den) = 0 ↔ p = q := by
 have h1 := iR p q
 have h2 := iR q p
 rw [mU] at h1 h2
 refine ⟨fun h => ?_, fun h => ?_⟩
 ·have h := Pm.uS.1 h
  by_cases h3 : p < q
  ·have := h1.2 h3; omega
  ·rcases Rat.le_iff_lt_or_eq.1 (Rat.not_lt.1 h3) with h4 | h4
   ·have := h2.2 h4; omega
   ·exact h4.symm
 ·rw [h]; exact xI _
abbrev c4 (n d : Int) : List PV := [aI aD (aR DD n.natAbs), .bool (decide (n < 0)), aI aD (aR DD d.natAbs), .bool (decide (d < 0))]
theorem OQ {x : List Int} {c : List ZX} {ln ld hn hd z σ : Int} (hz : (z != 0) = false) (c1 : aK env.P 27 [R2 ln ld, R2 hn hd] (.int .i64 z)) (s1 : aK env.P 107 [PI x, R2 hn hd] (.int .i64 σ)) :
  aK env.P 112 [.ag (PI x :: aI zq c :: (c4 ln ld ++ c4 hn hd))] (.ag (PI x :: aI zq c :: (c4 ln ld ++ c4 hn hd))) := by
 simp only [c4]
 refine aB (E := env) (fun _ => 0) [(0, .ag (PI x :: aI zq c :: [aI aD (aR DD ln.natAbs), .bool (decide (ln < 0)), aI aD (aR DD ld.natAbs), .bool (decide (ld < 0)), aI aD (aR DD hn.natAbs), .bool (decide (hn < 0)), aI aD (aR DD hd.natAbs), .bool (decide (hd < 0))]))] Tryz.func112 rfl (by kernel_rfl) (by kernel_rfl) (show 1 ≤ 21 by decide) (by simp) ?_
 refine W.sr ?_
 simp (disch := omega) [gw]
 refine W.lx [1, 2] ?_; simp
 refine W.seq ?_
 refine W.sr ?_
 simp (disch := omega) [gw]
 refine aA c1 ?_
 simp (disch := omega) [gw, hz]
 refine W.lx [1, 2, 16] ?_; simp
 refine W.cond ⟨_, rfl, fun h => ?_, fun h => ?_⟩
 ·simp at h
 ·refine W.skip ?_
  refine W.sr ?_; simp (disch := omega) [gw]; refine W.lx [2] ?_; simp
  refine W.ret ?_
  simp [go]
theorem abf {x : List Int} {c : List ZX} {ln ld hn hd z σ : Int} (hz : (z != 0) = true) (hs : (σ == 0) = false) (c1 : aK env.P 27 [R2 ln ld, R2 hn hd] (.int .i64 z)) (s1 : aK env.P 107 [PI x, R2 hn hd] (.int .i64 σ)) :
  aK env.P 112 [.ag (PI x :: aI zq c :: (c4 ln ld ++ c4 hn hd))] (.ag (PI x :: aI zq c :: (c4 ln ld ++ c4 hn hd))) := by
 simp only [c4]
 refine aB (E := env) (fun _ => 0) [(0, .ag (PI x :: aI zq c :: [aI aD (aR DD ln.natAbs), .bool (decide (ln < 0)), aI aD (aR DD ld.natAbs), .bool (decide (ld < 0)), aI aD (aR DD hn.natAbs), .bool (decide (hn < 0)), aI aD (aR DD hd.natAbs), .bool (decide (hd < 0))]))] Tryz.func112 rfl (by kernel_rfl) (by kernel_rfl) (show 1 ≤ 21 by decide) (by simp) ?_
 refine W.sr ?_
 simp (disch := omega) [gw]
 refine W.lx [1, 2] ?_; simp
 refine W.seq ?_
 refine W.sr ?_
 simp (disch := omega) [gw]
 refine aA c1 ?_
 simp (disch := omega) [gw, hz]
 refine aA s1 ?_
 simp (disch := omega) [gw, hs]
 refine W.lx [1, 2, 16] ?_; simp
 refine W.cond ⟨_, rfl, fun h => ?_, fun h => ?_⟩
 ·simp at h
 ·refine W.skip ?_
  refine W.sr ?_; simp (disch := omega) [gw]; refine W.lx [2] ?_; simp
  refine W.ret ?_
  simp [go]
theorem VF {x : List Int} {c : List ZX} {ln ld hn hd z σ : Int} (hz : (z != 0) = true) (hs : (σ == 0) = true) (c1 : aK env.P 27 [R2 ln ld, R2 hn hd] (.int .i64 z)) (s1 : aK env.P 107 [PI x, R2 hn hd] (.int .i64 σ)) :
  aK env.P 112 [.ag (PI x :: aI zq c :: (c4 ln ld ++ c4 hn hd))] (.ag (PI x :: aI zq c :: (c4 hn hd ++ c4 hn hd))) := by
 simp only [c4]
 refine aB (E := env) (fun _ => 0) [(0, .ag (PI x :: aI zq c :: [aI aD (aR DD ln.natAbs), .bool (decide (ln < 0)), aI aD (aR DD ld.natAbs), .bool (decide (ld < 0)), aI aD (aR DD hn.natAbs), .bool (decide (hn < 0)), aI aD (aR DD hd.natAbs), .bool (decide (hd < 0))]))] Tryz.func112 rfl (by kernel_rfl) (by kernel_rfl) (show 1 ≤ 21 by decide) (by simp) ?_
 refine W.sr ?_
 simp (disch := omega) [gw]
 refine W.lx [1, 2] ?_; simp
 refine W.seq ?_
 refine W.sr ?_
 simp (disch := omega) [gw]
 refine aA c1 ?_
 simp (disch := omega) [gw, hz]
 refine aA s1 ?_
 simp (disch := omega) [gw, hs]
 refine W.lx [1, 2, 16] ?_; simp
 refine W.cond ⟨_, rfl, fun h => ?_, fun h => ?_⟩
 ·refine W.bY (fun K hK => ?_); simp (disch := omega) [gw]
  refine W.lw [1, 2] hK ?_; clear hK K; simp
  refine W.sr ?_; simp (disch := omega) [gw]; refine W.lx [2] ?_; simp
  refine W.ret ?_
  simp [go]
 ·simp at h
theorem lJ {f : ZX} {c : List ZX} {p : Rat × Rat} : QA f c p = .ag (PI f.l :: aI zq c :: (c4 p.1.num p.1.den ++ c4 p.2.num p.2.den)) := rfl
theorem D0 {f : ZX} {c : List ZX} {p : Rat × Rat} {n u : Nat} (hb : BZ 4500000000 n f) (hn : n ≤ 20) (q1 : SQ u p.1) (q2 : SQ u p.2) (hu : u ≤ 1000000000) : aK env.P 112 [QA f c p] (QA f c (ex f p)) := by
 have c1 := j7 p.1 p.2 (q1.yy hu) (q2.yy hu)
 have hmul : n * (u + 1) ≤ 20 * (u + 1) := Nat.mul_le_mul_right _ hn
 have s1 := u4 hb q2.n2 q2.d2 q2.hu (by omega) (by show _ < 137438953472; omega)
 rw [F6] at s1
 rw [cG, cG] at c1
 by_cases h : p.1 = p.2
 ·have he : ex f p = p := by
   unfold ex; split
   ·exact Prod.ext h.symm rfl
   ·rfl
  rw [he, lJ]
  exact OQ (by rw [nB.2 h]; rfl) c1 s1
 ·have hz : (dH (p.1.num * p.2.den) (p.2.num * p.1.den) != 0) = true := bne_iff_ne.2 fun h0 => h (nB.1 h0)
  by_cases h2 : e p.2 f = 0
  ·rw [show ex f p = (p.2, p.2) from if_pos h2, lJ, lJ]
   exact VF hz (by rw [h2, lG]; rfl) c1 s1
  ·rw [show ex f p = p from if_neg h2, lJ]
   exact abf hz (by simp only [beq_eq_false_iff_ne]; exact fun h0 => h2 (gB.1 h0)) c1 s1
theorem OR {f : ZX} {c : List ZX} {lo hi : Rat} (B : aK env.P 59 [aI zq c, RR lo, RR hi] (.int .i64 0)) : gD env.P 89 [PI f.l, aI zq c, RR lo, RR hi] 68 10 [] := by
 rw [cG, cG] at B ⊢
 generalize lo.num = ln at *
 generalize (lo.den : Int) = ld at *
 generalize hi.num = hn at *
 generalize (hi.den : Int) = hd at *
 refine iF (E := env) (fun id => if id = 7 then 2 else 0) (t := 8) [(0, PI f.l), (1, aI zq c), (2, R2 ln ld), (3, R2 hn hd)] Tryz.func89 rfl (by kernel_rfl) (by kernel_rfl) (show 4 ≤ 40 by decide) rfl (by simp) ?_
 refine W.sr ?_; simp (disch := omega) [gw]; refine W.lx [0, 1, 6, 7] ?_; simp
 refine W.sr ?_
 simp (disch := omega) [gw]
 refine aA B ?_
 simp (disch := omega) [gw]
 refine W.lx [0, 1, 6, 7, 9] ?_; simp
 refine W.seq ?_
 refine W.sr ?_; simp (disch := omega) [gw]; refine W.lx [0, 1, 6, 7, 9, 16] ?_; simp
 refine W.cond ⟨_, rfl, fun h => ?_, fun h => ?_⟩
 ·refine W.sr ?_; simp (disch := omega) [gw]; refine W.lx [8] ?_; simp
  refine W.nil 8 8 68 10 (by simp) (by decide) (fun K hK => ?_)
  simp
  refine hK _ ?_
  refine W.ret ?_
  exact ⟨8, _, by simp; exact rfl, by simp, fun x hx => by cases hx⟩
 ·simp at h
theorem VG {f : ZX} {c : List ZX} {lo hi : Rat} (B : aK env.P 59 [aI zq c, RR lo, RR hi] (.int .i64 1)) (X : aK env.P 112 [QA f c (lo, hi)] (QA f c (ex f (lo, hi)))) : gD env.P 89 [PI f.l, aI zq c, RR lo, RR hi] 68 10 (emap (qa f c) [ex f (lo, hi)]) := by
 rw [show emap (qa f c) [ex f (lo, hi)] = [qa f c (ex f (lo, hi))] from rfl]
 rw [cG, cG] at *
 generalize hy : ex f (lo, hi) = y at *
 rw [lJ, lJ] at X
 rw [show qa f c y = PI f.l :: aI zq c :: (c4 y.1.num y.1.den ++ c4 y.2.num y.2.den) from rfl]
 simp only [c4, List.cons_append, List.nil_append] at X ⊢
 clear hy
 generalize y.1.num = an at *
 generalize (y.1.den : Int) = ad at *
 generalize y.2.num = bn at *
 generalize (y.2.den : Int) = bd at *
 generalize lo.num = ln at *
 generalize (lo.den : Int) = ld at *
 generalize hi.num = hn at *
 generalize (hi.den : Int) = hd at *
 refine iF (E := env) (fun id => if id = 7 then 2 else 0) (t := 8) [(0, PI f.l), (1, aI zq c), (2, R2 ln ld), (3, R2 hn hd)] Tryz.func89 rfl (by kernel_rfl) (by kernel_rfl) (show 4 ≤ 40 by decide) rfl (by simp) ?_
 refine W.sr ?_; simp (disch := omega) [gw]; refine W.lx [0, 1, 6, 7] ?_; simp
 refine W.sr ?_
 simp (disch := omega) [gw]
 refine aA B ?_
 simp (disch := omega) [gw]
 refine W.lx [0, 1, 6, 7, 9] ?_; simp
 refine W.seq ?_
 refine W.sr ?_; simp (disch := omega) [gw]; refine W.lx [0, 1, 6, 7, 9, 16] ?_; simp
 refine W.cond ⟨_, rfl, fun h => ?_, fun h => ?_⟩
 ·simp at h
 refine W.skip ?_
 refine W.seq ?_
 refine W.sr ?_; simp (disch := omega) [gw]; refine W.lx [0, 1, 6, 7, 18] ?_; simp
 refine W.cond ⟨_, rfl, fun h => ?_, fun h => ?_⟩
 ·refine W.aaC 6 rfl rfl (fun K hK => ?_)
  simp (disch := omega) [gw]
  refine aA X ?_
  simp (disch := omega) [gw]
  refine W.lw [8] hK ?_; clear hK K; simp
  refine W.ret ?_
  exact ⟨25, _, by simp; exact rfl, by simp, fun x hx p hp => by
   simp at hx; subst hx
   simp at hp
   rcases hp with rfl | rfl | rfl | rfl | rfl | rfl | rfl | rfl | rfl | rfl <;> rfl⟩
 ·simp at h
theorem OS {f : ZX} {c : List ZX} {lo hi : Rat} {n : Int} {la lb : List (Rat × Rat)} (hn : 2 ≤ n ∧ n ≤ 21) (MW : la.length ≤ 21) (hlb : lb.length ≤ 21)
  (M : aK env.P 60 [RR lo, RR hi] (RR ((lo + hi) / 2))) (B : aK env.P 59 [aI zq c, RR lo, RR hi] (.int .i64 n))
  (h1 : gD env.P 89 [PI f.l, aI zq c, RR lo, RR ((lo + hi) / 2)] 68 10 (emap (qa f c) la)) (h2 : gD env.P 89 [PI f.l, aI zq c, RR ((lo + hi) / 2), RR hi] 68 10 (emap (qa f c) lb)) :
  gD env.P 89 [PI f.l, aI zq c, RR lo, RR hi] 68 10 (emap (qa f c) (la ++ lb)) := by
 rw [← wE]
 have el1 : (emap (qa f c) la).length ≤ 21 := by simpa [emap] using MW
 have el2 : (emap (qa f c) lb).length ≤ 21 := by simpa [emap] using hlb
 have p1 := R3 (f := f) (c := c) (l := la)
 have p2 := R3 (f := f) (c := c) (l := lb)
 have a1 : bB 10 (emap (qa f c) la) = True := DZ
 have a2 : bB 10 (emap (qa f c) lb) = True := DZ
 simp only [cG] at *
 generalize ((lo + hi) / 2).num = mn at *
 generalize (((lo + hi) / 2).den : Int) = md at *
 generalize lo.num = ln at *
 generalize (lo.den : Int) = ld at *
 generalize hi.num = vT at *
 generalize (hi.den : Int) = hd at *
 generalize emap (qa f c) la = ea at *
 generalize emap (qa f c) lb = eb at *
 refine iF (E := env) (fun id => if id = 7 then 2 else 0) (t := 8) [(0, PI f.l), (1, aI zq c), (2, R2 ln ld), (3, R2 vT hd)] Tryz.func89 rfl (by kernel_rfl) (by kernel_rfl) (show 4 ≤ 40 by decide) rfl (by simp) ?_
 refine W.sr ?_; simp (disch := omega) [gw]; refine W.lx [0, 1, 6, 7] ?_; simp
 refine W.sr ?_
 simp (disch := omega) [gw]
 refine aA B ?_
 simp (disch := omega) [gw]
 refine W.lx [0, 1, 6, 7, 9] ?_; simp
 refine W.seq ?_
 refine W.sr ?_; simp (disch := omega) [gw]; refine W.lx [0, 1, 6, 7, 9, 16] ?_; simp
 refine W.cond ⟨_, rfl, fun h => ?_, fun h => ?_⟩
 ·simp at h; omega
 refine W.skip ?_
 refine W.seq ?_
 refine W.sr ?_; simp (disch := omega) [gw]; refine W.lx [0, 1, 6, 7, 18] ?_; simp
 refine W.cond ⟨_, rfl, fun h => ?_, fun h => ?_⟩
 ·simp at h; omega
 refine W.skip ?_
 refine W.sr ?_
 simp (disch := omega) [gw]
 refine aA M ?_
 simp (disch := omega) [gw]
 refine W.lx [0, 1, 6, 7, 10] ?_; simp
 refine W.sd ?_
 rw [if_pos rfl, dN]
 simp (disch := omega) [gw]
 refine CS h1 rfl trivial ?_
 simp (disch := omega) [gw, eS]
 refine CS h2 rfl trivial ?_
 simp (disch := omega) [gw, a1, a2, eS]
 refine W.lx [8] ?_; simp
 refine W.ret ?_
 exact ⟨33, _, by simp; exact rfl, by simp, fun x hx => by
  rcases List.mem_append.1 hx with hx | hx
  ·exact p1 x hx
  ·exact p2 x hx⟩
theorem Gr.add {D β j : Nat} {p q : Rat} (hp : Gr D (2 ^ β) j p) (hq : Gr D (2 ^ β) j q) : Gr D (2 ^ (β + 1)) j (p + q) := by
 obtain ⟨⟨y, hy⟩, b1, b2⟩ := hp
 obtain ⟨⟨z, hz⟩, b3, b4⟩ := hq
 refine ⟨⟨y + z, ?_⟩, ?_⟩
 ·rw [Rat.intCast_add, ← hy, ← hz]; grind
 ·rw [Rat.pow_succ]; exact ⟨by grind, by grind⟩
theorem VH {s n : Nat} {f : ZX} (I : mP s n f) {D d β J : Nat} {δ : Rat} (uK : 1 ≤ D) (hD : D ≤ 2 ^ d) (C : Cut (vt (bC f)) (2 ^ β) δ) (hu : β + 1 + d + J + 1 ≤ 1000000000) : ∀ (k j : Nat) (lo hi : Rat), j + k ≤ J → Gr D (2 ^ β) j lo → Gr D (2 ^ β) j hi → lo < hi → hi - lo ≤ δ * 2 ^ k →
  gD env.P 89 [PI f.l, aI zq (bC f), RR lo, RR hi] 68 10 (emap (qa f (bC f)) ((K4 (vt (bC f)) k lo hi).map (ex f))) := by
 have hbt : ∀ (j : Nat) (lo hi : Rat), j ≤ J → Gr D (2 ^ β) j lo → Gr D (2 ^ β) j hi → lo < hi → aK env.P 59 [aI zq (bC f), RR lo, RR hi] (.int .i64 ((vt (bC f) lo : Int) - vt (bC f) hi)) := fun j lo hi hj g1 g2 eX => by
  have := aa8 I.hb I.ch.hn I.hl ((g1.mono hj).sq uK hD) ((g2.mono hj).sq uK hD) (by omega)
  rwa [if_neg (Rat.not_lt.2 (Rat.le_of_lt eX))] at this
 have leaf : ∀ (j : Nat) (lo hi : Rat), j ≤ J → Gr D (2 ^ β) j lo → Gr D (2 ^ β) j hi → lo < hi → vt (bC f) lo = vt (bC f) hi + 1 → gD env.P 89 [PI f.l, aI zq (bC f), RR lo, RR hi] 68 10 (emap (qa f (bC f)) ([(lo, hi)].map (ex f))) := fun j lo hi hj g1 g2 eX he => by
  have h1 := hbt j lo hi hj g1 g2 eX
  rw [show (vt (bC f) lo : Int) - vt (bC f) hi = 1 by omega] at h1
  exact VG h1 (D0 (I.ch.bz.mono (by have := I.hs; omega) (Nat.le_refl _)) I.ch.hn ((g1.mono hj).sq uK hD) ((g2.mono hj).sq uK hD) (by omega))
 have KJ : ∀ (j : Nat) (lo hi : Rat), j ≤ J → Gr D (2 ^ β) j lo → Gr D (2 ^ β) j hi → lo < hi → vt (bC f) lo = vt (bC f) hi → gD env.P 89 [PI f.l, aI zq (bC f), RR lo, RR hi] 68 10 (emap (qa f (bC f)) ([].map (ex f))) := fun j lo hi hj g1 g2 eX he => by
  have h1 := hbt j lo hi hj g1 g2 eX
  rw [show (vt (bC f) lo : Int) - vt (bC f) hi = 0 by omega] at h1
  exact OR h1
 intro k
 induction k with
 | zero =>
  intro j lo hi hj g1 g2 eX hd
  rw [K4]
  by_cases he : vt (bC f) lo = vt (bC f) hi
  ·rw [if_pos he]; exact KJ j lo hi (by omega) g1 g2 eX he
  ·rw [if_neg he]; exact leaf j lo hi (by omega) g1 g2 eX (C.leaf g1.b g2.b eX (by rw [Rat.pow_zero, Rat.mul_one] at hd; exact hd) he)
 | succ k ih =>
  intro j lo hi hj g1 g2 eX hd
  rw [K4]
  by_cases he : vt (bC f) lo = vt (bC f) hi
  ·rw [if_pos he]; exact KJ j lo hi (by omega) g1 g2 eX he
  ·rw [if_neg he]
   by_cases DL : vt (bC f) lo = vt (bC f) hi + 1
   ·rw [if_pos DL]; exact leaf j lo hi (by omega) g1 g2 eX DL
   ·rw [if_neg DL]
    obtain ⟨m1, m2⟩ := vD eX
    obtain ⟨d1, d2⟩ := uA hd
    have gm := g1.GS g2
    have n1 := C.dM lo ((lo + hi) / 2) (Rat.le_of_lt m1)
    have n2 := C.dM ((lo + hi) / 2) hi (Rat.le_of_lt m2)
    have hv1 := Nat.le_trans (aaZ (bC f) lo) I.hl
    obtain ⟨_, a2, _⟩ := n8 C k (j + 1) lo ((lo + hi) / 2) (g1.mono (by omega)) gm m1 d1
    obtain ⟨_, b2, _⟩ := n8 C k (j + 1) ((lo + hi) / 2) hi gm (g2.mono (by omega)) m2 d2
    have r1 := ih (j + 1) lo ((lo + hi) / 2) (by omega) (g1.mono (by omega)) gm m1 d1
    have r2 := ih (j + 1) ((lo + hi) / 2) hi (by omega) gm (g2.mono (by omega)) m2 d2
    have q1 : SQ (β + 1 + d + J + 1) lo := ((g1.mono (show j ≤ J by omega)).sq uK hD).mono (by omega)
    have q2 : SQ (β + 1 + d + J + 1) hi := ((g2.mono (show j ≤ J by omega)).sq uK hD).mono (by omega)
    have q3 : SQ (β + 1 + d + J + 1) (lo + hi) := ((g1.add g2).mono (show j ≤ J by omega)).sq uK hD
    have hM := KF (q1.yy hu) (q2.yy hu) (q3.yy hu)
    have hB := hbt j lo hi (by omega) g1 g2 eX
    rw [List.map_append]
    exact OS (n := (vt (bC f) lo : Int) - vt (bC f) hi) (by omega) (by rw [List.length_map]; omega) (by rw [List.length_map]; omega) hM hB r1 r2
def lvl (s n : Nat) : Nat := lk s n 5 (s + 1) + s + 2
theorem OT {s n : Nat} (hn : n ≤ 20) : lvl s n ≤ 102 * s + 700 := by
 have h1 : (n + n) * (s + 5 + 1 + (5 + 1)) ≤ 40 * (s + 12) := Nat.mul_le_mul (by omega) (by omega)
 have h2 : (n + n) * (s + 1 + 2) ≤ 40 * (s + 3) := Nat.mul_le_mul (by omega) (by omega)
 have h3 : n * (s + 1 + 2) ≤ 20 * (s + 3) := Nat.mul_le_mul hn (by omega)
 unfold lvl lk sk
 omega
def uu (s : Nat) : Nat := 105 * s + 800
namespace mP
variable {s n : Nat} {f : ZX} (I : mP s n f)
include I
theorem f0 : f.l ≠ [] := tO I.nf.ne
theorem pR : 1 ≤ (lead f.l).natAbs ∧ (lead f.l).natAbs ≤ 2 ^ s := by
 have h1 := cB f.c (List.length_pos_iff.2 I.f0)
 have h2 := kY (b := 2) (by decide) (lead f.l)
 have h3 := Nat.pow_le_pow_right (show 0 < 2 by decide) (eP I.ch.bz)
 omega
theorem apD : 1 ≤ iU f.l := (GG f.c I.f0 (t := iU f.l) (.inr Rat.le_refl)).2
theorem abg : Ab (iU f.l) (2 ^ (s + 1)) := by
 have h1 := AV f.c I.f0
 have hL : (1 : Rat) ≤ (((lead f.l).natAbs : Int) : Rat) := eD (by have := I.pR.1; omega)
 have h2 := Rat.div_mul_cancel (a := ((kE f.l (f.l.length - 1) : Int) : Rat)) (b := (((lead f.l).natAbs : Int) : Rat)) (by grind)
 have h3 := I.apD
 have h4 : ((kE f.l (f.l.length - 1) : Int) : Rat) ≤ 2 ^ s := by
  have h5 := kY (b := 2) (by decide) (kE f.l (f.l.length - 1))
  have h6 := Nat.pow_le_pow_right (show 0 < 2 by decide) (u7 I.ch.bz (f.l.length - 1))
  exact (KH (s := s) (by omega)).2
 have h7 := vA s
 rw [Rat.pow_succ]
 generalize (2 : Rat) ^ s = T at *
 generalize ((kE f.l (f.l.length - 1) : Int) : Rat) = m at *
 have hw : m / (((lead f.l).natAbs : Int) : Rat) ≤ T := by
  refine Rat.not_lt.1 fun h => ?_
  have h8 := Rat.mul_le_mul_of_nonneg_left hL (show 0 ≤ m / (((lead f.l).natAbs : Int) : Rat) by grind)
  grind
 exact ⟨by grind, by grind⟩
theorem A3 : Gr (lead f.l).natAbs (2 ^ (s + 1)) 0 (iU f.l) := by
 refine ⟨⟨((lead f.l).natAbs : Int) + kE f.l (f.l.length - 1), ?_⟩, I.abg⟩
 have hL : (1 : Rat) ≤ (((lead f.l).natAbs : Int) : Rat) := eD (by have := I.pR.1; omega)
 have h1 := AV f.c I.f0
 have h2 := Rat.div_mul_cancel (a := ((kE f.l (f.l.length - 1) : Int) : Rat)) (b := (((lead f.l).natAbs : Int) : Rat)) (by grind)
 rw [Nat.pow_zero, Nat.mul_one, Rat.intCast_add, h1]
 grind
theorem GH : Gr (lead f.l).natAbs (2 ^ (s + 1)) 0 (-iU f.l) := by
 obtain ⟨⟨z, hz⟩, h1, h2⟩ := I.A3
 exact ⟨⟨-z, by rw [Rat.intCast_neg, ← hz]; grind⟩, by grind, by grind⟩
theorem count : (vr (RH (bC f)) : Int) - vr (RJ (bC f)) = (vt (bC f) (-iU f.l) : Int) - vt (bC f) (iU f.l) := by
 have hG := I.U9
 have h1 : vr (RJ (bC f)) = vt (bC f) (iU f.l) := OE hG fun b => ⟨1, by decide, fun x h2 _ => (GG f.c I.f0 (.inr h2)).1⟩
 have h2 : vr (RH (bC f)) = vt (bC f) (-iU f.l) := VA hG fun b => ⟨1, by decide, fun x _ h2 => (GG f.c I.f0 (.inl h2)).1⟩
 rw [h1, h2]
theorem R4 : -iU f.l < iU f.l := by have := I.apD; grind
end mP
def qN (s n : Nat) (f : ZX) : List (Rat × Rat) := K4 (vt (bC f)) (lvl s n) (-iU f.l) (iU f.l)
structure Ivs (f : ZX) (u : Nat) (lo hi : Rat) (l : List (Rat × Rat)) : Prop where
 mem : ∀ p ∈ l, SQ u p.1 ∧ SQ u p.2 ∧ lo ≤ p.1 ∧ p.1 < p.2 ∧ p.2 ≤ hi ∧ vt (bC f) p.1 = vt (bC f) p.2 + 1
 len : l.length = vt (bC f) lo - vt (bC f) hi
 srt : l.Pairwise fun p q => p.2 ≤ q.1
theorem mP.width {s n : Nat} {f : ZX} (I : mP s n f) {δ : Rat} (hδ : δ * 2 ^ lk s n 5 (s + 1) = 1) : iU f.l - -iU f.l ≤ δ * 2 ^ lvl s n := by
 have h1 := I.abg.2
 unfold lvl
 rw [show lk s n 5 (s + 1) + s + 2 = lk s n 5 (s + 1) + (s + 1 + 1) by omega, n5, ← Rat.mul_assoc, hδ, Rat.one_mul, Rat.pow_succ]
 grind
theorem mP.ivs {s n : Nat} {f : ZX} (I : mP s n f) : Ivs f (uu s) (-iU f.l) (iU f.l) (qN s n f) := by
 obtain ⟨δ, h1, h2, C⟩ := I.cut (s + 1)
 have hl := OT (s := s) I.ch.hn
 obtain ⟨a1, a2, a3⟩ := n8 C (lvl s n) 0 _ _ I.GH I.A3 I.R4 (I.width h2)
 refine ⟨fun p hp => ?_, a2, a3⟩
 obtain ⟨b1, b2, b3⟩ := a1 p hp
 obtain ⟨l1, l2⟩ := I.pR
 exact ⟨(b1.sq l1 l2).mono (by unfold uu; omega), (b2.sq l1 l2).mono (by unfold uu; omega), b3⟩
theorem yB {s n : Nat} {f : ZX} (I : mP s n f) : (qN s n f).length ≤ 21 := by
 have := I.ivs.len
 have h1 := Nat.le_trans (aaZ (bC f) (-iU f.l)) I.hl
 omega
theorem OU {α : Type} {g : α → List PV} {l : List α} {s n : Nat} {f : ZX} (hS : aK env.P 83 [aI g l] (Po f.l)) (I : mP s n f) : aK env.P 21 [aI g l] (.eA [aI (ga f) (qN s n f), .int .i64 0]) := by
 have hs := I.hs
 have hn := I.ch.hn
 have N1 := RL hS I.ch I.nf
 have P1 := iG (x := f.l) (I.ch.bz.pb (by omega) (by omega))
 rw [f.c] at P1
 have B1 := OH P1 f.c I.f0 (xD I.ch.bz) (by omega) (by omega)
 obtain ⟨l1, l2⟩ := I.pR
 have qb := (I.A3.sq l1 l2).mono (show s + 1 + s + 0 + 1 ≤ uu s by unfold uu; omega)
 have hu : uu s ≤ 1000000000 := by unfold uu; omega
 have M1 := VB (qb.LLt (show uu s < 1099511627770 by omega))
 have C1 := N8 (c := bC f) (by have := I.hl; omega) (pbs I.hb hn)
 rw [I.count] at C1
 obtain ⟨δ, h1, h2, C⟩ := I.cut (s + 1)
 have hl := OT (s := s) hn
 have R1 := abb I l1 l2 C (J := lvl s n) (by omega) (lvl s n) 0 _ _ (by omega) I.GH I.A3 I.R4 (I.width h2)
 rw [show K4 (vt (bC f)) (lvl s n) (-iU f.l) (iU f.l) = qN s n f from rfl] at R1
 have hlen := yB I
 have el : (emap (ga f) (qN s n f)).length ≤ 21 := by simpa [emap] using hlen
 have pe := GB (f := f) (l := qN s n f)
 have a1 : bB 9 (emap (ga f) (qN s n f)) = True := vE
 replace B1 : aK env.P 84 [Po f.l] (.eA [T2 (iU f.l).num (iU f.l).den, .int .i64 0]) := B1
 replace M1 : aK env.P 86 [T2 (iU f.l).num (iU f.l).den] (T2 (-iU f.l).num (-iU f.l).den) := M1
 replace R1 : gD env.P 85 [Po f.l, CH (bC f), T2 (-iU f.l).num (-iU f.l).den, T2 (iU f.l).num (iU f.l).den, .int .i64 ((vt (bC f) (-iU f.l) : Int) - vt (bC f) (iU f.l))] 44 9 (emap (ga f) (qN s n f)) := R1
 generalize qN s n f = L at *
 generalize (vt (bC f) (-iU f.l) : Int) - vt (bC f) (iU f.l) = cn at *
 generalize bC f = c at *
 generalize (-iU f.l).num = mn at *
 generalize ((-iU f.l).den : Int) = md at *
 generalize (iU f.l).num = bn at *
 generalize ((iU f.l).den : Int) = bd at *
 refine aB (E := env) (fun _ => 0) [(0, aI g l)] Tryz.func21 rfl (by kernel_rfl) (by kernel_rfl) (show 1 ≤ 32 by decide) (by simp) ?_
 refine W.sr ?_; simp (disch := omega) [gw]; refine W.lx [0] ?_; simp
 refine W.sr ?_
 simp (disch := omega) [gw]
 refine aA N1 ?_
 simp (disch := omega) [gw]
 refine W.lx [0, 4, 5] ?_; simp
 refine W.seq ?_
 refine W.sr ?_; simp (disch := omega) [gw]; refine W.lx [0, 4, 5, 15] ?_; simp
 refine W.cond ⟨_, rfl, fun h => ?_, fun h => ?_⟩
 ·simp at h
 refine W.skip ?_
 refine W.sr ?_
 simp (disch := omega) [gw]
 refine aA hS ?_
 simp (disch := omega) [gw]
 refine W.lx [4, 6] ?_; simp
 refine W.sr ?_
 simp (disch := omega) [gw]
 refine aA B1 ?_
 simp (disch := omega) [gw]
 refine W.lx [4, 6, 7] ?_; simp
 refine W.sd ?_
 simp (disch := omega) [gw]
 refine aA M1 ?_
 simp (disch := omega) [gw]
 refine aA C1 ?_
 simp (disch := omega) [gw]
 refine CS R1 rfl trivial ?_
 simp (disch := omega) [gw]
 refine W.lx [2, 3] ?_; simp
 refine W.E2 31 (by simp) (fun K hK => ?_)
 simp
 refine hK _ ?_
 refine W.ret ?_
 simp [go]
theorem OV {x : List Int} {s n : Nat} {f : ZX} (hS : aK env.P 26 [PI x] (PI f.l)) (hC : aK env.P 57 [PI x] (aI zq (bC f))) (I : mP s n f) (qA : 1 ≤ s) : aK env.P 24 [PI x] (aI (qa f (bC f)) ((qN s n f).map (ex f))) := by
 have hs := I.hs
 have hn := I.ch.hn
 have B1 := OJ f.c I.f0 I.ch.bz qA (by omega) (by omega)
 obtain ⟨l1, l2⟩ := I.pR
 have M1 := I3 (iU f.l)
 obtain ⟨δ, h1, h2, C⟩ := I.cut (s + 1)
 have hl := OT (s := s) hn
 have R1 := VH I l1 l2 C (J := lvl s n) (by omega) (lvl s n) 0 _ _ (by omega) I.GH I.A3 I.R4 (I.width h2)
 rw [show K4 (vt (bC f)) (lvl s n) (-iU f.l) (iU f.l) = qN s n f from rfl] at R1
 have hlen := yB I
 rw [cG] at B1 M1
 rw [cG] at M1
 simp only [cG] at R1
 generalize (qN s n f).map (ex f) = L at *
 generalize bC f = c at *
 generalize (-iU f.l).num = mn at *
 generalize ((-iU f.l).den : Int) = md at *
 generalize (iU f.l).num = bn at *
 generalize ((iU f.l).den : Int) = bd at *
 refine aB (E := env) (fun _ => 0) [(0, PI x)] Tryz.func24 rfl (by kernel_rfl) (by kernel_rfl) (show 1 ≤ 18 by decide) (by simp) ?_
 refine W.sr ?_; simp (disch := omega) [gw]; refine W.lx [0] ?_; simp
 refine W.sr ?_
 simp (disch := omega) [gw]
 refine aA hS ?_
 simp (disch := omega) [gw]
 refine W.lx [0, 3] ?_; simp
 refine W.sr ?_
 simp (disch := omega) [gw]
 refine aA hC ?_
 simp (disch := omega) [gw]
 refine W.lx [3, 4] ?_; simp
 refine W.sr ?_
 simp (disch := omega) [gw]
 refine aA B1 ?_
 simp (disch := omega) [gw]
 refine W.lx [3, 4, 5] ?_; simp
 refine W.sd ?_
 simp (disch := omega) [gw]
 refine aA M1 ?_
 simp (disch := omega) [gw]
 refine CS R1 rfl trivial ?_
 simp (disch := omega) [gw]
 refine W.lx [2] ?_; simp
 refine W.E2 17 (by simp) (fun K hK => ?_)
 simp
 refine hK _ ?_
 refine W.ret ?_
 simp [go]
end Go.Proofs.YtbbjgncblhfegaaGreat
namespace Go.Proofs.YtbbjgncblhfegaaGreat
open Go Pm
open ZX hiding N W
theorem aj1 (f : ZX) : nl f = 1 ↔ 2 ≤ ZX.N f ∧ ZX.N (gz f (bM f)) ≤ 1 := by
 obtain ⟨h1, h2⟩ := jA f
 refine ⟨fun h => ?_, fun ⟨h3, h4⟩ => ?_⟩
 ·rw [h] at h1 h2
  exact ⟨h2 0 (by omega), h1⟩
 ·have h5 : 0 < nl f := ao2 fun j hj => by rw [show j = 0 by omega]; exact h3
  rcases Nat.lt_or_ge 1 (nl f) with h6 | h6
  ·have h7 : 2 ≤ ZX.N (gz f (bM f)) := h2 1 h6
   omega
  ·omega
abbrev GA (f : ZX) (p : Rat × Rat) : PV := .ag (ga f p)
namespace mP
variable {s n : Nat} {f : ZX} (I : mP s n f)
include I
theorem agQ : aK env.P 32 [Po f.l] (PI f.l) := by
 have hs := I.hs
 have hn := I.ch.hn
 have b := xD I.ch.bz
 have := UE (f.l.map qR) ⟨fun c hc => by
  simp only [List.mem_map] at hc
  obtain ⟨x, hx, rfl⟩ := hc
  exact ⟨eO fQ _, Nat.lt_of_le_of_lt (b.sz x hx) (by omega)⟩, by rw [List.length_map]; exact Nat.lt_of_le_of_lt b.len (by omega)⟩
 rw [bP, ← gW, show aM f.l = f.l from f.c] at this
 exact this
theorem apF : aK env.P 111 [PI f.l] (PI f.l) := by
 have := jV I.ch.bz I.s1 (by have := I.hs; show s ≤ 137438953472; omega) (by have := I.ch.hn; omega)
 rwa [I.nf.nfe] at this
theorem R5 : aK env.P 26 [PI f.l] (PI f.l) := by
 have := tU I.lay I.s1
 rwa [I.sq] at this
theorem GI : aK env.P 57 [PI f.l] (aI zq (bC f)) := wS I.R5 I.ch I.s1
theorem aeH : aK env.P 83 [Po f.l] (Po f.l) := by
 have := r8 I.lay
 rwa [I.sq] at this
theorem agR {u : Nat} {t : Rat} (q : SQ u t) (hu : u ≤ 1000000000) : aK env.P 107 [PI f.l, RR t] (.int .i64 (b6 (e t f))) := by
 have hs := I.hs
 have hn := I.ch.hn
 have hmul : n * (u + 1) ≤ 20 * (u + 1) := Nat.mul_le_mul_right _ hn
 have s1 := u4 I.ch.bz q.n2 q.d2 q.hu (by omega) (by show _ < 137438953472; omega)
 rw [F6] at s1
 rw [cG]
 exact s1
theorem uB {u : Nat} {p q : Rat} (hp : SQ u p) (hq : SQ u q) (hu : u ≤ 1000000000) : aK env.P 59 [aI zq (bC f), RR p, RR q] (.int .i64 (if q < p then 0 else (vt (bC f) p : Int) - vt (bC f) q)) := aa8 I.hb I.ch.hn I.hl hp hq hu
theorem abh {u : Nat} {p : Rat × Rat} (q1 : SQ u p.1) (q2 : SQ u p.2) (hu : u ≤ 1000000000) : aK env.P 112 [QA f (bC f) p] (QA f (bC f) (ex f p)) := D0 (I.ch.bz.mono (by have := I.hs; omega) (Nat.le_refl _)) I.ch.hn q1 q2 hu
end mP
theorem SQ.R6 {u : Nat} {q : Rat} (h : SQ u q) (hu : u ≤ 1000000000) : aK env.P 28 [RT q] (RR q) := VC (h.LLt (by omega)) ⟨by have := h.n2; show _ < 549755813888; omega, by have := h.d2; show _ < 549755813888; omega⟩
theorem mP.agS {s n : Nat} {f : ZX} (I : mP s n f) {u : Nat} {p : Rat × Rat} (q1 : SQ u p.1) (q2 : SQ u p.2) (hu : u ≤ 1000000000) : aK env.P 41 [GA f p] (QA f (bC f) (ex f p)) := by
 have f1 := I.agQ
 have f2 := I.apF
 have f3 := I.GI
 have f4 := q1.R6 hu
 have f5 := q2.R6 hu
 have f6 := I.abh q1 q2 hu
 generalize ex f p = y at *
 rw [cG] at f4 f5
 rw [lJ, lJ] at f6
 rw [lJ]
 replace f4 : aK env.P 28 [T2 p.1.num p.1.den] (R2 p.1.num p.1.den) := f4
 replace f5 : aK env.P 28 [T2 p.2.num p.2.den] (R2 p.2.num p.2.den) := f5
 show aK env.P _ [.ag (Po f.l :: (tc p.1 ++ tc p.2))] _
 simp only [c4, tc, List.cons_append, List.nil_append] at f6 ⊢
 generalize bC f = c at *
 generalize p.1.num = an at *
 generalize (p.1.den : Int) = ad at *
 generalize p.2.num = bn at *
 generalize (p.2.den : Int) = bd at *
 generalize y.1.num = yn at *
 generalize (y.1.den : Int) = yd at *
 generalize y.2.num = zn at *
 generalize (y.2.den : Int) = zd at *
 refine aB (E := env) (fun _ => 0) [(0, .ag [Po f.l, .bool (decide (an < 0)), us (aR LL an.natAbs), .bool (decide (ad < 0)), us (aR LL ad.natAbs), .bool (decide (bn < 0)), us (aR LL bn.natAbs), .bool (decide (bd < 0)), us (aR LL bd.natAbs)])] Tryz.func41 rfl (by kernel_rfl) (by kernel_rfl) (show 1 ≤ 19 by decide) (by simp) ?_
 refine W.sr ?_; simp (disch := omega) [gw]; refine W.lx [1, 2] ?_; simp
 refine W.sr ?_
 simp (disch := omega) [gw]
 refine aA f1 ?_
 simp (disch := omega) [gw]
 refine aA f2 ?_
 simp (disch := omega) [gw]
 refine W.lx [1, 2, 3] ?_; simp
 refine W.sd ?_
 simp (disch := omega) [gw]
 refine aA f3 ?_
 simp (disch := omega) [gw]
 refine aA f4 ?_
 simp (disch := omega) [gw]
 refine aA f5 ?_
 simp (disch := omega) [gw]
 refine aA f6 ?_
 simp (disch := omega) [gw]
 (try (refine b8 (of_decide_eq_true (by kernel_rfl)) ?_)); (try simp (maxSteps := 4000000) (disch := omega) [gw]); (repeat rw [if_pos (by kernel_rfl)]); (try simp (maxSteps := 4000000) (disch := omega) [gw])
 refine W.lx [2] ?_; simp
 refine W.ret ?_
 simp [go]
theorem pS {f : ZX} {c : List ZX} {p : Rat × Rat} {u : Nat} (q1 : SQ u p.1) (q2 : SQ u p.2) (hu : u ≤ 1000000000) : aK env.P 113 [QA f c p] (.bool (decide (p.1 = p.2))) := by
 have c1 := j7 p.1 p.2 (q1.yy hu) (q2.yy hu)
 have e : decide (p.1 = p.2) = (dH (p.1.num * p.2.den) (p.2.num * p.1.den) == 0) := by
  rw [Bool.eq_iff_iff]; simp only [decide_eq_true_eq, beq_iff_eq]; exact nB.symm
 rw [e, lJ]
 rw [cG, cG] at c1
 simp only [c4, List.cons_append, List.nil_append]
 generalize dH (p.1.num * p.2.den) (p.2.num * p.1.den) = z at *
 generalize p.1.num = an at *
 generalize (p.1.den : Int) = ad at *
 generalize p.2.num = bn at *
 generalize (p.2.den : Int) = bd at *
 refine aB (E := env) (fun _ => 0) [(0, .ag [PI f.l, aI zq c, aI aD (aR DD an.natAbs), .bool (decide (an < 0)), aI aD (aR DD ad.natAbs), .bool (decide (ad < 0)), aI aD (aR DD bn.natAbs), .bool (decide (bn < 0)), aI aD (aR DD bd.natAbs), .bool (decide (bd < 0))])] Tryz.func113 rfl (by kernel_rfl) (by kernel_rfl) (show 1 ≤ 9 by decide) (by simp) ?_
 refine W.sr ?_
 simp (disch := omega) [gw]
 refine W.lx [1] ?_; simp
 refine W.sr ?_
 simp (disch := omega) [gw]
 refine aA c1 ?_
 simp (disch := omega) [gw]
 refine W.lx [2] ?_; simp
 refine W.ret ?_
 simp [go]
end Go.Proofs.YtbbjgncblhfegaaGreat
namespace Go.Proofs.YtbbjgncblhfegaaGreat
open Go Pm
open ZX hiding N W
theorem qO {p q : Rat} : 0 < dH (p.num * q.den) (q.num * p.den) ↔ q < p := by
 rw [mV, ← iR q p, mU]
theorem VI {p q : Rat} : dH (p.num * q.den) (q.num * p.den) < 0 ↔ p < q := iR p q
theorem pT {p q : Rat} : dH (p.num * q.den) (q.num * p.den) ≤ 0 ↔ p ≤ q := by
 rw [← Int.not_lt, qO, Rat.not_lt]
theorem KM {x : List Int} {c : List ZX} {an ad bn bd tn td zt z1 z2 b σ r : Int} {pt : Bool} (p1 : aK env.P 113 [.ag (PI x :: aI zq c :: (c4 an ad ++ c4 bn bd))] (.bool pt)) (k0 : aK env.P 27 [R2 an ad, R2 tn td] (.int .i64 zt))
  (k1 : aK env.P 27 [R2 tn td, R2 an ad] (.int .i64 z1)) (k2 : aK env.P 27 [R2 tn td, R2 bn bd] (.int .i64 z2)) (k3 : aK env.P 59 [aI zq c, R2 an ad, R2 tn td] (.int .i64 b)) (k4 : aK env.P 107 [PI x, R2 tn td] (.int .i64 σ))
  (hr : r = if pt = true then zt else if z1 ≤ 0 then 1 else if 0 < z2 then -1 else if b = 0 then 1 else if σ = 0 then 0 else -1) : aK env.P 43 [.ag (PI x :: aI zq c :: (c4 an ad ++ c4 bn bd)), R2 tn td] (.int .i64 r) := by
 simp only [c4, List.cons_append, List.nil_append] at p1 ⊢
 refine aB (E := env) (fun _ => 0) [(0, .ag [PI x, aI zq c, aI aD (aR DD an.natAbs), .bool (decide (an < 0)), aI aD (aR DD ad.natAbs), .bool (decide (ad < 0)), aI aD (aR DD bn.natAbs), .bool (decide (bn < 0)), aI aD (aR DD bd.natAbs), .bool (decide (bd < 0))]), (1, R2 tn td)] Tryz.func43 rfl (by kernel_rfl) (by kernel_rfl) (show 2 ≤ 33 by decide) (by simp) ?_
 refine W.sr ?_; simp (disch := omega) [gw]; refine W.lx [2, 3] ?_; simp
 refine W.seq ?_
 refine W.sr ?_
 simp (disch := omega) [gw]
 refine aA p1 ?_
 simp (disch := omega) [gw]
 refine W.lx [2, 3, 6] ?_; simp
 refine W.cond ⟨_, rfl, fun h => ?_, fun h => ?_⟩
 ·subst h
  rw [if_pos rfl] at hr
  subst hr
  refine W.sr ?_
  simp (disch := omega) [gw]
  refine aA k0 ?_
  simp (disch := omega) [gw]
  refine W.lx [4] ?_; simp
  refine W.ret ?_
  simp [go]
 ·subst h
  rw [if_neg (by decide)] at hr
  refine W.skip ?_
  refine W.seq ?_
  refine W.sr ?_
  simp (disch := omega) [gw]
  refine aA k1 ?_
  simp (disch := omega) [gw]
  refine W.lx [2, 3, 15] ?_; simp
  refine W.cond ⟨_, rfl, fun h => ?_, fun h => ?_⟩
  ·simp at h
   rw [if_pos h] at hr
   subst hr
   refine W.sr ?_; simp (disch := omega) [gw]; refine W.lx [4] ?_; simp
   refine W.ret ?_
   simp [go]
  ·simp at h
   rw [if_neg (by omega)] at hr
   refine W.skip ?_
   refine W.seq ?_
   refine W.sr ?_
   simp (disch := omega) [gw]
   refine aA k2 ?_
   simp (disch := omega) [gw]
   refine W.lx [2, 3, 20] ?_; simp
   refine W.cond ⟨_, rfl, fun h => ?_, fun h => ?_⟩
   ·simp at h
    rw [if_pos h] at hr
    subst hr
    refine W.sr ?_; simp (disch := omega) [gw]; refine W.lx [4] ?_; simp
    refine W.ret ?_
    simp [go]
   ·simp at h
    rw [if_neg (by omega)] at hr
    refine W.skip ?_
    refine W.seq ?_
    refine W.sr ?_
    simp (disch := omega) [gw]
    refine aA k3 ?_
    simp (disch := omega) [gw]
    refine W.lx [2, 3, 27] ?_; simp
    refine W.cond ⟨_, rfl, fun h => ?_, fun h => ?_⟩
    ·simp at h
     rw [if_pos h] at hr
     subst hr
     refine W.sr ?_; simp (disch := omega) [gw]; refine W.lx [4] ?_; simp
     refine W.ret ?_
     simp [go]
    ·simp at h
     rw [if_neg h] at hr
     refine W.skip ?_
     refine W.seq ?_
     refine W.sr ?_
     simp (disch := omega) [gw]
     refine aA k4 ?_
     simp (disch := omega) [gw]
     refine W.lx [32] ?_; simp
     refine W.cond ⟨_, rfl, fun h => ?_, fun h => ?_⟩
     ·simp at h
      rw [if_pos h] at hr
      subst hr
      refine W.sr ?_; simp (disch := omega) [gw]; refine W.lx [4] ?_; simp
      refine W.ret ?_
      simp [go]
     ·simp at h
      rw [if_neg h] at hr
      subst hr
      refine W.skip ?_
      refine W.sr ?_; simp (disch := omega) [gw]; refine W.lx [4] ?_; simp
      refine W.ret ?_
      simp [go]
abbrev cX (f : ZX) (p : Rat × Rat) : Rat → Prop := gH (vt (bC f)) p.1 p.2
theorem mP.GJ {s n : Nat} {f : ZX} (I : mP s n f) {u : Nat} {p : Rat × Rat} {t : Rat} (A : oJ f (vt (bC f)) p.1 p.2) (q1 : SQ u p.1) (q2 : SQ u p.2) (qt : SQ u t) (hu : u ≤ 1000000000) : aK env.P 43 [QA f (bC f) p, RR t] (.int .i64 (cr (cX f p) t)) := by
 have p1 := pS (f := f) (c := bC f) q1 q2 hu
 have k0 := j7 p.1 t (q1.yy hu) (qt.yy hu)
 have k1 := j7 t p.1 (qt.yy hu) (q1.yy hu)
 have k2 := j7 t p.2 (qt.yy hu) (q2.yy hu)
 have k3 := I.uB q1 qt hu
 have k4 := I.agR qt hu
 have hc := A.auA t
 rw [cG, cG] at k0 k1 k2
 rw [cG, cG] at k3
 rw [cG] at k4 ⊢
 rw [lJ] at p1 ⊢
 refine KM p1 k0 k1 k2 k3 k4 ?_
 rw [hc]
 simp only [decide_eq_true_eq]
 by_cases h1 : p.1 = p.2
 ·rw [if_pos h1, if_pos h1]
  by_cases h2 : p.1 < t
  ·rw [if_pos h2, lV (mU.1 (VI.2 h2))]
  ·rw [if_neg h2]
   by_cases h3 : t < p.1
   ·rw [if_pos h3, lW (mV.1 (qO.2 h3))]
   ·rw [if_neg h3, nB.2 (by grind)]
 ·rw [if_neg h1, if_neg h1]
  simp only [pT, qO]
  by_cases h2 : t ≤ p.1
  ·rw [if_pos h2, if_pos h2]
  ·rw [if_neg h2, if_neg h2]
   by_cases h3 : p.2 < t
   ·rw [if_pos h3, if_pos h3]
   ·rw [if_neg h3, if_neg h3, if_neg (show ¬ t < p.1 by grind)]
    have e1 : ((vt (bC f) p.1 : Int) - vt (bC f) t = 0) ↔ vt (bC f) p.1 = vt (bC f) t := by omega
    simp only [e1, gB]
def hv (f : ZX) (p : Rat × Rat) : Rat × Rat := if p.1 = p.2 then p else ex f (if vt (bC f) ((p.1 + p.2) / 2) < vt (bC f) p.1 then (p.1, (p.1 + p.2) / 2) else ((p.1 + p.2) / 2, p.2))
theorem KN {x : List Int} {c : List ZX} {an ad bn bd : Int} (p1 : aK env.P 113 [.ag (PI x :: aI zq c :: (c4 an ad ++ c4 bn bd))] (.bool true)) : aK env.P 115 [.ag (PI x :: aI zq c :: (c4 an ad ++ c4 bn bd))] (.ag (PI x :: aI zq c :: (c4 an ad ++ c4 bn bd))) := by
 simp only [c4, List.cons_append, List.nil_append] at p1 ⊢
 refine aB (E := env) (fun _ => 0) [(0, .ag [PI x, aI zq c, aI aD (aR DD an.natAbs), .bool (decide (an < 0)), aI aD (aR DD ad.natAbs), .bool (decide (ad < 0)), aI aD (aR DD bn.natAbs), .bool (decide (bn < 0)), aI aD (aR DD bd.natAbs), .bool (decide (bd < 0))])] Tryz.func115 rfl (by kernel_rfl) (by kernel_rfl) (show 1 ≤ 25 by decide) (by simp) ?_
 refine W.sr ?_; simp (disch := omega) [gw]; refine W.lx [1, 2] ?_; simp
 refine W.seq ?_
 refine W.sr ?_
 simp (disch := omega) [gw]
 refine aA p1 ?_
 simp (disch := omega) [gw]
 refine W.lx [1, 2, 5] ?_; simp
 refine W.cond ⟨_, rfl, fun h => ?_, fun h => ?_⟩
 ·refine W.sr ?_; simp (disch := omega) [gw]; refine W.lx [2] ?_; simp
  refine W.ret ?_
  simp [go]
 ·simp at h
theorem KO {x : List Int} {c : List ZX} {an ad bn bd mn md yn yd zn zd b : Int} (p1 : aK env.P 113 [.ag (PI x :: aI zq c :: (c4 an ad ++ c4 bn bd))] (.bool false)) (k1 : aK env.P 60 [R2 an ad, R2 bn bd] (R2 mn md)) (k2 : aK env.P 59 [aI zq c, R2 an ad, R2 mn md] (.int .i64 b))
  (k3 : aK env.P 112 [.ag (PI x :: aI zq c :: (if 0 < b then c4 an ad ++ c4 mn md else c4 mn md ++ c4 bn bd))] (.ag (PI x :: aI zq c :: (c4 yn yd ++ c4 zn zd)))) : aK env.P 115 [.ag (PI x :: aI zq c :: (c4 an ad ++ c4 bn bd))] (.ag (PI x :: aI zq c :: (c4 yn yd ++ c4 zn zd))) := by
 simp only [c4, List.cons_append, List.nil_append] at p1 k3 ⊢
 refine aB (E := env) (fun _ => 0) [(0, .ag [PI x, aI zq c, aI aD (aR DD an.natAbs), .bool (decide (an < 0)), aI aD (aR DD ad.natAbs), .bool (decide (ad < 0)), aI aD (aR DD bn.natAbs), .bool (decide (bn < 0)), aI aD (aR DD bd.natAbs), .bool (decide (bd < 0))])] Tryz.func115 rfl (by kernel_rfl) (by kernel_rfl) (show 1 ≤ 25 by decide) (by simp) ?_
 refine W.sr ?_; simp (disch := omega) [gw]; refine W.lx [1, 2] ?_; simp
 refine W.seq ?_
 refine W.sr ?_
 simp (disch := omega) [gw]
 refine aA p1 ?_
 simp (disch := omega) [gw]
 refine W.lx [1, 2, 5] ?_; simp
 refine W.cond ⟨_, rfl, fun h => ?_, fun h => ?_⟩
 ·simp at h
 refine W.skip ?_
 refine W.sr ?_
 simp (disch := omega) [gw]
 refine aA k1 ?_
 simp (disch := omega) [gw]
 refine W.lx [1, 2, 3] ?_; simp
 by_cases hb : 0 < b
 ·rw [if_pos hb] at k3
  refine W.fV (fun σ => ∃ (v1 v2 : Nat) (rows : Pm.Rows) (clk : Nat), σ = ⟨fa [(1, .ptr 1 v1 0 0), (2, .ptr 2 v2 0 0)], rows, clk⟩ ∧ rows 1 = some ⟨v1, 68, 10, [[PI x, aI zq c, aI aD (aR DD an.natAbs), .bool (decide (an < 0)), aI aD (aR DD ad.natAbs), .bool (decide (ad < 0)), aI aD (aR DD mn.natAbs), .bool (decide (mn < 0)), aI aD (aR DD md.natAbs), .bool (decide (md < 0))]]⟩ ∧ rows 2 = some ⟨v2, 68, 10, [[PV.nil, PV.nil, PV.nil, PV.bool false, PV.nil, PV.bool false, PV.nil, PV.bool false, PV.nil, PV.bool false]]⟩) ?_ ?_
  ·refine W.sr ?_
   simp (disch := omega) [gw]
   refine aA k2 ?_
   simp (disch := omega) [gw]
   refine W.lx [1, 2, 3, 18] ?_; simp
   refine W.cond ⟨_, rfl, fun h => ?_, fun h => ?_⟩
   ·refine W.bY (fun K hK => ?_); simp (disch := omega) [gw]
    exact hK _ ⟨_, aC _ [1, 2], _, _, _, _, rfl, by simp, by simp⟩
   ·simp at h; omega
  rintro _ ⟨v1, v2, rows, clk, rfl, BT, cI⟩
  refine W.sr ?_
  simp (disch := omega) [gw, BT, cI]
  refine aA k3 ?_
  simp (disch := omega) [gw, BT, cI]
  refine W.lx [2] ?_; simp
  refine W.ret ?_
  simp [go]
 ·rw [if_neg hb] at k3
  refine W.fV (fun σ => ∃ (v1 v2 : Nat) (rows : Pm.Rows) (clk : Nat), σ = ⟨fa [(1, .ptr 1 v1 0 0), (2, .ptr 2 v2 0 0)], rows, clk⟩ ∧ rows 1 = some ⟨v1, 68, 10, [[PI x, aI zq c, aI aD (aR DD mn.natAbs), .bool (decide (mn < 0)), aI aD (aR DD md.natAbs), .bool (decide (md < 0)), aI aD (aR DD bn.natAbs), .bool (decide (bn < 0)), aI aD (aR DD bd.natAbs), .bool (decide (bd < 0))]]⟩ ∧ rows 2 = some ⟨v2, 68, 10, [[PV.nil, PV.nil, PV.nil, PV.bool false, PV.nil, PV.bool false, PV.nil, PV.bool false, PV.nil, PV.bool false]]⟩) ?_ ?_
  ·refine W.sr ?_
   simp (disch := omega) [gw]
   refine aA k2 ?_
   simp (disch := omega) [gw]
   refine W.lx [1, 2, 3, 18] ?_; simp
   refine W.cond ⟨_, rfl, fun h => ?_, fun h => ?_⟩
   ·simp at h; omega
   ·refine W.bY (fun K hK => ?_); simp (disch := omega) [gw]
    exact hK _ ⟨_, aC _ [1, 2], _, _, _, _, rfl, by simp, by simp⟩
  rintro _ ⟨v1, v2, rows, clk, rfl, BT, cI⟩
  refine W.sr ?_
  simp (disch := omega) [gw, BT, cI]
  refine aA k3 ?_
  simp (disch := omega) [gw, BT, cI]
  refine W.lx [2] ?_; simp
  refine W.ret ?_
  simp [go]
theorem mP.agT {s n : Nat} {f : ZX} (I : mP s n f) {u : Nat} {p : Rat × Rat} (hle : p.1 ≤ p.2) (q1 : SQ u p.1) (q2 : SQ u p.2) (q3 : SQ u ((p.1 + p.2) / 2)) (q4 : SQ u (p.1 + p.2)) (hu : u ≤ 1000000000) : aK env.P 115 [QA f (bC f) p] (QA f (bC f) (hv f p)) := by
 have p1 := pS (f := f) (c := bC f) q1 q2 hu
 by_cases h : p.1 = p.2
 ·rw [decide_eq_true h] at p1
  rw [show hv f p = p from if_pos h, lJ]
  rw [lJ] at p1
  exact KN p1
 ·rw [decide_eq_false h] at p1
  have eX : p.1 < p.2 := by grind
  obtain ⟨m1, m2⟩ := vD eX
  have k1 := KF (q1.yy hu) (q2.yy hu) (q4.yy hu)
  have k2 := I.uB q1 q3 hu
  rw [if_neg (Rat.not_lt.2 (Rat.le_of_lt m1))] at k2
  have e : hv f p = ex f (if vt (bC f) ((p.1 + p.2) / 2) < vt (bC f) p.1 then (p.1, (p.1 + p.2) / 2) else ((p.1 + p.2) / 2, p.2)) := if_neg h
  rw [e]
  have hb : (0 < (vt (bC f) p.1 : Int) - vt (bC f) ((p.1 + p.2) / 2)) ↔ vt (bC f) ((p.1 + p.2) / 2) < vt (bC f) p.1 := by omega
  have k3 := I.abh (u := u) (p := if vt (bC f) ((p.1 + p.2) / 2) < vt (bC f) p.1 then (p.1, (p.1 + p.2) / 2) else ((p.1 + p.2) / 2, p.2)) (by split <;> assumption) (by split <;> assumption) hu
  rw [cG, cG] at k1 k2
  rw [cG] at k1
  rw [lJ] at p1 ⊢
  rw [lJ]
  refine KO p1 k1 k2 ?_
  by_cases h2 : vt (bC f) ((p.1 + p.2) / 2) < vt (bC f) p.1
  ·rw [if_pos (hb.2 h2)]
   rw [if_pos h2] at k3 ⊢
   exact k3
  ·rw [if_neg (fun h3 => h2 (hb.1 h3))]
   rw [if_neg h2] at k3 ⊢
   exact k3
theorem R7 {f : ZX} {p : Rat × Rat} (A : oJ f (vt (bC f)) p.1 p.2) : oJ f (vt (bC f)) (hv f p).1 (hv f p).2 ∧ ∀ t, cX f (hv f p) t ↔ cX f p t := by
 unfold hv
 split
 ·exact ⟨A, fun _ => Iff.rfl⟩
 ·rename_i h
  have eX : p.1 < p.2 := by have := A.le; grind
  obtain ⟨m1, m2⟩ := vD eX
  obtain ⟨h1, h2⟩ := A.half m1 m2
  have key : ∀ q : Rat × Rat, oJ f (vt (bC f)) q.1 q.2 → (∀ t, cX f q t ↔ cX f p t) → oJ f (vt (bC f)) (ex f q).1 (ex f q).2 ∧ ∀ t, cX f (ex f q) t ↔ cX f p t := fun q hq hc => by
   unfold ex
   split
   ·rename_i h0
    obtain ⟨g1, g2⟩ := hq.exact h0
    exact ⟨g1, fun t => (g2 t).trans (hc t)⟩
   ·exact ⟨hq, hc⟩
  split
  ·rename_i h3
   obtain ⟨g1, g2⟩ := h1 h3
   exact key (p.1, (p.1 + p.2) / 2) g1 g2
  ·rename_i h3
   obtain ⟨g1, g2⟩ := h2 h3
   exact key ((p.1 + p.2) / 2, p.2) g1 g2
theorem yC {f : ZX} {p : Rat × Rat} (A : oJ f (vt (bC f)) p.1 p.2) : oJ f (vt (bC f)) (ex f p).1 (ex f p).2 ∧ ∀ t, cX f (ex f p) t ↔ cX f p t := by
 unfold ex
 split
 ·rename_i h0
  exact A.exact h0
 ·exact ⟨A, fun _ => Iff.rfl⟩
abbrev t4 (n d : Int) : List PV := [.bool (decide (n < 0)), us (aR LL n.natAbs), .bool (decide (d < 0)), us (aR LL d.natAbs)]
section
variable {x : List Int} {c : List ZX} {fs : List ZX} {an ad bn bd z b σ : Int} (hx : x.length < 1000000)  (f1 : aK env.P 32 [Po x] (PI x)) (f2 : aK env.P 93 [PI x] (aI zq fs)) (k1 : aK env.P 28 [T2 an ad] (R2 an ad)) (k2 : aK env.P 28 [T2 bn bd] (R2 bn bd))
  (k3 : aK env.P 27 [R2 an ad, R2 bn bd] (.int .i64 z)) (k4 : aK env.P 57 [PI x] (aI zq c)) (k5 : aK env.P 59 [aI zq c, R2 an ad, R2 bn bd] (.int .i64 b)) (k6 : aK env.P 107 [PI x, R2 an ad] (.int .i64 σ))
include hx f1
include f2 k1 k2 k3 k4 k5 k6
theorem VJ (h2 : 2 ≤ x.length) (hm : fs.length = 1) {r : Bool} (hr : r = if 0 < z then false else if z = 0 then σ == 0 else b == 1) : aK env.P 38 [.ag (Po x :: (t4 an ad ++ t4 bn bd))] (.bool r) := by
 simp only [t4, List.cons_append, List.nil_append]
 refine aB (E := env) (fun _ => 0) [(0, .ag [Po x, .bool (decide (an < 0)), us (aR LL an.natAbs), .bool (decide (ad < 0)), us (aR LL ad.natAbs), .bool (decide (bn < 0)), us (aR LL bn.natAbs), .bool (decide (bd < 0)), us (aR LL bd.natAbs)])] Tryz.func38 rfl (by kernel_rfl) (by kernel_rfl) (show 1 ≤ 52 by decide) (by simp) ?_
 refine W.sr ?_; simp (disch := omega) [gw]; refine W.lx [1] ?_; simp
 refine W.sr ?_
 simp (disch := omega) [gw]
 refine aA f1 ?_
 simp (disch := omega) [gw]
 refine W.lx [1, 3] ?_; simp
 refine W.seq ?_
 have e1 : ((x.length : Int) < 2) = False := eq_false (by omega)
 have e2 : (((fs.length : Int)) != 1) = false := by rw [hm]; rfl
 refine W.sr ?_
 simp (disch := omega) [gw, e1]
 refine aA f2 ?_
 simp (disch := omega) [gw, e2]
 refine W.lx [1, 3, 26] ?_; simp
 refine W.cond ⟨_, rfl, fun h => ?_, fun h => ?_⟩
 ·simp at h
 refine W.skip ?_
 refine W.sd ?_
 simp (disch := omega) [gw]
 refine aA k1 ?_
 simp (disch := omega) [gw]
 refine aA k2 ?_
 (try (refine b8 (of_decide_eq_true (by kernel_rfl)) ?_)); (try simp (maxSteps := 4000000) (disch := omega) [gw, eS]); (repeat rw [if_pos (by kernel_rfl)]); (try simp (maxSteps := 4000000) (disch := omega) [gw, eS])
 (try (refine b8 (of_decide_eq_true (by kernel_rfl)) ?_)); (try simp (maxSteps := 4000000) (disch := omega) [gw, eS]); (repeat rw [if_pos (by kernel_rfl)]); (try simp (maxSteps := 4000000) (disch := omega) [gw, eS])
 (try (refine b8 (of_decide_eq_true (by kernel_rfl)) ?_)); (try simp (maxSteps := 4000000) (disch := omega) [gw, eS]); (repeat rw [if_pos (by kernel_rfl)]); (try simp (maxSteps := 4000000) (disch := omega) [gw, eS])
 refine W.lx [3, 4, 5] ?_; simp
 refine W.seq ?_
 refine W.sr ?_
 simp (disch := omega) [gw]
 refine aA k3 ?_
 simp (disch := omega) [gw]
 refine W.lx [3, 4, 5, 6] ?_; simp
 refine W.block ?_
 refine W.sr ?_; simp (disch := omega) [gw]; refine W.lx [3, 4, 5, 6, 36] ?_; simp
 refine W.cond ⟨_, rfl, fun h => ?_, fun h => ?_⟩
 ·simp at h
  rw [if_pos h] at hr; subst hr
  refine W.sr ?_; simp (disch := omega) [gw]; refine W.lx [2] ?_; simp
  refine W.ret ?_
  simp [go]
 ·simp at h
  rw [if_neg (by omega)] at hr
  refine W.sr ?_; simp (disch := omega) [gw]; refine W.lx [3, 4, 5, 39] ?_; simp
  refine W.cond ⟨_, rfl, fun h => ?_, fun h => ?_⟩
  ·simp at h
   rw [if_pos h] at hr; subst hr
   refine W.sr ?_
   simp (disch := omega) [gw]
   refine aA k6 ?_
   simp (disch := omega) [gw]
   refine W.lx [2] ?_; simp
   refine W.ret ?_
   simp [go]
  ·simp at h
   rw [if_neg h] at hr; subst hr
   refine W.skip ?_
   refine W.sd ?_
   simp (disch := omega) [gw]
   refine aA k4 ?_
   simp (disch := omega) [gw]
   refine aA k5 ?_
   simp (disch := omega) [gw]
   refine W.lx [2] ?_; simp
   refine W.ret ?_
   simp [go]
end
theorem mP.valid {s n : Nat} {f : ZX} (I : mP s n f) {u : Nat} {p : Rat × Rat} (A : oJ f (vt (bC f)) p.1 p.2) (hN : 2 ≤ ZX.N f) (q1 : SQ u p.1) (q2 : SQ u p.2) (hu : u ≤ 1000000000) : aK env.P 38 [GA f p] (.bool true) := by
 have hN' := I.ch.bz.N
 have hn := I.ch.hn
 have hx : f.l.length < 1000000 := by show ZX.N f < _; omega
 have f2 := n3 I.lay I.s1
 rw [I.nf.nfe] at f2
 have hnl : nl f = 1 := (aj1 f).2 ⟨hN, by rw [I.gz1, ZX.AA]; omega⟩
 have QG : (fl f).length = 1 := by rw [ajw, hnl]
 have k1 := q1.R6 hu
 have k2 := q2.R6 hu
 have k3 := j7 p.1 p.2 (q1.yy hu) (q2.yy hu)
 have k5 := I.uB q1 q2 hu
 have k6 := I.agR q1 hu
 rw [cG] at k1 k2 k6
 rw [cG, cG] at k3 k5
 refine VJ hx I.agQ f2 k1 k2 k3 I.GI k5 k6 hN QG ?_
 rw [if_neg (by rw [qO]; have := A.le; grind)]
 rcases A.k with ⟨h1, h2⟩ | ⟨h1, h2⟩
 ·rw [if_pos (nB.2 h1), h2, lG]; rfl
 ·rw [if_neg (fun h => by rw [nB] at h; grind), if_neg (by grind)]
  have : (vt (bC f) p.1 : Int) - vt (bC f) p.2 = 1 := by omega
  rw [this]; rfl
theorem sqf {f : ZX} (h0 : f ≠ 0) (hc : DW f (bM f)) (hN : ZX.N f ≤ 20) : wX f (vt (bC f)) := by
 have hg : gz f (bM f) = 1 := (QZ (.inl h0)).N1 (hc _ (gP _ _).l (gP _ _).r)
 refine ⟨h0, hc, _, ⟨fun B hB => ?_⟩, rfl⟩
 obtain ⟨s, hs⟩ := AW f.l
 obtain ⟨β, hβ⟩ := KI B
 have hb : BZ (s + 1 + 5) 20 f := ⟨hN, fun c hc => cO (by decide) (by
  have h1 := hs c hc
  have h2 : 2 ^ s < 2 ^ (s + 1 + 5) := Nat.pow_lt_pow_right (by decide) (by omega)
  omega)⟩
 have TO : BZ (s + 1) 20 f := ⟨hN, fun c hc => cO (by decide) (by
  have h1 := hs c hc
  have h2 : 2 ^ s < 2 ^ (s + 1) := Nat.pow_lt_pow_right (by decide) (by omega)
  omega)⟩
 have bd : BZ (s + 1 + 5) 20 (bM f) := TO.bM (by decide)
 have hND := l6 f
 have hP1 : ZX.N (oI (bM f)) ≤ ZX.N (bM f) := j6 _
 obtain ⟨δ, h1, h2⟩ := vC (jb ((s + 1 + 5 + 20 + 1) * 2 * 4 ^ 20) 20 β)
 refine ⟨δ, h1, Lcl.mono (RS (s := s + 1) (n := 20) (by decide) h0 hb ?_ (gX bd) hg (by rw [h2]; exact Rat.le_refl)) hβ⟩
 unfold xT
 split
 ·have : (4 : Nat) ^ ZX.N f ≤ 4 ^ 20 := Nat.pow_le_pow_right (by decide) hN
  exact Nat.mul_le_mul (by omega) this
 ·have : (4 : Nat) ^ ZX.N (oI (bM f)) ≤ 4 ^ 20 := Nat.pow_le_pow_right (by decide) (by omega)
  exact Nat.mul_le_mul (Nat.le_refl _) this
structure pU (f h g w : ZX) : Prop where
 eq : f = w * g
 ng : Nf g
 nw : Nf w
 wg : DW w g
 wh : DW w h
 gd : dv g h
 sg : DW g (bM g)
 sw : DW w (bM w)
theorem A4 {f h : ZX} (nf : Nf f) (hc : DW f (bM f)) : ∃ w, pU f h (gz f h) w := by
 have ng : Nf (gz f h) := QZ (.inl nf.ne)
 obtain ⟨w, nw, e⟩ := nf.quo ng (gP f h).l
 have hd : bM f = bM w * gz f h + w * bM (gz f h) := by
  have h1 := congrArg bM e
  rwa [tN] at h1
 have dwf : dv w f := by rw [e]; exact (dv.refl w).mul_right _
 have dgf : dv (gz f h) f := (gP f h).l
 have wg : DW w (gz f h) := fun d h1 h2 => hc d (h1.trans dwf) (by rw [hd]; exact (h2.mul_left _).add (h1.mul_right _))
 exact ⟨w, e, ng, nw, wg, fun d h1 h2 => wg d h1 ((gP f h).least (h1.trans dwf) h2), (gP f h).r,
  fun d h1 h2 => hc d (h1.trans dgf) (by rw [hd]; exact (h1.mul_left _).add (h2.mul_left _)), fun d h1 h2 => hc d (h1.trans dwf) (by rw [hd]; exact (h2.mul_right _).add (h1.mul_right _))⟩
theorem pU.N {f h g w : ZX} (S : pU f h g w) : ZX.N w ≤ ZX.N f ∧ ZX.N g ≤ ZX.N f := by
 have h1 := jH S.nw.ne S.ng.ne
 rw [← S.eq] at h1
 have := ZX.aG.1 S.nw.ne
 have := ZX.aG.1 S.ng.ne
 omega
theorem pU.cnt {f h g w : ZX} (S : pU f h g w) {v γ φ : Rat → Nat} (hv : wX f v) (hg : wX g γ) (hw : wX w φ) {s t : Rat} (lK : s ≤ t) : v s + γ t + φ t = v t + γ s + φ s := by
 have e : K 1 * f = w * g := by rw [← S.eq]; show (1 : ZX) * f = f; grind
 have := hv.mul hw hg (by decide) e S.wg lK
 omega
theorem abj {f h : ZX} {v w : Rat → Nat} (hv : wX f v) (hw : wX h w) (hc : DW f h) {s n l β : Nat} (hA : ∀ c ∈ f.l, c.natAbs ≤ 2 ^ s) (hB : ∀ c ∈ h.l, c.natAbs ≤ 2 ^ s) (hn : ZX.N f + ZX.N h ≤ n) (hl : n ≤ 2 ^ l)
  {a b : Rat} (ha : Ab a (2 ^ β)) (hb : Ab b (2 ^ β)) (fP : a < b) (hd : (b - a) * 2 ^ (sk s n l β + (s + n * (β + 2)) + 1) ≤ 1) : v a = v b ∨ w a = w b := by
 refine Classical.byContradiction fun VD => ?_
 have agU := not_or.1 VD
 have hQ := gQ (s + n * (β + 2))
 have hlf : ∀ p : ZX, (∀ c ∈ p.l, c.natAbs ≤ 2 ^ s) → ZX.N p ≤ n → ∀ x y, a ≤ x → x ≤ y → y ≤ b → Ab (e y p - e x p) ((y - x) * 2 ^ (s + n * (β + 2))) := fun p hp hN x y h1 h2 h3 => by
  have g1 := (aa6 hp hN (eM ha hb h1 (by grind)) (eM ha hb (show a ≤ y by grind) h3)).1
  have g2 := lH x y p.l
  have g3 : e y p - e x p = qv y p.l - qv x p.l := rfl
  rw [g3, g2]
  exact Ab.mul ⟨by grind, Rat.le_refl⟩ g1
 have b1 := hv.small fP agU.1 hQ (hlf f hA (by omega)) Rat.le_refl (Rat.le_of_lt fP)
 have b2 := hw.small fP agU.2 hQ (hlf h hB (by omega)) Rat.le_refl (Rat.le_of_lt fP)
 obtain ⟨ε, h3, h4⟩ := vC (sk s n l β)
 have h5 := sep hv.ne hw.ne hA hB hn hl hc ha (ε := ε) (by rw [h4]; exact Rat.le_refl)
 rw [n5, n5] at hd
 have hK := gQ (sk s n l β)
 generalize (2 : Rat) ^ sk s n l β = κ at *
 generalize (2 : Rat) ^ (s + n * (β + 2)) = Q at *
 have e2 : (2 : Rat) ^ 1 = 2 := by rw [Rat.pow_succ, Rat.pow_zero]; grind
 rw [e2] at hd
 have h6 : (b - a) * Q * 2 ≤ ε := by
  have h7 : (b - a) * (κ * Q * 2) = (b - a) * Q * 2 * κ := by grind
  rw [h7, ← h4] at hd
  exact Rat.le_of_mul_le_mul_right hd hK
 have h8 : 0 ≤ (b - a) * Q := Rat.mul_nonneg (by grind) (Rat.le_of_lt hQ)
 obtain ⟨p1, p2⟩ := b1
 obtain ⟨p3, p4⟩ := b2
 rcases h5 with (h5 | h5) | (h5 | h5) <;> grind
theorem aeI {f h : ZX} {v w : Rat → Nat} (hv : wX f v) (hw : wX h w) (hc : DW f h) (B : Rat) : ∃ δ : Rat, 0 < δ ∧ ∀ a b, Ab a B → Ab b B → a < b → b - a ≤ δ → v a = v b ∨ w a = w b := by
 obtain ⟨s1, h1⟩ := AW f.l
 obtain ⟨s2, h2⟩ := AW h.l
 obtain ⟨β, hβ⟩ := KI B
 obtain ⟨δ, h3, h4⟩ := vC (sk (s1 + s2) (ZX.N f + ZX.N h) (ZX.N f + ZX.N h) β + (s1 + s2 + (ZX.N f + ZX.N h) * (β + 2)) + 1)
 refine ⟨δ, h3, fun a b ha hb fP hd => abj hv hw hc (s := s1 + s2) (l := ZX.N f + ZX.N h) (β := β) (fun c hc => Nat.le_trans (h1 c hc) (Nat.pow_le_pow_right (by decide) (by omega))) (fun c hc => Nat.le_trans (h2 c hc) (Nat.pow_le_pow_right (by decide) (by omega))) (Nat.le_refl _) (Nat.le_of_lt Nat.lt_two_pow_self) (ha.mono hβ) (hb.mono hβ) fP ?_⟩
 rw [← h4]
 exact Rat.mul_le_mul_of_nonneg_right hd (Rat.le_of_lt (gQ _))
section
variable {f : ZX} {v : Rat → Nat} {lo hi : Rat} (A : oJ f v lo hi)
include A
theorem n9 {s t : Rat} (h1 : ¬ gH v lo hi s) (h2 : gH v lo hi t) (lK : s < t) : v t < v s := by
 have g1 : s < hi := Rat.not_le.1 fun h => h1 (.inl h)
 rcases A.k with ⟨rfl, h0⟩ | ⟨eX, hk⟩
 ·have h3 : lo ≤ t := by rcases h2 with h | h <;> grind
  have h4 := A.S.root g1 h0
  have h5 := A.S.dM h3
  omega
 ·have h3 : v lo ≤ v s := by
   by_cases h : s ≤ lo
   ·exact A.S.dM h
   ·exact Nat.not_lt.1 fun h4 => h1 (.inr ⟨by grind, h4⟩)
  rcases h2 with h | ⟨_, h⟩
  ·have := A.S.dM h; omega
  ·omega
theorem R8 {s t : Rat} (h1 : ¬ gH v lo hi s) (h2 : gH v lo hi t) (hv : v s = v t + 1) {x : Rat} (hx : s ≤ x) (hy : x ≤ t) : gH v lo hi x ↔ v x < v s := by
 refine ⟨fun h => ?_, fun h => ?_⟩
 ·refine n9 A h1 h ?_
  rcases Rat.le_iff_lt_or_eq.1 hx with h3 | rfl
  ·exact h3
  ·exact absurd h h1
 ·refine Classical.byContradiction fun h3 => ?_
  have h4 : x < t := by
   rcases Rat.le_iff_lt_or_eq.1 hy with h4 | rfl
   ·exact h4
   ·exact absurd h2 h3
  have := n9 A h3 h2 h4
  omega
end
theorem OW {U : Rat → Prop} {δ : Rat} (hδ : 0 < δ) : ∀ (n : Nat) (s t : Rat), s < t → ¬ U s → U t → t - s ≤ δ * 2 ^ n → ∃ a b, s ≤ a ∧ a < b ∧ b ≤ t ∧ b - a ≤ δ ∧ ¬ U a ∧ U b
 | 0, s, t, h, h1, h2, hd => ⟨s, t, Rat.le_refl, h, Rat.le_refl, by rwa [Rat.pow_zero, Rat.mul_one] at hd, h1, h2⟩
 | n + 1, s, t, h, h1, h2, hd => by
  obtain ⟨m1, m2⟩ := vD h
  obtain ⟨d1, d2⟩ := uA hd
  generalize (s + t) / 2 = m at *
  by_cases hm : U m
  ·obtain ⟨a, b, g1, g2, g3, g4⟩ := OW hδ n s m m1 h1 hm d1
   exact ⟨a, b, g1, g2, by grind, g4⟩
  ·obtain ⟨a, b, g1, g2, g3, g4⟩ := OW hδ n m t m2 hm h2 d2
   exact ⟨a, b, by grind, g2, g3, g4⟩
theorem aeJ {U : Rat → Prop} {δ : Rat} (hδ : 0 < δ) {s t : Rat} (h : s < t) (h1 : ¬ U s) (h2 : U t) : ∃ a b, s ≤ a ∧ a < b ∧ b ≤ t ∧ b - a ≤ δ ∧ ¬ U a ∧ U b := by
 obtain ⟨n, hn⟩ := KI ((t - s) / δ)
 refine OW hδ n s t h h1 h2 ?_
 have h3 : (t - s) / δ * δ = t - s := Rat.div_mul_cancel (Rat.ne_of_gt hδ)
 have h4 := Rat.mul_le_mul_of_nonneg_right hn (Rat.le_of_lt hδ)
 grind
section
variable {f h : ZX} {v w : Rat → Nat} {lo hi KY kQ : Rat} (A : oJ f v lo hi) (B : oJ h w KY kQ)
include A B
theorem KP {g w1 w2 : ZX} {γ φ η : Rat → Nat} (S1 : pU f h g w1) (S2 : pU h f g w2) (hg : wX g γ) (h1 : wX w1 φ) (h2 : wX w2 η) {s t : Rat} (lK : s < t) (a1 : ¬ gH v lo hi s) (a2 : gH v lo hi t) (b1 : ¬ gH w KY kQ s) (b2 : gH w KY kQ t) (hv : v s ≤ v t + 1) (hw : w s ≤ w t + 1) (hγ : γ t < γ s) :
  ∀ x, gH v lo hi x ↔ gH w KY kQ x := fun x => by
 have c1 := n9 A a1 a2 lK
 have c2 := n9 B b1 b2 lK
 have e1 : v s = v t + 1 := by omega
 have e2 : w s = w t + 1 := by omega
 have k1 := S1.cnt A.S hg h1 (Rat.le_of_lt lK)
 have k2 := S2.cnt B.S hg h2 (Rat.le_of_lt lK)
 by_cases hx : x < s
 ·exact ⟨fun hh => absurd (A.up hh (Rat.le_of_lt hx)) a1, fun hh => absurd (B.up hh (Rat.le_of_lt hx)) b1⟩
 ·by_cases hy : t < x
  ·exact ⟨fun _ => B.up b2 (Rat.le_of_lt hy), fun _ => A.up a2 (Rat.le_of_lt hy)⟩
  ·have CC := Rat.not_lt.1 hx
   have BF := Rat.not_lt.1 hy
   rw [R8 A a1 a2 e1 CC BF, R8 B b1 b2 e2 CC BF]
   have q1 := S1.cnt A.S hg h1 CC
   have q2 := S2.cnt B.S hg h2 CC
   have r1 := h1.dM CC
   have r2 := h2.dM CC
   have r3 := h1.dM BF
   have r4 := h2.dM BF
   have m1 := hg.dM (Rat.le_of_lt lK)
   have m2 := h1.dM (Rat.le_of_lt lK)
   have m3 := h2.dM (Rat.le_of_lt lK)
   omega
end
theorem abk {q : Rat} {V : Rat → Prop} (hV : ∀ s t, V s → s ≤ t → V t) : cu (fun t => q ≤ t) V = -cr V q := by
 by_cases h : V q
 ·by_cases h2 : ∃ s, s < q ∧ V s
  ·rw [(AX hV).2 h2]
   unfold cu
   obtain ⟨s, h3, h4⟩ := h2
   rw [if_neg (fun ⟨t, h5, h6⟩ => h6 (hV q t h h5)), if_pos ⟨s, h4, by grind⟩]
   rfl
  ·rw [yA.2 ⟨h, fun s h3 h4 => h2 ⟨s, h3, h4⟩⟩]
   unfold cu
   rw [if_neg (fun ⟨t, h5, h6⟩ => h6 (hV q t h h5)), if_neg (fun ⟨t, h5, h6⟩ => h2 ⟨t, by grind, h5⟩)]
   rfl
 ·rw [n6.2 h]
  unfold cu
  rw [if_pos ⟨q, Rat.le_refl, h⟩]
theorem VK {q : Rat} {U : Rat → Prop} (hU : ∀ s t, U s → s ≤ t → U t) : cu U (fun t => q ≤ t) = cr U q := by
 by_cases h : U q
 ·by_cases h2 : ∃ s, s < q ∧ U s
  ·rw [(AX hU).2 h2]
   unfold cu
   obtain ⟨s, h3, h4⟩ := h2
   rw [if_pos ⟨s, h4, by grind⟩]
  ·rw [yA.2 ⟨h, fun s h3 h4 => h2 ⟨s, h3, h4⟩⟩]
   unfold cu
   rw [if_neg (fun ⟨t, h5, h6⟩ => h2 ⟨t, by grind, h5⟩), if_neg (fun ⟨t, h5, h6⟩ => h6 (hU q t h h5))]
 ·rw [n6.2 h]
  unfold cu
  rw [if_neg (fun ⟨t, h5, h6⟩ => h (hU t q h5 (by grind))), if_pos ⟨q, Rat.le_refl, h⟩]
theorem nC {U U' V V' : Rat → Prop} (h1 : ∀ t, U t ↔ U' t) (h2 : ∀ t, V t ↔ V' t) : cu U V = cu U' V' := by
 have e1 : U = U' := funext fun t => propext (h1 t)
 have e2 : V = V' := funext fun t => propext (h2 t)
 rw [e1, e2]
theorem R9 {f : ZX} {p : Rat × Rat} (h : p.1 = p.2) (t : Rat) : cX f p t ↔ p.1 ≤ t := by
 refine ⟨fun h1 => ?_, fun h1 => .inl (h ▸ h1)⟩
 rcases h1 with h1 | ⟨h1, _⟩
 ·rw [h]; exact h1
 ·grind
theorem apG {h : ZX} {w : Rat → Nat} {lo hi KY kQ : Rat} {v : Rat → Nat} (B : oJ h w KY kQ) (h1 : hi ≤ KY) (h2 : KY < kQ) : cu (gH v lo hi) (gH w KY kQ) = -1 := by
 unfold cu
 rw [if_pos ⟨hi, kO, B.n7 (by grind)⟩]
theorem apH {f h : ZX} {v w : Rat → Nat} {lo hi KY kQ : Rat} (A : oJ f v lo hi) (B : oJ h w KY kQ) (h1 : kQ ≤ lo) (h2 : lo < hi) : cu (gH v lo hi) (gH w KY kQ) = 1 := by
 have h3 : ¬ gH v lo hi kQ := A.n7 (by grind)
 have h4 : ¬ ∃ t, gH v lo hi t ∧ ¬ gH w KY kQ t := fun ⟨t, h4, h5⟩ => h5 (B.up kO (Rat.not_lt.1 fun h6 => h3 (A.up h4 (Rat.le_of_lt h6))))
 unfold cu
 rw [if_neg h4, if_pos ⟨kQ, kO, h3⟩]
structure Two (s n : Nat) (f h : ZX) : Prop where
 nf : Nf f
 nh : Nf h
 cf : DW f (bM f)
 ch : DW h (bM h)
 af : ∀ c ∈ f.l, c.natAbs ≤ 2 ^ s
 ah : ∀ c ∈ h.l, c.natAbs ≤ 2 ^ s
 Nf : ZX.N f ≤ n
 Nh : ZX.N h ≤ n
 hn : n ≤ 20
 hs : n + 1 ≤ 2 ^ s
namespace Two
variable {s n : Nat} {f h : ZX} (T : Two s n f h)
include T
theorem Sf : wX f (vt (bC f)) := sqf T.nf.ne T.cf (Nat.le_trans T.Nf T.hn)
theorem Sh : wX h (vt (bC h)) := sqf T.nh.ne T.ch (Nat.le_trans T.Nh T.hn)
end Two
def kc (s n β : Nat) : Nat := lk s n 5 β + (sk (qb (s + 1) n) (n + n) 6 β + (qb (s + 1) n + (n + n) * (β + 2)) + 1)
theorem apI {s n β : Nat} (hn : n ≤ 20) : kc s n β ≤ 1722 * s + 140 * β + 9000 := by
 have h1 : (n + n) * (s + 5 + 1 + (5 + 1)) ≤ 40 * (s + 12) := Nat.mul_le_mul (by omega) (by omega)
 have h2 : (n + n) * (β + 2) ≤ 40 * (β + 2) := Nat.mul_le_mul (by omega) (by omega)
 have h3 : n * (β + 2) ≤ 20 * (β + 2) := Nat.mul_le_mul hn (by omega)
 have h4 : n * (2 * (s + 1) + 5) ≤ 20 * (2 * (s + 1) + 5) := Nat.mul_le_mul hn (by omega)
 have h5 : qb (s + 1) n ≤ 41 * s + 150 := by unfold qb; omega
 have h6 : (n + n) * (qb (s + 1) n + 1 + 6) ≤ 40 * (41 * s + 157) := Nat.mul_le_mul (by omega) (by omega)
 unfold kc lk sk
 omega
theorem auJ {s n : Nat} {f h g w : ZX} (S : pU f h g w) (hf : f ≠ 0) (hA : ∀ c ∈ f.l, c.natAbs ≤ 2 ^ s) (hN : ZX.N f ≤ n) (hs : n + 1 ≤ 2 ^ s) : ∀ c ∈ w.l, c.natAbs ≤ 2 ^ qb (s + 1) n := fun c hc => by
 have hb : Bd 2 (s + 1) n f.l := ⟨hN, fun c hc => cO (by decide) (by
  have h1 := hA c hc
  have h2 : 2 ^ s < 2 ^ (s + 1) := Nat.pow_lt_pow_right (by decide) (by omega)
  omega)⟩
 have h1 := aan (a := f) (w := g) (g := w) hf (by rw [S.eq, ZX.DG]) hb (Nat.le_trans hs (Nat.pow_le_pow_right (by decide) (by omega)))
 have h2 := kY (b := 2) (by decide) c
 have h3 := Nat.pow_le_pow_right (show 0 < 2 by decide) (h1.sz c hc)
 unfold qb
 omega
theorem VL {s n β : Nat} {f h : ZX} {p q : Rat × Rat} (T : Two s n f h) (A : oJ f (vt (bC f)) p.1 p.2) (B : oJ h (vt (bC h)) q.1 q.2) (h1 : p.1 < p.2) (h2 : q.1 < q.2) (h3 : p.1 < q.2) (h4 : q.1 < p.2)
  (a1 : Ab p.1 (2 ^ β)) (a2 : Ab p.2 (2 ^ β)) (b1 : Ab q.1 (2 ^ β)) (b2 : Ab q.2 (2 ^ β)) {W : Rat} (w1 : p.2 - p.1 ≤ W) (w2 : q.2 - q.1 ≤ W) (hW : 2 * W * 2 ^ kc s n β ≤ 1) : ∀ x, cX f p x ↔ cX h q x := by
 obtain ⟨S, hS, hS1, hS2⟩ : ∃ S, (S = p.1 ∨ S = q.1) ∧ S ≤ p.1 ∧ S ≤ q.1 := by
  by_cases hh : p.1 ≤ q.1
  ·exact ⟨p.1, .inl rfl, Rat.le_refl, hh⟩
  ·exact ⟨q.1, .inr rfl, by grind, Rat.le_refl⟩
 obtain ⟨E, hE, hE1, hE2⟩ : ∃ E, (E = p.2 ∨ E = q.2) ∧ p.2 ≤ E ∧ q.2 ≤ E := by
  by_cases hh : p.2 ≤ q.2
  ·exact ⟨q.2, .inr rfl, hh, Rat.le_refl⟩
  ·exact ⟨p.2, .inl rfl, Rat.le_refl, by grind⟩
 have aS : Ab S (2 ^ β) := by rcases hS with rfl | rfl <;> assumption
 have aE : Ab E (2 ^ β) := by rcases hE with rfl | rfl <;> assumption
 have SA : S < E := by grind
 have hd : E - S ≤ 2 * W := by rcases hS with rfl | rfl <;> rcases hE with rfl | rfl <;> grind
 have ZM : 0 ≤ E - S := by grind
 have hdK : (E - S) * 2 ^ kc s n β ≤ 1 := Rat.le_trans (Rat.mul_le_mul_of_nonneg_right hd (Rat.le_of_lt (gQ _))) hW
 have lt1 : ∀ k, k ≤ kc s n β → (E - S) * 2 ^ k ≤ 1 := fun k hk => Rat.le_trans (Rat.mul_le_mul_of_nonneg_left (RX hk) ZM) hdK
 obtain ⟨Lf, _⟩ := (show ∃ L, xG L f ∧ vt (bC f) = vt L from T.Sf.g)
 have qQ : ∀ x : ZX, wX x (vt (bC x)) → x ≠ 0 → (∀ c ∈ x.l, c.natAbs ≤ 2 ^ s) → ZX.N x ≤ n → vt (bC x) S ≤ vt (bC x) E + 1 := fun x hx h0 hA hN => by
  obtain ⟨L, G, e⟩ := hx.g
  obtain ⟨g1, _⟩ := vB G (s := s) (n := n) (l := 5) (β := β) h0 hA hN (by have := T.hn; omega) hx.cop (δ := E - S) (lt1 _ (by unfold kc; omega))
  have := g1.turns S E aS aE SA Rat.le_refl
  rw [e]
  rcases OP x S E with h5 | h5 <;> omega
 have nF := qQ f T.Sf T.nf.ne T.af T.Nf
 have nH := qQ h T.Sh T.nh.ne T.ah T.Nh
 obtain ⟨w1', S1⟩ := A4 (h := h) T.nf T.cf
 obtain ⟨w2', S2⟩ := A4 (h := f) T.nh T.ch
 rw [← xQ] at S2
 have TX := T.hn
 have n1 := S1.N
 have n2 := S2.N
 have hTN := T.Nf
 have auK := T.Nh
 have hg := sqf S1.ng.ne S1.sg (by omega)
 have KZ := sqf S1.nw.ne S1.sw (by omega)
 have hw2 := sqf S2.nw.ne S2.sw (by omega)
 have c1 : ¬ cX f p S := A.n7 (by grind)
 have c2 : cX f p E := A.up kO hE1
 have c3 : ¬ cX h q S := B.n7 (by grind)
 have c4 : cX h q E := B.up kO hE2
 have o1 := n9 A c1 c2 SA
 have o2 := n9 B c3 c4 SA
 have k1 := S1.cnt T.Sf hg KZ (Rat.le_of_lt SA)
 have mF := auJ S1 T.nf.ne T.af T.Nf T.hs
 have hno := abj KZ T.Sh S1.wh (s := qb (s + 1) n) (n := n + n) (l := 6) (β := β) mF (fun c hc => Nat.le_trans (T.ah c hc) (Nat.pow_le_pow_right (by decide) (by unfold qb; omega))) (by omega) (by omega) aS aE SA (lt1 _ (by unfold kc; omega))
 have m0 := hg.dM (Rat.le_of_lt SA)
 refine KP A B S1 S2 hg KZ hw2 SA c1 c2 c3 c4 nF nH ?_
 rcases hno with hno | hno
 ·omega
 ·omega
theorem VM {s n : Nat} {f h : ZX} {p q : Rat × Rat} (T : Two s n f h) (A : oJ f (vt (bC f)) p.1 p.2) (B : oJ h (vt (bC h)) q.1 q.2) (h1 : p.1 < p.2) (h2 : q.1 < q.2) (h3 : ¬ cX f p q.1) (h4 : cX f p q.2) (hz : vt (bC (gz h f)) p.2 < vt (bC (gz h f)) p.1) : ∀ x, cX f p x ↔ cX h q x := by
 rw [xQ] at hz
 obtain ⟨w1', S1⟩ := A4 (h := h) T.nf T.cf
 obtain ⟨w2', S2⟩ := A4 (h := f) T.nh T.ch
 rw [← xQ] at S2
 have TX := T.hn
 have n1 := S1.N
 have n2 := S2.N
 have hTN := T.Nf
 have auK := T.Nh
 have hg := sqf S1.ng.ne S1.sg (by omega)
 have KZ := sqf S1.nw.ne S1.sw (by omega)
 have hw2 := sqf S2.nw.ne S2.sw (by omega)
 have hv : vt (bC f) p.1 = vt (bC f) p.2 + 1 := by
  rcases A.k with ⟨g, _⟩ | ⟨_, g⟩
  ·grind
  ·exact g
 have hw : vt (bC h) q.1 = vt (bC h) q.2 + 1 := by
  rcases B.k with ⟨g, _⟩ | ⟨_, g⟩
  ·grind
  ·exact g
 have ZC : q.1 < p.2 := Rat.not_le.1 fun hh => h3 (.inl hh)
 have hq2 : p.1 < q.2 := Rat.not_le.1 fun hh => (A.n7 (show q.2 < p.1 ∨ (q.2 = p.1 ∧ p.1 < p.2) by grind)) h4
 obtain ⟨S, hS, hS1, hS2⟩ : ∃ S, (S = p.1 ∨ S = q.1) ∧ p.1 ≤ S ∧ q.1 ≤ S := by
  by_cases hh : p.1 ≤ q.1
  ·exact ⟨q.1, .inr rfl, hh, Rat.le_refl⟩
  ·exact ⟨p.1, .inl rfl, Rat.le_refl, by grind⟩
 obtain ⟨E, hE, hE1, hE2⟩ : ∃ E, (E = p.2 ∨ E = q.2) ∧ E ≤ p.2 ∧ E ≤ q.2 := by
  by_cases hh : p.2 ≤ q.2
  ·exact ⟨p.2, .inl rfl, Rat.le_refl, hh⟩
  ·exact ⟨q.2, .inr rfl, by grind, Rat.le_refl⟩
 have SA : S < E := by rcases hS with rfl | rfl <;> rcases hE with rfl | rfl <;> assumption
 have c1 : ¬ cX f p S := by
  rcases hS with rfl | rfl
  ·exact A.n7 (.inr ⟨rfl, h1⟩)
  ·exact h3
 have c2 : cX f p E := by
  rcases hE with rfl | rfl
  ·exact kO
  ·exact h4
 have o1 := n9 A c1 c2 SA
 have v1 := T.Sf.dM hS1
 have v2 := T.Sf.dM hE1
 have k1 := S1.cnt T.Sf hg KZ hS1
 have k2 := S1.cnt T.Sf hg KZ hE1
 have k3 := S1.cnt T.Sf hg KZ (Rat.le_of_lt SA)
 have k4 := S2.cnt T.Sh hg hw2 (Rat.le_of_lt SA)
 have a1 := hg.dM hS1
 have a2 := hg.dM hE1
 have a3 := KZ.dM hS1
 have a4 := KZ.dM hE1
 have a5 := hw2.dM (Rat.le_of_lt SA)
 have a6 := KZ.dM (Rat.le_of_lt SA)
 have u1 := T.Sh.dM hS2
 have u2 := T.Sh.dM hE2
 have c3 : ¬ cX h q S := fun hh => by
  rcases hh with hh | ⟨_, hh⟩
  ·have := T.Sh.dM hh; omega
  ·omega
 have c4 : cX h q E := .inr ⟨by grind, by omega⟩
 exact KP A B S1 S2 hg KZ hw2 SA c1 c2 c3 c4 (by omega) (by omega) (by omega)
theorem VN {s n : Nat} {f h : ZX} {p q : Rat × Rat} (T : Two s n f h) (A : oJ f (vt (bC f)) p.1 p.2) (B : oJ h (vt (bC h)) q.1 q.2) (h1 : p.1 < p.2) (hx : ∀ x, cX f p x ↔ cX h q x) : vt (bC (gz h f)) p.2 < vt (bC (gz h f)) p.1 := by
 rw [xQ]
 obtain ⟨w1', S1⟩ := A4 (h := h) T.nf T.cf
 have TX := T.hn
 have n1 := S1.N
 have hTN := T.Nf
 have hg := sqf S1.ng.ne S1.sg (by omega)
 have KZ := sqf S1.nw.ne S1.sw (by omega)
 obtain ⟨B0, hB0, ab1, ab2⟩ := sF p.1 p.2
 obtain ⟨δ, hδ, hno⟩ := aeI KZ T.Sh S1.wh B0
 obtain ⟨a, b, g1, g2, g3, g4, g5, g6⟩ := aeJ (U := cX f p) hδ h1 (A.n7 (.inr ⟨rfl, h1⟩)) kO
 have o1 := n9 A g5 g6 g2
 have o2 := n9 B (fun hh => g5 ((hx _).2 hh)) ((hx _).1 g6) g2
 have k1 := S1.cnt T.Sf hg KZ (Rat.le_of_lt g2)
 have a1 := hg.dM g1
 have a2 := hg.dM g3
 rcases hno a b (eM ab1 ab2 g1 (by grind)) (eM ab1 ab2 (by grind) g3) g2 g4 with hh | hh
 ·omega
 ·omega
end Go.Proofs.YtbbjgncblhfegaaGreat
namespace Go.Proofs.YtbbjgncblhfegaaGreat
open Go Pm
open ZX hiding N W
theorem aj3 {a : ZX} (na : Nf a) (hc : DW a (bM a)) : sq a = a := by
 obtain ⟨g, hg⟩ := iH _ a (bM a) (Nat.le_refl _)
 have h0 := hg.ne (.inl na.ne)
 have h1 := hc g hg.l hg.r
 have h2 := ZX.aG.1 h0
 obtain ⟨k, hk, rfl⟩ := m9 (show ZX.N g = 1 by omega)
 obtain ⟨c, uW, u, v, e⟩ := hg.uv
 rw [m8] at e
 exact aes na (Int.mul_ne_zero uW hk) e.symm
abbrev uM (x : List Int) (c : List ZX) (an ad bn bd : Int) : List PV := [PI x, aI zq c, aI aD (aR DD an.natAbs), .bool (decide (an < 0)), aI aD (aR DD ad.natAbs), .bool (decide (ad < 0)), aI aD (aR DD bn.natAbs), .bool (decide (bn < 0)), aI aD (aR DD bd.natAbs), .bool (decide (bd < 0))]
theorem pV {f : ZX} {c : List ZX} {p : Rat × Rat} : QA f c p = .ag (uM f.l c p.1.num p.1.den p.2.num p.2.den) := rfl
theorem D1 {y x g : List Int} {c cg : List ZX} {an ad bn bd σ b : Int} {pt z : Bool} (hl : y.length < 1000000) (hg : g.length < 1000000) (p1 : aK env.P 113 [.ag (uM x c an ad bn bd)] (.bool pt)) (k1 : pt = true → aK env.P 107 [PI y, R2 an ad] (.int .i64 σ)) (k2 : aK env.P 171 [PI y, PI x] (PI g))
  (k3 : 2 ≤ g.length → aK env.P 57 [PI g] (aI zq cg)) (k4 : 2 ≤ g.length → aK env.P 59 [aI zq cg, R2 an ad, R2 bn bd] (.int .i64 b)) (hz : z = if y.length = 0 then true else if pt = true then σ == 0 else if g.length < 2 then false else decide (0 < b)) :
  aK env.P 114 [PI y, .ag (uM x c an ad bn bd)] (.bool z) := by
 simp only [uM] at p1 ⊢
 refine aB (E := env) (fun _ => 0) [(0, PI y), (1, .ag [PI x, aI zq c, aI aD (aR DD an.natAbs), .bool (decide (an < 0)), aI aD (aR DD ad.natAbs), .bool (decide (ad < 0)), aI aD (aR DD bn.natAbs), .bool (decide (bn < 0)), aI aD (aR DD bd.natAbs), .bool (decide (bd < 0))])] Tryz.func114 rfl (by kernel_rfl) (by kernel_rfl) (show 2 ≤ 31 by decide) (by simp) ?_
 refine W.sr ?_; simp (disch := omega) [gw]; refine W.lx [0, 3] ?_; simp
 refine W.seq ?_
 refine W.sr ?_; simp (disch := omega) [gw]; refine W.lx [0, 3, 8] ?_; simp
 refine W.cond ⟨_, rfl, fun h => ?_, fun h => ?_⟩
 ·have hy : y.length = 0 := by simp at h; simp [h]
  rw [if_pos hy] at hz; subst hz
  refine W.sr ?_; simp (disch := omega) [gw]; refine W.lx [4] ?_; simp
  refine W.ret ?_
  simp [go]
 ·have hy : ¬ y.length = 0 := by simp at h; simp [h]
  rw [if_neg hy] at hz
  refine W.skip ?_
  refine W.seq ?_
  refine W.sr ?_
  simp (disch := omega) [gw]
  refine aA p1 ?_
  simp (disch := omega) [gw]
  refine W.lx [0, 3, 10] ?_; simp
  refine W.cond ⟨_, rfl, fun h => ?_, fun h => ?_⟩
  ·subst h
   rw [if_pos rfl] at hz; subst hz
   have k1' := k1 rfl
   refine W.sr ?_
   simp (disch := omega) [gw]
   refine aA k1' ?_
   simp (disch := omega) [gw]
   refine W.lx [4] ?_; simp
   refine W.ret ?_
   simp [go]
  ·subst h
   rw [if_neg (by decide)] at hz
   refine W.skip ?_
   refine W.sr ?_
   simp (disch := omega) [gw]
   refine aA k2 ?_
   simp (disch := omega) [gw]
   refine W.lx [3, 5] ?_; simp
   refine W.seq ?_
   refine W.sr ?_; simp (disch := omega) [gw]; refine W.lx [3, 5, 22] ?_; simp
   refine W.cond ⟨_, rfl, fun h => ?_, fun h => ?_⟩
   ·have mG : g.length < 2 := by simp at h; omega
    rw [if_pos mG] at hz; subst hz
    refine W.sr ?_; simp (disch := omega) [gw]; refine W.lx [4] ?_; simp
    refine W.ret ?_
    simp [go]
   ·have mG : ¬ g.length < 2 := by simp at h; omega
    rw [if_neg mG] at hz
    have k3' := k3 (by omega)
    have k4' := k4 (by omega)
    refine W.skip ?_
    refine W.sd ?_
    simp (disch := omega) [gw]
    refine aA k3' ?_
    simp (disch := omega) [gw]
    refine aA k4' ?_
    simp (disch := omega) [gw]
    refine W.lx [4] ?_; simp
    refine W.ret ?_
    simp [go, hz]
theorem A5 (U : Rat → Prop) (t : Rat) : cr U t = -1 ∨ cr U t = 0 ∨ cr U t = 1 := by
 unfold cr
 split
 ·split <;> simp
 ·simp
theorem VO {x y : List Int} {c d : List ZX} {an ad bn bd en ed gn gd r : Int} (hr : r = -1 ∨ r = 0 ∨ r = 1) (p1 : aK env.P 113 [.ag (uM x c an ad bn bd)] (.bool true)) (k1 : aK env.P 43 [.ag (uM y d en ed gn gd), R2 an ad] (.int .i64 r)) :
  aK env.P 42 [.ag (uM x c an ad bn bd), .ag (uM y d en ed gn gd)] (.int .i64 (-r)) := by
 have hw : IntKind.wrap .i64 (-r) = -r := wrap_i64 (by omega) (by omega)
 simp only [uM] at p1 k1 ⊢
 refine aB (E := env) (fun _ => 0) [(0, .ag [PI x, aI zq c, aI aD (aR DD an.natAbs), .bool (decide (an < 0)), aI aD (aR DD ad.natAbs), .bool (decide (ad < 0)), aI aD (aR DD bn.natAbs), .bool (decide (bn < 0)), aI aD (aR DD bd.natAbs), .bool (decide (bd < 0))]), (1, .ag [PI y, aI zq d, aI aD (aR DD en.natAbs), .bool (decide (en < 0)), aI aD (aR DD ed.natAbs), .bool (decide (ed < 0)), aI aD (aR DD gn.natAbs), .bool (decide (gn < 0)), aI aD (aR DD gd.natAbs), .bool (decide (gd < 0))])] Tryz.func42 rfl (by kernel_rfl) (by kernel_rfl) (show 2 ≤ 59 by decide) (by simp) ?_
 refine W.sr ?_; simp (disch := omega) [gw]; refine W.lx [2, 3] ?_; simp
 refine W.seq ?_
 refine W.sr ?_
 simp (disch := omega) [gw]
 refine aA p1 ?_
 simp (disch := omega) [gw]
 refine W.lx [2, 3, 6] ?_; simp
 refine W.cond ⟨_, rfl, fun h => ?_, fun h => ?_⟩
 ·refine W.sr ?_
  simp (disch := omega) [gw]
  refine aA k1 ?_
  simp (disch := omega) [gw, hw]
  refine W.lx [4] ?_; simp
  refine W.ret ?_
  simp [go]
 ·simp at h
theorem VP {x y : List Int} {c d : List ZX} {an ad bn bd en ed gn gd r : Int} (p1 : aK env.P 113 [.ag (uM x c an ad bn bd)] (.bool false)) (p2 : aK env.P 113 [.ag (uM y d en ed gn gd)] (.bool true)) (k1 : aK env.P 43 [.ag (uM x c an ad bn bd), R2 en ed] (.int .i64 r)) :
  aK env.P 42 [.ag (uM x c an ad bn bd), .ag (uM y d en ed gn gd)] (.int .i64 r) := by
 simp only [uM] at p1 p2 k1 ⊢
 refine aB (E := env) (fun _ => 0) [(0, .ag [PI x, aI zq c, aI aD (aR DD an.natAbs), .bool (decide (an < 0)), aI aD (aR DD ad.natAbs), .bool (decide (ad < 0)), aI aD (aR DD bn.natAbs), .bool (decide (bn < 0)), aI aD (aR DD bd.natAbs), .bool (decide (bd < 0))]), (1, .ag [PI y, aI zq d, aI aD (aR DD en.natAbs), .bool (decide (en < 0)), aI aD (aR DD ed.natAbs), .bool (decide (ed < 0)), aI aD (aR DD gn.natAbs), .bool (decide (gn < 0)), aI aD (aR DD gd.natAbs), .bool (decide (gd < 0))])] Tryz.func42 rfl (by kernel_rfl) (by kernel_rfl) (show 2 ≤ 59 by decide) (by simp) ?_
 refine W.sr ?_; simp (disch := omega) [gw]; refine W.lx [2, 3] ?_; simp
 refine W.seq ?_
 refine W.sr ?_
 simp (disch := omega) [gw]
 refine aA p1 ?_
 simp (disch := omega) [gw]
 refine W.lx [2, 3, 6] ?_; simp
 refine W.cond ⟨_, rfl, fun h => ?_, fun h => ?_⟩
 ·simp at h
 refine W.skip ?_
 refine W.seq ?_
 refine W.sr ?_
 simp (disch := omega) [gw]
 refine aA p2 ?_
 simp (disch := omega) [gw]
 refine W.lx [2, 3, 13] ?_; simp
 refine W.cond ⟨_, rfl, fun h => ?_, fun h => ?_⟩
 ·refine W.sr ?_
  simp (disch := omega) [gw]
  refine aA k1 ?_
  simp (disch := omega) [gw]
  refine W.lx [4] ?_; simp
  refine W.ret ?_
  simp [go]
 ·simp at h
section
variable {s n s' n' u : Nat} {f h : ZX} {p q : Rat × Rat} (I : mP s n f) (I' : mP s' n' h) (A : oJ f (vt (bC f)) p.1 p.2) (B : oJ h (vt (bC h)) q.1 q.2) (p1 : SQ u p.1) (p2 : SQ u p.2) (q1 : SQ u q.1) (q2 : SQ u q.2) (hu : u ≤ 1000000000)
include I I' A B p1 p2 q1 q2 hu
theorem abl (hp : p.1 = p.2 ∨ q.1 = q.2) : aK env.P 42 [QA f (bC f) p, QA h (bC h) q] (.int .i64 (cu (cX f p) (cX h q))) := by
 have e1 := pS (f := f) (c := bC f) p1 p2 hu
 have e2 := pS (f := h) (c := bC h) q1 q2 hu
 by_cases h1 : p.1 = p.2
 ·rw [decide_eq_true h1] at e1
  have k1 := I'.GJ B q1 q2 p1 hu
  rw [nC (R9 h1) (fun _ => Iff.rfl), abk fun s t => B.up]
  rw [cG] at k1
  exact VO (A5 _ _) e1 k1
 ·rw [decide_eq_false h1] at e1
  have h2 : q.1 = q.2 := hp.resolve_left h1
  rw [decide_eq_true h2] at e2
  have k1 := I.GJ A p1 p2 q1 hu
  rw [nC (fun _ => Iff.rfl) (R9 h2), VK fun s t => A.up]
  rw [cG] at k1
  exact VP e1 e2 k1
end
end Go.Proofs.YtbbjgncblhfegaaGreat
