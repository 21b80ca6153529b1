import Derived.Test.YtelhfbikiccfkaaGreatBaq
set_option linter.unusedSimpArgs false
set_option linter.unusedVariables false
namespace Go.Proofs.YtelhfbikiccfkaaGreat
open Go Pm
open ZX hiding N W
abbrev rc (q : Rat) : List PV := [aI aF (aS DD q.num.natAbs), .bool (decide (q.num < 0)), aI aF (aS DD (q.den : Int).natAbs), .bool (decide ((q.den : Int) < 0))]
def qa (f : ZX) (c : List ZX) (p : Rat × Rat) : List PV := PI f.l :: aI zq c :: (rc p.1 ++ rc p.2)
@[simp] theorem axo {f : ZX} {c : List ZX} {p : Rat × Rat} : qa f c p = PI f.l :: aI zq c :: (rc p.1 ++ rc p.2) := rfl
@[simp] theorem GL {f : ZX} {c : List ZX} {l : List (Rat × Rat)} : bF 10 (emap (qa f c) l) = True := dG fun _ => rfl
@[simp] theorem ame {v e n : Nat} {f : ZX} {c : List ZX} {l : List (Rat × Rat)} : dC (some ⟨v, e, n, emap (qa f c) l⟩) = True := cY fun _ => rfl
theorem U8 {f : ZX} {c : List ZX} {l : List (Rat × Rat)} : ∀ x ∈ emap (qa f c) l, ∀ p ∈ x, cM p = true := fun x hx p hp => by
 simp only [emap, List.mem_map] at hx
 obtain ⟨r, _, rfl⟩ := hx
 simp at hp
 rcases hp with rfl | rfl | rfl | rfl | rfl | rfl | rfl | rfl | rfl | rfl <;> rfl
abbrev QA (f : ZX) (c : List ZX) (p : Rat × Rat) : PV := .ag (qa f c p)
def ex (f : ZX) (p : Rat × Rat) : Rat × Rat := if e p.2 f = 0 then (p.2, p.2) else p
theorem SQ.yy {u : Nat} {q : Rat} (h : SQ u q) (hu : u ≤ 1000000000) : ZR YY q := ⟨by have := h.n2; simp only [YY]; omega, by have := h.d2; simp only [YY]; omega⟩
theorem rK {p q : Rat} : dQ (p.num * q.den) (q.num * p.den) = 0 ↔ p = q := by
 have h1 := jK p q
 have h2 := jK q p
 rw [oK] at h1 h2
 refine ⟨fun h => ?_, fun h => ?_⟩
 ·have h := Pm.w8.1 h
  by_cases h3 : p < q
  ·have := h1.2 h3; omega
  ·rcases Rat.le_iff_lt_or_eq.1 (Rat.not_lt.1 h3) with h4 | h4
   ·have := h2.2 h4; omega
   ·exact h4.symm
 ·rw [h]; exact zO _
abbrev c4 (n d : Int) : List PV := [aI aF (aS DD n.natAbs), .bool (decide (n < 0)), aI aF (aS DD d.natAbs), .bool (decide (d < 0))]
theorem RX {x : List Int} {c : List ZX} {ln ld hn hd z σ : Int} (hz : (z != 0) = false) (c1 : aG env.P 15 [R2 ln ld, R2 hn hd] (.int .i64 z)) (s1 : aG env.P 81 [PI x, R2 hn hd] (.int .i64 σ)) :
  aG env.P 84 [.ag (PI x :: aI zq c :: (c4 ln ld ++ c4 hn hd))] (.ag (PI x :: aI zq c :: (c4 ln ld ++ c4 hn hd))) := by
 simp only [c4]
 refine bV [(0, .ag (PI x :: aI zq c :: [aI aF (aS DD ln.natAbs), .bool (decide (ln < 0)), aI aF (aS DD ld.natAbs), .bool (decide (ld < 0)), aI aF (aS DD hn.natAbs), .bool (decide (hn < 0)), aI aF (aS DD hd.natAbs), .bool (decide (hd < 0))]))] Tryz.func84 ?_
 refine aA [1, 2] ?_
 refine W.seq ?_
 refine iU ?_
 refine aD c1 ?_
 simp (disch := omega) [gw, hz]
 refine bH [1, 2, 16] ?_
 refine bE ?_ ?_ <;> intro h
 ·simp at h
 ·refine W.skip ?_
  refine aA [2] ?_
  exact bT
theorem ac0 {x : List Int} {c : List ZX} {ln ld hn hd z σ : Int} (hz : (z != 0) = true) (hs : (σ == 0) = false) (c1 : aG env.P 15 [R2 ln ld, R2 hn hd] (.int .i64 z)) (s1 : aG env.P 81 [PI x, R2 hn hd] (.int .i64 σ)) :
  aG env.P 84 [.ag (PI x :: aI zq c :: (c4 ln ld ++ c4 hn hd))] (.ag (PI x :: aI zq c :: (c4 ln ld ++ c4 hn hd))) := by
 simp only [c4]
 refine bV [(0, .ag (PI x :: aI zq c :: [aI aF (aS DD ln.natAbs), .bool (decide (ln < 0)), aI aF (aS DD ld.natAbs), .bool (decide (ld < 0)), aI aF (aS DD hn.natAbs), .bool (decide (hn < 0)), aI aF (aS DD hd.natAbs), .bool (decide (hd < 0))]))] Tryz.func84 ?_
 refine aA [1, 2] ?_
 refine W.seq ?_
 refine iU ?_
 refine aD c1 ?_
 simp (disch := omega) [gw, hz]
 refine aD s1 ?_
 simp (disch := omega) [gw, hs]
 refine bH [1, 2, 16] ?_
 refine bE ?_ ?_ <;> intro h
 ·simp at h
 ·refine W.skip ?_
  refine aA [2] ?_
  exact bT
theorem YF {x : List Int} {c : List ZX} {ln ld hn hd z σ : Int} (hz : (z != 0) = true) (hs : (σ == 0) = true) (c1 : aG env.P 15 [R2 ln ld, R2 hn hd] (.int .i64 z)) (s1 : aG env.P 81 [PI x, R2 hn hd] (.int .i64 σ)) :
  aG env.P 84 [.ag (PI x :: aI zq c :: (c4 ln ld ++ c4 hn hd))] (.ag (PI x :: aI zq c :: (c4 hn hd ++ c4 hn hd))) := by
 simp only [c4]
 refine bV [(0, .ag (PI x :: aI zq c :: [aI aF (aS DD ln.natAbs), .bool (decide (ln < 0)), aI aF (aS DD ld.natAbs), .bool (decide (ld < 0)), aI aF (aS DD hn.natAbs), .bool (decide (hn < 0)), aI aF (aS DD hd.natAbs), .bool (decide (hd < 0))]))] Tryz.func84 ?_
 refine aA [1, 2] ?_
 refine W.seq ?_
 refine iU ?_
 refine aD c1 ?_
 simp (disch := omega) [gw, hz]
 refine aD s1 ?_
 simp (disch := omega) [gw, hs]
 refine bH [1, 2, 16] ?_
 refine bE ?_ ?_ <;> intro h
 ·refine W.b8 (fun K hK => ?_); simp (disch := omega) [gw]
  refine W.lw [1, 2] hK ?_; clear hK K; simp
  refine aA [2] ?_
  exact bT
 ·simp at h
theorem pW {f : ZX} {c : List ZX} {p : Rat × Rat} : QA f c p = .ag (PI f.l :: aI zq c :: (c4 p.1.num p.1.den ++ c4 p.2.num p.2.den)) := rfl
theorem GM {f : ZX} {c : List ZX} {p : Rat × Rat} {n u : Nat} (hb : BZ 4500000000 n f) (hn : n ≤ 20) (q1 : SQ u p.1) (q2 : SQ u p.2) (hu : u ≤ 1000000000) : aG env.P 84 [QA f c p] (QA f c (ex f p)) := by
 have c1 := rF p.1 p.2 (q1.yy hu) (q2.yy hu)
 have hmul : n * (u + 1) ≤ 20 * (u + 1) := Nat.mul_le_mul_right _ hn
 have s1 := sB hb q2.n2 q2.d2 q2.hu (by omega) (by show _ < 137438953472; omega)
 rw [j3] at s1
 rw [c8, c8] at c1
 by_cases h : p.1 = p.2
 ·have he : ex f p = p := by
   unfold ex; split
   ·exact Prod.ext h.symm rfl
   ·rfl
  rw [he, pW]
  exact RX (by rw [rK.2 h]; rfl) c1 s1
 ·have hz : (dQ (p.1.num * p.2.den) (p.2.num * p.1.den) != 0) = true := bne_iff_ne.2 fun h0 => h (rK.1 h0)
  by_cases h2 : e p.2 f = 0
  ·rw [show ex f p = (p.2, p.2) from if_pos h2, pW, pW]
   exact YF hz (by rw [h2, eV]; rfl) c1 s1
  ·rw [show ex f p = p from if_neg h2, pW]
   exact ac0 hz (by simp only [beq_eq_false_iff_ne]; exact fun h0 => h2 (cP.1 h0)) c1 s1
theorem RY {f : ZX} {c : List ZX} {lo hi : Rat} (B : aG env.P 80 [aI zq c, RR lo, RR hi] (.int .i64 0)) : iD env.P 181 [PI f.l, aI zq c, RR lo, RR hi] 49 10 [] := by
 rw [c8, c8] at B ⊢
 generalize lo.num = ln at *
 generalize (lo.den : Int) = ld at *
 generalize hi.num = hn at *
 generalize (hi.den : Int) = hd at *
 refine i4 (E := env) (fun id => if id = 7 then 2 else 0) (t := 8) [(0, PI f.l), (1, aI zq c), (2, R2 ln ld), (3, R2 hn hd)] Tryz.func181 rfl (by kernel_rfl) (by kernel_rfl) (show 4 ≤ 40 by decide) rfl (by simp) ?_
 refine aA [0, 1, 6, 7] ?_
 refine aK [0, 1, 6, 7, 9] B ?_
 refine aL [0, 1, 6, 7, 9, 16] ?_
 refine bE ?_ ?_ <;> intro h
 ·refine aA [8] ?_
  refine W.nil 8 8 49 10 (by simp) (by decide) (fun K hK => ?_)
  simp
  refine hK _ ?_
  refine W.ret ?_
  exact ⟨8, _, by simp; exact rfl, by simp, fun x hx => by cases hx⟩
 ·simp at h
theorem YH {f : ZX} {c : List ZX} {lo hi : Rat} (B : aG env.P 80 [aI zq c, RR lo, RR hi] (.int .i64 1)) (X : aG env.P 84 [QA f c (lo, hi)] (QA f c (ex f (lo, hi)))) : iD env.P 181 [PI f.l, aI zq c, RR lo, RR hi] 49 10 (emap (qa f c) [ex f (lo, hi)]) := by
 rw [show emap (qa f c) [ex f (lo, hi)] = [qa f c (ex f (lo, hi))] from rfl]
 rw [c8, c8] at *
 generalize hy : ex f (lo, hi) = y at *
 rw [pW, pW] at X
 rw [show qa f c y = PI f.l :: aI zq c :: (c4 y.1.num y.1.den ++ c4 y.2.num y.2.den) from rfl]
 simp only [c4, List.cons_append, List.nil_append] at X ⊢
 clear hy
 generalize y.1.num = an at *
 generalize (y.1.den : Int) = ad at *
 generalize y.2.num = bn at *
 generalize (y.2.den : Int) = bd at *
 generalize lo.num = ln at *
 generalize (lo.den : Int) = ld at *
 generalize hi.num = hn at *
 generalize (hi.den : Int) = hd at *
 refine i4 (E := env) (fun id => if id = 7 then 2 else 0) (t := 8) [(0, PI f.l), (1, aI zq c), (2, R2 ln ld), (3, R2 hn hd)] Tryz.func181 rfl (by kernel_rfl) (by kernel_rfl) (show 4 ≤ 40 by decide) rfl (by simp) ?_
 refine aA [0, 1, 6, 7] ?_
 refine aK [0, 1, 6, 7, 9] B ?_
 refine aL [0, 1, 6, 7, 9, 16] ?_
 refine bE ?_ ?_ <;> intro h
 ·simp at h
 refine W.skip ?_
 refine aL [0, 1, 6, 7, 18] ?_
 refine bE ?_ ?_ <;> intro h
 ·refine W.acm 6 rfl rfl (fun K hK => ?_)
  simp (disch := omega) [gw]
  refine bZ X ?_
  refine W.lw [8] hK ?_; clear hK K; simp
  refine W.ret ?_
  exact ⟨25, _, by simp; exact rfl, by simp, fun x hx p hp => by
   simp at hx; subst hx
   simp at hp
   rcases hp with rfl | rfl | rfl | rfl | rfl | rfl | rfl | rfl | rfl | rfl <;> rfl⟩
 ·simp at h
theorem RZ {f : ZX} {c : List ZX} {lo hi : Rat} {n : Int} {la lb : List (Rat × Rat)} (hn : 2 ≤ n ∧ n ≤ 21) (P7 : la.length ≤ 21) (hlb : lb.length ≤ 21)
  (M : aG env.P 209 [RR lo, RR hi] (RR ((lo + hi) / 2))) (B : aG env.P 80 [aI zq c, RR lo, RR hi] (.int .i64 n))
  (h1 : iD env.P 181 [PI f.l, aI zq c, RR lo, RR ((lo + hi) / 2)] 49 10 (emap (qa f c) la)) (h2 : iD env.P 181 [PI f.l, aI zq c, RR ((lo + hi) / 2), RR hi] 49 10 (emap (qa f c) lb)) :
  iD env.P 181 [PI f.l, aI zq c, RR lo, RR hi] 49 10 (emap (qa f c) (la ++ lb)) := by
 rw [← yQ]
 have el1 : (emap (qa f c) la).length ≤ 21 := by simpa [emap] using P7
 have el2 : (emap (qa f c) lb).length ≤ 21 := by simpa [emap] using hlb
 have p1 := U8 (f := f) (c := c) (l := la)
 have p2 := U8 (f := f) (c := c) (l := lb)
 have a1 : bF 10 (emap (qa f c) la) = True := GL
 have a2 : bF 10 (emap (qa f c) lb) = True := GL
 simp only [c8] at *
 generalize ((lo + hi) / 2).num = mn at *
 generalize (((lo + hi) / 2).den : Int) = md at *
 generalize lo.num = ln at *
 generalize (lo.den : Int) = ld at *
 generalize hi.num = yG at *
 generalize (hi.den : Int) = hd at *
 generalize emap (qa f c) la = ea at *
 generalize emap (qa f c) lb = eb at *
 refine i4 (E := env) (fun id => if id = 7 then 2 else 0) (t := 8) [(0, PI f.l), (1, aI zq c), (2, R2 ln ld), (3, R2 yG hd)] Tryz.func181 rfl (by kernel_rfl) (by kernel_rfl) (show 4 ≤ 40 by decide) rfl (by simp) ?_
 refine aA [0, 1, 6, 7] ?_
 refine aK [0, 1, 6, 7, 9] B ?_
 refine aL [0, 1, 6, 7, 9, 16] ?_
 refine bE ?_ ?_ <;> intro h
 ·simp at h; omega
 refine W.skip ?_
 refine aL [0, 1, 6, 7, 18] ?_
 refine bE ?_ ?_ <;> intro h
 ·simp at h; omega
 refine W.skip ?_
 refine aK [0, 1, 6, 7, 10] M ?_
 refine W.sd ?_
 rw [if_pos rfl, eJ]
 simp (disch := omega) [gw]
 refine FH h1 rfl trivial ?_
 simp (disch := omega) [gw, AD]
 refine FH h2 rfl trivial ?_
 simp (disch := omega) [gw, a1, a2, AD]
 refine bH [8] ?_
 refine W.ret ?_
 exact ⟨33, _, by simp; exact rfl, by simp, fun x hx => by
  rcases List.mem_append.1 hx with hx | hx
  ·exact p1 x hx
  ·exact p2 x hx⟩
theorem Gr.add {D β j : Nat} {p q : Rat} (hp : Gr D (2 ^ β) j p) (hq : Gr D (2 ^ β) j q) : Gr D (2 ^ (β + 1)) j (p + q) := by
 obtain ⟨⟨y, hy⟩, b1, b2⟩ := hp
 obtain ⟨⟨z, hz⟩, b3, b4⟩ := hq
 refine ⟨⟨y + z, ?_⟩, ?_⟩
 ·rw [Rat.intCast_add, ← hy, ← hz]; grind
 ·rw [Rat.pow_succ]; exact ⟨by grind, by grind⟩
theorem YI {s n : Nat} {f : ZX} (I : j4 s n f) {D d β J : Nat} {δ : Rat} (wU : 1 ≤ D) (hD : D ≤ 2 ^ d) (C : Cut (vt (aU f)) (2 ^ β) δ) (hu : β + 1 + d + J + 1 ≤ 1000000000) : ∀ (k j : Nat) (lo hi : Rat), j + k ≤ J → Gr D (2 ^ β) j lo → Gr D (2 ^ β) j hi → lo < hi → hi - lo ≤ δ * 2 ^ k →
  iD env.P 181 [PI f.l, aI zq (aU f), RR lo, RR hi] 49 10 (emap (qa f (aU f)) ((D0 (vt (aU f)) k lo hi).map (ex f))) := by
 have hbt : ∀ (j : Nat) (lo hi : Rat), j ≤ J → Gr D (2 ^ β) j lo → Gr D (2 ^ β) j hi → lo < hi → aG env.P 80 [aI zq (aU f), RR lo, RR hi] (.int .i64 ((vt (aU f) lo : Int) - vt (aU f) hi)) := fun j lo hi hj g1 g2 cW => by
  have := RV I.hb I.ch.hn I.hl ((g1.mono hj).sq wU hD) ((g2.mono hj).sq wU hD) (by omega)
  rwa [if_neg (Rat.not_lt.2 (Rat.le_of_lt cW))] at this
 have leaf : ∀ (j : Nat) (lo hi : Rat), j ≤ J → Gr D (2 ^ β) j lo → Gr D (2 ^ β) j hi → lo < hi → vt (aU f) lo = vt (aU f) hi + 1 → iD env.P 181 [PI f.l, aI zq (aU f), RR lo, RR hi] 49 10 (emap (qa f (aU f)) ([(lo, hi)].map (ex f))) := fun j lo hi hj g1 g2 cW he => by
  have h1 := hbt j lo hi hj g1 g2 cW
  rw [show (vt (aU f) lo : Int) - vt (aU f) hi = 1 by omega] at h1
  exact YH h1 (GM (I.ch.bz.mono (by have := I.hs; omega) (Nat.le_refl _)) I.ch.hn ((g1.mono hj).sq wU hD) ((g2.mono hj).sq wU hD) (by omega))
 have NC : ∀ (j : Nat) (lo hi : Rat), j ≤ J → Gr D (2 ^ β) j lo → Gr D (2 ^ β) j hi → lo < hi → vt (aU f) lo = vt (aU f) hi → iD env.P 181 [PI f.l, aI zq (aU f), RR lo, RR hi] 49 10 (emap (qa f (aU f)) ([].map (ex f))) := fun j lo hi hj g1 g2 cW he => by
  have h1 := hbt j lo hi hj g1 g2 cW
  rw [show (vt (aU f) lo : Int) - vt (aU f) hi = 0 by omega] at h1
  exact RY h1
 intro k
 induction k with
 | zero =>
  intro j lo hi hj g1 g2 cW hd
  rw [D0]
  by_cases he : vt (aU f) lo = vt (aU f) hi
  ·rw [if_pos he]; exact NC j lo hi (by omega) g1 g2 cW he
  ·rw [if_neg he]; exact leaf j lo hi (by omega) g1 g2 cW (C.leaf g1.b g2.b cW (by rw [Rat.pow_zero, Rat.mul_one] at hd; exact hd) he)
 | succ k ih =>
  intro j lo hi hj g1 g2 cW hd
  rw [D0]
  by_cases he : vt (aU f) lo = vt (aU f) hi
  ·rw [if_pos he]; exact NC j lo hi (by omega) g1 g2 cW he
  ·rw [if_neg he]
   by_cases CY : vt (aU f) lo = vt (aU f) hi + 1
   ·rw [if_pos CY]; exact leaf j lo hi (by omega) g1 g2 cW CY
   ·rw [if_neg CY]
    obtain ⟨m1, m2⟩ := oD cW
    obtain ⟨d1, d2⟩ := rJ hd
    have gm := g1.H4 g2
    have n1 := C.bX lo ((lo + hi) / 2) (Rat.le_of_lt m1)
    have n2 := C.bX ((lo + hi) / 2) hi (Rat.le_of_lt m2)
    have hv1 := Nat.le_trans (acI (aU f) lo) I.hl
    obtain ⟨_, a2, _⟩ := nW C k (j + 1) lo ((lo + hi) / 2) (g1.mono (by omega)) gm m1 d1
    obtain ⟨_, b2, _⟩ := nW C k (j + 1) ((lo + hi) / 2) hi gm (g2.mono (by omega)) m2 d2
    have r1 := ih (j + 1) lo ((lo + hi) / 2) (by omega) (g1.mono (by omega)) gm m1 d1
    have r2 := ih (j + 1) ((lo + hi) / 2) hi (by omega) gm (g2.mono (by omega)) m2 d2
    have q1 : SQ (β + 1 + d + J + 1) lo := ((g1.mono (show j ≤ J by omega)).sq wU hD).mono (by omega)
    have q2 : SQ (β + 1 + d + J + 1) hi := ((g2.mono (show j ≤ J by omega)).sq wU hD).mono (by omega)
    have q3 : SQ (β + 1 + d + J + 1) (lo + hi) := ((g1.add g2).mono (show j ≤ J by omega)).sq wU hD
    have hM := M8 (q1.yy hu) (q2.yy hu) (q3.yy hu)
    have hB := hbt j lo hi (by omega) g1 g2 cW
    rw [List.map_append]
    exact RZ (n := (vt (aU f) lo : Int) - vt (aU f) hi) (by omega) (by rw [List.length_map]; omega) (by rw [List.length_map]; omega) hM hB r1 r2
def lvl (s n : Nat) : Nat := lk s n 5 (s + 1) + s + 2
theorem R3 {s n : Nat} (hn : n ≤ 20) : lvl s n ≤ 102 * s + 720 := by
 have h1 : (n + n) * (s + 5 + 2 + (5 + 1)) ≤ 40 * (s + 13) := Nat.mul_le_mul (by omega) (by omega)
 have h2 : (n + n) * (s + 1 + 2) ≤ 40 * (s + 3) := Nat.mul_le_mul (by omega) (by omega)
 have h3 : n * (s + 1 + 2) ≤ 20 * (s + 3) := Nat.mul_le_mul hn (by omega)
 unfold lvl lk sk
 omega
def uu (s : Nat) : Nat := 105 * s + 800
namespace j4
variable {s n : Nat} {f : ZX} (I : j4 s n f)
include I
theorem f0 : f.l ≠ [] := tZ I.nf.ne
theorem rL : 1 ≤ (lead f.l).natAbs ∧ (lead f.l).natAbs ≤ 2 ^ s := by
 have h1 := cK f.c (List.length_pos_iff.2 I.f0)
 have h2 := kB (b := 2) (by decide) (lead f.l)
 have h3 := Nat.pow_le_pow_right (show 0 < 2 by decide) (fS I.ch.bz)
 omega
theorem amf : 1 ≤ eW f.l := (sK f.c I.f0 (t := eW f.l) (.inr Rat.le_refl)).2
theorem ac1 : Ab (eW f.l) (2 ^ (s + 1)) := by
 have h1 := xO f.c I.f0
 have hL : (1 : Rat) ≤ (((lead f.l).natAbs : Int) : Rat) := eN (by have := I.rL.1; omega)
 have h2 := Rat.div_mul_cancel (a := ((kX f.l (f.l.length - 1) : Int) : Rat)) (b := (((lead f.l).natAbs : Int) : Rat)) (by grind)
 have h3 := I.amf
 have h4 : ((kX f.l (f.l.length - 1) : Int) : Rat) ≤ 2 ^ s := by
  have h5 := kB (b := 2) (by decide) (kX f.l (f.l.length - 1))
  have h6 := Nat.pow_le_pow_right (show 0 < 2 by decide) (uK I.ch.bz (f.l.length - 1))
  exact (GI (s := s) (by omega)).2
 have h7 := uL s
 rw [Rat.pow_succ]
 generalize (2 : Rat) ^ s = T at *
 generalize ((kX f.l (f.l.length - 1) : Int) : Rat) = m at *
 have hw : m / (((lead f.l).natAbs : Int) : Rat) ≤ T := by
  refine Rat.not_lt.1 fun h => ?_
  have h8 := Rat.mul_le_mul_of_nonneg_left hL (show 0 ≤ m / (((lead f.l).natAbs : Int) : Rat) by grind)
  grind
 exact ⟨by grind, by grind⟩
theorem xQ : Gr (lead f.l).natAbs (2 ^ (s + 1)) 0 (eW f.l) := by
 refine ⟨⟨((lead f.l).natAbs : Int) + kX f.l (f.l.length - 1), ?_⟩, I.ac1⟩
 have hL : (1 : Rat) ≤ (((lead f.l).natAbs : Int) : Rat) := eN (by have := I.rL.1; omega)
 have h1 := xO f.c I.f0
 have h2 := Rat.div_mul_cancel (a := ((kX f.l (f.l.length - 1) : Int) : Rat)) (b := (((lead f.l).natAbs : Int) : Rat)) (by grind)
 rw [Nat.pow_zero, Nat.mul_one, Rat.intCast_add, h1]
 grind
theorem AE : Gr (lead f.l).natAbs (2 ^ (s + 1)) 0 (-eW f.l) := by
 obtain ⟨⟨z, hz⟩, h1, h2⟩ := I.xQ
 exact ⟨⟨-z, by rw [Rat.intCast_neg, ← hz]; grind⟩, by grind, by grind⟩
theorem count : (vr (UR (aU f)) : Int) - vr (US (aU f)) = (vt (aU f) (-eW f.l) : Int) - vt (aU f) (eW f.l) := by
 have hG := I.YB
 have h1 : vr (US (aU f)) = vt (aU f) (eW f.l) := RH hG fun b => ⟨1, by decide, fun x h2 _ => (sK f.c I.f0 (.inr h2)).1⟩
 have h2 : vr (UR (aU f)) = vt (aU f) (-eW f.l) := YC hG fun b => ⟨1, by decide, fun x _ h2 => (sK f.c I.f0 (.inl h2)).1⟩
 rw [h1, h2]
theorem NG : -eW f.l < eW f.l := by have := I.amf; grind
end j4
def wY (s n : Nat) (f : ZX) : List (Rat × Rat) := D0 (vt (aU f)) (lvl s n) (-eW f.l) (eW f.l)
structure Ivs (f : ZX) (u : Nat) (lo hi : Rat) (l : List (Rat × Rat)) : Prop where
 mem : ∀ p ∈ l, SQ u p.1 ∧ SQ u p.2 ∧ lo ≤ p.1 ∧ p.1 < p.2 ∧ p.2 ≤ hi ∧ vt (aU f) p.1 = vt (aU f) p.2 + 1
 len : l.length = vt (aU f) lo - vt (aU f) hi
 srt : l.Pairwise fun p q => p.2 ≤ q.1
theorem j4.width {s n : Nat} {f : ZX} (I : j4 s n f) {δ : Rat} (hδ : δ * 2 ^ lk s n 5 (s + 1) = 1) : eW f.l - -eW f.l ≤ δ * 2 ^ lvl s n := by
 have h1 := I.ac1.2
 unfold lvl
 rw [show lk s n 5 (s + 1) + s + 2 = lk s n 5 (s + 1) + (s + 1 + 1) by omega, rI, ← Rat.mul_assoc, hδ, Rat.one_mul, Rat.pow_succ]
 grind
theorem j4.ivs {s n : Nat} {f : ZX} (I : j4 s n f) : Ivs f (uu s) (-eW f.l) (eW f.l) (wY s n f) := by
 obtain ⟨δ, h1, h2, C⟩ := I.cut (s + 1)
 have hl := R3 (s := s) I.ch.hn
 obtain ⟨a1, a2, a3⟩ := nW C (lvl s n) 0 _ _ I.AE I.xQ I.NG (I.width h2)
 refine ⟨fun p hp => ?_, a2, a3⟩
 obtain ⟨b1, b2, b3⟩ := a1 p hp
 obtain ⟨l1, l2⟩ := I.rL
 exact ⟨(b1.sq l1 l2).mono (by unfold uu; omega), (b2.sq l1 l2).mono (by unfold uu; omega), b3⟩
theorem AF {s n : Nat} {f : ZX} (I : j4 s n f) : (wY s n f).length ≤ 21 := by
 have := I.ivs.len
 have h1 := Nat.le_trans (acI (aU f) (-eW f.l)) I.hl
 omega
theorem R4 {α : Type} {g : α → List PV} {l : List α} {s n : Nat} {f : ZX} (hS : aG env.P 74 [aI g l] (Po f.l)) (I : j4 s n f) : aG env.P 19 [aI g l] (.fH [aI (ga f) (wY s n f), .int .i64 0]) := by
 have hs := I.hs
 have hn := I.ch.hn
 have N1 := I3 hS I.ch I.nf
 have P1 := fP (x := f.l) (I.ch.bz.pb (by omega) (by omega))
 rw [f.c] at P1
 have B1 := RK P1 f.c I.f0 (EN I.ch.bz) (by omega) (by omega)
 obtain ⟨l1, l2⟩ := I.rL
 have qb := (I.xQ.sq l1 l2).mono (show s + 1 + s + 0 + 1 ≤ uu s by unfold uu; omega)
 have hu : uu s ≤ 1000000000 := by unfold uu; omega
 have M1 := YD (qb.LLt (show uu s < 1099511627770 by omega))
 have C1 := RB (c := aU f) (by have := I.hl; omega) (pbs I.hb hn)
 rw [I.count] at C1
 obtain ⟨δ, h1, h2, C⟩ := I.cut (s + 1)
 have hl := R3 (s := s) hn
 have R1 := acV I l1 l2 C (J := lvl s n) (by omega) (lvl s n) 0 _ _ (by omega) I.AE I.xQ I.NG (I.width h2)
 rw [show D0 (vt (aU f)) (lvl s n) (-eW f.l) (eW f.l) = wY s n f from rfl] at R1
 have hlen := AF I
 have el : (emap (ga f) (wY s n f)).length ≤ 21 := by simpa [emap] using hlen
 have pe := JD (f := f) (l := wY s n f)
 have a1 : bF 9 (emap (ga f) (wY s n f)) = True := xP
 replace B1 : aG env.P 75 [Po f.l] (.fH [T2 (eW f.l).num (eW f.l).den, .int .i64 0]) := B1
 replace M1 : aG env.P 77 [T2 (eW f.l).num (eW f.l).den] (T2 (-eW f.l).num (-eW f.l).den) := M1
 replace R1 : iD env.P 76 [Po f.l, CH (aU f), T2 (-eW f.l).num (-eW f.l).den, T2 (eW f.l).num (eW f.l).den, .int .i64 ((vt (aU f) (-eW f.l) : Int) - vt (aU f) (eW f.l))] 54 9 (emap (ga f) (wY s n f)) := R1
 generalize wY s n f = L at *
 generalize (vt (aU f) (-eW f.l) : Int) - vt (aU f) (eW f.l) = cn at *
 generalize aU f = c at *
 generalize (-eW f.l).num = mn at *
 generalize ((-eW f.l).den : Int) = md at *
 generalize (eW f.l).num = bn at *
 generalize ((eW f.l).den : Int) = bd at *
 refine bV [(0, aI g l)] Tryz.func19 ?_
 refine aA [0] ?_
 refine aK [0, 4, 5] N1 ?_
 refine aL [0, 4, 5, 15] ?_
 refine bE ?_ ?_ <;> intro h
 ·simp at h
 refine W.skip ?_
 refine aK [4, 6] hS ?_
 refine aK [4, 6, 7] B1 ?_
 refine oE ?_
 refine bZ M1 ?_
 refine bZ C1 ?_
 refine FH R1 rfl trivial ?_
 simp (disch := omega) [gw]
 refine bH [2, 3] ?_
 refine W.HQ 31 (by simp) (fun K hK => ?_)
 simp
 refine hK _ ?_
 exact bT
theorem DI {x : List Int} {s n : Nat} {f : ZX} (hS : aG env.P 170 [PI x] (PI f.l)) (hC : aG env.P 85 [PI x] (aI zq (aU f))) (I : j4 s n f) (p7 : 1 ≤ s) : aG env.P 97 [PI x] (aI (qa f (aU f)) ((wY s n f).map (ex f))) := by
 have hs := I.hs
 have hn := I.ch.hn
 have B1 := RM f.c I.f0 I.ch.bz p7 (by omega) (by omega)
 obtain ⟨l1, l2⟩ := I.rL
 have M1 := CD (eW f.l)
 obtain ⟨δ, h1, h2, C⟩ := I.cut (s + 1)
 have hl := R3 (s := s) hn
 have R1 := YI I l1 l2 C (J := lvl s n) (by omega) (lvl s n) 0 _ _ (by omega) I.AE I.xQ I.NG (I.width h2)
 rw [show D0 (vt (aU f)) (lvl s n) (-eW f.l) (eW f.l) = wY s n f from rfl] at R1
 have hlen := AF I
 rw [c8] at B1 M1
 rw [c8] at M1
 simp only [c8] at R1
 generalize (wY s n f).map (ex f) = L at *
 generalize aU f = c at *
 generalize (-eW f.l).num = mn at *
 generalize ((-eW f.l).den : Int) = md at *
 generalize (eW f.l).num = bn at *
 generalize ((eW f.l).den : Int) = bd at *
 refine bV [(0, PI x)] Tryz.func97 ?_
 refine aA [0] ?_
 refine aK [0, 3] hS ?_
 refine aK [3, 4] hC ?_
 refine aK [3, 4, 5] B1 ?_
 refine oE ?_
 refine bZ M1 ?_
 refine FH R1 rfl trivial ?_
 simp (disch := omega) [gw]
 refine bH [2] ?_
 refine W.HQ 17 (by simp) (fun K hK => ?_)
 simp
 refine hK _ ?_
 exact bT
end Go.Proofs.YtelhfbikiccfkaaGreat
namespace Go.Proofs.YtelhfbikiccfkaaGreat
open Go Pm
open ZX hiding N W
abbrev GA (f : ZX) (p : Rat × Rat) : PV := .ag (ga f p)
namespace j4
variable {s n : Nat} {f : ZX} (I : j4 s n f)
include I
theorem U9 : aG env.P 170 [PI f.l] (PI f.l) := by
 have := pJ I.lay I.s1
 rwa [I.sq] at this
theorem JH : aG env.P 85 [PI f.l] (aI zq (aU f)) := y7 I.U9 I.ch I.s1
theorem agH : aG env.P 74 [Po f.l] (Po f.l) := by
 have := uA I.lay
 rwa [I.sq] at this
theorem asm {u : Nat} {t : Rat} (q : SQ u t) (hu : u ≤ 1000000000) : aG env.P 81 [PI f.l, RR t] (.int .i64 (bG (e t f))) := by
 have hs := I.hs
 have hn := I.ch.hn
 have hmul : n * (u + 1) ≤ 20 * (u + 1) := Nat.mul_le_mul_right _ hn
 have s1 := sB I.ch.bz q.n2 q.d2 q.hu (by omega) (by show _ < 137438953472; omega)
 rw [j3] at s1
 rw [c8]
 exact s1
theorem rM {u : Nat} {p q : Rat} (hp : SQ u p) (hq : SQ u q) (hu : u ≤ 1000000000) : aG env.P 80 [aI zq (aU f), RR p, RR q] (.int .i64 (if q < p then 0 else (vt (aU f) p : Int) - vt (aU f) q)) := RV I.hb I.ch.hn I.hl hp hq hu
theorem amg {u : Nat} {p : Rat × Rat} (q1 : SQ u p.1) (q2 : SQ u p.2) (hu : u ≤ 1000000000) : aG env.P 84 [QA f (aU f) p] (QA f (aU f) (ex f p)) := GM (I.ch.bz.mono (by have := I.hs; omega) (Nat.le_refl _)) I.ch.hn q1 q2 hu
end j4
theorem xR {f : ZX} {c : List ZX} {p : Rat × Rat} {u : Nat} (q1 : SQ u p.1) (q2 : SQ u p.2) (hu : u ≤ 1000000000) : aG env.P 79 [QA f c p] (.bool (decide (p.1 = p.2))) := by
 have c1 := rF p.1 p.2 (q1.yy hu) (q2.yy hu)
 have e : decide (p.1 = p.2) = (dQ (p.1.num * p.2.den) (p.2.num * p.1.den) == 0) := by
  rw [Bool.eq_iff_iff]; simp only [decide_eq_true_eq, beq_iff_eq]; exact rK.symm
 rw [e, pW]
 rw [c8, c8] at c1
 simp only [c4, List.cons_append, List.nil_append]
 generalize dQ (p.1.num * p.2.den) (p.2.num * p.1.den) = z at *
 generalize p.1.num = an at *
 generalize (p.1.den : Int) = ad at *
 generalize p.2.num = bn at *
 generalize (p.2.den : Int) = bd at *
 refine bV [(0, .ag [PI f.l, aI zq c, aI aF (aS DD an.natAbs), .bool (decide (an < 0)), aI aF (aS DD ad.natAbs), .bool (decide (ad < 0)), aI aF (aS DD bn.natAbs), .bool (decide (bn < 0)), aI aF (aS DD bd.natAbs), .bool (decide (bd < 0))])] Tryz.func79 ?_
 refine aA [1] ?_
 refine aK [2] c1 ?_
 exact bT
end Go.Proofs.YtelhfbikiccfkaaGreat
namespace Go.Proofs.YtelhfbikiccfkaaGreat
open Go Pm
open ZX hiding N W
theorem sL {p q : Rat} : 0 < dQ (p.num * q.den) (q.num * p.den) ↔ q < p := by
 rw [oL, ← jK q p, oK]
theorem oR {p q : Rat} : dQ (p.num * q.den) (q.num * p.den) < 0 ↔ p < q := jK p q
theorem NH {p q : Rat} : dQ (p.num * q.den) (q.num * p.den) ≤ 0 ↔ p ≤ q := by
 rw [← Int.not_lt, sL, Rat.not_lt]
theorem NI {x : List Int} {c : List ZX} {an ad bn bd tn td zt z1 z2 b σ r : Int} {pt : Bool} (p1 : aG env.P 79 [.ag (PI x :: aI zq c :: (c4 an ad ++ c4 bn bd))] (.bool pt)) (k0 : aG env.P 15 [R2 an ad, R2 tn td] (.int .i64 zt))
  (k1 : aG env.P 15 [R2 tn td, R2 an ad] (.int .i64 z1)) (k2 : aG env.P 15 [R2 tn td, R2 bn bd] (.int .i64 z2)) (k3 : aG env.P 80 [aI zq c, R2 an ad, R2 tn td] (.int .i64 b)) (k4 : aG env.P 81 [PI x, R2 tn td] (.int .i64 σ))
  (hr : r = if pt = true then zt else if z1 ≤ 0 then 1 else if 0 < z2 then -1 else if b = 0 then 1 else if σ = 0 then 0 else -1) : aG env.P 20 [.ag (PI x :: aI zq c :: (c4 an ad ++ c4 bn bd)), R2 tn td] (.int .i64 r) := by
 simp only [c4, List.cons_append, List.nil_append] at p1 ⊢
 refine bV [(0, .ag [PI x, aI zq c, aI aF (aS DD an.natAbs), .bool (decide (an < 0)), aI aF (aS DD ad.natAbs), .bool (decide (ad < 0)), aI aF (aS DD bn.natAbs), .bool (decide (bn < 0)), aI aF (aS DD bd.natAbs), .bool (decide (bd < 0))]), (1, R2 tn td)] Tryz.func20 ?_
 refine aA [2, 3] ?_
 refine W.seq ?_
 refine aK [2, 3, 6] p1 ?_
 refine bE ?_ ?_ <;> intro h
 ·subst h
  rw [if_pos rfl] at hr
  subst hr
  refine aK [4] k0 ?_
  exact bT
 ·subst h
  rw [if_neg (by decide)] at hr
  refine W.skip ?_
  refine W.seq ?_
  refine aK [2, 3, 15] k1 ?_
  refine bE ?_ ?_ <;> intro h
  ·simp at h
   rw [if_pos h] at hr
   subst hr
   refine aA [4] ?_
   exact bT
  ·simp at h
   rw [if_neg (by omega)] at hr
   refine W.skip ?_
   refine W.seq ?_
   refine aK [2, 3, 20] k2 ?_
   refine bE ?_ ?_ <;> intro h
   ·simp at h
    rw [if_pos h] at hr
    subst hr
    refine aA [4] ?_
    exact bT
   ·simp at h
    rw [if_neg (by omega)] at hr
    refine W.skip ?_
    refine W.seq ?_
    refine aK [2, 3, 27] k3 ?_
    refine bE ?_ ?_ <;> intro h
    ·simp at h
     rw [if_pos h] at hr
     subst hr
     refine aA [4] ?_
     exact bT
    ·simp at h
     rw [if_neg h] at hr
     refine W.skip ?_
     refine W.seq ?_
     refine aK [32] k4 ?_
     refine bE ?_ ?_ <;> intro h
     ·simp at h
      rw [if_pos h] at hr
      subst hr
      refine aA [4] ?_
      exact bT
     ·simp at h
      rw [if_neg h] at hr
      subst hr
      refine W.skip ?_
      refine aA [4] ?_
      exact bT
abbrev eO (f : ZX) (p : Rat × Rat) : Rat → Prop := oC (vt (aU f)) p.1 p.2
theorem j4.amh {s n : Nat} {f : ZX} (I : j4 s n f) {u : Nat} {p : Rat × Rat} {t : Rat} (A : sJ f (vt (aU f)) p.1 p.2) (q1 : SQ u p.1) (q2 : SQ u p.2) (qt : SQ u t) (hu : u ≤ 1000000000) : aG env.P 20 [QA f (aU f) p, RR t] (.int .i64 (cr (eO f p) t)) := by
 have p1 := xR (f := f) (c := aU f) q1 q2 hu
 have k0 := rF p.1 t (q1.yy hu) (qt.yy hu)
 have k1 := rF t p.1 (qt.yy hu) (q1.yy hu)
 have k2 := rF t p.2 (qt.yy hu) (q2.yy hu)
 have k3 := I.rM q1 qt hu
 have k4 := I.asm qt hu
 have hc := A.axk t
 rw [c8, c8] at k0 k1 k2
 rw [c8, c8] at k3
 rw [c8] at k4 ⊢
 rw [pW] at p1 ⊢
 refine NI p1 k0 k1 k2 k3 k4 ?_
 rw [hc]
 simp only [decide_eq_true_eq]
 by_cases h1 : p.1 = p.2
 ·rw [if_pos h1, if_pos h1]
  by_cases h2 : p.1 < t
  ·rw [if_pos h2, nD (oK.1 (oR.2 h2))]
  ·rw [if_neg h2]
   by_cases h3 : t < p.1
   ·rw [if_pos h3, nE (oL.1 (sL.2 h3))]
   ·rw [if_neg h3, rK.2 (by grind)]
 ·rw [if_neg h1, if_neg h1]
  simp only [NH, sL]
  by_cases h2 : t ≤ p.1
  ·rw [if_pos h2, if_pos h2]
  ·rw [if_neg h2, if_neg h2]
   by_cases h3 : p.2 < t
   ·rw [if_pos h3, if_pos h3]
   ·rw [if_neg h3, if_neg h3, if_neg (show ¬ t < p.1 by grind)]
    have e1 : ((vt (aU f) p.1 : Int) - vt (aU f) t = 0) ↔ vt (aU f) p.1 = vt (aU f) t := by omega
    simp only [e1, cP]
def hv (f : ZX) (p : Rat × Rat) : Rat × Rat := if p.1 = p.2 then p else ex f (if vt (aU f) ((p.1 + p.2) / 2) < vt (aU f) p.1 then (p.1, (p.1 + p.2) / 2) else ((p.1 + p.2) / 2, p.2))
theorem NJ {x : List Int} {c : List ZX} {an ad bn bd : Int} (p1 : aG env.P 79 [.ag (PI x :: aI zq c :: (c4 an ad ++ c4 bn bd))] (.bool true)) : aG env.P 134 [.ag (PI x :: aI zq c :: (c4 an ad ++ c4 bn bd))] (.ag (PI x :: aI zq c :: (c4 an ad ++ c4 bn bd))) := by
 simp only [c4, List.cons_append, List.nil_append] at p1 ⊢
 refine bV [(0, .ag [PI x, aI zq c, aI aF (aS DD an.natAbs), .bool (decide (an < 0)), aI aF (aS DD ad.natAbs), .bool (decide (ad < 0)), aI aF (aS DD bn.natAbs), .bool (decide (bn < 0)), aI aF (aS DD bd.natAbs), .bool (decide (bd < 0))])] Tryz.func134 ?_
 refine aA [1, 2] ?_
 refine W.seq ?_
 refine aK [1, 2, 5] p1 ?_
 refine bE ?_ ?_ <;> intro h
 ·refine aA [2] ?_
  exact bT
 ·simp at h
theorem NK {x : List Int} {c : List ZX} {an ad bn bd mn md yn yd zn zd b : Int} (p1 : aG env.P 79 [.ag (PI x :: aI zq c :: (c4 an ad ++ c4 bn bd))] (.bool false)) (k1 : aG env.P 209 [R2 an ad, R2 bn bd] (R2 mn md)) (k2 : aG env.P 80 [aI zq c, R2 an ad, R2 mn md] (.int .i64 b))
  (k3 : aG env.P 84 [.ag (PI x :: aI zq c :: (if 0 < b then c4 an ad ++ c4 mn md else c4 mn md ++ c4 bn bd))] (.ag (PI x :: aI zq c :: (c4 yn yd ++ c4 zn zd)))) : aG env.P 134 [.ag (PI x :: aI zq c :: (c4 an ad ++ c4 bn bd))] (.ag (PI x :: aI zq c :: (c4 yn yd ++ c4 zn zd))) := by
 simp only [c4, List.cons_append, List.nil_append] at p1 k3 ⊢
 refine bV [(0, .ag [PI x, aI zq c, aI aF (aS DD an.natAbs), .bool (decide (an < 0)), aI aF (aS DD ad.natAbs), .bool (decide (ad < 0)), aI aF (aS DD bn.natAbs), .bool (decide (bn < 0)), aI aF (aS DD bd.natAbs), .bool (decide (bd < 0))])] Tryz.func134 ?_
 refine aA [1, 2] ?_
 refine W.seq ?_
 refine aK [1, 2, 5] p1 ?_
 refine bE ?_ ?_ <;> intro h
 ·simp at h
 refine W.skip ?_
 refine aK [1, 2, 3] k1 ?_
 by_cases hb : 0 < b
 ·rw [if_pos hb] at k3
  refine W.gS (fun σ => ∃ (v1 v2 : Nat) (rows : Pm.Rows) (clk : Nat), σ = ⟨fa [(1, .ptr 1 v1 0 0), (2, .ptr 2 v2 0 0)], rows, clk⟩ ∧ rows 1 = some ⟨v1, 49, 10, [[PI x, aI zq c, aI aF (aS DD an.natAbs), .bool (decide (an < 0)), aI aF (aS DD ad.natAbs), .bool (decide (ad < 0)), aI aF (aS DD mn.natAbs), .bool (decide (mn < 0)), aI aF (aS DD md.natAbs), .bool (decide (md < 0))]]⟩ ∧ rows 2 = some ⟨v2, 49, 10, [[PV.nil, PV.nil, PV.nil, PV.bool false, PV.nil, PV.bool false, PV.nil, PV.bool false, PV.nil, PV.bool false]]⟩) ?_ ?_
  ·refine aK [1, 2, 3, 18] k2 ?_
   refine bE ?_ ?_ <;> intro h
   ·refine W.b8 (fun K hK => ?_); simp (disch := omega) [gw]
    exact hK _ ⟨_, aB _ [1, 2], _, _, _, _, rfl, by simp, by simp⟩
   ·simp at h; omega
  rintro _ ⟨v1, v2, rows, clk, rfl, tR, dP⟩
  refine W.sr ?_
  simp (disch := omega) [gw, tR, dP]
  refine aD k3 ?_
  simp (disch := omega) [gw, tR, dP]
  refine bH [2] ?_
  exact bT
 ·rw [if_neg hb] at k3
  refine W.gS (fun σ => ∃ (v1 v2 : Nat) (rows : Pm.Rows) (clk : Nat), σ = ⟨fa [(1, .ptr 1 v1 0 0), (2, .ptr 2 v2 0 0)], rows, clk⟩ ∧ rows 1 = some ⟨v1, 49, 10, [[PI x, aI zq c, aI aF (aS DD mn.natAbs), .bool (decide (mn < 0)), aI aF (aS DD md.natAbs), .bool (decide (md < 0)), aI aF (aS DD bn.natAbs), .bool (decide (bn < 0)), aI aF (aS DD bd.natAbs), .bool (decide (bd < 0))]]⟩ ∧ rows 2 = some ⟨v2, 49, 10, [[PV.nil, PV.nil, PV.nil, PV.bool false, PV.nil, PV.bool false, PV.nil, PV.bool false, PV.nil, PV.bool false]]⟩) ?_ ?_
  ·refine aK [1, 2, 3, 18] k2 ?_
   refine bE ?_ ?_ <;> intro h
   ·simp at h; omega
   ·refine W.b8 (fun K hK => ?_); simp (disch := omega) [gw]
    exact hK _ ⟨_, aB _ [1, 2], _, _, _, _, rfl, by simp, by simp⟩
  rintro _ ⟨v1, v2, rows, clk, rfl, tR, dP⟩
  refine W.sr ?_
  simp (disch := omega) [gw, tR, dP]
  refine aD k3 ?_
  simp (disch := omega) [gw, tR, dP]
  refine bH [2] ?_
  exact bT
theorem j4.asn {s n : Nat} {f : ZX} (I : j4 s n f) {u : Nat} {p : Rat × Rat} (hle : p.1 ≤ p.2) (q1 : SQ u p.1) (q2 : SQ u p.2) (q3 : SQ u ((p.1 + p.2) / 2)) (q4 : SQ u (p.1 + p.2)) (hu : u ≤ 1000000000) : aG env.P 134 [QA f (aU f) p] (QA f (aU f) (hv f p)) := by
 have p1 := xR (f := f) (c := aU f) q1 q2 hu
 by_cases h : p.1 = p.2
 ·rw [decide_eq_true h] at p1
  rw [show hv f p = p from if_pos h, pW]
  rw [pW] at p1
  exact NJ p1
 ·rw [decide_eq_false h] at p1
  have cW : p.1 < p.2 := by grind
  obtain ⟨m1, m2⟩ := oD cW
  have k1 := M8 (q1.yy hu) (q2.yy hu) (q4.yy hu)
  have k2 := I.rM q1 q3 hu
  rw [if_neg (Rat.not_lt.2 (Rat.le_of_lt m1))] at k2
  have e : hv f p = ex f (if vt (aU f) ((p.1 + p.2) / 2) < vt (aU f) p.1 then (p.1, (p.1 + p.2) / 2) else ((p.1 + p.2) / 2, p.2)) := if_neg h
  rw [e]
  have hb : (0 < (vt (aU f) p.1 : Int) - vt (aU f) ((p.1 + p.2) / 2)) ↔ vt (aU f) ((p.1 + p.2) / 2) < vt (aU f) p.1 := by omega
  have k3 := I.amg (u := u) (p := if vt (aU f) ((p.1 + p.2) / 2) < vt (aU f) p.1 then (p.1, (p.1 + p.2) / 2) else ((p.1 + p.2) / 2, p.2)) (by split <;> assumption) (by split <;> assumption) hu
  rw [c8, c8] at k1 k2
  rw [c8] at k1
  rw [pW] at p1 ⊢
  rw [pW]
  refine NK p1 k1 k2 ?_
  by_cases h2 : vt (aU f) ((p.1 + p.2) / 2) < vt (aU f) p.1
  ·rw [if_pos (hb.2 h2)]
   rw [if_pos h2] at k3 ⊢
   exact k3
  ·rw [if_neg (fun h3 => h2 (hb.1 h3))]
   rw [if_neg h2] at k3 ⊢
   exact k3
theorem VA {f : ZX} {p : Rat × Rat} (A : sJ f (vt (aU f)) p.1 p.2) : sJ f (vt (aU f)) (ex f p).1 (ex f p).2 ∧ ∀ t, eO f (ex f p) t ↔ eO f p t := by
 unfold ex
 split
 ·rename_i h0
  exact A.exact h0
 ·exact ⟨A, fun _ => Iff.rfl⟩
theorem NL {f : ZX} (h0 : f ≠ 0) (hc : uM f (bI f)) (hN : ZX.N f ≤ 20) : tD f (vt (aU f)) := by
 have hg : gz f (bI f) = 1 := (CU (.inl h0)).N1 (hc _ (eE _ _).l (eE _ _).r)
 refine ⟨h0, hc, _, ⟨fun B hB => ?_⟩, rfl⟩
 obtain ⟨s, hs⟩ := DC f.l
 obtain ⟨β, hβ⟩ := NA B
 have hb : BZ (s + 1 + 5) 20 f := ⟨hN, fun c hc => dD (by decide) (by
  have h1 := hs c hc
  have h2 : 2 ^ s < 2 ^ (s + 1 + 5) := Nat.pow_lt_pow_right (by decide) (by omega)
  omega)⟩
 have hb0 : BZ (s + 1) 20 f := ⟨hN, fun c hc => dD (by decide) (by
  have h1 := hs c hc
  have h2 : 2 ^ s < 2 ^ (s + 1) := Nat.pow_lt_pow_right (by decide) (by omega)
  omega)⟩
 have bd : BZ (s + 1 + 5) 20 (bI f) := hb0.bI (by decide)
 have hND := lN f
 have hP1 : ZX.N (pV (bI f)) ≤ ZX.N (bI f) := lM _
 obtain ⟨δ, h1, h2⟩ := DE (jb ((s + 1 + 5 + 20 + 1) * 2 * 4 ^ 20) 20 β)
 refine ⟨δ, h1, Lcl.mono (U0 (s := s + 1) (n := 20) (by decide) h0 hb ?_ (iT bd) hg (by rw [h2]; exact Rat.le_refl)) hβ⟩
 unfold zK
 split
 ·have : (4 : Nat) ^ ZX.N f ≤ 4 ^ 20 := Nat.pow_le_pow_right (by decide) hN
  exact Nat.mul_le_mul (by omega) this
 ·have : (4 : Nat) ^ ZX.N (pV (bI f)) ≤ 4 ^ 20 := Nat.pow_le_pow_right (by decide) (by omega)
  exact Nat.mul_le_mul (Nat.le_refl _) this
structure pM (f h g w : ZX) : Prop where
 eq : f = w * g
 ng : Nf g
 nw : Nf w
 wg : uM w g
 wh : uM w h
 gd : dv g h
 sg : uM g (bI g)
 sw : uM w (bI w)
theorem JI {f h : ZX} (nf : Nf f) (hc : uM f (bI f)) : ∃ w, pM f h (gz f h) w := by
 have ng : Nf (gz f h) := CU (.inl nf.ne)
 obtain ⟨w, nw, e⟩ := nf.quo ng (eE f h).l
 have hd : bI f = bI w * gz f h + w * bI (gz f h) := by
  have h1 := congrArg bI e
  rwa [nM] at h1
 have dwf : dv w f := by rw [e]; exact (dv.refl w).mul_right _
 have dgf : dv (gz f h) f := (eE f h).l
 have wg : uM w (gz f h) := fun d h1 h2 => hc d (h1.trans dwf) (by rw [hd]; exact (h2.mul_left _).add (h1.mul_right _))
 exact ⟨w, e, ng, nw, wg, fun d h1 h2 => wg d h1 ((eE f h).least (h1.trans dwf) h2), (eE f h).r,
  fun d h1 h2 => hc d (h1.trans dgf) (by rw [hd]; exact (h1.mul_left _).add (h2.mul_left _)), fun d h1 h2 => hc d (h1.trans dwf) (by rw [hd]; exact (h2.mul_right _).add (h1.mul_right _))⟩
theorem pM.N {f h g w : ZX} (S : pM f h g w) : ZX.N w ≤ ZX.N f ∧ ZX.N g ≤ ZX.N f := by
 have h1 := eI S.nw.ne S.ng.ne
 rw [← S.eq] at h1
 have := ZX.aC.1 S.nw.ne
 have := ZX.aC.1 S.ng.ne
 omega
theorem pM.cnt {f h g w : ZX} (S : pM f h g w) {v γ φ : Rat → Nat} (hv : tD f v) (hg : tD g γ) (hw : tD w φ) {s t : Rat} (kG : s ≤ t) : v s + γ t + φ t = v t + γ s + φ s := by
 have e : K 1 * f = w * g := by rw [← S.eq]; show (1 : ZX) * f = f; grind
 have := hv.mul hw hg (by decide) e S.wg kG
 omega
theorem VB {f h : ZX} {v w : Rat → Nat} (hv : tD f v) (hw : tD h w) (hc : uM f h) {s r l β : Nat} (hA : ∀ c ∈ f.l, c.natAbs ≤ 2 ^ s) (hB : ∀ c ∈ h.l, c.natAbs ≤ 2 ^ r) (hl : ZX.N f + ZX.N h ≤ 2 ^ l)
  {a b : Rat} (ha : Ab a (2 ^ β)) (hb : Ab b (2 ^ β)) (gO : a < b) (hd : (b - a) * 2 ^ (sx f h s r l + (ZX.N f + ZX.N h) * (β + 2) + 2) ≤ 1) : v a = v b ∨ w a = w b := by
 refine Classical.byContradiction fun RS => ?_
 have aiM := not_or.1 RS
 have sm : ∀ {p : ZX} {m : Nat} {u : Rat → Nat}, tD p u → (∀ c ∈ p.l, c.natAbs ≤ 2 ^ m) → ¬ u a = u b → Ab (e a p) ((b - a) * 2 ^ (m + ZX.N p * (β + 2))) := fun {p m u} S hp hu =>
  S.small gO hu (iB _) (fun x y h1 h2 h3 => by
   have g1 := (acN hp (Nat.le_refl _) (bY ha hb h1 (by grind)) (bY ha hb (show a ≤ y by grind) h3)).1
   have g2 := l5 x y p.l
   have g3 : e y p - e x p = qv y p.l - qv x p.l := rfl
   rw [g3, g2]
   exact Ab.mul ⟨by grind, Rat.le_refl⟩ g1) Rat.le_refl (Rat.le_of_lt gO)
 have b1 := sm hv hA aiM.1
 have b2 := sm hw hB aiM.2
 have n1 := ZX.aC.1 hv.ne
 have n2 := ZX.aC.1 hw.ne
 have s1 : s ≤ s * ZX.N h := Nat.le_mul_of_pos_right _ (by omega)
 have s2 : r ≤ r * ZX.N f := Nat.le_mul_of_pos_right _ (by omega)
 have fin : ∀ {i j k : Nat}, i + j + 1 = k → (b - a) * 2 ^ k ≤ 1 → (b - a) * 2 ^ i * 2 * 2 ^ j ≤ 1 := fun {i j k} hk h => by
  rw [← hk, Rat.pow_succ, rI] at h; grind
 have hX : sx f h s r l = (l + 2) * (ZX.N f + ZX.N h) + s * ZX.N h + r * ZX.N f := rfl
 rw [Nat.add_mul] at hd
 have h5 := asd hv.ne hw.ne hA hB hl hc ha (β := β) (fin (i := s + ZX.N f * (β + 2)) (k := sx f h s r l + (ZX.N f * (β + 2) + ZX.N h * (β + 2)) + 2) (by omega) hd) (fin (i := r + ZX.N h * (β + 2)) (k := sx f h s r l + (ZX.N f * (β + 2) + ZX.N h * (β + 2)) + 2) (by omega) hd)
 have q1 : 0 < (b - a) * 2 ^ (s + ZX.N f * (β + 2)) := Rat.mul_pos (by grind) (iB _)
 have q2 : 0 < (b - a) * 2 ^ (r + ZX.N h * (β + 2)) := Rat.mul_pos (by grind) (iB _)
 obtain ⟨p1, p2⟩ := b1
 obtain ⟨p3, p4⟩ := b2
 rcases h5 with (h5 | h5) | (h5 | h5) <;> grind
theorem amj {f h : ZX} {v w : Rat → Nat} (hv : tD f v) (hw : tD h w) (hc : uM f h) {s n l β : Nat} (hA : ∀ c ∈ f.l, c.natAbs ≤ 2 ^ s) (hB : ∀ c ∈ h.l, c.natAbs ≤ 2 ^ s) (hn : ZX.N f + ZX.N h ≤ n) (hl : n ≤ 2 ^ l)
  {a b : Rat} (ha : Ab a (2 ^ β)) (hb : Ab b (2 ^ β)) (gO : a < b) (hd : (b - a) * 2 ^ (sk s n l β + (s + n * (β + 2)) + 1) ≤ 1) : v a = v b ∨ w a = w b :=
 VB hv hw hc hA hB (Nat.le_trans hn hl) ha hb gO (U4 hd (by
  have h1 := acO (a := f) (b := h) (s := s) (l := l) (β := β) hn (Nat.le_refl _)
  have h2 : (ZX.N f + ZX.N h) * (β + 2) ≤ n * (β + 2) := Nat.mul_le_mul_right _ hn
  omega))
theorem agI {f h : ZX} {v w : Rat → Nat} (hv : tD f v) (hw : tD h w) (hc : uM f h) (B : Rat) : ∃ δ : Rat, 0 < δ ∧ ∀ a b, Ab a B → Ab b B → a < b → b - a ≤ δ → v a = v b ∨ w a = w b := by
 obtain ⟨s1, h1⟩ := DC f.l
 obtain ⟨s2, h2⟩ := DC h.l
 obtain ⟨β, hβ⟩ := NA B
 obtain ⟨δ, h3, h4⟩ := DE (sk (s1 + s2) (ZX.N f + ZX.N h) (ZX.N f + ZX.N h) β + (s1 + s2 + (ZX.N f + ZX.N h) * (β + 2)) + 1)
 refine ⟨δ, h3, fun a b ha hb gO hd => amj hv hw hc (s := s1 + s2) (l := ZX.N f + ZX.N h) (β := β) (fun c hc => Nat.le_trans (h1 c hc) (Nat.pow_le_pow_right (by decide) (by omega))) (fun c hc => Nat.le_trans (h2 c hc) (Nat.pow_le_pow_right (by decide) (by omega))) (Nat.le_refl _) (Nat.le_of_lt Nat.lt_two_pow_self) (ha.mono hβ) (hb.mono hβ) gO ?_⟩
 rw [← h4]
 exact Rat.mul_le_mul_of_nonneg_right hd (Rat.le_of_lt (iB _))
section
variable {f : ZX} {v : Rat → Nat} {lo hi : Rat} (A : sJ f v lo hi)
include A
theorem R5 {s t : Rat} (h1 : ¬ oC v lo hi s) (h2 : oC v lo hi t) (kG : s < t) : v t < v s := by
 have g1 : s < hi := Rat.not_le.1 fun h => h1 (.inl h)
 rcases A.k with ⟨rfl, h0⟩ | ⟨cW, hk⟩
 ·have h3 : lo ≤ t := by rcases h2 with h | h <;> grind
  have h4 := A.S.root g1 h0
  have h5 := A.S.bX h3
  omega
 ·have h3 : v lo ≤ v s := by
   by_cases h : s ≤ lo
   ·exact A.S.bX h
   ·exact Nat.not_lt.1 fun h4 => h1 (.inr ⟨by grind, h4⟩)
  rcases h2 with h | ⟨_, h⟩
  ·have := A.S.bX h; omega
  ·omega
end
theorem R6 {U : Rat → Prop} {δ : Rat} (hδ : 0 < δ) : ∀ (n : Nat) (s t : Rat), s < t → ¬ U s → U t → t - s ≤ δ * 2 ^ n → ∃ a b, s ≤ a ∧ a < b ∧ b ≤ t ∧ b - a ≤ δ ∧ ¬ U a ∧ U b
 | 0, s, t, h, h1, h2, hd => ⟨s, t, Rat.le_refl, h, Rat.le_refl, by rwa [Rat.pow_zero, Rat.mul_one] at hd, h1, h2⟩
 | n + 1, s, t, h, h1, h2, hd => by
  obtain ⟨m1, m2⟩ := oD h
  obtain ⟨d1, d2⟩ := rJ hd
  generalize (s + t) / 2 = m at *
  by_cases hm : U m
  ·obtain ⟨a, b, g1, g2, g3, g4⟩ := R6 hδ n s m m1 h1 hm d1
   exact ⟨a, b, g1, g2, by grind, g4⟩
  ·obtain ⟨a, b, g1, g2, g3, g4⟩ := R6 hδ n m t m2 hm h2 d2
   exact ⟨a, b, by grind, g2, g3, g4⟩
theorem VC {U : Rat → Prop} {δ : Rat} (hδ : 0 < δ) {s t : Rat} (h : s < t) (h1 : ¬ U s) (h2 : U t) : ∃ a b, s ≤ a ∧ a < b ∧ b ≤ t ∧ b - a ≤ δ ∧ ¬ U a ∧ U b := by
 obtain ⟨n, hn⟩ := NA ((t - s) / δ)
 refine R6 hδ n s t h h1 h2 ?_
 have h3 : (t - s) / δ * δ = t - s := Rat.div_mul_cancel (Rat.ne_of_gt hδ)
 have h4 := Rat.mul_le_mul_of_nonneg_right hn (Rat.le_of_lt hδ)
 grind
theorem sM {f : ZX} {p : Rat × Rat} (h : p.1 = p.2) (t : Rat) : eO f p t ↔ p.1 ≤ t := by
 refine ⟨fun h1 => ?_, fun h1 => .inl (h ▸ h1)⟩
 rcases h1 with h1 | ⟨h1, _⟩
 ·rw [h]; exact h1
 ·grind
theorem JJ {a : ZX} (na : Nf a) (hc : uM a (bI a)) : sq a = a := by
 obtain ⟨g, hg⟩ := i5 _ a (bI a) (Nat.le_refl _)
 have h0 := hg.ne (.inl na.ne)
 have h1 := hc g hg.l hg.r
 have h2 := ZX.aC.1 h0
 obtain ⟨k, hk, rfl⟩ := jZ (show ZX.N g = 1 by omega)
 obtain ⟨c, xC, u, v, e⟩ := hg.uv
 rw [nJ] at e
 exact agx na (Int.mul_ne_zero xC hk) e.symm
abbrev lR (x : List Int) (c : List ZX) (an ad bn bd : Int) : List PV := [PI x, aI zq c, aI aF (aS DD an.natAbs), .bool (decide (an < 0)), aI aF (aS DD ad.natAbs), .bool (decide (ad < 0)), aI aF (aS DD bn.natAbs), .bool (decide (bn < 0)), aI aF (aS DD bd.natAbs), .bool (decide (bd < 0))]
theorem aiN {f : ZX} {c : List ZX} {p : Rat × Rat} : QA f c p = .ag (lR f.l c p.1.num p.1.den p.2.num p.2.den) := rfl
theorem mJ {y x g : List Int} {c cg : List ZX} {an ad bn bd σ b : Int} {pt z : Bool} (hl : y.length < 1000000) (hg : g.length < 1000000) (p1 : aG env.P 79 [.ag (lR x c an ad bn bd)] (.bool pt)) (k1 : pt = true → aG env.P 81 [PI y, R2 an ad] (.int .i64 σ)) (k2 : aG env.P 208 [PI y, PI x] (PI g))
  (k3 : 2 ≤ g.length → aG env.P 85 [PI g] (aI zq cg)) (k4 : 2 ≤ g.length → aG env.P 80 [aI zq cg, R2 an ad, R2 bn bd] (.int .i64 b)) (hz : z = if y.length = 0 then true else if pt = true then σ == 0 else if g.length < 2 then false else decide (0 < b)) :
  aG env.P 133 [PI y, .ag (lR x c an ad bn bd)] (.bool z) := by
 simp only [lR] at p1 ⊢
 refine bV [(0, PI y), (1, .ag [PI x, aI zq c, aI aF (aS DD an.natAbs), .bool (decide (an < 0)), aI aF (aS DD ad.natAbs), .bool (decide (ad < 0)), aI aF (aS DD bn.natAbs), .bool (decide (bn < 0)), aI aF (aS DD bd.natAbs), .bool (decide (bd < 0))])] Tryz.func133 ?_
 refine aA [0, 3] ?_
 refine aL [0, 3, 8] ?_
 refine bE ?_ ?_ <;> intro h
 ·have hy : y.length = 0 := by simp at h; simp [h]
  rw [if_pos hy] at hz; subst hz
  refine aA [4] ?_
  exact bT
 ·have hy : ¬ y.length = 0 := by simp at h; simp [h]
  rw [if_neg hy] at hz
  refine W.skip ?_
  refine W.seq ?_
  refine aK [0, 3, 10] p1 ?_
  refine bE ?_ ?_ <;> intro h
  ·subst h
   rw [if_pos rfl] at hz; subst hz
   have k1' := k1 rfl
   refine aK [4] k1' ?_
   exact bT
  ·subst h
   rw [if_neg (by decide)] at hz
   refine W.skip ?_
   refine aK [3, 5] k2 ?_
   refine aL [3, 5, 22] ?_
   refine bE ?_ ?_ <;> intro h
   ·have n4 : g.length < 2 := by simp at h; omega
    rw [if_pos n4] at hz; subst hz
    refine aA [4] ?_
    exact bT
   ·have n4 : ¬ g.length < 2 := by simp at h; omega
    rw [if_neg n4] at hz
    have k3' := k3 (by omega)
    have k4' := k4 (by omega)
    refine W.skip ?_
    refine oE ?_
    refine bZ k3' ?_
    refine cI [4] k4' ?_
    refine W.ret ?_
    simp [go, hz]
theorem ac2 (U : Rat → Prop) (t : Rat) : cr U t = -1 ∨ cr U t = 0 ∨ cr U t = 1 := by
 unfold cr
 split
 ·split <;> simp
 ·simp
theorem aiO {u : Nat} {p q : Rat} (hp : SQ u p) (hq : SQ u q) : ∃ D, 1 ≤ D ∧ D ≤ 2 ^ (2 * u) ∧ Gr D (2 ^ u) 0 p ∧ Gr D (2 ^ u) 0 q := by
 have key : ∀ r : Rat, SQ u r → 1 ≤ r.den ∧ r.den ≤ 2 ^ u ∧ Ab r (2 ^ u) ∧ r * ((r.den : Int) : Rat) = (r.num : Rat) := fun r hr => by
  have h1 := r.den_pos
  have h2 := kB (b := 2) (by decide) (r.den : Int)
  have h3 := Nat.pow_le_pow_right (show 0 < 2 by decide) hr.d2
  have h4 := kB (b := 2) (by decide) r.num
  have h5 := Nat.pow_le_pow_right (show 0 < 2 by decide) hr.n2
  have h6 := I6 r
  have h7 : Ab (r.num : Rat) (2 ^ u) := GI (by omega)
  have h8 : (1 : Rat) ≤ ((r.den : Int) : Rat) := eN (by omega)
  refine ⟨h1, by omega, ?_, h6.symm⟩
  rw [h6] at h7
  obtain ⟨g1, g2⟩ := h7
  have hT := iB u
  generalize (2 : Rat) ^ u = T at *
  constructor
  ·refine Rat.not_lt.1 fun hh => ?_
   have := Rat.mul_le_mul_of_nonneg_left h8 (show 0 ≤ -r by grind)
   grind
  ·refine Rat.not_lt.1 fun hh => ?_
   have := Rat.mul_le_mul_of_nonneg_left h8 (show 0 ≤ r by grind)
   grind
 obtain ⟨a1, a2, a3, a4⟩ := key p hp
 obtain ⟨b1, b2, b3, b4⟩ := key q hq
 refine ⟨p.den * q.den, Nat.mul_pos a1 b1, ?_, ⟨⟨p.num * (q.den : Int), ?_⟩, a3⟩, ⟨⟨q.num * (p.den : Int), ?_⟩, b3⟩⟩
 ·rw [Nat.two_mul, Nat.pow_add]; exact Nat.mul_le_mul a2 b2
 ·rw [Nat.pow_zero, Nat.mul_one, Rat.intCast_mul, ← a4, Int.natCast_mul p.den, Rat.intCast_mul]; grind
 ·rw [Nat.pow_zero, Nat.mul_one, Rat.intCast_mul, ← b4, Int.natCast_mul p.den, Rat.intCast_mul]; grind
theorem amk {s n : Nat} {a : ZX} (h : pT s n a) (h0 : a ≠ 0) (uC : 1 ≤ n) (hC : (qb (qb s n) n + n + 6) * 4 ^ n ≤ 4500000000) (hs : qb s n ≤ 5000000) : j4 (qb s n) n (sq a) := by
 have h1 := (zA h0).1
 refine ⟨⟨h.sqb h0, h.hn, ?_, hC⟩, uC, h1, JJ h1 fun d d1 d2 => ?_, hs⟩
 ·exact Nat.le_trans h.hs (Nat.pow_le_pow_right (by decide) (by unfold qb; omega))
 ·have h3 := (eE (sq a) (bI (sq a))).least d1 d2
  rw [U1 h0] at h3
  have := h3.lZ ZX.lY
  rwa [ZX.rB] at this
theorem DJ {α β : Type} [Inhabited α] [Inhabited β] {g : α → β} {l : List α} {i : Nat} (h : i < l.length) : nth (l.map g) i = g (nth l i) := by
 rw [cQ (by simpa using h), cQ h, List.getElem_map]
theorem YJ {s n : Nat} {f : ZX} (I : j4 s n f) (hN : ZX.N f ≤ 1) : wY s n f = [] := by
 have V := I.ivs.len
 have h1 : f = 1 := I.nf.N1 hN
 have h2 := I.S.const I.NG (σ := 1) (.inr (by rw [h1, UN]; decide)) (fun x _ _ => by rw [h1, UN]; decide)
 rw [h2, Nat.sub_self] at V
 exact List.eq_nil_of_length_eq_zero V
abbrev G9 (x : List Int) (an ad bn bd : Int) : List PV := [Po x, .bool (decide (an < 0)), us (aS LL an.natAbs), .bool (decide (ad < 0)), us (aS LL ad.natAbs), .bool (decide (bn < 0)), us (aS LL bn.natAbs), .bool (decide (bd < 0)), us (aS LL bd.natAbs)]
def D2 (sg : ZX → Int) : Nat → ZX → Int
 | 0, _ => 0
 | k + 1, p => if sg p = 0 then D2 sg k (bI p) else sg p
theorem oS {sg : ZX → Int} (h0 : sg 0 = 0) : ∀ k, D2 sg k 0 = 0
 | 0 => rfl
 | k + 1 => by
  have h1 : bI 0 = 0 := rfl
  rw [D2, if_pos h0, h1, oS h0 k]
theorem R7 {sg : ZX → Int} (h0 : sg 0 = 0) : ∀ {k j : Nat} {p : ZX}, ZX.N p ≤ k → ZX.N p ≤ j → D2 sg k p = D2 sg j p
 | 0, j, p, h, _ => by
  have : p = 0 := Classical.byContradiction fun h0 => by have := ZX.aC.1 h0; omega
  rw [this, oS h0, oS h0]
 | k + 1, 0, p, _, h => by
  have : p = 0 := Classical.byContradiction fun h0 => by have := ZX.aC.1 h0; omega
  rw [this, oS h0, oS h0]
 | k + 1, j + 1, p, h1, h2 => by
  rw [D2, D2]
  have := lN p
  rw [R7 h0 (k := k) (j := j) (p := bI p) (by omega) (by omega)]
theorem DK (g : FuncId) (hw : HR g = false) (b6 : List PV) (hc : b6.all fW = true) (sg : ZX → Int) (h0 : sg 0 = 0) {s k : Nat} {p : ZX} (hp : BZ s k p) (hk : k ≤ 31) (hs : s ≤ 1000000) (hg : ∀ (q : ZX) (s' : Nat), s' ≤ s + 5 * k → BZ s' k q → aG env.P g (Po q.l :: b6) (.int .i64 (sg q))) :
  aG env.P 103 [Po p.l, .fn g b6] (.int .i64 (D2 sg (ZX.N p) p)) := by
 have hN := hp.N
 have N1 := fP (x := p.l) (hp.pb (by omega) (by omega))
 rw [p.c] at N1
 obtain ⟨r, hr⟩ : ∃ r, r = D2 sg (ZX.N p) p := ⟨_, rfl⟩
 rw [← hr]
 refine bV [(0, Po p.l), (1, .fn g b6)] Tryz.func103 ?_
 refine aA [0, 1] ?_
 refine W.seq ?_
 refine aK [0, 1] N1 ?_
 refine W.block ?_
 refine W.bC (fun m σ => ∃ (q : ZX) (s' : Nat) (rows : Pm.Rows) (clk : Nat), σ = ⟨fa [(0, Po q.l), (1, .fn g b6)], rows, clk⟩ ∧ m = ZX.N q ∧ BZ s' k q ∧ s' + 5 * ZX.N q ≤ s + 5 * k ∧ D2 sg (ZX.N q) q = r) (ZX.N p) ?_ ?_
 ·exact ⟨_, .refl, p, s, _, _, rfl, rfl, hp, by omega, hr.symm⟩
 rintro m _ ⟨q, s', rows, clk, rfl, rfl, bq, hsq, hq⟩
 have hNq := bq.N
 have hNl : ZX.N q = q.l.length := rfl
 refine aL [0, 1, 10] ?_
 refine bE ?_ ?_ <;> intro h
 ·have FR : q ≠ 0 := ZX.aC.2 (by show 0 < q.l.length; simp at h; omega)
  have hgq := hg q s' (by omega) bq
  have hD := pH bq (by omega) (by omega)
  have axr : ZX.N (bI q) < ZX.N q := by have := lN q; have := ZX.aC.1 FR; omega
  have bd := bq.bI hk
  obtain ⟨j, hj⟩ : ∃ j, ZX.N q = j + 1 := ⟨ZX.N q - 1, by have := ZX.aC.1 FR; omega⟩
  rw [hj, D2] at hq
  generalize hv : sg q = w at *
  refine lG ?_
  refine W.sr ?_
  simp only [HR] at hw
  simp (disch := omega) [gw, hw, hc]
  refine cI [0, 1, 5] hgq ?_
  refine aA [0, 1, 5, 17] ?_
  refine bE ?_ ?_ <;> intro h
  ·have hw : w ≠ 0 := by simpa using h
   rw [if_neg hw] at hq
   subst hq
   refine aA [4] ?_
   exact bT
  ·have hw : w = 0 := by simpa using h
   rw [if_pos hw] at hq
   refine W.skip ?_
   refine W.b8 (fun K hK => ?_)
   simp (disch := omega) [gw]
   refine bZ hD ?_
   refine hK _ ⟨ZX.N (bI q), _, aB _ [0, 1], axr, bI q, s' + 5, _, _, rfl, rfl, bd, by omega, ?_⟩
   rw [← hq]
   exact R7 h0 (Nat.le_refl _) (by omega)
 ·have FR : q = 0 := by
   refine Classical.byContradiction fun h0 => ?_
   have h1 := ZX.aC.1 h0
   simp at h; rw [hNl, h] at h1; simp at h1
  subst FR
  rw [oS h0] at hq
  subst hq
  refine fB ?_
  refine aA [4] ?_
  exact bT
theorem VD (n d : Int) : ∀ (k : Nat) (p : ZX), D2 (fun q => uT q.l n d) k p = mY n d k p
 | 0, _ => rfl
 | k + 1, p => by rw [D2, mY, VD n d k (bI p)]
theorem DL {s k u : Nat} {p : ZX} {n d : Int} {t : Rat} (hp : BZ s k p) (hk : k ≤ 31) (hs : s ≤ 1000000) (ht : dE n d = t) (hn : sz LL n ≤ u) (hd : sz LL d ≤ u) (hu1 : 1 ≤ u) (qt : sz LL t.num ≤ u ∧ sz LL (t.den : Int) ≤ u) (hu : u ≤ 1000000000) : aG env.P 40 [Po p.l, T2 n d] (.int .i64 (RC t.num t.den p)) := by
 have MT : ∀ (q : ZX) (s' : Nat), s' ≤ s + 5 * k → BZ s' k q → aG env.P 112 [Po q.l, .rd [.bool (decide (n < 0)), us (aS LL n.natAbs), .bool (decide (d < 0)), us (aS LL d.natAbs)]] (.int .i64 (uT q.l t.num t.den)) := fun q s' uY bq => by
  have hmul : k * (u + 1) ≤ 31 * (u + 1) := Nat.mul_le_mul_right _ hk
  have k6 := xM (EN bq) q.c hn hd hu1 (by omega) (by omega) (by omega) ht qt
  generalize uT q.l t.num t.den = r at *
  refine bV [(0, Po q.l), (1, .rd [.bool (decide (n < 0)), us (aS LL n.natAbs), .bool (decide (d < 0)), us (aS LL d.natAbs)])] Tryz.func112 ?_
  refine aA [0, 1] ?_
  refine aK [3] k6 ?_
  exact bT
 have F1 := DK 112 rfl [.rd [.bool (decide (n < 0)), us (aS LL n.natAbs), .bool (decide (d < 0)), us (aS LL d.natAbs)]] rfl (fun q => uT q.l t.num t.den) rfl hp hk hs MT
 rw [VD] at F1
 replace F1 : aG env.P 103 [Po p.l, .fn 112 [.rd [.bool (decide (n < 0)), us (aS LL n.natAbs), .bool (decide (d < 0)), us (aS LL d.natAbs)]]] (.int .i64 (RC t.num t.den p)) := F1
 generalize RC t.num t.den p = r at *
 refine bV [(0, Po p.l), (1, T2 n d)] Tryz.func40 ?_
 refine aA [0, 3] ?_
 refine aK [4] F1 ?_
 exact bT
theorem R8 {α : Type} {g : α → List PV} {l : List α} {m : Nat} {f : ZX} {L : List (Rat × Rat)} (hO : aG env.P 108 [aI g l] (Po f.l)) (hR : aG env.P 19 [Po f.l] (.fH [aI (ga f) L, .int .i64 0])) (hm : m = 0) : aG env.P 37 [aI g l] (aI (ga f) L) := by
 refine bV [(0, aI g l)] Tryz.func37 ?_
 refine aA [0] ?_
 refine iU ?_
 refine bZ hO ?_
 refine cI [3, 4] hR ?_
 refine aL [3, 12] ?_
 refine bE ?_ ?_ <;> intro h
 ·simp at h
 refine W.skip ?_
 refine aA [2] ?_
 exact bT
theorem R9 {x : List Int} {m : List Int} {f : ZX} {c : List ZX} {L : List (Rat × Rat)} (hx : x ≠ []) (hO : aG env.P 109 [PI x] (PI f.l)) (hR : aG env.P 97 [PI f.l] (aI (qa f c) L)) : aG env.P 38 [PI x] (aI (qa f c) L) := by
 refine bV [(0, PI x)] Tryz.func38 ?_
 refine aA [0] ?_
 refine aL [0, 5] ?_
 refine bE ?_ ?_ <;> intro h
 ·simp at h; exact absurd h hx
 refine W.skip ?_
 refine iU ?_
 refine bZ hO ?_
 refine cI [2] hR ?_
 exact bT
theorem aml {a : ZX} (na : Nf a) : uM (oz a) (bI (oz a)) := fun d h1 h2 => by
 refine Classical.byContradiction fun h3 => ?_
 have ho := F7 na
 have hd0 := h1.ne ho.ne
 obtain ⟨p, hp, hpd⟩ := kS _ d (Nat.le_refl _) (by omega)
 have hmu := UD na hp
 have hpo : dv p (oz a) := hpd.trans h1
 have h4 : 1 ≤ mu p (oz a) := (j0 hp ho.ne).2 (by rw [show p ^ 1 = p by rw [pow_succ', dH]; grind]; exact hpo)
 have h5 : mu p (oz a) = 0 + 1 := by
  rw [hmu] at h4 ⊢
  omega
 obtain ⟨h6, h7⟩ := xI hp ho.ne h5
 have h8 : 1 ≤ mu p (bI (oz a)) := (j0 hp h6).2 (by rw [show p ^ 1 = p by rw [pow_succ', dH]; grind]; exact hpd.trans h2)
 omega
theorem JK {s n : Nat} {a : ZX} (h : pT s n a) (h0 : a ≠ 0) (uC : 1 ≤ n) (hC : (qb (qb s n) n + n + 6) * 4 ^ n ≤ 4500000000) (hs : qb s n ≤ 5000000) : j4 (qb s n) n (oz (nf a)) := by
 have na := fF h0
 have no := F7 na
 have hb : BZ (qb s n) n (oz (nf a)) := h.nfz.dv na no (zZ na _ _)
 exact ⟨⟨hb, h.hn, Nat.le_trans h.hs (Nat.pow_le_pow_right (by decide) (by unfold qb; omega)), hC⟩, uC, no, JJ no (aml na), hs⟩
theorem DM {s n : Nat} {a : ZX} (h : pT s n a) (h0 : a ≠ 0) (uC : 1 ≤ n) (hC : (qb (qb s n) n + n + 6) * 4 ^ n ≤ 4500000000) (hs : qb s n ≤ 20000) : aG env.P 37 [Po a.l] (aI (ga (oz (nf a))) (wY (qb s n) n (oz (nf a)))) :=
 have I := JK h h0 uC hC (by omega)
 R8 (agi h h0) (R4 I.agH I) rfl
theorem ac3 {a : ZX} (h0 : a ≠ 0) (h : ∀ p, nK p → mu p a = 0) : ZX.N a ≤ 1 := by
 refine Classical.byContradiction fun h1 => ?_
 obtain ⟨p, hp, hd⟩ := kS _ a (Nat.le_refl _) (by omega)
 have h2 : 1 ≤ mu p a := (j0 hp h0).2 (by rw [show p ^ 1 = p by rw [pow_succ', dH]; grind]; exact hd)
 have := h p hp
 omega
theorem NM {a b : ZX} (na : Nf a) (nb : Nf b) (h : ∀ p, nK p → mu p a = mu p b) : a = b := by
 have h1 := (jJ na.ne nb.ne).2 fun p hp => Nat.le_of_eq (h p hp)
 have h2 := (jJ nb.ne na.ne).2 fun p hp => Nat.le_of_eq (h p hp).symm
 have := rC h1 h2
 rwa [na.nfe, nb.nfe] at this
theorem YK {a : ZX} (h0 : a ≠ 0) : ZX.N (oz (nf (a * a))) ≤ 1 := by
 have h1 := ZX.eB h0 h0
 refine ac3 (F7 (fF h1)).ne fun p hp => ?_
 rw [UD (fF h1) hp, CT hp h1, kT hp h0 h0]
 omega
def xX : ZX := ZX.of [0, 1]
theorem NN : Nf xX := ⟨ZX.aC.2 (by decide), by decide, by decide⟩
theorem aso {p : ZX} (hp : nK p) : mu p xX ≤ 1 := by
 refine Nat.not_lt.1 fun h => ?_
 have h1 := (j0 hp NN.ne).1 (show 2 ≤ mu p xX by omega)
 have h2 := h1.lZ NN.ne
 have h3 := ab3 hp 2
 have h4 : ZX.N xX = 2 := by decide
 omega
theorem asp : xX * xX = ZX.of [0, 0, 1] := ZX.ext fun t => by
 rw [xX, ZX.dM, ZX.EL, ZX.EL]; simp only [V]; grind
theorem asq : xX * (xX * xX) = ZX.of [0, 0, 0, 1] := ZX.ext fun t => by
 rw [xX, ZX.dM, ZX.dM, ZX.EL, ZX.EL]; simp only [V]; grind
theorem VE : oz (nf (ZX.of [0, 0, 0, 1])) = xX := by
 have h0 := NN.ne
 have h1 : xX * (xX * xX) ≠ 0 := ZX.eB h0 (ZX.eB h0 h0)
 rw [← asq]
 refine NM (F7 (fF h1)) NN fun p hp => ?_
 rw [UD (fF h1) hp, CT hp h1, kT hp h0 (ZX.eB h0 h0), kT hp h0 h0]
 have := aso hp
 omega
theorem ac4 : vr (UR (aU xX)) = 1 ∧ vr (US (aU xX)) = 0 := ⟨by kernel_rfl, by kernel_rfl⟩
theorem rN : aG env.P 36 [] (.bool true) := by
 have o1 : aG env.P 12 [.sl [[.int .i64 0], [.int .i64 0], [.int .i64 1]]] (Po [0, 0, 1]) := HZ [0, 0, 1] (by decide) (by decide)
 have o2 : aG env.P 12 [.sl [[.int .i64 0], [.int .i64 0], [.int .i64 0], [.int .i64 1]]] (Po [0, 0, 0, 1]) := HZ [0, 0, 0, 1] (by decide) (by decide)
 have L1 : pT 3 4 (ZX.of [0, 0, 1]) := ⟨C8 (by decide) (by decide), by decide, by decide, by decide⟩
 have L2 : pT 3 4 (ZX.of [0, 0, 0, 1]) := ⟨C8 (by decide) (by decide), by decide, by decide, by decide⟩
 have n1 : ZX.of [0, 0, 1] ≠ 0 := ZX.aC.2 (by decide)
 have n2 : ZX.of [0, 0, 0, 1] ≠ 0 := ZX.aC.2 (by decide)
 have T1 := DM L1 n1 (by decide) (by decide) (by decide)
 have T2' := DM L2 n2 (by decide) (by decide) (by decide)
 have I1 := JK L1 n1 (by decide) (by decide) (by decide)
 have I2 := JK L2 n2 (by decide) (by decide) (by decide)
 have e1 : wY (qb 3 4) 4 (oz (nf (ZX.of [0, 0, 1]))) = [] := YJ I1 (by rw [← asp]; exact YK NN.ne)
 rw [e1] at T1
 have hlen : (wY (qb 3 4) 4 (oz (nf (ZX.of [0, 0, 0, 1])))).length = 1 := by
  have h1 := I2.ivs.len
  have h2 := I2.count
  rw [VE] at h1 h2
  obtain ⟨f1, f2⟩ := ac4
  rw [f1, f2] at h2
  rw [VE]
  omega
 have A1 := DL (n := 0) (d := 0) (u := 5) L1.bz (by decide) (by decide) (t := 0) (by decide) (by decide) (by decide) (by decide) (by decide) (by decide)
 rw [show RC (0 : Rat).num (0 : Rat).den (ZX.of [0, 0, 1]) = 1 by kernel_rfl, ← agy] at A1
 replace A1 : aG env.P 40 [Po [0, 0, 1], .ag [.bool false, .sl [], .bool false, .sl []]] (.int .i64 1) := A1
 replace T1 : aG env.P 37 [Po [0, 0, 1]] (aI (ga (oz (nf (ZX.of [0, 0, 1])))) []) := T1
 replace T2' : aG env.P 37 [Po [0, 0, 0, 1]] (aI (ga (oz (nf (ZX.of [0, 0, 0, 1])))) (wY (qb 3 4) 4 (oz (nf (ZX.of [0, 0, 0, 1]))))) := T2'
 generalize wY (qb 3 4) 4 (oz (nf (ZX.of [0, 0, 0, 1]))) = L at *
 generalize oz (nf (ZX.of [0, 0, 0, 1])) = f2 at *
 generalize oz (nf (ZX.of [0, 0, 1])) = f1 at *
 have e2 : ((L.length : Int) == 1) = true := by rw [hlen]; rfl
 refine bV [] Tryz.func36 ?_
 refine aA [] ?_
 refine iU ?_
 refine bZ o1 ?_
 refine bZ A1 ?_
 refine bZ o1 ?_
 refine bZ T1 ?_
 refine bZ o2 ?_
 refine aD T2' ?_
 simp (disch := omega) [gw, e2]
 refine bH [0] ?_
 exact bT
theorem agJ (x y : ZX) : bI (x + y) = bI x + bI y := ext fun t => by
 rw [y3, jI, y3, y3]
 refine IF fun h => ?_
 obtain ⟨R, hR⟩ := xH t h x.l
 obtain ⟨S, hS⟩ := xH t h y.l
 refine ⟨R + S, ?_⟩
 rw [jI, jI, hR, hS]; grind
theorem DN (q : Rat) : bI (iH q) = K (q.den : Int) := ext fun t => by
 rw [y3, sP]
 refine IF fun h => ⟨0, ?_⟩
 rw [iH, EL, EL]
 simp only [V]
 grind
def lj (t : Rat) (j : Nat) (b : ZX) : ZX := iH t * bI b + K ((j : Int) * (t.den : Int)) * b
theorem amm (t : Rat) (j : Nat) (b : ZX) : bI (lj t j b) = lj t (j + 1) (bI b) := by
 unfold lj
 rw [agJ, nM, CP, DN, show ((j + 1 : Nat) : Int) * (t.den : Int) = (t.den : Int) + (j : Int) * (t.den : Int) by rw [Int.natCast_add, Int.add_mul]; omega, show K ((t.den : Int) + (j : Int) * (t.den : Int)) = K (t.den : Int) + K ((j : Int) * (t.den : Int)) from ext fun x => by rw [jI, sP, sP, sP]]
 grind
theorem axt {t : Rat} {j : Nat} (hj : 1 ≤ j) (b : ZX) : uT (lj t j b).l t.num t.den = uT b.l t.num t.den := by
 rw [j3, j3, lj, UM, gR, gR, DA, uU]
 have h1 : (0 : Int) < (j : Int) * (t.den : Int) := Int.mul_pos (by omega) (by have := t.den_pos; omega)
 have h2 : (0 : Rat) < (((j : Int) * (t.den : Int) : Int) : Rat) := Rat.intCast_pos.2 h1
 generalize (((j : Int) * (t.den : Int) : Int) : Rat) = c at *
 rw [show ((t.den : Int) : Rat) * (t - t) * e t (bI b) + c * e t b = c * e t b by grind, k9, dJ h2, Int.one_mul]
theorem VF (t : Rat) : ∀ (k j : Nat) (b : ZX), 1 ≤ j → mY t.num t.den k (lj t j b) = mY t.num t.den k b
 | 0, _, _, _ => rfl
 | k + 1, j, b, hj => by rw [mY, mY, axt hj, amm, VF t k (j + 1) (bI b) (by omega)]
theorem ac5 {t : Rat} {q : ZX} (hq : q ≠ 0) : RC t.num t.den (q * iH t) = RC t.num t.den q := by
 have h0 : iH t ≠ 0 := ZX.aC.2 (by rw [mV]; decide)
 have hN : ZX.N (q * iH t) = ZX.N q + 1 := by rw [ZX.eI hq h0, mV]; omega
 have h1 : uT (q * iH t).l t.num t.den = 0 := by
  rw [j3, gR, DA, show e t q * (((t.den : Int) : Rat) * (t - t)) = 0 by grind, eV]
 have h2 : bI (q * iH t) = lj t 1 q := by
  rw [nM, DN, lj, show ((1 : Nat) : Int) * (t.den : Int) = (t.den : Int) by omega]; grind
 unfold RC
 rw [hN, mY, if_pos h1, h2, VF t _ 1 q (Nat.le_refl _)]
theorem amn {c : Int} (hc : c ≠ 0) (t : Rat) (p : ZX) : bG (c : Rat) * RC t.num t.den (K c * p) = RC t.num t.den p := by
 have hcr : (c : Rat) ≠ 0 := fun h => hc (Rat.intCast_eq_zero_iff.1 h)
 have hs : bG (c : Rat) * bG (c : Rat) = 1 := by rcases bQ (c : Rat) with ⟨h1, h2⟩ | ⟨h1, h2⟩ | ⟨h1, h2⟩ <;> rw [h2] <;> first | rfl | exact absurd h1 hcr
 have h0 : bG (c : Rat) ≠ 0 := fun h => hcr (cP.1 h)
 have key : ∀ (k : Nat) (p : ZX), bG (c : Rat) * mY t.num t.den k (K c * p) = mY t.num t.den k p := fun k => by
  induction k with
  | zero => intro p; rw [mY, mY, Int.mul_zero]
  | succ k ih =>
   intro p
   have e1 : bG (e t (K c * p)) = bG (c : Rat) * bG (e t p) := by rw [gR, uU, k9]
   rw [mY, mY, j3, j3, e1, CP]
   by_cases h : bG (e t p) = 0
   ·rw [h, Int.mul_zero, if_pos rfl, if_pos rfl, ih]
   ·rw [if_neg h, if_neg (fun h1 => (Int.mul_eq_zero.1 h1).elim h0 h), ← Int.mul_assoc, hs, Int.one_mul]
 unfold RC
 rw [key]
 by_cases hp : p = 0
 ·rw [hp, kV, kV]
 ·exact UT (by have h1 := ZX.eI (ZX.kQ hc) hp; rw [ZX.T0 hc] at h1; omega) (Nat.le_refl _)
theorem NO (t : Rat) : ∀ (m : Nat) (p : ZX), ZX.N p ≤ m → p ≠ 0 → ∃ r : Rat, 0 < r ∧ ∀ x, t < x → x ≤ t + r → bG (e x p) = RC t.num t.den p ∧ e x p ≠ 0
 | 0, p, hm, h0 => absurd hm (by have := ZX.aC.1 h0; omega)
 | m + 1, p, hm, h0 => by
  have hN := ZX.aC.1 h0
  by_cases he : e t p = 0
  ·obtain ⟨c, hc, q, hq⟩ := agA.1 he
   have u1 : iH t ≠ 0 := ZX.aC.2 (by rw [mV]; decide)
   have FR : q ≠ 0 := fun h => by
    rw [h] at hq
    exact ZX.eB (ZX.kQ hc) h0 (by rw [hq]; grind)
   have CG := congrArg ZX.N hq
   rw [ZX.eI (ZX.kQ hc) h0, ZX.T0 hc, ZX.eI FR u1, mV] at CG
   obtain ⟨r, hr, h1⟩ := NO t m q (by omega) FR
   refine ⟨r, hr, fun x hx hxr => ?_⟩
   obtain ⟨h2, h3⟩ := h1 x hx hxr
   have h4 : (c : Rat) * e x p = e x q * e x (iH t) := by rw [← uU (t := x) c, ← gR, hq, gR]
   have hd : (0 : Rat) < ((t.den : Int) : Rat) := Rat.intCast_pos.2 (by have := t.den_pos; omega)
   have h5 : 0 < e x (iH t) := by rw [DA]; exact Rat.mul_pos hd (by grind)
   have hcr : (c : Rat) ≠ 0 := fun h => hc (Rat.intCast_eq_zero_iff.1 h)
   have h6 := sI hcr h4
   rw [dJ h5, Int.mul_one, h2] at h6
   have h7 := amn hc t p
   rw [hq, ac5 FR] at h7
   refine ⟨by rw [h6, h7], fun h => ?_⟩
   rw [h, Rat.mul_zero] at h4
   rcases Rat.mul_eq_zero.1 h4.symm with h8 | h8
   ·exact h3 h8
   ·rw [h8] at h5; exact absurd h5 (by decide)
  ·obtain ⟨r, hr, h1⟩ := AB he
   have h2 : RC t.num t.den p = bG (e t p) := by
    unfold RC
    obtain ⟨k, hk⟩ : ∃ k, ZX.N p = k + 1 := ⟨ZX.N p - 1, by omega⟩
    rw [hk, mY, j3, if_neg fun h => he (cP.1 h)]
   refine ⟨r, hr, fun x hx hxr => ?_⟩
   have h3 := h1 x (by grind) hxr
   exact ⟨by rw [h3, h2], fun h => he (cP.1 (by rw [← h3, h, eV]))⟩
theorem AG {F : ZX} {v : Rat → Nat} (nF : Nf F) (cF : uM F (bI F)) (SF : tD F v) (hF : ZX.N F ≤ 20) {t hi : Rat} (h : t < hi) (hv : v t = v hi) : ∀ (m : Nat) (p : ZX), ZX.N p ≤ m → p ≠ 0 → (∀ q, nK q → min (mu q p) 1 ≤ mu q F) → ∀ s, t < s → s ≤ hi → e s p ≠ 0 ∧ bG (e s p) = bG (e hi p)
 | 0, p, hm, h0, _, _, _, _ => absurd hm (by have := ZX.aC.1 h0; omega)
 | m + 1, p, hm, h0, hmu, s, h1, h2 => by
  have hN := ZX.aC.1 h0
  by_cases hN1 : ZX.N p ≤ 1
  ·obtain ⟨c, hc, rfl⟩ := ZX.jZ (x := p) (by omega)
   rw [uU, uU]
   exact ⟨fun h => hc (Rat.intCast_eq_zero_iff.1 h), rfl⟩
  obtain ⟨nf, hf⟩ := mU h0
  have hd : dv (sq p) F := (jJ nf.ne nF.ne).2 fun q hq => by rw [hf q hq]; exact hmu q hq
  obtain ⟨w, S⟩ := JI (h := sq p) nF cF
  have hg : gz F (sq p) = sq p := Nf.rD S.ng nf fun q hq => by
   rw [(eE F (sq p)).mu nF.ne nf.ne hq]
   have := (jJ nf.ne nF.ne).1 hd q hq
   omega
  rw [hg] at S
  have hSN := S.N
  have Sw := NL S.nw.ne S.sw (by omega)
  have Sf := NL S.ng.ne S.sg (by omega)
  have c1 := S.cnt SF Sf Sw (Rat.le_of_lt h)
  have m1 := Sf.bX (Rat.le_of_lt h)
  have m2 := Sw.bX (Rat.le_of_lt h)
  have m3 := Sf.bX (Rat.le_of_lt h1)
  have m4 := Sf.bX h2
  obtain ⟨f1, f2⟩ := Sf.flat h1 (by omega)
  have f3 : bG (e hi (sq p)) = bG (e s (sq p)) := by
   rcases Rat.le_iff_lt_or_eq.1 h2 with h3 | h3
   ·exact (Sf.flat h3 (by omega)).2 f1
   ·rw [h3]
  obtain ⟨c, hc, q, hq⟩ := sG h0
  have FR : q ≠ 0 := fun h => by
   rw [h] at hq
   exact ZX.eB (ZX.kQ hc) h0 (by rw [hq]; grind)
  have CG := congrArg ZX.N hq
  rw [ZX.eI (ZX.kQ hc) h0, ZX.T0 hc, ZX.eI FR nf.ne] at CG
  have hfN : 2 ≤ ZX.N (sq p) := Nat.not_lt.1 fun h3 => by
   obtain ⟨d, H2, O1⟩ := kS _ p (Nat.le_refl _) (by omega)
   have h5 := hf d H2
   have h6 := (j0 H2 h0 (k := 1)).2 (by rw [pow_succ', dH, show (1 : ZX) * d = d by grind]; exact O1)
   rw [nf.N1 (by omega), QY H2] at h5
   omega
  have hqm : ∀ r, nK r → min (mu r q) 1 ≤ mu r F := fun r hr => by
   have h3 := hmu r hr
   have h4 := congrArg (mu r) hq
   rw [kT hr (ZX.kQ hc) h0, kT hr FR nf.ne, QW hr hc] at h4
   omega
  obtain ⟨q1, q2⟩ := AG nF cF SF hF h hv m q (by omega) FR hqm s h1 h2
  have hcr : (c : Rat) ≠ 0 := fun h => hc (Rat.intCast_eq_zero_iff.1 h)
  have g : ∀ x, (c : Rat) * e x p = e x q * e x (sq p) := fun x => by rw [← uU (t := x) c, ← gR, hq, gR]
  refine ⟨fun h3 => ?_, ?_⟩
  ·have h4 := g s
   rw [h3, Rat.mul_zero] at h4
   rcases Rat.mul_eq_zero.1 h4.symm with h5 | h5
   ·exact q1 h5
   ·exact f1 h5
  ·rw [sI hcr (g s), sI hcr (g hi), q2, f3]
theorem xS (t : Rat) : (iH t).l = [-t.num, (t.den : Int)] := iF (x := (t.den : Int)) (by have := t.den_nz; omega) [-t.num]
theorem agK {x : List Int} {n d : Int} (hN : aG env.P 68 [Po x] (Po x)) (hM : aG env.P 94 [T2 n d, .sl []] (T2 n d)) : aG env.P 182 [.ag (G9 x n d n d)] (.ag (G9 x n d n d)) := by
 simp only [G9]
 refine bV [(0, .ag (G9 x n d n d))] Tryz.func182 ?_
 refine aA [1, 2] ?_
 refine oE ?_
 refine bZ hN ?_
 refine bZ hM ?_
 refine aD hM ?_
 (try (refine bR (of_decide_eq_true (by kernel_rfl)) ?_)); (try simp (maxSteps := 4000000) (disch := omega) [gw]); (repeat rw [if_pos (by kernel_rfl)]); (try simp (maxSteps := 4000000) (disch := omega) [gw])
 refine bH [2] ?_
 exact bT
theorem YL {x : List Int} {n d : Int} (hc : aG env.P 90 [T2 n d, T2 n d] (.int .i64 0)) : aG env.P 183 [.ag (G9 x n d n d)] (.bool true) := by
 simp only [G9]
 refine bV [(0, .ag (G9 x n d n d))] Tryz.func183 ?_
 refine aA [1] ?_
 refine aK [2] hc ?_
 exact bT
theorem ac6 {q x : List Int} {n d r : Int} (hl : q.length < 1000000) (hr : q.length = 0 → r = 0) (hq : aG env.P 68 [Po q] (Po q)) (hN : aG env.P 68 [Po x] (Po x)) (hM : aG env.P 94 [T2 n d, .sl []] (T2 n d)) (hc : aG env.P 90 [T2 n d, T2 n d] (.int .i64 0)) (hs : aG env.P 91 [Po q, T2 n d] (.int .i64 r)) :
  aG env.P 105 [Po q, .ag (G9 x n d n d)] (.int .i64 r) := by
 have k1 := agK hN hM
 have k2 := YL (x := x) hc
 simp only [G9] at k1 k2 ⊢
 refine bV [(0, Po q), (1, .ag (G9 x n d n d))] Tryz.func105 ?_
 refine aA [0, 3] ?_
 refine oE ?_
 refine bZ hq ?_
 refine aD k1 ?_
 (try (refine bR (of_decide_eq_true (by kernel_rfl)) ?_)); (try simp (maxSteps := 4000000) (disch := omega) [gw]); (repeat rw [if_pos (by kernel_rfl)]); (try simp (maxSteps := 4000000) (disch := omega) [gw])
 (try (refine bR (of_decide_eq_true (by kernel_rfl)) ?_)); (try simp (maxSteps := 4000000) (disch := omega) [gw]); (repeat rw [if_pos (by kernel_rfl)]); (try simp (maxSteps := 4000000) (disch := omega) [gw])
 refine bH [0, 3] ?_
 refine W.seq ?_
 by_cases h0 : q.length = 0
 ·rw [hr h0]
  refine aA [0, 3, 14] ?_
  refine bE ?_ ?_ <;> intro h
  ·refine aA [4] ?_
   exact bT
  ·simp at h; exact absurd (List.eq_nil_of_length_eq_zero h0) h
 ·refine aA [0, 3, 14] ?_
  refine bE ?_ ?_ <;> intro h
  ·simp at h; rw [h] at h0; exact absurd rfl h0
  refine W.skip ?_
  refine W.seq ?_
  refine aK [0, 3, 16] k2 ?_
  refine bE ?_ ?_ <;> intro h
  ·refine aK [4] hs ?_
   exact bT
  ·simp at h
theorem YM {x : List Int} {an ad bn bd : Int} (hN : aG env.P 68 [Po x] (Po x)) (h1 : aG env.P 94 [T2 an ad, .sl []] (T2 an ad)) (h2 : aG env.P 94 [T2 bn bd, .sl []] (T2 bn bd)) : aG env.P 182 [.ag (G9 x an ad bn bd)] (.ag (G9 x an ad bn bd)) := by
 simp only [G9]
 refine bV [(0, .ag (G9 x an ad bn bd))] Tryz.func182 ?_
 refine aA [1, 2] ?_
 refine oE ?_
 refine bZ hN ?_
 refine bZ h1 ?_
 refine aD h2 ?_
 (try (refine bR (of_decide_eq_true (by kernel_rfl)) ?_)); (try simp (maxSteps := 4000000) (disch := omega) [gw]); (repeat rw [if_pos (by kernel_rfl)]); (try simp (maxSteps := 4000000) (disch := omega) [gw])
 refine bH [2] ?_
 exact bT
theorem uP {x : List Int} {an ad bn bd z : Int} (hc : aG env.P 90 [T2 an ad, T2 bn bd] (.int .i64 z)) : aG env.P 183 [.ag (G9 x an ad bn bd)] (.bool (decide (0 ≤ z))) := by
 simp only [G9]
 refine bV [(0, .ag (G9 x an ad bn bd))] Tryz.func183 ?_
 refine aA [1] ?_
 refine aK [2] hc ?_
 exact bT
theorem ac7 {q q' : List Int} {n d s s' : Int} (h1 : aG env.P 91 [Po q, T2 n d] (.int .i64 s)) (h2 : aG env.P 89 [Po q] (Po q')) (h3 : aG env.P 91 [Po q', T2 n d] (.int .i64 s')) : aG env.P 236 [Po q, T2 n d] (.int .i64 (if s = 0 then s' else s)) := by
 refine bV [(0, Po q), (1, T2 n d)] Tryz.func236 ?_
 refine aA [0, 3] ?_
 refine W.seq ?_
 refine aK [0, 3, 5] h1 ?_
 by_cases h0 : s = 0
 ·rw [if_pos h0]
  refine aA [0, 3, 5, 10] ?_
  refine bE ?_ ?_ <;> intro h
  ·simp at h; exact absurd h0 h
  refine W.skip ?_
  refine oE ?_
  refine bZ h2 ?_
  refine cI [4] h3 ?_
  exact bT
 ·rw [if_neg h0]
  refine aA [0, 3, 5, 10] ?_
  refine bE ?_ ?_ <;> intro h
  ·refine aA [4] ?_
   exact bT
  ·simp at h; exact absurd h h0
theorem ac8 {q : List Int} {an ad bn bd s w : Int} (h1 : aG env.P 91 [Po q, T2 bn bd] (.int .i64 s)) (h2 : aG env.P 236 [Po q, T2 an ad] (.int .i64 w)) : aG env.P 185 [Po q, T2 an ad, T2 bn bd] (.bool (decide (s = 0 ∨ s ≠ w))) := by
 refine bV [(0, Po q), (1, T2 an ad), (2, T2 bn bd)] Tryz.func185 ?_
 refine aA [0, 4, 5] ?_
 refine aK [0, 4, 7] h1 ?_
 by_cases h0 : s = 0
 ·subst h0
  refine aA [6] ?_
  exact bT
 ·have hb : (s == 0) = false := by simpa using h0
  refine W.sr ?_
  simp (disch := omega) [gw, hb]
  refine aD h2 ?_
  simp (disch := omega) [gw, hb]
  refine bH [6] ?_
  refine W.ret ?_
  simp [go, h0]
  by_cases hsw : s = w <;> simp [hsw]
theorem NP {x : List Int} {an ad bn bd tn td z1 z2 s w r : Int} (hp : aG env.P 183 [.ag (G9 x an ad bn bd)] (.bool false)) (h1 : aG env.P 90 [T2 tn td, T2 an ad] (.int .i64 z1)) (h2 : aG env.P 90 [T2 tn td, T2 bn bd] (.int .i64 z2)) (h3 : aG env.P 91 [Po x, T2 tn td] (.int .i64 s)) (h4 : aG env.P 236 [Po x, T2 an ad] (.int .i64 w))
  (hr : r = if z1 ≤ 0 then 1 else if 0 < z2 then -1 else if s = 0 then 0 else if s = w then 1 else -1) : aG env.P 205 [.ag (G9 x an ad bn bd), T2 tn td] (.int .i64 r) := by
 simp only [G9] at *
 refine bV [(0, .ag (G9 x an ad bn bd)), (1, T2 tn td)] Tryz.func205 ?_
 refine cS [2, 3] ?_
 refine W.block ?_
 refine aK [2, 3, 6] hp ?_
 refine bE ?_ ?_ <;> intro h
 ·simp at h
 refine aK [2, 3, 13] h1 ?_
 refine bE ?_ ?_ <;> intro h
 ·have h0 : z1 ≤ 0 := by simpa using h
  rw [if_pos h0] at hr; subst hr
  refine aA [4] ?_
  exact bT
 have h0 : ¬ z1 ≤ 0 := by simpa using h
 rw [if_neg h0] at hr
 refine aK [2, 3, 19] h2 ?_
 refine bE ?_ ?_ <;> intro h
 ·have h0 : 0 < z2 := by simpa using h
  rw [if_pos h0] at hr; subst hr
  refine aA [4] ?_
  exact bT
 have h0 : ¬ 0 < z2 := by simpa using h
 rw [if_neg h0] at hr
 refine W.skip ?_
 refine aK [2, 5] h3 ?_
 refine W.seq ?_
 refine W.block ?_
 refine aA [2, 5, 29] ?_
 refine bE ?_ ?_ <;> intro h
 ·have h0 : s = 0 := by simpa using h
  rw [if_pos h0] at hr; subst hr
  refine aA [4] ?_
  exact bT
 have h0 : ¬ s = 0 := by simpa using h
 rw [if_neg h0] at hr
 refine aK [32] h4 ?_
 refine bE ?_ ?_ <;> intro h
 ·have h0 : s = w := by simpa using h
  rw [if_pos h0] at hr; subst hr
  refine aA [4] ?_
  exact bT
 ·have h0 : ¬ s = w := by simpa using h
  rw [if_neg h0] at hr; subst hr
  refine W.skip ?_
  refine aA [4] ?_
  exact bT
theorem ac9 {x : List Int} {an ad bn bd : Int} (hp : aG env.P 183 [.ag (G9 x an ad bn bd)] (.bool true)) : aG env.P 187 [.ag (G9 x an ad bn bd)] (.ag (G9 x an ad bn bd)) := by
 simp only [G9] at *
 refine bV [(0, .ag (G9 x an ad bn bd))] Tryz.func187 ?_
 refine aA [1, 2] ?_
 refine W.seq ?_
 refine aK [1, 2, 5] hp ?_
 refine bE ?_ ?_ <;> intro h
 ·refine aA [2] ?_
  exact bT
 ·simp at h
theorem YN {x : List Int} {an ad bn bd mn md c : Int} (hp : aG env.P 183 [.ag (G9 x an ad bn bd)] (.bool false)) (hm : aG env.P 95 [T2 an ad, T2 bn bd] (T2 mn md)) (hc : aG env.P 205 [.ag (G9 x an ad bn bd), T2 mn md] (.int .i64 c)) :
  aG env.P 187 [.ag (G9 x an ad bn bd)] (.ag (if c = 0 then G9 x mn md mn md else if c = -1 then G9 x an ad mn md else G9 x mn md bn bd)) := by
 simp only [G9] at *
 refine bV [(0, .ag (G9 x an ad bn bd))] Tryz.func187 ?_
 refine aA [1, 2] ?_
 refine W.seq ?_
 refine aK [1, 2, 5] hp ?_
 refine bE ?_ ?_ <;> intro h
 ·simp at h
 refine W.skip ?_
 refine aK [1, 2, 3] hm ?_
 refine W.gS (fun σ => ∃ (v1 v2 : Nat) (rows : Pm.Rows) (clk : Nat), σ = ⟨fa [(1, .ptr 1 v1 0 0), (2, .ptr 2 v2 0 0)], rows, clk⟩ ∧ rows 1 = some ⟨v1, 54, 9, [if c = 0 then G9 x mn md mn md else if c = -1 then G9 x an ad mn md else G9 x mn md bn bd]⟩ ∧ rows 2 = some ⟨v2, 54, 9, [[.nil, .bool false, .nil, .bool false, .nil, .bool false, .nil, .bool false, .nil]]⟩) ?_ ?_
 ·refine aK [1, 2, 3, 14] hc ?_
  refine W.block ?_
  refine aA [1, 2, 3, 14, 17] ?_
  refine bE ?_ ?_ <;> intro h
  ·have h0 : c = 0 := by simpa using h
   rw [if_pos h0]
   refine W.N7 (fun K hK => ?_)
   simp (disch := omega) [gw]
   (try (refine bR (of_decide_eq_true (by kernel_rfl)) ?_)); (try simp (maxSteps := 4000000) (disch := omega) [gw]); (repeat rw [if_pos (by kernel_rfl)]); (try simp (maxSteps := 4000000) (disch := omega) [gw])
   (try (refine bR (of_decide_eq_true (by kernel_rfl)) ?_)); (try simp (maxSteps := 4000000) (disch := omega) [gw]); (repeat rw [if_pos (by kernel_rfl)]); (try simp (maxSteps := 4000000) (disch := omega) [gw])
   (try (refine bR (of_decide_eq_true (by kernel_rfl)) ?_)); (try simp (maxSteps := 4000000) (disch := omega) [gw]); (repeat rw [if_pos (by kernel_rfl)]); (try simp (maxSteps := 4000000) (disch := omega) [gw])
   exact hK _ ⟨_, aB _ [1, 2], _, _, _, _, rfl, by simp, by simp⟩
  have h0 : ¬ c = 0 := by simpa using h
  rw [if_neg h0]
  refine aA [1, 2, 3, 23] ?_
  refine bE ?_ ?_ <;> intro h
  ·have h0 : c = -1 := by simpa using h
   rw [if_pos h0]
   refine W.b8 (fun K hK => ?_); simp (disch := omega) [gw]
   exact hK _ ⟨_, aB _ [1, 2], _, _, _, _, rfl, by simp, by simp⟩
  ·have h0 : ¬ c = -1 := by simpa using h
   rw [if_neg h0]
   refine W.b8 (fun K hK => ?_); simp (disch := omega) [gw]
   exact hK _ ⟨_, aB _ [1, 2], _, _, _, _, rfl, by simp, by simp⟩
 rintro _ ⟨v1, v2, rows, clk, rfl, tR, dP⟩
 by_cases h0 : c = 0
 ·rw [if_pos h0] at tR ⊢
  refine W.sr ?_
  simp (disch := omega) [gw, tR, dP]
  refine bH [2] ?_
  exact bT
 ·rw [if_neg h0] at tR ⊢
  by_cases h1 : c = -1
  ·rw [if_pos h1] at tR ⊢
   refine W.sr ?_
   simp (disch := omega) [gw, tR, dP]
   refine bH [2] ?_
   exact bT
  ·rw [if_neg h1] at tR ⊢
   refine W.sr ?_
   simp (disch := omega) [gw, tR, dP]
   refine bH [2] ?_
   exact bT
def JZ (x : List Int) : Nat → Int
 | 0 => 0
 | i + 1 => if JZ x i < bl (aS LL (nth x i).natAbs) then bl (aS LL (nth x i).natAbs) else JZ x i
theorem YO {x : List Int} (hl : x.length < 1000000) (hB : ∀ i, i < x.length → aG env.P 237 [us (aS LL (nth x i).natAbs)] (.int .i64 (bl (aS LL (nth x i).natAbs))) ∧ 0 ≤ bl (aS LL (nth x i).natAbs) ∧ bl (aS LL (nth x i).natAbs) < 1000000000000) : aG env.P 238 [Po x] (.int .i64 (JZ x x.length)) := by
 refine bV [(0, Po x)] Tryz.func238 ?_
 refine aA [0] ?_
 refine aA [0, 3] ?_
 refine aL [3, 6, 7, 8] ?_
 refine W.block ?_
 refine W.bC (fun k σ => ∃ (i : Nat) (rows : Pm.Rows) (clk : Nat), σ = ⟨fa [(3, .int .i64 (JZ x i)), (6, Po x), (7, .int .i64 x.length), (8, .int .i64 i)], rows, clk⟩ ∧ (0 ≤ JZ x i ∧ JZ x i < 1000000000000) ∧ i + k = x.length) x.length ?_ ?_
 ·exact ⟨_, .refl, 0, _, _, rfl, ⟨by show (0 : Int) ≤ 0; decide, by show (0 : Int) < _; decide⟩, by omega⟩
 rintro k _ ⟨i, rows, clk, rfl, hb, EJ⟩
 refine cS [3, 6, 7, 8, 9] ?_
 refine bE ?_ ?_ <;> intro h
 ·have hi : i < x.length := by simp at h; omega
  obtain ⟨h1, h0, h2⟩ := hB i hi
  refine lG ?_
  refine W.sr ?_
  simp (disch := omega) [gw, hi]
  refine bH [3, 5, 6, 7, 8] ?_
  refine W.b8 (fun K hK => ?_)
  simp (disch := omega) [gw]
  refine bZ h1 ?_
  rw [show (if JZ x i < bl (aS LL (nth x i).natAbs) then bl (aS LL (nth x i).natAbs) else JZ x i) = JZ x (i + 1) from rfl]
  have zC : 0 ≤ JZ x (i + 1) ∧ JZ x (i + 1) < 1000000000000 := by rw [JZ]; split <;> omega
  refine W.lw [3, 6, 7, 8] hK ?_; clear hK K; simp
  refine W.b8 (fun K hK => ?_); simp (disch := omega) [gw]
  refine hK _ ⟨k - 1, _, aB _ [3, 6, 7, 8], by omega, i + 1, _, _, rfl, zC, by omega⟩
 ·have hi : i = x.length := by simp at h; omega
  subst hi
  refine fB ?_
  refine aA [2] ?_
  exact bT
theorem SA {x y : List Int} {an ad bn bd cn cd dn dd b1 b2 b3 b4 zx zy : Int} (hx : x.length ≤ 50) (hy : y.length ≤ 50) (k1 : aG env.P 237 [us (aS LL an.natAbs)] (.int .i64 b1)) (k2 : aG env.P 237 [us (aS LL bn.natAbs)] (.int .i64 b2)) (k3 : aG env.P 237 [us (aS LL cn.natAbs)] (.int .i64 b3)) (k4 : aG env.P 237 [us (aS LL dn.natAbs)] (.int .i64 b4))
  (l1 : 0 ≤ b1 ∧ b1 < 1000000000000) (l2 : 0 ≤ b2 ∧ b2 < 1000000000000) (l3 : 0 ≤ b3 ∧ b3 < 1000000000000) (l4 : 0 ≤ b4 ∧ b4 < 1000000000000) (sx : aG env.P 238 [Po x] (.int .i64 zx)) (sy : aG env.P 238 [Po y] (.int .i64 zy)) (m1 : 0 ≤ zx ∧ zx < 1000000000000) (m2 : 0 ≤ zy ∧ zy < 1000000000000) :
  aG env.P 186 [.ag (G9 x an ad bn bd), .ag (G9 y cn cd dn dd)] (.int .i64 (64 + 2 * (b1 + b2 + b3 + b4) + 4 * ((x.length : Int) + y.length) * (zx + zy + ((x.length : Int) + y.length) + 8))) := by
 have p1 : 0 ≤ 4 * ((x.length : Int) + y.length) * (zx + zy + ((x.length : Int) + y.length) + 8) := Int.mul_nonneg (by omega) (by omega)
 have p2 : 4 * ((x.length : Int) + y.length) * (zx + zy + ((x.length : Int) + y.length) + 8) ≤ 400 * 3000000000000 := Int.mul_le_mul (by omega) (by omega) (by omega) (by decide)
 simp only [G9] at *
 refine bV [(0, .ag (G9 x an ad bn bd)), (1, .ag (G9 y cn cd dn dd))] Tryz.func186 ?_
 refine aA [2, 3] ?_
 refine aA [2, 3, 5] ?_
 refine oE ?_
 refine bZ k1 ?_
 refine bZ k2 ?_
 refine bZ k3 ?_
 refine cI [2, 3, 5, 6] k4 ?_
 refine oE ?_
 refine bZ sx ?_
 refine cI [4] sy ?_
 exact bT
theorem SB {q x g : List Int} {an ad bn bd dg : Int} (hl : 0 < q.length) (JV : q.length < 1000000) (hq : aG env.P 68 [Po q] (Po q)) (hN : aG env.P 182 [.ag (G9 x an ad bn bd)] (.ag (G9 x an ad bn bd))) (hp : aG env.P 183 [.ag (G9 x an ad bn bd)] (.bool false)) (hG : aG env.P 184 [.sl [[Po q], [Po x]]] (Po g)) (hD : aG env.P 87 [Po g] (.int .i64 dg)) (h0 : 0 < dg)
  (hh : aG env.P 185 [Po g, T2 an ad, T2 bn bd] (.bool true)) : aG env.P 105 [Po q, .ag (G9 x an ad bn bd)] (.int .i64 0) := by
 have nZ : q ≠ [] := fun h => by rw [h] at hl; simp at hl
 simp only [G9] at *
 refine bV [(0, Po q), (1, .ag (G9 x an ad bn bd))] Tryz.func105 ?_
 refine aA [0, 3] ?_
 refine oE ?_
 refine bZ hq ?_
 refine aD hN ?_
 (try (refine bR (of_decide_eq_true (by kernel_rfl)) ?_)); (try simp (maxSteps := 4000000) (disch := omega) [gw]); (repeat rw [if_pos (by kernel_rfl)]); (try simp (maxSteps := 4000000) (disch := omega) [gw])
 (try (refine bR (of_decide_eq_true (by kernel_rfl)) ?_)); (try simp (maxSteps := 4000000) (disch := omega) [gw]); (repeat rw [if_pos (by kernel_rfl)]); (try simp (maxSteps := 4000000) (disch := omega) [gw])
 refine bH [0, 3] ?_
 refine aL [0, 3, 14] ?_
 refine bE ?_ ?_ <;> intro h
 ·simp at h; exact absurd h nZ
 refine W.skip ?_
 refine W.seq ?_
 refine aK [0, 3, 16] hp ?_
 refine bE ?_ ?_ <;> intro h
 ·simp at h
 refine W.skip ?_
 refine W.seq ?_
 refine aK [0, 3, 5] hG ?_
 refine iU ?_
 refine aD hD ?_
 simp (disch := omega) [gw, h0]
 refine cI [0, 3, 36] hh ?_
 refine bE ?_ ?_ <;> intro h
 ·refine aA [4] ?_
  exact bT
 ·simp at h
theorem ada {α : Type} {gc : α → List PV} {q x g : List Int} {C : List α} {an ad bn bd : Nat → Int} {dg r : Int} {N J : Nat} (hl : 0 < q.length) (JV : q.length < 1000000) (hq : aG env.P 68 [Po q] (Po q)) (hN : aG env.P 182 [.ag (G9 x (an 0) (ad 0) (bn 0) (bd 0))] (.ag (G9 x (an 0) (ad 0) (bn 0) (bd 0)))) (hp : aG env.P 183 [.ag (G9 x (an 0) (ad 0) (bn 0) (bd 0))] (.bool false)) (hG : aG env.P 184 [.sl [[Po q], [Po x]]] (Po g))
  (hD : aG env.P 87 [Po g] (.int .i64 dg)) (hh : 0 < dg → aG env.P 185 [Po g, T2 (an 0) (ad 0), T2 (bn 0) (bd 0)] (.bool false)) (hC : aG env.P 73 [Po q] (.fH [.rd [aI gc C], .int .i64 0])) (hs : aG env.P 186 [.ag (G9 x (an 0) (ad 0) (bn 0) (bd 0)), .ag (G9 q 0 0 0 0)] (.int .i64 N)) (CG : N < 1000000000000000)
  (hb : ∀ j, j < J → aG env.P 183 [.ag (G9 x (an j) (ad j) (bn j) (bd j))] (.bool false) ∧ (∃ z : Int, aG env.P 92 [.rd [aI gc C], T2 (an j) (ad j), T2 (bn j) (bd j)] (.int .i64 z) ∧ (z == 0) = false) ∧ aG env.P 187 [.ag (G9 x (an j) (ad j) (bn j) (bd j))] (.ag (G9 x (an (j + 1)) (ad (j + 1)) (bn (j + 1)) (bd (j + 1)))))
  (hJ : J ≤ N) (kG : J < N → aG env.P 183 [.ag (G9 x (an J) (ad J) (bn J) (bd J))] (.bool true) ∨ aG env.P 183 [.ag (G9 x (an J) (ad J) (bn J) (bd J))] (.bool false) ∧ aG env.P 92 [.rd [aI gc C], T2 (an J) (ad J), T2 (bn J) (bd J)] (.int .i64 0)) (hr : aG env.P 91 [Po q, T2 (bn J) (bd J)] (.int .i64 r)) :
  aG env.P 105 [Po q, .ag (G9 x (an 0) (ad 0) (bn 0) (bd 0))] (.int .i64 r) := by
 have nZ : q ≠ [] := fun h => by rw [h] at hl; simp at hl
 replace hs : aG env.P 186 [.ag (G9 x (an 0) (ad 0) (bn 0) (bd 0)), .ag [Po q, .bool false, .sl [], .bool false, .sl [], .bool false, .sl [], .bool false, .sl []]] (.int .i64 N) := hs
 simp only [G9] at *
 refine bV [(0, Po q), (1, .ag (G9 x (an 0) (ad 0) (bn 0) (bd 0)))] Tryz.func105 ?_
 refine aA [0, 3] ?_
 refine oE ?_
 refine bZ hq ?_
 refine aD hN ?_
 (try (refine bR (of_decide_eq_true (by kernel_rfl)) ?_)); (try simp (maxSteps := 4000000) (disch := omega) [gw]); (repeat rw [if_pos (by kernel_rfl)]); (try simp (maxSteps := 4000000) (disch := omega) [gw])
 (try (refine bR (of_decide_eq_true (by kernel_rfl)) ?_)); (try simp (maxSteps := 4000000) (disch := omega) [gw]); (repeat rw [if_pos (by kernel_rfl)]); (try simp (maxSteps := 4000000) (disch := omega) [gw])
 refine bH [0, 3] ?_
 refine aL [0, 3, 14] ?_
 refine bE ?_ ?_ <;> intro h
 ·simp at h; exact absurd h nZ
 refine W.skip ?_
 refine W.seq ?_
 refine aK [0, 3, 16] hp ?_
 refine bE ?_ ?_ <;> intro h
 ·simp at h
 refine W.skip ?_
 refine W.seq ?_
 refine aK [0, 3, 5] hG ?_
 refine W.gM (fun σ => ∃ (v3 : Nat) (rows : Pm.Rows) (clk : Nat), σ = ⟨fa [(0, Po q), (3, .ptr 3 v3 0 0), (36, .bool false)], rows, clk⟩ ∧ rows 3 = some ⟨v3, 54, 9, [G9 x (an 0) (ad 0) (bn 0) (bd 0)]⟩) (fun K hK => ?_) ?_
 ·by_cases h0 : 0 < dg
  ·have hh' := hh h0
   simp (disch := omega) [gw]
   refine aD hD ?_
   simp (disch := omega) [gw, h0]
   refine bZ hh' ?_
   refine hK _ _ (aB _ [0, 3, 36]) ⟨_, _, _, rfl, by simp⟩
  ·simp (disch := omega) [gw]
   refine aD hD ?_
   simp (disch := omega) [gw, h0]
   refine hK _ _ (aB _ [0, 3, 36]) ⟨_, _, _, rfl, by simp⟩
 rintro _ ⟨v3, rows, clk, rfl, fC⟩
 simp only [G9] at fC
 refine bE ?_ ?_ <;> intro h
 ·simp at h
 refine W.skip ?_
 refine aK [0, 3, 6] hC ?_
 refine W.gS (fun σ => ∃ (v3 : Nat) (rows : Pm.Rows) (clk : Nat), σ = ⟨fa [(0, Po q), (3, .ptr 3 v3 0 0)], rows, clk⟩ ∧ rows 3 = some ⟨v3, 54, 9, [G9 x (an J) (ad J) (bn J) (bd J)]⟩) ?_ ?_
 ·refine W.sr ?_
  simp (disch := omega) [gw, fC]
  refine cI [0, 3, 6, 45, 46] hs ?_
  refine W.block ?_
  refine W.bC (fun k σ => ∃ (j v3 : Nat) (rows : Pm.Rows) (clk : Nat), σ = ⟨fa [(0, Po q), (3, .ptr 3 v3 0 0), (6, .rd [aI gc C]), (45, .int .i64 N), (46, .int .i64 j)], rows, clk⟩ ∧ rows 3 = some ⟨v3, 54, 9, [G9 x (an j) (ad j) (bn j) (bd j)]⟩ ∧ j + k = J) J ?_ ?_
  ·exact ⟨_, .refl, 0, _, _, _, rfl, by simp [fC], by omega⟩
  rintro k _ ⟨j, v3, rows, clk, rfl, fC, hjk⟩
  simp only [G9] at fC
  refine cS [0, 3, 6, 45, 46, 47] ?_
  refine bE ?_ ?_ <;> intro h
  ·have hjN : j < N := by simp at h; omega
   refine lG ?_
   refine W.seq ?_
   by_cases hjJ : j < J
   ·obtain ⟨g1, ⟨z, g2, g3⟩, g4⟩ := hb j hjJ
    refine W.sr ?_
    simp (disch := omega) [gw, fC]
    refine aD g1 ?_
    simp (disch := omega) [gw, fC]
    refine aD g2 ?_
    simp (disch := omega) [gw, g3]
    refine bH [0, 3, 6, 45, 46, 58] ?_
    refine bE ?_ ?_ <;> intro h
    ·simp at h
    refine W.skip ?_
    refine W.b8 (fun K hK => ?_)
    simp (disch := omega) [gw, fC]
    refine aD g4 ?_
    simp (disch := omega) [gw, fC]
    refine W.lw [0, 3, 6, 45, 46] hK ?_; clear hK K; simp
    refine W.b8 (fun K hK => ?_); simp (disch := omega) [gw]
    refine hK _ ⟨k - 1, _, aB _ [0, 3, 6, 45, 46], by omega, j + 1, v3, _, _, rfl, by simp, by omega⟩
   ·have hjE : j = J := by omega
    subst hjE
    rcases kG hjN with g1 | ⟨g1, g2⟩
    ·refine W.sr ?_
     simp (disch := omega) [gw, fC]
     refine cI [0, 3, 6, 45, 46, 58] g1 ?_
     refine bE ?_ ?_ <;> intro h
     ·refine fB ?_
      exact ⟨_, aB _ [0, 3], _, _, _, rfl, fC⟩
     ·simp at h
    ·refine W.sr ?_
     simp (disch := omega) [gw, fC]
     refine aD g1 ?_
     simp (disch := omega) [gw, fC]
     refine cI [0, 3, 6, 45, 46, 58] g2 ?_
     refine bE ?_ ?_ <;> intro h
     ·refine fB ?_
      exact ⟨_, aB _ [0, 3], _, _, _, rfl, fC⟩
     ·simp at h
  ·have hjE : j = J := by simp at h; omega
   subst hjE
   refine fB ?_
   exact ⟨_, aB _ [0, 3], _, _, _, rfl, fC⟩
 rintro _ ⟨v3, rows, clk, rfl, fC⟩
 simp only [G9] at fC
 refine W.sr ?_
 simp (disch := omega) [gw, fC]
 refine cI [4] hr ?_
 exact bT
theorem agL {s k : Nat} {p : ZX} {x : List Int} {an ad bn bd : Int} (sg : ZX → Int) (h0 : sg 0 = 0) (hp : BZ s k p) (hk : k ≤ 31) (hs : s ≤ 1000000) (MT : ∀ (q : ZX) (s' : Nat), s' ≤ s + 5 * k → BZ s' k q → aG env.P 105 [Po q.l, .ag (G9 x an ad bn bd)] (.int .i64 (sg q))) :
  aG env.P 32 [Po p.l, .ag (G9 x an ad bn bd)] (.int .i64 (D2 sg (ZX.N p) p)) := by
 have h1 : ∀ (q : ZX) (s' : Nat), s' ≤ s + 5 * k → BZ s' k q → aG env.P 104 [Po q.l, .rd (G9 x an ad bn bd)] (.int .i64 (sg q)) := fun q s' uY bq => by
  have k6 := MT q s' uY bq
  simp only [G9] at k6 ⊢
  generalize sg q = r at *
  refine bV [(0, Po q.l), (1, .rd (G9 x an ad bn bd))] Tryz.func104 ?_
  refine aA [0, 1] ?_
  refine aK [3] k6 ?_
  exact bT
 have F1 := DK 104 rfl [.rd (G9 x an ad bn bd)] rfl sg h0 hp hk hs h1
 simp only [G9] at F1 ⊢
 generalize D2 sg (ZX.N p) p = r at *
 refine bV [(0, Po p.l), (1, .ag (G9 x an ad bn bd))] Tryz.func32 ?_
 refine aA [0, 3] ?_
 refine aK [4] F1 ?_
 exact bT
end Go.Proofs.YtelhfbikiccfkaaGreat
