import Derived.Test.YtelhfbikiccfkaaGreatBar
import Derived.Test.YtelhfbikiccfkaaGreatBas
set_option linter.unusedSimpArgs false
set_option linter.unusedVariables false
namespace Go.Proofs.YtelhfbikiccfkaaGreat
open Go Pm
open ZX hiding N W
theorem VK {s n : Nat} {f : ZX} {p : Rat × Rat} (I : j4 s n f) (hs : s ≤ 100000) (n8 : ZX.N f ≤ 8) (hp : p ∈ wY s n f) : AN s n (uu s) f p ∧ AN s n (uu s) f (ex f p) := by
 obtain ⟨a1, a2, a3, a4, a5, a6⟩ := I.ivs.mem _ hp
 obtain ⟨_, _, b1, b2, b3⟩ := I.root hp
 have hb := agN I.nf (adk I.ch.bz)
 have h1 : Ab p.1 (2 ^ (zs f + 1)) := by obtain ⟨x, y⟩ := hb; exact ⟨by grind, by grind⟩
 have h2 : Ab p.2 (2 ^ (zs f + 1)) := by obtain ⟨x, y⟩ := hb; exact ⟨by grind, by grind⟩
 have hu : uu s ≤ 30000000 := by unfold uu; omega
 refine ⟨⟨I, hs, ⟨I.S, .inr ⟨a4, a6⟩⟩, a1, a2, hu, n8, fun _ => h1, fun _ => h2⟩, ⟨I, hs, b1, b2, b3, hu, n8, fun _ => ?_, fun _ => ?_⟩⟩
 ·unfold ex
  split
  ·exact h2
  ·exact h1
 ·unfold ex
  split <;> exact h2
theorem VL (t : Rat) : Nf (iH t) := by
 have hd := t.den_pos
 refine ⟨ZX.aC.2 (by rw [mV]; decide), ?_, ?_⟩
 ·rw [xS]
  unfold bK
  simp only [List.foldl_cons, List.foldl_nil, Nat.gcd_zero_left, Int.natAbs_neg, Int.natAbs_natCast]
  exact t.reduced
 ·rw [xS]
  show 0 < nth [-t.num, (t.den : Int)] 1
  show (0 : Int) < (t.den : Int)
  omega
theorem adw (t : Rat) : uM (iH t) (bI (iH t)) := fun d _ h2 => by
 rw [DN] at h2
 have hd := t.den_pos
 have := h2.lZ (ZX.kQ (show (t.den : Int) ≠ 0 by omega))
 rwa [ZX.T0 (show (t.den : Int) ≠ 0 by omega)] at this
theorem adx {t : Rat} {s n : Nat} (sb : t.num.natAbs ≤ 30 ∧ ((t.den : Int)).natAbs ≤ 6) (hs : 5 ≤ s) (hn : 2 ≤ n) (h1 : n ≤ 20) (h2 : n + 1 ≤ 2 ^ s) (h3 : (qb s n + n + 6) * 4 ^ n ≤ 4500000000) (h4 : s ≤ 5000000) : j4 s n (iH t) := by
 have bz : BZ s n (iH t) := ⟨by show ZX.N (iH t) ≤ _; rw [mV]; exact hn, fun c hc => by
  rw [xS] at hc
  simp only [List.mem_cons, List.not_mem_nil, or_false] at hc
  refine Nat.le_trans (mS (k := 5) ?_) hs
  rcases hc with rfl | rfl <;> omega⟩
 exact ⟨⟨bz, h1, h2, h3⟩, by omega, VL t, JJ (VL t) (adw t), h4⟩
theorem asE {s n : Nat} {f : ZX} {t : Rat} (I : j4 s n f) (hs : s ≤ 100000) (n8 : ZX.N f ≤ 8) (h0 : e t f = 0) {u : Nat} (q : SQ u t) (hu : u ≤ 30000000) : AN s n u f (t, t) ∧ Ex f (t, t) :=
 ⟨⟨I, hs, ⟨I.S, .inl ⟨rfl, h0⟩⟩, q, q, hu, n8, fun h => absurd h Rat.lt_irrefl, fun h => absurd h Rat.lt_irrefl⟩, fun _ => rfl⟩
theorem NU (t : Rat) : e t (iH t) = 0 := by rw [DA]; grind
theorem NV {l : List Int} {k : Int} (hl : l.length < 9223372036854775808) (hk : -9223372036854775808 ≤ k ∧ k < 9223372036854775808) : ∃ (f : ZX) (p : Rat × Rat), aG env.P 28 [aI aF l, .int .i64 k] (QA f (aU f) p) ∧ AN 59 5 7000 f p ∧ Ex f p ∧ ZX.N f ≤ 5 ∧ BZ 49 5 f := by
 obtain ⟨c, hc⟩ : ∃ c, c = YV l (min l.length 5) := ⟨_, rfl⟩
 have fX : c.length ≤ 5 := by rw [hc, JP]; omega
 have hcb : ∀ x ∈ c, -6 ≤ x ∧ x ≤ 6 := fun x hx => by
  rw [hc] at hx
  simp only [YV, List.mem_map] at hx
  obtain ⟨i, _, rfl⟩ := hx
  exact aiT l i
 have hOf := vQ c (by omega) (fun x hx => by have := hcb x hx; omega)
 rw [show aN c = (ZX.of c).l from rfl, hc] at hOf
 have ba : BZ 3 5 (ZX.of c) := C8 (Nat.le_trans (bP c) fX) fun x hx => by have := hcb x (lJ _ _ hx); omega
 have bx : ∀ y ∈ (ZX.of c).l, y.natAbs ≤ 2 ^ 3 := fun y hy => by have := hcb y (lJ _ _ hy); omega
 rw [← hc] at hOf
 generalize ZX.of c = a at *
 have hS := GH k l.length hk (by omega)
 have q5 := acE k l.length
 have sb := acD k l.length
 generalize sml k l.length = t at *
 rw [c8] at hS
 have It := adx (s := 59) (n := 5) sb (by decide) (by decide) (by decide) (by decide) (by decide) (by decide)
 have hR := EU (n := t.num) (d := t.den) (by omega) (by omega) (by have := t.den_pos; omega) (xS t)
 rw [It.sq] at hR
 have X7 : aG env.P 45 [R2 t.num t.den] (.ag (lR (iH t).l (aU (iH t)) t.num t.den t.num t.den)) := by rw [xS]; exact hR
 obtain ⟨At, Et⟩ := asE (u := 7000) It (by decide) (by rw [mV]; decide) (NU t) (q5.mono (by decide)) (by decide)
 have bt : BZ 49 5 (iH t) := ⟨by show ZX.N (iH t) ≤ _; rw [mV]; decide, fun c hc => by
  rw [xS] at hc
  simp only [List.mem_cons, List.not_mem_nil, or_false] at hc
  refine Nat.le_trans (mS (k := 5) ?_) (by decide)
  rcases hc with rfl | rfl <;> omega⟩
 have fin : ∀ {r : PV}, r = .ag (lR (iH t).l (aU (iH t)) t.num t.den t.num t.den) → aG env.P 28 [aI aF l, .int .i64 k] r → ∃ (f : ZX) (p : Rat × Rat), aG env.P 28 [aI aF l, .int .i64 k] (QA f (aU f) p) ∧ AN 59 5 7000 f p ∧ Ex f p ∧ ZX.N f ≤ 5 ∧ BZ 49 5 f := fun {r} hr h => ⟨iH t, (t, t), by rw [hr] at h; exact h, At, Et, by rw [mV]; decide, bt⟩
 have hNl : a.l.length = ZX.N a := rfl
 have hal : a.l.length ≤ 5 := ba.N
 by_cases h2 : a.l.length < 2
 ·refine fin rfl (xZ (f := iH t) (L := []) (C := []) hl hk (hc ▸ hOf) (by omega) (by decide) hS X7 (fun h => absurd h (by omega)) ?_)
  rw [if_pos (.inl h2)]
 ·have h0 : a ≠ 0 := ZX.aC.2 (by omega)
  have La := X8 ba
  have I := amk La h0 (by decide) (by decide) (by decide)
  have hRo := DI (pJ La (by decide)) (pK La h0 (by decide) (by decide)) I I.s1
  have nN : ZX.N (sq a) ≤ 5 := I.ch.bz.N
  have bs : BZ 49 5 (sq a) := ⟨nN, fun x hx => by
   have := adh (l := 3) (n := 5) (fF h0) I.nf (zA h0).2 (h := 3) (fun d hd => by
    have b1 := (La.bz.nf).lt d hd
    omega) (by rw [vX]; exact ba.N) (by decide) x hx
   exact dD (by decide) (Nat.lt_of_le_of_lt this (by decide))⟩
  have hlen := AF I
  generalize fY : wY (qb 3 5) 5 (sq a) = L0 at *
  by_cases h3 : L0 = []
  ·refine fin rfl (xZ (f := sq a) (L := L0.map (ex (sq a))) (C := []) hl hk (hc ▸ hOf) (by omega) (by rw [List.length_map]; omega) hS X7 (fun _ => hRo) ?_)
   rw [if_pos (.inr (by rw [h3]; rfl))]
  ·have hW := xZ (f := sq a) (L := L0.map (ex (sq a))) (C := []) hl hk (hc ▸ hOf) (by omega) (by rw [List.length_map]; omega) hS X7 (fun _ => hRo) rfl
   rw [if_neg (by rw [not_or]; exact ⟨h2, by simp [h3]⟩)] at hW
   have hLp := List.length_pos_iff.2 h3
   have FO := Int.emod_nonneg k (show (L0.length : Int) ≠ 0 by omega)
   have hm2 := Int.emod_lt_of_pos k (show (0 : Int) < L0.length by omega)
   have hj : (k % ((L0.map (ex (sq a))).length : Int)).toNat < L0.length := by rw [List.length_map]; omega
   generalize (k % ((L0.map (ex (sq a))).length : Int)).toNat = j at *
   have hn : nth (L0.map (ex (sq a))) j = ex (sq a) (nth L0 j) := by rw [cQ (by rw [List.length_map]; exact hj), List.getElem_map, cQ hj]
   rw [hn] at hW
   have A := (VK I (by decide) (by omega) (p := nth L0 j) (by rw [fY]; exact bU hj)).2
   exact ⟨sq a, ex (sq a) (nth L0 j), hW, ⟨A.I, A.hs, A.A, A.q1.mono (by decide), A.q2.mono (by decide), by decide, A.n8, A.b1, A.b2⟩, asA _ _, nN, bs⟩
structure SzC (s n S k : Nat) : Prop where
 h1 : (qb (qb s n) n + n + 6) * 4 ^ n ≤ 4500000000
 h2 : qb s n ≤ 1000000
 hE : (max s (S + 5 * k) + max n k + 1) * 2 * 4 ^ max n k ≤ 4500000000
 hL : (qb (S + 5 * k) k + k + 6) * 4 ^ k ≤ 4500000000
 hk : 1 ≤ k
 h8 : k ≤ 8
 hS : k + 1 ≤ 2 ^ (S + 5 * k)
 hS2 : S + 5 * k ≤ 100000
theorem SzC.lay {s n S k : Nat} (z : SzC s n S k) {q : ZX} (bq : BZ (S + 5 * k) k q) : pT (S + 5 * k) k q := ⟨bq, by have := z.h8; omega, z.hS, z.hL⟩
theorem SzC.s1 {s n S k : Nat} (z : SzC s n S k) : 1 ≤ S + 5 * k := by have := z.hk; omega
theorem SzC.eu {s n S k : Nat} (z : SzC s n S k) (hn : n ≤ 20) : Eu (max s (S + 5 * k)) (max n k) := ⟨by have := z.h8; omega, by have := z.s1; omega, z.hE⟩
section
variable {s n u S k : Nat} {f : ZX} {p : Rat × Rat} (a : AN s n u f p) (z : SzC s n S k)
include a z
theorem AN.sgC {q : ZX} (bq : BZ (S + 5 * k) k q) : SgC (S + 5 * k) k f q := by
 have I := a.I
 have L := z.lay bq
 have E := z.eu I.ch.hn
 refine ⟨bq, z.hS2, by have := z.h8; omega, by have := bq.N; have := z.h8; omega, E.alX (bq.mono (by omega) (by omega)) (I.ch.bz.mono (by omega) (by omega)), fun _ => ⟨_, _, adq I q z.h1 (by have := z.h2; omega), z.h2⟩, fun h0 => ⟨_, _, L.ch h0 z.hk⟩, fun h0 => I3 (uA L) (L.ch h0 z.hk) (zA h0).1⟩
theorem AN.qgC {q : ZX} (bq : BZ (S + 5 * k) k q) : QgC (S + 5 * k) k f q := by
 have I := a.I
 have L := z.lay bq
 have E := z.eu I.ch.hn
 refine ⟨bq, z.hS2, by have := z.h8; omega, by have := bq.N; have := z.h8; omega, E.qg (bq.mono (by omega) (by omega)) (I.ch.bz.mono (by omega) (by omega)), fun _ => ⟨_, _, adq I q z.h1 (by have := z.h2; omega)⟩, fun h0 => ⟨_, _, L.ch h0 z.hk⟩, fun h0 => pK L h0 z.hk z.s1⟩
end
theorem AN.sg0 {s n u : Nat} {f : ZX} {p : Rat × Rat} (a : AN s n u f p) : SC (eO f p) 0 = 0 := (show JM (eO f p) 0 0 from .inl ⟨rfl, rO (cL a.A)⟩).eq (cL a.A)
noncomputable def afU (U : Rat → Prop) (q : ZX) : Int := D2 (SC U) (ZX.N q) q
section
variable {s n u S k : Nat} {f : ZX} {p : Rat × Rat} (a : AN s n u f p) (z : SzC s n S k) {q : ZX} (bq : BZ S k q)
include a z bq
theorem AN.at : aG env.P 32 [Po q.l, GA f p] (.int .i64 (afU (eO f p) q)) :=
 agL (SC (eO f p)) a.sg0 bq (by have := z.h8; omega) (by have := z.hS2; omega) fun r s' uY br => a.sg (a.sgC z (br.mono uY (Nat.le_refl _)))
theorem AN.ady (hx : Ex f p) : aG env.P 35 [PI q.l, QA f (aU f) p] (.int .i64 (afU (eO f p) q)) :=
 SE (SC (eO f p)) a.sg0 bq (by have := z.h8; omega) (by have := z.hS2; omega) fun r s' uY br => a.qsg hx (a.qgC z (br.mono uY (Nat.le_refl _)))
end
theorem AN.af {s n u : Nat} {f : ZX} {p : Rat × Rat} (a : AN s n u f p) {q : ZX} (h0 : q ≠ 0) (hN : ZX.N q ≤ 20) : Af (eO f p) q (afU (eO f p) q) :=
 adg (cL a.A) (fun r hr => ams a.I.nf a.I.sq a.I.NB (by have := a.I.ch.hn; have := a.n8; omega) a.A r hr) _ q (Nat.le_refl _) hN h0
theorem adz {x : List Int} {c : List ZX} {an ad bn bd : Int} (hT : aG env.P 33 [PI x] (Po x)) (h1 : aG env.P 24 [R2 an ad] (T2 an ad)) (h2 : aG env.P 24 [R2 bn bd] (T2 bn bd)) : aG env.P 34 [.ag (lR x c an ad bn bd)] (.ag (G9 x an ad bn bd)) := by
 simp only [lR, G9]
 refine bV [(0, .ag (lR x c an ad bn bd))] Tryz.func34 ?_
 refine aA [1, 2] ?_
 refine oE ?_
 refine bZ hT ?_
 refine bZ h1 ?_
 refine aD h2 ?_
 (try (refine bR (of_decide_eq_true (by kernel_rfl)) ?_)); (try simp (maxSteps := 4000000) (disch := omega) [gw]); (repeat rw [if_pos (by kernel_rfl)]); (try simp (maxSteps := 4000000) (disch := omega) [gw])
 refine bH [2] ?_
 exact bT
theorem AN.toA {s n u : Nat} {f : ZX} {p : Rat × Rat} (a : AN s n u f p) : aG env.P 34 [QA f (aU f) p] (GA f p) := by
 have hu := a.hu
 have h1 := a.q1.tor (show u ≤ 137438953472 by omega)
 have h2 := a.q2.tor (show u ≤ 137438953472 by omega)
 rw [c8] at h1 h2
 exact adz (pL a.I.ch.bz (by have := a.hs; omega) (by have := a.I.ch.hn; omega)) h1 h2
theorem amw {f : ZX} (h0 : f ≠ 0) (hN : ZX.N f ≤ 3) (b : BZ 49 5 f) : ∀ i, i < 3 → BZ 120 5 (f ^ i) ∧ ZX.N (f ^ i) ≤ 2 * i + 1 ∧ f ^ i ≠ 0 := fun i hi => by
 have h1 : BZ 49 3 f := ⟨hN, b.sz⟩
 have e1 : f ^ 1 = f := by rw [pow_succ', dH]; grind
 have hp : ∀ j, f ^ j ≠ 0 := ZX.CM h0
 have n0 := ZX.aC.1 h0
 have hi : i = 0 ∨ i = 1 ∨ i = 2 := by omega
 rcases hi with rfl | rfl | rfl
 ·rw [dH]
  exact ⟨⟨by show ZX.N (1 : ZX) ≤ _; rw [ZX.rB]; decide, fun c hc => by
   have h1 : (1 : ZX).l = [1] := rfl
   rw [h1] at hc; simp at hc; subst hc; decide⟩, by rw [ZX.rB]; decide, ZX.lY⟩
 ·rw [e1]
  exact ⟨⟨by have := b.N; exact this, fun c hc => Nat.le_trans (b.sz c hc) (by decide)⟩, hN, h0⟩
 ·have e2 : f ^ 2 = f * f := by rw [pow_succ', e1]
  have hm : ZX.N (f * f) ≤ 5 := by rw [ZX.eI h0 h0]; omega
  rw [e2]
  exact ⟨(h1.X6 h1 hm).mono (by decide) (by decide), by omega, ZX.eB h0 h0⟩
theorem wL {l m al pl xl x : List Int} {i k kk r : Int} {cc : List ZX} {an ad bn bd : Int} (hl : x.length < 1000000) (hP : aG env.P 28 [aI aF l, .int .i64 i] (.ag (lR x cc an ad bn bd))) (hM : aG env.P 29 [aI aF m, .int .i64 3] (PI al))
  (hW : aG env.P 14 [.int .i64 k, .int .i64 3] (.int .i64 kk)) (hPw : x.length < 4 → aG env.P 31 [PI x, .int .i64 kk] (PI pl)) (hX : x.length < 4 → aG env.P 30 [PI al, PI pl] (PI xl)) (hX2 : ¬ x.length < 4 → xl = al) (hT : aG env.P 33 [PI xl] (Po xl))
  (hTA : aG env.P 34 [.ag (lR x cc an ad bn bd)] (.ag (G9 x an ad bn bd))) (hAt : aG env.P 32 [Po xl, .ag (G9 x an ad bn bd)] (.int .i64 r)) (hA : aG env.P 35 [PI xl, .ag (lR x cc an ad bn bd)] (.int .i64 r)) : aG env.P 4 [aI aF l, .int .i64 i, aI aF m, .int .i64 k] (.bool true) := by
 have hw := rN
 simp only [lR, G9] at *
 refine bV [(0, aI aF l), (1, .int .i64 i), (2, aI aF m), (3, .int .i64 k)] Tryz.func4 ?_
 refine aA [0, 1, 2, 3] ?_
 refine aK [2, 3, 9] hP ?_
 refine aK [3, 9, 10] hM ?_
 refine W.gS (fun σ => ∃ (v9 : Nat) (rows : Pm.Rows) (clk : Nat), σ = ⟨fa [(9, .ptr 9 v9 0 0), (10, PI xl)], rows, clk⟩ ∧ rows 9 = some ⟨v9, 49, 10, [lR x cc an ad bn bd]⟩) ?_ ?_
 ·refine aA [3, 9, 10, 19] ?_
  refine bE ?_ ?_ <;> intro h
  ·have h4 : x.length < 4 := by simp at h; omega
   have h1 := hPw h4
   have h2 := hX h4
   refine W.N7 (fun K hK => ?_)
   simp (disch := omega) [gw]
   refine bZ hW ?_
   refine bZ h1 ?_
   refine bZ h2 ?_
   exact hK _ ⟨_, aB _ [9, 10], _, _, _, rfl, by simp⟩
  ·have h4 : ¬ x.length < 4 := by simp at h; omega
   rw [← hX2 h4]
   refine W.skip ?_
   exact ⟨_, aB _ [9, 10], _, _, _, rfl, by simp⟩
 rintro _ ⟨v9, rows, clk, rfl, XN⟩
 simp only [lR] at XN
 refine oE ?_
 refine aD hT ?_
 simp (disch := omega) [gw, XN]
 refine bZ hTA ?_
 refine aD hAt ?_
 simp (disch := omega) [gw, XN]
 refine bZ hA ?_
 refine cI [8] hw ?_
 exact bT
theorem tE : SzC 59 5 140 8 := ⟨by decide, by decide, by decide, by decide, by decide, by decide, by decide, by decide⟩
theorem NW (l : List Int) (i : Int) (m : List Int) (k : Int) (hb : ∀ x ∈ l, -9223372036854775808 ≤ x ∧ x < 9223372036854775808) (hl : l.length < 9223372036854775808) (hi : -9223372036854775808 ≤ i ∧ i < 9223372036854775808) (hmb : ∀ x ∈ m, -9223372036854775808 ≤ x ∧ x < 9223372036854775808) (hml : m.length < 9223372036854775808) (hk : -9223372036854775808 ≤ k ∧ k < 9223372036854775808) :
  aG env.P 4 [aI aF l, .int .i64 i, aI aF m, .int .i64 k] (.bool true) := by
 obtain ⟨f, p, hP, A, hE, hN5, bf⟩ := NV (l := l) (k := i) hl hi
 have hM := wI m hml hmb 3 (by decide)
 obtain ⟨a1, a2⟩ := JG m 3
 have a0 := (AA m 3).1
 generalize made m 3 = a at *
 have e1 : 3 * 9 ^ 3 = 2187 := by decide
 rw [e1] at a1
 have ba : BZ 12 4 a := BZ.acZ (by show _ < 4096; omega) a2
 have hW := gZ k 3 hk (by decide) (by decide)
 obtain ⟨K0, hK⟩ : ∃ K0 : Nat, k % 3 = K0 := ⟨(k % 3).toNat, by omega⟩
 have hK3 : K0 < 3 := by omega
 rw [hK] at hW
 have f0 := A.I.nf.ne
 have XF : f.l.length = ZX.N f := rfl
 rw [aiN] at hP
 by_cases h4 : ZX.N f < 4
 ·have P := amw f0 (by omega) bf
  have bm : ∀ j, j < 3 → BZ 140 8 (a * f ^ j) := fun j hj => by
   obtain ⟨p1, p2, p3⟩ := P j hj
   exact (ba.X6 p1 (show ZX.N (a * f ^ j) ≤ 8 by rw [ZX.eI a0 p3]; omega)).mono (by decide) (by decide)
  have hPw := F8 (a := f) (k := K0) (by omega) (fun j hj => kK _ _ 120 49 5 5 (P j (by omega)).1 bf (by decide))
  have hX : aG env.P 30 [PI a.l, PI (f ^ K0).l] (PI (a * f ^ K0).l) := kK _ _ 12 120 4 5 ba (P K0 hK3).1 (by decide)
  have bq := bm K0 hK3
  exact wL (by omega) hP hM hW (fun _ => hPw) (fun _ => hX) (fun h => absurd (by omega) h) (pL bq (by decide) (by decide)) A.toA (A.at tE bq) (A.ady tE bq hE)
 ·have bq : BZ 140 8 a := ba.mono (by decide) (by decide)
  exact wL (pl := []) (by omega) hP hM hW (fun h => absurd h (by omega)) (fun h => absurd h (by omega)) (fun _ => rfl) (pL bq (by decide) (by decide)) A.toA (A.at tE bq) (A.ady tE bq hE)
end Go.Proofs.YtelhfbikiccfkaaGreat
