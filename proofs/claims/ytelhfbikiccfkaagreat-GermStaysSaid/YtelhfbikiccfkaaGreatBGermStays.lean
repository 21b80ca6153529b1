/- For every input the law GermStays of chapter 11 returns true, and each argument reads afterwards as it read before. No conditions. -/
import Derived.Test.YtelhfbikiccfkaaGreatRows
import Derived.Test.YtelhfbikiccfkaaGreatBaq
import Derived.Test.YtelhfbikiccfkaaGreatBar
import Derived.Test.YtelhfbikiccfkaaGreatBas
import Derived.Test.YtelhfbikiccfkaaGreatBat
set_option linter.unusedSimpArgs false
set_option linter.unusedVariables false
namespace Go.Proofs.YtelhfbikiccfkaaGreat
open Go Pm
open ZX hiding N W
theorem adA : ∀ (k : Nat) (a : ZX), ZX.N a ≤ k → a ≠ 0 → ∃ (g h : ZX) (c : Int), c ≠ 0 ∧ K c * a = g * (h * h) ∧ g ≠ 0 ∧ h ≠ 0 ∧ ∀ p, nK p → mu p g ≤ 1
 | 0, a, hk, h0 => absurd hk (by have := ZX.aC.1 h0; omega)
 | k + 1, a, hk, h0 => by
  by_cases hs : ∃ p, nK p ∧ 2 ≤ mu p a
  ·obtain ⟨p, hp, h2⟩ := hs
   obtain ⟨c, hc, b, hb⟩ := (j0 hp h0 (k := 2)).1 h2
   have p1 : p ^ 1 = p := by rw [pow_succ', dH]; grind
   have p2 : p ^ 2 = p * p := by rw [pow_succ', p1]
   rw [p2] at hb
   have uZ := ZX.eB hp.ne hp.ne
   have b0 : b ≠ 0 := fun h => ZX.eB (ZX.kQ hc) h0 (by rw [hb, h]; grind)
   have hN := congrArg ZX.N hb
   rw [ZX.eI (ZX.kQ hc) h0, ZX.T0 hc, ZX.eI b0 uZ, ZX.eI hp.ne hp.ne] at hN
   have hd := hp.deg
   have hbN := ZX.aC.1 b0
   obtain ⟨g, h, c', ZG, e, g0, JW, hm⟩ := adA k b (by omega) b0
   refine ⟨g, h * p, c' * c, Int.mul_ne_zero ZG hc, ?_, g0, ZX.eB JW hp.ne, hm⟩
   rw [← nJ, show K c' * K c * a = K c' * (K c * a) by grind, hb, show K c' * (b * (p * p)) = (K c' * b) * (p * p) by grind, e]
   grind
  ·refine ⟨a, 1, 1, by decide, by show (1 : ZX) * a = _; grind, h0, ZX.lY, fun p hp => Nat.not_lt.1 fun h => hs ⟨p, hp, h⟩⟩
theorem agQ {a : ZX} (h0 : a ≠ 0) : ∃ (h : ZX) (c d : Int), c ≠ 0 ∧ d ≠ 0 ∧ h ≠ 0 ∧ K c * a = K d * (oz (nf a) * (h * h)) := by
 obtain ⟨g, h, c, hc, e, g0, JW, hm⟩ := adA _ a (Nat.le_refl _) h0
 have hgf : nf g = oz (nf a) := NM (fF g0) (F7 (fF h0)) fun p hp => by
  have h1 := congrArg (mu p) e
  rw [kT hp (ZX.kQ hc) h0, QW hp hc, kT hp g0 (ZX.eB JW JW), kT hp JW JW] at h1
  have := hm p hp
  rw [UD (fF h0) hp, CT hp h0, CT hp g0]
  omega
 refine ⟨h, c, _, hc, nO g0, JW, ?_⟩
 rw [e, ← hgf]
 conv => lhs; rw [← II g0]
 grind
theorem asF {U : Rat → Prop} (H : J0 U) {c : Int} (hc : c ≠ 0) : Af U (K c) (bG (c : Rat)) := by
 obtain ⟨t, ht⟩ := H.hi
 have hcq : (c : Rat) ≠ 0 := fun h0 => hc (Rat.intCast_eq_zero_iff.1 h0)
 exact ⟨fun h => hcq (cP.1 h), t + 1, ⟨t, by grind, ht⟩, fun x _ _ => by rw [uU]⟩
theorem DQ (p : ZX) : ∃ B : Rat, ∀ t, (t ≤ -B → bG (e t p) = eL p.l) ∧ (B ≤ t → bG (e t p) = eR p.l) := by
 obtain ⟨S, hS, hc⟩ := wF p.l
 exact ⟨S + 1, fun t => ⟨(sE hS p.c hc).2, (sE hS p.c hc).1⟩⟩
theorem kap {a : ZX} (h0 : a ≠ 0) (hN : ZX.N a ≤ 20) : ∃ κ : Int, (κ = 1 ∨ κ = -1) ∧ eL a.l = κ * eL (oz (nf a)).l ∧ eR a.l = κ * eR (oz (nf a)).l ∧ ∀ (U : Rat → Prop), J0 U → (∀ h : ZX, h ≠ 0 → ZX.N h ≤ 20 → ∃ η, Af U h η) → ∀ σ τ, Af U a σ → Af U (oz (nf a)) τ → σ = κ * τ := by
 obtain ⟨h, c, d, hc, hd, JW, e1⟩ := agQ h0
 have Y2 := (F7 (fF h0)).ne
 have hNh : ZX.N h ≤ 20 := by
  have h1 := congrArg ZX.N e1
  rw [ZX.eI (ZX.kQ hc) h0, ZX.T0 hc, ZX.eI (ZX.kQ hd) (ZX.eB Y2 (ZX.eB JW JW)), ZX.T0 hd, ZX.eI Y2 (ZX.eB JW JW), ZX.eI JW JW] at h1
  have := ZX.aC.1 Y2
  have := ZX.aC.1 JW
  omega
 have s1 : ∀ {z : Int}, z ≠ 0 → bG (z : Rat) = 1 ∨ bG (z : Rat) = -1 := fun {z} hz => by
  rcases bQ (z : Rat) with ⟨_, h⟩ | ⟨h, _⟩ | ⟨_, h⟩
  ·exact .inr h
  ·exact absurd (Rat.intCast_eq_zero_iff.1 h) hz
  ·exact .inl h
 have sc := s1 hc
 have sd := s1 hd
 generalize hf : oz (nf a) = f at *
 have key : ∀ x y z : Int, (z = 1 ∨ z = -1) → bG (c : Rat) * x = bG (d : Rat) * (y * (z * z)) → x = bG (c : Rat) * bG (d : Rat) * y := fun x y z hz h => by
  rcases sc with h1 | h1 <;> rcases sd with h2 | h2 <;> rcases hz with rfl | rfl <;> rw [h1, h2] at h ⊢ <;> omega
 have val : ∀ t, e t h ≠ 0 → bG (e t a) = bG (c : Rat) * bG (d : Rat) * bG (e t f) := fun t ht => by
  have h1 := congrArg (fun z => bG (e t z)) e1
  simp only [gR, uU, k9] at h1
  refine key _ _ (bG (e t h)) ?_ h1
  rcases bQ (e t h) with ⟨_, h⟩ | ⟨h, _⟩ | ⟨_, h⟩
  ·exact .inr h
  ·exact absurd h ht
  ·exact .inl h
 obtain ⟨B1, b1⟩ := DQ a
 obtain ⟨B2, b2⟩ := DQ f
 obtain ⟨B3, b3⟩ := DQ h
 obtain ⟨M1, _, m1, m2⟩ := gJ B1 B2
 obtain ⟨M, _, m3, m4⟩ := gJ M1 B3
 obtain ⟨_, m1⟩ := m1; obtain ⟨_, m2⟩ := m2; obtain ⟨_, m3⟩ := m3; obtain ⟨_, m4⟩ := m4
 have hl := cK h.c (ZX.aC.1 JW)
 have nz : ∀ t, (bG (e t h) = eL h.l ∨ bG (e t h) = eR h.l) → e t h ≠ 0 := fun t ht h1 => by
  rw [h1, eV] at ht
  have h2 : (lead h.l).sign ≠ 0 := fun h3 => hl (Int.sign_eq_zero_iff_zero.1 h3)
  rcases ht with ht | ht
  ·unfold eL at ht; split at ht <;> omega
  ·unfold eR at ht; omega
 refine ⟨bG (c : Rat) * bG (d : Rat), by rcases sc with h1 | h1 <;> rcases sd with h2 | h2 <;> rw [h1, h2] <;> decide, ?_, ?_, fun U H hx σ τ hσ hτ => ?_⟩
 ·have v := val (-M) (nz _ (.inl ((b3 _).1 (by grind))))
  rwa [(b1 _).1 (by grind), (b2 _).1 (by grind)] at v
 ·have v := val M (nz _ (.inr ((b3 _).2 (by grind))))
  rwa [(b1 _).2 (by grind), (b2 _).2 (by grind)] at v
 ·obtain ⟨η, hη⟩ := hx h JW hNh
  have x1 := (asF H hc).mul hσ
  rw [e1] at x1
  exact key σ τ η hη.abs (x1.uniq ((asF H hd).mul (hτ.mul (hη.mul hη))))
theorem JQ {f : ZX} {t : Rat} (h : bG (e t f) ≠ 0) : wX f t = bG (e t f) := by
 unfold wX
 rw [if_neg (fun h0 => h (by rw [h0, eV]))]
section
variable {s n : Nat} {f : ZX} (I : j4 s n f)
include I
theorem amx {U : Rat → Prop} (hup : ∀ s t, U s → s ≤ t → U t) {i : Nat} {b : Rat} (hb : U b) (hv : vt (aU f) b + i = vt (aU f) (-eW f.l)) (hU : ∀ t, U t → vt (aU f) t + i ≤ vt (aU f) (-eW f.l)) {τ : Int} (h : Af U f τ) : τ = sH i * eL f.l := by
 obtain ⟨B, hB⟩ := DQ f
 obtain ⟨M, _, ⟨m1, m2⟩, ⟨m3, m4⟩⟩ := gJ B (eW f.l)
 obtain ⟨s1, r1, _, r3, _⟩ := I.S.rgt b (show b < b + 1 by grind)
 obtain ⟨h0, t0, ht0, ht⟩ := h
 obtain ⟨t, h1, h2, h3⟩ := ht0.min (⟨b, r1, hb⟩ : Up U s1)
 have hτ := ht t h1 h2
 have hUt : U t := by
  obtain ⟨z, z1, z2⟩ := h1
  exact hup z t z2 (Rat.le_of_lt z1)
 have v1 := I.S.bX h3
 have v2 := hU t hUt
 obtain ⟨M2, _, ⟨m5, m6⟩, ⟨JU, _⟩⟩ := gJ M t
 have hp := I.S.par JU
 have f1 := (hB (-M2)).1 (by grind)
 have hl := cK f.c (List.length_pos_iff.2 I.f0)
 have e0 : eL f.l ≠ 0 := by
  have h2 : (lead f.l).sign ≠ 0 := fun h3 => hl (Int.sign_eq_zero_iff_zero.1 h3)
  unfold eL; split <;> omega
 rw [JQ (by omega), JQ (by omega), hτ, f1] at hp
 have g1 := I.S.bX (show -M2 ≤ -eW f.l by grind)
 have g2 := I.ado (-M2)
 rw [hp, show vt (aU f) (-M2) - vt (aU f) t = i by omega]
theorem asG : eR f.l = sH (vt (aU f) (-eW f.l) - vt (aU f) (eW f.l)) * eL f.l := by
 obtain ⟨B, hB⟩ := DQ f
 obtain ⟨M, _, ⟨m1, m2⟩, ⟨m3, m4⟩⟩ := gJ B (eW f.l)
 have hb := I.amf
 have hp := I.S.par (show -M ≤ M by grind)
 have f1 := (hB (-M)).1 (by grind)
 have f2 := (hB M).2 (by grind)
 have hl := cK f.c (List.length_pos_iff.2 I.f0)
 have h2 : (lead f.l).sign ≠ 0 := fun h3 => hl (Int.sign_eq_zero_iff_zero.1 h3)
 have e0 : eL f.l ≠ 0 := by unfold eL; split <;> omega
 have e1 : eR f.l ≠ 0 := h2
 rw [JQ (by omega), JQ (by omega), f1, f2] at hp
 have g1 := I.S.bX (show -M ≤ -eW f.l by grind)
 have g2 := I.ado (-M)
 have g3 := I.S.bX (show eW f.l ≤ M by grind)
 have g4 := I.adp M
 rw [hp, show vt (aU f) (-M) - vt (aU f) M = vt (aU f) (-eW f.l) - vt (aU f) (eW f.l) by omega]
end
theorem DR {l al : List Int} {n d lo hi tn td : Int} {f : ZX} {c : List ZX} {L M : List (Rat × Rat)} {g s : Nat → Int} (hM : aG env.P 29 [aI aF l, .int .i64 6] (PI al)) (hT : aG env.P 33 [PI al] (Po al)) (k1 : aG env.P 37 [Po al] (aI (ga f) L)) (k2 : aG env.P 38 [PI al] (aI (qa f c) M)) (hl : M.length = L.length) (JV : L.length < 1000)
  (hE : aG env.P 39 [Po al] (.fH [.int .i64 lo, .int .i64 hi])) (g0 : g 0 = lo) (gb : ∀ i, -1 ≤ g i ∧ g i ≤ 1) (hg : ∀ i, g (i + 1) = -g i) (hAt : ∀ i, i < L.length → aG env.P 32 [Po al, GA f (nth L i)] (.int .i64 (g (i + 1)))) (hS : aG env.P 26 [.int .i64 n, .int .i64 d] (R2 tn td)) (hR : aG env.P 24 [R2 tn td] (T2 tn td))
  (s0 : s 0 = lo) (sb : ∀ i, -1 ≤ s i ∧ s i ≤ 1) (hC : ∀ i, i < L.length → ∃ z : Int, aG env.P 20 [QA f c (nth M i), R2 tn td] (.int .i64 z) ∧ s (i + 1) = if z ≤ 0 then -s i else s i) (IM : g L.length = hi) (hA : aG env.P 40 [Po al, T2 tn td] (.int .i64 (s L.length))) :
  aG env.P 5 [aI aF l, .int .i64 n, .int .i64 d] (.bool true) := by
 have hw := rN
 subst g0
 subst IM
 refine bV [(0, aI aF l), (1, .int .i64 n), (2, .int .i64 d)] Tryz.func5 ?_
 refine aA [0, 1, 2] ?_
 refine aK [1, 2, 7] hM ?_
 refine aK [1, 2, 7, 8] hT ?_
 refine aK [1, 2, 7, 8, 9] k1 ?_
 refine aK [1, 2, 8, 9, 10] k2 ?_
 refine W.seq ?_
 have e1 : ((L.length : Int) != (M.length : Int)) = false := by rw [hl]; simp
 refine W.sr ?_
 simp (disch := omega) [gw, e1]
 refine bH [1, 2, 8, 9, 10, 32] ?_
 refine bE ?_ ?_ <;> intro h
 ·simp at h
 refine W.skip ?_
 refine aK [1, 2, 8, 9, 10, 11] hE ?_
 refine aL [1, 2, 8, 9, 10, 11, 39, 40] ?_
 refine W.block ?_
 refine W.bC (fun k σ => ∃ (i : Nat) (rows : Pm.Rows) (clk : Nat), σ = ⟨fa [(1, .int .i64 n), (2, .int .i64 d), (8, Po al), (9, aI (ga f) L), (10, aI (qa f c) M), (11, .int .i64 (g i)), (39, .int .i64 L.length), (40, .int .i64 i)], rows, clk⟩ ∧ i + k = L.length) L.length ?_ ?_
 ·exact ⟨_, .refl, 0, _, _, rfl, by omega⟩
 rintro k _ ⟨i, rows, clk, rfl, EJ⟩
 have w1 : IntKind.wrap .i64 (-g i) = -g i := by have := gb i; exact wrap_i64 (by omega) (by omega)
 refine cS [1, 2, 8, 9, 10, 11, 39, 40, 41] ?_
 refine bE ?_ ?_ <;> intro h
 ·have hi : i < L.length := by simp at h; omega
  have amy := hAt i hi
  rw [hg i] at amy
  simp only [GA, ga, List.cons_append, List.nil_append] at amy
  refine lG ?_
  refine aA [1, 2, 8, 9, 10, 11, 13, 39, 40] ?_
  refine W.seq ?_
  refine W.sr ?_
  simp (disch := omega) [gw, hi]
  refine aD amy ?_
  simp (disch := omega) [gw, w1]
  refine bH [1, 2, 8, 9, 10, 11, 39, 40, 51] ?_
  refine bE ?_ ?_ <;> intro h
  ·simp at h
  refine W.skip ?_
  refine W.b8 (fun K hK => ?_)
  simp (disch := omega) [gw, w1]
  refine W.lw [1, 2, 8, 9, 10, 11, 39, 40] hK ?_; clear hK K; simp
  rw [← hg i]
  refine W.b8 (fun K hK => ?_); simp (disch := omega) [gw]
  refine hK _ ⟨k - 1, _, aB _ [1, 2, 8, 9, 10, 11, 39, 40], by omega, i + 1, _, _, rfl, by omega⟩
 ·have hi : i = L.length := by simp at h; omega
  subst hi
  refine fB ?_
  refine aK [1, 2, 8, 10, 11, 15] hE ?_
  refine aK [8, 10, 11, 15, 16] hS ?_
  refine aK [8, 10, 11, 15, 16, 17] hE ?_
  rw [← s0]
  refine aL [8, 10, 11, 15, 16, 17, 69, 70] ?_
  refine W.block ?_
  rw [hl]
  refine W.bC (fun k σ => ∃ (i v16 : Nat) (rows : Pm.Rows) (clk : Nat), σ = ⟨fa [(8, Po al), (10, aI (qa f c) M), (11, .int .i64 (g L.length)), (15, .int .i64 (g L.length)), (16, .ptr 16 v16 0 0), (17, .int .i64 (s i)), (69, .int .i64 L.length), (70, .int .i64 i)], rows, clk⟩ ∧ rows 16 = some ⟨v16, 31, 4, [[aI aF (aS DD tn.natAbs), .bool (decide (tn < 0)), aI aF (aS DD td.natAbs), .bool (decide (td < 0))]]⟩ ∧ i + k = L.length) L.length ?_ ?_
  ·exact ⟨_, .refl, 0, _, _, _, rfl, by simp, by omega⟩
  rintro k _ ⟨i, v16, rows, clk, rfl, zM, EJ⟩
  have w2 : IntKind.wrap .i64 (-s i) = -s i := by have := sb i; exact wrap_i64 (by omega) (by omega)
  refine cS [8, 10, 11, 15, 16, 17, 69, 70, 71] ?_
  refine bE ?_ ?_ <;> intro h
  ·have hi : i < L.length := by simp at h; omega
   have GS : i < M.length := by omega
   obtain ⟨z, hz, hs⟩ := hC i hi
   simp only [QA, qa, List.cons_append, List.nil_append] at hz
   refine W.skip ?_
   refine W.eT (fun σ => ∃ (v16 : Nat) (rows : Pm.Rows) (clk : Nat), σ = ⟨fa [(8, Po al), (10, aI (qa f c) M), (11, .int .i64 (g L.length)), (15, .int .i64 (g L.length)), (16, .ptr 16 v16 0 0), (17, .int .i64 (s (i + 1))), (69, .int .i64 L.length), (70, .int .i64 i)], rows, clk⟩ ∧ rows 16 = some ⟨v16, 31, 4, [[aI aF (aS DD tn.natAbs), .bool (decide (tn < 0)), aI aF (aS DD td.natAbs), .bool (decide (td < 0))]]⟩) ?_ ?_
   ·refine aA [8, 10, 11, 15, 16, 17, 19, 69, 70] ?_
    refine W.sd ?_
    simp (disch := omega) [gw, GS, zM]
    refine cI [8, 10, 11, 15, 16, 17, 69, 70, 79] hz ?_
    refine bE ?_ ?_ <;> intro h
    ·have n3 : z ≤ 0 := by simpa using h
     rw [if_pos n3] at hs
     refine W.b8 (fun K hK => ?_)
     simp (disch := omega) [gw, w2]
     rw [← hs]
     exact hK _ ⟨_, aB _ [8, 10, 11, 15, 16, 17, 69, 70], _, _, _, rfl, by simp [zM]⟩
    ·have n3 : ¬ z ≤ 0 := by simpa using h
     rw [if_neg n3] at hs
     rw [← hs]
     refine W.skip ?_
     exact ⟨_, aB _ [8, 10, 11, 15, 16, 17, 69, 70], _, _, _, rfl, by simp [zM]⟩
   rintro _ ⟨v16, rows, clk, rfl, zM⟩
   refine W.b8 (fun K hK => ?_); simp (disch := omega) [gw]
   refine hK _ ⟨k - 1, _, aB _ [8, 10, 11, 15, 16, 17, 69, 70], by omega, i + 1, _, _, _, rfl, zM, by omega⟩
  ·have hi : i = L.length := by simp at h; omega
   subst hi
   refine fB ?_
   refine W.sr ?_
   simp (disch := omega) [gw, zM]
   refine bZ hR ?_
   refine bZ hA ?_
   refine cI [6] hw ?_
   exact bT
theorem amA (r : Rat) : J0 (fun x => r ≤ x) := ⟨fun _ _ h h' => Rat.le_trans h h', ⟨r - 1, fun h => by grind⟩, ⟨r, Rat.le_refl⟩⟩
theorem adB (r : Rat) {h : ZX} (h0 : h ≠ 0) : Af (fun x => r ≤ x) h (RC r.num r.den h) := by
 obtain ⟨ε, hε, hn⟩ := NO r _ h (Nat.le_refl _) h0
 have h1 := hn (r + ε) (by grind) Rat.le_refl
 refine ⟨fun hh => h1.2 (cP.1 (h1.1.trans hh)), r + ε, ⟨r, by grind, Rat.le_refl⟩, fun x ⟨y, y1, y2⟩ hx => (hn x (by grind) hx).1⟩
theorem NX (n : Nat) : sH (n + 1) = -sH n := by rw [U6]; show _ * -1 = _; omega
theorem agR : SzC 351 7 21 7 := ⟨by decide, by decide, by decide, by decide, by decide, by decide, by decide, by decide⟩
theorem EX (l : List Int) (n d : Int) (hb : ∀ x ∈ l, -9223372036854775808 ≤ x ∧ x < 9223372036854775808) (hl : l.length < 9223372036854775808) (hn : -9223372036854775808 ≤ n ∧ n < 9223372036854775808) (hd : -9223372036854775808 ≤ d ∧ d < 9223372036854775808) : aG env.P 5 [aI aF l, .int .i64 n, .int .i64 d] (.bool true) := by
 have hM := wI l hl hb 6 (by decide)
 have hL := YE l
 have h0 := (AA l 6).1
 generalize made l 6 = a at *
 have hS := GH n d hn hd
 have q5 := acE n d
 generalize sml n d = r at *
 have hrt := q5.tor (by decide)
 have I := JK hL h0 (by decide) (by decide) (by decide)
 have k1 := DM hL h0 (by decide) (by decide) (by decide)
 have k2 := R9 (m := []) (tZ h0) (XV hL (by decide) h0) (DI I.U9 I.JH I I.s1)
 have hT := pL hL.bz (by decide) (by decide)
 have hE := xN (x := a.l) (hL.bz.pb (by decide) (by decide)) a.c
 have hA := DL hL.bz (by decide) (by decide) (c7 r) q5.nL q5.dL (by decide) ⟨q5.nL, q5.dL⟩ (by decide)
 have hN : ZX.N a ≤ 7 := hL.bz.N
 have hNf : ZX.N (oz (nf a)) ≤ 7 := I.ch.bz.N
 obtain ⟨κ, hκ, kL, kR, kA⟩ := kap h0 (by omega)
 have hlen := I.ivs.len
 have DV := AF I
 have hV := I.adp (-eW (oz (nf a)).l)
 have P3 := fun i hi => I.SG i hi
 have hrv := fun i hi => I.GQ i hi
 have hvb := I.adp r
 have hvt := I.ado r
 have hRL := asG I
 have han := fun {p} hp => VK (p := p) I (by decide) (by omega) hp
 have hlv := fun {U} hup {i} {b} hb hv hU {τ} h => amx I (U := U) hup (i := i) (b := b) hb hv hU (τ := τ) h
 rw [show wY (qb 21 7) 7 (oz (nf a)) = wY 351 7 (oz (nf a)) from rfl] at *
 generalize fY : wY 351 7 (oz (nf a)) = L at *
 have hf0 := I.nf.ne
 generalize hfe : oz (nf a) = f at *
 have SJ : ∀ σ τ : Int, σ = κ * τ → True := fun _ _ _ => trivial
 have XT : ∀ x : Nat, κ * (sH x * eL f.l) = sH x * eL a.l := fun x => by rw [kL, ← Int.mul_assoc, ← Int.mul_assoc, Int.mul_comm κ]
 have el3 : -1 ≤ eL a.l ∧ eL a.l ≤ 1 := by
  have h3 : (lead a.l).sign = -1 ∨ (lead a.l).sign = 0 ∨ (lead a.l).sign = 1 := by
   rcases Int.lt_trichotomy (lead a.l) 0 with h | h | h
   ·exact .inl (Int.sign_eq_neg_one_of_neg h)
   ·exact .inr (.inl (by rw [h]; rfl))
   ·exact .inr (.inr (Int.sign_eq_one_of_pos h))
  unfold eL; split <;> omega
 have gbd : ∀ x, -1 ≤ sH x * eL a.l ∧ sH x * eL a.l ≤ 1 := fun x => by rcases al9 x with h | h <;> rw [h] <;> omega
 have hVr : vt (aU f) (-eW f.l) - vt (aU f) r ≤ L.length := by omega
 have hAr : RC r.num r.den a = sH (vt (aU f) (-eW f.l) - vt (aU f) r) * eL a.l := by
  have x1 := adB r h0
  have x2 := adB r hf0
  have x3 := hlv (U := fun x => r ≤ x) (fun _ _ h h' => Rat.le_trans h h') (i := vt (aU f) (-eW f.l) - vt (aU f) r) (b := r) Rat.le_refl (by omega) (fun t ht => by have := I.S.bX ht; omega) x2
  have x4 := kA _ (amA r) (fun h hh _ => ⟨_, adB r hh⟩) _ _ x1 x2
  rw [x4, x3, XT]
 rw [hAr] at hA
 rw [c8] at hS hrt
 refine DR (g := fun i => sH i * eL a.l) (s := fun i => sH (min i (vt (aU f) (-eW f.l) - vt (aU f) r)) * eL a.l) hM hT k1 k2 (by rw [List.length_map]) (by omega) hE (by show sH 0 * _ = _; rw [show sH 0 = 1 from rfl, Int.one_mul]) gbd (fun i => by show sH (i + 1) * _ = -(sH i * _); rw [NX, Int.neg_mul]) (fun i hi => ?_) hS hrt (by show sH (min 0 _) * _ = _; rw [Nat.zero_min, show sH 0 = 1 from rfl, Int.one_mul]) (fun i => gbd _) (fun i hi => ?_) ?_ ?_
 ·obtain ⟨A1, A2⟩ := han (p := nth L i) (bU hi)
  have hat := A1.at agR hL.bz
  have x1 := A1.af h0 (by omega)
  have x2 := A1.af hf0 (by omega)
  have cl := GP I.S (p := nth L i) (by
   obtain ⟨_, _, _, _, _, h⟩ := (fY ▸ I.ivs).mem _ (bU hi)
   exact h)
  have lv := hrv i hi
  have x3 := hlv (U := eO f (nth L i)) (fun _ _ h h' => A1.A.up h h') (i := i + 1) (b := (nth L i).2) nV (by omega) (fun t ht => by have := (cl t).1 ht; omega) x2
  have x4 := kA _ (cL A1.A) (fun h hh hn => ⟨_, A1.af hh hn⟩) _ _ x1 x2
  rw [x4, x3, XT] at hat
  exact hat
 ·obtain ⟨A1, A2⟩ := han (p := nth L i) (bU hi)
  have hc := A2.I.amh A2.A A2.q1 A2.q2 (q5.mono (show 5 ≤ uu 351 by decide)) (by decide)
  rw [c8] at hc
  have hnm : nth (L.map (ex f)) i = ex f (nth L i) := DJ hi
  refine ⟨cr (eO f (ex f (nth L i))) r, by rw [hnm]; exact hc, ?_⟩
  have lv := P3 i hi r
  rw [hnm] at lv
  show sH (min (i + 1) _) * _ = if _ then -(sH (min i _) * _) else _
  by_cases hU : eO f (ex f (nth L i)) r
  ·have h1 := lv.1 hU
   have h2 : cr (eO f (ex f (nth L i))) r ≤ 0 := by
    rcases ac2 (eO f (ex f (nth L i))) r with h | h | h
    ·omega
    ·omega
    ·exact absurd hU (DF.1 h)
   rw [if_pos h2, show min (i + 1) (vt (aU f) (-eW f.l) - vt (aU f) r) = i + 1 by omega, show min i (vt (aU f) (-eW f.l) - vt (aU f) r) = i by omega, NX, Int.neg_mul]
  ·have h1 : ¬ _ := fun h => hU (lv.2 h)
   rw [DF.2 hU, if_neg (by decide), show min (i + 1) (vt (aU f) (-eW f.l) - vt (aU f) r) = min i (vt (aU f) (-eW f.l) - vt (aU f) r) by omega]
 ·show sH L.length * eL a.l = eR a.l
  rw [kR, hRL, kL, ← Int.mul_assoc, ← Int.mul_assoc, Int.mul_comm κ, show vt (aU f) (-eW f.l) - vt (aU f) (eW f.l) = L.length by omega]
 ·show aG env.P _ _ (.int .i64 (sH (min L.length _) * _))
  rw [show min L.length (vt (aU f) (-eW f.l) - vt (aU f) r) = vt (aU f) (-eW f.l) - vt (aU f) r by omega]
  exact hA
end Go.Proofs.YtelhfbikiccfkaaGreat
set_option linter.unusedSimpArgs false
set_option linter.unusedVariables false
namespace Go.Proofs.YtelhfbikiccfkaaGreat.germStays
open Go Pm Go.ChangeShapes Go.WideShapes Go.ChangeAt Go.RowKit
theorem wN : DX Tryz.prog 3 (fun ps => ∃ n : Int, ps = aF n ∧ -9223372036854775808 ≤ n ∧ n < 9223372036854775808) :=
  (DX.int .i64 (by kernel_rfl)).mono fun ps ⟨n, h1, h2, h3⟩ => ⟨n, h1, by simpa [IntKind.min, IntKind.signed, IntKind.bits] using h2, by simp [IntKind.max, IntKind.signed, IntKind.bits] at h3; omega⟩
theorem lO : pA Tryz.prog 22 (fun q => ∃ l : List Int, q = aI aF l ∧ (∀ x ∈ l, -9223372036854775808 ≤ x ∧ x < 9223372036854775808) ∧ l.length < 9223372036854775808) :=
  (pA.slice (e := 3) (by kernel_rfl) (by rw [show Tryz.prog.cellsOf 3 = 1 by kernel_rfl]; decide) wN).mono fun q ⟨l, h1, h2, h3⟩ => by
    obtain ⟨m, rfl, hm⟩ := maps (g := aF) (Q := fun n => -9223372036854775808 ≤ n ∧ n < 9223372036854775808) (fun ps h => h) h2
    exact ⟨m, h1, hm, by rw [List.length_map] at h3; simp only [maxLen] at h3; omega⟩
set_option maxRecDepth 100000 in
theorem lifted (os : Os) (started : os.Started) (H : Type) (enc : TypeId × Value → H) :
    ReturnsInHanded {} Tryz.checked os 5 .any (Rows.germStaysSpec.pre6 enc Tryz.prog Tryz.f5 Rows.germStaysRow.domain false) (Rows.germStaysSpec.post enc Tryz.prog Tryz.f5 false true false false) := by
  refine BV (C := Tryz.checked) (Qs := [fun q => ∃ l : List Int, q = aI aF l ∧ (∀ x ∈ l, -9223372036854775808 ≤ x ∧ x < 9223372036854775808) ∧ l.length < 9223372036854775808, fun q => ∃ n : Int, q = .int .i64 n ∧ -9223372036854775808 ≤ n ∧ n < 9223372036854775808, fun q => ∃ n : Int, q = .int .i64 n ∧ -9223372036854775808 ≤ n ∧ n < 9223372036854775808]) (tb := 4) own laidOut started (by kernel_rfl) Tryz.func5
    (ChangeSpec.witness6 (enc := enc) (C := Tryz.checked) false ⟨#[], #[.slice none 0 0, .int .i64 0, .int .i64 0], []⟩ 16 (by kernel_rfl) (by kernel_rfl) (by kernel_rfl) (by kernel_rfl)) rfl ?_ (by kernel_rfl) (by kernel_rfl) ?_ ?_
  · intro ds h
    rw [show Tryz.f5.params.size = 3 by kernel_rfl] at h
    match ds, h with
    | [_, _, _], _ => rfl
  · rw [show Tryz.f5.params.toList = [22, 3, 3] by kernel_rfl]
    exact ⟨lO, by kernel_rfl, of_decide_eq_true (by kernel_rfl), vR, by kernel_rfl, of_decide_eq_true (by kernel_rfl), vR, by kernel_rfl, of_decide_eq_true (by kernel_rfl), trivial⟩
  · rintro ps h
    obtain ⟨_, _, rfl, ⟨a0, rfl, h0, g0⟩, ⟨_, _, rfl, ⟨a1, rfl, h1⟩, ⟨_, _, rfl, ⟨a2, rfl, h2⟩, rfl⟩⟩⟩ := h
    exact EX a0 a1 a2 h0 g0 h1 h2
theorem z1 : (Rows.germStaysRow.inPlace == Tryz.pinned.checked.prog.inPlace 5) = true := by kernel_rfl
theorem z2 : (Rows.germStaysRow.unfollowed == Tryz.pinned.checked.prog.unfollowed 5) = true := by kernel_rfl
theorem z3 : (Rows.germStaysRow.recurses == Tryz.pinned.checked.prog.recurses 5) = true := by kernel_rfl
theorem z4 : (Rows.germStaysRow.named == Tryz.pinned.checked.prog.varsNamed 5) = true := by kernel_rfl
theorem closed : joinedFacts Tryz.pinned.checked.prog 5 Tryz.f5 Rows.germStaysSpec Rows.germStaysRow = true := by
  unfold joinedFacts
  rw [z1, z2, z3, z4]
  kernel_rfl
theorem proved : Rows.GermStaysSaid :=
  OpenClaim.holds_of_wide 5 Tryz.f5 rfl rfl rfl rfl rfl rfl rfl ⟨rfl, rfl, rfl, rfl, rfl⟩ rfl rfl rfl rfl rfl (by kernel_rfl) Tryz.func5 closed
    (of_decide_eq_true (by kernel_rfl)) (by unfold Func.isWrapper; first | (rw [if_pos (by decide +kernel)]; kernel_rfl) | (rw [if_neg (by decide +kernel)]; exact ⟨rfl, rfl⟩))
    (fun os started H enc _ => lifted os started H enc)
#print axioms proved
end Go.Proofs.YtelhfbikiccfkaaGreat.germStays
