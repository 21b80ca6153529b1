import Derived.Test.YtelhfbikiccfkaaGreatBah
import Derived.Test.YtelhfbikiccfkaaGreatBai
import Derived.Test.YtelhfbikiccfkaaGreatBaj
set_option linter.unusedSimpArgs false
set_option linter.unusedVariables false
namespace Go.Proofs.YtelhfbikiccfkaaGreat
open Go Pm
abbrev Y (x : Int) : Prop := sz 2 x < 549755813888
theorem Y.z {x : Int} (h : Y x) : Z x := by simp only [Y, Z] at *; omega
theorem CA {x y : Int} (h : Y y) (tM : x.natAbs ≤ y.natAbs) : Y x := Nat.lt_of_le_of_lt (cZ (by decide) tM) h
theorem yR {x y : Int} : dQ x y ≤ 0 ↔ x ≤ y := by simp only [dQ]; split <;> (try split) <;> omega
@[simp] theorem aoc {l : List Int} {x : Int} : [PV.int .i64 x] :: emap aF l = emap aF (x :: l) := by simp [emap]
@[simp] theorem afN {l : List Int} : (∀ e ∈ emap aF l, ∀ p ∈ e, cM p = true) = True := by simp [emap]
theorem W9 {l : List Int} (h : cR 10000 l) (k : Nat) (hk : k ≤ l.length) : V 10000 (l.drop k) ≤ V 10000 l := by
 rw [jV l k hk]
 have h1 := bN (by decide) (h.take k)
 have h2 := bN (by decide) (h.drop k)
 have h3 : 1 ≤ (10000 : Int) ^ k := Int.pow_pos (by decide)
 have h4 := Int.mul_le_mul_of_nonneg_right h3 h2
 omega
theorem LX (x y : Int) (hx : 0 ≤ x) (hy : 0 < y) (zx : Y x) (zy : Y y) : aG env.P 215 [Dn x, Dn y] (.fH [Dn (x / y), Dn (x % y)]) := by
 have hal : (aS DD x.toNat).length < 549755813888 := Nat.lt_of_le_of_lt (jX hx) zx
 have la := lV x.toNat
 have hVa := vL hx
 refine bV [(0, Dn x), (1, Dn y)] Tryz.func215 ?_
 simp only [Dn]
 generalize ha : aS DD x.toNat = a at *
 refine aA [0, 1] ?_
 refine aA [0, 1, 6] ?_
 refine aA [0, 1, 6, 7] ?_
 refine W.WO 7 (Dn 0) (by simp) rfl (fun K hK => ?_)
 refine W.lw [0, 1, 6, 7] hK ?_; clear hK K; simp
 refine aL [0, 1, 6, 7, 8] ?_
 refine W.block ?_
 refine W.bC (fun k σ => ∃ (r : Int) (z : List Int) (ver : Nat) (rows : Pm.Rows) (clk : Nat), σ = ⟨fa [(0, aI aF a), (1, Dn y), (6, .own 14 ver 0 a.length), (7, Dn r), (8, .int .i64 ((k : Int) - 1))], rows, clk⟩ ∧
  rows 14 = some ⟨ver, 3, 1, emap aF z⟩ ∧ k ≤ a.length ∧ z.length = a.length ∧ cR 10000 z ∧ 0 ≤ r ∧ r < y ∧ V 10000 (a.drop k) = y * V 10000 (z.drop k) + r) a.length ?_ ?_
 ·exact ⟨_, Gh.fr [(0, aI aF a), (1, Dn y), (6, .own 14 0 0 a.length), (7, Dn 0), (8, .int .i64 ((a.length : Int) - 1))] (by simp), 0, List.replicate a.length 0, _, _, _, rfl, by simp, by omega, by simp, cR.rep (by decide) _, by omega, hy, by simp [V]⟩
 rintro k _ ⟨r, z, ver, rows, clk, rfl, hr, hk, hz, lz, E5, tR, hV⟩
 refine aL [0, 1, 6, 7, 8, 19] ?_
 refine bE ?_ ?_ <;> intro h
 ·simp at h
  obtain ⟨j, rfl⟩ : ∃ j, k = j + 1 := ⟨k - 1, by omega⟩
  clear h
  have hxj := la.nth (i := j) (by omega)
  have hVz := bN (by decide) (lz.drop (j + 1))
  have hyV := Int.mul_nonneg (Int.le_of_lt hy) hVz
  have hR : V 10000 (a.drop j) = y * (10000 * V 10000 (z.drop (j + 1))) + (nth a j + 10000 * r) := by
   rw [fE (l := a) (i := j) (by omega)]; simp only [V]; rw [hV]; grind
  have hRx : nth a j + 10000 * r ≤ x := by
   have h1 := W9 la j (by omega)
   have h2 : 0 ≤ y * (10000 * V 10000 (z.drop (j + 1))) := Int.mul_nonneg (Int.le_of_lt hy) (by omega)
   omega
  have P3 : (aS DD r.toNat).length < 549755813888 := Nat.lt_of_le_of_lt (jX E5) (CA zy (by omega))
  have mW : aI aF (aN (nth a j :: aS DD r.toNat)) = Dn (nth a j + 10000 * r) := by
   rw [tU (cR.cons.2 ⟨hxj, lV _⟩)]
   simp only [V, vL E5]
  refine lG ?_
  refine iU ?_
  refine aD (oO (nth a j :: aS DD r.toNat) (by simp; omega)) ?_
  rw [mW]
  have KF : 0 ≤ nth a j + 10000 * r := by omega
  have hR1 : nth a j + 10000 * r < y * 10000 := by omega
  have zR : Y (nth a j + 10000 * r) := CA zx (by omega)
  generalize nth a j + 10000 * r = R at *
  simp (disch := omega) [gw]
  refine bH [0, 1, 6, 7, 8] ?_
  refine cS [0, 1, 6, 7, 8, 9, 10] ?_
  refine W.block ?_
  refine W.bC (fun m σ => ∃ (lo hi : Int), σ = ⟨fa [(0, aI aF a), (1, Dn y), (6, .own 14 ver 0 a.length), (7, Dn R), (8, .int .i64 (j : Int)), (9, .int .i64 lo), (10, .int .i64 hi)], rows, clk⟩ ∧
   m = (hi - lo).toNat ∧ 0 ≤ lo ∧ lo ≤ hi ∧ hi ≤ 9999 ∧ y * lo ≤ R ∧ R < y * (hi + 1)) 9999 ?_ ?_
  ·exact ⟨_, Gh.fr [(0, aI aF a), (1, Dn y), (6, .own 14 ver 0 a.length), (7, Dn R), (8, .int .i64 (j : Int)), (9, .int .i64 0), (10, .int .i64 9999)] (by simp), 0, 9999, rfl, by decide, by omega, by omega, by omega, by omega, by omega⟩
  rintro m _ ⟨lo, hi, rfl, hm, GW, hlh, VQ, h1, h2⟩
  refine aL [0, 1, 6, 7, 8, 9, 10, 32] ?_
  refine bE ?_ ?_ <;> intro h
  ·simp at h
   refine W.skip ?_
   refine W.block ?_
   refine aA [0, 1, 6, 7, 8, 9, 10, 11] ?_
   have FO : lo < (lo + hi + 1) / 2 := by omega
   have hm2 : (lo + hi + 1) / 2 ≤ hi := by omega
   generalize (lo + hi + 1) / 2 = H4 at *
   have hp : 0 ≤ y * H4 := Int.mul_nonneg (by omega) (by omega)
   have zp : Z (y * H4) := by
    have h3 : sz 2 H4 ≤ 14 := dD (by decide) (by simp; omega)
    have h4 := b9 (b := 2) (by decide) (Nat.le_refl (sz 2 y)) h3
    simp only [Z, Y] at *; omega
   have hma := qV y H4 0 (by omega) zy.z (by omega) (by omega) (by decide) (by decide)
   rw [Int.add_zero] at hma
   refine iU ?_
   refine bZ hma ?_
   refine cI [0, 1, 6, 7, 8, 9, 10, 11, 43] (LU (y * H4) R hp KF zp zR.z) ?_
   refine bE ?_ ?_ <;> intro h
   ·have h := yR.1 (of_decide_eq_true h)
    refine W.b8 (fun K hK => ?_); simp (disch := omega) [gw]
    exact hK _ ⟨(hi - H4).toNat, _, aB _ [0, 1, 6, 7, 8, 9, 10], by omega, H4, hi, rfl, rfl, by omega, by omega, by omega, h, h2⟩
   ·have h := of_decide_eq_false h
    rw [yR] at h
    refine W.b8 (fun K hK => ?_); simp (disch := omega) [gw]
    refine hK _ ⟨(H4 - 1 - lo).toNat, _, aB _ [0, 1, 6, 7, 8, 9, 10], by omega, lo, H4 - 1, rfl, rfl, by omega, by omega, by omega, h1, ?_⟩
    rw [show H4 - 1 + 1 = H4 by omega]; omega
  ·simp at h
   have awz : lo = hi := by omega
   subst awz
   have hp : 0 ≤ y * lo := Int.mul_nonneg (by omega) (by omega)
   have zp : Y (y * lo) := CA zR (by omega)
   have hma := qV y lo 0 (by omega) zy.z (by omega) (by omega) (by decide) (by decide)
   rw [Int.add_zero] at hma
   refine fB ?_
   refine W.sr ?_
   simp (disch := omega) [gw, hr]
   refine bH [0, 1, 6, 7, 8, 9] ?_
   refine W.b8 (fun K hK => ?_)
   simp (disch := omega) [gw]
   refine bZ hma ?_
   refine bZ (B8 R (y * lo) hp h1 zR.z) ?_
   refine W.lw [0, 1, 6, 7, 8] hK ?_; clear hK K; simp
   refine W.b8 (fun K hK => ?_); simp (disch := omega) [gw]
   refine hK _ ⟨j, _, aB _ [0, 1, 6, 7, 8], by omega, R - y * lo, z.set j lo, ver, _, _, rfl, by simp, by omega, by simpa using hz, lz.set (by omega), by omega, by rw [Int.mul_add] at h2; omega, ?_⟩
   rw [hR, fE (l := z.set j lo) (i := j) (by simp; omega), eK (by omega), List.drop_set_of_lt (by omega)]
   simp only [V]
   grind
 ·simp at h
  have B4 : k = 0 := by omega
  subst B4
  simp only [List.drop_zero] at hV
  have ez : z.take a.length = z := bJ hz
  have hzn := bN (by decide) lz
  rw [hVa] at hV
  have e1 : x / y = V 10000 z := by
   rw [hV, Int.mul_add_ediv_left _ _ (by omega), Int.ediv_eq_zero_of_lt E5 tR]; simp
  have e2 : x % y = r := by
   rw [hV, Int.mul_add_emod_self_left, Int.emod_eq_of_lt E5 tR]
  refine fB ?_
  refine W.sr ?_
  simp (disch := omega) [gw, hr, ez]
  refine aD (oO z (by omega)) ?_
  simp (disch := omega) [gw]
  refine bH [4, 5] ?_
  refine W.ret ?_
  have h4 := tU lz
  simp only [Dn] at h4
  rw [e1, e2, ← h4]
  simp [go]
theorem CB (a b : Int) (za : Y a) (zb : Y b) : aG env.P 142 [RI a, RI b] (RI (Int.gcd a b)) := by
 refine bV [(0, RI a), (1, RI b)] Tryz.func142 ?_
 refine aA [2, 3, 4] ?_
 refine oE ?_
 refine bH [4, 5, 6] ?_
 refine W.seq ?_
 refine W.block ?_
 refine W.bC (fun k σ => ∃ (x : Nat) (rows : Pm.Rows) (clk : Nat), σ = ⟨fa [(4, .ptr 4 2 0 0), (5, aI aF (aS DD x)), (6, aI aF (aS DD k))], rows, clk⟩ ∧ rows 4 = some ⟨2, 29, 2, [[.nil, .bool false]]⟩ ∧ Nat.gcd x k = Int.gcd a b ∧ Y (x : Int) ∧ Y (k : Int)) b.natAbs ?_ ?_
 ·exact ⟨_, .refl, a.natAbs, _, _, rfl, by simp, rfl, by simpa [Y, sz] using za, by simpa [Y, sz] using zb⟩
 rintro k _ ⟨x, rows, clk, rfl, iV, hg, zx, zk⟩
 have e0 : (aS DD k).length = 0 ↔ k = 0 := by rw [List.length_eq_zero_iff, eD N9]
 refine aL [4, 5, 6, 15] ?_
 refine bE ?_ ?_ <;> intro h
 ·have B4 : k ≠ 0 := by intro h0; have h1 := e0.2 h0; simp at h; omega
  have hdiv := LX (x : Int) (k : Int) (by omega) (by omega) zx zk
  have em : (((x : Int) % k).toNat) = x % k := by rw [← Int.natCast_emod]; exact Int.toNat_natCast _
  have ed : (((x : Int) / k).toNat) = x / k := by rw [← Int.natCast_ediv]; exact Int.toNat_natCast _
  simp only [Dn, em, ed, Int.toNat_natCast] at hdiv
  have cW := Nat.mod_lt x (show k > 0 by omega)
  have n4 : Nat.gcd k (x % k) = Int.gcd a b := by rw [← hg, Nat.gcd_comm x k, Nat.gcd_rec k x, Nat.gcd_comm]
  have zm : Y ((x % k : Nat) : Int) := CA zk (by simp only [Int.natAbs_natCast]; omega)
  refine W.skip ?_
  refine W.block ?_
  refine iU ?_
  refine aD hdiv ?_
  generalize x % k = y at *
  simp (disch := omega) [gw]
  refine bH [4, 6, 8] ?_
  refine W.b8 (fun K hK => ?_); simp (disch := omega) [gw]
  exact hK _ ⟨y, _, aB _ [4, 5, 6], cW, k, _, _, rfl, by simp [iV], n4, zk, zm⟩
 ·have B4 : k = 0 := by rw [← e0]; simp at h; simp [h]
  subst B4
  rw [Nat.gcd_zero_right] at hg
  subst hg
  refine fB ?_
  refine W.sr ?_
  simp (disch := omega) [gw, iV]
  refine bH [4] ?_
  exact bT
theorem QJ (a b : Int) : (if decide (a < 0) != decide (b < 0) then -((a.natAbs / b.natAbs : Nat) : Int) else ((a.natAbs / b.natAbs : Nat) : Int)) = a.tdiv b := by
 have h : ∀ x y : Nat, ((x / y : Nat) : Int) = (x : Int).tdiv y := fun x y => by rw [Int.natCast_ediv, Int.tdiv_eq_ediv_of_nonneg (by omega)]
 rw [h]
 by_cases h1 : a < 0 <;> by_cases h2 : b < 0
 ·simp only [h1, h2, show (a.natAbs : Int) = -a by omega, show (b.natAbs : Int) = -b by omega]; simp
 ·simp only [h1, h2, show (a.natAbs : Int) = -a by omega, show (b.natAbs : Int) = b by omega]; simp
 ·simp only [h1, h2, show (a.natAbs : Int) = a by omega, show (b.natAbs : Int) = -b by omega]; simp
 ·simp only [h1, h2, show (a.natAbs : Int) = a by omega, show (b.natAbs : Int) = b by omega]; simp
theorem vM (a b : Int) (hb : b ≠ 0) (za : Y a) (zb : Y b) : aG env.P 143 [RI a, RI b] (RI (a.tdiv b)) := by
 have hdiv := LX (a.natAbs : Int) (b.natAbs : Int) (by omega) (by omega) (by simpa [Y, sz] using za) (by simpa [Y, sz] using zb)
 have em : (((a.natAbs : Int) % b.natAbs).toNat) = a.natAbs % b.natAbs := by rw [← Int.natCast_emod]; exact Int.toNat_natCast _
 have ed : (((a.natAbs : Int) / b.natAbs).toNat) = a.natAbs / b.natAbs := by rw [← Int.natCast_ediv]; exact Int.toNat_natCast _
 have hs := QJ a b
 refine bV [(0, RI a), (1, RI b)] Tryz.func143 ?_
 refine aA [2, 3, 4] ?_
 simp only [Dn, em, ed, Int.toNat_natCast] at hdiv
 generalize a.natAbs / b.natAbs = q at *
 generalize a.natAbs % b.natAbs = r at *
 refine aK [2, 3, 4, 5] hdiv ?_
 refine iU ?_
 refine aD (mP q (decide (a < 0) != decide (b < 0))) ?_
 rw [hs]
 simp (disch := omega) [gw]
 refine bH [4] ?_
 exact bT
def re (q : Rat) : List PV := [aI aF (aS DD q.num.natAbs), .bool (decide (q.num < 0)), aI aF (aS DD q.den), .bool false]
@[simp] theorem awA {q : Rat} : re q = [aI aF (aS DD q.num.natAbs), .bool (decide (q.num < 0)), aI aF (aS DD q.den), .bool false] := rfl
abbrev RR (q : Rat) : PV := .ag (re q)
def dE (n d : Int) : Rat := if d = 0 then n else Rat.divInt n d
theorem k8 (n : Int) : dE n 1 = n := by
 rw [dE, if_neg (by decide), Rat.divInt_eq_div]
 grind
structure ZR (k : Nat) (q : Rat) : Prop where
 n : sz 2 q.num ≤ k
 d : sz 2 (q.den : Int) ≤ k
abbrev YY : Nat := 137438953472
theorem pD (n d : Int) (hd : d ≠ 0) : (dE n d).num = (if d < 0 then -n else n) / (Int.gcd (if d < 0 then -n else n) (if d < 0 then -d else d)) := by
 rw [dE, if_neg hd, Rat.num_divInt]
 by_cases h : d < 0
 ·simp only [h, if_true]
  rw [Int.sign_eq_neg_one_of_neg h, Int.gcd_comm d n, Int.neg_gcd, Int.gcd_neg]; simp
 ·simp only [h, if_false]
  rw [Int.sign_eq_one_of_pos (by omega), Int.gcd_comm d n]; simp
theorem pE (n d : Int) (hd : d ≠ 0) : ((dE n d).den : Int) = (if d < 0 then -d else d) / (Int.gcd (if d < 0 then -n else n) (if d < 0 then -d else d)) := by
 rw [dE, if_neg hd, Rat.den_divInt, if_neg hd]
 by_cases h : d < 0
 ·simp only [h, if_true]
  rw [Int.gcd_comm d n, Int.neg_gcd, Int.gcd_neg]
  rw [Int.natCast_ediv]; congr 1; omega
 ·simp only [h, if_false]
  rw [Int.gcd_comm d n, Int.natCast_ediv]; congr 1; omega
theorem CC {q : Rat} {n d : Int} (h1 : q.num = n) (h2 : (q.den : Int) = d) : RR q = .ag [aI aF (aS DD n.natAbs), .bool (decide (n < 0)), aI aF (aS DD d.natAbs), .bool (decide (d < 0))] := by
 subst h1; subst h2
 have : ¬ ((q.den : Int) < 0) := by omega
 simp [this]
theorem lK (n d : Int) (zn : Y n) (zd : Y d) : aG env.P 64 [RI n, RI d] (RR (dE n d)) := by
 refine cT (E := env) (fun id => if id = 4 then 2 else 0) [(0, RI n), (1, RI d)] Tryz.func64 rfl (by kernel_rfl) (by kernel_rfl) (show 2 ≤ 39 by decide) (by simp) ?_
 refine aA [2, 3, 4] ?_
 refine W.gS (fun σ => ∃ (d1 : Int) (rows : Pm.Rows) (clk : Nat), σ = ⟨fa [(2, .ptr 2 0 0 0), (3, .ptr 3 1 0 0), (4, .ptr 4 2 0 0)], rows, clk⟩ ∧ rows 2 = some ⟨0, 29, 2, [[aI aF (aS DD n.natAbs), .bool (decide (n < 0))]]⟩ ∧
  rows 3 = some ⟨1, 29, 2, [[aI aF (aS DD d1.natAbs), .bool (decide (d1 < 0))]]⟩ ∧ rows 4 = some ⟨2, 31, 4, [[.nil, .bool false, .nil, .bool false]]⟩ ∧ d1 ≠ 0 ∧ dE n d = dE n d1 ∧ Y d1) ?_ ?_
 ·
  refine aK [2, 3, 4, 7] (FT d) ?_
  refine bE ?_ ?_ <;> intro h
  ·have h := of_decide_eq_true h
   subst h
   refine W.b8 (fun K hK => ?_)
   simp (disch := omega) [gw]
   refine aD (pC 1 (by decide) (by decide)) ?_
   simp (disch := omega) [gw]
   refine hK _ ⟨_, aB _ [2, 3, 4], 1, _, _, rfl, by simp, by simp, by simp, by decide, by rw [k8]; simp [dE], ?_⟩
   have : sz 2 1 ≤ 1 := dD (by decide) (by decide)
   simp only [Y]; omega
  ·have h := of_decide_eq_false h
   refine W.skip ?_
   exact ⟨_, aB _ [2, 3, 4], d, _, _, rfl, by simp, by simp, by simp, h, rfl, zd⟩
 rintro _ ⟨d1, rows, clk, rfl, dP, fC, iV, H2, hq, zd1⟩
 rw [hq]
 have q1 := pD n d1 H2
 have q2 := pE n d1 H2
 generalize dE n d1 = q at *
 clear hq zd d
 refine W.gS (fun σ => ∃ (n2 d2 : Int) (rows : Pm.Rows) (clk : Nat), σ = ⟨fa [(2, .ptr 2 0 0 0), (3, .ptr 3 1 0 0), (4, .ptr 4 2 0 0)], rows, clk⟩ ∧ rows 2 = some ⟨0, 29, 2, [[aI aF (aS DD n2.natAbs), .bool (decide (n2 < 0))]]⟩ ∧
  rows 3 = some ⟨1, 29, 2, [[aI aF (aS DD d2.natAbs), .bool (decide (d2 < 0))]]⟩ ∧ rows 4 = some ⟨2, 31, 4, [[.nil, .bool false, .nil, .bool false]]⟩ ∧ 0 < d2 ∧ q.num = n2 / Int.gcd n2 d2 ∧ (q.den : Int) = d2 / Int.gcd n2 d2 ∧ Y n2 ∧ Y d2) ?_ ?_
 ·
  refine W.sr ?_
  simp (disch := omega) [gw, fC]
  refine bH [2, 3, 4, 10] ?_
  refine bE ?_ ?_ <;> intro h
  ·have h := of_decide_eq_true h
   simp only [h, if_true] at q1 q2
   have hn := qX n
   have hd := qX d1
   have zn2 : Y (-n) := by simpa [Y, o7] using zn
   have zd2 : Y (-d1) := by simpa [Y, o7] using zd1
   obtain ⟨n2, hn2⟩ : ∃ m, m = -n := ⟨_, rfl⟩
   obtain ⟨d2, O1⟩ : ∃ m, m = -d1 := ⟨_, rfl⟩
   rw [← hn2] at hn zn2 q1 q2
   rw [← O1] at hd zd2 q1 q2
   refine W.N7 (fun K hK => ?_)
   rw [if_pos rfl, eJ]
   simp (disch := omega) [gw, dP]
   refine aD hn ?_
   simp (disch := omega) [gw, dP, fC]
   refine aD hd ?_
   simp (disch := omega) [gw, dP, fC]
   exact hK _ ⟨_, aB _ [2, 3, 4], n2, d2, _, _, rfl, by simp, by simp, by simp [iV], by omega, q1, q2, zn2, zd2⟩
  ·have h := of_decide_eq_false h
   simp only [h, if_false] at q1 q2
   refine W.skip ?_
   exact ⟨_, aB _ [2, 3, 4], n, d1, _, _, rfl, dP, fC, iV, by omega, q1, q2, zn, zd1⟩
 clear dP fC iV q1 q2
 rintro _ ⟨n2, d2, rows, clk, rfl, dP, fC, iV, h0, q1, q2, zn2, zd2⟩
 refine W.seq ?_
 refine W.gM (fun σ => ∃ (b : Bool), σ = ⟨fa [(2, .ptr 2 0 0 0), (3, .ptr 3 1 0 0), (4, .ptr 4 2 0 0), (25, .bool b)], rows, clk⟩ ∧ (b = true ↔ (aS DD d2.natAbs).length = 1 ∧ nth (aS DD d2.natAbs) 0 = 1)) (fun K hK => ?_) ?_
 ·by_cases h1 : (aS DD d2.natAbs).length = 1
  ·have h2 : ((aS DD d2.natAbs).length : Int) = 1 := by omega
   simp (disch := omega) [gw, fC, h1, h2]
   exact hK _ _ (aB _ [2, 3, 4, 25]) ⟨_, rfl, by simp [h1]⟩
  ·have h2 : ¬ ((aS DD d2.natAbs).length : Int) = 1 := by omega
   have h3 : (((aS DD d2.natAbs).length : Int) == 1) = false := by simpa using h2
   simp (disch := omega) [gw, fC, h3]
   exact hK _ _ (aB _ [2, 3, 4, 25]) ⟨_, rfl, by simp [h1, h2]⟩
 rintro _ ⟨b, rfl, hb⟩
 refine bE ?_ ?_ <;> intro h
 ·have hb := hb.1 h
  have O1 : d2 = 1 := by
   have hv := ard d2
   obtain ⟨h1, h2⟩ := hb
   match hl : aS DD d2.natAbs, h1 with
   | [x], _ =>
    rw [hl] at h2 hv
    simp [nth, V] at h2 hv
    omega
  subst O1
  rw [Int.gcd_one] at q1 q2
  rw [CC (n := n2) (d := 1) (by simpa using q1) (by simpa using q2)]
  refine W.sr ?_
  simp (disch := omega) [gw, dP, fC, iV]
  refine bH [4] ?_
  exact bT
 ·refine W.skip ?_
  have hgp : 0 < Int.gcd n2 d2 := Int.gcd_pos_of_ne_zero_right _ (by omega)
  have e1 : n2.tdiv (Int.gcd n2 d2) = q.num := by rw [q1]; exact Int.tdiv_eq_ediv_of_dvd (Int.gcd_dvd_left ..)
  have e2 : d2.tdiv (Int.gcd n2 d2) = q.den := by rw [q2]; exact Int.tdiv_eq_ediv_of_dvd (Int.gcd_dvd_right ..)
  have zg : Y (Int.gcd n2 d2 : Int) := CA zd2 (by
   have := Int.le_of_dvd h0 (Int.gcd_dvd_right n2 d2); omega)
  have hq1 := vM n2 (Int.gcd n2 d2) (by omega) zn2 zg
  have hq2 := vM d2 (Int.gcd n2 d2) (by omega) zd2 zg
  rw [e1] at hq1
  rw [e2] at hq2
  have hg := CB n2 d2 zn2 zd2
  obtain ⟨g, hgd⟩ : ∃ g : Int, g = Int.gcd n2 d2 := ⟨_, rfl⟩
  rw [← hgd] at hg hq1 hq2
  have hnn : ¬ ((q.den : Int) < 0) := by omega
  refine W.sr ?_
  simp (disch := omega) [gw, dP, fC]
  refine aD hg ?_
  simp (disch := omega) [gw, dP, fC]
  refine bH [2, 3, 4, 5] ?_
  refine W.sd ?_
  simp (disch := omega) [gw, dP, fC]
  refine aD hq1 ?_
  simp (disch := omega) [gw, dP, fC]
  refine aD hq2 ?_
  simp (disch := omega) [gw, dP, fC, iV]
  refine bH [4] ?_
  refine W.ret ?_
  simp [go, hnn]
theorem pF (n d : Int) (h1 : -9223372036854775808 ≤ n ∧ n < 9223372036854775808) (h2 : -9223372036854775808 ≤ d ∧ d < 9223372036854775808) : aG env.P 13 [.int .i64 n, .int .i64 d] (RR (dE n d)) := by
 have z : ∀ x : Int, -9223372036854775808 ≤ x ∧ x < 9223372036854775808 → Y x := fun x hx => by
  have : sz 2 x ≤ 64 := dD (by decide) (by omega)
  simp only [Y]; omega
 have hm := lK n d (z n h1) (z d h2)
 generalize dE n d = q at *
 refine bV [(0, .int .i64 n), (1, .int .i64 d)] Tryz.func13 ?_
 refine aA [0, 1, 4] ?_
 refine iU ?_
 refine bZ (pC n h1.1 h1.2) ?_
 refine bZ (pC d h2.1 h2.2) ?_
 refine cI [4] hm ?_
 exact bT
theorem CD (q : Rat) : aG env.P 125 [RR q] (RR (-q)) := by
 have hn := qX q.num
 have e : RR (-q) = .ag [aI aF (aS DD (-q.num).natAbs), .bool (decide (-q.num < 0)), aI aF (aS DD q.den), .bool false] := rfl
 rw [e]
 generalize -q.num = m at *
 refine bV [(0, RR q)] Tryz.func125 ?_
 refine aA [1, 2] ?_
 refine oE ?_
 refine cI [2] hn ?_
 exact bT
theorem afO (p q : Rat) : dE (p.num * q.den + q.num * p.den) ((p.den : Int) * q.den) = p + q := by
 have h : ((p.den : Int) * q.den) ≠ 0 := by have := p.den_nz; have := q.den_nz; simp [Int.mul_eq_zero]; omega
 rw [dE, if_neg h, Rat.add_def', ← Int.natCast_mul, Rat.divInt_ofNat]
theorem afP (p q : Rat) : dE (p.num * q.num) ((p.den : Int) * q.den) = p * q := by
 have h : ((p.den : Int) * q.den) ≠ 0 := by have := p.den_nz; have := q.den_nz; simp [Int.mul_eq_zero]; omega
 rw [dE, if_neg h, Rat.mul_def', ← Int.natCast_mul, Rat.divInt_ofNat]
theorem afQ (p q : Rat) (hq : q ≠ 0) : dE (p.num * q.den) ((p.den : Int) * q.num) = p / q := by
 have hn : q.num ≠ 0 := fun h => hq (Rat.num_eq_zero.1 h)
 have h : ((p.den : Int) * q.num) ≠ 0 := by have := p.den_nz; exact Int.mul_ne_zero (by omega) hn
 rw [dE, if_neg h, Rat.div_def, Rat.inv_def, ← Rat.divInt_mul_divInt, Rat.num_divInt_den]
theorem vN (p q : Rat) (hp : ZR YY p) (hq : ZR YY q) : aG env.P 100 [RR p, RR q] (RR (p + q)) := by
 have s1 := b9 (b := 2) (by decide) hp.n hq.d
 have s2 := b9 (b := 2) (by decide) hq.n hp.d
 have s3 := b9 (b := 2) (by decide) hp.d hq.d
 have s4 := n7 (b := 2) (by decide) s1 s2
 have zz : ∀ {x : Int}, sz 2 x ≤ YY → Z x := fun h => by simp only [Z, YY] at *; omega
 have m1 := eH p.num q.den (zz hp.n) (zz hq.d)
 have m2 := eH q.num p.den (zz hq.n) (zz hp.d)
 have m3 := eH p.den q.den (zz hp.d) (zz hq.d)
 have m4 := B9 (p.num * q.den) (q.num * p.den) (by simp only [Z, YY] at *; omega) (by simp only [Z, YY] at *; omega)
 have m5 := lK (p.num * q.den + q.num * p.den) ((p.den : Int) * q.den) (by simp only [Y, YY] at *; omega) (by simp only [Y, YY] at *; omega)
 rw [afO] at m5
 generalize p.num * q.den + q.num * p.den = x5 at *
 generalize p.num * q.den = x1 at *
 generalize q.num * (p.den : Int) = x2 at *
 generalize (p.den : Int) * q.den = x3 at *
 generalize hr : p + q = r at *
 have d1 : RR p = .ag [aI aF (aS DD p.num.natAbs), .bool (decide (p.num < 0)), aI aF (aS DD (p.den : Int).natAbs), .bool (decide ((p.den : Int) < 0))] := CC rfl rfl
 have d2 : RR q = .ag [aI aF (aS DD q.num.natAbs), .bool (decide (q.num < 0)), aI aF (aS DD (q.den : Int).natAbs), .bool (decide ((q.den : Int) < 0))] := CC rfl rfl
 rw [d1, d2]
 generalize (p.den : Int) = pd at *
 generalize (q.den : Int) = qd at *
 generalize p.num = pn at *
 generalize q.num = qn at *
 refine bV [(0, .ag [aI aF (aS DD pn.natAbs), .bool (decide (pn < 0)), aI aF (aS DD pd.natAbs), .bool (decide (pd < 0))]), (1, .ag [aI aF (aS DD qn.natAbs), .bool (decide (qn < 0)), aI aF (aS DD qd.natAbs), .bool (decide (qd < 0))])] Tryz.func100 ?_
 refine aA [2, 3, 4] ?_
 refine oE ?_
 refine bZ m1 ?_
 refine bZ m2 ?_
 refine bZ m4 ?_
 refine bZ m3 ?_
 refine cI [4] m5 ?_
 exact bT
theorem CE (p q : Rat) (hp : ZR YY p) (hq : ZR YY q) : aG env.P 101 [RR p, RR q] (RR (p * q)) := by
 have s1 := b9 (b := 2) (by decide) hp.n hq.n
 have s2 := b9 (b := 2) (by decide) hp.d hq.d
 have zz : ∀ {x : Int}, sz 2 x ≤ YY → Z x := fun h => by simp only [Z, YY] at *; omega
 have m1 := eH p.num q.num (zz hp.n) (zz hq.n)
 have m2 := eH p.den q.den (zz hp.d) (zz hq.d)
 have m5 := lK (p.num * q.num) ((p.den : Int) * q.den) (by simp only [Y, YY] at *; omega) (by simp only [Y, YY] at *; omega)
 rw [afP] at m5
 generalize p.num * (q.num : Int) = x1 at *
 generalize (p.den : Int) * q.den = x2 at *
 generalize hr : p * q = r at *
 have d1 : RR p = .ag [aI aF (aS DD p.num.natAbs), .bool (decide (p.num < 0)), aI aF (aS DD (p.den : Int).natAbs), .bool (decide ((p.den : Int) < 0))] := CC rfl rfl
 have d2 : RR q = .ag [aI aF (aS DD q.num.natAbs), .bool (decide (q.num < 0)), aI aF (aS DD (q.den : Int).natAbs), .bool (decide ((q.den : Int) < 0))] := CC rfl rfl
 rw [d1, d2]
 generalize (p.den : Int) = pd at *
 generalize (q.den : Int) = qd at *
 generalize p.num = pn at *
 generalize q.num = qn at *
 refine bV [(0, .ag [aI aF (aS DD pn.natAbs), .bool (decide (pn < 0)), aI aF (aS DD pd.natAbs), .bool (decide (pd < 0))]), (1, .ag [aI aF (aS DD qn.natAbs), .bool (decide (qn < 0)), aI aF (aS DD qd.natAbs), .bool (decide (qd < 0))])] Tryz.func101 ?_
 refine aA [2, 3, 4] ?_
 refine oE ?_
 refine bZ m1 ?_
 refine bZ m2 ?_
 refine cI [4] m5 ?_
 exact bT
theorem CF (p q : Rat) (hp : ZR YY p) (hq : ZR YY q) (h0 : q ≠ 0) : aG env.P 231 [RR p, RR q] (RR (p / q)) := by
 have s1 := b9 (b := 2) (by decide) hp.n hq.d
 have s2 := b9 (b := 2) (by decide) hp.d hq.n
 have zz : ∀ {x : Int}, sz 2 x ≤ YY → Z x := fun h => by simp only [Z, YY] at *; omega
 have m1 := eH p.num q.den (zz hp.n) (zz hq.d)
 have m2 := eH p.den q.num (zz hp.d) (zz hq.n)
 have m5 := lK (p.num * q.den) ((p.den : Int) * q.num) (by simp only [Y, YY] at *; omega) (by simp only [Y, YY] at *; omega)
 rw [afQ p q h0] at m5
 generalize p.num * (q.den : Int) = x1 at *
 generalize (p.den : Int) * q.num = x2 at *
 generalize hr : p / q = r at *
 have d1 : RR p = .ag [aI aF (aS DD p.num.natAbs), .bool (decide (p.num < 0)), aI aF (aS DD (p.den : Int).natAbs), .bool (decide ((p.den : Int) < 0))] := CC rfl rfl
 have d2 : RR q = .ag [aI aF (aS DD q.num.natAbs), .bool (decide (q.num < 0)), aI aF (aS DD (q.den : Int).natAbs), .bool (decide ((q.den : Int) < 0))] := CC rfl rfl
 rw [d1, d2]
 generalize (p.den : Int) = pd at *
 generalize (q.den : Int) = qd at *
 generalize p.num = pn at *
 generalize q.num = qn at *
 refine bV [(0, .ag [aI aF (aS DD pn.natAbs), .bool (decide (pn < 0)), aI aF (aS DD pd.natAbs), .bool (decide (pd < 0))]), (1, .ag [aI aF (aS DD qn.natAbs), .bool (decide (qn < 0)), aI aF (aS DD qd.natAbs), .bool (decide (qd < 0))])] Tryz.func231 ?_
 refine aA [2, 3, 4] ?_
 refine oE ?_
 refine bZ m1 ?_
 refine bZ m2 ?_
 refine cI [4] m5 ?_
 exact bT
theorem LY : aG env.P 99 [] (RR 0) := by
 have h := pF 0 1 (by decide) (by decide)
 rw [k8] at h
 refine bV [] Tryz.func99 ?_
 refine aA [0] ?_
 refine aK [0] h ?_
 exact bT
def mX : List Rat → List Rat
 | [] => []
 | x :: l => if mX l = [] ∧ x = 0 then [] else x :: mX l
theorem FV : ∀ l : List Rat, mX (l ++ [0]) = mX l
 | [] => by simp [mX]
 | x :: l => by simp [mX, FV l]
theorem TN {x : Rat} (h : x ≠ 0) : ∀ l : List Rat, mX (l ++ [x]) = l ++ [x]
 | [] => by
  show mX [x] = [x]
  rw [mX, if_neg (fun hh => h hh.2)]; rfl
 | y :: l => by
  have ih := TN h l
  have hn : ¬ (l ++ [x] = [] ∧ y = 0) := by simp
  show mX (y :: (l ++ [x])) = y :: (l ++ [x])
  rw [mX, ih, if_neg hn]
abbrev qs (x : List Int) : List Rat := x.map fun (c : Int) => (c : Rat)
theorem vO : ∀ x : List Int, mX (qs x) = qs (aN x)
 | [] => rfl
 | a :: x => by
  have ih := vO x
  simp only [qs, List.map_cons] at ih ⊢
  rw [mX, ih, aN]
  by_cases h : aN x = [] ∧ a = 0
  ·simp [h]
  ·rw [if_neg h, if_neg (by simpa using h)]; simp
@[simp] theorem aog {l : List Rat} : bF 4 (emap re l) = True := dG fun _ => rfl
@[simp] theorem alv {v e n : Nat} {l : List Rat} : dC (some ⟨v, e, n, emap re l⟩) = True := cY fun _ => rfl
abbrev PP (l : List Rat) : PV := aI re l
theorem vP (l : List Rat) (hl : l.length < 17592186044416) : aG env.P 102 [PP l] (PP (mX l)) := by
 refine bV [(0, PP l)] Tryz.func102 ?_
 refine aA [0] ?_
 refine aA [0, 3] ?_
 refine W.seq (W.block ?_)
 refine W.bC (fun k σ => ∃ (rows : Pm.Rows) (clk : Nat), σ = ⟨fa [(0, PP l), (3, .int .i64 (k : Int))], rows, clk⟩ ∧ k ≤ l.length ∧ mX l = mX (l.take k)) l.length ?_ ?_
 ·exact ⟨_, .refl, _, _, rfl, by omega, by simp⟩
 rintro k _ ⟨rows, clk, rfl, hk, hc⟩
 refine W.seq ?_
 refine W.gM (fun σ => ∃ (b : Bool), σ = ⟨fa [(0, PP l), (3, .int .i64 (k : Int)), (16, .bool b)], rows, clk⟩ ∧ (b = true ↔ 0 < k ∧ nth l (k - 1) = 0)) (fun K hK => ?_) ?_
 ·simp
  by_cases h0 : 0 < k
  ·simp (disch := omega) [gw, h0]
   refine aD (FT (nth l (k - 1)).num) ?_
   simp (disch := omega) [gw, h0]
   refine hK _ _ (aB _ [0, 3, 16]) ⟨_, rfl, ?_⟩
   simp [h0, Rat.num_eq_zero]
  ·simp (disch := omega) [gw, h0]
   exact hK _ _ (aB _ [0, 3, 16]) ⟨_, rfl, by simp [h0]⟩
 rintro _ ⟨b, rfl, hb⟩
 refine bE ?_ ?_ <;> intro h
 ·obtain ⟨h0, h1⟩ := hb.1 h
  refine W.skip (W.block ?_)
  refine W.b8 (fun K hK => ?_)
  simp (disch := omega) [gw]
  refine hK _ ⟨k - 1, _, Gh.fr [(0, _), (3, .int .i64 ((k - 1 : Nat) : Int))] (by simp; omega), by omega, _, _, rfl, by omega, ?_⟩
  rw [hc, show k = (k - 1) + 1 by omega, bA (by omega), h1, FV]
  simp
 ·have h2 : mX l = l.take k := by
   rw [hc]
   by_cases h0 : 0 < k
   ·have h1 : nth l (k - 1) ≠ 0 := fun h1 => by simp [hb.2 ⟨h0, h1⟩] at h
    rw [show k = (k - 1) + 1 by omega, bA (by omega)]
    exact TN h1 _
   ·have : k = 0 := by omega
    subst this; simp [mX]
  refine fB ?_
  refine aA [2] ?_
  refine W.ret ?_
  simp [h2]
def ri (x : Int) : List PV := [aI aF (aS DD x.natAbs), .bool (decide (x < 0)), aI aF (aS DD 1), .bool false]
@[simp] theorem abC {x : Int} : ri x = [aI aF (aS DD x.natAbs), .bool (decide (x < 0)), aI aF (aS DD 1), .bool false] := rfl
theorem fO (x : Int) : re (x : Rat) = ri x := by
 simp only [re, ri, Rat.num_intCast, Rat.den_intCast]
 congr
theorem pS (x : List Int) : PP (qs x) = aI ri x := by simp only [PP, aI, emap, qs, List.map_map, Function.comp_def, fO]
abbrev PI (x : List Int) : PV := aI ri x
@[simp] theorem aoh {l : List Int} : bF 4 (emap ri l) = True := dG fun _ => rfl
@[simp] theorem alw {v e n : Nat} {l : List Int} : dC (some ⟨v, e, n, emap ri l⟩) = True := cY fun _ => rfl
@[simp] theorem awB {l : List Int} {x : Int} : emap ri l ++ [[aI aF (aS DD x.natAbs), .bool (decide (x < 0)), aI aF (aS DD 1), .bool false]] = emap ri (l ++ [x]) := by simp [emap]
@[simp] theorem awC {l : List Rat} {q : Rat} : emap re l ++ [[aI aF (aS DD q.num.natAbs), .bool (decide (q.num < 0)), aI aF (aS DD q.den), .bool false]] = emap re (l ++ [q]) := by simp [emap]
@[simp] theorem aru {l : List Int} {i : Nat} {x : Int} : iK (emap ri l) i 0 [aI aF (aS DD x.natAbs), .bool (decide (x < 0)), aI aF (aS DD 1), .bool false] = emap ri (l.set i x) := zU (n := 4) (fun _ => rfl)
theorem rZ (l : List Int) (hl : l.length < 17592186044416) : aG env.P 102 [PI l] (PI (aN l)) := by
 have := vP (qs l) (by simpa using hl)
 rwa [vO, pS, pS] at this
theorem XA (n : Int) (zn : Y n) : aG env.P 64 [RI n, RI 1] (.ag (ri n)) := by
 have := lK n 1 zn (by have : sz 2 1 ≤ 1 := dD (by decide) (by decide); simp only [Y]; omega)
 rwa [k8, RR, fO] at this
theorem oP : aG env.P 99 [] (.ag (ri 0)) := by
 have := LY
 rwa [RR, show (0 : Rat) = ((0 : Int) : Rat) by simp, fO] at this
theorem LZ (n : Int) (h1 : -9223372036854775808 ≤ n ∧ n < 9223372036854775808) : aG env.P 13 [.int .i64 n, .int .i64 1] (.ag (ri n)) := by
 have := pF n 1 h1 (by decide)
 rwa [k8, RR, fO] at this
theorem oA {x : Int} {k : Nat} (h : sz 2 x ≤ k) (h1 : 1 ≤ k) : ZR k (x : Rat) := ⟨by simpa using h, by simp; exact Nat.le_trans (dD (by decide) (by decide)) h1⟩
theorem XB (x y : Int) (hx : sz 2 x ≤ YY) (hy : sz 2 y ≤ YY) : aG env.P 100 [.ag (ri x), .ag (ri y)] (.ag (ri (x + y))) := by
 have := vN x y (oA hx (by decide)) (oA hy (by decide))
 rwa [← Rat.intCast_add, RR, RR, RR, fO, fO, fO] at this
theorem FW (x y : Int) (hx : sz 2 x ≤ YY) (hy : sz 2 y ≤ YY) : aG env.P 101 [.ag (ri x), .ag (ri y)] (.ag (ri (x * y))) := by
 have := CE x y (oA hx (by decide)) (oA hy (by decide))
 rwa [← Rat.intCast_mul, RR, RR, RR, fO, fO, fO] at this
theorem vQ (l : List Int) (hl : l.length < 1099511627776) (hb : ∀ x ∈ l, -9223372036854775808 ≤ x ∧ x < 9223372036854775808) : aG env.P 96 [aI aF l] (PI (aN l)) := by
 refine bV [(0, aI aF l)] Tryz.func96 ?_
 refine aA [0] ?_
 refine aA [0, 3] ?_
 refine W.nil 3 3 31 4 (by simp) (by decide) (fun K hK => ?_)
 refine W.lw [0, 3] hK ?_; clear hK K; simp
 refine aL [0, 3, 6, 7] ?_
 refine W.block ?_
 refine W.bC (fun k σ => ∃ (i ver : Nat) (rows : Pm.Rows) (clk : Nat), σ = ⟨fa [(0, aI aF l), (3, .own 3 ver 0 i), (6, .int .i64 l.length), (7, .int .i64 i)], rows, clk⟩ ∧ rows 3 = some ⟨ver, 31, 4, emap ri (l.take i)⟩ ∧ k = l.length - i ∧ i ≤ l.length) l.length ?_ ?_
 ·exact ⟨_, .refl, 0, _, _, _, rfl, by simp [emap], by omega, by omega⟩
 rintro k _ ⟨i, ver, rows, clk, rfl, hr, hk, hi⟩
 refine cS [0, 3, 6, 7, 8] ?_
 refine W.cond ⟨_, rfl, fun h0 => ?_, fun h0 => ?_⟩
 ·simp at h0
  have fX : (l.take i).length = i := by simp; omega
  refine lG ?_
  refine aA [0, 3, 4, 6, 7] ?_
  refine W.b8 (fun K hK => ?_)
  simp (disch := omega) [gw]
  refine aD (LZ (nth l i) (hb _ (bU h0))) ?_
  simp (disch := omega) [gw, hr, fX]
  refine W.lw [0, 3, 6, 7] hK ?_; clear hK K; simp
  refine W.b8 (fun K hK => ?_); simp (disch := omega) [gw]
  refine hK _ ⟨l.length - (i + 1), _, aB _ [0, 3, 6, 7], by omega, i + 1, _, _, _, rfl, ?_, by omega, by omega⟩
  rw [bA h0]
  simp
 ·simp at h0
  have l6 : i = l.length := by omega
  subst l6
  refine fB ?_
  refine W.sr ?_
  simp (disch := omega) [gw, hr]
  refine aD (rZ l (by omega)) ?_
  simp (disch := omega) [gw]
  refine bH [2] ?_
  exact bT
structure XC (l : List Rat) : Prop where
 ok : ∀ q ∈ l, ZR YY q
 len : l.length < 1099511627776
theorem afR (k : Nat) (hk : 1 ≤ k) : ZR k 0 := ⟨by show sz 2 0 ≤ k; rw [jW]; omega, by show sz 2 1 ≤ k; exact Nat.le_trans (dD (by decide) (by decide)) hk⟩
theorem XC.nth {l : List Rat} (h : XC l) (i : Nat) : ZR YY (nth l i) := by
 by_cases hi : i < l.length
 ·exact h.ok _ (bU hi)
 ·rw [gX (by omega)]; exact afR _ (by decide)
theorem XC.qs {x : List Int} (h : ∀ c ∈ x, sz 2 c ≤ YY) (hl : x.length < 1099511627776) : XC (qs x) := ⟨fun q hq => by
 simp only [List.mem_map] at hq
 obtain ⟨c, hc, rfl⟩ := hq
 exact oA (h c hc) (by decide), by simpa using hl⟩
@[simp] theorem alx {l : List Rat} : (∀ e ∈ emap re l, ∀ p ∈ e, cM p = true) = True := by simp [emap]
theorem TO (l : List Rat) (i : Nat) (hi : i < 9223372036854775808) : aG env.P 250 [PP l, .int .i64 i] (RR (nth l i)) := by
 have hzero := LY
 refine bV [(0, PP l), (1, .int .i64 i)] Tryz.func250 ?_
 refine cS [0, 1, 4] ?_
 refine W.gM (fun σ => ∃ (b : Bool) (rows : Pm.Rows) (clk : Nat), σ = ⟨fa [(0, PP l), (1, .int .i64 i), (4, .ptr 4 0 0 0), (12, .bool b)], rows, clk⟩ ∧ (b = true ↔ l.length ≤ i) ∧ rows 4 = some ⟨0, 31, 4, [[.nil, .bool false, .nil, .bool false]]⟩) (fun K hK => ?_) ?_
 ·have hn : ¬ ((i : Int) < 0) := by omega
  simp (disch := omega) [gw, hn]
  exact hK _ _ (aB _ [0, 1, 4, 12]) ⟨_, _, _, rfl, by simp, by simp⟩
 rintro _ ⟨b, rows, clk, rfl, hb, iV⟩
 refine bE ?_ ?_ <;> intro h
 ·have hb := hb.1 h
  have e : nth l i = 0 := gX hb
  rw [e]
  generalize (0 : Rat) = z at *
  refine iU ?_
  refine aD hzero ?_
  simp (disch := omega) [gw, iV]
  refine bH [4] ?_
  exact bT
 ·have hb : i < l.length := Nat.lt_of_not_le fun h2 => by simp [hb.2 h2] at h
  refine W.skip ?_
  refine W.sr ?_
  simp (disch := omega) [gw, iV]
  refine bH [4] ?_
  exact bT
def abD (a b : List Rat) : List Rat := mX ((List.range (max a.length b.length)).map fun k => nth a k + nth b k)
theorem abE (a b : List Rat) (ha : XC a) (hb : XC b) : aG env.P 203 [PP a, PP b] (PP (abD a b)) := by
 have hal := ha.len; have hbl := hb.len
 refine bV [(0, PP a), (1, PP b)] Tryz.func203 ?_
 obtain ⟨M, hM⟩ : ∃ M, M = max a.length b.length := ⟨_, rfl⟩
 refine aA [0, 1] ?_
 refine aA [0, 1, 5] ?_
 refine W.nil 5 5 31 4 (by simp) (by decide) (fun K hK => ?_)
 refine W.lw [0, 1, 5] hK ?_; clear hK K; simp
 refine aL [0, 1, 5, 6] ?_
 refine W.block ?_
 refine W.bC (fun k σ => ∃ (i ver : Nat) (rows : Pm.Rows) (clk : Nat), σ = ⟨fa [(0, PP a), (1, PP b), (5, .own 5 ver 0 i), (6, .int .i64 i)], rows, clk⟩ ∧ rows 5 = some ⟨ver, 31, 4, emap re ((List.range i).map fun k => nth a k + nth b k)⟩ ∧ k = M - i ∧ i ≤ M) M ?_ ?_
 ·exact ⟨_, .refl, 0, _, _, _, rfl, by simp [emap], by omega, by omega⟩
 rintro k _ ⟨i, ver, rows, clk, rfl, hr, hk, hi⟩
 have em : (if a.length < b.length then (b.length : Int) else (a.length : Int)) = M := by split <;> omega
 have em2 : (if b.length < a.length then (a.length : Int) else (b.length : Int)) = M := by split <;> omega
 refine W.seq ?_
 refine W.sr ?_
 simp (disch := omega) [gw, em, em2]
 refine bH [0, 1, 5, 6, 13] ?_
 refine bE ?_ ?_ <;> intro h
 ·have h : i < M := by simp at h; omega
  refine lG ?_
  have h1 := TO a i (by omega)
  have h2 := TO b i (by omega)
  have h3 := vN _ _ (ha.nth i) (hb.nth i)
  have er : (List.range (i + 1)).map (fun k => nth a k + nth b k) = (List.range i).map (fun k => nth a k + nth b k) ++ [nth a i + nth b i] := by rw [List.range_succ]; simp
  have fX : ((List.range i).map fun k => nth a k + nth b k).length = i := by simp
  generalize ((List.range i).map fun k => nth a k + nth b k) = acc at *
  generalize nth a i + nth b i = q at *
  generalize nth a i = u at *
  generalize nth b i = v at *
  refine W.b8 (fun K hK => ?_)
  simp (disch := omega) [gw]
  refine bZ h1 ?_
  refine bZ h2 ?_
  refine aD h3 ?_
  simp (disch := omega) [gw, hr, fX]
  refine W.lw [0, 1, 5, 6] hK ?_; clear hK K; simp
  refine W.b8 (fun K hK => ?_); simp (disch := omega) [gw]
  refine hK _ ⟨M - (i + 1), _, aB _ [0, 1, 5, 6], by omega, i + 1, _, _, _, rfl, by rw [er]; simp, by omega, by omega⟩
 ·have h : i = M := by simp at h; omega
  subst h
  refine fB ?_
  have fX : ((List.range i).map fun k => nth a k + nth b k).length = i := by simp
  rw [abD, ← hM]
  generalize ((List.range i).map fun k => nth a k + nth b k) = acc at *
  have ez := bJ fX
  refine W.sr ?_
  simp (disch := omega) [gw, hr, ez]
  refine aD (vP acc (by omega)) ?_
  simp (disch := omega) [gw]
  refine bH [4] ?_
  exact bT
def jY (a : List Rat) (c : Rat) : List Rat := mX (a.map fun x => x * c)
theorem pG (a : List Rat) (c : Rat) (ha : XC a) (hc : ZR YY c) : aG env.P 98 [PP a, RR c] (PP (jY a c)) := by
 have hal := ha.len
 refine cT (E := env) (fun id => if id = 5 then 2 else 0) [(0, PP a), (1, RR c)] Tryz.func98 rfl (by kernel_rfl) (by kernel_rfl) (show 2 ≤ 24 by decide) (by simp) ?_
 refine aA [0, 3] ?_
 refine aA [0, 3, 5] ?_
 refine W.nil 5 5 31 4 (by simp) (by decide) (fun K hK => ?_)
 refine W.lw [0, 3, 5] hK ?_; clear hK K; simp
 refine aL [0, 3, 5, 8, 9] ?_
 refine W.block ?_
 refine W.bC (fun k σ => ∃ (i ver : Nat) (rows : Pm.Rows) (clk : Nat), σ = ⟨fa [(0, PP a), (3, .ptr 3 0 0 0), (5, .own 5 ver 0 i), (8, .int .i64 a.length), (9, .int .i64 i)], rows, clk⟩ ∧ rows 5 = some ⟨ver, 31, 4, emap re ((a.take i).map fun x => x * c)⟩ ∧ rows 3 = some ⟨0, 31, 4, [re c]⟩ ∧ k = a.length - i ∧ i ≤ a.length) a.length ?_ ?_
 ·exact ⟨_, .refl, 0, _, _, _, rfl, by simp [emap], by simp, by omega, by omega⟩
 rintro k _ ⟨i, ver, rows, clk, rfl, hr, fC, hk, hi⟩
 refine cS [0, 3, 5, 8, 9, 10] ?_
 refine bE ?_ ?_ <;> intro h
 ·simp at h
  refine lG ?_
  refine aA [0, 3, 5, 6, 8, 9] ?_
  have h3 := CE _ _ (ha.nth i) hc
  have er := s9 (f := fun x => x * c) h
  have fX : ((a.take i).map fun x => x * c).length = i := by simp; omega
  generalize (a.take i).map (fun x => x * c) = acc at *
  generalize hq : nth a i * c = q at *
  refine W.N7 (fun K hK => ?_)
  rw [if_pos rfl, eJ]
  simp (disch := omega) [gw, fC]
  refine aD h3 ?_
  simp (disch := omega) [gw, hr, fC, fX]
  refine W.lw [0, 3, 5, 8, 9] hK ?_; clear hK K; simp
  refine W.b8 (fun K hK => ?_); simp (disch := omega) [gw]
  refine hK _ ⟨a.length - (i + 1), _, aB _ [0, 3, 5, 8, 9], by omega, i + 1, _, _, _, rfl, by rw [er]; simp, by simp [fC], by omega, by omega⟩
 ·simp at h
  have l6 : i = a.length := by omega
  subst l6
  refine fB ?_
  rw [List.take_length] at hr
  rw [jY]
  have fX : (a.map fun x => x * c).length = a.length := by simp
  generalize a.map (fun x => x * c) = acc at *
  have ez := bJ fX
  refine W.sr ?_
  simp (disch := omega) [gw, hr, ez]
  refine aD (vP acc (by omega)) ?_
  simp (disch := omega) [gw]
  refine bH [4] ?_
  exact bT
theorem L3 (a : List Rat) (ha : XC a) : aG env.P 172 [PP a] (PP (jY a (-1))) := by
 have h1 := pF (-1) 1 (by decide) (by decide)
 rw [k8, show (((-1 : Int)) : Rat) = -1 by simp] at h1
 have h2 := pG a (-1) ha ⟨by show sz 2 (-1) ≤ YY; exact Nat.le_trans (dD (k := 1) (by decide) (by decide)) (by decide), by show sz 2 1 ≤ YY; exact Nat.le_trans (dD (k := 1) (by decide) (by decide)) (by decide)⟩
 generalize (-1 : Rat) = c at *
 refine bV [(0, PP a)] Tryz.func172 ?_
 refine aA [0] ?_
 refine iU ?_
 refine bZ h1 ?_
 refine cI [2] h2 ?_
 exact bT
theorem abF (x : List Int) (k : Nat) : nth (qs x) k = ((nth x k : Int) : Rat) := zP (f := fun (c : Int) => (c : Rat)) rfl x k
theorem FX (x : List Int) (c : Int) : jY (qs x) (c : Rat) = qs (aX x c) := by
 rw [jY, aX, ← vO]
 congr 1
 simp [qs, Function.comp_def]
theorem QK (x : List Int) : aX x (-1) = gH x := by simp [aX, gH]
theorem FY (x : List Int) (hx : Bd 2 YY 1099511627775 x) : aG env.P 172 [PI x] (PI (gH x)) := by
 have := L3 (qs x) (.qs hx.sz (by have := hx.len; omega))
 rwa [show (-1 : Rat) = ((-1 : Int) : Rat) by simp, FX, QK, pS, pS] at this
theorem L4 (x : List Int) (c : Int) (hx : Bd 2 YY 1099511627775 x) (hc : sz 2 c ≤ YY) : aG env.P 98 [PI x, .ag (ri c)] (PI (aX x c)) := by
 have := pG (qs x) c (.qs hx.sz (by have := hx.len; omega)) (oA hc (by decide))
 rwa [FX, pS, pS, RR, fO] at this
theorem kK (x y : List Int) (s s' n n' : Nat) (hs : Bd 2 s n x) (uY : Bd 2 s' n' y) (hB : s + s' + n + n' < YY) : aG env.P 30 [PI x, PI y] (PI (bL x y)) := by
 have hlx := hs.len; have hly := uY.len
 have hB2 : s + s' + n + n' < 137438953472 := hB
 refine cT (E := env) (fun id => if id = 15 then 1 else 0) [(0, PI x), (1, PI y)] Tryz.func30 rfl (by kernel_rfl) (by kernel_rfl) (show 2 ≤ 69 by decide) (by simp) ?_
 refine cS [0, 1] ?_
 refine W.gM (fun σ => ∃ (b : Bool), σ = ⟨fa [(0, PI x), (1, PI y), (16, .bool b)], fun _ => none, 0⟩ ∧ (b = true ↔ x = [] ∨ y = [])) (fun K hK => ?_) ?_
 ·simp
  have e1 : ((x.length : Int) == 0) = decide (x = []) := by
   cases x <;> simp <;> omega
  have e2 : ((y.length : Int) == 0) = decide (y = []) := by
   cases y <;> simp <;> omega
  rw [e1]
  by_cases h0 : x = []
  ·have e3 : decide (x = []) = true := by simp [h0]
   rw [e3]
   simp
   exact hK _ _ (aB _ [0, 1, 16]) ⟨_, rfl, by simp [h0]⟩
  ·have e3 : decide (x = []) = false := by simp [h0]
   rw [e3]
   simp
   exact hK _ _ (aB _ [0, 1, 16]) ⟨_, rfl, by rw [e2]; simp [h0]⟩
 rintro _ ⟨b, rfl, hb⟩
 refine bE ?_ ?_ <;> intro h
 ·have e : bL x y = [] := by
   have h1 := hb.1 h
   refine Cn.ext (Cn.bL _ _) Cn.nil fun t => ?_
   rw [dB]
   rcases h1 with rfl | rfl <;> simp [V]
  refine aA [4] ?_
  refine W.ret ?_
  simp [go, e]
  rfl
 ·have h1 : ¬ (x = [] ∨ y = []) := fun h2 => by simp [hb.2 h2] at h
  have n9 : 0 < x.length := List.length_pos_iff.2 fun h2 => h1 (.inl h2)
  have P9 : 0 < y.length := List.length_pos_iff.2 fun h2 => h1 (.inr h2)
  clear h hb h1
  have e0 : ((x.length : Int) + (y.length : Int) - 1).toNat = x.length + y.length - 1 := by omega
  have e9 : ((x.length + y.length - 1 : Nat) : Int) = (x.length : Int) + (y.length : Int) - 1 := by omega
  refine W.skip ?_
  refine W.sr ?_
  simp (disch := omega) [gw, e0]
  refine bH [0, 1, 5] ?_
  refine aL [0, 1, 5, 25, 26] ?_
  refine W.block ?_
  refine W.bC (fun k σ => ∃ (i ver : Nat) (els : List (List PV)) (rows : Pm.Rows) (clk : Nat), σ = ⟨fa [(0, PI x), (1, PI y), (5, .own 23 ver 0 (x.length + y.length - 1)), (25, .int .i64 ((x.length + y.length - 1 : Nat) : Int)), (26, .int .i64 i)], rows, clk⟩ ∧
   rows 23 = some ⟨ver, 31, 4, els⟩ ∧ els.length = x.length + y.length - 1 ∧ (∀ e ∈ els, e.length = 4) ∧ els.take i = emap ri (List.replicate i 0) ∧ k = x.length + y.length - 1 - i ∧ i ≤ x.length + y.length - 1) (x.length + y.length - 1) ?_ ?_
  ·exact ⟨_, Gh.fr [(0, PI x), (1, PI y), (5, .own 23 0 0 (x.length + y.length - 1)), (25, .int .i64 ((x.length + y.length - 1 : Nat) : Int)), (26, .int .i64 (0 : Nat))] (by simp), 0, _, List.replicate (x.length + y.length - 1) [.nil, .bool false, .nil, .bool false], _, _, rfl, by simp [e0], by simp, by simp, by simp [emap], by omega, by omega⟩
  rintro k _ ⟨i, ver, els, rows, clk, rfl, hr, mF, L5, pZ, hk, hi⟩
  have P7 : bF 4 els = True := by simp only [bF, eq_iff_iff, iff_true]; exact L5
  refine cS [0, 1, 5, 25, 26, 27] ?_
  refine bE ?_ ?_ <;> intro h
  ·have h : i < x.length + y.length - 1 := by simp at h; omega
   refine lG ?_
   refine aA [0, 1, 5, 6, 25, 26] ?_
   refine W.b8 (fun K hK => ?_)
   simp (disch := omega) [gw]
   refine aD oP ?_
   have tV : i < els.length := by omega
   have hE : s7 els i 4 = True := by
    simp only [eq_iff_iff, iff_true]
    exact ⟨els[i], List.getElem?_eq_getElem tV, by rw [L5 _ (List.getElem_mem tV)]; omega⟩
   have hS : iK els i 0 [aI aF (aS DD 0), .bool false, aI aF (aS DD 1), .bool false] = els.set i (ri 0) := by
    have h4 := L5 _ (List.getElem_mem tV)
    rw [iK, List.getElem?_eq_getElem tV]
    simp [List.drop_of_length_le, h4]
   simp (disch := omega) [gw, hr, hE, hS]
   refine W.lw [0, 1, 5, 25, 26] hK ?_; clear hK K; simp
   refine W.b8 (fun K hK => ?_); simp (disch := omega) [gw]
   refine hK _ ⟨x.length + y.length - 1 - (i + 1), _, aB _ [0, 1, 5, 25, 26], by omega, i + 1, ver, els.set i (ri 0), _, _, rfl, by simp, by simpa using mF, fun e he => ?_, ?_, by omega, by omega⟩
   ·rcases List.mem_or_eq_of_mem_set he with h1 | h1
    ·exact L5 e h1
    ·rw [h1]; rfl
   ·rw [lI pZ (by omega), List.replicate_succ']
    simp [emap]
  ·have h : i = x.length + y.length - 1 := by simp at h; omega
   subst h
   have n3 : els = emap ri (List.replicate (x.length + y.length - 1) 0) := by rw [← pZ, bJ mF]
   subst n3
   clear pZ L5 mF P7 hk hi
   refine fB ?_
   refine aL [0, 1, 5, 35, 36] ?_
   refine W.block ?_
   refine W.bC (fun k σ => ∃ (i : Nat) (z : List Int) (ver : Nat) (rows : Pm.Rows) (clk : Nat), σ = ⟨fa [(0, PI x), (1, PI y), (5, .own 23 ver 0 (x.length + y.length - 1)), (35, .int .i64 x.length), (36, .int .i64 i)], rows, clk⟩ ∧
    rows 23 = some ⟨ver, 31, 4, emap ri z⟩ ∧ k = x.length - i ∧ i ≤ x.length ∧ z.length = x.length + y.length - 1 ∧ (∀ j, sz 2 (nth z j) ≤ s + s' + i) ∧
    ∀ t, V t z = V t (x.take i) * V t y) x.length ?_ ?_
   ·refine ⟨_, .refl, 0, List.replicate (x.length + y.length - 1) 0, _, _, _, rfl, hr, by omega, by omega, by simp, fun j => ?_, fun t => by simp [V, pQ]⟩
    have : Bd 2 0 (x.length + y.length - 1) (List.replicate (x.length + y.length - 1) 0) := ⟨by simp, fun c hc => by rw [(List.mem_replicate.1 hc).2, jW]; omega⟩
    have := this.nth j
    omega
   clear hr rows clk
   rintro k _ ⟨i, z, ver, rows, clk, rfl, hr, hk, hi, hz, DW, hV⟩
   refine cS [0, 1, 5, 35, 36, 37] ?_
   refine bE ?_ ?_ <;> intro h
   ·simp at h
    refine lG ?_
    refine aA [0, 1, 5, 7, 35, 36] ?_
    refine aA [0, 1, 5, 7, 35, 36, 40, 41] ?_
    refine W.block ?_
    refine W.bC (fun m σ => ∃ (k : Nat) (z : List Int) (ver : Nat) (rows : Pm.Rows) (clk : Nat), σ = ⟨fa [(0, PI x), (1, PI y), (5, .own 23 ver 0 (x.length + y.length - 1)), (7, .int .i64 i), (35, .int .i64 x.length), (36, .int .i64 i), (40, .int .i64 y.length), (41, .int .i64 k)], rows, clk⟩ ∧
     rows 23 = some ⟨ver, 31, 4, emap ri z⟩ ∧ m = y.length - k ∧ k ≤ y.length ∧ z.length = x.length + y.length - 1 ∧ (∀ j, sz 2 (nth z j) ≤ s + s' + i + 1) ∧ (∀ j, i + k ≤ j → sz 2 (nth z j) ≤ s + s' + i) ∧
     ∀ t, V t z = V t (x.take i) * V t y + t ^ i * nth x i * V t (y.take k)) y.length ?_ ?_
    ·refine ⟨_, .refl, 0, z, ver, _, _, rfl, by simpa using hr, by omega, by omega, hz, fun j => by have := DW j; omega, fun j _ => DW j, fun t => by simp [V, hV]⟩
    clear hV DW hz hr z ver rows clk
    rintro m _ ⟨k, z, ver, rows, clk, rfl, hr, hm, hky, hz, DW, QB, hV⟩
    refine cS [0, 1, 5, 7, 35, 36, 40, 41, 42] ?_
    refine W.cond ⟨_, rfl, fun h2 => ?_, fun h2 => ?_⟩
    ·simp at h2
     refine lG ?_
     refine aA [0, 1, 5, 7, 8, 35, 36, 40, 41] ?_
     have e1 : ((i : Int) + (k : Int)).toNat = i + k := by omega
     have FO : sz 2 (nth x i * nth y k) ≤ s + s' + i := Nat.le_trans (b9 (by decide) (hs.nth i) (uY.nth k)) (by omega)
     have hm2 := n7 (b := 2) (by decide) (QB (i + k) (Nat.le_refl _)) FO
     have hlz : i + k < z.length := by omega
     have c1 := FW (nth x i) (nth y k) (Nat.le_trans (hs.nth i) (by show _ ≤ 137438953472; omega)) (Nat.le_trans (uY.nth k) (by show _ ≤ 137438953472; omega))
     have c2 := XB (nth z (i + k)) (nth x i * nth y k) (Nat.le_trans (QB (i + k) (Nat.le_refl _)) (by show _ ≤ 137438953472; omega)) (Nat.le_trans FO (by show _ ≤ 137438953472; omega))
     have P5 := fun t => FJ (b := t) (x := nth z (i + k) + nth x i * nth y k) hlz
     generalize hu : nth z (i + k) + nth x i * nth y k = u at *
     generalize hpq : nth x i * nth y k = pq at *
     refine W.N7 (fun K hK => ?_)
     rw [if_pos rfl, eJ]
     simp (disch := omega) [gw, hr, e1]
     refine aD c1 ?_
     simp (disch := omega) [gw, hr, e1]
     refine aD c2 ?_
     simp (disch := omega) [gw, hr, e1]
     refine W.lw [0, 1, 5, 7, 35, 36, 40, 41] hK ?_; clear hK K; simp
     refine W.b8 (fun K hK => ?_); simp (disch := omega) [gw]
     refine hK _ ⟨y.length - (k + 1), _, aB _ [0, 1, 5, 7, 35, 36, 40, 41], by omega, k + 1, z.set (i + k) u, ver, _, _, rfl, by simp, by omega, by omega, by simpa using hz, fun j => ?_, fun j hj => ?_, fun t => ?_⟩
     ·by_cases hj : i + k = j
      ·subst hj; rw [eK hlz]; exact hm2
      ·rw [gG hj]; exact DW j
     ·rw [gG (by omega)]; exact QB j (by omega)
     ·rw [P5, aT h2, hV, Int.pow_add, ← hu, ← hpq]; clear hV P5; grind
    ·simp at h2
     have wO : k = y.length := by omega
     subst wO
     refine fB ?_
     refine W.b8 (fun K hK => ?_); simp (disch := omega) [gw]
     refine hK _ ⟨x.length - (i + 1), _, aB _ [0, 1, 5, 35, 36], by omega, i + 1, z, ver, _, _, rfl, hr, by omega, by omega, hz, fun j => by have := DW j; omega, fun t => ?_⟩
     rw [hV, aZ (Nat.le_refl _), aT h]; grind
   ·simp at h
    have l6 : i = x.length := by omega
    subst l6
    have wT := bJ hz
    refine fB ?_
    refine W.sr ?_
    simp (disch := omega) [gw, hr, wT]
    refine aD (rZ z (by omega)) ?_
    simp (disch := omega) [gw]
    refine bH [4] ?_
    refine W.ret ?_
    have e : aN z = bL x y := by
     refine Cn.ext (Cn.cut _) (Cn.bL _ _) fun t => ?_
     rw [cV, hV, dB, aZ (Nat.le_refl _)]
    simp [go, e]
theorem gZ (v n : Int) (hv : -9223372036854775808 ≤ v ∧ v < 9223372036854775808) (hn : 0 < n) (hn2 : n < 4611686018427387904) : aG env.P 14 [.int .i64 v, .int .i64 n] (.int .i64 (v % n)) := by
 have ZO : n ≠ 0 := by omega
 have h12 : (v.tmod n = v % n ∨ (v.tmod n < 0 ∧ v.tmod n + n = v % n)) ∧ -n < v.tmod n ∧ v.tmod n < n := by
  have h2 := Int.emod_nonneg v ZO
  have h3 := Int.emod_lt_of_pos v hn
  rcases (show v < 0 ∨ 0 ≤ v by omega) with h | h
  ·have h4 := Int.tmod_eq_emod (a := v) (b := n)
   have h5 : (n.natAbs : Int) = n := by omega
   split at h4
   ·simp at h4; omega
   ·rename_i h6
    rw [h5] at h4
    have h7 : v % n ≠ 0 := fun h8 => h6 (.inr (Int.dvd_of_emod_eq_zero h8))
    omega
  ·rw [Int.tmod_eq_emod_of_nonneg h]; omega
 obtain ⟨h1, h2⟩ := h12
 have h5 := Int.emod_nonneg v ZO
 have h6 := Int.emod_lt_of_pos v hn
 have hnn : ¬ n < 1 := by omega
 refine bV [(0, .int .i64 v), (1, .int .i64 n)] Tryz.func14 ?_
 refine aA [0, 1] ?_
 refine aL [0, 1, 7] ?_
 refine bE ?_ ?_ <;> intro h
 ·exfalso; simp at h; omega
 ·refine W.skip ?_
  generalize hm : v.tmod n = m at *
  generalize v % n = r at *
  refine W.sr ?_
  simp (disch := omega) [gA, ZO, hm]
  refine bH [1, 5] ?_
  refine W.gS (fun σ => ∃ (rows : Pm.Rows) (clk : Nat), σ = ⟨fa [(5, .int .i64 r)], rows, clk⟩) ?_ ?_
  ·
   refine aA [1, 5, 12] ?_
   refine bE ?_ ?_ <;> intro h
   ·simp at h
    refine W.b8 (fun K hK => ?_); simp (disch := omega) [gw]
    exact hK _ ⟨_, Gh.fr [(5, .int .i64 r)] (by simp; omega), _, _, rfl⟩
   ·simp at h
    refine W.skip ?_
    exact ⟨_, Gh.fr [(5, .int .i64 r)] (by simp; omega), _, _, rfl⟩
  rintro _ ⟨rows, clk, rfl⟩
  refine aA [4] ?_
  exact bT
structure PB (x : List Int) : Prop where
 sz : ∀ c ∈ x, Sz c
 len : x.length < 1099511627775
theorem PB.EK {x : List Int} (h : PB x) : sO (x.map tA) := sO.afn h.sz (by have := h.len; omega)
theorem PB.of {s n : Nat} {x : List Int} (h : Bd LL s n x) (hs : s < 1099511627775) (hn : n < 1099511627775) : PB x := ⟨fun c hc => Nat.lt_of_le_of_lt (h.sz c hc) (by omega), Nat.lt_of_le_of_lt h.len hn⟩
theorem XD {x y : List Int} (hx : PB x) (hy : PB y) : aG env.P 202 [Po x, Po y] (Po (gY x y)) := by
 have := abh _ _ hx.EK hy.EK
 rwa [cE, cE, ← jH, ← jH] at this
theorem FZ {x y : List Int} (hx : PB x) (hy : PB y) : aG env.P 204 [Po x, Po y] (Po (eZ x y)) := by
 have := abi _ _ hx.EK hy.EK
 rwa [cE, cE, ← jH, ← jH] at this
theorem xD {x : List Int} (hx : PB x) : aG env.P 41 [Po x] (Po (gH x)) := by
 have := abj _ hx.EK
 rwa [cE, ← jH] at this
theorem fP {x : List Int} (hx : PB x) : aG env.P 68 [Po x] (Po (aN x)) := by
 have := iG _ hx.EK
 rwa [cE, ← jH] at this
theorem XE {a : RP} {y : List Int} {s s' n n' : Nat} (ha : sO a) (hs : Bd LL s n (a.map gv)) (uY : Bd LL s' n' y) (hB : s + s' + n + n' < 1099511627775) : aG env.P 16 [Pg a, Po y] (Po (bL (a.map gv) y)) := by
 have := abk a (y.map tA) ha (PB.of uY (by omega) (by omega)).EK s s' n n' hs (by rwa [cE]) hB
 rwa [cE, ← jH] at this
theorem oQ {x y : List Int} {s s' n n' : Nat} (hs : Bd LL s n x) (uY : Bd LL s' n' y) (hB : s + s' + n + n' < 1099511627775) : aG env.P 16 [Po x, Po y] (Po (bL x y)) := by
 have := XE (PB.of hs (by omega) (by omega)).EK (by rwa [cE]) uY hB
 rwa [cE, ← jH] at this
section
variable {k n : Nat} {p : RP}
end
theorem maps {α : Type} {g : α → List PV} {R : List PV → Prop} {Q : α → Prop} (h : ∀ ps, R ps → ∃ a, ps = g a ∧ Q a) : ∀ {l : List (List PV)}, (∀ x ∈ l, R x) → ∃ m : List α, l = m.map g ∧ ∀ a ∈ m, Q a
 | [], _ => ⟨[], rfl, fun _ h => (by cases h)⟩
 | x :: l, hx => by
  obtain ⟨a, rfl, ha⟩ := h x (hx x (by simp))
  obtain ⟨m, rfl, hm⟩ := maps h (l := l) fun y hy => hx y (by simp [hy])
  exact ⟨a :: m, rfl, fun b hb => by
   rcases List.mem_cons.1 hb with rfl | hb
   ·exact ha
   ·exact hm b hb⟩
theorem vR : pA Tryz.prog 3 (fun q => ∃ n : Int, q = .int .i64 n ∧ -9223372036854775808 ≤ n ∧ n < 9223372036854775808) :=
 (pA.int .i64 (by kernel_rfl)).mono fun q ⟨n, h1, h2, h3⟩ => ⟨n, h1, by simpa [IntKind.min, IntKind.signed, IntKind.bits] using h2, by simp [IntKind.max, IntKind.signed, IntKind.bits] at h3; omega⟩
theorem own : ownKnob Tryz.prog.godebug = none := by kernel_rfl
theorem laidOut : laidOutB Tryz.prog = true := by kernel_rfl
structure PD (x : List Int) : Prop where
 sz : ∀ v ∈ x, sz LL v < 1099511627774
 len : x.length < 1099511627774
theorem PD.of {s n : Nat} {x : List Int} (h : Bd LL s n x) (hs : s < 1099511627774) (hn : n < 1099511627774) : PD x := ⟨fun v hv => Nat.lt_of_le_of_lt (h.sz v hv) hs, Nat.lt_of_le_of_lt h.len hn⟩
theorem aly (v : Int) : V 4294967296 (aS LL v.natAbs) = v.natAbs := jU fY v.natAbs
theorem H5 {v c : Int} (hv : sz LL v < 1099511627774) (hc : sz LL c < 1099511627774) (h0 : c ≠ 0) : aG env.P 235 [I v, I c] (if v % c = 0 then .fH [I (v / c), .int .i64 0] else .fH [I 0, .int .i64 3]) := by
 have := QH (decide (v < 0)) (decide (c < 0)) (aS LL v.natAbs) (aS LL c.natAbs) ⟨fR fY _, by unfold sz at hv; omega⟩ ⟨fR fY _, by unfold sz at hc; omega⟩ hv hc (by rw [aly]; omega)
 rwa [BT, BT] at this
def p8 (c v : Int) : Int := if v % c = 0 then v / c else 0
theorem L6 (x : List Int) (c : Int) (hx : PD x) (hc : sz LL c < 1099511627774) (h0 : c ≠ 0) : aG env.P 220 [Po x, I c] (Po (aN (x.map (p8 c)))) := by
 have hxl := hx.len
 refine bV [(0, Po x), (1, I c)] Tryz.func220 ?_
 refine aA [0, 3] ?_
 refine aA [0, 3, 5] ?_
 refine W.row (id := 10) (emap ie (List.replicate x.length 0)) (by simp; exact ⟨rfl, rfl, rfl⟩) (qT _) ?_
 refine aL [3, 5, 11, 12, 13] ?_
 refine W.block ?_
 refine W.bC (fun q σ => ∃ (i : Nat) (z : List Int) (v10 : Nat) (rows : Pm.Rows) (clk : Nat), σ = ⟨fa [(3, .ptr 3 0 0 0), (5, .own 10 v10 0 x.length), (11, Po x), (12, .int .i64 x.length), (13, .int .i64 i)], rows, clk⟩ ∧
  rows 3 = some ⟨0, 38, 2, [ie c]⟩ ∧ rows 10 = some ⟨v10, 38, 2, emap ie z⟩ ∧ q = x.length - i ∧ i ≤ x.length ∧ z.length = x.length ∧ z.take i = (x.take i).map (p8 c)) x.length ?_ ?_
 ·exact ⟨_, .refl, 0, List.replicate x.length 0, _, _, _, rfl, by simp, by simp, by omega, by omega, by simp, by simp⟩
 rintro q _ ⟨i, z, v10, rows, clk, rfl, fC, L7, hq, hi, hz, hv⟩
 refine cS [3, 5, 11, 12, 13, 14] ?_
 refine bE ?_ ?_ <;> intro h
 ·have hi : i < x.length := by simp at h; omega
  have hE := H5 (hx.sz _ (bU hi)) hc h0
  have hE2 : aG env.P 235 [I (nth x i), I c] (.fH [I (p8 c (nth x i)), .int .i64 (if nth x i % c = 0 then 0 else 3)]) := by
   unfold p8
   split at hE
   ·rename_i h1; rw [if_pos h1, if_pos h1]; exact hE
   ·rename_i h1; rw [if_neg h1, if_neg h1]; exact hE
  have hts : (x.take (i + 1)).map (p8 c) = (x.take i).map (p8 c) ++ [p8 c (nth x i)] := by rw [bA hi]; simp
  generalize (if nth x i % c = 0 then (0 : Int) else 3) = er at *
  generalize p8 c (nth x i) = ev at *
  generalize hxe : nth x i = xi at *
  refine lG ?_
  refine W.sr ?_
  simp (disch := omega) [gw, hxe]
  refine bH [3, 5, 6, 7, 11, 12, 13] ?_
  refine W.b8 (fun K hK => ?_)
  simp (disch := omega) [gw, fC]
  refine aD hE2 ?_
  simp (disch := omega) [gw, L7, hz]
  refine W.lw [3, 5, 11, 12, 13] hK ?_; clear hK K; simp
  refine W.b8 (fun K hK => ?_); simp (disch := omega) [gw]
  refine hK _ ⟨x.length - (i + 1), _, aB _ [3, 5, 11, 12, 13], by omega, i + 1, z.set i ev, v10, _, _, rfl, by simp [fC], by simp, by omega, by omega, by simp [hz], ?_⟩
  rw [lI hv (by omega), hts]
 ·have hi : i = x.length := by simp at h; omega
  subst hi
  rw [bJ hz, List.take_length] at hv
  have wT := bJ hz
  refine fB ?_
  have hzb : PB z := by
   rw [hv]
   refine ⟨fun v hv => ?_, by simpa using by omega⟩
   simp only [List.mem_map] at hv
   obtain ⟨w, hw, rfl⟩ := hv
   have h1 := hx.sz w hw
   show sz LL (p8 c w) < 1099511627776
   refine Nat.lt_of_le_of_lt (cZ fY (y := w) ?_) (by omega)
   unfold p8; split
   ·exact Int.natAbs_ediv_le_natAbs _ _
   ·simp
  have hN := fP hzb
  rw [hv] at hN L7 wT
  generalize x.map (p8 c) = y at *
  have N8 : y.length = x.length := by rw [← hv]; exact hz
  refine W.sr ?_
  simp (disch := omega) [gw, L7, wT]
  refine cI [4] hN ?_
  exact bT
theorem L8 (l : List RP) (K0 : Nat) (hK0 : K0 < 1099511627774) (hp : ∀ p ∈ l, ∀ c ∈ p, cR 4294967296 c.2 ∧ c.2.length ≤ K0) (hl : l.length < 1099511627776) (hf : l.flatten.length < 1099511627776) :
  aG env.P 219 [aI pe l] (I (bK (l.flatten.map gv))) := by
 refine bV [(0, aI pe l)] Tryz.func219 ?_
 refine aA [0, 2] ?_
 refine aA [0, 2, 3] ?_
 refine W.nil 3 3 38 2 (by simp) (by decide) (fun K hK => ?_)
 refine W.lw [0, 2, 3] hK ?_; clear hK K; simp
 refine aL [2, 3, 6, 7, 8] ?_
 refine W.block ?_
 refine W.bC (fun q σ => ∃ (i v3 : Nat) (A : RP) (rows : Pm.Rows) (clk : Nat), σ = ⟨fa [(2, .ptr 2 0 0 0), (3, .own 3 v3 0 A.length), (6, aI pe l), (7, .int .i64 l.length), (8, .int .i64 i)], rows, clk⟩ ∧
  rows 2 = some ⟨0, 38, 2, [[.bool false, .nil]]⟩ ∧ rows 3 = some ⟨v3, 38, 2, emap ge A⟩ ∧ q = l.length - i ∧ i ≤ l.length ∧ A = (l.take i).flatten) l.length ?_ ?_
 ·exact ⟨_, .refl, 0, _, [], _, _, rfl, by simp, by simp [emap], by omega, by omega, by simp⟩
 rintro q _ ⟨i, v3, A, rows, clk, rfl, dP, fC, hq, hi, hA⟩
 refine cS [2, 3, 6, 7, 8, 9] ?_
 refine bE ?_ ?_ <;> intro h
 ·have hi : i < l.length := by simp at h; omega
  have hfs : (l.take (i + 1)).flatten = (l.take i).flatten ++ nth l i := by rw [bA hi]; simp
  have XF : (l.take (i + 1)).flatten.length ≤ l.flatten.length := by
   have e := List.take_append_drop (i + 1) l
   have e2 : l.flatten = (l.take (i + 1)).flatten ++ (l.drop (i + 1)).flatten := by rw [← List.flatten_append, e]
   rw [e2, List.length_append]; omega
  have JV : (l.take i).flatten.length + (nth l i).length < 1099511627776 := by
   rw [hfs, List.length_append] at XF; omega
  have hls : (l.take (i + 1)).flatten.length = (l.take i).flatten.length + (nth l i).length := by rw [hfs, List.length_append]
  rw [← hA] at hfs JV hls
  generalize hpe : nth l i = p at *
  refine lG ?_
  refine W.sr ?_
  simp (disch := omega) [gw, hpe]
  refine bH [2, 3, 5, 6, 7, 8] ?_
  refine W.b8 (fun K hK => ?_)
  simp (disch := omega) [gw, fC]
  refine W.lw [2, 3, 6, 7, 8] hK ?_; clear hK K; simp
  refine W.b8 (fun K hK => ?_); simp (disch := omega) [gw]
  refine hK _ ⟨l.length - (i + 1), _, Gh.fr [(2, .ptr 2 0 0 0), (3, .own 3 _ 0 (A ++ p).length), (6, aI pe l), (7, .int .i64 l.length), (8, .int .i64 ((i + 1 : Nat) : Int))] (by simp; exact rfl), by omega, i + 1, _, A ++ p, _, _, rfl, by simp [dP], by simp, by omega, by omega, hfs.symm⟩
 ·have hi : i = l.length := by simp at h; omega
  subst hi
  rw [List.take_length] at hA
  have hG := LQ l.flatten K0 hK0 (fun c hc => by
   obtain ⟨p, SM, hcp⟩ := List.mem_flatten.1 hc
   exact hp p SM c hcp) hf
  rw [← hA] at hG ⊢
  generalize (bK (A.map gv) : Int) = g at *
  refine fB ?_
  refine W.sr ?_
  simp (disch := omega) [gw, fC]
  refine aD hG ?_
  simp (disch := omega) [gw, dP]
  refine bH [2] ?_
  exact bT
theorem kM {x : List Int} (hx : PB x) (hc : Cn x) : aG env.P 110 [Po x] (I (lead x)) := by
 have := LN (x.map tA) hx.EK
 rw [show mH (x.map tA) = aN x by simp only [mH, cE], show aN x = x from hc, ← jH] at this
 exact this
theorem lL (x : List Int) (hx : x.length < 9223372036854775808) : aG env.P 87 [Po x] (.int .i64 ((x.length : Int) - 1)) := by
 have := afI (x.map tA) (by simpa using hx)
 rw [List.length_map, ← jH] at this
 exact this
theorem yS {x : List Int} {c : Int} (hx : PB x) (hc : Sz c) : aG env.P 201 [Po x, I c] (Po (aX x c)) := by
 have := P8 (x.map tA) hx.EK (decide (c < 0)) (aS LL c.natAbs) hc.Y8
 rw [cE, BT, ← jH] at this
 exact this
theorem qY (i : Nat) (x : Int) : (List.replicate (i + 1) (0 : Int)).set i x = pY i x := by
 rw [List.replicate_succ', List.set_append]
 simp [pY]
theorem QL (a b : RP) {s s' N : Nat} (ha : sO a) (hb : sO b) (sa : Bd LL s N (a.map gv)) (sb : Bd LL s' N (b.map gv)) (hB : s + N * (s' + N + 1) + s' + N + N + 10 < 1099511627774) :
  aG env.P 221 [Pg a, Pg b] (if mH b = [] then .fH [Po [], Po [], .int .i64 0, .int .i64 2] else .fH [Po (yO (mH a) (mH b)).1, Po (yO (mH a) (mH b)).2, .int .i64 (i0 (mH a) (mH b)), .int .i64 0]) := by
 have hA : Bd LL s N (mH a) := sa.cut
 have TP : Bd LL s' N (mH b) := sb.cut
 have ca : Cn (mH a) := Cn.cut _
 have cb : Cn (mH b) := Cn.cut _
 have na := iG a ha
 have nb := iG b hb
 rw [show aN (a.map gv) = mH a from rfl] at na
 rw [show aN (b.map gv) = mH b from rfl] at nb
 refine bV [(0, Pg a), (1, Pg b)] Tryz.func221 ?_
 generalize mH a = x at *
 generalize mH b = y at *
 refine aA [0, 1, 4] ?_
 refine W.WO 4 (Po []) (by simp) rfl (fun K hK => ?_)
 refine W.lw [0, 1, 4] hK ?_; clear hK K; simp
 refine iU ?_
 refine bZ na ?_
 refine cI [1, 4, 5] nb ?_
 refine aL [1, 4, 5, 18] ?_
 refine bE ?_ ?_ <;> intro h
 ·have h : y = [] := by simp at h; exact h
  rw [if_pos h]
  refine aA [4, 5, 6, 7] ?_
  refine W.ret ?_
  simp [go]
  rfl
 have hy : y ≠ [] := by simp at h; exact h
 clear h
 rw [if_neg hy]
 have P9 : 0 < y.length := List.length_pos_iff.2 hy
 have hNx := hA.len
 have hNy := TP.len
 have hsy := fS TP
 have hmN : N * (s' + N + 1) ≥ 0 := Nat.zero_le _
 have hL := kM (PB.of TP (by omega) (by omega)) cb
 have hDx := lL x (by omega)
 have hDy := lL y (by omega)
 refine W.skip ?_
 refine aK [1, 4, 5, 8] hL ?_
 have hkk : (if (0 : Int) < (x.length : Int) - 1 - ((y.length : Int) - 1) + 1 then (x.length : Int) - 1 - ((y.length : Int) - 1) + 1 else 0) = (i0 x y : Int) := by unfold i0; split <;> omega
 refine iU ?_
 refine bZ hDx ?_
 refine aD hDy ?_
 simp (disch := omega) [gw, hkk]
 refine bH [1, 4, 5, 6, 8] ?_
 have hkN : i0 x y ≤ N := by unfold i0; omega
 have hsl := hsy
 generalize hdd : s' + N + 1 = d at *
 have hNN : ∀ j, j ≤ N → (N - j) * d ≤ N * d := fun j _ => Nat.mul_le_mul_right _ (by omega)
 refine aL [1, 4, 5, 6, 8, 9] ?_
 refine W.block ?_
 refine W.bC (fun j σ => ∃ (q r : List Int) (rows : Pm.Rows) (clk : Nat), σ = ⟨fa [(1, Po y), (4, Po q), (5, Po r), (6, .int .i64 (i0 x y)), (8, .ptr 8 0 0 0), (9, .int .i64 ((j : Int) - 1))], rows, clk⟩ ∧
  rows 8 = some ⟨0, 38, 2, [ie (lead y)]⟩ ∧ j ≤ i0 x y ∧ ps y (lead y) j q r = yO x y ∧ Bd LL (s + (N - j) * d) (N + N) q ∧ Bd LL (s + (N - j) * d) (N + N) r ∧ Cn r) (i0 x y) ?_ ?_
 ·exact ⟨_, .refl, [], x, _, _, rfl, by simp, by omega, rfl, ⟨by simp, fun c hc => by cases hc⟩, hA.mono (by omega) (by omega), ca⟩
 rintro j _ ⟨q, r, rows, clk, rfl, zJ, hj, yT, bq, br, cr⟩
 refine aL [1, 4, 5, 6, 8, 9, 31] ?_
 refine bE ?_ ?_ <;> intro h
 ·have hj0 : 0 < j := by simp at h; omega
  obtain ⟨i, rfl⟩ : ∃ i, j = i + 1 := ⟨j - 1, by omega⟩
  clear h
  have ei : ((i + 1 : Nat) : Int) - 1 = i := by omega
  rw [ei]
  have hN1 := hNN (i + 1) (by omega)
  have hT : s + (N - i) * d = s + (N - (i + 1)) * d + s' + N + 1 := by
   rw [show N - i = (N - (i + 1)) + 1 by omega, Nat.add_mul, Nat.one_mul]; omega
  obtain ⟨b1, b2⟩ := BN fY TP bq br (show i < N by omega)
  rw [← hT] at b1 b2
  have CG := hNN i (by omega)
  have hx := aa8 (y := y) (i := i) br
  have bs := Bd.pY hx i
  have hLr := kM (PB.of br (by omega) (by omega)) cr
  have hDr := lL r (by have := br.len; omega)
  have bqs := bq.aX fY hsy
  have brs := br.aX fY hsy
  have bm := bs.bL fY TP
  have f1 := yS (c := lead y) (PB.of bq (by omega) (by omega)) (show sz LL (lead y) < 1099511627776 by omega)
  have f2 := yS (c := lead y) (PB.of br (by omega) (by omega)) (show sz LL (lead y) < 1099511627776 by omega)
  have f3 := XD (PB.of bqs (by omega) (by omega)) (PB.of bs (by omega) (by omega))
  have f4 := oQ bs TP (by omega)
  have f5 := FZ (PB.of brs (by omega) (by omega)) (PB.of bm (by omega) (by omega))
  rw [show gY (aX q (lead y)) (pY i (vE y r i)) = psq (lead y) (vE y r i) i q from rfl] at f3
  rw [show eZ (aX r (lead y)) (bL (pY i (vE y r i)) y) = wS y (lead y) (vE y r i) i r from rfl] at f5
  have cr2 : Cn (wS y (lead y) (vE y r i) i r) := Cn.eZ _ _
  have hpx : vE y r i = if r.length = y.length + i then lead r else 0 := rfl
  rw [ps] at yT
  generalize hq2 : psq (lead y) (vE y r i) i q = q2 at *
  generalize dP : wS y (lead y) (vE y r i) i r = r2 at *
  generalize bL (pY i (vE y r i)) y = pm at *
  generalize aX q (lead y) = pq at *
  generalize aX r (lead y) = pr at *
  generalize vE y r i = xx at *
  have abH := qY i xx
  have alz : (pY i xx).length = i + 1 := by simp [pY]
  generalize lead r = lr at *
  generalize lead y = ly at *
  refine lG ?_
  refine aA [1, 4, 5, 6, 8, 9, 10] ?_
  refine W.row (id := 10) (els := [[.bool false, .nil]]) [ie 0] (by simp; exact ⟨rfl, rfl, rfl⟩) ⟨⟨.inl (by simp), .inr ⟨rfl, rfl⟩, trivial⟩, trivial⟩ ?_
  refine W.gS (fun σ => ∃ (v10 : Nat) (rows : Pm.Rows) (clk : Nat), σ = ⟨fa [(1, Po y), (4, Po q), (5, Po r), (6, .int .i64 (i0 x y)), (8, .ptr 8 0 0 0), (9, .int .i64 i), (10, .ptr 10 v10 0 0)], rows, clk⟩ ∧ rows 8 = some ⟨0, 38, 2, [ie ly]⟩ ∧ rows 10 = some ⟨v10, 38, 2, [ie xx]⟩) ?_ ?_
  ·
   refine iU ?_
   refine bZ hDr ?_
   refine cI [1, 4, 5, 6, 8, 9, 10, 40] hDy ?_
   by_cases P3 : r.length = y.length + i
   ·rw [if_pos P3] at hpx
    subst hpx
    refine bE ?_ ?_ <;> intro h
    ·refine W.b8 (fun K hK => ?_)
     simp (disch := omega) [gw]
     refine bZ hLr ?_
     exact hK _ ⟨_, aB _ [1, 4, 5, 6, 8, 9, 10], _, _, _, rfl, by simp [zJ], by simp⟩
    ·exfalso; simp at h; omega
   ·rw [if_neg P3] at hpx
    subst hpx
    refine bE ?_ ?_ <;> intro h
    ·exfalso; simp at h; omega
    ·refine W.skip ?_
     exact ⟨_, aB _ [1, 4, 5, 6, 8, 9, 10], _, _, _, rfl, by simp [zJ], by simp⟩
  rintro _ ⟨v10, rows, clk, rfl, zJ, L7⟩
  have e9 : ((i : Int) + 1).toNat = i + 1 := by omega
  refine W.sr ?_
  simp (disch := omega) [gw, e9]
  refine bH [1, 4, 5, 6, 8, 9, 10, 11] ?_
  refine W.row (id := 45) (emap ie (List.replicate (i + 1) 0)) (by simp; exact ⟨rfl, rfl, rfl⟩) (qT _) ?_
  refine W.sr ?_
  simp (disch := omega) [gw, L7, abH]
  refine bH [1, 4, 5, 6, 8, 9, 11] ?_
  have kG := bJ alz
  refine W.freeze 45 (by simp) (fun K hK => ?_)
  simp [kG]
  refine hK _ ?_; clear hK K
  refine W.sr ?_
  simp (disch := omega) [gw, zJ]
  refine bZ f1 ?_
  refine cI [1, 4, 5, 6, 8, 9, 11] f3 ?_
  refine W.b8 (fun K hK => ?_)
  simp (disch := omega) [gw, zJ]
  refine bZ f2 ?_
  refine bZ f4 ?_
  refine bZ f5 ?_
  refine W.lw [1, 4, 5, 6, 8, 9] hK ?_; clear hK K; simp
  refine W.b8 (fun K hK => ?_); simp (disch := omega) [gw]
  refine hK _ ⟨i, _, aB _ [1, 4, 5, 6, 8, 9], by omega, q2, r2, _, _, rfl, by simp [zJ], by omega, yT, b1, b2, cr2⟩
 ·have hj0 : j = 0 := by simp at h; omega
  subst hj0
  simp only [ps] at yT
  rw [← yT]
  refine fB ?_
  refine aA [4, 5, 6, 7] ?_
  exact bT
def jM (x : List Int) : List Int := aN (x.map (p8 (bK x)))
def L9 (a b : List Int) : List Int := if i0 a b % 2 = 1 ∧ lead b < 0 then jM (gH (yO a b).2) else jM (yO a b).2
theorem iA (x : List Int) : ∀ c ∈ x, ((bK x : Nat) : Int) ∣ c := by
 have key : ∀ (l : List Int) (g : Nat), (∀ c ∈ l, ((l.foldl (fun g c => Nat.gcd g c.natAbs) g : Nat) : Int) ∣ c) ∧ l.foldl (fun g c => Nat.gcd g c.natAbs) g ∣ g := by
  intro l
  induction l with
  | nil => intro g; exact ⟨fun c hc => (by cases hc), Nat.dvd_refl _⟩
  | cons c l ih =>
   intro g
   obtain ⟨h1, h2⟩ := ih (Nat.gcd g c.natAbs)
   simp only [List.foldl_cons]
   refine ⟨fun d hd => ?_, Nat.dvd_trans h2 (Nat.gcd_dvd_left _ _)⟩
   rcases List.mem_cons.1 hd with rfl | hd
   ·exact Int.ofNat_dvd_left.2 (Nat.dvd_trans h2 (Nat.gcd_dvd_right _ _))
   ·exact h1 d hd
 exact (key x 0).1
theorem MA {x : List Int} {c : Int} (hc : c ∈ x) (h : c ≠ 0) : bK x ≠ 0 := by
 intro h0
 have := iA x c hc
 rw [h0] at this
 obtain ⟨k, hk⟩ := this
 simp at hk
 exact h hk
theorem cD {x : List Int} (hc : Cn x) (h : x ≠ []) : bK x ≠ 0 := by
 have hl : 0 < x.length := List.length_pos_iff.2 h
 exact MA (c := lead x) (bU (by omega)) (cK hc hl)
theorem TQ {x : List Int} {s : Nat} (hx : ∀ c ∈ x, sz LL c ≤ s) (hc : Cn x) (h : x ≠ []) : sz LL (bK x : Int) ≤ s := by
 have hl : 0 < x.length := List.length_pos_iff.2 h
 have hm : lead x ∈ x := bU (by omega)
 refine Nat.le_trans (cZ fY ?_) (hx _ hm)
 have := Int.le_of_dvd (a := (bK x : Int)) (b := ((lead x).natAbs : Int)) (by have := cK hc hl; omega) (Int.dvd_natAbs.2 (iA x _ hm))
 omega
theorem vS (x : List Int) (hx : PD x) : aG env.P 219 [.sl [[Po x]]] (I (bK x)) := by
 have hl := hx.len
 have := L8 [x.map tA] 1099511627773 (by decide) (fun p hp c hc => by
  simp only [List.mem_singleton] at hp
  subst hp
  simp only [List.mem_map] at hc
  obtain ⟨v, hv, rfl⟩ := hc
  have h1 := hx.sz v hv
  exact ⟨fR fY _, by unfold sz at h1; show (aS LL v.natAbs).length ≤ _; omega⟩) (by simp) (by simp; omega)
 have e : ([x.map tA].flatten.map gv) = x := by simp only [List.flatten_cons, List.flatten_nil, List.append_nil, cE]
 rw [e] at this
 have e2 : aI pe [x.map tA] = .sl [[Po x]] := by rw [jH]; rfl
 rw [e2] at this
 exact this
theorem MB (a b : RP) {s s' N : Nat} (ha : sO a) (hb : sO b) (sa : Bd LL s N (a.map gv)) (sb : Bd LL s' N (b.map gv)) (hB : s + N * (s' + N + 1) + s' + N + N + 10 < 1099511627774) :
  aG env.P 154 [Pg a, Pg b] (if mH b = [] then .fH [Po [], .int .i64 2] else .fH [Po (L9 (mH a) (mH b)), .int .i64 0]) := by
 have hP := QL a b ha hb sa sb hB
 have hL := LN b hb
 have hA : Bd LL s N (mH a) := sa.cut
 have TP : Bd LL s' N (mH b) := sb.cut
 have ca : Cn (mH a) := Cn.cut _
 refine bV [(0, Pg a), (1, Pg b)] Tryz.func154 ?_
 generalize mH a = x at *
 generalize mH b = y at *
 refine aA [0, 1] ?_
 by_cases hy : y = []
 ·rw [if_pos hy] at hP ⊢
  refine aK [1, 7, 8, 9] hP ?_
  refine aL [1, 7, 8, 9, 19] ?_
  refine bE ?_ ?_ <;> intro h
  ·refine aA [4, 5] ?_
   refine W.ret ?_
   simp [go]
   rfl
  ·cases h
 rw [if_neg hy] at hP ⊢
 have P9 : 0 < y.length := List.length_pos_iff.2 hy
 have hkN : i0 x y ≤ N := by unfold i0; have := hA.len; omega
 obtain ⟨_, zC⟩ := aa9 fY TP (i0 x y) s [] x hkN ⟨by simp, fun c hc => by cases hc⟩ (hA.mono (by omega) (by omega))
 obtain ⟨_, cr⟩ := BO (b := y) ca
 rw [show (ps y (lead y) (i0 x y) [] x) = yO x y from rfl] at zC
 have hmul := Nat.mul_le_mul_right (s' + N + 1) hkN
 have WX := xD (PB.of zC (by omega) (by omega))
 refine aK [1, 7, 8, 9] hP ?_
 refine aL [1, 7, 8, 9, 19] ?_
 refine bE ?_ ?_ <;> intro h
 ·cases h
 refine W.skip ?_
 obtain ⟨r2, dP⟩ : ∃ r2, r2 = if i0 x y % 2 = 1 ∧ lead y < 0 then gH (yO x y).2 else (yO x y).2 := ⟨_, rfl⟩
 have ary : L9 x y = jM r2 := by rw [dP, L9]; split <;> rfl
 have hbr : PD r2 := by
  rw [dP]; split
  ·exact PD.of zC.gH (by omega) (by omega)
  ·exact PD.of zC (by omega) (by omega)
 have hcr : Cn r2 := by
  rw [dP]; split
  ·exact Cn.gH _
  ·exact cr
 rw [ary]
 refine W.gS (fun σ => ∃ (rows : Pm.Rows) (clk : Nat), σ = ⟨fa [(7, Po r2)], rows, clk⟩) ?_ ?_
 ·
  by_cases hk : i0 x y % 2 = 1
  ·refine W.gM (fun σ => ∃ (rows : Pm.Rows) (clk : Nat), σ = ⟨fa [(7, Po (yO x y).2), (28, .bool (decide (lead y < 0)))], rows, clk⟩) (fun K hK => ?_) ?_
   ·have wO : (i0 x y : Int) % 2 = 1 := by omega
    simp (disch := omega) [gw, wO]
    refine bZ hL ?_
    exact hK _ _ (aB _ [7, 28]) ⟨_, _, rfl⟩
   rintro _ ⟨rows, clk, rfl⟩
   refine W.aaY (lead y < 0) rfl (fun h => ?_) (fun h => ?_)
   ·rw [if_pos ⟨hk, h⟩] at dP
    subst dP
    refine W.b8 (fun K hK => ?_)
    simp (disch := omega) [gw]
    refine bZ WX ?_
    exact hK _ ⟨_, aB _ [7], _, _, rfl⟩
   ·rw [if_neg (fun h2 => h h2.2)] at dP
    subst dP
    refine W.skip ?_
    exact ⟨_, aB _ [7], _, _, rfl⟩
  ·rw [if_neg (fun h2 => hk h2.1)] at dP
   subst dP
   refine W.gM (fun σ => ∃ (rows : Pm.Rows) (clk : Nat), σ = ⟨fa [(7, Po (yO x y).2), (28, .bool false)], rows, clk⟩) (fun K hK => ?_) ?_
   ·have wO : ((i0 x y : Int) % 2 == 1) = false := by simp; omega
    simp (disch := omega) [gw, wO]
    exact hK _ _ (aB _ [7, 28]) ⟨_, _, rfl⟩
   rintro _ ⟨rows, clk, rfl⟩
   refine bE ?_ ?_ <;> intro h
   ·cases h
   ·refine W.skip ?_
    exact ⟨_, aB _ [7], _, _, rfl⟩
 rintro _ ⟨rows, clk, rfl⟩
 clear dP ary
 refine aL [7, 33] ?_
 refine bE ?_ ?_ <;> intro h
 ·have h : r2 = [] := by simp at h; exact h
  subst h
  refine aA [4, 5] ?_
  refine W.ret ?_
  simp [go]
  rfl
 ·have h : r2 ≠ [] := by simp at h; exact h
  have hC := vS r2 hbr
  have hgp := cD hcr h
  have hO := L6 r2 (bK r2) hbr (Nat.lt_of_le_of_lt (TQ (s := 1099511627773) (fun c hc => by have := hbr.sz c hc; omega) hcr h) (by decide)) (by omega)
  rw [show aN (r2.map (p8 (bK r2))) = jM r2 from rfl] at hO
  generalize (bK r2 : Int) = g at *
  generalize jM r2 = pr at *
  refine W.skip ?_
  refine iU ?_
  refine bZ hC ?_
  refine cI [4, 5] hO ?_
  exact bT
end Go.Proofs.YtelhfbikiccfkaaGreat
