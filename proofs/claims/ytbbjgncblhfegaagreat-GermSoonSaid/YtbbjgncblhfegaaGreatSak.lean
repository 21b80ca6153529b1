import Derived.Test.YtbbjgncblhfegaaGreatSah
import Derived.Test.YtbbjgncblhfegaaGreatSai
import Derived.Test.YtbbjgncblhfegaaGreatSaj
set_option linter.unusedSimpArgs false
set_option linter.unusedVariables false
namespace Go.Proofs.YtbbjgncblhfegaaGreat
open Go Pm
abbrev Y (x : Int) : Prop := sz 2 x < 549755813888
theorem Y.z {x : Int} (h : Y x) : Z x := by simp only [Y, Z] at *; omega
theorem z0 {x y : Int} (h : Y y) (uQ : x.natAbs ≤ y.natAbs) : Y x := Nat.lt_of_le_of_lt (cC (by decide) uQ) h
theorem wR {x y : Int} : dN x y ≤ 0 ↔ x ≤ y := by simp only [dN]; split <;> (try split) <;> omega
@[simp] theorem al8 {l : List Int} {x : Int} : [PV.int .i64 x] :: emap aF l = emap aF (x :: l) := by simp [emap]
@[simp] theorem ad9 {l : List Int} : (∀ e ∈ emap aF l, ∀ p ∈ e, bZ p = true) = True := by simp [emap]
theorem UO {l : List Int} (h : b9 10000 l) (k : Nat) (hk : k ≤ l.length) : V 10000 (l.drop k) ≤ V 10000 l := by
 rw [jB l k hk]
 have h1 := bF (by decide) (h.take k)
 have h2 := bF (by decide) (h.drop k)
 have h3 : 1 ≤ (10000 : Int) ^ k := Int.pow_pos (by decide)
 have h4 := Int.mul_le_mul_of_nonneg_right h3 h2
 omega
theorem JG (x y : Int) (hx : 0 ≤ x) (hy : 0 < y) (zx : Y x) (zy : Y y) : aJ env.P 230 [Dn x, Dn y] (.eP [Dn (x / y), Dn (x % y)]) := by
 have hal : (aR DD x.toNat).length < 549755813888 := Nat.lt_of_le_of_lt (jD hx) zx
 have la := kN x.toNat
 have hVa := tP hx
 refine aB (E := env) (fun _ => 0) [(0, Dn x), (1, Dn y)] Tryz.func230 rfl (by kernel_rfl) (by kernel_rfl) (show 2 ≤ 59 by decide) (by simp) ?_
 simp only [Dn]
 generalize ha : aR DD x.toNat = a at *
 refine W.sr ?_; simp (disch := omega) [gw]; refine W.lx [0, 1] ?_; simp
 refine W.sr ?_; simp (disch := omega) [gw]; refine W.lx [0, 1, 6] ?_; simp
 refine W.sr ?_; simp (disch := omega) [gw]; refine W.lx [0, 1, 6, 7] ?_; simp
 refine W.TZ 7 (Dn 0) (by simp) rfl (fun K hK => ?_)
 refine W.lw [0, 1, 6, 7] hK ?_; clear hK K; simp
 refine W.seq ?_
 refine W.sr ?_; simp (disch := omega) [gw]; refine W.lx [0, 1, 6, 7, 8] ?_; simp
 refine W.block ?_
 refine W.a9 (fun k σ => ∃ (r : Int) (z : List Int) (ver : Nat) (rows : Pm.Rows) (clk : Nat), σ = ⟨fa [(0, aI aF a), (1, Dn y), (6, .own 14 ver 0 a.length), (7, Dn r), (8, .int .i64 ((k : Int) - 1))], rows, clk⟩ ∧
  rows 14 = some ⟨ver, 3, 1, emap aF z⟩ ∧ k ≤ a.length ∧ z.length = a.length ∧ b9 10000 z ∧ 0 ≤ r ∧ r < y ∧ V 10000 (a.drop k) = y * V 10000 (z.drop k) + r) a.length ?_ ?_
 ·exact ⟨_, Gh.fr [(0, aI aF a), (1, Dn y), (6, .own 14 0 0 a.length), (7, Dn 0), (8, .int .i64 ((a.length : Int) - 1))] (by simp), 0, List.replicate a.length 0, _, _, _, rfl, by simp, by omega, by simp, b9.rep (by decide) _, by omega, hy, by simp [V]⟩
 rintro k _ ⟨r, z, ver, rows, clk, rfl, hr, hk, hz, lz, CP, B3, hV⟩
 refine W.seq ?_
 refine W.sr ?_; simp (disch := omega) [gw]; refine W.lx [0, 1, 6, 7, 8, 19] ?_; simp
 refine W.cond ⟨_, rfl, fun h => ?_, fun h => ?_⟩
 ·simp at h
  obtain ⟨j, rfl⟩ : ∃ j, k = j + 1 := ⟨k - 1, by omega⟩
  clear h
  have hxj := la.nth (i := j) (by omega)
  have hVz := bF (by decide) (lz.drop (j + 1))
  have hyV := Int.mul_nonneg (Int.le_of_lt hy) hVz
  have hR : V 10000 (a.drop j) = y * (10000 * V 10000 (z.drop (j + 1))) + (nth a j + 10000 * r) := by
   rw [dW (l := a) (i := j) (by omega)]; simp only [V]; rw [hV]; grind
  have hRx : nth a j + 10000 * r ≤ x := by
   have h1 := UO la j (by omega)
   have h2 : 0 ≤ y * (10000 * V 10000 (z.drop (j + 1))) := Int.mul_nonneg (Int.le_of_lt hy) (by omega)
   omega
  have T5 : (aR DD r.toNat).length < 549755813888 := Nat.lt_of_le_of_lt (jD CP) (z0 zy (by omega))
  have lU : aI aF (aM (nth a j :: aR DD r.toNat)) = Dn (nth a j + 10000 * r) := by
   rw [sC (b9.cons.2 ⟨hxj, kN _⟩)]
   simp only [V, tP CP]
  refine W.skip ?_
  refine W.seq ?_
  refine W.block ?_
  refine W.sr ?_
  simp (disch := omega) [gw]
  refine aA (nI (nth a j :: aR DD r.toNat) (by simp; omega)) ?_
  rw [lU]
  have HQ : 0 ≤ nth a j + 10000 * r := by omega
  have hR1 : nth a j + 10000 * r < y * 10000 := by omega
  have zR : Y (nth a j + 10000 * r) := z0 zx (by omega)
  generalize nth a j + 10000 * r = R at *
  simp (disch := omega) [gw]
  refine W.lx [0, 1, 6, 7, 8] ?_; simp
  refine W.sr ?_; simp (disch := omega) [gw]; refine W.lx [0, 1, 6, 7, 8, 9, 10] ?_; simp
  refine W.seq ?_
  refine W.block ?_
  refine W.a9 (fun m σ => ∃ (lo hi : Int), σ = ⟨fa [(0, aI aF a), (1, Dn y), (6, .own 14 ver 0 a.length), (7, Dn R), (8, .int .i64 (j : Int)), (9, .int .i64 lo), (10, .int .i64 hi)], rows, clk⟩ ∧
   m = (hi - lo).toNat ∧ 0 ≤ lo ∧ lo ≤ hi ∧ hi ≤ 9999 ∧ y * lo ≤ R ∧ R < y * (hi + 1)) 9999 ?_ ?_
  ·exact ⟨_, Gh.fr [(0, aI aF a), (1, Dn y), (6, .own 14 ver 0 a.length), (7, Dn R), (8, .int .i64 (j : Int)), (9, .int .i64 0), (10, .int .i64 9999)] (by simp), 0, 9999, rfl, by decide, by omega, by omega, by omega, by omega, by omega⟩
  rintro m _ ⟨lo, hi, rfl, hm, ED, hlh, SX, h1, h2⟩
  refine W.seq ?_
  refine W.sr ?_; simp (disch := omega) [gw]; refine W.lx [0, 1, 6, 7, 8, 9, 10, 32] ?_; simp
  refine W.cond ⟨_, rfl, fun h => ?_, fun h => ?_⟩
  ·simp at h
   refine W.skip ?_
   refine W.block ?_
   refine W.sr ?_; simp (disch := omega) [gw]; refine W.lx [0, 1, 6, 7, 8, 9, 10, 11] ?_; simp
   have G7 : lo < (lo + hi + 1) / 2 := by omega
   have hm2 : (lo + hi + 1) / 2 ≤ hi := by omega
   generalize (lo + hi + 1) / 2 = FM at *
   have hp : 0 ≤ y * FM := Int.mul_nonneg (by omega) (by omega)
   have zp : Z (y * FM) := by
    have h3 : sz 2 FM ≤ 14 := cO (by decide) (by simp; omega)
    have h4 := bU (b := 2) (by decide) (Nat.le_refl (sz 2 y)) h3
    simp only [Z, Y] at *; omega
   have hma := kG y FM 0 (by omega) zy.z (by omega) (by omega) (by decide) (by decide)
   rw [Int.add_zero] at hma
   refine W.sr ?_
   simp (disch := omega) [gw]
   refine aA hma ?_
   simp (disch := omega) [gw]
   refine aA (JD (y * FM) R hp HQ zp zR.z) ?_
   simp (disch := omega) [gw]
   refine W.lx [0, 1, 6, 7, 8, 9, 10, 11, 43] ?_; simp
   refine W.cond ⟨_, rfl, fun h => ?_, fun h => ?_⟩
   ·have h := wR.1 (of_decide_eq_true h)
    refine W.b8 (fun K hK => ?_); simp (disch := omega) [gw]
    exact hK _ ⟨(hi - FM).toNat, _, aC _ [0, 1, 6, 7, 8, 9, 10], by omega, FM, hi, rfl, rfl, by omega, by omega, by omega, h, h2⟩
   ·have h := of_decide_eq_false h
    rw [wR] at h
    refine W.b8 (fun K hK => ?_); simp (disch := omega) [gw]
    refine hK _ ⟨(FM - 1 - lo).toNat, _, aC _ [0, 1, 6, 7, 8, 9, 10], by omega, lo, FM - 1, rfl, rfl, by omega, by omega, by omega, h1, ?_⟩
    rw [show FM - 1 + 1 = FM by omega]; omega
  ·simp at h
   have auh : lo = hi := by omega
   subst auh
   have hp : 0 ≤ y * lo := Int.mul_nonneg (by omega) (by omega)
   have zp : Y (y * lo) := z0 zR (by omega)
   have hma := kG y lo 0 (by omega) zy.z (by omega) (by omega) (by decide) (by decide)
   rw [Int.add_zero] at hma
   refine W.exit ?_; simp only [pX, if_true, if_false, reduceIte, Nat.reduceEqDiff]
   refine W.sr ?_; simp (disch := omega) [gw, hr]
   refine W.lx [0, 1, 6, 7, 8, 9] ?_; simp
   refine W.b8 (fun K hK => ?_)
   simp (disch := omega) [gw]
   refine aA hma ?_
   simp (disch := omega) [gw]
   refine aA (zY R (y * lo) hp h1 zR.z) ?_
   simp (disch := omega) [gw]
   refine W.lw [0, 1, 6, 7, 8] hK ?_; clear hK K; simp
   refine W.b8 (fun K hK => ?_); simp (disch := omega) [gw]
   refine hK _ ⟨j, _, aC _ [0, 1, 6, 7, 8], by omega, R - y * lo, z.set j lo, ver, _, _, rfl, by simp, by omega, by simpa using hz, lz.set (by omega), by omega, by rw [Int.mul_add] at h2; omega, ?_⟩
   rw [hR, dW (l := z.set j lo) (i := j) (by simp; omega), dS (by omega), List.drop_set_of_lt (by omega)]
   simp only [V]
   grind
 ·simp at h
  have wQ : k = 0 := by omega
  subst wQ
  simp only [List.drop_zero] at hV
  have ez : z.take a.length = z := bE hz
  have hzn := bF (by decide) lz
  rw [hVa] at hV
  have e1 : x / y = V 10000 z := by
   rw [hV, Int.mul_add_ediv_left _ _ (by omega), Int.ediv_eq_zero_of_lt CP B3]; simp
  have e2 : x % y = r := by
   rw [hV, Int.mul_add_emod_self_left, Int.emod_eq_of_lt CP B3]
  refine W.exit ?_; simp only [pX, if_true, if_false, reduceIte, Nat.reduceEqDiff]
  refine W.sr ?_
  simp (disch := omega) [gw, hr, ez]
  refine aA (nI z (by omega)) ?_
  simp (disch := omega) [gw]
  refine W.lx [4, 5] ?_; simp
  refine W.ret ?_
  have h4 := sC lz
  simp only [Dn] at h4
  rw [e1, e2, ← h4]
  simp [go]
theorem z5 (a b : Int) (za : Y a) (zb : Y b) : aJ env.P 175 [RI a, RI b] (RI (Int.gcd a b)) := by
 refine aB (E := env) (fun _ => 0) [(0, RI a), (1, RI b)] Tryz.func175 rfl (by kernel_rfl) (by kernel_rfl) (show 2 ≤ 26 by decide) (by simp) ?_
 refine W.sr ?_; simp (disch := omega) [gw]; refine W.lx [2, 3, 4] ?_; simp
 refine W.sd ?_; simp (disch := omega) [gw]; refine W.lx [4, 5, 6] ?_; simp
 refine W.seq ?_
 refine W.block ?_
 refine W.a9 (fun k σ => ∃ (x : Nat) (rows : Pm.Rows) (clk : Nat), σ = ⟨fa [(4, .ptr 4 2 0 0), (5, aI aF (aR DD x)), (6, aI aF (aR DD k))], rows, clk⟩ ∧ rows 4 = some ⟨2, 48, 2, [[.nil, .bool false]]⟩ ∧ Nat.gcd x k = Int.gcd a b ∧ Y (x : Int) ∧ Y (k : Int)) b.natAbs ?_ ?_
 ·exact ⟨_, .refl, a.natAbs, _, _, rfl, by simp, rfl, by simpa [Y, sz] using za, by simpa [Y, sz] using zb⟩
 rintro k _ ⟨x, rows, clk, rfl, jP, hg, zx, zk⟩
 have e0 : (aR DD k).length = 0 ↔ k = 0 := by rw [List.length_eq_zero_iff, dM LF]
 refine W.seq ?_
 refine W.sr ?_; simp (disch := omega) [gw]; refine W.lx [4, 5, 6, 15] ?_; simp
 refine W.cond ⟨_, rfl, fun h => ?_, fun h => ?_⟩
 ·have wQ : k ≠ 0 := by intro h0; have h1 := e0.2 h0; simp at h; omega
  have hdiv := JG (x : Int) (k : Int) (by omega) (by omega) zx zk
  have em : (((x : Int) % k).toNat) = x % k := by rw [← Int.natCast_emod]; exact Int.toNat_natCast _
  have ed : (((x : Int) / k).toNat) = x / k := by rw [← Int.natCast_ediv]; exact Int.toNat_natCast _
  simp only [Dn, em, ed, Int.toNat_natCast] at hdiv
  have eZ := Nat.mod_lt x (show k > 0 by omega)
  have m8 : Nat.gcd k (x % k) = Int.gcd a b := by rw [← hg, Nat.gcd_comm x k, Nat.gcd_rec k x, Nat.gcd_comm]
  have zm : Y ((x % k : Nat) : Int) := z0 zk (by simp only [Int.natAbs_natCast]; omega)
  refine W.skip ?_
  refine W.block ?_
  refine W.sr ?_
  simp (disch := omega) [gw]
  refine aA hdiv ?_
  generalize x % k = y at *
  simp (disch := omega) [gw]
  refine W.lx [4, 6, 8] ?_; simp
  refine W.b8 (fun K hK => ?_); simp (disch := omega) [gw]
  exact hK _ ⟨y, _, aC _ [4, 5, 6], eZ, k, _, _, rfl, by simp [jP], m8, zk, zm⟩
 ·have wQ : k = 0 := by rw [← e0]; simp at h; simp [h]
  subst wQ
  rw [Nat.gcd_zero_right] at hg
  subst hg
  refine W.exit ?_; simp only [pX, if_true, if_false, reduceIte, Nat.reduceEqDiff]
  refine W.sr ?_; simp (disch := omega) [gw, jP]
  refine W.lx [4] ?_; simp
  refine W.ret ?_
  simp [go]
theorem NL (a b : Int) : (if decide (a < 0) != decide (b < 0) then -((a.natAbs / b.natAbs : Nat) : Int) else ((a.natAbs / b.natAbs : Nat) : Int)) = a.tdiv b := by
 have h : ∀ x y : Nat, ((x / y : Nat) : Int) = (x : Int).tdiv y := fun x y => by rw [Int.natCast_ediv, Int.tdiv_eq_ediv_of_nonneg (by omega)]
 rw [h]
 by_cases h1 : a < 0 <;> by_cases h2 : b < 0
 ·simp only [h1, h2, show (a.natAbs : Int) = -a by omega, show (b.natAbs : Int) = -b by omega]; simp
 ·simp only [h1, h2, show (a.natAbs : Int) = -a by omega, show (b.natAbs : Int) = b by omega]; simp
 ·simp only [h1, h2, show (a.natAbs : Int) = a by omega, show (b.natAbs : Int) = -b by omega]; simp
 ·simp only [h1, h2, show (a.natAbs : Int) = a by omega, show (b.natAbs : Int) = b by omega]; simp
theorem tQ (a b : Int) (hb : b ≠ 0) (za : Y a) (zb : Y b) : aJ env.P 176 [RI a, RI b] (RI (a.tdiv b)) := by
 have hdiv := JG (a.natAbs : Int) (b.natAbs : Int) (by omega) (by omega) (by simpa [Y, sz] using za) (by simpa [Y, sz] using zb)
 have em : (((a.natAbs : Int) % b.natAbs).toNat) = a.natAbs % b.natAbs := by rw [← Int.natCast_emod]; exact Int.toNat_natCast _
 have ed : (((a.natAbs : Int) / b.natAbs).toNat) = a.natAbs / b.natAbs := by rw [← Int.natCast_ediv]; exact Int.toNat_natCast _
 have hs := NL a b
 refine aB (E := env) (fun _ => 0) [(0, RI a), (1, RI b)] Tryz.func176 rfl (by kernel_rfl) (by kernel_rfl) (show 2 ≤ 22 by decide) (by simp) ?_
 refine W.sr ?_; simp (disch := omega) [gw]; refine W.lx [2, 3, 4] ?_; simp
 simp only [Dn, em, ed, Int.toNat_natCast] at hdiv
 generalize a.natAbs / b.natAbs = q at *
 generalize a.natAbs % b.natAbs = r at *
 refine W.sr ?_
 simp (disch := omega) [gw]
 refine aA hdiv ?_
 simp (disch := omega) [gw]
 refine W.lx [2, 3, 4, 5] ?_; simp
 refine W.sr ?_
 simp (disch := omega) [gw]
 refine aA (lJ q (decide (a < 0) != decide (b < 0))) ?_
 rw [hs]
 simp (disch := omega) [gw]
 refine W.lx [4] ?_; simp
 refine W.ret ?_
 simp [go]
def re (q : Rat) : List PV := [aI aF (aR DD q.num.natAbs), .bool (decide (q.num < 0)), aI aF (aR DD q.den), .bool false]
@[simp] theorem aui {q : Rat} : re q = [aI aF (aR DD q.num.natAbs), .bool (decide (q.num < 0)), aI aF (aR DD q.den), .bool false] := rfl
abbrev RR (q : Rat) : PV := .ag (re q)
def cP (n d : Int) : Rat := if d = 0 then n else Rat.divInt n d
theorem j8 (n : Int) : cP n 1 = n := by
 rw [cP, if_neg (by decide), Rat.divInt_eq_div]
 grind
structure ZR (k : Nat) (q : Rat) : Prop where
 n : sz 2 q.num ≤ k
 d : sz 2 (q.den : Int) ≤ k
abbrev YY : Nat := 137438953472
theorem n9 (n d : Int) (hd : d ≠ 0) : (cP n d).num = (if d < 0 then -n else n) / (Int.gcd (if d < 0 then -n else n) (if d < 0 then -d else d)) := by
 rw [cP, if_neg hd, Rat.num_divInt]
 by_cases h : d < 0
 ·simp only [h, if_true]
  rw [Int.sign_eq_neg_one_of_neg h, Int.gcd_comm d n, Int.neg_gcd, Int.gcd_neg]; simp
 ·simp only [h, if_false]
  rw [Int.sign_eq_one_of_pos (by omega), Int.gcd_comm d n]; simp
theorem oA (n d : Int) (hd : d ≠ 0) : ((cP n d).den : Int) = (if d < 0 then -d else d) / (Int.gcd (if d < 0 then -n else n) (if d < 0 then -d else d)) := by
 rw [cP, if_neg hd, Rat.den_divInt, if_neg hd]
 by_cases h : d < 0
 ·simp only [h, if_true]
  rw [Int.gcd_comm d n, Int.neg_gcd, Int.gcd_neg]
  rw [Int.natCast_ediv]; congr 1; omega
 ·simp only [h, if_false]
  rw [Int.gcd_comm d n, Int.natCast_ediv]; congr 1; omega
theorem z6 {q : Rat} {n d : Int} (h1 : q.num = n) (h2 : (q.den : Int) = d) : RR q = .ag [aI aF (aR DD n.natAbs), .bool (decide (n < 0)), aI aF (aR DD d.natAbs), .bool (decide (d < 0))] := by
 subst h1; subst h2
 have : ¬ ((q.den : Int) < 0) := by omega
 simp [this]
theorem jE (n d : Int) (zn : Y n) (zd : Y d) : aJ env.P 95 [RI n, RI d] (RR (cP n d)) := by
 refine aB (E := env) (fun id => if id = 4 then 2 else 0) [(0, RI n), (1, RI d)] Tryz.func95 rfl (by kernel_rfl) (by kernel_rfl) (show 2 ≤ 39 by decide) (by simp) ?_
 refine W.sr ?_; simp (disch := omega) [gw]; refine W.lx [2, 3, 4] ?_; simp
 refine W.fY (fun σ => ∃ (d1 : Int) (rows : Pm.Rows) (clk : Nat), σ = ⟨fa [(2, .ptr 2 0 0 0), (3, .ptr 3 1 0 0), (4, .ptr 4 2 0 0)], rows, clk⟩ ∧ rows 2 = some ⟨0, 48, 2, [[aI aF (aR DD n.natAbs), .bool (decide (n < 0))]]⟩ ∧
  rows 3 = some ⟨1, 48, 2, [[aI aF (aR DD d1.natAbs), .bool (decide (d1 < 0))]]⟩ ∧ rows 4 = some ⟨2, 50, 4, [[.nil, .bool false, .nil, .bool false]]⟩ ∧ d1 ≠ 0 ∧ cP n d = cP n d1 ∧ Y d1) ?_ ?_
 ·
  refine W.sr ?_
  simp (disch := omega) [gw]
  refine aA (DE d) ?_
  simp (disch := omega) [gw]
  refine W.lx [2, 3, 4, 7] ?_; simp
  refine W.cond ⟨_, rfl, fun h => ?_, fun h => ?_⟩
  ·have h := of_decide_eq_true h
   subst h
   refine W.b8 (fun K hK => ?_)
   simp (disch := omega) [gw]
   refine aA (mD 1 (by decide) (by decide)) ?_
   simp (disch := omega) [gw]
   refine hK _ ⟨_, aC _ [2, 3, 4], 1, _, _, rfl, by simp, by simp, by simp, by decide, by rw [j8]; simp [cP], ?_⟩
   have : sz 2 1 ≤ 1 := cO (by decide) (by decide)
   simp only [Y]; omega
  ·have h := of_decide_eq_false h
   refine W.skip ?_
   exact ⟨_, aC _ [2, 3, 4], d, _, _, rfl, by simp, by simp, by simp, h, rfl, zd⟩
 rintro _ ⟨d1, rows, clk, rfl, cJ, gC, jP, FK, hq, zd1⟩
 rw [hq]
 have q1 := n9 n d1 FK
 have q2 := oA n d1 FK
 generalize cP n d1 = q at *
 clear hq zd d
 refine W.fY (fun σ => ∃ (n2 d2 : Int) (rows : Pm.Rows) (clk : Nat), σ = ⟨fa [(2, .ptr 2 0 0 0), (3, .ptr 3 1 0 0), (4, .ptr 4 2 0 0)], rows, clk⟩ ∧ rows 2 = some ⟨0, 48, 2, [[aI aF (aR DD n2.natAbs), .bool (decide (n2 < 0))]]⟩ ∧
  rows 3 = some ⟨1, 48, 2, [[aI aF (aR DD d2.natAbs), .bool (decide (d2 < 0))]]⟩ ∧ rows 4 = some ⟨2, 50, 4, [[.nil, .bool false, .nil, .bool false]]⟩ ∧ 0 < d2 ∧ q.num = n2 / Int.gcd n2 d2 ∧ (q.den : Int) = d2 / Int.gcd n2 d2 ∧ Y n2 ∧ Y d2) ?_ ?_
 ·
  refine W.sr ?_; simp (disch := omega) [gw, gC]
  refine W.lx [2, 3, 4, 10] ?_; simp
  refine W.cond ⟨_, rfl, fun h => ?_, fun h => ?_⟩
  ·have h := of_decide_eq_true h
   simp only [h, if_true] at q1 q2
   have hn := pV n
   have hd := pV d1
   have zn2 : Y (-n) := by simpa [Y, n5] using zn
   have zd2 : Y (-d1) := by simpa [Y, n5] using zd1
   obtain ⟨n2, hn2⟩ : ∃ m, m = -n := ⟨_, rfl⟩
   obtain ⟨d2, MB⟩ : ∃ m, m = -d1 := ⟨_, rfl⟩
   rw [← hn2] at hn zn2 q1 q2
   rw [← MB] at hd zd2 q1 q2
   refine W.M4 (fun K hK => ?_)
   rw [if_pos rfl, dR]
   simp (disch := omega) [gw, cJ]
   refine aA hn ?_
   simp (disch := omega) [gw, cJ, gC]
   refine aA hd ?_
   simp (disch := omega) [gw, cJ, gC]
   exact hK _ ⟨_, aC _ [2, 3, 4], n2, d2, _, _, rfl, by simp, by simp, by simp [jP], by omega, q1, q2, zn2, zd2⟩
  ·have h := of_decide_eq_false h
   simp only [h, if_false] at q1 q2
   refine W.skip ?_
   exact ⟨_, aC _ [2, 3, 4], n, d1, _, _, rfl, cJ, gC, jP, by omega, q1, q2, zn, zd1⟩
 clear cJ gC jP q1 q2
 rintro _ ⟨n2, d2, rows, clk, rfl, cJ, gC, jP, h0, q1, q2, zn2, zd2⟩
 refine W.seq ?_
 refine W.gW (fun σ => ∃ (b : Bool), σ = ⟨fa [(2, .ptr 2 0 0 0), (3, .ptr 3 1 0 0), (4, .ptr 4 2 0 0), (25, .bool b)], rows, clk⟩ ∧ (b = true ↔ (aR DD d2.natAbs).length = 1 ∧ nth (aR DD d2.natAbs) 0 = 1)) (fun K hK => ?_) ?_
 ·by_cases h1 : (aR DD d2.natAbs).length = 1
  ·have h2 : ((aR DD d2.natAbs).length : Int) = 1 := by omega
   simp (disch := omega) [gw, gC, h1, h2]
   exact hK _ _ (aC _ [2, 3, 4, 25]) ⟨_, rfl, by simp [h1]⟩
  ·have h2 : ¬ ((aR DD d2.natAbs).length : Int) = 1 := by omega
   have h3 : (((aR DD d2.natAbs).length : Int) == 1) = false := by simpa using h2
   simp (disch := omega) [gw, gC, h3]
   exact hK _ _ (aC _ [2, 3, 4, 25]) ⟨_, rfl, by simp [h1, h2]⟩
 rintro _ ⟨b, rfl, hb⟩
 refine W.cond ⟨_, rfl, fun h => ?_, fun h => ?_⟩
 ·have hb := hb.1 h
  have MB : d2 = 1 := by
   have hv := aoY d2
   obtain ⟨h1, h2⟩ := hb
   match hl : aR DD d2.natAbs, h1 with
   | [x], _ =>
    rw [hl] at h2 hv
    simp [nth, V] at h2 hv
    omega
  subst MB
  rw [Int.gcd_one] at q1 q2
  rw [z6 (n := n2) (d := 1) (by simpa using q1) (by simpa using q2)]
  refine W.sr ?_; simp (disch := omega) [gw, cJ, gC, jP]
  refine W.lx [4] ?_; simp
  refine W.ret ?_
  simp [go]
 ·refine W.skip ?_
  have hgp : 0 < Int.gcd n2 d2 := Int.gcd_pos_of_ne_zero_right _ (by omega)
  have e1 : n2.tdiv (Int.gcd n2 d2) = q.num := by rw [q1]; exact Int.tdiv_eq_ediv_of_dvd (Int.gcd_dvd_left ..)
  have e2 : d2.tdiv (Int.gcd n2 d2) = q.den := by rw [q2]; exact Int.tdiv_eq_ediv_of_dvd (Int.gcd_dvd_right ..)
  have zg : Y (Int.gcd n2 d2 : Int) := z0 zd2 (by
   have := Int.le_of_dvd h0 (Int.gcd_dvd_right n2 d2); omega)
  have ZS := tQ n2 (Int.gcd n2 d2) (by omega) zn2 zg
  have hq2 := tQ d2 (Int.gcd n2 d2) (by omega) zd2 zg
  rw [e1] at ZS
  rw [e2] at hq2
  have hg := z5 n2 d2 zn2 zd2
  obtain ⟨g, hgd⟩ : ∃ g : Int, g = Int.gcd n2 d2 := ⟨_, rfl⟩
  rw [← hgd] at hg ZS hq2
  have UC : ¬ ((q.den : Int) < 0) := by omega
  refine W.sr ?_
  simp (disch := omega) [gw, cJ, gC]
  refine aA hg ?_
  simp (disch := omega) [gw, cJ, gC]
  refine W.lx [2, 3, 4, 5] ?_; simp
  refine W.sd ?_
  simp (disch := omega) [gw, cJ, gC]
  refine aA ZS ?_
  simp (disch := omega) [gw, cJ, gC]
  refine aA hq2 ?_
  simp (disch := omega) [gw, cJ, gC, jP]
  refine W.lx [4] ?_; simp
  refine W.ret ?_
  simp [go, UC]
theorem mF (n d : Int) (h1 : -9223372036854775808 ≤ n ∧ n < 9223372036854775808) (h2 : -9223372036854775808 ≤ d ∧ d < 9223372036854775808) : aJ env.P 47 [.int .i64 n, .int .i64 d] (RR (cP n d)) := by
 have z : ∀ x : Int, -9223372036854775808 ≤ x ∧ x < 9223372036854775808 → Y x := fun x hx => by
  have : sz 2 x ≤ 64 := cO (by decide) (by omega)
  simp only [Y]; omega
 have hm := jE n d (z n h1) (z d h2)
 generalize cP n d = q at *
 refine aB (E := env) (fun _ => 0) [(0, .int .i64 n), (1, .int .i64 d)] Tryz.func47 rfl (by kernel_rfl) (by kernel_rfl) (show 2 ≤ 10 by decide) (by simp) ?_
 refine W.sr ?_; simp (disch := omega) [gw]; refine W.lx [0, 1, 4] ?_; simp
 refine W.sr ?_
 simp (disch := omega) [gw]
 refine aA (mD n h1.1 h1.2) ?_
 simp (disch := omega) [gw]
 refine aA (mD d h2.1 h2.2) ?_
 simp (disch := omega) [gw]
 refine aA hm ?_
 simp (disch := omega) [gw]
 refine W.lx [4] ?_; simp
 refine W.ret ?_
 simp [go]
theorem z7 (q : Rat) : aJ env.P 90 [RR q] (RR (-q)) := by
 have hn := pV q.num
 have e : RR (-q) = .ag [aI aF (aR DD (-q.num).natAbs), .bool (decide (-q.num < 0)), aI aF (aR DD q.den), .bool false] := rfl
 rw [e]
 generalize -q.num = m at *
 refine aB (E := env) (fun _ => 0) [(0, RR q)] Tryz.func90 rfl (by kernel_rfl) (by kernel_rfl) (show 1 ≤ 9 by decide) (by simp) ?_
 refine W.sr ?_; simp (disch := omega) [gw]; refine W.lx [1, 2] ?_; simp
 refine W.sd ?_
 simp (disch := omega) [gw]
 refine aA hn ?_
 simp (disch := omega) [gw]
 refine W.lx [2] ?_; simp
 refine W.ret ?_
 simp [go]
theorem aea (p q : Rat) : cP (p.num * q.den + q.num * p.den) ((p.den : Int) * q.den) = p + q := by
 have h : ((p.den : Int) * q.den) ≠ 0 := by have := p.den_nz; have := q.den_nz; simp [Int.mul_eq_zero]; omega
 rw [cP, if_neg h, Rat.add_def', ← Int.natCast_mul, Rat.divInt_ofNat]
theorem aeb (p q : Rat) : cP (p.num * q.num) ((p.den : Int) * q.den) = p * q := by
 have h : ((p.den : Int) * q.den) ≠ 0 := by have := p.den_nz; have := q.den_nz; simp [Int.mul_eq_zero]; omega
 rw [cP, if_neg h, Rat.mul_def', ← Int.natCast_mul, Rat.divInt_ofNat]
theorem aec (p q : Rat) (hq : q ≠ 0) : cP (p.num * q.den) ((p.den : Int) * q.num) = p / q := by
 have hn : q.num ≠ 0 := fun h => hq (Rat.num_eq_zero.1 h)
 have h : ((p.den : Int) * q.num) ≠ 0 := by have := p.den_nz; exact Int.mul_ne_zero (by omega) hn
 rw [cP, if_neg h, Rat.div_def, Rat.inv_def, ← Rat.divInt_mul_divInt, Rat.num_divInt_den]
theorem pW (p q : Rat) (hp : ZR YY p) (hq : ZR YY q) : aJ env.P 58 [RR p, RR q] (RR (p + q)) := by
 have s1 := bU (b := 2) (by decide) hp.n hq.d
 have s2 := bU (b := 2) (by decide) hq.n hp.d
 have s3 := bU (b := 2) (by decide) hp.d hq.d
 have s4 := mU (b := 2) (by decide) s1 s2
 have zz : ∀ {x : Int}, sz 2 x ≤ YY → Z x := fun h => by simp only [Z, YY] at *; omega
 have m1 := dQ p.num q.den (zz hp.n) (zz hq.d)
 have m2 := dQ q.num p.den (zz hq.n) (zz hp.d)
 have m3 := dQ p.den q.den (zz hp.d) (zz hq.d)
 have m4 := zZ (p.num * q.den) (q.num * p.den) (by simp only [Z, YY] at *; omega) (by simp only [Z, YY] at *; omega)
 have m5 := jE (p.num * q.den + q.num * p.den) ((p.den : Int) * q.den) (by simp only [Y, YY] at *; omega) (by simp only [Y, YY] at *; omega)
 rw [aea] at m5
 generalize p.num * q.den + q.num * p.den = x5 at *
 generalize p.num * q.den = x1 at *
 generalize q.num * (p.den : Int) = x2 at *
 generalize (p.den : Int) * q.den = x3 at *
 generalize hr : p + q = r at *
 have d1 : RR p = .ag [aI aF (aR DD p.num.natAbs), .bool (decide (p.num < 0)), aI aF (aR DD (p.den : Int).natAbs), .bool (decide ((p.den : Int) < 0))] := z6 rfl rfl
 have d2 : RR q = .ag [aI aF (aR DD q.num.natAbs), .bool (decide (q.num < 0)), aI aF (aR DD (q.den : Int).natAbs), .bool (decide ((q.den : Int) < 0))] := z6 rfl rfl
 rw [d1, d2]
 generalize (p.den : Int) = pd at *
 generalize (q.den : Int) = qd at *
 generalize p.num = pn at *
 generalize q.num = qn at *
 refine aB (E := env) (fun _ => 0) [(0, .ag [aI aF (aR DD pn.natAbs), .bool (decide (pn < 0)), aI aF (aR DD pd.natAbs), .bool (decide (pd < 0))]), (1, .ag [aI aF (aR DD qn.natAbs), .bool (decide (qn < 0)), aI aF (aR DD qd.natAbs), .bool (decide (qd < 0))])] Tryz.func58 rfl (by kernel_rfl) (by kernel_rfl) (show 2 ≤ 22 by decide) (by simp) ?_
 refine W.sr ?_; simp (disch := omega) [gw]; refine W.lx [2, 3, 4] ?_; simp
 refine W.sd ?_
 simp (disch := omega) [gw]
 refine aA m1 ?_
 simp (disch := omega) [gw]
 refine aA m2 ?_
 simp (disch := omega) [gw]
 refine aA m4 ?_
 simp (disch := omega) [gw]
 refine aA m3 ?_
 simp (disch := omega) [gw]
 refine aA m5 ?_
 simp (disch := omega) [gw]
 refine W.lx [4] ?_; simp
 refine W.ret ?_
 simp [go]
theorem z8 (p q : Rat) (hp : ZR YY p) (hq : ZR YY q) : aJ env.P 123 [RR p, RR q] (RR (p * q)) := by
 have s1 := bU (b := 2) (by decide) hp.n hq.n
 have s2 := bU (b := 2) (by decide) hp.d hq.d
 have zz : ∀ {x : Int}, sz 2 x ≤ YY → Z x := fun h => by simp only [Z, YY] at *; omega
 have m1 := dQ p.num q.num (zz hp.n) (zz hq.n)
 have m2 := dQ p.den q.den (zz hp.d) (zz hq.d)
 have m5 := jE (p.num * q.num) ((p.den : Int) * q.den) (by simp only [Y, YY] at *; omega) (by simp only [Y, YY] at *; omega)
 rw [aeb] at m5
 generalize p.num * (q.num : Int) = x1 at *
 generalize (p.den : Int) * q.den = x2 at *
 generalize hr : p * q = r at *
 have d1 : RR p = .ag [aI aF (aR DD p.num.natAbs), .bool (decide (p.num < 0)), aI aF (aR DD (p.den : Int).natAbs), .bool (decide ((p.den : Int) < 0))] := z6 rfl rfl
 have d2 : RR q = .ag [aI aF (aR DD q.num.natAbs), .bool (decide (q.num < 0)), aI aF (aR DD (q.den : Int).natAbs), .bool (decide ((q.den : Int) < 0))] := z6 rfl rfl
 rw [d1, d2]
 generalize (p.den : Int) = pd at *
 generalize (q.den : Int) = qd at *
 generalize p.num = pn at *
 generalize q.num = qn at *
 refine aB (E := env) (fun _ => 0) [(0, .ag [aI aF (aR DD pn.natAbs), .bool (decide (pn < 0)), aI aF (aR DD pd.natAbs), .bool (decide (pd < 0))]), (1, .ag [aI aF (aR DD qn.natAbs), .bool (decide (qn < 0)), aI aF (aR DD qd.natAbs), .bool (decide (qd < 0))])] Tryz.func123 rfl (by kernel_rfl) (by kernel_rfl) (show 2 ≤ 16 by decide) (by simp) ?_
 refine W.sr ?_; simp (disch := omega) [gw]; refine W.lx [2, 3, 4] ?_; simp
 refine W.sd ?_
 simp (disch := omega) [gw]
 refine aA m1 ?_
 simp (disch := omega) [gw]
 refine aA m2 ?_
 simp (disch := omega) [gw]
 refine aA m5 ?_
 simp (disch := omega) [gw]
 refine W.lx [4] ?_; simp
 refine W.ret ?_
 simp [go]
theorem z9 (p q : Rat) (hp : ZR YY p) (hq : ZR YY q) (h0 : q ≠ 0) : aJ env.P 167 [RR p, RR q] (RR (p / q)) := by
 have s1 := bU (b := 2) (by decide) hp.n hq.d
 have s2 := bU (b := 2) (by decide) hp.d hq.n
 have zz : ∀ {x : Int}, sz 2 x ≤ YY → Z x := fun h => by simp only [Z, YY] at *; omega
 have m1 := dQ p.num q.den (zz hp.n) (zz hq.d)
 have m2 := dQ p.den q.num (zz hp.d) (zz hq.n)
 have m5 := jE (p.num * q.den) ((p.den : Int) * q.num) (by simp only [Y, YY] at *; omega) (by simp only [Y, YY] at *; omega)
 rw [aec p q h0] at m5
 generalize p.num * (q.den : Int) = x1 at *
 generalize (p.den : Int) * q.num = x2 at *
 generalize hr : p / q = r at *
 have d1 : RR p = .ag [aI aF (aR DD p.num.natAbs), .bool (decide (p.num < 0)), aI aF (aR DD (p.den : Int).natAbs), .bool (decide ((p.den : Int) < 0))] := z6 rfl rfl
 have d2 : RR q = .ag [aI aF (aR DD q.num.natAbs), .bool (decide (q.num < 0)), aI aF (aR DD (q.den : Int).natAbs), .bool (decide ((q.den : Int) < 0))] := z6 rfl rfl
 rw [d1, d2]
 generalize (p.den : Int) = pd at *
 generalize (q.den : Int) = qd at *
 generalize p.num = pn at *
 generalize q.num = qn at *
 refine aB (E := env) (fun _ => 0) [(0, .ag [aI aF (aR DD pn.natAbs), .bool (decide (pn < 0)), aI aF (aR DD pd.natAbs), .bool (decide (pd < 0))]), (1, .ag [aI aF (aR DD qn.natAbs), .bool (decide (qn < 0)), aI aF (aR DD qd.natAbs), .bool (decide (qd < 0))])] Tryz.func167 rfl (by kernel_rfl) (by kernel_rfl) (show 2 ≤ 16 by decide) (by simp) ?_
 refine W.sr ?_; simp (disch := omega) [gw]; refine W.lx [2, 3, 4] ?_; simp
 refine W.sd ?_
 simp (disch := omega) [gw]
 refine aA m1 ?_
 simp (disch := omega) [gw]
 refine aA m2 ?_
 simp (disch := omega) [gw]
 refine aA m5 ?_
 simp (disch := omega) [gw]
 refine W.lx [4] ?_; simp
 refine W.ret ?_
 simp [go]
theorem JH : aJ env.P 122 [] (RR 0) := by
 have h := mF 0 1 (by decide) (by decide)
 rw [j8] at h
 refine aB (E := env) (fun _ => 0) [] Tryz.func122 rfl (by kernel_rfl) (by kernel_rfl) (show 0 ≤ 2 by decide) (by simp) ?_
 refine W.sr ?_; simp (disch := omega) [gw]; refine W.lx [0] ?_; simp
 refine W.sr ?_
 simp (disch := omega) [gw]
 refine aA h ?_
 simp (disch := omega) [gw]
 refine W.lx [0] ?_; simp
 refine W.ret ?_
 simp [go]
def lV : List Rat → List Rat
 | [] => []
 | x :: l => if lV l = [] ∧ x = 0 then [] else x :: lV l
theorem DG : ∀ l : List Rat, lV (l ++ [0]) = lV l
 | [] => by simp [lV]
 | x :: l => by simp [lV, DG l]
theorem QM {x : Rat} (h : x ≠ 0) : ∀ l : List Rat, lV (l ++ [x]) = l ++ [x]
 | [] => by
  show lV [x] = [x]
  rw [lV, if_neg (fun hh => h hh.2)]; rfl
 | y :: l => by
  have ih := QM h l
  have hn : ¬ (l ++ [x] = [] ∧ y = 0) := by simp
  show lV (y :: (l ++ [x])) = y :: (l ++ [x])
  rw [lV, ih, if_neg hn]
abbrev qs (x : List Int) : List Rat := x.map fun (c : Int) => (c : Rat)
theorem tR : ∀ x : List Int, lV (qs x) = qs (aM x)
 | [] => rfl
 | a :: x => by
  have ih := tR x
  simp only [qs, List.map_cons] at ih ⊢
  rw [lV, ih, aM]
  by_cases h : aM x = [] ∧ a = 0
  ·simp [h]
  ·rw [if_neg h, if_neg (by simpa using h)]; simp
@[simp] theorem amb {l : List Rat} : bC 4 (emap re l) = True := c8 fun _ => rfl
@[simp] theorem ajE {v e n : Nat} {l : List Rat} : cR (some ⟨v, e, n, emap re l⟩) = True := cN fun _ => rfl
abbrev PP (l : List Rat) : PV := aI re l
theorem tS (l : List Rat) (hl : l.length < 17592186044416) : aJ env.P 97 [PP l] (PP (lV l)) := by
 refine aB (E := env) (fun _ => 0) [(0, PP l)] Tryz.func97 rfl (by kernel_rfl) (by kernel_rfl) (show 1 ≤ 22 by decide) (by simp) ?_
 refine W.sr ?_; simp (disch := omega) [gw]; refine W.lx [0] ?_; simp
 refine W.sr ?_; simp (disch := omega) [gw]; refine W.lx [0, 3] ?_; simp
 refine W.seq (W.block ?_)
 refine W.a9 (fun k σ => ∃ (rows : Pm.Rows) (clk : Nat), σ = ⟨fa [(0, PP l), (3, .int .i64 (k : Int))], rows, clk⟩ ∧ k ≤ l.length ∧ lV l = lV (l.take k)) l.length ?_ ?_
 ·exact ⟨_, .refl, _, _, rfl, by omega, by simp⟩
 rintro k _ ⟨rows, clk, rfl, hk, hc⟩
 refine W.seq ?_
 refine W.gW (fun σ => ∃ (b : Bool), σ = ⟨fa [(0, PP l), (3, .int .i64 (k : Int)), (16, .bool b)], rows, clk⟩ ∧ (b = true ↔ 0 < k ∧ nth l (k - 1) = 0)) (fun K hK => ?_) ?_
 ·simp
  by_cases h0 : 0 < k
  ·simp (disch := omega) [gw, h0]
   refine aA (DE (nth l (k - 1)).num) ?_
   simp (disch := omega) [gw, h0]
   refine hK _ _ (aC _ [0, 3, 16]) ⟨_, rfl, ?_⟩
   simp [h0, Rat.num_eq_zero]
  ·simp (disch := omega) [gw, h0]
   exact hK _ _ (aC _ [0, 3, 16]) ⟨_, rfl, by simp [h0]⟩
 rintro _ ⟨b, rfl, hb⟩
 refine W.cond ⟨_, rfl, fun h => ?_, fun h => ?_⟩
 ·obtain ⟨h0, h1⟩ := hb.1 h
  refine W.skip (W.block ?_)
  refine W.b8 (fun K hK => ?_)
  simp (disch := omega) [gw]
  refine hK _ ⟨k - 1, _, Gh.fr [(0, _), (3, .int .i64 ((k - 1 : Nat) : Int))] (by simp; omega), by omega, _, _, rfl, by omega, ?_⟩
  rw [hc, show k = (k - 1) + 1 by omega, a8 (by omega), h1, DG]
  simp
 ·have h2 : lV l = l.take k := by
   rw [hc]
   by_cases h0 : 0 < k
   ·have h1 : nth l (k - 1) ≠ 0 := fun h1 => by simp [hb.2 ⟨h0, h1⟩] at h
    rw [show k = (k - 1) + 1 by omega, a8 (by omega)]
    exact QM h1 _
   ·have : k = 0 := by omega
    subst this; simp [lV]
  refine W.exit ?_
  simp only [pX, if_true, if_false, reduceIte, Nat.reduceEqDiff]
  refine W.sr ?_; simp (disch := omega) [gw]; refine W.lx [2] ?_; simp
  refine W.ret ?_
  simp [h2]
def ri (x : Int) : List PV := [aI aF (aR DD x.natAbs), .bool (decide (x < 0)), aI aF (aR DD 1), .bool false]
@[simp] theorem Z8 {x : Int} : ri x = [aI aF (aR DD x.natAbs), .bool (decide (x < 0)), aI aF (aR DD 1), .bool false] := rfl
theorem eN (x : Int) : re (x : Rat) = ri x := by
 simp only [re, ri, Rat.num_intCast, Rat.den_intCast]
 congr
theorem oT (x : List Int) : PP (qs x) = aI ri x := by simp only [PP, aI, emap, qs, List.map_map, Function.comp_def, eN]
abbrev PI (x : List Int) : PV := aI ri x
@[simp] theorem amc {l : List Int} : bC 4 (emap ri l) = True := c8 fun _ => rfl
@[simp] theorem ajF {v e n : Nat} {l : List Int} : cR (some ⟨v, e, n, emap ri l⟩) = True := cN fun _ => rfl
@[simp] theorem auj {l : List Int} {x : Int} : emap ri l ++ [[aI aF (aR DD x.natAbs), .bool (decide (x < 0)), aI aF (aR DD 1), .bool false]] = emap ri (l ++ [x]) := by simp [emap]
@[simp] theorem auk {l : List Rat} {q : Rat} : emap re l ++ [[aI aF (aR DD q.num.natAbs), .bool (decide (q.num < 0)), aI aF (aR DD q.den), .bool false]] = emap re (l ++ [q]) := by simp [emap]
@[simp] theorem apb {l : List Int} {i : Nat} {x : Int} : gN (emap ri l) i 0 [aI aF (aR DD x.natAbs), .bool (decide (x < 0)), aI aF (aR DD 1), .bool false] = emap ri (l.set i x) := xS (n := 4) (fun _ => rfl)
theorem nK (l : List Int) (hl : l.length < 17592186044416) : aJ env.P 97 [PI l] (PI (aM l)) := by
 have := tS (qs l) (by simpa using hl)
 rwa [tR, oT, oT] at this
theorem DH (n : Int) (zn : Y n) : aJ env.P 95 [RI n, RI 1] (.ag (ri n)) := by
 have := jE n 1 zn (by have : sz 2 1 ≤ 1 := cO (by decide) (by decide); simp only [Y]; omega)
 rwa [j8, RR, eN] at this
theorem nM : aJ env.P 122 [] (.ag (ri 0)) := by
 have := JH
 rwa [RR, show (0 : Rat) = ((0 : Int) : Rat) by simp, eN] at this
theorem JI (n : Int) (h1 : -9223372036854775808 ≤ n ∧ n < 9223372036854775808) : aJ env.P 47 [.int .i64 n, .int .i64 1] (.ag (ri n)) := by
 have := mF n 1 h1 (by decide)
 rwa [j8, RR, eN] at this
theorem mW {x : Int} {k : Nat} (h : sz 2 x ≤ k) (h1 : 1 ≤ k) : ZR k (x : Rat) := ⟨by simpa using h, by simp; exact Nat.le_trans (cO (by decide) (by decide)) h1⟩
theorem UP (x y : Int) (hx : sz 2 x ≤ YY) (hy : sz 2 y ≤ YY) : aJ env.P 58 [.ag (ri x), .ag (ri y)] (.ag (ri (x + y))) := by
 have := pW x y (mW hx (by decide)) (mW hy (by decide))
 rwa [← Rat.intCast_add, RR, RR, RR, eN, eN, eN] at this
theorem DI (x y : Int) (hx : sz 2 x ≤ YY) (hy : sz 2 y ≤ YY) : aJ env.P 123 [.ag (ri x), .ag (ri y)] (.ag (ri (x * y))) := by
 have := z8 x y (mW hx (by decide)) (mW hy (by decide))
 rwa [← Rat.intCast_mul, RR, RR, RR, eN, eN, eN] at this
structure FOK (p : RP) : Prop where
 ok : ∀ c ∈ p, b9 4294967296 c.2 ∧ c.2.length < 4294967296
 len : p.length < 1099511627776
theorem UQ (p : RP) (h : FOK p) : aJ env.P 32 [Pg p] (PI (aM (p.map gv))) := by
 refine aB (E := env) (fun _ => 0) [(0, Pg p)] Tryz.func32 rfl (by kernel_rfl) (by kernel_rfl) (show 1 ≤ 23 by decide) (by simp) ?_
 have hl := h.len
 refine W.sr ?_; simp (disch := omega) [gw]; refine W.lx [0] ?_; simp
 refine W.sr ?_; simp (disch := omega) [gw]; refine W.lx [0, 3] ?_; simp
 refine W.nil 3 3 50 4 (by simp) (by decide) (fun K hK => ?_)
 refine W.lw [0, 3] hK ?_; clear hK K; simp
 refine W.seq ?_
 refine W.sr ?_; simp (disch := omega) [gw]; refine W.lx [0, 3, 6, 7] ?_; simp
 refine W.block ?_
 refine W.a9 (fun k σ => ∃ (i ver : Nat) (rows : Pm.Rows) (clk : Nat), σ = ⟨fa [(0, Pg p), (3, .own 3 ver 0 i), (6, .int .i64 p.length), (7, .int .i64 i)], rows, clk⟩ ∧ rows 3 = some ⟨ver, 50, 4, emap ri ((p.take i).map gv)⟩ ∧ k = p.length - i ∧ i ≤ p.length) p.length ?_ ?_
 ·exact ⟨_, .refl, 0, _, _, _, rfl, by simp [emap], by omega, by omega⟩
 rintro k _ ⟨i, ver, rows, clk, rfl, hr, hk, hi⟩
 refine W.sr ?_; simp (disch := omega) [gw]; refine W.lx [0, 3, 6, 7, 8] ?_; simp
 refine W.seq ?_
 refine W.cond ⟨_, rfl, fun h0 => ?_, fun h0 => ?_⟩
 ·simp at h0
  obtain ⟨uN, WO⟩ := h.ok _ (bR h0)
  have fA : ((p.take i).map gv).length = i := by simp; omega
  have hz : Y (iv (nth p i).1 (nth p i).2) := by
   have h1 := ZT uN
   have h2 : sz 2 (iv (nth p i).1 (nth p i).2) = sz 2 (V 4294967296 (nth p i).2) := by unfold iv; split <;> simp [n5]
   simp only [Y]; omega
  have hF := DC (nth p i).1 (nth p i).2 (by omega) uN
  have hM := DH _ hz
  obtain ⟨v, hv⟩ : ∃ v, v = iv (nth p i).1 (nth p i).2 := ⟨_, rfl⟩
  rw [← hv] at hF hM
  refine W.skip ?_
  refine W.seq ?_
  refine W.block ?_
  refine W.sr ?_; simp (disch := omega) [gw]; refine W.lx [0, 3, 4, 6, 7] ?_; simp
  refine W.b8 (fun K hK => ?_)
  simp (disch := omega) [gw]
  refine aA hF ?_
  simp (disch := omega) [gw]
  refine aA (mD 1 (by decide) (by decide)) ?_
  simp (disch := omega) [gw]
  refine aA hM ?_
  simp (disch := omega) [gw, hr, fA]
  refine W.lw [0, 3, 6, 7] hK ?_; clear hK K; simp
  refine W.b8 (fun K hK => ?_); simp (disch := omega) [gw]
  refine hK _ ⟨p.length - (i + 1), _, aC _ [0, 3, 6, 7], by omega, i + 1, _, _, _, rfl, ?_, by omega, by omega⟩
  rw [mV h0, show gv (nth p i) = v from hv.symm]
  simp
 ·simp at h0
  have kZ : i = p.length := by omega
  subst kZ
  refine W.exit ?_; simp only [pX, if_true, if_false, reduceIte, Nat.reduceEqDiff]
  refine W.sr ?_
  have ez : (p.map gv).take p.length = p.map gv := bE (by simp)
  simp (disch := omega) [gw, hr, ez]
  refine aA (nK (p.map gv) (by simp; omega)) ?_
  simp (disch := omega) [gw]
  refine W.lx [2] ?_; simp
  refine W.ret ?_
  simp [go]
theorem xT (l : List Int) (hl : l.length < 1099511627776) (hb : ∀ x ∈ l, -9223372036854775808 ≤ x ∧ x < 9223372036854775808) : aJ env.P 80 [aI aF l] (PI (aM l)) := by
 refine aB (E := env) (fun _ => 0) [(0, aI aF l)] Tryz.func80 rfl (by kernel_rfl) (by kernel_rfl) (show 1 ≤ 21 by decide) (by simp) ?_
 refine W.sr ?_; simp (disch := omega) [gw]; refine W.lx [0] ?_; simp
 refine W.sr ?_; simp (disch := omega) [gw]; refine W.lx [0, 3] ?_; simp
 refine W.nil 3 3 50 4 (by simp) (by decide) (fun K hK => ?_)
 refine W.lw [0, 3] hK ?_; clear hK K; simp
 refine W.seq ?_
 refine W.sr ?_; simp (disch := omega) [gw]; refine W.lx [0, 3, 6, 7] ?_; simp
 refine W.block ?_
 refine W.a9 (fun k σ => ∃ (i ver : Nat) (rows : Pm.Rows) (clk : Nat), σ = ⟨fa [(0, aI aF l), (3, .own 3 ver 0 i), (6, .int .i64 l.length), (7, .int .i64 i)], rows, clk⟩ ∧ rows 3 = some ⟨ver, 50, 4, emap ri (l.take i)⟩ ∧ k = l.length - i ∧ i ≤ l.length) l.length ?_ ?_
 ·exact ⟨_, .refl, 0, _, _, _, rfl, by simp [emap], by omega, by omega⟩
 rintro k _ ⟨i, ver, rows, clk, rfl, hr, hk, hi⟩
 refine W.sr ?_; simp (disch := omega) [gw]; refine W.lx [0, 3, 6, 7, 8] ?_; simp
 refine W.seq ?_
 refine W.cond ⟨_, rfl, fun h0 => ?_, fun h0 => ?_⟩
 ·simp at h0
  have fA : (l.take i).length = i := by simp; omega
  refine W.skip ?_
  refine W.seq ?_
  refine W.block ?_
  refine W.sr ?_; simp (disch := omega) [gw]; refine W.lx [0, 3, 4, 6, 7] ?_; simp
  refine W.b8 (fun K hK => ?_)
  simp (disch := omega) [gw]
  refine aA (JI (nth l i) (hb _ (bR h0))) ?_
  simp (disch := omega) [gw, hr, fA]
  refine W.lw [0, 3, 6, 7] hK ?_; clear hK K; simp
  refine W.b8 (fun K hK => ?_); simp (disch := omega) [gw]
  refine hK _ ⟨l.length - (i + 1), _, aC _ [0, 3, 6, 7], by omega, i + 1, _, _, _, rfl, ?_, by omega, by omega⟩
  rw [a8 h0]
  simp
 ·simp at h0
  have kZ : i = l.length := by omega
  subst kZ
  refine W.exit ?_; simp only [pX, if_true, if_false, reduceIte, Nat.reduceEqDiff]
  refine W.sr ?_
  simp (disch := omega) [gw, hr]
  refine aA (nK l (by omega)) ?_
  simp (disch := omega) [gw]
  refine W.lx [2] ?_; simp
  refine W.ret ?_
  simp [go]
structure UR (l : List Rat) : Prop where
 ok : ∀ q ∈ l, ZR YY q
 len : l.length < 1099511627776
theorem aed (k : Nat) (hk : 1 ≤ k) : ZR k 0 := ⟨by show sz 2 0 ≤ k; rw [jC]; omega, by show sz 2 1 ≤ k; exact Nat.le_trans (cO (by decide) (by decide)) hk⟩
theorem UR.nth {l : List Rat} (h : UR l) (i : Nat) : ZR YY (nth l i) := by
 by_cases hi : i < l.length
 ·exact h.ok _ (bR hi)
 ·rw [fZ (by omega)]; exact aed _ (by decide)
theorem UR.qs {x : List Int} (h : ∀ c ∈ x, sz 2 c ≤ YY) (hl : x.length < 1099511627776) : UR (qs x) := ⟨fun q hq => by
 simp only [List.mem_map] at hq
 obtain ⟨c, hc, rfl⟩ := hq
 exact mW (h c hc) (by decide), by simpa using hl⟩
@[simp] theorem ajG {l : List Rat} : (∀ e ∈ emap re l, ∀ p ∈ e, bZ p = true) = True := by simp [emap]
theorem QN (l : List Rat) (i : Nat) (hi : i < 9223372036854775808) : aJ env.P 248 [PP l, .int .i64 i] (RR (nth l i)) := by
 have hzero := JH
 refine aB (E := env) (fun _ => 0) [(0, PP l), (1, .int .i64 i)] Tryz.func248 rfl (by kernel_rfl) (by kernel_rfl) (show 2 ≤ 18 by decide) (by simp) ?_
 refine W.sr ?_; simp (disch := omega) [gw]; refine W.lx [0, 1, 4] ?_; simp
 refine W.seq ?_
 refine W.gW (fun σ => ∃ (b : Bool) (rows : Pm.Rows) (clk : Nat), σ = ⟨fa [(0, PP l), (1, .int .i64 i), (4, .ptr 4 0 0 0), (12, .bool b)], rows, clk⟩ ∧ (b = true ↔ l.length ≤ i) ∧ rows 4 = some ⟨0, 50, 4, [[.nil, .bool false, .nil, .bool false]]⟩) (fun K hK => ?_) ?_
 ·have hn : ¬ ((i : Int) < 0) := by omega
  simp (disch := omega) [gw, hn]
  exact hK _ _ (aC _ [0, 1, 4, 12]) ⟨_, _, _, rfl, by simp, by simp⟩
 rintro _ ⟨b, rows, clk, rfl, hb, jP⟩
 refine W.cond ⟨_, rfl, fun h => ?_, fun h => ?_⟩
 ·have hb := hb.1 h
  have e : nth l i = 0 := fZ hb
  rw [e]
  generalize (0 : Rat) = z at *
  refine W.sr ?_
  simp (disch := omega) [gw]
  refine aA hzero ?_
  simp (disch := omega) [gw, jP]
  refine W.lx [4] ?_; simp
  refine W.ret ?_
  simp [go]
 ·have hb : i < l.length := Nat.lt_of_not_le fun h2 => by simp [hb.2 h2] at h
  refine W.skip ?_
  refine W.sr ?_; simp (disch := omega) [gw, jP]
  refine W.lx [4] ?_; simp
  refine W.ret ?_
  simp [go]
def Z9 (a b : List Rat) : List Rat := lV ((List.range (max a.length b.length)).map fun k => nth a k + nth b k)
theorem aaa (a b : List Rat) (ha : UR a) (hb : UR b) : aJ env.P 220 [PP a, PP b] (PP (Z9 a b)) := by
 have hal := ha.len; have V7 := hb.len
 refine aB (E := env) (fun _ => 0) [(0, PP a), (1, PP b)] Tryz.func220 rfl (by kernel_rfl) (by kernel_rfl) (show 2 ≤ 28 by decide) (by simp) ?_
 obtain ⟨M, hM⟩ : ∃ M, M = max a.length b.length := ⟨_, rfl⟩
 refine W.sr ?_; simp (disch := omega) [gw]; refine W.lx [0, 1] ?_; simp
 refine W.sr ?_; simp (disch := omega) [gw]; refine W.lx [0, 1, 5] ?_; simp
 refine W.nil 5 5 50 4 (by simp) (by decide) (fun K hK => ?_)
 refine W.lw [0, 1, 5] hK ?_; clear hK K; simp
 refine W.seq ?_
 refine W.sr ?_; simp (disch := omega) [gw]; refine W.lx [0, 1, 5, 6] ?_; simp
 refine W.block ?_
 refine W.a9 (fun k σ => ∃ (i ver : Nat) (rows : Pm.Rows) (clk : Nat), σ = ⟨fa [(0, PP a), (1, PP b), (5, .own 5 ver 0 i), (6, .int .i64 i)], rows, clk⟩ ∧ rows 5 = some ⟨ver, 50, 4, emap re ((List.range i).map fun k => nth a k + nth b k)⟩ ∧ k = M - i ∧ i ≤ M) M ?_ ?_
 ·exact ⟨_, .refl, 0, _, _, _, rfl, by simp [emap], by omega, by omega⟩
 rintro k _ ⟨i, ver, rows, clk, rfl, hr, hk, hi⟩
 have em : (if a.length < b.length then (b.length : Int) else (a.length : Int)) = M := by split <;> omega
 have em2 : (if b.length < a.length then (a.length : Int) else (b.length : Int)) = M := by split <;> omega
 refine W.seq ?_
 refine W.sr ?_; simp (disch := omega) [gw, em, em2]
 refine W.lx [0, 1, 5, 6, 13] ?_; simp
 refine W.cond ⟨_, rfl, fun h => ?_, fun h => ?_⟩
 ·have h : i < M := by simp at h; omega
  refine W.skip ?_
  refine W.seq ?_
  refine W.block ?_
  have h1 := QN a i (by omega)
  have h2 := QN b i (by omega)
  have h3 := pW _ _ (ha.nth i) (hb.nth i)
  have er : (List.range (i + 1)).map (fun k => nth a k + nth b k) = (List.range i).map (fun k => nth a k + nth b k) ++ [nth a i + nth b i] := by rw [List.range_succ]; simp
  have fA : ((List.range i).map fun k => nth a k + nth b k).length = i := by simp
  generalize ((List.range i).map fun k => nth a k + nth b k) = acc at *
  generalize nth a i + nth b i = q at *
  generalize nth a i = u at *
  generalize nth b i = v at *
  refine W.b8 (fun K hK => ?_)
  simp (disch := omega) [gw]
  refine aA h1 ?_
  simp (disch := omega) [gw]
  refine aA h2 ?_
  simp (disch := omega) [gw]
  refine aA h3 ?_
  simp (disch := omega) [gw, hr, fA]
  refine W.lw [0, 1, 5, 6] hK ?_; clear hK K; simp
  refine W.b8 (fun K hK => ?_); simp (disch := omega) [gw]
  refine hK _ ⟨M - (i + 1), _, aC _ [0, 1, 5, 6], by omega, i + 1, _, _, _, rfl, by rw [er]; simp, by omega, by omega⟩
 ·have h : i = M := by simp at h; omega
  subst h
  refine W.exit ?_; simp only [pX, if_true, if_false, reduceIte, Nat.reduceEqDiff]
  have fA : ((List.range i).map fun k => nth a k + nth b k).length = i := by simp
  rw [Z9, ← hM]
  generalize ((List.range i).map fun k => nth a k + nth b k) = acc at *
  have ez := bE fA
  refine W.sr ?_
  simp (disch := omega) [gw, hr, ez]
  refine aA (tS acc (by omega)) ?_
  simp (disch := omega) [gw]
  refine W.lx [4] ?_; simp
  refine W.ret ?_
  simp [go]
def jF (a : List Rat) (c : Rat) : List Rat := lV (a.map fun x => x * c)
theorem oB (a : List Rat) (c : Rat) (ha : UR a) (hc : ZR YY c) : aJ env.P 81 [PP a, RR c] (PP (jF a c)) := by
 have hal := ha.len
 refine aB (E := env) (fun id => if id = 5 then 2 else 0) [(0, PP a), (1, RR c)] Tryz.func81 rfl (by kernel_rfl) (by kernel_rfl) (show 2 ≤ 24 by decide) (by simp) ?_
 refine W.sr ?_; simp (disch := omega) [gw]; refine W.lx [0, 3] ?_; simp
 refine W.sr ?_; simp (disch := omega) [gw]; refine W.lx [0, 3, 5] ?_; simp
 refine W.nil 5 5 50 4 (by simp) (by decide) (fun K hK => ?_)
 refine W.lw [0, 3, 5] hK ?_; clear hK K; simp
 refine W.seq ?_
 refine W.sr ?_; simp (disch := omega) [gw]; refine W.lx [0, 3, 5, 8, 9] ?_; simp
 refine W.block ?_
 refine W.a9 (fun k σ => ∃ (i ver : Nat) (rows : Pm.Rows) (clk : Nat), σ = ⟨fa [(0, PP a), (3, .ptr 3 0 0 0), (5, .own 5 ver 0 i), (8, .int .i64 a.length), (9, .int .i64 i)], rows, clk⟩ ∧ rows 5 = some ⟨ver, 50, 4, emap re ((a.take i).map fun x => x * c)⟩ ∧ rows 3 = some ⟨0, 50, 4, [re c]⟩ ∧ k = a.length - i ∧ i ≤ a.length) a.length ?_ ?_
 ·exact ⟨_, .refl, 0, _, _, _, rfl, by simp [emap], by simp, by omega, by omega⟩
 rintro k _ ⟨i, ver, rows, clk, rfl, hr, gC, hk, hi⟩
 refine W.sr ?_; simp (disch := omega) [gw]; refine W.lx [0, 3, 5, 8, 9, 10] ?_; simp
 refine W.seq ?_
 refine W.cond ⟨_, rfl, fun h => ?_, fun h => ?_⟩
 ·simp at h
  refine W.skip ?_
  refine W.seq ?_
  refine W.block ?_
  refine W.sr ?_; simp (disch := omega) [gw]; refine W.lx [0, 3, 5, 6, 8, 9] ?_; simp
  have h3 := z8 _ _ (ha.nth i) hc
  have er := mV (f := fun x => x * c) h
  have fA : ((a.take i).map fun x => x * c).length = i := by simp; omega
  generalize (a.take i).map (fun x => x * c) = acc at *
  generalize hq : nth a i * c = q at *
  refine W.M4 (fun K hK => ?_)
  rw [if_pos rfl, dR]
  simp (disch := omega) [gw, gC]
  refine aA h3 ?_
  simp (disch := omega) [gw, hr, gC, fA]
  refine W.lw [0, 3, 5, 8, 9] hK ?_; clear hK K; simp
  refine W.b8 (fun K hK => ?_); simp (disch := omega) [gw]
  refine hK _ ⟨a.length - (i + 1), _, aC _ [0, 3, 5, 8, 9], by omega, i + 1, _, _, _, rfl, by rw [er]; simp, by simp [gC], by omega, by omega⟩
 ·simp at h
  have kZ : i = a.length := by omega
  subst kZ
  refine W.exit ?_; simp only [pX, if_true, if_false, reduceIte, Nat.reduceEqDiff]
  rw [List.take_length] at hr
  rw [jF]
  have fA : (a.map fun x => x * c).length = a.length := by simp
  generalize a.map (fun x => x * c) = acc at *
  have ez := bE fA
  refine W.sr ?_
  simp (disch := omega) [gw, hr, ez]
  refine aA (tS acc (by omega)) ?_
  simp (disch := omega) [gw]
  refine W.lx [4] ?_; simp
  refine W.ret ?_
  simp [go]
theorem JJ (a : List Rat) (ha : UR a) : aJ env.P 126 [PP a] (PP (jF a (-1))) := by
 have h1 := mF (-1) 1 (by decide) (by decide)
 rw [j8, show (((-1 : Int)) : Rat) = -1 by simp] at h1
 have h2 := oB a (-1) ha ⟨by show sz 2 (-1) ≤ YY; exact Nat.le_trans (cO (k := 1) (by decide) (by decide)) (by decide), by show sz 2 1 ≤ YY; exact Nat.le_trans (cO (k := 1) (by decide) (by decide)) (by decide)⟩
 generalize (-1 : Rat) = c at *
 refine aB (E := env) (fun _ => 0) [(0, PP a)] Tryz.func126 rfl (by kernel_rfl) (by kernel_rfl) (show 1 ≤ 6 by decide) (by simp) ?_
 refine W.sr ?_; simp (disch := omega) [gw]; refine W.lx [0] ?_; simp
 refine W.sr ?_
 simp (disch := omega) [gw]
 refine aA h1 ?_
 simp (disch := omega) [gw]
 refine aA h2 ?_
 simp (disch := omega) [gw]
 refine W.lx [2] ?_; simp
 refine W.ret ?_
 simp [go]
theorem aab (x : List Int) (k : Nat) : nth (qs x) k = ((nth x k : Int) : Rat) := xP (f := fun (c : Int) => (c : Rat)) rfl x k
theorem DJ (x : List Int) (c : Int) : jF (qs x) (c : Rat) = qs (aV x c) := by
 rw [jF, aV, ← tR]
 congr 1
 simp [qs, Function.comp_def]
theorem NM (x : List Int) : aV x (-1) = fI x := by simp [aV, fI]
theorem DK (x : List Int) (hx : Bd 2 YY 1099511627775 x) : aJ env.P 126 [PI x] (PI (fI x)) := by
 have := JJ (qs x) (.qs hx.sz (by have := hx.len; omega))
 rwa [show (-1 : Rat) = ((-1 : Int) : Rat) by simp, DJ, NM, oT, oT] at this
theorem JK (x : List Int) (c : Int) (hx : Bd 2 YY 1099511627775 x) (hc : sz 2 c ≤ YY) : aJ env.P 81 [PI x, .ag (ri c)] (PI (aV x c)) := by
 have := oB (qs x) c (.qs hx.sz (by have := hx.len; omega)) (mW hc (by decide))
 rwa [DJ, oT, oT, RR, eN] at this
theorem jX (x y : List Int) (s s' n n' : Nat) (hs : Bd 2 s n x) (G5 : Bd 2 s' n' y) (hB : s + s' + n + n' < YY) : aJ env.P 54 [PI x, PI y] (PI (bH x y)) := by
 have hlx := hs.len; have hly := G5.len
 have hB2 : s + s' + n + n' < 137438953472 := hB
 refine aB (E := env) (fun id => if id = 15 then 1 else 0) [(0, PI x), (1, PI y)] Tryz.func54 rfl (by kernel_rfl) (by kernel_rfl) (show 2 ≤ 69 by decide) (by simp) ?_
 refine W.sr ?_; simp (disch := omega) [gw]; refine W.lx [0, 1] ?_; simp
 refine W.seq ?_
 refine W.gW (fun σ => ∃ (b : Bool), σ = ⟨fa [(0, PI x), (1, PI y), (16, .bool b)], fun _ => none, 0⟩ ∧ (b = true ↔ x = [] ∨ y = [])) (fun K hK => ?_) ?_
 ·simp
  have e1 : ((x.length : Int) == 0) = decide (x = []) := by
   cases x <;> simp <;> omega
  have e2 : ((y.length : Int) == 0) = decide (y = []) := by
   cases y <;> simp <;> omega
  rw [e1]
  by_cases h0 : x = []
  ·have e3 : decide (x = []) = true := by simp [h0]
   rw [e3]
   simp
   exact hK _ _ (aC _ [0, 1, 16]) ⟨_, rfl, by simp [h0]⟩
  ·have e3 : decide (x = []) = false := by simp [h0]
   rw [e3]
   simp
   exact hK _ _ (aC _ [0, 1, 16]) ⟨_, rfl, by rw [e2]; simp [h0]⟩
 rintro _ ⟨b, rfl, hb⟩
 refine W.cond ⟨_, rfl, fun h => ?_, fun h => ?_⟩
 ·have e : bH x y = [] := by
   have h1 := hb.1 h
   refine Cn.ext (Cn.bH _ _) Cn.nil fun t => ?_
   rw [cM]
   rcases h1 with rfl | rfl <;> simp [V]
  refine W.sr ?_; simp (disch := omega) [gw]; refine W.lx [4] ?_; simp
  refine W.ret ?_
  simp [go, e]
  rfl
 ·have h1 : ¬ (x = [] ∨ y = []) := fun h2 => by simp [hb.2 h2] at h
  have nS : 0 < x.length := List.length_pos_iff.2 fun h2 => h1 (.inl h2)
  have NB : 0 < y.length := List.length_pos_iff.2 fun h2 => h1 (.inr h2)
  clear h hb h1
  have e0 : ((x.length : Int) + (y.length : Int) - 1).toNat = x.length + y.length - 1 := by omega
  have e9 : ((x.length + y.length - 1 : Nat) : Int) = (x.length : Int) + (y.length : Int) - 1 := by omega
  refine W.skip ?_
  refine W.sr ?_; simp (disch := omega) [gw, e0]
  refine W.lx [0, 1, 5] ?_; simp
  refine W.seq ?_
  refine W.sr ?_; simp (disch := omega) [gw]; refine W.lx [0, 1, 5, 25, 26] ?_; simp
  refine W.block ?_
  refine W.a9 (fun k σ => ∃ (i ver : Nat) (els : List (List PV)) (rows : Pm.Rows) (clk : Nat), σ = ⟨fa [(0, PI x), (1, PI y), (5, .own 23 ver 0 (x.length + y.length - 1)), (25, .int .i64 ((x.length + y.length - 1 : Nat) : Int)), (26, .int .i64 i)], rows, clk⟩ ∧
   rows 23 = some ⟨ver, 50, 4, els⟩ ∧ els.length = x.length + y.length - 1 ∧ (∀ e ∈ els, e.length = 4) ∧ els.take i = emap ri (List.replicate i 0) ∧ k = x.length + y.length - 1 - i ∧ i ≤ x.length + y.length - 1) (x.length + y.length - 1) ?_ ?_
  ·exact ⟨_, Gh.fr [(0, PI x), (1, PI y), (5, .own 23 0 0 (x.length + y.length - 1)), (25, .int .i64 ((x.length + y.length - 1 : Nat) : Int)), (26, .int .i64 (0 : Nat))] (by simp), 0, _, List.replicate (x.length + y.length - 1) [.nil, .bool false, .nil, .bool false], _, _, rfl, by simp [e0], by simp, by simp, by simp [emap], by omega, by omega⟩
  rintro k _ ⟨i, ver, els, rows, clk, rfl, hr, kY, JL, oX, hk, hi⟩
  have M9 : bC 4 els = True := by simp only [bC, eq_iff_iff, iff_true]; exact JL
  refine W.sr ?_; simp (disch := omega) [gw]; refine W.lx [0, 1, 5, 25, 26, 27] ?_; simp
  refine W.seq ?_
  refine W.cond ⟨_, rfl, fun h => ?_, fun h => ?_⟩
  ·have h : i < x.length + y.length - 1 := by simp at h; omega
   refine W.skip ?_
   refine W.seq ?_
   refine W.block ?_
   refine W.sr ?_; simp (disch := omega) [gw]; refine W.lx [0, 1, 5, 6, 25, 26] ?_; simp
   refine W.b8 (fun K hK => ?_)
   simp (disch := omega) [gw]
   refine aA nM ?_
   have sE : i < els.length := by omega
   have hE : rQ els i 4 = True := by
    simp only [eq_iff_iff, iff_true]
    exact ⟨els[i], List.getElem?_eq_getElem sE, by rw [JL _ (List.getElem_mem sE)]; omega⟩
   have hS : gN els i 0 [aI aF (aR DD 0), .bool false, aI aF (aR DD 1), .bool false] = els.set i (ri 0) := by
    have h4 := JL _ (List.getElem_mem sE)
    rw [gN, List.getElem?_eq_getElem sE]
    simp [List.drop_of_length_le, h4]
   simp (disch := omega) [gw, hr, hE, hS]
   refine W.lw [0, 1, 5, 25, 26] hK ?_; clear hK K; simp
   refine W.b8 (fun K hK => ?_); simp (disch := omega) [gw]
   refine hK _ ⟨x.length + y.length - 1 - (i + 1), _, aC _ [0, 1, 5, 25, 26], by omega, i + 1, ver, els.set i (ri 0), _, _, rfl, by simp, by simpa using kY, fun e he => ?_, ?_, by omega, by omega⟩
   ·rcases List.mem_or_eq_of_mem_set he with h1 | h1
    ·exact JL e h1
    ·rw [h1]; rfl
   ·rw [kF oX (by omega), List.replicate_succ']
    simp [emap]
  ·have h : i = x.length + y.length - 1 := by simp at h; omega
   subst h
   have rA : els = emap ri (List.replicate (x.length + y.length - 1) 0) := by rw [← oX, bE kY]
   subst rA
   clear oX JL kY M9 hk hi
   refine W.exit ?_; simp only [pX, if_true, if_false, reduceIte, Nat.reduceEqDiff]
   refine W.seq ?_
   refine W.sr ?_; simp (disch := omega) [gw]; refine W.lx [0, 1, 5, 35, 36] ?_; simp
   refine W.block ?_
   refine W.a9 (fun k σ => ∃ (i : Nat) (z : List Int) (ver : Nat) (rows : Pm.Rows) (clk : Nat), σ = ⟨fa [(0, PI x), (1, PI y), (5, .own 23 ver 0 (x.length + y.length - 1)), (35, .int .i64 x.length), (36, .int .i64 i)], rows, clk⟩ ∧
    rows 23 = some ⟨ver, 50, 4, emap ri z⟩ ∧ k = x.length - i ∧ i ≤ x.length ∧ z.length = x.length + y.length - 1 ∧ (∀ j, sz 2 (nth z j) ≤ s + s' + i) ∧
    ∀ t, V t z = V t (x.take i) * V t y) x.length ?_ ?_
   ·refine ⟨_, .refl, 0, List.replicate (x.length + y.length - 1) 0, _, _, _, rfl, hr, by omega, by omega, by simp, fun j => ?_, fun t => by simp [V, oQ]⟩
    have : Bd 2 0 (x.length + y.length - 1) (List.replicate (x.length + y.length - 1) 0) := ⟨by simp, fun c hc => by rw [(List.mem_replicate.1 hc).2, jC]; omega⟩
    have := this.nth j
    omega
   clear hr rows clk
   rintro k _ ⟨i, z, ver, rows, clk, rfl, hr, hk, hi, hz, BG, hV⟩
   refine W.sr ?_; simp (disch := omega) [gw]; refine W.lx [0, 1, 5, 35, 36, 37] ?_; simp
   refine W.seq ?_
   refine W.cond ⟨_, rfl, fun h => ?_, fun h => ?_⟩
   ·simp at h
    refine W.skip ?_
    refine W.seq ?_
    refine W.block ?_
    refine W.sr ?_; simp (disch := omega) [gw]; refine W.lx [0, 1, 5, 7, 35, 36] ?_; simp
    refine W.sr ?_; simp (disch := omega) [gw]; refine W.lx [0, 1, 5, 7, 35, 36, 40, 41] ?_; simp
    refine W.block ?_
    refine W.a9 (fun m σ => ∃ (k : Nat) (z : List Int) (ver : Nat) (rows : Pm.Rows) (clk : Nat), σ = ⟨fa [(0, PI x), (1, PI y), (5, .own 23 ver 0 (x.length + y.length - 1)), (7, .int .i64 i), (35, .int .i64 x.length), (36, .int .i64 i), (40, .int .i64 y.length), (41, .int .i64 k)], rows, clk⟩ ∧
     rows 23 = some ⟨ver, 50, 4, emap ri z⟩ ∧ m = y.length - k ∧ k ≤ y.length ∧ z.length = x.length + y.length - 1 ∧ (∀ j, sz 2 (nth z j) ≤ s + s' + i + 1) ∧ (∀ j, i + k ≤ j → sz 2 (nth z j) ≤ s + s' + i) ∧
     ∀ t, V t z = V t (x.take i) * V t y + t ^ i * nth x i * V t (y.take k)) y.length ?_ ?_
    ·refine ⟨_, .refl, 0, z, ver, _, _, rfl, by simpa using hr, by omega, by omega, hz, fun j => by have := BG j; omega, fun j _ => BG j, fun t => by simp [V, hV]⟩
    clear hV BG hz hr z ver rows clk
    rintro m _ ⟨k, z, ver, rows, clk, rfl, hr, hm, hky, hz, BG, NC, hV⟩
    refine W.sr ?_; simp (disch := omega) [gw]; refine W.lx [0, 1, 5, 7, 35, 36, 40, 41, 42] ?_; simp
    refine W.seq ?_
    refine W.cond ⟨_, rfl, fun h2 => ?_, fun h2 => ?_⟩
    ·simp at h2
     refine W.skip ?_
     refine W.seq ?_
     refine W.block ?_
     refine W.sr ?_; simp (disch := omega) [gw]; refine W.lx [0, 1, 5, 7, 8, 35, 36, 40, 41] ?_; simp
     have e1 : ((i : Int) + (k : Int)).toNat = i + k := by omega
     have G7 : sz 2 (nth x i * nth y k) ≤ s + s' + i := Nat.le_trans (bU (by decide) (hs.nth i) (G5.nth k)) (by omega)
     have hm2 := mU (b := 2) (by decide) (NC (i + k) (Nat.le_refl _)) G7
     have hlz : i + k < z.length := by omega
     have c1 := DI (nth x i) (nth y k) (Nat.le_trans (hs.nth i) (by show _ ≤ 137438953472; omega)) (Nat.le_trans (G5.nth k) (by show _ ≤ 137438953472; omega))
     have c2 := UP (nth z (i + k)) (nth x i * nth y k) (Nat.le_trans (NC (i + k) (Nat.le_refl _)) (by show _ ≤ 137438953472; omega)) (Nat.le_trans G7 (by show _ ≤ 137438953472; omega))
     have T7 := fun t => C4 (b := t) (x := nth z (i + k) + nth x i * nth y k) hlz
     generalize hu : nth z (i + k) + nth x i * nth y k = u at *
     generalize hpq : nth x i * nth y k = pq at *
     refine W.M4 (fun K hK => ?_)
     rw [if_pos rfl, dR]
     simp (disch := omega) [gw, hr, e1]
     refine aA c1 ?_
     simp (disch := omega) [gw, hr, e1]
     refine aA c2 ?_
     simp (disch := omega) [gw, hr, e1]
     refine W.lw [0, 1, 5, 7, 35, 36, 40, 41] hK ?_; clear hK K; simp
     refine W.b8 (fun K hK => ?_); simp (disch := omega) [gw]
     refine hK _ ⟨y.length - (k + 1), _, aC _ [0, 1, 5, 7, 35, 36, 40, 41], by omega, k + 1, z.set (i + k) u, ver, _, _, rfl, by simp, by omega, by omega, by simpa using hz, fun j => ?_, fun j hj => ?_, fun t => ?_⟩
     ·by_cases hj : i + k = j
      ·subst hj; rw [dS hlz]; exact hm2
      ·rw [fF hj]; exact BG j
     ·rw [fF (by omega)]; exact NC j (by omega)
     ·rw [T7, aT h2, hV, Int.pow_add, ← hu, ← hpq]; clear hV T7; grind
    ·simp at h2
     have vW : k = y.length := by omega
     subst vW
     refine W.exit ?_; simp only [pX, if_true, if_false, reduceIte, Nat.reduceEqDiff]
     refine W.b8 (fun K hK => ?_); simp (disch := omega) [gw]
     refine hK _ ⟨x.length - (i + 1), _, aC _ [0, 1, 5, 35, 36], by omega, i + 1, z, ver, _, _, rfl, hr, by omega, by omega, hz, fun j => by have := BG j; omega, fun t => ?_⟩
     rw [hV, aX (Nat.le_refl _), aT h]; grind
   ·simp at h
    have kZ : i = x.length := by omega
    subst kZ
    have uT := bE hz
    refine W.exit ?_; simp only [pX, if_true, if_false, reduceIte, Nat.reduceEqDiff]
    refine W.sr ?_
    simp (disch := omega) [gw, hr, uT]
    refine aA (nK z (by omega)) ?_
    simp (disch := omega) [gw]
    refine W.lx [4] ?_; simp
    refine W.ret ?_
    have e : aM z = bH x y := by
     refine Cn.ext (Cn.cut _) (Cn.bH _ _) fun t => ?_
     rw [cA, hV, cM, aX (Nat.le_refl _)]
    simp [go, e]
theorem jY (v n : Int) (hv : -9223372036854775808 ≤ v ∧ v < 9223372036854775808) (hn : 0 < n) (hn2 : n < 4611686018427387904) : aJ env.P 48 [.int .i64 v, .int .i64 n] (.int .i64 (v % n)) := by
 have hn0 : n ≠ 0 := by omega
 have h12 : (v.tmod n = v % n ∨ (v.tmod n < 0 ∧ v.tmod n + n = v % n)) ∧ -n < v.tmod n ∧ v.tmod n < n := by
  have h2 := Int.emod_nonneg v hn0
  have h3 := Int.emod_lt_of_pos v hn
  rcases (show v < 0 ∨ 0 ≤ v by omega) with h | h
  ·have h4 := Int.tmod_eq_emod (a := v) (b := n)
   have h5 : (n.natAbs : Int) = n := by omega
   split at h4
   ·simp at h4; omega
   ·rename_i h6
    rw [h5] at h4
    have h7 : v % n ≠ 0 := fun h8 => h6 (.inr (Int.dvd_of_emod_eq_zero h8))
    omega
  ·rw [Int.tmod_eq_emod_of_nonneg h]; omega
 obtain ⟨h1, h2⟩ := h12
 have h5 := Int.emod_nonneg v hn0
 have h6 := Int.emod_lt_of_pos v hn
 have UC : ¬ n < 1 := by omega
 refine aB (E := env) (fun _ => 0) [(0, .int .i64 v), (1, .int .i64 n)] Tryz.func48 rfl (by kernel_rfl) (by kernel_rfl) (show 2 ≤ 17 by decide) (by simp) ?_
 refine W.sr ?_; simp (disch := omega) [gw]; refine W.lx [0, 1] ?_; simp
 refine W.seq ?_
 refine W.sr ?_; simp (disch := omega) [gw]; refine W.lx [0, 1, 7] ?_; simp
 refine W.cond ⟨_, rfl, fun h => ?_, fun h => ?_⟩
 ·exfalso; simp at h; omega
 ·refine W.skip ?_
  generalize hm : v.tmod n = m at *
  generalize v % n = r at *
  refine W.sr ?_; simp (disch := omega) [gA, hn0, hm]
  refine W.lx [1, 5] ?_; simp
  refine W.fY (fun σ => ∃ (rows : Pm.Rows) (clk : Nat), σ = ⟨fa [(5, .int .i64 r)], rows, clk⟩) ?_ ?_
  ·
   refine W.sr ?_; simp (disch := omega) [gw]; refine W.lx [1, 5, 12] ?_; simp
   refine W.cond ⟨_, rfl, fun h => ?_, fun h => ?_⟩
   ·simp at h
    refine W.b8 (fun K hK => ?_); simp (disch := omega) [gw]
    exact hK _ ⟨_, Gh.fr [(5, .int .i64 r)] (by simp; omega), _, _, rfl⟩
   ·simp at h
    refine W.skip ?_
    exact ⟨_, Gh.fr [(5, .int .i64 r)] (by simp; omega), _, _, rfl⟩
  rintro _ ⟨rows, clk, rfl⟩
  refine W.sr ?_; simp (disch := omega) [gw]; refine W.lx [4] ?_; simp
  refine W.ret ?_
  simp [go]
structure PB (x : List Int) : Prop where
 sz : ∀ c ∈ x, Sz c
 len : x.length < 1099511627775
theorem PB.B5 {x : List Int} (h : PB x) : rD (x.map rC) := rD.adL h.sz (by have := h.len; omega)
theorem PB.of {s n : Nat} {x : List Int} (h : Bd LL s n x) (hs : s < 1099511627775) (hn : n < 1099511627775) : PB x := ⟨fun c hc => Nat.lt_of_le_of_lt (h.sz c hc) (by omega), Nat.lt_of_le_of_lt h.len hn⟩
theorem US {x y : List Int} (hx : PB x) (hy : PB y) : aJ env.P 219 [Po x, Po y] (Po (gB x y)) := by
 have := ZE _ _ hx.B5 hy.B5
 rwa [bQ, bQ, ← gY, ← gY] at this
theorem DL {x y : List Int} (hx : PB x) (hy : PB y) : aJ env.P 221 [Po x, Po y] (Po (dZ x y)) := by
 have := ZF _ _ hx.B5 hy.B5
 rwa [bQ, bQ, ← gY, ← gY] at this
theorem DM {x : List Int} (hx : PB x) : aJ env.P 69 [Po x] (Po (fI x)) := by
 have := ZG _ hx.B5
 rwa [bQ, ← gY] at this
theorem iI {x : List Int} (hx : PB x) : aJ env.P 101 [Po x] (Po (aM x)) := by
 have := gJ _ hx.B5
 rwa [bQ, ← gY] at this
theorem UT {a : RP} {y : List Int} {s s' n n' : Nat} (ha : rD a) (hs : Bd LL s n (a.map gv)) (G5 : Bd LL s' n' y) (hB : s + s' + n + n' < 1099511627775) : aJ env.P 39 [Pg a, Po y] (Po (bH (a.map gv) y)) := by
 have := ZH a (y.map rC) ha (PB.of G5 (by omega) (by omega)).B5 s s' n n' hs (by rwa [bQ]) hB
 rwa [bQ, ← gY] at this
theorem vB {x y : List Int} {s s' n n' : Nat} (hs : Bd LL s n x) (G5 : Bd LL s' n' y) (hB : s + s' + n + n' < 1099511627775) : aJ env.P 39 [Po x, Po y] (Po (bH x y)) := by
 have := UT (PB.of hs (by omega) (by omega)).B5 (by rwa [bQ]) G5 hB
 rwa [bQ, ← gY] at this
section
variable {k n : Nat} {p : RP}
end
theorem maps {α : Type} {g : α → List PV} {R : List PV → Prop} {Q : α → Prop} (h : ∀ ps, R ps → ∃ a, ps = g a ∧ Q a) : ∀ {l : List (List PV)}, (∀ x ∈ l, R x) → ∃ m : List α, l = m.map g ∧ ∀ a ∈ m, Q a
 | [], _ => ⟨[], rfl, fun _ h => (by cases h)⟩
 | x :: l, hx => by
  obtain ⟨a, rfl, ha⟩ := h x (hx x (by simp))
  obtain ⟨m, rfl, hm⟩ := maps h (l := l) fun y hy => hx y (by simp [hy])
  exact ⟨a :: m, rfl, fun b hb => by
   rcases List.mem_cons.1 hb with rfl | hb
   ·exact ha
   ·exact hm b hb⟩
theorem FN : sB Tryz.prog 3 (fun q => ∃ n : Int, q = .int .i64 n ∧ -9223372036854775808 ≤ n ∧ n < 9223372036854775808) :=
 (sB.int .i64 (by kernel_rfl)).mono fun q ⟨n, h1, h2, h3⟩ => ⟨n, h1, by simpa [IntKind.min, IntKind.signed, IntKind.bits] using h2, by simp [IntKind.max, IntKind.signed, IntKind.bits] at h3; omega⟩
theorem own : ownKnob Tryz.prog.godebug = none := by kernel_rfl
theorem laidOut : laidOutB Tryz.prog = true := by kernel_rfl
structure PD (x : List Int) : Prop where
 sz : ∀ v ∈ x, sz LL v < 1099511627774
 len : x.length < 1099511627774
theorem PD.of {s n : Nat} {x : List Int} (h : Bd LL s n x) (hs : s < 1099511627774) (hn : n < 1099511627774) : PD x := ⟨fun v hv => Nat.lt_of_le_of_lt (h.sz v hv) hs, Nat.lt_of_le_of_lt h.len hn⟩
theorem ajH (v : Int) : V 4294967296 (aR LL v.natAbs) = v.natAbs := jO fS v.natAbs
theorem FO {v c : Int} (hv : sz LL v < 1099511627774) (hc : sz LL c < 1099511627774) (h0 : c ≠ 0) : aJ env.P 234 [I v, I c] (if v % c = 0 then .eP [I (v / c), .int .i64 0] else .eP [I 0, .int .i64 3]) := by
 have := NJ (decide (v < 0)) (decide (c < 0)) (aR LL v.natAbs) (aR LL c.natAbs) ⟨eS fS _, by unfold sz at hv; omega⟩ ⟨eS fS _, by unfold sz at hc; omega⟩ hv hc (by rw [ajH]; omega)
 rwa [zN, zN] at this
def o6 (c v : Int) : Int := if v % c = 0 then v / c else 0
theorem JM (x : List Int) (c : Int) (hx : PD x) (hc : sz LL c < 1099511627774) (h0 : c ≠ 0) : aJ env.P 223 [Po x, I c] (Po (aM (x.map (o6 c)))) := by
 have hxl := hx.len
 refine aB (E := env) (fun _ => 0) [(0, Po x), (1, I c)] Tryz.func223 rfl (by kernel_rfl) (by kernel_rfl) (show 2 ≤ 30 by decide) (by simp) ?_
 refine W.sr ?_; simp (disch := omega) [gw]; refine W.lx [0, 3] ?_; simp
 refine W.sr ?_; simp (disch := omega) [gw]; refine W.lx [0, 3, 5] ?_; simp
 refine W.row (id := 10) (emap ie (List.replicate x.length 0)) (by simp; exact ⟨rfl, rfl, rfl⟩) (pS _) ?_
 refine W.seq ?_
 refine W.sr ?_; simp (disch := omega) [gw]; refine W.lx [3, 5, 11, 12, 13] ?_; simp
 refine W.block ?_
 refine W.a9 (fun q σ => ∃ (i : Nat) (z : List Int) (v10 : Nat) (rows : Pm.Rows) (clk : Nat), σ = ⟨fa [(3, .ptr 3 0 0 0), (5, .own 10 v10 0 x.length), (11, Po x), (12, .int .i64 x.length), (13, .int .i64 i)], rows, clk⟩ ∧
  rows 3 = some ⟨0, 40, 2, [ie c]⟩ ∧ rows 10 = some ⟨v10, 40, 2, emap ie z⟩ ∧ q = x.length - i ∧ i ≤ x.length ∧ z.length = x.length ∧ z.take i = (x.take i).map (o6 c)) x.length ?_ ?_
 ·exact ⟨_, .refl, 0, List.replicate x.length 0, _, _, _, rfl, by simp, by simp, by omega, by omega, by simp, by simp⟩
 rintro q _ ⟨i, z, v10, rows, clk, rfl, gC, JN, hq, hi, hz, hv⟩
 refine W.sr ?_; simp (disch := omega) [gw]; refine W.lx [3, 5, 11, 12, 13, 14] ?_; simp
 refine W.seq ?_
 refine W.cond ⟨_, rfl, fun h => ?_, fun h => ?_⟩
 ·have hi : i < x.length := by simp at h; omega
  have hE := FO (hx.sz _ (bR hi)) hc h0
  have hE2 : aJ env.P 234 [I (nth x i), I c] (.eP [I (o6 c (nth x i)), .int .i64 (if nth x i % c = 0 then 0 else 3)]) := by
   unfold o6
   split at hE
   ·rename_i h1; rw [if_pos h1, if_pos h1]; exact hE
   ·rename_i h1; rw [if_neg h1, if_neg h1]; exact hE
  have hts : (x.take (i + 1)).map (o6 c) = (x.take i).map (o6 c) ++ [o6 c (nth x i)] := by rw [a8 hi]; simp
  generalize (if nth x i % c = 0 then (0 : Int) else 3) = er at *
  generalize o6 c (nth x i) = ev at *
  generalize hxe : nth x i = xi at *
  refine W.skip ?_
  refine W.seq ?_
  refine W.block ?_
  refine W.sr ?_; simp (disch := omega) [gw, hxe]; refine W.lx [3, 5, 6, 7, 11, 12, 13] ?_; simp
  refine W.b8 (fun K hK => ?_)
  simp (disch := omega) [gw, gC]
  refine aA hE2 ?_
  simp (disch := omega) [gw, JN, hz]
  refine W.lw [3, 5, 11, 12, 13] hK ?_; clear hK K; simp
  refine W.b8 (fun K hK => ?_); simp (disch := omega) [gw]
  refine hK _ ⟨x.length - (i + 1), _, aC _ [3, 5, 11, 12, 13], by omega, i + 1, z.set i ev, v10, _, _, rfl, by simp [gC], by simp, by omega, by omega, by simp [hz], ?_⟩
  rw [kF hv (by omega), hts]
 ·have hi : i = x.length := by simp at h; omega
  subst hi
  rw [bE hz, List.take_length] at hv
  have uT := bE hz
  refine W.exit ?_; simp only [pX, if_true, if_false, reduceIte, Nat.reduceEqDiff]
  have hzb : PB z := by
   rw [hv]
   refine ⟨fun v hv => ?_, by simpa using by omega⟩
   simp only [List.mem_map] at hv
   obtain ⟨w, hw, rfl⟩ := hv
   have h1 := hx.sz w hw
   show sz LL (o6 c w) < 1099511627776
   refine Nat.lt_of_le_of_lt (cC fS (y := w) ?_) (by omega)
   unfold o6; split
   ·exact Int.natAbs_ediv_le_natAbs _ _
   ·simp
  have hN := iI hzb
  rw [hv] at hN JN uT
  generalize x.map (o6 c) = y at *
  have LD : y.length = x.length := by rw [← hv]; exact hz
  refine W.sr ?_
  simp (disch := omega) [gw, JN, uT]
  refine aA hN ?_
  simp (disch := omega) [gw]
  refine W.lx [4] ?_; simp
  refine W.ret ?_
  simp [go]
theorem JO (l : List RP) (K0 : Nat) (hK0 : K0 < 1099511627774) (hp : ∀ p ∈ l, ∀ c ∈ p, b9 4294967296 c.2 ∧ c.2.length ≤ K0) (hl : l.length < 1099511627776) (hf : l.flatten.length < 1099511627776) :
  aJ env.P 222 [aI pe l] (I (bG (l.flatten.map gv))) := by
 refine aB (E := env) (fun _ => 0) [(0, aI pe l)] Tryz.func222 rfl (by kernel_rfl) (by kernel_rfl) (show 1 ≤ 18 by decide) (by simp) ?_
 refine W.sr ?_; simp (disch := omega) [gw]; refine W.lx [0, 2] ?_; simp
 refine W.sr ?_; simp (disch := omega) [gw]; refine W.lx [0, 2, 3] ?_; simp
 refine W.nil 3 3 40 2 (by simp) (by decide) (fun K hK => ?_)
 refine W.lw [0, 2, 3] hK ?_; clear hK K; simp
 refine W.seq ?_
 refine W.sr ?_; simp (disch := omega) [gw]; refine W.lx [2, 3, 6, 7, 8] ?_; simp
 refine W.block ?_
 refine W.a9 (fun q σ => ∃ (i v3 : Nat) (A : RP) (rows : Pm.Rows) (clk : Nat), σ = ⟨fa [(2, .ptr 2 0 0 0), (3, .own 3 v3 0 A.length), (6, aI pe l), (7, .int .i64 l.length), (8, .int .i64 i)], rows, clk⟩ ∧
  rows 2 = some ⟨0, 40, 2, [[.bool false, .nil]]⟩ ∧ rows 3 = some ⟨v3, 40, 2, emap ge A⟩ ∧ q = l.length - i ∧ i ≤ l.length ∧ A = (l.take i).flatten) l.length ?_ ?_
 ·exact ⟨_, .refl, 0, _, [], _, _, rfl, by simp, by simp [emap], by omega, by omega, by simp⟩
 rintro q _ ⟨i, v3, A, rows, clk, rfl, cJ, gC, hq, hi, hA⟩
 refine W.sr ?_; simp (disch := omega) [gw]; refine W.lx [2, 3, 6, 7, 8, 9] ?_; simp
 refine W.seq ?_
 refine W.cond ⟨_, rfl, fun h => ?_, fun h => ?_⟩
 ·have hi : i < l.length := by simp at h; omega
  have hfs : (l.take (i + 1)).flatten = (l.take i).flatten ++ nth l i := by rw [a8 hi]; simp
  have QO : (l.take (i + 1)).flatten.length ≤ l.flatten.length := by
   have e := List.take_append_drop (i + 1) l
   have e2 : l.flatten = (l.take (i + 1)).flatten ++ (l.drop (i + 1)).flatten := by rw [← List.flatten_append, e]
   rw [e2, List.length_append]; omega
  have ZK : (l.take i).flatten.length + (nth l i).length < 1099511627776 := by
   rw [hfs, List.length_append] at QO; omega
  have hls : (l.take (i + 1)).flatten.length = (l.take i).flatten.length + (nth l i).length := by rw [hfs, List.length_append]
  rw [← hA] at hfs ZK hls
  generalize hpe : nth l i = p at *
  refine W.skip ?_
  refine W.seq ?_
  refine W.block ?_
  refine W.sr ?_; simp (disch := omega) [gw, hpe]; refine W.lx [2, 3, 5, 6, 7, 8] ?_; simp
  refine W.b8 (fun K hK => ?_)
  simp (disch := omega) [gw, gC]
  refine W.lw [2, 3, 6, 7, 8] hK ?_; clear hK K; simp
  refine W.b8 (fun K hK => ?_); simp (disch := omega) [gw]
  refine hK _ ⟨l.length - (i + 1), _, Gh.fr [(2, .ptr 2 0 0 0), (3, .own 3 _ 0 (A ++ p).length), (6, aI pe l), (7, .int .i64 l.length), (8, .int .i64 ((i + 1 : Nat) : Int))] (by simp; exact rfl), by omega, i + 1, _, A ++ p, _, _, rfl, by simp [cJ], by simp, by omega, by omega, hfs.symm⟩
 ·have hi : i = l.length := by simp at h; omega
  subst hi
  rw [List.take_length] at hA
  have hG := JA l.flatten K0 hK0 (fun c hc => by
   obtain ⟨p, PK, hcp⟩ := List.mem_flatten.1 hc
   exact hp p PK c hcp) hf
  rw [← hA] at hG ⊢
  generalize (bG (A.map gv) : Int) = g at *
  refine W.exit ?_; simp only [pX, if_true, if_false, reduceIte, Nat.reduceEqDiff]
  refine W.sr ?_
  simp (disch := omega) [gw, gC]
  refine aA hG ?_
  simp (disch := omega) [gw, cJ]
  refine W.lx [2] ?_; simp
  refine W.ret ?_
  simp [go]
theorem jZ {x : List Int} (hx : PB x) (hc : Cn x) : aJ env.P 138 [Po x] (I (lead x)) := by
 have := I7 (x.map rC) hx.B5
 rw [show k8 (x.map rC) = aM x by simp only [k8, bQ], show aM x = x from hc, ← gY] at this
 exact this
theorem lK (x : List Int) (hx : x.length < 9223372036854775808) : aJ env.P 102 [Po x] (.int .i64 ((x.length : Int) - 1)) := by
 have := ad5 (x.map rC) (by simpa using hx)
 rw [List.length_map, ← gY] at this
 exact this
theorem wS {x : List Int} {c : Int} (hx : PB x) (hc : Sz c) : aJ env.P 218 [Po x, I c] (Po (aV x c)) := by
 have := NA (x.map rC) hx.B5 (decide (c < 0)) (aR LL c.natAbs) hc.WD
 rw [bQ, zN, ← gY] at this
 exact this
theorem pY (i : Nat) (x : Int) : (List.replicate (i + 1) (0 : Int)).set i x = oW i x := by
 rw [List.replicate_succ', List.set_append]
 simp [oW]
theorem NN (a b : RP) {s s' N : Nat} (ha : rD a) (hb : rD b) (sa : Bd LL s N (a.map gv)) (sb : Bd LL s' N (b.map gv)) (hB : s + N * (s' + N + 1) + s' + N + N + 10 < 1099511627774) :
  aJ env.P 224 [Pg a, Pg b] (if k8 b = [] then .eP [Po [], Po [], .int .i64 0, .int .i64 2] else .eP [Po (wN (k8 a) (k8 b)).1, Po (wN (k8 a) (k8 b)).2, .int .i64 (iF (k8 a) (k8 b)), .int .i64 0]) := by
 have hA : Bd LL s N (k8 a) := sa.cut
 have QP : Bd LL s' N (k8 b) := sb.cut
 have ca : Cn (k8 a) := Cn.cut _
 have cb : Cn (k8 b) := Cn.cut _
 have na := gJ a ha
 have nb := gJ b hb
 rw [show aM (a.map gv) = k8 a from rfl] at na
 rw [show aM (b.map gv) = k8 b from rfl] at nb
 refine aB (E := env) (fun _ => 0) [(0, Pg a), (1, Pg b)] Tryz.func224 rfl (by kernel_rfl) (by kernel_rfl) (show 2 ≤ 65 by decide) (by simp) ?_
 generalize k8 a = x at *
 generalize k8 b = y at *
 refine W.sr ?_; simp (disch := omega) [gw]; refine W.lx [0, 1, 4] ?_; simp
 refine W.TZ 4 (Po []) (by simp) rfl (fun K hK => ?_)
 refine W.lw [0, 1, 4] hK ?_; clear hK K; simp
 refine W.sr ?_
 simp (disch := omega) [gw]
 refine aA na ?_
 simp (disch := omega) [gw]
 refine aA nb ?_
 simp (disch := omega) [gw]
 refine W.lx [1, 4, 5] ?_; simp
 refine W.seq ?_
 refine W.sr ?_; simp (disch := omega) [gw]; refine W.lx [1, 4, 5, 18] ?_; simp
 refine W.cond ⟨_, rfl, fun h => ?_, fun h => ?_⟩
 ·have h : y = [] := by simp at h; exact h
  rw [if_pos h]
  refine W.sr ?_; simp (disch := omega) [gw]; refine W.lx [4, 5, 6, 7] ?_; simp
  refine W.ret ?_
  simp [go]
  rfl
 have hy : y ≠ [] := by simp at h; exact h
 clear h
 rw [if_neg hy]
 have NB : 0 < y.length := List.length_pos_iff.2 hy
 have hNx := hA.len
 have hNy := QP.len
 have hsy := eT QP
 have hmN : N * (s' + N + 1) ≥ 0 := Nat.zero_le _
 have hL := jZ (PB.of QP (by omega) (by omega)) cb
 have hDx := lK x (by omega)
 have hDy := lK y (by omega)
 refine W.skip ?_
 refine W.sr ?_
 simp (disch := omega) [gw]
 refine aA hL ?_
 simp (disch := omega) [gw]
 refine W.lx [1, 4, 5, 8] ?_; simp
 have hkk : (if (0 : Int) < (x.length : Int) - 1 - ((y.length : Int) - 1) + 1 then (x.length : Int) - 1 - ((y.length : Int) - 1) + 1 else 0) = (iF x y : Int) := by unfold iF; split <;> omega
 refine W.sr ?_
 simp (disch := omega) [gw]
 refine aA hDx ?_
 simp (disch := omega) [gw]
 refine aA hDy ?_
 simp (disch := omega) [gw, hkk]
 refine W.lx [1, 4, 5, 6, 8] ?_; simp
 have hkN : iF x y ≤ N := by unfold iF; omega
 have hsl := hsy
 generalize hdd : s' + N + 1 = d at *
 have hNN : ∀ j, j ≤ N → (N - j) * d ≤ N * d := fun j _ => Nat.mul_le_mul_right _ (by omega)
 refine W.seq ?_
 refine W.sr ?_; simp (disch := omega) [gw]; refine W.lx [1, 4, 5, 6, 8, 9] ?_; simp
 refine W.block ?_
 refine W.a9 (fun j σ => ∃ (q r : List Int) (rows : Pm.Rows) (clk : Nat), σ = ⟨fa [(1, Po y), (4, Po q), (5, Po r), (6, .int .i64 (iF x y)), (8, .ptr 8 0 0 0), (9, .int .i64 ((j : Int) - 1))], rows, clk⟩ ∧
  rows 8 = some ⟨0, 40, 2, [ie (lead y)]⟩ ∧ j ≤ iF x y ∧ ps y (lead y) j q r = wN x y ∧ Bd LL (s + (N - j) * d) (N + N) q ∧ Bd LL (s + (N - j) * d) (N + N) r ∧ Cn r) (iF x y) ?_ ?_
 ·exact ⟨_, .refl, [], x, _, _, rfl, by simp, by omega, rfl, ⟨by simp, fun c hc => by cases hc⟩, hA.mono (by omega) (by omega), ca⟩
 rintro j _ ⟨q, r, rows, clk, rfl, xL, hj, wT, bq, br, cr⟩
 refine W.seq ?_
 refine W.sr ?_; simp (disch := omega) [gw]; refine W.lx [1, 4, 5, 6, 8, 9, 31] ?_; simp
 refine W.cond ⟨_, rfl, fun h => ?_, fun h => ?_⟩
 ·have hj0 : 0 < j := by simp at h; omega
  obtain ⟨i, rfl⟩ : ∃ i, j = i + 1 := ⟨j - 1, by omega⟩
  clear h
  have ei : ((i + 1 : Nat) : Int) - 1 = i := by omega
  rw [ei]
  have hN1 := hNN (i + 1) (by omega)
  have hT : s + (N - i) * d = s + (N - (i + 1)) * d + s' + N + 1 := by
   rw [show N - i = (N - (i + 1)) + 1 by omega, Nat.add_mul, Nat.one_mul]; omega
  obtain ⟨b1, b2⟩ := zH fS QP bq br (show i < N by omega)
  rw [← hT] at b1 b2
  have FP := hNN i (by omega)
  have hx := Y5 (y := y) (i := i) br
  have bs := Bd.oW hx i
  have hLr := jZ (PB.of br (by omega) (by omega)) cr
  have hDr := lK r (by have := br.len; omega)
  have bqs := bq.aV fS hsy
  have brs := br.aV fS hsy
  have bm := bs.bH fS QP
  have f1 := wS (c := lead y) (PB.of bq (by omega) (by omega)) (show sz LL (lead y) < 1099511627776 by omega)
  have f2 := wS (c := lead y) (PB.of br (by omega) (by omega)) (show sz LL (lead y) < 1099511627776 by omega)
  have f3 := US (PB.of bqs (by omega) (by omega)) (PB.of bs (by omega) (by omega))
  have f4 := vB bs QP (by omega)
  have f5 := DL (PB.of brs (by omega) (by omega)) (PB.of bm (by omega) (by omega))
  rw [show gB (aV q (lead y)) (oW i (tI y r i)) = psq (lead y) (tI y r i) i q from rfl] at f3
  rw [show dZ (aV r (lead y)) (bH (oW i (tI y r i)) y) = uS y (lead y) (tI y r i) i r from rfl] at f5
  have cr2 : Cn (uS y (lead y) (tI y r i) i r) := Cn.dZ _ _
  have hpx : tI y r i = if r.length = y.length + i then lead r else 0 := rfl
  rw [ps] at wT
  generalize hq2 : psq (lead y) (tI y r i) i q = q2 at *
  generalize cJ : uS y (lead y) (tI y r i) i r = r2 at *
  generalize bH (oW i (tI y r i)) y = pm at *
  generalize aV q (lead y) = pq at *
  generalize aV r (lead y) = pr at *
  generalize tI y r i = xx at *
  have aad := pY i xx
  have ajI : (oW i xx).length = i + 1 := by simp [oW]
  generalize lead r = lr at *
  generalize lead y = ly at *
  refine W.skip ?_
  refine W.seq ?_
  refine W.block ?_
  refine W.sr ?_; simp (disch := omega) [gw]; refine W.lx [1, 4, 5, 6, 8, 9, 10] ?_; simp
  refine W.row (id := 10) (els := [[.bool false, .nil]]) [ie 0] (by simp; exact ⟨rfl, rfl, rfl⟩) ⟨⟨.inl (by simp), .inr ⟨rfl, rfl⟩, trivial⟩, trivial⟩ ?_
  refine W.fY (fun σ => ∃ (v10 : Nat) (rows : Pm.Rows) (clk : Nat), σ = ⟨fa [(1, Po y), (4, Po q), (5, Po r), (6, .int .i64 (iF x y)), (8, .ptr 8 0 0 0), (9, .int .i64 i), (10, .ptr 10 v10 0 0)], rows, clk⟩ ∧ rows 8 = some ⟨0, 40, 2, [ie ly]⟩ ∧ rows 10 = some ⟨v10, 40, 2, [ie xx]⟩) ?_ ?_
  ·
   refine W.sr ?_
   simp (disch := omega) [gw]
   refine aA hDr ?_
   simp (disch := omega) [gw]
   refine aA hDy ?_
   simp (disch := omega) [gw]
   refine W.lx [1, 4, 5, 6, 8, 9, 10, 40] ?_; simp
   by_cases T5 : r.length = y.length + i
   ·rw [if_pos T5] at hpx
    subst hpx
    refine W.cond ⟨_, rfl, fun h => ?_, fun h => ?_⟩
    ·refine W.b8 (fun K hK => ?_)
     simp (disch := omega) [gw]
     refine aA hLr ?_
     simp (disch := omega) [gw]
     exact hK _ ⟨_, aC _ [1, 4, 5, 6, 8, 9, 10], _, _, _, rfl, by simp [xL], by simp⟩
    ·exfalso; simp at h; omega
   ·rw [if_neg T5] at hpx
    subst hpx
    refine W.cond ⟨_, rfl, fun h => ?_, fun h => ?_⟩
    ·exfalso; simp at h; omega
    ·refine W.skip ?_
     exact ⟨_, aC _ [1, 4, 5, 6, 8, 9, 10], _, _, _, rfl, by simp [xL], by simp⟩
  rintro _ ⟨v10, rows, clk, rfl, xL, JN⟩
  have e9 : ((i : Int) + 1).toNat = i + 1 := by omega
  refine W.sr ?_; simp (disch := omega) [gw, e9]; refine W.lx [1, 4, 5, 6, 8, 9, 10, 11] ?_; simp
  refine W.row (id := 45) (emap ie (List.replicate (i + 1) 0)) (by simp; exact ⟨rfl, rfl, rfl⟩) (pS _) ?_
  refine W.sr ?_
  simp (disch := omega) [gw, JN, aad]
  refine W.lx [1, 4, 5, 6, 8, 9, 11] ?_; simp
  have lT := bE ajI
  refine W.freeze 45 (by simp) (fun K hK => ?_)
  simp [lT]
  refine hK _ ?_; clear hK K
  refine W.sr ?_
  simp (disch := omega) [gw, xL]
  refine aA f1 ?_
  simp (disch := omega) [gw]
  refine aA f3 ?_
  simp (disch := omega) [gw]
  refine W.lx [1, 4, 5, 6, 8, 9, 11] ?_; simp
  refine W.b8 (fun K hK => ?_)
  simp (disch := omega) [gw, xL]
  refine aA f2 ?_
  simp (disch := omega) [gw]
  refine aA f4 ?_
  simp (disch := omega) [gw]
  refine aA f5 ?_
  simp (disch := omega) [gw]
  refine W.lw [1, 4, 5, 6, 8, 9] hK ?_; clear hK K; simp
  refine W.b8 (fun K hK => ?_); simp (disch := omega) [gw]
  refine hK _ ⟨i, _, aC _ [1, 4, 5, 6, 8, 9], by omega, q2, r2, _, _, rfl, by simp [xL], by omega, wT, b1, b2, cr2⟩
 ·have hj0 : j = 0 := by simp at h; omega
  subst hj0
  simp only [ps] at wT
  rw [← wT]
  refine W.exit ?_; simp only [pX, if_true, if_false, reduceIte, Nat.reduceEqDiff]
  refine W.sr ?_; simp (disch := omega) [gw]; refine W.lx [4, 5, 6, 7] ?_; simp
  refine W.ret ?_
  simp [go]
def iZ (x : List Int) : List Int := aM (x.map (o6 (bG x)))
def JP (a b : List Int) : List Int := if iF a b % 2 = 1 ∧ lead b < 0 then iZ (fI (wN a b).2) else iZ (wN a b).2
theorem gD (x : List Int) : ∀ c ∈ x, ((bG x : Nat) : Int) ∣ c := by
 have key : ∀ (l : List Int) (g : Nat), (∀ c ∈ l, ((l.foldl (fun g c => Nat.gcd g c.natAbs) g : Nat) : Int) ∣ c) ∧ l.foldl (fun g c => Nat.gcd g c.natAbs) g ∣ g := by
  intro l
  induction l with
  | nil => intro g; exact ⟨fun c hc => (by cases hc), Nat.dvd_refl _⟩
  | cons c l ih =>
   intro g
   obtain ⟨h1, h2⟩ := ih (Nat.gcd g c.natAbs)
   simp only [List.foldl_cons]
   refine ⟨fun d hd => ?_, Nat.dvd_trans h2 (Nat.gcd_dvd_left _ _)⟩
   rcases List.mem_cons.1 hd with rfl | hd
   ·exact Int.ofNat_dvd_left.2 (Nat.dvd_trans h2 (Nat.gcd_dvd_right _ _))
   ·exact h1 d hd
 exact (key x 0).1
theorem JQ {x : List Int} {c : Int} (hc : c ∈ x) (h : c ≠ 0) : bG x ≠ 0 := by
 intro h0
 have := gD x c hc
 rw [h0] at this
 obtain ⟨k, hk⟩ := this
 simp at hk
 exact h hk
theorem bX {x : List Int} (hc : Cn x) (h : x ≠ []) : bG x ≠ 0 := by
 have hl : 0 < x.length := List.length_pos_iff.2 h
 exact JQ (c := lead x) (bR (by omega)) (cD hc hl)
theorem QQ {x : List Int} {s : Nat} (hx : ∀ c ∈ x, sz LL c ≤ s) (hc : Cn x) (h : x ≠ []) : sz LL (bG x : Int) ≤ s := by
 have hl : 0 < x.length := List.length_pos_iff.2 h
 have hm : lead x ∈ x := bR (by omega)
 refine Nat.le_trans (cC fS ?_) (hx _ hm)
 have := Int.le_of_dvd (a := (bG x : Int)) (b := ((lead x).natAbs : Int)) (by have := cD hc hl; omega) (Int.dvd_natAbs.2 (gD x _ hm))
 omega
theorem tT (x : List Int) (hx : PD x) : aJ env.P 222 [.sl [[Po x]]] (I (bG x)) := by
 have hl := hx.len
 have := JO [x.map rC] 1099511627773 (by decide) (fun p hp c hc => by
  simp only [List.mem_singleton] at hp
  subst hp
  simp only [List.mem_map] at hc
  obtain ⟨v, hv, rfl⟩ := hc
  have h1 := hx.sz v hv
  exact ⟨eS fS _, by unfold sz at h1; show (aR LL v.natAbs).length ≤ _; omega⟩) (by simp) (by simp; omega)
 have e : ([x.map rC].flatten.map gv) = x := by simp only [List.flatten_cons, List.flatten_nil, List.append_nil, bQ]
 rw [e] at this
 have e2 : aI pe [x.map rC] = .sl [[Po x]] := by rw [gY]; rfl
 rw [e2] at this
 exact this
theorem JR (a b : RP) {s s' N : Nat} (ha : rD a) (hb : rD b) (sa : Bd LL s N (a.map gv)) (sb : Bd LL s' N (b.map gv)) (hB : s + N * (s' + N + 1) + s' + N + N + 10 < 1099511627774) :
  aJ env.P 158 [Pg a, Pg b] (if k8 b = [] then .eP [Po [], .int .i64 2] else .eP [Po (JP (k8 a) (k8 b)), .int .i64 0]) := by
 have hP := NN a b ha hb sa sb hB
 have hL := I7 b hb
 have hA : Bd LL s N (k8 a) := sa.cut
 have QP : Bd LL s' N (k8 b) := sb.cut
 have ca : Cn (k8 a) := Cn.cut _
 refine aB (E := env) (fun _ => 0) [(0, Pg a), (1, Pg b)] Tryz.func158 rfl (by kernel_rfl) (by kernel_rfl) (show 2 ≤ 39 by decide) (by simp) ?_
 generalize k8 a = x at *
 generalize k8 b = y at *
 refine W.sr ?_; simp (disch := omega) [gw]; refine W.lx [0, 1] ?_; simp
 by_cases hy : y = []
 ·rw [if_pos hy] at hP ⊢
  refine W.sr ?_
  simp (disch := omega) [gw]
  refine aA hP ?_
  simp (disch := omega) [gw]
  refine W.lx [1, 7, 8, 9] ?_; simp
  refine W.seq ?_
  refine W.sr ?_; simp (disch := omega) [gw]; refine W.lx [1, 7, 8, 9, 19] ?_; simp
  refine W.cond ⟨_, rfl, fun h => ?_, fun h => ?_⟩
  ·refine W.sr ?_; simp (disch := omega) [gw]; refine W.lx [4, 5] ?_; simp
   refine W.ret ?_
   simp [go]
   rfl
  ·cases h
 rw [if_neg hy] at hP ⊢
 have NB : 0 < y.length := List.length_pos_iff.2 hy
 have hkN : iF x y ≤ N := by unfold iF; have := hA.len; omega
 obtain ⟨_, wE⟩ := Y6 fS QP (iF x y) s [] x hkN ⟨by simp, fun c hc => by cases hc⟩ (hA.mono (by omega) (by omega))
 obtain ⟨_, cr⟩ := zI (b := y) ca
 rw [show (ps y (lead y) (iF x y) [] x) = wN x y from rfl] at wE
 have hmul := Nat.mul_le_mul_right (s' + N + 1) hkN
 have ZQ := DM (PB.of wE (by omega) (by omega))
 refine W.sr ?_
 simp (disch := omega) [gw]
 refine aA hP ?_
 simp (disch := omega) [gw]
 refine W.lx [1, 7, 8, 9] ?_; simp
 refine W.seq ?_
 refine W.sr ?_; simp (disch := omega) [gw]; refine W.lx [1, 7, 8, 9, 19] ?_; simp
 refine W.cond ⟨_, rfl, fun h => ?_, fun h => ?_⟩
 ·cases h
 refine W.skip ?_
 obtain ⟨r2, cJ⟩ : ∃ r2, r2 = if iF x y % 2 = 1 ∧ lead y < 0 then fI (wN x y).2 else (wN x y).2 := ⟨_, rfl⟩
 have apg : JP x y = iZ r2 := by rw [cJ, JP]; split <;> rfl
 have hbr : PD r2 := by
  rw [cJ]; split
  ·exact PD.of wE.fI (by omega) (by omega)
  ·exact PD.of wE (by omega) (by omega)
 have hcr : Cn r2 := by
  rw [cJ]; split
  ·exact Cn.fI _
  ·exact cr
 rw [apg]
 refine W.fY (fun σ => ∃ (rows : Pm.Rows) (clk : Nat), σ = ⟨fa [(7, Po r2)], rows, clk⟩) ?_ ?_
 ·
  by_cases hk : iF x y % 2 = 1
  ·refine W.gW (fun σ => ∃ (rows : Pm.Rows) (clk : Nat), σ = ⟨fa [(7, Po (wN x y).2), (28, .bool (decide (lead y < 0)))], rows, clk⟩) (fun K hK => ?_) ?_
   ·have vW : (iF x y : Int) % 2 = 1 := by omega
    simp (disch := omega) [gw, vW]
    refine aA hL ?_
    simp (disch := omega) [gw]
    exact hK _ _ (aC _ [7, 28]) ⟨_, _, rfl⟩
   rintro _ ⟨rows, clk, rfl⟩
   refine W.YU (lead y < 0) rfl (fun h => ?_) (fun h => ?_)
   ·rw [if_pos ⟨hk, h⟩] at cJ
    subst cJ
    refine W.b8 (fun K hK => ?_)
    simp (disch := omega) [gw]
    refine aA ZQ ?_
    simp (disch := omega) [gw]
    exact hK _ ⟨_, aC _ [7], _, _, rfl⟩
   ·rw [if_neg (fun h2 => h h2.2)] at cJ
    subst cJ
    refine W.skip ?_
    exact ⟨_, aC _ [7], _, _, rfl⟩
  ·rw [if_neg (fun h2 => hk h2.1)] at cJ
   subst cJ
   refine W.gW (fun σ => ∃ (rows : Pm.Rows) (clk : Nat), σ = ⟨fa [(7, Po (wN x y).2), (28, .bool false)], rows, clk⟩) (fun K hK => ?_) ?_
   ·have vW : ((iF x y : Int) % 2 == 1) = false := by simp; omega
    simp (disch := omega) [gw, vW]
    exact hK _ _ (aC _ [7, 28]) ⟨_, _, rfl⟩
   rintro _ ⟨rows, clk, rfl⟩
   refine W.cond ⟨_, rfl, fun h => ?_, fun h => ?_⟩
   ·cases h
   ·refine W.skip ?_
    exact ⟨_, aC _ [7], _, _, rfl⟩
 rintro _ ⟨rows, clk, rfl⟩
 clear cJ apg
 refine W.seq ?_
 refine W.sr ?_; simp (disch := omega) [gw]; refine W.lx [7, 33] ?_; simp
 refine W.cond ⟨_, rfl, fun h => ?_, fun h => ?_⟩
 ·have h : r2 = [] := by simp at h; exact h
  subst h
  refine W.sr ?_; simp (disch := omega) [gw]; refine W.lx [4, 5] ?_; simp
  refine W.ret ?_
  simp [go]
  rfl
 ·have h : r2 ≠ [] := by simp at h; exact h
  have hC := tT r2 hbr
  have hgp := bX hcr h
  have hO := JM r2 (bG r2) hbr (Nat.lt_of_le_of_lt (QQ (s := 1099511627773) (fun c hc => by have := hbr.sz c hc; omega) hcr h) (by decide)) (by omega)
  rw [show aM (r2.map (o6 (bG r2))) = iZ r2 from rfl] at hO
  generalize (bG r2 : Int) = g at *
  generalize iZ r2 = pr at *
  refine W.skip ?_
  refine W.sr ?_
  simp (disch := omega) [gw]
  refine aA hC ?_
  simp (disch := omega) [gw]
  refine aA hO ?_
  simp (disch := omega) [gw]
  refine W.lx [4, 5] ?_; simp
  refine W.ret ?_
  simp [go]
end Go.Proofs.YtbbjgncblhfegaaGreat
