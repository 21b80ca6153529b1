import Derived.Test.YtbbjgncblhfegaaGreatPah
import Derived.Test.YtbbjgncblhfegaaGreatPai
import Derived.Test.YtbbjgncblhfegaaGreatPaj
set_option linter.unusedSimpArgs false
set_option linter.unusedVariables false
namespace Go.Proofs.YtbbjgncblhfegaaGreat
open Go Pm
abbrev Y (x : Int) : Prop := sz 2 x < 549755813888
theorem Y.z {x : Int} (h : Y x) : Z x := by simp only [Y, Z] at *; omega
theorem zU {x y : Int} (h : Y y) (qU : x.natAbs ≤ y.natAbs) : Y x := Nat.lt_of_le_of_lt (cC (by decide) qU) h
theorem wF {x y : Int} : dB x y ≤ 0 ↔ x ≤ y := by simp only [dB]; split <;> (try split) <;> omega
@[simp] theorem alB {l : List Int} {x : Int} : [PV.int .i64 x] :: emap aF l = emap aF (x :: l) := by simp [emap]
@[simp] theorem adI {l : List Int} : (∀ e ∈ emap aF l, ∀ p ∈ e, bY p = true) = True := by simp [emap]
theorem T6 {l : List Int} (h : bW 10000 l) (k : Nat) (hk : k ≤ l.length) : V 10000 (l.drop k) ≤ V 10000 l := by
 rw [i6 l k hk]
 have h1 := bG (by decide) (h.take k)
 have h2 := bG (by decide) (h.drop k)
 have h3 : 1 ≤ (10000 : Int) ^ k := Int.pow_pos (by decide)
 have h4 := Int.mul_le_mul_of_nonneg_right h3 h2
 omega
theorem JB (x y : Int) (hx : 0 ≤ x) (hy : 0 < y) (zx : Y x) (zy : Y y) : aK env.P 230 [Dn x, Dn y] (.eA [Dn (x / y), Dn (x % y)]) := by
 have hal : (aQ DD x.toNat).length < 549755813888 := Nat.lt_of_le_of_lt (i9 hx) zx
 have la := kC x.toNat
 have hVa := tD hx
 refine aB (E := env) (fun _ => 0) [(0, Dn x), (1, Dn y)] Tryz.func230 rfl (by kernel_rfl) (by kernel_rfl) (show 2 ≤ 59 by decide) (by simp) ?_
 simp only [Dn]
 generalize ha : aQ DD x.toNat = a at *
 refine W.sr ?_; simp (disch := omega) [gw]; refine W.lx [0, 1] ?_; simp
 refine W.sr ?_; simp (disch := omega) [gw]; refine W.lx [0, 1, 6] ?_; simp
 refine W.sr ?_; simp (disch := omega) [gw]; refine W.lx [0, 1, 6, 7] ?_; simp
 refine W.TG 7 (Dn 0) (by simp) rfl (fun K hK => ?_)
 refine W.lw [0, 1, 6, 7] hK ?_; clear hK K; simp
 refine W.seq ?_
 refine W.sr ?_; simp (disch := omega) [gw]; refine W.lx [0, 1, 6, 7, 8] ?_; simp
 refine W.block ?_
 refine W.bB (fun k σ => ∃ (r : Int) (z : List Int) (ver : Nat) (rows : Pm.Rows) (clk : Nat), σ = ⟨fa [(0, aJ aF a), (1, Dn y), (6, .own 14 ver 0 a.length), (7, Dn r), (8, .int .i64 ((k : Int) - 1))], rows, clk⟩ ∧
  rows 14 = some ⟨ver, 3, 1, emap aF z⟩ ∧ k ≤ a.length ∧ z.length = a.length ∧ bW 10000 z ∧ 0 ≤ r ∧ r < y ∧ V 10000 (a.drop k) = y * V 10000 (z.drop k) + r) a.length ?_ ?_
 ·exact ⟨_, Gh.fr [(0, aJ aF a), (1, Dn y), (6, .own 14 0 0 a.length), (7, Dn 0), (8, .int .i64 ((a.length : Int) - 1))] (by simp), 0, List.replicate a.length 0, _, _, _, rfl, by simp, by omega, by simp, bW.rep (by decide) _, by omega, hy, by simp [V]⟩
 rintro k _ ⟨r, z, ver, rows, clk, rfl, hr, hk, hz, lz, KY, B4, hV⟩
 refine W.seq ?_
 refine W.sr ?_; simp (disch := omega) [gw]; refine W.lx [0, 1, 6, 7, 8, 19] ?_; simp
 refine W.cond ⟨_, rfl, fun h => ?_, fun h => ?_⟩
 ·simp at h
  obtain ⟨j, rfl⟩ : ∃ j, k = j + 1 := ⟨k - 1, by omega⟩
  clear h
  have hxj := la.nth (i := j) (by omega)
  have hVz := bG (by decide) (lz.drop (j + 1))
  have hyV := Int.mul_nonneg (Int.le_of_lt hy) hVz
  have hR : V 10000 (a.drop j) = y * (10000 * V 10000 (z.drop (j + 1))) + (nth a j + 10000 * r) := by
   rw [dS (l := a) (i := j) (by omega)]; simp only [V]; rw [hV]; grind
  have hRx : nth a j + 10000 * r ≤ x := by
   have h1 := T6 la j (by omega)
   have h2 : 0 ≤ y * (10000 * V 10000 (z.drop (j + 1))) := Int.mul_nonneg (Int.le_of_lt hy) (by omega)
   omega
  have TL : (aQ DD r.toNat).length < 549755813888 := Nat.lt_of_le_of_lt (i9 KY) (zU zy (by omega))
  have lJ : aJ aF (aM (nth a j :: aQ DD r.toNat)) = Dn (nth a j + 10000 * r) := by
   rw [rT (bW.cons.2 ⟨hxj, kC _⟩)]
   simp only [V, tD KY]
  refine W.skip ?_
  refine W.seq ?_
  refine W.block ?_
  refine W.sr ?_
  simp (disch := omega) [gw]
  refine aA (m6 (nth a j :: aQ DD r.toNat) (by simp; omega)) ?_
  rw [lJ]
  have HM : 0 ≤ nth a j + 10000 * r := by omega
  have hR1 : nth a j + 10000 * r < y * 10000 := by omega
  have zR : Y (nth a j + 10000 * r) := zU zx (by omega)
  generalize nth a j + 10000 * r = R at *
  simp (disch := omega) [gw]
  refine W.lx [0, 1, 6, 7, 8] ?_; simp
  refine W.sr ?_; simp (disch := omega) [gw]; refine W.lx [0, 1, 6, 7, 8, 9, 10] ?_; simp
  refine W.seq ?_
  refine W.block ?_
  refine W.bB (fun m σ => ∃ (lo hi : Int), σ = ⟨fa [(0, aJ aF a), (1, Dn y), (6, .own 14 ver 0 a.length), (7, Dn R), (8, .int .i64 (j : Int)), (9, .int .i64 lo), (10, .int .i64 hi)], rows, clk⟩ ∧
   m = (hi - lo).toNat ∧ 0 ≤ lo ∧ lo ≤ hi ∧ hi ≤ 9999 ∧ y * lo ≤ R ∧ R < y * (hi + 1)) 9999 ?_ ?_
  ·exact ⟨_, Gh.fr [(0, aJ aF a), (1, Dn y), (6, .own 14 ver 0 a.length), (7, Dn R), (8, .int .i64 (j : Int)), (9, .int .i64 0), (10, .int .i64 9999)] (by simp), 0, 9999, rfl, by decide, by omega, by omega, by omega, by omega, by omega⟩
  rintro m _ ⟨lo, hi, rfl, hm, D9, hlh, SE, h1, h2⟩
  refine W.seq ?_
  refine W.sr ?_; simp (disch := omega) [gw]; refine W.lx [0, 1, 6, 7, 8, 9, 10, 32] ?_; simp
  refine W.cond ⟨_, rfl, fun h => ?_, fun h => ?_⟩
  ·simp at h
   refine W.skip ?_
   refine W.block ?_
   refine W.sr ?_; simp (disch := omega) [gw]; refine W.lx [0, 1, 6, 7, 8, 9, 10, 11] ?_; simp
   have G1 : lo < (lo + hi + 1) / 2 := by omega
   have hm2 : (lo + hi + 1) / 2 ≤ hi := by omega
   generalize (lo + hi + 1) / 2 = G3 at *
   have hp : 0 ≤ y * G3 := Int.mul_nonneg (by omega) (by omega)
   have zp : Z (y * G3) := by
    have h3 : sz 2 G3 ≤ 14 := cG (by decide) (by simp; omega)
    have h4 := bR (b := 2) (by decide) (Nat.le_refl (sz 2 y)) h3
    simp only [Z, Y] at *; omega
   have hma := j4 y G3 0 (by omega) zy.z (by omega) (by omega) (by decide) (by decide)
   rw [Int.add_zero] at hma
   refine W.sr ?_
   simp (disch := omega) [gw]
   refine aA hma ?_
   simp (disch := omega) [gw]
   refine aA (I8 (y * G3) R hp HM zp zR.z) ?_
   simp (disch := omega) [gw]
   refine W.lx [0, 1, 6, 7, 8, 9, 10, 11, 43] ?_; simp
   refine W.cond ⟨_, rfl, fun h => ?_, fun h => ?_⟩
   ·have h := wF.1 (of_decide_eq_true h)
    refine W.cA (fun K hK => ?_); simp (disch := omega) [gw]
    exact hK _ ⟨(hi - G3).toNat, _, aC _ [0, 1, 6, 7, 8, 9, 10], by omega, G3, hi, rfl, rfl, by omega, by omega, by omega, h, h2⟩
   ·have h := of_decide_eq_false h
    rw [wF] at h
    refine W.cA (fun K hK => ?_); simp (disch := omega) [gw]
    refine hK _ ⟨(G3 - 1 - lo).toNat, _, aC _ [0, 1, 6, 7, 8, 9, 10], by omega, lo, G3 - 1, rfl, rfl, by omega, by omega, by omega, h1, ?_⟩
    rw [show G3 - 1 + 1 = G3 by omega]; omega
  ·simp at h
   have atO : lo = hi := by omega
   subst atO
   have hp : 0 ≤ y * lo := Int.mul_nonneg (by omega) (by omega)
   have zp : Y (y * lo) := zU zR (by omega)
   have hma := j4 y lo 0 (by omega) zy.z (by omega) (by omega) (by decide) (by decide)
   rw [Int.add_zero] at hma
   refine W.exit ?_; simp only [pX, if_true, if_false, reduceIte, Nat.reduceEqDiff]
   refine W.sr ?_; simp (disch := omega) [gw, hr]
   refine W.lx [0, 1, 6, 7, 8, 9] ?_; simp
   refine W.cA (fun K hK => ?_)
   simp (disch := omega) [gw]
   refine aA hma ?_
   simp (disch := omega) [gw]
   refine aA (zS R (y * lo) hp h1 zR.z) ?_
   simp (disch := omega) [gw]
   refine W.lw [0, 1, 6, 7, 8] hK ?_; clear hK K; simp
   refine W.cA (fun K hK => ?_); simp (disch := omega) [gw]
   refine hK _ ⟨j, _, aC _ [0, 1, 6, 7, 8], by omega, R - y * lo, z.set j lo, ver, _, _, rfl, by simp, by omega, by simpa using hz, lz.set (by omega), by omega, by rw [Int.mul_add] at h2; omega, ?_⟩
   rw [hR, dS (l := z.set j lo) (i := j) (by simp; omega), dQ (by omega), List.drop_set_of_lt (by omega)]
   simp only [V]
   grind
 ·simp at h
  have wE : k = 0 := by omega
  subst wE
  simp only [List.drop_zero] at hV
  have ez : z.take a.length = z := bH hz
  have hzn := bG (by decide) lz
  rw [hVa] at hV
  have e1 : x / y = V 10000 z := by
   rw [hV, Int.mul_add_ediv_left _ _ (by omega), Int.ediv_eq_zero_of_lt KY B4]; simp
  have e2 : x % y = r := by
   rw [hV, Int.mul_add_emod_self_left, Int.emod_eq_of_lt KY B4]
  refine W.exit ?_; simp only [pX, if_true, if_false, reduceIte, Nat.reduceEqDiff]
  refine W.sr ?_
  simp (disch := omega) [gw, hr, ez]
  refine aA (m6 z (by omega)) ?_
  simp (disch := omega) [gw]
  refine W.lx [4, 5] ?_; simp
  refine W.ret ?_
  have h4 := rT lz
  simp only [Dn] at h4
  rw [e1, e2, ← h4]
  simp [go]
theorem zV (a b : Int) (za : Y a) (zb : Y b) : aK env.P 175 [RI a, RI b] (RI (Int.gcd a b)) := by
 refine aB (E := env) (fun _ => 0) [(0, RI a), (1, RI b)] Tryz.func175 rfl (by kernel_rfl) (by kernel_rfl) (show 2 ≤ 26 by decide) (by simp) ?_
 refine W.sr ?_; simp (disch := omega) [gw]; refine W.lx [2, 3, 4] ?_; simp
 refine W.sd ?_; simp (disch := omega) [gw]; refine W.lx [4, 5, 6] ?_; simp
 refine W.seq ?_
 refine W.block ?_
 refine W.bB (fun k σ => ∃ (x : Nat) (rows : Pm.Rows) (clk : Nat), σ = ⟨fa [(4, .ptr 4 2 0 0), (5, aJ aF (aQ DD x)), (6, aJ aF (aQ DD k))], rows, clk⟩ ∧ rows 4 = some ⟨2, 48, 2, [[.nil, .bool false]]⟩ ∧ Nat.gcd x k = Int.gcd a b ∧ Y (x : Int) ∧ Y (k : Int)) b.natAbs ?_ ?_
 ·exact ⟨_, .refl, a.natAbs, _, _, rfl, by simp, rfl, by simpa [Y, sz] using za, by simpa [Y, sz] using zb⟩
 rintro k _ ⟨x, rows, clk, rfl, jI, hg, zx, zk⟩
 have e0 : (aQ DD k).length = 0 ↔ k = 0 := by rw [List.length_eq_zero_iff, dJ K7]
 refine W.seq ?_
 refine W.sr ?_; simp (disch := omega) [gw]; refine W.lx [4, 5, 6, 15] ?_; simp
 refine W.cond ⟨_, rfl, fun h => ?_, fun h => ?_⟩
 ·have wE : k ≠ 0 := by intro h0; have h1 := e0.2 h0; simp at h; omega
  have hdiv := JB (x : Int) (k : Int) (by omega) (by omega) zx zk
  have em : (((x : Int) % k).toNat) = x % k := by rw [← Int.natCast_emod]; exact Int.toNat_natCast _
  have ed : (((x : Int) / k).toNat) = x / k := by rw [← Int.natCast_ediv]; exact Int.toNat_natCast _
  simp only [Dn, em, ed, Int.toNat_natCast] at hdiv
  have eV := Nat.mod_lt x (show k > 0 by omega)
  have oX : Nat.gcd k (x % k) = Int.gcd a b := by rw [← hg, Nat.gcd_comm x k, Nat.gcd_rec k x, Nat.gcd_comm]
  have zm : Y ((x % k : Nat) : Int) := zU zk (by simp only [Int.natAbs_natCast]; omega)
  refine W.skip ?_
  refine W.block ?_
  refine W.sr ?_
  simp (disch := omega) [gw]
  refine aA hdiv ?_
  generalize x % k = y at *
  simp (disch := omega) [gw]
  refine W.lx [4, 6, 8] ?_; simp
  refine W.cA (fun K hK => ?_); simp (disch := omega) [gw]
  exact hK _ ⟨y, _, aC _ [4, 5, 6], eV, k, _, _, rfl, by simp [jI], oX, zk, zm⟩
 ·have wE : k = 0 := by rw [← e0]; simp at h; simp [h]
  subst wE
  rw [Nat.gcd_zero_right] at hg
  subst hg
  refine W.exit ?_; simp only [pX, if_true, if_false, reduceIte, Nat.reduceEqDiff]
  refine W.sr ?_; simp (disch := omega) [gw, jI]
  refine W.lx [4] ?_; simp
  refine W.ret ?_
  simp [go]
theorem NG (a b : Int) : (if decide (a < 0) != decide (b < 0) then -((a.natAbs / b.natAbs : Nat) : Int) else ((a.natAbs / b.natAbs : Nat) : Int)) = a.tdiv b := by
 have h : ∀ x y : Nat, ((x / y : Nat) : Int) = (x : Int).tdiv y := fun x y => by rw [Int.natCast_ediv, Int.tdiv_eq_ediv_of_nonneg (by omega)]
 rw [h]
 by_cases h1 : a < 0 <;> by_cases h2 : b < 0
 ·simp only [h1, h2, show (a.natAbs : Int) = -a by omega, show (b.natAbs : Int) = -b by omega]; simp
 ·simp only [h1, h2, show (a.natAbs : Int) = -a by omega, show (b.natAbs : Int) = b by omega]; simp
 ·simp only [h1, h2, show (a.natAbs : Int) = a by omega, show (b.natAbs : Int) = -b by omega]; simp
 ·simp only [h1, h2, show (a.natAbs : Int) = a by omega, show (b.natAbs : Int) = b by omega]; simp
theorem tE (a b : Int) (hb : b ≠ 0) (za : Y a) (zb : Y b) : aK env.P 176 [RI a, RI b] (RI (a.tdiv b)) := by
 have hdiv := JB (a.natAbs : Int) (b.natAbs : Int) (by omega) (by omega) (by simpa [Y, sz] using za) (by simpa [Y, sz] using zb)
 have em : (((a.natAbs : Int) % b.natAbs).toNat) = a.natAbs % b.natAbs := by rw [← Int.natCast_emod]; exact Int.toNat_natCast _
 have ed : (((a.natAbs : Int) / b.natAbs).toNat) = a.natAbs / b.natAbs := by rw [← Int.natCast_ediv]; exact Int.toNat_natCast _
 have hs := NG a b
 refine aB (E := env) (fun _ => 0) [(0, RI a), (1, RI b)] Tryz.func176 rfl (by kernel_rfl) (by kernel_rfl) (show 2 ≤ 22 by decide) (by simp) ?_
 refine W.sr ?_; simp (disch := omega) [gw]; refine W.lx [2, 3, 4] ?_; simp
 simp only [Dn, em, ed, Int.toNat_natCast] at hdiv
 generalize a.natAbs / b.natAbs = q at *
 generalize a.natAbs % b.natAbs = r at *
 refine W.sr ?_
 simp (disch := omega) [gw]
 refine aA hdiv ?_
 simp (disch := omega) [gw]
 refine W.lx [2, 3, 4, 5] ?_; simp
 refine W.sr ?_
 simp (disch := omega) [gw]
 refine aA (k7 q (decide (a < 0) != decide (b < 0))) ?_
 rw [hs]
 simp (disch := omega) [gw]
 refine W.lx [4] ?_; simp
 refine W.ret ?_
 simp [go]
def re (q : Rat) : List PV := [aJ aF (aQ DD q.num.natAbs), .bool (decide (q.num < 0)), aJ aF (aQ DD q.den), .bool false]
@[simp] theorem atP {q : Rat} : re q = [aJ aF (aQ DD q.num.natAbs), .bool (decide (q.num < 0)), aJ aF (aQ DD q.den), .bool false] := rfl
abbrev RR (q : Rat) : PV := .ag (re q)
def cS (n d : Int) : Rat := if d = 0 then n else Rat.divInt n d
theorem kK (n : Int) : cS n 1 = n := by
 rw [cS, if_neg (by decide), Rat.divInt_eq_div]
 grind
structure ZR (k : Nat) (q : Rat) : Prop where
 n : sz 2 q.num ≤ k
 d : sz 2 (q.den : Int) ≤ k
abbrev YY : Nat := 137438953472
theorem nU (n d : Int) (hd : d ≠ 0) : (cS n d).num = (if d < 0 then -n else n) / (Int.gcd (if d < 0 then -n else n) (if d < 0 then -d else d)) := by
 rw [cS, if_neg hd, Rat.num_divInt]
 by_cases h : d < 0
 ·simp only [h, if_true]
  rw [Int.sign_eq_neg_one_of_neg h, Int.gcd_comm d n, Int.neg_gcd, Int.gcd_neg]; simp
 ·simp only [h, if_false]
  rw [Int.sign_eq_one_of_pos (by omega), Int.gcd_comm d n]; simp
theorem nV (n d : Int) (hd : d ≠ 0) : ((cS n d).den : Int) = (if d < 0 then -d else d) / (Int.gcd (if d < 0 then -n else n) (if d < 0 then -d else d)) := by
 rw [cS, if_neg hd, Rat.den_divInt, if_neg hd]
 by_cases h : d < 0
 ·simp only [h, if_true]
  rw [Int.gcd_comm d n, Int.neg_gcd, Int.gcd_neg]
  rw [Int.natCast_ediv]; congr 1; omega
 ·simp only [h, if_false]
  rw [Int.gcd_comm d n, Int.natCast_ediv]; congr 1; omega
theorem zW {q : Rat} {n d : Int} (h1 : q.num = n) (h2 : (q.den : Int) = d) : RR q = .ag [aJ aF (aQ DD n.natAbs), .bool (decide (n < 0)), aJ aF (aQ DD d.natAbs), .bool (decide (d < 0))] := by
 subst h1; subst h2
 have : ¬ ((q.den : Int) < 0) := by omega
 simp [this]
theorem k8 (n d : Int) (zn : Y n) (zd : Y d) : aK env.P 95 [RI n, RI d] (RR (cS n d)) := by
 refine aB (E := env) (fun id => if id = 4 then 2 else 0) [(0, RI n), (1, RI d)] Tryz.func95 rfl (by kernel_rfl) (by kernel_rfl) (show 2 ≤ 39 by decide) (by simp) ?_
 refine W.sr ?_; simp (disch := omega) [gw]; refine W.lx [2, 3, 4] ?_; simp
 refine W.fO (fun σ => ∃ (d1 : Int) (rows : Pm.Rows) (clk : Nat), σ = ⟨fa [(2, .ptr 2 0 0 0), (3, .ptr 3 1 0 0), (4, .ptr 4 2 0 0)], rows, clk⟩ ∧ rows 2 = some ⟨0, 48, 2, [[aJ aF (aQ DD n.natAbs), .bool (decide (n < 0))]]⟩ ∧
  rows 3 = some ⟨1, 48, 2, [[aJ aF (aQ DD d1.natAbs), .bool (decide (d1 < 0))]]⟩ ∧ rows 4 = some ⟨2, 50, 4, [[.nil, .bool false, .nil, .bool false]]⟩ ∧ d1 ≠ 0 ∧ cS n d = cS n d1 ∧ Y d1) ?_ ?_
 ·
  refine W.sr ?_
  simp (disch := omega) [gw]
  refine aA (C6 d) ?_
  simp (disch := omega) [gw]
  refine W.lx [2, 3, 4, 7] ?_; simp
  refine W.cond ⟨_, rfl, fun h => ?_, fun h => ?_⟩
  ·have h := of_decide_eq_true h
   subst h
   refine W.cA (fun K hK => ?_)
   simp (disch := omega) [gw]
   refine aA (lW 1 (by decide) (by decide)) ?_
   simp (disch := omega) [gw]
   refine hK _ ⟨_, aC _ [2, 3, 4], 1, _, _, rfl, by simp, by simp, by simp, by decide, by rw [kK]; simp [cS], ?_⟩
   have : sz 2 1 ≤ 1 := cG (by decide) (by decide)
   simp only [Y]; omega
  ·have h := of_decide_eq_false h
   refine W.skip ?_
   exact ⟨_, aC _ [2, 3, 4], d, _, _, rfl, by simp, by simp, by simp, h, rfl, zd⟩
 rintro _ ⟨d1, rows, clk, rfl, cM, fK, jI, NF, hq, zd1⟩
 rw [hq]
 have q1 := nU n d1 NF
 have q2 := nV n d1 NF
 generalize cS n d1 = q at *
 clear hq zd d
 refine W.fO (fun σ => ∃ (n2 d2 : Int) (rows : Pm.Rows) (clk : Nat), σ = ⟨fa [(2, .ptr 2 0 0 0), (3, .ptr 3 1 0 0), (4, .ptr 4 2 0 0)], rows, clk⟩ ∧ rows 2 = some ⟨0, 48, 2, [[aJ aF (aQ DD n2.natAbs), .bool (decide (n2 < 0))]]⟩ ∧
  rows 3 = some ⟨1, 48, 2, [[aJ aF (aQ DD d2.natAbs), .bool (decide (d2 < 0))]]⟩ ∧ rows 4 = some ⟨2, 50, 4, [[.nil, .bool false, .nil, .bool false]]⟩ ∧ 0 < d2 ∧ q.num = n2 / Int.gcd n2 d2 ∧ (q.den : Int) = d2 / Int.gcd n2 d2 ∧ Y n2 ∧ Y d2) ?_ ?_
 ·
  refine W.sr ?_; simp (disch := omega) [gw, fK]
  refine W.lx [2, 3, 4, 10] ?_; simp
  refine W.cond ⟨_, rfl, fun h => ?_, fun h => ?_⟩
  ·have h := of_decide_eq_true h
   simp only [h, if_true] at q1 q2
   have hn := pK n
   have hd := pK d1
   have zn2 : Y (-n) := by simpa [Y, mK] using zn
   have zd2 : Y (-d1) := by simpa [Y, mK] using zd1
   obtain ⟨n2, hn2⟩ : ∃ m, m = -n := ⟨_, rfl⟩
   obtain ⟨d2, SO⟩ : ∃ m, m = -d1 := ⟨_, rfl⟩
   rw [← hn2] at hn zn2 q1 q2
   rw [← SO] at hd zd2 q1 q2
   refine W.MV (fun K hK => ?_)
   rw [if_pos rfl, dP]
   simp (disch := omega) [gw, cM]
   refine aA hn ?_
   simp (disch := omega) [gw, cM, fK]
   refine aA hd ?_
   simp (disch := omega) [gw, cM, fK]
   exact hK _ ⟨_, aC _ [2, 3, 4], n2, d2, _, _, rfl, by simp, by simp, by simp [jI], by omega, q1, q2, zn2, zd2⟩
  ·have h := of_decide_eq_false h
   simp only [h, if_false] at q1 q2
   refine W.skip ?_
   exact ⟨_, aC _ [2, 3, 4], n, d1, _, _, rfl, cM, fK, jI, by omega, q1, q2, zn, zd1⟩
 clear cM fK jI q1 q2
 rintro _ ⟨n2, d2, rows, clk, rfl, cM, fK, jI, h0, q1, q2, zn2, zd2⟩
 refine W.seq ?_
 refine W.fU (fun σ => ∃ (b : Bool), σ = ⟨fa [(2, .ptr 2 0 0 0), (3, .ptr 3 1 0 0), (4, .ptr 4 2 0 0), (25, .bool b)], rows, clk⟩ ∧ (b = true ↔ (aQ DD d2.natAbs).length = 1 ∧ nth (aQ DD d2.natAbs) 0 = 1)) (fun K hK => ?_) ?_
 ·by_cases h1 : (aQ DD d2.natAbs).length = 1
  ·have h2 : ((aQ DD d2.natAbs).length : Int) = 1 := by omega
   simp (disch := omega) [gw, fK, h1, h2]
   exact hK _ _ (aC _ [2, 3, 4, 25]) ⟨_, rfl, by simp [h1]⟩
  ·have h2 : ¬ ((aQ DD d2.natAbs).length : Int) = 1 := by omega
   have h3 : (((aQ DD d2.natAbs).length : Int) == 1) = false := by simpa using h2
   simp (disch := omega) [gw, fK, h3]
   exact hK _ _ (aC _ [2, 3, 4, 25]) ⟨_, rfl, by simp [h1, h2]⟩
 rintro _ ⟨b, rfl, hb⟩
 refine W.cond ⟨_, rfl, fun h => ?_, fun h => ?_⟩
 ·have hb := hb.1 h
  have SO : d2 = 1 := by
   have hv := aot d2
   obtain ⟨h1, h2⟩ := hb
   match hl : aQ DD d2.natAbs, h1 with
   | [x], _ =>
    rw [hl] at h2 hv
    simp [nth, V] at h2 hv
    omega
  subst SO
  rw [Int.gcd_one] at q1 q2
  rw [zW (n := n2) (d := 1) (by simpa using q1) (by simpa using q2)]
  refine W.sr ?_; simp (disch := omega) [gw, cM, fK, jI]
  refine W.lx [4] ?_; simp
  refine W.ret ?_
  simp [go]
 ·refine W.skip ?_
  have hgp : 0 < Int.gcd n2 d2 := Int.gcd_pos_of_ne_zero_right _ (by omega)
  have e1 : n2.tdiv (Int.gcd n2 d2) = q.num := by rw [q1]; exact Int.tdiv_eq_ediv_of_dvd (Int.gcd_dvd_left ..)
  have e2 : d2.tdiv (Int.gcd n2 d2) = q.den := by rw [q2]; exact Int.tdiv_eq_ediv_of_dvd (Int.gcd_dvd_right ..)
  have zg : Y (Int.gcd n2 d2 : Int) := zU zd2 (by
   have := Int.le_of_dvd h0 (Int.gcd_dvd_right n2 d2); omega)
  have Y4 := tE n2 (Int.gcd n2 d2) (by omega) zn2 zg
  have hq2 := tE d2 (Int.gcd n2 d2) (by omega) zd2 zg
  rw [e1] at Y4
  rw [e2] at hq2
  have hg := zV n2 d2 zn2 zd2
  obtain ⟨g, hgd⟩ : ∃ g : Int, g = Int.gcd n2 d2 := ⟨_, rfl⟩
  rw [← hgd] at hg Y4 hq2
  have TS : ¬ ((q.den : Int) < 0) := by omega
  refine W.sr ?_
  simp (disch := omega) [gw, cM, fK]
  refine aA hg ?_
  simp (disch := omega) [gw, cM, fK]
  refine W.lx [2, 3, 4, 5] ?_; simp
  refine W.sd ?_
  simp (disch := omega) [gw, cM, fK]
  refine aA Y4 ?_
  simp (disch := omega) [gw, cM, fK]
  refine aA hq2 ?_
  simp (disch := omega) [gw, cM, fK, jI]
  refine W.lx [4] ?_; simp
  refine W.ret ?_
  simp [go, TS]
theorem nW (n d : Int) (h1 : -9223372036854775808 ≤ n ∧ n < 9223372036854775808) (h2 : -9223372036854775808 ≤ d ∧ d < 9223372036854775808) : aK env.P 47 [.int .i64 n, .int .i64 d] (RR (cS n d)) := by
 have z : ∀ x : Int, -9223372036854775808 ≤ x ∧ x < 9223372036854775808 → Y x := fun x hx => by
  have : sz 2 x ≤ 64 := cG (by decide) (by omega)
  simp only [Y]; omega
 have hm := k8 n d (z n h1) (z d h2)
 generalize cS n d = q at *
 refine aB (E := env) (fun _ => 0) [(0, .int .i64 n), (1, .int .i64 d)] Tryz.func47 rfl (by kernel_rfl) (by kernel_rfl) (show 2 ≤ 10 by decide) (by simp) ?_
 refine W.sr ?_; simp (disch := omega) [gw]; refine W.lx [0, 1, 4] ?_; simp
 refine W.sr ?_
 simp (disch := omega) [gw]
 refine aA (lW n h1.1 h1.2) ?_
 simp (disch := omega) [gw]
 refine aA (lW d h2.1 h2.2) ?_
 simp (disch := omega) [gw]
 refine aA hm ?_
 simp (disch := omega) [gw]
 refine W.lx [4] ?_; simp
 refine W.ret ?_
 simp [go]
theorem JC (q : Rat) : aK env.P 90 [RR q] (RR (-q)) := by
 have hn := pK q.num
 have e : RR (-q) = .ag [aJ aF (aQ DD (-q.num).natAbs), .bool (decide (-q.num < 0)), aJ aF (aQ DD q.den), .bool false] := rfl
 rw [e]
 generalize -q.num = m at *
 refine aB (E := env) (fun _ => 0) [(0, RR q)] Tryz.func90 rfl (by kernel_rfl) (by kernel_rfl) (show 1 ≤ 9 by decide) (by simp) ?_
 refine W.sr ?_; simp (disch := omega) [gw]; refine W.lx [1, 2] ?_; simp
 refine W.sd ?_
 simp (disch := omega) [gw]
 refine aA hn ?_
 simp (disch := omega) [gw]
 refine W.lx [2] ?_; simp
 refine W.ret ?_
 simp [go]
theorem adJ (p q : Rat) : cS (p.num * q.den + q.num * p.den) ((p.den : Int) * q.den) = p + q := by
 have h : ((p.den : Int) * q.den) ≠ 0 := by have := p.den_nz; have := q.den_nz; simp [Int.mul_eq_zero]; omega
 rw [cS, if_neg h, Rat.add_def', ← Int.natCast_mul, Rat.divInt_ofNat]
theorem adK (p q : Rat) : cS (p.num * q.num) ((p.den : Int) * q.den) = p * q := by
 have h : ((p.den : Int) * q.den) ≠ 0 := by have := p.den_nz; have := q.den_nz; simp [Int.mul_eq_zero]; omega
 rw [cS, if_neg h, Rat.mul_def', ← Int.natCast_mul, Rat.divInt_ofNat]
theorem adL (p q : Rat) (hq : q ≠ 0) : cS (p.num * q.den) ((p.den : Int) * q.num) = p / q := by
 have hn : q.num ≠ 0 := fun h => hq (Rat.num_eq_zero.1 h)
 have h : ((p.den : Int) * q.num) ≠ 0 := by have := p.den_nz; exact Int.mul_ne_zero (by omega) hn
 rw [cS, if_neg h, Rat.div_def, Rat.inv_def, ← Rat.divInt_mul_divInt, Rat.num_divInt_den]
theorem tF (p q : Rat) (hp : ZR YY p) (hq : ZR YY q) : aK env.P 58 [RR p, RR q] (RR (p + q)) := by
 have s1 := bR (b := 2) (by decide) hp.n hq.d
 have s2 := bR (b := 2) (by decide) hq.n hp.d
 have s3 := bR (b := 2) (by decide) hp.d hq.d
 have s4 := mJ (b := 2) (by decide) s1 s2
 have zz : ∀ {x : Int}, sz 2 x ≤ YY → Z x := fun h => by simp only [Z, YY] at *; omega
 have m1 := dN p.num q.den (zz hp.n) (zz hq.d)
 have m2 := dN q.num p.den (zz hq.n) (zz hp.d)
 have m3 := dN p.den q.den (zz hp.d) (zz hq.d)
 have m4 := zT (p.num * q.den) (q.num * p.den) (by simp only [Z, YY] at *; omega) (by simp only [Z, YY] at *; omega)
 have m5 := k8 (p.num * q.den + q.num * p.den) ((p.den : Int) * q.den) (by simp only [Y, YY] at *; omega) (by simp only [Y, YY] at *; omega)
 rw [adJ] at m5
 generalize p.num * q.den + q.num * p.den = x5 at *
 generalize p.num * q.den = x1 at *
 generalize q.num * (p.den : Int) = x2 at *
 generalize (p.den : Int) * q.den = x3 at *
 generalize hr : p + q = r at *
 have d1 : RR p = .ag [aJ aF (aQ DD p.num.natAbs), .bool (decide (p.num < 0)), aJ aF (aQ DD (p.den : Int).natAbs), .bool (decide ((p.den : Int) < 0))] := zW rfl rfl
 have d2 : RR q = .ag [aJ aF (aQ DD q.num.natAbs), .bool (decide (q.num < 0)), aJ aF (aQ DD (q.den : Int).natAbs), .bool (decide ((q.den : Int) < 0))] := zW rfl rfl
 rw [d1, d2]
 generalize (p.den : Int) = pd at *
 generalize (q.den : Int) = qd at *
 generalize p.num = pn at *
 generalize q.num = qn at *
 refine aB (E := env) (fun _ => 0) [(0, .ag [aJ aF (aQ DD pn.natAbs), .bool (decide (pn < 0)), aJ aF (aQ DD pd.natAbs), .bool (decide (pd < 0))]), (1, .ag [aJ aF (aQ DD qn.natAbs), .bool (decide (qn < 0)), aJ aF (aQ DD qd.natAbs), .bool (decide (qd < 0))])] Tryz.func58 rfl (by kernel_rfl) (by kernel_rfl) (show 2 ≤ 22 by decide) (by simp) ?_
 refine W.sr ?_; simp (disch := omega) [gw]; refine W.lx [2, 3, 4] ?_; simp
 refine W.sd ?_
 simp (disch := omega) [gw]
 refine aA m1 ?_
 simp (disch := omega) [gw]
 refine aA m2 ?_
 simp (disch := omega) [gw]
 refine aA m4 ?_
 simp (disch := omega) [gw]
 refine aA m3 ?_
 simp (disch := omega) [gw]
 refine aA m5 ?_
 simp (disch := omega) [gw]
 refine W.lx [4] ?_; simp
 refine W.ret ?_
 simp [go]
theorem zY (p q : Rat) (hp : ZR YY p) (hq : ZR YY q) : aK env.P 123 [RR p, RR q] (RR (p * q)) := by
 have s1 := bR (b := 2) (by decide) hp.n hq.n
 have s2 := bR (b := 2) (by decide) hp.d hq.d
 have zz : ∀ {x : Int}, sz 2 x ≤ YY → Z x := fun h => by simp only [Z, YY] at *; omega
 have m1 := dN p.num q.num (zz hp.n) (zz hq.n)
 have m2 := dN p.den q.den (zz hp.d) (zz hq.d)
 have m5 := k8 (p.num * q.num) ((p.den : Int) * q.den) (by simp only [Y, YY] at *; omega) (by simp only [Y, YY] at *; omega)
 rw [adK] at m5
 generalize p.num * (q.num : Int) = x1 at *
 generalize (p.den : Int) * q.den = x2 at *
 generalize hr : p * q = r at *
 have d1 : RR p = .ag [aJ aF (aQ DD p.num.natAbs), .bool (decide (p.num < 0)), aJ aF (aQ DD (p.den : Int).natAbs), .bool (decide ((p.den : Int) < 0))] := zW rfl rfl
 have d2 : RR q = .ag [aJ aF (aQ DD q.num.natAbs), .bool (decide (q.num < 0)), aJ aF (aQ DD (q.den : Int).natAbs), .bool (decide ((q.den : Int) < 0))] := zW rfl rfl
 rw [d1, d2]
 generalize (p.den : Int) = pd at *
 generalize (q.den : Int) = qd at *
 generalize p.num = pn at *
 generalize q.num = qn at *
 refine aB (E := env) (fun _ => 0) [(0, .ag [aJ aF (aQ DD pn.natAbs), .bool (decide (pn < 0)), aJ aF (aQ DD pd.natAbs), .bool (decide (pd < 0))]), (1, .ag [aJ aF (aQ DD qn.natAbs), .bool (decide (qn < 0)), aJ aF (aQ DD qd.natAbs), .bool (decide (qd < 0))])] Tryz.func123 rfl (by kernel_rfl) (by kernel_rfl) (show 2 ≤ 16 by decide) (by simp) ?_
 refine W.sr ?_; simp (disch := omega) [gw]; refine W.lx [2, 3, 4] ?_; simp
 refine W.sd ?_
 simp (disch := omega) [gw]
 refine aA m1 ?_
 simp (disch := omega) [gw]
 refine aA m2 ?_
 simp (disch := omega) [gw]
 refine aA m5 ?_
 simp (disch := omega) [gw]
 refine W.lx [4] ?_; simp
 refine W.ret ?_
 simp [go]
theorem zZ (p q : Rat) (hp : ZR YY p) (hq : ZR YY q) (h0 : q ≠ 0) : aK env.P 167 [RR p, RR q] (RR (p / q)) := by
 have s1 := bR (b := 2) (by decide) hp.n hq.d
 have s2 := bR (b := 2) (by decide) hp.d hq.n
 have zz : ∀ {x : Int}, sz 2 x ≤ YY → Z x := fun h => by simp only [Z, YY] at *; omega
 have m1 := dN p.num q.den (zz hp.n) (zz hq.d)
 have m2 := dN p.den q.num (zz hp.d) (zz hq.n)
 have m5 := k8 (p.num * q.den) ((p.den : Int) * q.num) (by simp only [Y, YY] at *; omega) (by simp only [Y, YY] at *; omega)
 rw [adL p q h0] at m5
 generalize p.num * (q.den : Int) = x1 at *
 generalize (p.den : Int) * q.num = x2 at *
 generalize hr : p / q = r at *
 have d1 : RR p = .ag [aJ aF (aQ DD p.num.natAbs), .bool (decide (p.num < 0)), aJ aF (aQ DD (p.den : Int).natAbs), .bool (decide ((p.den : Int) < 0))] := zW rfl rfl
 have d2 : RR q = .ag [aJ aF (aQ DD q.num.natAbs), .bool (decide (q.num < 0)), aJ aF (aQ DD (q.den : Int).natAbs), .bool (decide ((q.den : Int) < 0))] := zW rfl rfl
 rw [d1, d2]
 generalize (p.den : Int) = pd at *
 generalize (q.den : Int) = qd at *
 generalize p.num = pn at *
 generalize q.num = qn at *
 refine aB (E := env) (fun _ => 0) [(0, .ag [aJ aF (aQ DD pn.natAbs), .bool (decide (pn < 0)), aJ aF (aQ DD pd.natAbs), .bool (decide (pd < 0))]), (1, .ag [aJ aF (aQ DD qn.natAbs), .bool (decide (qn < 0)), aJ aF (aQ DD qd.natAbs), .bool (decide (qd < 0))])] Tryz.func167 rfl (by kernel_rfl) (by kernel_rfl) (show 2 ≤ 16 by decide) (by simp) ?_
 refine W.sr ?_; simp (disch := omega) [gw]; refine W.lx [2, 3, 4] ?_; simp
 refine W.sd ?_
 simp (disch := omega) [gw]
 refine aA m1 ?_
 simp (disch := omega) [gw]
 refine aA m2 ?_
 simp (disch := omega) [gw]
 refine aA m5 ?_
 simp (disch := omega) [gw]
 refine W.lx [4] ?_; simp
 refine W.ret ?_
 simp [go]
theorem JD : aK env.P 122 [] (RR 0) := by
 have h := nW 0 1 (by decide) (by decide)
 rw [kK] at h
 refine aB (E := env) (fun _ => 0) [] Tryz.func122 rfl (by kernel_rfl) (by kernel_rfl) (show 0 ≤ 2 by decide) (by simp) ?_
 refine W.sr ?_; simp (disch := omega) [gw]; refine W.lx [0] ?_; simp
 refine W.sr ?_
 simp (disch := omega) [gw]
 refine aA h ?_
 simp (disch := omega) [gw]
 refine W.lx [0] ?_; simp
 refine W.ret ?_
 simp [go]
def lK : List Rat → List Rat
 | [] => []
 | x :: l => if lK l = [] ∧ x = 0 then [] else x :: lK l
theorem C9 : ∀ l : List Rat, lK (l ++ [0]) = lK l
 | [] => by simp [lK]
 | x :: l => by simp [lK, C9 l]
theorem QG {x : Rat} (h : x ≠ 0) : ∀ l : List Rat, lK (l ++ [x]) = l ++ [x]
 | [] => by
  show lK [x] = [x]
  rw [lK, if_neg (fun hh => h hh.2)]; rfl
 | y :: l => by
  have ih := QG h l
  have hn : ¬ (l ++ [x] = [] ∧ y = 0) := by simp
  show lK (y :: (l ++ [x])) = y :: (l ++ [x])
  rw [lK, ih, if_neg hn]
abbrev qs (x : List Int) : List Rat := x.map fun (c : Int) => (c : Rat)
theorem tG : ∀ x : List Int, lK (qs x) = qs (aM x)
 | [] => rfl
 | a :: x => by
  have ih := tG x
  simp only [qs, List.map_cons] at ih ⊢
  rw [lK, ih, aM]
  by_cases h : aM x = [] ∧ a = 0
  ·simp [h]
  ·rw [if_neg h, if_neg (by simpa using h)]; simp
@[simp] theorem alE {l : List Rat} : bF 4 (emap re l) = True := c8 fun _ => rfl
@[simp] theorem ai8 {v e n : Nat} {l : List Rat} : cT (some ⟨v, e, n, emap re l⟩) = True := cQ fun _ => rfl
abbrev PP (l : List Rat) : PV := aJ re l
theorem tH (l : List Rat) (hl : l.length < 17592186044416) : aK env.P 97 [PP l] (PP (lK l)) := by
 refine aB (E := env) (fun _ => 0) [(0, PP l)] Tryz.func97 rfl (by kernel_rfl) (by kernel_rfl) (show 1 ≤ 22 by decide) (by simp) ?_
 refine W.sr ?_; simp (disch := omega) [gw]; refine W.lx [0] ?_; simp
 refine W.sr ?_; simp (disch := omega) [gw]; refine W.lx [0, 3] ?_; simp
 refine W.seq (W.block ?_)
 refine W.bB (fun k σ => ∃ (rows : Pm.Rows) (clk : Nat), σ = ⟨fa [(0, PP l), (3, .int .i64 (k : Int))], rows, clk⟩ ∧ k ≤ l.length ∧ lK l = lK (l.take k)) l.length ?_ ?_
 ·exact ⟨_, .refl, _, _, rfl, by omega, by simp⟩
 rintro k _ ⟨rows, clk, rfl, hk, hc⟩
 refine W.seq ?_
 refine W.fU (fun σ => ∃ (b : Bool), σ = ⟨fa [(0, PP l), (3, .int .i64 (k : Int)), (16, .bool b)], rows, clk⟩ ∧ (b = true ↔ 0 < k ∧ nth l (k - 1) = 0)) (fun K hK => ?_) ?_
 ·simp
  by_cases h0 : 0 < k
  ·simp (disch := omega) [gw, h0]
   refine aA (C6 (nth l (k - 1)).num) ?_
   simp (disch := omega) [gw, h0]
   refine hK _ _ (aC _ [0, 3, 16]) ⟨_, rfl, ?_⟩
   simp [h0, Rat.num_eq_zero]
  ·simp (disch := omega) [gw, h0]
   exact hK _ _ (aC _ [0, 3, 16]) ⟨_, rfl, by simp [h0]⟩
 rintro _ ⟨b, rfl, hb⟩
 refine W.cond ⟨_, rfl, fun h => ?_, fun h => ?_⟩
 ·obtain ⟨h0, h1⟩ := hb.1 h
  refine W.skip (W.block ?_)
  refine W.cA (fun K hK => ?_)
  simp (disch := omega) [gw]
  refine hK _ ⟨k - 1, _, Gh.fr [(0, _), (3, .int .i64 ((k - 1 : Nat) : Int))] (by simp; omega), by omega, _, _, rfl, by omega, ?_⟩
  rw [hc, show k = (k - 1) + 1 by omega, aX (by omega), h1, C9]
  simp
 ·have h2 : lK l = l.take k := by
   rw [hc]
   by_cases h0 : 0 < k
   ·have h1 : nth l (k - 1) ≠ 0 := fun h1 => by simp [hb.2 ⟨h0, h1⟩] at h
    rw [show k = (k - 1) + 1 by omega, aX (by omega)]
    exact QG h1 _
   ·have : k = 0 := by omega
    subst this; simp [lK]
  refine W.exit ?_
  simp only [pX, if_true, if_false, reduceIte, Nat.reduceEqDiff]
  refine W.sr ?_; simp (disch := omega) [gw]; refine W.lx [2] ?_; simp
  refine W.ret ?_
  simp [h2]
def ri (x : Int) : List PV := [aJ aF (aQ DD x.natAbs), .bool (decide (x < 0)), aJ aF (aQ DD 1), .bool false]
@[simp] theorem ai9 {x : Int} : ri x = [aJ aF (aQ DD x.natAbs), .bool (decide (x < 0)), aJ aF (aQ DD 1), .bool false] := rfl
theorem fL (x : Int) : re (x : Rat) = ri x := by
 simp only [re, ri, Rat.num_intCast, Rat.den_intCast]
 congr
theorem oH (x : List Int) : PP (qs x) = aJ ri x := by simp only [PP, aJ, emap, qs, List.map_map, Function.comp_def, fL]
abbrev PI (x : List Int) : PV := aJ ri x
@[simp] theorem alF {l : List Int} : bF 4 (emap ri l) = True := c8 fun _ => rfl
@[simp] theorem aja {v e n : Nat} {l : List Int} : cT (some ⟨v, e, n, emap ri l⟩) = True := cQ fun _ => rfl
@[simp] theorem atQ {l : List Int} {x : Int} : emap ri l ++ [[aJ aF (aQ DD x.natAbs), .bool (decide (x < 0)), aJ aF (aQ DD 1), .bool false]] = emap ri (l ++ [x]) := by simp [emap]
@[simp] theorem atS {l : List Rat} {q : Rat} : emap re l ++ [[aJ aF (aQ DD q.num.natAbs), .bool (decide (q.num < 0)), aJ aF (aQ DD q.den), .bool false]] = emap re (l ++ [q]) := by simp [emap]
@[simp] theorem aoH {l : List Int} {i : Nat} {x : Int} : iK (emap ri l) i 0 [aJ aF (aQ DD x.natAbs), .bool (decide (x < 0)), aJ aF (aQ DD 1), .bool false] = emap ri (l.set i x) := xM (n := 4) (fun _ => rfl)
theorem m8 (l : List Int) (hl : l.length < 17592186044416) : aK env.P 97 [PI l] (PI (aM l)) := by
 have := tH (qs l) (by simpa using hl)
 rwa [tG, oH, oH] at this
theorem DA (n : Int) (zn : Y n) : aK env.P 95 [RI n, RI 1] (.ag (ri n)) := by
 have := k8 n 1 zn (by have : sz 2 1 ≤ 1 := cG (by decide) (by decide); simp only [Y]; omega)
 rwa [kK, RR, fL] at this
theorem m9 : aK env.P 122 [] (.ag (ri 0)) := by
 have := JD
 rwa [RR, show (0 : Rat) = ((0 : Int) : Rat) by simp, fL] at this
theorem JE (n : Int) (h1 : -9223372036854775808 ≤ n ∧ n < 9223372036854775808) : aK env.P 47 [.int .i64 n, .int .i64 1] (.ag (ri n)) := by
 have := nW n 1 h1 (by decide)
 rwa [kK, RR, fL] at this
theorem mL {x : Int} {k : Nat} (h : sz 2 x ≤ k) (h1 : 1 ≤ k) : ZR k (x : Rat) := ⟨by simpa using h, by simp; exact Nat.le_trans (cG (by decide) (by decide)) h1⟩
theorem T7 (x y : Int) (hx : sz 2 x ≤ YY) (hy : sz 2 y ≤ YY) : aK env.P 58 [.ag (ri x), .ag (ri y)] (.ag (ri (x + y))) := by
 have := tF x y (mL hx (by decide)) (mL hy (by decide))
 rwa [← Rat.intCast_add, RR, RR, RR, fL, fL, fL] at this
theorem DB (x y : Int) (hx : sz 2 x ≤ YY) (hy : sz 2 y ≤ YY) : aK env.P 123 [.ag (ri x), .ag (ri y)] (.ag (ri (x * y))) := by
 have := zY x y (mL hx (by decide)) (mL hy (by decide))
 rwa [← Rat.intCast_mul, RR, RR, RR, fL, fL, fL] at this
structure FOK (p : RP) : Prop where
 ok : ∀ c ∈ p, bW 4294967296 c.2 ∧ c.2.length < 4294967296
 len : p.length < 1099511627776
theorem uX (p : RP) (h : FOK p) : aK env.P 32 [Pg p] (PI (aM (p.map gv))) := by
 refine aB (E := env) (fun _ => 0) [(0, Pg p)] Tryz.func32 rfl (by kernel_rfl) (by kernel_rfl) (show 1 ≤ 23 by decide) (by simp) ?_
 have hl := h.len
 refine W.sr ?_; simp (disch := omega) [gw]; refine W.lx [0] ?_; simp
 refine W.sr ?_; simp (disch := omega) [gw]; refine W.lx [0, 3] ?_; simp
 refine W.nil 3 3 50 4 (by simp) (by decide) (fun K hK => ?_)
 refine W.lw [0, 3] hK ?_; clear hK K; simp
 refine W.seq ?_
 refine W.sr ?_; simp (disch := omega) [gw]; refine W.lx [0, 3, 6, 7] ?_; simp
 refine W.block ?_
 refine W.bB (fun k σ => ∃ (i ver : Nat) (rows : Pm.Rows) (clk : Nat), σ = ⟨fa [(0, Pg p), (3, .own 3 ver 0 i), (6, .int .i64 p.length), (7, .int .i64 i)], rows, clk⟩ ∧ rows 3 = some ⟨ver, 50, 4, emap ri ((p.take i).map gv)⟩ ∧ k = p.length - i ∧ i ≤ p.length) p.length ?_ ?_
 ·exact ⟨_, .refl, 0, _, _, _, rfl, by simp [emap], by omega, by omega⟩
 rintro k _ ⟨i, ver, rows, clk, rfl, hr, hk, hi⟩
 refine W.sr ?_; simp (disch := omega) [gw]; refine W.lx [0, 3, 6, 7, 8] ?_; simp
 refine W.seq ?_
 refine W.cond ⟨_, rfl, fun h0 => ?_, fun h0 => ?_⟩
 ·simp at h0
  obtain ⟨uD, V2⟩ := h.ok _ (bL h0)
  have eO : ((p.take i).map gv).length = i := by simp; omega
  have hz : Y (iv (nth p i).1 (nth p i).2) := by
   have h1 := QC uD
   have h2 : sz 2 (iv (nth p i).1 (nth p i).2) = sz 2 (V 4294967296 (nth p i).2) := by unfold iv; split <;> simp [mK]
   simp only [Y]; omega
  have hF := uW (nth p i).1 (nth p i).2 (by omega) uD
  have hM := DA _ hz
  obtain ⟨v, hv⟩ : ∃ v, v = iv (nth p i).1 (nth p i).2 := ⟨_, rfl⟩
  rw [← hv] at hF hM
  refine W.skip ?_
  refine W.seq ?_
  refine W.block ?_
  refine W.sr ?_; simp (disch := omega) [gw]; refine W.lx [0, 3, 4, 6, 7] ?_; simp
  refine W.cA (fun K hK => ?_)
  simp (disch := omega) [gw]
  refine aA hF ?_
  simp (disch := omega) [gw]
  refine aA (lW 1 (by decide) (by decide)) ?_
  simp (disch := omega) [gw]
  refine aA hM ?_
  simp (disch := omega) [gw, hr, eO]
  refine W.lw [0, 3, 6, 7] hK ?_; clear hK K; simp
  refine W.cA (fun K hK => ?_); simp (disch := omega) [gw]
  refine hK _ ⟨p.length - (i + 1), _, aC _ [0, 3, 6, 7], by omega, i + 1, _, _, _, rfl, ?_, by omega, by omega⟩
  rw [jX h0, show gv (nth p i) = v from hv.symm]
  simp
 ·simp at h0
  have kE : i = p.length := by omega
  subst kE
  refine W.exit ?_; simp only [pX, if_true, if_false, reduceIte, Nat.reduceEqDiff]
  refine W.sr ?_
  have ez : (p.map gv).take p.length = p.map gv := bH (by simp)
  simp (disch := omega) [gw, hr, ez]
  refine aA (m8 (p.map gv) (by simp; omega)) ?_
  simp (disch := omega) [gw]
  refine W.lx [2] ?_; simp
  refine W.ret ?_
  simp [go]
theorem xO (l : List Int) (hl : l.length < 1099511627776) (hb : ∀ x ∈ l, -9223372036854775808 ≤ x ∧ x < 9223372036854775808) : aK env.P 80 [aJ aF l] (PI (aM l)) := by
 refine aB (E := env) (fun _ => 0) [(0, aJ aF l)] Tryz.func80 rfl (by kernel_rfl) (by kernel_rfl) (show 1 ≤ 21 by decide) (by simp) ?_
 refine W.sr ?_; simp (disch := omega) [gw]; refine W.lx [0] ?_; simp
 refine W.sr ?_; simp (disch := omega) [gw]; refine W.lx [0, 3] ?_; simp
 refine W.nil 3 3 50 4 (by simp) (by decide) (fun K hK => ?_)
 refine W.lw [0, 3] hK ?_; clear hK K; simp
 refine W.seq ?_
 refine W.sr ?_; simp (disch := omega) [gw]; refine W.lx [0, 3, 6, 7] ?_; simp
 refine W.block ?_
 refine W.bB (fun k σ => ∃ (i ver : Nat) (rows : Pm.Rows) (clk : Nat), σ = ⟨fa [(0, aJ aF l), (3, .own 3 ver 0 i), (6, .int .i64 l.length), (7, .int .i64 i)], rows, clk⟩ ∧ rows 3 = some ⟨ver, 50, 4, emap ri (l.take i)⟩ ∧ k = l.length - i ∧ i ≤ l.length) l.length ?_ ?_
 ·exact ⟨_, .refl, 0, _, _, _, rfl, by simp [emap], by omega, by omega⟩
 rintro k _ ⟨i, ver, rows, clk, rfl, hr, hk, hi⟩
 refine W.sr ?_; simp (disch := omega) [gw]; refine W.lx [0, 3, 6, 7, 8] ?_; simp
 refine W.seq ?_
 refine W.cond ⟨_, rfl, fun h0 => ?_, fun h0 => ?_⟩
 ·simp at h0
  have eO : (l.take i).length = i := by simp; omega
  refine W.skip ?_
  refine W.seq ?_
  refine W.block ?_
  refine W.sr ?_; simp (disch := omega) [gw]; refine W.lx [0, 3, 4, 6, 7] ?_; simp
  refine W.cA (fun K hK => ?_)
  simp (disch := omega) [gw]
  refine aA (JE (nth l i) (hb _ (bL h0))) ?_
  simp (disch := omega) [gw, hr, eO]
  refine W.lw [0, 3, 6, 7] hK ?_; clear hK K; simp
  refine W.cA (fun K hK => ?_); simp (disch := omega) [gw]
  refine hK _ ⟨l.length - (i + 1), _, aC _ [0, 3, 6, 7], by omega, i + 1, _, _, _, rfl, ?_, by omega, by omega⟩
  rw [aX h0]
  simp
 ·simp at h0
  have kE : i = l.length := by omega
  subst kE
  refine W.exit ?_; simp only [pX, if_true, if_false, reduceIte, Nat.reduceEqDiff]
  refine W.sr ?_
  simp (disch := omega) [gw, hr]
  refine aA (m8 l (by omega)) ?_
  simp (disch := omega) [gw]
  refine W.lx [2] ?_; simp
  refine W.ret ?_
  simp [go]
theorem T8 (x y : List Int) (hx : x.length < 1099511627776) (hy : y.length < 1099511627776) (zx : ∀ c ∈ x, Z c) (zy : ∀ c ∈ y, Z c) : aK env.P 25 [PI x, Po y] (.bool (decide (x = y))) := by
 refine aB (E := env) (fun _ => 0) [(0, PI x), (1, Po y)] Tryz.func25 rfl (by kernel_rfl) (by kernel_rfl) (show 2 ≤ 38 by decide) (by simp) ?_
 refine W.sr ?_; simp (disch := omega) [gw]; refine W.lx [0, 1] ?_; simp
 refine W.seq ?_
 refine W.sr ?_; simp (disch := omega) [gw]; refine W.lx [0, 1, 10] ?_; simp
 refine W.cond ⟨_, rfl, fun h => ?_, fun h => ?_⟩
 ·have oO : x ≠ y := fun h1 => by simp [h1] at h
  refine W.sr ?_; simp (disch := omega) [gw]; refine W.lx [4] ?_; simp
  refine W.ret ?_
  simp [go, oO]
 ·have hlen : x.length = y.length := by simp at h; omega
  refine W.skip ?_
  refine W.seq ?_
  refine W.sr ?_; simp (disch := omega) [gw]; refine W.lx [0, 1, 12, 13] ?_; simp
  refine W.block ?_
  refine W.bB (fun k σ => ∃ (i : Nat) (rows : Pm.Rows) (clk : Nat), σ = ⟨fa [(0, PI x), (1, Po y), (12, .int .i64 x.length), (13, .int .i64 i)], rows, clk⟩ ∧ k = x.length - i ∧ i ≤ x.length ∧ x.take i = y.take i) x.length ?_ ?_
  ·exact ⟨_, .refl, 0, _, _, rfl, by omega, by omega, by simp⟩
  rintro k _ ⟨i, rows, clk, rfl, hk, hi, hI⟩
  refine W.sr ?_; simp (disch := omega) [gw]; refine W.lx [0, 1, 12, 13, 14] ?_; simp
  refine W.seq ?_
  refine W.cond ⟨_, rfl, fun h => ?_, fun h => ?_⟩
  ·simp at h
   refine W.skip ?_
   refine W.seq ?_
   refine W.block ?_
   refine W.sr ?_; simp (disch := omega) [gw]; refine W.lx [0, 1, 5, 12, 13] ?_; simp
   have K1 : i < y.length := by omega
   have hs := C8 (nth x i) (decide (nth y i < 0)) (aQ LL (nth y i).natAbs) (zx _ (bL h)) (Nat.lt_of_le_of_lt (xN eX _) (zy _ (bL K1)))
   have he : (decide (nth y i < 0) = decide (nth x i < 0) ∧ aQ LL (nth y i).natAbs = aQ LL (nth x i).natAbs) ↔ nth x i = nth y i := by
    constructor
    ·rintro ⟨h1, h2⟩
     have h3 := aou (nth x i).natAbs
     have h4 := aou (nth y i).natAbs
     rw [h2] at h4
     simp only [decide_eq_decide] at h1
     omega
    ·intro h1; rw [h1]; exact ⟨rfl, rfl⟩
   simp only [he] at hs
   refine W.anj (fun σ => ∃ (b : Bool), σ = ⟨fa [(0, PI x), (1, Po y), (12, .int .i64 x.length), (13, .int .i64 i), (36, .bool b)], rows, clk⟩ ∧ (b = true ↔ nth x i ≠ nth y i)) (fun K hK => ?_) ?_
   ·by_cases qU : nth x i = nth y i
    ·rw [decide_eq_true qU] at hs
     simp (disch := omega) [gw]
     refine aA hs ?_
     simp (disch := omega) [gw]
     refine aA (lW 1 (by decide) (by decide)) ?_
     simp (disch := omega) [gw]
     refine aA (JA 1 1 (by simp only [Z]; exact Nat.lt_of_le_of_lt (cG (k := 1) (by decide) (by decide)) (by decide)) (by simp only [Z]; exact Nat.lt_of_le_of_lt (cG (k := 1) (by decide) (by decide)) (by decide))) ?_
     rw [sZ]
     simp (disch := omega) [gw]
     exact hK _ _ (aC _ [0, 1, 12, 13, 36]) ⟨_, rfl, by simp [qU]⟩
    ·rw [decide_eq_false qU] at hs
     simp (disch := omega) [gw]
     refine aA hs ?_
     simp (disch := omega) [gw]
     exact hK _ _ (aC _ [0, 1, 12, 13, 36]) ⟨_, rfl, by simp [qU]⟩
   rintro _ ⟨b, rfl, hb⟩
   refine W.cond ⟨_, rfl, fun h2 => ?_, fun h2 => ?_⟩
   ·have oO : x ≠ y := fun h1 => hb.1 h2 (by rw [h1])
    refine W.sr ?_; simp (disch := omega) [gw]; refine W.lx [4] ?_; simp
    refine W.ret ?_
    simp [go, oO]
   ·have K8 : nth x i = nth y i := Classical.byContradiction fun h3 => by simp [hb.2 h3] at h2
    refine W.skip ?_
    refine W.cA (fun K hK => ?_); simp (disch := omega) [gw]
    refine hK _ ⟨x.length - (i + 1), _, aC _ [0, 1, 12, 13], by omega, i + 1, _, _, rfl, by omega, by omega, ?_⟩
    rw [aX h, aX K1, hI, K8]
  ·simp at h
   rw [List.take_of_length_le (by omega), List.take_of_length_le (by omega)] at hI
   refine W.exit ?_; simp only [pX, if_true, if_false, reduceIte, Nat.reduceEqDiff]
   refine W.sr ?_; simp (disch := omega) [gw]; refine W.lx [4] ?_; simp
   refine W.ret ?_
   simp [go, hI]
structure T9 (l : List Rat) : Prop where
 ok : ∀ q ∈ l, ZR YY q
 len : l.length < 1099511627776
theorem adM (k : Nat) (hk : 1 ≤ k) : ZR k 0 := ⟨by show sz 2 0 ≤ k; rw [i7]; omega, by show sz 2 1 ≤ k; exact Nat.le_trans (cG (by decide) (by decide)) hk⟩
theorem T9.nth {l : List Rat} (h : T9 l) (i : Nat) : ZR YY (nth l i) := by
 by_cases hi : i < l.length
 ·exact h.ok _ (bL hi)
 ·rw [fV (by omega)]; exact adM _ (by decide)
theorem T9.qs {x : List Int} (h : ∀ c ∈ x, sz 2 c ≤ YY) (hl : x.length < 1099511627776) : T9 (qs x) := ⟨fun q hq => by
 simp only [List.mem_map] at hq
 obtain ⟨c, hc, rfl⟩ := hq
 exact mL (h c hc) (by decide), by simpa using hl⟩
@[simp] theorem ajb {l : List Rat} : (∀ e ∈ emap re l, ∀ p ∈ e, bY p = true) = True := by simp [emap]
theorem QH (l : List Rat) (i : Nat) (hi : i < 9223372036854775808) : aK env.P 248 [PP l, .int .i64 i] (RR (nth l i)) := by
 have hzero := JD
 refine aB (E := env) (fun _ => 0) [(0, PP l), (1, .int .i64 i)] Tryz.func248 rfl (by kernel_rfl) (by kernel_rfl) (show 2 ≤ 18 by decide) (by simp) ?_
 refine W.sr ?_; simp (disch := omega) [gw]; refine W.lx [0, 1, 4] ?_; simp
 refine W.seq ?_
 refine W.fU (fun σ => ∃ (b : Bool) (rows : Pm.Rows) (clk : Nat), σ = ⟨fa [(0, PP l), (1, .int .i64 i), (4, .ptr 4 0 0 0), (12, .bool b)], rows, clk⟩ ∧ (b = true ↔ l.length ≤ i) ∧ rows 4 = some ⟨0, 50, 4, [[.nil, .bool false, .nil, .bool false]]⟩) (fun K hK => ?_) ?_
 ·have hn : ¬ ((i : Int) < 0) := by omega
  simp (disch := omega) [gw, hn]
  exact hK _ _ (aC _ [0, 1, 4, 12]) ⟨_, _, _, rfl, by simp, by simp⟩
 rintro _ ⟨b, rows, clk, rfl, hb, jI⟩
 refine W.cond ⟨_, rfl, fun h => ?_, fun h => ?_⟩
 ·have hb := hb.1 h
  have e : nth l i = 0 := fV hb
  rw [e]
  generalize (0 : Rat) = z at *
  refine W.sr ?_
  simp (disch := omega) [gw]
  refine aA hzero ?_
  simp (disch := omega) [gw, jI]
  refine W.lx [4] ?_; simp
  refine W.ret ?_
  simp [go]
 ·have hb : i < l.length := Nat.lt_of_not_le fun h2 => by simp [hb.2 h2] at h
  refine W.skip ?_
  refine W.sr ?_; simp (disch := omega) [gw, jI]
  refine W.lx [4] ?_; simp
  refine W.ret ?_
  simp [go]
def ZH (a b : List Rat) : List Rat := lK ((List.range (max a.length b.length)).map fun k => nth a k + nth b k)
theorem ZI (a b : List Rat) (ha : T9 a) (hb : T9 b) : aK env.P 220 [PP a, PP b] (PP (ZH a b)) := by
 have hal := ha.len; have VK := hb.len
 refine aB (E := env) (fun _ => 0) [(0, PP a), (1, PP b)] Tryz.func220 rfl (by kernel_rfl) (by kernel_rfl) (show 2 ≤ 28 by decide) (by simp) ?_
 obtain ⟨M, hM⟩ : ∃ M, M = max a.length b.length := ⟨_, rfl⟩
 refine W.sr ?_; simp (disch := omega) [gw]; refine W.lx [0, 1] ?_; simp
 refine W.sr ?_; simp (disch := omega) [gw]; refine W.lx [0, 1, 5] ?_; simp
 refine W.nil 5 5 50 4 (by simp) (by decide) (fun K hK => ?_)
 refine W.lw [0, 1, 5] hK ?_; clear hK K; simp
 refine W.seq ?_
 refine W.sr ?_; simp (disch := omega) [gw]; refine W.lx [0, 1, 5, 6] ?_; simp
 refine W.block ?_
 refine W.bB (fun k σ => ∃ (i ver : Nat) (rows : Pm.Rows) (clk : Nat), σ = ⟨fa [(0, PP a), (1, PP b), (5, .own 5 ver 0 i), (6, .int .i64 i)], rows, clk⟩ ∧ rows 5 = some ⟨ver, 50, 4, emap re ((List.range i).map fun k => nth a k + nth b k)⟩ ∧ k = M - i ∧ i ≤ M) M ?_ ?_
 ·exact ⟨_, .refl, 0, _, _, _, rfl, by simp [emap], by omega, by omega⟩
 rintro k _ ⟨i, ver, rows, clk, rfl, hr, hk, hi⟩
 have em : (if a.length < b.length then (b.length : Int) else (a.length : Int)) = M := by split <;> omega
 have em2 : (if b.length < a.length then (a.length : Int) else (b.length : Int)) = M := by split <;> omega
 refine W.seq ?_
 refine W.sr ?_; simp (disch := omega) [gw, em, em2]
 refine W.lx [0, 1, 5, 6, 13] ?_; simp
 refine W.cond ⟨_, rfl, fun h => ?_, fun h => ?_⟩
 ·have h : i < M := by simp at h; omega
  refine W.skip ?_
  refine W.seq ?_
  refine W.block ?_
  have h1 := QH a i (by omega)
  have h2 := QH b i (by omega)
  have h3 := tF _ _ (ha.nth i) (hb.nth i)
  have er : (List.range (i + 1)).map (fun k => nth a k + nth b k) = (List.range i).map (fun k => nth a k + nth b k) ++ [nth a i + nth b i] := by rw [List.range_succ]; simp
  have eO : ((List.range i).map fun k => nth a k + nth b k).length = i := by simp
  generalize ((List.range i).map fun k => nth a k + nth b k) = acc at *
  generalize nth a i + nth b i = q at *
  generalize nth a i = u at *
  generalize nth b i = v at *
  refine W.cA (fun K hK => ?_)
  simp (disch := omega) [gw]
  refine aA h1 ?_
  simp (disch := omega) [gw]
  refine aA h2 ?_
  simp (disch := omega) [gw]
  refine aA h3 ?_
  simp (disch := omega) [gw, hr, eO]
  refine W.lw [0, 1, 5, 6] hK ?_; clear hK K; simp
  refine W.cA (fun K hK => ?_); simp (disch := omega) [gw]
  refine hK _ ⟨M - (i + 1), _, aC _ [0, 1, 5, 6], by omega, i + 1, _, _, _, rfl, by rw [er]; simp, by omega, by omega⟩
 ·have h : i = M := by simp at h; omega
  subst h
  refine W.exit ?_; simp only [pX, if_true, if_false, reduceIte, Nat.reduceEqDiff]
  have eO : ((List.range i).map fun k => nth a k + nth b k).length = i := by simp
  rw [ZH, ← hM]
  generalize ((List.range i).map fun k => nth a k + nth b k) = acc at *
  have ez := bH eO
  refine W.sr ?_
  simp (disch := omega) [gw, hr, ez]
  refine aA (tH acc (by omega)) ?_
  simp (disch := omega) [gw]
  refine W.lx [4] ?_; simp
  refine W.ret ?_
  simp [go]
def jA (a : List Rat) (c : Rat) : List Rat := lK (a.map fun x => x * c)
theorem nX (a : List Rat) (c : Rat) (ha : T9 a) (hc : ZR YY c) : aK env.P 81 [PP a, RR c] (PP (jA a c)) := by
 have hal := ha.len
 refine aB (E := env) (fun id => if id = 5 then 2 else 0) [(0, PP a), (1, RR c)] Tryz.func81 rfl (by kernel_rfl) (by kernel_rfl) (show 2 ≤ 24 by decide) (by simp) ?_
 refine W.sr ?_; simp (disch := omega) [gw]; refine W.lx [0, 3] ?_; simp
 refine W.sr ?_; simp (disch := omega) [gw]; refine W.lx [0, 3, 5] ?_; simp
 refine W.nil 5 5 50 4 (by simp) (by decide) (fun K hK => ?_)
 refine W.lw [0, 3, 5] hK ?_; clear hK K; simp
 refine W.seq ?_
 refine W.sr ?_; simp (disch := omega) [gw]; refine W.lx [0, 3, 5, 8, 9] ?_; simp
 refine W.block ?_
 refine W.bB (fun k σ => ∃ (i ver : Nat) (rows : Pm.Rows) (clk : Nat), σ = ⟨fa [(0, PP a), (3, .ptr 3 0 0 0), (5, .own 5 ver 0 i), (8, .int .i64 a.length), (9, .int .i64 i)], rows, clk⟩ ∧ rows 5 = some ⟨ver, 50, 4, emap re ((a.take i).map fun x => x * c)⟩ ∧ rows 3 = some ⟨0, 50, 4, [re c]⟩ ∧ k = a.length - i ∧ i ≤ a.length) a.length ?_ ?_
 ·exact ⟨_, .refl, 0, _, _, _, rfl, by simp [emap], by simp, by omega, by omega⟩
 rintro k _ ⟨i, ver, rows, clk, rfl, hr, fK, hk, hi⟩
 refine W.sr ?_; simp (disch := omega) [gw]; refine W.lx [0, 3, 5, 8, 9, 10] ?_; simp
 refine W.seq ?_
 refine W.cond ⟨_, rfl, fun h => ?_, fun h => ?_⟩
 ·simp at h
  refine W.skip ?_
  refine W.seq ?_
  refine W.block ?_
  refine W.sr ?_; simp (disch := omega) [gw]; refine W.lx [0, 3, 5, 6, 8, 9] ?_; simp
  have h3 := zY _ _ (ha.nth i) hc
  have er := jX (f := fun x => x * c) h
  have eO : ((a.take i).map fun x => x * c).length = i := by simp; omega
  generalize (a.take i).map (fun x => x * c) = acc at *
  generalize hq : nth a i * c = q at *
  refine W.MV (fun K hK => ?_)
  rw [if_pos rfl, dP]
  simp (disch := omega) [gw, fK]
  refine aA h3 ?_
  simp (disch := omega) [gw, hr, fK, eO]
  refine W.lw [0, 3, 5, 8, 9] hK ?_; clear hK K; simp
  refine W.cA (fun K hK => ?_); simp (disch := omega) [gw]
  refine hK _ ⟨a.length - (i + 1), _, aC _ [0, 3, 5, 8, 9], by omega, i + 1, _, _, _, rfl, by rw [er]; simp, by simp [fK], by omega, by omega⟩
 ·simp at h
  have kE : i = a.length := by omega
  subst kE
  refine W.exit ?_; simp only [pX, if_true, if_false, reduceIte, Nat.reduceEqDiff]
  rw [List.take_length] at hr
  rw [jA]
  have eO : (a.map fun x => x * c).length = a.length := by simp
  generalize a.map (fun x => x * c) = acc at *
  have ez := bH eO
  refine W.sr ?_
  simp (disch := omega) [gw, hr, ez]
  refine aA (tH acc (by omega)) ?_
  simp (disch := omega) [gw]
  refine W.lx [4] ?_; simp
  refine W.ret ?_
  simp [go]
theorem JF (a : List Rat) (ha : T9 a) : aK env.P 126 [PP a] (PP (jA a (-1))) := by
 have h1 := nW (-1) 1 (by decide) (by decide)
 rw [kK, show (((-1 : Int)) : Rat) = -1 by simp] at h1
 have h2 := nX a (-1) ha ⟨by show sz 2 (-1) ≤ YY; exact Nat.le_trans (cG (k := 1) (by decide) (by decide)) (by decide), by show sz 2 1 ≤ YY; exact Nat.le_trans (cG (k := 1) (by decide) (by decide)) (by decide)⟩
 generalize (-1 : Rat) = c at *
 refine aB (E := env) (fun _ => 0) [(0, PP a)] Tryz.func126 rfl (by kernel_rfl) (by kernel_rfl) (show 1 ≤ 6 by decide) (by simp) ?_
 refine W.sr ?_; simp (disch := omega) [gw]; refine W.lx [0] ?_; simp
 refine W.sr ?_
 simp (disch := omega) [gw]
 refine aA h1 ?_
 simp (disch := omega) [gw]
 refine aA h2 ?_
 simp (disch := omega) [gw]
 refine W.lx [2] ?_; simp
 refine W.ret ?_
 simp [go]
theorem ZJ (x : List Int) (k : Nat) : nth (qs x) k = ((nth x k : Int) : Rat) := xJ (f := fun (c : Int) => (c : Rat)) rfl x k
theorem DC (x : List Int) (c : Int) : jA (qs x) (c : Rat) = qs (aV x c) := by
 rw [jA, aV, ← tG]
 congr 1
 simp [qs, Function.comp_def]
theorem NH (x : List Int) : aV x (-1) = fG x := by simp [aV, fG]
theorem DE (x : List Int) (hx : Bd 2 YY 1099511627775 x) : aK env.P 126 [PI x] (PI (fG x)) := by
 have := JF (qs x) (.qs hx.sz (by have := hx.len; omega))
 rwa [show (-1 : Rat) = ((-1 : Int) : Rat) by simp, DC, NH, oH, oH] at this
theorem JG (x : List Int) (c : Int) (hx : Bd 2 YY 1099511627775 x) (hc : sz 2 c ≤ YY) : aK env.P 81 [PI x, .ag (ri c)] (PI (aV x c)) := by
 have := nX (qs x) c (.qs hx.sz (by have := hx.len; omega)) (mL hc (by decide))
 rwa [DC, oH, oH, RR, fL] at this
theorem qG (x y : List Int) (s s' n n' : Nat) (hs : Bd 2 s n x) (G8 : Bd 2 s' n' y) (hB : s + s' + n + n' < YY) : aK env.P 54 [PI x, PI y] (PI (bJ x y)) := by
 have K4 := hs.len; have hly := G8.len
 have hB2 : s + s' + n + n' < 137438953472 := hB
 refine aB (E := env) (fun id => if id = 15 then 1 else 0) [(0, PI x), (1, PI y)] Tryz.func54 rfl (by kernel_rfl) (by kernel_rfl) (show 2 ≤ 69 by decide) (by simp) ?_
 refine W.sr ?_; simp (disch := omega) [gw]; refine W.lx [0, 1] ?_; simp
 refine W.seq ?_
 refine W.fU (fun σ => ∃ (b : Bool), σ = ⟨fa [(0, PI x), (1, PI y), (16, .bool b)], fun _ => none, 0⟩ ∧ (b = true ↔ x = [] ∨ y = [])) (fun K hK => ?_) ?_
 ·simp
  have e1 : ((x.length : Int) == 0) = decide (x = []) := by
   cases x <;> simp <;> omega
  have e2 : ((y.length : Int) == 0) = decide (y = []) := by
   cases y <;> simp <;> omega
  rw [e1]
  by_cases h0 : x = []
  ·have e3 : decide (x = []) = true := by simp [h0]
   rw [e3]
   simp
   exact hK _ _ (aC _ [0, 1, 16]) ⟨_, rfl, by simp [h0]⟩
  ·have e3 : decide (x = []) = false := by simp [h0]
   rw [e3]
   simp
   exact hK _ _ (aC _ [0, 1, 16]) ⟨_, rfl, by rw [e2]; simp [h0]⟩
 rintro _ ⟨b, rfl, hb⟩
 refine W.cond ⟨_, rfl, fun h => ?_, fun h => ?_⟩
 ·have e : bJ x y = [] := by
   have h1 := hb.1 h
   refine Cn.ext (Cn.bJ _ _) Cn.nil fun t => ?_
   rw [cP]
   rcases h1 with rfl | rfl <;> simp [V]
  refine W.sr ?_; simp (disch := omega) [gw]; refine W.lx [4] ?_; simp
  refine W.ret ?_
  simp [go, e]
  rfl
 ·have h1 : ¬ (x = [] ∨ y = []) := fun h2 => by simp [hb.2 h2] at h
  have mR : 0 < x.length := List.length_pos_iff.2 fun h2 => h1 (.inl h2)
  have M5 : 0 < y.length := List.length_pos_iff.2 fun h2 => h1 (.inr h2)
  clear h hb h1
  have e0 : ((x.length : Int) + (y.length : Int) - 1).toNat = x.length + y.length - 1 := by omega
  have e9 : ((x.length + y.length - 1 : Nat) : Int) = (x.length : Int) + (y.length : Int) - 1 := by omega
  refine W.skip ?_
  refine W.sr ?_; simp (disch := omega) [gw, e0]
  refine W.lx [0, 1, 5] ?_; simp
  refine W.seq ?_
  refine W.sr ?_; simp (disch := omega) [gw]; refine W.lx [0, 1, 5, 25, 26] ?_; simp
  refine W.block ?_
  refine W.bB (fun k σ => ∃ (i ver : Nat) (els : List (List PV)) (rows : Pm.Rows) (clk : Nat), σ = ⟨fa [(0, PI x), (1, PI y), (5, .own 23 ver 0 (x.length + y.length - 1)), (25, .int .i64 ((x.length + y.length - 1 : Nat) : Int)), (26, .int .i64 i)], rows, clk⟩ ∧
   rows 23 = some ⟨ver, 50, 4, els⟩ ∧ els.length = x.length + y.length - 1 ∧ (∀ e ∈ els, e.length = 4) ∧ els.take i = emap ri (List.replicate i 0) ∧ k = x.length + y.length - 1 - i ∧ i ≤ x.length + y.length - 1) (x.length + y.length - 1) ?_ ?_
  ·exact ⟨_, Gh.fr [(0, PI x), (1, PI y), (5, .own 23 0 0 (x.length + y.length - 1)), (25, .int .i64 ((x.length + y.length - 1 : Nat) : Int)), (26, .int .i64 (0 : Nat))] (by simp), 0, _, List.replicate (x.length + y.length - 1) [.nil, .bool false, .nil, .bool false], _, _, rfl, by simp [e0], by simp, by simp, by simp [emap], by omega, by omega⟩
  rintro k _ ⟨i, ver, els, rows, clk, rfl, hr, nE, JH, z0, hk, hi⟩
  have M3 : bF 4 els = True := by simp only [bF, eq_iff_iff, iff_true]; exact JH
  refine W.sr ?_; simp (disch := omega) [gw]; refine W.lx [0, 1, 5, 25, 26, 27] ?_; simp
  refine W.seq ?_
  refine W.cond ⟨_, rfl, fun h => ?_, fun h => ?_⟩
  ·have h : i < x.length + y.length - 1 := by simp at h; omega
   refine W.skip ?_
   refine W.seq ?_
   refine W.block ?_
   refine W.sr ?_; simp (disch := omega) [gw]; refine W.lx [0, 1, 5, 6, 25, 26] ?_; simp
   refine W.cA (fun K hK => ?_)
   simp (disch := omega) [gw]
   refine aA m9 ?_
   have uH : i < els.length := by omega
   have hE : sV els i 4 = True := by
    simp only [eq_iff_iff, iff_true]
    exact ⟨els[i], List.getElem?_eq_getElem uH, by rw [JH _ (List.getElem_mem uH)]; omega⟩
   have hS : iK els i 0 [aJ aF (aQ DD 0), .bool false, aJ aF (aQ DD 1), .bool false] = els.set i (ri 0) := by
    have h4 := JH _ (List.getElem_mem uH)
    rw [iK, List.getElem?_eq_getElem uH]
    simp [List.drop_of_length_le, h4]
   simp (disch := omega) [gw, hr, hE, hS]
   refine W.lw [0, 1, 5, 25, 26] hK ?_; clear hK K; simp
   refine W.cA (fun K hK => ?_); simp (disch := omega) [gw]
   refine hK _ ⟨x.length + y.length - 1 - (i + 1), _, aC _ [0, 1, 5, 25, 26], by omega, i + 1, ver, els.set i (ri 0), _, _, rfl, by simp, by simpa using nE, fun e he => ?_, ?_, by omega, by omega⟩
   ·rcases List.mem_or_eq_of_mem_set he with h1 | h1
    ·exact JH e h1
    ·rw [h1]; rfl
   ·rw [kW z0 (by omega), List.replicate_succ']
    simp [emap]
  ·have h : i = x.length + y.length - 1 := by simp at h; omega
   subst h
   have qT : els = emap ri (List.replicate (x.length + y.length - 1) 0) := by rw [← z0, bH nE]
   subst qT
   clear z0 JH nE M3 hk hi
   refine W.exit ?_; simp only [pX, if_true, if_false, reduceIte, Nat.reduceEqDiff]
   refine W.seq ?_
   refine W.sr ?_; simp (disch := omega) [gw]; refine W.lx [0, 1, 5, 35, 36] ?_; simp
   refine W.block ?_
   refine W.bB (fun k σ => ∃ (i : Nat) (z : List Int) (ver : Nat) (rows : Pm.Rows) (clk : Nat), σ = ⟨fa [(0, PI x), (1, PI y), (5, .own 23 ver 0 (x.length + y.length - 1)), (35, .int .i64 x.length), (36, .int .i64 i)], rows, clk⟩ ∧
    rows 23 = some ⟨ver, 50, 4, emap ri z⟩ ∧ k = x.length - i ∧ i ≤ x.length ∧ z.length = x.length + y.length - 1 ∧ (∀ j, sz 2 (nth z j) ≤ s + s' + i) ∧
    ∀ t, V t z = V t (x.take i) * V t y) x.length ?_ ?_
   ·refine ⟨_, .refl, 0, List.replicate (x.length + y.length - 1) 0, _, _, _, rfl, hr, by omega, by omega, by simp, fun j => ?_, fun t => by simp [V, oE]⟩
    have : Bd 2 0 (x.length + y.length - 1) (List.replicate (x.length + y.length - 1) 0) := ⟨by simp, fun c hc => by rw [(List.mem_replicate.1 hc).2, i7]; omega⟩
    have := this.nth j
    omega
   clear hr rows clk
   rintro k _ ⟨i, z, ver, rows, clk, rfl, hr, hk, hi, hz, BI, hV⟩
   refine W.sr ?_; simp (disch := omega) [gw]; refine W.lx [0, 1, 5, 35, 36, 37] ?_; simp
   refine W.seq ?_
   refine W.cond ⟨_, rfl, fun h => ?_, fun h => ?_⟩
   ·simp at h
    refine W.skip ?_
    refine W.seq ?_
    refine W.block ?_
    refine W.sr ?_; simp (disch := omega) [gw]; refine W.lx [0, 1, 5, 7, 35, 36] ?_; simp
    refine W.sr ?_; simp (disch := omega) [gw]; refine W.lx [0, 1, 5, 7, 35, 36, 40, 41] ?_; simp
    refine W.block ?_
    refine W.bB (fun m σ => ∃ (k : Nat) (z : List Int) (ver : Nat) (rows : Pm.Rows) (clk : Nat), σ = ⟨fa [(0, PI x), (1, PI y), (5, .own 23 ver 0 (x.length + y.length - 1)), (7, .int .i64 i), (35, .int .i64 x.length), (36, .int .i64 i), (40, .int .i64 y.length), (41, .int .i64 k)], rows, clk⟩ ∧
     rows 23 = some ⟨ver, 50, 4, emap ri z⟩ ∧ m = y.length - k ∧ k ≤ y.length ∧ z.length = x.length + y.length - 1 ∧ (∀ j, sz 2 (nth z j) ≤ s + s' + i + 1) ∧ (∀ j, i + k ≤ j → sz 2 (nth z j) ≤ s + s' + i) ∧
     ∀ t, V t z = V t (x.take i) * V t y + t ^ i * nth x i * V t (y.take k)) y.length ?_ ?_
    ·refine ⟨_, .refl, 0, z, ver, _, _, rfl, by simpa using hr, by omega, by omega, hz, fun j => by have := BI j; omega, fun j _ => BI j, fun t => by simp [V, hV]⟩
    clear hV BI hz hr z ver rows clk
    rintro m _ ⟨k, z, ver, rows, clk, rfl, hr, hm, hky, hz, BI, M6, hV⟩
    refine W.sr ?_; simp (disch := omega) [gw]; refine W.lx [0, 1, 5, 7, 35, 36, 40, 41, 42] ?_; simp
    refine W.seq ?_
    refine W.cond ⟨_, rfl, fun h2 => ?_, fun h2 => ?_⟩
    ·simp at h2
     refine W.skip ?_
     refine W.seq ?_
     refine W.block ?_
     refine W.sr ?_; simp (disch := omega) [gw]; refine W.lx [0, 1, 5, 7, 8, 35, 36, 40, 41] ?_; simp
     have e1 : ((i : Int) + (k : Int)).toNat = i + k := by omega
     have G1 : sz 2 (nth x i * nth y k) ≤ s + s' + i := Nat.le_trans (bR (by decide) (hs.nth i) (G8.nth k)) (by omega)
     have hm2 := mJ (b := 2) (by decide) (M6 (i + k) (Nat.le_refl _)) G1
     have hlz : i + k < z.length := by omega
     have c1 := DB (nth x i) (nth y k) (Nat.le_trans (hs.nth i) (by show _ ≤ 137438953472; omega)) (Nat.le_trans (G8.nth k) (by show _ ≤ 137438953472; omega))
     have c2 := T7 (nth z (i + k)) (nth x i * nth y k) (Nat.le_trans (M6 (i + k) (Nat.le_refl _)) (by show _ ≤ 137438953472; omega)) (Nat.le_trans G1 (by show _ ≤ 137438953472; omega))
     have TN := fun t => CY (b := t) (x := nth z (i + k) + nth x i * nth y k) hlz
     generalize hu : nth z (i + k) + nth x i * nth y k = u at *
     generalize hpq : nth x i * nth y k = pq at *
     refine W.MV (fun K hK => ?_)
     rw [if_pos rfl, dP]
     simp (disch := omega) [gw, hr, e1]
     refine aA c1 ?_
     simp (disch := omega) [gw, hr, e1]
     refine aA c2 ?_
     simp (disch := omega) [gw, hr, e1]
     refine W.lw [0, 1, 5, 7, 35, 36, 40, 41] hK ?_; clear hK K; simp
     refine W.cA (fun K hK => ?_); simp (disch := omega) [gw]
     refine hK _ ⟨y.length - (k + 1), _, aC _ [0, 1, 5, 7, 35, 36, 40, 41], by omega, k + 1, z.set (i + k) u, ver, _, _, rfl, by simp, by omega, by omega, by simpa using hz, fun j => ?_, fun j hj => ?_, fun t => ?_⟩
     ·by_cases hj : i + k = j
      ·subst hj; rw [dQ hlz]; exact hm2
      ·rw [fC hj]; exact BI j
     ·rw [fC (by omega)]; exact M6 j (by omega)
     ·rw [TN, aT h2, hV, Int.pow_add, ← hu, ← hpq]; clear hV TN; grind
    ·simp at h2
     have vK : k = y.length := by omega
     subst vK
     refine W.exit ?_; simp only [pX, if_true, if_false, reduceIte, Nat.reduceEqDiff]
     refine W.cA (fun K hK => ?_); simp (disch := omega) [gw]
     refine hK _ ⟨x.length - (i + 1), _, aC _ [0, 1, 5, 35, 36], by omega, i + 1, z, ver, _, _, rfl, hr, by omega, by omega, hz, fun j => by have := BI j; omega, fun t => ?_⟩
     rw [hV, aY (Nat.le_refl _), aT h]; grind
   ·simp at h
    have kE : i = x.length := by omega
    subst kE
    have sJ := bH hz
    refine W.exit ?_; simp only [pX, if_true, if_false, reduceIte, Nat.reduceEqDiff]
    refine W.sr ?_
    simp (disch := omega) [gw, hr, sJ]
    refine aA (m8 z (by omega)) ?_
    simp (disch := omega) [gw]
    refine W.lx [4] ?_; simp
    refine W.ret ?_
    have e : aM z = bJ x y := by
     refine Cn.ext (Cn.cut _) (Cn.bJ _ _) fun t => ?_
     rw [cB, hV, cP, aY (Nat.le_refl _)]
    simp [go, e]
theorem k9 (v n : Int) (hv : -9223372036854775808 ≤ v ∧ v < 9223372036854775808) (hn : 0 < n) (hn2 : n < 4611686018427387904) : aK env.P 48 [.int .i64 v, .int .i64 n] (.int .i64 (v % n)) := by
 have hn0 : n ≠ 0 := by omega
 have h12 : (v.tmod n = v % n ∨ (v.tmod n < 0 ∧ v.tmod n + n = v % n)) ∧ -n < v.tmod n ∧ v.tmod n < n := by
  have h2 := Int.emod_nonneg v hn0
  have h3 := Int.emod_lt_of_pos v hn
  rcases (show v < 0 ∨ 0 ≤ v by omega) with h | h
  ·have h4 := Int.tmod_eq_emod (a := v) (b := n)
   have h5 : (n.natAbs : Int) = n := by omega
   split at h4
   ·simp at h4; omega
   ·rename_i h6
    rw [h5] at h4
    have h7 : v % n ≠ 0 := fun h8 => h6 (.inr (Int.dvd_of_emod_eq_zero h8))
    omega
  ·rw [Int.tmod_eq_emod_of_nonneg h]; omega
 obtain ⟨h1, h2⟩ := h12
 have h5 := Int.emod_nonneg v hn0
 have h6 := Int.emod_lt_of_pos v hn
 have TS : ¬ n < 1 := by omega
 refine aB (E := env) (fun _ => 0) [(0, .int .i64 v), (1, .int .i64 n)] Tryz.func48 rfl (by kernel_rfl) (by kernel_rfl) (show 2 ≤ 17 by decide) (by simp) ?_
 refine W.sr ?_; simp (disch := omega) [gw]; refine W.lx [0, 1] ?_; simp
 refine W.seq ?_
 refine W.sr ?_; simp (disch := omega) [gw]; refine W.lx [0, 1, 7] ?_; simp
 refine W.cond ⟨_, rfl, fun h => ?_, fun h => ?_⟩
 ·exfalso; simp at h; omega
 ·refine W.skip ?_
  generalize hm : v.tmod n = m at *
  generalize v % n = r at *
  refine W.sr ?_; simp (disch := omega) [gA, hn0, hm]
  refine W.lx [1, 5] ?_; simp
  refine W.fO (fun σ => ∃ (rows : Pm.Rows) (clk : Nat), σ = ⟨fa [(5, .int .i64 r)], rows, clk⟩) ?_ ?_
  ·
   refine W.sr ?_; simp (disch := omega) [gw]; refine W.lx [1, 5, 12] ?_; simp
   refine W.cond ⟨_, rfl, fun h => ?_, fun h => ?_⟩
   ·simp at h
    refine W.cA (fun K hK => ?_); simp (disch := omega) [gw]
    exact hK _ ⟨_, Gh.fr [(5, .int .i64 r)] (by simp; omega), _, _, rfl⟩
   ·simp at h
    refine W.skip ?_
    exact ⟨_, Gh.fr [(5, .int .i64 r)] (by simp; omega), _, _, rfl⟩
  rintro _ ⟨rows, clk, rfl⟩
  refine W.sr ?_; simp (disch := omega) [gw]; refine W.lx [4] ?_; simp
  refine W.ret ?_
  simp [go]
structure PB (x : List Int) : Prop where
 sz : ∀ c ∈ x, Sz c
 len : x.length < 1099511627775
theorem PB.z5 {x : List Int} (h : PB x) : qF (x.map oL) := qF.adl h.sz (by have := h.len; omega)
theorem PB.of {s n : Nat} {x : List Int} (h : Bd LL s n x) (hs : s < 1099511627775) (hn : n < 1099511627775) : PB x := ⟨fun c hc => Nat.lt_of_le_of_lt (h.sz c hc) (by omega), Nat.lt_of_le_of_lt h.len hn⟩
theorem UA {x y : List Int} (hx : PB x) (hy : PB y) : aK env.P 219 [Po x, Po y] (Po (fX x y)) := by
 have := YQ _ _ hx.z5 hy.z5
 rwa [bP, bP, ← fY, ← fY] at this
theorem DF {x y : List Int} (hx : PB x) (hy : PB y) : aK env.P 221 [Po x, Po y] (Po (dX x y)) := by
 have := YR _ _ hx.z5 hy.z5
 rwa [bP, bP, ← fY, ← fY] at this
theorem DG {x : List Int} (hx : PB x) : aK env.P 69 [Po x] (Po (fG x)) := by
 have := YS _ hx.z5
 rwa [bP, ← fY] at this
theorem fZ {x : List Int} (hx : PB x) : aK env.P 101 [Po x] (Po (aM x)) := by
 have := gH _ hx.z5
 rwa [bP, ← fY] at this
theorem UB {a : RP} {y : List Int} {s s' n n' : Nat} (ha : qF a) (hs : Bd LL s n (a.map gv)) (G8 : Bd LL s' n' y) (hB : s + s' + n + n' < 1099511627775) : aK env.P 39 [Pg a, Po y] (Po (bJ (a.map gv) y)) := by
 have := YT a (y.map oL) ha (PB.of G8 (by omega) (by omega)).z5 s s' n n' hs (by rwa [bP]) hB
 rwa [bP, ← fY] at this
theorem DH {x y : List Int} {s s' n n' : Nat} (hs : Bd LL s n x) (G8 : Bd LL s' n' y) (hB : s + s' + n + n' < 1099511627775) : aK env.P 39 [Po x, Po y] (Po (bJ x y)) := by
 have := UB (PB.of hs (by omega) (by omega)).z5 (by rwa [bP]) G8 hB
 rwa [bP, ← fY] at this
structure InP (p : RP) : Prop where
 ok : ∀ c ∈ p, bW 4294967296 c.2 ∧ c.2.length < 9223372036854775808
 len : p.length < 9223372036854775808
theorem DI (k n : Nat) (p : RP) : (cH k n p).length ≤ k := by simp [cH]; omega
theorem ZK {p : RP} (h : InP p) (k n : Nat) : ∀ c ∈ cH k n p, bW 4294967296 c.2 ∧ c.2.length ≤ n := fun c hc => by
 simp only [cH, List.mem_map] at hc
 obtain ⟨d, hd, rfl⟩ := hc
 exact ⟨(h.ok d (List.mem_of_mem_take hd)).1.take n, by simp; omega⟩
structure Sm (k n : Nat) (p : RP) : Prop where
 ok : ∀ c ∈ p, bW 4294967296 c.2 ∧ c.2.length ≤ n
 len : p.length ≤ k
theorem Sm.aoI {p : RP} (h : InP p) (k n : Nat) : Sm k n (cH k n p) := ⟨ZK h k n, DI k n p⟩
theorem DJ (c : Bool × List Int) (h : bW 4294967296 c.2) : (gv c).natAbs = (V 4294967296 c.2).natAbs := by
 unfold gv iv; split <;> simp
section
variable {k n : Nat} {p : RP}
theorem Sm.fok (h : Sm k n p) (hk : k < 1099511627776) (hn : n < 4294967296) : FOK p := ⟨fun c hc => ⟨(h.ok c hc).1, by have := (h.ok c hc).2; omega⟩, by have := h.len; omega⟩
theorem Sm.z5 (h : Sm k n p) (hk : k < 1099511627776) (hn : n < 1099511627776) : qF p := ⟨fun c hc => ⟨(h.ok c hc).1, by have := (h.ok c hc).2; omega⟩, by have := h.len; omega⟩
theorem Sm.bd (h : Sm k n p) : Bd LL n k (p.map gv) := ⟨by simpa using h.len, fun c hc => by
 simp only [List.mem_map] at hc
 obtain ⟨d, hd, rfl⟩ := hc
 have h1 := an4 eX (h.ok d hd).1
 have h2 : sz LL (gv d) = sz LL (V 4294967296 d.2) := by unfold sz; rw [DJ d (h.ok d hd).1]
 rw [h2]
 exact Nat.le_trans h1 (h.ok d hd).2⟩
theorem Sm.bd2 (h : Sm k n p) : Bd 2 (32 * n) k (p.map gv) := ⟨by simpa using h.len, fun c hc => by
 simp only [List.mem_map] at hc
 obtain ⟨d, hd, rfl⟩ := hc
 have h1 := QC (h.ok d hd).1
 have h2 : sz 2 (gv d) = sz 2 (V 4294967296 d.2) := by unfold sz; rw [DJ d (h.ok d hd).1]
 have h3 := (h.ok d hd).2
 rw [h2]; omega⟩
end
theorem maps {α : Type} {g : α → List PV} {R : List PV → Prop} {Q : α → Prop} (h : ∀ ps, R ps → ∃ a, ps = g a ∧ Q a) : ∀ {l : List (List PV)}, (∀ x ∈ l, R x) → ∃ m : List α, l = m.map g ∧ ∀ a ∈ m, Q a
 | [], _ => ⟨[], rfl, fun _ h => (by cases h)⟩
 | x :: l, hx => by
  obtain ⟨a, rfl, ha⟩ := h x (hx x (by simp))
  obtain ⟨m, rfl, hm⟩ := maps h (l := l) fun y hy => hx y (by simp [hy])
  exact ⟨a :: m, rfl, fun b hb => by
   rcases List.mem_cons.1 hb with rfl | hb
   ·exact ha
   ·exact hm b hb⟩
structure InL (l : List Int) : Prop where
 uG : bW 4294967296 l
 len : l.length < 9223372036854775808
theorem adN : sK Tryz.prog 143 (fun ps => ∃ n : Int, ps = u32 n ∧ 0 ≤ n ∧ n < 4294967296) :=
 (sK.int .u32 (by kernel_rfl)).mono fun ps ⟨n, h1, h2, h3⟩ => ⟨n, h1, by simpa [IntKind.min, IntKind.signed] using h2, by simp [IntKind.max, IntKind.signed, IntKind.bits] at h3; omega⟩
theorem ajc : sK Tryz.prog 38 (fun ps => ∃ l : List Int, ps = [us l] ∧ InL l) :=
 (sK.slice (e := 143) (by kernel_rfl) (by rw [show Tryz.prog.cellsOf 143 = 1 by kernel_rfl]; decide) adN).mono fun ps ⟨l, h1, h2, h3⟩ => by
  obtain ⟨m, rfl, hm⟩ := maps (g := u32) (Q := fun n => 0 ≤ n ∧ n < 4294967296) (fun ps h => h) h2
  exact ⟨m, h1, hm, by rw [List.length_map] at h3; simp only [maxLen] at h3; omega⟩
theorem adO : sK Tryz.prog 40 (fun ps => ∃ c : Bool × List Int, ps = ge c ∧ InL c.2) :=
 (sK.struct (fs := [⟨ "Neg", 4, 0, false, "", "", 0⟩, ⟨ "L", 38, 1, false, "", "", 8⟩]) (Rs := [fun ps => ∃ b, ps = [.bool b], fun ps => ∃ l : List Int, ps = [us l] ∧ InL l]) (by kernel_rfl)
  ⟨rfl, sK.bool (by kernel_rfl), by kernel_rfl, ajc, by show (_ : Nat) = _; kernel_rfl⟩).mono fun ps h => by
  simp only [adn] at h
  obtain ⟨a, b, rfl, ⟨n, rfl⟩, a', b', rfl, ⟨l, rfl, hl⟩, rfl⟩ := h
  exact ⟨(n, l), rfl, hl⟩
theorem xP : nS Tryz.prog 3 (fun q => ∃ n : Int, q = .int .i64 n ∧ -9223372036854775808 ≤ n ∧ n < 9223372036854775808) :=
 (nS.int .i64 (by kernel_rfl)).mono fun q ⟨n, h1, h2, h3⟩ => ⟨n, h1, by simpa [IntKind.min, IntKind.signed, IntKind.bits] using h2, by simp [IntKind.max, IntKind.signed, IntKind.bits] at h3; omega⟩
theorem JI : nS Tryz.prog 31 (fun q => ∃ p : RP, q = Pg p ∧ InP p) :=
 (nS.slice (e := 40) (by kernel_rfl) (by rw [show Tryz.prog.cellsOf 40 = 2 by kernel_rfl]; decide) adO).mono fun q ⟨l, h1, h2, h3⟩ => by
  obtain ⟨m, rfl, hm⟩ := maps (g := ge) (Q := fun c => InL c.2) (fun ps h => h) h2
  exact ⟨m, h1, fun c hc => ⟨(hm c hc).uG, (hm c hc).len⟩, by rw [List.length_map] at h3; simp only [maxLen] at h3; omega⟩
theorem own : ownKnob Tryz.prog.godebug = none := by kernel_rfl
theorem laidOut : laidOutB Tryz.prog = true := by kernel_rfl
end Go.Proofs.YtbbjgncblhfegaaGreat
