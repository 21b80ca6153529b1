import Derived.Test.YtbbjgncblhfegaaGreatAah
import Derived.Test.YtbbjgncblhfegaaGreatAai
import Derived.Test.YtbbjgncblhfegaaGreatAaj
set_option linter.unusedSimpArgs false
set_option linter.unusedVariables false
namespace Go.Proofs.YtbbjgncblhfegaaGreat
open Go Pm
abbrev Y (x : Int) : Prop := sz 2 x < 549755813888
theorem Y.z {x : Int} (h : Y x) : Z x := by simp only [Y, Z] at *; omega
theorem zU {x y : Int} (h : Y y) (uQ : x.natAbs ≤ y.natAbs) : Y x := Nat.lt_of_le_of_lt (cC (by decide) uQ) h
theorem wM {x y : Int} : dC x y ≤ 0 ↔ x ≤ y := by simp only [dC]; split <;> (try split) <;> omega
@[simp] theorem al8 {l : List Int} {x : Int} : [PV.int .i64 x] :: emap aF l = emap aF (x :: l) := by simp [emap]
@[simp] theorem ad3 {l : List Int} : (∀ e ∈ emap aF l, ∀ p ∈ e, bY p = true) = True := by simp [emap]
theorem UJ {l : List Int} (h : b6 10000 l) (k : Nat) (hk : k ≤ l.length) : V 10000 (l.drop k) ≤ V 10000 l := by
 rw [i9 l k hk]
 have h1 := bF (by decide) (h.take k)
 have h2 := bF (by decide) (h.drop k)
 have h3 : 1 ≤ (10000 : Int) ^ k := Int.pow_pos (by decide)
 have h4 := Int.mul_le_mul_of_nonneg_right h3 h2
 omega
theorem JD (x y : Int) (hx : 0 ≤ x) (hy : 0 < y) (zx : Y x) (zy : Y y) : aI env.P 230 [Dn x, Dn y] (.eP [Dn (x / y), Dn (x % y)]) := by
 have hal : (aQ DD x.toNat).length < 549755813888 := Nat.lt_of_le_of_lt (jB hx) zx
 have la := kK x.toNat
 have hVa := tN hx
 refine aB (E := env) (fun _ => 0) [(0, Dn x), (1, Dn y)] Tryz.func230 rfl (by kernel_rfl) (by kernel_rfl) (show 2 ≤ 59 by decide) (by simp) ?_
 simp only [Dn]
 generalize ha : aQ DD x.toNat = a at *
 refine W.sr ?_; simp (disch := omega) [gw]; refine W.lx [0, 1] ?_; simp
 refine W.sr ?_; simp (disch := omega) [gw]; refine W.lx [0, 1, 6] ?_; simp
 refine W.sr ?_; simp (disch := omega) [gw]; refine W.lx [0, 1, 6, 7] ?_; simp
 refine W.TU 7 (Dn 0) (by simp) rfl (fun K hK => ?_)
 refine W.lw [0, 1, 6, 7] hK ?_; clear hK K; simp
 refine W.seq ?_
 refine W.sr ?_; simp (disch := omega) [gw]; refine W.lx [0, 1, 6, 7, 8] ?_; simp
 refine W.block ?_
 refine W.a9 (fun k σ => ∃ (r : Int) (z : List Int) (ver : Nat) (rows : Pm.Rows) (clk : Nat), σ = ⟨fa [(0, aJ aF a), (1, Dn y), (6, .own 14 ver 0 a.length), (7, Dn r), (8, .int .i64 ((k : Int) - 1))], rows, clk⟩ ∧
  rows 14 = some ⟨ver, 3, 1, emap aF z⟩ ∧ k ≤ a.length ∧ z.length = a.length ∧ b6 10000 z ∧ 0 ≤ r ∧ r < y ∧ V 10000 (a.drop k) = y * V 10000 (z.drop k) + r) a.length ?_ ?_
 ·exact ⟨_, Gh.fr [(0, aJ aF a), (1, Dn y), (6, .own 14 0 0 a.length), (7, Dn 0), (8, .int .i64 ((a.length : Int) - 1))] (by simp), 0, List.replicate a.length 0, _, _, _, rfl, by simp, by omega, by simp, b6.rep (by decide) _, by omega, hy, by simp [V]⟩
 rintro k _ ⟨r, z, ver, rows, clk, rfl, hr, hk, hz, lz, CN, BW, hV⟩
 refine W.seq ?_
 refine W.sr ?_; simp (disch := omega) [gw]; refine W.lx [0, 1, 6, 7, 8, 19] ?_; simp
 refine W.cond ⟨_, rfl, fun h => ?_, fun h => ?_⟩
 ·simp at h
  obtain ⟨j, rfl⟩ : ∃ j, k = j + 1 := ⟨k - 1, by omega⟩
  clear h
  have hxj := la.nth (i := j) (by omega)
  have hVz := bF (by decide) (lz.drop (j + 1))
  have hyV := Int.mul_nonneg (Int.le_of_lt hy) hVz
  have hR : V 10000 (a.drop j) = y * (10000 * V 10000 (z.drop (j + 1))) + (nth a j + 10000 * r) := by
   rw [dV (l := a) (i := j) (by omega)]; simp only [V]; rw [hV]; grind
  have hRx : nth a j + 10000 * r ≤ x := by
   have h1 := UJ la j (by omega)
   have h2 : 0 ≤ y * (10000 * V 10000 (z.drop (j + 1))) := Int.mul_nonneg (Int.le_of_lt hy) (by omega)
   omega
  have TY : (aQ DD r.toNat).length < 549755813888 := Nat.lt_of_le_of_lt (jB CN) (zU zy (by omega))
  have lS : aJ aF (aM (nth a j :: aQ DD r.toNat)) = Dn (nth a j + 10000 * r) := by
   rw [sC (b6.cons.2 ⟨hxj, kK _⟩)]
   simp only [V, tN CN]
  refine W.skip ?_
  refine W.seq ?_
  refine W.block ?_
  refine W.sr ?_
  simp (disch := omega) [gw]
  refine aA (nB (nth a j :: aQ DD r.toNat) (by simp; omega)) ?_
  rw [lS]
  have HN : 0 ≤ nth a j + 10000 * r := by omega
  have hR1 : nth a j + 10000 * r < y * 10000 := by omega
  have zR : Y (nth a j + 10000 * r) := zU zx (by omega)
  generalize nth a j + 10000 * r = R at *
  simp (disch := omega) [gw]
  refine W.lx [0, 1, 6, 7, 8] ?_; simp
  refine W.sr ?_; simp (disch := omega) [gw]; refine W.lx [0, 1, 6, 7, 8, 9, 10] ?_; simp
  refine W.seq ?_
  refine W.block ?_
  refine W.a9 (fun m σ => ∃ (lo hi : Int), σ = ⟨fa [(0, aJ aF a), (1, Dn y), (6, .own 14 ver 0 a.length), (7, Dn R), (8, .int .i64 (j : Int)), (9, .int .i64 lo), (10, .int .i64 hi)], rows, clk⟩ ∧
   m = (hi - lo).toNat ∧ 0 ≤ lo ∧ lo ≤ hi ∧ hi ≤ 9999 ∧ y * lo ≤ R ∧ R < y * (hi + 1)) 9999 ?_ ?_
  ·exact ⟨_, Gh.fr [(0, aJ aF a), (1, Dn y), (6, .own 14 ver 0 a.length), (7, Dn R), (8, .int .i64 (j : Int)), (9, .int .i64 0), (10, .int .i64 9999)] (by simp), 0, 9999, rfl, by decide, by omega, by omega, by omega, by omega, by omega⟩
  rintro m _ ⟨lo, hi, rfl, hm, ED, hlh, SN, h1, h2⟩
  refine W.seq ?_
  refine W.sr ?_; simp (disch := omega) [gw]; refine W.lx [0, 1, 6, 7, 8, 9, 10, 32] ?_; simp
  refine W.cond ⟨_, rfl, fun h => ?_, fun h => ?_⟩
  ·simp at h
   refine W.skip ?_
   refine W.block ?_
   refine W.sr ?_; simp (disch := omega) [gw]; refine W.lx [0, 1, 6, 7, 8, 9, 10, 11] ?_; simp
   have G1 : lo < (lo + hi + 1) / 2 := by omega
   have hm2 : (lo + hi + 1) / 2 ≤ hi := by omega
   generalize (lo + hi + 1) / 2 = G4 at *
   have hp : 0 ≤ y * G4 := Int.mul_nonneg (by omega) (by omega)
   have zp : Z (y * G4) := by
    have h3 : sz 2 G4 ≤ 14 := cN (by decide) (by simp; omega)
    have h4 := bS (b := 2) (by decide) (Nat.le_refl (sz 2 y)) h3
    simp only [Z, Y] at *; omega
   have hma := kD y G4 0 (by omega) zy.z (by omega) (by omega) (by decide) (by decide)
   rw [Int.add_zero] at hma
   refine W.sr ?_
   simp (disch := omega) [gw]
   refine aA hma ?_
   simp (disch := omega) [gw]
   refine aA (JA (y * G4) R hp HN zp zR.z) ?_
   simp (disch := omega) [gw]
   refine W.lx [0, 1, 6, 7, 8, 9, 10, 11, 43] ?_; simp
   refine W.cond ⟨_, rfl, fun h => ?_, fun h => ?_⟩
   ·have h := wM.1 (of_decide_eq_true h)
    refine W.b8 (fun K hK => ?_); simp (disch := omega) [gw]
    exact hK _ ⟨(hi - G4).toNat, _, aC _ [0, 1, 6, 7, 8, 9, 10], by omega, G4, hi, rfl, rfl, by omega, by omega, by omega, h, h2⟩
   ·have h := of_decide_eq_false h
    rw [wM] at h
    refine W.b8 (fun K hK => ?_); simp (disch := omega) [gw]
    refine hK _ ⟨(G4 - 1 - lo).toNat, _, aC _ [0, 1, 6, 7, 8, 9, 10], by omega, lo, G4 - 1, rfl, rfl, by omega, by omega, by omega, h1, ?_⟩
    rw [show G4 - 1 + 1 = G4 by omega]; omega
  ·simp at h
   have aug : lo = hi := by omega
   subst aug
   have hp : 0 ≤ y * lo := Int.mul_nonneg (by omega) (by omega)
   have zp : Y (y * lo) := zU zR (by omega)
   have hma := kD y lo 0 (by omega) zy.z (by omega) (by omega) (by decide) (by decide)
   rw [Int.add_zero] at hma
   refine W.exit ?_; simp only [pX, if_true, if_false, reduceIte, Nat.reduceEqDiff]
   refine W.sr ?_; simp (disch := omega) [gw, hr]
   refine W.lx [0, 1, 6, 7, 8, 9] ?_; simp
   refine W.b8 (fun K hK => ?_)
   simp (disch := omega) [gw]
   refine aA hma ?_
   simp (disch := omega) [gw]
   refine aA (zS R (y * lo) hp h1 zR.z) ?_
   simp (disch := omega) [gw]
   refine W.lw [0, 1, 6, 7, 8] hK ?_; clear hK K; simp
   refine W.b8 (fun K hK => ?_); simp (disch := omega) [gw]
   refine hK _ ⟨j, _, aC _ [0, 1, 6, 7, 8], by omega, R - y * lo, z.set j lo, ver, _, _, rfl, by simp, by omega, by simpa using hz, lz.set (by omega), by omega, by rw [Int.mul_add] at h2; omega, ?_⟩
   rw [hR, dV (l := z.set j lo) (i := j) (by simp; omega), dR (by omega), List.drop_set_of_lt (by omega)]
   simp only [V]
   grind
 ·simp at h
  have wL : k = 0 := by omega
  subst wL
  simp only [List.drop_zero] at hV
  have ez : z.take a.length = z := bE hz
  have hzn := bF (by decide) lz
  rw [hVa] at hV
  have e1 : x / y = V 10000 z := by
   rw [hV, Int.mul_add_ediv_left _ _ (by omega), Int.ediv_eq_zero_of_lt CN BW]; simp
  have e2 : x % y = r := by
   rw [hV, Int.mul_add_emod_self_left, Int.emod_eq_of_lt CN BW]
  refine W.exit ?_; simp only [pX, if_true, if_false, reduceIte, Nat.reduceEqDiff]
  refine W.sr ?_
  simp (disch := omega) [gw, hr, ez]
  refine aA (nB z (by omega)) ?_
  simp (disch := omega) [gw]
  refine W.lx [4, 5] ?_; simp
  refine W.ret ?_
  have h4 := sC lz
  simp only [Dn] at h4
  rw [e1, e2, ← h4]
  simp [go]
theorem zV (a b : Int) (za : Y a) (zb : Y b) : aI env.P 175 [RI a, RI b] (RI (Int.gcd a b)) := by
 refine aB (E := env) (fun _ => 0) [(0, RI a), (1, RI b)] Tryz.func175 rfl (by kernel_rfl) (by kernel_rfl) (show 2 ≤ 26 by decide) (by simp) ?_
 refine W.sr ?_; simp (disch := omega) [gw]; refine W.lx [2, 3, 4] ?_; simp
 refine W.sd ?_; simp (disch := omega) [gw]; refine W.lx [4, 5, 6] ?_; simp
 refine W.seq ?_
 refine W.block ?_
 refine W.a9 (fun k σ => ∃ (x : Nat) (rows : Pm.Rows) (clk : Nat), σ = ⟨fa [(4, .ptr 4 2 0 0), (5, aJ aF (aQ DD x)), (6, aJ aF (aQ DD k))], rows, clk⟩ ∧ rows 4 = some ⟨2, 48, 2, [[.nil, .bool false]]⟩ ∧ Nat.gcd x k = Int.gcd a b ∧ Y (x : Int) ∧ Y (k : Int)) b.natAbs ?_ ?_
 ·exact ⟨_, .refl, a.natAbs, _, _, rfl, by simp, rfl, by simpa [Y, sz] using za, by simpa [Y, sz] using zb⟩
 rintro k _ ⟨x, rows, clk, rfl, jN, hg, zx, zk⟩
 have e0 : (aQ DD k).length = 0 ↔ k = 0 := by rw [List.length_eq_zero_iff, dK LD]
 refine W.seq ?_
 refine W.sr ?_; simp (disch := omega) [gw]; refine W.lx [4, 5, 6, 15] ?_; simp
 refine W.cond ⟨_, rfl, fun h => ?_, fun h => ?_⟩
 ·have wL : k ≠ 0 := by intro h0; have h1 := e0.2 h0; simp at h; omega
  have hdiv := JD (x : Int) (k : Int) (by omega) (by omega) zx zk
  have em : (((x : Int) % k).toNat) = x % k := by rw [← Int.natCast_emod]; exact Int.toNat_natCast _
  have ed : (((x : Int) / k).toNat) = x / k := by rw [← Int.natCast_ediv]; exact Int.toNat_natCast _
  simp only [Dn, em, ed, Int.toNat_natCast] at hdiv
  have eZ := Nat.mod_lt x (show k > 0 by omega)
  have mX : Nat.gcd k (x % k) = Int.gcd a b := by rw [← hg, Nat.gcd_comm x k, Nat.gcd_rec k x, Nat.gcd_comm]
  have zm : Y ((x % k : Nat) : Int) := zU zk (by simp only [Int.natAbs_natCast]; omega)
  refine W.skip ?_
  refine W.block ?_
  refine W.sr ?_
  simp (disch := omega) [gw]
  refine aA hdiv ?_
  generalize x % k = y at *
  simp (disch := omega) [gw]
  refine W.lx [4, 6, 8] ?_; simp
  refine W.b8 (fun K hK => ?_); simp (disch := omega) [gw]
  exact hK _ ⟨y, _, aC _ [4, 5, 6], eZ, k, _, _, rfl, by simp [jN], mX, zk, zm⟩
 ·have wL : k = 0 := by rw [← e0]; simp at h; simp [h]
  subst wL
  rw [Nat.gcd_zero_right] at hg
  subst hg
  refine W.exit ?_; simp only [pX, if_true, if_false, reduceIte, Nat.reduceEqDiff]
  refine W.sr ?_; simp (disch := omega) [gw, jN]
  refine W.lx [4] ?_; simp
  refine W.ret ?_
  simp [go]
theorem NL (a b : Int) : (if decide (a < 0) != decide (b < 0) then -((a.natAbs / b.natAbs : Nat) : Int) else ((a.natAbs / b.natAbs : Nat) : Int)) = a.tdiv b := by
 have h : ∀ x y : Nat, ((x / y : Nat) : Int) = (x : Int).tdiv y := fun x y => by rw [Int.natCast_ediv, Int.tdiv_eq_ediv_of_nonneg (by omega)]
 rw [h]
 by_cases h1 : a < 0 <;> by_cases h2 : b < 0
 ·simp only [h1, h2, show (a.natAbs : Int) = -a by omega, show (b.natAbs : Int) = -b by omega]; simp
 ·simp only [h1, h2, show (a.natAbs : Int) = -a by omega, show (b.natAbs : Int) = b by omega]; simp
 ·simp only [h1, h2, show (a.natAbs : Int) = a by omega, show (b.natAbs : Int) = -b by omega]; simp
 ·simp only [h1, h2, show (a.natAbs : Int) = a by omega, show (b.natAbs : Int) = b by omega]; simp
theorem tO (a b : Int) (hb : b ≠ 0) (za : Y a) (zb : Y b) : aI env.P 176 [RI a, RI b] (RI (a.tdiv b)) := by
 have hdiv := JD (a.natAbs : Int) (b.natAbs : Int) (by omega) (by omega) (by simpa [Y, sz] using za) (by simpa [Y, sz] using zb)
 have em : (((a.natAbs : Int) % b.natAbs).toNat) = a.natAbs % b.natAbs := by rw [← Int.natCast_emod]; exact Int.toNat_natCast _
 have ed : (((a.natAbs : Int) / b.natAbs).toNat) = a.natAbs / b.natAbs := by rw [← Int.natCast_ediv]; exact Int.toNat_natCast _
 have hs := NL a b
 refine aB (E := env) (fun _ => 0) [(0, RI a), (1, RI b)] Tryz.func176 rfl (by kernel_rfl) (by kernel_rfl) (show 2 ≤ 22 by decide) (by simp) ?_
 refine W.sr ?_; simp (disch := omega) [gw]; refine W.lx [2, 3, 4] ?_; simp
 simp only [Dn, em, ed, Int.toNat_natCast] at hdiv
 generalize a.natAbs / b.natAbs = q at *
 generalize a.natAbs % b.natAbs = r at *
 refine W.sr ?_
 simp (disch := omega) [gw]
 refine aA hdiv ?_
 simp (disch := omega) [gw]
 refine W.lx [2, 3, 4, 5] ?_; simp
 refine W.sr ?_
 simp (disch := omega) [gw]
 refine aA (lJ q (decide (a < 0) != decide (b < 0))) ?_
 rw [hs]
 simp (disch := omega) [gw]
 refine W.lx [4] ?_; simp
 refine W.ret ?_
 simp [go]
def re (q : Rat) : List PV := [aJ aF (aQ DD q.num.natAbs), .bool (decide (q.num < 0)), aJ aF (aQ DD q.den), .bool false]
@[simp] theorem auh {q : Rat} : re q = [aJ aF (aQ DD q.num.natAbs), .bool (decide (q.num < 0)), aJ aF (aQ DD q.den), .bool false] := rfl
abbrev RR (q : Rat) : PV := .ag (re q)
def cO (n d : Int) : Rat := if d = 0 then n else Rat.divInt n d
theorem j6 (n : Int) : cO n 1 = n := by
 rw [cO, if_neg (by decide), Rat.divInt_eq_div]
 grind
structure ZR (k : Nat) (q : Rat) : Prop where
 n : sz 2 q.num ≤ k
 d : sz 2 (q.den : Int) ≤ k
abbrev YY : Nat := 137438953472
theorem n3 (n d : Int) (hd : d ≠ 0) : (cO n d).num = (if d < 0 then -n else n) / (Int.gcd (if d < 0 then -n else n) (if d < 0 then -d else d)) := by
 rw [cO, if_neg hd, Rat.num_divInt]
 by_cases h : d < 0
 ·simp only [h, if_true]
  rw [Int.sign_eq_neg_one_of_neg h, Int.gcd_comm d n, Int.neg_gcd, Int.gcd_neg]; simp
 ·simp only [h, if_false]
  rw [Int.sign_eq_one_of_pos (by omega), Int.gcd_comm d n]; simp
theorem n4 (n d : Int) (hd : d ≠ 0) : ((cO n d).den : Int) = (if d < 0 then -d else d) / (Int.gcd (if d < 0 then -n else n) (if d < 0 then -d else d)) := by
 rw [cO, if_neg hd, Rat.den_divInt, if_neg hd]
 by_cases h : d < 0
 ·simp only [h, if_true]
  rw [Int.gcd_comm d n, Int.neg_gcd, Int.gcd_neg]
  rw [Int.natCast_ediv]; congr 1; omega
 ·simp only [h, if_false]
  rw [Int.gcd_comm d n, Int.natCast_ediv]; congr 1; omega
theorem zW {q : Rat} {n d : Int} (h1 : q.num = n) (h2 : (q.den : Int) = d) : RR q = .ag [aJ aF (aQ DD n.natAbs), .bool (decide (n < 0)), aJ aF (aQ DD d.natAbs), .bool (decide (d < 0))] := by
 subst h1; subst h2
 have : ¬ ((q.den : Int) < 0) := by omega
 simp [this]
theorem jC (n d : Int) (zn : Y n) (zd : Y d) : aI env.P 95 [RI n, RI d] (RR (cO n d)) := by
 refine aB (E := env) (fun id => if id = 4 then 2 else 0) [(0, RI n), (1, RI d)] Tryz.func95 rfl (by kernel_rfl) (by kernel_rfl) (show 2 ≤ 39 by decide) (by simp) ?_
 refine W.sr ?_; simp (disch := omega) [gw]; refine W.lx [2, 3, 4] ?_; simp
 refine W.fX (fun σ => ∃ (d1 : Int) (rows : Pm.Rows) (clk : Nat), σ = ⟨fa [(2, .ptr 2 0 0 0), (3, .ptr 3 1 0 0), (4, .ptr 4 2 0 0)], rows, clk⟩ ∧ rows 2 = some ⟨0, 48, 2, [[aJ aF (aQ DD n.natAbs), .bool (decide (n < 0))]]⟩ ∧
  rows 3 = some ⟨1, 48, 2, [[aJ aF (aQ DD d1.natAbs), .bool (decide (d1 < 0))]]⟩ ∧ rows 4 = some ⟨2, 50, 4, [[.nil, .bool false, .nil, .bool false]]⟩ ∧ d1 ≠ 0 ∧ cO n d = cO n d1 ∧ Y d1) ?_ ?_
 ·
  refine W.sr ?_
  simp (disch := omega) [gw]
  refine aA (DA d) ?_
  simp (disch := omega) [gw]
  refine W.lx [2, 3, 4, 7] ?_; simp
  refine W.cond ⟨_, rfl, fun h => ?_, fun h => ?_⟩
  ·have h := of_decide_eq_true h
   subst h
   refine W.b8 (fun K hK => ?_)
   simp (disch := omega) [gw]
   refine aA (mA 1 (by decide) (by decide)) ?_
   simp (disch := omega) [gw]
   refine hK _ ⟨_, aC _ [2, 3, 4], 1, _, _, rfl, by simp, by simp, by simp, by decide, by rw [j6]; simp [cO], ?_⟩
   have : sz 2 1 ≤ 1 := cN (by decide) (by decide)
   simp only [Y]; omega
  ·have h := of_decide_eq_false h
   refine W.skip ?_
   exact ⟨_, aC _ [2, 3, 4], d, _, _, rfl, by simp, by simp, by simp, h, rfl, zd⟩
 rintro _ ⟨d1, rows, clk, rfl, cI, fQ, jN, NK, hq, zd1⟩
 rw [hq]
 have q1 := n3 n d1 NK
 have q2 := n4 n d1 NK
 generalize cO n d1 = q at *
 clear hq zd d
 refine W.fX (fun σ => ∃ (n2 d2 : Int) (rows : Pm.Rows) (clk : Nat), σ = ⟨fa [(2, .ptr 2 0 0 0), (3, .ptr 3 1 0 0), (4, .ptr 4 2 0 0)], rows, clk⟩ ∧ rows 2 = some ⟨0, 48, 2, [[aJ aF (aQ DD n2.natAbs), .bool (decide (n2 < 0))]]⟩ ∧
  rows 3 = some ⟨1, 48, 2, [[aJ aF (aQ DD d2.natAbs), .bool (decide (d2 < 0))]]⟩ ∧ rows 4 = some ⟨2, 50, 4, [[.nil, .bool false, .nil, .bool false]]⟩ ∧ 0 < d2 ∧ q.num = n2 / Int.gcd n2 d2 ∧ (q.den : Int) = d2 / Int.gcd n2 d2 ∧ Y n2 ∧ Y d2) ?_ ?_
 ·
  refine W.sr ?_; simp (disch := omega) [gw, fQ]
  refine W.lx [2, 3, 4, 10] ?_; simp
  refine W.cond ⟨_, rfl, fun h => ?_, fun h => ?_⟩
  ·have h := of_decide_eq_true h
   simp only [h, if_true] at q1 q2
   have hn := pT n
   have hd := pT d1
   have zn2 : Y (-n) := by simpa [Y, nW] using zn
   have zd2 : Y (-d1) := by simpa [Y, nW] using zd1
   obtain ⟨n2, hn2⟩ : ∃ m, m = -n := ⟨_, rfl⟩
   obtain ⟨d2, S5⟩ : ∃ m, m = -d1 := ⟨_, rfl⟩
   rw [← hn2] at hn zn2 q1 q2
   rw [← S5] at hd zd2 q1 q2
   refine W.M3 (fun K hK => ?_)
   rw [if_pos rfl, dQ]
   simp (disch := omega) [gw, cI]
   refine aA hn ?_
   simp (disch := omega) [gw, cI, fQ]
   refine aA hd ?_
   simp (disch := omega) [gw, cI, fQ]
   exact hK _ ⟨_, aC _ [2, 3, 4], n2, d2, _, _, rfl, by simp, by simp, by simp [jN], by omega, q1, q2, zn2, zd2⟩
  ·have h := of_decide_eq_false h
   simp only [h, if_false] at q1 q2
   refine W.skip ?_
   exact ⟨_, aC _ [2, 3, 4], n, d1, _, _, rfl, cI, fQ, jN, by omega, q1, q2, zn, zd1⟩
 clear cI fQ jN q1 q2
 rintro _ ⟨n2, d2, rows, clk, rfl, cI, fQ, jN, h0, q1, q2, zn2, zd2⟩
 refine W.seq ?_
 refine W.gY (fun σ => ∃ (b : Bool), σ = ⟨fa [(2, .ptr 2 0 0 0), (3, .ptr 3 1 0 0), (4, .ptr 4 2 0 0), (25, .bool b)], rows, clk⟩ ∧ (b = true ↔ (aQ DD d2.natAbs).length = 1 ∧ nth (aQ DD d2.natAbs) 0 = 1)) (fun K hK => ?_) ?_
 ·by_cases h1 : (aQ DD d2.natAbs).length = 1
  ·have h2 : ((aQ DD d2.natAbs).length : Int) = 1 := by omega
   simp (disch := omega) [gw, fQ, h1, h2]
   exact hK _ _ (aC _ [2, 3, 4, 25]) ⟨_, rfl, by simp [h1]⟩
  ·have h2 : ¬ ((aQ DD d2.natAbs).length : Int) = 1 := by omega
   have h3 : (((aQ DD d2.natAbs).length : Int) == 1) = false := by simpa using h2
   simp (disch := omega) [gw, fQ, h3]
   exact hK _ _ (aC _ [2, 3, 4, 25]) ⟨_, rfl, by simp [h1, h2]⟩
 rintro _ ⟨b, rfl, hb⟩
 refine W.cond ⟨_, rfl, fun h => ?_, fun h => ?_⟩
 ·have hb := hb.1 h
  have S5 : d2 = 1 := by
   have hv := aoZ d2
   obtain ⟨h1, h2⟩ := hb
   match hl : aQ DD d2.natAbs, h1 with
   | [x], _ =>
    rw [hl] at h2 hv
    simp [nth, V] at h2 hv
    omega
  subst S5
  rw [Int.gcd_one] at q1 q2
  rw [zW (n := n2) (d := 1) (by simpa using q1) (by simpa using q2)]
  refine W.sr ?_; simp (disch := omega) [gw, cI, fQ, jN]
  refine W.lx [4] ?_; simp
  refine W.ret ?_
  simp [go]
 ·refine W.skip ?_
  have hgp : 0 < Int.gcd n2 d2 := Int.gcd_pos_of_ne_zero_right _ (by omega)
  have e1 : n2.tdiv (Int.gcd n2 d2) = q.num := by rw [q1]; exact Int.tdiv_eq_ediv_of_dvd (Int.gcd_dvd_left ..)
  have e2 : d2.tdiv (Int.gcd n2 d2) = q.den := by rw [q2]; exact Int.tdiv_eq_ediv_of_dvd (Int.gcd_dvd_right ..)
  have zg : Y (Int.gcd n2 d2 : Int) := zU zd2 (by
   have := Int.le_of_dvd h0 (Int.gcd_dvd_right n2 d2); omega)
  have ZJ := tO n2 (Int.gcd n2 d2) (by omega) zn2 zg
  have hq2 := tO d2 (Int.gcd n2 d2) (by omega) zd2 zg
  rw [e1] at ZJ
  rw [e2] at hq2
  have hg := zV n2 d2 zn2 zd2
  obtain ⟨g, hgd⟩ : ∃ g : Int, g = Int.gcd n2 d2 := ⟨_, rfl⟩
  rw [← hgd] at hg ZJ hq2
  have T7 : ¬ ((q.den : Int) < 0) := by omega
  refine W.sr ?_
  simp (disch := omega) [gw, cI, fQ]
  refine aA hg ?_
  simp (disch := omega) [gw, cI, fQ]
  refine W.lx [2, 3, 4, 5] ?_; simp
  refine W.sd ?_
  simp (disch := omega) [gw, cI, fQ]
  refine aA ZJ ?_
  simp (disch := omega) [gw, cI, fQ]
  refine aA hq2 ?_
  simp (disch := omega) [gw, cI, fQ, jN]
  refine W.lx [4] ?_; simp
  refine W.ret ?_
  simp [go, T7]
theorem n5 (n d : Int) (h1 : -9223372036854775808 ≤ n ∧ n < 9223372036854775808) (h2 : -9223372036854775808 ≤ d ∧ d < 9223372036854775808) : aI env.P 47 [.int .i64 n, .int .i64 d] (RR (cO n d)) := by
 have z : ∀ x : Int, -9223372036854775808 ≤ x ∧ x < 9223372036854775808 → Y x := fun x hx => by
  have : sz 2 x ≤ 64 := cN (by decide) (by omega)
  simp only [Y]; omega
 have hm := jC n d (z n h1) (z d h2)
 generalize cO n d = q at *
 refine aB (E := env) (fun _ => 0) [(0, .int .i64 n), (1, .int .i64 d)] Tryz.func47 rfl (by kernel_rfl) (by kernel_rfl) (show 2 ≤ 10 by decide) (by simp) ?_
 refine W.sr ?_; simp (disch := omega) [gw]; refine W.lx [0, 1, 4] ?_; simp
 refine W.sr ?_
 simp (disch := omega) [gw]
 refine aA (mA n h1.1 h1.2) ?_
 simp (disch := omega) [gw]
 refine aA (mA d h2.1 h2.2) ?_
 simp (disch := omega) [gw]
 refine aA hm ?_
 simp (disch := omega) [gw]
 refine W.lx [4] ?_; simp
 refine W.ret ?_
 simp [go]
theorem zY (q : Rat) : aI env.P 90 [RR q] (RR (-q)) := by
 have hn := pT q.num
 have e : RR (-q) = .ag [aJ aF (aQ DD (-q.num).natAbs), .bool (decide (-q.num < 0)), aJ aF (aQ DD q.den), .bool false] := rfl
 rw [e]
 generalize -q.num = m at *
 refine aB (E := env) (fun _ => 0) [(0, RR q)] Tryz.func90 rfl (by kernel_rfl) (by kernel_rfl) (show 1 ≤ 9 by decide) (by simp) ?_
 refine W.sr ?_; simp (disch := omega) [gw]; refine W.lx [1, 2] ?_; simp
 refine W.sd ?_
 simp (disch := omega) [gw]
 refine aA hn ?_
 simp (disch := omega) [gw]
 refine W.lx [2] ?_; simp
 refine W.ret ?_
 simp [go]
theorem ad4 (p q : Rat) : cO (p.num * q.den + q.num * p.den) ((p.den : Int) * q.den) = p + q := by
 have h : ((p.den : Int) * q.den) ≠ 0 := by have := p.den_nz; have := q.den_nz; simp [Int.mul_eq_zero]; omega
 rw [cO, if_neg h, Rat.add_def', ← Int.natCast_mul, Rat.divInt_ofNat]
theorem ad5 (p q : Rat) : cO (p.num * q.num) ((p.den : Int) * q.den) = p * q := by
 have h : ((p.den : Int) * q.den) ≠ 0 := by have := p.den_nz; have := q.den_nz; simp [Int.mul_eq_zero]; omega
 rw [cO, if_neg h, Rat.mul_def', ← Int.natCast_mul, Rat.divInt_ofNat]
theorem ad6 (p q : Rat) (hq : q ≠ 0) : cO (p.num * q.den) ((p.den : Int) * q.num) = p / q := by
 have hn : q.num ≠ 0 := fun h => hq (Rat.num_eq_zero.1 h)
 have h : ((p.den : Int) * q.num) ≠ 0 := by have := p.den_nz; exact Int.mul_ne_zero (by omega) hn
 rw [cO, if_neg h, Rat.div_def, Rat.inv_def, ← Rat.divInt_mul_divInt, Rat.num_divInt_den]
theorem tP (p q : Rat) (hp : ZR YY p) (hq : ZR YY q) : aI env.P 58 [RR p, RR q] (RR (p + q)) := by
 have s1 := bS (b := 2) (by decide) hp.n hq.d
 have s2 := bS (b := 2) (by decide) hq.n hp.d
 have s3 := bS (b := 2) (by decide) hp.d hq.d
 have s4 := mQ (b := 2) (by decide) s1 s2
 have zz : ∀ {x : Int}, sz 2 x ≤ YY → Z x := fun h => by simp only [Z, YY] at *; omega
 have m1 := dO p.num q.den (zz hp.n) (zz hq.d)
 have m2 := dO q.num p.den (zz hq.n) (zz hp.d)
 have m3 := dO p.den q.den (zz hp.d) (zz hq.d)
 have m4 := zT (p.num * q.den) (q.num * p.den) (by simp only [Z, YY] at *; omega) (by simp only [Z, YY] at *; omega)
 have m5 := jC (p.num * q.den + q.num * p.den) ((p.den : Int) * q.den) (by simp only [Y, YY] at *; omega) (by simp only [Y, YY] at *; omega)
 rw [ad4] at m5
 generalize p.num * q.den + q.num * p.den = x5 at *
 generalize p.num * q.den = x1 at *
 generalize q.num * (p.den : Int) = x2 at *
 generalize (p.den : Int) * q.den = x3 at *
 generalize hr : p + q = r at *
 have d1 : RR p = .ag [aJ aF (aQ DD p.num.natAbs), .bool (decide (p.num < 0)), aJ aF (aQ DD (p.den : Int).natAbs), .bool (decide ((p.den : Int) < 0))] := zW rfl rfl
 have d2 : RR q = .ag [aJ aF (aQ DD q.num.natAbs), .bool (decide (q.num < 0)), aJ aF (aQ DD (q.den : Int).natAbs), .bool (decide ((q.den : Int) < 0))] := zW rfl rfl
 rw [d1, d2]
 generalize (p.den : Int) = pd at *
 generalize (q.den : Int) = qd at *
 generalize p.num = pn at *
 generalize q.num = qn at *
 refine aB (E := env) (fun _ => 0) [(0, .ag [aJ aF (aQ DD pn.natAbs), .bool (decide (pn < 0)), aJ aF (aQ DD pd.natAbs), .bool (decide (pd < 0))]), (1, .ag [aJ aF (aQ DD qn.natAbs), .bool (decide (qn < 0)), aJ aF (aQ DD qd.natAbs), .bool (decide (qd < 0))])] Tryz.func58 rfl (by kernel_rfl) (by kernel_rfl) (show 2 ≤ 22 by decide) (by simp) ?_
 refine W.sr ?_; simp (disch := omega) [gw]; refine W.lx [2, 3, 4] ?_; simp
 refine W.sd ?_
 simp (disch := omega) [gw]
 refine aA m1 ?_
 simp (disch := omega) [gw]
 refine aA m2 ?_
 simp (disch := omega) [gw]
 refine aA m4 ?_
 simp (disch := omega) [gw]
 refine aA m3 ?_
 simp (disch := omega) [gw]
 refine aA m5 ?_
 simp (disch := omega) [gw]
 refine W.lx [4] ?_; simp
 refine W.ret ?_
 simp [go]
theorem zZ (p q : Rat) (hp : ZR YY p) (hq : ZR YY q) : aI env.P 123 [RR p, RR q] (RR (p * q)) := by
 have s1 := bS (b := 2) (by decide) hp.n hq.n
 have s2 := bS (b := 2) (by decide) hp.d hq.d
 have zz : ∀ {x : Int}, sz 2 x ≤ YY → Z x := fun h => by simp only [Z, YY] at *; omega
 have m1 := dO p.num q.num (zz hp.n) (zz hq.n)
 have m2 := dO p.den q.den (zz hp.d) (zz hq.d)
 have m5 := jC (p.num * q.num) ((p.den : Int) * q.den) (by simp only [Y, YY] at *; omega) (by simp only [Y, YY] at *; omega)
 rw [ad5] at m5
 generalize p.num * (q.num : Int) = x1 at *
 generalize (p.den : Int) * q.den = x2 at *
 generalize hr : p * q = r at *
 have d1 : RR p = .ag [aJ aF (aQ DD p.num.natAbs), .bool (decide (p.num < 0)), aJ aF (aQ DD (p.den : Int).natAbs), .bool (decide ((p.den : Int) < 0))] := zW rfl rfl
 have d2 : RR q = .ag [aJ aF (aQ DD q.num.natAbs), .bool (decide (q.num < 0)), aJ aF (aQ DD (q.den : Int).natAbs), .bool (decide ((q.den : Int) < 0))] := zW rfl rfl
 rw [d1, d2]
 generalize (p.den : Int) = pd at *
 generalize (q.den : Int) = qd at *
 generalize p.num = pn at *
 generalize q.num = qn at *
 refine aB (E := env) (fun _ => 0) [(0, .ag [aJ aF (aQ DD pn.natAbs), .bool (decide (pn < 0)), aJ aF (aQ DD pd.natAbs), .bool (decide (pd < 0))]), (1, .ag [aJ aF (aQ DD qn.natAbs), .bool (decide (qn < 0)), aJ aF (aQ DD qd.natAbs), .bool (decide (qd < 0))])] Tryz.func123 rfl (by kernel_rfl) (by kernel_rfl) (show 2 ≤ 16 by decide) (by simp) ?_
 refine W.sr ?_; simp (disch := omega) [gw]; refine W.lx [2, 3, 4] ?_; simp
 refine W.sd ?_
 simp (disch := omega) [gw]
 refine aA m1 ?_
 simp (disch := omega) [gw]
 refine aA m2 ?_
 simp (disch := omega) [gw]
 refine aA m5 ?_
 simp (disch := omega) [gw]
 refine W.lx [4] ?_; simp
 refine W.ret ?_
 simp [go]
theorem z0 (p q : Rat) (hp : ZR YY p) (hq : ZR YY q) (h0 : q ≠ 0) : aI env.P 167 [RR p, RR q] (RR (p / q)) := by
 have s1 := bS (b := 2) (by decide) hp.n hq.d
 have s2 := bS (b := 2) (by decide) hp.d hq.n
 have zz : ∀ {x : Int}, sz 2 x ≤ YY → Z x := fun h => by simp only [Z, YY] at *; omega
 have m1 := dO p.num q.den (zz hp.n) (zz hq.d)
 have m2 := dO p.den q.num (zz hp.d) (zz hq.n)
 have m5 := jC (p.num * q.den) ((p.den : Int) * q.num) (by simp only [Y, YY] at *; omega) (by simp only [Y, YY] at *; omega)
 rw [ad6 p q h0] at m5
 generalize p.num * (q.den : Int) = x1 at *
 generalize (p.den : Int) * q.num = x2 at *
 generalize hr : p / q = r at *
 have d1 : RR p = .ag [aJ aF (aQ DD p.num.natAbs), .bool (decide (p.num < 0)), aJ aF (aQ DD (p.den : Int).natAbs), .bool (decide ((p.den : Int) < 0))] := zW rfl rfl
 have d2 : RR q = .ag [aJ aF (aQ DD q.num.natAbs), .bool (decide (q.num < 0)), aJ aF (aQ DD (q.den : Int).natAbs), .bool (decide ((q.den : Int) < 0))] := zW rfl rfl
 rw [d1, d2]
 generalize (p.den : Int) = pd at *
 generalize (q.den : Int) = qd at *
 generalize p.num = pn at *
 generalize q.num = qn at *
 refine aB (E := env) (fun _ => 0) [(0, .ag [aJ aF (aQ DD pn.natAbs), .bool (decide (pn < 0)), aJ aF (aQ DD pd.natAbs), .bool (decide (pd < 0))]), (1, .ag [aJ aF (aQ DD qn.natAbs), .bool (decide (qn < 0)), aJ aF (aQ DD qd.natAbs), .bool (decide (qd < 0))])] Tryz.func167 rfl (by kernel_rfl) (by kernel_rfl) (show 2 ≤ 16 by decide) (by simp) ?_
 refine W.sr ?_; simp (disch := omega) [gw]; refine W.lx [2, 3, 4] ?_; simp
 refine W.sd ?_
 simp (disch := omega) [gw]
 refine aA m1 ?_
 simp (disch := omega) [gw]
 refine aA m2 ?_
 simp (disch := omega) [gw]
 refine aA m5 ?_
 simp (disch := omega) [gw]
 refine W.lx [4] ?_; simp
 refine W.ret ?_
 simp [go]
theorem JE : aI env.P 122 [] (RR 0) := by
 have h := n5 0 1 (by decide) (by decide)
 rw [j6] at h
 refine aB (E := env) (fun _ => 0) [] Tryz.func122 rfl (by kernel_rfl) (by kernel_rfl) (show 0 ≤ 2 by decide) (by simp) ?_
 refine W.sr ?_; simp (disch := omega) [gw]; refine W.lx [0] ?_; simp
 refine W.sr ?_
 simp (disch := omega) [gw]
 refine aA h ?_
 simp (disch := omega) [gw]
 refine W.lx [0] ?_; simp
 refine W.ret ?_
 simp [go]
def lT : List Rat → List Rat
 | [] => []
 | x :: l => if lT l = [] ∧ x = 0 then [] else x :: lT l
theorem DC : ∀ l : List Rat, lT (l ++ [0]) = lT l
 | [] => by simp [lT]
 | x :: l => by simp [lT, DC l]
theorem QJ {x : Rat} (h : x ≠ 0) : ∀ l : List Rat, lT (l ++ [x]) = l ++ [x]
 | [] => by
  show lT [x] = [x]
  rw [lT, if_neg (fun hh => h hh.2)]; rfl
 | y :: l => by
  have ih := QJ h l
  have hn : ¬ (l ++ [x] = [] ∧ y = 0) := by simp
  show lT (y :: (l ++ [x])) = y :: (l ++ [x])
  rw [lT, ih, if_neg hn]
abbrev qs (x : List Int) : List Rat := x.map fun (c : Int) => (c : Rat)
theorem tQ : ∀ x : List Int, lT (qs x) = qs (aM x)
 | [] => rfl
 | a :: x => by
  have ih := tQ x
  simp only [qs, List.map_cons] at ih ⊢
  rw [lT, ih, aM]
  by_cases h : aM x = [] ∧ a = 0
  ·simp [h]
  ·rw [if_neg h, if_neg (by simpa using h)]; simp
@[simp] theorem amb {l : List Rat} : bB 4 (emap re l) = True := cZ fun _ => rfl
@[simp] theorem ajA {v e n : Nat} {l : List Rat} : cQ (some ⟨v, e, n, emap re l⟩) = True := cM fun _ => rfl
abbrev PP (l : List Rat) : PV := aJ re l
theorem tR (l : List Rat) (hl : l.length < 17592186044416) : aI env.P 97 [PP l] (PP (lT l)) := by
 refine aB (E := env) (fun _ => 0) [(0, PP l)] Tryz.func97 rfl (by kernel_rfl) (by kernel_rfl) (show 1 ≤ 22 by decide) (by simp) ?_
 refine W.sr ?_; simp (disch := omega) [gw]; refine W.lx [0] ?_; simp
 refine W.sr ?_; simp (disch := omega) [gw]; refine W.lx [0, 3] ?_; simp
 refine W.seq (W.block ?_)
 refine W.a9 (fun k σ => ∃ (rows : Pm.Rows) (clk : Nat), σ = ⟨fa [(0, PP l), (3, .int .i64 (k : Int))], rows, clk⟩ ∧ k ≤ l.length ∧ lT l = lT (l.take k)) l.length ?_ ?_
 ·exact ⟨_, .refl, _, _, rfl, by omega, by simp⟩
 rintro k _ ⟨rows, clk, rfl, hk, hc⟩
 refine W.seq ?_
 refine W.gY (fun σ => ∃ (b : Bool), σ = ⟨fa [(0, PP l), (3, .int .i64 (k : Int)), (16, .bool b)], rows, clk⟩ ∧ (b = true ↔ 0 < k ∧ nth l (k - 1) = 0)) (fun K hK => ?_) ?_
 ·simp
  by_cases h0 : 0 < k
  ·simp (disch := omega) [gw, h0]
   refine aA (DA (nth l (k - 1)).num) ?_
   simp (disch := omega) [gw, h0]
   refine hK _ _ (aC _ [0, 3, 16]) ⟨_, rfl, ?_⟩
   simp [h0, Rat.num_eq_zero]
  ·simp (disch := omega) [gw, h0]
   exact hK _ _ (aC _ [0, 3, 16]) ⟨_, rfl, by simp [h0]⟩
 rintro _ ⟨b, rfl, hb⟩
 refine W.cond ⟨_, rfl, fun h => ?_, fun h => ?_⟩
 ·obtain ⟨h0, h1⟩ := hb.1 h
  refine W.skip (W.block ?_)
  refine W.b8 (fun K hK => ?_)
  simp (disch := omega) [gw]
  refine hK _ ⟨k - 1, _, Gh.fr [(0, _), (3, .int .i64 ((k - 1 : Nat) : Int))] (by simp; omega), by omega, _, _, rfl, by omega, ?_⟩
  rw [hc, show k = (k - 1) + 1 by omega, a8 (by omega), h1, DC]
  simp
 ·have h2 : lT l = l.take k := by
   rw [hc]
   by_cases h0 : 0 < k
   ·have h1 : nth l (k - 1) ≠ 0 := fun h1 => by simp [hb.2 ⟨h0, h1⟩] at h
    rw [show k = (k - 1) + 1 by omega, a8 (by omega)]
    exact QJ h1 _
   ·have : k = 0 := by omega
    subst this; simp [lT]
  refine W.exit ?_
  simp only [pX, if_true, if_false, reduceIte, Nat.reduceEqDiff]
  refine W.sr ?_; simp (disch := omega) [gw]; refine W.lx [2] ?_; simp
  refine W.ret ?_
  simp [h2]
def ri (x : Int) : List PV := [aJ aF (aQ DD x.natAbs), .bool (decide (x < 0)), aJ aF (aQ DD 1), .bool false]
@[simp] theorem ZZ {x : Int} : ri x = [aJ aF (aQ DD x.natAbs), .bool (decide (x < 0)), aJ aF (aQ DD 1), .bool false] := rfl
theorem eN (x : Int) : re (x : Rat) = ri x := by
 simp only [re, ri, Rat.num_intCast, Rat.den_intCast]
 congr
theorem oQ (x : List Int) : PP (qs x) = aJ ri x := by simp only [PP, aJ, emap, qs, List.map_map, Function.comp_def, eN]
abbrev PI (x : List Int) : PV := aJ ri x
@[simp] theorem amc {l : List Int} : bB 4 (emap ri l) = True := cZ fun _ => rfl
@[simp] theorem ajB {v e n : Nat} {l : List Int} : cQ (some ⟨v, e, n, emap ri l⟩) = True := cM fun _ => rfl
@[simp] theorem aui {l : List Int} {x : Int} : emap ri l ++ [[aJ aF (aQ DD x.natAbs), .bool (decide (x < 0)), aJ aF (aQ DD 1), .bool false]] = emap ri (l ++ [x]) := by simp [emap]
@[simp] theorem auj {l : List Rat} {q : Rat} : emap re l ++ [[aJ aF (aQ DD q.num.natAbs), .bool (decide (q.num < 0)), aJ aF (aQ DD q.den), .bool false]] = emap re (l ++ [q]) := by simp [emap]
@[simp] theorem apc {l : List Int} {i : Nat} {x : Int} : gN (emap ri l) i 0 [aJ aF (aQ DD x.natAbs), .bool (decide (x < 0)), aJ aF (aQ DD 1), .bool false] = emap ri (l.set i x) := xN (n := 4) (fun _ => rfl)
theorem nD (l : List Int) (hl : l.length < 17592186044416) : aI env.P 97 [PI l] (PI (aM l)) := by
 have := tR (qs l) (by simpa using hl)
 rwa [tQ, oQ, oQ] at this
theorem DE (n : Int) (zn : Y n) : aI env.P 95 [RI n, RI 1] (.ag (ri n)) := by
 have := jC n 1 zn (by have : sz 2 1 ≤ 1 := cN (by decide) (by decide); simp only [Y]; omega)
 rwa [j6, RR, eN] at this
theorem nE : aI env.P 122 [] (.ag (ri 0)) := by
 have := JE
 rwa [RR, show (0 : Rat) = ((0 : Int) : Rat) by simp, eN] at this
theorem JF (n : Int) (h1 : -9223372036854775808 ≤ n ∧ n < 9223372036854775808) : aI env.P 47 [.int .i64 n, .int .i64 1] (.ag (ri n)) := by
 have := n5 n 1 h1 (by decide)
 rwa [j6, RR, eN] at this
theorem mS {x : Int} {k : Nat} (h : sz 2 x ≤ k) (h1 : 1 ≤ k) : ZR k (x : Rat) := ⟨by simpa using h, by simp; exact Nat.le_trans (cN (by decide) (by decide)) h1⟩
theorem UK (x y : Int) (hx : sz 2 x ≤ YY) (hy : sz 2 y ≤ YY) : aI env.P 58 [.ag (ri x), .ag (ri y)] (.ag (ri (x + y))) := by
 have := tP x y (mS hx (by decide)) (mS hy (by decide))
 rwa [← Rat.intCast_add, RR, RR, RR, eN, eN, eN] at this
theorem DF (x y : Int) (hx : sz 2 x ≤ YY) (hy : sz 2 y ≤ YY) : aI env.P 123 [.ag (ri x), .ag (ri y)] (.ag (ri (x * y))) := by
 have := zZ x y (mS hx (by decide)) (mS hy (by decide))
 rwa [← Rat.intCast_mul, RR, RR, RR, eN, eN, eN] at this
structure FOK (p : RP) : Prop where
 ok : ∀ c ∈ p, b6 4294967296 c.2 ∧ c.2.length < 4294967296
 len : p.length < 1099511627776
theorem UL (p : RP) (h : FOK p) : aI env.P 32 [Pg p] (PI (aM (p.map gv))) := by
 refine aB (E := env) (fun _ => 0) [(0, Pg p)] Tryz.func32 rfl (by kernel_rfl) (by kernel_rfl) (show 1 ≤ 23 by decide) (by simp) ?_
 have hl := h.len
 refine W.sr ?_; simp (disch := omega) [gw]; refine W.lx [0] ?_; simp
 refine W.sr ?_; simp (disch := omega) [gw]; refine W.lx [0, 3] ?_; simp
 refine W.nil 3 3 50 4 (by simp) (by decide) (fun K hK => ?_)
 refine W.lw [0, 3] hK ?_; clear hK K; simp
 refine W.seq ?_
 refine W.sr ?_; simp (disch := omega) [gw]; refine W.lx [0, 3, 6, 7] ?_; simp
 refine W.block ?_
 refine W.a9 (fun k σ => ∃ (i ver : Nat) (rows : Pm.Rows) (clk : Nat), σ = ⟨fa [(0, Pg p), (3, .own 3 ver 0 i), (6, .int .i64 p.length), (7, .int .i64 i)], rows, clk⟩ ∧ rows 3 = some ⟨ver, 50, 4, emap ri ((p.take i).map gv)⟩ ∧ k = p.length - i ∧ i ≤ p.length) p.length ?_ ?_
 ·exact ⟨_, .refl, 0, _, _, _, rfl, by simp [emap], by omega, by omega⟩
 rintro k _ ⟨i, ver, rows, clk, rfl, hr, hk, hi⟩
 refine W.sr ?_; simp (disch := omega) [gw]; refine W.lx [0, 3, 6, 7, 8] ?_; simp
 refine W.seq ?_
 refine W.cond ⟨_, rfl, fun h0 => ?_, fun h0 => ?_⟩
 ·simp at h0
  obtain ⟨uM, WI⟩ := h.ok _ (bQ h0)
  have fA : ((p.take i).map gv).length = i := by simp; omega
  have hz : Y (iv (nth p i).1 (nth p i).2) := by
   have h1 := ZK uM
   have h2 : sz 2 (iv (nth p i).1 (nth p i).2) = sz 2 (V 4294967296 (nth p i).2) := by unfold iv; split <;> simp [nW]
   simp only [Y]; omega
  have hF := C9 (nth p i).1 (nth p i).2 (by omega) uM
  have hM := DE _ hz
  obtain ⟨v, hv⟩ : ∃ v, v = iv (nth p i).1 (nth p i).2 := ⟨_, rfl⟩
  rw [← hv] at hF hM
  refine W.skip ?_
  refine W.seq ?_
  refine W.block ?_
  refine W.sr ?_; simp (disch := omega) [gw]; refine W.lx [0, 3, 4, 6, 7] ?_; simp
  refine W.b8 (fun K hK => ?_)
  simp (disch := omega) [gw]
  refine aA hF ?_
  simp (disch := omega) [gw]
  refine aA (mA 1 (by decide) (by decide)) ?_
  simp (disch := omega) [gw]
  refine aA hM ?_
  simp (disch := omega) [gw, hr, fA]
  refine W.lw [0, 3, 6, 7] hK ?_; clear hK K; simp
  refine W.b8 (fun K hK => ?_); simp (disch := omega) [gw]
  refine hK _ ⟨p.length - (i + 1), _, aC _ [0, 3, 6, 7], by omega, i + 1, _, _, _, rfl, ?_, by omega, by omega⟩
  rw [mR h0, show gv (nth p i) = v from hv.symm]
  simp
 ·simp at h0
  have kY : i = p.length := by omega
  subst kY
  refine W.exit ?_; simp only [pX, if_true, if_false, reduceIte, Nat.reduceEqDiff]
  refine W.sr ?_
  have ez : (p.map gv).take p.length = p.map gv := bE (by simp)
  simp (disch := omega) [gw, hr, ez]
  refine aA (nD (p.map gv) (by simp; omega)) ?_
  simp (disch := omega) [gw]
  refine W.lx [2] ?_; simp
  refine W.ret ?_
  simp [go]
theorem xO (l : List Int) (hl : l.length < 1099511627776) (hb : ∀ x ∈ l, -9223372036854775808 ≤ x ∧ x < 9223372036854775808) : aI env.P 80 [aJ aF l] (PI (aM l)) := by
 refine aB (E := env) (fun _ => 0) [(0, aJ aF l)] Tryz.func80 rfl (by kernel_rfl) (by kernel_rfl) (show 1 ≤ 21 by decide) (by simp) ?_
 refine W.sr ?_; simp (disch := omega) [gw]; refine W.lx [0] ?_; simp
 refine W.sr ?_; simp (disch := omega) [gw]; refine W.lx [0, 3] ?_; simp
 refine W.nil 3 3 50 4 (by simp) (by decide) (fun K hK => ?_)
 refine W.lw [0, 3] hK ?_; clear hK K; simp
 refine W.seq ?_
 refine W.sr ?_; simp (disch := omega) [gw]; refine W.lx [0, 3, 6, 7] ?_; simp
 refine W.block ?_
 refine W.a9 (fun k σ => ∃ (i ver : Nat) (rows : Pm.Rows) (clk : Nat), σ = ⟨fa [(0, aJ aF l), (3, .own 3 ver 0 i), (6, .int .i64 l.length), (7, .int .i64 i)], rows, clk⟩ ∧ rows 3 = some ⟨ver, 50, 4, emap ri (l.take i)⟩ ∧ k = l.length - i ∧ i ≤ l.length) l.length ?_ ?_
 ·exact ⟨_, .refl, 0, _, _, _, rfl, by simp [emap], by omega, by omega⟩
 rintro k _ ⟨i, ver, rows, clk, rfl, hr, hk, hi⟩
 refine W.sr ?_; simp (disch := omega) [gw]; refine W.lx [0, 3, 6, 7, 8] ?_; simp
 refine W.seq ?_
 refine W.cond ⟨_, rfl, fun h0 => ?_, fun h0 => ?_⟩
 ·simp at h0
  have fA : (l.take i).length = i := by simp; omega
  refine W.skip ?_
  refine W.seq ?_
  refine W.block ?_
  refine W.sr ?_; simp (disch := omega) [gw]; refine W.lx [0, 3, 4, 6, 7] ?_; simp
  refine W.b8 (fun K hK => ?_)
  simp (disch := omega) [gw]
  refine aA (JF (nth l i) (hb _ (bQ h0))) ?_
  simp (disch := omega) [gw, hr, fA]
  refine W.lw [0, 3, 6, 7] hK ?_; clear hK K; simp
  refine W.b8 (fun K hK => ?_); simp (disch := omega) [gw]
  refine hK _ ⟨l.length - (i + 1), _, aC _ [0, 3, 6, 7], by omega, i + 1, _, _, _, rfl, ?_, by omega, by omega⟩
  rw [a8 h0]
  simp
 ·simp at h0
  have kY : i = l.length := by omega
  subst kY
  refine W.exit ?_; simp only [pX, if_true, if_false, reduceIte, Nat.reduceEqDiff]
  refine W.sr ?_
  simp (disch := omega) [gw, hr]
  refine aA (nD l (by omega)) ?_
  simp (disch := omega) [gw]
  refine W.lx [2] ?_; simp
  refine W.ret ?_
  simp [go]
structure UM (l : List Rat) : Prop where
 ok : ∀ q ∈ l, ZR YY q
 len : l.length < 1099511627776
theorem ad7 (k : Nat) (hk : 1 ≤ k) : ZR k 0 := ⟨by show sz 2 0 ≤ k; rw [jA]; omega, by show sz 2 1 ≤ k; exact Nat.le_trans (cN (by decide) (by decide)) hk⟩
theorem UM.nth {l : List Rat} (h : UM l) (i : Nat) : ZR YY (nth l i) := by
 by_cases hi : i < l.length
 ·exact h.ok _ (bQ hi)
 ·rw [fY (by omega)]; exact ad7 _ (by decide)
theorem UM.qs {x : List Int} (h : ∀ c ∈ x, sz 2 c ≤ YY) (hl : x.length < 1099511627776) : UM (qs x) := ⟨fun q hq => by
 simp only [List.mem_map] at hq
 obtain ⟨c, hc, rfl⟩ := hq
 exact mS (h c hc) (by decide), by simpa using hl⟩
@[simp] theorem ajC {l : List Rat} : (∀ e ∈ emap re l, ∀ p ∈ e, bY p = true) = True := by simp [emap]
theorem QK (l : List Rat) (i : Nat) (hi : i < 9223372036854775808) : aI env.P 248 [PP l, .int .i64 i] (RR (nth l i)) := by
 have hzero := JE
 refine aB (E := env) (fun _ => 0) [(0, PP l), (1, .int .i64 i)] Tryz.func248 rfl (by kernel_rfl) (by kernel_rfl) (show 2 ≤ 18 by decide) (by simp) ?_
 refine W.sr ?_; simp (disch := omega) [gw]; refine W.lx [0, 1, 4] ?_; simp
 refine W.seq ?_
 refine W.gY (fun σ => ∃ (b : Bool) (rows : Pm.Rows) (clk : Nat), σ = ⟨fa [(0, PP l), (1, .int .i64 i), (4, .ptr 4 0 0 0), (12, .bool b)], rows, clk⟩ ∧ (b = true ↔ l.length ≤ i) ∧ rows 4 = some ⟨0, 50, 4, [[.nil, .bool false, .nil, .bool false]]⟩) (fun K hK => ?_) ?_
 ·have hn : ¬ ((i : Int) < 0) := by omega
  simp (disch := omega) [gw, hn]
  exact hK _ _ (aC _ [0, 1, 4, 12]) ⟨_, _, _, rfl, by simp, by simp⟩
 rintro _ ⟨b, rows, clk, rfl, hb, jN⟩
 refine W.cond ⟨_, rfl, fun h => ?_, fun h => ?_⟩
 ·have hb := hb.1 h
  have e : nth l i = 0 := fY hb
  rw [e]
  generalize (0 : Rat) = z at *
  refine W.sr ?_
  simp (disch := omega) [gw]
  refine aA hzero ?_
  simp (disch := omega) [gw, jN]
  refine W.lx [4] ?_; simp
  refine W.ret ?_
  simp [go]
 ·have hb : i < l.length := Nat.lt_of_not_le fun h2 => by simp [hb.2 h2] at h
  refine W.skip ?_
  refine W.sr ?_; simp (disch := omega) [gw, jN]
  refine W.lx [4] ?_; simp
  refine W.ret ?_
  simp [go]
def Z0 (a b : List Rat) : List Rat := lT ((List.range (max a.length b.length)).map fun k => nth a k + nth b k)
theorem Z2 (a b : List Rat) (ha : UM a) (hb : UM b) : aI env.P 220 [PP a, PP b] (PP (Z0 a b)) := by
 have hal := ha.len; have V1 := hb.len
 refine aB (E := env) (fun _ => 0) [(0, PP a), (1, PP b)] Tryz.func220 rfl (by kernel_rfl) (by kernel_rfl) (show 2 ≤ 28 by decide) (by simp) ?_
 obtain ⟨M, hM⟩ : ∃ M, M = max a.length b.length := ⟨_, rfl⟩
 refine W.sr ?_; simp (disch := omega) [gw]; refine W.lx [0, 1] ?_; simp
 refine W.sr ?_; simp (disch := omega) [gw]; refine W.lx [0, 1, 5] ?_; simp
 refine W.nil 5 5 50 4 (by simp) (by decide) (fun K hK => ?_)
 refine W.lw [0, 1, 5] hK ?_; clear hK K; simp
 refine W.seq ?_
 refine W.sr ?_; simp (disch := omega) [gw]; refine W.lx [0, 1, 5, 6] ?_; simp
 refine W.block ?_
 refine W.a9 (fun k σ => ∃ (i ver : Nat) (rows : Pm.Rows) (clk : Nat), σ = ⟨fa [(0, PP a), (1, PP b), (5, .own 5 ver 0 i), (6, .int .i64 i)], rows, clk⟩ ∧ rows 5 = some ⟨ver, 50, 4, emap re ((List.range i).map fun k => nth a k + nth b k)⟩ ∧ k = M - i ∧ i ≤ M) M ?_ ?_
 ·exact ⟨_, .refl, 0, _, _, _, rfl, by simp [emap], by omega, by omega⟩
 rintro k _ ⟨i, ver, rows, clk, rfl, hr, hk, hi⟩
 have em : (if a.length < b.length then (b.length : Int) else (a.length : Int)) = M := by split <;> omega
 have em2 : (if b.length < a.length then (a.length : Int) else (b.length : Int)) = M := by split <;> omega
 refine W.seq ?_
 refine W.sr ?_; simp (disch := omega) [gw, em, em2]
 refine W.lx [0, 1, 5, 6, 13] ?_; simp
 refine W.cond ⟨_, rfl, fun h => ?_, fun h => ?_⟩
 ·have h : i < M := by simp at h; omega
  refine W.skip ?_
  refine W.seq ?_
  refine W.block ?_
  have h1 := QK a i (by omega)
  have h2 := QK b i (by omega)
  have h3 := tP _ _ (ha.nth i) (hb.nth i)
  have er : (List.range (i + 1)).map (fun k => nth a k + nth b k) = (List.range i).map (fun k => nth a k + nth b k) ++ [nth a i + nth b i] := by rw [List.range_succ]; simp
  have fA : ((List.range i).map fun k => nth a k + nth b k).length = i := by simp
  generalize ((List.range i).map fun k => nth a k + nth b k) = acc at *
  generalize nth a i + nth b i = q at *
  generalize nth a i = u at *
  generalize nth b i = v at *
  refine W.b8 (fun K hK => ?_)
  simp (disch := omega) [gw]
  refine aA h1 ?_
  simp (disch := omega) [gw]
  refine aA h2 ?_
  simp (disch := omega) [gw]
  refine aA h3 ?_
  simp (disch := omega) [gw, hr, fA]
  refine W.lw [0, 1, 5, 6] hK ?_; clear hK K; simp
  refine W.b8 (fun K hK => ?_); simp (disch := omega) [gw]
  refine hK _ ⟨M - (i + 1), _, aC _ [0, 1, 5, 6], by omega, i + 1, _, _, _, rfl, by rw [er]; simp, by omega, by omega⟩
 ·have h : i = M := by simp at h; omega
  subst h
  refine W.exit ?_; simp only [pX, if_true, if_false, reduceIte, Nat.reduceEqDiff]
  have fA : ((List.range i).map fun k => nth a k + nth b k).length = i := by simp
  rw [Z0, ← hM]
  generalize ((List.range i).map fun k => nth a k + nth b k) = acc at *
  have ez := bE fA
  refine W.sr ?_
  simp (disch := omega) [gw, hr, ez]
  refine aA (tR acc (by omega)) ?_
  simp (disch := omega) [gw]
  refine W.lx [4] ?_; simp
  refine W.ret ?_
  simp [go]
def jD (a : List Rat) (c : Rat) : List Rat := lT (a.map fun x => x * c)
theorem n6 (a : List Rat) (c : Rat) (ha : UM a) (hc : ZR YY c) : aI env.P 81 [PP a, RR c] (PP (jD a c)) := by
 have hal := ha.len
 refine aB (E := env) (fun id => if id = 5 then 2 else 0) [(0, PP a), (1, RR c)] Tryz.func81 rfl (by kernel_rfl) (by kernel_rfl) (show 2 ≤ 24 by decide) (by simp) ?_
 refine W.sr ?_; simp (disch := omega) [gw]; refine W.lx [0, 3] ?_; simp
 refine W.sr ?_; simp (disch := omega) [gw]; refine W.lx [0, 3, 5] ?_; simp
 refine W.nil 5 5 50 4 (by simp) (by decide) (fun K hK => ?_)
 refine W.lw [0, 3, 5] hK ?_; clear hK K; simp
 refine W.seq ?_
 refine W.sr ?_; simp (disch := omega) [gw]; refine W.lx [0, 3, 5, 8, 9] ?_; simp
 refine W.block ?_
 refine W.a9 (fun k σ => ∃ (i ver : Nat) (rows : Pm.Rows) (clk : Nat), σ = ⟨fa [(0, PP a), (3, .ptr 3 0 0 0), (5, .own 5 ver 0 i), (8, .int .i64 a.length), (9, .int .i64 i)], rows, clk⟩ ∧ rows 5 = some ⟨ver, 50, 4, emap re ((a.take i).map fun x => x * c)⟩ ∧ rows 3 = some ⟨0, 50, 4, [re c]⟩ ∧ k = a.length - i ∧ i ≤ a.length) a.length ?_ ?_
 ·exact ⟨_, .refl, 0, _, _, _, rfl, by simp [emap], by simp, by omega, by omega⟩
 rintro k _ ⟨i, ver, rows, clk, rfl, hr, fQ, hk, hi⟩
 refine W.sr ?_; simp (disch := omega) [gw]; refine W.lx [0, 3, 5, 8, 9, 10] ?_; simp
 refine W.seq ?_
 refine W.cond ⟨_, rfl, fun h => ?_, fun h => ?_⟩
 ·simp at h
  refine W.skip ?_
  refine W.seq ?_
  refine W.block ?_
  refine W.sr ?_; simp (disch := omega) [gw]; refine W.lx [0, 3, 5, 6, 8, 9] ?_; simp
  have h3 := zZ _ _ (ha.nth i) hc
  have er := mR (f := fun x => x * c) h
  have fA : ((a.take i).map fun x => x * c).length = i := by simp; omega
  generalize (a.take i).map (fun x => x * c) = acc at *
  generalize hq : nth a i * c = q at *
  refine W.M3 (fun K hK => ?_)
  rw [if_pos rfl, dQ]
  simp (disch := omega) [gw, fQ]
  refine aA h3 ?_
  simp (disch := omega) [gw, hr, fQ, fA]
  refine W.lw [0, 3, 5, 8, 9] hK ?_; clear hK K; simp
  refine W.b8 (fun K hK => ?_); simp (disch := omega) [gw]
  refine hK _ ⟨a.length - (i + 1), _, aC _ [0, 3, 5, 8, 9], by omega, i + 1, _, _, _, rfl, by rw [er]; simp, by simp [fQ], by omega, by omega⟩
 ·simp at h
  have kY : i = a.length := by omega
  subst kY
  refine W.exit ?_; simp only [pX, if_true, if_false, reduceIte, Nat.reduceEqDiff]
  rw [List.take_length] at hr
  rw [jD]
  have fA : (a.map fun x => x * c).length = a.length := by simp
  generalize a.map (fun x => x * c) = acc at *
  have ez := bE fA
  refine W.sr ?_
  simp (disch := omega) [gw, hr, ez]
  refine aA (tR acc (by omega)) ?_
  simp (disch := omega) [gw]
  refine W.lx [4] ?_; simp
  refine W.ret ?_
  simp [go]
theorem JG (a : List Rat) (ha : UM a) : aI env.P 126 [PP a] (PP (jD a (-1))) := by
 have h1 := n5 (-1) 1 (by decide) (by decide)
 rw [j6, show (((-1 : Int)) : Rat) = -1 by simp] at h1
 have h2 := n6 a (-1) ha ⟨by show sz 2 (-1) ≤ YY; exact Nat.le_trans (cN (k := 1) (by decide) (by decide)) (by decide), by show sz 2 1 ≤ YY; exact Nat.le_trans (cN (k := 1) (by decide) (by decide)) (by decide)⟩
 generalize (-1 : Rat) = c at *
 refine aB (E := env) (fun _ => 0) [(0, PP a)] Tryz.func126 rfl (by kernel_rfl) (by kernel_rfl) (show 1 ≤ 6 by decide) (by simp) ?_
 refine W.sr ?_; simp (disch := omega) [gw]; refine W.lx [0] ?_; simp
 refine W.sr ?_
 simp (disch := omega) [gw]
 refine aA h1 ?_
 simp (disch := omega) [gw]
 refine aA h2 ?_
 simp (disch := omega) [gw]
 refine W.lx [2] ?_; simp
 refine W.ret ?_
 simp [go]
theorem Z3 (x : List Int) (k : Nat) : nth (qs x) k = ((nth x k : Int) : Rat) := xK (f := fun (c : Int) => (c : Rat)) rfl x k
theorem DG (x : List Int) (c : Int) : jD (qs x) (c : Rat) = qs (aV x c) := by
 rw [jD, aV, ← tQ]
 congr 1
 simp [qs, Function.comp_def]
theorem NM (x : List Int) : aV x (-1) = fJ x := by simp [aV, fJ]
theorem DH (x : List Int) (hx : Bd 2 YY 1099511627775 x) : aI env.P 126 [PI x] (PI (fJ x)) := by
 have := JG (qs x) (.qs hx.sz (by have := hx.len; omega))
 rwa [show (-1 : Rat) = ((-1 : Int) : Rat) by simp, DG, NM, oQ, oQ] at this
theorem JH (x : List Int) (c : Int) (hx : Bd 2 YY 1099511627775 x) (hc : sz 2 c ≤ YY) : aI env.P 81 [PI x, .ag (ri c)] (PI (aV x c)) := by
 have := n6 (qs x) c (.qs hx.sz (by have := hx.len; omega)) (mS hc (by decide))
 rwa [DG, oQ, oQ, RR, eN] at this
theorem jW (x y : List Int) (s s' n n' : Nat) (hs : Bd 2 s n x) (BG : Bd 2 s' n' y) (hB : s + s' + n + n' < YY) : aI env.P 54 [PI x, PI y] (PI (bH x y)) := by
 have hlx := hs.len; have hly := BG.len
 have hB2 : s + s' + n + n' < 137438953472 := hB
 refine aB (E := env) (fun id => if id = 15 then 1 else 0) [(0, PI x), (1, PI y)] Tryz.func54 rfl (by kernel_rfl) (by kernel_rfl) (show 2 ≤ 69 by decide) (by simp) ?_
 refine W.sr ?_; simp (disch := omega) [gw]; refine W.lx [0, 1] ?_; simp
 refine W.seq ?_
 refine W.gY (fun σ => ∃ (b : Bool), σ = ⟨fa [(0, PI x), (1, PI y), (16, .bool b)], fun _ => none, 0⟩ ∧ (b = true ↔ x = [] ∨ y = [])) (fun K hK => ?_) ?_
 ·simp
  have e1 : ((x.length : Int) == 0) = decide (x = []) := by
   cases x <;> simp <;> omega
  have e2 : ((y.length : Int) == 0) = decide (y = []) := by
   cases y <;> simp <;> omega
  rw [e1]
  by_cases h0 : x = []
  ·have e3 : decide (x = []) = true := by simp [h0]
   rw [e3]
   simp
   exact hK _ _ (aC _ [0, 1, 16]) ⟨_, rfl, by simp [h0]⟩
  ·have e3 : decide (x = []) = false := by simp [h0]
   rw [e3]
   simp
   exact hK _ _ (aC _ [0, 1, 16]) ⟨_, rfl, by rw [e2]; simp [h0]⟩
 rintro _ ⟨b, rfl, hb⟩
 refine W.cond ⟨_, rfl, fun h => ?_, fun h => ?_⟩
 ·have e : bH x y = [] := by
   have h1 := hb.1 h
   refine Cn.ext (Cn.bH _ _) Cn.nil fun t => ?_
   rw [cL]
   rcases h1 with rfl | rfl <;> simp [V]
  refine W.sr ?_; simp (disch := omega) [gw]; refine W.lx [4] ?_; simp
  refine W.ret ?_
  simp [go, e]
  rfl
 ·have h1 : ¬ (x = [] ∨ y = []) := fun h2 => by simp [hb.2 h2] at h
  have nM : 0 < x.length := List.length_pos_iff.2 fun h2 => h1 (.inl h2)
  have NA : 0 < y.length := List.length_pos_iff.2 fun h2 => h1 (.inr h2)
  clear h hb h1
  have e0 : ((x.length : Int) + (y.length : Int) - 1).toNat = x.length + y.length - 1 := by omega
  have e9 : ((x.length + y.length - 1 : Nat) : Int) = (x.length : Int) + (y.length : Int) - 1 := by omega
  refine W.skip ?_
  refine W.sr ?_; simp (disch := omega) [gw, e0]
  refine W.lx [0, 1, 5] ?_; simp
  refine W.seq ?_
  refine W.sr ?_; simp (disch := omega) [gw]; refine W.lx [0, 1, 5, 25, 26] ?_; simp
  refine W.block ?_
  refine W.a9 (fun k σ => ∃ (i ver : Nat) (els : List (List PV)) (rows : Pm.Rows) (clk : Nat), σ = ⟨fa [(0, PI x), (1, PI y), (5, .own 23 ver 0 (x.length + y.length - 1)), (25, .int .i64 ((x.length + y.length - 1 : Nat) : Int)), (26, .int .i64 i)], rows, clk⟩ ∧
   rows 23 = some ⟨ver, 50, 4, els⟩ ∧ els.length = x.length + y.length - 1 ∧ (∀ e ∈ els, e.length = 4) ∧ els.take i = emap ri (List.replicate i 0) ∧ k = x.length + y.length - 1 - i ∧ i ≤ x.length + y.length - 1) (x.length + y.length - 1) ?_ ?_
  ·exact ⟨_, Gh.fr [(0, PI x), (1, PI y), (5, .own 23 0 0 (x.length + y.length - 1)), (25, .int .i64 ((x.length + y.length - 1 : Nat) : Int)), (26, .int .i64 (0 : Nat))] (by simp), 0, _, List.replicate (x.length + y.length - 1) [.nil, .bool false, .nil, .bool false], _, _, rfl, by simp [e0], by simp, by simp, by simp [emap], by omega, by omega⟩
  rintro k _ ⟨i, ver, els, rows, clk, rfl, hr, kX, JI, oU, hk, hi⟩
  have M8 : bB 4 els = True := by simp only [bB, eq_iff_iff, iff_true]; exact JI
  refine W.sr ?_; simp (disch := omega) [gw]; refine W.lx [0, 1, 5, 25, 26, 27] ?_; simp
  refine W.seq ?_
  refine W.cond ⟨_, rfl, fun h => ?_, fun h => ?_⟩
  ·have h : i < x.length + y.length - 1 := by simp at h; omega
   refine W.skip ?_
   refine W.seq ?_
   refine W.block ?_
   refine W.sr ?_; simp (disch := omega) [gw]; refine W.lx [0, 1, 5, 6, 25, 26] ?_; simp
   refine W.b8 (fun K hK => ?_)
   simp (disch := omega) [gw]
   refine aA nE ?_
   have sE : i < els.length := by omega
   have hE : rQ els i 4 = True := by
    simp only [eq_iff_iff, iff_true]
    exact ⟨els[i], List.getElem?_eq_getElem sE, by rw [JI _ (List.getElem_mem sE)]; omega⟩
   have hS : gN els i 0 [aJ aF (aQ DD 0), .bool false, aJ aF (aQ DD 1), .bool false] = els.set i (ri 0) := by
    have h4 := JI _ (List.getElem_mem sE)
    rw [gN, List.getElem?_eq_getElem sE]
    simp [List.drop_of_length_le, h4]
   simp (disch := omega) [gw, hr, hE, hS]
   refine W.lw [0, 1, 5, 25, 26] hK ?_; clear hK K; simp
   refine W.b8 (fun K hK => ?_); simp (disch := omega) [gw]
   refine hK _ ⟨x.length + y.length - 1 - (i + 1), _, aC _ [0, 1, 5, 25, 26], by omega, i + 1, ver, els.set i (ri 0), _, _, rfl, by simp, by simpa using kX, fun e he => ?_, ?_, by omega, by omega⟩
   ·rcases List.mem_or_eq_of_mem_set he with h1 | h1
    ·exact JI e h1
    ·rw [h1]; rfl
   ·rw [kC oU (by omega), List.replicate_succ']
    simp [emap]
  ·have h : i = x.length + y.length - 1 := by simp at h; omega
   subst h
   have rA : els = emap ri (List.replicate (x.length + y.length - 1) 0) := by rw [← oU, bE kX]
   subst rA
   clear oU JI kX M8 hk hi
   refine W.exit ?_; simp only [pX, if_true, if_false, reduceIte, Nat.reduceEqDiff]
   refine W.seq ?_
   refine W.sr ?_; simp (disch := omega) [gw]; refine W.lx [0, 1, 5, 35, 36] ?_; simp
   refine W.block ?_
   refine W.a9 (fun k σ => ∃ (i : Nat) (z : List Int) (ver : Nat) (rows : Pm.Rows) (clk : Nat), σ = ⟨fa [(0, PI x), (1, PI y), (5, .own 23 ver 0 (x.length + y.length - 1)), (35, .int .i64 x.length), (36, .int .i64 i)], rows, clk⟩ ∧
    rows 23 = some ⟨ver, 50, 4, emap ri z⟩ ∧ k = x.length - i ∧ i ≤ x.length ∧ z.length = x.length + y.length - 1 ∧ (∀ j, sz 2 (nth z j) ≤ s + s' + i) ∧
    ∀ t, V t z = V t (x.take i) * V t y) x.length ?_ ?_
   ·refine ⟨_, .refl, 0, List.replicate (x.length + y.length - 1) 0, _, _, _, rfl, hr, by omega, by omega, by simp, fun j => ?_, fun t => by simp [V, oN]⟩
    have : Bd 2 0 (x.length + y.length - 1) (List.replicate (x.length + y.length - 1) 0) := ⟨by simp, fun c hc => by rw [(List.mem_replicate.1 hc).2, jA]; omega⟩
    have := this.nth j
    omega
   clear hr rows clk
   rintro k _ ⟨i, z, ver, rows, clk, rfl, hr, hk, hi, hz, BD, hV⟩
   refine W.sr ?_; simp (disch := omega) [gw]; refine W.lx [0, 1, 5, 35, 36, 37] ?_; simp
   refine W.seq ?_
   refine W.cond ⟨_, rfl, fun h => ?_, fun h => ?_⟩
   ·simp at h
    refine W.skip ?_
    refine W.seq ?_
    refine W.block ?_
    refine W.sr ?_; simp (disch := omega) [gw]; refine W.lx [0, 1, 5, 7, 35, 36] ?_; simp
    refine W.sr ?_; simp (disch := omega) [gw]; refine W.lx [0, 1, 5, 7, 35, 36, 40, 41] ?_; simp
    refine W.block ?_
    refine W.a9 (fun m σ => ∃ (k : Nat) (z : List Int) (ver : Nat) (rows : Pm.Rows) (clk : Nat), σ = ⟨fa [(0, PI x), (1, PI y), (5, .own 23 ver 0 (x.length + y.length - 1)), (7, .int .i64 i), (35, .int .i64 x.length), (36, .int .i64 i), (40, .int .i64 y.length), (41, .int .i64 k)], rows, clk⟩ ∧
     rows 23 = some ⟨ver, 50, 4, emap ri z⟩ ∧ m = y.length - k ∧ k ≤ y.length ∧ z.length = x.length + y.length - 1 ∧ (∀ j, sz 2 (nth z j) ≤ s + s' + i + 1) ∧ (∀ j, i + k ≤ j → sz 2 (nth z j) ≤ s + s' + i) ∧
     ∀ t, V t z = V t (x.take i) * V t y + t ^ i * nth x i * V t (y.take k)) y.length ?_ ?_
    ·refine ⟨_, .refl, 0, z, ver, _, _, rfl, by simpa using hr, by omega, by omega, hz, fun j => by have := BD j; omega, fun j _ => BD j, fun t => by simp [V, hV]⟩
    clear hV BD hz hr z ver rows clk
    rintro m _ ⟨k, z, ver, rows, clk, rfl, hr, hm, hky, hz, BD, NB, hV⟩
    refine W.sr ?_; simp (disch := omega) [gw]; refine W.lx [0, 1, 5, 7, 35, 36, 40, 41, 42] ?_; simp
    refine W.seq ?_
    refine W.cond ⟨_, rfl, fun h2 => ?_, fun h2 => ?_⟩
    ·simp at h2
     refine W.skip ?_
     refine W.seq ?_
     refine W.block ?_
     refine W.sr ?_; simp (disch := omega) [gw]; refine W.lx [0, 1, 5, 7, 8, 35, 36, 40, 41] ?_; simp
     have e1 : ((i : Int) + (k : Int)).toNat = i + k := by omega
     have G1 : sz 2 (nth x i * nth y k) ≤ s + s' + i := Nat.le_trans (bS (by decide) (hs.nth i) (BG.nth k)) (by omega)
     have hm2 := mQ (b := 2) (by decide) (NB (i + k) (Nat.le_refl _)) G1
     have hlz : i + k < z.length := by omega
     have c1 := DF (nth x i) (nth y k) (Nat.le_trans (hs.nth i) (by show _ ≤ 137438953472; omega)) (Nat.le_trans (BG.nth k) (by show _ ≤ 137438953472; omega))
     have c2 := UK (nth z (i + k)) (nth x i * nth y k) (Nat.le_trans (NB (i + k) (Nat.le_refl _)) (by show _ ≤ 137438953472; omega)) (Nat.le_trans G1 (by show _ ≤ 137438953472; omega))
     have T0 := fun t => C2 (b := t) (x := nth z (i + k) + nth x i * nth y k) hlz
     generalize hu : nth z (i + k) + nth x i * nth y k = u at *
     generalize hpq : nth x i * nth y k = pq at *
     refine W.M3 (fun K hK => ?_)
     rw [if_pos rfl, dQ]
     simp (disch := omega) [gw, hr, e1]
     refine aA c1 ?_
     simp (disch := omega) [gw, hr, e1]
     refine aA c2 ?_
     simp (disch := omega) [gw, hr, e1]
     refine W.lw [0, 1, 5, 7, 35, 36, 40, 41] hK ?_; clear hK K; simp
     refine W.b8 (fun K hK => ?_); simp (disch := omega) [gw]
     refine hK _ ⟨y.length - (k + 1), _, aC _ [0, 1, 5, 7, 35, 36, 40, 41], by omega, k + 1, z.set (i + k) u, ver, _, _, rfl, by simp, by omega, by omega, by simpa using hz, fun j => ?_, fun j hj => ?_, fun t => ?_⟩
     ·by_cases hj : i + k = j
      ·subst hj; rw [dR hlz]; exact hm2
      ·rw [fF hj]; exact BD j
     ·rw [fF (by omega)]; exact NB j (by omega)
     ·rw [T0, aT h2, hV, Int.pow_add, ← hu, ← hpq]; clear hV T0; grind
    ·simp at h2
     have vS : k = y.length := by omega
     subst vS
     refine W.exit ?_; simp only [pX, if_true, if_false, reduceIte, Nat.reduceEqDiff]
     refine W.b8 (fun K hK => ?_); simp (disch := omega) [gw]
     refine hK _ ⟨x.length - (i + 1), _, aC _ [0, 1, 5, 35, 36], by omega, i + 1, z, ver, _, _, rfl, hr, by omega, by omega, hz, fun j => by have := BD j; omega, fun t => ?_⟩
     rw [hV, aX (Nat.le_refl _), aT h]; grind
   ·simp at h
    have kY : i = x.length := by omega
    subst kY
    have uT := bE hz
    refine W.exit ?_; simp only [pX, if_true, if_false, reduceIte, Nat.reduceEqDiff]
    refine W.sr ?_
    simp (disch := omega) [gw, hr, uT]
    refine aA (nD z (by omega)) ?_
    simp (disch := omega) [gw]
    refine W.lx [4] ?_; simp
    refine W.ret ?_
    have e : aM z = bH x y := by
     refine Cn.ext (Cn.cut _) (Cn.bH _ _) fun t => ?_
     rw [cA, hV, cL, aX (Nat.le_refl _)]
    simp [go, e]
theorem jX (v n : Int) (hv : -9223372036854775808 ≤ v ∧ v < 9223372036854775808) (hn : 0 < n) (hn2 : n < 4611686018427387904) : aI env.P 48 [.int .i64 v, .int .i64 n] (.int .i64 (v % n)) := by
 have hn0 : n ≠ 0 := by omega
 have h12 : (v.tmod n = v % n ∨ (v.tmod n < 0 ∧ v.tmod n + n = v % n)) ∧ -n < v.tmod n ∧ v.tmod n < n := by
  have h2 := Int.emod_nonneg v hn0
  have h3 := Int.emod_lt_of_pos v hn
  rcases (show v < 0 ∨ 0 ≤ v by omega) with h | h
  ·have h4 := Int.tmod_eq_emod (a := v) (b := n)
   have h5 : (n.natAbs : Int) = n := by omega
   split at h4
   ·simp at h4; omega
   ·rename_i h6
    rw [h5] at h4
    have h7 : v % n ≠ 0 := fun h8 => h6 (.inr (Int.dvd_of_emod_eq_zero h8))
    omega
  ·rw [Int.tmod_eq_emod_of_nonneg h]; omega
 obtain ⟨h1, h2⟩ := h12
 have h5 := Int.emod_nonneg v hn0
 have h6 := Int.emod_lt_of_pos v hn
 have T7 : ¬ n < 1 := by omega
 refine aB (E := env) (fun _ => 0) [(0, .int .i64 v), (1, .int .i64 n)] Tryz.func48 rfl (by kernel_rfl) (by kernel_rfl) (show 2 ≤ 17 by decide) (by simp) ?_
 refine W.sr ?_; simp (disch := omega) [gw]; refine W.lx [0, 1] ?_; simp
 refine W.seq ?_
 refine W.sr ?_; simp (disch := omega) [gw]; refine W.lx [0, 1, 7] ?_; simp
 refine W.cond ⟨_, rfl, fun h => ?_, fun h => ?_⟩
 ·exfalso; simp at h; omega
 ·refine W.skip ?_
  generalize hm : v.tmod n = m at *
  generalize v % n = r at *
  refine W.sr ?_; simp (disch := omega) [gA, hn0, hm]
  refine W.lx [1, 5] ?_; simp
  refine W.fX (fun σ => ∃ (rows : Pm.Rows) (clk : Nat), σ = ⟨fa [(5, .int .i64 r)], rows, clk⟩) ?_ ?_
  ·
   refine W.sr ?_; simp (disch := omega) [gw]; refine W.lx [1, 5, 12] ?_; simp
   refine W.cond ⟨_, rfl, fun h => ?_, fun h => ?_⟩
   ·simp at h
    refine W.b8 (fun K hK => ?_); simp (disch := omega) [gw]
    exact hK _ ⟨_, Gh.fr [(5, .int .i64 r)] (by simp; omega), _, _, rfl⟩
   ·simp at h
    refine W.skip ?_
    exact ⟨_, Gh.fr [(5, .int .i64 r)] (by simp; omega), _, _, rfl⟩
  rintro _ ⟨rows, clk, rfl⟩
  refine W.sr ?_; simp (disch := omega) [gw]; refine W.lx [4] ?_; simp
  refine W.ret ?_
  simp [go]
structure PB (x : List Int) : Prop where
 sz : ∀ c ∈ x, Sz c
 len : x.length < 1099511627775
theorem PB.B2 {x : List Int} (h : PB x) : rD (x.map rC) := rD.adF h.sz (by have := h.len; omega)
theorem PB.of {s n : Nat} {x : List Int} (h : Bd LL s n x) (hs : s < 1099511627775) (hn : n < 1099511627775) : PB x := ⟨fun c hc => Nat.lt_of_le_of_lt (h.sz c hc) (by omega), Nat.lt_of_le_of_lt h.len hn⟩
theorem UN {x y : List Int} (hx : PB x) (hy : PB y) : aI env.P 219 [Po x, Po y] (Po (fZ x y)) := by
 have := Y6 _ _ hx.B2 hy.B2
 rwa [bP, bP, ← iA, ← iA] at this
theorem DI {x y : List Int} (hx : PB x) (hy : PB y) : aI env.P 221 [Po x, Po y] (Po (dY x y)) := by
 have := Y7 _ _ hx.B2 hy.B2
 rwa [bP, bP, ← iA, ← iA] at this
theorem DJ {x : List Int} (hx : PB x) : aI env.P 69 [Po x] (Po (fJ x)) := by
 have := Y8 _ hx.B2
 rwa [bP, ← iA] at this
theorem fG {x : List Int} (hx : PB x) : aI env.P 101 [Po x] (Po (aM x)) := by
 have := gI _ hx.B2
 rwa [bP, ← iA] at this
theorem UO {a : RP} {y : List Int} {s s' n n' : Nat} (ha : rD a) (hs : Bd LL s n (a.map gv)) (BG : Bd LL s' n' y) (hB : s + s' + n + n' < 1099511627775) : aI env.P 39 [Pg a, Po y] (Po (bH (a.map gv) y)) := by
 have := Y9 a (y.map rC) ha (PB.of BG (by omega) (by omega)).B2 s s' n n' hs (by rwa [bP]) hB
 rwa [bP, ← iA] at this
theorem u9 {x y : List Int} {s s' n n' : Nat} (hs : Bd LL s n x) (BG : Bd LL s' n' y) (hB : s + s' + n + n' < 1099511627775) : aI env.P 39 [Po x, Po y] (Po (bH x y)) := by
 have := UO (PB.of hs (by omega) (by omega)).B2 (by rwa [bP]) BG hB
 rwa [bP, ← iA] at this
section
variable {k n : Nat} {p : RP}
end
theorem maps {α : Type} {g : α → List PV} {R : List PV → Prop} {Q : α → Prop} (h : ∀ ps, R ps → ∃ a, ps = g a ∧ Q a) : ∀ {l : List (List PV)}, (∀ x ∈ l, R x) → ∃ m : List α, l = m.map g ∧ ∀ a ∈ m, Q a
 | [], _ => ⟨[], rfl, fun _ h => (by cases h)⟩
 | x :: l, hx => by
  obtain ⟨a, rfl, ha⟩ := h x (hx x (by simp))
  obtain ⟨m, rfl, hm⟩ := maps h (l := l) fun y hy => hx y (by simp [hy])
  exact ⟨a :: m, rfl, fun b hb => by
   rcases List.mem_cons.1 hb with rfl | hb
   ·exact ha
   ·exact hm b hb⟩
theorem FL : sB Tryz.prog 3 (fun q => ∃ n : Int, q = .int .i64 n ∧ -9223372036854775808 ≤ n ∧ n < 9223372036854775808) :=
 (sB.int .i64 (by kernel_rfl)).mono fun q ⟨n, h1, h2, h3⟩ => ⟨n, h1, by simpa [IntKind.min, IntKind.signed, IntKind.bits] using h2, by simp [IntKind.max, IntKind.signed, IntKind.bits] at h3; omega⟩
theorem own : ownKnob Tryz.prog.godebug = none := by kernel_rfl
theorem laidOut : laidOutB Tryz.prog = true := by kernel_rfl
structure PD (x : List Int) : Prop where
 sz : ∀ v ∈ x, sz LL v < 1099511627774
 len : x.length < 1099511627774
theorem PD.of {s n : Nat} {x : List Int} (h : Bd LL s n x) (hs : s < 1099511627774) (hn : n < 1099511627774) : PD x := ⟨fun v hv => Nat.lt_of_le_of_lt (h.sz v hv) hs, Nat.lt_of_le_of_lt h.len hn⟩
theorem ajD (v : Int) : V 4294967296 (aQ LL v.natAbs) = v.natAbs := jM fS v.natAbs
theorem FM {v c : Int} (hv : sz LL v < 1099511627774) (hc : sz LL c < 1099511627774) (h0 : c ≠ 0) : aI env.P 234 [I v, I c] (if v % c = 0 then .eP [I (v / c), .int .i64 0] else .eP [I 0, .int .i64 3]) := by
 have := NI (decide (v < 0)) (decide (c < 0)) (aQ LL v.natAbs) (aQ LL c.natAbs) ⟨eS fS _, by unfold sz at hv; omega⟩ ⟨eS fS _, by unfold sz at hc; omega⟩ hv hc (by rw [ajD]; omega)
 rwa [zI, zI] at this
def oZ (c v : Int) : Int := if v % c = 0 then v / c else 0
theorem JJ (x : List Int) (c : Int) (hx : PD x) (hc : sz LL c < 1099511627774) (h0 : c ≠ 0) : aI env.P 223 [Po x, I c] (Po (aM (x.map (oZ c)))) := by
 have hxl := hx.len
 refine aB (E := env) (fun _ => 0) [(0, Po x), (1, I c)] Tryz.func223 rfl (by kernel_rfl) (by kernel_rfl) (show 2 ≤ 30 by decide) (by simp) ?_
 refine W.sr ?_; simp (disch := omega) [gw]; refine W.lx [0, 3] ?_; simp
 refine W.sr ?_; simp (disch := omega) [gw]; refine W.lx [0, 3, 5] ?_; simp
 refine W.row (id := 10) (emap ie (List.replicate x.length 0)) (by simp; exact ⟨rfl, rfl, rfl⟩) (pQ _) ?_
 refine W.seq ?_
 refine W.sr ?_; simp (disch := omega) [gw]; refine W.lx [3, 5, 11, 12, 13] ?_; simp
 refine W.block ?_
 refine W.a9 (fun q σ => ∃ (i : Nat) (z : List Int) (v10 : Nat) (rows : Pm.Rows) (clk : Nat), σ = ⟨fa [(3, .ptr 3 0 0 0), (5, .own 10 v10 0 x.length), (11, Po x), (12, .int .i64 x.length), (13, .int .i64 i)], rows, clk⟩ ∧
  rows 3 = some ⟨0, 40, 2, [ie c]⟩ ∧ rows 10 = some ⟨v10, 40, 2, emap ie z⟩ ∧ q = x.length - i ∧ i ≤ x.length ∧ z.length = x.length ∧ z.take i = (x.take i).map (oZ c)) x.length ?_ ?_
 ·exact ⟨_, .refl, 0, List.replicate x.length 0, _, _, _, rfl, by simp, by simp, by omega, by omega, by simp, by simp⟩
 rintro q _ ⟨i, z, v10, rows, clk, rfl, fQ, JK, hq, hi, hz, hv⟩
 refine W.sr ?_; simp (disch := omega) [gw]; refine W.lx [3, 5, 11, 12, 13, 14] ?_; simp
 refine W.seq ?_
 refine W.cond ⟨_, rfl, fun h => ?_, fun h => ?_⟩
 ·have hi : i < x.length := by simp at h; omega
  have hE := FM (hx.sz _ (bQ hi)) hc h0
  have hE2 : aI env.P 234 [I (nth x i), I c] (.eP [I (oZ c (nth x i)), .int .i64 (if nth x i % c = 0 then 0 else 3)]) := by
   unfold oZ
   split at hE
   ·rename_i h1; rw [if_pos h1, if_pos h1]; exact hE
   ·rename_i h1; rw [if_neg h1, if_neg h1]; exact hE
  have hts : (x.take (i + 1)).map (oZ c) = (x.take i).map (oZ c) ++ [oZ c (nth x i)] := by rw [a8 hi]; simp
  generalize (if nth x i % c = 0 then (0 : Int) else 3) = er at *
  generalize oZ c (nth x i) = ev at *
  generalize hxe : nth x i = xi at *
  refine W.skip ?_
  refine W.seq ?_
  refine W.block ?_
  refine W.sr ?_; simp (disch := omega) [gw, hxe]; refine W.lx [3, 5, 6, 7, 11, 12, 13] ?_; simp
  refine W.b8 (fun K hK => ?_)
  simp (disch := omega) [gw, fQ]
  refine aA hE2 ?_
  simp (disch := omega) [gw, JK, hz]
  refine W.lw [3, 5, 11, 12, 13] hK ?_; clear hK K; simp
  refine W.b8 (fun K hK => ?_); simp (disch := omega) [gw]
  refine hK _ ⟨x.length - (i + 1), _, aC _ [3, 5, 11, 12, 13], by omega, i + 1, z.set i ev, v10, _, _, rfl, by simp [fQ], by simp, by omega, by omega, by simp [hz], ?_⟩
  rw [kC hv (by omega), hts]
 ·have hi : i = x.length := by simp at h; omega
  subst hi
  rw [bE hz, List.take_length] at hv
  have uT := bE hz
  refine W.exit ?_; simp only [pX, if_true, if_false, reduceIte, Nat.reduceEqDiff]
  have hzb : PB z := by
   rw [hv]
   refine ⟨fun v hv => ?_, by simpa using by omega⟩
   simp only [List.mem_map] at hv
   obtain ⟨w, hw, rfl⟩ := hv
   have h1 := hx.sz w hw
   show sz LL (oZ c w) < 1099511627776
   refine Nat.lt_of_le_of_lt (cC fS (y := w) ?_) (by omega)
   unfold oZ; split
   ·exact Int.natAbs_ediv_le_natAbs _ _
   ·simp
  have hN := fG hzb
  rw [hv] at hN JK uT
  generalize x.map (oZ c) = y at *
  have LC : y.length = x.length := by rw [← hv]; exact hz
  refine W.sr ?_
  simp (disch := omega) [gw, JK, uT]
  refine aA hN ?_
  simp (disch := omega) [gw]
  refine W.lx [4] ?_; simp
  refine W.ret ?_
  simp [go]
theorem JL (l : List RP) (K0 : Nat) (hK0 : K0 < 1099511627774) (hp : ∀ p ∈ l, ∀ c ∈ p, b6 4294967296 c.2 ∧ c.2.length ≤ K0) (hl : l.length < 1099511627776) (hf : l.flatten.length < 1099511627776) :
  aI env.P 222 [aJ pe l] (I (bG (l.flatten.map gv))) := by
 refine aB (E := env) (fun _ => 0) [(0, aJ pe l)] Tryz.func222 rfl (by kernel_rfl) (by kernel_rfl) (show 1 ≤ 18 by decide) (by simp) ?_
 refine W.sr ?_; simp (disch := omega) [gw]; refine W.lx [0, 2] ?_; simp
 refine W.sr ?_; simp (disch := omega) [gw]; refine W.lx [0, 2, 3] ?_; simp
 refine W.nil 3 3 40 2 (by simp) (by decide) (fun K hK => ?_)
 refine W.lw [0, 2, 3] hK ?_; clear hK K; simp
 refine W.seq ?_
 refine W.sr ?_; simp (disch := omega) [gw]; refine W.lx [2, 3, 6, 7, 8] ?_; simp
 refine W.block ?_
 refine W.a9 (fun q σ => ∃ (i v3 : Nat) (A : RP) (rows : Pm.Rows) (clk : Nat), σ = ⟨fa [(2, .ptr 2 0 0 0), (3, .own 3 v3 0 A.length), (6, aJ pe l), (7, .int .i64 l.length), (8, .int .i64 i)], rows, clk⟩ ∧
  rows 2 = some ⟨0, 40, 2, [[.bool false, .nil]]⟩ ∧ rows 3 = some ⟨v3, 40, 2, emap ge A⟩ ∧ q = l.length - i ∧ i ≤ l.length ∧ A = (l.take i).flatten) l.length ?_ ?_
 ·exact ⟨_, .refl, 0, _, [], _, _, rfl, by simp, by simp [emap], by omega, by omega, by simp⟩
 rintro q _ ⟨i, v3, A, rows, clk, rfl, cI, fQ, hq, hi, hA⟩
 refine W.sr ?_; simp (disch := omega) [gw]; refine W.lx [2, 3, 6, 7, 8, 9] ?_; simp
 refine W.seq ?_
 refine W.cond ⟨_, rfl, fun h => ?_, fun h => ?_⟩
 ·have hi : i < l.length := by simp at h; omega
  have hfs : (l.take (i + 1)).flatten = (l.take i).flatten ++ nth l i := by rw [a8 hi]; simp
  have QL : (l.take (i + 1)).flatten.length ≤ l.flatten.length := by
   have e := List.take_append_drop (i + 1) l
   have e2 : l.flatten = (l.take (i + 1)).flatten ++ (l.drop (i + 1)).flatten := by rw [← List.flatten_append, e]
   rw [e2, List.length_append]; omega
  have ZC : (l.take i).flatten.length + (nth l i).length < 1099511627776 := by
   rw [hfs, List.length_append] at QL; omega
  have hls : (l.take (i + 1)).flatten.length = (l.take i).flatten.length + (nth l i).length := by rw [hfs, List.length_append]
  rw [← hA] at hfs ZC hls
  generalize hpe : nth l i = p at *
  refine W.skip ?_
  refine W.seq ?_
  refine W.block ?_
  refine W.sr ?_; simp (disch := omega) [gw, hpe]; refine W.lx [2, 3, 5, 6, 7, 8] ?_; simp
  refine W.b8 (fun K hK => ?_)
  simp (disch := omega) [gw, fQ]
  refine W.lw [2, 3, 6, 7, 8] hK ?_; clear hK K; simp
  refine W.b8 (fun K hK => ?_); simp (disch := omega) [gw]
  refine hK _ ⟨l.length - (i + 1), _, Gh.fr [(2, .ptr 2 0 0 0), (3, .own 3 _ 0 (A ++ p).length), (6, aJ pe l), (7, .int .i64 l.length), (8, .int .i64 ((i + 1 : Nat) : Int))] (by simp; exact rfl), by omega, i + 1, _, A ++ p, _, _, rfl, by simp [cI], by simp, by omega, by omega, hfs.symm⟩
 ·have hi : i = l.length := by simp at h; omega
  subst hi
  rw [List.take_length] at hA
  have hG := I7 l.flatten K0 hK0 (fun c hc => by
   obtain ⟨p, PG, hcp⟩ := List.mem_flatten.1 hc
   exact hp p PG c hcp) hf
  rw [← hA] at hG ⊢
  generalize (bG (A.map gv) : Int) = g at *
  refine W.exit ?_; simp only [pX, if_true, if_false, reduceIte, Nat.reduceEqDiff]
  refine W.sr ?_
  simp (disch := omega) [gw, fQ]
  refine aA hG ?_
  simp (disch := omega) [gw, cI]
  refine W.lx [2] ?_; simp
  refine W.ret ?_
  simp [go]
theorem jY {x : List Int} (hx : PB x) (hc : Cn x) : aI env.P 138 [Po x] (I (lead x)) := by
 have := I4 (x.map rC) hx.B2
 rw [show k7 (x.map rC) = aM x by simp only [k7, bP], show aM x = x from hc, ← iA] at this
 exact this
theorem lK (x : List Int) (hx : x.length < 9223372036854775808) : aI env.P 102 [Po x] (.int .i64 ((x.length : Int) - 1)) := by
 have := adY (x.map rC) (by simpa using hx)
 rw [List.length_map, ← iA] at this
 exact this
theorem wN {x : List Int} {c : Int} (hx : PB x) (hc : Sz c) : aI env.P 218 [Po x, I c] (Po (aV x c)) := by
 have := M9 (x.map rC) hx.B2 (decide (c < 0)) (aQ LL c.natAbs) hc.V7
 rw [bP, zI, ← iA] at this
 exact this
theorem pU (i : Nat) (x : Int) : (List.replicate (i + 1) (0 : Int)).set i x = oT i x := by
 rw [List.replicate_succ', List.set_append]
 simp [oT]
theorem NN (a b : RP) {s s' N : Nat} (ha : rD a) (hb : rD b) (sa : Bd LL s N (a.map gv)) (sb : Bd LL s' N (b.map gv)) (hB : s + N * (s' + N + 1) + s' + N + N + 10 < 1099511627774) :
  aI env.P 224 [Pg a, Pg b] (if k7 b = [] then .eP [Po [], Po [], .int .i64 0, .int .i64 2] else .eP [Po (wI (k7 a) (k7 b)).1, Po (wI (k7 a) (k7 b)).2, .int .i64 (iH (k7 a) (k7 b)), .int .i64 0]) := by
 have hA : Bd LL s N (k7 a) := sa.cut
 have QM : Bd LL s' N (k7 b) := sb.cut
 have ca : Cn (k7 a) := Cn.cut _
 have cb : Cn (k7 b) := Cn.cut _
 have na := gI a ha
 have nb := gI b hb
 rw [show aM (a.map gv) = k7 a from rfl] at na
 rw [show aM (b.map gv) = k7 b from rfl] at nb
 refine aB (E := env) (fun _ => 0) [(0, Pg a), (1, Pg b)] Tryz.func224 rfl (by kernel_rfl) (by kernel_rfl) (show 2 ≤ 65 by decide) (by simp) ?_
 generalize k7 a = x at *
 generalize k7 b = y at *
 refine W.sr ?_; simp (disch := omega) [gw]; refine W.lx [0, 1, 4] ?_; simp
 refine W.TU 4 (Po []) (by simp) rfl (fun K hK => ?_)
 refine W.lw [0, 1, 4] hK ?_; clear hK K; simp
 refine W.sr ?_
 simp (disch := omega) [gw]
 refine aA na ?_
 simp (disch := omega) [gw]
 refine aA nb ?_
 simp (disch := omega) [gw]
 refine W.lx [1, 4, 5] ?_; simp
 refine W.seq ?_
 refine W.sr ?_; simp (disch := omega) [gw]; refine W.lx [1, 4, 5, 18] ?_; simp
 refine W.cond ⟨_, rfl, fun h => ?_, fun h => ?_⟩
 ·have h : y = [] := by simp at h; exact h
  rw [if_pos h]
  refine W.sr ?_; simp (disch := omega) [gw]; refine W.lx [4, 5, 6, 7] ?_; simp
  refine W.ret ?_
  simp [go]
  rfl
 have hy : y ≠ [] := by simp at h; exact h
 clear h
 rw [if_neg hy]
 have NA : 0 < y.length := List.length_pos_iff.2 hy
 have hNx := hA.len
 have hNy := QM.len
 have hsy := eT QM
 have hmN : N * (s' + N + 1) ≥ 0 := Nat.zero_le _
 have hL := jY (PB.of QM (by omega) (by omega)) cb
 have hDx := lK x (by omega)
 have hDy := lK y (by omega)
 refine W.skip ?_
 refine W.sr ?_
 simp (disch := omega) [gw]
 refine aA hL ?_
 simp (disch := omega) [gw]
 refine W.lx [1, 4, 5, 8] ?_; simp
 have hkk : (if (0 : Int) < (x.length : Int) - 1 - ((y.length : Int) - 1) + 1 then (x.length : Int) - 1 - ((y.length : Int) - 1) + 1 else 0) = (iH x y : Int) := by unfold iH; split <;> omega
 refine W.sr ?_
 simp (disch := omega) [gw]
 refine aA hDx ?_
 simp (disch := omega) [gw]
 refine aA hDy ?_
 simp (disch := omega) [gw, hkk]
 refine W.lx [1, 4, 5, 6, 8] ?_; simp
 have hkN : iH x y ≤ N := by unfold iH; omega
 have hsl := hsy
 generalize hdd : s' + N + 1 = d at *
 have Z4 : ∀ j, j ≤ N → (N - j) * d ≤ N * d := fun j _ => Nat.mul_le_mul_right _ (by omega)
 refine W.seq ?_
 refine W.sr ?_; simp (disch := omega) [gw]; refine W.lx [1, 4, 5, 6, 8, 9] ?_; simp
 refine W.block ?_
 refine W.a9 (fun j σ => ∃ (q r : List Int) (rows : Pm.Rows) (clk : Nat), σ = ⟨fa [(1, Po y), (4, Po q), (5, Po r), (6, .int .i64 (iH x y)), (8, .ptr 8 0 0 0), (9, .int .i64 ((j : Int) - 1))], rows, clk⟩ ∧
  rows 8 = some ⟨0, 40, 2, [ie (lead y)]⟩ ∧ j ≤ iH x y ∧ ps y (lead y) j q r = wI x y ∧ Bd LL (s + (N - j) * d) (N + N) q ∧ Bd LL (s + (N - j) * d) (N + N) r ∧ Cn r) (iH x y) ?_ ?_
 ·exact ⟨_, .refl, [], x, _, _, rfl, by simp, by omega, rfl, ⟨by simp, fun c hc => by cases hc⟩, hA.mono (by omega) (by omega), ca⟩
 rintro j _ ⟨q, r, rows, clk, rfl, xG, hj, wO, bq, br, cr⟩
 refine W.seq ?_
 refine W.sr ?_; simp (disch := omega) [gw]; refine W.lx [1, 4, 5, 6, 8, 9, 31] ?_; simp
 refine W.cond ⟨_, rfl, fun h => ?_, fun h => ?_⟩
 ·have hj0 : 0 < j := by simp at h; omega
  obtain ⟨i, rfl⟩ : ∃ i, j = i + 1 := ⟨j - 1, by omega⟩
  clear h
  have ei : ((i + 1 : Nat) : Int) - 1 = i := by omega
  rw [ei]
  have hN1 := Z4 (i + 1) (by omega)
  have hT : s + (N - i) * d = s + (N - (i + 1)) * d + s' + N + 1 := by
   rw [show N - i = (N - (i + 1)) + 1 by omega, Nat.add_mul, Nat.one_mul]; omega
  obtain ⟨b1, b2⟩ := zC fS QM bq br (show i < N by omega)
  rw [← hT] at b1 b2
  have JM := Z4 i (by omega)
  have hx := YV (y := y) (i := i) br
  have bs := Bd.oT hx i
  have hLr := jY (PB.of br (by omega) (by omega)) cr
  have hDr := lK r (by have := br.len; omega)
  have bqs := bq.aV fS hsy
  have brs := br.aV fS hsy
  have bm := bs.bH fS QM
  have f1 := wN (c := lead y) (PB.of bq (by omega) (by omega)) (show sz LL (lead y) < 1099511627776 by omega)
  have f2 := wN (c := lead y) (PB.of br (by omega) (by omega)) (show sz LL (lead y) < 1099511627776 by omega)
  have f3 := UN (PB.of bqs (by omega) (by omega)) (PB.of bs (by omega) (by omega))
  have f4 := u9 bs QM (by omega)
  have f5 := DI (PB.of brs (by omega) (by omega)) (PB.of bm (by omega) (by omega))
  rw [show fZ (aV q (lead y)) (oT i (tF y r i)) = psq (lead y) (tF y r i) i q from rfl] at f3
  rw [show dY (aV r (lead y)) (bH (oT i (tF y r i)) y) = uS y (lead y) (tF y r i) i r from rfl] at f5
  have cr2 : Cn (uS y (lead y) (tF y r i) i r) := Cn.dY _ _
  have hpx : tF y r i = if r.length = y.length + i then lead r else 0 := rfl
  rw [ps] at wO
  generalize hq2 : psq (lead y) (tF y r i) i q = q2 at *
  generalize cI : uS y (lead y) (tF y r i) i r = r2 at *
  generalize bH (oT i (tF y r i)) y = pm at *
  generalize aV q (lead y) = pq at *
  generalize aV r (lead y) = pr at *
  generalize tF y r i = xx at *
  have Z5 := pU i xx
  have ajE : (oT i xx).length = i + 1 := by simp [oT]
  generalize lead r = lr at *
  generalize lead y = ly at *
  refine W.skip ?_
  refine W.seq ?_
  refine W.block ?_
  refine W.sr ?_; simp (disch := omega) [gw]; refine W.lx [1, 4, 5, 6, 8, 9, 10] ?_; simp
  refine W.row (id := 10) (els := [[.bool false, .nil]]) [ie 0] (by simp; exact ⟨rfl, rfl, rfl⟩) ⟨⟨.inl (by simp), .inr ⟨rfl, rfl⟩, trivial⟩, trivial⟩ ?_
  refine W.fX (fun σ => ∃ (v10 : Nat) (rows : Pm.Rows) (clk : Nat), σ = ⟨fa [(1, Po y), (4, Po q), (5, Po r), (6, .int .i64 (iH x y)), (8, .ptr 8 0 0 0), (9, .int .i64 i), (10, .ptr 10 v10 0 0)], rows, clk⟩ ∧ rows 8 = some ⟨0, 40, 2, [ie ly]⟩ ∧ rows 10 = some ⟨v10, 40, 2, [ie xx]⟩) ?_ ?_
  ·
   refine W.sr ?_
   simp (disch := omega) [gw]
   refine aA hDr ?_
   simp (disch := omega) [gw]
   refine aA hDy ?_
   simp (disch := omega) [gw]
   refine W.lx [1, 4, 5, 6, 8, 9, 10, 40] ?_; simp
   by_cases TY : r.length = y.length + i
   ·rw [if_pos TY] at hpx
    subst hpx
    refine W.cond ⟨_, rfl, fun h => ?_, fun h => ?_⟩
    ·refine W.b8 (fun K hK => ?_)
     simp (disch := omega) [gw]
     refine aA hLr ?_
     simp (disch := omega) [gw]
     exact hK _ ⟨_, aC _ [1, 4, 5, 6, 8, 9, 10], _, _, _, rfl, by simp [xG], by simp⟩
    ·exfalso; simp at h; omega
   ·rw [if_neg TY] at hpx
    subst hpx
    refine W.cond ⟨_, rfl, fun h => ?_, fun h => ?_⟩
    ·exfalso; simp at h; omega
    ·refine W.skip ?_
     exact ⟨_, aC _ [1, 4, 5, 6, 8, 9, 10], _, _, _, rfl, by simp [xG], by simp⟩
  rintro _ ⟨v10, rows, clk, rfl, xG, JK⟩
  have e9 : ((i : Int) + 1).toNat = i + 1 := by omega
  refine W.sr ?_; simp (disch := omega) [gw, e9]; refine W.lx [1, 4, 5, 6, 8, 9, 10, 11] ?_; simp
  refine W.row (id := 45) (emap ie (List.replicate (i + 1) 0)) (by simp; exact ⟨rfl, rfl, rfl⟩) (pQ _) ?_
  refine W.sr ?_
  simp (disch := omega) [gw, JK, Z5]
  refine W.lx [1, 4, 5, 6, 8, 9, 11] ?_; simp
  have lR := bE ajE
  refine W.freeze 45 (by simp) (fun K hK => ?_)
  simp [lR]
  refine hK _ ?_; clear hK K
  refine W.sr ?_
  simp (disch := omega) [gw, xG]
  refine aA f1 ?_
  simp (disch := omega) [gw]
  refine aA f3 ?_
  simp (disch := omega) [gw]
  refine W.lx [1, 4, 5, 6, 8, 9, 11] ?_; simp
  refine W.b8 (fun K hK => ?_)
  simp (disch := omega) [gw, xG]
  refine aA f2 ?_
  simp (disch := omega) [gw]
  refine aA f4 ?_
  simp (disch := omega) [gw]
  refine aA f5 ?_
  simp (disch := omega) [gw]
  refine W.lw [1, 4, 5, 6, 8, 9] hK ?_; clear hK K; simp
  refine W.b8 (fun K hK => ?_); simp (disch := omega) [gw]
  refine hK _ ⟨i, _, aC _ [1, 4, 5, 6, 8, 9], by omega, q2, r2, _, _, rfl, by simp [xG], by omega, wO, b1, b2, cr2⟩
 ·have hj0 : j = 0 := by simp at h; omega
  subst hj0
  simp only [ps] at wO
  rw [← wO]
  refine W.exit ?_; simp only [pX, if_true, if_false, reduceIte, Nat.reduceEqDiff]
  refine W.sr ?_; simp (disch := omega) [gw]; refine W.lx [4, 5, 6, 7] ?_; simp
  refine W.ret ?_
  simp [go]
def iX (x : List Int) : List Int := aM (x.map (oZ (bG x)))
def JN (a b : List Int) : List Int := if iH a b % 2 = 1 ∧ lead b < 0 then iX (fJ (wI a b).2) else iX (wI a b).2
theorem gB (x : List Int) : ∀ c ∈ x, ((bG x : Nat) : Int) ∣ c := by
 have key : ∀ (l : List Int) (g : Nat), (∀ c ∈ l, ((l.foldl (fun g c => Nat.gcd g c.natAbs) g : Nat) : Int) ∣ c) ∧ l.foldl (fun g c => Nat.gcd g c.natAbs) g ∣ g := by
  intro l
  induction l with
  | nil => intro g; exact ⟨fun c hc => (by cases hc), Nat.dvd_refl _⟩
  | cons c l ih =>
   intro g
   obtain ⟨h1, h2⟩ := ih (Nat.gcd g c.natAbs)
   simp only [List.foldl_cons]
   refine ⟨fun d hd => ?_, Nat.dvd_trans h2 (Nat.gcd_dvd_left _ _)⟩
   rcases List.mem_cons.1 hd with rfl | hd
   ·exact Int.ofNat_dvd_left.2 (Nat.dvd_trans h2 (Nat.gcd_dvd_right _ _))
   ·exact h1 d hd
 exact (key x 0).1
theorem JO {x : List Int} {c : Int} (hc : c ∈ x) (h : c ≠ 0) : bG x ≠ 0 := by
 intro h0
 have := gB x c hc
 rw [h0] at this
 obtain ⟨k, hk⟩ := this
 simp at hk
 exact h hk
theorem bW {x : List Int} (hc : Cn x) (h : x ≠ []) : bG x ≠ 0 := by
 have hl : 0 < x.length := List.length_pos_iff.2 h
 exact JO (c := lead x) (bQ (by omega)) (cD hc hl)
theorem QN {x : List Int} {s : Nat} (hx : ∀ c ∈ x, sz LL c ≤ s) (hc : Cn x) (h : x ≠ []) : sz LL (bG x : Int) ≤ s := by
 have hl : 0 < x.length := List.length_pos_iff.2 h
 have hm : lead x ∈ x := bQ (by omega)
 refine Nat.le_trans (cC fS ?_) (hx _ hm)
 have := Int.le_of_dvd (a := (bG x : Int)) (b := ((lead x).natAbs : Int)) (by have := cD hc hl; omega) (Int.dvd_natAbs.2 (gB x _ hm))
 omega
theorem tS (x : List Int) (hx : PD x) : aI env.P 222 [.sl [[Po x]]] (I (bG x)) := by
 have hl := hx.len
 have := JL [x.map rC] 1099511627773 (by decide) (fun p hp c hc => by
  simp only [List.mem_singleton] at hp
  subst hp
  simp only [List.mem_map] at hc
  obtain ⟨v, hv, rfl⟩ := hc
  have h1 := hx.sz v hv
  exact ⟨eS fS _, by unfold sz at h1; show (aQ LL v.natAbs).length ≤ _; omega⟩) (by simp) (by simp; omega)
 have e : ([x.map rC].flatten.map gv) = x := by simp only [List.flatten_cons, List.flatten_nil, List.append_nil, bP]
 rw [e] at this
 have e2 : aJ pe [x.map rC] = .sl [[Po x]] := by rw [iA]; rfl
 rw [e2] at this
 exact this
theorem JP (a b : RP) {s s' N : Nat} (ha : rD a) (hb : rD b) (sa : Bd LL s N (a.map gv)) (sb : Bd LL s' N (b.map gv)) (hB : s + N * (s' + N + 1) + s' + N + N + 10 < 1099511627774) :
  aI env.P 158 [Pg a, Pg b] (if k7 b = [] then .eP [Po [], .int .i64 2] else .eP [Po (JN (k7 a) (k7 b)), .int .i64 0]) := by
 have hP := NN a b ha hb sa sb hB
 have hL := I4 b hb
 have hA : Bd LL s N (k7 a) := sa.cut
 have QM : Bd LL s' N (k7 b) := sb.cut
 have ca : Cn (k7 a) := Cn.cut _
 refine aB (E := env) (fun _ => 0) [(0, Pg a), (1, Pg b)] Tryz.func158 rfl (by kernel_rfl) (by kernel_rfl) (show 2 ≤ 39 by decide) (by simp) ?_
 generalize k7 a = x at *
 generalize k7 b = y at *
 refine W.sr ?_; simp (disch := omega) [gw]; refine W.lx [0, 1] ?_; simp
 by_cases hy : y = []
 ·rw [if_pos hy] at hP ⊢
  refine W.sr ?_
  simp (disch := omega) [gw]
  refine aA hP ?_
  simp (disch := omega) [gw]
  refine W.lx [1, 7, 8, 9] ?_; simp
  refine W.seq ?_
  refine W.sr ?_; simp (disch := omega) [gw]; refine W.lx [1, 7, 8, 9, 19] ?_; simp
  refine W.cond ⟨_, rfl, fun h => ?_, fun h => ?_⟩
  ·refine W.sr ?_; simp (disch := omega) [gw]; refine W.lx [4, 5] ?_; simp
   refine W.ret ?_
   simp [go]
   rfl
  ·cases h
 rw [if_neg hy] at hP ⊢
 have NA : 0 < y.length := List.length_pos_iff.2 hy
 have hkN : iH x y ≤ N := by unfold iH; have := hA.len; omega
 obtain ⟨_, vZ⟩ := YW fS QM (iH x y) s [] x hkN ⟨by simp, fun c hc => by cases hc⟩ (hA.mono (by omega) (by omega))
 obtain ⟨_, cr⟩ := zD (b := y) ca
 rw [show (ps y (lead y) (iH x y) [] x) = wI x y from rfl] at vZ
 have hmul := Nat.mul_le_mul_right (s' + N + 1) hkN
 have ZI := DJ (PB.of vZ (by omega) (by omega))
 refine W.sr ?_
 simp (disch := omega) [gw]
 refine aA hP ?_
 simp (disch := omega) [gw]
 refine W.lx [1, 7, 8, 9] ?_; simp
 refine W.seq ?_
 refine W.sr ?_; simp (disch := omega) [gw]; refine W.lx [1, 7, 8, 9, 19] ?_; simp
 refine W.cond ⟨_, rfl, fun h => ?_, fun h => ?_⟩
 ·cases h
 refine W.skip ?_
 obtain ⟨r2, cI⟩ : ∃ r2, r2 = if iH x y % 2 = 1 ∧ lead y < 0 then fJ (wI x y).2 else (wI x y).2 := ⟨_, rfl⟩
 have api : JN x y = iX r2 := by rw [cI, JN]; split <;> rfl
 have hbr : PD r2 := by
  rw [cI]; split
  ·exact PD.of vZ.fJ (by omega) (by omega)
  ·exact PD.of vZ (by omega) (by omega)
 have hcr : Cn r2 := by
  rw [cI]; split
  ·exact Cn.fJ _
  ·exact cr
 rw [api]
 refine W.fX (fun σ => ∃ (rows : Pm.Rows) (clk : Nat), σ = ⟨fa [(7, Po r2)], rows, clk⟩) ?_ ?_
 ·
  by_cases hk : iH x y % 2 = 1
  ·refine W.gY (fun σ => ∃ (rows : Pm.Rows) (clk : Nat), σ = ⟨fa [(7, Po (wI x y).2), (28, .bool (decide (lead y < 0)))], rows, clk⟩) (fun K hK => ?_) ?_
   ·have vS : (iH x y : Int) % 2 = 1 := by omega
    simp (disch := omega) [gw, vS]
    refine aA hL ?_
    simp (disch := omega) [gw]
    exact hK _ _ (aC _ [7, 28]) ⟨_, _, rfl⟩
   rintro _ ⟨rows, clk, rfl⟩
   refine W.YM (lead y < 0) rfl (fun h => ?_) (fun h => ?_)
   ·rw [if_pos ⟨hk, h⟩] at cI
    subst cI
    refine W.b8 (fun K hK => ?_)
    simp (disch := omega) [gw]
    refine aA ZI ?_
    simp (disch := omega) [gw]
    exact hK _ ⟨_, aC _ [7], _, _, rfl⟩
   ·rw [if_neg (fun h2 => h h2.2)] at cI
    subst cI
    refine W.skip ?_
    exact ⟨_, aC _ [7], _, _, rfl⟩
  ·rw [if_neg (fun h2 => hk h2.1)] at cI
   subst cI
   refine W.gY (fun σ => ∃ (rows : Pm.Rows) (clk : Nat), σ = ⟨fa [(7, Po (wI x y).2), (28, .bool false)], rows, clk⟩) (fun K hK => ?_) ?_
   ·have vS : ((iH x y : Int) % 2 == 1) = false := by simp; omega
    simp (disch := omega) [gw, vS]
    exact hK _ _ (aC _ [7, 28]) ⟨_, _, rfl⟩
   rintro _ ⟨rows, clk, rfl⟩
   refine W.cond ⟨_, rfl, fun h => ?_, fun h => ?_⟩
   ·cases h
   ·refine W.skip ?_
    exact ⟨_, aC _ [7], _, _, rfl⟩
 rintro _ ⟨rows, clk, rfl⟩
 clear cI api
 refine W.seq ?_
 refine W.sr ?_; simp (disch := omega) [gw]; refine W.lx [7, 33] ?_; simp
 refine W.cond ⟨_, rfl, fun h => ?_, fun h => ?_⟩
 ·have h : r2 = [] := by simp at h; exact h
  subst h
  refine W.sr ?_; simp (disch := omega) [gw]; refine W.lx [4, 5] ?_; simp
  refine W.ret ?_
  simp [go]
  rfl
 ·have h : r2 ≠ [] := by simp at h; exact h
  have hC := tS r2 hbr
  have hgp := bW hcr h
  have hO := JJ r2 (bG r2) hbr (Nat.lt_of_le_of_lt (QN (s := 1099511627773) (fun c hc => by have := hbr.sz c hc; omega) hcr h) (by decide)) (by omega)
  rw [show aM (r2.map (oZ (bG r2))) = iX r2 from rfl] at hO
  generalize (bG r2 : Int) = g at *
  generalize iX r2 = pr at *
  refine W.skip ?_
  refine W.sr ?_
  simp (disch := omega) [gw]
  refine aA hC ?_
  simp (disch := omega) [gw]
  refine aA hO ?_
  simp (disch := omega) [gw]
  refine W.lx [4, 5] ?_; simp
  refine W.ret ?_
  simp [go]
end Go.Proofs.YtbbjgncblhfegaaGreat
