import Derived.Test.YtdiladmkbpnhoaaGreatLq
set_option linter.unusedSimpArgs false
set_option linter.unusedVariables false
namespace Go.Proofs.YtdiladmkbpnhoaaGreat
open Go Pm
abbrev Y (x : Int) : Prop := sz 2 x < 549755813888
theorem Y.z {x : Int} (h : Y x) : Z x := by simp only [Y, Z] at *; omega
theorem Ymono {x y : Int} (h : Y y) (hxy : x.natAbs ≤ y.natAbs) : Y x := Nat.lt_of_le_of_lt (sz_mono (by decide) hxy) h
theorem cmp3_nonpos {x y : Int} : cmp3 x y ≤ 0 ↔ x ≤ y := by simp only [cmp3]; split <;> (try split) <;> omega
@[simp] theorem cons_i64e {l : List Int} {x : Int} : [PV.int .i64 x] :: emap i64e l = emap i64e (x :: l) := by simp [emap]
@[simp] theorem persAll_i64e {l : List Int} : (∀ e ∈ emap i64e l, ∀ p ∈ e, pers1 p = true) = True := by simp [emap]
theorem V_drop_le {l : List Int} (h : Lim 10000 l) (k : Nat) (hk : k ≤ l.length) : V 10000 (l.drop k) ≤ V 10000 l := by
 rw [V_split l k hk]
 have h1 := V_nonneg (by decide) (h.take k)
 have h2 := V_nonneg (by decide) (h.drop k)
 have h3 : 1 ≤ (10000 : Int) ^ k := Int.pow_pos (by decide)
 have h4 := Int.mul_le_mul_of_nonneg_right h3 h2
 omega
theorem DivN_ret (x y : Int) (hx : 0 ≤ x) (hy : 0 < y) (zx : Y x) (zy : Y y) : Ret env.P 211 [Dn x, Dn y] (.tup [Dn (x / y), Dn (x % y)]) := by
 have hal : (dig DD x.toNat).length < 549755813888 := Nat.lt_of_le_of_lt (dd_len' hx) zx
 have la := Lim_dd x.toNat
 have hVa := V_dd hx
 refine ret_of_Wf (E := env) (fun _ => 0) [(0, Dn x), (1, Dn y)] Tryz.func211 rfl (by kernel_rfl) (by kernel_rfl) (show 2 ≤ 59 by decide) (by simp) ?_
 simp only [Dn]
 generalize ha : dig DD x.toNat = a at *
 refine W.sreg (fun K hK => ?_); simp (disch := omega) [gA, wA]; refine W.lv [0, 1] hK fun J j => ?_; clear hK K; simp; refine j _ ?_; clear j J
 refine W.sreg (fun K hK => ?_); simp (disch := omega) [gA, wA]; refine W.lv [0, 1, 6] hK fun J j => ?_; clear hK K; simp; refine j _ ?_; clear j J
 refine W.sreg (fun K hK => ?_); simp (disch := omega) [gA, wA]; refine W.lv [0, 1, 6, 7] hK fun J j => ?_; clear hK K; simp; refine j _ ?_; clear j J
 refine W.nils 7 (Dn 0) (by simp) rfl (fun K hK => ?_)
 refine W.lv [0, 1, 6, 7] hK fun J j => ?_; clear hK K; simp; refine j _ ?_; clear j J
 refine W.seq ?_
 refine W.sreg (fun K hK => ?_); simp (disch := omega) [gA, wA]; refine W.lv [0, 1, 6, 7, 8] hK fun J j => ?_; clear hK K; simp; refine j _ ?_; clear j J
 refine W.block ?_
 refine W.loopG (fun k σ => ∃ (r : Int) (z : List Int) (ver : Nat) (rows : Pm.Rows) (clk : Nat), σ = ⟨fa [(0, sls i64e a), (1, Dn y), (6, .own 14 ver 0 a.length), (7, Dn r), (8, .int .i64 ((k : Int) - 1))], rows, clk⟩ ∧
  rows 14 = some ⟨ver, 3, 1, emap i64e z⟩ ∧ k ≤ a.length ∧ z.length = a.length ∧ Lim 10000 z ∧ 0 ≤ r ∧ r < y ∧ V 10000 (a.drop k) = y * V 10000 (z.drop k) + r) a.length ?_ ?_
 ·exact ⟨_, Gh.fr [(0, sls i64e a), (1, Dn y), (6, .own 14 0 0 a.length), (7, Dn 0), (8, .int .i64 ((a.length : Int) - 1))] (by simp), 0, List.replicate a.length 0, _, _, _, rfl, by simp, by omega, by simp, Lim.rep (by decide) _, by omega, hy, by simp [V]⟩
 rintro k _ ⟨r, z, ver, rows, clk, rfl, hr, hk, hz, lz, hr0, hr1, hV⟩
 refine W.seq ?_
 refine W.sreg (fun K hK => ?_); simp (disch := omega) [gA, wA]; refine W.lv [0, 1, 6, 7, 8, 19] hK fun J j => ?_; clear hK K; simp; refine j _ ?_; clear j J
 refine W.cond ⟨_, rfl, fun h => ?_, fun h => ?_⟩
 ·simp at h
  obtain ⟨j, rfl⟩ : ∃ j, k = j + 1 := ⟨k - 1, by omega⟩
  clear h
  have hxj := la.nth (i := j) (by omega)
  have hVz := V_nonneg (by decide) (lz.drop (j + 1))
  have hyV := Int.mul_nonneg (Int.le_of_lt hy) hVz
  have hR : V 10000 (a.drop j) = y * (10000 * V 10000 (z.drop (j + 1))) + (nth a j + 10000 * r) := by
   rw [drop_nth (l := a) (i := j) (by omega)]; simp only [V]; rw [hV]; grind
  have hRx : nth a j + 10000 * r ≤ x := by
   have h1 := V_drop_le la j (by omega)
   have h2 : 0 ≤ y * (10000 * V 10000 (z.drop (j + 1))) := Int.mul_nonneg (Int.le_of_lt hy) (by omega)
   omega
  have hrl : (dig DD r.toNat).length < 549755813888 := Nat.lt_of_le_of_lt (dd_len' hr0) (Ymono zy (by omega))
  have hcut : sls i64e (cutR (nth a j :: dig DD r.toNat)) = Dn (nth a j + 10000 * r) := by
   rw [Dn_cut (Lim.cons.2 ⟨hxj, Lim_dd _⟩)]
   simp only [V, V_dd hr0]
  refine W.skip ?_
  refine W.seq ?_
  refine W.block ?_
  refine W.sreg (fun K hK => ?_)
  simp (disch := omega) [gA, wA]
  refine callR (rcut_ret (nth a j :: dig DD r.toNat) (by simp; omega)) ?_
  rw [hcut]
  have hR0 : 0 ≤ nth a j + 10000 * r := by omega
  have hR1 : nth a j + 10000 * r < y * 10000 := by omega
  have zR : Y (nth a j + 10000 * r) := Ymono zx (by omega)
  generalize nth a j + 10000 * r = R at *
  simp (disch := omega) [gA, wA]
  refine W.lv [0, 1, 6, 7, 8] hK fun J j => ?_; clear hK K; simp; refine j _ ?_; clear j J
  refine W.sreg (fun K hK => ?_); simp (disch := omega) [gA, wA]; refine W.lv [0, 1, 6, 7, 8, 9, 10] hK fun J j => ?_; clear hK K; simp; refine j _ ?_; clear j J
  refine W.seq ?_
  refine W.block ?_
  refine W.loopG (fun m σ => ∃ (lo hi : Int), σ = ⟨fa [(0, sls i64e a), (1, Dn y), (6, .own 14 ver 0 a.length), (7, Dn R), (8, .int .i64 (j : Int)), (9, .int .i64 lo), (10, .int .i64 hi)], rows, clk⟩ ∧
   m = (hi - lo).toNat ∧ 0 ≤ lo ∧ lo ≤ hi ∧ hi ≤ 9999 ∧ y * lo ≤ R ∧ R < y * (hi + 1)) 9999 ?_ ?_
  ·exact ⟨_, Gh.fr [(0, sls i64e a), (1, Dn y), (6, .own 14 ver 0 a.length), (7, Dn R), (8, .int .i64 (j : Int)), (9, .int .i64 0), (10, .int .i64 9999)] (by simp), 0, 9999, rfl, by decide, by omega, by omega, by omega, by omega, by omega⟩
  rintro m _ ⟨lo, hi, rfl, hm, hlo, hlh, hhi, h1, h2⟩
  refine W.seq ?_
  refine W.sreg (fun K hK => ?_); simp (disch := omega) [gA, wA]; refine W.lv [0, 1, 6, 7, 8, 9, 10, 32] hK fun J j => ?_; clear hK K; simp; refine j _ ?_; clear j J
  refine W.cond ⟨_, rfl, fun h => ?_, fun h => ?_⟩
  ·simp at h
   refine W.skip ?_
   refine W.block ?_
   refine W.sreg (fun K hK => ?_); simp (disch := omega) [gA, wA]; refine W.lv [0, 1, 6, 7, 8, 9, 10, 11] hK fun J j => ?_; clear hK K; simp; refine j _ ?_; clear j J
   have hm1 : lo < (lo + hi + 1) / 2 := by omega
   have hm2 : (lo + hi + 1) / 2 ≤ hi := by omega
   generalize (lo + hi + 1) / 2 = mid at *
   have hp : 0 ≤ y * mid := Int.mul_nonneg (by omega) (by omega)
   have zp : Z (y * mid) := by
    have h3 : sz 2 mid ≤ 14 := sz_le (by decide) (by simp; omega)
    have h4 := sz_mul (b := 2) (by decide) (Nat.le_refl (sz 2 y)) h3
    simp only [Z, Y] at *; omega
   have hma := mulAdd_ret' y mid 0 (by omega) zy.z (by omega) (by omega) (by decide) (by decide)
   rw [Int.add_zero] at hma
   refine W.sreg (fun K hK => ?_)
   simp (disch := omega) [gA, wA]
   refine callR hma ?_
   simp (disch := omega) [gA, wA]
   refine callR (CmpN_ret (y * mid) R hp hR0 zp zR.z) ?_
   simp (disch := omega) [gA, wA]
   refine W.lv [0, 1, 6, 7, 8, 9, 10, 11, 43] hK fun J j => ?_; clear hK K; simp; refine j _ ?_; clear j J
   refine W.cond ⟨_, rfl, fun h => ?_, fun h => ?_⟩
   ·have h := cmp3_nonpos.1 (of_decide_eq_true h)
    refine W.reg (fun K hK => ?_); simp (disch := omega) [gA, wA]
    exact hK _ ⟨(hi - mid).toNat, _, Gh_fa _ [0, 1, 6, 7, 8, 9, 10], by omega, mid, hi, rfl, rfl, by omega, by omega, by omega, h, h2⟩
   ·have h := of_decide_eq_false h
    rw [cmp3_nonpos] at h
    refine W.reg (fun K hK => ?_); simp (disch := omega) [gA, wA]
    refine hK _ ⟨(mid - 1 - lo).toNat, _, Gh_fa _ [0, 1, 6, 7, 8, 9, 10], by omega, lo, mid - 1, rfl, rfl, by omega, by omega, by omega, h1, ?_⟩
    rw [show mid - 1 + 1 = mid by omega]; omega
  ·simp at h
   have hlh2 : lo = hi := by omega
   subst hlh2
   have hp : 0 ≤ y * lo := Int.mul_nonneg (by omega) (by omega)
   have zp : Y (y * lo) := Ymono zR (by omega)
   have hma := mulAdd_ret' y lo 0 (by omega) zy.z (by omega) (by omega) (by decide) (by decide)
   rw [Int.add_zero] at hma
   refine W.exit ?_; simp only [pX, if_true, if_false, reduceIte, Nat.reduceEqDiff]
   refine W.sreg (fun K hK => ?_); simp (disch := omega) [gA, wA, hr]
   refine W.lv [0, 1, 6, 7, 8, 9] hK fun J j => ?_; clear hK K; simp; refine j _ ?_; clear j J
   refine W.reg (fun K hK => ?_)
   simp (disch := omega) [gA, wA]
   refine callR hma ?_
   simp (disch := omega) [gA, wA]
   refine callR (SubN_ret R (y * lo) hp h1 zR.z) ?_
   simp (disch := omega) [gA, wA]
   refine W.lv [0, 1, 6, 7, 8] hK fun J j => ?_; clear hK K; simp; refine j _ ?_; clear j J
   refine W.reg (fun K hK => ?_); simp (disch := omega) [gA, wA]
   refine hK _ ⟨j, _, Gh_fa _ [0, 1, 6, 7, 8], by omega, R - y * lo, z.set j lo, ver, _, _, rfl, by simp, by omega, by simpa using hz, lz.set (by omega), by omega, by rw [Int.mul_add] at h2; omega, ?_⟩
   rw [hR, drop_nth (l := z.set j lo) (i := j) (by simp; omega), nth_set_self (by omega), List.drop_set_of_lt (by omega)]
   simp only [V]
   grind
 ·simp at h
  have hk0 : k = 0 := by omega
  subst hk0
  simp only [List.drop_zero] at hV
  have ez : z.take a.length = z := take_all hz
  have hzn := V_nonneg (by decide) lz
  rw [hVa] at hV
  have e1 : x / y = V 10000 z := by
   rw [hV, Int.mul_add_ediv_left _ _ (by omega), Int.ediv_eq_zero_of_lt hr0 hr1]; simp
  have e2 : x % y = r := by
   rw [hV, Int.mul_add_emod_self_left, Int.emod_eq_of_lt hr0 hr1]
  refine W.exit ?_; simp only [pX, if_true, if_false, reduceIte, Nat.reduceEqDiff]
  refine W.sreg (fun K hK => ?_)
  simp (disch := omega) [gA, wA, hr, ez]
  refine callR (rcut_ret z (by omega)) ?_
  simp (disch := omega) [gA, wA]
  refine W.lv [4, 5] hK fun J j => ?_; clear hK K; simp; refine j _ ?_; clear j J
  refine W.ret ?_
  have h4 := Dn_cut lz
  simp only [Dn] at h4
  rw [e1, e2, ← h4]
  simp [go]
theorem rGcd_ret (a b : Int) (za : Y a) (zb : Y b) : Ret env.P 159 [RI a, RI b] (RI (Int.gcd a b)) := by
 refine ret_of_Wf (E := env) (fun _ => 0) [(0, RI a), (1, RI b)] Tryz.func159 rfl (by kernel_rfl) (by kernel_rfl) (show 2 ≤ 26 by decide) (by simp) ?_
 refine W.sreg (fun K hK => ?_); simp (disch := omega) [gA, wA]; refine W.lv [2, 3, 4] hK fun J j => ?_; clear hK K; simp; refine j _ ?_; clear j J
 refine W.sdrw (fun K hK => ?_); simp (disch := omega) [gA, wA]; refine W.lv [4, 5, 6] hK fun J j => ?_; clear hK K; simp; refine j _ ?_; clear j J
 refine W.seq ?_
 refine W.block ?_
 refine W.loopG (fun k σ => ∃ (x : Nat) (rows : Pm.Rows) (clk : Nat), σ = ⟨fa [(4, .ptr 4 2 0 0), (5, sls i64e (dig DD x)), (6, sls i64e (dig DD k))], rows, clk⟩ ∧ rows 4 = some ⟨2, 41, 2, [[.nil, .bool false]]⟩ ∧ Nat.gcd x k = Int.gcd a b ∧ Y (x : Int) ∧ Y (k : Int)) b.natAbs ?_ ?_
 ·exact ⟨_, .refl, a.natAbs, _, _, rfl, by simp, rfl, by simpa [Y, sz] using za, by simpa [Y, sz] using zb⟩
 rintro k _ ⟨x, rows, clk, rfl, hr4, hg, zx, zk⟩
 have e0 : (dig DD k).length = 0 ↔ k = 0 := by rw [List.length_eq_zero_iff, dig_eq_nil hDD]
 refine W.seq ?_
 refine W.sreg (fun K hK => ?_); simp (disch := omega) [gA, wA]; refine W.lv [4, 5, 6, 15] hK fun J j => ?_; clear hK K; simp; refine j _ ?_; clear j J
 refine W.cond ⟨_, rfl, fun h => ?_, fun h => ?_⟩
 ·have hk0 : k ≠ 0 := by intro h0; have h1 := e0.2 h0; simp at h; omega
  have hdiv := DivN_ret (x : Int) (k : Int) (by omega) (by omega) zx zk
  have em : (((x : Int) % k).toNat) = x % k := by rw [← Int.natCast_emod]; exact Int.toNat_natCast _
  have ed : (((x : Int) / k).toNat) = x / k := by rw [← Int.natCast_ediv]; exact Int.toNat_natCast _
  simp only [Dn, em, ed, Int.toNat_natCast] at hdiv
  have hlt := Nat.mod_lt x (show k > 0 by omega)
  have hg2 : Nat.gcd k (x % k) = Int.gcd a b := by rw [← hg, Nat.gcd_comm x k, Nat.gcd_rec k x, Nat.gcd_comm]
  have zm : Y ((x % k : Nat) : Int) := Ymono zk (by simp only [Int.natAbs_natCast]; omega)
  refine W.skip ?_
  refine W.block ?_
  refine W.sreg (fun K hK => ?_)
  simp (disch := omega) [gA, wA]
  refine callR hdiv ?_
  generalize x % k = y at *
  simp (disch := omega) [gA, wA]
  refine W.lv [4, 6, 8] hK fun J j => ?_; clear hK K; simp; refine j _ ?_; clear j J
  refine W.reg (fun K hK => ?_); simp (disch := omega) [gA, wA]
  exact hK _ ⟨y, _, Gh_fa _ [4, 5, 6], hlt, k, _, _, rfl, by simp [hr4], hg2, zk, zm⟩
 ·have hk0 : k = 0 := by rw [← e0]; simp at h; simp [h]
  subst hk0
  rw [Nat.gcd_zero_right] at hg
  subst hg
  refine W.exit ?_; simp only [pX, if_true, if_false, reduceIte, Nat.reduceEqDiff]
  refine W.sreg (fun K hK => ?_); simp (disch := omega) [gA, wA, hr4]
  refine W.lv [4] hK fun J j => ?_; clear hK K; simp; refine j _ ?_; clear j J
  refine W.ret ?_
  simp [go]
theorem tdiv_signs (a b : Int) : (if decide (a < 0) != decide (b < 0) then -((a.natAbs / b.natAbs : Nat) : Int) else ((a.natAbs / b.natAbs : Nat) : Int)) = a.tdiv b := by
 have h : ∀ x y : Nat, ((x / y : Nat) : Int) = (x : Int).tdiv y := fun x y => by rw [Int.natCast_ediv, Int.tdiv_eq_ediv_of_nonneg (by omega)]
 rw [h]
 by_cases h1 : a < 0 <;> by_cases h2 : b < 0
 ·simp only [h1, h2, show (a.natAbs : Int) = -a by omega, show (b.natAbs : Int) = -b by omega]; simp
 ·simp only [h1, h2, show (a.natAbs : Int) = -a by omega, show (b.natAbs : Int) = b by omega]; simp
 ·simp only [h1, h2, show (a.natAbs : Int) = a by omega, show (b.natAbs : Int) = -b by omega]; simp
 ·simp only [h1, h2, show (a.natAbs : Int) = a by omega, show (b.natAbs : Int) = b by omega]; simp
theorem rQuo_ret (a b : Int) (hb : b ≠ 0) (za : Y a) (zb : Y b) : Ret env.P 160 [RI a, RI b] (RI (a.tdiv b)) := by
 have hdiv := DivN_ret (a.natAbs : Int) (b.natAbs : Int) (by omega) (by omega) (by simpa [Y, sz] using za) (by simpa [Y, sz] using zb)
 have em : (((a.natAbs : Int) % b.natAbs).toNat) = a.natAbs % b.natAbs := by rw [← Int.natCast_emod]; exact Int.toNat_natCast _
 have ed : (((a.natAbs : Int) / b.natAbs).toNat) = a.natAbs / b.natAbs := by rw [← Int.natCast_ediv]; exact Int.toNat_natCast _
 have hs := tdiv_signs a b
 refine ret_of_Wf (E := env) (fun _ => 0) [(0, RI a), (1, RI b)] Tryz.func160 rfl (by kernel_rfl) (by kernel_rfl) (show 2 ≤ 22 by decide) (by simp) ?_
 refine W.sreg (fun K hK => ?_); simp (disch := omega) [gA, wA]; refine W.lv [2, 3, 4] hK fun J j => ?_; clear hK K; simp; refine j _ ?_; clear j J
 simp only [Dn, em, ed, Int.toNat_natCast] at hdiv
 generalize a.natAbs / b.natAbs = q at *
 generalize a.natAbs % b.natAbs = r at *
 refine W.sreg (fun K hK => ?_)
 simp (disch := omega) [gA, wA]
 refine callR hdiv ?_
 simp (disch := omega) [gA, wA]
 refine W.lv [2, 3, 4, 5] hK fun J j => ?_; clear hK K; simp; refine j _ ?_; clear j J
 refine W.sreg (fun K hK => ?_)
 simp (disch := omega) [gA, wA]
 refine callR (rmade_retN q (decide (a < 0) != decide (b < 0))) ?_
 rw [hs]
 simp (disch := omega) [gA, wA]
 refine W.lv [4] hK fun J j => ?_; clear hK K; simp; refine j _ ?_; clear j J
 refine W.ret ?_
 simp [go]
end Go.Proofs.YtdiladmkbpnhoaaGreat
namespace Go.Proofs.YtdiladmkbpnhoaaGreat
open Go Pm
def re (q : Rat) : List PV := [sls i64e (dig DD q.num.natAbs), .bool (decide (q.num < 0)), sls i64e (dig DD q.den), .bool false]
@[simp] theorem re_def {q : Rat} : re q = [sls i64e (dig DD q.num.natAbs), .bool (decide (q.num < 0)), sls i64e (dig DD q.den), .bool false] := rfl
abbrev RR (q : Rat) : PV := .ag (re q)
def qmk (n d : Int) : Rat := if d = 0 then n else Rat.divInt n d
theorem qmk_one (n : Int) : qmk n 1 = n := by
 rw [qmk, if_neg (by decide), Rat.divInt_eq_div]
 grind
structure ZR (k : Nat) (q : Rat) : Prop where
 n : sz 2 q.num ≤ k
 d : sz 2 (q.den : Int) ≤ k
abbrev YY : Nat := 137438953472
theorem qmk_num (n d : Int) (hd : d ≠ 0) : (qmk n d).num = (if d < 0 then -n else n) / (Int.gcd (if d < 0 then -n else n) (if d < 0 then -d else d)) := by
 rw [qmk, if_neg hd, Rat.num_divInt]
 by_cases h : d < 0
 ·simp only [h, if_true]
  rw [Int.sign_eq_neg_one_of_neg h, Int.gcd_comm d n, Int.neg_gcd, Int.gcd_neg]; simp
 ·simp only [h, if_false]
  rw [Int.sign_eq_one_of_pos (by omega), Int.gcd_comm d n]; simp
theorem qmk_den (n d : Int) (hd : d ≠ 0) : ((qmk n d).den : Int) = (if d < 0 then -d else d) / (Int.gcd (if d < 0 then -n else n) (if d < 0 then -d else d)) := by
 rw [qmk, if_neg hd, Rat.den_divInt, if_neg hd]
 by_cases h : d < 0
 ·simp only [h, if_true]
  rw [Int.gcd_comm d n, Int.neg_gcd, Int.gcd_neg]
  rw [Int.natCast_ediv]; congr 1; omega
 ·simp only [h, if_false]
  rw [Int.gcd_comm d n, Int.natCast_ediv]; congr 1; omega
theorem RR_of {q : Rat} {n d : Int} (h1 : q.num = n) (h2 : (q.den : Int) = d) : RR q = .ag [sls i64e (dig DD n.natAbs), .bool (decide (n < 0)), sls i64e (dig DD d.natAbs), .bool (decide (d < 0))] := by
 subst h1; subst h2
 have : ¬ ((q.den : Int) < 0) := by omega
 simp [this]
theorem Make_ret (n d : Int) (zn : Y n) (zd : Y d) : Ret env.P 88 [RI n, RI d] (RR (qmk n d)) := by
 refine ret_of_Wf (E := env) (fun id => if id = 4 then 2 else 0) [(0, RI n), (1, RI d)] Tryz.func88 rfl (by kernel_rfl) (by kernel_rfl) (show 2 ≤ 39 by decide) (by simp) ?_
 refine W.sreg (fun K hK => ?_); simp (disch := omega) [gA, wA]; refine W.lv [2, 3, 4] hK fun J j => ?_; clear hK K; simp; refine j _ ?_; clear j J
 refine W.seqJ (fun σ => ∃ (d1 : Int) (rows : Pm.Rows) (clk : Nat), σ = ⟨fa [(2, .ptr 2 0 0 0), (3, .ptr 3 1 0 0), (4, .ptr 4 2 0 0)], rows, clk⟩ ∧ rows 2 = some ⟨0, 41, 2, [[sls i64e (dig DD n.natAbs), .bool (decide (n < 0))]]⟩ ∧
  rows 3 = some ⟨1, 41, 2, [[sls i64e (dig DD d1.natAbs), .bool (decide (d1 < 0))]]⟩ ∧ rows 4 = some ⟨2, 43, 4, [[.nil, .bool false, .nil, .bool false]]⟩ ∧ d1 ≠ 0 ∧ qmk n d = qmk n d1 ∧ Y d1) ?_ ?_
 ·
  refine W.sreg (fun K hK => ?_)
  simp (disch := omega) [gA, wA]
  refine callR (rZero_ret d) ?_
  simp (disch := omega) [gA, wA]
  refine W.lv [2, 3, 4, 7] hK fun J j => ?_; clear hK K; simp; refine j _ ?_; clear j J
  refine W.cond ⟨_, rfl, fun h => ?_, fun h => ?_⟩
  ·have h := of_decide_eq_true h
   subst h
   refine W.reg (fun K hK => ?_)
   simp (disch := omega) [gA, wA]
   refine callR (rOf_ret 1 (by decide) (by decide)) ?_
   simp (disch := omega) [gA, wA]
   refine hK _ ⟨_, Gh_fa _ [2, 3, 4], 1, _, _, rfl, by simp, by simp, by simp, by decide, by rw [qmk_one]; simp [qmk], ?_⟩
   have : sz 2 1 ≤ 1 := sz_le (by decide) (by decide)
   simp only [Y]; omega
  ·have h := of_decide_eq_false h
   refine W.skip ?_
   exact ⟨_, Gh_fa _ [2, 3, 4], d, _, _, rfl, by simp, by simp, by simp, h, rfl, zd⟩
 rintro _ ⟨d1, rows, clk, rfl, hr2, hr3, hr4, hd1, hq, zd1⟩
 rw [hq]
 have q1 := qmk_num n d1 hd1
 have q2 := qmk_den n d1 hd1
 generalize qmk n d1 = q at *
 clear hq zd d
 refine W.seqJ (fun σ => ∃ (n2 d2 : Int) (rows : Pm.Rows) (clk : Nat), σ = ⟨fa [(2, .ptr 2 0 0 0), (3, .ptr 3 1 0 0), (4, .ptr 4 2 0 0)], rows, clk⟩ ∧ rows 2 = some ⟨0, 41, 2, [[sls i64e (dig DD n2.natAbs), .bool (decide (n2 < 0))]]⟩ ∧
  rows 3 = some ⟨1, 41, 2, [[sls i64e (dig DD d2.natAbs), .bool (decide (d2 < 0))]]⟩ ∧ rows 4 = some ⟨2, 43, 4, [[.nil, .bool false, .nil, .bool false]]⟩ ∧ 0 < d2 ∧ q.num = n2 / Int.gcd n2 d2 ∧ (q.den : Int) = d2 / Int.gcd n2 d2 ∧ Y n2 ∧ Y d2) ?_ ?_
 ·
  refine W.sreg (fun K hK => ?_); simp (disch := omega) [gA, wA, hr3]
  refine W.lv [2, 3, 4, 10] hK fun J j => ?_; clear hK K; simp; refine j _ ?_; clear j J
  refine W.cond ⟨_, rfl, fun h => ?_, fun h => ?_⟩
  ·have h := of_decide_eq_true h
   simp only [h, if_true] at q1 q2
   have hn := rNeg_ret n
   have hd := rNeg_ret d1
   have zn2 : Y (-n) := by simpa [Y, sz_neg] using zn
   have zd2 : Y (-d1) := by simpa [Y, sz_neg] using zd1
   obtain ⟨n2, hn2⟩ : ∃ m, m = -n := ⟨_, rfl⟩
   obtain ⟨d2, hd2⟩ : ∃ m, m = -d1 := ⟨_, rfl⟩
   rw [← hn2] at hn zn2 q1 q2
   rw [← hd2] at hd zd2 q1 q2
   refine W.drw (fun K hK => ?_)
   rw [if_pos rfl, pregion_tail]
   simp (disch := omega) [gA, wA, hr2]
   refine callR hn ?_
   simp (disch := omega) [gA, wA, hr2, hr3]
   refine callR hd ?_
   simp (disch := omega) [gA, wA, hr2, hr3]
   exact hK _ ⟨_, Gh_fa _ [2, 3, 4], n2, d2, _, _, rfl, by simp, by simp, by simp [hr4], by omega, q1, q2, zn2, zd2⟩
  ·have h := of_decide_eq_false h
   simp only [h, if_false] at q1 q2
   refine W.skip ?_
   exact ⟨_, Gh_fa _ [2, 3, 4], n, d1, _, _, rfl, hr2, hr3, hr4, by omega, q1, q2, zn, zd1⟩
 clear hr2 hr3 hr4 q1 q2
 rintro _ ⟨n2, d2, rows, clk, rfl, hr2, hr3, hr4, h0, q1, q2, zn2, zd2⟩
 refine W.seq ?_
 refine W.sregJ (fun σ => ∃ (b : Bool), σ = ⟨fa [(2, .ptr 2 0 0 0), (3, .ptr 3 1 0 0), (4, .ptr 4 2 0 0), (25, .bool b)], rows, clk⟩ ∧ (b = true ↔ (dig DD d2.natAbs).length = 1 ∧ nth (dig DD d2.natAbs) 0 = 1)) (fun K hK => ?_) ?_
 ·by_cases h1 : (dig DD d2.natAbs).length = 1
  ·have h2 : ((dig DD d2.natAbs).length : Int) = 1 := by omega
   simp (disch := omega) [gA, wA, hr3, h1, h2]
   exact hK _ _ (Gh_fa _ [2, 3, 4, 25]) ⟨_, rfl, by simp [h1]⟩
  ·have h2 : ¬ ((dig DD d2.natAbs).length : Int) = 1 := by omega
   have h3 : (((dig DD d2.natAbs).length : Int) == 1) = false := by simpa using h2
   simp (disch := omega) [gA, wA, hr3, h3]
   exact hK _ _ (Gh_fa _ [2, 3, 4, 25]) ⟨_, rfl, by simp [h1, h2]⟩
 rintro _ ⟨b, rfl, hb⟩
 refine W.cond ⟨_, rfl, fun h => ?_, fun h => ?_⟩
 ·have hb := hb.1 h
  have hd2 : d2 = 1 := by
   have hv := V_dda d2
   obtain ⟨h1, h2⟩ := hb
   match hl : dig DD d2.natAbs, h1 with
   | [x], _ =>
    rw [hl] at h2 hv
    simp [nth, V] at h2 hv
    omega
  subst hd2
  rw [Int.gcd_one] at q1 q2
  rw [RR_of (n := n2) (d := 1) (by simpa using q1) (by simpa using q2)]
  refine W.sreg (fun K hK => ?_); simp (disch := omega) [gA, wA, hr2, hr3, hr4]
  refine W.lv [4] hK fun J j => ?_; clear hK K; simp; refine j _ ?_; clear j J
  refine W.ret ?_
  simp [go]
 ·refine W.skip ?_
  have hgp : 0 < Int.gcd n2 d2 := Int.gcd_pos_of_ne_zero_right _ (by omega)
  have e1 : n2.tdiv (Int.gcd n2 d2) = q.num := by rw [q1]; exact Int.tdiv_eq_ediv_of_dvd (Int.gcd_dvd_left ..)
  have e2 : d2.tdiv (Int.gcd n2 d2) = q.den := by rw [q2]; exact Int.tdiv_eq_ediv_of_dvd (Int.gcd_dvd_right ..)
  have zg : Y (Int.gcd n2 d2 : Int) := Ymono zd2 (by
   have := Int.le_of_dvd h0 (Int.gcd_dvd_right n2 d2); omega)
  have hq1 := rQuo_ret n2 (Int.gcd n2 d2) (by omega) zn2 zg
  have hq2 := rQuo_ret d2 (Int.gcd n2 d2) (by omega) zd2 zg
  rw [e1] at hq1
  rw [e2] at hq2
  have hg := rGcd_ret n2 d2 zn2 zd2
  obtain ⟨g, hgd⟩ : ∃ g : Int, g = Int.gcd n2 d2 := ⟨_, rfl⟩
  rw [← hgd] at hg hq1 hq2
  have hnn : ¬ ((q.den : Int) < 0) := by omega
  refine W.sreg (fun K hK => ?_)
  simp (disch := omega) [gA, wA, hr2, hr3]
  refine callR hg ?_
  simp (disch := omega) [gA, wA, hr2, hr3]
  refine W.lv [2, 3, 4, 5] hK fun J j => ?_; clear hK K; simp; refine j _ ?_; clear j J
  refine W.sdrw (fun K hK => ?_)
  simp (disch := omega) [gA, wA, hr2, hr3]
  refine callR hq1 ?_
  simp (disch := omega) [gA, wA, hr2, hr3]
  refine callR hq2 ?_
  simp (disch := omega) [gA, wA, hr2, hr3, hr4]
  refine W.lv [4] hK fun J j => ?_; clear hK K; simp; refine j _ ?_; clear j J
  refine W.ret ?_
  simp [go, hnn]
theorem OfR_ret (n d : Int) (h1 : -9223372036854775808 ≤ n ∧ n < 9223372036854775808) (h2 : -9223372036854775808 ≤ d ∧ d < 9223372036854775808) : Ret env.P 44 [.int .i64 n, .int .i64 d] (RR (qmk n d)) := by
 have z : ∀ x : Int, -9223372036854775808 ≤ x ∧ x < 9223372036854775808 → Y x := fun x hx => by
  have : sz 2 x ≤ 64 := sz_le (by decide) (by omega)
  simp only [Y]; omega
 have hm := Make_ret n d (z n h1) (z d h2)
 generalize qmk n d = q at *
 refine ret_of_Wf (E := env) (fun _ => 0) [(0, .int .i64 n), (1, .int .i64 d)] Tryz.func44 rfl (by kernel_rfl) (by kernel_rfl) (show 2 ≤ 10 by decide) (by simp) ?_
 refine W.sreg (fun K hK => ?_); simp (disch := omega) [gA, wA]; refine W.lv [0, 1, 4] hK fun J j => ?_; clear hK K; simp; refine j _ ?_; clear j J
 refine W.sreg (fun K hK => ?_)
 simp (disch := omega) [gA, wA]
 refine callR (rOf_ret n h1.1 h1.2) ?_
 simp (disch := omega) [gA, wA]
 refine callR (rOf_ret d h2.1 h2.2) ?_
 simp (disch := omega) [gA, wA]
 refine callR hm ?_
 simp (disch := omega) [gA, wA]
 refine W.lv [4] hK fun J j => ?_; clear hK K; simp; refine j _ ?_; clear j J
 refine W.ret ?_
 simp [go]
theorem NegR_ret (q : Rat) : Ret env.P 56 [RR q] (RR (-q)) := by
 have hn := rNeg_ret q.num
 have e : RR (-q) = .ag [sls i64e (dig DD (-q.num).natAbs), .bool (decide (-q.num < 0)), sls i64e (dig DD q.den), .bool false] := rfl
 rw [e]
 generalize -q.num = m at *
 refine ret_of_Wf (E := env) (fun _ => 0) [(0, RR q)] Tryz.func56 rfl (by kernel_rfl) (by kernel_rfl) (show 1 ≤ 9 by decide) (by simp) ?_
 refine W.sreg (fun K hK => ?_); simp (disch := omega) [gA, wA]; refine W.lv [1, 2] hK fun J j => ?_; clear hK K; simp; refine j _ ?_; clear j J
 refine W.sdrw (fun K hK => ?_)
 simp (disch := omega) [gA, wA]
 refine callR hn ?_
 simp (disch := omega) [gA, wA]
 refine W.lv [2] hK fun J j => ?_; clear hK K; simp; refine j _ ?_; clear j J
 refine W.ret ?_
 simp [go]
theorem add_qmk (p q : Rat) : qmk (p.num * q.den + q.num * p.den) ((p.den : Int) * q.den) = p + q := by
 have h : ((p.den : Int) * q.den) ≠ 0 := by have := p.den_nz; have := q.den_nz; simp [Int.mul_eq_zero]; omega
 rw [qmk, if_neg h, Rat.add_def', ← Int.natCast_mul, Rat.divInt_ofNat]
theorem mul_qmk (p q : Rat) : qmk (p.num * q.num) ((p.den : Int) * q.den) = p * q := by
 have h : ((p.den : Int) * q.den) ≠ 0 := by have := p.den_nz; have := q.den_nz; simp [Int.mul_eq_zero]; omega
 rw [qmk, if_neg h, Rat.mul_def', ← Int.natCast_mul, Rat.divInt_ofNat]
theorem div_qmk (p q : Rat) (hq : q ≠ 0) : qmk (p.num * q.den) ((p.den : Int) * q.num) = p / q := by
 have hn : q.num ≠ 0 := fun h => hq (Rat.num_eq_zero.1 h)
 have h : ((p.den : Int) * q.num) ≠ 0 := by have := p.den_nz; exact Int.mul_ne_zero (by omega) hn
 rw [qmk, if_neg h, Rat.div_def, Rat.inv_def, ← Rat.divInt_mul_divInt, Rat.num_divInt_den]
theorem AddR_ret (p q : Rat) (hp : ZR YY p) (hq : ZR YY q) : Ret env.P 134 [RR p, RR q] (RR (p + q)) := by
 have s1 := sz_mul (b := 2) (by decide) hp.n hq.d
 have s2 := sz_mul (b := 2) (by decide) hq.n hp.d
 have s3 := sz_mul (b := 2) (by decide) hp.d hq.d
 have s4 := sz_add (b := 2) (by decide) s1 s2
 have zz : ∀ {x : Int}, sz 2 x ≤ YY → Z x := fun h => by simp only [Z, YY] at *; omega
 have m1 := rMul_ret p.num q.den (zz hp.n) (zz hq.d)
 have m2 := rMul_ret q.num p.den (zz hq.n) (zz hp.d)
 have m3 := rMul_ret p.den q.den (zz hp.d) (zz hq.d)
 have m4 := rAdd_ret (p.num * q.den) (q.num * p.den) (by simp only [Z, YY] at *; omega) (by simp only [Z, YY] at *; omega)
 have m5 := Make_ret (p.num * q.den + q.num * p.den) ((p.den : Int) * q.den) (by simp only [Y, YY] at *; omega) (by simp only [Y, YY] at *; omega)
 rw [add_qmk] at m5
 generalize p.num * q.den + q.num * p.den = x5 at *
 generalize p.num * q.den = x1 at *
 generalize q.num * (p.den : Int) = x2 at *
 generalize (p.den : Int) * q.den = x3 at *
 generalize hr : p + q = r at *
 have d1 : RR p = .ag [sls i64e (dig DD p.num.natAbs), .bool (decide (p.num < 0)), sls i64e (dig DD (p.den : Int).natAbs), .bool (decide ((p.den : Int) < 0))] := RR_of rfl rfl
 have d2 : RR q = .ag [sls i64e (dig DD q.num.natAbs), .bool (decide (q.num < 0)), sls i64e (dig DD (q.den : Int).natAbs), .bool (decide ((q.den : Int) < 0))] := RR_of rfl rfl
 rw [d1, d2]
 generalize (p.den : Int) = pd at *
 generalize (q.den : Int) = qd at *
 generalize p.num = pn at *
 generalize q.num = qn at *
 refine ret_of_Wf (E := env) (fun _ => 0) [(0, .ag [sls i64e (dig DD pn.natAbs), .bool (decide (pn < 0)), sls i64e (dig DD pd.natAbs), .bool (decide (pd < 0))]), (1, .ag [sls i64e (dig DD qn.natAbs), .bool (decide (qn < 0)), sls i64e (dig DD qd.natAbs), .bool (decide (qd < 0))])] Tryz.func134 rfl (by kernel_rfl) (by kernel_rfl) (show 2 ≤ 22 by decide) (by simp) ?_
 refine W.sreg (fun K hK => ?_); simp (disch := omega) [gA, wA]; refine W.lv [2, 3, 4] hK fun J j => ?_; clear hK K; simp; refine j _ ?_; clear j J
 refine W.sdrw (fun K hK => ?_)
 simp (disch := omega) [gA, wA]
 refine callR m1 ?_
 simp (disch := omega) [gA, wA]
 refine callR m2 ?_
 simp (disch := omega) [gA, wA]
 refine callR m4 ?_
 simp (disch := omega) [gA, wA]
 refine callR m3 ?_
 simp (disch := omega) [gA, wA]
 refine callR m5 ?_
 simp (disch := omega) [gA, wA]
 refine W.lv [4] hK fun J j => ?_; clear hK K; simp; refine j _ ?_; clear j J
 refine W.ret ?_
 simp [go]
end Go.Proofs.YtdiladmkbpnhoaaGreat
namespace Go.Proofs.YtdiladmkbpnhoaaGreat
open Go Pm
theorem MulR_ret (p q : Rat) (hp : ZR YY p) (hq : ZR YY q) : Ret env.P 164 [RR p, RR q] (RR (p * q)) := by
 have s1 := sz_mul (b := 2) (by decide) hp.n hq.n
 have s2 := sz_mul (b := 2) (by decide) hp.d hq.d
 have zz : ∀ {x : Int}, sz 2 x ≤ YY → Z x := fun h => by simp only [Z, YY] at *; omega
 have m1 := rMul_ret p.num q.num (zz hp.n) (zz hq.n)
 have m2 := rMul_ret p.den q.den (zz hp.d) (zz hq.d)
 have m5 := Make_ret (p.num * q.num) ((p.den : Int) * q.den) (by simp only [Y, YY] at *; omega) (by simp only [Y, YY] at *; omega)
 rw [mul_qmk] at m5
 generalize p.num * (q.num : Int) = x1 at *
 generalize (p.den : Int) * q.den = x2 at *
 generalize hr : p * q = r at *
 have d1 : RR p = .ag [sls i64e (dig DD p.num.natAbs), .bool (decide (p.num < 0)), sls i64e (dig DD (p.den : Int).natAbs), .bool (decide ((p.den : Int) < 0))] := RR_of rfl rfl
 have d2 : RR q = .ag [sls i64e (dig DD q.num.natAbs), .bool (decide (q.num < 0)), sls i64e (dig DD (q.den : Int).natAbs), .bool (decide ((q.den : Int) < 0))] := RR_of rfl rfl
 rw [d1, d2]
 generalize (p.den : Int) = pd at *
 generalize (q.den : Int) = qd at *
 generalize p.num = pn at *
 generalize q.num = qn at *
 refine ret_of_Wf (E := env) (fun _ => 0) [(0, .ag [sls i64e (dig DD pn.natAbs), .bool (decide (pn < 0)), sls i64e (dig DD pd.natAbs), .bool (decide (pd < 0))]), (1, .ag [sls i64e (dig DD qn.natAbs), .bool (decide (qn < 0)), sls i64e (dig DD qd.natAbs), .bool (decide (qd < 0))])] Tryz.func164 rfl (by kernel_rfl) (by kernel_rfl) (show 2 ≤ 16 by decide) (by simp) ?_
 refine W.sreg (fun K hK => ?_); simp (disch := omega) [gA, wA]; refine W.lv [2, 3, 4] hK fun J j => ?_; clear hK K; simp; refine j _ ?_; clear j J
 refine W.sdrw (fun K hK => ?_)
 simp (disch := omega) [gA, wA]
 refine callR m1 ?_
 simp (disch := omega) [gA, wA]
 refine callR m2 ?_
 simp (disch := omega) [gA, wA]
 refine callR m5 ?_
 simp (disch := omega) [gA, wA]
 refine W.lv [4] hK fun J j => ?_; clear hK K; simp; refine j _ ?_; clear j J
 refine W.ret ?_
 simp [go]
theorem QuoR_ret (p q : Rat) (hp : ZR YY p) (hq : ZR YY q) (h0 : q ≠ 0) : Ret env.P 135 [RR p, RR q] (RR (p / q)) := by
 have s1 := sz_mul (b := 2) (by decide) hp.n hq.d
 have s2 := sz_mul (b := 2) (by decide) hp.d hq.n
 have zz : ∀ {x : Int}, sz 2 x ≤ YY → Z x := fun h => by simp only [Z, YY] at *; omega
 have m1 := rMul_ret p.num q.den (zz hp.n) (zz hq.d)
 have m2 := rMul_ret p.den q.num (zz hp.d) (zz hq.n)
 have m5 := Make_ret (p.num * q.den) ((p.den : Int) * q.num) (by simp only [Y, YY] at *; omega) (by simp only [Y, YY] at *; omega)
 rw [div_qmk p q h0] at m5
 generalize p.num * (q.den : Int) = x1 at *
 generalize (p.den : Int) * q.num = x2 at *
 generalize hr : p / q = r at *
 have d1 : RR p = .ag [sls i64e (dig DD p.num.natAbs), .bool (decide (p.num < 0)), sls i64e (dig DD (p.den : Int).natAbs), .bool (decide ((p.den : Int) < 0))] := RR_of rfl rfl
 have d2 : RR q = .ag [sls i64e (dig DD q.num.natAbs), .bool (decide (q.num < 0)), sls i64e (dig DD (q.den : Int).natAbs), .bool (decide ((q.den : Int) < 0))] := RR_of rfl rfl
 rw [d1, d2]
 generalize (p.den : Int) = pd at *
 generalize (q.den : Int) = qd at *
 generalize p.num = pn at *
 generalize q.num = qn at *
 refine ret_of_Wf (E := env) (fun _ => 0) [(0, .ag [sls i64e (dig DD pn.natAbs), .bool (decide (pn < 0)), sls i64e (dig DD pd.natAbs), .bool (decide (pd < 0))]), (1, .ag [sls i64e (dig DD qn.natAbs), .bool (decide (qn < 0)), sls i64e (dig DD qd.natAbs), .bool (decide (qd < 0))])] Tryz.func135 rfl (by kernel_rfl) (by kernel_rfl) (show 2 ≤ 16 by decide) (by simp) ?_
 refine W.sreg (fun K hK => ?_); simp (disch := omega) [gA, wA]; refine W.lv [2, 3, 4] hK fun J j => ?_; clear hK K; simp; refine j _ ?_; clear j J
 refine W.sdrw (fun K hK => ?_)
 simp (disch := omega) [gA, wA]
 refine callR m1 ?_
 simp (disch := omega) [gA, wA]
 refine callR m2 ?_
 simp (disch := omega) [gA, wA]
 refine callR m5 ?_
 simp (disch := omega) [gA, wA]
 refine W.lv [4] hK fun J j => ?_; clear hK K; simp; refine j _ ?_; clear j J
 refine W.ret ?_
 simp [go]
theorem zero_ret : Ret env.P 133 [] (RR 0) := by
 have h := OfR_ret 0 1 (by decide) (by decide)
 rw [qmk_one] at h
 refine ret_of_Wf (E := env) (fun _ => 0) [] Tryz.func133 rfl (by kernel_rfl) (by kernel_rfl) (show 0 ≤ 2 by decide) (by simp) ?_
 refine W.sreg (fun K hK => ?_); simp (disch := omega) [gA, wA]; refine W.lv [0] hK fun J j => ?_; clear hK K; simp; refine j _ ?_; clear j J
 refine W.sreg (fun K hK => ?_)
 simp (disch := omega) [gA, wA]
 refine callR h ?_
 simp (disch := omega) [gA, wA]
 refine W.lv [0] hK fun J j => ?_; clear hK K; simp; refine j _ ?_; clear j J
 refine W.ret ?_
 simp [go]
def cutQ : List Rat → List Rat
 | [] => []
 | x :: l => if cutQ l = [] ∧ x = 0 then [] else x :: cutQ l
theorem cutQ_zero : ∀ l : List Rat, cutQ (l ++ [0]) = cutQ l
 | [] => by simp [cutQ]
 | x :: l => by simp [cutQ, cutQ_zero l]
theorem cutQ_ne {x : Rat} (h : x ≠ 0) : ∀ l : List Rat, cutQ (l ++ [x]) = l ++ [x]
 | [] => by
  show cutQ [x] = [x]
  rw [cutQ, if_neg (fun hh => h hh.2)]; rfl
 | y :: l => by
  have ih := cutQ_ne h l
  have hn : ¬ (l ++ [x] = [] ∧ y = 0) := by simp
  show cutQ (y :: (l ++ [x])) = y :: (l ++ [x])
  rw [cutQ, ih, if_neg hn]
abbrev qs (x : List Int) : List Rat := x.map fun (c : Int) => (c : Rat)
theorem cutQ_qs : ∀ x : List Int, cutQ (qs x) = qs (cutR x)
 | [] => rfl
 | a :: x => by
  have ih := cutQ_qs x
  simp only [qs, List.map_cons] at ih ⊢
  rw [cutQ, ih, cutR]
  by_cases h : cutR x = [] ∧ a = 0
  ·simp [h]
  ·rw [if_neg h, if_neg (by simpa using h)]; simp
@[simp] theorem lenAll_re {l : List Rat} : lenAll 4 (emap re l) = True := lenAll_emap fun _ => rfl
@[simp] theorem rowPers_re {v e n : Nat} {l : List Rat} : rowPers (some ⟨v, e, n, emap re l⟩) = True := rowPers_emap fun _ => rfl
abbrev PP (l : List Rat) : PV := sls re l
theorem qcut_ret (l : List Rat) (hl : l.length < 17592186044416) : Ret env.P 92 [PP l] (PP (cutQ l)) := by
 refine ret_of_Wf (E := env) (fun _ => 0) [(0, PP l)] Tryz.func92 rfl (by kernel_rfl) (by kernel_rfl) (show 1 ≤ 22 by decide) (by simp) ?_
 refine W.sreg (fun K hK => ?_); simp (disch := omega) [gA, wA]; refine W.lv [0] hK fun J j => ?_; clear hK K; simp; refine j _ ?_; clear j J
 refine W.sreg (fun K hK => ?_); simp (disch := omega) [gA, wA]; refine W.lv [0, 3] hK fun J j => ?_; clear hK K; simp; refine j _ ?_; clear j J
 refine W.seq (W.block ?_)
 refine W.loopG (fun k σ => ∃ (rows : Pm.Rows) (clk : Nat), σ = ⟨fa [(0, PP l), (3, .int .i64 (k : Int))], rows, clk⟩ ∧ k ≤ l.length ∧ cutQ l = cutQ (l.take k)) l.length ?_ ?_
 ·exact ⟨_, .refl, _, _, rfl, by omega, by simp⟩
 rintro k _ ⟨rows, clk, rfl, hk, hc⟩
 refine W.seq ?_
 refine W.sregJ (fun σ => ∃ (b : Bool), σ = ⟨fa [(0, PP l), (3, .int .i64 (k : Int)), (16, .bool b)], rows, clk⟩ ∧ (b = true ↔ 0 < k ∧ nth l (k - 1) = 0)) (fun K hK => ?_) ?_
 ·simp
  by_cases h0 : 0 < k
  ·simp (disch := omega) [gA, wA, h0]
   refine callR (rZero_ret (nth l (k - 1)).num) ?_
   simp (disch := omega) [gA, wA, h0]
   refine hK _ _ (Gh_fa _ [0, 3, 16]) ⟨_, rfl, ?_⟩
   simp [h0, Rat.num_eq_zero]
  ·simp (disch := omega) [gA, wA, h0]
   exact hK _ _ (Gh_fa _ [0, 3, 16]) ⟨_, rfl, by simp [h0]⟩
 rintro _ ⟨b, rfl, hb⟩
 refine W.cond ⟨_, rfl, fun h => ?_, fun h => ?_⟩
 ·obtain ⟨h0, h1⟩ := hb.1 h
  refine W.skip (W.block ?_)
  refine W.reg (fun K hK => ?_)
  simp (disch := omega) [gA, wA]
  refine hK _ ⟨k - 1, _, Gh.fr [(0, _), (3, .int .i64 ((k - 1 : Nat) : Int))] (by simp; omega), by omega, _, _, rfl, by omega, ?_⟩
  rw [hc, show k = (k - 1) + 1 by omega, take_succ_nth (by omega), h1, cutQ_zero]
  simp
 ·have h2 : cutQ l = l.take k := by
   rw [hc]
   by_cases h0 : 0 < k
   ·have h1 : nth l (k - 1) ≠ 0 := fun h1 => by simp [hb.2 ⟨h0, h1⟩] at h
    rw [show k = (k - 1) + 1 by omega, take_succ_nth (by omega)]
    exact cutQ_ne h1 _
   ·have : k = 0 := by omega
    subst this; simp [cutQ]
  refine W.exit ?_
  simp only [pX, if_true, if_false, reduceIte, Nat.reduceEqDiff]
  refine W.sreg (fun K hK => ?_); simp (disch := omega) [gA, wA]; refine W.lv [2] hK fun J j => ?_; clear hK K; simp; refine j _ ?_; clear j J
  refine W.ret ?_
  simp [h2]
end Go.Proofs.YtdiladmkbpnhoaaGreat
