import Derived.Test.YtdiladmkbpnhoaaGreatLm
set_option linter.unusedSimpArgs false
set_option linter.unusedVariables false
namespace Go.Proofs.YtdiladmkbpnhoaaGreat
open Go Pm
theorem cutR_eq_of_len : ∀ {l : List Int}, l.length ≤ (cutR l).length → cutR l = l
 | [], _ => rfl
 | x :: l, h => by
  rw [cutR] at h ⊢
  split
  ·rename_i h1
   rw [if_pos h1] at h; simp at h
  ·rename_i h1
   rw [if_neg h1] at h
   rw [cutR_eq_of_len (by simpa using h)]
theorem canon_of_ge {b : Int} (hb : 1 ≤ b) {l : List Int} (hl : Lim b l) (h : l ≠ [] → b ^ (l.length - 1) ≤ V b l) : cutR l = l := by
 apply cutR_eq_of_len
 rcases Nat.lt_or_ge (cutR l).length l.length with h1 | h1
 ·exfalso
  have h2 := h (by intro h0; subst h0; simp at h1)
  have h3 := V_lt (by omega) (Lim_cutR hl)
  rw [V_cutR] at h3
  obtain ⟨m, hm⟩ : ∃ m, l.length - 1 = (cutR l).length + m := ⟨l.length - 1 - (cutR l).length, by omega⟩
  rw [hm, Int.pow_add] at h2
  have h4 : 1 ≤ b ^ m := Int.pow_pos (by omega)
  have h5 := Int.mul_le_mul_of_nonneg_left h4 (show 0 ≤ b ^ (cutR l).length from Int.le_of_lt (Int.pow_pos (by omega)))
  omega
 ·exact h1
@[simp] theorem app_u32 {l : List Int} {x : Int} : emap u32 l ++ [[.int .u32 x]] = emap u32 (l ++ [x]) := by simp [emap]
theorem rZero_ret (x : Int) : Ret env.P 41 [RI x] (.bool (decide (x = 0))) := by
 refine ret_of_Wf (E := env) (fun _ => 0) [(0, RI x)] Tryz.func41 rfl (by kernel_rfl) (by kernel_rfl) (show 1 ≤ 7 by decide) (by simp) ?_
 refine W.sreg (fun K hK => ?_); simp (disch := omega) [gA, wA]; refine W.lv [1] hK fun J j => ?_; clear hK K; simp; refine j _ ?_; clear j J
 refine W.sreg (fun K hK => ?_); simp (disch := omega) [gA, wA]; refine W.lv [2] hK fun J j => ?_; clear hK K; simp; refine j _ ?_; clear j J
 refine W.ret ?_
 simp [go]
 have e : ((dig DD x.natAbs).length = 0) ↔ x = 0 := by rw [List.length_eq_zero_iff, dig_eq_nil hDD]; omega
 rw [Bool.eq_iff_iff, decide_eq_true_iff, beq_iff_eq, ← e]
 omega
theorem dd_zero {x : Int} : (dig DD x.natAbs).length = 0 ↔ x = 0 := by rw [List.length_eq_zero_iff, dig_eq_nil hDD]; omega
theorem rSign_ret (x : Int) : Ret env.P 126 [RI x] (.int .i64 x.sign) := by
 refine ret_of_Wf (E := env) (fun _ => 0) [(0, RI x)] Tryz.func126 rfl (by kernel_rfl) (by kernel_rfl) (show 1 ≤ 11 by decide) (by simp) ?_
 refine W.sreg (fun K hK => ?_); simp (disch := omega) [gA, wA]; refine W.lv [1] hK fun J j => ?_; clear hK K; simp; refine j _ ?_; clear j J
 refine W.seq ?_
 refine W.block ?_
 refine W.sreg (fun K hK => ?_); simp (disch := omega) [gA, wA]; refine W.lv [1, 3] hK fun J j => ?_; clear hK K; simp; refine j _ ?_; clear j J
 refine W.cond ⟨_, rfl, fun h => ?_, fun h => ?_⟩
 ·have h0 : x = 0 := by rw [← dd_zero]; simp at h; simp [h]
  subst h0
  refine W.sreg (fun K hK => ?_); simp (disch := omega) [gA, wA]; refine W.lv [2] hK fun J j => ?_; clear hK K; simp; refine j _ ?_; clear j J
  refine W.ret ?_
  simp [go]
 ·have h0 : x ≠ 0 := by rw [Ne, ← dd_zero]; simp at h; simpa using h
  refine W.sreg (fun K hK => ?_); simp (disch := omega) [gA, wA]; refine W.lv [8] hK fun J j => ?_; clear hK K; simp; refine j _ ?_; clear j J
  refine W.cond ⟨_, rfl, fun h => ?_, fun h => ?_⟩
  ·simp at h
   refine W.sreg (fun K hK => ?_); simp (disch := omega) [gA, wA]; refine W.lv [2] hK fun J j => ?_; clear hK K; simp; refine j _ ?_; clear j J
   refine W.ret ?_
   simp [go, Int.sign_eq_neg_one_of_neg h]
  ·simp at h
   refine W.skip ?_
   refine W.sreg (fun K hK => ?_); simp (disch := omega) [gA, wA]; refine W.lv [2] hK fun J j => ?_; clear hK K; simp; refine j _ ?_; clear j J
   refine W.ret ?_
   simp [go, Int.sign_eq_one_of_pos (show 0 < x by omega)]
theorem rNeg_ret (x : Int) : Ret env.P 45 [RI x] (RI (-x)) := by
 refine ret_of_Wf (E := env) (fun _ => 0) [(0, RI x)] Tryz.func45 rfl (by kernel_rfl) (by kernel_rfl) (show 1 ≤ 9 by decide) (by simp) ?_
 refine W.sreg (fun K hK => ?_); simp (disch := omega) [gA, wA]; refine W.lv [1, 2] hK fun J j => ?_; clear hK K; simp; refine j _ ?_; clear j J
 refine W.sreg (fun K hK => ?_)
 simp (disch := omega) [gA, wA]
 refine callR (rmade_ret x.natAbs (by omega) (!decide (x < 0))) ?_
 simp (disch := omega) [gA, wA]
 refine W.lv [2] hK fun J j => ?_; clear hK K; simp; refine j _ ?_; clear j J
 refine W.ret ?_
 have e : (if 0 ≤ x then -(x.natAbs : Int) else x.natAbs) = -x := by split <;> omega
 simp only [e]
 simp [go]
theorem small_ret (a : List Int) (d : Int) (ha : a.length < 1099511627776) (la : Lim 10000 a) (hd0 : 0 < d) (hd1 : d ≤ 65536) : Ret env.P 177 [sls i64e a, .int .i64 d] (.tup [Dn (V 10000 a / d), .int .i64 (V 10000 a % d)]) := by
 refine ret_of_Wf (E := env) (fun _ => 0) [(0, sls i64e a), (1, .int .i64 d)] Tryz.func177 rfl (by kernel_rfl) (by kernel_rfl) (show 2 ≤ 39 by decide) (by simp) ?_
 refine W.sreg (fun K hK => ?_); simp (disch := omega) [gA, wA]; refine W.lv [0, 1] hK fun J j => ?_; clear hK K; simp; refine j _ ?_; clear j J
 refine W.sreg (fun K hK => ?_); simp (disch := omega) [gA, wA]; refine W.lv [0, 1, 6] hK fun J j => ?_; clear hK K; simp; refine j _ ?_; clear j J
 refine W.sreg (fun K hK => ?_); simp (disch := omega) [gA, wA]; refine W.lv [0, 1, 6, 7] hK fun J j => ?_; clear hK K; simp; refine j _ ?_; clear j J
 refine W.seq ?_
 refine W.sreg (fun K hK => ?_); simp (disch := omega) [gA, wA]; refine W.lv [0, 1, 6, 7, 8] hK fun J j => ?_; clear hK K; simp; refine j _ ?_; clear j J
 refine W.block ?_
 refine W.loopG (fun k σ => ∃ (r : Int) (z : List Int) (ver : Nat) (rows : Pm.Rows) (clk : Nat), σ = ⟨fa [(0, sls i64e a), (1, .int .i64 d), (6, .own 12 ver 0 a.length), (7, .int .i64 r), (8, .int .i64 ((k : Int) - 1))], rows, clk⟩ ∧
  rows 12 = some ⟨ver, 3, 1, emap i64e z⟩ ∧ k ≤ a.length ∧ z.length = a.length ∧ Lim 10000 z ∧ 0 ≤ r ∧ r < d ∧ V 10000 (a.drop k) = d * V 10000 (z.drop k) + r) a.length ?_ ?_
 ·exact ⟨_, .refl, 0, List.replicate a.length 0, _, _, _, rfl, by simp, by omega, by simp, Lim.rep (by decide) _, by omega, hd0, by simp [V]⟩
 rintro k _ ⟨r, z, ver, rows, clk, rfl, hr, hk, hz, lz, hr0, hr1, hV⟩
 refine W.seq ?_
 refine W.sreg (fun K hK => ?_); simp (disch := omega) [gA, wA]; refine W.lv [0, 1, 6, 7, 8, 17] hK fun J j => ?_; clear hK K; simp; refine j _ ?_; clear j J
 refine W.cond ⟨_, rfl, fun h => ?_, fun h => ?_⟩
 ·simp at h
  obtain ⟨j, rfl⟩ : ∃ j, k = j + 1 := ⟨k - 1, by omega⟩
  clear h
  have hx := la.nth (i := j) (by omega)
  have hs0 : 0 ≤ r * 10000 + nth a j := by omega
  have hs1 : r * 10000 + nth a j < d * 10000 := by omega
  have hq0 : 0 ≤ (r * 10000 + nth a j) / d := Int.ediv_nonneg hs0 (by omega)
  have hq1 : (r * 10000 + nth a j) / d < 10000 := Int.ediv_lt_of_lt_mul hd0 (by omega)
  have hm0 := Int.emod_nonneg (r * 10000 + nth a j) (show d ≠ 0 by omega)
  have hm1 := Int.emod_lt_of_pos (r * 10000 + nth a j) hd0
  have hdz : d ≠ 0 := by omega
  refine W.skip ?_
  refine W.seq ?_
  refine W.block ?_
  refine W.sreg (fun K hK => ?_); simp (disch := omega) [gA, wA]; refine W.lv [0, 1, 6, 8, 9] hK fun J j => ?_; clear hK K; simp; refine j _ ?_; clear j J
  refine W.sreg (fun K hK => ?_); simp (disch := omega) [gA, wA, hr, hdz]
  refine W.lv [0, 1, 6, 8, 9] hK fun J j => ?_; clear hK K; simp; refine j _ ?_; clear j J
  refine W.reg (fun K hK => ?_); simp (disch := omega) [gA, wA, hdz]
  refine W.lv [0, 1, 6, 7, 8] hK fun J j => ?_; clear hK K; simp; refine j _ ?_; clear j J
  refine W.reg (fun K hK => ?_); simp (disch := omega) [gA, wA]
  refine hK _ ⟨j, _, Gh_fa _ [0, 1, 6, 7, 8], by omega, _, z.set j ((r * 10000 + nth a j) / d), ver, _, _, rfl, by simp, by omega, by simpa using hz, lz.set ⟨hq0, hq1⟩, hm0, hm1, ?_⟩
  rw [drop_nth (l := a) (i := j) (by omega), drop_nth (l := z.set j _) (i := j) (by simp; omega), nth_set_self (by omega), List.drop_set_of_lt (by omega)]
  simp only [V]
  rw [hV]
  have := Int.emod_add_mul_ediv (r * 10000 + nth a j) d
  grind
 ·simp at h
  have hk0 : k = 0 := by omega
  subst hk0
  simp only [List.drop_zero] at hV
  have ez : z.take a.length = z := take_all hz
  have hzn := V_nonneg (by decide) lz
  have e1 : V 10000 a / d = V 10000 z := by
   rw [hV, Int.mul_add_ediv_left _ _ (by omega), Int.ediv_eq_zero_of_lt hr0 hr1]; simp
  have e2 : V 10000 a % d = r := by
   rw [hV, Int.mul_add_emod_self_left, Int.emod_eq_of_lt hr0 hr1]
  refine W.exit ?_; simp only [pX, if_true, if_false, reduceIte, Nat.reduceEqDiff]
  refine W.sreg (fun K hK => ?_)
  simp (disch := omega) [gA, wA, hr, ez]
  refine callR (rcut_ret z (by omega)) ?_
  simp (disch := omega) [gA, wA]
  refine W.lv [4, 5] hK fun J j => ?_; clear hK K; simp; refine j _ ?_; clear j J
  refine W.ret ?_
  rw [e1, e2, ← Dn_cut lz]
  simp [go]
theorem small_ret' (y d : Int) (hy : 0 ≤ y) (hz : Z y) (hd0 : 0 < d) (hd1 : d ≤ 65536) : Ret env.P 177 [Dn y, .int .i64 d] (.tup [Dn (y / d), .int .i64 (y % d)]) := by
 have := small_ret (dig DD y.toNat) d (by have := dd_len' hy; omega) (Lim_dd _) hd0 hd1
 rwa [V_dd hy] at this
theorem ToN_ret (n : Nat) (hz : Z (n : Int)) : Ret env.P 104 [sls i64e (dig DD n)] (us (dig LL n)) := by
 have hln : (dig LL n).length ≤ sz 2 (n : Int) := sz_base hLL n
 refine ret_of_Wf (E := env) (fun _ => 0) [(0, sls i64e (dig DD n))] Tryz.func104 rfl (by kernel_rfl) (by kernel_rfl) (show 1 ≤ 31 by decide) (by simp) ?_
 refine W.sreg (fun K hK => ?_); simp (disch := omega) [gA, wA]; refine W.lv [0] hK fun J j => ?_; clear hK K; simp; refine j _ ?_; clear j J
 refine W.sreg (fun K hK => ?_); simp (disch := omega) [gA, wA]; refine W.lv [0, 3] hK fun J j => ?_; clear hK K; simp; refine j _ ?_; clear j J
 refine W.nil 3 3 169 1 (by simp) (by decide) (fun K hK => ?_)
 refine W.lv [0, 3] hK fun J j => ?_; clear hK K; simp; refine j _ ?_; clear j J
 refine W.seq ?_
 refine W.block ?_
 refine W.loopG (fun k σ => ∃ (i : Nat) (z : List Int) (ver : Nat) (rows : Pm.Rows) (clk : Nat), σ = ⟨fa [(0, sls i64e (dig DD k)), (3, .own 3 ver 0 i)], rows, clk⟩ ∧ rows 3 = some ⟨ver, 169, 1, emap u32 z⟩ ∧ z.length = i ∧ k ≤ n ∧ dig LL n = z ++ dig LL k) n ?_ ?_
 ·exact ⟨_, .refl, 0, [], _, _, _, rfl, by simp [emap], rfl, by omega, by simp⟩
 rintro k _ ⟨i, z, ver, rows, clk, rfl, hr, hzl, hk, hd⟩
 have hzk : Z (k : Int) := Nat.lt_of_le_of_lt (sz_mono (by decide) (y := (n : Int)) (by omega)) hz
 have hil : i ≤ (dig LL n).length := by rw [hd]; simp [hzl]
 have e0 : (dig DD k).length = 0 ↔ k = 0 := by rw [List.length_eq_zero_iff, dig_eq_nil hDD]
 refine W.seq ?_
 refine W.sreg (fun K hK => ?_); simp (disch := omega) [gA, wA]; refine W.lv [0, 3, 9] hK fun J j => ?_; clear hK K; simp; refine j _ ?_; clear j J
 refine W.cond ⟨_, rfl, fun h => ?_, fun h => ?_⟩
 ·have hk0 : k ≠ 0 := by rw [Ne, ← e0]; simp at h; omega
  have hz2 : Z ((k : Int) / 65536) := Nat.lt_of_le_of_lt (sz_mono (by decide) (y := (k : Int)) (by omega)) hzk
  refine W.skip ?_
  refine W.block ?_
  refine W.sreg (fun K hK => ?_)
  simp (disch := omega) [gA, wA]
  refine callR (small_ret' (k : Int) 65536 (by omega) hzk (by decide) (by decide)) ?_
  simp (disch := omega) [gA, wA]
  refine W.lv [3, 4, 5] hK fun J j => ?_; clear hK K; simp; refine j _ ?_; clear j J
  refine W.sreg (fun K hK => ?_)
  simp (disch := omega) [gA, wA]
  refine callR (small_ret' ((k : Int) / 65536) 65536 (by omega) hz2 (by decide) (by decide)) ?_
  simp (disch := omega) [gA, wA]
  refine W.lv [3, 4, 5, 6] hK fun J j => ?_; clear hK K; simp; refine j _ ?_; clear j J
  refine W.sreg (fun K hK => ?_); simp (disch := omega) [gA, wA, hr, hzl, wrap_u32']
  have e1 : (k : Int) / 65536 % 65536 * 65536 + k % 65536 = ((k % LL : Nat) : Int) := by simp; omega
  have e3 : k / LL < k := Nat.div_lt_self (by omega) (by decide)
  obtain ⟨dg, e2⟩ : ∃ dg : Int, dg = ((k % LL : Nat) : Int) := ⟨_, rfl⟩
  rw [← e2] at e1
  simp only [e1, app_u32]
  refine W.lv [3, 4] hK fun J j => ?_; clear hK K; simp; refine j _ ?_; clear j J
  refine W.reg (fun K hK => ?_); simp (disch := omega) [gA, wA]
  refine hK _ ⟨k / LL, _, Gh.fr [(0, sls i64e (dig DD (k / LL))), (3, .own 3 _ 0 (i + 1))] ?_, e3, i + 1, z ++ [dg], _, _, _, rfl, by simp; rfl, by simp [hzl], by omega, ?_⟩
  ·have e2 : ((k : Int) / 65536 / 65536).toNat = k / LL := by show _ = k / 4294967296; omega
   simp only [Dn, e2]
   simp
  ·rw [hd, dig_step hLL hk0, e2]; simp
 ·have hk0 : k = 0 := by rw [← e0]; simp at h; simp [h]
  subst hk0
  refine W.exit ?_; simp only [pX, if_true, if_false, reduceIte, Nat.reduceEqDiff]
  refine W.sreg (fun K hK => ?_); simp (disch := omega) [gA, wA]; refine W.lv [2] hK fun J j => ?_; clear hK K; simp; refine j _ ?_; clear j J
  refine W.ret ?_
  simp [dig_zero] at hd
  have ez : z.take i = z := take_all hzl
  simp [go, hr, ez, hd]
theorem rTo_ret (x : Int) (hz : Z x) : Ret env.P 38 [RI x] (I x) := by
 refine ret_of_Wf (E := env) (fun _ => 0) [(0, RI x)] Tryz.func38 rfl (by kernel_rfl) (by kernel_rfl) (show 1 ≤ 9 by decide) (by simp) ?_
 refine W.sreg (fun K hK => ?_); simp (disch := omega) [gA, wA]; refine W.lv [1, 2] hK fun J j => ?_; clear hK K; simp; refine j _ ?_; clear j J
 refine W.sdrw (fun K hK => ?_)
 simp (disch := omega) [gA, wA]
 refine callR (ToN_ret x.natAbs (by simpa [Z, sz] using hz)) ?_
 simp (disch := omega) [gA, wA]
 refine W.lv [2] hK fun J j => ?_; clear hK K; simp; refine j _ ?_; clear j J
 refine W.ret ?_
 simp [go]
end Go.Proofs.YtdiladmkbpnhoaaGreat
namespace Go.Proofs.YtdiladmkbpnhoaaGreat
open Go Pm
theorem CmpNl_ret (x y : List Int) (hx : x.length < 1099511627776) (hy : y.length < 1099511627776) (lx : Lim 10000 x) (ly : Lim 10000 y) (cx : cutR x = x) (cy : cutR y = y) : Ret env.P 172 [sls i64e x, sls i64e y] (.int .i64 (cmp3 (V 10000 x) (V 10000 y))) := by
 refine ret_of_Wf (E := env) (fun _ => 0) [(0, sls i64e x), (1, sls i64e y)] Tryz.func172 rfl (by kernel_rfl) (by kernel_rfl) (show 2 ≤ 41 by decide) (by simp) ?_
 refine W.sreg (fun K hK => ?_); simp (disch := omega) [gA, wA]; refine W.lv [0, 1] hK fun J j => ?_; clear hK K; simp; refine j _ ?_; clear j J
 refine W.seq ?_
 refine W.sreg (fun K hK => ?_); simp (disch := omega) [gA, wA]; refine W.lv [0, 1, 10] hK fun J j => ?_; clear hK K; simp; refine j _ ?_; clear j J
 refine W.cond ⟨_, rfl, fun h => ?_, fun h => ?_⟩
 ·simp at h
  refine W.seq ?_
  refine W.sreg (fun K hK => ?_); simp (disch := omega) [gA, wA]; refine W.lv [15] hK fun J j => ?_; clear hK K; simp; refine j _ ?_; clear j J
  refine W.cond ⟨_, rfl, fun h => ?_, fun h => ?_⟩
  ·simp at h
   refine W.sreg (fun K hK => ?_); simp (disch := omega) [gA, wA]; refine W.lv [4] hK fun J j => ?_; clear hK K; simp; refine j _ ?_; clear j J
   refine W.ret ?_
   simp [cmp3_lt (V_lt_of_len (by decide) lx ly cy h)]
  ·simp at h
   refine W.skip ?_
   refine W.sreg (fun K hK => ?_); simp (disch := omega) [gA, wA]; refine W.lv [4] hK fun J j => ?_; clear hK K; simp; refine j _ ?_; clear j J
   refine W.ret ?_
   simp [cmp3_gt (V_lt_of_len (by decide) ly lx cx (by omega))]
 ·simp at h
  have hlen : x.length = y.length := by omega
  clear h
  refine W.skip ?_
  refine W.seq ?_
  refine W.sreg (fun K hK => ?_); simp (disch := omega) [gA, wA]; refine W.lv [0, 1, 5] hK fun J j => ?_; clear hK K; simp; refine j _ ?_; clear j J
  refine W.block ?_
  refine W.loopG (fun k σ => ∃ (rows : Pm.Rows) (clk : Nat), σ = ⟨fa [(0, sls i64e x), (1, sls i64e y), (5, .int .i64 ((k : Int) - 1))], rows, clk⟩ ∧ k ≤ x.length ∧ x.drop k = y.drop k) x.length ?_ ?_
  ·exact ⟨_, .refl, _, _, rfl, by omega, by rw [List.drop_of_length_le (by omega), List.drop_of_length_le (by omega)]⟩
  rintro k _ ⟨rows, clk, rfl, hk, hd⟩
  refine W.seq ?_
  refine W.sreg (fun K hK => ?_); simp (disch := omega) [gA, wA]; refine W.lv [0, 1, 5, 20] hK fun J j => ?_; clear hK K; simp; refine j _ ?_; clear j J
  refine W.cond ⟨_, rfl, fun h => ?_, fun h => ?_⟩
  ·have h0 : 0 < k := by simp at h; omega
   obtain ⟨j, rfl⟩ : ∃ j, k = j + 1 := ⟨k - 1, by omega⟩
   clear h
   refine W.skip ?_
   refine W.seq ?_
   refine W.block ?_
   refine W.sdrw (fun K hK => ?_); simp (disch := omega) [gA, wA]; refine W.lv [0, 1, 5, 31] hK fun J j => ?_; clear hK K; simp; refine j _ ?_; clear j J
   refine W.cond ⟨_, rfl, fun h => ?_, fun h => ?_⟩
   ·simp at h
    refine W.seq ?_
    refine W.sdrw (fun K hK => ?_); simp (disch := omega) [gA, wA]; refine W.lv [40] hK fun J j => ?_; clear hK K; simp; refine j _ ?_; clear j J
    refine W.cond ⟨_, rfl, fun h2 => ?_, fun h2 => ?_⟩
    ·simp at h2
     refine W.sreg (fun K hK => ?_); simp (disch := omega) [gA, wA]; refine W.lv [4] hK fun J j => ?_; clear hK K; simp; refine j _ ?_; clear j J
     refine W.ret ?_
     simp [cmp3_lt (V_lt_of_top (by decide) lx ly hlen (by omega) hd h2)]
    ·simp at h2
     refine W.skip ?_
     refine W.sreg (fun K hK => ?_); simp (disch := omega) [gA, wA]; refine W.lv [4] hK fun J j => ?_; clear hK K; simp; refine j _ ?_; clear j J
     refine W.ret ?_
     simp [cmp3_gt (V_lt_of_top (by decide) ly lx hlen.symm (by omega) hd.symm (by omega))]
   ·simp at h
    refine W.skip ?_
    refine W.reg (fun K hK => ?_); simp (disch := omega) [gA, wA]
    refine hK _ ⟨j, _, Gh_fa _ [0, 1, 5], by omega, _, _, rfl, by omega, ?_⟩
    rw [drop_nth (l := x) (i := j) (by omega), drop_nth (l := y) (i := j) (by omega), hd, h]
  ·have h0 : k = 0 := by simp at h; omega
   subst h0
   simp at hd
   subst hd
   refine W.exit ?_; simp only [pX, if_true, if_false, reduceIte, Nat.reduceEqDiff]
   refine W.sreg (fun K hK => ?_); simp (disch := omega) [gA, wA]; refine W.lv [4] hK fun J j => ?_; clear hK K; simp; refine j _ ?_; clear j J
   refine W.ret ?_
   simp [cmp3_eq]
theorem CmpN_ret (x y : Int) (hx : 0 ≤ x) (hy : 0 ≤ y) (zx : Z x) (zy : Z y) : Ret env.P 172 [Dn x, Dn y] (.int .i64 (cmp3 x y)) := by
 have := CmpNl_ret (dig DD x.toNat) (dig DD y.toNat) (by have := dd_len' hx; omega) (by have := dd_len' hy; omega) (Lim_dd _) (Lim_dd _) (cutR_of_dig hDD _) (cutR_of_dig hDD _)
 rwa [V_dd hx, V_dd hy] at this
theorem AddNl_ret (a b : List Int) (ha : a.length < 1099511627776) (hb : b.length < 1099511627776) (la : Lim 10000 a) (lb : Lim 10000 b) (ca : cutR a = a) (cb : cutR b = b) : Ret env.P 171 [sls i64e a, sls i64e b] (Dn (V 10000 a + V 10000 b)) := by
 refine ret_of_Wf (E := env) (fun _ => 0) [(0, sls i64e a), (1, sls i64e b)] Tryz.func171 rfl (by kernel_rfl) (by kernel_rfl) (show 2 ≤ 52 by decide) (by simp) ?_
 refine W.sreg (fun K hK => ?_); simp (disch := omega) [gA, wA]; refine W.lv [0, 1] hK fun J j => ?_; clear hK K; simp; refine j _ ?_; clear j J
 refine W.sreg (fun K hK => ?_); simp (disch := omega) [gA, wA]; refine W.lv [0, 1, 5] hK fun J j => ?_; clear hK K; simp; refine j _ ?_; clear j J
 refine W.nil 5 5 3 1 (by simp) (by decide) (fun K hK => ?_)
 refine W.lv [0, 1, 5] hK fun J j => ?_; clear hK K; simp; refine j _ ?_; clear j J
 refine W.sreg (fun K hK => ?_); simp (disch := omega) [gA, wA]; refine W.lv [0, 1, 5, 6] hK fun J j => ?_; clear hK K; simp; refine j _ ?_; clear j J
 refine W.seq ?_
 refine W.sreg (fun K hK => ?_); simp (disch := omega) [gA, wA]; refine W.lv [0, 1, 5, 6, 7] hK fun J j => ?_; clear hK K; simp; refine j _ ?_; clear j J
 refine W.block ?_
 obtain ⟨M, hM⟩ : ∃ M, M = max a.length b.length := ⟨_, rfl⟩
 refine W.loopG (fun k σ => ∃ (i : Nat) (c : Int) (z : List Int) (ver : Nat) (rows : Pm.Rows) (clk : Nat), σ = ⟨fa [(0, sls i64e a), (1, sls i64e b), (5, .own 5 ver 0 i), (6, .int .i64 c), (7, .int .i64 i)], rows, clk⟩ ∧
  rows 5 = some ⟨ver, 3, 1, emap i64e z⟩ ∧ k = 2 * (M - i) + c.toNat ∧ z.length = i ∧ (i ≤ M ∨ (i = M + 1 ∧ c = 0 ∧ 10000 ^ M ≤ V 10000 a + V 10000 b)) ∧ Lim 10000 z ∧ 0 ≤ c ∧ c ≤ 1 ∧
  V 10000 z + 10000 ^ i * c = V 10000 (a.take i) + V 10000 (b.take i)) (2 * M) ?_ ?_
 ·exact ⟨_, .refl, 0, 0, [], _, _, _, rfl, by simp [emap], by simp, rfl, by omega, Lim.nil, by omega, by omega, by simp [V]⟩
 rintro k _ ⟨i, c, z, ver, rows, clk, rfl, hr, hk, hz, hi, lz, hc0, hc1, hV⟩
 refine W.seq ?_
 refine W.sregJ (fun σ => ∃ (t : Bool), σ = ⟨fa [(0, sls i64e a), (1, sls i64e b), (5, .own 5 ver 0 i), (6, .int .i64 c), (7, .int .i64 i), (21, .bool t)], rows, clk⟩ ∧ (t = true ↔ i < M ∨ 0 < c)) (fun K hK => ?_) ?_
 ·simp
  by_cases h1 : i < a.length
  ·simp (disch := omega) [gA, wA, h1]
   exact hK _ _ (Gh_fa _ [0, 1, 5, 6, 7, 21]) ⟨_, rfl, by simp; omega⟩
  ·by_cases h2 : i < b.length
   ·simp (disch := omega) [gA, wA, h1, h2]
    exact hK _ _ (Gh_fa _ [0, 1, 5, 6, 7, 21]) ⟨_, rfl, by simp; omega⟩
   ·simp (disch := omega) [gA, wA, h1, h2]
    exact hK _ _ (Gh_fa _ [0, 1, 5, 6, 7, 21]) ⟨_, rfl, by simp; omega⟩
 rintro _ ⟨t, rfl, ht⟩
 refine W.cond ⟨_, rfl, fun h => ?_, fun h => ?_⟩
 ·have ht := ht.1 h
  refine W.skip ?_
  refine W.seq ?_
  refine W.block ?_
  refine W.seqJ (fun σ => ∃ (s : Int), σ = ⟨fa [(0, sls i64e a), (1, sls i64e b), (5, .own 5 ver 0 i), (6, .int .i64 s), (7, .int .i64 i)], rows, clk⟩ ∧ 0 ≤ s ∧ s ≤ c + 9999 ∧ (a.length ≤ i → s = c) ∧
   V 10000 z + 10000 ^ i * s = V 10000 (a.take (i + 1)) + V 10000 (b.take i)) ?_ ?_
  ·
   refine W.sreg (fun K hK => ?_); simp (disch := omega) [gA, wA]; refine W.lv [0, 1, 5, 6, 7, 27] hK fun J j => ?_; clear hK K; simp; refine j _ ?_; clear j J
   refine W.cond ⟨_, rfl, fun h => ?_, fun h => ?_⟩
   ·simp at h
    have hx := la.nth h
    refine W.reg (fun K hK => ?_); simp (disch := omega) [gA, wA]
    refine hK _ ⟨_, Gh_fa _ [0, 1, 5, 6, 7], _, rfl, by omega, by omega, by omega, ?_⟩
    rw [V_take_succ h]; grind
   ·simp at h
    refine W.skip ?_
    refine ⟨_, Gh_fa _ [0, 1, 5, 6, 7], _, rfl, by omega, by omega, fun _ => rfl, ?_⟩
    rw [V_take_all (l := a) (by omega)]
    rwa [V_take_all (l := a) (by omega)] at hV
  rintro _ ⟨s, rfl, hs0, hs1, hsc, hsV⟩
  refine W.seqJ (fun σ => ∃ (u : Int), σ = ⟨fa [(0, sls i64e a), (1, sls i64e b), (5, .own 5 ver 0 i), (6, .int .i64 u), (7, .int .i64 i)], rows, clk⟩ ∧ 0 ≤ u ∧ u ≤ s + 9999 ∧ (b.length ≤ i → u = s) ∧
   V 10000 z + 10000 ^ i * u = V 10000 (a.take (i + 1)) + V 10000 (b.take (i + 1))) ?_ ?_
  ·
   refine W.sreg (fun K hK => ?_); simp (disch := omega) [gA, wA]; refine W.lv [0, 1, 5, 6, 7, 37] hK fun J j => ?_; clear hK K; simp; refine j _ ?_; clear j J
   refine W.cond ⟨_, rfl, fun h => ?_, fun h => ?_⟩
   ·simp at h
    have hx := lb.nth h
    refine W.reg (fun K hK => ?_); simp (disch := omega) [gA, wA]
    refine hK _ ⟨_, Gh_fa _ [0, 1, 5, 6, 7], _, rfl, by omega, by omega, by omega, ?_⟩
    rw [V_take_succ h]; grind
   ·simp at h
    refine W.skip ?_
    refine ⟨_, Gh_fa _ [0, 1, 5, 6, 7], _, rfl, by omega, by omega, fun _ => rfl, ?_⟩
    rw [V_take_all (l := b) (by omega)]
    rwa [V_take_all (l := b) (by omega)] at hsV
  rintro _ ⟨u, rfl, hu0, hu1, huc, huV⟩
  refine W.sreg (fun K hK => ?_); simp (disch := omega) [gA, wA, hr, hz]
  refine W.lv [0, 1, 5, 6, 7] hK fun J j => ?_; clear hK K; simp; refine j _ ?_; clear j J
  refine W.reg (fun K hK => ?_); simp (disch := omega) [gA, wA]; refine W.lv [0, 1, 5, 6, 7] hK fun J j => ?_; clear hK K; simp; refine j _ ?_; clear j J
  refine W.reg (fun K hK => ?_); simp (disch := omega) [gA, wA]
  refine hK _ ⟨2 * (M - (i + 1)) + (u / 10000).toNat, _, Gh_fa _ [0, 1, 5, 6, 7], ?_, i + 1, u / 10000, z ++ [u % 10000], _, _, _, rfl, by simp, rfl, by simp [hz], ?_, Lim.append.2 ⟨lz, Lim.cons.2 ⟨by omega, Lim.nil⟩⟩, by omega, by omega, ?_⟩
  ·rcases Nat.lt_or_ge i M with h1 | h1
   ·omega
   ·have := hsc (by omega); have := huc (by omega); omega
  ·rcases Nat.lt_or_ge i M with h1 | h1
   ·omega
   ·right
    have hc : c = 1 := by omega
    have hzn := V_nonneg (by decide) lz
    rw [V_take_all (l := a) (by omega), V_take_all (l := b) (by omega), hc] at hV
    have hiM : i = M := by omega
    rw [← hiM]
    refine ⟨rfl, by have := hsc (by omega); have := huc (by omega); omega, ?_⟩
    rw [← hV]
    omega
  ·rw [V_append, V_one, hz, ← huV, Int.pow_succ]
   have := Int.emod_add_mul_ediv u 10000
   grind
 ·have ht : ¬ (i < M ∨ 0 < c) := fun h2 => by simp [ht.2 h2] at h
  have hc : c = 0 := by omega
  subst hc
  refine W.exit ?_; simp only [pX, if_true, if_false, reduceIte, Nat.reduceEqDiff]
  refine W.sreg (fun K hK => ?_); simp (disch := omega) [gA, wA]; refine W.lv [4] hK fun J j => ?_; clear hK K; simp; refine j _ ?_; clear j J
  refine W.ret ?_
  rw [V_take_all (l := a) (by omega), V_take_all (l := b) (by omega)] at hV
  have e : V 10000 a + V 10000 b = V 10000 z := by rw [← hV]; simp
  have cz : cutR z = z := by
   refine canon_of_ge (by decide) lz fun h0 => ?_
   rw [hz, ← e]
   rcases hi with h1 | ⟨h1, _, h2⟩
   ·have hna := V_nonneg (by decide) la
    have hnb := V_nonneg (by decide) lb
    have hil : 0 < i := by rw [← hz]; exact List.length_pos_iff.2 h0
    rcases Nat.le_total b.length a.length with h3 | h3
    ·have := V_canon_ge (b := 10000) (by decide) la ca (by intro h5; rw [h5] at h3 hM; simp at h3; simp [h3] at hM; omega)
     rw [show i - 1 = a.length - 1 by omega]; omega
    ·have := V_canon_ge (b := 10000) (by decide) lb cb (by intro h5; rw [h5] at h3 hM; simp at h3; simp [h3] at hM; omega)
     rw [show i - 1 = b.length - 1 by omega]; omega
   ·rw [h1]; exact h2
  have ez : z.take i = z := take_all hz
  rw [e, ← Dn_cut lz, cz]
  simp [go, hr, ez]
theorem AddN_ret (x y : Int) (hx : 0 ≤ x) (hy : 0 ≤ y) (zx : Z x) (zy : Z y) : Ret env.P 171 [Dn x, Dn y] (Dn (x + y)) := by
 have := AddNl_ret (dig DD x.toNat) (dig DD y.toNat) (by have := dd_len' hx; omega) (by have := dd_len' hy; omega) (Lim_dd _) (Lim_dd _) (cutR_of_dig hDD _) (cutR_of_dig hDD _)
 rwa [V_dd hx, V_dd hy] at this
theorem SubNl_ret (a b : List Int) (ha : a.length < 1099511627776) (hb : b.length ≤ a.length) (la : Lim 10000 a) (lb : Lim 10000 b) (hle : V 10000 b ≤ V 10000 a) : Ret env.P 173 [sls i64e a, sls i64e b] (Dn (V 10000 a - V 10000 b)) := by
 refine ret_of_Wf (E := env) (fun _ => 0) [(0, sls i64e a), (1, sls i64e b)] Tryz.func173 rfl (by kernel_rfl) (by kernel_rfl) (show 2 ≤ 44 by decide) (by simp) ?_
 refine W.sreg (fun K hK => ?_); simp (disch := omega) [gA, wA]; refine W.lv [0, 1] hK fun J j => ?_; clear hK K; simp; refine j _ ?_; clear j J
 refine W.sreg (fun K hK => ?_); simp (disch := omega) [gA, wA]; refine W.lv [0, 1, 5] hK fun J j => ?_; clear hK K; simp; refine j _ ?_; clear j J
 refine W.sreg (fun K hK => ?_); simp (disch := omega) [gA, wA]; refine W.lv [0, 1, 5, 6] hK fun J j => ?_; clear hK K; simp; refine j _ ?_; clear j J
 refine W.seq ?_
 refine W.sreg (fun K hK => ?_); simp (disch := omega) [gA, wA]; refine W.lv [0, 1, 5, 6, 13, 14] hK fun J j => ?_; clear hK K; simp; refine j _ ?_; clear j J
 refine W.block ?_
 refine W.loopG (fun k σ => ∃ (i : Nat) (c : Int) (z : List Int) (ver : Nat) (rows : Pm.Rows) (clk : Nat), σ = ⟨fa [(0, sls i64e a), (1, sls i64e b), (5, .own 11 ver 0 a.length), (6, .int .i64 c), (13, .int .i64 a.length), (14, .int .i64 i)], rows, clk⟩ ∧
  rows 11 = some ⟨ver, 3, 1, emap i64e z⟩ ∧ k = a.length - i ∧ i ≤ a.length ∧ z.length = a.length ∧ Lim 10000 z ∧ 0 ≤ c ∧ c ≤ 1 ∧
  V 10000 (z.take i) - 10000 ^ i * c = V 10000 (a.take i) - V 10000 (b.take i)) a.length ?_ ?_
 ·exact ⟨_, .refl, 0, 0, List.replicate a.length 0, _, _, _, rfl, by simp, by omega, by omega, by simp, Lim.rep (by decide) _, by omega, by omega, by simp [V]⟩
 rintro k _ ⟨i, c, z, ver, rows, clk, rfl, hr, hk, hi, hz, lz, hc0, hc1, hV⟩
 refine W.sreg (fun K hK => ?_); simp (disch := omega) [gA, wA]; refine W.lv [0, 1, 5, 6, 13, 14, 15] hK fun J j => ?_; clear hK K; simp; refine j _ ?_; clear j J
 refine W.seq ?_
 refine W.cond ⟨_, rfl, fun h => ?_, fun h => ?_⟩
 ·simp at h
  have hx := la.nth h
  refine W.skip ?_
  refine W.seq ?_
  refine W.block ?_
  refine W.sreg (fun K hK => ?_); simp (disch := omega) [gA, wA]; refine W.lv [0, 1, 5, 6, 7, 13, 14] hK fun J j => ?_; clear hK K; simp; refine j _ ?_; clear j J
  refine W.sreg (fun K hK => ?_); simp (disch := omega) [gA, wA]; refine W.lv [0, 1, 5, 7, 8, 13, 14] hK fun J j => ?_; clear hK K; simp; refine j _ ?_; clear j J
  refine W.seqJ (fun σ => ∃ (s : Int), σ = ⟨fa [(0, sls i64e a), (1, sls i64e b), (5, .own 11 ver 0 a.length), (7, .int .i64 i), (8, .int .i64 s), (13, .int .i64 a.length), (14, .int .i64 i)], rows, clk⟩ ∧ -10000 ≤ s ∧ s ≤ 9999 ∧
   V 10000 (z.take i) + 10000 ^ i * s = V 10000 (a.take (i + 1)) - V 10000 (b.take (i + 1))) ?_ ?_
  ·
   refine W.sreg (fun K hK => ?_); simp (disch := omega) [gA, wA]; refine W.lv [0, 1, 5, 7, 8, 13, 14, 26] hK fun J j => ?_; clear hK K; simp; refine j _ ?_; clear j J
   refine W.cond ⟨_, rfl, fun h => ?_, fun h => ?_⟩
   ·simp at h
    have hy := lb.nth h
    refine W.reg (fun K hK => ?_); simp (disch := omega) [gA, wA]
    refine hK _ ⟨_, Gh_fa _ [0, 1, 5, 7, 8, 13, 14], _, rfl, by omega, by omega, ?_⟩
    rw [V_take_succ (l := a) (by omega), V_take_succ h]; grind
   ·simp at h
    refine W.skip ?_
    refine ⟨_, Gh_fa _ [0, 1, 5, 7, 8, 13, 14], _, rfl, by omega, by omega, ?_⟩
    rw [V_take_succ (l := a) (by omega), V_take_all (l := b) (by omega)]
    rw [V_take_all (l := b) (by omega)] at hV
    grind
  rintro _ ⟨s, rfl, hs0, hs1, hsV⟩
  refine W.sreg (fun K hK => ?_); simp (disch := omega) [gA, wA]; refine W.lv [0, 1, 5, 6, 7, 8, 13, 14] hK fun J j => ?_; clear hK K; simp; refine j _ ?_; clear j J
  refine W.seqJ (fun σ => ∃ (u c : Int), σ = ⟨fa [(0, sls i64e a), (1, sls i64e b), (5, .own 11 ver 0 a.length), (6, .int .i64 c), (7, .int .i64 i), (8, .int .i64 u), (13, .int .i64 a.length), (14, .int .i64 i)], rows, clk⟩ ∧ 0 ≤ u ∧ u ≤ 9999 ∧ 0 ≤ c ∧ c ≤ 1 ∧ s = u - 10000 * c) ?_ ?_
  ·
   refine W.sreg (fun K hK => ?_); simp (disch := omega) [gA, wA]; refine W.lv [0, 1, 5, 6, 7, 8, 13, 14, 34] hK fun J j => ?_; clear hK K; simp; refine j _ ?_; clear j J
   refine W.cond ⟨_, rfl, fun h => ?_, fun h => ?_⟩
   ·simp at h
    refine W.sreg (fun K hK => ?_); simp (disch := omega) [gA, wA]; refine W.lv [0, 1, 5, 7, 8, 13, 14] hK fun J j => ?_; clear hK K; simp; refine j _ ?_; clear j J
    refine W.reg (fun K hK => ?_); simp (disch := omega) [gA, wA]
    exact hK _ ⟨_, Gh_fa _ [0, 1, 5, 6, 7, 8, 13, 14], _, 1, rfl, by omega, by omega, by omega, by omega, by omega⟩
   ·simp at h
    refine W.skip ?_
    exact ⟨_, Gh_fa _ [0, 1, 5, 6, 7, 8, 13, 14], _, 0, rfl, by omega, by omega, by omega, by omega, by omega⟩
  rintro _ ⟨u, c', rfl, hu0, hu1, hc0', hc1', hu⟩
  refine W.reg (fun K hK => ?_); simp (disch := omega) [gA, wA, hr]
  refine W.lv [0, 1, 5, 6, 13, 14] hK fun J j => ?_; clear hK K; simp; refine j _ ?_; clear j J
  refine W.reg (fun K hK => ?_); simp (disch := omega) [gA, wA]
  refine hK _ ⟨a.length - (i + 1), _, Gh_fa _ [0, 1, 5, 6, 13, 14], by omega, i + 1, c', z.set i u, ver, _, _, rfl, by simp, by omega, by omega, by simpa using hz, lz.set (by omega), hc0', hc1', ?_⟩
  rw [V_take_set (by omega), ← hsV, hu, Int.pow_succ]
  grind
 ·simp at h
  have hi' : i = a.length := by omega
  subst hi'
  have ez : z.take a.length = z := take_all hz
  refine W.exit ?_; simp only [pX, if_true, if_false, reduceIte, Nat.reduceEqDiff]
  refine W.sreg (fun K hK => ?_)
  simp (disch := omega) [gA, wA, hr, ez]
  refine callR (rcut_ret z (by omega)) ?_
  simp (disch := omega) [gA, wA]
  refine W.lv [4] hK fun J j => ?_; clear hK K; simp; refine j _ ?_; clear j J
  refine W.ret ?_
  rw [ez, V_take_all (l := a) (by omega), V_take_all (l := b) (by omega)] at hV
  have h1 := V_lt (by decide) lz
  rw [hz] at h1
  have hc : c = 0 := by
   rcases (show c = 0 ∨ c = 1 by omega) with h2 | h2
   ·exact h2
   ·subst h2; omega
  subst hc
  have e : V 10000 a - V 10000 b = V 10000 z := by rw [← hV]; simp
  rw [e, ← Dn_cut lz]
  simp [go]
theorem SubN_ret (x y : Int) (hy : 0 ≤ y) (hle : y ≤ x) (zx : Z x) : Ret env.P 173 [Dn x, Dn y] (Dn (x - y)) := by
 have hlen : (dig DD y.toNat).length ≤ (dig DD x.toNat).length := by
  have h1 := sz_mono (b := DD) hDD (x := y) (y := x) (by omega)
  simp only [sz] at h1
  rwa [show y.natAbs = y.toNat by omega, show x.natAbs = x.toNat by omega] at h1
 have := SubNl_ret (dig DD x.toNat) (dig DD y.toNat) (by have := dd_len' (show 0 ≤ x by omega); omega) hlen (Lim_dd _) (Lim_dd _) (by rw [V_dd hy, V_dd (by omega)]; exact hle)
 rwa [V_dd hy, V_dd (by omega)] at this
end Go.Proofs.YtdiladmkbpnhoaaGreat
namespace Go.Proofs.YtdiladmkbpnhoaaGreat
open Go Pm
theorem mul_dd {a b : Int} (ha : 0 ≤ a ∧ a < 10000) (hb : 0 ≤ b ∧ b < 10000) : 0 ≤ a * b ∧ a * b ≤ 99980001 := by
 refine ⟨Int.mul_nonneg ha.1 hb.1, ?_⟩
 have := Int.mul_le_mul (show a ≤ 9999 by omega) (show b ≤ 9999 by omega) hb.1 (by decide)
 simpa using this
theorem MulNl_ret (x y : List Int) (hx : x.length < 1099511627776) (hy : y.length < 1099511627776) (lx : Lim 10000 x) (ly : Lim 10000 y) : Ret env.P 105 [sls i64e x, sls i64e y] (Dn (V 10000 x * V 10000 y)) := by
 refine ret_of_Wf (E := env) (fun _ => 0) [(0, sls i64e x), (1, sls i64e y)] Tryz.func105 rfl (by kernel_rfl) (by kernel_rfl) (show 2 ≤ 66 by decide) (by simp) ?_
 refine W.sreg (fun K hK => ?_); simp (disch := omega) [gA, wA]; refine W.lv [0, 1] hK fun J j => ?_; clear hK K; simp; refine j _ ?_; clear j J
 have e : ((x.length : Int) + (y.length : Int)).toNat = x.length + y.length := by omega
 refine W.sreg (fun K hK => ?_); simp (disch := omega) [gA, wA, e]; refine W.lv [0, 1, 5] hK fun J j => ?_; clear hK K; simp; refine j _ ?_; clear j J
 refine W.seq ?_
 refine W.sreg (fun K hK => ?_); simp (disch := omega) [gA, wA]; refine W.lv [0, 1, 5, 17, 18] hK fun J j => ?_; clear hK K; simp; refine j _ ?_; clear j J
 refine W.block ?_
 refine W.loopG (fun k σ => ∃ (i : Nat) (z : List Int) (ver : Nat) (rows : Pm.Rows) (clk : Nat), σ = ⟨fa [(0, sls i64e x), (1, sls i64e y), (5, .own 15 ver 0 (x.length + y.length)), (17, .int .i64 x.length), (18, .int .i64 i)], rows, clk⟩ ∧
   rows 15 = some ⟨ver, 3, 1, emap i64e z⟩ ∧ k = x.length - i ∧ i ≤ x.length ∧ z.length = x.length + y.length ∧ Lim 10000 z ∧ (∀ j, i + y.length ≤ j → nth z j = 0) ∧
   V 10000 z = V 10000 (x.take i) * V 10000 y) x.length ?_ ?_
 ·refine ⟨_, .refl, 0, List.replicate (x.length + y.length) 0, _, _, _, rfl, by simp [e], by omega, by omega, by simp, Lim.rep (by decide) _, fun j _ => ?_, by simp [V, V_rep]⟩
  unfold nth
  cases h : (List.replicate (x.length + y.length) (0 : Int))[j]? with
  | none => rfl
  | some v => have := List.mem_of_getElem? h; simp at this; simp [this]
 rintro k _ ⟨i, z, ver, rows, clk, rfl, hr, hk, hi, hz, lz, hz0, hV⟩
 refine W.sreg (fun K hK => ?_); simp (disch := omega) [gA, wA]; refine W.lv [0, 1, 5, 17, 18, 19] hK fun J j => ?_; clear hK K; simp; refine j _ ?_; clear j J
 refine W.seq ?_
 refine W.cond ⟨_, rfl, fun h => ?_, fun h => ?_⟩
 ·simp at h
  have hxi := lx.nth h
  refine W.skip ?_
  refine W.seq ?_
  refine W.block ?_
  refine W.sreg (fun K hK => ?_); simp (disch := omega) [gA, wA]; refine W.lv [0, 1, 5, 6, 17, 18] hK fun J j => ?_; clear hK K; simp; refine j _ ?_; clear j J
  refine W.sreg (fun K hK => ?_); simp (disch := omega) [gA, wA]; refine W.lv [0, 1, 5, 6, 7, 17, 18] hK fun J j => ?_; clear hK K; simp; refine j _ ?_; clear j J
  refine W.sreg (fun K hK => ?_); simp (disch := omega) [gA, wA]; refine W.lv [0, 1, 5, 6, 7, 8, 17, 18] hK fun J j => ?_; clear hK K; simp; refine j _ ?_; clear j J
  refine W.block ?_
  refine W.loopG (fun m σ => ∃ (k : Nat) (c : Int) (z : List Int) (ver : Nat) (rows : Pm.Rows) (clk : Nat), σ = ⟨fa [(0, sls i64e x), (1, sls i64e y), (5, .own 15 ver 0 (x.length + y.length)), (6, .int .i64 i), (7, .int .i64 c), (8, .int .i64 k), (17, .int .i64 x.length), (18, .int .i64 i)], rows, clk⟩ ∧
   rows 15 = some ⟨ver, 3, 1, emap i64e z⟩ ∧ m = y.length + 1 - k ∧ (k ≤ y.length ∧ (∀ j, i + y.length ≤ j → nth z j = 0) ∨ k = y.length + 1 ∧ c = 0) ∧ z.length = x.length + y.length ∧ Lim 10000 z ∧ (∀ j, i + 1 + y.length ≤ j → nth z j = 0) ∧ 0 ≤ c ∧ c ≤ 9999 ∧
   V 10000 z + 10000 ^ (i + k) * c = V 10000 (x.take i) * V 10000 y + 10000 ^ i * nth x i * V 10000 (y.take k)) (y.length + 1) ?_ ?_
  ·exact ⟨_, .refl, 0, 0, z, ver, _, _, rfl, by simpa using hr, by omega, .inl ⟨by omega, hz0⟩, hz, lz, fun j hj => hz0 j (by omega), by omega, by omega, by simp [V, hV]⟩
  clear hV hz0 lz hz hr z ver rows clk
  rintro m _ ⟨k, c, z, ver, rows, clk, rfl, hr, hm, hky, hz, lz, hz0, hc0, hc1, hV⟩
  refine W.seq ?_
  refine W.sregJ (fun σ => ∃ (t : Bool), σ = ⟨fa [(0, sls i64e x), (1, sls i64e y), (5, .own 15 ver 0 (x.length + y.length)), (6, .int .i64 i), (7, .int .i64 c), (8, .int .i64 k), (17, .int .i64 x.length), (18, .int .i64 i), (28, .bool t)], rows, clk⟩ ∧ (t = true ↔ k < y.length ∨ 0 < c)) (fun K hK => ?_) ?_
  ·simp
   by_cases h2 : k < y.length
   ·simp (disch := omega) [gA, wA, h2]
    exact hK _ _ (Gh_fa _ [0, 1, 5, 6, 7, 8, 17, 18, 28]) ⟨_, rfl, by simp [h2]⟩
   ·simp (disch := omega) [gA, wA, h2]
    exact hK _ _ (Gh_fa _ [0, 1, 5, 6, 7, 8, 17, 18, 28]) ⟨_, rfl, by simp [h2]⟩
  rintro _ ⟨t, rfl, ht⟩
  refine W.cond ⟨_, rfl, fun h2 => ?_, fun h2 => ?_⟩
  ·have ht := ht.1 h2
   obtain ⟨hk0, hk1⟩ : k ≤ y.length ∧ (∀ j, i + y.length ≤ j → nth z j = 0) := by
    rcases hky with h3 | h3
    ·exact h3
    ·omega
   have hzk := lz.nth (i := i + k) (by omega)
   have e0 : ((i : Int) + (k : Int)).toNat = i + k := by omega
   refine W.skip ?_
   refine W.seq ?_
   refine W.block ?_
   refine W.sreg (fun K hK => ?_); simp (disch := omega) [gA, wA, hr, e0]
   refine W.lv [0, 1, 5, 6, 8, 9, 17, 18] hK fun J j => ?_; clear hK K; simp; refine j _ ?_; clear j J
   refine W.seqJ (fun σ => ∃ (s : Int), σ = ⟨fa [(0, sls i64e x), (1, sls i64e y), (5, .own 15 ver 0 (x.length + y.length)), (6, .int .i64 i), (8, .int .i64 k), (9, .int .i64 s), (17, .int .i64 x.length), (18, .int .i64 i)], rows, clk⟩ ∧ 0 ≤ s ∧ s ≤ 99999999 ∧ (k = y.length → s = c) ∧
    V 10000 z - 10000 ^ (i + k) * nth z (i + k) + 10000 ^ (i + k) * s = V 10000 (x.take i) * V 10000 y + 10000 ^ i * nth x i * V 10000 (y.take (k + 1))) ?_ ?_
   ·
    refine W.sreg (fun K hK => ?_); simp (disch := omega) [gA, wA]; refine W.lv [0, 1, 5, 6, 8, 9, 17, 18, 42] hK fun J j => ?_; clear hK K; simp; refine j _ ?_; clear j J
    refine W.cond ⟨_, rfl, fun h => ?_, fun h => ?_⟩
    ·simp at h
     have hyk := ly.nth h
     have hp := mul_dd hxi hyk
     refine W.drw (fun K hK => ?_); simp (disch := omega) [gA, wA]
     refine hK _ ⟨_, Gh_fa _ [0, 1, 5, 6, 8, 9, 17, 18], _, rfl, by omega, by omega, by omega, ?_⟩
     rw [V_take_succ h, Int.pow_add]
     rw [Int.pow_add] at hV
     grind
    ·simp at h
     have hkl : k = y.length := by omega
     have h0 := hk1 (i + k) (by omega)
     refine W.skip ?_
     refine ⟨_, Gh_fa _ [0, 1, 5, 6, 8, 9, 17, 18], _, rfl, by omega, by omega, by omega, ?_⟩
     rw [V_take_all (l := y) (by omega)]
     rw [V_take_all (l := y) (by omega)] at hV
     rw [h0]
     grind
   rintro _ ⟨s, rfl, hs0, hs1, hsc, hsV⟩
   refine W.sreg (fun K hK => ?_); simp (disch := omega) [gA, wA, hr, e0]
   refine W.lv [0, 1, 5, 6, 8, 9, 17, 18] hK fun J j => ?_; clear hK K; simp; refine j _ ?_; clear j J
   refine W.reg (fun K hK => ?_); simp (disch := omega) [gA, wA]; refine W.lv [0, 1, 5, 6, 7, 8, 17, 18] hK fun J j => ?_; clear hK K; simp; refine j _ ?_; clear j J
   refine W.reg (fun K hK => ?_); simp (disch := omega) [gA, wA]
   have hV2 := V_set (b := 10000) (l := z) (i := i + k) (x := s % 10000) (by omega)
   refine hK _ ⟨y.length + 1 - (k + 1), _, Gh_fa _ [0, 1, 5, 6, 7, 8, 17, 18], by omega, k + 1, s / 10000, z.set (i + k) (s % 10000), ver, _, _, rfl, by simp, rfl, ?_, by simpa using hz, lz.set (by omega), fun j hj => ?_, by omega, by omega, ?_⟩
   ·rcases Nat.lt_or_ge k y.length with h3 | h3
    ·left
     refine ⟨by omega, fun j hj => ?_⟩
     rw [nth_set_ne (by omega)]; exact hk1 j hj
    ·right
     have := hsc (by omega)
     exact ⟨by omega, by omega⟩
   ·rw [nth_set_ne (by omega)]; exact hz0 j hj
   ·rw [hV2, ← hsV, show i + (k + 1) = (i + k) + 1 by omega, Int.pow_succ]
    have := Int.emod_add_mul_ediv s 10000
    grind
  ·have ht : ¬ (k < y.length ∨ 0 < c) := fun h3 => by simp [ht.2 h3] at h2
   have hc : c = 0 := by omega
   subst hc
   refine W.exit ?_; simp only [pX, if_true, if_false, reduceIte, Nat.reduceEqDiff]
   refine W.reg (fun K hK => ?_); simp (disch := omega) [gA, wA]
   refine hK _ ⟨x.length - (i + 1), _, Gh_fa _ [0, 1, 5, 17, 18], by omega, i + 1, z, ver, _, _, rfl, hr, by omega, by omega, hz, lz, hz0, ?_⟩
   rw [V_take_succ h]
   rw [V_take_all (l := y) (by omega)] at hV
   grind
 ·simp at h
  have hi' : i = x.length := by omega
  subst hi'
  have hz2 : List.take (x.length + y.length) z = z := List.take_of_length_le (by omega)
  refine W.exit ?_; simp only [pX, if_true, if_false, reduceIte, Nat.reduceEqDiff]
  refine W.sreg (fun K hK => ?_)
  simp (disch := omega) [gA, wA, hr, hz2]
  refine callR (rcut_ret z (by omega)) ?_
  simp (disch := omega) [gA, wA]
  refine W.lv [4] hK fun J j => ?_; clear hK K; simp; refine j _ ?_; clear j J
  refine W.ret ?_
  rw [V_take_all (Nat.le_refl _)] at hV
  rw [← hV, ← Dn_cut lz]
  simp
theorem MulN_ret (x y : Int) (hx : 0 ≤ x) (hy : 0 ≤ y) (zx : Z x) (zy : Z y) : Ret env.P 105 [Dn x, Dn y] (Dn (x * y)) := by
 have := MulNl_ret (dig DD x.toNat) (dig DD y.toNat) (by have := dd_len' hx; omega) (by have := dd_len' hy; omega) (Lim_dd _) (Lim_dd _)
 rwa [V_dd hx, V_dd hy] at this
theorem Zabs {x : Int} (h : Z x) : Z (x.natAbs : Int) := by simpa [Z, sz] using h
theorem rmade_retN (n : Nat) (neg : Bool) : Ret env.P 102 [sls i64e (dig DD n), .bool neg] (RI (if neg = true then -(n : Int) else n)) := rmade_ret n (by omega) neg
theorem mul_signs (x y : Int) : (if decide (x < 0) != decide (y < 0) then -((x.natAbs * y.natAbs : Nat) : Int) else ((x.natAbs * y.natAbs : Nat) : Int)) = x * y := by
 rw [Int.natCast_mul]
 by_cases h1 : x < 0 <;> by_cases h2 : y < 0
 ·simp only [h1, h2, show (x.natAbs : Int) = -x by omega, show (y.natAbs : Int) = -y by omega]; simp <;> grind
 ·simp only [h1, h2, show (x.natAbs : Int) = -x by omega, show (y.natAbs : Int) = y by omega]; simp <;> grind
 ·simp only [h1, h2, show (x.natAbs : Int) = x by omega, show (y.natAbs : Int) = -y by omega]; simp <;> grind
 ·simp only [h1, h2, show (x.natAbs : Int) = x by omega, show (y.natAbs : Int) = y by omega]; simp <;> grind
theorem rMul_ret (x y : Int) (zx : Z x) (zy : Z y) : Ret env.P 39 [RI x, RI y] (RI (x * y)) := by
 refine ret_of_Wf (E := env) (fun _ => 0) [(0, RI x), (1, RI y)] Tryz.func39 rfl (by kernel_rfl) (by kernel_rfl) (show 2 ≤ 16 by decide) (by simp) ?_
 refine W.sreg (fun K hK => ?_); simp (disch := omega) [gA, wA]; refine W.lv [2, 3, 4] hK fun J j => ?_; clear hK K; simp; refine j _ ?_; clear j J
 refine W.sdrw (fun K hK => ?_)
 simp (disch := omega) [gA, wA]
 refine callR (MulN_ret x.natAbs y.natAbs (by omega) (by omega) (Zabs zx) (Zabs zy)) ?_
 have e : ((x.natAbs : Int) * y.natAbs).toNat = x.natAbs * y.natAbs := by rw [← Int.natCast_mul]; exact Int.toNat_natCast _
 simp only [Dn, e]
 obtain ⟨m, hm⟩ : ∃ m, m = x.natAbs * y.natAbs := ⟨_, rfl⟩
 rw [← hm]
 simp (disch := omega) [gA, wA]
 refine callR (rmade_retN m (decide (x < 0) != decide (y < 0))) ?_
 have e2 := mul_signs x y
 rw [← hm] at e2
 rw [e2]
 simp (disch := omega) [gA, wA]
 refine W.lv [4] hK fun J j => ?_; clear hK K; simp; refine j _ ?_; clear j J
 refine W.ret ?_
 simp [go]
theorem rAdd_ret (x y : Int) (zx : Z x) (zy : Z y) : Ret env.P 99 [RI x, RI y] (RI (x + y)) := by
 refine ret_of_Wf (E := env) (fun _ => 0) [(0, RI x), (1, RI y)] Tryz.func99 rfl (by kernel_rfl) (by kernel_rfl) (show 2 ≤ 40 by decide) (by simp) ?_
 refine W.sreg (fun K hK => ?_); simp (disch := omega) [gA, wA]; refine W.lv [2, 3, 4] hK fun J j => ?_; clear hK K; simp; refine j _ ?_; clear j J
 refine W.seq ?_
 refine W.sreg (fun K hK => ?_); simp (disch := omega) [gA, wA]; refine W.lv [2, 3, 4, 9] hK fun J j => ?_; clear hK K; simp; refine j _ ?_; clear j J
 refine W.cond ⟨_, rfl, fun h => ?_, fun h => ?_⟩
 ·simp at h
  refine W.sdrw (fun K hK => ?_)
  simp (disch := omega) [gA, wA]
  refine callR (AddN_ret x.natAbs y.natAbs (by omega) (by omega) (Zabs zx) (Zabs zy)) ?_
  have e : ((x.natAbs : Int) + y.natAbs).toNat = x.natAbs + y.natAbs := by omega
  simp only [Dn, e]
  obtain ⟨m, hm⟩ : ∃ m, m = x.natAbs + y.natAbs := ⟨_, rfl⟩
  rw [← hm]
  simp (disch := omega) [gA, wA]
  refine callR (rmade_retN m _) ?_
  have e2 : (if decide (x < 0) = true then -(m : Int) else m) = x + y := by by_cases h1 : x < 0 <;> simp [h1] <;> omega
  rw [e2]
  simp (disch := omega) [gA, wA]
  refine W.lv [4] hK fun J j => ?_; clear hK K; simp; refine j _ ?_; clear j J
  refine W.ret ?_
  simp [go]
 ·simp at h
  refine W.skip ?_
  refine W.seq ?_
  refine W.sreg (fun K hK => ?_)
  simp (disch := omega) [gA, wA]
  refine callR (CmpN_ret x.natAbs y.natAbs (by omega) (by omega) (Zabs zx) (Zabs zy)) ?_
  simp (disch := omega) [gA, wA]
  refine W.lv [2, 3, 4, 23] hK fun J j => ?_; clear hK K; simp; refine j _ ?_; clear j J
  refine W.cond ⟨_, rfl, fun h2 => ?_, fun h2 => ?_⟩
  ·have h2 : (y.natAbs : Int) ≤ x.natAbs := cmp3_nonneg.1 (of_decide_eq_true h2)
   refine W.sdrw (fun K hK => ?_)
   simp (disch := omega) [gA, wA]
   refine callR (SubN_ret x.natAbs y.natAbs (by omega) h2 (Zabs zx)) ?_
   have e : ((x.natAbs : Int) - y.natAbs).toNat = x.natAbs - y.natAbs := by omega
   simp only [Dn, e]
   obtain ⟨m, hm⟩ : ∃ m, m = x.natAbs - y.natAbs := ⟨_, rfl⟩
   rw [← hm]
   simp (disch := omega) [gA, wA]
   refine callR (rmade_retN m _) ?_
   have e2 : (if decide (x < 0) = true then -(m : Int) else m) = x + y := by by_cases h1 : x < 0 <;> simp [h1] <;> omega
   rw [e2]
   simp (disch := omega) [gA, wA]
   refine W.lv [4] hK fun J j => ?_; clear hK K; simp; refine j _ ?_; clear j J
   refine W.ret ?_
   simp [go]
  ·have h2 : (x.natAbs : Int) < y.natAbs := by
    have h3 := of_decide_eq_false h2
    rw [cmp3_nonneg] at h3; omega
   refine W.skip ?_
   refine W.sdrw (fun K hK => ?_)
   simp (disch := omega) [gA, wA]
   refine callR (SubN_ret y.natAbs x.natAbs (by omega) (by omega) (Zabs zy)) ?_
   have e : ((y.natAbs : Int) - x.natAbs).toNat = y.natAbs - x.natAbs := by omega
   simp only [Dn, e]
   obtain ⟨m, hm⟩ : ∃ m, m = y.natAbs - x.natAbs := ⟨_, rfl⟩
   rw [← hm]
   simp (disch := omega) [gA, wA]
   refine callR (rmade_retN m _) ?_
   have e2 : (if decide (y < 0) = true then -(m : Int) else m) = x + y := by by_cases h1 : y < 0 <;> simp [h1] <;> omega
   rw [e2]
   simp (disch := omega) [gA, wA]
   refine W.lv [4] hK fun J j => ?_; clear hK K; simp; refine j _ ?_; clear j J
   refine W.ret ?_
   simp [go]
theorem Zneg {x : Int} (h : Z x) : Z (-x) := by simpa [Z, sz_neg] using h
theorem rSub_ret (x y : Int) (zx : Z x) (zy : Z y) : Ret env.P 182 [RI x, RI y] (RI (x - y)) := by
 have hn := rNeg_ret y
 have zn := Zneg zy
 obtain ⟨m, hm⟩ : ∃ m, m = -y := ⟨_, rfl⟩
 rw [← hm] at hn zn
 have e : x - y = x + m := by omega
 rw [e]
 refine ret_of_Wf (E := env) (fun _ => 0) [(0, RI x), (1, RI y)] Tryz.func182 rfl (by kernel_rfl) (by kernel_rfl) (show 2 ≤ 9 by decide) (by simp) ?_
 refine W.sreg (fun K hK => ?_); simp (disch := omega) [gA, wA]; refine W.lv [2, 3, 4] hK fun J j => ?_; clear hK K; simp; refine j _ ?_; clear j J
 refine W.sdrw (fun K hK => ?_)
 simp (disch := omega) [gA, wA]
 refine callR hn ?_
 simp (disch := omega) [gA, wA]
 refine callR (rAdd_ret x m zx zn) ?_
 simp (disch := omega) [gA, wA]
 refine W.lv [4] hK fun J j => ?_; clear hK K; simp; refine j _ ?_; clear j J
 refine W.ret ?_
 simp [go]
theorem sign_cmp3 (x y : Int) : (x - y).sign = cmp3 x y := by
 rcases Int.lt_trichotomy x y with h | h | h
 ·rw [cmp3_lt h, Int.sign_eq_neg_one_of_neg (by omega)]
 ·subst h; simp [cmp3_eq]
 ·rw [cmp3_gt h, Int.sign_eq_one_of_pos (by omega)]
theorem rCmp_ret (x y : Int) (zx : Z x) (zy : Z y) : Ret env.P 112 [RI x, RI y] (.int .i64 (cmp3 x y)) := by
 refine ret_of_Wf (E := env) (fun _ => 0) [(0, RI x), (1, RI y)] Tryz.func112 rfl (by kernel_rfl) (by kernel_rfl) (show 2 ≤ 9 by decide) (by simp) ?_
 refine W.sreg (fun K hK => ?_); simp (disch := omega) [gA, wA]; refine W.lv [2, 3] hK fun J j => ?_; clear hK K; simp; refine j _ ?_; clear j J
 refine W.sreg (fun K hK => ?_)
 simp (disch := omega) [gA, wA]
 refine callR (rSub_ret x y zx zy) ?_
 simp (disch := omega) [gA, wA]
 refine callR (rSign_ret (x - y)) ?_
 rw [sign_cmp3]
 simp (disch := omega) [gA, wA]
 refine W.lv [4] hK fun J j => ?_; clear hK K; simp; refine j _ ?_; clear j J
 refine W.ret ?_
 simp [go]
theorem rSame_ret (x : Int) (n : Bool) (l : List Int) (zx : Z x) (hl : l.length < 1099511627776) : Ret env.P 71 [RI x, IV n l] (.bool (decide (n = decide (x < 0) ∧ l = dig LL x.natAbs))) := by
 have hln : (dig LL x.natAbs).length ≤ sz 2 x := sz_base hLL x
 refine ret_of_Wf (E := env) (fun _ => 0) [(0, RI x), (1, IV n l)] Tryz.func71 rfl (by kernel_rfl) (by kernel_rfl) (show 2 ≤ 39 by decide) (by simp) ?_
 refine W.sreg (fun K hK => ?_); simp (disch := omega) [gA, wA]; refine W.lv [2, 3] hK fun J j => ?_; clear hK K; simp; refine j _ ?_; clear j J
 refine W.sreg (fun K hK => ?_)
 simp (disch := omega) [gA, wA]
 refine callR (ToN_ret x.natAbs (Zabs zx)) ?_
 simp (disch := omega) [gA, wA]
 generalize dig LL x.natAbs = m at *
 refine W.lv [2, 3, 5] hK fun J j => ?_; clear hK K; simp; refine j _ ?_; clear j J
 refine W.seq ?_
 refine W.sregJ (fun σ => ∃ (b : Bool) (rows : Pm.Rows) (clk : Nat), σ = ⟨fa [(3, .ptr 3 1 0 0), (5, us m), (22, .bool b)], rows, clk⟩ ∧ (b = true ↔ ¬ (n = decide (x < 0) ∧ l.length = m.length)) ∧ rows 3 = some ⟨1, 27, 2, [[.bool n, us l]]⟩) (fun K hK => ?_) ?_
 ·simp
  cases n <;> by_cases h1 : x < 0
  all_goals
   simp (disch := omega) [gA, wA, h1]
   refine hK _ _ (Gh_fa _ [3, 5, 22]) ⟨_, _, _, rfl, ?_, by simp⟩
   simp [h1]
  all_goals omega
 rintro _ ⟨b, rows, clk, rfl, hb, hr3⟩
 refine W.cond ⟨_, rfl, fun h => ?_, fun h => ?_⟩
 ·have hb := hb.1 h
  have e : ¬ (n = decide (x < 0) ∧ l = m) := fun h2 => hb ⟨h2.1, by rw [h2.2]⟩
  refine W.sreg (fun K hK => ?_); simp (disch := omega) [gA, wA]; refine W.lv [4] hK fun J j => ?_; clear hK K; simp; refine j _ ?_; clear j J
  refine W.ret ?_
  simp [go, e]
 ·have hb : n = decide (x < 0) ∧ l.length = m.length := Classical.byContradiction fun h2 => by simp [hb.2 h2] at h
  refine W.skip ?_
  refine W.seq ?_
  refine W.sreg (fun K hK => ?_); simp (disch := omega) [gA, wA]; refine W.lv [3, 5, 24, 25] hK fun J j => ?_; clear hK K; simp; refine j _ ?_; clear j J
  refine W.block ?_
  refine W.loopG (fun k σ => ∃ (i : Nat) (rows : Pm.Rows) (clk : Nat), σ = ⟨fa [(3, .ptr 3 1 0 0), (5, us m), (24, .int .i64 m.length), (25, .int .i64 i)], rows, clk⟩ ∧ rows 3 = some ⟨1, 27, 2, [[.bool n, us l]]⟩ ∧ k = m.length - i ∧ i ≤ m.length ∧ l.take i = m.take i) m.length ?_ ?_
  ·exact ⟨_, .refl, 0, _, _, rfl, by simpa using hr3, by omega, by omega, by simp⟩
  rintro k _ ⟨i, rows, clk, rfl, hr3, hk, hi, hI⟩
  refine W.sreg (fun K hK => ?_); simp (disch := omega) [gA, wA]; refine W.lv [3, 5, 24, 25, 26] hK fun J j => ?_; clear hK K; simp; refine j _ ?_; clear j J
  refine W.seq ?_
  refine W.cond ⟨_, rfl, fun h => ?_, fun h => ?_⟩
  ·simp at h
   refine W.skip ?_
   refine W.seq ?_
   refine W.block ?_
   refine W.sreg (fun K hK => ?_); simp (disch := omega) [gA, wA]; refine W.lv [3, 5, 6, 24, 25] hK fun J j => ?_; clear hK K; simp; refine j _ ?_; clear j J
   refine W.sdrw (fun K hK => ?_); simp (disch := omega) [gA, wA, hr3]
   refine W.lv [3, 5, 24, 25, 37] hK fun J j => ?_; clear hK K; simp; refine j _ ?_; clear j J
   refine W.cond ⟨_, rfl, fun h2 => ?_, fun h2 => ?_⟩
   ·have h2 : nth m i ≠ nth l i := by simpa using h2
    have e : ¬ (n = decide (x < 0) ∧ l = m) := fun h3 => h2 (by rw [h3.2])
    refine W.sreg (fun K hK => ?_); simp (disch := omega) [gA, wA]; refine W.lv [4] hK fun J j => ?_; clear hK K; simp; refine j _ ?_; clear j J
    refine W.ret ?_
    simp [go, e]
   ·have h2 : nth m i = nth l i := by simpa using h2
    refine W.skip ?_
    refine W.reg (fun K hK => ?_); simp (disch := omega) [gA, wA]
    refine hK _ ⟨m.length - (i + 1), _, Gh_fa _ [3, 5, 24, 25], by omega, i + 1, _, _, rfl, by simp [hr3], by omega, by omega, ?_⟩
    rw [take_succ_nth (by omega), take_succ_nth h, hI, h2]
  ·simp at h
   have hi' : i = m.length := by omega
   subst hi'
   rw [List.take_of_length_le (by omega), List.take_of_length_le (by omega)] at hI
   refine W.exit ?_; simp only [pX, if_true, if_false, reduceIte, Nat.reduceEqDiff]
   refine W.sreg (fun K hK => ?_); simp (disch := omega) [gA, wA]; refine W.lv [4] hK fun J j => ?_; clear hK K; simp; refine j _ ?_; clear j J
   refine W.ret ?_
   simp [go, hb, hI]
end Go.Proofs.YtdiladmkbpnhoaaGreat
