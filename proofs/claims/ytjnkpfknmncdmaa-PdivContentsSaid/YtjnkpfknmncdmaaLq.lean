import Derived.Test.YtjnkpfknmncdmaaLp
set_option linter.unusedSimpArgs false
set_option linter.unusedVariables false
namespace Go.Proofs.Ytjnkpfknmncdmaa
open Go Pm

theorem cutR_eq_of_len : ∀ {l : List Int}, l.length ≤ (cutR l).length → cutR l = l
  | [], _ => rfl
  | x :: l, h => by
    rw [cutR] at h ⊢
    split
    · rename_i h1
      rw [if_pos h1] at h; simp at h
    · rename_i h1
      rw [if_neg h1] at h
      rw [cutR_eq_of_len (by simpa using h)]
theorem canon_of_ge {b : Int} (hb : 1 ≤ b) {l : List Int} (hl : Lim b l) (h : l ≠ [] → b ^ (l.length - 1) ≤ V b l) : cutR l = l := by
  apply cutR_eq_of_len
  rcases Nat.lt_or_ge (cutR l).length l.length with h1 | h1
  · exfalso
    have h2 := h (by intro h0; subst h0; simp at h1)
    have h3 := V_lt (by omega) (Lim_cutR hl)
    rw [V_cutR] at h3
    obtain ⟨m, hm⟩ : ∃ m, l.length - 1 = (cutR l).length + m := ⟨l.length - 1 - (cutR l).length, by omega⟩
    rw [hm, Int.pow_add] at h2
    have h4 : 1 ≤ b ^ m := Int.pow_pos (by omega)
    have h5 := Int.mul_le_mul_of_nonneg_left h4 (show 0 ≤ b ^ (cutR l).length from Int.le_of_lt (Int.pow_pos (by omega)))
    omega
  · exact h1

@[simp] theorem app_u32 {l : List Int} {x : Int} : emap u32 l ++ [[.int .u32 x]] = emap u32 (l ++ [x]) := by simp [emap]
theorem rZero_ret (x : Int) : Ret env.P 84 [RI x] (.bool (decide (x = 0))) := by
  refine ret_of_Wf (E := env) (fun _ => 0) [(0, RI x)] Try.func84 rfl (by kernel_rfl) (by kernel_rfl) (show 1 ≤ 7 by decide) (by simp) ?_
  refine W.sreg (fun K hK => ?_); simp (disch := omega) [gA, wrap_i64, wrap_u64, wrap_u32, Int.tdiv_eq_ediv_of_nonneg, Int.tmod_eq_emod_of_nonneg]; refine hK _ (W.liveK [1] fun K2 hK2 => ?_); clear hK K; simp; refine hK2 _ ?_; clear hK2 K2
  refine W.sreg (fun K hK => ?_); simp (disch := omega) [gA, wrap_i64, wrap_u64, wrap_u32, Int.tdiv_eq_ediv_of_nonneg, Int.tmod_eq_emod_of_nonneg]; refine hK _ (W.liveK [2] fun K2 hK2 => ?_); clear hK K; simp; refine hK2 _ ?_; clear hK2 K2
  refine W.ret ?_
  simp [go]
  have e : ((dig DD x.natAbs).length = 0) ↔ x = 0 := by rw [List.length_eq_zero_iff, dig_eq_nil hDD]; omega
  rw [Bool.eq_iff_iff, decide_eq_true_iff, beq_iff_eq, ← e]
  omega
theorem dd_zero {x : Int} : (dig DD x.natAbs).length = 0 ↔ x = 0 := by rw [List.length_eq_zero_iff, dig_eq_nil hDD]; omega
theorem rSign_ret (x : Int) : Ret env.P 99 [RI x] (.int .i64 x.sign) := by
  refine ret_of_Wf (E := env) (fun _ => 0) [(0, RI x)] Try.func99 rfl (by kernel_rfl) (by kernel_rfl) (show 1 ≤ 11 by decide) (by simp) ?_
  refine W.sreg (fun K hK => ?_); simp (disch := omega) [gA, wrap_i64, wrap_u64, wrap_u32, Int.tdiv_eq_ediv_of_nonneg, Int.tmod_eq_emod_of_nonneg]; refine hK _ (W.liveK [1] fun K2 hK2 => ?_); clear hK K; simp; refine hK2 _ ?_; clear hK2 K2
  refine W.seq ?_
  refine W.block ?_   -- block 0
  refine W.sreg (fun K hK => ?_); simp (disch := omega) [gA, wrap_i64, wrap_u64, wrap_u32, Int.tdiv_eq_ediv_of_nonneg, Int.tmod_eq_emod_of_nonneg]; refine hK _ (W.liveK [1, 3] fun K2 hK2 => ?_); clear hK K; simp; refine hK2 _ ?_; clear hK2 K2
  refine W.cond ⟨_, rfl, fun h => ?_, fun h => ?_⟩   -- t3
  · have h0 : x = 0 := by rw [← dd_zero]; simp at h; simp [h]
    subst h0
    refine W.sreg (fun K hK => ?_); simp (disch := omega) [gA, wrap_i64, wrap_u64, wrap_u32, Int.tdiv_eq_ediv_of_nonneg, Int.tmod_eq_emod_of_nonneg]; refine hK _ (W.liveK [2] fun K2 hK2 => ?_); clear hK K; simp; refine hK2 _ ?_; clear hK2 K2
    refine W.ret ?_
    simp [go]
  · have h0 : x ≠ 0 := by rw [Ne, ← dd_zero]; simp at h; simpa using h
    refine W.sreg (fun K hK => ?_); simp (disch := omega) [gA, wrap_i64, wrap_u64, wrap_u32, Int.tdiv_eq_ediv_of_nonneg, Int.tmod_eq_emod_of_nonneg]; refine hK _ (W.liveK [8] fun K2 hK2 => ?_); clear hK K; simp; refine hK2 _ ?_; clear hK2 K2
    refine W.cond ⟨_, rfl, fun h => ?_, fun h => ?_⟩   -- t8
    · simp at h
      refine W.sreg (fun K hK => ?_); simp (disch := omega) [gA, wrap_i64, wrap_u64, wrap_u32, Int.tdiv_eq_ediv_of_nonneg, Int.tmod_eq_emod_of_nonneg]; refine hK _ (W.liveK [2] fun K2 hK2 => ?_); clear hK K; simp; refine hK2 _ ?_; clear hK2 K2
      refine W.ret ?_
      simp [go, Int.sign_eq_neg_one_of_neg h]
    · simp at h
      refine W.skip ?_
      refine W.sreg (fun K hK => ?_); simp (disch := omega) [gA, wrap_i64, wrap_u64, wrap_u32, Int.tdiv_eq_ediv_of_nonneg, Int.tmod_eq_emod_of_nonneg]; refine hK _ (W.liveK [2] fun K2 hK2 => ?_); clear hK K; simp; refine hK2 _ ?_; clear hK2 K2
      refine W.ret ?_
      simp [go, Int.sign_eq_one_of_pos (show 0 < x by omega)]
theorem rNeg_ret (x : Int) : Ret env.P 85 [RI x] (RI (-x)) := by
  refine ret_of_Wf (E := env) (fun _ => 0) [(0, RI x)] Try.func85 rfl (by kernel_rfl) (by kernel_rfl) (show 1 ≤ 9 by decide) (by simp) ?_
  refine W.sreg (fun K hK => ?_); simp (disch := omega) [gA, wrap_i64, wrap_u64, wrap_u32, Int.tdiv_eq_ediv_of_nonneg, Int.tmod_eq_emod_of_nonneg]; refine hK _ (W.liveK [1, 2] fun K2 hK2 => ?_); clear hK K; simp; refine hK2 _ ?_; clear hK2 K2
  refine W.sreg (fun K hK => ?_)
  simp (disch := omega) [gA, wrap_i64, wrap_u64, wrap_u32, Int.tdiv_eq_ediv_of_nonneg, Int.tmod_eq_emod_of_nonneg]
  refine callR (rmade_ret x.natAbs (by omega) (!decide (x < 0))) ?_
  simp (disch := omega) [gA, wrap_i64, wrap_u64, wrap_u32, Int.tdiv_eq_ediv_of_nonneg, Int.tmod_eq_emod_of_nonneg]
  refine hK _ (W.liveK [2] fun K2 hK2 => ?_); clear hK K; simp; refine hK2 _ ?_; clear hK2 K2
  refine W.ret ?_
  have e : (if 0 ≤ x then -(x.natAbs : Int) else x.natAbs) = -x := by split <;> omega
  simp only [e]
  simp [go]

theorem small_ret (a : List Int) (d : Int) (ha : a.length < 1099511627776) (la : Lim 10000 a) (hd0 : 0 < d) (hd1 : d ≤ 65536) : Ret env.P 118 [sls i64e a, .int .i64 d] (.tup [Dn (V 10000 a / d), .int .i64 (V 10000 a % d)]) := by
  refine ret_of_Wf (E := env) (fun _ => 0) [(0, sls i64e a), (1, .int .i64 d)] Try.func118 rfl (by kernel_rfl) (by kernel_rfl) (show 2 ≤ 39 by decide) (by simp) ?_
  refine W.sreg (fun K hK => ?_); simp (disch := omega) [gA, wrap_i64, wrap_u64, wrap_u32, Int.tdiv_eq_ediv_of_nonneg, Int.tmod_eq_emod_of_nonneg]; refine hK _ (W.liveK [0, 1] fun K2 hK2 => ?_); clear hK K; simp; refine hK2 _ ?_; clear hK2 K2
  refine W.sreg (fun K hK => ?_); simp (disch := omega) [gA, wrap_i64, wrap_u64, wrap_u32, Int.tdiv_eq_ediv_of_nonneg, Int.tmod_eq_emod_of_nonneg]; refine hK _ (W.liveK [0, 1, 6] fun K2 hK2 => ?_); clear hK K; simp; refine hK2 _ ?_; clear hK2 K2
  refine W.sreg (fun K hK => ?_); simp (disch := omega) [gA, wrap_i64, wrap_u64, wrap_u32, Int.tdiv_eq_ediv_of_nonneg, Int.tmod_eq_emod_of_nonneg]; refine hK _ (W.liveK [0, 1, 6, 7] fun K2 hK2 => ?_); clear hK K; simp; refine hK2 _ ?_; clear hK2 K2
  refine W.seq ?_
  refine W.sreg (fun K hK => ?_); simp (disch := omega) [gA, wrap_i64, wrap_u64, wrap_u32, Int.tdiv_eq_ediv_of_nonneg, Int.tmod_eq_emod_of_nonneg]; refine hK _ (W.liveK [0, 1, 6, 7, 8] fun K2 hK2 => ?_); clear hK K; simp; refine hK2 _ ?_; clear hK2 K2
  refine W.block ?_   -- block 0
  refine W.loopG (fun k σ => ∃ (r : Int) (z : List Int) (ver : Nat) (rows : Pm.Rows) (clk : Nat), σ = ⟨fa [(0, sls i64e a), (1, .int .i64 d), (6, .own 12 ver 0 a.length), (7, .int .i64 r), (8, .int .i64 ((k : Int) - 1))], rows, clk⟩ ∧
    rows 12 = some ⟨ver, 3, 1, emap i64e z⟩ ∧ k ≤ a.length ∧ z.length = a.length ∧ Lim 10000 z ∧ 0 ≤ r ∧ r < d ∧ V 10000 (a.drop k) = d * V 10000 (z.drop k) + r) a.length ?_ ?_
  · exact ⟨_, .refl, 0, List.replicate a.length 0, _, _, _, rfl, by simp, by omega, by simp, Lim.rep (by decide) _, by omega, hd0, by simp [V]⟩
  rintro k _ ⟨r, z, ver, rows, clk, rfl, hr, hk, hz, lz, hr0, hr1, hV⟩
  refine W.seq ?_
  refine W.sreg (fun K hK => ?_); simp (disch := omega) [gA, wrap_i64, wrap_u64, wrap_u32, Int.tdiv_eq_ediv_of_nonneg, Int.tmod_eq_emod_of_nonneg]; refine hK _ (W.liveK [0, 1, 6, 7, 8, 17] fun K2 hK2 => ?_); clear hK K; simp; refine hK2 _ ?_; clear hK2 K2
  refine W.cond ⟨_, rfl, fun h => ?_, fun h => ?_⟩   -- t17
  · simp at h
    obtain ⟨j, rfl⟩ : ∃ j, k = j + 1 := ⟨k - 1, by omega⟩
    clear h
    have hx := la.nth (i := j) (by omega)
    have hs0 : 0 ≤ r * 10000 + nth a j := by omega
    have hs1 : r * 10000 + nth a j < d * 10000 := by omega
    have hq0 : 0 ≤ (r * 10000 + nth a j) / d := Int.ediv_nonneg hs0 (by omega)
    have hq1 : (r * 10000 + nth a j) / d < 10000 := Int.ediv_lt_of_lt_mul hd0 (by omega)
    have hm0 := Int.emod_nonneg (r * 10000 + nth a j) (show d ≠ 0 by omega)
    have hm1 := Int.emod_lt_of_pos (r * 10000 + nth a j) hd0
    have hdz : d ≠ 0 := by omega
    refine W.skip ?_
    refine W.seq ?_
    refine W.block ?_   -- block 1
    refine W.sreg (fun K hK => ?_); simp (disch := omega) [gA, wrap_i64, wrap_u64, wrap_u32, Int.tdiv_eq_ediv_of_nonneg, Int.tmod_eq_emod_of_nonneg]; refine hK _ (W.liveK [0, 1, 6, 8, 9] fun K2 hK2 => ?_); clear hK K; simp; refine hK2 _ ?_; clear hK2 K2
    refine W.sreg (fun K hK => ?_); simp (disch := omega) [gA, wrap_i64, wrap_u64, wrap_u32, Int.tdiv_eq_ediv_of_nonneg, Int.tmod_eq_emod_of_nonneg, hr, hdz]
    refine hK _ (W.liveK [0, 1, 6, 8, 9] fun K2 hK2 => ?_); clear hK K; simp; refine hK2 _ ?_; clear hK2 K2
    refine W.reg (fun K hK => ?_); simp (disch := omega) [gA, wrap_i64, wrap_u64, wrap_u32, Int.tdiv_eq_ediv_of_nonneg, Int.tmod_eq_emod_of_nonneg, hdz]
    refine hK _ (W.liveK [0, 1, 6, 7, 8] fun K2 hK2 => ?_); clear hK K; simp; refine hK2 _ ?_; clear hK2 K2
    refine W.reg (fun K hK => ?_); simp (disch := omega) [gA, wrap_i64, wrap_u64, wrap_u32, Int.tdiv_eq_ediv_of_nonneg, Int.tmod_eq_emod_of_nonneg]
    refine hK _ ⟨j, _, Gh_fa _ [0, 1, 6, 7, 8], by omega, _, z.set j ((r * 10000 + nth a j) / d), ver, _, _, rfl, by simp, by omega, by simpa using hz, lz.set ⟨hq0, hq1⟩, hm0, hm1, ?_⟩
    rw [drop_nth (l := a) (i := j) (by omega), drop_nth (l := z.set j _) (i := j) (by simp; omega), nth_set_self (by omega), List.drop_set_of_lt (by omega)]
    simp only [V]
    rw [hV]
    have := Int.emod_add_mul_ediv (r * 10000 + nth a j) d
    grind
  · simp at h
    have hk0 : k = 0 := by omega
    subst hk0
    simp only [List.drop_zero] at hV
    have ez : z.take a.length = z := take_all hz
    have hzn := V_nonneg (by decide) lz
    have e1 : V 10000 a / d = V 10000 z := by
      rw [hV, Int.mul_add_ediv_left _ _ (by omega), Int.ediv_eq_zero_of_lt hr0 hr1]; simp
    have e2 : V 10000 a % d = r := by
      rw [hV, Int.mul_add_emod_self_left, Int.emod_eq_of_lt hr0 hr1]
    refine W.exit ?_; simp only [pblk_exit, pblk_normal, pblk_ret, pseq_exit, pseq_normal, pseq_ret, pnor_exit, pnor_normal, pnor_ret, if_true, if_false, reduceIte, Nat.reduceEqDiff]
    refine W.sreg (fun K hK => ?_)
    simp (disch := omega) [gA, wrap_i64, wrap_u64, wrap_u32, Int.tdiv_eq_ediv_of_nonneg, Int.tmod_eq_emod_of_nonneg, hr, ez]
    refine callR (rcut_ret z (by omega)) ?_
    simp (disch := omega) [gA, wrap_i64, wrap_u64, wrap_u32, Int.tdiv_eq_ediv_of_nonneg, Int.tmod_eq_emod_of_nonneg]
    refine hK _ (W.liveK [4, 5] fun K2 hK2 => ?_); clear hK K; simp; refine hK2 _ ?_; clear hK2 K2
    refine W.ret ?_
    rw [e1, e2, ← Dn_cut lz]
    simp [go]
theorem small_ret' (y d : Int) (hy : 0 ≤ y) (hz : Z y) (hd0 : 0 < d) (hd1 : d ≤ 65536) : Ret env.P 118 [Dn y, .int .i64 d] (.tup [Dn (y / d), .int .i64 (y % d)]) := by
  have := small_ret (dig DD y.toNat) d (by have := dd_len' hy; omega) (Lim_dd _) hd0 hd1
  rwa [V_dd hy] at this

theorem ToN_ret (n : Nat) (hz : Z (n : Int)) : Ret env.P 95 [sls i64e (dig DD n)] (us (dig LL n)) := by
  have hln : (dig LL n).length ≤ sz 2 (n : Int) := sz_base hLL n
  refine ret_of_Wf (E := env) (fun _ => 0) [(0, sls i64e (dig DD n))] Try.func95 rfl (by kernel_rfl) (by kernel_rfl) (show 1 ≤ 31 by decide) (by simp) ?_
  refine W.sreg (fun K hK => ?_); simp (disch := omega) [gA, wrap_i64, wrap_u64, wrap_u32, Int.tdiv_eq_ediv_of_nonneg, Int.tmod_eq_emod_of_nonneg]; refine hK _ (W.liveK [0] fun K2 hK2 => ?_); clear hK K; simp; refine hK2 _ ?_; clear hK2 K2
  refine W.sreg (fun K hK => ?_); simp (disch := omega) [gA, wrap_i64, wrap_u64, wrap_u32, Int.tdiv_eq_ediv_of_nonneg, Int.tmod_eq_emod_of_nonneg]; refine hK _ (W.liveK [0, 3] fun K2 hK2 => ?_); clear hK K; simp; refine hK2 _ ?_; clear hK2 K2
  refine W.nil 3 3 115 1 (by simp) (by decide) (fun K hK => ?_)
  refine hK _ (W.liveK [0, 3] fun K2 hK2 => ?_); clear hK K; simp; refine hK2 _ ?_; clear hK2 K2
  refine W.seq ?_
  refine W.block ?_   -- block 0
  refine W.loopG (fun k σ => ∃ (i : Nat) (z : List Int) (ver : Nat) (rows : Pm.Rows) (clk : Nat), σ = ⟨fa [(0, sls i64e (dig DD k)), (3, .own 3 ver 0 i)], rows, clk⟩ ∧ rows 3 = some ⟨ver, 115, 1, emap u32 z⟩ ∧ z.length = i ∧ k ≤ n ∧ dig LL n = z ++ dig LL k) n ?_ ?_
  · exact ⟨_, .refl, 0, [], _, _, _, rfl, by simp [emap], rfl, by omega, by simp⟩
  rintro k _ ⟨i, z, ver, rows, clk, rfl, hr, hzl, hk, hd⟩
  have hzk : Z (k : Int) := Nat.lt_of_le_of_lt (sz_mono (by decide) (y := (n : Int)) (by omega)) hz
  have hil : i ≤ (dig LL n).length := by rw [hd]; simp [hzl]
  have e0 : (dig DD k).length = 0 ↔ k = 0 := by rw [List.length_eq_zero_iff, dig_eq_nil hDD]
  refine W.seq ?_
  refine W.sreg (fun K hK => ?_); simp (disch := omega) [gA, wrap_i64, wrap_u64, wrap_u32, Int.tdiv_eq_ediv_of_nonneg, Int.tmod_eq_emod_of_nonneg]; refine hK _ (W.liveK [0, 3, 9] fun K2 hK2 => ?_); clear hK K; simp; refine hK2 _ ?_; clear hK2 K2
  refine W.cond ⟨_, rfl, fun h => ?_, fun h => ?_⟩   -- t9
  · have hk0 : k ≠ 0 := by rw [Ne, ← e0]; simp at h; omega
    have hz2 : Z ((k : Int) / 65536) := Nat.lt_of_le_of_lt (sz_mono (by decide) (y := (k : Int)) (by omega)) hzk
    refine W.skip ?_
    refine W.block ?_   -- block 1
    refine W.sreg (fun K hK => ?_)
    simp (disch := omega) [gA, wrap_i64, wrap_u64, wrap_u32, Int.tdiv_eq_ediv_of_nonneg, Int.tmod_eq_emod_of_nonneg]
    refine callR (small_ret' (k : Int) 65536 (by omega) hzk (by decide) (by decide)) ?_
    simp (disch := omega) [gA, wrap_i64, wrap_u64, wrap_u32, Int.tdiv_eq_ediv_of_nonneg, Int.tmod_eq_emod_of_nonneg]
    refine hK _ (W.liveK [3, 4, 5] fun K2 hK2 => ?_); clear hK K; simp; refine hK2 _ ?_; clear hK2 K2
    refine W.sreg (fun K hK => ?_)
    simp (disch := omega) [gA, wrap_i64, wrap_u64, wrap_u32, Int.tdiv_eq_ediv_of_nonneg, Int.tmod_eq_emod_of_nonneg]
    refine callR (small_ret' ((k : Int) / 65536) 65536 (by omega) hz2 (by decide) (by decide)) ?_
    simp (disch := omega) [gA, wrap_i64, wrap_u64, wrap_u32, Int.tdiv_eq_ediv_of_nonneg, Int.tmod_eq_emod_of_nonneg]
    refine hK _ (W.liveK [3, 4, 5, 6] fun K2 hK2 => ?_); clear hK K; simp; refine hK2 _ ?_; clear hK2 K2
    refine W.sreg (fun K hK => ?_); simp (disch := omega) [gA, wrap_i64, wrap_u64, wrap_u32, Int.tdiv_eq_ediv_of_nonneg, Int.tmod_eq_emod_of_nonneg, hr, hzl, wrap_u32']
    have e1 : (k : Int) / 65536 % 65536 * 65536 + k % 65536 = ((k % LL : Nat) : Int) := by simp; omega
    have e3 : k / LL < k := Nat.div_lt_self (by omega) (by decide)
    obtain ⟨dg, e2⟩ : ∃ dg : Int, dg = ((k % LL : Nat) : Int) := ⟨_, rfl⟩
    rw [← e2] at e1
    simp only [e1, app_u32]
    refine hK _ (W.liveK [3, 4] fun K2 hK2 => ?_); clear hK K; simp; refine hK2 _ ?_; clear hK2 K2
    refine W.reg (fun K hK => ?_); simp (disch := omega) [gA, wrap_i64, wrap_u64, wrap_u32, Int.tdiv_eq_ediv_of_nonneg, Int.tmod_eq_emod_of_nonneg]
    refine hK _ ⟨k / LL, _, Gh.fr [(0, sls i64e (dig DD (k / LL))), (3, .own 3 _ 0 (i + 1))] ?_, e3, i + 1, z ++ [dg], _, _, _, rfl, by simp; rfl, by simp [hzl], by omega, ?_⟩
    · have e2 : ((k : Int) / 65536 / 65536).toNat = k / LL := by show _ = k / 4294967296; omega
      simp only [Dn, e2]
      simp
    · rw [hd, dig_step hLL hk0, e2]; simp
  · have hk0 : k = 0 := by rw [← e0]; simp at h; simp [h]
    subst hk0
    refine W.exit ?_; simp only [pblk_exit, pblk_normal, pblk_ret, pseq_exit, pseq_normal, pseq_ret, pnor_exit, pnor_normal, pnor_ret, if_true, if_false, reduceIte, Nat.reduceEqDiff]
    refine W.sreg (fun K hK => ?_); simp (disch := omega) [gA, wrap_i64, wrap_u64, wrap_u32, Int.tdiv_eq_ediv_of_nonneg, Int.tmod_eq_emod_of_nonneg]; refine hK _ (W.liveK [2] fun K2 hK2 => ?_); clear hK K; simp; refine hK2 _ ?_; clear hK2 K2
    refine W.ret ?_
    simp [dig_zero] at hd
    have ez : z.take i = z := take_all hzl
    simp [go, hr, ez, hd]

theorem rTo_ret (x : Int) (hz : Z x) : Ret env.P 90 [RI x] (I x) := by
  refine ret_of_Wf (E := env) (fun _ => 0) [(0, RI x)] Try.func90 rfl (by kernel_rfl) (by kernel_rfl) (show 1 ≤ 9 by decide) (by simp) ?_
  refine W.sreg (fun K hK => ?_); simp (disch := omega) [gA, wrap_i64, wrap_u64, wrap_u32, Int.tdiv_eq_ediv_of_nonneg, Int.tmod_eq_emod_of_nonneg]; refine hK _ (W.liveK [1, 2] fun K2 hK2 => ?_); clear hK K; simp; refine hK2 _ ?_; clear hK2 K2
  refine W.sdrw (fun K hK => ?_)
  simp (disch := omega) [gA, wrap_i64, wrap_u64, wrap_u32, Int.tdiv_eq_ediv_of_nonneg, Int.tmod_eq_emod_of_nonneg]
  refine callR (ToN_ret x.natAbs (by simpa [Z, sz] using hz)) ?_
  simp (disch := omega) [gA, wrap_i64, wrap_u64, wrap_u32, Int.tdiv_eq_ediv_of_nonneg, Int.tmod_eq_emod_of_nonneg]
  refine hK _ (W.liveK [2] fun K2 hK2 => ?_); clear hK K; simp; refine hK2 _ ?_; clear hK2 K2
  refine W.ret ?_
  simp [go]
end Go.Proofs.Ytjnkpfknmncdmaa
