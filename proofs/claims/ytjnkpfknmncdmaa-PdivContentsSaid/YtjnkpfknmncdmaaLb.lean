import Derived.Test.YtjnkpfknmncdmaaLa
set_option linter.unusedSimpArgs false
set_option linter.unusedVariables false
namespace Go.Proofs.Ytjnkpfknmncdmaa
open Go Pm

theorem Norm_ret (l : List Int) (hl : l.length < 1099511627776) (hm : Lim 4294967296 l) : Ret env.P 105 [us l] (N (V 4294967296 l)) := by
  rw [← N_cut hm]
  refine ret_of_Wf (E := env) (fun _ => 0) [(0, us l)] Try.func105 rfl (by kernel_rfl) (by kernel_rfl) (show 1 ≤ 6 by decide) (by simp) ?_
  refine W.sreg (fun K hK => ?_)
  simp (disch := omega) [gA, wrap_i64, wrap_u64, wrap_u32, Int.tdiv_eq_ediv_of_nonneg, Int.tmod_eq_emod_of_nonneg]
  refine hK _ (W.liveK [0] fun K2 hK2 => ?_); clear hK K; simp; refine hK2 _ ?_; clear hK2 K2
  refine W.sreg (fun K hK => ?_)
  simp
  refine callR (cut_ret l (by omega)) ?_
  have := cutR_len l
  simp (disch := omega) [gA, wrap_i64, wrap_u64, wrap_u32, Int.tdiv_eq_ediv_of_nonneg, Int.tmod_eq_emod_of_nonneg]
  refine hK _ (W.liveK [2] fun K2 hK2 => ?_); clear hK K; simp; refine hK2 _ ?_; clear hK2 K2
  refine W.ret ?_
  simp

theorem Add_ret (a b : List Int) (ha : a.length < 1099511627776) (hb : b.length < 1099511627776) (la : Lim 4294967296 a) (lb : Lim 4294967296 b) : Ret env.P 109 [us a, us b] (N (V 4294967296 a + V 4294967296 b)) := by
  refine ret_of_Wf (E := env) (fun _ => 0) [(0, us a), (1, us b)] Try.func109 rfl (by kernel_rfl) (by kernel_rfl) (show 2 ≤ 63 by decide) (by simp) ?_
  -- region 0: t4 := = nil
  refine W.sreg (fun K hK => ?_)
  simp (disch := omega) [gA, wrap_i64, wrap_u64, wrap_u32, Int.tdiv_eq_ediv_of_nonneg, Int.tmod_eq_emod_of_nonneg]
  refine hK _ (W.liveK [0, 1] fun K2 hK2 => ?_); clear hK K; simp; refine hK2 _ ?_; clear hK2 K2
  -- region 1: t10 := t0; t11 := call F123(t10); t12 := t1; t13 := call F123(t12); t0 := = t11; t1 := = t13
  refine W.sreg (fun K hK => ?_)
  simp
  refine callR (cut_ret a (by omega)) ?_
  simp
  refine callR (cut_ret b (by omega)) ?_
  simp
  refine hK _ (W.liveK [0, 1] fun K2 hK2 => ?_); clear hK K; simp; refine hK2 _ ?_; clear hK2 K2
  refine W.seqJ (fun σ => ∃ (x y : List Int) (rows : Pm.Rows) (clk : Nat), σ = ⟨fa [(0, us x), (1, us y)], rows, clk⟩ ∧ Lim 4294967296 x ∧ Lim 4294967296 y ∧ y.length ≤ x.length ∧ x.length < 1099511627776 ∧
    V 4294967296 a + V 4294967296 b = V 4294967296 x + V 4294967296 y) ?_ ?_
  · have h1 := cutR_len a
    have h2 := cutR_len b
    -- region 2: t14 := t0; t15 := call len(t14); t16 := t1; t17 := call len(t16); t18 := t15 < t17 (3)
    refine W.sreg (fun K hK => ?_)
    simp (disch := omega) [gA, wrap_i64, wrap_u64, wrap_u32, Int.tdiv_eq_ediv_of_nonneg, Int.tmod_eq_emod_of_nonneg]
    refine hK _ (W.liveK [0, 1, 18] fun K2 hK2 => ?_); clear hK K; simp; refine hK2 _ ?_; clear hK2 K2
    refine W.cond ⟨_, rfl, fun h => ?_, fun h => ?_⟩   -- t18
    · simp at h
      -- region 3: t19 := t1; t20 := t0; t0 := = t19; t1 := = t20
      refine W.reg (fun K hK => ?_)
      simp (disch := omega) [gA, wrap_i64, wrap_u64, wrap_u32, Int.tdiv_eq_ediv_of_nonneg, Int.tmod_eq_emod_of_nonneg]
      exact hK _ ⟨_, Gh_fa _ [0, 1], _, _, _, _, rfl, Lim_cutR lb, Lim_cutR la, by omega, by omega, by simp [V_cutR]; omega⟩
    · simp at h
      refine W.skip ?_
      exact ⟨_, Gh_fa _ [0, 1], _, _, _, _, rfl, Lim_cutR la, Lim_cutR lb, by omega, by omega, by simp [V_cutR]⟩
  rintro _ ⟨x, y, rows, clk, rfl, lx, ly, hxy, hx, hV⟩
  rw [hV]
  clear hV la lb ha hb a b
  -- region 4: t21 := t0; t22 := call len(t21); t23 := t22 + 1:i64 (3); t24 := make 66 t23 t23; t5 := = t24
  refine W.sreg (fun K hK => ?_)
  simp (disch := omega) [gA, wrap_i64, wrap_u64, wrap_u32, Int.tdiv_eq_ediv_of_nonneg, Int.tmod_eq_emod_of_nonneg]
  refine hK _ (W.liveK [0, 1, 5] fun K2 hK2 => ?_); clear hK K; simp; refine hK2 _ ?_; clear hK2 K2
  -- region 5: t6 := = 0:u64
  refine W.sreg (fun K hK => ?_)
  simp (disch := omega) [gA, wrap_i64, wrap_u64, wrap_u32, Int.tdiv_eq_ediv_of_nonneg, Int.tmod_eq_emod_of_nonneg]
  refine hK _ (W.liveK [0, 1, 5, 6] fun K2 hK2 => ?_); clear hK K; simp; refine hK2 _ ?_; clear hK2 K2
  refine W.seq ?_
  -- region 6: t25 := t0; t26 := call len(t25); t27 := 0:i64
  refine W.sreg (fun K hK => ?_)
  simp (disch := omega) [gA, wrap_i64, wrap_u64, wrap_u32, Int.tdiv_eq_ediv_of_nonneg, Int.tmod_eq_emod_of_nonneg]
  refine hK _ (W.liveK [0, 1, 5, 6, 25, 26, 27] fun K2 hK2 => ?_); clear hK K; simp; refine hK2 _ ?_; clear hK2 K2
  refine W.block ?_   -- block 0
  refine W.loopG (fun k σ => ∃ (i : Nat) (c : Int) (z : List Int) (ver : Nat) (rows : Pm.Rows) (clk : Nat), σ = ⟨fa [(0, us x), (1, us y), (5, .own 24 ver 0 (x.length + 1)), (6, .int .u64 c), (25, us x), (26, .int .i64 x.length), (27, .int .i64 i)], rows, clk⟩ ∧
      rows 24 = some ⟨ver, 115, 1, emap u32 z⟩ ∧ k = x.length - i ∧ i ≤ x.length ∧ z.length = x.length + 1 ∧ Lim 4294967296 z ∧ 0 ≤ c ∧ c ≤ 1 ∧
      V 4294967296 (z.take i) + 4294967296 ^ i * c = V 4294967296 (x.take i) + V 4294967296 (y.take i)) x.length ?_ ?_
  · exact ⟨_, .refl, 0, 0, List.replicate (x.length + 1) 0, _, _, _, rfl, by simp, by omega, by omega, by simp, Lim.rep (by decide) _, by omega, by omega, by simp [V]⟩
  rintro k _ ⟨i, c, z, ver, rows, clk, rfl, hr, hk, hi, hz, lz, hc0, hc1, hV⟩
  -- region 7: t28 := t27 < t26 (3)
  refine W.sreg (fun K hK => ?_)
  simp (disch := omega) [gA, wrap_i64, wrap_u64, wrap_u32, Int.tdiv_eq_ediv_of_nonneg, Int.tmod_eq_emod_of_nonneg]
  refine hK _ (W.liveK [0, 1, 5, 6, 25, 26, 27, 28] fun K2 hK2 => ?_); clear hK K; simp; refine hK2 _ ?_; clear hK2 K2
  refine W.seq ?_
  refine W.cond ⟨_, rfl, fun h => ?_, fun h => ?_⟩   -- t28
  · simp at h
    have hxi := lx.nth h
    refine W.skip ?_
    refine W.seq ?_
    refine W.block ?_   -- block 1
    -- region 8: t29 := t27; t30 := indexAddr 66 t25[t27]; t31 := load 115 t30; t7 := = t29; t8 := = t31
    refine W.sreg (fun K hK => ?_)
    simp (disch := omega) [gA, wrap_i64, wrap_u64, wrap_u32, Int.tdiv_eq_ediv_of_nonneg, Int.tmod_eq_emod_of_nonneg]
    refine hK _ (W.liveK [0, 1, 5, 6, 7, 8, 25, 26, 27] fun K2 hK2 => ?_); clear hK K; simp; refine hK2 _ ?_; clear hK2 K2
    -- region 9: t32 := t8; t33 := conv 115->122 t32; t34 := t6; t35 := t33 + t34 (122); t9 := = t35
    refine W.sreg (fun K hK => ?_)
    simp (disch := omega) [gA, wrap_i64, wrap_u64, wrap_u32, Int.tdiv_eq_ediv_of_nonneg, Int.tmod_eq_emod_of_nonneg]
    refine hK _ (W.liveK [0, 1, 5, 7, 9, 25, 26, 27] fun K2 hK2 => ?_); clear hK K; simp; refine hK2 _ ?_; clear hK2 K2
    refine W.seqJ (fun σ => ∃ (s : Int), σ = ⟨fa [(0, us x), (1, us y), (5, .own 24 ver 0 (x.length + 1)), (7, .int .i64 i), (9, .int .u64 s), (25, us x), (26, .int .i64 x.length), (27, .int .i64 i)], rows, clk⟩ ∧ 0 ≤ s ∧ s < 8589934592 ∧
      V 4294967296 (x.take (i + 1)) + V 4294967296 (y.take (i + 1)) = V 4294967296 (z.take i) + 4294967296 ^ i * s) ?_ ?_
    ·
      -- region 10: t36 := t7; t37 := t1; t38 := call len(t37); t39 := t36 < t38 (3)
      refine W.sreg (fun K hK => ?_)
      simp (disch := omega) [gA, wrap_i64, wrap_u64, wrap_u32, Int.tdiv_eq_ediv_of_nonneg, Int.tmod_eq_emod_of_nonneg]
      refine hK _ (W.liveK [0, 1, 5, 7, 9, 25, 26, 27, 39] fun K2 hK2 => ?_); clear hK K; simp; refine hK2 _ ?_; clear hK2 K2
      refine W.cond ⟨_, rfl, fun h => ?_, fun h => ?_⟩   -- t39
      · simp at h
        have hyi := ly.nth h
        -- region 11: t40 := t9; t41 := t1; t42 := t7; t43 := indexAddr 66 t41[t42]; t44 := load 115 t43; t45 := conv 115->122 t44; t46 := t40 + t45 (122); t9 := = t46
        refine W.reg (fun K hK => ?_)
        simp (disch := omega) [gA, wrap_i64, wrap_u64, wrap_u32, Int.tdiv_eq_ediv_of_nonneg, Int.tmod_eq_emod_of_nonneg]
        refine hK _ ⟨_, Gh_fa _ [0, 1, 5, 7, 9, 25, 26, 27], _, rfl, by omega, by omega, ?_⟩
        rw [V_take_succ (by omega), V_take_succ (by omega)]
        grind
      · simp at h
        refine W.skip ?_
        refine ⟨_, Gh_fa _ [0, 1, 5, 7, 9, 25, 26, 27], _, rfl, by omega, by omega, ?_⟩
        rw [V_take_succ (by omega), V_take_all (l := y) (by omega)]
        rw [V_take_all (l := y) (by omega)] at hV
        grind
    rintro _ ⟨s, rfl, hs0, hs1, hV2⟩
    -- region 12: t47 := t5; t48 := t7; t49 := t9; t50 := conv 122->115 t49; t51 := t9; t52 := t51 >> 32:u64 (122); t53 := indexAddr 66 t47[t48]; store 115 *t53 <- t50; t6 := = t52
    refine W.reg (fun K hK => ?_)
    simp (disch := omega) [gA, wrap_i64, wrap_u64, wrap_u32, Int.tdiv_eq_ediv_of_nonneg, Int.tmod_eq_emod_of_nonneg, hr, wrap_u32']
    refine hK _ (W.liveK [0, 1, 5, 6, 25, 26, 27] fun K2 hK2 => ?_); clear hK K; simp; refine hK2 _ ?_; clear hK2 K2
    -- region 13: t54 := t27 + 1:i64 (3); t27 := t54
    refine W.reg (fun K hK => ?_)
    simp (disch := omega) [gA, wrap_i64, wrap_u64, wrap_u32, Int.tdiv_eq_ediv_of_nonneg, Int.tmod_eq_emod_of_nonneg]
    refine hK _ ⟨x.length - (i + 1), _, Gh_fa _ [0, 1, 5, 6, 25, 26, 27], by omega, i + 1, s / 4294967296, z.set i (s % 4294967296), ver, _, _, rfl, by simp, by omega, by omega, by simpa using hz, lz.set (by omega), by omega, by omega, ?_⟩
    rw [V_take_set (by omega), hV2, Int.pow_succ]
    have := Int.emod_add_mul_ediv s 4294967296
    grind
  · simp at h
    have hi' : i = x.length := by omega
    subst hi'
    refine W.exit ?_; simp only [pblk_exit, pblk_normal, pblk_ret, pseq_exit, pseq_normal, pseq_ret, pnor_exit, pnor_normal, pnor_ret, if_true, if_false, reduceIte, Nat.reduceEqDiff]
    -- region 14: t55 := t5; t56 := t0; t57 := call len(t56); t58 := t6; t59 := conv 122->115 t58; t60 := indexAddr 66 t55[t57]; store 115 *t60 <- t59
    refine W.sreg (fun K hK => ?_)
    simp (disch := omega) [gA, wrap_i64, wrap_u64, wrap_u32, Int.tdiv_eq_ediv_of_nonneg, Int.tmod_eq_emod_of_nonneg, hr]
    refine hK _ (W.liveK [5] fun K2 hK2 => ?_); clear hK K; simp; refine hK2 _ ?_; clear hK2 K2
    -- region 15: t61 := t5; t62 := call F123(t61); t4 := = t62
    have hz2 : List.take (x.length + 1) (z.set x.length c) = z.set x.length c := List.take_of_length_le (by simp; omega)
    refine W.sreg (fun K hK => ?_)
    simp (disch := omega) [gA, wrap_i64, wrap_u64, wrap_u32, Int.tdiv_eq_ediv_of_nonneg, Int.tmod_eq_emod_of_nonneg, hz2]
    refine callR (cut_ret (z.set x.length c) (by simp; omega)) ?_
    simp (disch := omega) [gA, wrap_i64, wrap_u64, wrap_u32, Int.tdiv_eq_ediv_of_nonneg, Int.tmod_eq_emod_of_nonneg]
    refine hK _ (W.liveK [4] fun K2 hK2 => ?_); clear hK K; simp; refine hK2 _ ?_; clear hK2 K2
    refine W.ret ?_
    have e : V 4294967296 (z.set x.length c) = V 4294967296 x + V 4294967296 y := by
      rw [← V_take_all (l := z.set x.length c) (i := x.length + 1) (by simp; omega), V_take_set (by omega), hV, V_take_all (l := y) (by omega)]
      simp
    rw [← e, N_cut (lz.set (by omega))]
    simp
end Go.Proofs.Ytjnkpfknmncdmaa
