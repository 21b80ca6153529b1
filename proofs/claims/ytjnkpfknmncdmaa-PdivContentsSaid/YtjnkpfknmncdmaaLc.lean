import Derived.Test.YtjnkpfknmncdmaaLb
set_option linter.unusedSimpArgs false
set_option linter.unusedVariables false
namespace Go.Proofs.Ytjnkpfknmncdmaa
open Go Pm

theorem Cmp_ret (a b : List Int) (ha : a.length < 1099511627776) (hb : b.length < 1099511627776) (la : Lim 4294967296 a) (lb : Lim 4294967296 b) : Ret env.P 103 [us a, us b] (.int .i64 (cmp3 (V 4294967296 a) (V 4294967296 b))) := by
  refine ret_of_Wf (E := env) (fun _ => 0) [(0, us a), (1, us b)] Try.func103 rfl (by kernel_rfl) (by kernel_rfl) (show 2 ≤ 45 by decide) (by simp) ?_
  refine W.sreg (fun K hK => ?_)
  simp (disch := omega) [gA, wrap_i64, wrap_u64, wrap_u32, Int.tdiv_eq_ediv_of_nonneg, Int.tmod_eq_emod_of_nonneg]
  refine hK _ (W.liveK [0, 1] fun K2 hK2 => ?_); clear hK K; simp; refine hK2 _ ?_; clear hK2 K2
  refine W.sreg (fun K hK => ?_)
  simp
  refine callR (cut_ret a (by omega)) ?_
  simp
  refine callR (cut_ret b (by omega)) ?_
  simp
  refine hK _ (W.liveK [0, 1] fun K2 hK2 => ?_); clear hK K; simp; refine hK2 _ ?_; clear hK2 K2
  have cx := cutR_cutR a; have lx := Lim_cutR la; have hx := cutR_len a
  have cy := cutR_cutR b; have ly := Lim_cutR lb; have hy := cutR_len b
  rw [← V_cutR a, ← V_cutR b]
  generalize cutR a = x at *
  generalize cutR b = y at *
  refine W.seq ?_
  -- region 2: t10 := t0; t11 := call len(t10); t12 := t1; t13 := call len(t12); t14 := t11 != t13 (3)
  refine W.sreg (fun K hK => ?_)
  simp (disch := omega) [gA, wrap_i64, wrap_u64, wrap_u32, Int.tdiv_eq_ediv_of_nonneg, Int.tmod_eq_emod_of_nonneg]
  refine hK _ (W.liveK [0, 1, 14] fun K2 hK2 => ?_); clear hK K; simp; refine hK2 _ ?_; clear hK2 K2
  refine W.cond ⟨_, rfl, fun h => ?_, fun h => ?_⟩   -- t14
  · simp at h
    refine W.seq ?_
    refine W.sreg (fun K hK => ?_)
    simp (disch := omega) [gA, wrap_i64, wrap_u64, wrap_u32, Int.tdiv_eq_ediv_of_nonneg, Int.tmod_eq_emod_of_nonneg]
    refine hK _ (W.liveK [19] fun K2 hK2 => ?_); clear hK K; simp; refine hK2 _ ?_; clear hK2 K2
    refine W.cond ⟨_, rfl, fun h => ?_, fun h => ?_⟩   -- t19
    · simp at h
      refine W.sreg (fun K hK => ?_)
      simp (disch := omega) [gA, wrap_i64, wrap_u64, wrap_u32, Int.tdiv_eq_ediv_of_nonneg, Int.tmod_eq_emod_of_nonneg]
      refine hK _ (W.liveK [4] fun K2 hK2 => ?_); clear hK K; simp; refine hK2 _ ?_; clear hK2 K2
      refine W.ret ?_
      simp [cmp3_lt (V_lt_of_len (by decide) lx ly cy h)]
    · simp at h
      refine W.skip ?_
      refine W.sreg (fun K hK => ?_)
      simp (disch := omega) [gA, wrap_i64, wrap_u64, wrap_u32, Int.tdiv_eq_ediv_of_nonneg, Int.tmod_eq_emod_of_nonneg]
      refine hK _ (W.liveK [4] fun K2 hK2 => ?_); clear hK K; simp; refine hK2 _ ?_; clear hK2 K2
      refine W.ret ?_
      simp [cmp3_gt (V_lt_of_len (by decide) ly lx cx (by omega))]
  · simp at h
    have hlen : x.length = y.length := by omega
    clear h
    refine W.skip ?_
    refine W.seq ?_
    refine W.sreg (fun K hK => ?_)
    simp (disch := omega) [gA, wrap_i64, wrap_u64, wrap_u32, Int.tdiv_eq_ediv_of_nonneg, Int.tmod_eq_emod_of_nonneg]
    refine hK _ (W.liveK [0, 1, 5] fun K2 hK2 => ?_); clear hK K; simp; refine hK2 _ ?_; clear hK2 K2
    refine W.block ?_   -- block 0
    refine W.loopG (fun k σ => ∃ (rows : Pm.Rows) (clk : Nat), σ = ⟨fa [(0, us x), (1, us y), (5, .int .i64 ((k : Int) - 1))], rows, clk⟩ ∧ k ≤ x.length ∧ x.drop k = y.drop k) x.length ?_ ?_
    · exact ⟨_, .refl, _, _, rfl, by omega, by rw [List.drop_of_length_le (by omega), List.drop_of_length_le (by omega)]⟩
    rintro k _ ⟨rows, clk, rfl, hk, hd⟩
    refine W.seq ?_
    refine W.sreg (fun K hK => ?_)
    simp (disch := omega) [gA, wrap_i64, wrap_u64, wrap_u32, Int.tdiv_eq_ediv_of_nonneg, Int.tmod_eq_emod_of_nonneg]
    refine hK _ (W.liveK [0, 1, 5, 24] fun K2 hK2 => ?_); clear hK K; simp; refine hK2 _ ?_; clear hK2 K2
    refine W.cond ⟨_, rfl, fun h => ?_, fun h => ?_⟩   -- t24
    · have h0 : 0 < k := by simp at h; omega
      obtain ⟨j, rfl⟩ : ∃ j, k = j + 1 := ⟨k - 1, by omega⟩
      clear h
      refine W.skip ?_
      refine W.seq ?_
      refine W.block ?_   -- block 1
      refine W.seq ?_
      refine W.sdrw (fun K hK => ?_)
      simp (disch := omega) [gA, wrap_i64, wrap_u64, wrap_u32, Int.tdiv_eq_ediv_of_nonneg, Int.tmod_eq_emod_of_nonneg]
      refine hK _ (W.liveK [0, 1, 5, 35] fun K2 hK2 => ?_); clear hK K; simp; refine hK2 _ ?_; clear hK2 K2
      refine W.cond ⟨_, rfl, fun h => ?_, fun h => ?_⟩   -- t35
      · simp at h
        refine W.sreg (fun K hK => ?_)
        simp (disch := omega) [gA, wrap_i64, wrap_u64, wrap_u32, Int.tdiv_eq_ediv_of_nonneg, Int.tmod_eq_emod_of_nonneg]
        refine hK _ (W.liveK [4] fun K2 hK2 => ?_); clear hK K; simp; refine hK2 _ ?_; clear hK2 K2
        refine W.ret ?_
        simp [cmp3_lt (V_lt_of_top (by decide) lx ly hlen (by omega) hd h)]
      · simp at h
        refine W.skip ?_
        refine W.sdrw (fun K hK => ?_)
        simp (disch := omega) [gA, wrap_i64, wrap_u64, wrap_u32, Int.tdiv_eq_ediv_of_nonneg, Int.tmod_eq_emod_of_nonneg]
        refine hK _ (W.liveK [0, 1, 5, 44] fun K2 hK2 => ?_); clear hK K; simp; refine hK2 _ ?_; clear hK2 K2
        refine W.cond ⟨_, rfl, fun h2 => ?_, fun h2 => ?_⟩   -- t44
        · simp at h2
          refine W.sreg (fun K hK => ?_)
          simp (disch := omega) [gA, wrap_i64, wrap_u64, wrap_u32, Int.tdiv_eq_ediv_of_nonneg, Int.tmod_eq_emod_of_nonneg]
          refine hK _ (W.liveK [4] fun K2 hK2 => ?_); clear hK K; simp; refine hK2 _ ?_; clear hK2 K2
          refine W.ret ?_
          simp [cmp3_gt (V_lt_of_top (by decide) ly lx hlen.symm (by omega) hd.symm h2)]
        · simp at h2
          refine W.skip ?_
          refine W.reg (fun K hK => ?_)
          simp (disch := omega) [gA, wrap_i64, wrap_u64, wrap_u32, Int.tdiv_eq_ediv_of_nonneg, Int.tmod_eq_emod_of_nonneg]
          refine hK _ ⟨j, _, Gh_fa _ [0, 1, 5], by omega, _, _, rfl, by omega, ?_⟩
          rw [drop_nth (l := x) (i := j) (by omega), drop_nth (l := y) (i := j) (by omega), hd, show nth x j = nth y j by omega]
    · have h0 : k = 0 := by simp at h; omega
      subst h0
      simp at hd
      subst hd
      refine W.exit ?_; simp only [pblk_exit, pblk_normal, pblk_ret, pseq_exit, pseq_normal, pseq_ret, pnor_exit, pnor_normal, pnor_ret, if_true, if_false, reduceIte, Nat.reduceEqDiff]
      refine W.sreg (fun K hK => ?_)
      simp (disch := omega) [gA, wrap_i64, wrap_u64, wrap_u32, Int.tdiv_eq_ediv_of_nonneg, Int.tmod_eq_emod_of_nonneg]
      refine hK _ (W.liveK [4] fun K2 hK2 => ?_); clear hK K; simp; refine hK2 _ ?_; clear hK2 K2
      refine W.ret ?_
      simp [cmp3_eq]
end Go.Proofs.Ytjnkpfknmncdmaa
