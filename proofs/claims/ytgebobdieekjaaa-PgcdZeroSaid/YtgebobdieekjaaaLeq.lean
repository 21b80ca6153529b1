import Derived.Test.YtgebobdieekjaaaLek
set_option linter.unusedSimpArgs false
set_option linter.unusedVariables false
namespace Go.Proofs.Ytgebobdieekjaaa
open Go Pm

/-! LAW 7, OF 0 AND OF CONSTANTS. -/
theorem Odd0_ret : Ret env.P 9 [Po []] (Po []) := by
  have p1 := prime_ret (zero_bz 3 3) (by decide) (by decide)
  rw [nf_zero] at p1
  replace p1 : Ret env.P 28 [Po []] (Po []) := p1
  refine ret_of_Wf (E := env) (fun _ => 0) [(0, Po [])] Try.func9 rfl (by kernel_rfl) (by kernel_rfl) (show 1 ≤ 29 by decide) (by simp) ?_
  refine W.sreg (fun K hK => ?_); simp (disch := omega) [gA, wrap_i64, wrap_u64, wrap_u32, Int.tdiv_eq_ediv_of_nonneg, Int.tmod_eq_emod_of_nonneg]; refine hK _ (W.liveK [0] fun K2 hK2 => ?_); clear hK K; simp; refine hK2 _ ?_; clear hK2 K2
  refine W.sreg (fun K hK => ?_)
  simp (disch := omega) [gA, wrap_i64, wrap_u64, wrap_u32, Int.tdiv_eq_ediv_of_nonneg, Int.tmod_eq_emod_of_nonneg]
  refine callR p1 ?_
  simp (disch := omega) [gA, wrap_i64, wrap_u64, wrap_u32, Int.tdiv_eq_ediv_of_nonneg, Int.tmod_eq_emod_of_nonneg]
  refine hK _ (W.liveK [0] fun K2 hK2 => ?_); clear hK K; simp; refine hK2 _ ?_; clear hK2 K2
  refine W.seq ?_
  refine W.sreg (fun K hK => ?_); simp (disch := omega) [gA, wrap_i64, wrap_u64, wrap_u32, Int.tdiv_eq_ediv_of_nonneg, Int.tmod_eq_emod_of_nonneg]; refine hK _ (W.liveK [0, 10] fun K2 hK2 => ?_); clear hK K; simp; refine hK2 _ ?_; clear hK2 K2
  refine W.cond ⟨_, rfl, fun h => ?_, fun h => ?_⟩   -- t10
  · refine W.sreg (fun K hK => ?_); simp (disch := omega) [gA, wrap_i64, wrap_u64, wrap_u32, Int.tdiv_eq_ediv_of_nonneg, Int.tmod_eq_emod_of_nonneg]; refine hK _ (W.liveK [2] fun K2 hK2 => ?_); clear hK K; simp; refine hK2 _ ?_; clear hK2 K2
    refine W.ret ?_
    simp [go]
    rfl
  · cases h
theorem fl_one {a : ZX} (h : ZX.N a ≤ 1) : fl a = [] := by
  unfold fl
  rw [nl_small h]; rfl
theorem PgcdZero_ret (n : Int) (hn : -9223372036854775808 ≤ n ∧ n < 9223372036854775808) : Ret env.P 3 [.int .i64 n] (.bool true) := by
  have hw := wakes7_ret
  have E : Eu 64 3 := ⟨by decide, by decide, by decide⟩
  by_cases h0 : n = 0
  · subst h0
    have o1 : Ret env.P 5 [.sl [[.int .i64 0]]] (Po []) := pOf_ret [0] (by decide) (by decide)
    have y : Lay 64 3 0 := ⟨zero_bz _ _, by decide, by decide, by decide⟩
    have g1 := E.gcd2 (zero_bz _ _) (zero_bz _ _)
    rw [gz_zero, nf_zero] at g1
    replace g1 : Ret env.P 6 [.sl [[Po []], [Po []]]] (Po []) := g1
    have g2 := E.cop (zero_bz _ _) (zero_bz _ _)
    rw [gz_zero, nf_zero, show decide (ZX.N (0 : ZX) = 1) = false from by decide] at g2
    replace g2 : Ret env.P 7 [Po [], Po []] (.bool false) := g2
    have q := Square_ret y
    rw [show sq 0 = 0 from by unfold sq; rw [if_pos (by decide), nf_zero]] at q
    replace q : Ret env.P 8 [Po []] (Po []) := q
    have o := Odd0_ret
    have f := Factors_ret y
    rw [nf_zero, fl_one (by decide)] at f
    replace f : Ret env.P 10 [Po []] (.sl []) := f
    refine ret_of_Wf (E := env) (fun _ => 0) [(0, .int .i64 0)] Try.func3 rfl (by kernel_rfl) (by kernel_rfl) (show 1 ≤ 75 by decide) (by simp) ?_
    refine W.sreg (fun K hK => ?_); simp (disch := omega) [gA, wrap_i64, wrap_u64, wrap_u32, Int.tdiv_eq_ediv_of_nonneg, Int.tmod_eq_emod_of_nonneg]; refine hK _ (W.liveK [0] fun K2 hK2 => ?_); clear hK K; simp; refine hK2 _ ?_; clear hK2 K2
    refine W.sreg (fun K hK => ?_)
    simp (disch := omega) [gA, wrap_i64, wrap_u64, wrap_u32, Int.tdiv_eq_ediv_of_nonneg, Int.tmod_eq_emod_of_nonneg]
    refine callR o1 ?_
    simp (disch := omega) [gA, wrap_i64, wrap_u64, wrap_u32, Int.tdiv_eq_ediv_of_nonneg, Int.tmod_eq_emod_of_nonneg]
    refine hK _ (W.liveK [0, 3] fun K2 hK2 => ?_); clear hK K; simp; refine hK2 _ ?_; clear hK2 K2
    refine W.seq ?_
    refine W.sreg (fun K hK => ?_); simp (disch := omega) [gA, wrap_i64, wrap_u64, wrap_u32, Int.tdiv_eq_ediv_of_nonneg, Int.tmod_eq_emod_of_nonneg]; refine hK _ (W.liveK [0, 3, 9] fun K2 hK2 => ?_); clear hK K; simp; refine hK2 _ ?_; clear hK2 K2
    refine W.cond ⟨_, rfl, fun h => ?_, fun h => ?_⟩   -- t9
    · refine W.sreg (fun K hK => ?_)
      simp (disch := omega) [gA, wrap_i64, wrap_u64, wrap_u32, Int.tdiv_eq_ediv_of_nonneg, Int.tmod_eq_emod_of_nonneg]
      refine callR g1 ?_
      simp (disch := omega) [gA, wrap_i64, wrap_u64, wrap_u32, Int.tdiv_eq_ediv_of_nonneg, Int.tmod_eq_emod_of_nonneg]
      refine callR g2 ?_
      simp (disch := omega) [gA, wrap_i64, wrap_u64, wrap_u32, Int.tdiv_eq_ediv_of_nonneg, Int.tmod_eq_emod_of_nonneg]
      refine callR q ?_
      simp (disch := omega) [gA, wrap_i64, wrap_u64, wrap_u32, Int.tdiv_eq_ediv_of_nonneg, Int.tmod_eq_emod_of_nonneg]
      refine callR o ?_
      simp (disch := omega) [gA, wrap_i64, wrap_u64, wrap_u32, Int.tdiv_eq_ediv_of_nonneg, Int.tmod_eq_emod_of_nonneg]
      refine callR f ?_
      simp (disch := omega) [gA, wrap_i64, wrap_u64, wrap_u32, Int.tdiv_eq_ediv_of_nonneg, Int.tmod_eq_emod_of_nonneg]
      refine callR hw ?_
      simp (disch := omega) [gA, wrap_i64, wrap_u64, wrap_u32, Int.tdiv_eq_ediv_of_nonneg, Int.tmod_eq_emod_of_nonneg]
      refine hK _ (W.liveK [2] fun K2 hK2 => ?_); clear hK K; simp; refine hK2 _ ?_; clear hK2 K2
      refine W.ret ?_
      simp [go]
    · cases h
  · have o1 : Ret env.P 5 [.sl [[.int .i64 n]]] (Po (ZX.K n).l) := pOf_ret [n] (by simp) (by simp; omega)
    have o2 : Ret env.P 5 [.sl [[.int .i64 0], [.int .i64 1]]] (Po (ZX.of [0, 1]).l) := pOf_ret [0, 1] (by decide) (by decide)
    have hN := ZX.N_K h0
    have bc : BZ 64 3 (ZX.K n) := ⟨by show ZX.N (ZX.K n) ≤ 3; omega, fun d hd => sz_le (by decide) (by
      have h1 : (ZX.K n).l = [n] := by
        show cutR [n] = [n]
        exact cutR_ne h0 []
      rw [h1] at hd
      have : d = n := by simpa using hd
      subst this
      show d.natAbs < 18446744073709551616
      omega)⟩
    have bt : BZ 64 3 (ZX.of [0, 1]) := (small_bz (n := 3) (by decide) (by decide)).mono (by decide) (Nat.le_refl _)
    have nc : ZX.K n ≠ 0 := ZX.ne_zero.2 (by show 0 < ZX.N (ZX.K n); omega)
    have y : Lay 64 3 (ZX.K n) := ⟨bc, by decide, by decide, by decide⟩
    have e1 : nf (ZX.K n) = 1 := (nf_Nf nc).N1 (by rw [N_nf]; omega)
    have g1 := E.gcd1 bc
    rw [e1] at g1
    have g2 := E.cop bc bt
    rw [show gz (ZX.K n) (ZX.of [0, 1]) = 1 from (gz_Nf (.inl nc)).N1 (Nat.le_trans ((gz_isG _ _).l.N_le nc) (by omega)), show decide (ZX.N (1 : ZX) = 1) = true from by decide] at g2
    have q := Square_ret y
    rw [show sq (ZX.K n) = 1 from by unfold sq; rw [if_pos (by omega), e1]] at q
    have o := Odd_ret y nc
    rw [e1, show oz 1 = 1 from by unfold oz; rw [nl_small (by decide)]; rfl] at o
    have f := Factors_ret y
    rw [e1, fl_one (by decide)] at f
    replace f : Ret env.P 10 [Po (ZX.K n).l] (.sl []) := f
    have i1 : Ret env.P 13 [PI (1 : ZX).l, Po (1 : ZX).l] (.bool true) := isZ_ret (n := 1) (small_bz (by decide) (by decide)) (by decide) (by decide)
    have q1 := qOne_ret
    generalize (ZX.K n).l = c at *
    generalize (ZX.of [0, 1]).l = t at *
    generalize (1 : ZX).l = one at *
    have hb : (n == 0) = false := by rw [beq_eq_false_iff_ne]; exact h0
    refine ret_of_Wf (E := env) (fun _ => 0) [(0, .int .i64 n)] Try.func3 rfl (by kernel_rfl) (by kernel_rfl) (show 1 ≤ 75 by decide) (by simp) ?_
    refine W.sreg (fun K hK => ?_); simp (disch := omega) [gA, wrap_i64, wrap_u64, wrap_u32, Int.tdiv_eq_ediv_of_nonneg, Int.tmod_eq_emod_of_nonneg]; refine hK _ (W.liveK [0] fun K2 hK2 => ?_); clear hK K; simp; refine hK2 _ ?_; clear hK2 K2
    refine W.sreg (fun K hK => ?_)
    simp (disch := omega) [gA, wrap_i64, wrap_u64, wrap_u32, Int.tdiv_eq_ediv_of_nonneg, Int.tmod_eq_emod_of_nonneg]
    refine callR o1 ?_
    simp (disch := omega) [gA, wrap_i64, wrap_u64, wrap_u32, Int.tdiv_eq_ediv_of_nonneg, Int.tmod_eq_emod_of_nonneg]
    refine hK _ (W.liveK [0, 3] fun K2 hK2 => ?_); clear hK K; simp; refine hK2 _ ?_; clear hK2 K2
    refine W.seq ?_
    refine W.sreg (fun K hK => ?_); simp (disch := omega) [gA, wrap_i64, wrap_u64, wrap_u32, Int.tdiv_eq_ediv_of_nonneg, Int.tmod_eq_emod_of_nonneg]; refine hK _ (W.liveK [3, 9] fun K2 hK2 => ?_); clear hK K; simp; refine hK2 _ ?_; clear hK2 K2
    refine W.cond ⟨_, rfl, fun h => ?_, fun h => ?_⟩   -- t9
    · simp at h; exact absurd h h0
    clear h
    refine W.skip ?_
    refine W.sreg (fun K hK => ?_)
    simp (disch := omega) [gA, wrap_i64, wrap_u64, wrap_u32, Int.tdiv_eq_ediv_of_nonneg, Int.tmod_eq_emod_of_nonneg]
    refine callR q1 ?_
    simp (disch := omega) [gA, wrap_i64, wrap_u64, wrap_u32, Int.tdiv_eq_ediv_of_nonneg, Int.tmod_eq_emod_of_nonneg]
    refine hK _ (W.liveK [3, 4] fun K2 hK2 => ?_); clear hK K; simp; refine hK2 _ ?_; clear hK2 K2
    refine W.sreg (fun K hK => ?_)
    simp (disch := omega) [gA, wrap_i64, wrap_u64, wrap_u32, Int.tdiv_eq_ediv_of_nonneg, Int.tmod_eq_emod_of_nonneg]
    refine callR g1 ?_
    simp (disch := omega) [gA, wrap_i64, wrap_u64, wrap_u32, Int.tdiv_eq_ediv_of_nonneg, Int.tmod_eq_emod_of_nonneg]
    refine callR i1 ?_
    simp (disch := omega) [gA, wrap_i64, wrap_u64, wrap_u32, Int.tdiv_eq_ediv_of_nonneg, Int.tmod_eq_emod_of_nonneg]
    refine callR o2 ?_
    simp (disch := omega) [gA, wrap_i64, wrap_u64, wrap_u32, Int.tdiv_eq_ediv_of_nonneg, Int.tmod_eq_emod_of_nonneg]
    refine callR g2 ?_
    simp (disch := omega) [gA, wrap_i64, wrap_u64, wrap_u32, Int.tdiv_eq_ediv_of_nonneg, Int.tmod_eq_emod_of_nonneg]
    refine callR q ?_
    simp (disch := omega) [gA, wrap_i64, wrap_u64, wrap_u32, Int.tdiv_eq_ediv_of_nonneg, Int.tmod_eq_emod_of_nonneg]
    refine callR i1 ?_
    simp (disch := omega) [gA, wrap_i64, wrap_u64, wrap_u32, Int.tdiv_eq_ediv_of_nonneg, Int.tmod_eq_emod_of_nonneg]
    refine callR o ?_
    simp (disch := omega) [gA, wrap_i64, wrap_u64, wrap_u32, Int.tdiv_eq_ediv_of_nonneg, Int.tmod_eq_emod_of_nonneg]
    refine callR i1 ?_
    simp (disch := omega) [gA, wrap_i64, wrap_u64, wrap_u32, Int.tdiv_eq_ediv_of_nonneg, Int.tmod_eq_emod_of_nonneg]
    refine callR f ?_
    simp (disch := omega) [gA, wrap_i64, wrap_u64, wrap_u32, Int.tdiv_eq_ediv_of_nonneg, Int.tmod_eq_emod_of_nonneg]
    refine callR hw ?_
    simp (disch := omega) [gA, wrap_i64, wrap_u64, wrap_u32, Int.tdiv_eq_ediv_of_nonneg, Int.tmod_eq_emod_of_nonneg]
    refine hK _ (W.liveK [2] fun K2 hK2 => ?_); clear hK K; simp; refine hK2 _ ?_; clear hK2 K2
    refine W.ret ?_
    simp [go]
end Go.Proofs.Ytgebobdieekjaaa
