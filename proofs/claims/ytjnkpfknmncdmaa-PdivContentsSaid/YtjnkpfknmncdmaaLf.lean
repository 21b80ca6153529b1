import Derived.Test.YtjnkpfknmncdmaaLe
set_option linter.unusedSimpArgs false
set_option linter.unusedVariables false
namespace Go.Proofs.Ytjnkpfknmncdmaa
open Go Pm

/-- A number as api has it, in any form. -/
abbrev IV (neg : Bool) (l : List Int) : PV := .ag [.bool neg, us l]
def iv (neg : Bool) (l : List Int) : Int := if neg = true then - V 4294967296 l else V 4294967296 l
/-- A number, normal. -/
abbrev I (x : Int) : PV := IV (decide (x < 0)) (dig LL x.natAbs)
structure LOK (l : List Int) : Prop where
  lim : Lim 4294967296 l
  len : l.length < 1099511627776

theorem made_ret (y : Int) (hy : 0 ≤ y) (neg : Bool) : Ret env.P 104 [N y, .bool neg] (I (if neg = true then -y else y)) := by
  refine ret_of_Wf (E := env) (fun _ => 0) [(0, N y), (1, .bool neg)] Try.func104 rfl (by kernel_rfl) (by kernel_rfl) (show 2 ≤ 13 by decide) (by simp) ?_
  refine W.sreg (fun K hK => ?_)
  simp (disch := omega) [gA, wrap_i64, wrap_u64, wrap_u32, Int.tdiv_eq_ediv_of_nonneg, Int.tmod_eq_emod_of_nonneg]
  refine hK _ (W.liveK [0, 1, 4] fun K2 hK2 => ?_); clear hK K; simp; refine hK2 _ ?_; clear hK2 K2
  have e0 : (dig LL y.toNat = []) ↔ y = 0 := by rw [dig_eq_nil hLL]; omega
  have e : I (if neg = true then -y else y) = .ag [.bool (neg && decide (0 < (dig LL y.toNat).length)), N y] := by
    have h1 : 0 < (dig LL y.toNat).length ↔ y ≠ 0 := by
      rw [List.length_pos_iff]; simp [e0]
    have e2 : (if neg = true then -y else y).natAbs = y.toNat := by split <;> omega
    have e3 : (decide ((if neg = true then -y else y) < 0)) = (neg && decide (0 < (dig LL y.toNat).length)) := by
      cases neg
      · simp only [Bool.false_and, Bool.false_eq_true, if_false, decide_eq_false_iff_not]; omega
      · simp only [Bool.true_and, if_true, h1]; congr 1; apply propext; omega
    rw [I, e2, e3]
  rw [e]
  refine W.sreg (fun K hK => ?_)
  cases neg
  · simp (disch := omega) [gA, wrap_i64, wrap_u64, wrap_u32, Int.tdiv_eq_ediv_of_nonneg, Int.tmod_eq_emod_of_nonneg]
    refine hK _ (W.liveK [4] fun K2 hK2 => ?_); clear hK K; simp; refine hK2 _ ?_; clear hK2 K2
    refine W.ret ?_
    simp [go]
  · simp (disch := omega) [gA, wrap_i64, wrap_u64, wrap_u32, Int.tdiv_eq_ediv_of_nonneg, Int.tmod_eq_emod_of_nonneg]
    refine hK _ (W.liveK [4] fun K2 hK2 => ?_); clear hK K; simp; refine hK2 _ ?_; clear hK2 K2
    refine W.ret ?_
    simp [go]

theorem V_pos {l : List Int} (h : LOK l) : 0 ≤ V 4294967296 l := V_nonneg (by decide) h.lim

theorem wNorm_ret (n : Bool) (l : List Int) (h : LOK l) : Ret env.P 67 [IV n l] (I (iv n l)) := by
  refine ret_of_Wf (E := env) (fun _ => 0) [(0, IV n l)] Try.func67 rfl (by kernel_rfl) (by kernel_rfl) (show 1 ≤ 9 by decide) (by simp) ?_
  refine W.sreg (fun K hK => ?_)
  simp (disch := omega) [gA, wrap_i64, wrap_u64, wrap_u32, Int.tdiv_eq_ediv_of_nonneg, Int.tmod_eq_emod_of_nonneg]
  refine hK _ (W.liveK [1, 2] fun K2 hK2 => ?_); clear hK K; simp; refine hK2 _ ?_; clear hK2 K2
  refine W.sdrw (fun K hK => ?_)
  simp (disch := omega) [gA, wrap_i64, wrap_u64, wrap_u32, Int.tdiv_eq_ediv_of_nonneg, Int.tmod_eq_emod_of_nonneg]
  refine callR (Norm_ret l h.len h.lim) ?_
  simp (disch := omega) [gA, wrap_i64, wrap_u64, wrap_u32, Int.tdiv_eq_ediv_of_nonneg, Int.tmod_eq_emod_of_nonneg]
  refine callR (made_ret _ (V_pos h) n) ?_
  simp (disch := omega) [gA, wrap_i64, wrap_u64, wrap_u32, Int.tdiv_eq_ediv_of_nonneg, Int.tmod_eq_emod_of_nonneg]
  refine hK _ (W.liveK [2] fun K2 hK2 => ?_); clear hK K; simp; refine hK2 _ ?_; clear hK2 K2
  refine W.ret ?_
  simp [go, iv]

theorem wNeg_ret (n : Bool) (l : List Int) (h : LOK l) : Ret env.P 75 [IV n l] (I (- iv n l)) := by
  refine ret_of_Wf (E := env) (fun _ => 0) [(0, IV n l)] Try.func75 rfl (by kernel_rfl) (by kernel_rfl) (show 1 ≤ 10 by decide) (by simp) ?_
  have e : - iv n l = if (!n) = true then - V 4294967296 l else V 4294967296 l := by cases n <;> simp [iv]
  rw [e]
  refine W.sreg (fun K hK => ?_)
  simp (disch := omega) [gA, wrap_i64, wrap_u64, wrap_u32, Int.tdiv_eq_ediv_of_nonneg, Int.tmod_eq_emod_of_nonneg]
  refine hK _ (W.liveK [1, 2] fun K2 hK2 => ?_); clear hK K; simp; refine hK2 _ ?_; clear hK2 K2
  refine W.sdrw (fun K hK => ?_)
  simp (disch := omega) [gA, wrap_i64, wrap_u64, wrap_u32, Int.tdiv_eq_ediv_of_nonneg, Int.tmod_eq_emod_of_nonneg]
  refine callR (Norm_ret l h.len h.lim) ?_
  simp (disch := omega) [gA, wrap_i64, wrap_u64, wrap_u32, Int.tdiv_eq_ediv_of_nonneg, Int.tmod_eq_emod_of_nonneg]
  refine callR (made_ret _ (V_pos h) (!n)) ?_
  simp (disch := omega) [gA, wrap_i64, wrap_u64, wrap_u32, Int.tdiv_eq_ediv_of_nonneg, Int.tmod_eq_emod_of_nonneg]
  refine hK _ (W.liveK [2] fun K2 hK2 => ?_); clear hK K; simp; refine hK2 _ ?_; clear hK2 K2
  refine W.ret ?_
  simp [go]

theorem wMul_ret (n m : Bool) (l k : List Int) (h : LOK l) (h' : LOK k) : Ret env.P 56 [IV n l, IV m k] (I (iv n l * iv m k)) := by
  refine ret_of_Wf (E := env) (fun _ => 0) [(0, IV n l), (1, IV m k)] Try.func56 rfl (by kernel_rfl) (by kernel_rfl) (show 2 ≤ 16 by decide) (by simp) ?_
  have e : iv n l * iv m k = if (n != m) = true then - (V 4294967296 l * V 4294967296 k) else V 4294967296 l * V 4294967296 k := by cases n <;> cases m <;> simp [iv, Int.neg_mul, Int.mul_neg]
  rw [e]
  refine W.sreg (fun K hK => ?_)
  simp (disch := omega) [gA, wrap_i64, wrap_u64, wrap_u32, Int.tdiv_eq_ediv_of_nonneg, Int.tmod_eq_emod_of_nonneg]
  refine hK _ (W.liveK [2, 3, 4] fun K2 hK2 => ?_); clear hK K; simp; refine hK2 _ ?_; clear hK2 K2
  refine W.sdrw (fun K hK => ?_)
  simp (disch := omega) [gA, wrap_i64, wrap_u64, wrap_u32, Int.tdiv_eq_ediv_of_nonneg, Int.tmod_eq_emod_of_nonneg]
  refine callR (Mul_ret l k h.len h'.len h.lim h'.lim) ?_
  simp (disch := omega) [gA, wrap_i64, wrap_u64, wrap_u32, Int.tdiv_eq_ediv_of_nonneg, Int.tmod_eq_emod_of_nonneg]
  refine callR (made_ret _ (Int.mul_nonneg (V_pos h) (V_pos h')) (n != m)) ?_
  simp (disch := omega) [gA, wrap_i64, wrap_u64, wrap_u32, Int.tdiv_eq_ediv_of_nonneg, Int.tmod_eq_emod_of_nonneg]
  refine hK _ (W.liveK [4] fun K2 hK2 => ?_); clear hK K; simp; refine hK2 _ ?_; clear hK2 K2
  refine W.ret ?_
  simp [go]

theorem wAdd_ret (n m : Bool) (l k : List Int) (h : LOK l) (h' : LOK k) : Ret env.P 70 [IV n l, IV m k] (I (iv n l + iv m k)) := by
  refine ret_of_Wf (E := env) (fun _ => 0) [(0, IV n l), (1, IV m k)] Try.func70 rfl (by kernel_rfl) (by kernel_rfl) (show 2 ≤ 47 by decide) (by simp) ?_
  have p1 := V_pos h
  have p2 := V_pos h'
  refine W.sreg (fun K hK => ?_)
  simp (disch := omega) [gA, wrap_i64, wrap_u64, wrap_u32, Int.tdiv_eq_ediv_of_nonneg, Int.tmod_eq_emod_of_nonneg]
  refine hK _ (W.liveK [2, 3, 4] fun K2 hK2 => ?_); clear hK K; simp; refine hK2 _ ?_; clear hK2 K2
  refine W.seq ?_
  refine W.sreg (fun K hK => ?_)
  simp (disch := omega) [gA, wrap_i64, wrap_u64, wrap_u32, Int.tdiv_eq_ediv_of_nonneg, Int.tmod_eq_emod_of_nonneg]
  refine hK _ (W.liveK [2, 3, 4, 13] fun K2 hK2 => ?_); clear hK K; simp; refine hK2 _ ?_; clear hK2 K2
  refine W.cond ⟨_, rfl, fun hb => ?_, fun hb => ?_⟩   -- t13
  · have hb : n = m := by simpa using hb
    subst hb
    have e : iv n l + iv n k = if n = true then - (V 4294967296 l + V 4294967296 k) else V 4294967296 l + V 4294967296 k := by cases n <;> simp [iv]; omega
    rw [e]
    refine W.sdrw (fun K hK => ?_)
    simp (disch := omega) [gA, wrap_i64, wrap_u64, wrap_u32, Int.tdiv_eq_ediv_of_nonneg, Int.tmod_eq_emod_of_nonneg]
    refine callR (Add_ret l k h.len h'.len h.lim h'.lim) ?_
    simp (disch := omega) [gA, wrap_i64, wrap_u64, wrap_u32, Int.tdiv_eq_ediv_of_nonneg, Int.tmod_eq_emod_of_nonneg]
    refine callR (made_ret _ (by omega) n) ?_
    simp (disch := omega) [gA, wrap_i64, wrap_u64, wrap_u32, Int.tdiv_eq_ediv_of_nonneg, Int.tmod_eq_emod_of_nonneg]
    refine hK _ (W.liveK [4] fun K2 hK2 => ?_); clear hK K; simp; refine hK2 _ ?_; clear hK2 K2
    refine W.ret ?_
    simp [go]
  · have hb : m = !n := by cases n <;> cases m <;> simp_all
    subst hb
    refine W.skip ?_
    refine W.seq ?_
    refine W.sreg (fun K hK => ?_)
    simp (disch := omega) [gA, wrap_i64, wrap_u64, wrap_u32, Int.tdiv_eq_ediv_of_nonneg, Int.tmod_eq_emod_of_nonneg]
    refine callR (Sub_ret l k h.len h'.len h.lim h'.lim) ?_
    by_cases hlt : V 4294967296 l < V 4294967296 k
    · simp (disch := omega) [gA, wrap_i64, wrap_u64, wrap_u32, Int.tdiv_eq_ediv_of_nonneg, Int.tmod_eq_emod_of_nonneg, subR, hlt]
      refine hK _ (W.liveK [2, 3, 4, 5, 6] fun K2 hK2 => ?_); clear hK K; simp; refine hK2 _ ?_; clear hK2 K2
      refine W.sreg (fun K hK => ?_)
      simp (disch := omega) [gA, wrap_i64, wrap_u64, wrap_u32, Int.tdiv_eq_ediv_of_nonneg, Int.tmod_eq_emod_of_nonneg]
      refine hK _ (W.liveK [2, 3, 4, 5, 30] fun K2 hK2 => ?_); clear hK K; simp; refine hK2 _ ?_; clear hK2 K2
      refine W.cond ⟨_, rfl, fun hb => ?_, fun hb => ?_⟩   -- t30
      · cases hb
      · refine W.skip ?_
        refine W.sreg (fun K hK => ?_)
        simp (disch := omega) [gA, wrap_i64, wrap_u64, wrap_u32, Int.tdiv_eq_ediv_of_nonneg, Int.tmod_eq_emod_of_nonneg]
        refine callR (Sub_ret k l h'.len h.len h'.lim h.lim) ?_
        rw [subR, if_neg (by omega)]
        simp (disch := omega) [gA, wrap_i64, wrap_u64, wrap_u32, Int.tdiv_eq_ediv_of_nonneg, Int.tmod_eq_emod_of_nonneg]
        refine hK _ (W.liveK [3, 4, 7] fun K2 hK2 => ?_); clear hK K; simp; refine hK2 _ ?_; clear hK2 K2
        refine W.sreg (fun K hK => ?_)
        simp (disch := omega) [gA, wrap_i64, wrap_u64, wrap_u32, Int.tdiv_eq_ediv_of_nonneg, Int.tmod_eq_emod_of_nonneg]
        refine callR (made_ret _ (by omega) (!n)) ?_
        simp (disch := omega) [gA, wrap_i64, wrap_u64, wrap_u32, Int.tdiv_eq_ediv_of_nonneg, Int.tmod_eq_emod_of_nonneg]
        refine hK _ (W.liveK [4] fun K2 hK2 => ?_); clear hK K; simp; refine hK2 _ ?_; clear hK2 K2
        refine W.ret ?_
        have e : iv n l + iv (!n) k = if (!n) = true then - (V 4294967296 k - V 4294967296 l) else V 4294967296 k - V 4294967296 l := by cases n <;> simp [iv] <;> omega
        rw [e]
        simp [go]
    · simp (disch := omega) [gA, wrap_i64, wrap_u64, wrap_u32, Int.tdiv_eq_ediv_of_nonneg, Int.tmod_eq_emod_of_nonneg, subR, hlt]
      refine hK _ (W.liveK [2, 3, 4, 5, 6] fun K2 hK2 => ?_); clear hK K; simp; refine hK2 _ ?_; clear hK2 K2
      refine W.sreg (fun K hK => ?_)
      simp (disch := omega) [gA, wrap_i64, wrap_u64, wrap_u32, Int.tdiv_eq_ediv_of_nonneg, Int.tmod_eq_emod_of_nonneg]
      refine hK _ (W.liveK [2, 3, 4, 5, 30] fun K2 hK2 => ?_); clear hK K; simp; refine hK2 _ ?_; clear hK2 K2
      refine W.cond ⟨_, rfl, fun hb => ?_, fun hb => ?_⟩   -- t30
      · refine W.sreg (fun K hK => ?_)
        simp (disch := omega) [gA, wrap_i64, wrap_u64, wrap_u32, Int.tdiv_eq_ediv_of_nonneg, Int.tmod_eq_emod_of_nonneg]
        refine callR (made_ret _ (by omega) n) ?_
        simp (disch := omega) [gA, wrap_i64, wrap_u64, wrap_u32, Int.tdiv_eq_ediv_of_nonneg, Int.tmod_eq_emod_of_nonneg]
        refine hK _ (W.liveK [4] fun K2 hK2 => ?_); clear hK K; simp; refine hK2 _ ?_; clear hK2 K2
        refine W.ret ?_
        have e : iv n l + iv (!n) k = if n = true then - (V 4294967296 l - V 4294967296 k) else V 4294967296 l - V 4294967296 k := by cases n <;> simp [iv] <;> omega
        rw [e]
        simp [go]
      · cases hb

theorem wSub_ret (n m : Bool) (l k : List Int) (h : LOK l) (h' : LOK k) : Ret env.P 112 [IV n l, IV m k] (I (iv n l - iv m k)) := by
  refine ret_of_Wf (E := env) (fun _ => 0) [(0, IV n l), (1, IV m k)] Try.func112 rfl (by kernel_rfl) (by kernel_rfl) (show 2 ≤ 12 by decide) (by simp) ?_
  have e : iv n l - iv m k = iv n l + iv (!m) k := by cases m <;> simp [iv] <;> omega
  rw [e]
  refine W.sreg (fun K hK => ?_)
  simp (disch := omega) [gA, wrap_i64, wrap_u64, wrap_u32, Int.tdiv_eq_ediv_of_nonneg, Int.tmod_eq_emod_of_nonneg]
  refine hK _ (W.liveK [2, 3, 4] fun K2 hK2 => ?_); clear hK K; simp; refine hK2 _ ?_; clear hK2 K2
  refine W.sreg (fun K hK => ?_)
  simp (disch := omega) [gA, wrap_i64, wrap_u64, wrap_u32, Int.tdiv_eq_ediv_of_nonneg, Int.tmod_eq_emod_of_nonneg]
  refine hK _ (W.liveK [2, 3, 4] fun K2 hK2 => ?_); clear hK K; simp; refine hK2 _ ?_; clear hK2 K2
  refine W.sreg (fun K hK => ?_)
  simp (disch := omega) [gA, wrap_i64, wrap_u64, wrap_u32, Int.tdiv_eq_ediv_of_nonneg, Int.tmod_eq_emod_of_nonneg]
  refine callR (wAdd_ret n (!m) l k h h') ?_
  simp (disch := omega) [gA, wrap_i64, wrap_u64, wrap_u32, Int.tdiv_eq_ediv_of_nonneg, Int.tmod_eq_emod_of_nonneg]
  refine hK _ (W.liveK [4] fun K2 hK2 => ?_); clear hK K; simp; refine hK2 _ ?_; clear hK2 K2
  refine W.ret ?_
  simp [go]

theorem Of_ret (n : Int) (h1 : -9223372036854775808 ≤ n) (h2 : n < 9223372036854775808) : Ret env.P 55 [.int .i64 n] (I n) := by
  refine ret_of_Wf (E := env) (fun _ => 0) [(0, .int .i64 n)] Try.func55 rfl (by kernel_rfl) (by kernel_rfl) (show 1 ≤ 20 by decide) (by simp) ?_
  refine W.sreg (fun K hK => ?_)
  simp (disch := omega) [gA, wrap_i64, wrap_u64, wrap_u32, Int.tdiv_eq_ediv_of_nonneg, Int.tmod_eq_emod_of_nonneg]
  refine hK _ (W.liveK [0, 2] fun K2 hK2 => ?_); clear hK K; simp; refine hK2 _ ?_; clear hK2 K2
  refine W.sreg (fun K hK => ?_)
  simp (disch := omega) [gA, wrap_i64, wrap_u64, wrap_u32, Int.tdiv_eq_ediv_of_nonneg, Int.tmod_eq_emod_of_nonneg, wrap_u64']
  refine hK _ (W.liveK [0, 2, 3] fun K2 hK2 => ?_); clear hK K; simp; refine hK2 _ ?_; clear hK2 K2
  refine W.seqJ (fun σ => ∃ (w : Int) (rows : Pm.Rows) (clk : Nat), σ = ⟨fa [(0, .int .i64 n), (2, .ptr 2 0 0 0), (3, .int .u64 w)], rows, clk⟩ ∧ rows 2 = some ⟨0, 68, 2, [[.bool false, .nil]]⟩ ∧ w = n.natAbs ∧ 0 ≤ w ∧ w < 18446744073709551616) ?_ ?_
  ·
    refine W.sreg (fun K hK => ?_)
    simp (disch := omega) [gA, wrap_i64, wrap_u64, wrap_u32, Int.tdiv_eq_ediv_of_nonneg, Int.tmod_eq_emod_of_nonneg]
    refine hK _ (W.liveK [0, 2, 3, 7] fun K2 hK2 => ?_); clear hK K; simp; refine hK2 _ ?_; clear hK2 K2
    refine W.cond ⟨_, rfl, fun h => ?_, fun h => ?_⟩   -- t7
    · simp at h
      refine W.reg (fun K hK => ?_)
      simp [wrap_u64']
      exact hK _ ⟨_, Gh_fa _ [0, 2, 3], _, _, _, rfl, by simp, by omega, by omega, by omega⟩
    · simp at h
      refine W.skip ?_
      exact ⟨_, Gh_fa _ [0, 2, 3], _, _, _, rfl, by simp, by omega, by omega, by omega⟩
  rintro _ ⟨w, rows, clk, rfl, hr, hw, hw0, hw1⟩
  refine W.sreg (fun K hK => ?_)
  have e1 : V 4294967296 [w % 4294967296, w / 4294967296 % 4294967296] = w := by simp [V]; omega
  have lm : Lim 4294967296 [w % 4294967296, w / 4294967296 % 4294967296] := by
    intro x hx; simp at hx; omega
  simp [wrap_u32', hr]
  refine callR (Norm_ret [w % 4294967296, w / 4294967296 % 4294967296] (by simp) lm) ?_
  rw [e1]
  simp (disch := omega) [gA, wrap_i64, wrap_u64, wrap_u32, Int.tdiv_eq_ediv_of_nonneg, Int.tmod_eq_emod_of_nonneg, hr]
  refine callR (made_ret w hw0 (decide (n < 0))) ?_
  simp (disch := omega) [gA, wrap_i64, wrap_u64, wrap_u32, Int.tdiv_eq_ediv_of_nonneg, Int.tmod_eq_emod_of_nonneg, hr]
  refine hK _ (W.liveK [2] fun K2 hK2 => ?_); clear hK K; simp; refine hK2 _ ?_; clear hK2 K2
  refine W.ret ?_
  have e : (if n < 0 then -w else w) = n := by split <;> omega
  rw [e]
  simp [go]
end Go.Proofs.Ytjnkpfknmncdmaa
