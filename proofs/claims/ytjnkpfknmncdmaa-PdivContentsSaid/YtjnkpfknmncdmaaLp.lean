import Derived.Test.YtjnkpfknmncdmaaLo
set_option linter.unusedSimpArgs false
set_option linter.unusedVariables false
namespace Go.Proofs.Ytjnkpfknmncdmaa
open Go Pm

/-- How many binary digits, below 2^40. -/
abbrev Z (x : Int) : Prop := sz 2 x < 1099511627776
theorem sz_base {b : Nat} (hb : 2 ≤ b) (x : Int) : sz b x ≤ sz 2 x := by
  refine sz_le hb (Nat.lt_of_lt_of_le (sz_lt (b := 2) (by decide) x) ?_)
  exact Nat.pow_le_pow_left hb _
theorem dd_len (y : Int) : (dig DD y.natAbs).length ≤ sz 2 y := sz_base hDD y
theorem dd_len' {y : Int} (h : 0 ≤ y) : (dig DD y.toNat).length ≤ sz 2 y := by
  have := dd_len y
  rwa [show y.natAbs = y.toNat by omega] at this
theorem V_dd {y : Int} (h : 0 ≤ y) : V 10000 (dig DD y.toNat) = y := by
  have := V_dig hDD y.toNat
  simp only [show ((DD : Nat) : Int) = 10000 from rfl] at this
  rw [this]; omega
theorem V_dda (y : Int) : V 10000 (dig DD y.natAbs) = y.natAbs := by
  have := V_dig hDD y.natAbs
  simpa only [show ((DD : Nat) : Int) = 10000 from rfl] using this
theorem Lim_dd (n : Nat) : Lim 10000 (dig DD n) := Lim_dig hDD n
theorem V_ll (n : Nat) : V 4294967296 (dig LL n) = n := by
  have := V_dig hLL n
  simpa only [show ((LL : Nat) : Int) = 4294967296 from rfl] using this
theorem sz2_V {l : List Int} (h : Lim 4294967296 l) : sz 2 (V 4294967296 l) ≤ 32 * l.length := by
  refine sz_le (by decide) ?_
  have h1 := V_lt (b := (4294967296 : Int)) (by decide) h
  have h2 := V_nonneg (b := (4294967296 : Int)) (by decide) h
  have h3 : ((4294967296 : Int) ^ l.length) = ((2 ^ (32 * l.length) : Nat) : Int) := by rw [Nat.pow_mul]; simp
  rw [h3] at h1
  omega

theorem mulAdd_ret' (y m c : Int) (hy : 0 ≤ y) (hz : Z y) (hm0 : 0 ≤ m) (hm1 : m ≤ 65536) (hc0 : 0 ≤ c) (hc1 : c ≤ 65536) : Ret env.P 113 [Dn y, .int .i64 m, .int .i64 c] (Dn (y * m + c)) := by
  have := mulAdd_ret (dig DD y.toNat) m c (by have := dd_len' hy; omega) (Lim_dd _) hm0 hm1 hc0 hc1
  rwa [V_dd hy] at this

theorem FromN_ret (l : List Int) (hl : l.length ≤ 17179869184) (hm : Lim 4294967296 l) : Ret env.P 88 [us l] (Dn (V 4294967296 l)) := by
  refine ret_of_Wf (E := env) (fun _ => 0) [(0, us l)] Try.func88 rfl (by kernel_rfl) (by kernel_rfl) (show 1 ≤ 29 by decide) (by simp) ?_
  refine W.sreg (fun K hK => ?_); simp (disch := omega) [gA, wrap_i64, wrap_u64, wrap_u32, Int.tdiv_eq_ediv_of_nonneg, Int.tmod_eq_emod_of_nonneg]; refine hK _ (W.liveK [0] fun K2 hK2 => ?_); clear hK K; simp; refine hK2 _ ?_; clear hK2 K2
  refine W.sreg (fun K hK => ?_); simp (disch := omega) [gA, wrap_i64, wrap_u64, wrap_u32, Int.tdiv_eq_ediv_of_nonneg, Int.tmod_eq_emod_of_nonneg]; refine hK _ (W.liveK [0, 3] fun K2 hK2 => ?_); clear hK K; simp; refine hK2 _ ?_; clear hK2 K2
  refine W.nils 3 (Dn 0) (by simp) rfl (fun K hK => ?_)
  refine hK _ (W.liveK [0, 3] fun K2 hK2 => ?_); clear hK K; simp; refine hK2 _ ?_; clear hK2 K2
  refine W.seq ?_
  refine W.sreg (fun K hK => ?_); simp (disch := omega) [gA, wrap_i64, wrap_u64, wrap_u32, Int.tdiv_eq_ediv_of_nonneg, Int.tmod_eq_emod_of_nonneg]; refine hK _ (W.liveK [0, 3, 4] fun K2 hK2 => ?_); clear hK K; simp; refine hK2 _ ?_; clear hK2 K2
  refine W.block ?_   -- block 0
  refine W.loopG (fun k σ => ∃ (rows : Pm.Rows) (clk : Nat), σ = ⟨fa [(0, us l), (3, Dn (V 4294967296 (l.drop k))), (4, .int .i64 ((k : Int) - 1))], rows, clk⟩ ∧ k ≤ l.length) l.length ?_ ?_
  · exact ⟨_, Gh.fr [(0, us l), (3, Dn (V 4294967296 (l.drop l.length))), (4, .int .i64 ((l.length : Int) - 1))] (by simp [V]), _, _, rfl, by omega⟩
  rintro k _ ⟨rows, clk, rfl, hk⟩
  have h0 := V_nonneg (b := 4294967296) (by decide) (hm.drop k)
  have hs : sz 2 (V 4294967296 (l.drop k)) ≤ 32 * (l.length - k) := by have := sz2_V (hm.drop k); simpa using this
  refine W.seq ?_
  refine W.sreg (fun K hK => ?_); simp (disch := omega) [gA, wrap_i64, wrap_u64, wrap_u32, Int.tdiv_eq_ediv_of_nonneg, Int.tmod_eq_emod_of_nonneg]; refine hK _ (W.liveK [0, 3, 4, 9] fun K2 hK2 => ?_); clear hK K; simp; refine hK2 _ ?_; clear hK2 K2
  refine W.cond ⟨_, rfl, fun h => ?_, fun h => ?_⟩   -- t9
  · simp at h
    have hx := hm.nth (i := k - 1) (by omega)
    have hd : V 4294967296 (l.drop (k - 1)) = nth l (k - 1) + 4294967296 * V 4294967296 (l.drop k) := by
      rw [drop_nth (i := k - 1) (by omega), show k - 1 + 1 = k by omega]; rfl
    refine W.skip ?_
    refine W.seq ?_
    refine W.block ?_   -- block 1
    refine W.sreg (fun K hK => ?_)
    have hk1 : ((k : Int) - 1).toNat = k - 1 := by omega
    simp (disch := omega) [gA, wrap_i64, wrap_u64, wrap_u32, Int.tdiv_eq_ediv_of_nonneg, Int.tmod_eq_emod_of_nonneg, hk1]
    refine callR (mulAdd_ret' _ 65536 _ h0 (by omega) (by decide) (by decide) (by omega) (by omega)) ?_
    simp (disch := omega) [gA, wrap_i64, wrap_u64, wrap_u32, Int.tdiv_eq_ediv_of_nonneg, Int.tmod_eq_emod_of_nonneg]
    refine hK _ (W.liveK [0, 3, 4] fun K2 hK2 => ?_); clear hK K; simp; refine hK2 _ ?_; clear hK2 K2
    have h1 : 0 ≤ V 4294967296 (l.drop k) * 65536 + nth l (k - 1) / 65536 := by omega
    have h2 : sz 2 (V 4294967296 (l.drop k) * 65536 + nth l (k - 1) / 65536) ≤ 32 * l.length := by
      have h3 := sz2_V (hm.drop (k - 1))
      refine Nat.le_trans (sz_mono (by decide) (y := V 4294967296 (l.drop (k - 1))) (by omega)) ?_
      simp at h3; omega
    refine W.reg (fun K hK => ?_)
    simp (disch := omega) [gA, wrap_i64, wrap_u64, wrap_u32, Int.tdiv_eq_ediv_of_nonneg, Int.tmod_eq_emod_of_nonneg, hk1]
    refine callR (mulAdd_ret' _ 65536 _ h1 (by omega) (by decide) (by decide) (by omega) (by omega)) ?_
    simp (disch := omega) [gA, wrap_i64, wrap_u64, wrap_u32, Int.tdiv_eq_ediv_of_nonneg, Int.tmod_eq_emod_of_nonneg]
    refine hK _ (W.liveK [0, 3, 4] fun K2 hK2 => ?_); clear hK K; simp; refine hK2 _ ?_; clear hK2 K2
    refine W.reg (fun K hK => ?_); simp (disch := omega) [gA, wrap_i64, wrap_u64, wrap_u32, Int.tdiv_eq_ediv_of_nonneg, Int.tmod_eq_emod_of_nonneg]
    refine hK _ ⟨k - 1, _, Gh.fr [(0, us l), (3, Dn (V 4294967296 (l.drop (k - 1)))), (4, .int .i64 (((k - 1 : Nat) : Int) - 1))] ?_, by omega, _, _, rfl, by omega⟩
    have e : (V 4294967296 (l.drop k) * 65536 + nth l (k - 1) / 65536) * 65536 + nth l (k - 1) % 65536 = V 4294967296 (l.drop (k - 1)) := by omega
    simp [e]; omega
  · simp at h
    have hk0 : k = 0 := by omega
    subst hk0
    refine W.exit ?_; simp only [pblk_exit, pblk_normal, pblk_ret, pseq_exit, pseq_normal, pseq_ret, pnor_exit, pnor_normal, pnor_ret, if_true, if_false, reduceIte, Nat.reduceEqDiff]
    refine W.sreg (fun K hK => ?_); simp (disch := omega) [gA, wrap_i64, wrap_u64, wrap_u32, Int.tdiv_eq_ediv_of_nonneg, Int.tmod_eq_emod_of_nonneg]; refine hK _ (W.liveK [2] fun K2 hK2 => ?_); clear hK K; simp; refine hK2 _ ?_; clear hK2 K2
    refine W.ret ?_
    simp

/-- A whole number as it is reckoned with. -/
abbrev RI (x : Int) : PV := .ag [sls i64e (dig DD x.natAbs), .bool (decide (x < 0))]
theorem rmade_ret (y : Int) (hy : 0 ≤ y) (neg : Bool) : Ret env.P 87 [Dn y, .bool neg] (RI (if neg = true then -y else y)) := by
  refine ret_of_Wf (E := env) (fun _ => 0) [(0, Dn y), (1, .bool neg)] Try.func87 rfl (by kernel_rfl) (by kernel_rfl) (show 2 ≤ 13 by decide) (by simp) ?_
  refine W.sreg (fun K hK => ?_); simp (disch := omega) [gA, wrap_i64, wrap_u64, wrap_u32, Int.tdiv_eq_ediv_of_nonneg, Int.tmod_eq_emod_of_nonneg]; refine hK _ (W.liveK [0, 1, 4] fun K2 hK2 => ?_); clear hK K; simp; refine hK2 _ ?_; clear hK2 K2
  have e0 : (dig DD y.toNat = []) ↔ y = 0 := by rw [dig_eq_nil hDD]; omega
  have e : RI (if neg = true then -y else y) = .ag [Dn y, .bool (neg && decide (0 < (dig DD y.toNat).length))] := by
    have h1 : 0 < (dig DD y.toNat).length ↔ y ≠ 0 := by
      rw [List.length_pos_iff]; simp [e0]
    have e2 : (if neg = true then -y else y).natAbs = y.toNat := by split <;> omega
    have e3 : (decide ((if neg = true then -y else y) < 0)) = (neg && decide (0 < (dig DD y.toNat).length)) := by
      cases neg
      · simp only [Bool.false_and, Bool.false_eq_true, if_false, decide_eq_false_iff_not]; omega
      · simp only [Bool.true_and, if_true, h1]; congr 1; apply propext; omega
    rw [RI, e2, e3]
  rw [e]
  refine W.sreg (fun K hK => ?_)
  cases neg
  · simp (disch := omega) [gA, wrap_i64, wrap_u64, wrap_u32, Int.tdiv_eq_ediv_of_nonneg, Int.tmod_eq_emod_of_nonneg]
    refine hK _ (W.liveK [4] fun K2 hK2 => ?_); clear hK K; simp; refine hK2 _ ?_; clear hK2 K2
    refine W.ret ?_
    simp [go]
  · simp (disch := omega) [gA, wrap_i64, wrap_u64, wrap_u32, Int.tdiv_eq_ediv_of_nonneg, Int.tmod_eq_emod_of_nonneg]
    refine hK _ (W.liveK [4] fun K2 hK2 => ?_); clear hK K; simp; refine hK2 _ ?_; clear hK2 K2
    refine W.ret ?_
    simp [go]

theorem rFrom_ret (n : Bool) (l : List Int) (hl : l.length ≤ 17179869184) (hm : Lim 4294967296 l) : Ret env.P 39 [IV n l] (RI (iv n l)) := by
  refine ret_of_Wf (E := env) (fun _ => 0) [(0, IV n l)] Try.func39 rfl (by kernel_rfl) (by kernel_rfl) (show 1 ≤ 9 by decide) (by simp) ?_
  refine W.sreg (fun K hK => ?_); simp (disch := omega) [gA, wrap_i64, wrap_u64, wrap_u32, Int.tdiv_eq_ediv_of_nonneg, Int.tmod_eq_emod_of_nonneg]; refine hK _ (W.liveK [1, 2] fun K2 hK2 => ?_); clear hK K; simp; refine hK2 _ ?_; clear hK2 K2
  refine W.sdrw (fun K hK => ?_)
  simp (disch := omega) [gA, wrap_i64, wrap_u64, wrap_u32, Int.tdiv_eq_ediv_of_nonneg, Int.tmod_eq_emod_of_nonneg]
  refine callR (FromN_ret l hl hm) ?_
  simp (disch := omega) [gA, wrap_i64, wrap_u64, wrap_u32, Int.tdiv_eq_ediv_of_nonneg, Int.tmod_eq_emod_of_nonneg]
  refine callR (rmade_ret _ (V_nonneg (by decide) hm) n) ?_
  simp (disch := omega) [gA, wrap_i64, wrap_u64, wrap_u32, Int.tdiv_eq_ediv_of_nonneg, Int.tmod_eq_emod_of_nonneg]
  refine hK _ (W.liveK [2] fun K2 hK2 => ?_); clear hK K; simp; refine hK2 _ ?_; clear hK2 K2
  refine W.ret ?_
  simp [go, iv]

theorem PowN_ret (n : Nat) (hn : n < 1099511627776) : Ret env.P 89 [.int .i64 n] (Dn (2 ^ n)) := by
  refine ret_of_Wf (E := env) (fun _ => 0) [(0, .int .i64 n)] Try.func89 rfl (by kernel_rfl) (by kernel_rfl) (show 1 ≤ 14 by decide) (by simp) ?_
  refine W.sreg (fun K hK => ?_); simp (disch := omega) [gA, wrap_i64, wrap_u64, wrap_u32, Int.tdiv_eq_ediv_of_nonneg, Int.tmod_eq_emod_of_nonneg]; refine hK _ (W.liveK [0] fun K2 hK2 => ?_); clear hK K; simp; refine hK2 _ ?_; clear hK2 K2
  refine W.sreg (fun K hK => ?_); simp (disch := omega) [gA, wrap_i64, wrap_u64, wrap_u32, Int.tdiv_eq_ediv_of_nonneg, Int.tmod_eq_emod_of_nonneg]; refine hK _ (W.liveK [0, 3] fun K2 hK2 => ?_); clear hK K; simp; refine hK2 _ ?_; clear hK2 K2
  refine W.slxs 3 [[.int .i64 1]] (Dn 1) (by simp) rfl (fun K hK => ?_)
  refine hK _ (W.liveK [0, 3] fun K2 hK2 => ?_); clear hK K; simp; refine hK2 _ ?_; clear hK2 K2
  refine W.seq ?_
  refine W.sreg (fun K hK => ?_); simp (disch := omega) [gA, wrap_i64, wrap_u64, wrap_u32, Int.tdiv_eq_ediv_of_nonneg, Int.tmod_eq_emod_of_nonneg]; refine hK _ (W.liveK [0, 3, 4] fun K2 hK2 => ?_); clear hK K; simp; refine hK2 _ ?_; clear hK2 K2
  refine W.block ?_   -- block 0
  refine W.loopG (fun k σ => ∃ (i : Nat) (rows : Pm.Rows) (clk : Nat), σ = ⟨fa [(0, .int .i64 n), (3, Dn (2 ^ i)), (4, .int .i64 i)], rows, clk⟩ ∧ k = n - i ∧ i ≤ n) n ?_ ?_
  · exact ⟨_, .refl, 0, _, _, rfl, by omega, by omega⟩
  rintro k _ ⟨i, rows, clk, rfl, hk, hi⟩
  refine W.seq ?_
  refine W.sreg (fun K hK => ?_); simp (disch := omega) [gA, wrap_i64, wrap_u64, wrap_u32, Int.tdiv_eq_ediv_of_nonneg, Int.tmod_eq_emod_of_nonneg]; refine hK _ (W.liveK [0, 3, 4, 8] fun K2 hK2 => ?_); clear hK K; simp; refine hK2 _ ?_; clear hK2 K2
  refine W.cond ⟨_, rfl, fun h => ?_, fun h => ?_⟩   -- t8
  · simp at h
    have hs : sz 2 (2 ^ i) ≤ i + 1 := by
      refine sz_le (by decide) ?_
      rw [show ((2 : Int) ^ i) = ((2 ^ i : Nat) : Int) by simp, Int.natAbs_natCast, Nat.pow_succ]
      have := Nat.pow_pos (n := i) (show 0 < 2 by decide)
      omega
    refine W.skip ?_
    refine W.seq ?_
    refine W.block ?_   -- block 1
    refine W.reg (fun K hK => ?_)
    simp (disch := omega) [gA, wrap_i64, wrap_u64, wrap_u32, Int.tdiv_eq_ediv_of_nonneg, Int.tmod_eq_emod_of_nonneg]
    refine callR (mulAdd_ret' (2 ^ i) 2 0 (Int.le_of_lt (Int.pow_pos (by decide))) (by omega) (by decide) (by decide) (by decide) (by decide)) ?_
    simp (disch := omega) [gA, wrap_i64, wrap_u64, wrap_u32, Int.tdiv_eq_ediv_of_nonneg, Int.tmod_eq_emod_of_nonneg]
    refine hK _ (W.liveK [0, 3, 4] fun K2 hK2 => ?_); clear hK K; simp; refine hK2 _ ?_; clear hK2 K2
    refine W.reg (fun K hK => ?_); simp (disch := omega) [gA, wrap_i64, wrap_u64, wrap_u32, Int.tdiv_eq_ediv_of_nonneg, Int.tmod_eq_emod_of_nonneg]
    refine hK _ ⟨n - (i + 1), _, Gh.fr [(0, .int .i64 n), (3, Dn (2 ^ (i + 1))), (4, .int .i64 ((i + 1 : Nat) : Int))] ?_, by omega, i + 1, _, _, rfl, rfl, by omega⟩
    simp [Int.pow_succ]
  · simp at h
    have : i = n := by omega
    subst this
    refine W.exit ?_; simp only [pblk_exit, pblk_normal, pblk_ret, pseq_exit, pseq_normal, pseq_ret, pnor_exit, pnor_normal, pnor_ret, if_true, if_false, reduceIte, Nat.reduceEqDiff]
    refine W.sreg (fun K hK => ?_); simp (disch := omega) [gA, wrap_i64, wrap_u64, wrap_u32, Int.tdiv_eq_ediv_of_nonneg, Int.tmod_eq_emod_of_nonneg]; refine hK _ (W.liveK [2] fun K2 hK2 => ?_); clear hK K; simp; refine hK2 _ ?_; clear hK2 K2
    refine W.ret ?_
    simp

theorem rOf_ret (n : Int) (h1 : -9223372036854775808 ≤ n) (h2 : n < 9223372036854775808) : Ret env.P 40 [.int .i64 n] (RI n) := by
  refine ret_of_Wf (E := env) (fun _ => 0) [(0, .int .i64 n)] Try.func40 rfl (by kernel_rfl) (by kernel_rfl) (show 1 ≤ 26 by decide) (by simp) ?_
  refine W.sreg (fun K hK => ?_); simp (disch := omega) [gA, wrap_i64, wrap_u64, wrap_u32, Int.tdiv_eq_ediv_of_nonneg, Int.tmod_eq_emod_of_nonneg]; refine hK _ (W.liveK [0, 2] fun K2 hK2 => ?_); clear hK K; simp; refine hK2 _ ?_; clear hK2 K2
  refine W.seq ?_
  refine W.sreg (fun K hK => ?_); simp (disch := omega) [gA, wrap_i64, wrap_u64, wrap_u32, Int.tdiv_eq_ediv_of_nonneg, Int.tmod_eq_emod_of_nonneg]; refine hK _ (W.liveK [0, 2, 6] fun K2 hK2 => ?_); clear hK K; simp; refine hK2 _ ?_; clear hK2 K2
  refine W.cond ⟨_, rfl, fun h => ?_, fun h => ?_⟩   -- t6
  · simp at h
    subst h
    refine W.sreg (fun K hK => ?_)
    simp (disch := omega) [gA, wrap_i64, wrap_u64, wrap_u32, Int.tdiv_eq_ediv_of_nonneg, Int.tmod_eq_emod_of_nonneg]
    refine callR (PowN_ret 63 (by decide)) ?_
    simp (disch := omega) [gA, wrap_i64, wrap_u64, wrap_u32, Int.tdiv_eq_ediv_of_nonneg, Int.tmod_eq_emod_of_nonneg]
    have hp := rmade_ret 9223372036854775808 (by decide) true
    simp at hp
    refine callR hp ?_
    simp (disch := omega) [gA, wrap_i64, wrap_u64, wrap_u32, Int.tdiv_eq_ediv_of_nonneg, Int.tmod_eq_emod_of_nonneg]
    refine hK _ (W.liveK [2] fun K2 hK2 => ?_); clear hK K; simp; refine hK2 _ ?_; clear hK2 K2
    refine W.ret ?_
    simp [go]
  · simp at h
    refine W.skip ?_
    refine W.sreg (fun K hK => ?_); simp (disch := omega) [gA, wrap_i64, wrap_u64, wrap_u32, Int.tdiv_eq_ediv_of_nonneg, Int.tmod_eq_emod_of_nonneg]; refine hK _ (W.liveK [0, 2, 3] fun K2 hK2 => ?_); clear hK K; simp; refine hK2 _ ?_; clear hK2 K2
    refine W.seqJ (fun σ => ∃ (rows : Pm.Rows) (clk : Nat), σ = ⟨fa [(0, .int .i64 n.natAbs), (2, .ptr 2 0 0 0), (3, .bool (decide (n < 0)))], rows, clk⟩ ∧ rows 2 = some ⟨0, 59, 2, [[.nil, .bool false]]⟩) ?_ ?_
    ·
      refine W.sreg (fun K hK => ?_); simp (disch := omega) [gA, wrap_i64, wrap_u64, wrap_u32, Int.tdiv_eq_ediv_of_nonneg, Int.tmod_eq_emod_of_nonneg]; refine hK _ (W.liveK [0, 2, 3, 11] fun K2 hK2 => ?_); clear hK K; simp; refine hK2 _ ?_; clear hK2 K2
      refine W.cond ⟨_, rfl, fun h => ?_, fun h => ?_⟩   -- t11
      · simp at h
        refine W.reg (fun K hK => ?_); simp (disch := omega) [gA, wrap_i64, wrap_u64, wrap_u32, Int.tdiv_eq_ediv_of_nonneg, Int.tmod_eq_emod_of_nonneg]
        refine hK _ ⟨_, Gh.fr [(0, .int .i64 n.natAbs), (2, .ptr 2 0 0 0), (3, .bool (decide (n < 0)))] (by simp; omega), _, _, rfl, by simp⟩
      · simp at h
        refine W.skip ?_
        refine ⟨_, Gh.fr [(0, .int .i64 n.natAbs), (2, .ptr 2 0 0 0), (3, .bool (decide (n < 0)))] (by simp; omega), _, _, rfl, by simp⟩
    rintro _ ⟨rows, clk, rfl, hr2⟩
    refine W.sreg (fun K hK => ?_); simp (disch := omega) [gA, wrap_i64, wrap_u64, wrap_u32, Int.tdiv_eq_ediv_of_nonneg, Int.tmod_eq_emod_of_nonneg]; refine hK _ (W.liveK [0, 2, 3, 4] fun K2 hK2 => ?_); clear hK K; simp; refine hK2 _ ?_; clear hK2 K2
    refine W.nil 4 4 3 1 (by simp) (by decide) (fun K hK => ?_)
    refine hK _ (W.liveK [0, 2, 3, 4] fun K2 hK2 => ?_); clear hK K; simp; refine hK2 _ ?_; clear hK2 K2
    refine W.seq ?_
    refine W.block ?_   -- block 0
    refine W.loopG (fun k σ => ∃ (z : List Int) (i ver : Nat) (rows : Pm.Rows) (clk : Nat), σ = ⟨fa [(0, .int .i64 k), (2, .ptr 2 0 0 0), (3, .bool (decide (n < 0))), (4, .own 4 ver 0 i)], rows, clk⟩ ∧ rows 2 = some ⟨0, 59, 2, [[.nil, .bool false]]⟩ ∧
      rows 4 = some ⟨ver, 3, 1, emap i64e z⟩ ∧ z.length = i ∧ k * 2 ^ i ≤ 9223372036854775808 ∧ Lim 10000 z ∧ V 10000 z + 10000 ^ i * k = n.natAbs ∧ dig DD n.natAbs = z ++ dig DD k) n.natAbs ?_ ?_
    · exact ⟨_, .refl, [], 0, _, _, _, rfl, by simp [hr2], by simp [emap], rfl, by simp; omega, Lim.nil, by simp [V], by simp⟩
    rintro k _ ⟨z, i, ver, rows, clk, rfl, hr2, hr, hz, hik, lz, hV, hd⟩
    refine W.seq ?_
    refine W.sreg (fun K hK => ?_); simp (disch := omega) [gA, wrap_i64, wrap_u64, wrap_u32, Int.tdiv_eq_ediv_of_nonneg, Int.tmod_eq_emod_of_nonneg]; refine hK _ (W.liveK [0, 2, 3, 4, 15] fun K2 hK2 => ?_); clear hK K; simp; refine hK2 _ ?_; clear hK2 K2
    refine W.cond ⟨_, rfl, fun h => ?_, fun h => ?_⟩   -- t15
    · simp at h
      have hi64 : i ≤ 63 := by
        have h3 : 1 * 2 ^ i ≤ k * 2 ^ i := Nat.mul_le_mul_right _ (by omega)
        have h4 : 2 ^ i ≤ 2 ^ 63 := by omega
        exact (Nat.pow_le_pow_iff_right (by decide)).1 h4
      have hk63 : k ≤ 9223372036854775808 := Nat.le_trans (by have := Nat.mul_le_mul_left k (Nat.pow_pos (n := i) (show 0 < 2 by decide)); omega) hik
      refine W.skip ?_
      refine W.block ?_   -- block 1
      refine W.sreg (fun K hK => ?_); simp (disch := omega) [gA, wrap_i64, wrap_u64, wrap_u32, Int.tdiv_eq_ediv_of_nonneg, Int.tmod_eq_emod_of_nonneg, hr, hz]
      refine hK _ (W.liveK [0, 2, 3, 4] fun K2 hK2 => ?_); clear hK K; simp; refine hK2 _ ?_; clear hK2 K2
      refine W.reg (fun K hK => ?_); simp (disch := omega) [gA, wrap_i64, wrap_u64, wrap_u32, Int.tdiv_eq_ediv_of_nonneg, Int.tmod_eq_emod_of_nonneg]
      refine hK _ ⟨k / 10000, _, Gh.fr [(0, .int .i64 ((k / 10000 : Nat) : Int)), (2, .ptr 2 0 0 0), (3, .bool (decide (n < 0))), (4, .own 4 _ 0 (i + 1))] (by simp; rfl), by omega, z ++ [((k % 10000 : Nat) : Int)], i + 1, _, _, _, rfl, by simp [hr2], by simp, by simp [hz], ?_, Lim.append.2 ⟨lz, Lim.cons.2 ⟨by omega, Lim.nil⟩⟩, ?_, ?_⟩
      · rw [Nat.pow_succ]
        have h3 : k / 10000 * (2 ^ i * 2) = k / 10000 * 2 * 2 ^ i := by rw [Nat.mul_comm (2 ^ i), Nat.mul_assoc]
        rw [h3]
        exact Nat.le_trans (Nat.mul_le_mul_right _ (by omega)) hik
      · rw [V_append, V_one, hz, ← hV, Int.pow_succ]
        have : (k : Int) = (k % 10000 : Nat) + 10000 * (k / 10000 : Nat) := by omega
        grind
      · rw [hd, dig_step hDD (by omega)]; simp
    · simp at h
      have hk0 : k = 0 := by omega
      subst hk0
      have e : z = dig DD n.natAbs := by rw [hd]; simp [dig_zero]
      refine W.exit ?_; simp only [pblk_exit, pblk_normal, pblk_ret, pseq_exit, pseq_normal, pseq_ret, pnor_exit, pnor_normal, pnor_ret, if_true, if_false, reduceIte, Nat.reduceEqDiff]
      refine W.sreg (fun K hK => ?_)
      have ez : z.take i = dig DD n.natAbs := by rw [take_all hz, e]
      simp (disch := omega) [gA, wrap_i64, wrap_u64, wrap_u32, Int.tdiv_eq_ediv_of_nonneg, Int.tmod_eq_emod_of_nonneg, hr, hz, ez]
      refine callR (rmade_ret n.natAbs (by omega) (decide (n < 0))) ?_
      simp (disch := omega) [gA, wrap_i64, wrap_u64, wrap_u32, Int.tdiv_eq_ediv_of_nonneg, Int.tmod_eq_emod_of_nonneg, hr2]
      refine hK _ (W.liveK [2] fun K2 hK2 => ?_); clear hK K; simp; refine hK2 _ ?_; clear hK2 K2
      refine W.ret ?_
      have e2 : (if n < 0 then -(n.natAbs : Int) else n.natAbs) = n := by split <;> omega
      rw [e2]
      simp [go]
end Go.Proofs.Ytjnkpfknmncdmaa
