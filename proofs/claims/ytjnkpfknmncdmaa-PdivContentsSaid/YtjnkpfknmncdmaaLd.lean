import Derived.Test.YtjnkpfknmncdmaaLc
set_option linter.unusedSimpArgs false
set_option linter.unusedVariables false
namespace Go.Proofs.Ytjnkpfknmncdmaa
open Go Pm

/-- What limb.Sub answers. -/
def subR (x y : Int) : PV := if x < y then .tup [us [], .bool false] else .tup [N (x - y), .bool true]

theorem Sub_ret (a b : List Int) (ha : a.length < 1099511627776) (hb : b.length < 1099511627776) (la : Lim 4294967296 a) (lb : Lim 4294967296 b) : Ret env.P 110 [us a, us b] (subR (V 4294967296 a) (V 4294967296 b)) := by
  refine ret_of_Wf (E := env) (fun _ => 0) [(0, us a), (1, us b)] Try.func110 rfl (by kernel_rfl) (by kernel_rfl) (show 2 ≤ 54 by decide) (by simp) ?_
  refine W.sreg (fun K hK => ?_)
  simp (disch := omega) [gA, wrap_i64, wrap_u64, wrap_u32, Int.tdiv_eq_ediv_of_nonneg, Int.tmod_eq_emod_of_nonneg]
  refine hK _ (W.liveK [0, 1] fun K2 hK2 => ?_); clear hK K; simp; refine hK2 _ ?_; clear hK2 K2
  refine W.sreg (fun K hK => ?_)
  simp
  refine callR (cut_ret a (by omega)) ?_
  simp
  refine callR (cut_ret b (by omega)) ?_
  simp
  refine hK _ (W.liveK [0, 1] fun K2 hK2 => ?_); clear hK K; simp; refine hK2 _ ?_; clear hK2 K2
  have cx := cutR_cutR a; have lx := Lim_cutR la; have hx := cutR_len a
  have cy := cutR_cutR b; have ly := Lim_cutR lb; have hy := cutR_len b
  rw [← V_cutR a, ← V_cutR b]
  generalize cutR a = x at *
  generalize cutR b = y at *
  refine W.seq ?_
  -- region 2: t15 := t0; t16 := t1; t17 := call F103(t15, t16); t18 := t17 < 0:i64 (3)
  refine W.sreg (fun K hK => ?_)
  simp
  refine callR (Cmp_ret x y (by omega) (by omega) lx ly) ?_
  simp (disch := omega) [gA, wrap_i64, wrap_u64, wrap_u32, Int.tdiv_eq_ediv_of_nonneg, Int.tmod_eq_emod_of_nonneg]
  refine hK _ (W.liveK [0, 1, 18] fun K2 hK2 => ?_); clear hK K; simp; refine hK2 _ ?_; clear hK2 K2
  refine W.cond ⟨_, rfl, fun h => ?_, fun h => ?_⟩   -- t18
  · have h : V 4294967296 x < V 4294967296 y := cmp3_neg.1 (by simpa using h)
    refine W.sreg (fun K hK => ?_)
    simp (disch := omega) [gA, wrap_i64, wrap_u64, wrap_u32, Int.tdiv_eq_ediv_of_nonneg, Int.tmod_eq_emod_of_nonneg]
    refine hK _ (W.liveK [4, 5] fun K2 hK2 => ?_); clear hK K; simp; refine hK2 _ ?_; clear hK2 K2
    refine W.ret ?_
    simp [subR, h]
    rfl
  · have h : V 4294967296 y ≤ V 4294967296 x := cmp3_nonneg.1 (by simpa using h)
    have hyx : y.length ≤ x.length := by
      rcases Nat.lt_or_ge x.length y.length with h2 | h2
      · have := V_lt_of_len (by decide) lx ly cy h2; omega
      · exact h2
    refine W.skip ?_
    refine W.sreg (fun K hK => ?_)
    simp (disch := omega) [gA, wrap_i64, wrap_u64, wrap_u32, Int.tdiv_eq_ediv_of_nonneg, Int.tmod_eq_emod_of_nonneg]
    refine hK _ (W.liveK [0, 1, 6] fun K2 hK2 => ?_); clear hK K; simp; refine hK2 _ ?_; clear hK2 K2
    refine W.sreg (fun K hK => ?_)
    simp (disch := omega) [gA, wrap_i64, wrap_u64, wrap_u32, Int.tdiv_eq_ediv_of_nonneg, Int.tmod_eq_emod_of_nonneg]
    refine hK _ (W.liveK [0, 1, 6, 7] fun K2 hK2 => ?_); clear hK K; simp; refine hK2 _ ?_; clear hK2 K2
    refine W.seq ?_
    refine W.sreg (fun K hK => ?_)
    simp (disch := omega) [gA, wrap_i64, wrap_u64, wrap_u32, Int.tdiv_eq_ediv_of_nonneg, Int.tmod_eq_emod_of_nonneg]
    refine hK _ (W.liveK [1, 6, 7, 22, 23, 24] fun K2 hK2 => ?_); clear hK K; simp; refine hK2 _ ?_; clear hK2 K2
    refine W.block ?_   -- block 0
    refine W.loopG (fun k σ => ∃ (i : Nat) (c : Int) (z : List Int) (ver : Nat) (rows : Pm.Rows) (clk : Nat), σ = ⟨fa [(1, us y), (6, .own 21 ver 0 x.length), (7, .int .u64 c), (22, us x), (23, .int .i64 x.length), (24, .int .i64 i)], rows, clk⟩ ∧
      rows 21 = some ⟨ver, 115, 1, emap u32 z⟩ ∧ k = x.length - i ∧ i ≤ x.length ∧ z.length = x.length ∧ Lim 4294967296 z ∧ 0 ≤ c ∧ c ≤ 1 ∧
      V 4294967296 (z.take i) - 4294967296 ^ i * c = V 4294967296 (x.take i) - V 4294967296 (y.take i)) x.length ?_ ?_
    · exact ⟨_, .refl, 0, 0, List.replicate x.length 0, _, _, _, rfl, by simp, by omega, by omega, by simp, Lim.rep (by decide) _, by omega, by omega, by simp [V]⟩
    rintro k _ ⟨i, c, z, ver, rows, clk, rfl, hr, hk, hi, hz, lz, hc0, hc1, hV⟩
    refine W.sreg (fun K hK => ?_)
    simp (disch := omega) [gA, wrap_i64, wrap_u64, wrap_u32, Int.tdiv_eq_ediv_of_nonneg, Int.tmod_eq_emod_of_nonneg]
    refine hK _ (W.liveK [1, 6, 7, 22, 23, 24, 25] fun K2 hK2 => ?_); clear hK K; simp; refine hK2 _ ?_; clear hK2 K2
    refine W.seq ?_
    refine W.cond ⟨_, rfl, fun h => ?_, fun h => ?_⟩   -- t25
    · simp at h
      have hxi := lx.nth h
      refine W.skip ?_
      refine W.seq ?_
      refine W.block ?_   -- block 1
      refine W.sreg (fun K hK => ?_)
      simp (disch := omega) [gA, wrap_i64, wrap_u64, wrap_u32, Int.tdiv_eq_ediv_of_nonneg, Int.tmod_eq_emod_of_nonneg]
      refine hK _ (W.liveK [1, 6, 7, 8, 9, 22, 23, 24] fun K2 hK2 => ?_); clear hK K; simp; refine hK2 _ ?_; clear hK2 K2
      refine W.sreg (fun K hK => ?_)
      simp (disch := omega) [gA, wrap_u64 hxi.1]
      refine hK _ (W.liveK [1, 6, 8, 10, 22, 23, 24] fun K2 hK2 => ?_); clear hK K; simp; refine hK2 _ ?_; clear hK2 K2
      refine W.seqJ (fun σ => ∃ (d : Int), σ = ⟨fa [(1, us y), (6, .own 21 ver 0 x.length), (8, .int .i64 i), (10, .int .u64 (IntKind.u64.wrap d)), (22, us x), (23, .int .i64 x.length), (24, .int .i64 i)], rows, clk⟩ ∧ -4294967296 ≤ d ∧ d < 4294967296 ∧
        V 4294967296 (x.take (i + 1)) - V 4294967296 (y.take (i + 1)) = V 4294967296 (z.take i) + 4294967296 ^ i * d) ?_ ?_
      ·
        refine W.sreg (fun K hK => ?_)
        simp (disch := omega) [gA, wrap_i64, wrap_u64, wrap_u32, Int.tdiv_eq_ediv_of_nonneg, Int.tmod_eq_emod_of_nonneg]
        refine hK _ (W.liveK [1, 6, 8, 10, 22, 23, 24, 36] fun K2 hK2 => ?_); clear hK K; simp; refine hK2 _ ?_; clear hK2 K2
        refine W.cond ⟨_, rfl, fun h => ?_, fun h => ?_⟩   -- t36
        · simp at h
          have hyi := ly.nth h
          refine W.reg (fun K hK => ?_)
          simp (disch := omega) [gA, wrap_u64 hyi.1]
          refine hK _ ⟨_, Gh_fa _ [1, 6, 8, 10, 22, 23, 24], nth x i - c - nth y i, ?_, by omega, by omega, ?_⟩
          · have : IntKind.u64.wrap (IntKind.u64.wrap (nth x i - c) - nth y i) = IntKind.u64.wrap (nth x i - c - nth y i) := by
              simp only [wrap_u64']; omega
            simp [this]
          rw [V_take_succ (by omega), V_take_succ (by omega)]
          grind
        · simp at h
          refine W.skip ?_
          refine ⟨_, Gh_fa _ [1, 6, 8, 10, 22, 23, 24], _, rfl, by omega, by omega, ?_⟩
          rw [V_take_succ (by omega), V_take_all (l := y) (by omega)]
          rw [V_take_all (l := y) (by omega)] at hV
          grind
      rintro _ ⟨d, rfl, hs0, hs1, hV2⟩
      refine W.reg (fun K hK => ?_)
      simp (disch := omega) [gA, wrap_i64, wrap_u64, wrap_u32, Int.tdiv_eq_ediv_of_nonneg, Int.tmod_eq_emod_of_nonneg, hr, wrap_u32']
      refine hK _ (W.liveK [1, 6, 7, 22, 23, 24] fun K2 hK2 => ?_); clear hK K; simp; refine hK2 _ ?_; clear hK2 K2
      refine W.reg (fun K hK => ?_)
      simp (disch := omega) [gA, wrap_i64, wrap_u64, wrap_u32, Int.tdiv_eq_ediv_of_nonneg, Int.tmod_eq_emod_of_nonneg]
      have e1 : d = IntKind.u64.wrap d % 4294967296 - 4294967296 * (IntKind.u64.wrap d / 9223372036854775808) ∧ 0 ≤ IntKind.u64.wrap d / 9223372036854775808 ∧ IntKind.u64.wrap d / 9223372036854775808 ≤ 1 := by
        rw [wrap_u64']; omega
      generalize IntKind.u64.wrap d = s at *
      refine hK _ ⟨x.length - (i + 1), _, Gh_fa _ [1, 6, 7, 22, 23, 24], by omega, i + 1, s / 9223372036854775808, z.set i (s % 4294967296), ver, _, _, rfl, by simp, by omega, by omega, by simpa using hz, lz.set (by omega), by omega, by omega, ?_⟩
      rw [V_take_set (by omega), hV2, Int.pow_succ]
      grind
    · simp at h
      have hi' : i = x.length := by omega
      subst hi'
      refine W.exit ?_; simp only [pblk_exit, pblk_normal, pblk_ret, pseq_exit, pseq_normal, pseq_ret, pnor_exit, pnor_normal, pnor_ret, if_true, if_false, reduceIte, Nat.reduceEqDiff]
      have hz2 : z.take x.length = z := List.take_of_length_le (by omega)
      have e : V 4294967296 z = V 4294967296 x - V 4294967296 y := by
        rw [hz2, V_take_all (Nat.le_refl _), V_take_all (l := y) (by omega)] at hV
        have h1 := V_lt (by decide) lz
        rw [hz] at h1
        have : c = 0 := by
          rcases Int.lt_or_le c 1 with h2 | h2
          · omega
          · have h3 : c = 1 := by omega
            subst h3; omega
        subst this; omega
      refine W.sreg (fun K hK => ?_)
      simp (disch := omega) [gA, wrap_i64, wrap_u64, wrap_u32, Int.tdiv_eq_ediv_of_nonneg, Int.tmod_eq_emod_of_nonneg, hr, hz2]
      refine callR (cut_ret z (by omega)) ?_
      simp (disch := omega) [gA, wrap_i64, wrap_u64, wrap_u32, Int.tdiv_eq_ediv_of_nonneg, Int.tmod_eq_emod_of_nonneg]
      refine hK _ (W.liveK [4, 5] fun K2 hK2 => ?_); clear hK K; simp; refine hK2 _ ?_; clear hK2 K2
      refine W.ret ?_
      rw [subR, if_neg (by omega), ← e, ← N_cut lz]
      simp
end Go.Proofs.Ytjnkpfknmncdmaa
