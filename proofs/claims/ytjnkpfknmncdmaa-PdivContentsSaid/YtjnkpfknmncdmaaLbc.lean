import Derived.Test.YtjnkpfknmncdmaaLbb
set_option linter.unusedSimpArgs false
set_option linter.unusedVariables false
namespace Go.Proofs.Ytjnkpfknmncdmaa
open Go Pm

theorem nth_len_zero {x : List Int} {i : Nat} (h : x.length ≤ i) : nth x i = 0 := nth_ge h
theorem Shr_ret (l : List Int) (n : Nat) (hn : n ≤ 31) (hl : l.length < 1099511627775) (lm : Lim 4294967296 l) : Ret env.P 128 [us l, .int .i64 n] (N (V 4294967296 l / 2 ^ n)) := by
  refine ret_of_Wf (E := env) (fun _ => 0) [(0, us l), (1, .int .i64 n)] Try.func128 rfl (by kernel_rfl) (by kernel_rfl) (show 2 ≤ 69 by decide) (by simp) ?_
  refine W.sreg (fun K hK => ?_); simp (disch := omega) [gA, wrap_i64, wrap_u64, wrap_u32, Int.tdiv_eq_ediv_of_nonneg, Int.tmod_eq_emod_of_nonneg]; refine hK _ (W.liveK [0, 1] fun K2 hK2 => ?_); clear hK K; simp; refine hK2 _ ?_; clear hK2 K2
  have hcl := cutR_len l
  refine W.sreg (fun K hK => ?_)
  simp (disch := omega) [gA, wrap_i64, wrap_u64, wrap_u32, Int.tdiv_eq_ediv_of_nonneg, Int.tmod_eq_emod_of_nonneg]
  refine callR (cut_ret l (by omega)) ?_
  simp (disch := omega) [gA, wrap_i64, wrap_u64, wrap_u32, Int.tdiv_eq_ediv_of_nonneg, Int.tmod_eq_emod_of_nonneg]
  refine hK _ (W.liveK [0, 1] fun K2 hK2 => ?_); clear hK K; simp; refine hK2 _ ?_; clear hK2 K2
  have lx := Lim_cutR lm
  have hV := V_cutR (b := 4294967296) l
  rw [← hV]
  have hxl : (cutR l).length < 1099511627775 := by omega
  clear hV
  generalize cutR l = x at *
  have h65 : ¬ (65536 < (n : Int)) := by omega
  have e0 : (if 0 < n then (n : Int) else 0) = n := by split <;> omega
  refine W.sreg (fun K hK => ?_)
  simp (disch := omega) [gA, wrap_i64, wrap_u64, wrap_u32, Int.tdiv_eq_ediv_of_nonneg, Int.tmod_eq_emod_of_nonneg, h65, e0]
  refine hK _ (W.liveK [0, 1] fun K2 hK2 => ?_); clear hK K; simp; refine hK2 _ ?_; clear hK2 K2
  have d1 : (n : Int) / 32 = 0 := by omega
  have d2 : (n : Int) % 32 = n := by omega
  refine W.sreg (fun K hK => ?_); simp (disch := omega) [gA, wrap_i64, wrap_u64, wrap_u32, Int.tdiv_eq_ediv_of_nonneg, Int.tmod_eq_emod_of_nonneg, d1, d2]; refine hK _ (W.liveK [0, 5, 6] fun K2 hK2 => ?_); clear hK K; simp; refine hK2 _ ?_; clear hK2 K2
  refine W.seq ?_
  refine W.sreg (fun K hK => ?_); simp (disch := omega) [gA, wrap_i64, wrap_u64, wrap_u32, Int.tdiv_eq_ediv_of_nonneg, Int.tmod_eq_emod_of_nonneg]; refine hK _ (W.liveK [0, 5, 6, 23] fun K2 hK2 => ?_); clear hK K; simp; refine hK2 _ ?_; clear hK2 K2
  refine W.cond ⟨_, rfl, fun h => ?_, fun h => ?_⟩   -- t23
  · have h : x = [] := by simp at h; exact h
    subst h
    refine W.sreg (fun K hK => ?_); simp (disch := omega) [gA, wrap_i64, wrap_u64, wrap_u32, Int.tdiv_eq_ediv_of_nonneg, Int.tmod_eq_emod_of_nonneg]; refine hK _ (W.liveK [4] fun K2 hK2 => ?_); clear hK K; simp; refine hK2 _ ?_; clear hK2 K2
    refine W.ret ?_
    simp [go, V]
    rfl
  have h : x ≠ [] := by simp at h; exact h
  refine W.skip ?_
  refine W.sreg (fun K hK => ?_); simp (disch := omega) [gA, wrap_i64, wrap_u64, wrap_u32, Int.tdiv_eq_ediv_of_nonneg, Int.tmod_eq_emod_of_nonneg]; refine hK _ (W.liveK [0, 5, 6, 7] fun K2 hK2 => ?_); clear hK K; simp; refine hK2 _ ?_; clear hK2 K2
  refine W.seq ?_
  refine W.sreg (fun K hK => ?_); simp (disch := omega) [gA, wrap_i64, wrap_u64, wrap_u32, Int.tdiv_eq_ediv_of_nonneg, Int.tmod_eq_emod_of_nonneg]; refine hK _ (W.liveK [0, 5, 6, 7, 30, 31] fun K2 hK2 => ?_); clear hK K; simp; refine hK2 _ ?_; clear hK2 K2
  refine W.block ?_   -- block 0
  have h2p : (0 : Int) < 2 ^ n := Int.pow_pos (by decide)
  have h2e : (0 : Int) < 2 ^ (32 - n) := Int.pow_pos (by decide)
  have h2d : (2 : Int) ^ n * 2 ^ (32 - n) = 4294967296 := by
    rw [← Int.pow_add, show n + (32 - n) = 32 by omega]; rfl
  refine W.loopG (fun q σ => ∃ (i v : Nat) (z : List Int) (rows : Pm.Rows) (clk : Nat), σ = ⟨fa [(0, us x), (5, .int .i64 0), (6, .int .u64 n), (7, .own 28 v 0 x.length), (30, .int .i64 x.length), (31, .int .i64 i)], rows, clk⟩ ∧
    rows 28 = some ⟨v, 115, 1, emap u32 z⟩ ∧ q = x.length - i ∧ i ≤ x.length ∧ z.length = x.length ∧ Lim 4294967296 z ∧ 2 ^ n * V 4294967296 (z.take i) + nth x 0 % 2 ^ n = V 4294967296 (x.take i) + (nth x i % 2 ^ n) * 4294967296 ^ i) x.length ?_ ?_
  · exact ⟨_, .refl, 0, _, List.replicate x.length 0, _, _, rfl, by simp, by omega, by omega, by simp, Lim.rep (by decide) _, by simp [V]⟩
  rintro q _ ⟨i, v, z, rows, clk, rfl, hr, hq, hi, hz, lz, hV⟩
  refine W.sreg (fun K hK => ?_); simp (disch := omega) [gA, wrap_i64, wrap_u64, wrap_u32, Int.tdiv_eq_ediv_of_nonneg, Int.tmod_eq_emod_of_nonneg]; refine hK _ (W.liveK [0, 5, 6, 7, 30, 31, 32] fun K2 hK2 => ?_); clear hK K; simp; refine hK2 _ ?_; clear hK2 K2
  refine W.seq ?_
  refine W.cond ⟨_, rfl, fun h => ?_, fun h => ?_⟩   -- t32
  · have hi : i < x.length := by simp at h; omega
    have hw := lx.nth hi
    have hw2 : 0 ≤ nth x (i + 1) ∧ nth x (i + 1) < 4294967296 := by
      rcases Nat.lt_or_ge (i + 1) x.length with h3 | h3
      · exact lx.nth h3
      · rw [nth_len_zero h3]; decide
    have hVx := V_take_succ (b := 4294967296) hi
    obtain ⟨q1, q2, q3⟩ := shr_limb h2p h2e h2d hw hw2
    generalize hwe : nth x i = w at *
    refine W.skip ?_
    refine W.seq ?_
    refine W.block ?_   -- block 1
    refine W.sreg (fun K hK => ?_); simp (disch := omega) [gA, wrap_i64, wrap_u64, wrap_u32, Int.tdiv_eq_ediv_of_nonneg, Int.tmod_eq_emod_of_nonneg]; refine hK _ (W.liveK [0, 5, 6, 7, 8, 30, 31] fun K2 hK2 => ?_); clear hK K; simp; refine hK2 _ ?_; clear hK2 K2
    refine W.sreg (fun K hK => ?_); simp (disch := omega) [gA, wrap_i64, wrap_u64, wrap_u32, Int.tdiv_eq_ediv_of_nonneg, Int.tmod_eq_emod_of_nonneg, hwe]; refine hK _ (W.liveK [0, 5, 6, 7, 8, 9, 30, 31] fun K2 hK2 => ?_); clear hK K; simp; refine hK2 _ ?_; clear hK2 K2
    refine W.seqJ (fun σ => ∃ (rows : Pm.Rows) (clk : Nat), σ = ⟨fa [(0, us x), (5, .int .i64 0), (6, .int .u64 n), (7, .own 28 v 0 x.length), (8, .int .i64 i), (9, .int .u64 (w + 4294967296 * nth x (i + 1))), (30, .int .i64 x.length), (31, .int .i64 i)], rows, clk⟩ ∧ rows 28 = some ⟨v, 115, 1, emap u32 z⟩) ?_ ?_
    ·
      refine W.sreg (fun K hK => ?_); simp (disch := omega) [gA, wrap_i64, wrap_u64, wrap_u32, Int.tdiv_eq_ediv_of_nonneg, Int.tmod_eq_emod_of_nonneg]; refine hK _ (W.liveK [0, 5, 6, 7, 8, 9, 30, 31, 47] fun K2 hK2 => ?_); clear hK K; simp; refine hK2 _ ?_; clear hK2 K2
      refine W.cond ⟨_, rfl, fun h => ?_, fun h => ?_⟩   -- t47
      · have h : i + 1 < x.length := by simp at h; omega
        have hor := (orI_u64 (a := nth x (i + 1) * 4294967296) (b := w) 32 (by omega) hw.1 ⟨nth x (i + 1), by rw [Int.mul_comm]; rfl⟩ (by simpa using hw.2) (by omega)).2
        rw [show nth x (i + 1) * 4294967296 + w = w + 4294967296 * nth x (i + 1) by omega] at hor
        refine W.reg (fun K hK => ?_); simp (disch := omega) [gA, wrap_i64, wrap_u64, wrap_u32, Int.tdiv_eq_ediv_of_nonneg, Int.tmod_eq_emod_of_nonneg, hor]
        exact hK _ ⟨_, Gh_fa _ [0, 5, 6, 7, 8, 9, 30, 31], _, _, rfl, by simp [hr]⟩
      · have h : x.length ≤ i + 1 := by simp at h; omega
        rw [nth_len_zero h]
        refine W.skip ?_
        exact ⟨_, Gh.fr [(0, us x), (5, .int .i64 0), (6, .int .u64 n), (7, .own 28 v 0 x.length), (8, .int .i64 i), (9, .int .u64 (w + 4294967296 * 0)), (30, .int .i64 x.length), (31, .int .i64 i)] (by simp), _, _, rfl, by simp [hr]⟩
    rintro _ ⟨rows, clk, rfl, hr⟩
    have hwr : IntKind.u32.wrap ((w + 4294967296 * nth x (i + 1)) / 2 ^ n) = ((w + 4294967296 * nth x (i + 1)) / 2 ^ n) % 4294967296 := wrap_u32'
    have hfd : (w + 4294967296 * nth x (i + 1)).fdiv (2 ^ n) = (w + 4294967296 * nth x (i + 1)) / 2 ^ n := Int.fdiv_eq_ediv_of_nonneg _ (by omega)
    refine W.reg (fun K hK => ?_)
    simp (disch := omega) [gA, wrap_i64, wrap_u64, wrap_u32, Int.tdiv_eq_ediv_of_nonneg, Int.tmod_eq_emod_of_nonneg, hr, hz, hfd, hwr]
    refine hK _ (W.liveK [0, 5, 6, 7, 30, 31] fun K2 hK2 => ?_); clear hK K; simp; refine hK2 _ ?_; clear hK2 K2
    refine W.reg (fun K hK => ?_); simp (disch := omega) [gA, wrap_i64, wrap_u64, wrap_u32, Int.tdiv_eq_ediv_of_nonneg, Int.tmod_eq_emod_of_nonneg]
    refine hK _ ⟨x.length - (i + 1), _, Gh_fa _ [0, 5, 6, 7, 30, 31], by omega, i + 1, v, z.set i (((w + 4294967296 * nth x (i + 1)) / 2 ^ n) % 4294967296), _, _, rfl, by simp, by omega, by omega, by simp [hz], lz.set ⟨q2, q3⟩, ?_⟩
    rw [V_take_set (by omega), hVx, Int.mul_add, Int.pow_succ]
    generalize ((w + 4294967296 * nth x (i + 1)) / 2 ^ n) % 4294967296 = o at *
    generalize nth x (i + 1) % 2 ^ n = lo1 at *
    generalize w % 2 ^ n = lo at *
    have e2 : (2 : Int) ^ n * (4294967296 ^ i * o) = 4294967296 ^ i * (2 ^ n * o) := by grind
    rw [e2, q1]
    grind
  · have hi : i = x.length := by simp at h; omega
    subst hi
    have zz := take_all hz
    have hcut := cut_ret z (by omega)
    rw [N_cut lz] at hcut
    rw [zz, List.take_of_length_le (Nat.le_refl _), nth_len_zero (Nat.le_refl _)] at hV
    have hVz : V 4294967296 x / 2 ^ n = V 4294967296 z := by
      have h5 := Int.emod_nonneg (nth x 0) (show (2 ^ n : Int) ≠ 0 by omega)
      have h6 := Int.emod_lt_of_pos (nth x 0) h2p
      rw [Int.zero_emod, Int.zero_mul, Int.add_zero] at hV
      have e : (V 4294967296 z + 1) * 2 ^ n = 2 ^ n * V 4294967296 z + 2 ^ n := by grind
      have e' : V 4294967296 z * 2 ^ n = 2 ^ n * V 4294967296 z := Int.mul_comm _ _
      rw [Int.ediv_eq_iff_of_pos h2p]
      constructor <;> omega
    rw [hVz]
    refine W.exit ?_; simp only [pblk_exit, pblk_normal, pblk_ret, pseq_exit, pseq_normal, pseq_ret, pnor_exit, pnor_normal, pnor_ret, if_true, if_false, reduceIte, Nat.reduceEqDiff]
    refine W.sreg (fun K hK => ?_)
    simp (disch := omega) [gA, wrap_i64, wrap_u64, wrap_u32, Int.tdiv_eq_ediv_of_nonneg, Int.tmod_eq_emod_of_nonneg, hr, zz]
    refine callR hcut ?_
    simp (disch := omega) [gA, wrap_i64, wrap_u64, wrap_u32, Int.tdiv_eq_ediv_of_nonneg, Int.tmod_eq_emod_of_nonneg]
    refine hK _ (W.liveK [4] fun K2 hK2 => ?_); clear hK K; simp; refine hK2 _ ?_; clear hK2 K2
    refine W.ret ?_
    simp [go]
end Go.Proofs.Ytjnkpfknmncdmaa
