import Derived.Test.YtjnkpfknmncdmaaLj
import Derived.Test.YtjnkpfknmncdmaaMj
import Derived.Test.YtjnkpfknmncdmaaMh
set_option linter.unusedSimpArgs false
set_option linter.unusedVariables false
namespace Go.Proofs.Ytjnkpfknmncdmaa
open Go Pm

theorem LZ_ret (n : Int) (h0 : 0 ≤ n) (h1 : n < 4294967296) : Ret env.P 125 [.int .u32 n] (.int .i64 (32 - nb n.toNat)) := by
  refine ret_of_Wf (E := env) (fun _ => 0) [(0, .int .u32 n)] Try.func125 rfl (by kernel_rfl) (by kernel_rfl) (show 1 ≤ 6 by decide) (by simp) ?_
  refine W.sreg (fun K hK => ?_); simp (disch := omega) [gA, wrap_i64, wrap_u64, wrap_u32, Int.tdiv_eq_ediv_of_nonneg, Int.tmod_eq_emod_of_nonneg]; refine hK _ (W.liveK [0] fun K2 hK2 => ?_); clear hK K; simp; refine hK2 _ ?_; clear hK2 K2
  refine W.sreg (fun K hK => ?_)
  simp (disch := omega) [gA, wrap_i64, wrap_u64, wrap_u32, Int.tdiv_eq_ediv_of_nonneg, Int.tmod_eq_emod_of_nonneg]
  refine callR (Len32_ret n h0 h1) ?_
  have : nb n.toNat ≤ 32 := nb_lt.2 (by omega)
  simp (disch := omega) [gA, wrap_i64, wrap_u64, wrap_u32, Int.tdiv_eq_ediv_of_nonneg, Int.tmod_eq_emod_of_nonneg]
  refine hK _ (W.liveK [2] fun K2 hK2 => ?_); clear hK K; simp; refine hK2 _ ?_; clear hK2 K2
  refine W.ret ?_
  simp [go]

theorem Shl_ret (l : List Int) (n : Nat) (hn : n ≤ 31) (hl : l.length < 1099511627775) (lm : Lim 4294967296 l) : Ret env.P 131 [us l, .int .i64 n] (N (V 4294967296 l * 2 ^ n)) := by
  refine ret_of_Wf (E := env) (fun _ => 0) [(0, us l), (1, .int .i64 n)] Try.func131 rfl (by kernel_rfl) (by kernel_rfl) (show 2 ≤ 67 by decide) (by simp) ?_
  refine W.sreg (fun K hK => ?_); simp (disch := omega) [gA, wrap_i64, wrap_u64, wrap_u32, Int.tdiv_eq_ediv_of_nonneg, Int.tmod_eq_emod_of_nonneg]; refine hK _ (W.liveK [0, 1] fun K2 hK2 => ?_); clear hK K; simp; refine hK2 _ ?_; clear hK2 K2
  have hcl := cutR_len l
  refine W.sreg (fun K hK => ?_)
  simp (disch := omega) [gA, wrap_i64, wrap_u64, wrap_u32, Int.tdiv_eq_ediv_of_nonneg, Int.tmod_eq_emod_of_nonneg]
  refine callR (cut_ret l (by omega)) ?_
  simp (disch := omega) [gA, wrap_i64, wrap_u64, wrap_u32, Int.tdiv_eq_ediv_of_nonneg, Int.tmod_eq_emod_of_nonneg]
  refine hK _ (W.liveK [0, 1] fun K2 hK2 => ?_); clear hK K; simp; refine hK2 _ ?_; clear hK2 K2
  have lx := Lim_cutR lm
  have hV := V_cutR (b := 4294967296) l
  rw [← hV]
  have hxl : (cutR l).length < 1099511627775 := by omega
  clear hV
  generalize cutR l = x at *
  have h65 : ¬ (65536 < (n : Int)) := by omega
  have e0 : (if 0 < n then (n : Int) else 0) = n := by split <;> omega
  refine W.sreg (fun K hK => ?_)
  simp (disch := omega) [gA, wrap_i64, wrap_u64, wrap_u32, Int.tdiv_eq_ediv_of_nonneg, Int.tmod_eq_emod_of_nonneg, h65, e0]
  refine hK _ (W.liveK [0, 1] fun K2 hK2 => ?_); clear hK K; simp; refine hK2 _ ?_; clear hK2 K2
  refine W.seq ?_
  refine W.sreg (fun K hK => ?_); simp (disch := omega) [gA, wrap_i64, wrap_u64, wrap_u32, Int.tdiv_eq_ediv_of_nonneg, Int.tmod_eq_emod_of_nonneg]; refine hK _ (W.liveK [0, 1, 18] fun K2 hK2 => ?_); clear hK K; simp; refine hK2 _ ?_; clear hK2 K2
  refine W.cond ⟨_, rfl, fun h => ?_, fun h => ?_⟩   -- t18
  · have h : x = [] := by simp at h; exact h
    subst h
    refine W.sreg (fun K hK => ?_); simp (disch := omega) [gA, wrap_i64, wrap_u64, wrap_u32, Int.tdiv_eq_ediv_of_nonneg, Int.tmod_eq_emod_of_nonneg]; refine hK _ (W.liveK [4] fun K2 hK2 => ?_); clear hK K; simp; refine hK2 _ ?_; clear hK2 K2
    refine W.ret ?_
    simp [go, V]
    rfl
  have h : x ≠ [] := by simp at h; exact h
  refine W.skip ?_
  have d1 : (n : Int) / 32 = 0 := by omega
  have d2 : (n : Int) % 32 = n := by omega
  refine W.sreg (fun K hK => ?_); simp (disch := omega) [gA, wrap_i64, wrap_u64, wrap_u32, Int.tdiv_eq_ediv_of_nonneg, Int.tmod_eq_emod_of_nonneg, d1, d2]; refine hK _ (W.liveK [0, 5, 6] fun K2 hK2 => ?_); clear hK K; simp; refine hK2 _ ?_; clear hK2 K2
  refine W.sreg (fun K hK => ?_); simp (disch := omega) [gA, wrap_i64, wrap_u64, wrap_u32, Int.tdiv_eq_ediv_of_nonneg, Int.tmod_eq_emod_of_nonneg]; refine hK _ (W.liveK [0, 5, 6, 7] fun K2 hK2 => ?_); clear hK K; simp; refine hK2 _ ?_; clear hK2 K2
  refine W.seq ?_
  refine W.sreg (fun K hK => ?_); simp (disch := omega) [gA, wrap_i64, wrap_u64, wrap_u32, Int.tdiv_eq_ediv_of_nonneg, Int.tmod_eq_emod_of_nonneg]; refine hK _ (W.liveK [5, 6, 7, 30, 31, 32] fun K2 hK2 => ?_); clear hK K; simp; refine hK2 _ ?_; clear hK2 K2
  refine W.block ?_   -- block 0
  have h2n : (2 : Int) ^ n ≤ 2147483648 := by
    have := Int.ofNat_le.2 (Nat.pow_le_pow_right (show 0 < 2 by decide) hn)
    simpa using this
  have h2p : (0 : Int) < 2 ^ n := Int.pow_pos (by decide)
  have h2d : (2 : Int) ^ n ∣ 4294967296 := by
    refine ⟨2 ^ (32 - n), ?_⟩
    rw [← Int.pow_add, show n + (32 - n) = 32 by omega]; rfl
  refine W.loopG (fun q σ => ∃ (i v : Nat) (z : List Int) (rows : Pm.Rows) (clk : Nat), σ = ⟨fa [(5, .int .i64 0), (6, .int .u64 n), (7, .own 29 v 0 (x.length + 1)), (30, us x), (31, .int .i64 x.length), (32, .int .i64 i)], rows, clk⟩ ∧
    rows 29 = some ⟨v, 115, 1, emap u32 z⟩ ∧ q = x.length - i ∧ i ≤ x.length ∧ z.length = x.length + 1 ∧ Lim 4294967296 z ∧ V 4294967296 (z.take (i + 1)) = V 4294967296 (x.take i) * 2 ^ n ∧ nth z i < 2 ^ n) x.length ?_ ?_
  · exact ⟨_, .refl, 0, _, List.replicate (x.length + 1) 0, _, _, rfl, by simp, by omega, by omega, by simp, Lim.rep (by decide) _, by simp [V, List.replicate_succ], by rw [nth_eq (by simp)]; simp; exact h2p⟩
  rintro q _ ⟨i, v, z, rows, clk, rfl, hr, hq, hi, hz, lz, hV, hzi⟩
  refine W.sreg (fun K hK => ?_); simp (disch := omega) [gA, wrap_i64, wrap_u64, wrap_u32, Int.tdiv_eq_ediv_of_nonneg, Int.tmod_eq_emod_of_nonneg]; refine hK _ (W.liveK [5, 6, 7, 30, 31, 32, 33] fun K2 hK2 => ?_); clear hK K; simp; refine hK2 _ ?_; clear hK2 K2
  refine W.seq ?_
  refine W.cond ⟨_, rfl, fun h => ?_, fun h => ?_⟩   -- t33
  · have hi : i < x.length := by simp at h; omega
    have hw := lx.nth hi
    refine W.skip ?_
    refine W.seq ?_
    refine W.block ?_   -- block 1
    refine W.sreg (fun K hK => ?_); simp (disch := omega) [gA, wrap_i64, wrap_u64, wrap_u32, Int.tdiv_eq_ediv_of_nonneg, Int.tmod_eq_emod_of_nonneg]; refine hK _ (W.liveK [5, 6, 7, 8, 9, 30, 31, 32] fun K2 hK2 => ?_); clear hK K; simp; refine hK2 _ ?_; clear hK2 K2
    have hVx := V_take_succ (b := 4294967296) hi
    generalize hwe : nth x i = w at *
    have hv0 : 0 ≤ w * 2 ^ n := Int.mul_nonneg hw.1 (by omega)
    have hv1 : w * 2 ^ n < 4294967296 * 2 ^ n := Int.mul_lt_mul_of_pos_right hw.2 h2p
    have hvd : (2 ^ n : Int) ∣ w * 2 ^ n := ⟨w, Int.mul_comm _ _⟩
    have hwr : IntKind.u64.wrap (w * 2 ^ n) = w * 2 ^ n := wrap_u64 hv0 (by omega)
    have hzi2 := lz.nth (i := i) (by omega)
    refine W.sreg (fun K hK => ?_)
    simp (disch := omega) [gA, wrap_i64, wrap_u64, wrap_u32, Int.tdiv_eq_ediv_of_nonneg, Int.tmod_eq_emod_of_nonneg, hwr]
    refine hK _ (W.liveK [5, 6, 7, 8, 10, 30, 31, 32] fun K2 hK2 => ?_); clear hK K; simp; refine hK2 _ ?_; clear hK2 K2
    have hVx2 : V 4294967296 (x.take (i + 1)) * 2 ^ n = V 4294967296 (x.take i) * 2 ^ n + 4294967296 ^ i * (w * 2 ^ n) := by rw [hVx]; grind
    generalize hve : w * 2 ^ n = y at *
    have hlow : (2 ^ n : Int) ∣ y % 4294967296 := by
      rw [Int.emod_def]
      exact Int.dvd_sub hvd (Int.dvd_trans h2d (Int.dvd_mul_right _ _))
    have hlow2 : y % 4294967296 + 2 ^ n ≤ 4294967296 := by
      obtain ⟨c, hc⟩ := hlow
      obtain ⟨d, hd⟩ := h2d
      have h1 : (2 ^ n : Int) * c < 2 ^ n * d := by have := Int.emod_lt_of_pos y (show (0 : Int) < 4294967296 by decide); omega
      have h2 : c < d := Int.lt_of_mul_lt_mul_left h1 (by omega)
      have h3 := Int.mul_le_mul_of_nonneg_left (show c + 1 ≤ d by omega) (show 0 ≤ (2 ^ n : Int) by omega)
      rw [Int.mul_add] at h3
      omega
    have hor := (orI_u32 (a := y % 4294967296) (b := nth z i) n (by omega) hzi2.1 hlow hzi (by omega)).2
    have hwy : IntKind.u32.wrap y = y % 4294967296 := wrap_u32'
    refine W.sreg (fun K hK => ?_)
    simp (disch := omega) [gA, wrap_i64, wrap_u64, wrap_u32, Int.tdiv_eq_ediv_of_nonneg, Int.tmod_eq_emod_of_nonneg, hr, hz, hwy, hor]
    refine hK _ (W.liveK [5, 6, 7, 8, 10, 30, 31, 32] fun K2 hK2 => ?_); clear hK K; simp; refine hK2 _ ?_; clear hK2 K2
    refine W.reg (fun K hK => ?_)
    simp (disch := omega) [gA, wrap_i64, wrap_u64, wrap_u32, Int.tdiv_eq_ediv_of_nonneg, Int.tmod_eq_emod_of_nonneg, hz]
    refine hK _ (W.liveK [5, 6, 7, 30, 31, 32] fun K2 hK2 => ?_); clear hK K; simp; refine hK2 _ ?_; clear hK2 K2
    refine W.reg (fun K hK => ?_); simp (disch := omega) [gA, wrap_i64, wrap_u64, wrap_u32, Int.tdiv_eq_ediv_of_nonneg, Int.tmod_eq_emod_of_nonneg]
    refine hK _ ⟨x.length - (i + 1), _, Gh_fa _ [5, 6, 7, 30, 31, 32], by omega, i + 1, v, (z.set i (y % 4294967296 + nth z i)).set (i + 1) (y / 4294967296), _, _, rfl, by simp, by omega, by omega, by simp [hz], (lz.set ⟨by omega, by omega⟩).set ⟨by omega, by omega⟩, ?_, ?_⟩
    · have q1 := V_take_set (b := 4294967296) (l := z.set i (y % 4294967296 + nth z i)) (i := i + 1) (x := y / 4294967296) (by simp; omega)
      have q2 := V_take_set (b := 4294967296) (l := z) (i := i) (x := y % 4294967296 + nth z i) (by omega)
      have q3 := V_take_succ (b := 4294967296) (l := z) (i := i) (by omega)
      have q4 := Int.mul_ediv_add_emod y 4294967296
      rw [q1, q2, hVx2, ← hV, q3, Int.pow_succ]
      generalize y / 4294967296 = yq at *
      generalize y % 4294967296 = yr at *
      rw [← q4]; grind
    · rw [nth_set_self (by simp; omega)]; omega
  · have hi : i = x.length := by simp at h; omega
    subst hi
    have hVz : V 4294967296 z = V 4294967296 x * 2 ^ n := by
      rw [V_take_all (by omega), V_take_all (Nat.le_refl _)] at hV; exact hV
    have zz := take_all hz
    have hcut := cut_ret z (by omega)
    rw [N_cut lz, hVz] at hcut
    refine W.exit ?_; simp only [pblk_exit, pblk_normal, pblk_ret, pseq_exit, pseq_normal, pseq_ret, pnor_exit, pnor_normal, pnor_ret, if_true, if_false, reduceIte, Nat.reduceEqDiff]
    refine W.sreg (fun K hK => ?_)
    simp (disch := omega) [gA, wrap_i64, wrap_u64, wrap_u32, Int.tdiv_eq_ediv_of_nonneg, Int.tmod_eq_emod_of_nonneg, hr, zz]
    refine callR hcut ?_
    simp (disch := omega) [gA, wrap_i64, wrap_u64, wrap_u32, Int.tdiv_eq_ediv_of_nonneg, Int.tmod_eq_emod_of_nonneg]
    refine hK _ (W.liveK [4] fun K2 hK2 => ?_); clear hK K; simp; refine hK2 _ ?_; clear hK2 K2
    refine W.ret ?_
    simp [go]
end Go.Proofs.Ytjnkpfknmncdmaa
