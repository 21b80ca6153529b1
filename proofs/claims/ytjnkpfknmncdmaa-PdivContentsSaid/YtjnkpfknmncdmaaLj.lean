import Derived.Test.YtjnkpfknmncdmaaLi
set_option linter.unusedSimpArgs false
set_option linter.unusedVariables false
namespace Go.Proofs.Ytjnkpfknmncdmaa
open Go Pm

theorem idxT {S : ByteArray} {kk : IntKind} {k : Nat} {K : PV → Prop} (h : (List.range 256).all (fun x => decide ((S[x]?).map (fun b => b.toNat) = some (nb x))) = true) (hk : k < 256) (hK : go (K (.int .u8 (nb k)))) : stepV (fun v => yindex .str (.str S) (.int kk (k : Int)) v) K := by
  have h1 := List.all_eq_true.1 h k (by simpa using hk)
  simp only [decide_eq_true_eq] at h1
  obtain ⟨b, hb, h2⟩ := Option.map_eq_some_iff.1 h1
  refine ⟨_, ⟨by omega, b, by simpa using hb, rfl⟩, ?_⟩
  rw [h2]; exact hK

theorem Len32_ret (n : Int) (h0 : 0 ≤ n) (h1 : n < 4294967296) : Ret env.P 130 [.int .u32 n] (.int .i64 (nb n.toNat)) := by
  refine ret_of_Wf (E := env) (fun _ => 0) [(0, .int .u32 n)] Try.func130 rfl (by kernel_rfl) (by kernel_rfl) (show 1 ≤ 19 by decide) (by simp) ?_
  refine W.sreg (fun K hK => ?_)
  simp (disch := omega) [gA, wrap_i64, wrap_u64, wrap_u32, Int.tdiv_eq_ediv_of_nonneg, Int.tmod_eq_emod_of_nonneg]
  refine hK _ (W.liveK [0, 2] fun K2 hK2 => ?_); clear hK K; simp; refine hK2 _ ?_; clear hK2 K2
  refine W.seqJ (fun σ => ∃ (k : Nat) (x : Nat) (rows : Pm.Rows) (clk : Nat), σ = ⟨fa [(0, .int .u32 x), (2, .int .i64 k)], rows, clk⟩ ∧ nb n.toNat = k + nb x ∧ x < 65536 ∧ k ≤ 16) ?_ ?_
  ·
    refine W.sreg (fun K hK => ?_)
    simp (disch := omega) [gA, wrap_i64, wrap_u64, wrap_u32, Int.tdiv_eq_ediv_of_nonneg, Int.tmod_eq_emod_of_nonneg]
    refine hK _ (W.liveK [0, 2, 4] fun K2 hK2 => ?_); clear hK K; simp; refine hK2 _ ?_; clear hK2 K2
    refine W.cond ⟨_, rfl, fun h => ?_, fun h => ?_⟩   -- t4
    · simp at h
      refine W.sreg (fun K hK => ?_)
      simp (disch := omega) [gA, wrap_i64, wrap_u64, wrap_u32, Int.tdiv_eq_ediv_of_nonneg, Int.tmod_eq_emod_of_nonneg]
      refine hK _ (W.liveK [0] fun K2 hK2 => ?_); clear hK K; simp; refine hK2 _ ?_; clear hK2 K2
      refine W.reg (fun K hK => ?_)
      simp (disch := omega) [gA, wrap_i64, wrap_u64, wrap_u32, Int.tdiv_eq_ediv_of_nonneg, Int.tmod_eq_emod_of_nonneg]
      refine hK _ ⟨_, Gh.fr [(0, .int .u32 ((n.toNat / 65536 : Nat) : Int)), (2, .int .i64 16)] (by simp; rw [Int.fdiv_eq_ediv_of_nonneg _ (by decide)]; omega), 16, n.toNat / 65536, _, _, rfl, ?_, by omega, by omega⟩
      exact nb_shift (k := 16) (by simp; omega)
    · simp at h
      refine W.skip ?_
      refine ⟨_, Gh.fr [(0, .int .u32 (n.toNat : Int)), (2, .int .i64 0)] (by simp; omega), 0, n.toNat, _, _, rfl, by simp, by omega, by omega⟩
  rintro _ ⟨k, x, rows, clk, rfl, hn, hx, hk⟩
  refine W.seqJ (fun σ => ∃ (k : Nat) (x : Nat) (rows : Pm.Rows) (clk : Nat), σ = ⟨fa [(0, .int .u32 x), (2, .int .i64 k)], rows, clk⟩ ∧ nb n.toNat = k + nb x ∧ x < 256 ∧ k ≤ 24) ?_ ?_
  ·
    refine W.sreg (fun K hK => ?_)
    simp (disch := omega) [gA, wrap_i64, wrap_u64, wrap_u32, Int.tdiv_eq_ediv_of_nonneg, Int.tmod_eq_emod_of_nonneg]
    refine hK _ (W.liveK [0, 2, 8] fun K2 hK2 => ?_); clear hK K; simp; refine hK2 _ ?_; clear hK2 K2
    refine W.cond ⟨_, rfl, fun h => ?_, fun h => ?_⟩   -- t8
    · simp at h
      refine W.sreg (fun K hK => ?_)
      simp (disch := omega) [gA, wrap_i64, wrap_u64, wrap_u32, Int.tdiv_eq_ediv_of_nonneg, Int.tmod_eq_emod_of_nonneg]
      refine hK _ (W.liveK [0, 2] fun K2 hK2 => ?_); clear hK K; simp; refine hK2 _ ?_; clear hK2 K2
      refine W.reg (fun K hK => ?_)
      simp (disch := omega) [gA, wrap_i64, wrap_u64, wrap_u32, Int.tdiv_eq_ediv_of_nonneg, Int.tmod_eq_emod_of_nonneg]
      refine hK _ ⟨_, Gh.fr [(0, .int .u32 ((x / 256 : Nat) : Int)), (2, .int .i64 ((k + 8 : Nat) : Int))] (by simp; exact Int.fdiv_eq_ediv_of_nonneg _ (by decide)), k + 8, x / 256, _, _, rfl, ?_, by omega, by omega⟩
      have := nb_shift (n := x) (k := 8) (by simp; omega)
      simp at this
      omega
    · simp at h
      refine W.skip ?_
      refine ⟨_, Gh_fa _ [0, 2], k, x, _, _, rfl, hn, by omega, by omega⟩
  rintro _ ⟨k, x, rows, clk, rfl, hn, hx, hk⟩
  refine W.sreg (fun K hK => ?_)
  have hw : IntKind.u8.wrap (x : Int) = x := wrap_u8 (by omega) (by omega)
  have hz : nb x ≤ 8 := nb_lt.2 hx
  simp only [go_move, go_conv, evf_tmp, evf_const, constV_str, put_some, fa_cons, fa_nil, if_true, if_false, reduceIte, Nat.reduceEqDiff, ety115, ety5, yconv, gV_eq, hw, go_index, reduceCtorEq]
  refine idxT (by kernel_rfl) hx ?_
  simp (disch := omega) only [go_conv, go_bin, go_assign, go_nil, evf_tmp, put_some, fa_cons, fa_nil, if_true, if_false, reduceIte, Nat.reduceEqDiff, ety3, ety5, yconv, gV_eq, wrap_i64, ybin, stepV_and, gA_true, reduceCtorEq, true_and]
  refine hK _ (W.liveK [2] fun K2 hK2 => ?_); clear hK K; simp; refine hK2 _ ?_; clear hK2 K2
  refine W.ret ?_
  rw [hn]
  simp [go]

/-- How many binary digits a row of limbs has. -/
def bl (l : List Int) : Int := if l = [] then 0 else 32 * ((l.length : Int) - 1) + nb (nth l (l.length - 1)).toNat

theorem Bits_ret (l : List Int) (h : LOK l) : Ret env.P 122 [us l] (.int .i64 (bl (cutR l))) := by
  refine ret_of_Wf (E := env) (fun _ => 0) [(0, us l)] Try.func122 rfl (by kernel_rfl) (by kernel_rfl) (show 1 ≤ 20 by decide) (by simp) ?_
  have hl := h.len
  have hl2 := cutR_len l
  have hL := Lim_cutR h.lim
  refine W.sreg (fun K hK => ?_)
  simp (disch := omega) [gA, wrap_i64, wrap_u64, wrap_u32, Int.tdiv_eq_ediv_of_nonneg, Int.tmod_eq_emod_of_nonneg]
  refine hK _ (W.liveK [0] fun K2 hK2 => ?_); clear hK K; simp; refine hK2 _ ?_; clear hK2 K2
  refine W.sreg (fun K hK => ?_)
  simp (disch := omega) [gA, wrap_i64, wrap_u64, wrap_u32, Int.tdiv_eq_ediv_of_nonneg, Int.tmod_eq_emod_of_nonneg]
  refine callR (cut_ret l (by omega)) ?_
  simp (disch := omega) [gA, wrap_i64, wrap_u64, wrap_u32, Int.tdiv_eq_ediv_of_nonneg, Int.tmod_eq_emod_of_nonneg]
  refine hK _ (W.liveK [0] fun K2 hK2 => ?_); clear hK K; simp; refine hK2 _ ?_; clear hK2 K2
  generalize cutR l = x at *
  refine W.seq ?_
  refine W.sreg (fun K hK => ?_)
  simp (disch := omega) [gA, wrap_i64, wrap_u64, wrap_u32, Int.tdiv_eq_ediv_of_nonneg, Int.tmod_eq_emod_of_nonneg]
  refine hK _ (W.liveK [0, 7] fun K2 hK2 => ?_); clear hK K; simp; refine hK2 _ ?_; clear hK2 K2
  refine W.cond ⟨_, rfl, fun h => ?_, fun h => ?_⟩   -- t7
  · have h0 : x = [] := by simpa using h
    refine W.sreg (fun K hK => ?_)
    simp (disch := omega) [gA, wrap_i64, wrap_u64, wrap_u32, Int.tdiv_eq_ediv_of_nonneg, Int.tmod_eq_emod_of_nonneg]
    refine hK _ (W.liveK [2] fun K2 hK2 => ?_); clear hK K; simp; refine hK2 _ ?_; clear hK2 K2
    refine W.ret ?_
    simp [go, bl, h0]
  · have h0 : 0 < x.length := List.length_pos_iff.2 (by simpa using h)
    have hx := hL.nth (i := x.length - 1) (by omega)
    have e : ((x.length : Int) - 1).toNat = x.length - 1 := by omega
    have hz : nb (nth x (x.length - 1)).toNat ≤ 32 := nb_lt.2 (by omega)
    refine W.skip ?_
    refine W.sreg (fun K hK => ?_)
    simp (disch := omega) [gA, wrap_i64, wrap_u64, wrap_u32, Int.tdiv_eq_ediv_of_nonneg, Int.tmod_eq_emod_of_nonneg, e]
    refine callR (Len32_ret _ hx.1 hx.2) ?_
    simp (disch := omega) [gA, wrap_i64, wrap_u64, wrap_u32, Int.tdiv_eq_ediv_of_nonneg, Int.tmod_eq_emod_of_nonneg]
    refine hK _ (W.liveK [2] fun K2 hK2 => ?_); clear hK K; simp; refine hK2 _ ?_; clear hK2 K2
    refine W.ret ?_
    have h1 : x ≠ [] := fun h2 => by simp [h2] at h0
    simp [go, bl, h1]

theorem bl_zero {l : List Int} (h : Lim 4294967296 l) (hc : cutR l = l) : bl l = 0 ↔ V 4294967296 l = 0 := by
  unfold bl
  split
  · rename_i h0; subst h0; simp [V]
  · rename_i h0
    have h1 := V_canon_ge (by decide) h hc h0
    have h2 : 0 < (4294967296 : Int) ^ (l.length - 1) := Int.pow_pos (by decide)
    have h3 : 0 < l.length := List.length_pos_iff.2 h0
    have h4 := h.nth (i := l.length - 1) (by omega)
    have h5 : nth l (l.length - 1) ≠ 0 := by
      intro h6
      have e : l = l.take (l.length - 1) ++ [0] := by
        conv => lhs; rw [← List.take_length (l := l)]
        rw [← h6, ← take_succ_nth (by omega), show l.length - 1 + 1 = l.length by omega]
      rw [e, cutR_zero] at hc
      have := congrArg List.length hc
      have := cutR_len (l.take (l.length - 1))
      simp at *
      omega
    have h6 : nb (nth l (l.length - 1)).toNat ≠ 0 := by
      intro h7
      have := nb_lt.1 (Nat.le_of_eq h7)
      simp at this; omega
    omega

theorem sign_ret (n : Bool) (l : List Int) (h : LOK l) : Ret env.P 102 [IV n l] (.int .i64 (iv n l).sign) := by
  refine ret_of_Wf (E := env) (fun _ => 0) [(0, IV n l)] Try.func102 rfl (by kernel_rfl) (by kernel_rfl) (show 1 ≤ 11 by decide) (by simp) ?_
  have hz := bl_zero (Lim_cutR h.lim) (cutR_cutR l)
  have hp := V_pos h
  rw [V_cutR] at hz
  refine W.sreg (fun K hK => ?_)
  simp (disch := omega) [gA, wrap_i64, wrap_u64, wrap_u32, Int.tdiv_eq_ediv_of_nonneg, Int.tmod_eq_emod_of_nonneg]
  refine hK _ (W.liveK [1] fun K2 hK2 => ?_); clear hK K; simp; refine hK2 _ ?_; clear hK2 K2
  refine W.seq ?_
  refine W.block ?_   -- block 0
  refine W.sreg (fun K hK => ?_)
  simp (disch := omega) [gA, wrap_i64, wrap_u64, wrap_u32, Int.tdiv_eq_ediv_of_nonneg, Int.tmod_eq_emod_of_nonneg]
  refine callR (Bits_ret l h) ?_
  simp (disch := omega) [gA, wrap_i64, wrap_u64, wrap_u32, Int.tdiv_eq_ediv_of_nonneg, Int.tmod_eq_emod_of_nonneg]
  refine hK _ (W.liveK [1, 3] fun K2 hK2 => ?_); clear hK K; simp; refine hK2 _ ?_; clear hK2 K2
  refine W.cond ⟨_, rfl, fun hb => ?_, fun hb => ?_⟩   -- t3
  · have h0 : V 4294967296 l = 0 := hz.1 (by simpa using hb)
    refine W.sreg (fun K hK => ?_)
    simp (disch := omega) [gA, wrap_i64, wrap_u64, wrap_u32, Int.tdiv_eq_ediv_of_nonneg, Int.tmod_eq_emod_of_nonneg]
    refine hK _ (W.liveK [2] fun K2 hK2 => ?_); clear hK K; simp; refine hK2 _ ?_; clear hK2 K2
    refine W.ret ?_
    simp [go, iv, h0]
  · have h0 : 0 < V 4294967296 l := by
      have : V 4294967296 l ≠ 0 := fun h1 => by simp [hz.2 h1] at hb
      omega
    refine W.sreg (fun K hK => ?_)
    simp (disch := omega) [gA, wrap_i64, wrap_u64, wrap_u32, Int.tdiv_eq_ediv_of_nonneg, Int.tmod_eq_emod_of_nonneg]
    refine hK _ (W.liveK [8] fun K2 hK2 => ?_); clear hK K; simp; refine hK2 _ ?_; clear hK2 K2
    refine W.cond ⟨_, rfl, fun hn => ?_, fun hn => ?_⟩   -- t8
    · subst hn
      refine W.sreg (fun K hK => ?_)
      simp (disch := omega) [gA, wrap_i64, wrap_u64, wrap_u32, Int.tdiv_eq_ediv_of_nonneg, Int.tmod_eq_emod_of_nonneg]
      refine hK _ (W.liveK [2] fun K2 hK2 => ?_); clear hK K; simp; refine hK2 _ ?_; clear hK2 K2
      refine W.ret ?_
      have : (- V 4294967296 l).sign = -1 := Int.sign_eq_neg_one_of_neg (by omega)
      simp [go, iv, this]
    · subst hn
      refine W.skip ?_
      refine W.sreg (fun K hK => ?_)
      simp (disch := omega) [gA, wrap_i64, wrap_u64, wrap_u32, Int.tdiv_eq_ediv_of_nonneg, Int.tmod_eq_emod_of_nonneg]
      refine hK _ (W.liveK [2] fun K2 hK2 => ?_); clear hK K; simp; refine hK2 _ ?_; clear hK2 K2
      refine W.ret ?_
      have : (V 4294967296 l).sign = 1 := Int.sign_eq_one_of_pos h0
      simp [go, iv, this]
end Go.Proofs.Ytjnkpfknmncdmaa
