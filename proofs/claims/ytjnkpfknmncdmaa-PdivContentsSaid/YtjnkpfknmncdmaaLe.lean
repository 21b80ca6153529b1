import Derived.Test.YtjnkpfknmncdmaaLd
set_option linter.unusedSimpArgs false
set_option linter.unusedVariables false
namespace Go.Proofs.Ytjnkpfknmncdmaa
open Go Pm

theorem mul_lim {a b : Int} (ha : 0 ≤ a ∧ a < 4294967296) (hb : 0 ≤ b ∧ b < 4294967296) : 0 ≤ a * b ∧ a * b ≤ 18446744065119617025 := by
  refine ⟨Int.mul_nonneg ha.1 hb.1, ?_⟩
  have := Int.mul_le_mul (show a ≤ 4294967295 by omega) (show b ≤ 4294967295 by omega) hb.1 (by decide)
  simpa using this

theorem Mul_ret (a b : List Int) (ha : a.length < 1099511627776) (hb : b.length < 1099511627776) (la : Lim 4294967296 a) (lb : Lim 4294967296 b) : Ret env.P 106 [us a, us b] (N (V 4294967296 a * V 4294967296 b)) := by
  refine ret_of_Wf (E := env) (fun _ => 0) [(0, us a), (1, us b)] Try.func106 rfl (by kernel_rfl) (by kernel_rfl) (show 2 ≤ 75 by decide) (by simp) ?_
  refine W.sreg (fun K hK => ?_)
  simp (disch := omega) [gA, wrap_i64, wrap_u64, wrap_u32, Int.tdiv_eq_ediv_of_nonneg, Int.tmod_eq_emod_of_nonneg]
  refine hK _ (W.liveK [0, 1] fun K2 hK2 => ?_); clear hK K; simp; refine hK2 _ ?_; clear hK2 K2
  refine W.sreg (fun K hK => ?_)
  simp
  refine callR (cut_ret a (by omega)) ?_
  simp
  refine callR (cut_ret b (by omega)) ?_
  simp
  refine hK _ (W.liveK [0, 1] fun K2 hK2 => ?_); clear hK K; simp; refine hK2 _ ?_; clear hK2 K2
  have lx := Lim_cutR la; have hx := cutR_len a
  have ly := Lim_cutR lb; have hy := cutR_len b
  rw [← V_cutR a, ← V_cutR b]
  generalize cutR a = x at *
  generalize cutR b = y at *
  refine W.sreg (fun K hK => ?_)
  simp (disch := omega) [gA, wrap_i64, wrap_u64, wrap_u32, Int.tdiv_eq_ediv_of_nonneg, Int.tmod_eq_emod_of_nonneg]
  refine hK _ (W.liveK [0, 1, 5] fun K2 hK2 => ?_); clear hK K; simp; refine hK2 _ ?_; clear hK2 K2
  refine W.seq ?_
  refine W.sreg (fun K hK => ?_)
  simp (disch := omega) [gA, wrap_i64, wrap_u64, wrap_u32, Int.tdiv_eq_ediv_of_nonneg, Int.tmod_eq_emod_of_nonneg]
  refine hK _ (W.liveK [1, 5, 22, 23, 24] fun K2 hK2 => ?_); clear hK K; simp; refine hK2 _ ?_; clear hK2 K2
  refine W.block ?_   -- block 0
  refine W.loopG (fun k σ => ∃ (i : Nat) (z : List Int) (ver : Nat) (rows : Pm.Rows) (clk : Nat), σ = ⟨fa [(1, us y), (5, .own 21 ver 0 (x.length + y.length)), (22, us x), (23, .int .i64 x.length), (24, .int .i64 i)], rows, clk⟩ ∧
      rows 21 = some ⟨ver, 115, 1, emap u32 z⟩ ∧ k = x.length - i ∧ i ≤ x.length ∧ z.length = x.length + y.length ∧ Lim 4294967296 z ∧ (∀ j, i + y.length ≤ j → nth z j = 0) ∧
      V 4294967296 z = V 4294967296 (x.take i) * V 4294967296 y) x.length ?_ ?_
  · have e : ((x.length : Int) + (y.length : Int)).toNat = x.length + y.length := by omega
    refine ⟨_, .refl, 0, List.replicate (x.length + y.length) 0, _, _, _, rfl, by simp [e], by omega, by omega, by simp, Lim.rep (by decide) _, fun j _ => ?_, by simp [V, V_rep]⟩
    unfold nth
    cases h : (List.replicate (x.length + y.length) (0 : Int))[j]? with
    | none => rfl
    | some v => have := List.mem_of_getElem? h; simp at this; simp [this]
  rintro k _ ⟨i, z, ver, rows, clk, rfl, hr, hk, hi, hz, lz, hz0, hV⟩
  refine W.sreg (fun K hK => ?_)
  simp (disch := omega) [gA, wrap_i64, wrap_u64, wrap_u32, Int.tdiv_eq_ediv_of_nonneg, Int.tmod_eq_emod_of_nonneg]
  refine hK _ (W.liveK [1, 5, 22, 23, 24, 25] fun K2 hK2 => ?_); clear hK K; simp; refine hK2 _ ?_; clear hK2 K2
  refine W.seq ?_
  refine W.cond ⟨_, rfl, fun h => ?_, fun h => ?_⟩   -- t25
  · simp at h
    have hxi := lx.nth h
    refine W.skip ?_
    refine W.seq_blockJ (fun σ => ∃ (z : List Int) (ver : Nat) (rows : Pm.Rows) (clk : Nat), σ = ⟨fa [(1, us y), (5, .own 21 ver 0 (x.length + y.length)), (22, us x), (23, .int .i64 x.length), (24, .int .i64 i)], rows, clk⟩ ∧
      rows 21 = some ⟨ver, 115, 1, emap u32 z⟩ ∧ z.length = x.length + y.length ∧ Lim 4294967296 z ∧ (∀ j, i + 1 + y.length ≤ j → nth z j = 0) ∧
      V 4294967296 z = V 4294967296 (x.take (i + 1)) * V 4294967296 y) ?_ ?_   -- block 1
    ·
      refine W.sreg (fun K hK => ?_)
      simp (disch := omega) [gA, wrap_i64, wrap_u64, wrap_u32, Int.tdiv_eq_ediv_of_nonneg, Int.tmod_eq_emod_of_nonneg]
      refine hK _ (W.liveK [1, 5, 6, 7, 22, 23, 24] fun K2 hK2 => ?_); clear hK K; simp; refine hK2 _ ?_; clear hK2 K2
      refine W.sreg (fun K hK => ?_)
      simp (disch := omega) [gA, wrap_i64, wrap_u64, wrap_u32, Int.tdiv_eq_ediv_of_nonneg, Int.tmod_eq_emod_of_nonneg]
      refine hK _ (W.liveK [1, 5, 6, 7, 8, 22, 23, 24] fun K2 hK2 => ?_); clear hK K; simp; refine hK2 _ ?_; clear hK2 K2
      refine W.seq ?_
      refine W.sreg (fun K hK => ?_)
      simp (disch := omega) [gA, wrap_i64, wrap_u64, wrap_u32, Int.tdiv_eq_ediv_of_nonneg, Int.tmod_eq_emod_of_nonneg]
      refine hK _ (W.liveK [1, 5, 6, 7, 8, 22, 23, 24, 29, 30, 31] fun K2 hK2 => ?_); clear hK K; simp; refine hK2 _ ?_; clear hK2 K2
      refine W.block ?_   -- block 2
      refine W.loopG (fun m σ => ∃ (k : Nat) (c : Int) (z : List Int) (ver : Nat) (rows : Pm.Rows) (clk : Nat), σ = ⟨fa [(1, us y), (5, .own 21 ver 0 (x.length + y.length)), (6, .int .i64 i), (7, .int .u32 (nth x i)), (8, .int .u64 c), (22, us x), (23, .int .i64 x.length), (24, .int .i64 i), (29, us y), (30, .int .i64 y.length), (31, .int .i64 k)], rows, clk⟩ ∧
        rows 21 = some ⟨ver, 115, 1, emap u32 z⟩ ∧ m = y.length - k ∧ k ≤ y.length ∧ z.length = x.length + y.length ∧ Lim 4294967296 z ∧ (∀ j, i + y.length ≤ j → nth z j = 0) ∧ 0 ≤ c ∧ c < 4294967296 ∧
        V 4294967296 z + 4294967296 ^ (i + k) * c = V 4294967296 (x.take i) * V 4294967296 y + 4294967296 ^ i * nth x i * V 4294967296 (y.take k)) y.length ?_ ?_
      · exact ⟨_, .refl, 0, 0, z, ver, _, _, rfl, by simpa using hr, by omega, by omega, hz, lz, hz0, by omega, by omega, by simp [V, hV]⟩
      clear hV hz0 lz hz hr z ver rows clk
      rintro m _ ⟨k, c, z, ver, rows, clk, rfl, hr, hm, hky, hz, lz, hz0, hc0, hc1, hV⟩
      refine W.sreg (fun K hK => ?_)
      simp (disch := omega) [gA, wrap_i64, wrap_u64, wrap_u32, Int.tdiv_eq_ediv_of_nonneg, Int.tmod_eq_emod_of_nonneg]
      refine hK _ (W.liveK [1, 5, 6, 7, 8, 22, 23, 24, 29, 30, 31, 32] fun K2 hK2 => ?_); clear hK K; simp; refine hK2 _ ?_; clear hK2 K2
      refine W.seq ?_
      refine W.cond ⟨_, rfl, fun h2 => ?_, fun h2 => ?_⟩   -- t32
      · simp at h2
        have hyk := ly.nth h2
        have hzk := lz.nth (i := i + k) (by omega)
        have hp := mul_lim hxi hyk
        refine W.skip ?_
        refine W.seq ?_
        refine W.block ?_   -- block 3
        refine W.sreg (fun K hK => ?_)
        simp (disch := omega) [gA, wrap_i64, wrap_u64, wrap_u32, Int.tdiv_eq_ediv_of_nonneg, Int.tmod_eq_emod_of_nonneg]
        refine hK _ (W.liveK [1, 5, 6, 7, 8, 9, 10, 22, 23, 24, 29, 30, 31] fun K2 hK2 => ?_); clear hK K; simp; refine hK2 _ ?_; clear hK2 K2
        have e0 : ((i : Int) + (k : Int)).toNat = i + k := by omega
        refine W.sreg (fun K hK => ?_)
        simp (disch := omega) [gA, wrap_i64, wrap_u64, wrap_u32, Int.tdiv_eq_ediv_of_nonneg, Int.tmod_eq_emod_of_nonneg, hr, e0]
        refine hK _ (W.liveK [1, 5, 6, 7, 9, 11, 22, 23, 24, 29, 30, 31] fun K2 hK2 => ?_); clear hK K; simp; refine hK2 _ ?_; clear hK2 K2
        refine W.reg (fun K hK => ?_)
        simp (disch := omega) [gA, wrap_i64, wrap_u64, wrap_u32, Int.tdiv_eq_ediv_of_nonneg, Int.tmod_eq_emod_of_nonneg, hr, e0, wrap_u32']
        refine hK _ (W.liveK [1, 5, 6, 7, 8, 22, 23, 24, 29, 30, 31] fun K2 hK2 => ?_); clear hK K; simp; refine hK2 _ ?_; clear hK2 K2
        refine W.reg (fun K hK => ?_)
        simp (disch := omega) [gA, wrap_i64, wrap_u64, wrap_u32, Int.tdiv_eq_ediv_of_nonneg, Int.tmod_eq_emod_of_nonneg]
        have e1 := Int.emod_add_mul_ediv (nth x i * nth y k + nth z (i + k) + c) 4294967296
        have hs : 0 ≤ nth x i * nth y k + nth z (i + k) + c ∧ nth x i * nth y k + nth z (i + k) + c < 18446744073709551616 := by omega
        have hV2 := V_set (b := 4294967296) (l := z) (i := i + k) (x := (nth x i * nth y k + nth z (i + k) + c) % 4294967296) (by omega)
        refine hK _ ⟨y.length - (k + 1), _, Gh_fa _ [1, 5, 6, 7, 8, 22, 23, 24, 29, 30, 31], by omega, k + 1, _, z.set (i + k) ((nth x i * nth y k + nth z (i + k) + c) % 4294967296), ver, _, _, rfl, by simp, by omega, by omega, by simpa using hz, lz.set (by omega), fun j hj => ?_, by omega, by omega, ?_⟩
        · rw [nth_set_ne (by omega)]; exact hz0 j hj
        · rw [hV2, V_take_succ h2, show i + (k + 1) = (i + k) + 1 by omega, Int.pow_succ, Int.pow_add]
          rw [Int.pow_add] at hV
          grind
      · simp at h2
        have hk' : k = y.length := by omega
        subst hk'
        refine W.exit ?_; simp only [pblk_exit, pblk_normal, pblk_ret, pseq_exit, pseq_normal, pseq_ret, pnor_exit, pnor_normal, pnor_ret, if_true, if_false, reduceIte, Nat.reduceEqDiff]
        refine W.sreg (fun K hK => ?_)
        simp (disch := omega) [gA, wrap_i64, wrap_u64, wrap_u32, Int.tdiv_eq_ediv_of_nonneg, Int.tmod_eq_emod_of_nonneg]
        refine hK _ (W.liveK [1, 5, 6, 8, 22, 23, 24, 63] fun K2 hK2 => ?_); clear hK K; simp; refine hK2 _ ?_; clear hK2 K2
        refine W.cond ⟨_, rfl, fun h3 => ?_, fun h3 => ?_⟩   -- t63
        · simp at h3
          have e0 : ((i : Int) + (y.length : Int)).toNat = i + y.length := by omega
          refine W.reg (fun K hK => ?_)
          simp (disch := omega) [gA, wrap_i64, wrap_u64, wrap_u32, Int.tdiv_eq_ediv_of_nonneg, Int.tmod_eq_emod_of_nonneg, hr, e0]
          have hV2 := V_set (b := 4294967296) (l := z) (i := i + y.length) (x := c) (by omega)
          refine hK _ ⟨_, Gh_fa _ [1, 5, 22, 23, 24], z.set (i + y.length) c, ver, _, _, rfl, by simp, by simpa using hz, lz.set (by omega), fun j hj => ?_, ?_⟩
          · rw [nth_set_ne (by omega)]; exact hz0 j (by omega)
          · rw [hV2, V_take_succ h, hz0 _ (Nat.le_refl _)]
            rw [V_take_all (Nat.le_refl _)] at hV
            grind
        · simp at h3
          refine W.skip ?_
          refine ⟨_, Gh_fa _ [1, 5, 22, 23, 24], z, ver, _, _, rfl, hr, hz, lz, fun j hj => hz0 j (by omega), ?_⟩
          subst h3
          simp only [V, List.take_nil, Int.mul_zero, Int.add_zero, List.length_nil] at hV ⊢
          have h4 := V_nonneg (by decide) lz
          have h5 : 0 ≤ (4294967296 : Int) ^ i * c := Int.mul_nonneg (Int.le_of_lt (Int.pow_pos (by decide))) hc0
          simp only [Nat.add_zero] at hV
          omega
    clear hV hz0 lz hz hr z ver rows clk
    rintro _ ⟨z, ver, rows, clk, rfl, hr, hz, lz, hz0, hV⟩
    refine W.reg (fun K hK => ?_)
    simp (disch := omega) [gA, wrap_i64, wrap_u64, wrap_u32, Int.tdiv_eq_ediv_of_nonneg, Int.tmod_eq_emod_of_nonneg]
    exact hK _ ⟨x.length - (i + 1), _, Gh_fa _ [1, 5, 22, 23, 24], by omega, i + 1, z, ver, _, _, rfl, hr, by omega, by omega, hz, lz, hz0, hV⟩
  · simp at h
    have hi' : i = x.length := by omega
    subst hi'
    have hz2 : List.take (x.length + y.length) z = z := List.take_of_length_le (by omega)
    refine W.exit ?_; simp only [pblk_exit, pblk_normal, pblk_ret, pseq_exit, pseq_normal, pseq_ret, pnor_exit, pnor_normal, pnor_ret, if_true, if_false, reduceIte, Nat.reduceEqDiff]
    refine W.sreg (fun K hK => ?_)
    simp (disch := omega) [gA, wrap_i64, wrap_u64, wrap_u32, Int.tdiv_eq_ediv_of_nonneg, Int.tmod_eq_emod_of_nonneg, hr, hz2]
    refine callR (cut_ret z (by omega)) ?_
    simp (disch := omega) [gA, wrap_i64, wrap_u64, wrap_u32, Int.tdiv_eq_ediv_of_nonneg, Int.tmod_eq_emod_of_nonneg]
    refine hK _ (W.liveK [4] fun K2 hK2 => ?_); clear hK K; simp; refine hK2 _ ?_; clear hK2 K2
    refine W.ret ?_
    rw [V_take_all (Nat.le_refl _)] at hV
    rw [← hV, ← N_cut lz]
    simp
end Go.Proofs.Ytjnkpfknmncdmaa
