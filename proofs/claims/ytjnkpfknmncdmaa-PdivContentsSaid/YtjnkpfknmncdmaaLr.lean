import Derived.Test.YtjnkpfknmncdmaaLq
set_option linter.unusedSimpArgs false
set_option linter.unusedVariables false
namespace Go.Proofs.Ytjnkpfknmncdmaa
open Go Pm

theorem CmpNl_ret (x y : List Int) (hx : x.length < 1099511627776) (hy : y.length < 1099511627776) (lx : Lim 10000 x) (ly : Lim 10000 y) (cx : cutR x = x) (cy : cutR y = y) : Ret env.P 115 [sls i64e x, sls i64e y] (.int .i64 (cmp3 (V 10000 x) (V 10000 y))) := by
  refine ret_of_Wf (E := env) (fun _ => 0) [(0, sls i64e x), (1, sls i64e y)] Try.func115 rfl (by kernel_rfl) (by kernel_rfl) (show 2 ≤ 41 by decide) (by simp) ?_
  refine W.sreg (fun K hK => ?_); simp (disch := omega) [gA, wrap_i64, wrap_u64, wrap_u32, Int.tdiv_eq_ediv_of_nonneg, Int.tmod_eq_emod_of_nonneg]; refine hK _ (W.liveK [0, 1] fun K2 hK2 => ?_); clear hK K; simp; refine hK2 _ ?_; clear hK2 K2
  refine W.seq ?_
  refine W.sreg (fun K hK => ?_); simp (disch := omega) [gA, wrap_i64, wrap_u64, wrap_u32, Int.tdiv_eq_ediv_of_nonneg, Int.tmod_eq_emod_of_nonneg]; refine hK _ (W.liveK [0, 1, 10] fun K2 hK2 => ?_); clear hK K; simp; refine hK2 _ ?_; clear hK2 K2
  refine W.cond ⟨_, rfl, fun h => ?_, fun h => ?_⟩   -- t10
  · simp at h
    refine W.seq ?_
    refine W.sreg (fun K hK => ?_); simp (disch := omega) [gA, wrap_i64, wrap_u64, wrap_u32, Int.tdiv_eq_ediv_of_nonneg, Int.tmod_eq_emod_of_nonneg]; refine hK _ (W.liveK [15] fun K2 hK2 => ?_); clear hK K; simp; refine hK2 _ ?_; clear hK2 K2
    refine W.cond ⟨_, rfl, fun h => ?_, fun h => ?_⟩   -- t15
    · simp at h
      refine W.sreg (fun K hK => ?_); simp (disch := omega) [gA, wrap_i64, wrap_u64, wrap_u32, Int.tdiv_eq_ediv_of_nonneg, Int.tmod_eq_emod_of_nonneg]; refine hK _ (W.liveK [4] fun K2 hK2 => ?_); clear hK K; simp; refine hK2 _ ?_; clear hK2 K2
      refine W.ret ?_
      simp [cmp3_lt (V_lt_of_len (by decide) lx ly cy h)]
    · simp at h
      refine W.skip ?_
      refine W.sreg (fun K hK => ?_); simp (disch := omega) [gA, wrap_i64, wrap_u64, wrap_u32, Int.tdiv_eq_ediv_of_nonneg, Int.tmod_eq_emod_of_nonneg]; refine hK _ (W.liveK [4] fun K2 hK2 => ?_); clear hK K; simp; refine hK2 _ ?_; clear hK2 K2
      refine W.ret ?_
      simp [cmp3_gt (V_lt_of_len (by decide) ly lx cx (by omega))]
  · simp at h
    have hlen : x.length = y.length := by omega
    clear h
    refine W.skip ?_
    refine W.seq ?_
    refine W.sreg (fun K hK => ?_); simp (disch := omega) [gA, wrap_i64, wrap_u64, wrap_u32, Int.tdiv_eq_ediv_of_nonneg, Int.tmod_eq_emod_of_nonneg]; refine hK _ (W.liveK [0, 1, 5] fun K2 hK2 => ?_); clear hK K; simp; refine hK2 _ ?_; clear hK2 K2
    refine W.block ?_   -- block 0
    refine W.loopG (fun k σ => ∃ (rows : Pm.Rows) (clk : Nat), σ = ⟨fa [(0, sls i64e x), (1, sls i64e y), (5, .int .i64 ((k : Int) - 1))], rows, clk⟩ ∧ k ≤ x.length ∧ x.drop k = y.drop k) x.length ?_ ?_
    · exact ⟨_, .refl, _, _, rfl, by omega, by rw [List.drop_of_length_le (by omega), List.drop_of_length_le (by omega)]⟩
    rintro k _ ⟨rows, clk, rfl, hk, hd⟩
    refine W.seq ?_
    refine W.sreg (fun K hK => ?_); simp (disch := omega) [gA, wrap_i64, wrap_u64, wrap_u32, Int.tdiv_eq_ediv_of_nonneg, Int.tmod_eq_emod_of_nonneg]; refine hK _ (W.liveK [0, 1, 5, 20] fun K2 hK2 => ?_); clear hK K; simp; refine hK2 _ ?_; clear hK2 K2
    refine W.cond ⟨_, rfl, fun h => ?_, fun h => ?_⟩   -- t20
    · have h0 : 0 < k := by simp at h; omega
      obtain ⟨j, rfl⟩ : ∃ j, k = j + 1 := ⟨k - 1, by omega⟩
      clear h
      refine W.skip ?_
      refine W.seq ?_
      refine W.block ?_   -- block 1
      refine W.sdrw (fun K hK => ?_); simp (disch := omega) [gA, wrap_i64, wrap_u64, wrap_u32, Int.tdiv_eq_ediv_of_nonneg, Int.tmod_eq_emod_of_nonneg]; refine hK _ (W.liveK [0, 1, 5, 31] fun K2 hK2 => ?_); clear hK K; simp; refine hK2 _ ?_; clear hK2 K2
      refine W.cond ⟨_, rfl, fun h => ?_, fun h => ?_⟩   -- t31
      · simp at h
        refine W.seq ?_
        refine W.sdrw (fun K hK => ?_); simp (disch := omega) [gA, wrap_i64, wrap_u64, wrap_u32, Int.tdiv_eq_ediv_of_nonneg, Int.tmod_eq_emod_of_nonneg]; refine hK _ (W.liveK [40] fun K2 hK2 => ?_); clear hK K; simp; refine hK2 _ ?_; clear hK2 K2
        refine W.cond ⟨_, rfl, fun h2 => ?_, fun h2 => ?_⟩   -- t40
        · simp at h2
          refine W.sreg (fun K hK => ?_); simp (disch := omega) [gA, wrap_i64, wrap_u64, wrap_u32, Int.tdiv_eq_ediv_of_nonneg, Int.tmod_eq_emod_of_nonneg]; refine hK _ (W.liveK [4] fun K2 hK2 => ?_); clear hK K; simp; refine hK2 _ ?_; clear hK2 K2
          refine W.ret ?_
          simp [cmp3_lt (V_lt_of_top (by decide) lx ly hlen (by omega) hd h2)]
        · simp at h2
          refine W.skip ?_
          refine W.sreg (fun K hK => ?_); simp (disch := omega) [gA, wrap_i64, wrap_u64, wrap_u32, Int.tdiv_eq_ediv_of_nonneg, Int.tmod_eq_emod_of_nonneg]; refine hK _ (W.liveK [4] fun K2 hK2 => ?_); clear hK K; simp; refine hK2 _ ?_; clear hK2 K2
          refine W.ret ?_
          simp [cmp3_gt (V_lt_of_top (by decide) ly lx hlen.symm (by omega) hd.symm (by omega))]
      · simp at h
        refine W.skip ?_
        refine W.reg (fun K hK => ?_); simp (disch := omega) [gA, wrap_i64, wrap_u64, wrap_u32, Int.tdiv_eq_ediv_of_nonneg, Int.tmod_eq_emod_of_nonneg]
        refine hK _ ⟨j, _, Gh_fa _ [0, 1, 5], by omega, _, _, rfl, by omega, ?_⟩
        rw [drop_nth (l := x) (i := j) (by omega), drop_nth (l := y) (i := j) (by omega), hd, h]
    · have h0 : k = 0 := by simp at h; omega
      subst h0
      simp at hd
      subst hd
      refine W.exit ?_; simp only [pblk_exit, pblk_normal, pblk_ret, pseq_exit, pseq_normal, pseq_ret, pnor_exit, pnor_normal, pnor_ret, if_true, if_false, reduceIte, Nat.reduceEqDiff]
      refine W.sreg (fun K hK => ?_); simp (disch := omega) [gA, wrap_i64, wrap_u64, wrap_u32, Int.tdiv_eq_ediv_of_nonneg, Int.tmod_eq_emod_of_nonneg]; refine hK _ (W.liveK [4] fun K2 hK2 => ?_); clear hK K; simp; refine hK2 _ ?_; clear hK2 K2
      refine W.ret ?_
      simp [cmp3_eq]
theorem CmpN_ret (x y : Int) (hx : 0 ≤ x) (hy : 0 ≤ y) (zx : Z x) (zy : Z y) : Ret env.P 115 [Dn x, Dn y] (.int .i64 (cmp3 x y)) := by
  have := CmpNl_ret (dig DD x.toNat) (dig DD y.toNat) (by have := dd_len' hx; omega) (by have := dd_len' hy; omega) (Lim_dd _) (Lim_dd _) (cutR_of_dig hDD _) (cutR_of_dig hDD _)
  rwa [V_dd hx, V_dd hy] at this

theorem AddNl_ret (a b : List Int) (ha : a.length < 1099511627776) (hb : b.length < 1099511627776) (la : Lim 10000 a) (lb : Lim 10000 b) (ca : cutR a = a) (cb : cutR b = b) : Ret env.P 129 [sls i64e a, sls i64e b] (Dn (V 10000 a + V 10000 b)) := by
  refine ret_of_Wf (E := env) (fun _ => 0) [(0, sls i64e a), (1, sls i64e b)] Try.func129 rfl (by kernel_rfl) (by kernel_rfl) (show 2 ≤ 52 by decide) (by simp) ?_
  refine W.sreg (fun K hK => ?_); simp (disch := omega) [gA, wrap_i64, wrap_u64, wrap_u32, Int.tdiv_eq_ediv_of_nonneg, Int.tmod_eq_emod_of_nonneg]; refine hK _ (W.liveK [0, 1] fun K2 hK2 => ?_); clear hK K; simp; refine hK2 _ ?_; clear hK2 K2
  refine W.sreg (fun K hK => ?_); simp (disch := omega) [gA, wrap_i64, wrap_u64, wrap_u32, Int.tdiv_eq_ediv_of_nonneg, Int.tmod_eq_emod_of_nonneg]; refine hK _ (W.liveK [0, 1, 5] fun K2 hK2 => ?_); clear hK K; simp; refine hK2 _ ?_; clear hK2 K2
  refine W.nil 5 5 3 1 (by simp) (by decide) (fun K hK => ?_)
  refine hK _ (W.liveK [0, 1, 5] fun K2 hK2 => ?_); clear hK K; simp; refine hK2 _ ?_; clear hK2 K2
  refine W.sreg (fun K hK => ?_); simp (disch := omega) [gA, wrap_i64, wrap_u64, wrap_u32, Int.tdiv_eq_ediv_of_nonneg, Int.tmod_eq_emod_of_nonneg]; refine hK _ (W.liveK [0, 1, 5, 6] fun K2 hK2 => ?_); clear hK K; simp; refine hK2 _ ?_; clear hK2 K2
  refine W.seq ?_
  refine W.sreg (fun K hK => ?_); simp (disch := omega) [gA, wrap_i64, wrap_u64, wrap_u32, Int.tdiv_eq_ediv_of_nonneg, Int.tmod_eq_emod_of_nonneg]; refine hK _ (W.liveK [0, 1, 5, 6, 7] fun K2 hK2 => ?_); clear hK K; simp; refine hK2 _ ?_; clear hK2 K2
  refine W.block ?_   -- block 0
  obtain ⟨M, hM⟩ : ∃ M, M = max a.length b.length := ⟨_, rfl⟩
  refine W.loopG (fun k σ => ∃ (i : Nat) (c : Int) (z : List Int) (ver : Nat) (rows : Pm.Rows) (clk : Nat), σ = ⟨fa [(0, sls i64e a), (1, sls i64e b), (5, .own 5 ver 0 i), (6, .int .i64 c), (7, .int .i64 i)], rows, clk⟩ ∧
    rows 5 = some ⟨ver, 3, 1, emap i64e z⟩ ∧ k = 2 * (M - i) + c.toNat ∧ z.length = i ∧ (i ≤ M ∨ (i = M + 1 ∧ c = 0 ∧ 10000 ^ M ≤ V 10000 a + V 10000 b)) ∧ Lim 10000 z ∧ 0 ≤ c ∧ c ≤ 1 ∧
    V 10000 z + 10000 ^ i * c = V 10000 (a.take i) + V 10000 (b.take i)) (2 * M) ?_ ?_
  · exact ⟨_, .refl, 0, 0, [], _, _, _, rfl, by simp [emap], by simp, rfl, by omega, Lim.nil, by omega, by omega, by simp [V]⟩
  rintro k _ ⟨i, c, z, ver, rows, clk, rfl, hr, hk, hz, hi, lz, hc0, hc1, hV⟩
  refine W.seq ?_
  refine W.sregJ (fun σ => ∃ (t : Bool), σ = ⟨fa [(0, sls i64e a), (1, sls i64e b), (5, .own 5 ver 0 i), (6, .int .i64 c), (7, .int .i64 i), (21, .bool t)], rows, clk⟩ ∧ (t = true ↔ i < M ∨ 0 < c)) (fun K hK => ?_) ?_
  · simp
    by_cases h1 : i < a.length
    · simp (disch := omega) [gA, wrap_i64, wrap_u64, wrap_u32, Int.tdiv_eq_ediv_of_nonneg, Int.tmod_eq_emod_of_nonneg, h1]
      exact hK _ _ (Gh_fa _ [0, 1, 5, 6, 7, 21]) ⟨_, rfl, by simp; omega⟩
    · by_cases h2 : i < b.length
      · simp (disch := omega) [gA, wrap_i64, wrap_u64, wrap_u32, Int.tdiv_eq_ediv_of_nonneg, Int.tmod_eq_emod_of_nonneg, h1, h2]
        exact hK _ _ (Gh_fa _ [0, 1, 5, 6, 7, 21]) ⟨_, rfl, by simp; omega⟩
      · simp (disch := omega) [gA, wrap_i64, wrap_u64, wrap_u32, Int.tdiv_eq_ediv_of_nonneg, Int.tmod_eq_emod_of_nonneg, h1, h2]
        exact hK _ _ (Gh_fa _ [0, 1, 5, 6, 7, 21]) ⟨_, rfl, by simp; omega⟩
  rintro _ ⟨t, rfl, ht⟩
  refine W.cond ⟨_, rfl, fun h => ?_, fun h => ?_⟩   -- t21
  · have ht := ht.1 h
    refine W.skip ?_
    refine W.seq ?_
    refine W.block ?_   -- block 1
    refine W.seqJ (fun σ => ∃ (s : Int), σ = ⟨fa [(0, sls i64e a), (1, sls i64e b), (5, .own 5 ver 0 i), (6, .int .i64 s), (7, .int .i64 i)], rows, clk⟩ ∧ 0 ≤ s ∧ s ≤ c + 9999 ∧ (a.length ≤ i → s = c) ∧
      V 10000 z + 10000 ^ i * s = V 10000 (a.take (i + 1)) + V 10000 (b.take i)) ?_ ?_
    ·
      refine W.sreg (fun K hK => ?_); simp (disch := omega) [gA, wrap_i64, wrap_u64, wrap_u32, Int.tdiv_eq_ediv_of_nonneg, Int.tmod_eq_emod_of_nonneg]; refine hK _ (W.liveK [0, 1, 5, 6, 7, 27] fun K2 hK2 => ?_); clear hK K; simp; refine hK2 _ ?_; clear hK2 K2
      refine W.cond ⟨_, rfl, fun h => ?_, fun h => ?_⟩   -- t27
      · simp at h
        have hx := la.nth h
        refine W.reg (fun K hK => ?_); simp (disch := omega) [gA, wrap_i64, wrap_u64, wrap_u32, Int.tdiv_eq_ediv_of_nonneg, Int.tmod_eq_emod_of_nonneg]
        refine hK _ ⟨_, Gh_fa _ [0, 1, 5, 6, 7], _, rfl, by omega, by omega, by omega, ?_⟩
        rw [V_take_succ h]; grind
      · simp at h
        refine W.skip ?_
        refine ⟨_, Gh_fa _ [0, 1, 5, 6, 7], _, rfl, by omega, by omega, fun _ => rfl, ?_⟩
        rw [V_take_all (l := a) (by omega)]
        rwa [V_take_all (l := a) (by omega)] at hV
    rintro _ ⟨s, rfl, hs0, hs1, hsc, hsV⟩
    refine W.seqJ (fun σ => ∃ (u : Int), σ = ⟨fa [(0, sls i64e a), (1, sls i64e b), (5, .own 5 ver 0 i), (6, .int .i64 u), (7, .int .i64 i)], rows, clk⟩ ∧ 0 ≤ u ∧ u ≤ s + 9999 ∧ (b.length ≤ i → u = s) ∧
      V 10000 z + 10000 ^ i * u = V 10000 (a.take (i + 1)) + V 10000 (b.take (i + 1))) ?_ ?_
    ·
      refine W.sreg (fun K hK => ?_); simp (disch := omega) [gA, wrap_i64, wrap_u64, wrap_u32, Int.tdiv_eq_ediv_of_nonneg, Int.tmod_eq_emod_of_nonneg]; refine hK _ (W.liveK [0, 1, 5, 6, 7, 37] fun K2 hK2 => ?_); clear hK K; simp; refine hK2 _ ?_; clear hK2 K2
      refine W.cond ⟨_, rfl, fun h => ?_, fun h => ?_⟩   -- t37
      · simp at h
        have hx := lb.nth h
        refine W.reg (fun K hK => ?_); simp (disch := omega) [gA, wrap_i64, wrap_u64, wrap_u32, Int.tdiv_eq_ediv_of_nonneg, Int.tmod_eq_emod_of_nonneg]
        refine hK _ ⟨_, Gh_fa _ [0, 1, 5, 6, 7], _, rfl, by omega, by omega, by omega, ?_⟩
        rw [V_take_succ h]; grind
      · simp at h
        refine W.skip ?_
        refine ⟨_, Gh_fa _ [0, 1, 5, 6, 7], _, rfl, by omega, by omega, fun _ => rfl, ?_⟩
        rw [V_take_all (l := b) (by omega)]
        rwa [V_take_all (l := b) (by omega)] at hsV
    rintro _ ⟨u, rfl, hu0, hu1, huc, huV⟩
    refine W.sreg (fun K hK => ?_); simp (disch := omega) [gA, wrap_i64, wrap_u64, wrap_u32, Int.tdiv_eq_ediv_of_nonneg, Int.tmod_eq_emod_of_nonneg, hr, hz]
    refine hK _ (W.liveK [0, 1, 5, 6, 7] fun K2 hK2 => ?_); clear hK K; simp; refine hK2 _ ?_; clear hK2 K2
    refine W.reg (fun K hK => ?_); simp (disch := omega) [gA, wrap_i64, wrap_u64, wrap_u32, Int.tdiv_eq_ediv_of_nonneg, Int.tmod_eq_emod_of_nonneg]; refine hK _ (W.liveK [0, 1, 5, 6, 7] fun K2 hK2 => ?_); clear hK K; simp; refine hK2 _ ?_; clear hK2 K2
    refine W.reg (fun K hK => ?_); simp (disch := omega) [gA, wrap_i64, wrap_u64, wrap_u32, Int.tdiv_eq_ediv_of_nonneg, Int.tmod_eq_emod_of_nonneg]
    refine hK _ ⟨2 * (M - (i + 1)) + (u / 10000).toNat, _, Gh_fa _ [0, 1, 5, 6, 7], ?_, i + 1, u / 10000, z ++ [u % 10000], _, _, _, rfl, by simp, rfl, by simp [hz], ?_, Lim.append.2 ⟨lz, Lim.cons.2 ⟨by omega, Lim.nil⟩⟩, by omega, by omega, ?_⟩
    · rcases Nat.lt_or_ge i M with h1 | h1
      · omega
      · have := hsc (by omega); have := huc (by omega); omega
    · rcases Nat.lt_or_ge i M with h1 | h1
      · omega
      · right
        have hc : c = 1 := by omega
        have hzn := V_nonneg (by decide) lz
        rw [V_take_all (l := a) (by omega), V_take_all (l := b) (by omega), hc] at hV
        have hiM : i = M := by omega
        rw [← hiM]
        refine ⟨rfl, by have := hsc (by omega); have := huc (by omega); omega, ?_⟩
        rw [← hV]
        omega
    · rw [V_append, V_one, hz, ← huV, Int.pow_succ]
      have := Int.emod_add_mul_ediv u 10000
      grind
  · have ht : ¬ (i < M ∨ 0 < c) := fun h2 => by simp [ht.2 h2] at h
    have hc : c = 0 := by omega
    subst hc
    refine W.exit ?_; simp only [pblk_exit, pblk_normal, pblk_ret, pseq_exit, pseq_normal, pseq_ret, pnor_exit, pnor_normal, pnor_ret, if_true, if_false, reduceIte, Nat.reduceEqDiff]
    refine W.sreg (fun K hK => ?_); simp (disch := omega) [gA, wrap_i64, wrap_u64, wrap_u32, Int.tdiv_eq_ediv_of_nonneg, Int.tmod_eq_emod_of_nonneg]; refine hK _ (W.liveK [4] fun K2 hK2 => ?_); clear hK K; simp; refine hK2 _ ?_; clear hK2 K2
    refine W.ret ?_
    rw [V_take_all (l := a) (by omega), V_take_all (l := b) (by omega)] at hV
    have e : V 10000 a + V 10000 b = V 10000 z := by rw [← hV]; simp
    have cz : cutR z = z := by
      refine canon_of_ge (by decide) lz fun h0 => ?_
      rw [hz, ← e]
      rcases hi with h1 | ⟨h1, _, h2⟩
      · have hna := V_nonneg (by decide) la
        have hnb := V_nonneg (by decide) lb
        have hil : 0 < i := by rw [← hz]; exact List.length_pos_iff.2 h0
        rcases Nat.le_total b.length a.length with h3 | h3
        · have := V_canon_ge (b := 10000) (by decide) la ca (by intro h5; rw [h5] at h3 hM; simp at h3; simp [h3] at hM; omega)
          rw [show i - 1 = a.length - 1 by omega]; omega
        · have := V_canon_ge (b := 10000) (by decide) lb cb (by intro h5; rw [h5] at h3 hM; simp at h3; simp [h3] at hM; omega)
          rw [show i - 1 = b.length - 1 by omega]; omega
      · rw [h1]; exact h2
    have ez : z.take i = z := take_all hz
    rw [e, ← Dn_cut lz, cz]
    simp [go, hr, ez]
theorem AddN_ret (x y : Int) (hx : 0 ≤ x) (hy : 0 ≤ y) (zx : Z x) (zy : Z y) : Ret env.P 129 [Dn x, Dn y] (Dn (x + y)) := by
  have := AddNl_ret (dig DD x.toNat) (dig DD y.toNat) (by have := dd_len' hx; omega) (by have := dd_len' hy; omega) (Lim_dd _) (Lim_dd _) (cutR_of_dig hDD _) (cutR_of_dig hDD _)
  rwa [V_dd hx, V_dd hy] at this

theorem SubNl_ret (a b : List Int) (ha : a.length < 1099511627776) (hb : b.length ≤ a.length) (la : Lim 10000 a) (lb : Lim 10000 b) (hle : V 10000 b ≤ V 10000 a) : Ret env.P 116 [sls i64e a, sls i64e b] (Dn (V 10000 a - V 10000 b)) := by
  refine ret_of_Wf (E := env) (fun _ => 0) [(0, sls i64e a), (1, sls i64e b)] Try.func116 rfl (by kernel_rfl) (by kernel_rfl) (show 2 ≤ 44 by decide) (by simp) ?_
  refine W.sreg (fun K hK => ?_); simp (disch := omega) [gA, wrap_i64, wrap_u64, wrap_u32, Int.tdiv_eq_ediv_of_nonneg, Int.tmod_eq_emod_of_nonneg]; refine hK _ (W.liveK [0, 1] fun K2 hK2 => ?_); clear hK K; simp; refine hK2 _ ?_; clear hK2 K2
  refine W.sreg (fun K hK => ?_); simp (disch := omega) [gA, wrap_i64, wrap_u64, wrap_u32, Int.tdiv_eq_ediv_of_nonneg, Int.tmod_eq_emod_of_nonneg]; refine hK _ (W.liveK [0, 1, 5] fun K2 hK2 => ?_); clear hK K; simp; refine hK2 _ ?_; clear hK2 K2
  refine W.sreg (fun K hK => ?_); simp (disch := omega) [gA, wrap_i64, wrap_u64, wrap_u32, Int.tdiv_eq_ediv_of_nonneg, Int.tmod_eq_emod_of_nonneg]; refine hK _ (W.liveK [0, 1, 5, 6] fun K2 hK2 => ?_); clear hK K; simp; refine hK2 _ ?_; clear hK2 K2
  refine W.seq ?_
  refine W.sreg (fun K hK => ?_); simp (disch := omega) [gA, wrap_i64, wrap_u64, wrap_u32, Int.tdiv_eq_ediv_of_nonneg, Int.tmod_eq_emod_of_nonneg]; refine hK _ (W.liveK [0, 1, 5, 6, 13, 14] fun K2 hK2 => ?_); clear hK K; simp; refine hK2 _ ?_; clear hK2 K2
  refine W.block ?_   -- block 0
  refine W.loopG (fun k σ => ∃ (i : Nat) (c : Int) (z : List Int) (ver : Nat) (rows : Pm.Rows) (clk : Nat), σ = ⟨fa [(0, sls i64e a), (1, sls i64e b), (5, .own 11 ver 0 a.length), (6, .int .i64 c), (13, .int .i64 a.length), (14, .int .i64 i)], rows, clk⟩ ∧
    rows 11 = some ⟨ver, 3, 1, emap i64e z⟩ ∧ k = a.length - i ∧ i ≤ a.length ∧ z.length = a.length ∧ Lim 10000 z ∧ 0 ≤ c ∧ c ≤ 1 ∧
    V 10000 (z.take i) - 10000 ^ i * c = V 10000 (a.take i) - V 10000 (b.take i)) a.length ?_ ?_
  · exact ⟨_, .refl, 0, 0, List.replicate a.length 0, _, _, _, rfl, by simp, by omega, by omega, by simp, Lim.rep (by decide) _, by omega, by omega, by simp [V]⟩
  rintro k _ ⟨i, c, z, ver, rows, clk, rfl, hr, hk, hi, hz, lz, hc0, hc1, hV⟩
  refine W.sreg (fun K hK => ?_); simp (disch := omega) [gA, wrap_i64, wrap_u64, wrap_u32, Int.tdiv_eq_ediv_of_nonneg, Int.tmod_eq_emod_of_nonneg]; refine hK _ (W.liveK [0, 1, 5, 6, 13, 14, 15] fun K2 hK2 => ?_); clear hK K; simp; refine hK2 _ ?_; clear hK2 K2
  refine W.seq ?_
  refine W.cond ⟨_, rfl, fun h => ?_, fun h => ?_⟩   -- t15
  · simp at h
    have hx := la.nth h
    refine W.skip ?_
    refine W.seq ?_
    refine W.block ?_   -- block 1
    refine W.sreg (fun K hK => ?_); simp (disch := omega) [gA, wrap_i64, wrap_u64, wrap_u32, Int.tdiv_eq_ediv_of_nonneg, Int.tmod_eq_emod_of_nonneg]; refine hK _ (W.liveK [0, 1, 5, 6, 7, 13, 14] fun K2 hK2 => ?_); clear hK K; simp; refine hK2 _ ?_; clear hK2 K2
    refine W.sreg (fun K hK => ?_); simp (disch := omega) [gA, wrap_i64, wrap_u64, wrap_u32, Int.tdiv_eq_ediv_of_nonneg, Int.tmod_eq_emod_of_nonneg]; refine hK _ (W.liveK [0, 1, 5, 7, 8, 13, 14] fun K2 hK2 => ?_); clear hK K; simp; refine hK2 _ ?_; clear hK2 K2
    refine W.seqJ (fun σ => ∃ (s : Int), σ = ⟨fa [(0, sls i64e a), (1, sls i64e b), (5, .own 11 ver 0 a.length), (7, .int .i64 i), (8, .int .i64 s), (13, .int .i64 a.length), (14, .int .i64 i)], rows, clk⟩ ∧ -10000 ≤ s ∧ s ≤ 9999 ∧
      V 10000 (z.take i) + 10000 ^ i * s = V 10000 (a.take (i + 1)) - V 10000 (b.take (i + 1))) ?_ ?_
    ·
      refine W.sreg (fun K hK => ?_); simp (disch := omega) [gA, wrap_i64, wrap_u64, wrap_u32, Int.tdiv_eq_ediv_of_nonneg, Int.tmod_eq_emod_of_nonneg]; refine hK _ (W.liveK [0, 1, 5, 7, 8, 13, 14, 26] fun K2 hK2 => ?_); clear hK K; simp; refine hK2 _ ?_; clear hK2 K2
      refine W.cond ⟨_, rfl, fun h => ?_, fun h => ?_⟩   -- t26
      · simp at h
        have hy := lb.nth h
        refine W.reg (fun K hK => ?_); simp (disch := omega) [gA, wrap_i64, wrap_u64, wrap_u32, Int.tdiv_eq_ediv_of_nonneg, Int.tmod_eq_emod_of_nonneg]
        refine hK _ ⟨_, Gh_fa _ [0, 1, 5, 7, 8, 13, 14], _, rfl, by omega, by omega, ?_⟩
        rw [V_take_succ (l := a) (by omega), V_take_succ h]; grind
      · simp at h
        refine W.skip ?_
        refine ⟨_, Gh_fa _ [0, 1, 5, 7, 8, 13, 14], _, rfl, by omega, by omega, ?_⟩
        rw [V_take_succ (l := a) (by omega), V_take_all (l := b) (by omega)]
        rw [V_take_all (l := b) (by omega)] at hV
        grind
    rintro _ ⟨s, rfl, hs0, hs1, hsV⟩
    refine W.sreg (fun K hK => ?_); simp (disch := omega) [gA, wrap_i64, wrap_u64, wrap_u32, Int.tdiv_eq_ediv_of_nonneg, Int.tmod_eq_emod_of_nonneg]; refine hK _ (W.liveK [0, 1, 5, 6, 7, 8, 13, 14] fun K2 hK2 => ?_); clear hK K; simp; refine hK2 _ ?_; clear hK2 K2
    refine W.seqJ (fun σ => ∃ (u c : Int), σ = ⟨fa [(0, sls i64e a), (1, sls i64e b), (5, .own 11 ver 0 a.length), (6, .int .i64 c), (7, .int .i64 i), (8, .int .i64 u), (13, .int .i64 a.length), (14, .int .i64 i)], rows, clk⟩ ∧ 0 ≤ u ∧ u ≤ 9999 ∧ 0 ≤ c ∧ c ≤ 1 ∧ s = u - 10000 * c) ?_ ?_
    ·
      refine W.sreg (fun K hK => ?_); simp (disch := omega) [gA, wrap_i64, wrap_u64, wrap_u32, Int.tdiv_eq_ediv_of_nonneg, Int.tmod_eq_emod_of_nonneg]; refine hK _ (W.liveK [0, 1, 5, 6, 7, 8, 13, 14, 34] fun K2 hK2 => ?_); clear hK K; simp; refine hK2 _ ?_; clear hK2 K2
      refine W.cond ⟨_, rfl, fun h => ?_, fun h => ?_⟩   -- t34
      · simp at h
        refine W.sreg (fun K hK => ?_); simp (disch := omega) [gA, wrap_i64, wrap_u64, wrap_u32, Int.tdiv_eq_ediv_of_nonneg, Int.tmod_eq_emod_of_nonneg]; refine hK _ (W.liveK [0, 1, 5, 7, 8, 13, 14] fun K2 hK2 => ?_); clear hK K; simp; refine hK2 _ ?_; clear hK2 K2
        refine W.reg (fun K hK => ?_); simp (disch := omega) [gA, wrap_i64, wrap_u64, wrap_u32, Int.tdiv_eq_ediv_of_nonneg, Int.tmod_eq_emod_of_nonneg]
        exact hK _ ⟨_, Gh_fa _ [0, 1, 5, 6, 7, 8, 13, 14], _, 1, rfl, by omega, by omega, by omega, by omega, by omega⟩
      · simp at h
        refine W.skip ?_
        exact ⟨_, Gh_fa _ [0, 1, 5, 6, 7, 8, 13, 14], _, 0, rfl, by omega, by omega, by omega, by omega, by omega⟩
    rintro _ ⟨u, c', rfl, hu0, hu1, hc0', hc1', hu⟩
    refine W.reg (fun K hK => ?_); simp (disch := omega) [gA, wrap_i64, wrap_u64, wrap_u32, Int.tdiv_eq_ediv_of_nonneg, Int.tmod_eq_emod_of_nonneg, hr]
    refine hK _ (W.liveK [0, 1, 5, 6, 13, 14] fun K2 hK2 => ?_); clear hK K; simp; refine hK2 _ ?_; clear hK2 K2
    refine W.reg (fun K hK => ?_); simp (disch := omega) [gA, wrap_i64, wrap_u64, wrap_u32, Int.tdiv_eq_ediv_of_nonneg, Int.tmod_eq_emod_of_nonneg]
    refine hK _ ⟨a.length - (i + 1), _, Gh_fa _ [0, 1, 5, 6, 13, 14], by omega, i + 1, c', z.set i u, ver, _, _, rfl, by simp, by omega, by omega, by simpa using hz, lz.set (by omega), hc0', hc1', ?_⟩
    rw [V_take_set (by omega), ← hsV, hu, Int.pow_succ]
    grind
  · simp at h
    have hi' : i = a.length := by omega
    subst hi'
    have ez : z.take a.length = z := take_all hz
    refine W.exit ?_; simp only [pblk_exit, pblk_normal, pblk_ret, pseq_exit, pseq_normal, pseq_ret, pnor_exit, pnor_normal, pnor_ret, if_true, if_false, reduceIte, Nat.reduceEqDiff]
    refine W.sreg (fun K hK => ?_)
    simp (disch := omega) [gA, wrap_i64, wrap_u64, wrap_u32, Int.tdiv_eq_ediv_of_nonneg, Int.tmod_eq_emod_of_nonneg, hr, ez]
    refine callR (rcut_ret z (by omega)) ?_
    simp (disch := omega) [gA, wrap_i64, wrap_u64, wrap_u32, Int.tdiv_eq_ediv_of_nonneg, Int.tmod_eq_emod_of_nonneg]
    refine hK _ (W.liveK [4] fun K2 hK2 => ?_); clear hK K; simp; refine hK2 _ ?_; clear hK2 K2
    refine W.ret ?_
    rw [ez, V_take_all (l := a) (by omega), V_take_all (l := b) (by omega)] at hV
    have h1 := V_lt (by decide) lz
    rw [hz] at h1
    have hc : c = 0 := by
      rcases (show c = 0 ∨ c = 1 by omega) with h2 | h2
      · exact h2
      · subst h2; omega
    subst hc
    have e : V 10000 a - V 10000 b = V 10000 z := by rw [← hV]; simp
    rw [e, ← Dn_cut lz]
    simp [go]
theorem SubN_ret (x y : Int) (hy : 0 ≤ y) (hle : y ≤ x) (zx : Z x) : Ret env.P 116 [Dn x, Dn y] (Dn (x - y)) := by
  have hlen : (dig DD y.toNat).length ≤ (dig DD x.toNat).length := by
    have h1 := sz_mono (b := DD) hDD (x := y) (y := x) (by omega)
    simp only [sz] at h1
    rwa [show y.natAbs = y.toNat by omega, show x.natAbs = x.toNat by omega] at h1
  have := SubNl_ret (dig DD x.toNat) (dig DD y.toNat) (by have := dd_len' (show 0 ≤ x by omega); omega) hlen (Lim_dd _) (Lim_dd _) (by rw [V_dd hy, V_dd (by omega)]; exact hle)
  rwa [V_dd hy, V_dd (by omega)] at this
end Go.Proofs.Ytjnkpfknmncdmaa
