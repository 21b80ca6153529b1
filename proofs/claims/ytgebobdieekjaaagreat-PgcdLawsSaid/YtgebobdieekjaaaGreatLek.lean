import Derived.Test.YtgebobdieekjaaaGreatLej
set_option linter.unusedSimpArgs false
set_option linter.unusedVariables false
namespace Go.Proofs.YtgebobdieekjaaaGreat
open Go Pm

theorem made_lay (l : List Int) : Lay 153 10 (made l 9) := ⟨(made_ok l 9).2, by decide, by decide, by decide⟩
theorem PgcdFactors_ret (l : List Int) (hb : ∀ x ∈ l, -9223372036854775808 ≤ x ∧ x < 9223372036854775808) (hl : l.length < 9223372036854775808) : Ret env.P 3 [sls i64e l] (.bool true) := by
  have hM := Made_ret l hl hb 9 (by decide)
  have hy := made_lay l
  obtain ⟨h0, b0⟩ := made_ok l 9
  generalize made l 9 = a at *
  have t1 := toZ_ret b0 (by decide) (by decide)
  have f1 := qFactors_ret hy (by decide)
  have f2 := Factors_ret hy
  have q1 := qSquareZ_ret hy (by decide)
  have q2 := Square_ret hy
  have o1 := qOddZ_ret hy (by decide) h0
  have o2 := Odd_ret hy h0
  have nA := nf_Nf h0
  have hA := hy.nfz
  have hle := nl_le (nf a)
  have hNA : ZX.N (nf a) ≤ 10 := hA.bz.N
  have bq : BZ (qb 153 10) 10 (sq a) := by
    unfold sq
    split
    · exact hA.bz.mono (by decide) (Nat.le_refl _)
    · exact hA.dv nA (sz_Nf nA) (wz_dv_a nA 0)
  have bo := hA.dv nA (oz_Nf nA) (pf_dv_a nA _ _)
  have i1 := isZ_ret bq (by decide) (by decide)
  have i2 := isZ_ret bo (by decide) (by decide)
  have i3 : ∀ i, i < nl (nf a) → Ret env.P 19 [PI (nth (fl (nf a)) i).l, Po (nth (fl (nf a)) i).l] (.bool true) := fun i hi => by
    have : nth (fl (nf a)) i = fz' (nf a) i := nth_map_range _ hi
    rw [this]
    exact isZ_ret (hA.dv nA (fz_spec nA i).1 (fz_dv_a nA i)) (by decide) (by decide)
  have hfl : (fl (nf a)).length = nl (nf a) := fl_len _
  have hw := wakes7_ret
  generalize fl (nf a) = L at *
  generalize nl (nf a) = m at *
  generalize (sq a).l = s at *
  generalize (oz (nf a)).l = o at *
  refine ret_of_Wf (E := env) (fun _ => 0) [(0, sls i64e l)] Tryz.func3 rfl (by kernel_rfl) (by kernel_rfl) (show 1 ≤ 52 by decide) (by simp) ?_
  refine W.sreg (fun K hK => ?_); simp (disch := omega) [gA, wrap_i64, wrap_u64, wrap_u32, Int.tdiv_eq_ediv_of_nonneg, Int.tmod_eq_emod_of_nonneg]; refine hK _ (W.liveK [0] fun K2 hK2 => ?_); clear hK K; simp; refine hK2 _ ?_; clear hK2 K2
  refine W.sreg (fun K hK => ?_)
  simp (disch := omega) [gA, wrap_i64, wrap_u64, wrap_u32, Int.tdiv_eq_ediv_of_nonneg, Int.tmod_eq_emod_of_nonneg]
  refine callR hM ?_
  simp (disch := omega) [gA, wrap_i64, wrap_u64, wrap_u32, Int.tdiv_eq_ediv_of_nonneg, Int.tmod_eq_emod_of_nonneg]
  refine hK _ (W.liveK [3] fun K2 hK2 => ?_); clear hK K; simp; refine hK2 _ ?_; clear hK2 K2
  refine W.sreg (fun K hK => ?_)
  simp (disch := omega) [gA, wrap_i64, wrap_u64, wrap_u32, Int.tdiv_eq_ediv_of_nonneg, Int.tmod_eq_emod_of_nonneg]
  refine callR t1 ?_
  simp (disch := omega) [gA, wrap_i64, wrap_u64, wrap_u32, Int.tdiv_eq_ediv_of_nonneg, Int.tmod_eq_emod_of_nonneg]
  refine hK _ (W.liveK [3, 4] fun K2 hK2 => ?_); clear hK K; simp; refine hK2 _ ?_; clear hK2 K2
  refine W.sreg (fun K hK => ?_)
  simp (disch := omega) [gA, wrap_i64, wrap_u64, wrap_u32, Int.tdiv_eq_ediv_of_nonneg, Int.tmod_eq_emod_of_nonneg]
  refine callR f1 ?_
  simp (disch := omega) [gA, wrap_i64, wrap_u64, wrap_u32, Int.tdiv_eq_ediv_of_nonneg, Int.tmod_eq_emod_of_nonneg]
  refine hK _ (W.liveK [3, 4, 5] fun K2 hK2 => ?_); clear hK K; simp; refine hK2 _ ?_; clear hK2 K2
  refine W.sreg (fun K hK => ?_)
  simp (disch := omega) [gA, wrap_i64, wrap_u64, wrap_u32, Int.tdiv_eq_ediv_of_nonneg, Int.tmod_eq_emod_of_nonneg]
  refine callR f2 ?_
  simp (disch := omega) [gA, wrap_i64, wrap_u64, wrap_u32, Int.tdiv_eq_ediv_of_nonneg, Int.tmod_eq_emod_of_nonneg]
  refine hK _ (W.liveK [3, 4, 5, 6] fun K2 hK2 => ?_); clear hK K; simp; refine hK2 _ ?_; clear hK2 K2
  refine W.seq ?_
  refine W.sreg (fun K hK => ?_); simp (disch := omega) [gA, wrap_i64, wrap_u64, wrap_u32, Int.tdiv_eq_ediv_of_nonneg, Int.tmod_eq_emod_of_nonneg]; refine hK _ (W.liveK [3, 4, 5, 6, 20] fun K2 hK2 => ?_); clear hK K; simp; refine hK2 _ ?_; clear hK2 K2
  refine W.cond ⟨_, rfl, fun h => ?_, fun h => ?_⟩   -- t20
  · simp at h
  clear h
  refine W.skip ?_
  refine W.seq ?_
  refine W.sreg (fun K hK => ?_); simp (disch := omega) [gA, wrap_i64, wrap_u64, wrap_u32, Int.tdiv_eq_ediv_of_nonneg, Int.tmod_eq_emod_of_nonneg, hfl]; refine hK _ (W.liveK [3, 4, 5, 6, 22, 23] fun K2 hK2 => ?_); clear hK K; simp; refine hK2 _ ?_; clear hK2 K2
  refine W.block ?_   -- block 0
  refine W.loopG (fun k σ => ∃ (i : Nat) (rows : Pm.Rows) (clk : Nat), σ = ⟨fa [(3, PI a.l), (4, Po a.l), (5, sls zq L), (6, sls zp L), (22, .int .i64 m), (23, .int .i64 i)], rows, clk⟩ ∧ i + k = m) m ?_ ?_
  · exact ⟨_, .refl, 0, _, _, rfl, by omega⟩
  rintro k _ ⟨i, rows, clk, rfl, hik⟩
  refine W.sreg (fun K hK => ?_); simp (disch := omega) [gA, wrap_i64, wrap_u64, wrap_u32, Int.tdiv_eq_ediv_of_nonneg, Int.tmod_eq_emod_of_nonneg]; refine hK _ (W.liveK [3, 4, 5, 6, 22, 23, 24] fun K2 hK2 => ?_); clear hK K; simp; refine hK2 _ ?_; clear hK2 K2
  refine W.seq ?_
  refine W.cond ⟨_, rfl, fun h => ?_, fun h => ?_⟩   -- t24
  · have hi : i < m := by simp at h; omega
    have hiL : i < L.length := by omega
    have hi3 := i3 i hi
    refine W.skip ?_
    refine W.seq ?_
    refine W.block ?_   -- block 1
    refine W.sreg (fun K hK => ?_); simp (disch := omega) [gA, wrap_i64, wrap_u64, wrap_u32, Int.tdiv_eq_ediv_of_nonneg, Int.tmod_eq_emod_of_nonneg]; refine hK _ (W.liveK [3, 4, 5, 6, 7, 22, 23] fun K2 hK2 => ?_); clear hK K; simp; refine hK2 _ ?_; clear hK2 K2
    refine W.sdrw (fun K hK => ?_)
    simp (disch := omega) [gA, wrap_i64, wrap_u64, wrap_u32, Int.tdiv_eq_ediv_of_nonneg, Int.tmod_eq_emod_of_nonneg]
    refine callR hi3 ?_
    simp (disch := omega) [gA, wrap_i64, wrap_u64, wrap_u32, Int.tdiv_eq_ediv_of_nonneg, Int.tmod_eq_emod_of_nonneg]
    refine hK _ (W.liveK [3, 4, 5, 6, 22, 23, 35] fun K2 hK2 => ?_); clear hK K; simp; refine hK2 _ ?_; clear hK2 K2
    refine W.cond ⟨_, rfl, fun h => ?_, fun h => ?_⟩   -- t35
    · cases h
    refine W.skip ?_
    refine W.reg (fun K hK => ?_); simp (disch := omega) [gA, wrap_i64, wrap_u64, wrap_u32, Int.tdiv_eq_ediv_of_nonneg, Int.tmod_eq_emod_of_nonneg]
    refine hK _ ⟨k - 1, _, Gh_fa _ [3, 4, 5, 6, 22, 23], by omega, i + 1, _, _, rfl, by omega⟩
  · refine W.exit ?_; simp only [pblk_exit, pblk_normal, pblk_ret, pseq_exit, pseq_normal, pseq_ret, pnor_exit, pnor_normal, pnor_ret, if_true, if_false, reduceIte, Nat.reduceEqDiff]
    refine W.sreg (fun K hK => ?_)
    simp (disch := omega) [gA, wrap_i64, wrap_u64, wrap_u32, Int.tdiv_eq_ediv_of_nonneg, Int.tmod_eq_emod_of_nonneg]
    refine callR q1 ?_
    simp (disch := omega) [gA, wrap_i64, wrap_u64, wrap_u32, Int.tdiv_eq_ediv_of_nonneg, Int.tmod_eq_emod_of_nonneg]
    refine callR q2 ?_
    simp (disch := omega) [gA, wrap_i64, wrap_u64, wrap_u32, Int.tdiv_eq_ediv_of_nonneg, Int.tmod_eq_emod_of_nonneg]
    refine callR i1 ?_
    simp (disch := omega) [gA, wrap_i64, wrap_u64, wrap_u32, Int.tdiv_eq_ediv_of_nonneg, Int.tmod_eq_emod_of_nonneg]
    refine callR o1 ?_
    simp (disch := omega) [gA, wrap_i64, wrap_u64, wrap_u32, Int.tdiv_eq_ediv_of_nonneg, Int.tmod_eq_emod_of_nonneg]
    refine callR o2 ?_
    simp (disch := omega) [gA, wrap_i64, wrap_u64, wrap_u32, Int.tdiv_eq_ediv_of_nonneg, Int.tmod_eq_emod_of_nonneg]
    refine callR i2 ?_
    simp (disch := omega) [gA, wrap_i64, wrap_u64, wrap_u32, Int.tdiv_eq_ediv_of_nonneg, Int.tmod_eq_emod_of_nonneg]
    refine callR hw ?_
    simp (disch := omega) [gA, wrap_i64, wrap_u64, wrap_u32, Int.tdiv_eq_ediv_of_nonneg, Int.tmod_eq_emod_of_nonneg]
    refine hK _ (W.liveK [2] fun K2 hK2 => ?_); clear hK K; simp; refine hK2 _ ?_; clear hK2 K2
    refine W.ret ?_
    simp [go]

/-! Gcds. -/
theorem gcdl2 (a b : ZX) : gcdl [a, b] = gz a b := by
  show gz (gz 0 a) b = _
  rw [gz_zero', gz_nf]
theorem gcdl3 (a b : ZX) : gcdl [b, 0, a] = gz a b := by
  show gz (gz (gz 0 b) 0) a = _
  rw [gz_zero', gz_zero, nf_nf, gz_nf, gz_comm]
theorem gcdl1 (a : ZX) : gcdl [a] = nf a := by
  show gz 0 a = _
  rw [gz_zero']
theorem pot_le {C n s : Nat} {a c : ZX} (ha : ZX.N a ≤ n) (hc : ZX.N c ≤ n) (h : (s + n + 1) * 2 * 4 ^ n ≤ C) : Pot C n s (nf a) (nf c) := by
  unfold Pot
  rw [N_nf, N_nf]
  have h1 : ∀ k, k ≤ n → (s + n + 1) * 2 * 4 ^ k ≤ C := fun k hk => Nat.le_trans (Nat.mul_le_mul_left _ (Nat.pow_le_pow_right (by decide) hk)) h
  split
  · refine Nat.le_trans (Nat.mul_le_mul_right _ ?_) (h1 _ ha)
    omega
  · exact h1 _ hc
/-- How great polynomials may be for their divisors to be found. -/
structure Eu (s n : Nat) : Prop where
  hn : n ≤ 20
  hs : 1 ≤ s
  hC : (s + n + 1) * 2 * 4 ^ n ≤ 4500000000
theorem Eu.two {s n : Nat} (h : Eu s n) {a c : ZX} (ba : BZ s n a) (bc : BZ s n c) : Ret env.P 83 [Po a.l, Po c.l] (Po (gz a c).l) := two_ret ba bc (pot_le ba.N bc.N h.hC) h.hn (Nat.le_refl _)
theorem Eu.cop {s n : Nat} (h : Eu s n) {a c : ZX} (ba : BZ s n a) (bc : BZ s n c) : Ret env.P 28 [Po a.l, Po c.l] (.bool (decide (ZX.N (gz a c) = 1))) := Coprime_ret ba bc (pot_le ba.N bc.N h.hC) h.hn (Nat.le_refl _)
theorem Eu.qg {s n : Nat} (h : Eu s n) {a c : ZX} (ba : BZ s n a) (bc : BZ s n c) : Ret env.P 26 [PI a.l, PI c.l] (PI (gz a c).l) := qGcdZ_ret ba bc (pot_le ba.N bc.N h.hC) h.hn (Nat.le_refl _) h.hs
theorem zero_bz (s n : Nat) : BZ s n 0 := ⟨Nat.zero_le _, fun c hc => by cases hc⟩
theorem Eu.gcd2 {s n : Nat} (h : Eu s n) {a c : ZX} (ba : BZ s n a) (bc : BZ s n c) : Ret env.P 27 [.sl [[Po a.l], [Po c.l]]] (Po (gz a c).l) := by
  have := Gcd_ret [a, c] (by simp) (fun i hi => by
    match i, hi with
    | 0, _ => exact h.two (zero_bz s n) ba
    | 1, _ =>
      have e : gcdl ([a, c].take 1) = nf a := gcdl1 a
      rw [e]
      have := h.two ba.nf bc
      rw [show gcdl ([a, c].take (1 + 1)) = gz (nf a) c from by rw [gz_nf]; exact gcdl2 a c]
      exact this)
  rw [gcdl2] at this
  exact this
theorem Eu.gcd1 {s n : Nat} (h : Eu s n) {a : ZX} (ba : BZ s n a) : Ret env.P 27 [.sl [[Po a.l]]] (Po (nf a).l) := by
  have := Gcd_ret [a] (by simp) (fun i hi => by
    match i, hi with
    | 0, _ => exact h.two (zero_bz s n) ba)
  rw [gcdl1] at this
  exact this
theorem Eu.gcdN {s n : Nat} (h : Eu s n) {a c : ZX} (ba : BZ s n a) (bc : BZ s n c) : Ret env.P 27 [.sl [[Po c.l], [Po []], [Po a.l]]] (Po (gz a c).l) := by
  have := Gcd_ret [c, 0, a] (by simp) (fun i hi => by
    match i, hi with
    | 0, _ => exact h.two (zero_bz s n) bc
    | 1, _ =>
      rw [show gcdl ([c, 0, a].take 1) = nf c from gcdl1 c, show gcdl ([c, 0, a].take (1 + 1)) = gz (nf c) 0 from by
        show gz (gz 0 c) 0 = _
        rw [gz_zero']]
      exact h.two bc.nf (zero_bz s n)
    | 2, _ =>
      rw [show gcdl ([c, 0, a].take 2) = nf c from by
        show gz (gz 0 c) 0 = _
        rw [gz_zero', gz_zero, nf_nf], show gcdl ([c, 0, a].take (2 + 1)) = gz (nf c) a from by
        show gz (gz (gz 0 c) 0) a = _
        rw [gz_zero', gz_zero, nf_nf]]
      exact h.two bc.nf ba)
  rw [gcdl3] at this
  exact this
theorem gcd0_ret : Ret env.P 27 [.sl []] (Po []) := by
  have := Gcd_ret [] (by simp) (fun i hi => by simp at hi)
  exact this
end Go.Proofs.YtgebobdieekjaaaGreat
