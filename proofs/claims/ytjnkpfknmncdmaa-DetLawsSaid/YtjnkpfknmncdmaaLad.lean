import Derived.Test.YtjnkpfknmncdmaaLac
set_option linter.unusedSimpArgs false
set_option linter.unusedVariables false
namespace Go.Proofs.Ytjnkpfknmncdmaa
open Go Pm

theorem mtx_pok {l : List RP} (hl : ∀ p ∈ l, InP p) (n m : Nat) : ∀ r ∈ mtx l n m, r.length = m ∧ ∀ p ∈ r, POK p := fun r hr => ⟨(mtx_row hr).1, fun p hp => ((mtx_row hr).2 hl p hp).pok (by decide) (by decide)⟩
theorem mnr_mem {i k : Nat} {m : List (List RP)} {r : List RP} (h : r ∈ mnr i k m) : ∃ r' ∈ m, r = (r'.eraseIdx k).map nrm := by
  simp only [mnr, List.mem_map] at h
  obtain ⟨r', hr', rfl⟩ := h
  exact ⟨r', List.mem_of_mem_eraseIdx hr', rfl⟩
theorem nrm_facts {q : RP} (hs : Sm 3 1 q) : POK (nrm q) ∧ (cfs (nrm q)).length < 1099511627776 ∧ ∀ c ∈ cfs (nrm q), Z c := by
  have h0 : cfs (nrm q) = cfs q := by
    simp only [nrm, cfs, map_gv_rw]; exact cutR_cutR _
  have h1 : Bd LL 1 3 (cfs q) := hs.bd.cut
  have h2 : Bd 2 32 3 (cfs q) := hs.bd2.cut
  rw [h0]
  exact ⟨(PB.of h1 (by decide) (by decide)).pok, by have := h1.len; omega, bd_ret h2 (by decide)⟩
theorem mv_nth_len (X : List (List RP)) (a : Nat) : (nth (mv X) a).length = (nth X a).length := by
  have : nth (mv X) a = (nth X a).map cfs := nth_map (f := fun r : List RP => r.map cfs) rfl X a
  rw [this, List.length_map]

theorem DetMinors_ret (l : List RP) (n0 i k : Int) (hl : ∀ p ∈ l, InP p) (hll : l.length < 9223372036854775808) (hn0 : -9223372036854775808 ≤ n0 ∧ n0 < 9223372036854775808)
    (hi0 : -9223372036854775808 ≤ i ∧ i < 9223372036854775808) (hk0 : -9223372036854775808 ≤ k ∧ k < 9223372036854775808) :
    Ret env.P 4 [sls pe l, .int .i64 n0, .int .i64 i, .int .i64 k] (.bool true) := by
  have w1 := Within_ret n0 5 hn0 (by decide) (by decide)
  obtain ⟨n1, hn⟩ : ∃ n : Nat, (n : Int) = n0 % 5 := ⟨(n0 % 5).toNat, by omega⟩
  have hn6 : n1 ≤ 4 := by omega
  rw [← hn] at w1
  clear hn
  refine ret_of_Wf (E := env) (fun _ => 0) [(0, sls pe l), (1, .int .i64 n0), (2, .int .i64 i), (3, .int .i64 k)] Try.func4 rfl (by kernel_rfl) (by kernel_rfl) (show 4 ≤ 120 by decide) (by simp) ?_
  refine W.sreg (fun K hK => ?_); simp (disch := omega) [gA, wrap_i64, wrap_u64, wrap_u32, Int.tdiv_eq_ediv_of_nonneg, Int.tmod_eq_emod_of_nonneg]; refine hK _ (W.liveK [0, 1, 2, 3] fun K2 hK2 => ?_); clear hK K; simp; refine hK2 _ ?_; clear hK2 K2
  obtain ⟨n, hnn⟩ : ∃ n : Nat, n1 + 1 = n := ⟨_, rfl⟩
  have e1 : (1 : Int) + n1 = (n : Int) := by omega
  refine W.sreg (fun K hK => ?_)
  simp (disch := omega) [gA, wrap_i64, wrap_u64, wrap_u32, Int.tdiv_eq_ediv_of_nonneg, Int.tmod_eq_emod_of_nonneg]
  refine callR w1 ?_
  simp (disch := omega) [gA, wrap_i64, wrap_u64, wrap_u32, Int.tdiv_eq_ediv_of_nonneg, Int.tmod_eq_emod_of_nonneg, e1]
  refine hK _ (W.liveK [0, 1, 2, 3] fun K2 hK2 => ?_); clear hK K; simp; refine hK2 _ ?_; clear hK2 K2
  have hrows := rows_ret l n n hl hll (by omega) (by omega)
  refine W.sreg (fun K hK => ?_)
  simp (disch := omega) [gA, wrap_i64, wrap_u64, wrap_u32, Int.tdiv_eq_ediv_of_nonneg, Int.tmod_eq_emod_of_nonneg]
  refine callR hrows ?_
  simp (disch := omega) [gA, wrap_i64, wrap_u64, wrap_u32, Int.tdiv_eq_ediv_of_nonneg, Int.tmod_eq_emod_of_nonneg]
  refine hK _ (W.liveK [1, 2, 3, 9, 10] fun K2 hK2 => ?_); clear hK K; simp; refine hK2 _ ?_; clear hK2 K2
  have hpk := mtx_pok hl n n
  have hmin := Minor_ret i k (mtx l n n) (by rw [mtx_len]; omega) (fun r hr => ⟨by rw [(hpk r hr).1]; omega, (hpk r hr).2⟩)
  have hok : okM (mtx l n n) ↔ n ≤ 4 := by rw [okM_mtx]; omega
  have hlen := mtx_len l n n
  by_cases hc : n ≤ 4 ∧ (0 ≤ i ∧ i < (n : Int)) ∧ 0 ≤ k ∧ k < (n : Int)
  · rw [if_pos ⟨hok.2 hc.1, by rw [mtx_len]; exact hc.2⟩] at hmin
    have hq := qMinor_ret (mv (mtx l n n)) i.toNat k.toNat (by rw [mv_len, mtx_len]; omega) (fun r hr => by rw [mv_row (fun r hr => (hpk r hr).1) r hr]; omega) (by omega) (by omega)
    rw [← mv_mnr] at hq
    rw [show ((i.toNat : Nat) : Int) = i by omega, show ((k.toNat : Nat) : Int) = k by omega] at hq
    have hX : ∀ r ∈ mnr i.toNat k.toNat (mtx l n n), r.length < 6 ∧ ∀ p ∈ r, POK p ∧ (cfs p).length < 1099511627776 ∧ ∀ c ∈ cfs p, Z c := fun r hr => by
      obtain ⟨r', hr', rfl⟩ := mnr_mem hr
      refine ⟨?_, fun p hp => ?_⟩
      · rw [List.length_map]
        have := (hpk r' hr').1
        have := List.length_eraseIdx_le r' k.toNat
        omega
      · simp only [List.mem_map] at hp
        obtain ⟨q, hq, rfl⟩ := hp
        exact nrm_facts ((mtx_row hr').2 hl q (List.mem_of_mem_eraseIdx hq))
    have hXl : (mnr i.toNat k.toNat (mtx l n n)).length < 6 := by
      simp only [mnr, List.length_map]
      have := List.length_eraseIdx_le (mtx l n n) i.toNat
      omega
    generalize mnr i.toNat k.toNat (mtx l n n) = X at *
    generalize hM : mtx l n n = M at *
    generalize hm : mv M = w at *
    refine W.sreg (fun K hK => ?_)
    simp (disch := omega) [gA, wrap_i64, wrap_u64, wrap_u32, Int.tdiv_eq_ediv_of_nonneg, Int.tmod_eq_emod_of_nonneg]
    refine callR hmin ?_
    simp (disch := omega) [gA, wrap_i64, wrap_u64, wrap_u32, Int.tdiv_eq_ediv_of_nonneg, Int.tmod_eq_emod_of_nonneg]
    refine hK _ (W.liveK [1, 2, 3, 10, 11, 12] fun K2 hK2 => ?_); clear hK K; simp; refine hK2 _ ?_; clear hK2 K2
    refine W.seq ?_
    refine W.sregJ (fun σ => ∃ (rows : Pm.Rows) (clk : Nat), σ = ⟨fa [(2, .int .i64 i), (3, .int .i64 k), (10, sls qm w), (11, sls me X), (12, .int .i64 0), (52, .bool false)], rows, clk⟩) (fun K hK => ?_) ?_
    · have h1 : ¬ (4 < (n : Int)) := by omega
      have h2 : ¬ (i < 0) := by omega
      have h3 : ¬ ((n : Int) ≤ i) := by omega
      have h4 : ¬ (k < 0) := by omega
      have h5 : ¬ ((n : Int) ≤ k) := by omega
      simp (disch := omega) [gA, wrap_i64, wrap_u64, wrap_u32, Int.tdiv_eq_ediv_of_nonneg, Int.tmod_eq_emod_of_nonneg, h1, h2, h3, h4, h5]
      exact hK _ _ (Gh_fa _ [2, 3, 10, 11, 12, 52]) ⟨_, _, rfl⟩
    rintro _ ⟨rows, clk, rfl⟩
    refine W.cond ⟨_, rfl, fun h => ?_, fun h => ?_⟩   -- t52
    · cases h
    refine W.skip ?_
    refine W.sreg (fun K hK => ?_)
    simp (disch := omega) [gA, wrap_i64, wrap_u64, wrap_u32, Int.tdiv_eq_ediv_of_nonneg, Int.tmod_eq_emod_of_nonneg]
    refine callR hq ?_
    simp (disch := omega) [gA, wrap_i64, wrap_u64, wrap_u32, Int.tdiv_eq_ediv_of_nonneg, Int.tmod_eq_emod_of_nonneg]
    refine hK _ (W.liveK [11, 12, 13] fun K2 hK2 => ?_); clear hK K; simp; refine hK2 _ ?_; clear hK2 K2
    refine W.seq ?_
    have hml := mv_len X
    refine W.sregJ (fun σ => ∃ (rows : Pm.Rows) (clk : Nat), σ = ⟨fa [(11, sls me X), (13, sls qm (mv X)), (75, .bool false)], rows, clk⟩) (fun K hK => ?_) ?_
    · simp (disch := omega) [gA, wrap_i64, wrap_u64, wrap_u32, Int.tdiv_eq_ediv_of_nonneg, Int.tmod_eq_emod_of_nonneg, hml]
      exact hK _ _ (Gh_fa _ [11, 13, 75]) ⟨_, _, rfl⟩
    rintro _ ⟨rows, clk, rfl⟩
    refine W.cond ⟨_, rfl, fun h => ?_, fun h => ?_⟩   -- t75
    · cases h
    refine W.skip ?_
    refine W.seq ?_
    refine W.sreg (fun K hK => ?_); simp (disch := omega) [gA, wrap_i64, wrap_u64, wrap_u32, Int.tdiv_eq_ediv_of_nonneg, Int.tmod_eq_emod_of_nonneg]; refine hK _ (W.liveK [11, 13, 77, 78] fun K2 hK2 => ?_); clear hK K; simp; refine hK2 _ ?_; clear hK2 K2
    refine W.block ?_   -- block 0
    refine W.loopG (fun q σ => ∃ (a : Nat) (rows : Pm.Rows) (clk : Nat), σ = ⟨fa [(11, sls me X), (13, sls qm (mv X)), (77, .int .i64 X.length), (78, .int .i64 a)], rows, clk⟩ ∧ q = X.length - a ∧ a ≤ X.length) X.length ?_ ?_
    · exact ⟨_, .refl, 0, _, _, rfl, by omega, by omega⟩
    rintro q _ ⟨a, rows, clk, rfl, hqa, ha⟩
    refine W.sreg (fun K hK => ?_); simp (disch := omega) [gA, wrap_i64, wrap_u64, wrap_u32, Int.tdiv_eq_ediv_of_nonneg, Int.tmod_eq_emod_of_nonneg]; refine hK _ (W.liveK [11, 13, 77, 78, 79] fun K2 hK2 => ?_); clear hK K; simp; refine hK2 _ ?_; clear hK2 K2
    refine W.seq ?_
    refine W.cond ⟨_, rfl, fun h => ?_, fun h => ?_⟩   -- t79
    · have h : a < X.length := by simp at h; omega
      refine W.skip ?_
      refine W.seq ?_
      refine W.block ?_   -- block 1
      refine W.sreg (fun K hK => ?_); simp (disch := omega) [gA, wrap_i64, wrap_u64, wrap_u32, Int.tdiv_eq_ediv_of_nonneg, Int.tmod_eq_emod_of_nonneg]; refine hK _ (W.liveK [11, 13, 14, 77, 78] fun K2 hK2 => ?_); clear hK K; simp; refine hK2 _ ?_; clear hK2 K2
      refine W.seq ?_
      have hma : (nth (mv X) a).length = (nth X a).length := mv_nth_len X a
      have hrl := (hX _ (nth_mem h)).1
      refine W.sdrw (fun K hK => ?_)
      simp (disch := omega) [gA, wrap_i64, wrap_u64, wrap_u32, Int.tdiv_eq_ediv_of_nonneg, Int.tmod_eq_emod_of_nonneg, hml, hma]
      refine hK _ (W.liveK [11, 13, 14, 77, 78, 91] fun K2 hK2 => ?_); clear hK K; simp; refine hK2 _ ?_; clear hK2 K2
      refine W.cond ⟨_, rfl, fun h2 => ?_, fun h2 => ?_⟩   -- t91
      · simp at h2
      refine W.skip ?_
      refine W.sreg (fun K hK => ?_); simp (disch := omega) [gA, wrap_i64, wrap_u64, wrap_u32, Int.tdiv_eq_ediv_of_nonneg, Int.tmod_eq_emod_of_nonneg]; refine hK _ (W.liveK [11, 13, 14, 77, 78, 96, 97] fun K2 hK2 => ?_); clear hK K; simp; refine hK2 _ ?_; clear hK2 K2
      refine W.block ?_   -- block 2
      refine W.loopG (fun q σ => ∃ (b : Nat) (rows : Pm.Rows) (clk : Nat), σ = ⟨fa [(11, sls me X), (13, sls qm (mv X)), (14, .int .i64 a), (77, .int .i64 X.length), (78, .int .i64 a), (96, .int .i64 (nth X a).length), (97, .int .i64 b)], rows, clk⟩ ∧ q = (nth X a).length - b ∧ b ≤ (nth X a).length) (nth X a).length ?_ ?_
      · exact ⟨_, .refl, 0, _, _, rfl, by omega, by omega⟩
      rintro q2 _ ⟨b, rows, clk, rfl, hqb, hb⟩
      refine W.sreg (fun K hK => ?_); simp (disch := omega) [gA, wrap_i64, wrap_u64, wrap_u32, Int.tdiv_eq_ediv_of_nonneg, Int.tmod_eq_emod_of_nonneg]; refine hK _ (W.liveK [11, 13, 14, 77, 78, 96, 97, 98] fun K2 hK2 => ?_); clear hK K; simp; refine hK2 _ ?_; clear hK2 K2
      refine W.seq ?_
      refine W.cond ⟨_, rfl, fun h3 => ?_, fun h3 => ?_⟩   -- t98
      · have h3 : b < (nth X a).length := by simp at h3; omega
        obtain ⟨hp1, hp2, hp3⟩ := (hX _ (nth_mem h)).2 _ (nth_mem h3)
        have hN := pNorm_ret _ hp1
        have hS := qSame_ret (cfs (nth (nth X a) b)) (cfs (nth (nth X a) b)) hp2 hp2 hp3 hp3
        rw [decide_eq_true rfl, ← nth_mv] at hS
        rw [show cutR ((nth (nth X a) b).map gv) = cfs (nth (nth X a) b) from rfl, ← nth_mv] at hN
        refine W.skip ?_
        refine W.seq ?_
        refine W.block ?_   -- block 3
        refine W.sreg (fun K hK => ?_); simp (disch := omega) [gA, wrap_i64, wrap_u64, wrap_u32, Int.tdiv_eq_ediv_of_nonneg, Int.tmod_eq_emod_of_nonneg]; refine hK _ (W.liveK [11, 13, 14, 15, 77, 78, 96, 97] fun K2 hK2 => ?_); clear hK K; simp; refine hK2 _ ?_; clear hK2 K2
        refine W.sdrw (fun K hK => ?_)
        simp (disch := omega) [gA, wrap_i64, wrap_u64, wrap_u32, Int.tdiv_eq_ediv_of_nonneg, Int.tmod_eq_emod_of_nonneg, hml, hma]
        refine callR hN ?_
        simp (disch := omega) [gA, wrap_i64, wrap_u64, wrap_u32, Int.tdiv_eq_ediv_of_nonneg, Int.tmod_eq_emod_of_nonneg]
        refine callR hS ?_
        simp (disch := omega) [gA, wrap_i64, wrap_u64, wrap_u32, Int.tdiv_eq_ediv_of_nonneg, Int.tmod_eq_emod_of_nonneg]
        refine hK _ (W.liveK [11, 13, 14, 77, 78, 96, 97, 116] fun K2 hK2 => ?_); clear hK K; simp; refine hK2 _ ?_; clear hK2 K2
        refine W.cond ⟨_, rfl, fun h4 => ?_, fun h4 => ?_⟩   -- t116
        · cases h4
        refine W.skip ?_
        refine W.reg (fun K hK => ?_); simp (disch := omega) [gA, wrap_i64, wrap_u64, wrap_u32, Int.tdiv_eq_ediv_of_nonneg, Int.tmod_eq_emod_of_nonneg]
        refine hK _ ⟨(nth X a).length - (b + 1), _, Gh_fa _ [11, 13, 14, 77, 78, 96, 97], by omega, b + 1, _, _, rfl, by omega, by omega⟩
      · have h3 : b = (nth X a).length := by simp at h3; omega
        refine W.exit ?_; simp only [pblk_exit, pblk_normal, pblk_ret, pseq_exit, pseq_normal, pseq_ret, pnor_exit, pnor_normal, pnor_ret, if_true, if_false, reduceIte, Nat.reduceEqDiff]
        refine W.reg (fun K hK => ?_); simp (disch := omega) [gA, wrap_i64, wrap_u64, wrap_u32, Int.tdiv_eq_ediv_of_nonneg, Int.tmod_eq_emod_of_nonneg]
        refine hK _ ⟨X.length - (a + 1), _, Gh_fa _ [11, 13, 77, 78], by omega, a + 1, _, _, rfl, by omega, by omega⟩
    · refine W.exit ?_; simp only [pblk_exit, pblk_normal, pblk_ret, pseq_exit, pseq_normal, pseq_ret, pnor_exit, pnor_normal, pnor_ret, if_true, if_false, reduceIte, Nat.reduceEqDiff]
      refine W.sreg (fun K hK => ?_)
      simp (disch := omega) [gA, wrap_i64, wrap_u64, wrap_u32, Int.tdiv_eq_ediv_of_nonneg, Int.tmod_eq_emod_of_nonneg]
      refine callR wakes_ret ?_
      simp (disch := omega) [gA, wrap_i64, wrap_u64, wrap_u32, Int.tdiv_eq_ediv_of_nonneg, Int.tmod_eq_emod_of_nonneg]
      refine hK _ (W.liveK [8] fun K2 hK2 => ?_); clear hK K; simp; refine hK2 _ ?_; clear hK2 K2
      refine W.ret ?_
      simp [go]
  · rw [if_neg fun h => hc ⟨hok.1 h.1, by have := h.2; rwa [mtx_len] at this⟩] at hmin
    generalize hM : mtx l n n = M at *
    generalize hm : mv M = w at *
    refine W.sreg (fun K hK => ?_)
    simp (disch := omega) [gA, wrap_i64, wrap_u64, wrap_u32, Int.tdiv_eq_ediv_of_nonneg, Int.tmod_eq_emod_of_nonneg]
    refine callR hmin ?_
    simp (disch := omega) [gA, wrap_i64, wrap_u64, wrap_u32, Int.tdiv_eq_ediv_of_nonneg, Int.tmod_eq_emod_of_nonneg]
    refine hK _ (W.liveK [1, 2, 3, 10, 11, 12] fun K2 hK2 => ?_); clear hK K; simp; refine hK2 _ ?_; clear hK2 K2
    refine W.seq ?_
    refine W.sregJ (fun σ => ∃ (rows : Pm.Rows) (clk : Nat), σ = ⟨fa [(2, .int .i64 i), (3, .int .i64 k), (10, sls qm w), (11, sls me []), (12, .int .i64 1), (52, .bool true)], rows, clk⟩) (fun K hK => ?_) ?_
    · by_cases h1 : 4 < (n : Int)
      · simp (disch := omega) [gA, wrap_i64, wrap_u64, wrap_u32, Int.tdiv_eq_ediv_of_nonneg, Int.tmod_eq_emod_of_nonneg, h1]
        exact hK _ _ (Gh_fa _ [2, 3, 10, 11, 12, 52]) ⟨_, _, rfl⟩
      by_cases h2 : i < 0
      · simp (disch := omega) [gA, wrap_i64, wrap_u64, wrap_u32, Int.tdiv_eq_ediv_of_nonneg, Int.tmod_eq_emod_of_nonneg, h1, h2]
        exact hK _ _ (Gh_fa _ [2, 3, 10, 11, 12, 52]) ⟨_, _, rfl⟩
      by_cases h3 : (n : Int) ≤ i
      · simp (disch := omega) [gA, wrap_i64, wrap_u64, wrap_u32, Int.tdiv_eq_ediv_of_nonneg, Int.tmod_eq_emod_of_nonneg, h1, h2, h3]
        exact hK _ _ (Gh_fa _ [2, 3, 10, 11, 12, 52]) ⟨_, _, rfl⟩
      by_cases h4 : k < 0
      · simp (disch := omega) [gA, wrap_i64, wrap_u64, wrap_u32, Int.tdiv_eq_ediv_of_nonneg, Int.tmod_eq_emod_of_nonneg, h1, h2, h3, h4]
        exact hK _ _ (Gh_fa _ [2, 3, 10, 11, 12, 52]) ⟨_, _, rfl⟩
      have h5 : (n : Int) ≤ k := by omega
      simp (disch := omega) [gA, wrap_i64, wrap_u64, wrap_u32, Int.tdiv_eq_ediv_of_nonneg, Int.tmod_eq_emod_of_nonneg, h1, h2, h3, h4, h5]
      exact hK _ _ (Gh_fa _ [2, 3, 10, 11, 12, 52]) ⟨_, _, rfl⟩
    rintro _ ⟨rows, clk, rfl⟩
    refine W.cond ⟨_, rfl, fun h => ?_, fun h => ?_⟩   -- t52
    · refine W.sregJ (fun σ => ∃ (rows : Pm.Rows) (clk : Nat), σ = ⟨fa [(8, .bool true)], rows, clk⟩) (fun K hK => ?_) ?_
      · simp (disch := omega) [gA, wrap_i64, wrap_u64, wrap_u32, Int.tdiv_eq_ediv_of_nonneg, Int.tmod_eq_emod_of_nonneg]
        refine callR wakes_ret ?_
        simp (disch := omega) [gA, wrap_i64, wrap_u64, wrap_u32, Int.tdiv_eq_ediv_of_nonneg, Int.tmod_eq_emod_of_nonneg]
        exact hK _ _ (Gh_fa _ [8]) ⟨_, _, rfl⟩
      rintro _ ⟨rows, clk, rfl⟩
      refine W.ret ?_
      simp [go]
    · cases h
end Go.Proofs.Ytjnkpfknmncdmaa
