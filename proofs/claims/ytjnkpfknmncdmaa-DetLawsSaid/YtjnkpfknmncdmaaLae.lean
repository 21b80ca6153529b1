import Derived.Test.YtjnkpfknmncdmaaLad
set_option linter.unusedSimpArgs false
set_option linter.unusedVariables false
namespace Go.Proofs.Ytjnkpfknmncdmaa
open Go Pm

theorem pmul_cfs2 (x : List Int) (p : RP) : pmul x (p.map gv) = pmul x (cfs p) := Cn.ext (Cn.pmul _ _) (Cn.pmul _ _) fun t => by simp [V_pmul, cfs, V_cutR]
theorem pMulH_ret {x : List Int} {b : RP} {s s' n n' : Nat} (hb : POK b) (hs : Bd LL s n x) (hs' : Bd LL s' n' (b.map gv)) (hB : s + s' + n + n' < 1099511627775) : Ret env.P 26 [Po x, Pg b] (Po (pmul x (cfs b))) := by
  have := pMul_ret (x.map rw') b (PB.of hs (by omega) (by omega)).pok hb s s' n n' (by rwa [map_gv_rw]) hs' (by omega)
  rw [map_gv_rw, ← Po_eq, pmul_cfs2] at this
  exact this
/-- A matrix of n rows of n, n up to 4. -/
theorem MOK.okM {s N n : Nat} {M : List (List RP)} (h : MOK s N M) (hl : M.length = n) (h4 : n ≤ 4) : okM M := ⟨h.sq, by omega⟩
theorem MOK.det {s N n : Nat} {M : List (List RP)} (h : MOK s N M) (hl : M.length = n) (h4 : n ≤ 4) (hs : s < 1073741824) (hN : N < 1073741824) : Ret env.P 17 [sls me M] (.tup [Po (dcol n (mv M)), .int .i64 0]) := by
  have := Det_ret hs hN M (by omega) (fun r hr => ⟨by rw [h.sq r hr]; omega, h.ok r hr⟩)
  rw [if_pos (h.okM hl h4), hl] at this
  exact this
theorem MOK.min {s N n : Nat} {M : List (List RP)} (h : MOK s N M) (hl : M.length = n) (h4 : n ≤ 4) {i k : Nat} (hi : i < n) (hk : k < n) : Ret env.P 21 [.int .i64 i, .int .i64 k, sls me M] (.tup [sls me (Go.Proofs.Ytjnkpfknmncdmaa.mnr i k M), .int .i64 0]) := by
  have := Minor_ret i k M (by omega) (fun r hr => ⟨by rw [h.sq r hr]; omega, fun p hp => (h.ok r hr p hp).1⟩)
  rw [if_pos ⟨h.okM hl h4, by omega, by omega⟩] at this
  simpa using this
theorem mtx_MOK {l : List RP} (hl : ∀ p ∈ l, InP p) (n : Nat) : MOK 1 3 (mtx l n n) := ⟨fun r hr => by rw [(mtx_row hr).1, mtx_len], fun r hr p hp => by
  have h := (mtx_row hr).2 hl p hp
  exact ⟨h.pok (by decide) (by decide), h.bd⟩⟩
theorem MOK.nth {s N : Nat} {M : List (List RP)} (h : MOK s N M) {i k : Nat} (hi : i < M.length) (hk : k < M.length) : POK (Pm.nth (Pm.nth M i) k) ∧ Bd LL s N ((Pm.nth (Pm.nth M i) k).map gv) := h.ok _ (nth_mem hi) _ (nth_mem (by rw [h.sq _ (nth_mem hi)]; exact hk))
theorem MOK.eb {s N : Nat} {M : List (List RP)} (h : MOK s N M) : EB s N (mv M) := EB.mv fun r hr p hp => (h.ok r hr p hp).2
theorem MOK.sqI {s N n : Nat} {M : List (List RP)} (h : MOK s N M) (hl : M.length = n) (t : Int) : Sq n (ev t (mv M)) := Sq_ev (by rw [mv_len, hl]) (mv_row (by rw [← hl]; exact h.sq)) t

/-- A thing of a row times what is left, with its sign; the sum of the first j. -/
def exT (n i : Nat) (M : List (List RP)) (k : Nat) : List Int := if (i + k) % 2 = 1 then pneg (pmul (dcol (n - 1) (mnrI i k (mv M))) (cfs (nth (nth M i) k))) else pmul (dcol (n - 1) (mnrI i k (mv M))) (cfs (nth (nth M i) k))
def exS (n i : Nat) (M : List (List RP)) (j : Nat) : List Int := (List.range j).foldl (fun s k => padd s (exT n i M k)) []
theorem exS_succ (n i : Nat) (M : List (List RP)) (j : Nat) : exS n i M (j + 1) = padd (exS n i M j) (exT n i M j) := by
  simp only [exS, List.range_succ, List.foldl_append, List.foldl_cons, List.foldl_nil]
theorem exP_bd {n i k : Nat} {M : List (List RP)} (h : MOK 1 3 M) (hl : M.length = n) (h4 : n ≤ 4) : Bd LL 33 13 (dcol (n - 1) (mnrI i k (mv M))) := by
  have := dcol_bd (n - 1) (mnrI i k (mv M)) (h.eb.mnr i k) (by simp only [mnrI, List.length_map]; have := List.length_eraseIdx_le (mv M) i; rw [mv_len] at this; omega)
  refine this.mono ?_ ?_
  · have := Nat.mul_le_mul_right (1 + 3 + 4) (show n - 1 ≤ 3 by omega); omega
  · have := Nat.mul_le_mul_right 3 (show n - 1 ≤ 3 by omega); omega
theorem exQ_bd {n i k : Nat} {M : List (List RP)} (h : MOK 1 3 M) (hl : M.length = n) (h4 : n ≤ 4) (hi : i < n) (hk : k < n) : Bd LL 47 16 (pmul (dcol (n - 1) (mnrI i k (mv M))) (cfs (nth (nth M i) k))) :=
  ((exP_bd h hl h4).pmul hLL (h.nth (by omega) (by omega)).2.cut).mono (by omega) (by omega)
theorem exT_bd {n i k : Nat} {M : List (List RP)} (h : MOK 1 3 M) (hl : M.length = n) (h4 : n ≤ 4) (hi : i < n) (hk : k < n) : Bd LL 47 16 (exT n i M k) := by
  rw [exT]; split
  · exact (exQ_bd h hl h4 hi hk).pneg
  · exact exQ_bd h hl h4 hi hk
theorem exS_bd {n i : Nat} {M : List (List RP)} (h : MOK 1 3 M) (hl : M.length = n) (h4 : n ≤ 4) (hi : i < n) : ∀ j, j ≤ n → Bd LL (47 + j) 16 (exS n i M j)
  | 0, _ => ⟨by simp [exS], fun c hc => by simp [exS] at hc⟩
  | j + 1, hj => by
    rw [exS_succ]
    exact ((exS_bd h hl h4 hi j (by omega)).padd hLL ((exT_bd h hl h4 hi (by omega)).mono (by omega) (by omega))).mono (by omega) (by omega)
theorem V_exT (t : Int) {n i k : Nat} {M : List (List RP)} (hl : M.length = n) (hi : i < n) : V t (exT n i M k) = if (i + k) % 2 = 1 then -(dC (n - 1) (mnrI i k (ev t (mv M))) * nth (nth (ev t (mv M)) i) k) else dC (n - 1) (mnrI i k (ev t (mv M))) * nth (nth (ev t (mv M)) i) k := by
  have h1 : V t (pmul (dcol (n - 1) (mnrI i k (mv M))) (cfs (nth (nth M i) k))) = dC (n - 1) (mnrI i k (ev t (mv M))) * nth (nth (ev t (mv M)) i) k := by
    rw [V_pmul, V_dcol t (n - 1) _ (by simp only [mnrI, List.length_map]; rw [List.length_eraseIdx_of_lt (by rw [mv_len]; omega), mv_len]; omega), ev_mnr, nth_ev, nth_mv]
  rw [exT]; split
  · rw [V_pneg, h1]
  · rw [h1]
theorem exS_eq {n i : Nat} {M : List (List RP)} (h : MOK 1 3 M) (hl : M.length = n) (h4 : n ≤ 4) (hi : i < n) : exS n i M n = dcol n (mv M) := by
  refine Cn.ext ?_ (Cn_dcol n _) fun t => ?_
  · obtain ⟨m, rfl⟩ : ∃ m, n = m + 1 := ⟨n - 1, by omega⟩
    rw [exS_succ]; exact Cn.padd _ _
  · rw [V_dcol t n _ (by rw [mv_len, hl]), ← dC_expand (h.sqI hl t) h4 hi]
    have key : ∀ j, V t (exS n i M j) = (List.range j).foldl (fun s k => s + if (i + k) % 2 = 1 then -(dC (n - 1) (mnrI i k (ev t (mv M))) * nth (nth (ev t (mv M)) i) k) else dC (n - 1) (mnrI i k (ev t (mv M))) * nth (nth (ev t (mv M)) i) k) 0 := by
      intro j
      induction j with
      | zero => simp [exS, V]
      | succ j ih =>
        rw [exS_succ, V_padd, ih, V_exT t hl hi, List.range_succ, List.foldl_append]
        rfl
    exact key n

theorem DetExpands_ret (l : List RP) (n0 i0 : Int) (hl : ∀ p ∈ l, InP p) (hll : l.length < 9223372036854775808) (hn0 : -9223372036854775808 ≤ n0 ∧ n0 < 9223372036854775808) (hi0 : -9223372036854775808 ≤ i0 ∧ i0 < 9223372036854775808) :
    Ret env.P 7 [sls pe l, .int .i64 n0, .int .i64 i0] (.bool true) := by
  have w1 := Within_ret n0 4 hn0 (by decide) (by decide)
  obtain ⟨n1, hn⟩ : ∃ n : Nat, (n : Int) = n0 % 4 := ⟨(n0 % 4).toNat, by omega⟩
  have hn6 : n1 ≤ 3 := by omega
  rw [← hn] at w1
  clear hn
  obtain ⟨n, hnn⟩ : ∃ n : Nat, n1 + 1 = n := ⟨_, rfl⟩
  have e1 : (1 : Int) + n1 = (n : Int) := by omega
  have w2 := Within_ret i0 (n : Int) hi0 (by omega) (by omega)
  have hip := Int.emod_nonneg i0 (show (n : Int) ≠ 0 by omega)
  have hil := Int.emod_lt_of_pos i0 (show 0 < (n : Int) by omega)
  obtain ⟨i, hi⟩ : ∃ i : Nat, (i : Int) = i0 % (n : Int) := ⟨(i0 % (n : Int)).toNat, by omega⟩
  rw [← hi] at w2 hip hil
  clear hi hip
  refine ret_of_Wf (E := env) (fun _ => 0) [(0, sls pe l), (1, .int .i64 n0), (2, .int .i64 i0)] Try.func7 rfl (by kernel_rfl) (by kernel_rfl) (show 3 ≤ 94 by decide) (by simp) ?_
  refine W.sreg (fun K hK => ?_); simp (disch := omega) [gA, wrap_i64, wrap_u64, wrap_u32, Int.tdiv_eq_ediv_of_nonneg, Int.tmod_eq_emod_of_nonneg]; refine hK _ (W.liveK [0, 1, 2] fun K2 hK2 => ?_); clear hK K; simp; refine hK2 _ ?_; clear hK2 K2
  refine W.sreg (fun K hK => ?_)
  simp (disch := omega) [gA, wrap_i64, wrap_u64, wrap_u32, Int.tdiv_eq_ediv_of_nonneg, Int.tmod_eq_emod_of_nonneg]
  refine callR w1 ?_
  simp (disch := omega) [gA, wrap_i64, wrap_u64, wrap_u32, Int.tdiv_eq_ediv_of_nonneg, Int.tmod_eq_emod_of_nonneg, e1]
  refine hK _ (W.liveK [0, 1, 2] fun K2 hK2 => ?_); clear hK K; simp; refine hK2 _ ?_; clear hK2 K2
  refine W.sreg (fun K hK => ?_)
  simp (disch := omega) [gA, wrap_i64, wrap_u64, wrap_u32, Int.tdiv_eq_ediv_of_nonneg, Int.tmod_eq_emod_of_nonneg]
  refine callR w2 ?_
  simp (disch := omega) [gA, wrap_i64, wrap_u64, wrap_u32, Int.tdiv_eq_ediv_of_nonneg, Int.tmod_eq_emod_of_nonneg]
  refine hK _ (W.liveK [0, 1, 2] fun K2 hK2 => ?_); clear hK K; simp; refine hK2 _ ?_; clear hK2 K2
  have hrows := rows_ret l n n hl hll (by omega) (by omega)
  refine W.sreg (fun K hK => ?_)
  simp (disch := omega) [gA, wrap_i64, wrap_u64, wrap_u32, Int.tdiv_eq_ediv_of_nonneg, Int.tmod_eq_emod_of_nonneg]
  refine callR hrows ?_
  simp (disch := omega) [gA, wrap_i64, wrap_u64, wrap_u32, Int.tdiv_eq_ediv_of_nonneg, Int.tmod_eq_emod_of_nonneg]
  refine hK _ (W.liveK [1, 2, 7] fun K2 hK2 => ?_); clear hK K; simp; refine hK2 _ ?_; clear hK2 K2
  have hM := mtx_MOK hl n
  have hMl := mtx_len l n n
  generalize mtx l n n = M at *
  have hi : i < n := by omega
  have h4 : n ≤ 4 := by omega
  have hdet := hM.det hMl h4 (by decide) (by decide)
  have hDb := dcol_bd n (mv M) hM.eb (by rw [mv_len]; omega)
  have hSb := exS_bd hM hMl h4 hi
  have hSe := exS_eq hM hMl h4 hi
  have hnb := Nat.mul_le_mul_right (1 + 3 + 4) h4
  have hnc := Nat.mul_le_mul_right 3 h4
  have hsame := pSameI_ret (x := exS n i M n) (y := dcol n (mv M)) (PB.of (hSb n (Nat.le_refl _)) (by omega) (by omega)) (PB.of hDb (by omega) (by omega))
  rw [hSe, decide_eq_true rfl] at hsame
  rw [← hSe] at hdet hsame
  refine W.sreg (fun K hK => ?_)
  simp (disch := omega) [gA, wrap_i64, wrap_u64, wrap_u32, Int.tdiv_eq_ediv_of_nonneg, Int.tmod_eq_emod_of_nonneg]
  refine callR hdet ?_
  simp (disch := omega) [gA, wrap_i64, wrap_u64, wrap_u32, Int.tdiv_eq_ediv_of_nonneg, Int.tmod_eq_emod_of_nonneg]
  refine hK _ (W.liveK [1, 2, 7, 9, 10] fun K2 hK2 => ?_); clear hK K; simp; refine hK2 _ ?_; clear hK2 K2
  refine W.sreg (fun K hK => ?_); simp (disch := omega) [gA, wrap_i64, wrap_u64, wrap_u32, Int.tdiv_eq_ediv_of_nonneg, Int.tmod_eq_emod_of_nonneg]; refine hK _ (W.liveK [1, 2, 7, 9, 10, 11] fun K2 hK2 => ?_); clear hK K; simp; refine hK2 _ ?_; clear hK2 K2
  refine W.nils 11 (Po []) (by simp) rfl (fun K hK => ?_)
  refine hK _ (W.liveK [1, 2, 7, 9, 10, 11] fun K2 hK2 => ?_); clear hK K; simp; refine hK2 _ ?_; clear hK2 K2
  refine W.seq ?_
  refine W.sreg (fun K hK => ?_); simp (disch := omega) [gA, wrap_i64, wrap_u64, wrap_u32, Int.tdiv_eq_ediv_of_nonneg, Int.tmod_eq_emod_of_nonneg]; refine hK _ (W.liveK [1, 2, 7, 9, 10, 11, 12] fun K2 hK2 => ?_); clear hK K; simp; refine hK2 _ ?_; clear hK2 K2
  refine W.block ?_   -- block 0
  refine W.loopG (fun q σ => ∃ (k : Nat) (rows : Pm.Rows) (clk : Nat), σ = ⟨fa [(1, .int .i64 n), (2, .int .i64 i), (7, sls me M), (9, Po (exS n i M n)), (10, .int .i64 0), (11, Po (exS n i M k)), (12, .int .i64 k)], rows, clk⟩ ∧ q = n - k ∧ k ≤ n) n ?_ ?_
  · exact ⟨_, .refl, 0, _, _, rfl, by omega, by omega⟩
  rintro q _ ⟨k, rows, clk, rfl, hq, hk⟩
  refine W.seq ?_
  refine W.sreg (fun K hK => ?_); simp (disch := omega) [gA, wrap_i64, wrap_u64, wrap_u32, Int.tdiv_eq_ediv_of_nonneg, Int.tmod_eq_emod_of_nonneg]; refine hK _ (W.liveK [1, 2, 7, 9, 10, 11, 12, 37] fun K2 hK2 => ?_); clear hK K; simp; refine hK2 _ ?_; clear hK2 K2
  refine W.cond ⟨_, rfl, fun h => ?_, fun h => ?_⟩   -- t37
  · have hk : k < n := by simp at h; omega
    have hmin := hM.min hMl h4 hi hk
    have hXl : (mnr i k M).length = n - 1 := by simp only [mnr, List.length_map]; rw [List.length_eraseIdx_of_lt (by omega)]; omega
    have hX := (hM.mnr (by decide) (by decide) (i := i) (k := k) (by omega) (by omega)).det hXl (by omega) (by decide) (by decide)
    rw [mv_mnr] at hX
    obtain ⟨hp1, hp2⟩ := hM.nth (i := i) (k := k) (by omega) (by omega)
    have hmul := pMulH_ret hp1 (exP_bd (i := i) (k := k) hM hMl h4) hp2 (by omega)
    have hQb := exQ_bd hM hMl h4 hi hk
    have hTb := exT_bd hM hMl h4 hi hk
    have hneg := pNegI_ret (PB.of hQb (by omega) (by omega))
    have hS0 := hSb k (by omega)
    have hadd := pAddI_ret (PB.of hS0 (by omega) (by omega)) (PB.of hTb (by omega) (by omega))
    rw [← exS_succ] at hadd
    have hT : exT n i M k = if (i + k) % 2 = 1 then pneg (pmul (dcol (n - 1) (mnrI i k (mv M))) (cfs (nth (nth M i) k))) else pmul (dcol (n - 1) (mnrI i k (mv M))) (cfs (nth (nth M i) k)) := rfl
    have hrl : (nth M i).length = n := by rw [hM.sq _ (nth_mem (by omega)), hMl]
    generalize hs1 : exS n i M (k + 1) = s1 at *
    generalize exT n i M k = tk at *
    generalize mnr i k M = X at *
    generalize pmul (dcol (n - 1) (mnrI i k (mv M))) (cfs (nth (nth M i) k)) = pq at *
    generalize dcol (n - 1) (mnrI i k (mv M)) = dd at *
    refine W.skip ?_
    refine W.seq ?_
    refine W.block ?_   -- block 1
    refine W.sreg (fun K hK => ?_)
    simp (disch := omega) [gA, wrap_i64, wrap_u64, wrap_u32, Int.tdiv_eq_ediv_of_nonneg, Int.tmod_eq_emod_of_nonneg]
    refine callR hmin ?_
    simp (disch := omega) [gA, wrap_i64, wrap_u64, wrap_u32, Int.tdiv_eq_ediv_of_nonneg, Int.tmod_eq_emod_of_nonneg]
    refine hK _ (W.liveK [1, 2, 7, 9, 10, 11, 12, 13, 14] fun K2 hK2 => ?_); clear hK K; simp; refine hK2 _ ?_; clear hK2 K2
    refine W.sreg (fun K hK => ?_)
    simp (disch := omega) [gA, wrap_i64, wrap_u64, wrap_u32, Int.tdiv_eq_ediv_of_nonneg, Int.tmod_eq_emod_of_nonneg]
    refine callR hX ?_
    simp (disch := omega) [gA, wrap_i64, wrap_u64, wrap_u32, Int.tdiv_eq_ediv_of_nonneg, Int.tmod_eq_emod_of_nonneg]
    refine hK _ (W.liveK [1, 2, 7, 9, 10, 11, 12, 13, 14, 15, 16] fun K2 hK2 => ?_); clear hK K; simp; refine hK2 _ ?_; clear hK2 K2
    refine W.seq ?_
    have hxl : ((X.length : Int) != (n : Int) - 1) = false := by simp; omega
    refine W.sregJ (fun σ => ∃ (rows : Pm.Rows) (clk : Nat), σ = ⟨fa [(1, .int .i64 n), (2, .int .i64 i), (7, sls me M), (9, Po (exS n i M n)), (10, .int .i64 0), (11, Po (exS n i M k)), (12, .int .i64 k), (15, Po dd), (64, .bool false)], rows, clk⟩) (fun K hK => ?_) ?_
    · simp (disch := omega) [gA, wrap_i64, wrap_u64, wrap_u32, Int.tdiv_eq_ediv_of_nonneg, Int.tmod_eq_emod_of_nonneg, hxl]
      exact hK _ _ (Gh_fa _ [1, 2, 7, 9, 10, 11, 12, 15, 64]) ⟨_, _, rfl⟩
    rintro _ ⟨rows, clk, rfl⟩
    refine W.cond ⟨_, rfl, fun h => ?_, fun h => ?_⟩   -- t64
    · cases h
    refine W.skip ?_
    refine W.sreg (fun K hK => ?_)
    simp (disch := omega) [gA, wrap_i64, wrap_u64, wrap_u32, Int.tdiv_eq_ediv_of_nonneg, Int.tmod_eq_emod_of_nonneg, hMl, hrl]
    refine callR hmul ?_
    simp (disch := omega) [gA, wrap_i64, wrap_u64, wrap_u32, Int.tdiv_eq_ediv_of_nonneg, Int.tmod_eq_emod_of_nonneg]
    refine hK _ (W.liveK [1, 2, 7, 9, 10, 11, 12, 15] fun K2 hK2 => ?_); clear hK K; simp; refine hK2 _ ?_; clear hK2 K2
    refine W.seqJ (fun σ => ∃ (rows : Pm.Rows) (clk : Nat), σ = ⟨fa [(1, .int .i64 n), (2, .int .i64 i), (7, sls me M), (9, Po (exS n i M n)), (10, .int .i64 0), (11, Po (exS n i M k)), (12, .int .i64 k), (15, Po tk)], rows, clk⟩) ?_ ?_
    ·
      refine W.sreg (fun K hK => ?_); simp (disch := omega) [gA, wrap_i64, wrap_u64, wrap_u32, Int.tdiv_eq_ediv_of_nonneg, Int.tmod_eq_emod_of_nonneg]; refine hK _ (W.liveK [1, 2, 7, 9, 10, 11, 12, 15, 78] fun K2 hK2 => ?_); clear hK K; simp; refine hK2 _ ?_; clear hK2 K2
      refine W.cond ⟨_, rfl, fun h => ?_, fun h => ?_⟩   -- t78
      · have h : (i + k) % 2 = 1 := by simp at h; omega
        rw [if_pos h] at hT
        subst hT
        refine W.reg (fun K hK => ?_)
        simp (disch := omega) [gA, wrap_i64, wrap_u64, wrap_u32, Int.tdiv_eq_ediv_of_nonneg, Int.tmod_eq_emod_of_nonneg]
        refine callR hneg ?_
        simp (disch := omega) [gA, wrap_i64, wrap_u64, wrap_u32, Int.tdiv_eq_ediv_of_nonneg, Int.tmod_eq_emod_of_nonneg]
        exact hK _ ⟨_, Gh_fa _ [1, 2, 7, 9, 10, 11, 12, 15], _, _, rfl⟩
      · have h : ¬ (i + k) % 2 = 1 := by simp at h; omega
        rw [if_neg h] at hT
        subst hT
        refine W.skip ?_
        exact ⟨_, Gh_fa _ [1, 2, 7, 9, 10, 11, 12, 15], rows, clk, rfl⟩
    rintro _ ⟨rows, clk, rfl⟩
    refine W.reg (fun K hK => ?_)
    simp (disch := omega) [gA, wrap_i64, wrap_u64, wrap_u32, Int.tdiv_eq_ediv_of_nonneg, Int.tmod_eq_emod_of_nonneg]
    refine callR hadd ?_
    simp (disch := omega) [gA, wrap_i64, wrap_u64, wrap_u32, Int.tdiv_eq_ediv_of_nonneg, Int.tmod_eq_emod_of_nonneg]
    refine hK _ (W.liveK [1, 2, 7, 9, 10, 11, 12] fun K2 hK2 => ?_); clear hK K; simp; refine hK2 _ ?_; clear hK2 K2
    subst hs1
    refine W.reg (fun K hK => ?_); simp (disch := omega) [gA, wrap_i64, wrap_u64, wrap_u32, Int.tdiv_eq_ediv_of_nonneg, Int.tmod_eq_emod_of_nonneg]
    refine hK _ ⟨n - (k + 1), _, Gh_fa _ [1, 2, 7, 9, 10, 11, 12], by omega, k + 1, _, _, rfl, by omega, by omega⟩
  · have hk : k = n := by simp at h; omega
    subst hk
    refine W.exit ?_; simp only [pblk_exit, pblk_normal, pblk_ret, pseq_exit, pseq_normal, pseq_ret, pnor_exit, pnor_normal, pnor_ret, if_true, if_false, reduceIte, Nat.reduceEqDiff]
    refine W.sregJ (fun σ => ∃ (rows : Pm.Rows) (clk : Nat), σ = ⟨fa [(6, .bool true)], rows, clk⟩) (fun K hK => ?_) ?_
    · simp (disch := omega) [gA, wrap_i64, wrap_u64, wrap_u32, Int.tdiv_eq_ediv_of_nonneg, Int.tmod_eq_emod_of_nonneg]
      refine callR hsame ?_
      simp (disch := omega) [gA, wrap_i64, wrap_u64, wrap_u32, Int.tdiv_eq_ediv_of_nonneg, Int.tmod_eq_emod_of_nonneg]
      refine callR wakes_ret ?_
      simp (disch := omega) [gA, wrap_i64, wrap_u64, wrap_u32, Int.tdiv_eq_ediv_of_nonneg, Int.tmod_eq_emod_of_nonneg]
      exact hK _ _ (Gh_fa _ [6]) ⟨_, _, rfl⟩
    rintro _ ⟨rows, clk, rfl⟩
    refine W.ret ?_
    simp [go]
end Go.Proofs.Ytjnkpfknmncdmaa
