import Derived.Test.YtjnkpfknmncdmaaLm
set_option linter.unusedSimpArgs false
set_option linter.unusedVariables false
namespace Go.Proofs.Ytjnkpfknmncdmaa
open Go Pm

/-- A polynomial's coefficients, normal. -/
def cfs (p : RP) : List Int := cutR (p.map gv)
def nrm (p : RP) : RP := (cfs p).map rw'
theorem Po_cfs (p : RP) : Po (cfs p) = Pg (nrm p) := Po_eq _
theorem gv_nrm (p : RP) : (nrm p).map gv = cfs p := map_gv_rw _
theorem cfs_nrm (p : RP) : cfs (nrm p) = cfs p := by rw [cfs, gv_nrm]; exact cutR_cutR _

theorem pOf_ret (l : List Int) (hl : l.length < 1099511627776) (hb : ∀ x ∈ l, -9223372036854775808 ≤ x ∧ x < 9223372036854775808) : Ret env.P 62 [sls i64e l] (Po (cutR l)) := by
  refine ret_of_Wf (E := env) (fun _ => 0) [(0, sls i64e l)] Try.func62 rfl (by kernel_rfl) (by kernel_rfl) (show 1 ≤ 24 by decide) (by simp) ?_
  refine W.sreg (fun K hK => ?_)
  simp (disch := omega) [gA, wrap_i64, wrap_u64, wrap_u32, Int.tdiv_eq_ediv_of_nonneg, Int.tmod_eq_emod_of_nonneg]
  refine hK _ (W.liveK [0] fun K2 hK2 => ?_); clear hK K; simp; refine hK2 _ ?_; clear hK2 K2
  refine W.sreg (fun K hK => ?_)
  simp (disch := omega) [gA, wrap_i64, wrap_u64, wrap_u32, Int.tdiv_eq_ediv_of_nonneg, Int.tmod_eq_emod_of_nonneg]
  refine hK _ (W.liveK [0, 3] fun K2 hK2 => ?_); clear hK K; simp; refine hK2 _ ?_; clear hK2 K2
  refine W.row (id := 8) (emap ie (List.replicate l.length 0)) (by simp; exact ⟨rfl, rfl, rfl⟩) (row_ie _) ?_
  refine W.seq ?_
  refine W.sreg (fun K hK => ?_)
  simp (disch := omega) [gA, wrap_i64, wrap_u64, wrap_u32, Int.tdiv_eq_ediv_of_nonneg, Int.tmod_eq_emod_of_nonneg]
  refine hK _ (W.liveK [3, 9, 10, 11] fun K2 hK2 => ?_); clear hK K; simp; refine hK2 _ ?_; clear hK2 K2
  refine W.block ?_   -- block 0
  refine W.loopG (fun k σ => ∃ (i : Nat) (z : List Int) (ver : Nat) (rows : Pm.Rows) (clk : Nat), σ = ⟨fa [(3, .own 8 ver 0 l.length), (9, sls i64e l), (10, .int .i64 l.length), (11, .int .i64 i)], rows, clk⟩ ∧
    rows 8 = some ⟨ver, 68, 2, emap ie z⟩ ∧ k = l.length - i ∧ i ≤ l.length ∧ z.length = l.length ∧ z.take i = l.take i) l.length ?_ ?_
  · exact ⟨_, .refl, 0, List.replicate l.length 0, _, _, _, rfl, by simp, by omega, by omega, by simp, by simp⟩
  rintro k _ ⟨i, z, ver, rows, clk, rfl, hr, hk, hi, hz, hv⟩
  refine W.sreg (fun K hK => ?_)
  simp (disch := omega) [gA, wrap_i64, wrap_u64, wrap_u32, Int.tdiv_eq_ediv_of_nonneg, Int.tmod_eq_emod_of_nonneg]
  refine hK _ (W.liveK [3, 9, 10, 11, 12] fun K2 hK2 => ?_); clear hK K; simp; refine hK2 _ ?_; clear hK2 K2
  refine W.seq ?_
  refine W.cond ⟨_, rfl, fun hlt => ?_, fun hlt => ?_⟩   -- t12
  · simp at hlt
    refine W.skip ?_
    refine W.seq ?_
    refine W.block ?_   -- block 1
    refine W.sreg (fun K hK => ?_)
    simp (disch := omega) [gA, wrap_i64, wrap_u64, wrap_u32, Int.tdiv_eq_ediv_of_nonneg, Int.tmod_eq_emod_of_nonneg, hr]
    refine hK _ (W.liveK [3, 4, 5, 9, 10, 11] fun K2 hK2 => ?_); clear hK K; simp; refine hK2 _ ?_; clear hK2 K2
    refine W.reg (fun K hK => ?_)
    simp (disch := omega) [gA, wrap_i64, wrap_u64, wrap_u32, Int.tdiv_eq_ediv_of_nonneg, Int.tmod_eq_emod_of_nonneg, hr]
    refine callR (Of_ret _ (hb _ (nth_mem hlt)).1 (hb _ (nth_mem hlt)).2) ?_
    simp (disch := omega) [gA, wrap_i64, wrap_u64, wrap_u32, Int.tdiv_eq_ediv_of_nonneg, Int.tmod_eq_emod_of_nonneg, hr]
    refine hK _ (W.liveK [3, 9, 10, 11] fun K2 hK2 => ?_); clear hK K; simp; refine hK2 _ ?_; clear hK2 K2
    refine W.reg (fun K hK => ?_)
    simp (disch := omega) [gA, wrap_i64, wrap_u64, wrap_u32, Int.tdiv_eq_ediv_of_nonneg, Int.tmod_eq_emod_of_nonneg]
    refine hK _ ⟨l.length - (i + 1), _, Gh_fa _ [3, 9, 10, 11], by omega, i + 1, z.set i (nth l i), ver, _, _, rfl, by simp, by omega, by omega, by simpa using hz, ?_⟩
    rw [set_take hv (by omega), take_succ_nth hlt]
  · simp at hlt
    have hi' : i = l.length := by omega
    subst hi'
    refine W.exit ?_; simp only [pblk_exit, pblk_normal, pblk_ret, pseq_exit, pseq_normal, pseq_ret, pnor_exit, pnor_normal, pnor_ret, if_true, if_false, reduceIte, Nat.reduceEqDiff]
    rw [take_all hz, take_all rfl] at hv
    have hz2 := take_all hz
    refine W.sreg (fun K hK => ?_)
    simp (disch := omega) [gA, wrap_i64, wrap_u64, wrap_u32, Int.tdiv_eq_ediv_of_nonneg, Int.tmod_eq_emod_of_nonneg, hr, hz2]
    refine callR (pcut_ret z (by omega)) ?_
    simp (disch := omega) [gA, wrap_i64, wrap_u64, wrap_u32, Int.tdiv_eq_ediv_of_nonneg, Int.tmod_eq_emod_of_nonneg]
    refine hK _ (W.liveK [2] fun K2 hK2 => ?_); clear hK K; simp; refine hK2 _ ?_; clear hK2 K2
    refine W.ret ?_
    simp [go, hv]

theorem may_ret (m : List (List RP)) (hm : m.length < 1099511627776) (hr : ∀ r ∈ m, r.length < 1099511627776) : Ret env.P 59 [sls me m] (.bool (decide ((∀ r ∈ m, r.length = m.length) ∧ m.length ≤ 4))) := by
  refine ret_of_Wf (E := env) (fun _ => 0) [(0, sls me m)] Try.func59 rfl (by kernel_rfl) (by kernel_rfl) (show 1 ≤ 20 by decide) (by simp) ?_
  refine W.sreg (fun K hK => ?_)
  simp (disch := omega) [gA, wrap_i64, wrap_u64, wrap_u32, Int.tdiv_eq_ediv_of_nonneg, Int.tmod_eq_emod_of_nonneg]
  refine hK _ (W.liveK [0] fun K2 hK2 => ?_); clear hK K; simp; refine hK2 _ ?_; clear hK2 K2
  refine W.seq ?_
  refine W.sreg (fun K hK => ?_)
  simp (disch := omega) [gA, wrap_i64, wrap_u64, wrap_u32, Int.tdiv_eq_ediv_of_nonneg, Int.tmod_eq_emod_of_nonneg]
  refine hK _ (W.liveK [0, 5, 6, 7] fun K2 hK2 => ?_); clear hK K; simp; refine hK2 _ ?_; clear hK2 K2
  refine W.block ?_   -- block 0
  refine W.loopG (fun k σ => ∃ (i : Nat) (rows : Pm.Rows) (clk : Nat), σ = ⟨fa [(0, sls me m), (5, sls me m), (6, .int .i64 m.length), (7, .int .i64 i)], rows, clk⟩ ∧ k = m.length - i ∧ i ≤ m.length ∧ ∀ r ∈ m.take i, r.length = m.length) m.length ?_ ?_
  · exact ⟨_, .refl, 0, _, _, rfl, by omega, by omega, by simp⟩
  rintro k _ ⟨i, rows, clk, rfl, hk, hi, hI⟩
  refine W.sreg (fun K hK => ?_)
  simp (disch := omega) [gA, wrap_i64, wrap_u64, wrap_u32, Int.tdiv_eq_ediv_of_nonneg, Int.tmod_eq_emod_of_nonneg]
  refine hK _ (W.liveK [0, 5, 6, 7, 8] fun K2 hK2 => ?_); clear hK K; simp; refine hK2 _ ?_; clear hK2 K2
  refine W.seq ?_
  refine W.cond ⟨_, rfl, fun h => ?_, fun h => ?_⟩   -- t8
  · simp at h
    have hrl := hr _ (nth_mem h)
    refine W.skip ?_
    refine W.seq ?_
    refine W.block ?_   -- block 1
    refine W.sreg (fun K hK => ?_)
    simp (disch := omega) [gA, wrap_i64, wrap_u64, wrap_u32, Int.tdiv_eq_ediv_of_nonneg, Int.tmod_eq_emod_of_nonneg]
    refine hK _ (W.liveK [0, 4, 5, 6, 7] fun K2 hK2 => ?_); clear hK K; simp; refine hK2 _ ?_; clear hK2 K2
    refine W.sreg (fun K hK => ?_)
    simp (disch := omega) [gA, wrap_i64, wrap_u64, wrap_u32, Int.tdiv_eq_ediv_of_nonneg, Int.tmod_eq_emod_of_nonneg]
    refine hK _ (W.liveK [0, 5, 6, 7, 15] fun K2 hK2 => ?_); clear hK K; simp; refine hK2 _ ?_; clear hK2 K2
    refine W.cond ⟨_, rfl, fun h2 => ?_, fun h2 => ?_⟩   -- t15
    · have h3 : ¬ (∀ r ∈ m, r.length = m.length) := fun h3 => by
        have := h3 _ (nth_mem h)
        simp [this] at h2
      refine W.sreg (fun K hK => ?_)
      simp (disch := omega) [gA, wrap_i64, wrap_u64, wrap_u32, Int.tdiv_eq_ediv_of_nonneg, Int.tmod_eq_emod_of_nonneg]
      refine hK _ (W.liveK [2] fun K2 hK2 => ?_); clear hK K; simp; refine hK2 _ ?_; clear hK2 K2
      refine W.ret ?_
      simp [go, h3]
    · have h3 : (nth m i).length = m.length := by simp at h2; omega
      refine W.skip ?_
      refine W.reg (fun K hK => ?_)
      simp (disch := omega) [gA, wrap_i64, wrap_u64, wrap_u32, Int.tdiv_eq_ediv_of_nonneg, Int.tmod_eq_emod_of_nonneg]
      refine hK _ ⟨m.length - (i + 1), _, Gh_fa _ [0, 5, 6, 7], by omega, i + 1, _, _, rfl, by omega, by omega, fun r hr => ?_⟩
      rw [take_succ_nth h] at hr
      rcases List.mem_append.1 hr with h4 | h4
      · exact hI r h4
      · simp at h4; rw [h4]; exact h3
  · simp at h
    rw [List.take_of_length_le (by omega)] at hI
    refine W.exit ?_; simp only [pblk_exit, pblk_normal, pblk_ret, pseq_exit, pseq_normal, pseq_ret, pnor_exit, pnor_normal, pnor_ret, if_true, if_false, reduceIte, Nat.reduceEqDiff]
    refine W.sreg (fun K hK => ?_)
    simp (disch := omega) [gA, wrap_i64, wrap_u64, wrap_u32, Int.tdiv_eq_ediv_of_nonneg, Int.tmod_eq_emod_of_nonneg]
    refine hK _ (W.liveK [2] fun K2 hK2 => ?_); clear hK K; simp; refine hK2 _ ?_; clear hK2 K2
    refine W.ret ?_
    have e : decide ((∀ r ∈ m, r.length = m.length) ∧ m.length ≤ 4) = decide ((m.length : Int) ≤ 4) := decide_eq_decide.2 ⟨fun h => by omega, fun h => ⟨hI, by omega⟩⟩
    rw [e]
    simp [go]

/-- The rows without one, and without a column. -/
def mnr (i k : Nat) (m : List (List RP)) : List (List RP) := (m.eraseIdx i).map fun r => (r.eraseIdx k).map nrm

theorem minor_ret (i k : Nat) (m : List (List RP)) (hi : i < 1099511627776) (hk : k < 1099511627776) (hm : m.length < 1099511627776) (hr : ∀ r ∈ m, r.length < 1099511627776 ∧ ∀ p ∈ r, POK p) : Ret env.P 66 [.int .i64 i, .int .i64 k, sls me m] (sls me (mnr i k m)) := by
  refine ret_of_Wf (E := env) (fun _ => 0) [(0, .int .i64 i), (1, .int .i64 k), (2, sls me m)] Try.func66 rfl (by kernel_rfl) (by kernel_rfl) (show 3 ≤ 45 by decide) (by simp) ?_
  refine W.sreg (fun K hK => ?_)
  simp (disch := omega) [gA, wrap_i64, wrap_u64, wrap_u32, Int.tdiv_eq_ediv_of_nonneg, Int.tmod_eq_emod_of_nonneg]
  refine hK _ (W.liveK [0, 1, 2] fun K2 hK2 => ?_); clear hK K; simp; refine hK2 _ ?_; clear hK2 K2
  refine W.sreg (fun K hK => ?_)
  simp (disch := omega) [gA, wrap_i64, wrap_u64, wrap_u32, Int.tdiv_eq_ediv_of_nonneg, Int.tmod_eq_emod_of_nonneg]
  refine hK _ (W.liveK [0, 1, 2, 7] fun K2 hK2 => ?_); clear hK K; simp; refine hK2 _ ?_; clear hK2 K2
  refine W.nil 7 7 22 1 (by simp) (by decide) (fun K hK => ?_)
  refine hK _ (W.liveK [0, 1, 2, 7] fun K2 hK2 => ?_); clear hK K; simp; refine hK2 _ ?_; clear hK2 K2
  refine W.seq ?_
  refine W.sreg (fun K hK => ?_)
  simp (disch := omega) [gA, wrap_i64, wrap_u64, wrap_u32, Int.tdiv_eq_ediv_of_nonneg, Int.tmod_eq_emod_of_nonneg]
  refine hK _ (W.liveK [0, 1, 7, 13, 14, 15] fun K2 hK2 => ?_); clear hK K; simp; refine hK2 _ ?_; clear hK2 K2
  refine W.block ?_   -- block 0
  refine W.loopG (fun d σ => ∃ (r ver n : Nat) (rows : Pm.Rows) (clk : Nat), σ = ⟨fa [(0, .int .i64 i), (1, .int .i64 k), (7, .own 7 ver 0 n), (13, sls me m), (14, .int .i64 m.length), (15, .int .i64 r)], rows, clk⟩ ∧
    rows 7 = some ⟨ver, 22, 1, emap me (mnr i k (m.take r))⟩ ∧ n = (mnr i k (m.take r)).length ∧ d = m.length - r ∧ r ≤ m.length) m.length ?_ ?_
  · exact ⟨_, .refl, 0, _, _, _, _, rfl, by simp [mnr, emap], by simp [mnr], by omega, by omega⟩
  rintro d _ ⟨r, ver, n, rows, clk, rfl, hr7, hn, hd, hrm⟩
  have hml : (mnr i k (m.take r)).length ≤ m.length := by
    have := List.length_eraseIdx_le (m.take r) i
    simp [mnr] at *; omega
  refine W.sreg (fun K hK => ?_)
  simp (disch := omega) [gA, wrap_i64, wrap_u64, wrap_u32, Int.tdiv_eq_ediv_of_nonneg, Int.tmod_eq_emod_of_nonneg]
  refine hK _ (W.liveK [0, 1, 7, 13, 14, 15, 16] fun K2 hK2 => ?_); clear hK K; simp; refine hK2 _ ?_; clear hK2 K2
  refine W.seq ?_
  refine W.cond ⟨_, rfl, fun h => ?_, fun h => ?_⟩   -- t16
  · simp at h
    obtain ⟨hrl, hrp⟩ := hr _ (nth_mem h)
    refine W.skip ?_
    refine W.seq_blockJ (fun σ => ∃ (ver n : Nat) (rows : Pm.Rows) (clk : Nat), σ = ⟨fa [(0, .int .i64 i), (1, .int .i64 k), (7, .own 7 ver 0 n), (13, sls me m), (14, .int .i64 m.length), (15, .int .i64 r)], rows, clk⟩ ∧
      rows 7 = some ⟨ver, 22, 1, emap me (mnr i k (m.take (r + 1)))⟩ ∧ n = (mnr i k (m.take (r + 1))).length) ?_ ?_   -- block 1
    ·
      refine W.sreg (fun K hK => ?_)
      simp (disch := omega) [gA, wrap_i64, wrap_u64, wrap_u32, Int.tdiv_eq_ediv_of_nonneg, Int.tmod_eq_emod_of_nonneg]
      refine hK _ (W.liveK [0, 1, 7, 8, 9, 13, 14, 15] fun K2 hK2 => ?_); clear hK K; simp; refine hK2 _ ?_; clear hK2 K2
      refine W.seq ?_
      refine W.sreg (fun K hK => ?_)
      simp (disch := omega) [gA, wrap_i64, wrap_u64, wrap_u32, Int.tdiv_eq_ediv_of_nonneg, Int.tmod_eq_emod_of_nonneg]
      refine hK _ (W.liveK [0, 1, 7, 9, 13, 14, 15, 22] fun K2 hK2 => ?_); clear hK K; simp; refine hK2 _ ?_; clear hK2 K2
      refine W.cond ⟨_, rfl, fun h2 => ?_, fun h2 => ?_⟩   -- t22
      · have h2 : r = i := by simp at h2; omega
        have e : mnr i k (m.take (r + 1)) = mnr i k (m.take r) := by simp only [mnr]; rw [erase_take h, if_pos h2]
        refine W.exit ?_; simp only [pblk_exit, pblk_normal, pblk_ret, pseq_exit, pseq_normal, pseq_ret, pnor_exit, pnor_normal, pnor_ret, if_true, if_false, reduceIte, Nat.reduceEqDiff]
        rw [e]
        exact ⟨_, Gh_fa _ [0, 1, 7, 13, 14, 15], _, _, _, _, rfl, hr7, hn⟩
      · have h2 : r ≠ i := by simp at h2; omega
        have e : mnr i k (m.take (r + 1)) = mnr i k (m.take r) ++ [((nth m r).eraseIdx k).map nrm] := by simp only [mnr]; rw [erase_take h, if_neg h2]; simp
        rw [e]
        generalize hrow : nth m r = row at *
        refine W.skip ?_
        refine W.sreg (fun K hK => ?_)
        simp (disch := omega) [gA, wrap_i64, wrap_u64, wrap_u32, Int.tdiv_eq_ediv_of_nonneg, Int.tmod_eq_emod_of_nonneg]
        refine hK _ (W.liveK [0, 1, 7, 9, 10, 13, 14, 15] fun K2 hK2 => ?_); clear hK K; simp; refine hK2 _ ?_; clear hK2 K2
        refine W.nil 10 10 29 1 (by simp) (by decide) (fun K hK => ?_)
        refine hK _ (W.liveK [0, 1, 7, 9, 10, 13, 14, 15] fun K2 hK2 => ?_); clear hK K; simp; refine hK2 _ ?_; clear hK2 K2
        refine W.seq ?_
        refine W.sreg (fun K hK => ?_)
        simp (disch := omega) [gA, wrap_i64, wrap_u64, wrap_u32, Int.tdiv_eq_ediv_of_nonneg, Int.tmod_eq_emod_of_nonneg]
        refine hK _ (W.liveK [0, 1, 7, 10, 13, 14, 15, 23, 24, 25] fun K2 hK2 => ?_); clear hK K; simp; refine hK2 _ ?_; clear hK2 K2
        refine W.block ?_   -- block 2
        refine W.loopG (fun d σ => ∃ (c v10 n10 : Nat) (rows : Pm.Rows) (clk : Nat), σ = ⟨fa [(0, .int .i64 i), (1, .int .i64 k), (7, .own 7 ver 0 n), (10, .own 10 v10 0 n10), (13, sls me m), (14, .int .i64 m.length), (15, .int .i64 r), (23, sls pe row), (24, .int .i64 row.length), (25, .int .i64 c)], rows, clk⟩ ∧
          rows 7 = some ⟨ver, 22, 1, emap me (mnr i k (m.take r))⟩ ∧ rows 10 = some ⟨v10, 29, 1, emap pe (((row.take c).eraseIdx k).map nrm)⟩ ∧ n10 = (((row.take c).eraseIdx k).map nrm).length ∧ d = row.length - c ∧ c ≤ row.length) row.length ?_ ?_
        · exact ⟨_, .refl, 0, _, _, _, _, rfl, by simp [hr7], by simp [emap], by simp, by omega, by omega⟩
        clear hr7 rows clk
        rintro d _ ⟨c, v10, n10, rows, clk, rfl, hr7, hr10, hn10, hd2, hcr⟩
        have hcl : (((row.take c).eraseIdx k).map nrm).length ≤ row.length := by
          have := List.length_eraseIdx_le (row.take c) k
          simp at *; omega
        refine W.sreg (fun K hK => ?_)
        simp (disch := omega) [gA, wrap_i64, wrap_u64, wrap_u32, Int.tdiv_eq_ediv_of_nonneg, Int.tmod_eq_emod_of_nonneg]
        refine hK _ (W.liveK [0, 1, 7, 10, 13, 14, 15, 23, 24, 25, 26] fun K2 hK2 => ?_); clear hK K; simp; refine hK2 _ ?_; clear hK2 K2
        refine W.seq ?_
        refine W.cond ⟨_, rfl, fun h3 => ?_, fun h3 => ?_⟩   -- t26
        · simp at h3
          refine W.skip ?_
          refine W.seq_blockJ (fun σ => ∃ (v10 n10 : Nat) (rows : Pm.Rows) (clk : Nat), σ = ⟨fa [(0, .int .i64 i), (1, .int .i64 k), (7, .own 7 ver 0 n), (10, .own 10 v10 0 n10), (13, sls me m), (14, .int .i64 m.length), (15, .int .i64 r), (23, sls pe row), (24, .int .i64 row.length), (25, .int .i64 c)], rows, clk⟩ ∧
            rows 7 = some ⟨ver, 22, 1, emap me (mnr i k (m.take r))⟩ ∧ rows 10 = some ⟨v10, 29, 1, emap pe (((row.take (c + 1)).eraseIdx k).map nrm)⟩ ∧ n10 = (((row.take (c + 1)).eraseIdx k).map nrm).length) ?_ ?_   -- block 3
          ·
            refine W.sreg (fun K hK => ?_)
            simp (disch := omega) [gA, wrap_i64, wrap_u64, wrap_u32, Int.tdiv_eq_ediv_of_nonneg, Int.tmod_eq_emod_of_nonneg]
            refine hK _ (W.liveK [0, 1, 7, 10, 11, 12, 13, 14, 15, 23, 24, 25] fun K2 hK2 => ?_); clear hK K; simp; refine hK2 _ ?_; clear hK2 K2
            refine W.sreg (fun K hK => ?_)
            simp (disch := omega) [gA, wrap_i64, wrap_u64, wrap_u32, Int.tdiv_eq_ediv_of_nonneg, Int.tmod_eq_emod_of_nonneg]
            refine hK _ (W.liveK [0, 1, 7, 10, 12, 13, 14, 15, 23, 24, 25, 32] fun K2 hK2 => ?_); clear hK K; simp; refine hK2 _ ?_; clear hK2 K2
            refine W.cond ⟨_, rfl, fun h4 => ?_, fun h4 => ?_⟩   -- t32
            · have h4 : c ≠ k := by simp at h4; omega
              have e2 : ((row.take (c + 1)).eraseIdx k).map nrm = ((row.take c).eraseIdx k).map nrm ++ [nrm (nth row c)] := by rw [erase_take h3, if_neg h4]; simp
              rw [e2]
              generalize hq : ((row.take c).eraseIdx k).map nrm = q at *
              refine W.reg (fun K hK => ?_)
              simp (disch := omega) [gA, wrap_i64, wrap_u64, wrap_u32, Int.tdiv_eq_ediv_of_nonneg, Int.tmod_eq_emod_of_nonneg, hr10]
              refine callR (pNorm_ret _ (hrp _ (nth_mem h3))) ?_
              rw [show Po (cutR ((nth row c).map gv)) = Pg (nrm (nth row c)) from Po_cfs _]
              simp (disch := omega) [gA, wrap_i64, wrap_u64, wrap_u32, Int.tdiv_eq_ediv_of_nonneg, Int.tmod_eq_emod_of_nonneg, hr10]
              exact hK _ ⟨_, Gh_fa _ [0, 1, 7, 10, 13, 14, 15, 23, 24, 25], _, _, _, _, rfl, by simp [hr7], by simp, by simp; omega⟩
            · have h4 : c = k := by simp at h4; omega
              have e2 : ((row.take (c + 1)).eraseIdx k).map nrm = ((row.take c).eraseIdx k).map nrm := by rw [erase_take h3, if_pos h4]
              rw [e2]
              refine W.skip ?_
              exact ⟨_, Gh_fa _ [0, 1, 7, 10, 13, 14, 15, 23, 24, 25], _, _, _, _, rfl, hr7, hr10, hn10⟩
          clear hr7 hr10 hn10 rows clk v10 n10
          rintro _ ⟨v10, n10, rows, clk, rfl, hr7, hr10, hn10⟩
          refine W.reg (fun K hK => ?_)
          simp (disch := omega) [gA, wrap_i64, wrap_u64, wrap_u32, Int.tdiv_eq_ediv_of_nonneg, Int.tmod_eq_emod_of_nonneg]
          exact hK _ ⟨row.length - (c + 1), _, Gh_fa _ [0, 1, 7, 10, 13, 14, 15, 23, 24, 25], by omega, c + 1, _, _, _, _, rfl, hr7, hr10, hn10, by omega, by omega⟩
        · simp at h3
          have hc' : c = row.length := by omega
          subst hc'
          rw [List.take_of_length_le (Nat.le_refl _)] at hr10 hcl hn10
          refine W.exit ?_; simp only [pblk_exit, pblk_normal, pblk_ret, pseq_exit, pseq_normal, pseq_ret, pnor_exit, pnor_normal, pnor_ret, if_true, if_false, reduceIte, Nat.reduceEqDiff]
          refine W.freeze 10 (by simp [hr10]) (fun K hK => ?_)
          have e3 := take_all hn10.symm
          generalize hq : (row.eraseIdx k).map nrm = q at *
          simp [hr10, e3]
          refine hK _ ?_; clear hK K
          refine W.reg (fun K hK => ?_)
          simp (disch := omega) [gA, wrap_i64, wrap_u64, wrap_u32, Int.tdiv_eq_ediv_of_nonneg, Int.tmod_eq_emod_of_nonneg, hr7]
          exact hK _ ⟨_, Gh_fa _ [0, 1, 7, 13, 14, 15], _, _, _, _, rfl, by simp, by simp; omega⟩
    clear hr7 hn rows clk ver n
    rintro _ ⟨ver, n, rows, clk, rfl, hr7, hn⟩
    refine W.reg (fun K hK => ?_)
    simp (disch := omega) [gA, wrap_i64, wrap_u64, wrap_u32, Int.tdiv_eq_ediv_of_nonneg, Int.tmod_eq_emod_of_nonneg]
    exact hK _ ⟨m.length - (r + 1), _, Gh_fa _ [0, 1, 7, 13, 14, 15], by omega, r + 1, _, _, _, _, rfl, hr7, hn, by omega, by omega⟩
  · simp at h
    have e : m.take r = m := List.take_of_length_le (by omega)
    rw [e] at hr7 hn
    refine W.exit ?_; simp only [pblk_exit, pblk_normal, pblk_ret, pseq_exit, pseq_normal, pseq_ret, pnor_exit, pnor_normal, pnor_ret, if_true, if_false, reduceIte, Nat.reduceEqDiff]
    refine W.sreg (fun K hK => ?_)
    simp (disch := omega) [gA, wrap_i64, wrap_u64, wrap_u32, Int.tdiv_eq_ediv_of_nonneg, Int.tmod_eq_emod_of_nonneg]
    refine hK _ (W.liveK [6] fun K2 hK2 => ?_); clear hK K; simp; refine hK2 _ ?_; clear hK2 K2
    refine W.ret ?_
    simp [go, hr7, hn, take_all]
end Go.Proofs.Ytjnkpfknmncdmaa
