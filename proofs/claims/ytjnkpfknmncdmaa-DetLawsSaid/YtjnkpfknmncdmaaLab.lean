import Derived.Test.YtjnkpfknmncdmaaLaa
import Derived.Test.YtjnkpfknmncdmaaLin
set_option linter.unusedSimpArgs false
set_option linter.unusedVariables false
namespace Go.Proofs.Ytjnkpfknmncdmaa
open Go Pm

/-- A thing of the rows of law 13. -/
def cel (l : List RP) (m i k : Nat) : RP := if m * i + k < l.length then keepP 3 1 (nth l (m * i + k)) else []
def rwR (l : List RP) (m i : Nat) : List RP := (List.range m).map (cel l m i)
def mtx (l : List RP) (n m : Nat) : List (List RP) := (List.range n).map (rwR l m)
theorem cel_sm {l : List RP} (h : ∀ p ∈ l, InP p) (m i k : Nat) : Sm 3 1 (cel l m i k) := by
  unfold cel
  split
  · rename_i h1; exact Sm.keep (h _ (nth_mem h1)) 3 1
  · exact Sm.nil _ _
theorem mtx_len (l : List RP) (n m : Nat) : (mtx l n m).length = n := by simp [mtx]
theorem mtx_row {l : List RP} {n m : Nat} {r : List RP} (h : r ∈ mtx l n m) : r.length = m ∧ ((∀ p ∈ l, InP p) → ∀ p ∈ r, Sm 3 1 p) := by
  simp only [mtx, List.mem_map] at h
  obtain ⟨i, _, rfl⟩ := h
  refine ⟨by simp [rwR], fun hl p hp => ?_⟩
  simp only [rwR, List.mem_map] at hp
  obtain ⟨k, _, rfl⟩ := hp
  exact cel_sm hl m i k

theorem rows_ret (l : List RP) (n m : Nat) (hl : ∀ p ∈ l, InP p) (hll : l.length < 9223372036854775808) (hn : n ≤ 6) (hm : m ≤ 6) : Ret env.P 16 [sls pe l, .int .i64 n, .int .i64 m] (.tup [sls me (mtx l n m), sls qm (mv (mtx l n m))]) := by
  refine ret_of_Wf (E := env) (fun _ => 0) [(0, sls pe l), (1, .int .i64 n), (2, .int .i64 m)] Try.func16 rfl (by kernel_rfl) (by kernel_rfl) (show 3 ≤ 61 by decide) (by simp) ?_
  refine W.sreg (fun K hK => ?_); simp (disch := omega) [gA, wrap_i64, wrap_u64, wrap_u32, Int.tdiv_eq_ediv_of_nonneg, Int.tmod_eq_emod_of_nonneg]; refine hK _ (W.liveK [0, 1, 2] fun K2 hK2 => ?_); clear hK K; simp; refine hK2 _ ?_; clear hK2 K2
  refine W.sreg (fun K hK => ?_); simp (disch := omega) [gA, wrap_i64, wrap_u64, wrap_u32, Int.tdiv_eq_ediv_of_nonneg, Int.tmod_eq_emod_of_nonneg]; refine hK _ (W.liveK [0, 1, 2, 8] fun K2 hK2 => ?_); clear hK K; simp; refine hK2 _ ?_; clear hK2 K2
  refine W.sreg (fun K hK => ?_); simp (disch := omega) [gA, wrap_i64, wrap_u64, wrap_u32, Int.tdiv_eq_ediv_of_nonneg, Int.tmod_eq_emod_of_nonneg]; refine hK _ (W.liveK [0, 1, 2, 8, 9] fun K2 hK2 => ?_); clear hK K; simp; refine hK2 _ ?_; clear hK2 K2
  refine W.nil 8 8 22 1 (by simp) (by decide) (fun K hK => ?_)
  refine hK _ (W.liveK [0, 1, 2, 8, 9] fun K2 hK2 => ?_); clear hK K; simp; refine hK2 _ ?_; clear hK2 K2
  refine W.nil 9 9 42 1 (by simp) (by decide) (fun K hK => ?_)
  refine hK _ (W.liveK [0, 1, 2, 8, 9] fun K2 hK2 => ?_); clear hK K; simp; refine hK2 _ ?_; clear hK2 K2
  refine W.seq ?_
  refine W.sreg (fun K hK => ?_); simp (disch := omega) [gA, wrap_i64, wrap_u64, wrap_u32, Int.tdiv_eq_ediv_of_nonneg, Int.tmod_eq_emod_of_nonneg]; refine hK _ (W.liveK [0, 1, 2, 8, 9, 10] fun K2 hK2 => ?_); clear hK K; simp; refine hK2 _ ?_; clear hK2 K2
  refine W.block ?_   -- block 0
  refine W.loopG (fun d σ => ∃ (i v8 v9 : Nat) (rows : Pm.Rows) (clk : Nat), σ = ⟨fa [(0, sls pe l), (1, .int .i64 n), (2, .int .i64 m), (8, .own 8 v8 0 i), (9, .own 9 v9 0 i), (10, .int .i64 i)], rows, clk⟩ ∧
    rows 8 = some ⟨v8, 22, 1, emap me (mtx l i m)⟩ ∧ rows 9 = some ⟨v9, 42, 1, emap qm (mv (mtx l i m))⟩ ∧ d = n - i ∧ i ≤ n) n ?_ ?_
  · exact ⟨_, .refl, 0, _, _, _, _, rfl, by simp [emap, mtx], by simp [emap, mv, mtx], by omega, by omega⟩
  rintro d _ ⟨i, v8, v9, rows, clk, rfl, hr8, hr9, hd, hi⟩
  refine W.seq ?_
  refine W.sreg (fun K hK => ?_); simp (disch := omega) [gA, wrap_i64, wrap_u64, wrap_u32, Int.tdiv_eq_ediv_of_nonneg, Int.tmod_eq_emod_of_nonneg]; refine hK _ (W.liveK [0, 1, 2, 8, 9, 10, 17] fun K2 hK2 => ?_); clear hK K; simp; refine hK2 _ ?_; clear hK2 K2
  refine W.cond ⟨_, rfl, fun h => ?_, fun h => ?_⟩   -- t17
  · simp at h
    have e8 : mtx l (i + 1) m = mtx l i m ++ [rwR l m i] := by simp [mtx, List.range_succ]
    have e9 : mv (mtx l (i + 1) m) = mv (mtx l i m) ++ [(rwR l m i).map cfs] := by simp [e8, mv]
    have hl8 : (mtx l i m).length = i := mtx_len l i m
    have hl9 : (mv (mtx l i m)).length = i := by simp [mv, hl8]
    generalize hA : mtx l i m = A at *
    generalize hB : mv A = B at *
    refine W.skip ?_
    refine W.seq ?_
    refine W.block ?_   -- block 1
    refine W.sreg (fun K hK => ?_); simp (disch := omega) [gA, wrap_i64, wrap_u64, wrap_u32, Int.tdiv_eq_ediv_of_nonneg, Int.tmod_eq_emod_of_nonneg]; refine hK _ (W.liveK [0, 1, 2, 8, 9, 10, 11] fun K2 hK2 => ?_); clear hK K; simp; refine hK2 _ ?_; clear hK2 K2
    refine W.sreg (fun K hK => ?_); simp (disch := omega) [gA, wrap_i64, wrap_u64, wrap_u32, Int.tdiv_eq_ediv_of_nonneg, Int.tmod_eq_emod_of_nonneg]; refine hK _ (W.liveK [0, 1, 2, 8, 9, 10, 11, 12] fun K2 hK2 => ?_); clear hK K; simp; refine hK2 _ ?_; clear hK2 K2
    refine W.nil 11 11 29 1 (by simp) (by decide) (fun K hK => ?_)
    refine hK _ (W.liveK [0, 1, 2, 8, 9, 10, 11, 12] fun K2 hK2 => ?_); clear hK K; simp; refine hK2 _ ?_; clear hK2 K2
    refine W.nil 12 12 36 1 (by simp) (by decide) (fun K hK => ?_)
    refine hK _ (W.liveK [0, 1, 2, 8, 9, 10, 11, 12] fun K2 hK2 => ?_); clear hK K; simp; refine hK2 _ ?_; clear hK2 K2
    refine W.seq ?_
    refine W.sreg (fun K hK => ?_); simp (disch := omega) [gA, wrap_i64, wrap_u64, wrap_u32, Int.tdiv_eq_ediv_of_nonneg, Int.tmod_eq_emod_of_nonneg]; refine hK _ (W.liveK [0, 1, 2, 8, 9, 10, 11, 12, 13] fun K2 hK2 => ?_); clear hK K; simp; refine hK2 _ ?_; clear hK2 K2
    refine W.block ?_   -- block 2
    refine W.loopG (fun d σ => ∃ (k v11 v12 : Nat) (rows : Pm.Rows) (clk : Nat), σ = ⟨fa [(0, sls pe l), (1, .int .i64 n), (2, .int .i64 m), (8, .own 8 v8 0 i), (9, .own 9 v9 0 i), (10, .int .i64 i), (11, .own 11 v11 0 k), (12, .own 12 v12 0 k), (13, .int .i64 k)], rows, clk⟩ ∧
      rows 8 = some ⟨v8, 22, 1, emap me A⟩ ∧ rows 9 = some ⟨v9, 42, 1, emap qm B⟩ ∧ rows 11 = some ⟨v11, 29, 1, emap pe ((List.range k).map (cel l m i))⟩ ∧ rows 12 = some ⟨v12, 36, 1, emap ql (((List.range k).map (cel l m i)).map cfs)⟩ ∧ d = m - k ∧ k ≤ m) m ?_ ?_
    · exact ⟨_, .refl, 0, _, _, _, _, rfl, by simp [hr8], by simp [hr9], by simp [emap], by simp [emap], by omega, by omega⟩
    clear hr8 hr9 rows clk
    rintro d _ ⟨k, v11, v12, rows, clk, rfl, hr8, hr9, hr11, hr12, hd, hk⟩
    refine W.seq ?_
    refine W.sreg (fun K hK => ?_); simp (disch := omega) [gA, wrap_i64, wrap_u64, wrap_u32, Int.tdiv_eq_ediv_of_nonneg, Int.tmod_eq_emod_of_nonneg]; refine hK _ (W.liveK [0, 1, 2, 8, 9, 10, 11, 12, 13, 22] fun K2 hK2 => ?_); clear hK K; simp; refine hK2 _ ?_; clear hK2 K2
    refine W.cond ⟨_, rfl, fun h2 => ?_, fun h2 => ?_⟩   -- t22
    · simp at h2
      have hmi0 : 0 ≤ (m : Int) * (i : Int) := Int.mul_nonneg (by omega) (by omega)
      have hmi1 : (m : Int) * (i : Int) ≤ 6 * 6 := Int.mul_le_mul (by omega) (by omega) (by omega) (by omega)
      have ein : (m : Int) * (i : Int) + (k : Int) < (l.length : Int) ↔ m * i + k < l.length := by rw [← Int.natCast_mul]; omega
      have eto : ((m : Int) * (i : Int) + (k : Int)).toNat = m * i + k := by rw [← Int.natCast_mul]; omega
      refine W.skip ?_
      refine W.seq ?_
      refine W.block ?_   -- block 3
      refine W.sreg (fun K hK => ?_); simp (disch := omega) [gA, wrap_i64, wrap_u64, wrap_u32, Int.tdiv_eq_ediv_of_nonneg, Int.tmod_eq_emod_of_nonneg]; refine hK _ (W.liveK [0, 1, 2, 8, 9, 10, 11, 12, 13, 14] fun K2 hK2 => ?_); clear hK K; simp; refine hK2 _ ?_; clear hK2 K2
      refine W.nils 14 (Pg []) (by simp) rfl (fun K hK => ?_)
      refine hK _ (W.liveK [0, 1, 2, 8, 9, 10, 11, 12, 13, 14] fun K2 hK2 => ?_); clear hK K; simp; refine hK2 _ ?_; clear hK2 K2
      refine W.seqJ (fun σ => σ = ⟨fa [(0, sls pe l), (1, .int .i64 n), (2, .int .i64 m), (8, .own 8 v8 0 i), (9, .own 9 v9 0 i), (10, .int .i64 i), (11, .own 11 v11 0 k), (12, .own 12 v12 0 k), (13, .int .i64 k), (14, Pg (cel l m i k))], rows, clk⟩) ?_ ?_
      ·
        refine W.sreg (fun K hK => ?_); simp (disch := omega) [gA, wrap_i64, wrap_u64, wrap_u32, Int.tdiv_eq_ediv_of_nonneg, Int.tmod_eq_emod_of_nonneg]; refine hK _ (W.liveK [0, 1, 2, 8, 9, 10, 11, 12, 13, 14, 32] fun K2 hK2 => ?_); clear hK K; simp; refine hK2 _ ?_; clear hK2 K2
        refine W.cond ⟨_, rfl, fun h3 => ?_, fun h3 => ?_⟩   -- t32
        · have h3 : m * i + k < l.length := by rw [← ein]; exact of_decide_eq_true h3
          have hin := hl _ (nth_mem h3)
          have hkp := kPoly_ret (nth l (m * i + k)) 3 1 hin.len (fun c hc => (hin.ok c hc).2) (by decide) (by decide)
          have ec : cel l m i k = keepP 3 1 (nth l (m * i + k)) := by rw [cel, if_pos h3]
          rw [ec]
          generalize keepP 3 1 (nth l (m * i + k)) = q at *
          refine W.reg (fun K hK => ?_)
          simp (disch := omega) [gA, wrap_i64, wrap_u64, wrap_u32, Int.tdiv_eq_ediv_of_nonneg, Int.tmod_eq_emod_of_nonneg, eto]
          refine callR hkp ?_
          simp (disch := omega) [gA, wrap_i64, wrap_u64, wrap_u32, Int.tdiv_eq_ediv_of_nonneg, Int.tmod_eq_emod_of_nonneg]
          exact hK _ ⟨_, Gh_fa _ [0, 1, 2, 8, 9, 10, 11, 12, 13, 14], rfl⟩
        · have h3 : ¬ m * i + k < l.length := by rw [← ein]; exact of_decide_eq_false h3
          have ec : cel l m i k = [] := by rw [cel, if_neg h3]
          rw [ec]
          refine W.skip ?_
          exact ⟨_, Gh_fa _ [0, 1, 2, 8, 9, 10, 11, 12, 13, 14], rfl⟩
      rintro _ rfl
      have hsm := cel_sm hl m i k
      have hF := qFrom_ret _ (hsm.fok (by decide) (by decide))
      rw [show cutR ((cel l m i k).map gv) = cfs (cel l m i k) from rfl] at hF
      have e11 : (List.range (k + 1)).map (cel l m i) = (List.range k).map (cel l m i) ++ [cel l m i k] := by simp [List.range_succ]
      have hl11 : ((List.range k).map (cel l m i)).length = k := by simp
      have hl12 : (((List.range k).map (cel l m i)).map cfs).length = k := by simp
      generalize hC : (List.range k).map (cel l m i) = C at *
      generalize cel l m i k = q at *
      generalize hcq : cfs q = cq at *
      generalize hD : C.map cfs = D at *
      refine W.reg (fun K hK => ?_)
      simp (disch := omega) [gA, wrap_i64, wrap_u64, wrap_u32, Int.tdiv_eq_ediv_of_nonneg, Int.tmod_eq_emod_of_nonneg, hr11, hl11]
      refine callR hF ?_
      simp (disch := omega) [gA, wrap_i64, wrap_u64, wrap_u32, Int.tdiv_eq_ediv_of_nonneg, Int.tmod_eq_emod_of_nonneg, hr12, hl12]
      refine hK _ (W.liveK [0, 1, 2, 8, 9, 10, 11, 12, 13] fun K2 hK2 => ?_); clear hK K; simp; refine hK2 _ ?_; clear hK2 K2
      refine W.reg (fun K hK => ?_); simp (disch := omega) [gA, wrap_i64, wrap_u64, wrap_u32, Int.tdiv_eq_ediv_of_nonneg, Int.tmod_eq_emod_of_nonneg]
      refine hK _ ⟨m - (k + 1), _, Gh_fa _ [0, 1, 2, 8, 9, 10, 11, 12, 13], by omega, k + 1, _, _, _, _, rfl, by simp [hr8], by simp [hr9], by rw [e11]; simp, by rw [e11, List.map_append, hD, List.map_singleton, hcq]; simp, by omega, by omega⟩
    · simp at h2
      have hk' : k = m := by omega
      subst hk'
      have h11 : (List.range k).map (cel l k i) = rwR l k i := rfl
      rw [h11] at hr11 hr12
      have hl11 : (rwR l k i).length = k := by simp [rwR]
      have hl12 : ((rwR l k i).map cfs).length = k := by simp [rwR]
      have z11 := take_all hl11
      have z12 := take_all hl12
      generalize hD : (rwR l k i).map cfs = D at *
      generalize rwR l k i = C at *
      refine W.exit ?_; simp only [pblk_exit, pblk_normal, pblk_ret, pseq_exit, pseq_normal, pseq_ret, pnor_exit, pnor_normal, pnor_ret, if_true, if_false, reduceIte, Nat.reduceEqDiff]
      refine W.freeze 11 (by simp [hr11]) (fun K hK => ?_)
      simp [hr11, z11]
      refine hK _ ?_; clear hK K
      refine W.freeze 12 (by simp [hr12]) (fun K hK => ?_)
      simp [hr12, z12]
      refine hK _ ?_; clear hK K
      refine W.reg (fun K hK => ?_); simp (disch := omega) [gA, wrap_i64, wrap_u64, wrap_u32, Int.tdiv_eq_ediv_of_nonneg, Int.tmod_eq_emod_of_nonneg, hr8, hl8, hr9, hl9]
      refine hK _ (W.liveK [0, 1, 2, 8, 9, 10] fun K2 hK2 => ?_); clear hK K; simp; refine hK2 _ ?_; clear hK2 K2
      refine W.reg (fun K hK => ?_); simp (disch := omega) [gA, wrap_i64, wrap_u64, wrap_u32, Int.tdiv_eq_ediv_of_nonneg, Int.tmod_eq_emod_of_nonneg]
      refine hK _ ⟨n - (i + 1), _, Gh_fa _ [0, 1, 2, 8, 9, 10], by omega, i + 1, _, _, _, _, rfl, by rw [e8]; simp, by rw [e9]; simp, by omega, by omega⟩
  · simp at h
    have hi' : i = n := by omega
    subst hi'
    have z8 := take_all (mtx_len l i m)
    have z9 : (mv (mtx l i m)).take i = mv (mtx l i m) := take_all (by simp [mv, mtx_len])
    generalize hB : mv (mtx l i m) = B at *
    generalize mtx l i m = A at *
    refine W.exit ?_; simp only [pblk_exit, pblk_normal, pblk_ret, pseq_exit, pseq_normal, pseq_ret, pnor_exit, pnor_normal, pnor_ret, if_true, if_false, reduceIte, Nat.reduceEqDiff]
    refine W.freeze 8 (by simp [hr8]) (fun K hK => ?_)
    simp [hr8, z8]
    refine hK _ ?_; clear hK K
    refine W.freeze 9 (by simp [hr9]) (fun K hK => ?_)
    simp [hr9, z9]
    refine hK _ ?_; clear hK K
    refine W.sreg (fun K hK => ?_); simp (disch := omega) [gA, wrap_i64, wrap_u64, wrap_u32, Int.tdiv_eq_ediv_of_nonneg, Int.tmod_eq_emod_of_nonneg]; refine hK _ (W.liveK [6, 7] fun K2 hK2 => ?_); clear hK K; simp; refine hK2 _ ?_; clear hK2 K2
    refine W.ret ?_
    simp [go]
end Go.Proofs.Ytjnkpfknmncdmaa
