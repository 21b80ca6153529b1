import Derived.Test.YtjnkpfknmncdmaaLaf
set_option linter.unusedSimpArgs false
set_option linter.unusedVariables false
namespace Go.Proofs.Ytjnkpfknmncdmaa
open Go Pm

/-- Two rows changed about. -/
def swp (i k : Nat) (M : List (List RP)) : List (List RP) := (M.set i (nth M k)).set k (nth M i)
/-- A row, and a multiple of another one. -/
def adR (n i k : Nat) (c : RP) (M : List (List RP)) : List RP := (List.range n).map fun j => (padd ((nth (nth M i) j).map gv) (pmul (c.map gv) ((nth (nth M k) j).map gv))).map rw'
theorem row_ok {s N n : Nat} {M : List (List RP)} (h : MOK s N M) (hl : M.length = n) {i : Nat} (hi : i < n) : (nth M i).length = M.length ∧ ∀ p ∈ nth M i, POK p ∧ Bd LL s N (p.map gv) := ⟨h.sq _ (nth_mem (by omega)), h.ok _ (nth_mem (by omega))⟩
theorem swp_MOK {s N n i k : Nat} {M : List (List RP)} (h : MOK s N M) (hl : M.length = n) (hi : i < n) (hk : k < n) : MOK s N (swp i k M) := by
  have h1 := h.set (i := i) (row_ok h hl hk).1 (row_ok h hl hk).2
  exact h1.set (by rw [List.length_set]; exact (row_ok h hl hi).1) (row_ok h hl hi).2
theorem ev_nth (t : Int) (M : List (List RP)) (i : Nat) : nth (ev t (mv M)) i = (nth M i).map fun p => V t (cfs p) := by
  have h1 : nth (ev t (mv M)) i = (nth (mv M) i).map (V t) := nth_map (f := fun r : List (List Int) => r.map (V t)) rfl _ _
  have h2 : nth (mv M) i = (nth M i).map cfs := nth_map (f := fun r : List RP => r.map cfs) rfl _ _
  rw [h1, h2, List.map_map]; rfl
theorem swp_dcol {n i k : Nat} {M : List (List RP)} (h : MOK 1 3 M) (hl : M.length = n) (h4 : n ≤ 4) (hi : i < n) (hk : k < n) (hik : i ≠ k) : dcol n (mv (swp i k M)) = pneg (dcol n (mv M)) := by
  refine Cn.ext (Cn_dcol n _) (Cn.pneg _) fun t => ?_
  rw [V_pneg, V_dcol t n _ (by simp [mv_len, swp, hl]), V_dcol t n _ (by rw [mv_len, hl]), ← dC_swap (h.sqI hl t) h4 hi hk hik, swp, ev_set, ev_set, ev_nth, ev_nth]
theorem same_dcol {n i k : Nat} {M : List (List RP)} (h : MOK 1 3 M) (hl : M.length = n) (h4 : n ≤ 4) (hi : i < n) (hk : k < n) (hik : i ≠ k) : dcol n (mv (M.set i (nth M k))) = [] := by
  refine Cn.ext (Cn_dcol n _) Cn.nil fun t => ?_
  have := dC_same (h.sqI hl t) h4 hi hk hik
  rw [V_dcol t n _ (by simp [mv_len, hl]), ev_set, ← ev_nth, this]
  rfl
theorem adE_bd {n i k j : Nat} {c : RP} {M : List (List RP)} (hc : Sm 2 1 c) (h : MOK 1 3 M) (hl : M.length = n) (hi : i < n) (hk : k < n) (hj : j < n) : Bd LL 5 5 (padd ((nth (nth M i) j).map gv) (pmul (c.map gv) ((nth (nth M k) j).map gv))) :=
  Bd.padd hLL ((h.nth (by omega) (by omega)).2.mono (by decide) (by decide)) (pmulE_bd hc h hl hk hj)
theorem adR_ok {n i k : Nat} {c : RP} {M : List (List RP)} (hc : Sm 2 1 c) (h : MOK 1 3 M) (hl : M.length = n) (hi : i < n) (hk : k < n) : ∀ p ∈ adR n i k c M, POK p ∧ Bd LL 5 5 (p.map gv) := fun p hp => by
  simp only [adR, List.mem_map, List.mem_range] at hp
  obtain ⟨j, hj, rfl⟩ := hp
  have hb := adE_bd hc h hl hi hk hj
  exact ⟨(PB.of hb (by decide) (by decide)).pok, by rw [map_gv_rw]; exact hb⟩
theorem adR_MOK {n i k : Nat} {c : RP} {M : List (List RP)} (hc : Sm 2 1 c) (h : MOK 1 3 M) (hl : M.length = n) (hi : i < n) (hk : k < n) : MOK 5 5 (M.set i (adR n i k c M)) := (h.mono (by decide) (by decide)).set (by simp [adR, hl]) (adR_ok hc h hl hi hk)
theorem adR_dcol {n i k : Nat} {c : RP} {M : List (List RP)} (h : MOK 1 3 M) (hl : M.length = n) (h4 : n ≤ 4) (hi : i < n) (hk : k < n) (hik : i ≠ k) : dcol n (mv (M.set i (adR n i k c M))) = dcol n (mv M) := by
  refine dcol_eq (by simp [mv_len, hl]) (by rw [mv_len, hl]) fun t => ?_
  have := dC_addrow (h.sqI hl t) h4 hi hk hik (V t (c.map gv))
  rw [← this, ev_set]
  congr 2
  simp only [adR, List.map_map]
  refine List.map_congr_left fun j _ => ?_
  simp only [Function.comp_apply]
  rw [V_cfs, map_gv_rw, V_padd, V_pmul, nth_ev, nth_mv, V_cfs, nth_ev, nth_mv, V_cfs]

theorem DetLaws_ret (l : List RP) (n0 i0 k0 : Int) (c0 : RP) (hl : ∀ p ∈ l, InP p) (hll : l.length < 9223372036854775808) (hn0 : -9223372036854775808 ≤ n0 ∧ n0 < 9223372036854775808) (hi0 : -9223372036854775808 ≤ i0 ∧ i0 < 9223372036854775808)
    (hk0 : -9223372036854775808 ≤ k0 ∧ k0 < 9223372036854775808) (hc0 : InP c0) :
    Ret env.P 6 [sls pe l, .int .i64 n0, .int .i64 i0, .int .i64 k0, Pg c0] (.bool true) := by
  have w1 := Within_ret n0 3 hn0 (by decide) (by decide)
  obtain ⟨n1, hn⟩ : ∃ n : Nat, (n : Int) = n0 % 3 := ⟨(n0 % 3).toNat, by omega⟩
  have hn6 : n1 ≤ 2 := by omega
  rw [← hn] at w1
  clear hn
  obtain ⟨n, hnn⟩ : ∃ n : Nat, n1 + 2 = n := ⟨_, rfl⟩
  have e1 : (2 : Int) + n1 = (n : Int) := by omega
  have within : ∀ v : Int, -9223372036854775808 ≤ v ∧ v < 9223372036854775808 → ∃ i : Nat, i < n ∧ Ret env.P 15 [.int .i64 v, .int .i64 n] (.int .i64 i) := fun v hv => by
    have w2 := Within_ret v (n : Int) hv (by omega) (by omega)
    have hip := Int.emod_nonneg v (show (n : Int) ≠ 0 by omega)
    have hil := Int.emod_lt_of_pos v (show 0 < (n : Int) by omega)
    refine ⟨(v % (n : Int)).toNat, by omega, ?_⟩
    rw [show (((v % (n : Int)).toNat : Nat) : Int) = v % (n : Int) by omega]
    exact w2
  obtain ⟨i, hi, w2⟩ := within i0 hi0
  obtain ⟨k, hk, w3⟩ := within k0 hk0
  have hkp := kPoly_ret c0 2 1 hc0.len (fun c hc => (hc0.ok c hc).2) (by decide) (by decide)
  have hc := Sm.keep hc0 2 1
  generalize keepP 2 1 c0 = c at *
  refine ret_of_Wf (E := env) (fun id => if id = 21 then 2 else 0) [(0, sls pe l), (1, .int .i64 n0), (2, .int .i64 i0), (3, .int .i64 k0), (4, Pg c0)] Try.func6 rfl (by kernel_rfl) (by kernel_rfl) (show 5 ≤ 145 by decide) (by simp) ?_
  refine W.sreg (fun K hK => ?_); simp (disch := omega) [gA, wrap_i64, wrap_u64, wrap_u32, Int.tdiv_eq_ediv_of_nonneg, Int.tmod_eq_emod_of_nonneg]; refine hK _ (W.liveK [0, 1, 2, 3, 4] fun K2 hK2 => ?_); clear hK K; simp; refine hK2 _ ?_; clear hK2 K2
  refine W.sreg (fun K hK => ?_)
  simp (disch := omega) [gA, wrap_i64, wrap_u64, wrap_u32, Int.tdiv_eq_ediv_of_nonneg, Int.tmod_eq_emod_of_nonneg]
  refine callR w1 ?_
  simp (disch := omega) [gA, wrap_i64, wrap_u64, wrap_u32, Int.tdiv_eq_ediv_of_nonneg, Int.tmod_eq_emod_of_nonneg, e1]
  refine hK _ (W.liveK [0, 1, 2, 3, 4] fun K2 hK2 => ?_); clear hK K; simp; refine hK2 _ ?_; clear hK2 K2
  refine W.sreg (fun K hK => ?_)
  simp (disch := omega) [gA, wrap_i64, wrap_u64, wrap_u32, Int.tdiv_eq_ediv_of_nonneg, Int.tmod_eq_emod_of_nonneg]
  refine callR w2 ?_
  simp (disch := omega) [gA, wrap_i64, wrap_u64, wrap_u32, Int.tdiv_eq_ediv_of_nonneg, Int.tmod_eq_emod_of_nonneg]
  refine callR w3 ?_
  simp (disch := omega) [gA, wrap_i64, wrap_u64, wrap_u32, Int.tdiv_eq_ediv_of_nonneg, Int.tmod_eq_emod_of_nonneg]
  refine hK _ (W.liveK [0, 1, 2, 3, 4] fun K2 hK2 => ?_); clear hK K; simp; refine hK2 _ ?_; clear hK2 K2
  refine W.sreg (fun K hK => ?_)
  simp (disch := omega) [gA, wrap_i64, wrap_u64, wrap_u32, Int.tdiv_eq_ediv_of_nonneg, Int.tmod_eq_emod_of_nonneg]
  refine callR hkp ?_
  simp (disch := omega) [gA, wrap_i64, wrap_u64, wrap_u32, Int.tdiv_eq_ediv_of_nonneg, Int.tmod_eq_emod_of_nonneg]
  refine hK _ (W.liveK [0, 1, 2, 3, 4] fun K2 hK2 => ?_); clear hK K; simp; refine hK2 _ ?_; clear hK2 K2
  have hrows := rows_ret l n n hl hll (by omega) (by omega)
  refine W.sreg (fun K hK => ?_)
  simp (disch := omega) [gA, wrap_i64, wrap_u64, wrap_u32, Int.tdiv_eq_ediv_of_nonneg, Int.tmod_eq_emod_of_nonneg]
  refine callR hrows ?_
  simp (disch := omega) [gA, wrap_i64, wrap_u64, wrap_u32, Int.tdiv_eq_ediv_of_nonneg, Int.tmod_eq_emod_of_nonneg]
  refine hK _ (W.liveK [2, 3, 4, 11] fun K2 hK2 => ?_); clear hK K; simp; refine hK2 _ ?_; clear hK2 K2
  have hM := mtx_MOK hl n
  have hMl := mtx_len l n n
  generalize mtx l n n = M at *
  have h4 : n ≤ 4 := by omega
  have hri := (row_ok hM hMl hi).1
  have hrk := (row_ok hM hMl hk).1
  rw [hMl] at hri hrk
  have hnb := Nat.mul_le_mul_right (1 + 3 + 4) h4
  have hnc := Nat.mul_le_mul_right 3 h4
  have hdet := hM.det hMl h4 (by decide) (by decide)
  have hDb := dcol_bd n (mv M) hM.eb (by rw [mv_len]; omega)
  refine W.sreg (fun K hK => ?_)
  simp (disch := omega) [gA, wrap_i64, wrap_u64, wrap_u32, Int.tdiv_eq_ediv_of_nonneg, Int.tmod_eq_emod_of_nonneg]
  refine callR hdet ?_
  simp (disch := omega) [gA, wrap_i64, wrap_u64, wrap_u32, Int.tdiv_eq_ediv_of_nonneg, Int.tmod_eq_emod_of_nonneg]
  refine hK _ (W.liveK [2, 3, 4, 11, 13, 14] fun K2 hK2 => ?_); clear hK K; simp; refine hK2 _ ?_; clear hK2 K2
  refine W.seq ?_
  refine W.sreg (fun K hK => ?_); simp (disch := omega) [gA, wrap_i64, wrap_u64, wrap_u32, Int.tdiv_eq_ediv_of_nonneg, Int.tmod_eq_emod_of_nonneg]; refine hK _ (W.liveK [2, 3, 4, 11, 13, 48] fun K2 hK2 => ?_); clear hK K; simp; refine hK2 _ ?_; clear hK2 K2
  refine W.cond ⟨_, rfl, fun h => ?_, fun h => ?_⟩   -- t48
  · cases h
  refine W.skip ?_
  refine W.seq ?_
  refine W.sreg (fun K hK => ?_); simp (disch := omega) [gA, wrap_i64, wrap_u64, wrap_u32, Int.tdiv_eq_ediv_of_nonneg, Int.tmod_eq_emod_of_nonneg]; refine hK _ (W.liveK [2, 3, 4, 11, 13, 51] fun K2 hK2 => ?_); clear hK K; simp; refine hK2 _ ?_; clear hK2 K2
  refine W.cond ⟨_, rfl, fun h => ?_, fun h => ?_⟩   -- t51
  · refine W.sreg (fun K hK => ?_)
    simp (disch := omega) [gA, wrap_i64, wrap_u64, wrap_u32, Int.tdiv_eq_ediv_of_nonneg, Int.tmod_eq_emod_of_nonneg]
    refine callR wakes_ret ?_
    simp (disch := omega) [gA, wrap_i64, wrap_u64, wrap_u32, Int.tdiv_eq_ediv_of_nonneg, Int.tmod_eq_emod_of_nonneg]
    refine hK _ (W.liveK [10] fun K2 hK2 => ?_); clear hK K; simp; refine hK2 _ ?_; clear hK2 K2
    refine W.ret ?_
    simp [go]
  have hik : i ≠ k := by simp at h; omega
  clear h
  refine W.skip ?_
  have hcopy := Copy_own M (by omega)
  have hsw := swp_MOK hM hMl hi hk
  have hswl : (swp i k M).length = n := by simp [swp, hMl]
  have hdet1 := hsw.det hswl h4 (by decide) (by decide)
  rw [swp_dcol hM hMl h4 hi hk hik] at hdet1
  have hsm := hM.set (i := i) (row_ok hM hMl hk).1 (row_ok hM hMl hk).2
  have hdet2 := hsm.det (n := n) (by rw [List.length_set, hMl]) h4 (by decide) (by decide)
  rw [same_dcol hM hMl h4 hi hk hik] at hdet2
  have had := adR_MOK hc hM hMl hi hk
  have hdet3 := had.det (n := n) (by rw [List.length_set, hMl]) h4 (by decide) (by decide)
  rw [adR_dcol hM hMl h4 hi hk hik] at hdet3
  have hneg := pNegI_ret (PB.of hDb (by omega) (by omega))
  have hs1 := pSameI_ret (x := pneg (dcol n (mv M))) (y := pneg (dcol n (mv M))) (PB.of hDb.pneg (by omega) (by omega)) (PB.of hDb.pneg (by omega) (by omega))
  have hs2 := pSameI_ret (x := dcol n (mv M)) (y := dcol n (mv M)) (PB.of hDb (by omega) (by omega)) (PB.of hDb (by omega) (by omega))
  rw [decide_eq_true rfl] at hs1 hs2
  generalize pneg (dcol n (mv M)) = nd at *
  generalize dcol n (mv M) = dd at *
  refine W.sreg (fun K hK => ?_)
  simp (disch := omega) [gA, wrap_i64, wrap_u64, wrap_u32, Int.tdiv_eq_ediv_of_nonneg, Int.tmod_eq_emod_of_nonneg]
  refine callO hcopy 54 (by simp) (by simp) (by simp) ?_
  simp (disch := omega) [gA, wrap_i64, wrap_u64, wrap_u32, Int.tdiv_eq_ediv_of_nonneg, Int.tmod_eq_emod_of_nonneg]
  refine hK _ (W.liveK [2, 3, 4, 11, 13, 15] fun K2 hK2 => ?_); clear hK K; simp; refine hK2 _ ?_; clear hK2 K2
  refine W.sdrw (fun K hK => ?_)
  simp (disch := omega) [gA, wrap_i64, wrap_u64, wrap_u32, Int.tdiv_eq_ediv_of_nonneg, Int.tmod_eq_emod_of_nonneg, hMl]
  refine stepTxt (by refine ⟨?_, ?_, ?_, ?_, ?_⟩ <;> kernel_rfl) ?_
  simp (disch := omega) [gA, wrap_i64, wrap_u64, wrap_u32, Int.tdiv_eq_ediv_of_nonneg, Int.tmod_eq_emod_of_nonneg, hMl]
  rw [if_pos (by kernel_rfl)]
  simp (disch := omega) [gA, wrap_i64, wrap_u64, wrap_u32, Int.tdiv_eq_ediv_of_nonneg, Int.tmod_eq_emod_of_nonneg, hMl]
  rw [if_pos (by kernel_rfl)]
  simp (disch := omega) [gA, wrap_i64, wrap_u64, wrap_u32, Int.tdiv_eq_ediv_of_nonneg, Int.tmod_eq_emod_of_nonneg, hMl]
  refine stepTxt (by refine ⟨?_, ?_, ?_, ?_, ?_, ?_, ?_⟩ <;> kernel_rfl) ?_
  simp (disch := omega) [gA, wrap_i64, wrap_u64, wrap_u32, Int.tdiv_eq_ediv_of_nonneg, Int.tmod_eq_emod_of_nonneg, hMl]
  refine hK _ (W.liveK [2, 3, 4, 11, 13, 15] fun K2 hK2 => ?_); clear hK K; simp; refine hK2 _ ?_; clear hK2 K2
  have zsw := take_all hswl
  rw [swp] at zsw hdet1
  refine W.sreg (fun K hK => ?_)
  simp (disch := omega) [gA, wrap_i64, wrap_u64, wrap_u32, Int.tdiv_eq_ediv_of_nonneg, Int.tmod_eq_emod_of_nonneg, zsw]
  refine callR hdet1 ?_
  simp (disch := omega) [gA, wrap_i64, wrap_u64, wrap_u32, Int.tdiv_eq_ediv_of_nonneg, Int.tmod_eq_emod_of_nonneg]
  refine hK _ (W.liveK [2, 3, 4, 11, 13, 16] fun K2 hK2 => ?_); clear hK K; simp; refine hK2 _ ?_; clear hK2 K2
  refine W.sreg (fun K hK => ?_)
  simp (disch := omega) [gA, wrap_i64, wrap_u64, wrap_u32, Int.tdiv_eq_ediv_of_nonneg, Int.tmod_eq_emod_of_nonneg]
  refine callO hcopy 75 (by simp) (by simp) (by simp) ?_
  simp (disch := omega) [gA, wrap_i64, wrap_u64, wrap_u32, Int.tdiv_eq_ediv_of_nonneg, Int.tmod_eq_emod_of_nonneg]
  refine hK _ (W.liveK [2, 3, 4, 11, 13, 15, 16] fun K2 hK2 => ?_); clear hK K; simp; refine hK2 _ ?_; clear hK2 K2
  refine W.sreg (fun K hK => ?_)
  simp (disch := omega) [gA, wrap_i64, wrap_u64, wrap_u32, Int.tdiv_eq_ediv_of_nonneg, Int.tmod_eq_emod_of_nonneg, hMl]
  refine hK _ (W.liveK [2, 3, 4, 11, 13, 15, 16] fun K2 hK2 => ?_); clear hK K; simp; refine hK2 _ ?_; clear hK2 K2
  have zsm := take_all (l := M.set i (nth M k)) (n := n) (by rw [List.length_set, hMl])
  refine W.sreg (fun K hK => ?_)
  simp (disch := omega) [gA, wrap_i64, wrap_u64, wrap_u32, Int.tdiv_eq_ediv_of_nonneg, Int.tmod_eq_emod_of_nonneg, zsm]
  refine callR hdet2 ?_
  simp (disch := omega) [gA, wrap_i64, wrap_u64, wrap_u32, Int.tdiv_eq_ediv_of_nonneg, Int.tmod_eq_emod_of_nonneg]
  refine hK _ (W.liveK [2, 3, 4, 11, 13, 16, 18] fun K2 hK2 => ?_); clear hK K; simp; refine hK2 _ ?_; clear hK2 K2
  refine W.sreg (fun K hK => ?_)
  simp (disch := omega) [gA, wrap_i64, wrap_u64, wrap_u32, Int.tdiv_eq_ediv_of_nonneg, Int.tmod_eq_emod_of_nonneg]
  refine callO hcopy 89 (by simp) (by simp) (by simp) ?_
  simp (disch := omega) [gA, wrap_i64, wrap_u64, wrap_u32, Int.tdiv_eq_ediv_of_nonneg, Int.tmod_eq_emod_of_nonneg]
  refine hK _ (W.liveK [2, 3, 4, 11, 13, 15, 16, 18] fun K2 hK2 => ?_); clear hK K; simp; refine hK2 _ ?_; clear hK2 K2
  refine W.sreg (fun K hK => ?_); simp (disch := omega) [gA, wrap_i64, wrap_u64, wrap_u32, Int.tdiv_eq_ediv_of_nonneg, Int.tmod_eq_emod_of_nonneg]; refine hK _ (W.liveK [2, 3, 4, 11, 13, 15, 16, 18, 20] fun K2 hK2 => ?_); clear hK K; simp; refine hK2 _ ?_; clear hK2 K2
  refine W.nil 20 20 29 1 (by simp) (by decide) (fun K hK => ?_)
  refine hK _ (W.liveK [2, 3, 4, 11, 13, 15, 16, 18, 20] fun K2 hK2 => ?_); clear hK K; simp; refine hK2 _ ?_; clear hK2 K2
  refine W.seq ?_
  refine W.sreg (fun K hK => ?_); simp (disch := omega) [gA, wrap_i64, wrap_u64, wrap_u32, Int.tdiv_eq_ediv_of_nonneg, Int.tmod_eq_emod_of_nonneg, hMl, hri]; refine hK _ (W.liveK [2, 3, 4, 11, 13, 15, 16, 18, 20, 94, 95] fun K2 hK2 => ?_); clear hK K; simp; refine hK2 _ ?_; clear hK2 K2
  refine W.block ?_   -- block 0
  refine W.loopG (fun q σ => ∃ (j v89 v20 : Nat) (rows : Pm.Rows) (clk : Nat), σ = ⟨fa [(2, .int .i64 i), (3, .int .i64 k), (4, Pg c), (11, sls me M), (13, Po dd), (15, .own 89 v89 0 n), (16, Po nd), (18, Po []), (20, .own 20 v20 0 j), (94, .int .i64 n), (95, .int .i64 j)], rows, clk⟩ ∧
    rows 89 = some ⟨v89, 22, 1, emap me M⟩ ∧ rows 20 = some ⟨v20, 29, 1, emap pe ((List.range j).map fun j => (padd ((nth (nth M i) j).map gv) (pmul (c.map gv) ((nth (nth M k) j).map gv))).map rw')⟩ ∧ q = n - j ∧ j ≤ n) n ?_ ?_
  · exact ⟨_, Gh.fr [(2, .int .i64 i), (3, .int .i64 k), (4, Pg c), (11, sls me M), (13, Po dd), (15, .own 89 _ 0 n), (16, Po nd), (18, Po []), (20, .own 20 _ 0 (0 : Nat)), (94, .int .i64 n), (95, .int .i64 (0 : Nat))] (by simp [hMl]; exact ⟨rfl, rfl⟩), 0, _, _, _, _, rfl, by simp, by simp [emap], by omega, by omega⟩
  rintro q2 _ ⟨j, v89, v20, rows, clk, rfl, hr89, hr20, hq2, hj⟩
  have hl20 : ((List.range j).map fun j => (padd ((nth (nth M i) j).map gv) (pmul (c.map gv) ((nth (nth M k) j).map gv))).map rw').length = j := by simp
  refine W.sreg (fun K hK => ?_); simp (disch := omega) [gA, wrap_i64, wrap_u64, wrap_u32, Int.tdiv_eq_ediv_of_nonneg, Int.tmod_eq_emod_of_nonneg]; refine hK _ (W.liveK [2, 3, 4, 11, 13, 15, 16, 18, 20, 94, 95, 96] fun K2 hK2 => ?_); clear hK K; simp; refine hK2 _ ?_; clear hK2 K2
  refine W.seq ?_
  refine W.cond ⟨_, rfl, fun h => ?_, fun h => ?_⟩   -- t96
  · have hj : j < n := by simp at h; omega
    have hmb := pmulE_bd hc hM hMl hk hj
    obtain ⟨hkp1, hkp2⟩ := hM.nth (i := k) (k := j) (by omega) (by omega)
    obtain ⟨hip1, hip2⟩ := hM.nth (i := i) (k := j) (by omega) (by omega)
    have hmj := pMul_ret c (nth (nth M k) j) (hc.pok (by decide) (by decide)) hkp1 1 1 2 3 hc.bd hkp2 (by decide)
    have haj := pAdd_ret (nth (nth M i) j) ((pmul (c.map gv) ((nth (nth M k) j).map gv)).map rw') hip1 (PB.of hmb (by decide) (by decide)).pok
    rw [map_gv_rw, Po_eq] at haj
    rw [Po_eq] at hmj
    have e20 : (List.range (j + 1)).map (fun j => (padd ((nth (nth M i) j).map gv) (pmul (c.map gv) ((nth (nth M k) j).map gv))).map rw') = (List.range j).map (fun j => (padd ((nth (nth M i) j).map gv) (pmul (c.map gv) ((nth (nth M k) j).map gv))).map rw') ++ [(padd ((nth (nth M i) j).map gv) (pmul (c.map gv) ((nth (nth M k) j).map gv))).map rw'] := by simp [List.range_succ]
    generalize (padd ((nth (nth M i) j).map gv) (pmul (c.map gv) ((nth (nth M k) j).map gv))).map rw' = pq at *
    generalize (pmul (c.map gv) ((nth (nth M k) j).map gv)).map rw' = pm at *
    generalize (List.range j).map (fun j => (padd ((nth (nth M i) j).map gv) (pmul (c.map gv) ((nth (nth M k) j).map gv))).map rw') = D at *
    refine W.skip ?_
    refine W.seq ?_
    refine W.block ?_   -- block 1
    refine W.sreg (fun K hK => ?_); simp (disch := omega) [gA, wrap_i64, wrap_u64, wrap_u32, Int.tdiv_eq_ediv_of_nonneg, Int.tmod_eq_emod_of_nonneg]; refine hK _ (W.liveK [2, 3, 4, 11, 13, 15, 16, 18, 20, 21, 94, 95] fun K2 hK2 => ?_); clear hK K; simp; refine hK2 _ ?_; clear hK2 K2
    refine W.drw (fun K hK => ?_)
    rw [if_pos rfl, pregion_tail]
    simp (disch := omega) [gA, wrap_i64, wrap_u64, wrap_u32, Int.tdiv_eq_ediv_of_nonneg, Int.tmod_eq_emod_of_nonneg, hMl, hri, hrk]
    refine callR hmj ?_
    simp (disch := omega) [gA, wrap_i64, wrap_u64, wrap_u32, Int.tdiv_eq_ediv_of_nonneg, Int.tmod_eq_emod_of_nonneg]
    refine callR haj ?_
    simp (disch := omega) [gA, wrap_i64, wrap_u64, wrap_u32, Int.tdiv_eq_ediv_of_nonneg, Int.tmod_eq_emod_of_nonneg, hr20, hl20]
    refine hK _ (W.liveK [2, 3, 4, 11, 13, 15, 16, 18, 20, 94, 95] fun K2 hK2 => ?_); clear hK K; simp; refine hK2 _ ?_; clear hK2 K2
    refine W.reg (fun K hK => ?_); simp (disch := omega) [gA, wrap_i64, wrap_u64, wrap_u32, Int.tdiv_eq_ediv_of_nonneg, Int.tmod_eq_emod_of_nonneg]
    refine hK _ ⟨n - (j + 1), _, Gh_fa _ [2, 3, 4, 11, 13, 15, 16, 18, 20, 94, 95], by omega, j + 1, _, _, _, _, rfl, by simp [hr89], by rw [e20]; simp, by omega, by omega⟩
  · have hj : j = n := by simp at h; omega
    subst hj
    have z20 := take_all hl20
    have hD : (List.range j).map (fun j => (padd ((nth (nth M i) j).map gv) (pmul (c.map gv) ((nth (nth M k) j).map gv))).map rw') = adR j i k c M := rfl
    rw [hD] at hr20 z20 hl20
    generalize adR j i k c M = D at *
    have zad := take_all (l := M.set i D) (n := j) (by rw [List.length_set, hMl])
    refine W.exit ?_; simp only [pblk_exit, pblk_normal, pblk_ret, pseq_exit, pseq_normal, pseq_ret, pnor_exit, pnor_normal, pnor_ret, if_true, if_false, reduceIte, Nat.reduceEqDiff]
    refine W.freeze 20 (by simp [hr20]) (fun K hK => ?_)
    simp [hr20, z20]
    refine hK _ ?_; clear hK K
    refine W.sreg (fun K hK => ?_)
    simp (disch := omega) [gA, wrap_i64, wrap_u64, wrap_u32, Int.tdiv_eq_ediv_of_nonneg, Int.tmod_eq_emod_of_nonneg, hr89, hMl]
    refine hK _ (W.liveK [13, 15, 16, 18] fun K2 hK2 => ?_); clear hK K; simp; refine hK2 _ ?_; clear hK2 K2
    refine W.sreg (fun K hK => ?_)
    simp (disch := omega) [gA, wrap_i64, wrap_u64, wrap_u32, Int.tdiv_eq_ediv_of_nonneg, Int.tmod_eq_emod_of_nonneg, hr89, hMl, zad]
    refine callR hdet3 ?_
    simp (disch := omega) [gA, wrap_i64, wrap_u64, wrap_u32, Int.tdiv_eq_ediv_of_nonneg, Int.tmod_eq_emod_of_nonneg]
    refine hK _ (W.liveK [13, 16, 18, 22] fun K2 hK2 => ?_); clear hK K; simp; refine hK2 _ ?_; clear hK2 K2
    refine W.sregJ (fun σ => ∃ (rows : Pm.Rows) (clk : Nat), σ = ⟨fa [(10, .bool true)], rows, clk⟩) (fun K hK => ?_) ?_
    · simp (disch := omega) [gA, wrap_i64, wrap_u64, wrap_u32, Int.tdiv_eq_ediv_of_nonneg, Int.tmod_eq_emod_of_nonneg]
      refine callR hneg ?_
      simp (disch := omega) [gA, wrap_i64, wrap_u64, wrap_u32, Int.tdiv_eq_ediv_of_nonneg, Int.tmod_eq_emod_of_nonneg]
      refine callR hs1 ?_
      simp (disch := omega) [gA, wrap_i64, wrap_u64, wrap_u32, Int.tdiv_eq_ediv_of_nonneg, Int.tmod_eq_emod_of_nonneg]
      refine callR hs2 ?_
      simp (disch := omega) [gA, wrap_i64, wrap_u64, wrap_u32, Int.tdiv_eq_ediv_of_nonneg, Int.tmod_eq_emod_of_nonneg]
      refine callR wakes_ret ?_
      simp (disch := omega) [gA, wrap_i64, wrap_u64, wrap_u32, Int.tdiv_eq_ediv_of_nonneg, Int.tmod_eq_emod_of_nonneg]
      exact hK _ _ (Gh_fa _ [10]) ⟨_, _, rfl⟩
    rintro _ ⟨rows, clk, rfl⟩
    refine W.ret ?_
    simp [go]
end Go.Proofs.Ytjnkpfknmncdmaa
