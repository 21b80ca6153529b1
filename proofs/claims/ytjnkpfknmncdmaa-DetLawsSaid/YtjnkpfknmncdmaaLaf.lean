import Derived.Test.YtjnkpfknmncdmaaLae
import Derived.Test.YtjnkpfknmncdmaaMh
set_option linter.unusedSimpArgs false
set_option linter.unusedVariables false
namespace Go.Proofs.Ytjnkpfknmncdmaa
open Go Pm

@[simp] theorem setEl_me {l : List (List RP)} {i : Nat} {x : List RP} : setEl (emap me l) i 0 [sls pe x] = emap me (l.set i x) := setEl_g (n := 1) (fun _ => rfl)
theorem Copy_own (M : List (List RP)) (hM : M.length < 1099511627776) : RetO env.P 25 [sls me M] 22 1 (emap me M) := by
  refine retO_of_Wf (E := env) (fun _ => 0) (t := 2) [(0, sls me M)] Try.func25 rfl (by kernel_rfl) (by kernel_rfl) (show 1 ≤ 5 by decide) rfl (by simp) ?_
  refine W.sreg (fun K hK => ?_); simp (disch := omega) [gA, wrap_i64, wrap_u64, wrap_u32, Int.tdiv_eq_ediv_of_nonneg, Int.tmod_eq_emod_of_nonneg]; refine hK _ (W.liveK [0] fun K2 hK2 => ?_); clear hK K; simp; refine hK2 _ ?_; clear hK2 K2
  refine W.sreg (fun K hK => ?_)
  simp (disch := omega) [gA, wrap_i64, wrap_u64, wrap_u32, Int.tdiv_eq_ediv_of_nonneg, Int.tmod_eq_emod_of_nonneg]
  refine hK _ (W.liveK [2] fun K2 hK2 => ?_); clear hK K; simp; refine hK2 _ ?_; clear hK2 K2
  refine W.ret ?_
  exact ⟨4, 0, by simp [emap], by simp, fun x hx p hp => by
    simp only [emap, List.mem_map] at hx
    obtain ⟨r, _, rfl⟩ := hx
    simp at hp
    subst hp; rfl⟩

theorem ev_set (t : Int) (M : List (List RP)) (i : Nat) (r : List RP) : ev t (mv (M.set i r)) = (ev t (mv M)).set i (r.map fun p => V t (cfs p)) := by
  simp only [ev, mv, List.map_set, List.map_map, Function.comp_def]
theorem MOK.mono {s N s' N' : Nat} {M : List (List RP)} (h : MOK s N M) (hs : s ≤ s') (hN : N ≤ N') : MOK s' N' M := ⟨h.sq, fun r hr p hp => ⟨(h.ok r hr p hp).1, (h.ok r hr p hp).2.mono hs hN⟩⟩
theorem MOK.set {s N : Nat} {M : List (List RP)} (h : MOK s N M) {i : Nat} {r : List RP} (hr : r.length = M.length) (hp : ∀ p ∈ r, POK p ∧ Bd LL s N (p.map gv)) : MOK s N (M.set i r) := ⟨fun r' h' => by
  rw [List.length_set]
  rcases List.mem_or_eq_of_mem_set h' with h1 | h1
  · exact h.sq r' h1
  · rw [h1, hr], fun r' h' => by
  rcases List.mem_or_eq_of_mem_set h' with h1 | h1
  · exact h.ok r' h1
  · rw [h1]; exact hp⟩
theorem V_cfs (t : Int) (p : RP) : V t (cfs p) = V t (p.map gv) := V_cutR _
theorem cfs_rw2 (x : List Int) : cfs (x.map rw') = cutR x := by simp only [cfs, map_gv_rw]
theorem dcol_eq {n : Nat} {M M' : List (List (List Int))} (h1 : M.length = n) (h2 : M'.length = n) (h : ∀ t, dC n (ev t M) = dC n (ev t M')) : dcol n M = dcol n M' :=
  Cn.ext (Cn_dcol n _) (Cn_dcol n _) fun t => by rw [V_dcol t n _ h1, V_dcol t n _ h2, h t]

/-- The rows as columns. -/
def turn (n : Nat) (M : List (List RP)) : List (List RP) := (List.range n).map fun k => (List.range n).map fun j => nth (nth M j) k
theorem turn_MOK {s N n : Nat} {M : List (List RP)} (h : MOK s N M) (hl : M.length = n) : MOK s N (turn n M) := ⟨fun r hr => by
  simp only [turn, List.mem_map, List.mem_range] at hr
  obtain ⟨k, _, rfl⟩ := hr
  simp [turn], fun r hr p hp => by
  simp only [turn, List.mem_map, List.mem_range] at hr
  obtain ⟨k, hk, rfl⟩ := hr
  simp only [List.mem_map, List.mem_range] at hp
  obtain ⟨j, hj, rfl⟩ := hp
  exact h.nth (by omega) (by omega)⟩
theorem turn_dcol {s N n : Nat} {M : List (List RP)} (h : MOK s N M) (hl : M.length = n) (h4 : n ≤ 4) : dcol n (mv (turn n M)) = dcol n (mv M) := by
  refine dcol_eq (by simp [turn, mv]) (by rw [mv_len, hl]) fun t => ?_
  rw [← dC_turn (h.sqI hl t) h4]
  congr 1
  have h0 : ∀ j k, nth (nth (ev t (mv M)) j) k = V t (cfs (nth (nth M j) k)) := fun j k => by rw [nth_ev, nth_mv]
  simp only [h0]
  simp only [ev, mv, turn, List.map_map, Function.comp_def]
/-- A row times a polynomial. -/
def scR (n i : Nat) (c : RP) (M : List (List RP)) : List RP := (List.range n).map fun j => (pmul (c.map gv) ((nth (nth M i) j).map gv)).map rw'
theorem pmulE_bd {n i j : Nat} {c : RP} {M : List (List RP)} (hc : Sm 2 1 c) (h : MOK 1 3 M) (hl : M.length = n) (hi : i < n) (hj : j < n) : Bd LL 4 5 (pmul (c.map gv) ((nth (nth M i) j).map gv)) :=
  (hc.bd.pmul hLL (h.nth (by omega) (by omega)).2).mono (by omega) (by omega)
theorem scR_ok {n i : Nat} {c : RP} {M : List (List RP)} (hc : Sm 2 1 c) (h : MOK 1 3 M) (hl : M.length = n) (hi : i < n) : ∀ p ∈ scR n i c M, POK p ∧ Bd LL 4 5 (p.map gv) := fun p hp => by
  simp only [scR, List.mem_map, List.mem_range] at hp
  obtain ⟨j, hj, rfl⟩ := hp
  have hb := pmulE_bd hc h hl hi hj
  exact ⟨(PB.of hb (by decide) (by decide)).pok, by rw [map_gv_rw]; exact hb⟩
theorem scR_MOK {n i : Nat} {c : RP} {M : List (List RP)} (hc : Sm 2 1 c) (h : MOK 1 3 M) (hl : M.length = n) (hi : i < n) : MOK 4 5 (M.set i (scR n i c M)) := (h.mono (by decide) (by decide)).set (by simp [scR, hl]) (scR_ok hc h hl hi)
theorem scR_dcol {n i : Nat} {c : RP} {M : List (List RP)} (h : MOK 1 3 M) (hl : M.length = n) (h4 : n ≤ 4) (hi : i < n) : dcol n (mv (M.set i (scR n i c M))) = pmul (c.map gv) (dcol n (mv M)) := by
  refine Cn.ext (Cn_dcol n _) (Cn.pmul _ _) fun t => ?_
  rw [V_pmul, V_dcol t n _ (by rw [mv_len, List.length_set, hl]), V_dcol t n _ (by rw [mv_len, hl]), ← dC_scale (h.sqI hl t) h4 hi, ev_set]
  congr 2
  simp only [scR, List.map_map]
  refine List.map_congr_left fun j _ => ?_
  simp only [Function.comp_apply]
  rw [V_cfs, map_gv_rw, V_pmul, nth_ev, nth_mv, V_cfs]

theorem DetTurned_ret (l : List RP) (n0 i0 : Int) (c0 : RP) (hl : ∀ p ∈ l, InP p) (hll : l.length < 9223372036854775808) (hn0 : -9223372036854775808 ≤ n0 ∧ n0 < 9223372036854775808) (hi0 : -9223372036854775808 ≤ i0 ∧ i0 < 9223372036854775808) (hc0 : InP c0) :
    Ret env.P 5 [sls pe l, .int .i64 n0, .int .i64 i0, Pg c0] (.bool true) := by
  have w1 := Within_ret n0 4 hn0 (by decide) (by decide)
  obtain ⟨n1, hn⟩ : ∃ n : Nat, (n : Int) = n0 % 4 := ⟨(n0 % 4).toNat, by omega⟩
  have hn6 : n1 ≤ 3 := by omega
  rw [← hn] at w1
  clear hn
  obtain ⟨n, hnn⟩ : ∃ n : Nat, n1 + 1 = n := ⟨_, rfl⟩
  have e1 : (1 : Int) + n1 = (n : Int) := by omega
  have w2 := Within_ret i0 (n : Int) hi0 (by omega) (by omega)
  have hip := Int.emod_nonneg i0 (show (n : Int) ≠ 0 by omega)
  have hil := Int.emod_lt_of_pos i0 (show 0 < (n : Int) by omega)
  obtain ⟨i, hi⟩ : ∃ i : Nat, (i : Int) = i0 % (n : Int) := ⟨(i0 % (n : Int)).toNat, by omega⟩
  rw [← hi] at w2 hip hil
  clear hi hip
  have hkp := kPoly_ret c0 2 1 hc0.len (fun c hc => (hc0.ok c hc).2) (by decide) (by decide)
  have hc := Sm.keep hc0 2 1
  generalize keepP 2 1 c0 = c at *
  refine ret_of_Wf (E := env) (fun _ => 0) [(0, sls pe l), (1, .int .i64 n0), (2, .int .i64 i0), (3, Pg c0)] Try.func5 rfl (by kernel_rfl) (by kernel_rfl) (show 4 ≤ 130 by decide) (by simp) ?_
  refine W.sreg (fun K hK => ?_); simp (disch := omega) [gA, wrap_i64, wrap_u64, wrap_u32, Int.tdiv_eq_ediv_of_nonneg, Int.tmod_eq_emod_of_nonneg]; refine hK _ (W.liveK [0, 1, 2, 3] fun K2 hK2 => ?_); clear hK K; simp; refine hK2 _ ?_; clear hK2 K2
  refine W.sreg (fun K hK => ?_)
  simp (disch := omega) [gA, wrap_i64, wrap_u64, wrap_u32, Int.tdiv_eq_ediv_of_nonneg, Int.tmod_eq_emod_of_nonneg]
  refine callR w1 ?_
  simp (disch := omega) [gA, wrap_i64, wrap_u64, wrap_u32, Int.tdiv_eq_ediv_of_nonneg, Int.tmod_eq_emod_of_nonneg, e1]
  refine hK _ (W.liveK [0, 1, 2, 3] fun K2 hK2 => ?_); clear hK K; simp; refine hK2 _ ?_; clear hK2 K2
  refine W.sreg (fun K hK => ?_)
  simp (disch := omega) [gA, wrap_i64, wrap_u64, wrap_u32, Int.tdiv_eq_ediv_of_nonneg, Int.tmod_eq_emod_of_nonneg]
  refine callR w2 ?_
  simp (disch := omega) [gA, wrap_i64, wrap_u64, wrap_u32, Int.tdiv_eq_ediv_of_nonneg, Int.tmod_eq_emod_of_nonneg]
  refine hK _ (W.liveK [0, 1, 2, 3] fun K2 hK2 => ?_); clear hK K; simp; refine hK2 _ ?_; clear hK2 K2
  refine W.sreg (fun K hK => ?_)
  simp (disch := omega) [gA, wrap_i64, wrap_u64, wrap_u32, Int.tdiv_eq_ediv_of_nonneg, Int.tmod_eq_emod_of_nonneg]
  refine callR hkp ?_
  simp (disch := omega) [gA, wrap_i64, wrap_u64, wrap_u32, Int.tdiv_eq_ediv_of_nonneg, Int.tmod_eq_emod_of_nonneg]
  refine hK _ (W.liveK [0, 1, 2, 3] fun K2 hK2 => ?_); clear hK K; simp; refine hK2 _ ?_; clear hK2 K2
  have hrows := rows_ret l n n hl hll (by omega) (by omega)
  refine W.sreg (fun K hK => ?_)
  simp (disch := omega) [gA, wrap_i64, wrap_u64, wrap_u32, Int.tdiv_eq_ediv_of_nonneg, Int.tmod_eq_emod_of_nonneg]
  refine callR hrows ?_
  simp (disch := omega) [gA, wrap_i64, wrap_u64, wrap_u32, Int.tdiv_eq_ediv_of_nonneg, Int.tmod_eq_emod_of_nonneg]
  refine hK _ (W.liveK [1, 2, 3, 9] fun K2 hK2 => ?_); clear hK K; simp; refine hK2 _ ?_; clear hK2 K2
  have hM := mtx_MOK hl n
  have hMl := mtx_len l n n
  generalize mtx l n n = M at *
  have hi : i < n := by omega
  have h4 : n ≤ 4 := by omega
  have hrl : ∀ j, j < n → (nth M j).length = n := fun j hj => by rw [hM.sq _ (nth_mem (by omega)), hMl]
  have hnb := Nat.mul_le_mul_right (1 + 3 + 4) h4
  have hnc := Nat.mul_le_mul_right 3 h4
  refine W.sreg (fun K hK => ?_); simp (disch := omega) [gA, wrap_i64, wrap_u64, wrap_u32, Int.tdiv_eq_ediv_of_nonneg, Int.tmod_eq_emod_of_nonneg]; refine hK _ (W.liveK [1, 2, 3, 9, 11] fun K2 hK2 => ?_); clear hK K; simp; refine hK2 _ ?_; clear hK2 K2
  refine W.nil 11 11 22 1 (by simp) (by decide) (fun K hK => ?_)
  refine hK _ (W.liveK [1, 2, 3, 9, 11] fun K2 hK2 => ?_); clear hK K; simp; refine hK2 _ ?_; clear hK2 K2
  refine W.seq ?_
  refine W.sreg (fun K hK => ?_); simp (disch := omega) [gA, wrap_i64, wrap_u64, wrap_u32, Int.tdiv_eq_ediv_of_nonneg, Int.tmod_eq_emod_of_nonneg]; refine hK _ (W.liveK [1, 2, 3, 9, 11, 12] fun K2 hK2 => ?_); clear hK K; simp; refine hK2 _ ?_; clear hK2 K2
  refine W.block ?_   -- block 0
  refine W.loopG (fun q σ => ∃ (k v11 : Nat) (rows : Pm.Rows) (clk : Nat), σ = ⟨fa [(1, .int .i64 n), (2, .int .i64 i), (3, Pg c), (9, sls me M), (11, .own 11 v11 0 k), (12, .int .i64 k)], rows, clk⟩ ∧
    rows 11 = some ⟨v11, 22, 1, emap me ((List.range k).map fun k => (List.range n).map fun j => nth (nth M j) k)⟩ ∧ q = n - k ∧ k ≤ n) n ?_ ?_
  · exact ⟨_, .refl, 0, _, _, _, rfl, by simp [emap], by omega, by omega⟩
  rintro q _ ⟨k, v11, rows, clk, rfl, hr11, hq, hk⟩
  have hl11 : ((List.range k).map fun k => (List.range n).map fun j => nth (nth M j) k).length = k := by simp
  refine W.seq ?_
  refine W.sreg (fun K hK => ?_); simp (disch := omega) [gA, wrap_i64, wrap_u64, wrap_u32, Int.tdiv_eq_ediv_of_nonneg, Int.tmod_eq_emod_of_nonneg]; refine hK _ (W.liveK [1, 2, 3, 9, 11, 12, 41] fun K2 hK2 => ?_); clear hK K; simp; refine hK2 _ ?_; clear hK2 K2
  refine W.cond ⟨_, rfl, fun h => ?_, fun h => ?_⟩   -- t41
  · have hk : k < n := by simp at h; omega
    refine W.skip ?_
    refine W.seq ?_
    refine W.block ?_   -- block 1
    refine W.sreg (fun K hK => ?_); simp (disch := omega) [gA, wrap_i64, wrap_u64, wrap_u32, Int.tdiv_eq_ediv_of_nonneg, Int.tmod_eq_emod_of_nonneg]; refine hK _ (W.liveK [1, 2, 3, 9, 11, 12, 13] fun K2 hK2 => ?_); clear hK K; simp; refine hK2 _ ?_; clear hK2 K2
    refine W.nil 13 13 29 1 (by simp) (by decide) (fun K hK => ?_)
    refine hK _ (W.liveK [1, 2, 3, 9, 11, 12, 13] fun K2 hK2 => ?_); clear hK K; simp; refine hK2 _ ?_; clear hK2 K2
    refine W.seq ?_
    refine W.sreg (fun K hK => ?_); simp (disch := omega) [gA, wrap_i64, wrap_u64, wrap_u32, Int.tdiv_eq_ediv_of_nonneg, Int.tmod_eq_emod_of_nonneg]; refine hK _ (W.liveK [1, 2, 3, 9, 11, 12, 13, 14] fun K2 hK2 => ?_); clear hK K; simp; refine hK2 _ ?_; clear hK2 K2
    refine W.block ?_   -- block 2
    refine W.loopG (fun q σ => ∃ (j v13 : Nat) (rows : Pm.Rows) (clk : Nat), σ = ⟨fa [(1, .int .i64 n), (2, .int .i64 i), (3, Pg c), (9, sls me M), (11, .own 11 v11 0 k), (12, .int .i64 k), (13, .own 13 v13 0 j), (14, .int .i64 j)], rows, clk⟩ ∧
      rows 11 = some ⟨v11, 22, 1, emap me ((List.range k).map fun k => (List.range n).map fun j => nth (nth M j) k)⟩ ∧ rows 13 = some ⟨v13, 29, 1, emap pe ((List.range j).map fun j => nth (nth M j) k)⟩ ∧ q = n - j ∧ j ≤ n) n ?_ ?_
    · exact ⟨_, .refl, 0, _, _, _, rfl, by simp [hr11], by simp [emap], by omega, by omega⟩
    rintro q2 _ ⟨j, v13, rows, clk, rfl, hr11, hr13, hq2, hj⟩
    have hl13 : ((List.range j).map fun j => nth (nth M j) k).length = j := by simp
    refine W.seq ?_
    refine W.sreg (fun K hK => ?_); simp (disch := omega) [gA, wrap_i64, wrap_u64, wrap_u32, Int.tdiv_eq_ediv_of_nonneg, Int.tmod_eq_emod_of_nonneg]; refine hK _ (W.liveK [1, 2, 3, 9, 11, 12, 13, 14, 46] fun K2 hK2 => ?_); clear hK K; simp; refine hK2 _ ?_; clear hK2 K2
    refine W.cond ⟨_, rfl, fun h => ?_, fun h => ?_⟩   -- t46
    · have hj : j < n := by simp at h; omega
      have hrj := hrl j hj
      have e13 : (List.range (j + 1)).map (fun j => nth (nth M j) k) = (List.range j).map (fun j => nth (nth M j) k) ++ [nth (nth M j) k] := by simp [List.range_succ]
      generalize (List.range j).map (fun j => nth (nth M j) k) = D at *
      refine W.skip ?_
      refine W.seq ?_
      refine W.block ?_   -- block 3
      refine W.reg (fun K hK => ?_)
      simp (disch := omega) [gA, wrap_i64, wrap_u64, wrap_u32, Int.tdiv_eq_ediv_of_nonneg, Int.tmod_eq_emod_of_nonneg, hMl, hrj, hr13, hl13]
      refine hK _ (W.liveK [1, 2, 3, 9, 11, 12, 13, 14] fun K2 hK2 => ?_); clear hK K; simp; refine hK2 _ ?_; clear hK2 K2
      refine W.reg (fun K hK => ?_); simp (disch := omega) [gA, wrap_i64, wrap_u64, wrap_u32, Int.tdiv_eq_ediv_of_nonneg, Int.tmod_eq_emod_of_nonneg]
      refine hK _ ⟨n - (j + 1), _, Gh_fa _ [1, 2, 3, 9, 11, 12, 13, 14], by omega, j + 1, _, _, _, rfl, by simp [hr11], by rw [e13]; simp, by omega, by omega⟩
    · have hj : j = n := by simp at h; omega
      subst hj
      have e11 : (List.range (k + 1)).map (fun k => (List.range j).map fun i => nth (nth M i) k) = (List.range k).map (fun k => (List.range j).map fun i => nth (nth M i) k) ++ [(List.range j).map fun i => nth (nth M i) k] := by simp [List.range_succ]
      generalize (List.range k).map (fun k => (List.range j).map fun i => nth (nth M i) k) = B at *
      have z13 := take_all hl13
      generalize (List.range j).map (fun i => nth (nth M i) k) = D at *
      refine W.exit ?_; simp only [pblk_exit, pblk_normal, pblk_ret, pseq_exit, pseq_normal, pseq_ret, pnor_exit, pnor_normal, pnor_ret, if_true, if_false, reduceIte, Nat.reduceEqDiff]
      refine W.freeze 13 (by simp [hr13]) (fun K hK => ?_)
      simp [hr13, z13]
      refine hK _ ?_; clear hK K
      refine W.reg (fun K hK => ?_)
      simp (disch := omega) [gA, wrap_i64, wrap_u64, wrap_u32, Int.tdiv_eq_ediv_of_nonneg, Int.tmod_eq_emod_of_nonneg, hr11, hl11]
      refine hK _ (W.liveK [1, 2, 3, 9, 11, 12] fun K2 hK2 => ?_); clear hK K; simp; refine hK2 _ ?_; clear hK2 K2
      refine W.reg (fun K hK => ?_); simp (disch := omega) [gA, wrap_i64, wrap_u64, wrap_u32, Int.tdiv_eq_ediv_of_nonneg, Int.tmod_eq_emod_of_nonneg]
      refine hK _ ⟨j - (k + 1), _, Gh_fa _ [1, 2, 3, 9, 11, 12], by omega, k + 1, _, _, _, rfl, by rw [e11]; simp, by omega, by omega⟩
  · have hk : k = n := by simp at h; omega
    subst hk
    have z11 := take_all hl11
    have hT := turn_MOK hM hMl
    have hTe := turn_dcol hM hMl h4
    have hTl : (turn k M).length = k := by simp [turn]
    have hdet := hM.det hMl h4 (by decide) (by decide)
    have hdet2 := hT.det hTl h4 (by decide) (by decide)
    have hS := scR_MOK (i := i) hc hM hMl hi
    have hSe := scR_dcol (c := c) hM hMl h4 hi
    have hdet3 := hS.det (n := k) (by rw [List.length_set, hMl]) h4 (by decide) (by decide)
    have hDb := dcol_bd k (mv M) hM.eb (by rw [mv_len]; omega)
    have hPb := hc.bd.pmul hLL hDb
    have hs1 := pSameI_ret (x := dcol k (mv M)) (y := dcol k (mv M)) (PB.of hDb (by omega) (by omega)) (PB.of hDb (by omega) (by omega))
    have hs2 := pSameI_ret (x := pmul (c.map gv) (dcol k (mv M))) (y := pmul (c.map gv) (dcol k (mv M))) (PB.of hPb (by omega) (by omega)) (PB.of hPb (by omega) (by omega))
    rw [decide_eq_true rfl] at hs1 hs2
    have hmul := pMulG_ret (y := dcol k (mv M)) (hc.pok (by decide) (by decide)) hc.bd hDb (by omega)
    have hcopy := Copy_own M (by omega)
    rw [hTe] at hdet2
    rw [hSe] at hdet3
    generalize hB : ((List.range k).map fun k_1 => (List.range k).map fun j => nth (nth M j) k_1) = B at *
    rw [show turn k M = B from hB] at hdet2
    generalize pmul (c.map gv) (dcol k (mv M)) = pd at *
    generalize dcol k (mv M) = dd at *
    refine W.exit ?_; simp only [pblk_exit, pblk_normal, pblk_ret, pseq_exit, pseq_normal, pseq_ret, pnor_exit, pnor_normal, pnor_ret, if_true, if_false, reduceIte, Nat.reduceEqDiff]
    refine W.freeze 11 (by simp [hr11]) (fun K hK => ?_)
    simp [hr11, z11]
    refine hK _ ?_; clear hK K
    refine W.sreg (fun K hK => ?_)
    simp (disch := omega) [gA, wrap_i64, wrap_u64, wrap_u32, Int.tdiv_eq_ediv_of_nonneg, Int.tmod_eq_emod_of_nonneg]
    refine callR hdet ?_
    simp (disch := omega) [gA, wrap_i64, wrap_u64, wrap_u32, Int.tdiv_eq_ediv_of_nonneg, Int.tmod_eq_emod_of_nonneg]
    refine hK _ (W.liveK [2, 3, 9, 11, 15, 16] fun K2 hK2 => ?_); clear hK K; simp; refine hK2 _ ?_; clear hK2 K2
    refine W.sreg (fun K hK => ?_)
    simp (disch := omega) [gA, wrap_i64, wrap_u64, wrap_u32, Int.tdiv_eq_ediv_of_nonneg, Int.tmod_eq_emod_of_nonneg]
    refine callR hdet2 ?_
    simp (disch := omega) [gA, wrap_i64, wrap_u64, wrap_u32, Int.tdiv_eq_ediv_of_nonneg, Int.tmod_eq_emod_of_nonneg]
    refine hK _ (W.liveK [2, 3, 9, 15, 16, 17, 18] fun K2 hK2 => ?_); clear hK K; simp; refine hK2 _ ?_; clear hK2 K2
    refine W.sreg (fun K hK => ?_)
    simp (disch := omega) [gA, wrap_i64, wrap_u64, wrap_u32, Int.tdiv_eq_ediv_of_nonneg, Int.tmod_eq_emod_of_nonneg]
    refine callO hcopy 74 (by simp) (by simp) (by simp) ?_
    simp (disch := omega) [gA, wrap_i64, wrap_u64, wrap_u32, Int.tdiv_eq_ediv_of_nonneg, Int.tmod_eq_emod_of_nonneg]
    refine hK _ (W.liveK [2, 3, 9, 15, 16, 17, 18, 19] fun K2 hK2 => ?_); clear hK K; simp; refine hK2 _ ?_; clear hK2 K2
    refine W.sreg (fun K hK => ?_); simp (disch := omega) [gA, wrap_i64, wrap_u64, wrap_u32, Int.tdiv_eq_ediv_of_nonneg, Int.tmod_eq_emod_of_nonneg]; refine hK _ (W.liveK [2, 3, 9, 15, 16, 17, 18, 19, 20] fun K2 hK2 => ?_); clear hK K; simp; refine hK2 _ ?_; clear hK2 K2
    refine W.nil 20 20 29 1 (by simp) (by decide) (fun K hK => ?_)
    refine hK _ (W.liveK [2, 3, 9, 15, 16, 17, 18, 19, 20] fun K2 hK2 => ?_); clear hK K; simp; refine hK2 _ ?_; clear hK2 K2
    refine W.seq ?_
    have hri := hrl i hi
    refine W.sreg (fun K hK => ?_); simp (disch := omega) [gA, wrap_i64, wrap_u64, wrap_u32, Int.tdiv_eq_ediv_of_nonneg, Int.tmod_eq_emod_of_nonneg, hMl, hri]; refine hK _ (W.liveK [2, 3, 9, 15, 16, 17, 18, 19, 20, 79, 80] fun K2 hK2 => ?_); clear hK K; simp; refine hK2 _ ?_; clear hK2 K2
    refine W.block ?_   -- block 4
    refine W.loopG (fun q σ => ∃ (j v74 v20 : Nat) (rows : Pm.Rows) (clk : Nat), σ = ⟨fa [(2, .int .i64 i), (3, Pg c), (9, sls me M), (15, Po dd), (16, .int .i64 0), (17, Po dd), (18, .int .i64 0), (19, .own 74 v74 0 k), (20, .own 20 v20 0 j), (79, .int .i64 k), (80, .int .i64 j)], rows, clk⟩ ∧
      rows 74 = some ⟨v74, 22, 1, emap me M⟩ ∧ rows 20 = some ⟨v20, 29, 1, emap pe ((List.range j).map fun j => (pmul (c.map gv) ((nth (nth M i) j).map gv)).map rw')⟩ ∧ q = k - j ∧ j ≤ k) k ?_ ?_
    · exact ⟨_, Gh.fr [(2, .int .i64 i), (3, Pg c), (9, sls me M), (15, Po dd), (16, .int .i64 0), (17, Po dd), (18, .int .i64 0), (19, .own 74 _ 0 k), (20, .own 20 _ 0 (0 : Nat)), (79, .int .i64 k), (80, .int .i64 (0 : Nat))] (by simp [hMl]; exact ⟨rfl, rfl⟩), 0, _, _, _, _, rfl, by simp, by simp [emap], by omega, by omega⟩
    rintro q2 _ ⟨j, v74, v20, rows, clk, rfl, hr74, hr20, hq2, hj⟩
    have hl20 : ((List.range j).map fun j => (pmul (c.map gv) ((nth (nth M i) j).map gv)).map rw').length = j := by simp
    refine W.sreg (fun K hK => ?_); simp (disch := omega) [gA, wrap_i64, wrap_u64, wrap_u32, Int.tdiv_eq_ediv_of_nonneg, Int.tmod_eq_emod_of_nonneg]; refine hK _ (W.liveK [2, 3, 9, 15, 16, 17, 18, 19, 20, 79, 80, 81] fun K2 hK2 => ?_); clear hK K; simp; refine hK2 _ ?_; clear hK2 K2
    refine W.seq ?_
    refine W.cond ⟨_, rfl, fun h => ?_, fun h => ?_⟩   -- t81
    · have hj : j < k := by simp at h; omega
      have hmb := pmulE_bd hc hM hMl hi hj
      have hmj := pMul_ret c (nth (nth M i) j) (hc.pok (by decide) (by decide)) (hM.nth (i := i) (k := j) (by omega) (by omega)).1 1 1 2 3 hc.bd (hM.nth (i := i) (k := j) (by omega) (by omega)).2 (by decide)
      have e20 : (List.range (j + 1)).map (fun j => (pmul (c.map gv) ((nth (nth M i) j).map gv)).map rw') = (List.range j).map (fun j => (pmul (c.map gv) ((nth (nth M i) j).map gv)).map rw') ++ [(pmul (c.map gv) ((nth (nth M i) j).map gv)).map rw'] := by simp [List.range_succ]
      rw [Po_eq] at hmj
      generalize (pmul (c.map gv) ((nth (nth M i) j).map gv)).map rw' = pq at *
      generalize (List.range j).map (fun j => (pmul (c.map gv) ((nth (nth M i) j).map gv)).map rw') = D at *
      refine W.skip ?_
      refine W.seq ?_
      refine W.block ?_   -- block 5
      refine W.sreg (fun K hK => ?_); simp (disch := omega) [gA, wrap_i64, wrap_u64, wrap_u32, Int.tdiv_eq_ediv_of_nonneg, Int.tmod_eq_emod_of_nonneg]; refine hK _ (W.liveK [2, 3, 9, 15, 16, 17, 18, 19, 20, 21, 79, 80] fun K2 hK2 => ?_); clear hK K; simp; refine hK2 _ ?_; clear hK2 K2
      refine W.reg (fun K hK => ?_)
      simp (disch := omega) [gA, wrap_i64, wrap_u64, wrap_u32, Int.tdiv_eq_ediv_of_nonneg, Int.tmod_eq_emod_of_nonneg, hMl, hri]
      refine callR hmj ?_
      simp (disch := omega) [gA, wrap_i64, wrap_u64, wrap_u32, Int.tdiv_eq_ediv_of_nonneg, Int.tmod_eq_emod_of_nonneg, hr20, hl20]
      refine hK _ (W.liveK [2, 3, 9, 15, 16, 17, 18, 19, 20, 79, 80] fun K2 hK2 => ?_); clear hK K; simp; refine hK2 _ ?_; clear hK2 K2
      refine W.reg (fun K hK => ?_); simp (disch := omega) [gA, wrap_i64, wrap_u64, wrap_u32, Int.tdiv_eq_ediv_of_nonneg, Int.tmod_eq_emod_of_nonneg]
      refine hK _ ⟨k - (j + 1), _, Gh_fa _ [2, 3, 9, 15, 16, 17, 18, 19, 20, 79, 80], by omega, j + 1, _, _, _, _, rfl, by simp [hr74], by rw [e20]; simp, by omega, by omega⟩
    · have hj : j = k := by simp at h; omega
      subst hj
      have z20 := take_all hl20
      have hD : (List.range j).map (fun k_1 => (pmul (c.map gv) ((nth (nth M i) k_1).map gv)).map rw') = scR j i c M := rfl
      rw [hD] at hr20 z20 hl20
      generalize scR j i c M = D at *
      refine W.exit ?_; simp only [pblk_exit, pblk_normal, pblk_ret, pseq_exit, pseq_normal, pseq_ret, pnor_exit, pnor_normal, pnor_ret, if_true, if_false, reduceIte, Nat.reduceEqDiff]
      refine W.freeze 20 (by simp [hr20]) (fun K hK => ?_)
      simp [hr20, z20]
      refine hK _ ?_; clear hK K
      refine W.sreg (fun K hK => ?_)
      simp (disch := omega) [gA, wrap_i64, wrap_u64, wrap_u32, Int.tdiv_eq_ediv_of_nonneg, Int.tmod_eq_emod_of_nonneg, hr74, hMl]
      refine hK _ (W.liveK [3, 15, 16, 17, 18, 19] fun K2 hK2 => ?_); clear hK K; simp; refine hK2 _ ?_; clear hK2 K2
      have zMD := take_all (l := M.set i D) (n := j) (by rw [List.length_set, hMl])
      refine W.sreg (fun K hK => ?_)
      simp (disch := omega) [gA, wrap_i64, wrap_u64, wrap_u32, Int.tdiv_eq_ediv_of_nonneg, Int.tmod_eq_emod_of_nonneg, hr74, hMl, zMD]
      refine callR hdet3 ?_
      simp (disch := omega) [gA, wrap_i64, wrap_u64, wrap_u32, Int.tdiv_eq_ediv_of_nonneg, Int.tmod_eq_emod_of_nonneg]
      refine hK _ (W.liveK [3, 15, 16, 17, 18, 22, 23] fun K2 hK2 => ?_); clear hK K; simp; refine hK2 _ ?_; clear hK2 K2
      refine W.sregJ (fun σ => ∃ (rows : Pm.Rows) (clk : Nat), σ = ⟨fa [(8, .bool true)], rows, clk⟩) (fun K hK => ?_) ?_
      · simp (disch := omega) [gA, wrap_i64, wrap_u64, wrap_u32, Int.tdiv_eq_ediv_of_nonneg, Int.tmod_eq_emod_of_nonneg]
        refine callR hs1 ?_
        simp (disch := omega) [gA, wrap_i64, wrap_u64, wrap_u32, Int.tdiv_eq_ediv_of_nonneg, Int.tmod_eq_emod_of_nonneg]
        refine callR hmul ?_
        simp (disch := omega) [gA, wrap_i64, wrap_u64, wrap_u32, Int.tdiv_eq_ediv_of_nonneg, Int.tmod_eq_emod_of_nonneg]
        refine callR hs2 ?_
        simp (disch := omega) [gA, wrap_i64, wrap_u64, wrap_u32, Int.tdiv_eq_ediv_of_nonneg, Int.tmod_eq_emod_of_nonneg]
        refine callR wakes_ret ?_
        simp (disch := omega) [gA, wrap_i64, wrap_u64, wrap_u32, Int.tdiv_eq_ediv_of_nonneg, Int.tmod_eq_emod_of_nonneg]
        exact hK _ _ (Gh_fa _ [8]) ⟨_, _, rfl⟩
      rintro _ ⟨rows, clk, rfl⟩
      refine W.ret ?_
      simp [go]
end Go.Proofs.Ytjnkpfknmncdmaa
