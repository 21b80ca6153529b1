import Derived.Test.YtjnkpfknmncdmaaLab
set_option linter.unusedSimpArgs false
set_option linter.unusedVariables false
namespace Go.Proofs.Ytjnkpfknmncdmaa
open Go Pm

theorem pe_po (l : List (List Int)) : .sl (l.map fun x => [Po x]) = sls pe (l.map fun x => x.map rw') := by
  have h : (fun x : List Int => [Po x]) = fun x => [Pg (x.map rw')] := funext fun x => by rw [Po_eq]
  rw [h]
  simp only [sls, emap, List.map_map, Function.comp_def, pe]
theorem nrm_rw (x : List Int) (h : Cn x) : nrm (x.map rw') = x.map rw' := by
  simp only [nrm, cfs, map_gv_rw]; rw [show cutR x = x from h]
theorem cfs_rw (x : List Int) (h : Cn x) : cfs (x.map rw') = x := by simp only [cfs, map_gv_rw]; exact h
theorem bd_small {x : List Int} (h : ∀ c ∈ x, c.natAbs < 65536) (hl : x.length ≤ 4) : Bd LL 1 4 x := ⟨hl, fun c hc => sz_le hLL (by have := h c hc; show _ < 4294967296 ^ 1; omega)⟩

theorem row2_ret (a b : Int) (ha : a ≠ 0 ∧ a.natAbs < 100) (hb : b ≠ 0 ∧ b.natAbs < 100) : Ret env.P 61 [.sl [[Po [a]], [Po [b]]]] (sls pe [[rw' a], [rw' b]]) := by
  have h1 : Cn [a] := by show cutR [a] = [a]; simp [cutR, ha.1]
  have h2 : Cn [b] := by show cutR [b] = [b]; simp [cutR, hb.1]
  have hp : ∀ p ∈ [[rw' a], [rw' b]], POK p := fun p hp => by
    simp only [List.mem_cons, List.not_mem_nil, or_false] at hp
    rcases hp with rfl | rfl
    · exact (PB.of (bd_small (x := [a]) (by simp; omega) (by simp)) (by decide) (by decide)).pok
    · exact (PB.of (bd_small (x := [b]) (by simp; omega) (by simp)) (by decide) (by decide)).pok
  have := Row_ret [[rw' a], [rw' b]] (by simp) hp
  have e := pe_po [[a], [b]]
  simp only [List.map_cons, List.map_nil] at e this
  rw [← e] at this
  have n1 := nrm_rw [a] h1
  have n2 := nrm_rw [b] h2
  simp only [List.map_cons, List.map_nil] at n1 n2
  rw [n1, n2] at this
  exact this
theorem Of1_ret (a : Int) (ha : a ≠ 0 ∧ a.natAbs < 100) : Ret env.P 62 [.sl [[.int .i64 a]]] (Po [a]) := by
  have := pOf_ret [a] (by simp) (by simp; omega)
  rw [show cutR [a] = [a] by simp [cutR, ha.1]] at this
  exact this

theorem wakes_ret : Ret env.P 18 [] (.bool true) := by
  have hD := Det_ret (s := 1) (n := 4) (by decide) (by decide) [[[rw' 1], [rw' 2]], [[rw' 3], [rw' 4]]] (by simp) (fun r hr => by
    have hb : ∀ a : Int, a.natAbs < 100 → POK [rw' a] ∧ Bd LL 1 4 ([rw' a].map gv) := fun a ha => by
      have := bd_small (x := [a]) (by simp; omega) (by simp)
      have h2 := map_gv_rw [a]
      simp only [List.map_cons, List.map_nil] at h2 ⊢
      rw [h2]
      exact ⟨(PB.of this (by decide) (by decide)).pok, this⟩
    simp only [List.mem_cons, List.not_mem_nil, or_false] at hr
    rcases hr with rfl | rfl
    · refine ⟨by simp, fun p hp => ?_⟩
      simp only [List.mem_cons, List.not_mem_nil, or_false] at hp
      rcases hp with rfl | rfl <;> exact hb _ (by decide)
    · refine ⟨by simp, fun p hp => ?_⟩
      simp only [List.mem_cons, List.not_mem_nil, or_false] at hp
      rcases hp with rfl | rfl <;> exact hb _ (by decide))
  have hok : okM [[[rw' 1], [rw' 2]], [[rw' 3], [rw' 4]]] := ⟨by simp, by simp⟩
  have hmv : mv [[[rw' 1], [rw' 2]], [[rw' 3], [rw' 4]]] = [[[1], [2]], [[3], [4]]] := by
    have h : ∀ a : Int, a ≠ 0 → cfs [rw' a] = [a] := fun a ha => cfs_rw [a] (by show cutR [a] = [a]; simp [cutR, ha])
    simp only [mv, List.map_cons, List.map_nil]
    rw [h 1 (by decide), h 2 (by decide), h 3 (by decide), h 4 (by decide)]
  have hd : dcol 2 [[[1], [2]], [[3], [4]]] = [-2] := by decide
  rw [if_pos hok, hmv, show [[[rw' 1], [rw' 2]], [[rw' 3], [rw' 4]]].length = 2 from rfl, hd] at hD
  have hO := qOf_ret [-2] (by simp) (by simp)
  rw [show cutR [-2] = [-2] by decide] at hO
  have hz : ∀ c ∈ ([-2] : List Int), Z c := fun c hc => by
    simp only [List.mem_cons, List.not_mem_nil, or_false] at hc
    subst hc
    exact Nat.lt_of_le_of_lt (sz_le (k := 2) (by decide) (by decide)) (by decide)
  have hS := qSame_ret [-2] [-2] (by simp) (by simp) hz hz
  rw [decide_eq_true rfl] at hS
  have o1 := Of1_ret 1 (by decide)
  have o2 := Of1_ret 2 (by decide)
  have o3 := Of1_ret 3 (by decide)
  have o4 := Of1_ret 4 (by decide)
  have r1 := row2_ret 1 2 (by decide) (by decide)
  have r2 := row2_ret 3 4 (by decide) (by decide)
  replace hO : Ret env.P 63 [.sl [[.int .i64 (-2)]]] (PI [-2]) := hO
  clear hd hz hok hmv
  generalize [-2] = d at *
  refine ret_of_Wf (E := env) (fun _ => 0) [] Try.func18 rfl (by kernel_rfl) (by kernel_rfl) (show 0 ≤ 28 by decide) (by simp) ?_
  refine W.sreg (fun K hK => ?_); simp (disch := omega) [gA, wrap_i64, wrap_u64, wrap_u32, Int.tdiv_eq_ediv_of_nonneg, Int.tmod_eq_emod_of_nonneg]; refine hK _ (W.liveK [] fun K2 hK2 => ?_); clear hK K; simp; refine hK2 _ ?_; clear hK2 K2
  refine W.sreg (fun K hK => ?_)
  simp (disch := omega) [gA, wrap_i64, wrap_u64, wrap_u32, Int.tdiv_eq_ediv_of_nonneg, Int.tmod_eq_emod_of_nonneg]
  refine callR o1 ?_
  simp (disch := omega) [gA, wrap_i64, wrap_u64, wrap_u32, Int.tdiv_eq_ediv_of_nonneg, Int.tmod_eq_emod_of_nonneg]
  refine callR o2 ?_
  simp (disch := omega) [gA, wrap_i64, wrap_u64, wrap_u32, Int.tdiv_eq_ediv_of_nonneg, Int.tmod_eq_emod_of_nonneg]
  refine callR r1 ?_
  simp (disch := omega) [gA, wrap_i64, wrap_u64, wrap_u32, Int.tdiv_eq_ediv_of_nonneg, Int.tmod_eq_emod_of_nonneg]
  refine callR o3 ?_
  simp (disch := omega) [gA, wrap_i64, wrap_u64, wrap_u32, Int.tdiv_eq_ediv_of_nonneg, Int.tmod_eq_emod_of_nonneg]
  refine callR o4 ?_
  simp (disch := omega) [gA, wrap_i64, wrap_u64, wrap_u32, Int.tdiv_eq_ediv_of_nonneg, Int.tmod_eq_emod_of_nonneg]
  refine callR r2 ?_
  simp (disch := omega) [gA, wrap_i64, wrap_u64, wrap_u32, Int.tdiv_eq_ediv_of_nonneg, Int.tmod_eq_emod_of_nonneg]
  refine callR hD ?_
  simp (disch := omega) [gA, wrap_i64, wrap_u64, wrap_u32, Int.tdiv_eq_ediv_of_nonneg, Int.tmod_eq_emod_of_nonneg]
  refine hK _ (W.liveK [1, 2] fun K2 hK2 => ?_); clear hK K; simp; refine hK2 _ ?_; clear hK2 K2
  refine W.sregJ (fun σ => ∃ (rows : Pm.Rows) (clk : Nat), σ = ⟨fa [(0, .bool true)], rows, clk⟩) (fun K hK => ?_) ?_
  · simp (disch := omega) [gA, wrap_i64, wrap_u64, wrap_u32, Int.tdiv_eq_ediv_of_nonneg, Int.tmod_eq_emod_of_nonneg]
    refine callR hO ?_
    simp (disch := omega) [gA, wrap_i64, wrap_u64, wrap_u32, Int.tdiv_eq_ediv_of_nonneg, Int.tmod_eq_emod_of_nonneg]
    refine callR hS ?_
    simp (disch := omega) [gA, wrap_i64, wrap_u64, wrap_u32, Int.tdiv_eq_ediv_of_nonneg, Int.tmod_eq_emod_of_nonneg]
    exact hK _ _ (Gh_fa _ [0]) ⟨_, _, rfl⟩
  rintro _ ⟨rows, clk, rfl⟩
  refine W.ret ?_
  simp [go]

theorem okM_mtx {l : List RP} {n m : Nat} : okM (mtx l n m) ↔ (n = 0 ∨ m = n) ∧ n ≤ 4 := by
  rw [okM, mtx_len]
  constructor
  · rintro ⟨h1, h2⟩
    refine ⟨?_, h2⟩
    rcases Nat.eq_zero_or_pos n with h0 | h0
    · exact .inl h0
    · right
      have h3 : rwR l m 0 ∈ mtx l n m := by simp only [mtx, List.mem_map, List.mem_range]; exact ⟨0, h0, rfl⟩
      have h4 := h1 _ h3
      simpa [rwR] using h4
  · rintro ⟨h1, h2⟩
    refine ⟨fun r hr => ?_, h2⟩
    have h3 := (mtx_row hr).1
    rcases h1 with h1 | h1
    · subst h1; simp [mtx] at hr
    · omega
theorem mtx_det {l : List RP} (hl : ∀ p ∈ l, InP p) (n m : Nat) (hn : n ≤ 6) (hm : m ≤ 6) : Ret env.P 17 [sls me (mtx l n m)] (if okM (mtx l n m) then .tup [Po (dcol n (mv (mtx l n m))), .int .i64 0] else .tup [Po [], .int .i64 1]) := by
  have := Det_ret (s := 1) (n := 3) (by decide) (by decide) (mtx l n m) (by rw [mtx_len]; omega) (fun r hr => ⟨by rw [(mtx_row hr).1]; omega, fun p hp => by
    have h := (mtx_row hr).2 hl p hp
    exact ⟨h.pok (by decide) (by decide), h.bd⟩⟩)
  rwa [mtx_len] at this
theorem mv_len (m : List (List RP)) : (mv m).length = m.length := by simp [mv]
theorem mv_row {m : List (List RP)} {k : Nat} (h : ∀ r ∈ m, r.length = k) : ∀ r ∈ mv m, r.length = k := fun r hr => by
  simp only [mv, List.mem_map] at hr
  obtain ⟨r', hr', rfl⟩ := hr
  simp [h r' hr']
theorem mtx_sq {l : List RP} (n : Nat) : ∀ r ∈ mtx l n n, r.length = n := fun r hr => (mtx_row hr).1
theorem mtx_EQ {l : List RP} (hl : ∀ p ∈ l, InP p) (n m : Nat) : EQ 32 3 (mv (mtx l n m)) := ⟨fun r hr x hx => by
  simp only [mv, List.mem_map] at hr
  obtain ⟨r', hr', rfl⟩ := hr
  simp only [List.mem_map] at hx
  obtain ⟨p, hp, rfl⟩ := hx
  exact ((mtx_row hr').2 hl p hp).bd2.cut⟩
theorem mtx_EB {l : List RP} (hl : ∀ p ∈ l, InP p) (n m : Nat) : EB 1 3 (mv (mtx l n m)) := EB.mv fun r hr p hp => ((mtx_row hr).2 hl p hp).bd
theorem bd_ret {s n : Nat} {x : List Int} (h : Bd 2 s n x) (hs : s < 1099511627776) : ∀ c ∈ x, Z c := fun c hc => by have := h.sz c hc; simp only [Z]; omega

theorem DetDets_ret (l : List RP) (n0 m0 : Int) (hl : ∀ p ∈ l, InP p) (hll : l.length < 9223372036854775808) (hn0 : -9223372036854775808 ≤ n0 ∧ n0 < 9223372036854775808) (hm0 : -9223372036854775808 ≤ m0 ∧ m0 < 9223372036854775808) :
    Ret env.P 3 [sls pe l, .int .i64 n0, .int .i64 m0] (.bool true) := by
  have w1 := Within_ret n0 6 hn0 (by decide) (by decide)
  have w2 := Within_ret m0 6 hm0 (by decide) (by decide)
  obtain ⟨n, hn⟩ : ∃ n : Nat, (n : Int) = n0 % 6 := ⟨(n0 % 6).toNat, by omega⟩
  obtain ⟨m1, hm1⟩ : ∃ m : Nat, (m : Int) = m0 % 6 := ⟨(m0 % 6).toNat, by omega⟩
  have hn6 : n ≤ 5 := by omega
  have hm6 : m1 ≤ 5 := by omega
  rw [← hn] at w1
  rw [← hm1] at w2
  clear hn hm1
  refine ret_of_Wf (E := env) (fun _ => 0) [(0, sls pe l), (1, .int .i64 n0), (2, .int .i64 m0)] Try.func3 rfl (by kernel_rfl) (by kernel_rfl) (show 3 ≤ 63 by decide) (by simp) ?_
  refine W.sreg (fun K hK => ?_); simp (disch := omega) [gA, wrap_i64, wrap_u64, wrap_u32, Int.tdiv_eq_ediv_of_nonneg, Int.tmod_eq_emod_of_nonneg]; refine hK _ (W.liveK [0, 1, 2] fun K2 hK2 => ?_); clear hK K; simp; refine hK2 _ ?_; clear hK2 K2
  refine W.sreg (fun K hK => ?_)
  simp (disch := omega) [gA, wrap_i64, wrap_u64, wrap_u32, Int.tdiv_eq_ediv_of_nonneg, Int.tmod_eq_emod_of_nonneg]
  refine callR w1 ?_
  simp (disch := omega) [gA, wrap_i64, wrap_u64, wrap_u32, Int.tdiv_eq_ediv_of_nonneg, Int.tmod_eq_emod_of_nonneg]
  refine callR w2 ?_
  simp (disch := omega) [gA, wrap_i64, wrap_u64, wrap_u32, Int.tdiv_eq_ediv_of_nonneg, Int.tmod_eq_emod_of_nonneg]
  refine hK _ (W.liveK [0, 1, 2] fun K2 hK2 => ?_); clear hK K; simp; refine hK2 _ ?_; clear hK2 K2
  refine W.seqJ (fun σ => ∃ (m : Nat) (rows : Pm.Rows) (clk : Nat), σ = ⟨fa [(0, sls pe l), (1, .int .i64 n), (2, .int .i64 m)], rows, clk⟩ ∧ m ≤ 5) ?_ ?_
  ·
    refine W.sreg (fun K hK => ?_); simp (disch := omega) [gA, wrap_i64, wrap_u64, wrap_u32, Int.tdiv_eq_ediv_of_nonneg, Int.tmod_eq_emod_of_nonneg]; refine hK _ (W.liveK [0, 1, 2, 17] fun K2 hK2 => ?_); clear hK K; simp; refine hK2 _ ?_; clear hK2 K2
    refine W.cond ⟨_, rfl, fun h => ?_, fun h => ?_⟩   -- t17
    · refine W.reg (fun K hK => ?_); simp (disch := omega) [gA, wrap_i64, wrap_u64, wrap_u32, Int.tdiv_eq_ediv_of_nonneg, Int.tmod_eq_emod_of_nonneg]
      exact hK _ ⟨_, Gh_fa _ [0, 1, 2], n, _, _, rfl, hn6⟩
    · refine W.skip ?_
      exact ⟨_, Gh_fa _ [0, 1, 2], m1, _, _, rfl, hm6⟩
  clear w1 w2 hm6 m1 hn0 hm0 n0 m0
  rintro _ ⟨m, rows, clk, rfl, hm6⟩
  have hrows := rows_ret l n m hl hll (by omega) (by omega)
  have hdet := mtx_det hl n m (by omega) (by omega)
  refine W.sreg (fun K hK => ?_)
  simp (disch := omega) [gA, wrap_i64, wrap_u64, wrap_u32, Int.tdiv_eq_ediv_of_nonneg, Int.tmod_eq_emod_of_nonneg]
  refine callR hrows ?_
  simp (disch := omega) [gA, wrap_i64, wrap_u64, wrap_u32, Int.tdiv_eq_ediv_of_nonneg, Int.tmod_eq_emod_of_nonneg]
  refine hK _ (W.liveK [1, 2, 7, 8] fun K2 hK2 => ?_); clear hK K; simp; refine hK2 _ ?_; clear hK2 K2
  by_cases hok : okM (mtx l n m)
  · have hok2 := okM_mtx.1 hok
    rw [if_pos hok] at hdet
    have hmm : ∀ r ∈ mtx l n m, r.length = n := fun r hr => by
      have := hok.1 r hr
      rwa [mtx_len] at this
    have hml : (mv (mtx l n m)).length = n := by rw [mv_len, mtx_len]
    have hq := qDet_ret (s := 32) (n := 3) (by decide) (by decide) n (mv (mtx l n m)) hml hok2.2 (mv_row hmm) (mtx_EQ hl n m)
    have hdb := drow_bd n (mv (mtx l n m)) (mtx_EQ hl n m) hok2.2
    rw [dcol_drow hml (mv_row hmm) hok2.2] at hdet
    have hnb : n * (32 + 3 + 4) ≤ 4 * (32 + 3 + 4) := Nat.mul_le_mul_right _ hok2.2
    have hz := bd_ret hdb (by omega)
    have hS := qSame_ret (drow n (mv (mtx l n m))) (drow n (mv (mtx l n m))) (by have := hdb.len; omega) (by have := hdb.len; omega) hz hz
    rw [decide_eq_true rfl] at hS
    generalize drow n (mv (mtx l n m)) = d at *
    refine W.sreg (fun K hK => ?_)
    simp (disch := omega) [gA, wrap_i64, wrap_u64, wrap_u32, Int.tdiv_eq_ediv_of_nonneg, Int.tmod_eq_emod_of_nonneg]
    refine callR hdet ?_
    simp (disch := omega) [gA, wrap_i64, wrap_u64, wrap_u32, Int.tdiv_eq_ediv_of_nonneg, Int.tmod_eq_emod_of_nonneg]
    refine hK _ (W.liveK [1, 2, 8, 9, 10] fun K2 hK2 => ?_); clear hK K; simp; refine hK2 _ ?_; clear hK2 K2
    refine W.seq ?_
    refine W.sregJ (fun σ => ∃ (rows : Pm.Rows) (clk : Nat), σ = ⟨fa [(8, sls qm (mv (mtx l n m))), (9, Po d), (10, .int .i64 0), (41, .bool false)], rows, clk⟩) (fun K hK => ?_) ?_
    · have h1 : ¬ (4 < (n : Int)) := by omega
      by_cases h0 : n = 0
      · subst h0
        by_cases hm0 : m = 0
        · subst hm0
          simp (disch := omega) [gA, wrap_i64, wrap_u64, wrap_u32, Int.tdiv_eq_ediv_of_nonneg, Int.tmod_eq_emod_of_nonneg]
          exact hK _ _ (Gh_fa _ [8, 9, 10, 41]) ⟨_, _, rfl⟩
        · have hb : ((0 : Int) != (m : Int)) = true := by simp; omega
          simp (disch := omega) [gA, wrap_i64, wrap_u64, wrap_u32, Int.tdiv_eq_ediv_of_nonneg, Int.tmod_eq_emod_of_nonneg, hm0, hb]
          exact hK _ _ (Gh_fa _ [8, 9, 10, 41]) ⟨_, _, rfl⟩
      · have h2 : m = n := by omega
        subst h2
        simp (disch := omega) [gA, wrap_i64, wrap_u64, wrap_u32, Int.tdiv_eq_ediv_of_nonneg, Int.tmod_eq_emod_of_nonneg, h1]
        exact hK _ _ (Gh_fa _ [8, 9, 10, 41]) ⟨_, _, rfl⟩
    rintro _ ⟨rows, clk, rfl⟩
    refine W.cond ⟨_, rfl, fun h => ?_, fun h => ?_⟩   -- t41
    · cases h
    refine W.skip ?_
    refine W.sregJ (fun σ => ∃ (rows : Pm.Rows) (clk : Nat), σ = ⟨fa [(6, .bool true)], rows, clk⟩) (fun K hK => ?_) ?_
    · simp (disch := omega) [gA, wrap_i64, wrap_u64, wrap_u32, Int.tdiv_eq_ediv_of_nonneg, Int.tmod_eq_emod_of_nonneg]
      refine callR hq ?_
      simp (disch := omega) [gA, wrap_i64, wrap_u64, wrap_u32, Int.tdiv_eq_ediv_of_nonneg, Int.tmod_eq_emod_of_nonneg]
      refine callR hS ?_
      simp (disch := omega) [gA, wrap_i64, wrap_u64, wrap_u32, Int.tdiv_eq_ediv_of_nonneg, Int.tmod_eq_emod_of_nonneg]
      refine callR wakes_ret ?_
      simp (disch := omega) [gA, wrap_i64, wrap_u64, wrap_u32, Int.tdiv_eq_ediv_of_nonneg, Int.tmod_eq_emod_of_nonneg]
      exact hK _ _ (Gh_fa _ [6]) ⟨_, _, rfl⟩
    rintro _ ⟨rows, clk, rfl⟩
    refine W.ret ?_
    simp [go]
  · have hok2 : ¬ ((n = 0 ∨ m = n) ∧ n ≤ 4) := fun h => hok (okM_mtx.2 h)
    rw [if_neg hok] at hdet
    refine W.sreg (fun K hK => ?_)
    simp (disch := omega) [gA, wrap_i64, wrap_u64, wrap_u32, Int.tdiv_eq_ediv_of_nonneg, Int.tmod_eq_emod_of_nonneg]
    refine callR hdet ?_
    simp (disch := omega) [gA, wrap_i64, wrap_u64, wrap_u32, Int.tdiv_eq_ediv_of_nonneg, Int.tmod_eq_emod_of_nonneg]
    refine hK _ (W.liveK [1, 2, 8, 9, 10] fun K2 hK2 => ?_); clear hK K; simp; refine hK2 _ ?_; clear hK2 K2
    refine W.seq ?_
    refine W.sregJ (fun σ => ∃ (rows : Pm.Rows) (clk : Nat), σ = ⟨fa [(8, sls qm (mv (mtx l n m))), (9, Po []), (10, .int .i64 1), (41, .bool true)], rows, clk⟩) (fun K hK => ?_) ?_
    · by_cases h1 : 4 < (n : Int)
      · simp (disch := omega) [gA, wrap_i64, wrap_u64, wrap_u32, Int.tdiv_eq_ediv_of_nonneg, Int.tmod_eq_emod_of_nonneg, h1]
        exact hK _ _ (Gh_fa _ [8, 9, 10, 41]) ⟨_, _, rfl⟩
      · have h2 : ¬ (n : Int) = m := by omega
        have h3 : 0 < n := by omega
        have h4 : ¬ n = m := by omega
        have hb : ((n : Int) != (m : Int)) = true := by simp; omega
        simp (disch := omega) [gA, wrap_i64, wrap_u64, wrap_u32, Int.tdiv_eq_ediv_of_nonneg, Int.tmod_eq_emod_of_nonneg, h1, h2, h3, h4, hb]
        exact hK _ _ (Gh_fa _ [8, 9, 10, 41]) ⟨_, _, rfl⟩
    rintro _ ⟨rows, clk, rfl⟩
    refine W.cond ⟨_, rfl, fun h => ?_, fun h => ?_⟩   -- t41
    · refine W.sregJ (fun σ => ∃ (rows : Pm.Rows) (clk : Nat), σ = ⟨fa [(6, .bool true)], rows, clk⟩) (fun K hK => ?_) ?_
      · simp (disch := omega) [gA, wrap_i64, wrap_u64, wrap_u32, Int.tdiv_eq_ediv_of_nonneg, Int.tmod_eq_emod_of_nonneg]
        refine callR wakes_ret ?_
        simp (disch := omega) [gA, wrap_i64, wrap_u64, wrap_u32, Int.tdiv_eq_ediv_of_nonneg, Int.tmod_eq_emod_of_nonneg]
        exact hK _ _ (Gh_fa _ [6]) ⟨_, _, rfl⟩
      rintro _ ⟨rows, clk, rfl⟩
      refine W.ret ?_
      simp [go]
    · cases h
end Go.Proofs.Ytjnkpfknmncdmaa
