import Derived.Test.YtjnkpfknmncdmaaLbh
set_option linter.unusedSimpArgs false
set_option linter.unusedVariables false
namespace Go.Proofs.Ytjnkpfknmncdmaa
open Go Pm

theorem LeadI_ret {x : List Int} (hx : PB x) (hc : Cn x) : Ret env.P 52 [Po x] (I (lead x)) := by
  have := Lead_ret (x.map rw') hx.pok
  rw [show cfs (x.map rw') = cutR x by simp only [cfs, map_gv_rw], show cutR x = x from hc, ← Po_eq] at this
  exact this
theorem DegI_ret (x : List Int) (hx : x.length < 9223372036854775808) : Ret env.P 76 [Po x] (.int .i64 ((x.length : Int) - 1)) := by
  have := Deg_ret (x.map rw') (by simpa using hx)
  rw [List.length_map, ← Po_eq] at this
  exact this
theorem pScaleI_ret {x : List Int} {c : Int} (hx : PB x) (hc : Sz c) : Ret env.P 51 [Po x, I c] (Po (pscale x c)) := by
  have := pScale_ret (x.map rw') hx.pok (decide (c < 0)) (dig LL c.natAbs) hc.lok
  rw [map_gv_rw, iv_I, ← Po_eq] at this
  exact this
theorem rep_append_set (i : Nat) (x : Int) : (List.replicate (i + 1) (0 : Int)).set i x = stp i x := by
  rw [List.replicate_succ', List.set_append]
  simp [stp]

theorem Pseudo_ret (a b : RP) {s s' N : Nat} (ha : POK a) (hb : POK b) (sa : Bd LL s N (a.map gv)) (sb : Bd LL s' N (b.map gv)) (hB : s + N * (s' + N + 1) + s' + N + N + 10 < 1099511627774) :
    Ret env.P 31 [Pg a, Pg b] (if cfs b = [] then .tup [Po [], Po [], .int .i64 0, .int .i64 2] else .tup [Po (pdm (cfs a) (cfs b)).1, Po (pdm (cfs a) (cfs b)).2, .int .i64 (psk (cfs a) (cfs b)), .int .i64 0]) := by
  have hA : Bd LL s N (cfs a) := sa.cut
  have hBb : Bd LL s' N (cfs b) := sb.cut
  have ca : Cn (cfs a) := Cn.cut _
  have cb : Cn (cfs b) := Cn.cut _
  have na := pNorm_ret a ha
  have nb := pNorm_ret b hb
  rw [show cutR (a.map gv) = cfs a from rfl] at na
  rw [show cutR (b.map gv) = cfs b from rfl] at nb
  refine ret_of_Wf (E := env) (fun _ => 0) [(0, Pg a), (1, Pg b)] Try.func31 rfl (by kernel_rfl) (by kernel_rfl) (show 2 ≤ 65 by decide) (by simp) ?_
  generalize cfs a = x at *
  generalize cfs b = y at *
  refine W.sreg (fun K hK => ?_); simp (disch := omega) [gA, wrap_i64, wrap_u64, wrap_u32, Int.tdiv_eq_ediv_of_nonneg, Int.tmod_eq_emod_of_nonneg]; refine hK _ (W.liveK [0, 1, 4] fun K2 hK2 => ?_); clear hK K; simp; refine hK2 _ ?_; clear hK2 K2
  refine W.nils 4 (Po []) (by simp) rfl (fun K hK => ?_)
  refine hK _ (W.liveK [0, 1, 4] fun K2 hK2 => ?_); clear hK K; simp; refine hK2 _ ?_; clear hK2 K2
  refine W.sreg (fun K hK => ?_)
  simp (disch := omega) [gA, wrap_i64, wrap_u64, wrap_u32, Int.tdiv_eq_ediv_of_nonneg, Int.tmod_eq_emod_of_nonneg]
  refine callR na ?_
  simp (disch := omega) [gA, wrap_i64, wrap_u64, wrap_u32, Int.tdiv_eq_ediv_of_nonneg, Int.tmod_eq_emod_of_nonneg]
  refine callR nb ?_
  simp (disch := omega) [gA, wrap_i64, wrap_u64, wrap_u32, Int.tdiv_eq_ediv_of_nonneg, Int.tmod_eq_emod_of_nonneg]
  refine hK _ (W.liveK [1, 4, 5] fun K2 hK2 => ?_); clear hK K; simp; refine hK2 _ ?_; clear hK2 K2
  refine W.seq ?_
  refine W.sreg (fun K hK => ?_); simp (disch := omega) [gA, wrap_i64, wrap_u64, wrap_u32, Int.tdiv_eq_ediv_of_nonneg, Int.tmod_eq_emod_of_nonneg]; refine hK _ (W.liveK [1, 4, 5, 18] fun K2 hK2 => ?_); clear hK K; simp; refine hK2 _ ?_; clear hK2 K2
  refine W.cond ⟨_, rfl, fun h => ?_, fun h => ?_⟩   -- t18
  · have h : y = [] := by simp at h; exact h
    rw [if_pos h]
    refine W.sreg (fun K hK => ?_); simp (disch := omega) [gA, wrap_i64, wrap_u64, wrap_u32, Int.tdiv_eq_ediv_of_nonneg, Int.tmod_eq_emod_of_nonneg]; refine hK _ (W.liveK [4, 5, 6, 7] fun K2 hK2 => ?_); clear hK K; simp; refine hK2 _ ?_; clear hK2 K2
    refine W.ret ?_
    simp [go]
    rfl
  have hy : y ≠ [] := by simp at h; exact h
  clear h
  rw [if_neg hy]
  have hy0 : 0 < y.length := List.length_pos_iff.2 hy
  have hNx := hA.len
  have hNy := hBb.len
  have hsy := lead_bd hBb
  have hmN : N * (s' + N + 1) ≥ 0 := Nat.zero_le _
  have hL := LeadI_ret (PB.of hBb (by omega) (by omega)) cb
  have hDx := DegI_ret x (by omega)
  have hDy := DegI_ret y (by omega)
  refine W.skip ?_
  refine W.sreg (fun K hK => ?_)
  simp (disch := omega) [gA, wrap_i64, wrap_u64, wrap_u32, Int.tdiv_eq_ediv_of_nonneg, Int.tmod_eq_emod_of_nonneg]
  refine callR hL ?_
  simp (disch := omega) [gA, wrap_i64, wrap_u64, wrap_u32, Int.tdiv_eq_ediv_of_nonneg, Int.tmod_eq_emod_of_nonneg]
  refine hK _ (W.liveK [1, 4, 5, 8] fun K2 hK2 => ?_); clear hK K; simp; refine hK2 _ ?_; clear hK2 K2
  have hkk : (if (0 : Int) < (x.length : Int) - 1 - ((y.length : Int) - 1) + 1 then (x.length : Int) - 1 - ((y.length : Int) - 1) + 1 else 0) = (psk x y : Int) := by unfold psk; split <;> omega
  refine W.sreg (fun K hK => ?_)
  simp (disch := omega) [gA, wrap_i64, wrap_u64, wrap_u32, Int.tdiv_eq_ediv_of_nonneg, Int.tmod_eq_emod_of_nonneg]
  refine callR hDx ?_
  simp (disch := omega) [gA, wrap_i64, wrap_u64, wrap_u32, Int.tdiv_eq_ediv_of_nonneg, Int.tmod_eq_emod_of_nonneg]
  refine callR hDy ?_
  simp (disch := omega) [gA, wrap_i64, wrap_u64, wrap_u32, Int.tdiv_eq_ediv_of_nonneg, Int.tmod_eq_emod_of_nonneg, hkk]
  refine hK _ (W.liveK [1, 4, 5, 6, 8] fun K2 hK2 => ?_); clear hK K; simp; refine hK2 _ ?_; clear hK2 K2
  have hkN : psk x y ≤ N := by unfold psk; omega
  have hsl := hsy
  generalize hdd : s' + N + 1 = d at *
  have hNN : ∀ j, j ≤ N → (N - j) * d ≤ N * d := fun j _ => Nat.mul_le_mul_right _ (by omega)
  refine W.seq ?_
  refine W.sreg (fun K hK => ?_); simp (disch := omega) [gA, wrap_i64, wrap_u64, wrap_u32, Int.tdiv_eq_ediv_of_nonneg, Int.tmod_eq_emod_of_nonneg]; refine hK _ (W.liveK [1, 4, 5, 6, 8, 9] fun K2 hK2 => ?_); clear hK K; simp; refine hK2 _ ?_; clear hK2 K2
  refine W.block ?_   -- block 0
  refine W.loopG (fun j σ => ∃ (q r : List Int) (rows : Pm.Rows) (clk : Nat), σ = ⟨fa [(1, Po y), (4, Po q), (5, Po r), (6, .int .i64 (psk x y)), (8, .ptr 8 0 0 0), (9, .int .i64 ((j : Int) - 1))], rows, clk⟩ ∧
    rows 8 = some ⟨0, 68, 2, [ie (lead y)]⟩ ∧ j ≤ psk x y ∧ ps y (lead y) j q r = pdm x y ∧ Bd LL (s + (N - j) * d) (N + N) q ∧ Bd LL (s + (N - j) * d) (N + N) r ∧ Cn r) (psk x y) ?_ ?_
  · exact ⟨_, .refl, [], x, _, _, rfl, by simp, by omega, rfl, ⟨by simp, fun c hc => by cases hc⟩, hA.mono (by omega) (by omega), ca⟩
  rintro j _ ⟨q, r, rows, clk, rfl, hr8, hj, hps, bq, br, cr⟩
  refine W.seq ?_
  refine W.sreg (fun K hK => ?_); simp (disch := omega) [gA, wrap_i64, wrap_u64, wrap_u32, Int.tdiv_eq_ediv_of_nonneg, Int.tmod_eq_emod_of_nonneg]; refine hK _ (W.liveK [1, 4, 5, 6, 8, 9, 31] fun K2 hK2 => ?_); clear hK K; simp; refine hK2 _ ?_; clear hK2 K2
  refine W.cond ⟨_, rfl, fun h => ?_, fun h => ?_⟩   -- t31
  · have hj0 : 0 < j := by simp at h; omega
    obtain ⟨i, rfl⟩ : ∃ i, j = i + 1 := ⟨j - 1, by omega⟩
    clear h
    have ei : ((i + 1 : Nat) : Int) - 1 = i := by omega
    rw [ei]
    have hN1 := hNN (i + 1) (by omega)
    have hT : s + (N - i) * d = s + (N - (i + 1)) * d + s' + N + 1 := by
      rw [show N - i = (N - (i + 1)) + 1 by omega, Nat.add_mul, Nat.one_mul]; omega
    obtain ⟨b1, b2⟩ := ps_step_bd hLL hBb bq br (show i < N by omega)
    rw [← hT] at b1 b2
    have hN2 := hNN i (by omega)
    have hx := psx_bd (y := y) (i := i) br
    have bs := Bd.stp hx i
    have hLr := LeadI_ret (PB.of br (by omega) (by omega)) cr
    have hDr := DegI_ret r (by have := br.len; omega)
    have bqs := bq.pscale hLL hsy
    have brs := br.pscale hLL hsy
    have bm := bs.pmul hLL hBb
    have f1 := pScaleI_ret (c := lead y) (PB.of bq (by omega) (by omega)) (show sz LL (lead y) < 1099511627776 by omega)
    have f2 := pScaleI_ret (c := lead y) (PB.of br (by omega) (by omega)) (show sz LL (lead y) < 1099511627776 by omega)
    have f3 := pAddI_ret (PB.of bqs (by omega) (by omega)) (PB.of bs (by omega) (by omega))
    have f4 := pMulI_ret bs hBb (by omega)
    have f5 := pSubI_ret (PB.of brs (by omega) (by omega)) (PB.of bm (by omega) (by omega))
    rw [show padd (pscale q (lead y)) (stp i (psx y r i)) = psq (lead y) (psx y r i) i q from rfl] at f3
    rw [show psub (pscale r (lead y)) (pmul (stp i (psx y r i)) y) = psr y (lead y) (psx y r i) i r from rfl] at f5
    have cr2 : Cn (psr y (lead y) (psx y r i) i r) := Cn.psub _ _
    have hpx : psx y r i = if r.length = y.length + i then lead r else 0 := rfl
    rw [ps] at hps
    generalize hq2 : psq (lead y) (psx y r i) i q = q2 at *
    generalize hr2 : psr y (lead y) (psx y r i) i r = r2 at *
    generalize pmul (stp i (psx y r i)) y = pm at *
    generalize pscale q (lead y) = pq at *
    generalize pscale r (lead y) = pr at *
    generalize psx y r i = xx at *
    have hset := rep_append_set i xx
    have hsl2 : (stp i xx).length = i + 1 := by simp [stp]
    generalize lead r = lr at *
    generalize lead y = ly at *
    refine W.skip ?_
    refine W.seq ?_
    refine W.block ?_   -- block 1
    refine W.sreg (fun K hK => ?_); simp (disch := omega) [gA, wrap_i64, wrap_u64, wrap_u32, Int.tdiv_eq_ediv_of_nonneg, Int.tmod_eq_emod_of_nonneg]; refine hK _ (W.liveK [1, 4, 5, 6, 8, 9, 10] fun K2 hK2 => ?_); clear hK K; simp; refine hK2 _ ?_; clear hK2 K2
    refine W.row (id := 10) (els := [[.bool false, .nil]]) [ie 0] (by simp; exact ⟨rfl, rfl, rfl⟩) ⟨⟨.inl (by simp), .inr ⟨rfl, rfl⟩, trivial⟩, trivial⟩ ?_
    refine W.seqJ (fun σ => ∃ (v10 : Nat) (rows : Pm.Rows) (clk : Nat), σ = ⟨fa [(1, Po y), (4, Po q), (5, Po r), (6, .int .i64 (psk x y)), (8, .ptr 8 0 0 0), (9, .int .i64 i), (10, .ptr 10 v10 0 0)], rows, clk⟩ ∧ rows 8 = some ⟨0, 68, 2, [ie ly]⟩ ∧ rows 10 = some ⟨v10, 68, 2, [ie xx]⟩) ?_ ?_
    ·
      refine W.sreg (fun K hK => ?_)
      simp (disch := omega) [gA, wrap_i64, wrap_u64, wrap_u32, Int.tdiv_eq_ediv_of_nonneg, Int.tmod_eq_emod_of_nonneg]
      refine callR hDr ?_
      simp (disch := omega) [gA, wrap_i64, wrap_u64, wrap_u32, Int.tdiv_eq_ediv_of_nonneg, Int.tmod_eq_emod_of_nonneg]
      refine callR hDy ?_
      simp (disch := omega) [gA, wrap_i64, wrap_u64, wrap_u32, Int.tdiv_eq_ediv_of_nonneg, Int.tmod_eq_emod_of_nonneg]
      refine hK _ (W.liveK [1, 4, 5, 6, 8, 9, 10, 40] fun K2 hK2 => ?_); clear hK K; simp; refine hK2 _ ?_; clear hK2 K2
      by_cases hrl : r.length = y.length + i
      · rw [if_pos hrl] at hpx
        subst hpx
        refine W.cond ⟨_, rfl, fun h => ?_, fun h => ?_⟩   -- t40
        · refine W.reg (fun K hK => ?_)
          simp (disch := omega) [gA, wrap_i64, wrap_u64, wrap_u32, Int.tdiv_eq_ediv_of_nonneg, Int.tmod_eq_emod_of_nonneg]
          refine callR hLr ?_
          simp (disch := omega) [gA, wrap_i64, wrap_u64, wrap_u32, Int.tdiv_eq_ediv_of_nonneg, Int.tmod_eq_emod_of_nonneg]
          exact hK _ ⟨_, Gh_fa _ [1, 4, 5, 6, 8, 9, 10], _, _, _, rfl, by simp [hr8], by simp⟩
        · exfalso; simp at h; omega
      · rw [if_neg hrl] at hpx
        subst hpx
        refine W.cond ⟨_, rfl, fun h => ?_, fun h => ?_⟩   -- t40
        · exfalso; simp at h; omega
        · refine W.skip ?_
          exact ⟨_, Gh_fa _ [1, 4, 5, 6, 8, 9, 10], _, _, _, rfl, by simp [hr8], by simp⟩
    rintro _ ⟨v10, rows, clk, rfl, hr8, hr10⟩
    have e9 : ((i : Int) + 1).toNat = i + 1 := by omega
    refine W.sreg (fun K hK => ?_); simp (disch := omega) [gA, wrap_i64, wrap_u64, wrap_u32, Int.tdiv_eq_ediv_of_nonneg, Int.tmod_eq_emod_of_nonneg, e9]; refine hK _ (W.liveK [1, 4, 5, 6, 8, 9, 10, 11] fun K2 hK2 => ?_); clear hK K; simp; refine hK2 _ ?_; clear hK2 K2
    refine W.row (id := 45) (emap ie (List.replicate (i + 1) 0)) (by simp; exact ⟨rfl, rfl, rfl⟩) (row_ie _) ?_
    refine W.sreg (fun K hK => ?_)
    simp (disch := omega) [gA, wrap_i64, wrap_u64, wrap_u32, Int.tdiv_eq_ediv_of_nonneg, Int.tmod_eq_emod_of_nonneg, hr10, hset]
    refine hK _ (W.liveK [1, 4, 5, 6, 8, 9, 11] fun K2 hK2 => ?_); clear hK K; simp; refine hK2 _ ?_; clear hK2 K2
    have hst := take_all hsl2
    refine W.freeze 45 (by simp) (fun K hK => ?_)
    simp [hst]
    refine hK _ ?_; clear hK K
    refine W.sreg (fun K hK => ?_)
    simp (disch := omega) [gA, wrap_i64, wrap_u64, wrap_u32, Int.tdiv_eq_ediv_of_nonneg, Int.tmod_eq_emod_of_nonneg, hr8]
    refine callR f1 ?_
    simp (disch := omega) [gA, wrap_i64, wrap_u64, wrap_u32, Int.tdiv_eq_ediv_of_nonneg, Int.tmod_eq_emod_of_nonneg]
    refine callR f3 ?_
    simp (disch := omega) [gA, wrap_i64, wrap_u64, wrap_u32, Int.tdiv_eq_ediv_of_nonneg, Int.tmod_eq_emod_of_nonneg]
    refine hK _ (W.liveK [1, 4, 5, 6, 8, 9, 11] fun K2 hK2 => ?_); clear hK K; simp; refine hK2 _ ?_; clear hK2 K2
    refine W.reg (fun K hK => ?_)
    simp (disch := omega) [gA, wrap_i64, wrap_u64, wrap_u32, Int.tdiv_eq_ediv_of_nonneg, Int.tmod_eq_emod_of_nonneg, hr8]
    refine callR f2 ?_
    simp (disch := omega) [gA, wrap_i64, wrap_u64, wrap_u32, Int.tdiv_eq_ediv_of_nonneg, Int.tmod_eq_emod_of_nonneg]
    refine callR f4 ?_
    simp (disch := omega) [gA, wrap_i64, wrap_u64, wrap_u32, Int.tdiv_eq_ediv_of_nonneg, Int.tmod_eq_emod_of_nonneg]
    refine callR f5 ?_
    simp (disch := omega) [gA, wrap_i64, wrap_u64, wrap_u32, Int.tdiv_eq_ediv_of_nonneg, Int.tmod_eq_emod_of_nonneg]
    refine hK _ (W.liveK [1, 4, 5, 6, 8, 9] fun K2 hK2 => ?_); clear hK K; simp; refine hK2 _ ?_; clear hK2 K2
    refine W.reg (fun K hK => ?_); simp (disch := omega) [gA, wrap_i64, wrap_u64, wrap_u32, Int.tdiv_eq_ediv_of_nonneg, Int.tmod_eq_emod_of_nonneg]
    refine hK _ ⟨i, _, Gh_fa _ [1, 4, 5, 6, 8, 9], by omega, q2, r2, _, _, rfl, by simp [hr8], by omega, hps, b1, b2, cr2⟩
  · have hj0 : j = 0 := by simp at h; omega
    subst hj0
    simp only [ps] at hps
    rw [← hps]
    refine W.exit ?_; simp only [pblk_exit, pblk_normal, pblk_ret, pseq_exit, pseq_normal, pseq_ret, pnor_exit, pnor_normal, pnor_ret, if_true, if_false, reduceIte, Nat.reduceEqDiff]
    refine W.sreg (fun K hK => ?_); simp (disch := omega) [gA, wrap_i64, wrap_u64, wrap_u32, Int.tdiv_eq_ediv_of_nonneg, Int.tmod_eq_emod_of_nonneg]; refine hK _ (W.liveK [4, 5, 6, 7] fun K2 hK2 => ?_); clear hK K; simp; refine hK2 _ ?_; clear hK2 K2
    refine W.ret ?_
    simp [go]
end Go.Proofs.Ytjnkpfknmncdmaa
