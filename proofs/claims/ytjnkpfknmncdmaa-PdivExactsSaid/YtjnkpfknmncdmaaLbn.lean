import Derived.Test.YtjnkpfknmncdmaaLbk
set_option linter.unusedSimpArgs false
set_option linter.unusedVariables false
namespace Go.Proofs.Ytjnkpfknmncdmaa
open Go Pm

theorem exs_back {x y : List Int} (cy : Cn y) (hy : 0 < y.length) : ∀ (j : Nat), j ≤ x.length → exs y j (List.replicate j 0 ++ x.drop j) (pmul (cutR (x.take j)) y) = some (x, [])
  | 0, _ => by
    have : pmul (cutR (x.take 0)) y = [] := Cn.ext (Cn.pmul _ _) Cn.nil fun t => by rw [V_pmul, V_cutR]; simp [V]
    rw [exs, this]; rfl
  | j + 1, h => by
    have ih := exs_back (x := x) cy hy j (by omega)
    have hly := lead_ne cy hy
    have ht := take_succ_nth (l := x) (i := j) (by omega)
    have hdr : x.drop j = nth x j :: x.drop (j + 1) := by
      rw [List.drop_eq_getElem_cons (l := x) (i := j) (by omega), show nth x j = x[j] from nth_eq (by omega)]
    rw [exs]
    by_cases hv : nth x j = 0
    · have hw : cutR (x.take (j + 1)) = cutR (x.take j) := by rw [ht, hv, cutR_zero]
      rw [hw]
      have h1 := pmul_len (x := cutR (x.take j)) hy
      have h2 := cutR_len (x.take j)
      rw [List.length_take] at h2
      rw [if_pos (by omega), ← ih]
      rw [hdr, hv, List.replicate_succ', List.append_assoc]; rfl
    · have hw : cutR (x.take (j + 1)) = x.take j ++ [nth x j] := by rw [ht]; exact cutR_ne hv _
      have cw : Cn (x.take j ++ [nth x j]) := cutR_ne hv _
      have hwl : (x.take j ++ [nth x j]).length = j + 1 := by simp; omega
      have hlw : lead (x.take j ++ [nth x j]) = nth x j := by
        rw [lead, hwl, Nat.add_sub_cancel, nth_eq (by omega)]
        have : (x.take j).length = j := by simp; omega
        simp [List.getElem_append_right, this]
      rw [hw]
      have hl := pmul_len_eq cw cy (by omega) hy
      have hd := pmul_lead cw cy (by omega) hy
      rw [hwl] at hl
      rw [hlw] at hd
      rw [if_neg (by omega), hd, if_pos (Int.mul_emod_left _ _), Int.mul_ediv_cancel _ hly]
      have e1 : psub (pmul (x.take j ++ [nth x j]) y) (pmul (stp j (nth x j)) y) = pmul (cutR (x.take j)) y := Cn.ext (Cn.psub _ _) (Cn.pmul _ _) fun t => by
        rw [V_psub, V_pmul, V_pmul, V_pmul, V_cutR, V_append, V_one, V_stp, show (x.take j).length = j by simp; omega]
        grind
      have e2 : (List.replicate (j + 1) 0 ++ x.drop (j + 1)).set j (nth x j) = List.replicate j 0 ++ x.drop j := by
        rw [hdr, List.replicate_succ', List.append_assoc, List.set_append_right _ _ (by simp)]
        simp
      rw [e1, e2]
      exact ih
theorem exact_back {x y : List Int} (cx : Cn x) (cy : Cn y) (hy : 0 < y.length) : exact (pmul x y) y = some x := by
  have hk : psk (pmul x y) y = x.length := by
    rcases Nat.eq_zero_or_pos x.length with h | h
    · have : x = [] := List.eq_nil_of_length_eq_zero h
      have e : pmul x y = [] := Cn.ext (Cn.pmul _ _) Cn.nil fun t => by rw [V_pmul, this]; simp [V]
      rw [e, this]; simp [psk]; omega
    · have := pmul_len_eq cx cy h hy
      unfold psk; omega
  have h1 := exs_back (x := x) cy hy x.length (Nat.le_refl _)
  rw [List.take_length, show cutR x = x from cx, List.drop_length, List.append_nil] at h1
  rw [exact, hk, h1, exF, show cutR x = x from cx]
theorem pdm_bd {s s' N : Nat} {a b : List Int} (ha : Bd LL s N a) (hb : Bd LL s' N b) (h0 : 0 < b.length) : Bd LL (s + N * (s' + N + 1)) (N + N) (pdm a b).1 ∧ Bd LL (s + N * (s' + N + 1)) (N + N) (pdm a b).2 := by
  have hk : psk a b ≤ N := by unfold psk; have := ha.len; omega
  obtain ⟨h1, h2⟩ := ps_bd hLL hb (psk a b) s [] a hk ⟨by simp, fun c hc => by cases hc⟩ (ha.mono (by omega) (by omega))
  have h3 := Nat.mul_le_mul_right (s' + N + 1) hk
  exact ⟨h1.mono (by omega) (by omega), h2.mono (by omega) (by omega)⟩
theorem pScaleG_ret {m : RP} {c : Int} (hm : POK m) (hc : Sz c) : Ret env.P 51 [Pg m, I c] (Po (pscale (m.map gv) c)) := by
  have := pScale_ret m hm (decide (c < 0)) (dig LL c.natAbs) hc.lok
  rwa [iv_I] at this

theorem PdivBack_ret (a0 b0 : RP) (ha0 : InP a0) (hb0 : InP b0) : Ret env.P 14 [Pg a0, Pg b0] (.bool true) := by
  have k1 := Cut_ret a0 10 3 ha0 (by decide) (by decide)
  have k2 := Cut_ret b0 7 3 hb0 (by decide) (by decide)
  have sa := Sm.keep ha0 10 3
  have sb := Sm.keep hb0 7 3
  generalize keepP 10 3 a0 = a at *
  generalize keepP 7 3 b0 = b at *
  refine ret_of_Wf (E := env) (fun _ => 0) [(0, Pg a0), (1, Pg b0)] Try.func14 rfl (by kernel_rfl) (by kernel_rfl) (show 2 ≤ 85 by decide) (by simp) ?_
  refine W.sreg (fun K hK => ?_); simp (disch := omega) [gA, wrap_i64, wrap_u64, wrap_u32, Int.tdiv_eq_ediv_of_nonneg, Int.tmod_eq_emod_of_nonneg]; refine hK _ (W.liveK [0, 1] fun K2 hK2 => ?_); clear hK K; simp; refine hK2 _ ?_; clear hK2 K2
  refine W.sreg (fun K hK => ?_)
  simp (disch := omega) [gA, wrap_i64, wrap_u64, wrap_u32, Int.tdiv_eq_ediv_of_nonneg, Int.tmod_eq_emod_of_nonneg]
  refine callR k1 ?_
  simp (disch := omega) [gA, wrap_i64, wrap_u64, wrap_u32, Int.tdiv_eq_ediv_of_nonneg, Int.tmod_eq_emod_of_nonneg]
  refine hK _ (W.liveK [0, 1] fun K2 hK2 => ?_); clear hK K; simp; refine hK2 _ ?_; clear hK2 K2
  refine W.sreg (fun K hK => ?_)
  simp (disch := omega) [gA, wrap_i64, wrap_u64, wrap_u32, Int.tdiv_eq_ediv_of_nonneg, Int.tmod_eq_emod_of_nonneg]
  refine callR k2 ?_
  simp (disch := omega) [gA, wrap_i64, wrap_u64, wrap_u32, Int.tdiv_eq_ediv_of_nonneg, Int.tmod_eq_emod_of_nonneg]
  refine hK _ (W.liveK [0, 1, 5] fun K2 hK2 => ?_); clear hK K; simp; refine hK2 _ ?_; clear hK2 K2
  refine W.seq ?_
  refine W.sreg (fun K hK => ?_); simp (disch := omega) [gA, wrap_i64, wrap_u64, wrap_u32, Int.tdiv_eq_ediv_of_nonneg, Int.tmod_eq_emod_of_nonneg]; refine hK _ (W.liveK [0, 1, 5, 26] fun K2 hK2 => ?_); clear hK K; simp; refine hK2 _ ?_; clear hK2 K2
  refine W.cond ⟨_, rfl, fun h => ?_, fun h => ?_⟩   -- t26
  · refine W.sreg (fun K hK => ?_)
    simp (disch := omega) [gA, wrap_i64, wrap_u64, wrap_u32, Int.tdiv_eq_ediv_of_nonneg, Int.tmod_eq_emod_of_nonneg]
    refine callR wakes6_ret ?_
    simp (disch := omega) [gA, wrap_i64, wrap_u64, wrap_u32, Int.tdiv_eq_ediv_of_nonneg, Int.tmod_eq_emod_of_nonneg]
    refine hK _ (W.liveK [4] fun K2 hK2 => ?_); clear hK K; simp; refine hK2 _ ?_; clear hK2 K2
    refine W.ret ?_
    simp [go]
  have hB : cfs b ≠ [] := by simp at h; exact h
  clear h
  have hB0 : 0 < (cfs b).length := List.length_pos_iff.2 hB
  have pa := sa.pok (by decide) (by decide)
  have pb := sb.pok (by decide) (by decide)
  have r1 := Pseudo_ret a b (s := 3) (s' := 3) (N := 10) pa pb (sa.bd.mono (by decide) (by decide)) (sb.bd.mono (by decide) (by decide)) (by decide)
  rw [if_neg hB] at r1
  have hLd := Lead_ret b pb
  have bl : sz LL (lead (cfs b)) ≤ 3 := lead_bd (sb.bd.cut)
  obtain ⟨bq, br⟩ := pdm_bd (s := 3) (s' := 3) (N := 10) (sa.bd.cut.mono (by decide) (by decide)) (sb.bd.cut.mono (by decide) (by decide)) hB0
  rw [show cutR (a.map gv) = cfs a from rfl, show cutR (b.map gv) = cfs b from rfl] at bq br
  have hpl := pdm_len (a := cfs a) hB0
  have hkk : psk (cfs a) (cfs b) ≤ 10 := by
    have := sa.bd.cut.len
    rw [show cutR (a.map gv) = cfs a from rfl] at this
    unfold psk; omega
  have hV := fun t => V_pdm t (cfs a) (cfs b)
  have bab : Bd LL 16 17 (pmul (a.map gv) (b.map gv)) := (sa.bd.pmul hLL sb.bd).mono (by decide) (by decide)
  have m1 := pMul_ret a b pa pb 3 3 10 7 sa.bd sb.bd (by decide)
  have r2 := Exact_ret ((pmul (a.map gv) (b.map gv)).map rw') b (s := 16) (s' := 3) (N := 17) (PB.of bab (by decide) (by decide)).pok pb (by rw [map_gv_rw]; exact bab) (sb.bd.mono (by decide) (by decide)) (by decide)
  rw [if_neg hB, cfs_rwB, ← Po_eq, show cutR (pmul (a.map gv) (b.map gv)) = _ from Cn.pmul _ _] at r2
  have e1 : pmul (a.map gv) (b.map gv) = pmul (cfs a) (cfs b) := Cn.ext (Cn.pmul _ _) (Cn.pmul _ _) fun t => by rw [V_pmul, V_pmul, V_cfsB, V_cfsB]
  rw [show exact (pmul (a.map gv) (b.map gv)) (cfs b) = some (cfs a) by rw [e1]; exact exact_back (Cn.cut _) (Cn.cut _) hB0, exR] at r2
  have bqb : Bd LL 200 40 (pmul (pdm (cfs a) (cfs b)).1 (b.map gv)) := (bq.pmul hLL sb.bd).mono (by decide) (by decide)
  have m2 := pMul_ret ((pdm (cfs a) (cfs b)).1.map rw') b (PB.of bq (by decide) (by decide)).pok pb _ _ _ _ (by rw [map_gv_rw]; exact bq) sb.bd (by decide)
  rw [map_gv_rw, ← Po_eq] at m2
  have m3 := pAddI_ret (PB.of bqb (by decide) (by decide)) (PB.of br (by decide) (by decide))
  have bqr : Bd LL 201 40 (padd (pmul (pdm (cfs a) (cfs b)).1 (b.map gv)) (pdm (cfs a) (cfs b)).2) := Bd.padd hLL bqb (br.mono (by decide) (by decide))
  have hcV : ∀ t, V t (padd (pmul (pdm (cfs a) (cfs b)).1 (b.map gv)) (pdm (cfs a) (cfs b)).2) = lead (cfs b) ^ psk (cfs a) (cfs b) * V t (cfs a) := fun t => by
    rw [V_padd, V_pmul, ← hV, V_cfsB]
  have hs2 := pSame_ret ((cfs a).map rw') a (PB.of (s := 3) (n := 10) sa.bd.cut (by decide) (by decide)).pok pa
  rw [map_gv_rw, ← Po_eq, show cutR (cfs a) = cutR (a.map gv) from Cn.cut _, decide_eq_true rfl] at hs2
  have hVa := fun t => V_cfsB t a
  generalize padd (pmul (pdm (cfs a) (cfs b)).1 (b.map gv)) (pdm (cfs a) (cfs b)).2 = qbr at *
  generalize pmul (pdm (cfs a) (cfs b)).1 (b.map gv) = qb at *
  generalize pmul (a.map gv) (b.map gv) = ab at *
  generalize (pdm (cfs a) (cfs b)).1 = q at *
  generalize (pdm (cfs a) (cfs b)).2 = r at *
  generalize psk (cfs a) (cfs b) = k at *
  generalize lead (cfs b) = c at *
  generalize cfs a = x at *
  generalize cfs b = y at *
  refine W.skip ?_
  refine W.sreg (fun K hK => ?_)
  simp (disch := omega) [gA, wrap_i64, wrap_u64, wrap_u32, Int.tdiv_eq_ediv_of_nonneg, Int.tmod_eq_emod_of_nonneg]
  refine callR r1 ?_
  simp (disch := omega) [gA, wrap_i64, wrap_u64, wrap_u32, Int.tdiv_eq_ediv_of_nonneg, Int.tmod_eq_emod_of_nonneg]
  refine hK _ (W.liveK [0, 1, 5, 6, 7, 8, 9] fun K2 hK2 => ?_); clear hK K; simp; refine hK2 _ ?_; clear hK2 K2
  refine W.sreg (fun K hK => ?_); simp (disch := omega) [gA, wrap_i64, wrap_u64, wrap_u32, Int.tdiv_eq_ediv_of_nonneg, Int.tmod_eq_emod_of_nonneg]; refine hK _ (W.liveK [0, 1, 5, 6, 7, 8, 9, 10] fun K2 hK2 => ?_); clear hK K; simp; refine hK2 _ ?_; clear hK2 K2
  refine W.seq ?_
  refine W.sreg (fun K hK => ?_); simp (disch := omega) [gA, wrap_i64, wrap_u64, wrap_u32, Int.tdiv_eq_ediv_of_nonneg, Int.tmod_eq_emod_of_nonneg]; refine hK _ (W.liveK [0, 1, 5, 6, 7, 8, 9, 10, 11] fun K2 hK2 => ?_); clear hK K; simp; refine hK2 _ ?_; clear hK2 K2
  refine W.block ?_   -- block 0
  refine W.loopG (fun j σ => ∃ (i : Nat) (m : RP) (rows : Pm.Rows) (clk : Nat), σ = ⟨fa [(0, Pg a), (1, Pg b), (5, PI y), (6, Po q), (7, Po r), (8, .int .i64 k), (9, .int .i64 0), (10, Pg m), (11, .int .i64 i)], rows, clk⟩ ∧
    i + j = k ∧ POK m ∧ Bd LL (3 + 3 * i) 10 (m.map gv) ∧ ∀ t, V t (m.map gv) = c ^ i * V t x) k ?_ ?_
  · exact ⟨_, .refl, 0, a, _, _, rfl, by omega, pa, sa.bd, fun t => by rw [hVa]; simp⟩
  rintro j _ ⟨i, m, rows, clk, rfl, hij, pm, bm, hm⟩
  refine W.seq ?_
  refine W.sreg (fun K hK => ?_); simp (disch := omega) [gA, wrap_i64, wrap_u64, wrap_u32, Int.tdiv_eq_ediv_of_nonneg, Int.tmod_eq_emod_of_nonneg]; refine hK _ (W.liveK [0, 1, 5, 6, 7, 8, 9, 10, 11, 39] fun K2 hK2 => ?_); clear hK K; simp; refine hK2 _ ?_; clear hK2 K2
  refine W.cond ⟨_, rfl, fun h => ?_, fun h => ?_⟩   -- t39
  · have hik : i < k := by simp at h; omega
    clear h
    have hsc := pScaleG_ret (c := c) pm (Nat.lt_of_le_of_lt bl (by decide))
    have bm2 : Bd LL (3 + 3 * (i + 1)) 10 (pscale (m.map gv) c) := (bm.pscale hLL bl).mono (by omega) (by omega)
    have hm2 : ∀ t, V t (pscale (m.map gv) c) = c ^ (i + 1) * V t x := fun t => by rw [V_pscale, hm, Int.pow_succ]; grind
    rw [Po_eq] at hsc
    have pm2 := (PB.of bm2 (by omega) (by omega)).pok
    have bm3 : Bd LL (3 + 3 * (i + 1)) 10 (((pscale (m.map gv) c).map rw').map gv) := by rw [map_gv_rw]; exact bm2
    have hm3 : ∀ t, V t (((pscale (m.map gv) c).map rw').map gv) = c ^ (i + 1) * V t x := fun t => by rw [map_gv_rw]; exact hm2 t
    generalize (pscale (m.map gv) c).map rw' = m2 at *
    refine W.skip ?_
    refine W.seq ?_
    refine W.block ?_   -- block 1
    refine W.reg (fun K hK => ?_)
    simp (disch := omega) [gA, wrap_i64, wrap_u64, wrap_u32, Int.tdiv_eq_ediv_of_nonneg, Int.tmod_eq_emod_of_nonneg]
    refine callR hLd ?_
    simp (disch := omega) [gA, wrap_i64, wrap_u64, wrap_u32, Int.tdiv_eq_ediv_of_nonneg, Int.tmod_eq_emod_of_nonneg]
    refine callR hsc ?_
    simp (disch := omega) [gA, wrap_i64, wrap_u64, wrap_u32, Int.tdiv_eq_ediv_of_nonneg, Int.tmod_eq_emod_of_nonneg]
    refine hK _ (W.liveK [0, 1, 5, 6, 7, 8, 9, 10, 11] fun K2 hK2 => ?_); clear hK K; simp; refine hK2 _ ?_; clear hK2 K2
    refine W.reg (fun K hK => ?_); simp (disch := omega) [gA, wrap_i64, wrap_u64, wrap_u32, Int.tdiv_eq_ediv_of_nonneg, Int.tmod_eq_emod_of_nonneg]
    refine hK _ ⟨j - 1, _, Gh_fa _ [0, 1, 5, 6, 7, 8, 9, 10, 11], by omega, i + 1, m2, _, _, rfl, by omega, pm2, bm3, hm3⟩
  · have hik : i = k := by simp at h; omega
    subst hik
    clear h
    have hs1 := pSame_ret m (qbr.map rw') pm (PB.of bqr (by decide) (by decide)).pok
    rw [map_gv_rw, ← Po_eq, decide_eq_true (show cutR (m.map gv) = cutR qbr from Cn.ext (Cn.cut _) (Cn.cut _) fun t => by rw [V_cutR, V_cutR, hm, hcV])] at hs1
    have hl1 : (r.length : Int) < (if (y.length : Int) < 1 then 1 else (y.length : Int)) := by split <;> omega
    refine W.exit ?_; simp only [pblk_exit, pblk_normal, pblk_ret, pseq_exit, pseq_normal, pseq_ret, pnor_exit, pnor_normal, pnor_ret, if_true, if_false, reduceIte, Nat.reduceEqDiff]
    refine W.sreg (fun K hK => ?_)
    simp (disch := omega) [gA, wrap_i64, wrap_u64, wrap_u32, Int.tdiv_eq_ediv_of_nonneg, Int.tmod_eq_emod_of_nonneg]
    refine callR m1 ?_
    simp (disch := omega) [gA, wrap_i64, wrap_u64, wrap_u32, Int.tdiv_eq_ediv_of_nonneg, Int.tmod_eq_emod_of_nonneg]
    refine callR r2 ?_
    simp (disch := omega) [gA, wrap_i64, wrap_u64, wrap_u32, Int.tdiv_eq_ediv_of_nonneg, Int.tmod_eq_emod_of_nonneg]
    refine hK _ (W.liveK [0, 1, 5, 6, 7, 9, 10, 12, 13] fun K2 hK2 => ?_); clear hK K; simp; refine hK2 _ ?_; clear hK2 K2
    refine W.sregJ (fun σ => ∃ (rows : Pm.Rows) (clk : Nat), σ = ⟨fa [(4, .bool true)], rows, clk⟩) (fun K hK => ?_) ?_
    · simp (disch := omega) [gA, wrap_i64, wrap_u64, wrap_u32, Int.tdiv_eq_ediv_of_nonneg, Int.tmod_eq_emod_of_nonneg]
      refine callR m2 ?_
      simp (disch := omega) [gA, wrap_i64, wrap_u64, wrap_u32, Int.tdiv_eq_ediv_of_nonneg, Int.tmod_eq_emod_of_nonneg]
      refine callR m3 ?_
      simp (disch := omega) [gA, wrap_i64, wrap_u64, wrap_u32, Int.tdiv_eq_ediv_of_nonneg, Int.tmod_eq_emod_of_nonneg]
      refine callR hs1 ?_
      simp (disch := omega) [gA, wrap_i64, wrap_u64, wrap_u32, Int.tdiv_eq_ediv_of_nonneg, Int.tmod_eq_emod_of_nonneg, hl1]
      refine callR hs2 ?_
      simp (disch := omega) [gA, wrap_i64, wrap_u64, wrap_u32, Int.tdiv_eq_ediv_of_nonneg, Int.tmod_eq_emod_of_nonneg]
      refine callR wakes6_ret ?_
      simp (disch := omega) [gA, wrap_i64, wrap_u64, wrap_u32, Int.tdiv_eq_ediv_of_nonneg, Int.tmod_eq_emod_of_nonneg]
      exact hK _ _ (Gh_fa _ [4]) ⟨_, _, rfl⟩
    rintro _ ⟨rows, clk, rfl⟩
    refine W.ret ?_
    simp [go]
end Go.Proofs.Ytjnkpfknmncdmaa
