import Derived.Test.YtjnkpfknmncdmaaLcc
set_option linter.unusedSimpArgs false
set_option linter.unusedVariables false
namespace Go.Proofs.Ytjnkpfknmncdmaa
open Go Pm

theorem exs_sound {y : List Int} : ∀ (i : Nat) (q a q' a' : List Int), (∀ j, j < i → nth q j = 0) → i ≤ q.length → exs y i q a = some (q', a') → ∀ t, V t q' * V t y + V t a' = V t q * V t y + V t a
  | 0, q, a, q', a', _, _, h, t => by
    simp only [exs, Option.some.injEq, Prod.mk.injEq] at h
    rw [h.1, h.2]
  | i + 1, q, a, q', a', h0, hi, h, t => by
    rw [exs] at h
    split at h
    · exact exs_sound i q a q' a' (fun j hj => h0 j (by omega)) (by omega) h t
    · split at h
      · have h1 := exs_sound i _ _ q' a' (fun j hj => by rw [nth_set_ne (by omega)]; exact h0 j (by omega)) (by simp; omega) h t
        rw [h1, V_set (by omega), h0 i (by omega), V_psub, V_pmul, V_stp]
        grind
      · cases h
theorem exact_some {x y q : List Int} (h : exact x y = some q) : Cn q ∧ ∀ t, V t x = V t q * V t y := by
  unfold exact at h
  cases hx : exs y (psk x y) (List.replicate (psk x y) 0) x with
  | none => rw [hx] at h; cases h
  | some z =>
    obtain ⟨q', a'⟩ := z
    rw [hx] at h
    cases a' with
    | cons c l => cases h
    | nil =>
      simp only [exF, Option.some.injEq] at h
      subst h
      refine ⟨Cn.cut _, fun t => ?_⟩
      have := exs_sound _ _ _ _ _ (fun j hj => by rw [nth_eq (by simpa using hj)]; simp) (by simp) hx t
      rw [V_rep] at this
      rw [V_cutR]
      have h0 : V t ([] : List Int) = 0 := rfl
      rw [h0] at this
      omega
theorem dmd_some {x y q : List Int} (cx : Cn x) (cy : Cn y) (hy : 0 < y.length) (cq : Cn q) (h : ∀ t, V t x = V t q * V t y) : qd (cutR (dmd x y).Q) (dmd x y).D = qs q ∧ (dmd x y).r = [] := by
  obtain ⟨hI, hr⟩ := dmd_inv cx cy hy
  generalize dmd x y = σ at *
  have hv := hI.v
  have e : ∀ t, V t σ.r = V t y * V t (psub (q.map (· * σ.D)) σ.Q) := fun t => by
    have h1 := hv t
    rw [h] at h1
    rw [V_psub, V_mapmul]
    grind
  have h1 := mul_small hI.c cy hy e hr
  have h2 : cutR (psub (q.map (· * σ.D)) σ.Q) = [] := mul_zero_cut cy hy fun t => by rw [← e, h1]; rfl
  have e2 : cutR σ.Q = q.map (· * σ.D) := Cn.ext (Cn.cut _) (Cn_map_mul cq hI.d) fun t => by rw [V_cutR]; exact (V_eq_cut h2 t).symm
  rw [e2]
  exact ⟨qd_mapmul hI.d q, h1⟩
theorem den_one {q : Rat} (h : q.den = 1) : q = (q.num : Rat) := by
  refine Rat.ext ?_ ?_
  · rw [Rat.num_intCast]
  · rw [Rat.den_intCast, h]
theorem dms_Ql (y : List Int) : ∀ (n : Nat) (σ : DS), (dms y n σ).Q.length = σ.Q.length
  | 0, _ => rfl
  | n + 1, σ => by
    rw [dms]
    split
    · rfl
    · rw [dms_Ql y n]; simp [dst]
theorem dmd_Ql (x y : List Int) : (dmd x y).Q.length = psk x y := by rw [dmd, dms_Ql]; simp
theorem dmd_none {x y : List Int} (cx : Cn x) (cy : Cn y) (hy : 0 < y.length) (h : exact x y = none) (hr : (dmd x y).r = []) (hd : ∀ q ∈ qd (cutR (dmd x y).Q) (dmd x y).D, q.den = 1) : False := by
  obtain ⟨hI, _⟩ := dmd_inv cx cy hy
  generalize dmd x y = σ at *
  have hD := hI.d
  have hv := hI.v
  obtain ⟨w, hw⟩ : ∃ w : List Int, w.map (· * σ.D) = cutR σ.Q := by
    refine ⟨(cutR σ.Q).map fun v => (qmk v σ.D).num, ?_⟩
    rw [List.map_map]
    conv => rhs; rw [← List.map_id (cutR σ.Q)]
    refine List.map_congr_left fun v hv => ?_
    have h1 := den_one (hd (qmk v σ.D) (List.mem_map.2 ⟨v, hv, rfl⟩))
    simp only [Function.comp_apply, id_eq]
    generalize (qmk v σ.D).num = n at *
    rw [qmk_div hD] at h1
    have h2 := cast_ne hD
    have h3 : (v : Rat) = (n : Rat) * (σ.D : Rat) := by
      have h4 : (v : Rat) / (σ.D : Rat) * σ.D = n * σ.D := by rw [h1]
      rwa [Rat.div_mul_cancel h2] at h4
    exact_mod_cast h3.symm
  have e : x = pmul (cutR w) y := Cn.ext cx (Cn.pmul _ _) fun t => by
    have h1 := hv t
    rw [hr, ← V_cutR σ.Q, ← hw, V_mapmul] at h1
    have h0 : V t ([] : List Int) = 0 := rfl
    rw [h0] at h1
    rw [V_pmul, V_cutR]
    exact Int.eq_of_mul_eq_mul_left hD (by grind)
  have := exact_back (Cn.cut w) cy hy
  rw [← e, h] at this
  cases this

theorem exs_bd {y : List Int} {s' N : Nat} (hy : Bd 2 s' N y) : ∀ (i s : Nat) (q a q' a' : List Int), i ≤ N → (∀ c ∈ q, sz 2 c ≤ s) → Bd 2 s (N + N) a → exs y i q a = some (q', a') → ∀ c ∈ q', sz 2 c ≤ s + i * (s' + N + 1)
  | 0, s, q, a, q', a', _, hq, _, h => fun c hc => by
    simp only [exs, Option.some.injEq, Prod.mk.injEq] at h
    rw [← h.1] at hc
    have := hq c hc; omega
  | i + 1, s, q, a, q', a', hi, hq, ha, h => fun c hc => by
    rw [exs] at h
    split at h
    · have := exs_bd hy i s q a q' a' (by omega) hq ha h c hc
      rw [Nat.add_mul]; omega
    · split at h
      · have hv : sz 2 (lead a / lead y) ≤ s := Nat.le_trans (sz_mono (by decide) (Int.natAbs_ediv_le_natAbs _ _)) (lead_bd ha)
        have h1 : Bd 2 (s + s' + N) (N + N) (pmul (stp i (lead a / lead y)) y) := ((Bd.stp hv i).pmul (by decide) hy).mono (by omega) (by omega)
        have h2 : Bd 2 (s + (s' + N + 1)) (N + N) (psub a (pmul (stp i (lead a / lead y)) y)) := (Bd.psub (by decide) (ha.mono (show s ≤ s + s' + N by omega) (Nat.le_refl _)) h1).mono (by omega) (Nat.le_refl _)
        have := exs_bd hy i (s + (s' + N + 1)) _ _ q' a' (by omega) (fun d hd => by
          rcases List.mem_or_eq_of_mem_set hd with h3 | h3
          · have := hq d h3; omega
          · rw [h3]; omega) h2 h c hc
        rw [Nat.add_mul]; omega
      · cases h
theorem exact_sz {x y q : List Int} {s s' N : Nat} (hx : Bd 2 s N x) (hy : Bd 2 s' N y) (hy0 : 0 < y.length) (h : exact x y = some q) : ∀ c ∈ q, sz 2 c ≤ s + N * (s' + N + 1) := fun c hc => by
  unfold exact at h
  have hk : psk x y ≤ N := by have := hx.len; unfold psk; omega
  cases hz : exs y (psk x y) (List.replicate (psk x y) 0) x with
  | none => rw [hz] at h; cases h
  | some z =>
    obtain ⟨q', a'⟩ := z
    rw [hz] at h
    cases a' with
    | cons d l => cases h
    | nil =>
      simp only [exF, Option.some.injEq] at h
      subst h
      have := exs_bd hy _ s _ _ _ _ hk (fun d hd => by rw [(List.mem_replicate.1 hd).2, sz_zero]; omega) (hx.mono (Nat.le_refl _) (by omega)) hz c (cutR_sub _ _ hc)
      have h2 : psk x y * (s' + N + 1) ≤ N * (s' + N + 1) := Nat.mul_le_mul_right _ hk
      omega

theorem PdivExacts_ret (a0 b0 : RP) (ev : Bool) (ha0 : InP a0) (hb0 : InP b0) : Ret env.P 11 [Pg a0, Pg b0, .bool ev] (.bool true) := by
  have k1 := Cut_ret a0 6 2 ha0 (by decide) (by decide)
  have k2 := Cut_ret b0 5 2 hb0 (by decide) (by decide)
  have sa := Sm.keep ha0 6 2
  have sb := Sm.keep hb0 5 2
  generalize keepP 6 2 a0 = a at *
  generalize keepP 5 2 b0 = b at *
  have pa := sa.pok (by decide) (by decide)
  have pb := sb.pok (by decide) (by decide)
  have ba2 : Bd 2 64 6 (cfs a) := sa.bd2.cut
  have bb2 : Bd 2 64 5 (cfs b) := sb.bd2.cut
  have cA : Cn (cfs a) := Cn.cut _
  have cB : Cn (cfs b) := Cn.cut _
  have bm : Bd 2 150 11 (pmul (cfs a) (cfs b)) := (ba2.pmul (by decide) bb2).mono (by decide) (by decide)
  have bmL : Bd LL 10 11 (pmul (cfs a) (cfs b)) := (Bd.pmul hLL (sa.bd.cut) (sb.bd.cut)).mono (by decide) (by decide)
  have hm := qMulI_ret (cfs a) (cfs b) _ _ _ _ ba2 bb2 (by decide)
  have hto := qTo_ret (pmul (cfs a) (cfs b)) (fun c hc => Z_of_LL (Nat.le_trans (bmL.sz c hc) (by decide))) (by have := bm.len; omega)
  refine ret_of_Wf (E := env) (fun _ => 0) [(0, Pg a0), (1, Pg b0), (2, .bool ev)] Try.func11 rfl (by kernel_rfl) (by kernel_rfl) (show 3 ≤ 102 by decide) (by simp) ?_
  refine W.sreg (fun K hK => ?_); simp (disch := omega) [gA, wrap_i64, wrap_u64, wrap_u32, Int.tdiv_eq_ediv_of_nonneg, Int.tmod_eq_emod_of_nonneg]; refine hK _ (W.liveK [0, 1, 2] fun K2 hK2 => ?_); clear hK K; simp; refine hK2 _ ?_; clear hK2 K2
  refine W.sreg (fun K hK => ?_)
  simp (disch := omega) [gA, wrap_i64, wrap_u64, wrap_u32, Int.tdiv_eq_ediv_of_nonneg, Int.tmod_eq_emod_of_nonneg]
  refine callR k1 ?_
  simp (disch := omega) [gA, wrap_i64, wrap_u64, wrap_u32, Int.tdiv_eq_ediv_of_nonneg, Int.tmod_eq_emod_of_nonneg]
  refine hK _ (W.liveK [0, 1, 2, 7] fun K2 hK2 => ?_); clear hK K; simp; refine hK2 _ ?_; clear hK2 K2
  refine W.sreg (fun K hK => ?_)
  simp (disch := omega) [gA, wrap_i64, wrap_u64, wrap_u32, Int.tdiv_eq_ediv_of_nonneg, Int.tmod_eq_emod_of_nonneg]
  refine callR k2 ?_
  simp (disch := omega) [gA, wrap_i64, wrap_u64, wrap_u32, Int.tdiv_eq_ediv_of_nonneg, Int.tmod_eq_emod_of_nonneg]
  refine hK _ (W.liveK [0, 1, 2, 7, 8] fun K2 hK2 => ?_); clear hK K; simp; refine hK2 _ ?_; clear hK2 K2
  refine W.seqJ (fun σ => ∃ (a1 : RP) (rows : Pm.Rows) (clk : Nat), σ = ⟨fa [(0, Pg a1), (1, Pg b), (2, .bool ev), (7, PI (cfs a1)), (8, PI (cfs b))], rows, clk⟩ ∧ POK a1 ∧ Bd LL 10 11 (a1.map gv) ∧ Bd 2 150 11 (cfs a1) ∧ (ev = true → cfs a1 = pmul (cfs a) (cfs b))) ?_ ?_
  · refine W.sreg (fun K hK => ?_); simp (disch := omega) [gA, wrap_i64, wrap_u64, wrap_u32, Int.tdiv_eq_ediv_of_nonneg, Int.tmod_eq_emod_of_nonneg]; refine hK _ (W.liveK [0, 1, 2, 7, 8, 25] fun K2 hK2 => ?_); clear hK K; simp; refine hK2 _ ?_; clear hK2 K2
    refine W.cond ⟨_, rfl, fun h => ?_, fun h => ?_⟩   -- t25
    · have pr := (PB.of bmL (by decide) (by decide)).pok
      have e1 : cfs ((pmul (cfs a) (cfs b)).map rw') = pmul (cfs a) (cfs b) := by rw [cfs_rwB]; exact Cn.pmul _ _
      have e2 : ((pmul (cfs a) (cfs b)).map rw').map gv = pmul (cfs a) (cfs b) := by rw [map_gv_rw]
      rw [Po_eq] at hto
      generalize hz : pmul (cfs a) (cfs b) = z at *
      refine W.sreg (fun K hK => ?_)
      simp (disch := omega) [gA, wrap_i64, wrap_u64, wrap_u32, Int.tdiv_eq_ediv_of_nonneg, Int.tmod_eq_emod_of_nonneg]
      refine callR hm ?_
      simp (disch := omega) [gA, wrap_i64, wrap_u64, wrap_u32, Int.tdiv_eq_ediv_of_nonneg, Int.tmod_eq_emod_of_nonneg]
      refine hK _ (W.liveK [1, 2, 7, 8] fun K2 hK2 => ?_); clear hK K; simp; refine hK2 _ ?_; clear hK2 K2
      refine W.reg (fun K hK => ?_)
      simp (disch := omega) [gA, wrap_i64, wrap_u64, wrap_u32, Int.tdiv_eq_ediv_of_nonneg, Int.tmod_eq_emod_of_nonneg]
      refine callR hto ?_
      simp (disch := omega) [gA, wrap_i64, wrap_u64, wrap_u32, Int.tdiv_eq_ediv_of_nonneg, Int.tmod_eq_emod_of_nonneg]
      refine hK _ ⟨_, Gh_fa _ [0, 1, 2, 7, 8], z.map rw', _, _, by rw [e1]; rfl, pr, by rw [e2]; exact bmL, by rw [e1]; exact bm, fun _ => e1⟩
    · refine W.skip ?_
      exact ⟨_, Gh_fa _ [0, 1, 2, 7, 8], a, _, _, rfl, pa, sa.bd.mono (by decide) (by decide), ba2.mono (by decide) (by decide), fun h2 => by rw [h] at h2; cases h2⟩
  rintro _ ⟨a1, rows, clk, rfl, p1, bL, b2, hev⟩
  have r1 := Exact_ret a1 b (s := 10) (s' := 3) (N := 11) p1 pb bL (sb.bd.mono (by decide) (by decide)) (by decide)
  have c1 : Cn (cfs a1) := Cn.cut _
  by_cases hB : cfs b = []
  · rw [if_pos hB] at r1
    refine W.sreg (fun K hK => ?_)
    simp (disch := omega) [gA, wrap_i64, wrap_u64, wrap_u32, Int.tdiv_eq_ediv_of_nonneg, Int.tmod_eq_emod_of_nonneg]
    refine callR r1 ?_
    simp (disch := omega) [gA, wrap_i64, wrap_u64, wrap_u32, Int.tdiv_eq_ediv_of_nonneg, Int.tmod_eq_emod_of_nonneg]
    refine hK _ (W.liveK [2, 7, 8, 9, 10] fun K2 hK2 => ?_); clear hK K; simp; refine hK2 _ ?_; clear hK2 K2
    refine W.seq ?_
    refine W.sreg (fun K hK => ?_); simp (disch := omega) [gA, wrap_i64, wrap_u64, wrap_u32, Int.tdiv_eq_ediv_of_nonneg, Int.tmod_eq_emod_of_nonneg, hB]; refine hK _ (W.liveK [2, 7, 8, 9, 10, 39] fun K2 hK2 => ?_); clear hK K; simp; refine hK2 _ ?_; clear hK2 K2
    refine W.cond ⟨_, rfl, fun h => ?_, fun h => ?_⟩   -- t39
    · refine W.sreg (fun K hK => ?_)
      simp (disch := omega) [gA, wrap_i64, wrap_u64, wrap_u32, Int.tdiv_eq_ediv_of_nonneg, Int.tmod_eq_emod_of_nonneg]
      refine callR wakes6_ret ?_
      simp (disch := omega) [gA, wrap_i64, wrap_u64, wrap_u32, Int.tdiv_eq_ediv_of_nonneg, Int.tmod_eq_emod_of_nonneg]
      refine hK _ (W.liveK [6] fun K2 hK2 => ?_); clear hK K; simp; refine hK2 _ ?_; clear hK2 K2
      refine W.ret ?_
      simp [go]
    · simp at h
  rw [if_neg hB] at r1
  have hB0 : 0 < (cfs b).length := List.length_pos_iff.2 hB
  have hD := qDivMod_ret (cfs a1) (cfs b) (s := 150) (s' := 64) (N := 11) b2 (bb2.mono (by decide) (by decide)) c1 cB hB0 (by decide) (by decide)
  obtain ⟨hI, _⟩ := dmd_inv c1 cB hB0
  -- what comes out
  obtain ⟨u, hu⟩ : ∃ u, u = qd (cutR (dmd (cfs a1) (cfs b)).Q) (dmd (cfs a1) (cfs b)).D := ⟨_, rfl⟩
  obtain ⟨v, hv⟩ : ∃ v, v = qd (dmd (cfs a1) (cfs b)).r (dmd (cfs a1) (cfs b)).D := ⟨_, rfl⟩
  have hv0 : v = [] ↔ (dmd (cfs a1) (cfs b)).r = [] := by rw [hv]; simp
  rw [← hu, ← hv] at hD
  obtain ⟨_, hDs⟩ := dmd_bd b2 (by decide) (bb2.mono (Nat.le_refl _) (show 5 ≤ 11 by decide)) hB0 c1 cB
  have hub : ∀ q ∈ u, Z (q.den : Int) := fun q hq => by
    rw [hu] at hq
    simp only [List.mem_map] at hq
    obtain ⟨w, _, rfl⟩ := hq
    refine Nat.lt_of_le_of_lt (sz_mono (by decide) ?_) (Nat.lt_of_le_of_lt hDs (by decide))
    rw [qmk_den _ _ hI.d]
    refine Nat.le_trans (Int.natAbs_ediv_le_natAbs _ _) ?_
    split <;> simp
  have hul : u.length ≤ 12 := by
    rw [hu]
    have h1 := cutR_len (dmd (cfs a1) (cfs b)).Q
    rw [dmd_Ql] at h1
    have h2 := b2.len
    unfold psk at h1
    simp only [List.length_map]
    omega
  have hsome : ∀ q, exact (cfs a1) (cfs b) = some q → u = qs q ∧ v = [] := fun q hq => by
    obtain ⟨g1, g2⟩ := exact_some hq
    obtain ⟨g3, g4⟩ := dmd_some c1 cB hB0 g1 g2
    exact ⟨by rw [hu, g3], hv0.2 g4⟩
  have hnone : exact (cfs a1) (cfs b) = none → v = [] → (∀ q ∈ u, q.den = 1) → False := fun h1 h2 h3 => dmd_none c1 cB hB0 h1 (hv0.1 h2) (by rw [← hu]; exact h3)
  have heven : ev = true → exact (cfs a1) (cfs b) ≠ none := fun h1 h2 => by
    rw [hev h1, exact_back cA cB hB0] at h2; cases h2
  have hq0 : ∀ q, exact (cfs a1) (cfs b) = some q → Ret env.P 35 [PI q, Po q] (.bool true) := fun q hq => by
    obtain ⟨g1, g2⟩ := hsome q hq
    have hl : q.length ≤ 12 := by have := hul; rw [g1] at this; simpa using this
    have hz : ∀ c ∈ q, Z c := fun c hc => Nat.lt_of_le_of_lt (exact_sz b2 (bb2.mono (Nat.le_refl _) (show 5 ≤ 11 by decide)) hB0 hq c hc) (by decide)
    have := is_ret q q (by omega) (by omega) hz hz
    simpa using this
  rw [PP_qs, PP_qs] at hD
  clear hu hv hv0
  have hVB : exact (cfs a1) (cfs b) = none → Ret env.P 49 [Pg a1, Pg b] (.tup [Po [], .int .i64 3]) := fun h => by rw [h] at r1; exact r1
  have hVS : ∀ q, exact (cfs a1) (cfs b) = some q → Ret env.P 49 [Pg a1, Pg b] (.tup [Po q, .int .i64 0]) := fun q h => by rw [h] at r1; exact r1
  obtain ⟨eq, eo, hr1⟩ : ∃ (eq : List Int) (eo : Int), Ret env.P 49 [Pg a1, Pg b] (.tup [Po eq, .int .i64 eo]) ∧
      ((v = [] ∧ (∀ q ∈ u, q.den = 1) ∧ eo = 0 ∧ u = qs eq ∧ Ret env.P 35 [PI eq, Po eq] (.bool true)) ∨ (¬ (v = [] ∧ ∀ q ∈ u, q.den = 1) ∧ eo = 3 ∧ eq = [] ∧ ev = false)) := by
    cases he : exact (cfs a1) (cfs b) with
    | none =>
      refine ⟨[], 3, hVB he, .inr ⟨fun h => hnone he h.1 h.2, rfl, rfl, ?_⟩⟩
      cases hx : ev with
      | false => rfl
      | true => exact absurd he (heven hx)
    | some q =>
      obtain ⟨g1, g2⟩ := hsome q he
      refine ⟨q, 0, hVS q he, .inl ⟨g2, ?_, rfl, g1, hq0 q he⟩⟩
      rw [g1]
      intro z hz
      simp only [qs, List.mem_map] at hz
      obtain ⟨c, _, rfl⟩ := hz
      exact Rat.den_intCast _
  obtain ⟨hr1, hcase⟩ := hr1
  clear hnone hsome heven hq0 hVB hVS r1 hI b2 bL hev p1 hDs
  generalize cfs a1 = x at *
  generalize cfs b = y at *
  refine W.sreg (fun K hK => ?_)
  simp (disch := omega) [gA, wrap_i64, wrap_u64, wrap_u32, Int.tdiv_eq_ediv_of_nonneg, Int.tmod_eq_emod_of_nonneg]
  refine callR hr1 ?_
  simp (disch := omega) [gA, wrap_i64, wrap_u64, wrap_u32, Int.tdiv_eq_ediv_of_nonneg, Int.tmod_eq_emod_of_nonneg]
  refine hK _ (W.liveK [2, 7, 8, 9, 10] fun K2 hK2 => ?_); clear hK K; simp; refine hK2 _ ?_; clear hK2 K2
  refine W.seq ?_
  refine W.sreg (fun K hK => ?_); simp (disch := omega) [gA, wrap_i64, wrap_u64, wrap_u32, Int.tdiv_eq_ediv_of_nonneg, Int.tmod_eq_emod_of_nonneg]; refine hK _ (W.liveK [2, 7, 8, 9, 10, 39] fun K2 hK2 => ?_); clear hK K; simp; refine hK2 _ ?_; clear hK2 K2
  refine W.cond ⟨_, rfl, fun h => ?_, fun h => ?_⟩   -- t39
  · simp at h; exact absurd h hB
  clear h
  refine W.skip ?_
  refine W.sreg (fun K hK => ?_)
  simp (disch := omega) [gA, wrap_i64, wrap_u64, wrap_u32, Int.tdiv_eq_ediv_of_nonneg, Int.tmod_eq_emod_of_nonneg]
  refine callR hD ?_
  simp (disch := omega) [gA, wrap_i64, wrap_u64, wrap_u32, Int.tdiv_eq_ediv_of_nonneg, Int.tmod_eq_emod_of_nonneg]
  refine hK _ (W.liveK [2, 9, 10, 11, 12] fun K2 hK2 => ?_); clear hK K; simp; refine hK2 _ ?_; clear hK2 K2
  obtain ⟨vb, hvb⟩ : ∃ vb, ((v.length : Int) == 0) = vb := ⟨_, rfl⟩
  have hv1 : v = [] ↔ vb = true := by
    rw [← hvb]; simp
  rw [hv1] at hcase
  refine W.sreg (fun K hK => ?_); simp (disch := omega) [gA, wrap_i64, wrap_u64, wrap_u32, Int.tdiv_eq_ediv_of_nonneg, Int.tmod_eq_emod_of_nonneg, hvb]; refine hK _ (W.liveK [2, 9, 10, 11, 13] fun K2 hK2 => ?_); clear hK K; simp; refine hK2 _ ?_; clear hK2 K2
  refine W.seq ?_
  refine W.sreg (fun K hK => ?_); simp (disch := omega) [gA, wrap_i64, wrap_u64, wrap_u32, Int.tdiv_eq_ediv_of_nonneg, Int.tmod_eq_emod_of_nonneg]; refine hK _ (W.liveK [2, 9, 10, 11, 13, 60, 61] fun K2 hK2 => ?_); clear hK K; simp; refine hK2 _ ?_; clear hK2 K2
  refine W.block ?_   -- block 0
  refine W.loopG (fun k σ => ∃ (i : Nat) (rows : Pm.Rows) (clk : Nat), σ = ⟨fa [(2, .bool ev), (9, Po eq), (10, .int .i64 eo), (11, PP u), (13, .bool (vb && (u.take i).all fun q => decide (q.den = 1))), (60, .int .i64 u.length), (61, .int .i64 i)], rows, clk⟩ ∧ i + k = u.length) u.length ?_ ?_
  · exact ⟨_, .refl, 0, _, _, by rw [List.take_zero, List.all_nil, Bool.and_true]; rfl, by omega⟩
  rintro k _ ⟨i, rows, clk, rfl, hik⟩
  refine W.sreg (fun K hK => ?_); simp (disch := omega) [gA, wrap_i64, wrap_u64, wrap_u32, Int.tdiv_eq_ediv_of_nonneg, Int.tmod_eq_emod_of_nonneg]; refine hK _ (W.liveK [2, 9, 10, 11, 13, 60, 61, 62] fun K2 hK2 => ?_); clear hK K; simp; refine hK2 _ ?_; clear hK2 K2
  refine W.seq ?_
  refine W.cond ⟨_, rfl, fun h => ?_, fun h => ?_⟩   -- t62
  · have hi : i < u.length := by simp at h; omega
    clear h
    have e : (vb && (u.take (i + 1)).all fun q => decide (q.den = 1)) = ((vb && (u.take i).all fun q => decide (q.den = 1)) && decide ((nth u i).den = 1)) := by
      rw [take_succ_nth hi, List.all_append, List.all_cons, List.all_nil, Bool.and_true, Bool.and_assoc]
    have zd := hub _ (nth_mem hi)
    have h1 := rOf_ret 1 (by decide) (by decide)
    have h2 := rCmp_ret (nth u i).den 1 zd (Z_small (by decide))
    have h3 : (cmp3 ((nth u i).den : Int) 1 == 0) = decide ((nth u i).den = 1) := by
      rw [Bool.eq_iff_iff, beq_iff_eq, cmp3_zero, decide_eq_true_iff]; omega
    rw [RI_den] at h2
    generalize (vb && (u.take i).all fun q => decide (q.den = 1)) = cb at *
    refine W.skip ?_
    refine W.seq ?_
    refine W.block ?_   -- block 1
    refine W.sreg (fun K hK => ?_); simp (disch := omega) [gA, wrap_i64, wrap_u64, wrap_u32, Int.tdiv_eq_ediv_of_nonneg, Int.tmod_eq_emod_of_nonneg]; refine hK _ (W.liveK [2, 9, 10, 11, 13, 14, 60, 61] fun K2 hK2 => ?_); clear hK K; simp; refine hK2 _ ?_; clear hK2 K2
    refine W.drw (fun K hK => ?_)
    cases cb with
    | true =>
      simp (disch := omega) [gA, wrap_i64, wrap_u64, wrap_u32, Int.tdiv_eq_ediv_of_nonneg, Int.tmod_eq_emod_of_nonneg]
      refine callR h1 ?_
      simp (disch := omega) [gA, wrap_i64, wrap_u64, wrap_u32, Int.tdiv_eq_ediv_of_nonneg, Int.tmod_eq_emod_of_nonneg]
      refine callR h2 ?_
      simp (disch := omega) [gA, wrap_i64, wrap_u64, wrap_u32, Int.tdiv_eq_ediv_of_nonneg, Int.tmod_eq_emod_of_nonneg, h3]
      refine hK _ (W.liveK [2, 9, 10, 11, 13, 60, 61] fun K2 hK2 => ?_); clear hK K; simp; refine hK2 _ ?_; clear hK2 K2
      refine W.reg (fun K hK => ?_); simp (disch := omega) [gA, wrap_i64, wrap_u64, wrap_u32, Int.tdiv_eq_ediv_of_nonneg, Int.tmod_eq_emod_of_nonneg]
      refine hK _ ⟨k - 1, _, Gh_fa _ [2, 9, 10, 11, 13, 60, 61], by omega, i + 1, _, _, by rw [e]; rfl, by omega⟩
    | false =>
      simp (disch := omega) [gA, wrap_i64, wrap_u64, wrap_u32, Int.tdiv_eq_ediv_of_nonneg, Int.tmod_eq_emod_of_nonneg]
      refine hK _ (W.liveK [2, 9, 10, 11, 13, 60, 61] fun K2 hK2 => ?_); clear hK K; simp; refine hK2 _ ?_; clear hK2 K2
      refine W.reg (fun K hK => ?_); simp (disch := omega) [gA, wrap_i64, wrap_u64, wrap_u32, Int.tdiv_eq_ediv_of_nonneg, Int.tmod_eq_emod_of_nonneg]
      refine hK _ ⟨k - 1, _, Gh_fa _ [2, 9, 10, 11, 13, 60, 61], by omega, i + 1, _, _, by rw [e]; rfl, by omega⟩
  · have hi : i = u.length := by simp at h; omega
    subst hi
    clear h
    refine W.exit ?_; simp only [pblk_exit, pblk_normal, pblk_ret, pseq_exit, pseq_normal, pseq_ret, pnor_exit, pnor_normal, pnor_ret, if_true, if_false, reduceIte, Nat.reduceEqDiff]
    refine W.seq ?_
    rw [List.take_length]
    have hfit : (vb && u.all fun q => decide (q.den = 1)) = true ↔ (vb = true ∧ ∀ q ∈ u, q.den = 1) := by simp
    rw [← hfit] at hcase
    rcases hcase with ⟨c1, c2, c3, c4, c5⟩ | ⟨c1, c2, c3, c4⟩
    · have hf : (vb && u.all fun q => decide (q.den = 1)) = true := hfit.2 ⟨c1, c2⟩
      subst c3
      rw [hf, c4, PP_qs]
      refine W.sreg (fun K hK => ?_); simp (disch := omega) [gA, wrap_i64, wrap_u64, wrap_u32, Int.tdiv_eq_ediv_of_nonneg, Int.tmod_eq_emod_of_nonneg]; refine hK _ (W.liveK [2, 9, 10, 11, 77] fun K2 hK2 => ?_); clear hK K; simp; refine hK2 _ ?_; clear hK2 K2
      refine W.cond ⟨_, rfl, fun h => ?_, fun h => ?_⟩   -- t77
      · cases h
      refine W.skip ?_
      refine W.sreg (fun K hK => ?_)
      simp (disch := omega) [gA, wrap_i64, wrap_u64, wrap_u32, Int.tdiv_eq_ediv_of_nonneg, Int.tmod_eq_emod_of_nonneg]
      refine callR c5 ?_
      simp (disch := omega) [gA, wrap_i64, wrap_u64, wrap_u32, Int.tdiv_eq_ediv_of_nonneg, Int.tmod_eq_emod_of_nonneg]
      refine callR wakes6_ret ?_
      simp (disch := omega) [gA, wrap_i64, wrap_u64, wrap_u32, Int.tdiv_eq_ediv_of_nonneg, Int.tmod_eq_emod_of_nonneg]
      refine hK _ (W.liveK [6] fun K2 hK2 => ?_); clear hK K; simp; refine hK2 _ ?_; clear hK2 K2
      refine W.ret ?_
      simp [go]
    · have hf : (vb && u.all fun q => decide (q.den = 1)) = false := by simpa using c1
      subst c2 c3 c4
      rw [hf]
      refine W.sreg (fun K hK => ?_); simp (disch := omega) [gA, wrap_i64, wrap_u64, wrap_u32, Int.tdiv_eq_ediv_of_nonneg, Int.tmod_eq_emod_of_nonneg]; refine hK _ (W.liveK [2, 9, 10, 11, 77] fun K2 hK2 => ?_); clear hK K; simp; refine hK2 _ ?_; clear hK2 K2
      refine W.cond ⟨_, rfl, fun h => ?_, fun h => ?_⟩   -- t77
      · refine W.sreg (fun K hK => ?_)
        simp (disch := omega) [gA, wrap_i64, wrap_u64, wrap_u32, Int.tdiv_eq_ediv_of_nonneg, Int.tmod_eq_emod_of_nonneg]
        refine callR wakes6_ret ?_
        simp (disch := omega) [gA, wrap_i64, wrap_u64, wrap_u32, Int.tdiv_eq_ediv_of_nonneg, Int.tmod_eq_emod_of_nonneg]
        refine hK _ (W.liveK [6] fun K2 hK2 => ?_); clear hK K; simp; refine hK2 _ ?_; clear hK2 K2
        refine W.ret ?_
        simp [go]
      · cases h
end Go.Proofs.Ytjnkpfknmncdmaa
