import Derived.Test.YtgebobdieekjaaaLec
set_option linter.unusedSimpArgs false
set_option linter.unusedVariables false
namespace Go.Proofs.Ytgebobdieekjaaa
open Go Pm

/-! LAYERS, FACTORS, THE SQUAREFREE PART, WHAT STANDS AN ODD NUMBER OF TIMES. -/
def zp (a : ZX) : List PV := [Po a.l]
@[simp] theorem zp_def {a : ZX} : zp a = [Po a.l] := rfl
@[simp] theorem lenAll_zp {l : List ZX} : lenAll 1 (emap zp l) = True := lenAll_emap fun _ => rfl
@[simp] theorem app_zp {l : List ZX} {a : ZX} : emap zp l ++ [[sls ie a.l]] = emap zp (l ++ [a]) := by simp [emap]
@[simp] theorem rowPers_zp {v e n : Nat} {l : List ZX} : rowPers (some ⟨v, e, n, emap zp l⟩) = True := rowPers_emap fun _ => rfl
theorem BZ.der {h n : Nat} {a : ZX} (b : BZ h n a) (hn : n ≤ 31) : BZ (h + 5) n (ZX.der a) := Bd.cut ⟨by have := b.len; simp [ZX.derL]; omega, fun c hc => by
  simp only [ZX.derL, List.mem_map, List.mem_range] at hc
  obtain ⟨i, hi, rfl⟩ := hc
  have := b.len
  exact sz_mul (by decide) (b.nth _) (sz_le (k := 5) (by decide) (by rw [Int.natAbs_natCast]; show i + 1 < 32; omega))⟩
theorem deg_ret {h n : Nat} {a : ZX} (b : BZ h n a) (hn : n < 1099511627776) : Ret env.P 27 [Po a.l] (.int .i64 ((ZX.N a : Int) - 1)) := DegI_ret a.l (by have := b.len; omega)
/-- How great everything gets that comes of layers. -/
structure Lay (s n : Nat) (a : ZX) : Prop where
  bz : BZ s n a
  hn : n ≤ 20
  hs : n + 1 ≤ 2 ^ s
  hC : (qb s n + n + 6) * 4 ^ n ≤ 4500000000
theorem Lay.qb_le {s n : Nat} {a : ZX} (h : Lay s n a) : qb s n + n + 6 ≤ 4500000000 := Nat.le_trans (Nat.le_mul_of_pos_right _ (Nat.pow_pos (by decide))) h.hC
theorem Lay.dv {s n : Nat} {a c : ZX} (h : Lay s n a) (ha : Nf a) (hc : Nf c) (hd : ZX.dv c a) : BZ (qb s n) n c := dv_bd ha hc hd h.bz h.hs
theorem Lay.nfz {s n : Nat} {a : ZX} (h : Lay s n a) : Lay s n (nf a) := ⟨h.bz.nf, h.hn, h.hs, h.hC⟩
theorem Lay.gdz {s n : Nat} {a c : ZX} (h : Lay s n a) (ha : Nf a) (hc : Nf c) (hd : ZX.dv c a) : Ret env.P 26 [Po c.l, Po (ZX.der c).l] (Po (gd c).l) ∧ Ret env.P 30 [Po c.l] (Po (ZX.der c).l) ∧ Ret env.P 29 [Po c.l, Po (gd c).l] (Po (qz c (gd c)).l) := by
  have b := h.dv ha hc hd
  have b2 := b.der (by have := h.hn; omega)
  have hq := h.qb_le
  have hn := h.hn
  have bg := h.dv ha (gd_Nf hc.ne) ((gd_dv c).trans hd)
  refine ⟨two_ret (s := qb s n + 5) (b.mono (by omega) (Nat.le_refl _)) b2 ?_ h.hn (C := 4500000000) (Nat.le_refl _), Derive_ret b (by omega) (by omega), quo_ret b bg hc (gd_Nf hc.ne) (gd_dv c) (by
    have : n * (qb s n + n + 1) ≤ 20 * 4500000000 := Nat.mul_le_mul hn (by omega)
    omega)⟩
  have hN := ZX.N_der c
  have h1 : ZX.N c ≤ n := b.N
  have h2 := ZX.ne_zero.1 hc.ne
  unfold Pot
  rw [N_nf, N_nf, if_pos (by omega)]
  refine Nat.le_trans (Nat.mul_le_mul (show qb s n + 5 + n + 1 ≤ qb s n + n + 6 by omega) (Nat.pow_le_pow_right (by decide) h1)) h.hC
theorem layers_ret {s n : Nat} {a : ZX} (h : Lay s n a) : Ret env.P 32 [Po a.l] (sls zp ((List.range (nl (nf a))).map (wz (nf a)))) := by
  have p1 := prime_ret h.bz (by have := h.qb_le; unfold qb at this; omega) (by have := h.hn; omega)
  have hA := h.nfz
  have hNf : 2 ≤ ZX.N (nf a) → Nf (nf a) := fun h2 => nf_Nf fun h0 => by rw [h0, nf_zero] at h2; revert h2; decide
  have hle := nl_le (nf a)
  have hbn := hA.bz.N
  have hn := h.hn
  generalize hAe : nf a = A at *
  refine ret_of_Wf (E := env) (fun _ => 0) [(0, Po a.l)] Try.func32 rfl (by kernel_rfl) (by kernel_rfl) (show 1 ≤ 23 by decide) (by simp) ?_
  refine W.sreg (fun K hK => ?_); simp (disch := omega) [gA, wrap_i64, wrap_u64, wrap_u32, Int.tdiv_eq_ediv_of_nonneg, Int.tmod_eq_emod_of_nonneg]; refine hK _ (W.liveK [0] fun K2 hK2 => ?_); clear hK K; simp; refine hK2 _ ?_; clear hK2 K2
  refine W.sreg (fun K hK => ?_); simp (disch := omega) [gA, wrap_i64, wrap_u64, wrap_u32, Int.tdiv_eq_ediv_of_nonneg, Int.tmod_eq_emod_of_nonneg]; refine hK _ (W.liveK [0, 3] fun K2 hK2 => ?_); clear hK K; simp; refine hK2 _ ?_; clear hK2 K2
  refine W.seq ?_
  refine W.sreg (fun K hK => ?_)
  simp (disch := omega) [gA, wrap_i64, wrap_u64, wrap_u32, Int.tdiv_eq_ediv_of_nonneg, Int.tmod_eq_emod_of_nonneg]
  refine callR p1 ?_
  simp (disch := omega) [gA, wrap_i64, wrap_u64, wrap_u32, Int.tdiv_eq_ediv_of_nonneg, Int.tmod_eq_emod_of_nonneg]
  refine hK _ (W.liveK [3, 4] fun K2 hK2 => ?_); clear hK K; simp; refine hK2 _ ?_; clear hK2 K2
  refine W.nil 3 3 23 1 (by simp) (by decide) (fun K hK => ?_)
  refine hK _ (W.liveK [3, 4] fun K2 hK2 => ?_); clear hK K; simp; refine hK2 _ ?_; clear hK2 K2
  refine W.block ?_   -- block 0
  refine W.loopG (fun k σ => ∃ (i ver : Nat) (rows : Pm.Rows) (clk : Nat), σ = ⟨fa [(3, .own 3 ver 0 i), (4, Po (gs A i).l)], rows, clk⟩ ∧ rows 3 = some ⟨ver, 23, 1, emap zp ((List.range i).map (wz A))⟩ ∧ i + k = nl A) (nl A) ?_ ?_
  · exact ⟨_, .refl, 0, _, _, _, rfl, by simp [emap], by omega⟩
  rintro k _ ⟨i, ver, rows, clk, rfl, hr, hik⟩
  have hil : (emap zp ((List.range i).map (wz A))).length = i := by simp [emap]
  refine W.seq ?_
  have hdeg : Ret env.P 27 [Po (gs A i).l] (.int .i64 ((ZX.N (gs A i) : Int) - 1)) := DegI_ret (gs A i).l (by
    have h1 : ZX.N (gs A i) = (gs A i).l.length := rfl
    rcases gs_N (a := A) i with h2 | h2 <;> omega)
  refine W.sreg (fun K hK => ?_)
  simp (disch := omega) [gA, wrap_i64, wrap_u64, wrap_u32, Int.tdiv_eq_ediv_of_nonneg, Int.tmod_eq_emod_of_nonneg]
  refine callR hdeg ?_
  simp (disch := omega) [gA, wrap_i64, wrap_u64, wrap_u32, Int.tdiv_eq_ediv_of_nonneg, Int.tmod_eq_emod_of_nonneg]
  refine hK _ (W.liveK [3, 4, 10] fun K2 hK2 => ?_); clear hK K; simp; refine hK2 _ ?_; clear hK2 K2
  refine W.cond ⟨_, rfl, fun h3 => ?_, fun h3 => ?_⟩   -- t10
  · have h2 : 2 ≤ ZX.N (gs A i) := by simp at h3; omega
    have hi : i < nl A := by
      rcases Nat.lt_or_ge i (nl A) with h4 | h4
      · exact h4
      · have h5 := (nl_spec A).1
        rw [show nl A = i by omega] at h5; omega
    have hA0 : 2 ≤ ZX.N A := by
      have := (nl_spec A).2 0 (by omega)
      exact this
    have nA := hNf hA0
    have ng := gs_Nf nA i
    obtain ⟨t1, t2, t3⟩ := hA.gdz nA ng (gs_dv A i)
    have hw : qz (gs A i) (gd (gs A i)) = wz A i := rfl
    have hs : gd (gs A i) = gs A (i + 1) := rfl
    rw [hw, hs] at t3
    rw [hs] at t1
    generalize hg : (gs A i).l = g at *
    generalize hg2 : (gs A (i + 1)).l = g2 at *
    refine W.skip ?_
    refine W.block ?_   -- block 1
    refine W.sreg (fun K hK => ?_)
    simp (disch := omega) [gA, wrap_i64, wrap_u64, wrap_u32, Int.tdiv_eq_ediv_of_nonneg, Int.tmod_eq_emod_of_nonneg]
    refine callR t2 ?_
    simp (disch := omega) [gA, wrap_i64, wrap_u64, wrap_u32, Int.tdiv_eq_ediv_of_nonneg, Int.tmod_eq_emod_of_nonneg]
    refine callR t1 ?_
    simp (disch := omega) [gA, wrap_i64, wrap_u64, wrap_u32, Int.tdiv_eq_ediv_of_nonneg, Int.tmod_eq_emod_of_nonneg]
    refine hK _ (W.liveK [3, 4, 5] fun K2 hK2 => ?_); clear hK K; simp; refine hK2 _ ?_; clear hK2 K2
    refine W.sreg (fun K hK => ?_)
    simp (disch := omega) [gA, wrap_i64, wrap_u64, wrap_u32, Int.tdiv_eq_ediv_of_nonneg, Int.tmod_eq_emod_of_nonneg]
    refine callR t3 ?_
    simp (disch := omega) [gA, wrap_i64, wrap_u64, wrap_u32, Int.tdiv_eq_ediv_of_nonneg, Int.tmod_eq_emod_of_nonneg, hr, hil]
    refine hK _ (W.liveK [3, 5] fun K2 hK2 => ?_); clear hK K; simp; refine hK2 _ ?_; clear hK2 K2
    refine W.reg (fun K hK => ?_); simp (disch := omega) [gA, wrap_i64, wrap_u64, wrap_u32, Int.tdiv_eq_ediv_of_nonneg, Int.tmod_eq_emod_of_nonneg]
    subst hg2
    refine hK _ ⟨k - 1, _, Gh_fa _ [3, 4], by omega, i + 1, _, _, _, rfl, ?_, by omega⟩
    rw [List.range_succ, List.map_append]
    simp [emap, zp]
  · have h2 : ZX.N (gs A i) ≤ 1 := by simp at h3; omega
    have hi : i = nl A := by
      rcases Nat.lt_or_ge i (nl A) with h4 | h4
      · have := (nl_spec A).2 i h4; omega
      · omega
    rw [hi] at hr
    have htk : List.take (nl A) (List.map (wz A) (List.range (nl A))) = List.map (wz A) (List.range (nl A)) := List.take_of_length_le (by simp)
    refine W.exit ?_; simp only [pblk_exit, pblk_normal, pblk_ret, pseq_exit, pseq_normal, pseq_ret, pnor_exit, pnor_normal, pnor_ret, if_true, if_false, reduceIte, Nat.reduceEqDiff]
    refine W.sreg (fun K hK => ?_)
    rw [hi]
    simp (disch := omega) [gA, wrap_i64, wrap_u64, wrap_u32, Int.tdiv_eq_ediv_of_nonneg, Int.tmod_eq_emod_of_nonneg, hr, htk]
    refine hK _ (W.liveK [2] fun K2 hK2 => ?_); clear hK K; simp; refine hK2 _ ?_; clear hK2 K2
    refine W.ret ?_
    simp [go, hr, htk]

theorem wz_small {s n : Nat} {a : ZX} (hA : Lay s n a) (na : Nf a) (k : Nat) : BZ (qb s n) n (wz a k) := hA.dv na (wz_spec na k).1 (wz_dv_a na k)
theorem nth_map_range (f : Nat → ZX) {m i : Nat} (h : i < m) : nth ((List.range m).map f) i = f i := by
  rw [nth_eq (by simpa using h)]; simp
theorem nl_Nf {a : ZX} (h : 0 < nl (nf a)) : Nf (nf a) := by
  have h1 := (nl_spec (nf a)).2 0 h
  exact nf_Nf fun h0 => by
    rw [h0, nf_zero] at h1
    have h2 : ZX.N (gs 0 0) = 0 := by decide
    omega
theorem Factors_ret {s n : Nat} {a : ZX} (h : Lay s n a) : Ret env.P 10 [Po a.l] (sls zp (fl (nf a))) := by
  have hL := layers_ret h
  have hA := h.nfz
  have hNf := nl_Nf (a := a)
  have hle := nl_le (nf a)
  have hbn := hA.bz.N
  have hn := h.hn
  have hqb := h.qb_le
  generalize hAe : nf a = A at *
  have hll : ((List.range (nl A)).map (wz A)).length = nl A := by simp
  have hq : ∀ i, i + 1 < nl A → Ret env.P 29 [Po (nth ((List.range (nl A)).map (wz A)) i).l, Po (nth ((List.range (nl A)).map (wz A)) (i + 1)).l] (Po (fz' A i).l) := fun i hi => by
    have nA := hNf (by omega)
    rw [nth_map_range _ (by omega), nth_map_range _ hi]
    exact quo_ret (wz_small hA nA i) (wz_small hA nA (i + 1)) (wz_spec nA i).1 (wz_spec nA (i + 1)).1 (wz_dv nA i) (by
      have : n * (qb s n + n + 1) ≤ 20 * 4500000000 := Nat.mul_le_mul hn (by omega)
      omega)
  have hlast : ∀ i, i + 1 = nl A → nth ((List.range (nl A)).map (wz A)) i = fz' A i := fun i hi => by
    rw [nth_map_range _ (by omega), fz_last (hNf (by omega)) hi]
  generalize hM : (List.range (nl A)).map (wz A) = M at *
  obtain ⟨m, hm⟩ : ∃ m, m = nl A := ⟨_, rfl⟩
  have hfl : (fl A) = (List.range m).map (fz' A) := by rw [hm]; rfl
  rw [hfl]
  rw [← hm] at hll hq hlast hle
  refine ret_of_Wf (E := env) (fun _ => 0) [(0, Po a.l)] Try.func10 rfl (by kernel_rfl) (by kernel_rfl) (show 1 ≤ 40 by decide) (by simp) ?_
  refine W.sreg (fun K hK => ?_); simp (disch := omega) [gA, wrap_i64, wrap_u64, wrap_u32, Int.tdiv_eq_ediv_of_nonneg, Int.tmod_eq_emod_of_nonneg]; refine hK _ (W.liveK [0] fun K2 hK2 => ?_); clear hK K; simp; refine hK2 _ ?_; clear hK2 K2
  refine W.sreg (fun K hK => ?_)
  simp (disch := omega) [gA, wrap_i64, wrap_u64, wrap_u32, Int.tdiv_eq_ediv_of_nonneg, Int.tmod_eq_emod_of_nonneg]
  refine callR hL ?_
  simp (disch := omega) [gA, wrap_i64, wrap_u64, wrap_u32, Int.tdiv_eq_ediv_of_nonneg, Int.tmod_eq_emod_of_nonneg]
  refine hK _ (W.liveK [3] fun K2 hK2 => ?_); clear hK K; simp; refine hK2 _ ?_; clear hK2 K2
  refine W.sreg (fun K hK => ?_); simp (disch := omega) [gA, wrap_i64, wrap_u64, wrap_u32, Int.tdiv_eq_ediv_of_nonneg, Int.tmod_eq_emod_of_nonneg, hll]; refine hK _ (W.liveK [3, 4] fun K2 hK2 => ?_); clear hK K; simp; refine hK2 _ ?_; clear hK2 K2
  refine W.seq ?_
  refine W.sreg (fun K hK => ?_); simp (disch := omega) [gA, wrap_i64, wrap_u64, wrap_u32, Int.tdiv_eq_ediv_of_nonneg, Int.tmod_eq_emod_of_nonneg, hll]; refine hK _ (W.liveK [3, 4, 12, 13, 14] fun K2 hK2 => ?_); clear hK K; simp; refine hK2 _ ?_; clear hK2 K2
  refine W.block ?_   -- block 0
  refine W.loopG (fun k σ => ∃ (i ver : Nat) (els : List (List PV)) (rows : Pm.Rows) (clk : Nat), σ = ⟨fa [(3, sls zp M), (4, .own 11 ver 0 m), (12, sls zp M), (13, .int .i64 m), (14, .int .i64 i)], rows, clk⟩ ∧
    rows 11 = some ⟨ver, 23, 1, els⟩ ∧ els.length = m ∧ (∀ e ∈ els, e.length = 1) ∧ els.take i = emap zp ((List.range i).map (fz' A)) ∧ i + k = m) m ?_ ?_
  · exact ⟨_, .refl, 0, _, List.replicate m [.nil], _, _, rfl, by simp, by simp, by simp, by simp [emap], by omega⟩
  rintro k _ ⟨i, ver, els, rows, clk, rfl, hr, hel, he1, hpre, hik⟩
  refine W.sreg (fun K hK => ?_); simp (disch := omega) [gA, wrap_i64, wrap_u64, wrap_u32, Int.tdiv_eq_ediv_of_nonneg, Int.tmod_eq_emod_of_nonneg]; refine hK _ (W.liveK [3, 4, 12, 13, 14, 15] fun K2 hK2 => ?_); clear hK K; simp; refine hK2 _ ?_; clear hK2 K2
  refine W.seq ?_
  refine W.cond ⟨_, rfl, fun h3 => ?_, fun h3 => ?_⟩   -- t15
  · have hi : i < m := by simp at h3; omega
    clear h3
    have hiM : i < M.length := by omega
    have hil : i < els.length := by omega
    have hE : ∀ e : List (List PV), e.length = m → (∀ x ∈ e, x.length = 1) → elLen e i 1 = True := fun e h1 h2 => by
      simp only [eq_iff_iff, iff_true]
      exact ⟨e[i]'(by omega), List.getElem?_eq_getElem (by omega), by rw [h2 _ (List.getElem_mem _)]; omega⟩
    have hS : ∀ (e : List (List PV)) (v : PV), e.length = m → (∀ x ∈ e, x.length = 1) → setEl e i 0 [v] = e.set i [v] := fun e v h1 h2 => by
      have h4 := h2 _ (List.getElem_mem (show i < e.length by omega))
      rw [setEl, List.getElem?_eq_getElem (by omega)]
      simp [List.drop_of_length_le, h4]
    have h1E := hE els hel he1
    have h1S := hS els (Po (nth M i).l) hel he1
    have hel2 : (els.set i [Po (nth M i).l]).length = m := by simpa using hel
    have he2 : ∀ e ∈ els.set i [Po (nth M i).l], e.length = 1 := fun e he => by
      rcases List.mem_or_eq_of_mem_set he with h4 | h4
      · exact he1 e h4
      · rw [h4]; rfl
    have hpre2 : (els.set i [Po (nth M i).l]).take i = emap zp ((List.range i).map (fz' A)) := by rw [take_set_ge (Nat.le_refl i)]; exact hpre
    have h2E := hE _ hel2 he2
    have h2S := hS (els.set i [Po (nth M i).l]) (Po (fz' A i).l) hel2 he2
    have fin : ∀ (e : List (List PV)), e.length = m → (∀ x ∈ e, x.length = 1) → e.take i = emap zp ((List.range i).map (fz' A)) → (e.set i [Po (fz' A i).l]).take (i + 1) = emap zp ((List.range (i + 1)).map (fz' A)) := fun e h1 h2 h4 => by
      rw [set_take h4 (by omega), List.range_succ, List.map_append]
      simp [emap, zp]
    refine W.skip ?_
    refine W.seq_blockJ (fun σ => ∃ (els : List (List PV)) (rows : Pm.Rows) (clk : Nat), σ = ⟨fa [(3, sls zp M), (4, .own 11 ver 0 m), (12, sls zp M), (13, .int .i64 m), (14, .int .i64 i)], rows, clk⟩ ∧
      rows 11 = some ⟨ver, 23, 1, els⟩ ∧ els.length = m ∧ (∀ e ∈ els, e.length = 1) ∧ els.take (i + 1) = emap zp ((List.range (i + 1)).map (fz' A))) ?_ ?_   -- block 1
    · refine W.sreg (fun K hK => ?_); simp (disch := omega) [gA, wrap_i64, wrap_u64, wrap_u32, Int.tdiv_eq_ediv_of_nonneg, Int.tmod_eq_emod_of_nonneg]; refine hK _ (W.liveK [3, 4, 5, 6, 12, 13, 14] fun K2 hK2 => ?_); clear hK K; simp; refine hK2 _ ?_; clear hK2 K2
      refine W.sreg (fun K hK => ?_); simp (disch := omega) [gA, wrap_i64, wrap_u64, wrap_u32, Int.tdiv_eq_ediv_of_nonneg, Int.tmod_eq_emod_of_nonneg, hr, h1E, h1S]; refine hK _ (W.liveK [3, 4, 5, 6, 12, 13, 14] fun K2 hK2 => ?_); clear hK K; simp; refine hK2 _ ?_; clear hK2 K2
      refine W.sreg (fun K hK => ?_); simp (disch := omega) [gA, wrap_i64, wrap_u64, wrap_u32, Int.tdiv_eq_ediv_of_nonneg, Int.tmod_eq_emod_of_nonneg, hll]; refine hK _ (W.liveK [3, 4, 5, 6, 12, 13, 14, 27] fun K2 hK2 => ?_); clear hK K; simp; refine hK2 _ ?_; clear hK2 K2
      refine W.cond ⟨_, rfl, fun h3 => ?_, fun h3 => ?_⟩   -- t27
      · have hi1 : i + 1 < m := by simp at h3; omega
        have hi1M : i + 1 < M.length := by omega
        have e1 : ((i : Int) + 1).toNat = i + 1 := by omega
        refine W.reg (fun K hK => ?_)
        simp (disch := omega) [gA, wrap_i64, wrap_u64, wrap_u32, Int.tdiv_eq_ediv_of_nonneg, Int.tmod_eq_emod_of_nonneg, e1, hi1M]
        refine callR (hq i hi1) ?_
        simp (disch := omega) [gA, wrap_i64, wrap_u64, wrap_u32, Int.tdiv_eq_ediv_of_nonneg, Int.tmod_eq_emod_of_nonneg, h2E, h2S]
        exact hK _ ⟨_, Gh_fa _ [3, 4, 12, 13, 14], _, _, _, rfl, by simp, by simpa using hel, fun e he => by
          rcases List.mem_or_eq_of_mem_set he with h4 | h4
          · exact he2 e h4
          · rw [h4]; rfl, fin _ hel2 he2 hpre2⟩
      · have hi1 : i + 1 = m := by simp at h3; omega
        refine W.skip ?_
        refine ⟨_, Gh_fa _ [3, 4, 12, 13, 14], _, _, _, rfl, by simp, hel2, he2, ?_⟩
        have h4 := fin els hel he1 hpre
        rw [← hlast i hi1] at h4
        rw [h4]
    rintro _ ⟨els, rows, clk, rfl, hr, hel, he1, hpre⟩
    refine W.reg (fun K hK => ?_); simp (disch := omega) [gA, wrap_i64, wrap_u64, wrap_u32, Int.tdiv_eq_ediv_of_nonneg, Int.tmod_eq_emod_of_nonneg]
    refine hK _ ⟨k - 1, _, Gh_fa _ [3, 4, 12, 13, 14], by omega, i + 1, _, _, _, _, rfl, hr, hel, he1, hpre, by omega⟩
  · have hi : i = m := by simp at h3; omega
    subst hi
    rw [take_all hel] at hpre
    subst hpre
    have htk : List.take i (List.map (fz' A) (List.range i)) = List.map (fz' A) (List.range i) := List.take_of_length_le (by simp)
    refine W.exit ?_; simp only [pblk_exit, pblk_normal, pblk_ret, pseq_exit, pseq_normal, pseq_ret, pnor_exit, pnor_normal, pnor_ret, if_true, if_false, reduceIte, Nat.reduceEqDiff]
    refine W.sreg (fun K hK => ?_)
    simp (disch := omega) [gA, wrap_i64, wrap_u64, wrap_u32, Int.tdiv_eq_ediv_of_nonneg, Int.tmod_eq_emod_of_nonneg, hr, htk]
    refine hK _ (W.liveK [2] fun K2 hK2 => ?_); clear hK K; simp; refine hK2 _ ?_; clear hK2 K2
    refine W.ret ?_
    simp [go, hr, htk]
end Go.Proofs.Ytgebobdieekjaaa
