import Derived.Test.YtgebobdieekjaaaGreatLek
set_option linter.unusedSimpArgs false
set_option linter.unusedVariables false
namespace Go.Proofs.YtgebobdieekjaaaGreat
open Go Pm
open ZX hiding N W

/-! LAW 7, WHAT FACTORS MAKE AGAIN. -/
noncomputable def pr (a : ZX) : Nat → ZX
  | 0 => 1
  | i + 1 => pr a i * fz' a i ^ (i + 1)
theorem pr_Nf {a : ZX} (ha : Nf a) : ∀ i, Nf (pr a i)
  | 0 => Nf.one
  | i + 1 => (pr_Nf ha i).mul ((fz_spec ha i).1.pow _)
noncomputable def pk (a : ZX) (i k : Nat) : ZX := pr a i * fz' a i ^ k
theorem pk_Nf {a : ZX} (ha : Nf a) (i k : Nat) : Nf (pk a i k) := (pr_Nf ha i).mul ((fz_spec ha i).1.pow _)
theorem pk_mu' {a p : ZX} (ha : Nf a) (hp : Irr p) (i k : Nat) : mu p (pk a i k) = mu p (pr a i) + k * (if mu p a = i + 1 then 1 else 0) := by
  rw [pk, mu_mul hp (pr_Nf ha i).ne ((fz_spec ha i).1.pow _).ne, mu_pow hp (fz_spec ha i).1.ne, fz_mu ha hp]
theorem pr_mu {a p : ZX} (ha : Nf a) (hp : Irr p) : ∀ i, mu p (pr a i) = if mu p a ≤ i then mu p a else 0
  | 0 => by
    rw [pr, mu_one hp]; split <;> omega
  | i + 1 => by
    show mu p (pk a i (i + 1)) = _
    rw [pk_mu' ha hp, pr_mu ha hp i]
    split <;> split <;> split <;> omega
theorem pk_dv {a : ZX} (ha : Nf a) {i k : Nat} (hk : k ≤ i + 1) : dv (pk a i k) a := (dv_iff_mu (pk_Nf ha i k).ne ha.ne).2 fun p hp => by
  rw [pk_mu' ha hp, pr_mu ha hp]
  split <;> split <;> omega
theorem pr_all {a : ZX} (ha : Nf a) : pr a (nl a) = a := (pr_Nf ha _).eq_of_mu ha fun p hp => by
  rw [pr_mu ha hp, if_pos (mu_lt_nl ha hp)]
theorem pk_succ (a : ZX) (i k : Nat) : pk a i (k + 1) = pk a i k * fz' a i := by
  rw [pk, pk, ZX.pow_succ']; grind
theorem pk_zero (a : ZX) (i : Nat) : pk a i 0 = pr a i := by
  rw [pk, ZX.pow_zero']; grind
theorem fz_apart {a : ZX} (ha : Nf a) {i k : Nat} (h : i ≠ k) : gz (fz' a i) (fz' a k) = 1 := (gz_Nf (.inl (fz_spec ha i).1.ne)).eq_of_mu Nf.one fun p hp => by
  have h1 := mu_dv hp (fz_spec ha i).1.ne (gz_isG (fz' a i) (fz' a k)).l
  have h2 := mu_dv hp (fz_spec ha k).1.ne (gz_isG (fz' a i) (fz' a k)).r
  rw [fz_mu ha hp] at h1 h2
  rw [mu_one hp]
  split at h1 <;> split at h2 <;> omega
theorem fz_free {a : ZX} (ha : Nf a) (i : Nat) : gz (fz' a i) (der (fz' a i)) = 1 := (gd_Nf (fz_spec ha i).1.ne).eq_of_mu Nf.one fun p hp => by
  rw [gd_mu (fz_spec ha i).1.ne hp, fz_mu ha hp, mu_one hp]
  split <;> rfl
theorem fz_end {a : ZX} (ha : Nf a) (h : 0 < nl a) : 1 < ZX.N (fz' a (nl a - 1)) := by
  rw [fz_last ha (k := nl a - 1) (by omega)]
  have h1 := (nl_spec a).2 (nl a - 1) (by omega)
  have h2 := (wz_spec ha (nl a - 1)).2
  rw [h2, N_mul (wz_spec ha _).1.ne (gs_Nf ha _).ne, show nl a - 1 + 1 = nl a by omega] at h1
  have h3 := (nl_spec a).1
  omega
theorem same_scale {c : Int} (hc : c ≠ 0) {a : ZX} (ha : a ≠ 0) : pscale a.l (lead (K c * a).l) = pscale (K c * a).l (lead a.l) := Cn.ext (Cn.pscale _ _) (Cn.pscale _ _) fun t => by
  rw [V_pscale, V_pscale, lead_K hc ha, v_mul, v_K]
  grind
theorem gz_dv' {a b : ZX} (ha : Nf a) (h : dv a b) : gz a b = a := by
  rw [gz_eq (g := a) ⟨dv.refl a, h, 1, by decide, 1, 0, (by show (1 : ZX) * a = 1 * a + 0 * b; grind)⟩, ha.nfe]
theorem sq_is {a : ZX} (ha : a ≠ 0) : sq a = sz' (nf a) := sq_eq ha (sz_Nf (nf_Nf ha)) fun p hp => by rw [sz_mu (nf_Nf ha) hp, mu_nf hp ha]
theorem potB {s : Nat} {a c : ZX} (ha : ZX.N a ≤ 10) (hc : ZX.N c ≤ 10) (h : s ≤ 3300) : Pot 7000000000 10 s (nf a) (nf c) := pot_le ha hc (Nat.le_trans (Nat.mul_le_mul_right _ (Nat.mul_le_mul_right _ (show s + 10 + 1 ≤ 3311 by omega))) (by decide))
theorem twoB {a c : ZX} (ba : BZ 3300 10 a) (bc : BZ 3300 10 c) : Ret env.P 83 [Po a.l, Po c.l] (Po (gz a c).l) := two_retB ba bc (potB ba.N bc.N (Nat.le_refl _)) (by decide)
theorem copB {a c : ZX} (ba : BZ 3300 10 a) (bc : BZ 3300 10 c) : Ret env.P 28 [Po a.l, Po c.l] (.bool (decide (ZX.N (gz a c) = 1))) := Coprime_retB ba bc (potB ba.N bc.N (Nat.le_refl _)) (by decide) (by decide)
theorem gcdB {a c : ZX} (ba : BZ 3300 10 a) (bc : BZ 3300 10 c) (na : Nf a) (h : dv a c) : Ret env.P 27 [.sl [[Po a.l], [Po c.l]]] (Po a.l) := by
  have := Gcd_ret [a, c] (by simp) (fun i hi => by
    match i, hi with
    | 0, _ =>
      have h1 := twoB (zero_bz 3300 10) ba
      exact h1
    | 1, _ =>
      have e : gcdl ([a, c].take 1) = a := by rw [show [a, c].take 1 = [a] from rfl, gcdl1, na.nfe]
      rw [e, show gcdl ([a, c].take (1 + 1)) = gz a c from gcdl2 a c]
      exact twoB ba bc)
  rw [gcdl2, gz_dv' na h] at this
  exact this
/-- What the walk asks for of the factors. -/
theorem laws_of {a : ZX} (hy : Lay 153 10 a) (h0 : a ≠ 0) : ∃ (P : Nat → Nat → List Int), P 0 0 = (1 : ZX).l ∧ (∀ i, P i (i + 1) = P (i + 1) 0) ∧ P (nl (nf a)) 0 = (nf a).l ∧
    ∀ i, i < nl (nf a) → (∀ k, k ≤ i → Ret env.P 32 [Po (P i k), Po (nth (fl (nf a)) i).l] (Po (P i (k + 1)))) ∧ (∀ k, k < i → Ret env.P 28 [Po (nth (fl (nf a)) i).l, Po (nth (fl (nf a)) k).l] (.bool true)) ∧
      ∃ d : List Int, Ret env.P 39 [Po (nth (fl (nf a)) i).l] (Po d) ∧ Ret env.P 28 [Po (nth (fl (nf a)) i).l, Po d] (.bool true) := by
  have nA := nf_Nf h0
  have hA := hy.nfz
  have bf : ∀ i, BZ 3264 10 (fz' (nf a) i) := fun i => hA.dv nA (fz_spec nA i).1 (fz_dv_a nA i)
  have bf' : ∀ i, BZ 3300 10 (fz' (nf a) i) := fun i => (bf i).mono (by decide) (Nat.le_refl _)
  have bp : ∀ i k, k ≤ i + 1 → BZ 3264 10 (pk (nf a) i k) := fun i k hk => hA.dv nA (pk_Nf nA i k) (pk_dv nA hk)
  refine ⟨fun i k => (pk (nf a) i k).l, ?_, fun i => ?_, ?_, fun i hi => ⟨fun k hk => ?_, fun k hk => ?_, (der (fz' (nf a) i)).l, ?_, ?_⟩⟩
  · show (pk (nf a) 0 0).l = _
    rw [pk_zero]; rfl
  · show (pk (nf a) i (i + 1)).l = (pk (nf a) (i + 1) 0).l
    rw [pk_zero]; rfl
  · show (pk (nf a) (nl (nf a)) 0).l = _
    rw [pk_zero, pr_all nA]
  · rw [show nth (fl (nf a)) i = fz' (nf a) i from nth_map_range _ hi]
    show Ret env.P 32 [Po (pk (nf a) i k).l, _] (Po (pk (nf a) i (k + 1)).l)
    rw [pk_succ]
    exact pMulI_ret (bdL (bp i k (by omega))) (bdL (bf i)) (by decide)
  · rw [show nth (fl (nf a)) i = fz' (nf a) i from nth_map_range _ hi, show nth (fl (nf a)) k = fz' (nf a) k from nth_map_range _ (by omega)]
    have := copB (bf' i) (bf' k)
    rw [fz_apart nA (by omega), show (decide (ZX.N (1 : ZX) = 1)) = true from by decide] at this
    exact this
  · rw [show nth (fl (nf a)) i = fz' (nf a) i from nth_map_range _ hi]
    exact Derive_ret (bf i) (by decide) (by decide)
  · rw [show nth (fl (nf a)) i = fz' (nf a) i from nth_map_range _ hi]
    have := copB (bf' i) (((bf i).der (by decide)).mono (by decide) (Nat.le_refl _))
    rw [fz_free nA, show (decide (ZX.N (1 : ZX) = 1)) = true from by decide] at this
    exact this
theorem PgcdLaws_ret (l : List Int) (hb : ∀ x ∈ l, -9223372036854775808 ≤ x ∧ x < 9223372036854775808) (hl : l.length < 9223372036854775808) : Ret env.P 8 [sls i64e l] (.bool true) := by
  have hM := Made_ret l hl hb 9 (by decide)
  have hy := made_lay l
  obtain ⟨h0, b0⟩ := made_ok l 9
  generalize made l 9 = a at *
  have t1 := toZ_ret b0 (by decide) (by decide)
  have f2 := Factors_ret hy
  have q2 := Square_ret hy
  have o2 := Odd_ret hy h0
  have nA := nf_Nf h0
  have hA := hy.nfz
  have hle := nl_le (nf a)
  have hNA : ZX.N (nf a) ≤ 10 := hA.bz.N
  have bq : BZ 3264 10 (sq a) := by
    rw [sq_is h0]
    exact hA.dv nA (sz_Nf nA) (wz_dv_a nA 0)
  have nq : Nf (sq a) := by rw [sq_is h0]; exact sz_Nf nA
  have bo : BZ 3264 10 (oz (nf a)) := hA.dv nA (oz_Nf nA) (pf_dv_a nA _ _)
  have dqa : dv (sq a) a := by
    rw [sq_is h0]
    exact (wz_dv_a nA 0).trans (dv_nf a).2
  have doq : dv (oz (nf a)) (sq a) := by
    rw [sq_is h0]
    refine (dv_iff_mu (oz_Nf nA).ne (sz_Nf nA).ne).2 fun p hp => ?_
    rw [oz_mu nA hp, sz_mu nA hp]; omega
  have g1 := gcdB (bq.mono (by decide) (Nat.le_refl _)) (b0.mono (by decide) (Nat.le_refl _)) nq dqa
  have g2 := gcdB (bo.mono (by decide) (Nat.le_refl _)) (bq.mono (by decide) (Nat.le_refl _)) (oz_Nf nA) doq
  have s1 := pSameI_ret (bq.pb (by decide) (by decide)) (bq.pb (by decide) (by decide))
  have s2 := pSameI_ret (bo.pb (by decide) (by decide)) (bo.pb (by decide) (by decide))
  simp only [decide_true] at s1 s2
  have l1 := LeadI_ret (b0.pb (by decide) (by decide)) a.c
  have l2 := LeadI_ret (b0.nf.pb (by decide) (by decide)) (nf a).c
  have z1 : Pm.sz LL (lead a.l) ≤ 153 := (bdL b0).nth _
  have z2 : Pm.sz LL (lead (nf a).l) ≤ 153 := (bdL b0.nf).nth _
  have e : pscale (nf a).l (lead a.l) = pscale a.l (lead (nf a).l) := by
    have := same_scale (pcn_ne' h0) (nf_ne h0)
    rwa [nf_K h0] at this
  have k1 := pScaleI_ret (b0.nf.pb (by decide) (by decide)) (Nat.lt_of_le_of_lt z1 (by decide))
  have k2 := pScaleI_ret (b0.pb (by decide) (by decide)) (Nat.lt_of_le_of_lt z2 (by decide))
  rw [e] at k1
  have bs := PB.of (Bd.pscale (by decide) (bdL b0) z2) (by decide) (by decide)
  have s3 := pSameI_ret bs bs
  simp only [decide_true] at s3
  generalize pscale a.l (lead (nf a).l) = ps at *
  obtain ⟨P, P0, P1, P2, hP⟩ := laws_of hy h0
  have hfl : (fl (nf a)).length = nl (nf a) := fl_len _
  have hend : 0 < nl (nf a) → 1 < (nth (fl (nf a)) (nl (nf a) - 1)).l.length := fun h => by
    rw [show nth (fl (nf a)) (nl (nf a) - 1) = fz' (nf a) (nl (nf a) - 1) from nth_map_range _ (by omega)]
    exact fz_end nA h
  have hw := wakes7_ret
  have one := pOne_ret
  rw [← P0] at one
  rw [← P2] at k1 k2 l2
  clear hA nA bq nq bo dqa doq bs z1 z2 e b0
  generalize fl (nf a) = L at *
  generalize nl (nf a) = m at *
  generalize (sq a).l = s at *
  generalize (oz (nf a)).l = o at *
  generalize lead a.l = la at *
  refine ret_of_Wf (E := env) (fun _ => 0) [(0, sls i64e l)] Tryz.func8 rfl (by kernel_rfl) (by kernel_rfl) (show 1 ≤ 115 by decide) (by simp) ?_
  refine W.sreg (fun K hK => ?_); simp (disch := omega) [gA, wrap_i64, wrap_u64, wrap_u32, Int.tdiv_eq_ediv_of_nonneg, Int.tmod_eq_emod_of_nonneg]; refine hK _ (W.liveK [0] fun K2 hK2 => ?_); clear hK K; simp; refine hK2 _ ?_; clear hK2 K2
  refine W.sreg (fun K hK => ?_)
  simp (disch := omega) [gA, wrap_i64, wrap_u64, wrap_u32, Int.tdiv_eq_ediv_of_nonneg, Int.tmod_eq_emod_of_nonneg]
  refine callR hM ?_
  simp (disch := omega) [gA, wrap_i64, wrap_u64, wrap_u32, Int.tdiv_eq_ediv_of_nonneg, Int.tmod_eq_emod_of_nonneg]
  refine hK _ (W.liveK [3] fun K2 hK2 => ?_); clear hK K; simp; refine hK2 _ ?_; clear hK2 K2
  refine W.sreg (fun K hK => ?_)
  simp (disch := omega) [gA, wrap_i64, wrap_u64, wrap_u32, Int.tdiv_eq_ediv_of_nonneg, Int.tmod_eq_emod_of_nonneg]
  refine callR t1 ?_
  simp (disch := omega) [gA, wrap_i64, wrap_u64, wrap_u32, Int.tdiv_eq_ediv_of_nonneg, Int.tmod_eq_emod_of_nonneg]
  refine hK _ (W.liveK [4] fun K2 hK2 => ?_); clear hK K; simp; refine hK2 _ ?_; clear hK2 K2
  refine W.sreg (fun K hK => ?_)
  simp (disch := omega) [gA, wrap_i64, wrap_u64, wrap_u32, Int.tdiv_eq_ediv_of_nonneg, Int.tmod_eq_emod_of_nonneg]
  refine callR f2 ?_
  simp (disch := omega) [gA, wrap_i64, wrap_u64, wrap_u32, Int.tdiv_eq_ediv_of_nonneg, Int.tmod_eq_emod_of_nonneg]
  refine hK _ (W.liveK [4, 5] fun K2 hK2 => ?_); clear hK K; simp; refine hK2 _ ?_; clear hK2 K2
  refine W.sreg (fun K hK => ?_)
  simp (disch := omega) [gA, wrap_i64, wrap_u64, wrap_u32, Int.tdiv_eq_ediv_of_nonneg, Int.tmod_eq_emod_of_nonneg]
  refine callR one ?_
  simp (disch := omega) [gA, wrap_i64, wrap_u64, wrap_u32, Int.tdiv_eq_ediv_of_nonneg, Int.tmod_eq_emod_of_nonneg]
  refine hK _ (W.liveK [4, 5, 6] fun K2 hK2 => ?_); clear hK K; simp; refine hK2 _ ?_; clear hK2 K2
  refine W.seq ?_
  refine W.sreg (fun K hK => ?_); simp (disch := omega) [gA, wrap_i64, wrap_u64, wrap_u32, Int.tdiv_eq_ediv_of_nonneg, Int.tmod_eq_emod_of_nonneg, hfl]; refine hK _ (W.liveK [4, 5, 6, 19, 20] fun K2 hK2 => ?_); clear hK K; simp; refine hK2 _ ?_; clear hK2 K2
  refine W.block ?_   -- block 0
  refine W.loopG (fun k σ => ∃ (i : Nat) (rows : Pm.Rows) (clk : Nat), σ = ⟨fa [(4, Po a.l), (5, sls zp L), (6, Po (P i 0)), (19, .int .i64 m), (20, .int .i64 i)], rows, clk⟩ ∧ i + k = m) m ?_ ?_
  · exact ⟨_, .refl, 0, _, _, rfl, by omega⟩
  rintro k _ ⟨i, rows, clk, rfl, hik⟩
  refine W.sreg (fun K hK => ?_); simp (disch := omega) [gA, wrap_i64, wrap_u64, wrap_u32, Int.tdiv_eq_ediv_of_nonneg, Int.tmod_eq_emod_of_nonneg]; refine hK _ (W.liveK [4, 5, 6, 19, 20, 21] fun K2 hK2 => ?_); clear hK K; simp; refine hK2 _ ?_; clear hK2 K2
  refine W.seq ?_
  refine W.cond ⟨_, rfl, fun h => ?_, fun h => ?_⟩   -- t21
  · have hi : i < m := by simp at h; omega
    have hiL : i < L.length := by omega
    obtain ⟨c1, c2, d, c3, c4⟩ := hP i hi
    refine W.skip ?_
    refine W.seq ?_
    refine W.block ?_   -- block 1
    refine W.sreg (fun K hK => ?_); simp (disch := omega) [gA, wrap_i64, wrap_u64, wrap_u32, Int.tdiv_eq_ediv_of_nonneg, Int.tmod_eq_emod_of_nonneg]; refine hK _ (W.liveK [4, 5, 6, 7, 19, 20] fun K2 hK2 => ?_); clear hK K; simp; refine hK2 _ ?_; clear hK2 K2
    refine W.seq ?_
    refine W.sreg (fun K hK => ?_); simp (disch := omega) [gA, wrap_i64, wrap_u64, wrap_u32, Int.tdiv_eq_ediv_of_nonneg, Int.tmod_eq_emod_of_nonneg]; refine hK _ (W.liveK [4, 5, 6, 7, 8, 19, 20] fun K2 hK2 => ?_); clear hK K; simp; refine hK2 _ ?_; clear hK2 K2
    refine W.block ?_   -- block 2
    refine W.loopG (fun q σ => ∃ (j : Nat) (rows : Pm.Rows) (clk : Nat), σ = ⟨fa [(4, Po a.l), (5, sls zp L), (6, Po (P i j)), (7, .int .i64 i), (8, .int .i64 j), (19, .int .i64 m), (20, .int .i64 i)], rows, clk⟩ ∧ j + q = i + 1) (i + 1) ?_ ?_
    · exact ⟨_, .refl, 0, _, _, rfl, by omega⟩
    rintro q _ ⟨j, rows, clk, rfl, hjq⟩
    refine W.seq ?_
    refine W.sreg (fun K hK => ?_); simp (disch := omega) [gA, wrap_i64, wrap_u64, wrap_u32, Int.tdiv_eq_ediv_of_nonneg, Int.tmod_eq_emod_of_nonneg]; refine hK _ (W.liveK [4, 5, 6, 7, 8, 19, 20, 25] fun K2 hK2 => ?_); clear hK K; simp; refine hK2 _ ?_; clear hK2 K2
    refine W.cond ⟨_, rfl, fun h => ?_, fun h => ?_⟩   -- t25
    · have hj : j ≤ i := by simp at h; omega
      have hjL : j < L.length := by omega
      have c1 := c1 j hj
      refine W.skip ?_
      refine W.seq ?_
      refine W.block ?_   -- block 3
      refine W.sreg (fun K hK => ?_)
      simp (disch := omega) [gA, wrap_i64, wrap_u64, wrap_u32, Int.tdiv_eq_ediv_of_nonneg, Int.tmod_eq_emod_of_nonneg]
      refine callR c1 ?_
      simp (disch := omega) [gA, wrap_i64, wrap_u64, wrap_u32, Int.tdiv_eq_ediv_of_nonneg, Int.tmod_eq_emod_of_nonneg]
      refine hK _ (W.liveK [4, 5, 6, 7, 8, 19, 20] fun K2 hK2 => ?_); clear hK K; simp; refine hK2 _ ?_; clear hK2 K2
      by_cases hji : j < i
      · have hb : decide (j < i) = true := decide_eq_true hji
        have c2 := c2 j hji
        refine W.sdrw (fun K hK => ?_)
        simp (disch := omega) [gA, wrap_i64, wrap_u64, wrap_u32, Int.tdiv_eq_ediv_of_nonneg, Int.tmod_eq_emod_of_nonneg, hb]
        refine callR c2 ?_
        simp (disch := omega) [gA, wrap_i64, wrap_u64, wrap_u32, Int.tdiv_eq_ediv_of_nonneg, Int.tmod_eq_emod_of_nonneg, hb]
        refine hK _ (W.liveK [4, 5, 6, 7, 8, 19, 20, 48] fun K2 hK2 => ?_); clear hK K; simp; refine hK2 _ ?_; clear hK2 K2
        refine W.cond ⟨_, rfl, fun h => ?_, fun h => ?_⟩   -- t48
        · cases h
        refine W.skip ?_
        refine W.reg (fun K hK => ?_); simp (disch := omega) [gA, wrap_i64, wrap_u64, wrap_u32, Int.tdiv_eq_ediv_of_nonneg, Int.tmod_eq_emod_of_nonneg]
        refine hK _ ⟨q - 1, _, Gh_fa _ [4, 5, 6, 7, 8, 19, 20], by omega, j + 1, _, _, rfl, by omega⟩
      · have hb : decide (j < i) = false := decide_eq_false hji
        refine W.sdrw (fun K hK => ?_)
        simp (disch := omega) [gA, wrap_i64, wrap_u64, wrap_u32, Int.tdiv_eq_ediv_of_nonneg, Int.tmod_eq_emod_of_nonneg, hb]
        refine hK _ (W.liveK [4, 5, 6, 7, 8, 19, 20, 48] fun K2 hK2 => ?_); clear hK K; simp; refine hK2 _ ?_; clear hK2 K2
        refine W.cond ⟨_, rfl, fun h => ?_, fun h => ?_⟩   -- t48
        · cases h
        refine W.skip ?_
        refine W.reg (fun K hK => ?_); simp (disch := omega) [gA, wrap_i64, wrap_u64, wrap_u32, Int.tdiv_eq_ediv_of_nonneg, Int.tmod_eq_emod_of_nonneg]
        refine hK _ ⟨q - 1, _, Gh_fa _ [4, 5, 6, 7, 8, 19, 20], by omega, j + 1, _, _, rfl, by omega⟩
    · have hj : j = i + 1 := by simp at h; omega
      subst hj
      rw [P1]
      refine W.exit ?_; simp only [pblk_exit, pblk_normal, pblk_ret, pseq_exit, pseq_normal, pseq_ret, pnor_exit, pnor_normal, pnor_ret, if_true, if_false, reduceIte, Nat.reduceEqDiff]
      refine W.sdrw (fun K hK => ?_)
      simp (disch := omega) [gA, wrap_i64, wrap_u64, wrap_u32, Int.tdiv_eq_ediv_of_nonneg, Int.tmod_eq_emod_of_nonneg]
      refine callR c3 ?_
      simp (disch := omega) [gA, wrap_i64, wrap_u64, wrap_u32, Int.tdiv_eq_ediv_of_nonneg, Int.tmod_eq_emod_of_nonneg]
      refine callR c4 ?_
      simp (disch := omega) [gA, wrap_i64, wrap_u64, wrap_u32, Int.tdiv_eq_ediv_of_nonneg, Int.tmod_eq_emod_of_nonneg]
      refine hK _ (W.liveK [4, 5, 6, 19, 20, 67] fun K2 hK2 => ?_); clear hK K; simp; refine hK2 _ ?_; clear hK2 K2
      refine W.cond ⟨_, rfl, fun h => ?_, fun h => ?_⟩   -- t67
      · cases h
      refine W.skip ?_
      refine W.reg (fun K hK => ?_); simp (disch := omega) [gA, wrap_i64, wrap_u64, wrap_u32, Int.tdiv_eq_ediv_of_nonneg, Int.tmod_eq_emod_of_nonneg]
      refine hK _ ⟨k - 1, _, Gh_fa _ [4, 5, 6, 19, 20], by omega, i + 1, _, _, rfl, by omega⟩
  · have hi : i = m := by simp at h; omega
    subst hi
    refine W.exit ?_; simp only [pblk_exit, pblk_normal, pblk_ret, pseq_exit, pseq_normal, pseq_ret, pnor_exit, pnor_normal, pnor_ret, if_true, if_false, reduceIte, Nat.reduceEqDiff]
    refine W.seq ?_
    refine W.sreg (fun K hK => ?_)
    simp (disch := omega) [gA, wrap_i64, wrap_u64, wrap_u32, Int.tdiv_eq_ediv_of_nonneg, Int.tmod_eq_emod_of_nonneg]
    refine callR l1 ?_
    simp (disch := omega) [gA, wrap_i64, wrap_u64, wrap_u32, Int.tdiv_eq_ediv_of_nonneg, Int.tmod_eq_emod_of_nonneg]
    refine callR k1 ?_
    simp (disch := omega) [gA, wrap_i64, wrap_u64, wrap_u32, Int.tdiv_eq_ediv_of_nonneg, Int.tmod_eq_emod_of_nonneg]
    refine callR l2 ?_
    simp (disch := omega) [gA, wrap_i64, wrap_u64, wrap_u32, Int.tdiv_eq_ediv_of_nonneg, Int.tmod_eq_emod_of_nonneg]
    refine callR k2 ?_
    simp (disch := omega) [gA, wrap_i64, wrap_u64, wrap_u32, Int.tdiv_eq_ediv_of_nonneg, Int.tmod_eq_emod_of_nonneg]
    refine callR s3 ?_
    simp (disch := omega) [gA, wrap_i64, wrap_u64, wrap_u32, Int.tdiv_eq_ediv_of_nonneg, Int.tmod_eq_emod_of_nonneg]
    refine hK _ (W.liveK [4, 5, 78] fun K2 hK2 => ?_); clear hK K; simp; refine hK2 _ ?_; clear hK2 K2
    refine W.cond ⟨_, rfl, fun h => ?_, fun h => ?_⟩   -- t78
    · cases h
    refine W.skip ?_
    refine W.sreg (fun K hK => ?_)
    simp (disch := omega) [gA, wrap_i64, wrap_u64, wrap_u32, Int.tdiv_eq_ediv_of_nonneg, Int.tmod_eq_emod_of_nonneg]
    refine callR q2 ?_
    simp (disch := omega) [gA, wrap_i64, wrap_u64, wrap_u32, Int.tdiv_eq_ediv_of_nonneg, Int.tmod_eq_emod_of_nonneg]
    refine hK _ (W.liveK [4, 5, 9] fun K2 hK2 => ?_); clear hK K; simp; refine hK2 _ ?_; clear hK2 K2
    by_cases h0 : i = 0
    · have hb : ((L.length : Int) == 0) = true := by rw [beq_iff_eq]; omega
      refine W.sreg (fun K hK => ?_)
      simp (disch := omega) [gA, wrap_i64, wrap_u64, wrap_u32, Int.tdiv_eq_ediv_of_nonneg, Int.tmod_eq_emod_of_nonneg]
      refine callR g1 ?_
      simp (disch := omega) [gA, wrap_i64, wrap_u64, wrap_u32, Int.tdiv_eq_ediv_of_nonneg, Int.tmod_eq_emod_of_nonneg]
      refine callR s1 ?_
      simp (disch := omega) [gA, wrap_i64, wrap_u64, wrap_u32, Int.tdiv_eq_ediv_of_nonneg, Int.tmod_eq_emod_of_nonneg]
      refine callR o2 ?_
      simp (disch := omega) [gA, wrap_i64, wrap_u64, wrap_u32, Int.tdiv_eq_ediv_of_nonneg, Int.tmod_eq_emod_of_nonneg]
      refine callR g2 ?_
      simp (disch := omega) [gA, wrap_i64, wrap_u64, wrap_u32, Int.tdiv_eq_ediv_of_nonneg, Int.tmod_eq_emod_of_nonneg]
      refine callR o2 ?_
      simp (disch := omega) [gA, wrap_i64, wrap_u64, wrap_u32, Int.tdiv_eq_ediv_of_nonneg, Int.tmod_eq_emod_of_nonneg]
      refine callR s2 ?_
      simp (disch := omega) [gA, wrap_i64, wrap_u64, wrap_u32, Int.tdiv_eq_ediv_of_nonneg, Int.tmod_eq_emod_of_nonneg, hb]
      refine callR hw ?_
      simp (disch := omega) [gA, wrap_i64, wrap_u64, wrap_u32, Int.tdiv_eq_ediv_of_nonneg, Int.tmod_eq_emod_of_nonneg]
      refine hK _ (W.liveK [2] fun K2 hK2 => ?_); clear hK K; simp; refine hK2 _ ?_; clear hK2 K2
      refine W.ret ?_
      simp [go]
    · have hb : ((L.length : Int) == 0) = false := by rw [beq_eq_false_iff_ne]; omega
      have hx := hend (by omega)
      have hi1 : i - 1 < L.length := by omega
      have e1 : ((L.length : Int) - 1).toNat = i - 1 := by omega
      have e2 : (L.length : Int) - 1 = ((i - 1 : Nat) : Int) := by omega
      have hb2 : decide ((1 : Int) < ((nth L (i - 1)).l.length : Int)) = true := by simp; omega
      refine W.sreg (fun K hK => ?_)
      simp (disch := omega) [gA, wrap_i64, wrap_u64, wrap_u32, Int.tdiv_eq_ediv_of_nonneg, Int.tmod_eq_emod_of_nonneg]
      refine callR g1 ?_
      simp (disch := omega) [gA, wrap_i64, wrap_u64, wrap_u32, Int.tdiv_eq_ediv_of_nonneg, Int.tmod_eq_emod_of_nonneg]
      refine callR s1 ?_
      simp (disch := omega) [gA, wrap_i64, wrap_u64, wrap_u32, Int.tdiv_eq_ediv_of_nonneg, Int.tmod_eq_emod_of_nonneg]
      refine callR o2 ?_
      simp (disch := omega) [gA, wrap_i64, wrap_u64, wrap_u32, Int.tdiv_eq_ediv_of_nonneg, Int.tmod_eq_emod_of_nonneg]
      refine callR g2 ?_
      simp (disch := omega) [gA, wrap_i64, wrap_u64, wrap_u32, Int.tdiv_eq_ediv_of_nonneg, Int.tmod_eq_emod_of_nonneg]
      refine callR o2 ?_
      simp (disch := omega) [gA, wrap_i64, wrap_u64, wrap_u32, Int.tdiv_eq_ediv_of_nonneg, Int.tmod_eq_emod_of_nonneg]
      refine callR s2 ?_
      simp (disch := omega) [gA, wrap_i64, wrap_u64, wrap_u32, Int.tdiv_eq_ediv_of_nonneg, Int.tmod_eq_emod_of_nonneg, hb, e2, hb2]
      refine callR hw ?_
      simp (disch := omega) [gA, wrap_i64, wrap_u64, wrap_u32, Int.tdiv_eq_ediv_of_nonneg, Int.tmod_eq_emod_of_nonneg]
      refine hK _ (W.liveK [2] fun K2 hK2 => ?_); clear hK K; simp; refine hK2 _ ?_; clear hK2 K2
      refine W.ret ?_
      simp [go]
end Go.Proofs.YtgebobdieekjaaaGreat
