import Derived.Test.YtjnkpfknmncdmaaLbz
import Derived.Test.YtjnkpfknmncdmaaLbn
set_option linter.unusedSimpArgs false
set_option linter.unusedVariables false
namespace Go.Proofs.Ytjnkpfknmncdmaa
open Go Pm

/-! THE DOCUMENT's DIVISION AGAINST THE PROGRAM's. -/
theorem V_nil' (t : Int) : V t [] = 0 := rfl
theorem mul_zero_cut {y h : List Int} (cy : Cn y) (hy : 0 < y.length) (e : ∀ t, V t y * V t h = 0) : cutR h = [] := by
  by_cases hh : cutR h = []
  · exact hh
  · exfalso
    have h1 : pmul y (cutR h) = [] := Cn.ext (Cn.pmul _ _) Cn.nil fun t => by rw [V_pmul, V_cutR, e]; rfl
    have h2 := pmul_len_eq cy (Cn.cut h) hy (List.length_pos_iff.2 hh)
    rw [h1] at h2
    have := List.length_pos_iff.2 hh
    simp at h2; omega
theorem V_eq_cut {a b : List Int} (h : cutR (psub a b) = []) (t : Int) : V t a = V t b := by
  have h1 := V_psub (t := t) a b
  rw [← V_cutR, h] at h1
  have : V t ([] : List Int) = 0 := rfl
  omega
theorem qd_mapmul {D : Int} (h : D ≠ 0) (x : List Int) : qd (x.map (· * D)) D = qs x := by
  have := qd_mul (D := 1) (l := D) (by decide) h x
  rw [Int.one_mul, qd_one] at this
  exact this
theorem dmd_pdm {x y z : List Int} (cx : Cn x) (cz : Cn z) (cy : Cn y) (hy : 0 < y.length) (hz : ∀ t, V t z = lead y ^ psk x y * V t x) :
    qd (cutR (dmd z y).Q) (dmd z y).D = qs (pdm x y).1 ∧ qd (dmd z y).r (dmd z y).D = qs (pdm x y).2 := by
  obtain ⟨hI, hr⟩ := dmd_inv cz cy hy
  generalize dmd z y = σ at *
  have hv := hI.v
  have hV := fun t => V_pdm t x y
  have hl := pdm_len (a := x) hy
  obtain ⟨c1, c2⟩ := pdm_Cn (b := y) cx
  generalize (pdm x y).1 = p at *
  generalize (pdm x y).2 = r at *
  have e : ∀ t, V t (psub σ.r (r.map (· * σ.D))) = V t y * V t (psub (p.map (· * σ.D)) σ.Q) := fun t => by
    have h1 := hv t
    have h2 := hV t
    rw [hz] at h1
    rw [V_psub, V_psub, V_mapmul, V_mapmul]
    have h3 : σ.D * (lead y ^ psk x y * V t x) = σ.D * (V t p * V t y + V t r) := by rw [h2]
    rw [h3] at h1
    grind
  have h1 := mul_small (Cn.psub _ _) cy hy e (by
    have := psub_len σ.r (r.map (· * σ.D))
    simp only [List.length_map] at this
    omega)
  have h2 : cutR (psub (p.map (· * σ.D)) σ.Q) = [] := mul_zero_cut cy hy fun t => by rw [← e, h1]; rfl
  have e1 : σ.r = r.map (· * σ.D) := by
    have := Cn_map_mul c2 hI.d
    exact Cn.ext hI.c this fun t => V_eq_cut (by rw [h1]; rfl) t
  have e2 : cutR σ.Q = p.map (· * σ.D) := Cn.ext (Cn.cut _) (Cn_map_mul c1 hI.d) fun t => by rw [V_cutR]; exact (V_eq_cut h2 t).symm
  rw [e1, e2]
  exact ⟨qd_mapmul hI.d p, qd_mapmul hI.d r⟩

theorem sz2_of_LL {v : Int} {k : Nat} (h : sz LL v ≤ k) : sz 2 v ≤ 32 * k := sz_le (by decide) (Nat.lt_of_lt_of_le (sz_lt hLL v) (by
  have : (LL : Nat) = 2 ^ 32 := by decide
  rw [this, ← Nat.pow_mul]
  exact Nat.pow_le_pow_right (by decide) (by rw [← this]; omega)))
theorem Z_of_LL {v : Int} (h : sz LL v ≤ 200) : Z v := Nat.lt_of_le_of_lt (sz2_of_LL h) (by decide)

theorem PdivPseudos_ret (a0 b0 : RP) (ha0 : InP a0) (hb0 : InP b0) : Ret env.P 8 [Pg a0, Pg b0] (.bool true) := by
  have k1 := Cut_ret a0 8 2 ha0 (by decide) (by decide)
  have k2 := Cut_ret b0 5 2 hb0 (by decide) (by decide)
  have sa := Sm.keep ha0 8 2
  have sb := Sm.keep hb0 5 2
  generalize keepP 8 2 a0 = a at *
  generalize keepP 5 2 b0 = b at *
  refine ret_of_Wf (E := env) (fun _ => 0) [(0, Pg a0), (1, Pg b0)] Try.func8 rfl (by kernel_rfl) (by kernel_rfl) (show 2 ≤ 99 by decide) (by simp) ?_
  refine W.sreg (fun K hK => ?_); simp (disch := omega) [gA, wrap_i64, wrap_u64, wrap_u32, Int.tdiv_eq_ediv_of_nonneg, Int.tmod_eq_emod_of_nonneg]; refine hK _ (W.liveK [0, 1] fun K2 hK2 => ?_); clear hK K; simp; refine hK2 _ ?_; clear hK2 K2
  refine W.sreg (fun K hK => ?_)
  simp (disch := omega) [gA, wrap_i64, wrap_u64, wrap_u32, Int.tdiv_eq_ediv_of_nonneg, Int.tmod_eq_emod_of_nonneg]
  refine callR k1 ?_
  simp (disch := omega) [gA, wrap_i64, wrap_u64, wrap_u32, Int.tdiv_eq_ediv_of_nonneg, Int.tmod_eq_emod_of_nonneg]
  refine hK _ (W.liveK [0, 1, 5] fun K2 hK2 => ?_); clear hK K; simp; refine hK2 _ ?_; clear hK2 K2
  refine W.sreg (fun K hK => ?_)
  simp (disch := omega) [gA, wrap_i64, wrap_u64, wrap_u32, Int.tdiv_eq_ediv_of_nonneg, Int.tmod_eq_emod_of_nonneg]
  refine callR k2 ?_
  simp (disch := omega) [gA, wrap_i64, wrap_u64, wrap_u32, Int.tdiv_eq_ediv_of_nonneg, Int.tmod_eq_emod_of_nonneg]
  refine hK _ (W.liveK [0, 1, 5, 6] fun K2 hK2 => ?_); clear hK K; simp; refine hK2 _ ?_; clear hK2 K2
  have pa := sa.pok (by decide) (by decide)
  have pb := sb.pok (by decide) (by decide)
  have r1 := Pseudo_ret a b (s := 3) (s' := 3) (N := 10) pa pb (sa.bd.mono (by decide) (by decide)) (sb.bd.mono (by decide) (by decide)) (by decide)
  by_cases hB : cfs b = []
  · rw [if_pos hB] at r1
    refine W.sreg (fun K hK => ?_)
    simp (disch := omega) [gA, wrap_i64, wrap_u64, wrap_u32, Int.tdiv_eq_ediv_of_nonneg, Int.tmod_eq_emod_of_nonneg]
    refine callR r1 ?_
    simp (disch := omega) [gA, wrap_i64, wrap_u64, wrap_u32, Int.tdiv_eq_ediv_of_nonneg, Int.tmod_eq_emod_of_nonneg]
    refine hK _ (W.liveK [5, 6, 7, 8, 9, 10] fun K2 hK2 => ?_); clear hK K; simp; refine hK2 _ ?_; clear hK2 K2
    refine W.seq ?_
    refine W.sreg (fun K hK => ?_); simp (disch := omega) [gA, wrap_i64, wrap_u64, wrap_u32, Int.tdiv_eq_ediv_of_nonneg, Int.tmod_eq_emod_of_nonneg, hB]; refine hK _ (W.liveK [5, 6, 7, 8, 9, 10, 36] fun K2 hK2 => ?_); clear hK K; simp; refine hK2 _ ?_; clear hK2 K2
    refine W.cond ⟨_, rfl, fun h => ?_, fun h => ?_⟩   -- t36
    · refine W.sreg (fun K hK => ?_)
      simp (disch := omega) [gA, wrap_i64, wrap_u64, wrap_u32, Int.tdiv_eq_ediv_of_nonneg, Int.tmod_eq_emod_of_nonneg]
      refine callR wakes6_ret ?_
      simp (disch := omega) [gA, wrap_i64, wrap_u64, wrap_u32, Int.tdiv_eq_ediv_of_nonneg, Int.tmod_eq_emod_of_nonneg]
      refine hK _ (W.liveK [4] fun K2 hK2 => ?_); clear hK K; simp; refine hK2 _ ?_; clear hK2 K2
      refine W.ret ?_
      simp [go]
    · simp at h
  rw [if_neg hB] at r1
  refine W.sreg (fun K hK => ?_)
  simp (disch := omega) [gA, wrap_i64, wrap_u64, wrap_u32, Int.tdiv_eq_ediv_of_nonneg, Int.tmod_eq_emod_of_nonneg]
  refine callR r1 ?_
  simp (disch := omega) [gA, wrap_i64, wrap_u64, wrap_u32, Int.tdiv_eq_ediv_of_nonneg, Int.tmod_eq_emod_of_nonneg]
  refine hK _ (W.liveK [5, 6, 7, 8, 9, 10] fun K2 hK2 => ?_); clear hK K; simp; refine hK2 _ ?_; clear hK2 K2
  refine W.seq ?_
  refine W.sreg (fun K hK => ?_); simp (disch := omega) [gA, wrap_i64, wrap_u64, wrap_u32, Int.tdiv_eq_ediv_of_nonneg, Int.tmod_eq_emod_of_nonneg]; refine hK _ (W.liveK [5, 6, 7, 8, 9, 10, 36] fun K2 hK2 => ?_); clear hK K; simp; refine hK2 _ ?_; clear hK2 K2
  refine W.cond ⟨_, rfl, fun h => ?_, fun h => ?_⟩   -- t36
  · simp at h; exact absurd h hB
  clear h
  have hB0 : 0 < (cfs b).length := List.length_pos_iff.2 hB
  have ba : Bd LL 2 8 (cfs a) := sa.bd.cut
  have bb : Bd LL 2 5 (cfs b) := sb.bd.cut
  have ba2 : Bd 2 64 8 (cfs a) := sa.bd2.cut
  have bb2 : Bd 2 64 5 (cfs b) := sb.bd2.cut
  have la := ba2.len
  have lb := bb2.len
  have cA : Cn (cfs a) := Cn.cut _
  have cB : Cn (cfs b) := Cn.cut _
  have hl2 : sz 2 (lead (cfs b)) ≤ 64 := lead_bd bb2
  obtain ⟨bq, br⟩ := pdm_bd (s := 3) (s' := 3) (N := 10) (ba.mono (by decide) (by decide)) (bb.mono (by decide) (by decide)) hB0
  have zz : ∀ {w : List Int} {m : Nat}, Bd LL 200 m w → ∀ c ∈ w, Z c := fun h c hc => Z_of_LL (h.sz c hc)
  have pz := fun z cz hz => dmd_pdm (x := cfs a) (y := cfs b) (z := z) cA cz cB hB0 hz
  have hnx : (if ((cfs a).length : Int) - ((cfs b).length : Int) + 1 < 0 then 0 else ((cfs a).length : Int) - ((cfs b).length : Int) + 1) = (psk (cfs a) (cfs b) : Int) := by unfold psk; split <;> omega
  have hk9 : psk (cfs a) (cfs b) ≤ 8 := by unfold psk; omega
  have hq1 := is_ret (pdm (cfs a) (cfs b)).1 (pdm (cfs a) (cfs b)).1 (by have := bq.len; omega) (by have := bq.len; omega) (zz (bq.mono (by decide) (Nat.le_refl _))) (zz (bq.mono (by decide) (Nat.le_refl _)))
  have hq2 := is_ret (pdm (cfs a) (cfs b)).2 (pdm (cfs a) (cfs b)).2 (by have := br.len; omega) (by have := br.len; omega) (zz (br.mono (by decide) (Nat.le_refl _))) (zz (br.mono (by decide) (Nat.le_refl _)))
  have hix : ∀ i : Nat, (((i : Int)).toNat) = i := fun i => rfl
  have hlx : (((cfs b).length : Int) - 1).toNat = (cfs b).length - 1 := by omega
  have hld : nth (cfs b) ((cfs b).length - 1) = lead (cfs b) := rfl
  generalize (pdm (cfs a) (cfs b)).1 = q at *
  generalize (pdm (cfs a) (cfs b)).2 = r at *
  generalize psk (cfs a) (cfs b) = k at *
  generalize cfs a = x at *
  generalize cfs b = y at *
  refine W.skip ?_
  refine W.sreg (fun K hK => ?_); simp (disch := omega) [gA, wrap_i64, wrap_u64, wrap_u32, Int.tdiv_eq_ediv_of_nonneg, Int.tmod_eq_emod_of_nonneg, hnx]; refine hK _ (W.liveK [5, 6, 7, 8, 9, 10, 11] fun K2 hK2 => ?_); clear hK K; simp; refine hK2 _ ?_; clear hK2 K2
  refine W.sreg (fun K hK => ?_); simp (disch := omega) [gA, wrap_i64, wrap_u64, wrap_u32, Int.tdiv_eq_ediv_of_nonneg, Int.tmod_eq_emod_of_nonneg]; refine hK _ (W.liveK [6, 7, 8, 9, 10, 11, 12] fun K2 hK2 => ?_); clear hK K; simp; refine hK2 _ ?_; clear hK2 K2
  refine W.seq ?_
  refine W.sreg (fun K hK => ?_); simp (disch := omega) [gA, wrap_i64, wrap_u64, wrap_u32, Int.tdiv_eq_ediv_of_nonneg, Int.tmod_eq_emod_of_nonneg]; refine hK _ (W.liveK [6, 7, 8, 9, 10, 11, 12, 13] fun K2 hK2 => ?_); clear hK K; simp; refine hK2 _ ?_; clear hK2 K2
  refine W.block ?_   -- block 0
  refine W.loopG (fun j σ => ∃ (i : Nat) (z : List Int) (rows : Pm.Rows) (clk : Nat), σ = ⟨fa [(6, PI y), (7, Po q), (8, Po r), (9, .int .i64 k), (10, .int .i64 0), (11, .int .i64 k), (12, PI z), (13, .int .i64 i)], rows, clk⟩ ∧
    i + j = k ∧ Cn z ∧ Bd 2 (64 + 64 * i) 8 z ∧ ∀ t, V t z = lead y ^ i * V t x) k ?_ ?_
  · exact ⟨_, .refl, 0, x, _, _, rfl, by omega, cA, ba2, fun t => by simp⟩
  rintro j _ ⟨i, z, rows, clk, rfl, hij, cz, bz, hz⟩
  refine W.seq ?_
  refine W.sreg (fun K hK => ?_); simp (disch := omega) [gA, wrap_i64, wrap_u64, wrap_u32, Int.tdiv_eq_ediv_of_nonneg, Int.tmod_eq_emod_of_nonneg]; refine hK _ (W.liveK [6, 7, 8, 9, 10, 11, 12, 13, 62] fun K2 hK2 => ?_); clear hK K; simp; refine hK2 _ ?_; clear hK2 K2
  refine W.cond ⟨_, rfl, fun h => ?_, fun h => ?_⟩   -- t62
  · have hik : i < k := by simp at h; omega
    clear h
    have hsc := qScaleI_ret z (lead y) (bz.mono (by show _ ≤ 137438953472; omega) (by omega)) (Nat.le_trans hl2 (by decide))
    have bz2 : Bd 2 (64 + 64 * (i + 1)) 8 (pscale z (lead y)) := (bz.pscale (by decide) hl2).mono (by omega) (by omega)
    have hz2 : ∀ t, V t (pscale z (lead y)) = lead y ^ (i + 1) * V t x := fun t => by rw [V_pscale, hz, Int.pow_succ]; grind
    refine W.skip ?_
    refine W.seq ?_
    refine W.block ?_   -- block 1
    refine W.reg (fun K hK => ?_)
    simp (disch := omega) [gA, wrap_i64, wrap_u64, wrap_u32, Int.tdiv_eq_ediv_of_nonneg, Int.tmod_eq_emod_of_nonneg, hlx, hld]
    refine callR hsc ?_
    simp (disch := omega) [gA, wrap_i64, wrap_u64, wrap_u32, Int.tdiv_eq_ediv_of_nonneg, Int.tmod_eq_emod_of_nonneg]
    refine hK _ (W.liveK [6, 7, 8, 9, 10, 11, 12, 13] fun K2 hK2 => ?_); clear hK K; simp; refine hK2 _ ?_; clear hK2 K2
    refine W.reg (fun K hK => ?_); simp (disch := omega) [gA, wrap_i64, wrap_u64, wrap_u32, Int.tdiv_eq_ediv_of_nonneg, Int.tmod_eq_emod_of_nonneg]
    refine hK _ ⟨j - 1, _, Gh_fa _ [6, 7, 8, 9, 10, 11, 12, 13], by omega, i + 1, pscale z (lead y), _, _, rfl, by omega, Cn.pscale _ _, bz2, hz2⟩
  · have hik : i = k := by simp at h; omega
    subst hik
    clear h
    have hD := qDivMod_ret z y (s := 64 + 64 * i) (s' := 64) (N := 8) bz (bb2.mono (by decide) (by decide)) cz cB hB0 (by omega) (by omega)
    obtain ⟨e1, e2⟩ := pz z cz hz
    rw [e1, e2, PP_qs, PP_qs, PP_qs, PP_qs] at hD
    refine W.exit ?_; simp only [pblk_exit, pblk_normal, pblk_ret, pseq_exit, pseq_normal, pseq_ret, pnor_exit, pnor_normal, pnor_ret, if_true, if_false, reduceIte, Nat.reduceEqDiff]
    refine W.sreg (fun K hK => ?_)
    simp (disch := omega) [gA, wrap_i64, wrap_u64, wrap_u32, Int.tdiv_eq_ediv_of_nonneg, Int.tmod_eq_emod_of_nonneg]
    refine callR hD ?_
    simp (disch := omega) [gA, wrap_i64, wrap_u64, wrap_u32, Int.tdiv_eq_ediv_of_nonneg, Int.tmod_eq_emod_of_nonneg]
    refine hK _ (W.liveK [7, 8, 9, 10, 11, 14, 15] fun K2 hK2 => ?_); clear hK K; simp; refine hK2 _ ?_; clear hK2 K2
    refine W.sreg (fun K hK => ?_)
    simp (disch := omega) [gA, wrap_i64, wrap_u64, wrap_u32, Int.tdiv_eq_ediv_of_nonneg, Int.tmod_eq_emod_of_nonneg]
    refine callR hq1 ?_
    simp (disch := omega) [gA, wrap_i64, wrap_u64, wrap_u32, Int.tdiv_eq_ediv_of_nonneg, Int.tmod_eq_emod_of_nonneg]
    refine callR hq2 ?_
    simp (disch := omega) [gA, wrap_i64, wrap_u64, wrap_u32, Int.tdiv_eq_ediv_of_nonneg, Int.tmod_eq_emod_of_nonneg]
    refine callR wakes6_ret ?_
    simp (disch := omega) [gA, wrap_i64, wrap_u64, wrap_u32, Int.tdiv_eq_ediv_of_nonneg, Int.tmod_eq_emod_of_nonneg]
    refine hK _ (W.liveK [4] fun K2 hK2 => ?_); clear hK K; simp; refine hK2 _ ?_; clear hK2 K2
    refine W.ret ?_
    simp [go]
end Go.Proofs.Ytjnkpfknmncdmaa
