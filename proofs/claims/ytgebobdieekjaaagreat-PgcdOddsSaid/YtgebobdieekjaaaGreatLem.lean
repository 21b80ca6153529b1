import Derived.Test.YtgebobdieekjaaaGreatLek
set_option linter.unusedSimpArgs false
set_option linter.unusedVariables false
namespace Go.Proofs.YtgebobdieekjaaaGreat
open Go Pm

/-! LAW 7, WHAT STANDS AN ODD NUMBER OF TIMES. -/
theorem pow_hs' {n s : Nat} (hn : n ≤ 255) (hs : 8 ≤ s) : n + 1 ≤ 2 ^ s := Nat.le_trans (show n + 1 ≤ 2 ^ 8 by omega) (Nat.pow_le_pow_right (by decide) hs)
theorem Lay.mk' {s n : Nat} {a : ZX} (b : BZ s n a) (hn : n ≤ 20) (hs : 8 ≤ s) (hC : (qb s n + n + 6) * 4 ^ n ≤ 4500000000) : Lay s n a := ⟨b, hn, pow_hs' (by omega) hs, hC⟩
theorem sq_both {a : ZX} (ha : a ≠ 0) : Nf (sq a) ∧ ∀ p, ZX.Irr p → ZX.mu p (sq a) = min (ZX.mu p a) 1 := by
  have nA := nf_Nf ha
  have h : sq a = sz' (nf a) := sq_eq ha (sz_Nf nA) fun p hp => by rw [sz_mu nA hp, mu_nf hp ha]
  rw [h]
  exact ⟨sz_Nf nA, fun p hp => by rw [sz_mu nA hp, mu_nf hp ha]⟩
theorem oz_both {a : ZX} (ha : a ≠ 0) : Nf (oz (nf a)) ∧ ∀ p, ZX.Irr p → ZX.mu p (oz (nf a)) = ZX.mu p a % 2 := by
  have nA := nf_Nf ha
  exact ⟨oz_Nf nA, fun p hp => by rw [oz_mu nA hp, mu_nf hp ha]⟩
theorem one_mul' (a : ZX) : 1 * a = a := by grind
theorem Lay.bsq {s n : Nat} {a : ZX} (h : Lay s n a) (h0 : a ≠ 0) : BZ (qb s n) n (sq a) := by
  have nA := nf_Nf h0
  have h : sq a = sz' (nf a) ∧ Lay s n (nf a) := ⟨sq_eq h0 (sz_Nf nA) fun p hp => by rw [sz_mu nA hp, mu_nf hp h0], h.nfz⟩
  rw [h.1]
  exact h.2.dv nA (sz_Nf nA) (wz_dv_a nA 0)
theorem Lay.boz {s n : Nat} {a : ZX} (h : Lay s n a) (h0 : a ≠ 0) : BZ (qb s n) n (oz (nf a)) := h.nfz.dv (nf_Nf h0) (oz_Nf (nf_Nf h0)) (pf_dv_a (nf_Nf h0) _ _)
theorem PgcdOdds_ret (l m : List Int) (hb : ∀ x ∈ l, -9223372036854775808 ≤ x ∧ x < 9223372036854775808) (hl : l.length < 9223372036854775808) (mb : ∀ x ∈ m, -9223372036854775808 ≤ x ∧ x < 9223372036854775808) (ml : m.length < 9223372036854775808) : Ret env.P 7 [sls i64e l, sls i64e m] (.bool true) := by
  have c1 := Made_ret l hl hb 4 (by decide)
  have c2 := Made_ret m ml mb 2 (by decide)
  obtain ⟨n1, b1⟩ := made_ok l 4
  obtain ⟨n2, b2⟩ := made_ok m 2
  generalize made l 4 = a at *
  generalize made m 2 = b at *
  have u1 := b1.N
  have u2 := b2.N
  have naa := ZX.mul_ne n1 n1
  have nab := ZX.mul_ne n1 n2
  have nabb := ZX.mul_ne nab n2
  have xaa : BZ 311 9 (a * a) := BZ.mulc b1 b1 (by rw [ZX.N_mul n1 n1]; omega)
  have xab : BZ 309 7 (a * b) := BZ.mulc b1 b2 (by rw [ZX.N_mul n1 n2]; omega)
  have xabb : BZ 465 9 (a * b * b) := BZ.mulc xab b2 (by rw [ZX.N_mul nab n2]; have := xab.N; omega)
  have Laa : Lay 311 9 (a * a) := .mk' xaa (by decide) (by decide) (by decide)
  have Lab : Lay 309 7 (a * b) := .mk' xab (by decide) (by decide) (by decide)
  have Labb : Lay 465 9 (a * b * b) := .mk' xabb (by decide) (by decide) (by decide)
  have La : Lay 153 5 a := .mk' b1 (by decide) (by decide) (by decide)
  have m1 : Ret env.P 32 [Po a.l, Po a.l] (Po (a * a).l) := pMulI_ret (bdL b1) (bdL b1) (by decide)
  have m2 : Ret env.P 32 [Po a.l, Po b.l] (Po (a * b).l) := pMulI_ret (bdL b1) (bdL b2) (by decide)
  have m3 : Ret env.P 38 [.sl [[Po a.l], [Po b.l], [Po b.l]]] (Po (a * b * b).l) := by
    have bo : BZ 3 1 (1 : ZX) := small_bz (by decide) (by decide)
    have := Product_ret [a, b, b] (by simp) (fun i hi => by
      match i, hi with
      | 0, _ => exact pMulI_ret (bdL bo) (bdL b1) (by decide)
      | 1, _ =>
        rw [show prodl ([a, b, b].take 1) = a from one_mul' a, show prodl ([a, b, b].take (1 + 1)) = a * b from by show 1 * a * b = _; rw [one_mul']]
        exact m2
      | 2, _ =>
        rw [show prodl ([a, b, b].take 2) = a * b from by show 1 * a * b = _; rw [one_mul'], show prodl ([a, b, b].take (2 + 1)) = a * b * b from by show 1 * a * b * b = _; rw [one_mul']]
        exact pMulI_ret (bdL xab) (bdL b2) (by decide))
    rw [show prodl [a, b, b] = a * b * b from by show 1 * a * b * b = _; rw [one_mul']] at this
    exact this
  have e1 : oz (nf (a * a)) = 1 := (oz_both naa).1.eq_of_mu Nf.one fun p hp => by
    rw [(oz_both naa).2 p hp, ZX.mu_mul hp n1 n1, ZX.mu_one hp]; omega
  have e2 : oz (nf (a * b * b)) = oz (nf a) := (oz_both nabb).1.eq_of_mu (oz_both n1).1 fun p hp => by
    rw [(oz_both nabb).2 p hp, (oz_both n1).2 p hp, ZX.mu_mul hp nab n2, ZX.mu_mul hp n1 n2]; omega
  have e3 : sq (a * a) = sq a := (sq_both naa).1.eq_of_mu (sq_both n1).1 fun p hp => by
    rw [(sq_both naa).2 p hp, (sq_both n1).2 p hp, ZX.mu_mul hp n1 n1]; omega
  have e4 : sq (a * b * b) = sq (a * b) := (sq_both nabb).1.eq_of_mu (sq_both nab).1 fun p hp => by
    rw [(sq_both nabb).2 p hp, (sq_both nab).2 p hp, ZX.mu_mul hp nab n2, ZX.mu_mul hp n1 n2]; omega
  have o1 := Odd_ret Laa naa
  rw [e1] at o1
  have o2 := Odd_ret Labb nabb
  rw [e2] at o2
  have o3 := Odd_ret La n1
  have s1 := Square_ret Laa
  rw [e3] at s1
  have s2 := Square_ret La
  have s3 := Square_ret Labb
  rw [e4] at s3
  have s4 := Square_ret Lab
  have i1 : Ret env.P 19 [PI (1 : ZX).l, Po (1 : ZX).l] (.bool true) := isZ_ret (n := 1) (small_bz (by decide) (by decide)) (by decide) (by decide)
  have p1 := pSameI_ret ((La.boz n1).pb (by decide) (by decide)) ((La.boz n1).pb (by decide) (by decide))
  have p2 := pSameI_ret ((La.bsq n1).pb (by decide) (by decide)) ((La.bsq n1).pb (by decide) (by decide))
  have p3 := pSameI_ret ((Lab.bsq nab).pb (by decide) (by decide)) ((Lab.bsq nab).pb (by decide) (by decide))
  simp only [decide_true] at p1 p2 p3
  have q1 := qOne_ret
  have t1 := toZ_ret b1 (by decide) (by decide)
  have t2 := toZ_ret b2 (by decide) (by decide)
  have hw := wakes7_ret
  generalize (sq (a * b)).l = k1 at *
  generalize (sq a).l = k2 at *
  generalize (oz (nf a)).l = k3 at *
  generalize (1 : ZX).l = k4 at *
  generalize (a * b * b).l = k5 at *
  generalize (a * b).l = k6 at *
  generalize (a * a).l = k7 at *
  generalize a.l = al at *
  generalize b.l = bl at *
  refine ret_of_Wf (E := env) (fun _ => 0) [(0, sls i64e l), (1, sls i64e m)] Tryz.func7 rfl (by kernel_rfl) (by kernel_rfl) (show 2 ≤ 58 by decide) (by simp) ?_
  refine W.sreg (fun K hK => ?_); simp (disch := omega) [gA, wrap_i64, wrap_u64, wrap_u32, Int.tdiv_eq_ediv_of_nonneg, Int.tmod_eq_emod_of_nonneg]; refine hK _ (W.liveK [0, 1] fun K2 hK2 => ?_); clear hK K; simp; refine hK2 _ ?_; clear hK2 K2
  refine W.sreg (fun K hK => ?_)
  simp (disch := omega) [gA, wrap_i64, wrap_u64, wrap_u32, Int.tdiv_eq_ediv_of_nonneg, Int.tmod_eq_emod_of_nonneg]
  refine callR c1 ?_
  simp (disch := omega) [gA, wrap_i64, wrap_u64, wrap_u32, Int.tdiv_eq_ediv_of_nonneg, Int.tmod_eq_emod_of_nonneg]
  refine callR t1 ?_
  simp (disch := omega) [gA, wrap_i64, wrap_u64, wrap_u32, Int.tdiv_eq_ediv_of_nonneg, Int.tmod_eq_emod_of_nonneg]
  refine callR c2 ?_
  simp (disch := omega) [gA, wrap_i64, wrap_u64, wrap_u32, Int.tdiv_eq_ediv_of_nonneg, Int.tmod_eq_emod_of_nonneg]
  refine callR t2 ?_
  simp (disch := omega) [gA, wrap_i64, wrap_u64, wrap_u32, Int.tdiv_eq_ediv_of_nonneg, Int.tmod_eq_emod_of_nonneg]
  refine hK _ (W.liveK [5, 6] fun K2 hK2 => ?_); clear hK K; simp; refine hK2 _ ?_; clear hK2 K2
  refine W.sreg (fun K hK => ?_)
  simp (disch := omega) [gA, wrap_i64, wrap_u64, wrap_u32, Int.tdiv_eq_ediv_of_nonneg, Int.tmod_eq_emod_of_nonneg]
  refine callR q1 ?_
  simp (disch := omega) [gA, wrap_i64, wrap_u64, wrap_u32, Int.tdiv_eq_ediv_of_nonneg, Int.tmod_eq_emod_of_nonneg]
  refine hK _ (W.liveK [5, 6, 7] fun K2 hK2 => ?_); clear hK K; simp; refine hK2 _ ?_; clear hK2 K2
  refine W.sreg (fun K hK => ?_)
  simp (disch := omega) [gA, wrap_i64, wrap_u64, wrap_u32, Int.tdiv_eq_ediv_of_nonneg, Int.tmod_eq_emod_of_nonneg]
  refine callR m1 ?_
  simp (disch := omega) [gA, wrap_i64, wrap_u64, wrap_u32, Int.tdiv_eq_ediv_of_nonneg, Int.tmod_eq_emod_of_nonneg]
  refine callR o1 ?_
  simp (disch := omega) [gA, wrap_i64, wrap_u64, wrap_u32, Int.tdiv_eq_ediv_of_nonneg, Int.tmod_eq_emod_of_nonneg]
  refine callR i1 ?_
  simp (disch := omega) [gA, wrap_i64, wrap_u64, wrap_u32, Int.tdiv_eq_ediv_of_nonneg, Int.tmod_eq_emod_of_nonneg]
  refine callR m3 ?_
  simp (disch := omega) [gA, wrap_i64, wrap_u64, wrap_u32, Int.tdiv_eq_ediv_of_nonneg, Int.tmod_eq_emod_of_nonneg]
  refine callR o2 ?_
  simp (disch := omega) [gA, wrap_i64, wrap_u64, wrap_u32, Int.tdiv_eq_ediv_of_nonneg, Int.tmod_eq_emod_of_nonneg]
  refine callR o3 ?_
  simp (disch := omega) [gA, wrap_i64, wrap_u64, wrap_u32, Int.tdiv_eq_ediv_of_nonneg, Int.tmod_eq_emod_of_nonneg]
  refine callR p1 ?_
  simp (disch := omega) [gA, wrap_i64, wrap_u64, wrap_u32, Int.tdiv_eq_ediv_of_nonneg, Int.tmod_eq_emod_of_nonneg]
  refine callR m1 ?_
  simp (disch := omega) [gA, wrap_i64, wrap_u64, wrap_u32, Int.tdiv_eq_ediv_of_nonneg, Int.tmod_eq_emod_of_nonneg]
  refine callR s1 ?_
  simp (disch := omega) [gA, wrap_i64, wrap_u64, wrap_u32, Int.tdiv_eq_ediv_of_nonneg, Int.tmod_eq_emod_of_nonneg]
  refine callR s2 ?_
  simp (disch := omega) [gA, wrap_i64, wrap_u64, wrap_u32, Int.tdiv_eq_ediv_of_nonneg, Int.tmod_eq_emod_of_nonneg]
  refine callR p2 ?_
  simp (disch := omega) [gA, wrap_i64, wrap_u64, wrap_u32, Int.tdiv_eq_ediv_of_nonneg, Int.tmod_eq_emod_of_nonneg]
  refine callR m3 ?_
  simp (disch := omega) [gA, wrap_i64, wrap_u64, wrap_u32, Int.tdiv_eq_ediv_of_nonneg, Int.tmod_eq_emod_of_nonneg]
  refine callR s3 ?_
  simp (disch := omega) [gA, wrap_i64, wrap_u64, wrap_u32, Int.tdiv_eq_ediv_of_nonneg, Int.tmod_eq_emod_of_nonneg]
  refine callR m2 ?_
  simp (disch := omega) [gA, wrap_i64, wrap_u64, wrap_u32, Int.tdiv_eq_ediv_of_nonneg, Int.tmod_eq_emod_of_nonneg]
  refine callR s4 ?_
  simp (disch := omega) [gA, wrap_i64, wrap_u64, wrap_u32, Int.tdiv_eq_ediv_of_nonneg, Int.tmod_eq_emod_of_nonneg]
  refine callR p3 ?_
  simp (disch := omega) [gA, wrap_i64, wrap_u64, wrap_u32, Int.tdiv_eq_ediv_of_nonneg, Int.tmod_eq_emod_of_nonneg]
  refine callR hw ?_
  simp (disch := omega) [gA, wrap_i64, wrap_u64, wrap_u32, Int.tdiv_eq_ediv_of_nonneg, Int.tmod_eq_emod_of_nonneg]
  refine hK _ (W.liveK [4] fun K2 hK2 => ?_); clear hK K; simp; refine hK2 _ ?_; clear hK2 K2
  refine W.ret ?_
  simp [go]
end Go.Proofs.YtgebobdieekjaaaGreat
