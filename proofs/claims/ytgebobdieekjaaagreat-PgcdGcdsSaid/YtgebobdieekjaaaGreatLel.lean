import Derived.Test.YtgebobdieekjaaaGreatLek
set_option linter.unusedSimpArgs false
set_option linter.unusedVariables false
namespace Go.Proofs.YtgebobdieekjaaaGreat
open Go Pm

/-! LAW 7, GREATEST COMMON DIVISORS. -/
theorem pow_hs {n s : Nat} (hn : n ≤ 255) (hs : 8 ≤ s) : n + 1 ≤ 2 ^ s := Nat.le_trans (show n + 1 ≤ 2 ^ 8 by omega) (Nat.pow_le_pow_right (by decide) hs)
theorem gz_bz {s n : Nat} {a c : ZX} (ba : BZ s n a) (ha : a ≠ 0) (hn : n ≤ 255) (hs : 8 ≤ s) : BZ (qb s n) n (gz a c) := dv_bd (nf_Nf ha) (gz_Nf (.inl ha)) ((gz_isG a c).l.trans (dv_nf a).1) ba.nf (pow_hs hn hs)
theorem PgcdGcds_ret (l m c : List Int) (hb : ∀ x ∈ l, -9223372036854775808 ≤ x ∧ x < 9223372036854775808) (hl : l.length < 9223372036854775808) (mb : ∀ x ∈ m, -9223372036854775808 ≤ x ∧ x < 9223372036854775808) (ml : m.length < 9223372036854775808) (cb : ∀ x ∈ c, -9223372036854775808 ≤ x ∧ x < 9223372036854775808) (cl : c.length < 9223372036854775808) : Ret env.P 4 [sls i64e l, sls i64e m, sls i64e c] (.bool true) := by
  have c1 := Made_ret l hl hb 5 (by decide)
  have c2 := Made_ret m ml mb 5 (by decide)
  have c3 := Made_ret c cl cb 3 (by decide)
  obtain ⟨n1, b1⟩ := made_ok l 5
  obtain ⟨n2, b2⟩ := made_ok m 5
  obtain ⟨n3, b3⟩ := made_ok c 3
  generalize made l 5 = a at *
  generalize made m 5 = b at *
  generalize made c 3 = z at *
  have u1 := b1.N
  have u2 := b2.N
  have u3 := b3.N
  have x1 : BZ 310 9 (a * z) := BZ.mulc b1 b3 (by rw [ZX.N_mul n1 n3]; omega)
  have x2 : BZ 310 9 (b * z) := BZ.mulc b2 b3 (by rw [ZX.N_mul n2 n3]; omega)
  have m1 : Ret env.P 25 [PI a.l, PI z.l] (PI (a * z).l) := qMulI_ret _ _ _ _ _ _ b1 b3 (by decide)
  have m2 : Ret env.P 25 [PI b.l, PI z.l] (PI (b * z).l) := qMulI_ret _ _ _ _ _ _ b2 b3 (by decide)
  have nx := ZX.mul_ne n1 n3
  have ny := ZX.mul_ne n2 n3
  generalize a * z = x at *
  generalize b * z = y at *
  have E : Eu 310 9 := ⟨by decide, by decide, by decide⟩
  have t1 := toZ_ret x1 (by decide) (by decide)
  have t2 := toZ_ret x2 (by decide) (by decide)
  have g1 := E.qg x1 x2
  have g2 := E.gcd2 x1 x2
  have g3 := E.gcdN x1 x2
  have g4 := E.cop x1 x2
  have g5 := E.gcd1 x1
  have g6 := qPrimZ_ret x1 (by decide) (by decide) (by decide)
  have g7 := gcd0_ret
  have bg := gz_bz x1 nx (c := y) (by decide) (by decide)
  have i1 := isZ_ret bg (by decide) (by decide)
  have i2 := isZ_ret x1.nf (by decide) (by decide)
  have hw := wakes7_ret
  have hg : (gz x y).l.length = ZX.N (gz x y) := rfl
  generalize ZX.N (gz x y) = ng at *
  generalize (gz x y).l = lg at *
  generalize (nf x).l = lx at *
  generalize x.l = xl at *
  generalize y.l = yl at *
  generalize a.l = al at *
  generalize b.l = bl at *
  generalize z.l = zl at *
  have hz : (decide (ng = 1) == ((ng : Int) == 1)) = true := by
    by_cases h : ng = 1
    · subst h; rfl
    · simp [h]; omega
  refine ret_of_Wf (E := env) (fun _ => 0) [(0, sls i64e l), (1, sls i64e m), (2, sls i64e c)] Tryz.func4 rfl (by kernel_rfl) (by kernel_rfl) (show 3 ≤ 69 by decide) (by simp) ?_
  refine W.sreg (fun K hK => ?_); simp (disch := omega) [gA, wrap_i64, wrap_u64, wrap_u32, Int.tdiv_eq_ediv_of_nonneg, Int.tmod_eq_emod_of_nonneg]; refine hK _ (W.liveK [0, 1, 2] fun K2 hK2 => ?_); clear hK K; simp; refine hK2 _ ?_; clear hK2 K2
  refine W.sreg (fun K hK => ?_)
  simp (disch := omega) [gA, wrap_i64, wrap_u64, wrap_u32, Int.tdiv_eq_ediv_of_nonneg, Int.tmod_eq_emod_of_nonneg]
  refine callR c3 ?_
  simp (disch := omega) [gA, wrap_i64, wrap_u64, wrap_u32, Int.tdiv_eq_ediv_of_nonneg, Int.tmod_eq_emod_of_nonneg]
  refine hK _ (W.liveK [0, 1, 7] fun K2 hK2 => ?_); clear hK K; simp; refine hK2 _ ?_; clear hK2 K2
  refine W.sreg (fun K hK => ?_)
  simp (disch := omega) [gA, wrap_i64, wrap_u64, wrap_u32, Int.tdiv_eq_ediv_of_nonneg, Int.tmod_eq_emod_of_nonneg]
  refine callR c1 ?_
  simp (disch := omega) [gA, wrap_i64, wrap_u64, wrap_u32, Int.tdiv_eq_ediv_of_nonneg, Int.tmod_eq_emod_of_nonneg]
  refine callR m1 ?_
  simp (disch := omega) [gA, wrap_i64, wrap_u64, wrap_u32, Int.tdiv_eq_ediv_of_nonneg, Int.tmod_eq_emod_of_nonneg]
  refine callR c2 ?_
  simp (disch := omega) [gA, wrap_i64, wrap_u64, wrap_u32, Int.tdiv_eq_ediv_of_nonneg, Int.tmod_eq_emod_of_nonneg]
  refine callR m2 ?_
  simp (disch := omega) [gA, wrap_i64, wrap_u64, wrap_u32, Int.tdiv_eq_ediv_of_nonneg, Int.tmod_eq_emod_of_nonneg]
  refine hK _ (W.liveK [8, 9] fun K2 hK2 => ?_); clear hK K; simp; refine hK2 _ ?_; clear hK2 K2
  refine W.sreg (fun K hK => ?_)
  simp (disch := omega) [gA, wrap_i64, wrap_u64, wrap_u32, Int.tdiv_eq_ediv_of_nonneg, Int.tmod_eq_emod_of_nonneg]
  refine callR t1 ?_
  simp (disch := omega) [gA, wrap_i64, wrap_u64, wrap_u32, Int.tdiv_eq_ediv_of_nonneg, Int.tmod_eq_emod_of_nonneg]
  refine callR t2 ?_
  simp (disch := omega) [gA, wrap_i64, wrap_u64, wrap_u32, Int.tdiv_eq_ediv_of_nonneg, Int.tmod_eq_emod_of_nonneg]
  refine hK _ (W.liveK [8, 9, 10, 11] fun K2 hK2 => ?_); clear hK K; simp; refine hK2 _ ?_; clear hK2 K2
  refine W.sreg (fun K hK => ?_)
  simp (disch := omega) [gA, wrap_i64, wrap_u64, wrap_u32, Int.tdiv_eq_ediv_of_nonneg, Int.tmod_eq_emod_of_nonneg]
  refine callR g1 ?_
  simp (disch := omega) [gA, wrap_i64, wrap_u64, wrap_u32, Int.tdiv_eq_ediv_of_nonneg, Int.tmod_eq_emod_of_nonneg]
  refine hK _ (W.liveK [8, 10, 11, 12] fun K2 hK2 => ?_); clear hK K; simp; refine hK2 _ ?_; clear hK2 K2
  refine W.sreg (fun K hK => ?_)
  simp (disch := omega) [gA, wrap_i64, wrap_u64, wrap_u32, Int.tdiv_eq_ediv_of_nonneg, Int.tmod_eq_emod_of_nonneg]
  refine callR g2 ?_
  simp (disch := omega) [gA, wrap_i64, wrap_u64, wrap_u32, Int.tdiv_eq_ediv_of_nonneg, Int.tmod_eq_emod_of_nonneg]
  refine callR i1 ?_
  simp (disch := omega) [gA, wrap_i64, wrap_u64, wrap_u32, Int.tdiv_eq_ediv_of_nonneg, Int.tmod_eq_emod_of_nonneg]
  refine callR g3 ?_
  simp (disch := omega) [gA, wrap_i64, wrap_u64, wrap_u32, Int.tdiv_eq_ediv_of_nonneg, Int.tmod_eq_emod_of_nonneg]
  refine callR i1 ?_
  simp (disch := omega) [gA, wrap_i64, wrap_u64, wrap_u32, Int.tdiv_eq_ediv_of_nonneg, Int.tmod_eq_emod_of_nonneg]
  refine callR g4 ?_
  simp (disch := omega) [gA, wrap_i64, wrap_u64, wrap_u32, Int.tdiv_eq_ediv_of_nonneg, Int.tmod_eq_emod_of_nonneg, hg, hz]
  refine callR g6 ?_
  simp (disch := omega) [gA, wrap_i64, wrap_u64, wrap_u32, Int.tdiv_eq_ediv_of_nonneg, Int.tmod_eq_emod_of_nonneg]
  refine callR g5 ?_
  simp (disch := omega) [gA, wrap_i64, wrap_u64, wrap_u32, Int.tdiv_eq_ediv_of_nonneg, Int.tmod_eq_emod_of_nonneg]
  refine callR i2 ?_
  simp (disch := omega) [gA, wrap_i64, wrap_u64, wrap_u32, Int.tdiv_eq_ediv_of_nonneg, Int.tmod_eq_emod_of_nonneg]
  refine callR g7 ?_
  simp (disch := omega) [gA, wrap_i64, wrap_u64, wrap_u32, Int.tdiv_eq_ediv_of_nonneg, Int.tmod_eq_emod_of_nonneg]
  refine callR hw ?_
  simp (disch := omega) [gA, wrap_i64, wrap_u64, wrap_u32, Int.tdiv_eq_ediv_of_nonneg, Int.tmod_eq_emod_of_nonneg]
  refine hK _ (W.liveK [6] fun K2 hK2 => ?_); clear hK K; simp; refine hK2 _ ?_; clear hK2 K2
  refine W.ret ?_
  simp [go]
end Go.Proofs.YtgebobdieekjaaaGreat
