import Derived.Test.YtgebobdieekjaaaGreatLek
set_option linter.unusedSimpArgs false
set_option linter.unusedVariables false
namespace Go.Proofs.YtgebobdieekjaaaGreat
open Go Pm

/-! LAW 7, ANY COEFFICIENTS. -/
theorem pow_hs3 {n s : Nat} (hn : n ≤ 255) (hs : 8 ≤ s) : n + 1 ≤ 2 ^ s := Nat.le_trans (show n + 1 ≤ 2 ^ 8 by omega) (Nat.pow_le_pow_right (by decide) hs)
theorem gz_bz3 {s n : Nat} {a c : ZX} (ba : BZ s n a) (bc : BZ s n c) (hn : n ≤ 255) (hs : 8 ≤ s) : BZ (qb s n) n (gz a c) := by
  by_cases ha : a = 0
  · rw [ha, gz_zero']
    exact bc.nf.mono (by unfold qb; omega) (Nat.le_refl _)
  · exact dv_bd (nf_Nf ha) (gz_Nf (.inl ha)) ((gz_isG a c).l.trans (dv_nf a).1) ba.nf (pow_hs3 hn hs)
theorem N_mul_le {x y : ZX} {m n : Nat} (hx : ZX.N x ≤ m + 1) (hy : ZX.N y ≤ n) : ZX.N (x * y) ≤ m + n := by
  by_cases h1 : x = 0
  · rw [h1, show (0 : ZX) * y = 0 by grind, ZX.N_zero]; omega
  by_cases h2 : y = 0
  · rw [h2, show x * (0 : ZX) = 0 by grind, ZX.N_zero]; omega
  rw [ZX.N_mul h1 h2]; omega
theorem rawx (p : RP) (h : InP p) (k : Nat) (hk : k < 1000) : Ret env.P 31 [Pg p, .int .i64 (k : Int), .int .i64 1] (Pg (keepP k 1 p)) ∧ Ret env.P 30 [Pg (keepP k 1 p)] (PI (ZX.of ((keepP k 1 p).map gv)).l) ∧ BZ 32 k (ZX.of ((keepP k 1 p).map gv)) := by
  have s := Sm.keep h k 1
  exact ⟨kPoly_ret p k 1 h.len (fun c hc => (h.ok c hc).2) (by omega) (by decide), qFrom_ret _ (s.fok (by omega) (by decide)), s.bd2.cut⟩
theorem PgcdRaw_ret (a0 b0 c0 : RP) (ha0 : InP a0) (hb0 : InP b0) (hc0 : InP c0) : Ret env.P 5 [Pg a0, Pg b0, Pg c0] (.bool true) := by
  obtain ⟨k1, f1, b1⟩ := rawx a0 ha0 4 (by decide)
  obtain ⟨k2, f2, b2⟩ := rawx b0 hb0 4 (by decide)
  obtain ⟨k3, f3, b3⟩ := rawx c0 hc0 3 (by decide)
  generalize ZX.of ((keepP 4 1 a0).map gv) = a at *
  generalize ZX.of ((keepP 4 1 b0).map gv) = b at *
  generalize ZX.of ((keepP 3 1 c0).map gv) = z at *
  generalize keepP 4 1 a0 = ka at *
  generalize keepP 4 1 b0 = kb at *
  generalize keepP 3 1 c0 = kc at *
  have x1 : BZ 67 6 (a * z) := BZ.mulc b1 b3 (N_mul_le (m := 3) b1.N b3.N)
  have x2 : BZ 67 6 (b * z) := BZ.mulc b2 b3 (N_mul_le (m := 3) b2.N b3.N)
  have m1 : Ret env.P 25 [PI a.l, PI z.l] (PI (a * z).l) := qMulI_ret _ _ _ _ _ _ b1 b3 (by decide)
  have m2 : Ret env.P 25 [PI b.l, PI z.l] (PI (b * z).l) := qMulI_ret _ _ _ _ _ _ b2 b3 (by decide)
  generalize a * z = x at *
  generalize b * z = y at *
  have E : Eu 67 6 := ⟨by decide, by decide, by decide⟩
  have t1 := toZ_ret x1 (by decide) (by decide)
  have t2 := toZ_ret x2 (by decide) (by decide)
  have g1 := E.qg x1 x2
  have g2 := E.gcd2 x1 x2
  have g4 := E.cop x1 x2
  have bg := gz_bz3 x1 x2 (by decide) (by decide)
  have i1 := isZ_ret bg (by decide) (by decide)
  have hw := wakes7_ret
  have hg : (gz x y).l.length = ZX.N (gz x y) := rfl
  generalize ZX.N (gz x y) = ng at *
  generalize (gz x y).l = lg at *
  generalize x.l = xl at *
  generalize y.l = yl at *
  generalize a.l = al at *
  generalize b.l = bl at *
  generalize z.l = zl at *
  have hz : (decide (ng = 1) == ((ng : Int) == 1)) = true := by
    by_cases h : ng = 1
    · subst h; rfl
    · simp [h]; omega
  refine ret_of_Wf (E := env) (fun _ => 0) [(0, Pg a0), (1, Pg b0), (2, Pg c0)] Tryz.func5 rfl (by kernel_rfl) (by kernel_rfl) (show 3 ≤ 51 by decide) (by simp) ?_
  refine W.sreg (fun K hK => ?_); simp (disch := omega) [gA, wrap_i64, wrap_u64, wrap_u32, Int.tdiv_eq_ediv_of_nonneg, Int.tmod_eq_emod_of_nonneg]; refine hK _ (W.liveK [0, 1, 2] fun K2 hK2 => ?_); clear hK K; simp; refine hK2 _ ?_; clear hK2 K2
  refine W.sreg (fun K hK => ?_)
  simp (disch := omega) [gA, wrap_i64, wrap_u64, wrap_u32, Int.tdiv_eq_ediv_of_nonneg, Int.tmod_eq_emod_of_nonneg]
  refine callR k1 ?_
  simp (disch := omega) [gA, wrap_i64, wrap_u64, wrap_u32, Int.tdiv_eq_ediv_of_nonneg, Int.tmod_eq_emod_of_nonneg]
  refine callR f1 ?_
  simp (disch := omega) [gA, wrap_i64, wrap_u64, wrap_u32, Int.tdiv_eq_ediv_of_nonneg, Int.tmod_eq_emod_of_nonneg]
  refine callR k2 ?_
  simp (disch := omega) [gA, wrap_i64, wrap_u64, wrap_u32, Int.tdiv_eq_ediv_of_nonneg, Int.tmod_eq_emod_of_nonneg]
  refine callR f2 ?_
  simp (disch := omega) [gA, wrap_i64, wrap_u64, wrap_u32, Int.tdiv_eq_ediv_of_nonneg, Int.tmod_eq_emod_of_nonneg]
  refine callR k3 ?_
  simp (disch := omega) [gA, wrap_i64, wrap_u64, wrap_u32, Int.tdiv_eq_ediv_of_nonneg, Int.tmod_eq_emod_of_nonneg]
  refine callR f3 ?_
  simp (disch := omega) [gA, wrap_i64, wrap_u64, wrap_u32, Int.tdiv_eq_ediv_of_nonneg, Int.tmod_eq_emod_of_nonneg]
  refine hK _ (W.liveK [7, 8, 9] fun K2 hK2 => ?_); clear hK K; simp; refine hK2 _ ?_; clear hK2 K2
  refine W.sreg (fun K hK => ?_)
  simp (disch := omega) [gA, wrap_i64, wrap_u64, wrap_u32, Int.tdiv_eq_ediv_of_nonneg, Int.tmod_eq_emod_of_nonneg]
  refine callR m1 ?_
  simp (disch := omega) [gA, wrap_i64, wrap_u64, wrap_u32, Int.tdiv_eq_ediv_of_nonneg, Int.tmod_eq_emod_of_nonneg]
  refine callR m2 ?_
  simp (disch := omega) [gA, wrap_i64, wrap_u64, wrap_u32, Int.tdiv_eq_ediv_of_nonneg, Int.tmod_eq_emod_of_nonneg]
  refine hK _ (W.liveK [7, 8] fun K2 hK2 => ?_); clear hK K; simp; refine hK2 _ ?_; clear hK2 K2
  refine W.sreg (fun K hK => ?_)
  simp (disch := omega) [gA, wrap_i64, wrap_u64, wrap_u32, Int.tdiv_eq_ediv_of_nonneg, Int.tmod_eq_emod_of_nonneg]
  refine callR g1 ?_
  simp (disch := omega) [gA, wrap_i64, wrap_u64, wrap_u32, Int.tdiv_eq_ediv_of_nonneg, Int.tmod_eq_emod_of_nonneg]
  refine hK _ (W.liveK [7, 8, 10] fun K2 hK2 => ?_); clear hK K; simp; refine hK2 _ ?_; clear hK2 K2
  refine W.sreg (fun K hK => ?_)
  simp (disch := omega) [gA, wrap_i64, wrap_u64, wrap_u32, Int.tdiv_eq_ediv_of_nonneg, Int.tmod_eq_emod_of_nonneg]
  refine callR t1 ?_
  simp (disch := omega) [gA, wrap_i64, wrap_u64, wrap_u32, Int.tdiv_eq_ediv_of_nonneg, Int.tmod_eq_emod_of_nonneg]
  refine callR t2 ?_
  simp (disch := omega) [gA, wrap_i64, wrap_u64, wrap_u32, Int.tdiv_eq_ediv_of_nonneg, Int.tmod_eq_emod_of_nonneg]
  refine callR g2 ?_
  simp (disch := omega) [gA, wrap_i64, wrap_u64, wrap_u32, Int.tdiv_eq_ediv_of_nonneg, Int.tmod_eq_emod_of_nonneg]
  refine callR i1 ?_
  simp (disch := omega) [gA, wrap_i64, wrap_u64, wrap_u32, Int.tdiv_eq_ediv_of_nonneg, Int.tmod_eq_emod_of_nonneg]
  refine callR t1 ?_
  simp (disch := omega) [gA, wrap_i64, wrap_u64, wrap_u32, Int.tdiv_eq_ediv_of_nonneg, Int.tmod_eq_emod_of_nonneg]
  refine callR t2 ?_
  simp (disch := omega) [gA, wrap_i64, wrap_u64, wrap_u32, Int.tdiv_eq_ediv_of_nonneg, Int.tmod_eq_emod_of_nonneg]
  refine callR g4 ?_
  simp (disch := omega) [gA, wrap_i64, wrap_u64, wrap_u32, Int.tdiv_eq_ediv_of_nonneg, Int.tmod_eq_emod_of_nonneg, hg, hz]
  refine callR hw ?_
  simp (disch := omega) [gA, wrap_i64, wrap_u64, wrap_u32, Int.tdiv_eq_ediv_of_nonneg, Int.tmod_eq_emod_of_nonneg]
  refine hK _ (W.liveK [6] fun K2 hK2 => ?_); clear hK K; simp; refine hK2 _ ?_; clear hK2 K2
  refine W.ret ?_
  simp [go]
end Go.Proofs.YtgebobdieekjaaaGreat
