import Derived.Test.YtgebobdieekjaaaGreatLek
set_option linter.unusedSimpArgs false
set_option linter.unusedVariables false
namespace Go.Proofs.YtgebobdieekjaaaGreat
open Go Pm

/-! LAW 7, COMMON FACTORS. -/
theorem fok_z {x : List Int} (h : ∀ c ∈ x, sz LL c < 4294967296) (hl : x.length < 1099511627776) : FOK (x.map rw') := ⟨fun p hp => by
  simp only [List.mem_map] at hp
  obtain ⟨c, hc, rfl⟩ := hp
  exact ⟨Lim_dig hLL _, h c hc⟩, by simpa using hl⟩
theorem fromZ_ret {h n : Nat} {a : ZX} (b : BZ h n a) (hh : h < 4294967296) (hn : n < 1099511627776) : Ret env.P 30 [Po a.l] (PI a.l) := by
  have := qFrom_ret (a.l.map rw') (fok_z (fun c hc => Nat.lt_of_le_of_lt ((bdL b).sz c hc) hh) (Nat.lt_of_le_of_lt b.len hn))
  rw [map_gv_rw, ← Po_eq, show cutR a.l = a.l from a.c] at this
  exact this
theorem pow_hs2 {n s : Nat} (hn : n ≤ 255) (hs : 8 ≤ s) : n + 1 ≤ 2 ^ s := Nat.le_trans (show n + 1 ≤ 2 ^ 8 by omega) (Nat.pow_le_pow_right (by decide) hs)
theorem gz_bz2 {s n : Nat} {a c : ZX} (ba : BZ s n a) (ha : a ≠ 0) (hn : n ≤ 255) (hs : 8 ≤ s) : BZ (qb s n) n (gz a c) := dv_bd (nf_Nf ha) (gz_Nf (.inl ha)) ((gz_isG a c).l.trans (dv_nf a).1) ba.nf (pow_hs2 hn hs)
theorem gz_K {c d : Int} (hc : c ≠ 0) (hd : d ≠ 0) (a b : ZX) : gz (ZX.K c * a) (ZX.K d * b) = gz a b := by
  rw [← gz_nf, ← gz_nf', nf_Kmul hc, nf_Kmul hd, gz_nf, gz_nf']
theorem gz_dv {a b : ZX} (ha : Nf a) (h : ZX.dv a b) : gz a b = a := by
  rw [gz_eq (g := a) ⟨ZX.dv.refl a, h, 1, by decide, 1, 0, (by show (1 : ZX) * a = 1 * a + 0 * b; grind)⟩, ha.nfe]
theorem BZ.addc {s n : Nat} {a c : ZX} (b : BZ s n a) (b' : BZ s n c) : BZ (s + 1) n (a + c) := Bd.padd (by decide) b b'
theorem PgcdShares_ret (l m c : List Int) (n : Int) (hb : ∀ x ∈ l, -9223372036854775808 ≤ x ∧ x < 9223372036854775808) (hl : l.length < 9223372036854775808) (mb : ∀ x ∈ m, -9223372036854775808 ≤ x ∧ x < 9223372036854775808) (ml : m.length < 9223372036854775808) (cb : ∀ x ∈ c, -9223372036854775808 ≤ x ∧ x < 9223372036854775808) (cl : c.length < 9223372036854775808) (hn : -9223372036854775808 ≤ n ∧ n < 9223372036854775808) : Ret env.P 6 [sls i64e l, sls i64e m, sls i64e c, .int .i64 n] (.bool true) := by
  have c1 := Made_ret l hl hb 3 (by decide)
  have c2 := Made_ret m ml mb 3 (by decide)
  have c3 := Made_ret c cl cb 2 (by decide)
  obtain ⟨n1, b1⟩ := made_ok l 3
  obtain ⟨n2, b2⟩ := made_ok m 3
  obtain ⟨n3, b3⟩ := made_ok c 2
  generalize made l 3 = a at *
  generalize made m 3 = b at *
  generalize made c 2 = z at *
  have u1 := b1.N
  have u2 := b2.N
  have u3 := b3.N
  have t1 := toZ_ret b1 (by decide) (by decide)
  have t2 := toZ_ret b2 (by decide) (by decide)
  have t3 := toZ_ret b3 (by decide) (by decide)
  have E4 : Eu 153 4 := ⟨by decide, by decide, by decide⟩
  have E6 : Eu 309 6 := ⟨by decide, by decide, by decide⟩
  have E4' : Eu 2000 4 := ⟨by decide, by decide, by decide⟩
  have naz := ZX.mul_ne n1 n3
  have nbz := ZX.mul_ne n2 n3
  have xaz : BZ 309 6 (a * z) := BZ.mulc b1 b3 (by rw [ZX.N_mul n1 n3]; omega)
  have xbz : BZ 309 6 (b * z) := BZ.mulc b2 b3 (by rw [ZX.N_mul n2 n3]; omega)
  have g1 := E4.gcd2 b1 b2
  have g2 := E6.gcd2 xaz xbz
  have g3 := E4.gcd2 b2 b1
  rw [gz_comm] at g3
  have bg : BZ 1800 4 (gz a b) := (gz_bz2 b1 n1 (by decide) (by decide)).mono (by decide) (by decide)
  have bh : BZ 10000 6 (gz (a * z) (b * z)) := (gz_bz2 xaz naz (by decide) (by decide)).mono (by decide) (by decide)
  have nG : Nf (gz a b) := gz_Nf (.inl n1)
  -- one is sixteen
  have eM : gz (a * z) (b * z) = gz a b * nf z := gz_mul a b z
  have mG : Ret env.P 25 [PI (gz a b).l, PI (prv z.l)] (PI (gz (a * z) (b * z)).l) := by
    have := qMulI_ret _ _ _ _ _ _ bg b3.nf (by decide)
    rw [eM]
    exact this
  have m1 : Ret env.P 32 [Po a.l, Po z.l] (Po (a * z).l) := pMulI_ret (bdL b1) (bdL b3) (by decide)
  have m2 : Ret env.P 32 [Po b.l, Po z.l] (Po (b * z).l) := pMulI_ret (bdL b2) (bdL b3) (by decide)
  have f1 := fromZ_ret b3 (by decide) (by decide)
  have f2 := fromZ_ret bg (by decide) (by decide)
  have pz := qPrimI_ret z.l b3 z.c (by decide) (by decide) (by decide)
  have i1 := isZ_ret bh (by decide) (by decide)
  have s1 := pSameI_ret (bg.pb (by decide) (by decide)) (bg.pb (by decide) (by decide))
  simp only [decide_true] at s1
  -- multiples of whole numbers
  obtain ⟨k, hk⟩ : ∃ k : Int, k = n.tmod 5 + 6 := ⟨_, rfl⟩
  have hk5 : 2 ≤ k ∧ k ≤ 10 := by
    have h1 := Int.lt_tmod_of_pos n (show (0 : Int) < 5 by decide)
    have h2 := Int.tmod_lt_of_pos n (show (0 : Int) < 5 by decide)
    omega
  have o1 : Ret env.P 35 [.sl [[.int .i64 (-k)]]] (Po (ZX.K (-k)).l) := pOf_ret [-k] (by simp) (by simp; omega)
  have o2 : Ret env.P 35 [.sl [[.int .i64 3]]] (Po (ZX.K 3).l) := pOf_ret [3] (by decide) (by decide)
  have hk0 : -k ≠ 0 := by omega
  have bk : BZ 4 1 (ZX.K (-k)) := ⟨Nat.le_of_eq (ZX.N_K hk0), fun d hd => sz_le (by decide) (by
    have : d = -k := by
      have h1 : (ZX.K (-k)).l = [-k] := by
        show cutR [-k] = [-k]
        exact cutR_ne hk0 []
      rw [h1] at hd; simpa using hd
    show d.natAbs < 16
    omega)⟩
  have b33 : BZ 4 1 (ZX.K 3) := ⟨by decide, fun d hd => sz_le (by decide) (by
    have h1 : (ZX.K 3).l = [3] := by decide
    rw [h1] at hd
    have : d = 3 := by simpa using hd
    subst this; decide)⟩
  have nk := N_Kmul hk0 a
  have n33 := N_Kmul (show (3 : Int) ≠ 0 by decide) b
  have xka : BZ 161 4 (ZX.K (-k) * a) := BZ.mulc bk b1 (by rw [nk]; exact u1)
  have x3b : BZ 161 4 (ZX.K 3 * b) := BZ.mulc b33 b2 (by rw [n33]; exact u2)
  have m3 : Ret env.P 32 [Po (ZX.K (-k)).l, Po a.l] (Po (ZX.K (-k) * a).l) := pMulI_ret (bdL bk) (bdL b1) (by decide)
  have m4 : Ret env.P 32 [Po (ZX.K 3).l, Po b.l] (Po (ZX.K 3 * b).l) := pMulI_ret (bdL b33) (bdL b2) (by decide)
  have g4 := (show Eu 161 4 from ⟨by decide, by decide, by decide⟩).gcd2 xka x3b
  rw [gz_K hk0 (by decide)] at g4
  -- three of them
  have ad : Ret env.P 36 [Po a.l, Po b.l] (Po (a + b).l) := pAddI_ret (b1.pb (by decide) (by decide)) (b2.pb (by decide) (by decide))
  have xab : BZ 154 4 (a + b) := BZ.addc b1 b2
  have g5 : Ret env.P 27 [.sl [[Po a.l], [Po b.l], [Po (a + b).l]]] (Po (gz a b).l) := by
    have hG : gz (gz a b) (a + b) = gz a b := gz_dv nG ((gz_isG a b).l.add (gz_isG a b).r)
    have e1 : gcdl [a] = nf a := gcdl1 a
    have e2 : gcdl [a, b] = gz a b := gcdl2 a b
    have e3 : gcdl [a, b, a + b] = gz a b := by
      show gz (gcdl [a, b]) (a + b) = _
      rw [e2, hG]
    have := Gcd_ret [a, b, a + b] (by simp) (fun i hi => by
      match i, hi with
      | 0, _ =>
        rw [show [a, b, a + b].take (0 + 1) = [a] from rfl, e1, ← gz_zero']
        exact E4.two (zero_bz 153 4) b1
      | 1, _ =>
        rw [show [a, b, a + b].take (1 + 1) = [a, b] from rfl, show [a, b, a + b].take 1 = [a] from rfl, e1, e2, ← gz_nf]
        exact E4.two b1.nf b2
      | 2, _ =>
        rw [show [a, b, a + b].take (2 + 1) = [a, b, a + b] from rfl, show [a, b, a + b].take 2 = [a, b] from rfl, e2, e3]
        have := E4'.two (bg.mono (by decide) (Nat.le_refl _)) (xab.mono (by decide) (Nat.le_refl _))
        rw [hG] at this
        exact this)
    rw [e3] at this
    exact this
  have hw := wakes7_ret
  generalize (gz (a * z) (b * z)).l = k1 at *
  generalize (gz a b).l = k2 at *
  generalize (ZX.K 3 * b).l = k3 at *
  generalize (ZX.K (-k) * a).l = k4 at *
  generalize (ZX.K 3).l = k5 at *
  generalize (ZX.K (-k)).l = k6 at *
  generalize (a + b).l = k7 at *
  generalize (a * z).l = k8 at *
  generalize (b * z).l = k9 at *
  generalize a.l = al at *
  generalize b.l = bl at *
  generalize z.l = zl at *
  refine ret_of_Wf (E := env) (fun _ => 0) [(0, sls i64e l), (1, sls i64e m), (2, sls i64e c), (3, .int .i64 n)] Tryz.func6 rfl (by kernel_rfl) (by kernel_rfl) (show 4 ≤ 91 by decide) (by simp) ?_
  refine W.sreg (fun K hK => ?_); simp (disch := omega) [gA, wrap_i64, wrap_u64, wrap_u32, Int.tdiv_eq_ediv_of_nonneg, Int.tmod_eq_emod_of_nonneg]; refine hK _ (W.liveK [0, 1, 2, 3] fun K2 hK2 => ?_); clear hK K; simp; refine hK2 _ ?_; clear hK2 K2
  refine W.sreg (fun K hK => ?_)
  simp (disch := omega) [gA, wrap_i64, wrap_u64, wrap_u32, Int.tdiv_eq_ediv_of_nonneg, Int.tmod_eq_emod_of_nonneg]
  refine callR c1 ?_
  simp (disch := omega) [gA, wrap_i64, wrap_u64, wrap_u32, Int.tdiv_eq_ediv_of_nonneg, Int.tmod_eq_emod_of_nonneg]
  refine callR t1 ?_
  simp (disch := omega) [gA, wrap_i64, wrap_u64, wrap_u32, Int.tdiv_eq_ediv_of_nonneg, Int.tmod_eq_emod_of_nonneg]
  refine callR c2 ?_
  simp (disch := omega) [gA, wrap_i64, wrap_u64, wrap_u32, Int.tdiv_eq_ediv_of_nonneg, Int.tmod_eq_emod_of_nonneg]
  refine callR t2 ?_
  simp (disch := omega) [gA, wrap_i64, wrap_u64, wrap_u32, Int.tdiv_eq_ediv_of_nonneg, Int.tmod_eq_emod_of_nonneg]
  refine callR c3 ?_
  simp (disch := omega) [gA, wrap_i64, wrap_u64, wrap_u32, Int.tdiv_eq_ediv_of_nonneg, Int.tmod_eq_emod_of_nonneg]
  refine callR t3 ?_
  simp (disch := omega) [gA, wrap_i64, wrap_u64, wrap_u32, Int.tdiv_eq_ediv_of_nonneg, Int.tmod_eq_emod_of_nonneg]
  refine hK _ (W.liveK [3, 9, 10, 11] fun K2 hK2 => ?_); clear hK K; simp; refine hK2 _ ?_; clear hK2 K2
  refine W.sreg (fun K hK => ?_)
  simp (disch := omega) [gA, wrap_i64, wrap_u64, wrap_u32, Int.tdiv_eq_ediv_of_nonneg, Int.tmod_eq_emod_of_nonneg]
  refine callR g1 ?_
  simp (disch := omega) [gA, wrap_i64, wrap_u64, wrap_u32, Int.tdiv_eq_ediv_of_nonneg, Int.tmod_eq_emod_of_nonneg]
  refine hK _ (W.liveK [3, 9, 10, 11, 12] fun K2 hK2 => ?_); clear hK K; simp; refine hK2 _ ?_; clear hK2 K2
  refine W.sreg (fun K hK => ?_)
  simp (disch := omega) [gA, wrap_i64, wrap_u64, wrap_u32, Int.tdiv_eq_ediv_of_nonneg, Int.tmod_eq_emod_of_nonneg]
  refine callR m1 ?_
  simp (disch := omega) [gA, wrap_i64, wrap_u64, wrap_u32, Int.tdiv_eq_ediv_of_nonneg, Int.tmod_eq_emod_of_nonneg]
  refine callR m2 ?_
  simp (disch := omega) [gA, wrap_i64, wrap_u64, wrap_u32, Int.tdiv_eq_ediv_of_nonneg, Int.tmod_eq_emod_of_nonneg]
  refine callR g2 ?_
  simp (disch := omega) [gA, wrap_i64, wrap_u64, wrap_u32, Int.tdiv_eq_ediv_of_nonneg, Int.tmod_eq_emod_of_nonneg]
  refine hK _ (W.liveK [3, 9, 10, 11, 12, 13] fun K2 hK2 => ?_); clear hK K; simp; refine hK2 _ ?_; clear hK2 K2
  refine W.sreg (fun K hK => ?_)
  simp (disch := omega) [gA, wrap_i64, wrap_u64, wrap_u32, Int.tdiv_eq_ediv_of_nonneg, Int.tmod_eq_emod_of_nonneg]
  refine callR f1 ?_
  simp (disch := omega) [gA, wrap_i64, wrap_u64, wrap_u32, Int.tdiv_eq_ediv_of_nonneg, Int.tmod_eq_emod_of_nonneg]
  refine callR pz ?_
  simp (disch := omega) [gA, wrap_i64, wrap_u64, wrap_u32, Int.tdiv_eq_ediv_of_nonneg, Int.tmod_eq_emod_of_nonneg]
  refine hK _ (W.liveK [3, 9, 10, 12, 13, 15] fun K2 hK2 => ?_); clear hK K; simp; refine hK2 _ ?_; clear hK2 K2
  refine W.seq ?_
  refine W.sreg (fun K hK => ?_)
  simp (disch := omega) [gA, wrap_i64, wrap_u64, wrap_u32, Int.tdiv_eq_ediv_of_nonneg, Int.tmod_eq_emod_of_nonneg]
  refine callR f2 ?_
  simp (disch := omega) [gA, wrap_i64, wrap_u64, wrap_u32, Int.tdiv_eq_ediv_of_nonneg, Int.tmod_eq_emod_of_nonneg]
  refine callR mG ?_
  simp (disch := omega) [gA, wrap_i64, wrap_u64, wrap_u32, Int.tdiv_eq_ediv_of_nonneg, Int.tmod_eq_emod_of_nonneg]
  refine callR i1 ?_
  simp (disch := omega) [gA, wrap_i64, wrap_u64, wrap_u32, Int.tdiv_eq_ediv_of_nonneg, Int.tmod_eq_emod_of_nonneg]
  refine callR g3 ?_
  simp (disch := omega) [gA, wrap_i64, wrap_u64, wrap_u32, Int.tdiv_eq_ediv_of_nonneg, Int.tmod_eq_emod_of_nonneg]
  refine callR s1 ?_
  simp (disch := omega) [gA, wrap_i64, wrap_u64, wrap_u32, Int.tdiv_eq_ediv_of_nonneg, Int.tmod_eq_emod_of_nonneg]
  refine hK _ (W.liveK [3, 9, 10, 12, 59] fun K2 hK2 => ?_); clear hK K; simp; refine hK2 _ ?_; clear hK2 K2
  refine W.cond ⟨_, rfl, fun h => ?_, fun h => ?_⟩   -- t59
  · cases h
  refine W.skip ?_
  refine W.sreg (fun K hK => ?_)
  simp (disch := omega) [gA, wrap_i64, wrap_u64, wrap_u32, Int.tdiv_eq_ediv_of_nonneg, Int.tmod_eq_emod_of_nonneg, ← hk]
  refine hK _ (W.liveK [9, 10, 12, 16] fun K2 hK2 => ?_); clear hK K; simp; refine hK2 _ ?_; clear hK2 K2
  refine W.sreg (fun K hK => ?_)
  simp (disch := omega) [gA, wrap_i64, wrap_u64, wrap_u32, Int.tdiv_eq_ediv_of_nonneg, Int.tmod_eq_emod_of_nonneg]
  refine callR o1 ?_
  simp (disch := omega) [gA, wrap_i64, wrap_u64, wrap_u32, Int.tdiv_eq_ediv_of_nonneg, Int.tmod_eq_emod_of_nonneg]
  refine callR m3 ?_
  simp (disch := omega) [gA, wrap_i64, wrap_u64, wrap_u32, Int.tdiv_eq_ediv_of_nonneg, Int.tmod_eq_emod_of_nonneg]
  refine callR o2 ?_
  simp (disch := omega) [gA, wrap_i64, wrap_u64, wrap_u32, Int.tdiv_eq_ediv_of_nonneg, Int.tmod_eq_emod_of_nonneg]
  refine callR m4 ?_
  simp (disch := omega) [gA, wrap_i64, wrap_u64, wrap_u32, Int.tdiv_eq_ediv_of_nonneg, Int.tmod_eq_emod_of_nonneg]
  refine callR g4 ?_
  simp (disch := omega) [gA, wrap_i64, wrap_u64, wrap_u32, Int.tdiv_eq_ediv_of_nonneg, Int.tmod_eq_emod_of_nonneg]
  refine callR s1 ?_
  simp (disch := omega) [gA, wrap_i64, wrap_u64, wrap_u32, Int.tdiv_eq_ediv_of_nonneg, Int.tmod_eq_emod_of_nonneg]
  refine callR ad ?_
  simp (disch := omega) [gA, wrap_i64, wrap_u64, wrap_u32, Int.tdiv_eq_ediv_of_nonneg, Int.tmod_eq_emod_of_nonneg]
  refine callR g5 ?_
  simp (disch := omega) [gA, wrap_i64, wrap_u64, wrap_u32, Int.tdiv_eq_ediv_of_nonneg, Int.tmod_eq_emod_of_nonneg]
  refine callR s1 ?_
  simp (disch := omega) [gA, wrap_i64, wrap_u64, wrap_u32, Int.tdiv_eq_ediv_of_nonneg, Int.tmod_eq_emod_of_nonneg]
  refine callR hw ?_
  simp (disch := omega) [gA, wrap_i64, wrap_u64, wrap_u32, Int.tdiv_eq_ediv_of_nonneg, Int.tmod_eq_emod_of_nonneg]
  refine hK _ (W.liveK [8] fun K2 hK2 => ?_); clear hK K; simp; refine hK2 _ ?_; clear hK2 K2
  refine W.ret ?_
  simp [go]
end Go.Proofs.YtgebobdieekjaaaGreat
