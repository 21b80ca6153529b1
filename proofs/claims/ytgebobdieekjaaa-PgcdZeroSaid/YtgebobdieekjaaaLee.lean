import Derived.Test.YtgebobdieekjaaaLed
set_option linter.unusedSimpArgs false
set_option linter.unusedVariables false
namespace Go.Proofs.Ytgebobdieekjaaa
open Go Pm

theorem Coprime_retB {s n C : Nat} {a c : ZX} (b : BZ s n a) (b' : BZ s n c) (hP : Pot C n s (nf a) (nf c)) (hn : n ≤ 20) (hB : (n + 1) * C ≤ 99000000000) : Ret env.P 7 [Po a.l, Po c.l] (.bool (decide (ZX.N (gz a c) = 1))) := by
  have h1 := two_retB b b' hP hB
  have hl : ZX.N (gz a c) ≤ 20 := by
    by_cases ha : a = 0
    · subst ha
      rw [gz_zero', N_nf]
      exact Nat.le_trans b'.N hn
    · exact Nat.le_trans ((gz_isG a c).l.N_le ha) (Nat.le_trans b.N hn)
  have h2 := DegI_ret (gz a c).l (by show ZX.N (gz a c) < _; omega)
  have e : (((gz a c).l.length : Int) - 1 == 0) = decide (ZX.N (gz a c) = 1) := by
    rw [Bool.eq_iff_iff, beq_iff_eq, decide_eq_true_iff]
    have : ZX.N (gz a c) = (gz a c).l.length := rfl
    omega
  generalize gz a c = g at *
  refine ret_of_Wf (E := env) (fun _ => 0) [(0, Po a.l), (1, Po c.l)] Try.func7 rfl (by kernel_rfl) (by kernel_rfl) (show 2 ≤ 10 by decide) (by simp) ?_
  generalize a.l = x at *
  generalize c.l = y at *
  refine W.sreg (fun K hK => ?_); simp (disch := omega) [gA, wrap_i64, wrap_u64, wrap_u32, Int.tdiv_eq_ediv_of_nonneg, Int.tmod_eq_emod_of_nonneg]; refine hK _ (W.liveK [0, 1] fun K2 hK2 => ?_); clear hK K; simp; refine hK2 _ ?_; clear hK2 K2
  refine W.sreg (fun K hK => ?_)
  simp (disch := omega) [gA, wrap_i64, wrap_u64, wrap_u32, Int.tdiv_eq_ediv_of_nonneg, Int.tmod_eq_emod_of_nonneg]
  refine callR h1 ?_
  simp (disch := omega) [gA, wrap_i64, wrap_u64, wrap_u32, Int.tdiv_eq_ediv_of_nonneg, Int.tmod_eq_emod_of_nonneg]
  refine callR h2 ?_
  simp (disch := omega) [gA, wrap_i64, wrap_u64, wrap_u32, Int.tdiv_eq_ediv_of_nonneg, Int.tmod_eq_emod_of_nonneg, e]
  refine hK _ (W.liveK [4] fun K2 hK2 => ?_); clear hK K; simp; refine hK2 _ ?_; clear hK2 K2
  refine W.ret ?_
  simp [go]
theorem Coprime_ret {s n C : Nat} {a c : ZX} (b : BZ s n a) (b' : BZ s n c) (hP : Pot C n s (nf a) (nf c)) (hn : n ≤ 20) (hC : C ≤ 4500000000) : Ret env.P 7 [Po a.l, Po c.l] (.bool (decide (ZX.N (gz a c) = 1))) :=
  Coprime_retB b b' hP hn (Nat.le_trans (Nat.mul_le_mul (show n + 1 ≤ 21 by omega) hC) (by decide))
/-- The common divisor of all. -/
noncomputable def gcdl (L : List ZX) : ZX := L.foldl gz 0
theorem gcdl_succ {L : List ZX} {i : Nat} (h : i < L.length) : gcdl (L.take (i + 1)) = gz (gcdl (L.take i)) (nth L i) := by
  unfold gcdl; rw [take_succ_nth h, List.foldl_append]; rfl
theorem Gcd_ret (L : List ZX) (hL : L.length < 1099511627776) (h2 : ∀ i, i < L.length → Ret env.P 26 [Po (gcdl (L.take i)).l, Po (nth L i).l] (Po (gcdl (L.take (i + 1))).l)) : Ret env.P 6 [sls zp L] (Po (gcdl L).l) := by
  refine ret_of_Wf (E := env) (fun _ => 0) [(0, sls zp L)] Try.func6 rfl (by kernel_rfl) (by kernel_rfl) (show 1 ≤ 17 by decide) (by simp) ?_
  refine W.sreg (fun K hK => ?_); simp (disch := omega) [gA, wrap_i64, wrap_u64, wrap_u32, Int.tdiv_eq_ediv_of_nonneg, Int.tmod_eq_emod_of_nonneg]; refine hK _ (W.liveK [0] fun K2 hK2 => ?_); clear hK K; simp; refine hK2 _ ?_; clear hK2 K2
  refine W.sreg (fun K hK => ?_); simp (disch := omega) [gA, wrap_i64, wrap_u64, wrap_u32, Int.tdiv_eq_ediv_of_nonneg, Int.tmod_eq_emod_of_nonneg]; refine hK _ (W.liveK [0, 3] fun K2 hK2 => ?_); clear hK K; simp; refine hK2 _ ?_; clear hK2 K2
  refine W.nils 3 (Po (gcdl (L.take 0)).l) (by simp) rfl (fun K hK => ?_)
  refine hK _ (W.liveK [0, 3] fun K2 hK2 => ?_); clear hK K; simp; refine hK2 _ ?_; clear hK2 K2
  refine W.seq ?_
  refine W.sreg (fun K hK => ?_); simp (disch := omega) [gA, wrap_i64, wrap_u64, wrap_u32, Int.tdiv_eq_ediv_of_nonneg, Int.tmod_eq_emod_of_nonneg]; refine hK _ (W.liveK [3, 6, 7, 8] fun K2 hK2 => ?_); clear hK K; simp; refine hK2 _ ?_; clear hK2 K2
  refine W.block ?_   -- block 0
  refine W.loopG (fun k σ => ∃ (i : Nat) (rows : Pm.Rows) (clk : Nat), σ = ⟨fa [(3, Po (gcdl (L.take i)).l), (6, sls zp L), (7, .int .i64 L.length), (8, .int .i64 i)], rows, clk⟩ ∧ i + k = L.length) L.length ?_ ?_
  · exact ⟨_, .refl, 0, _, _, by simp; exact ⟨rfl, rfl⟩, by omega⟩
  rintro k _ ⟨i, rows, clk, rfl, hik⟩
  refine W.sreg (fun K hK => ?_); simp (disch := omega) [gA, wrap_i64, wrap_u64, wrap_u32, Int.tdiv_eq_ediv_of_nonneg, Int.tmod_eq_emod_of_nonneg]; refine hK _ (W.liveK [3, 6, 7, 8, 9] fun K2 hK2 => ?_); clear hK K; simp; refine hK2 _ ?_; clear hK2 K2
  refine W.seq ?_
  refine W.cond ⟨_, rfl, fun h => ?_, fun h => ?_⟩   -- t9
  · have hi : i < L.length := by simp at h; omega
    have ht := h2 i hi
    generalize hg2 : gcdl (L.take (i + 1)) = g2 at *
    generalize gcdl (L.take i) = g at *
    refine W.skip ?_
    refine W.seq ?_
    refine W.block ?_   -- block 1
    refine W.sreg (fun K hK => ?_); simp (disch := omega) [gA, wrap_i64, wrap_u64, wrap_u32, Int.tdiv_eq_ediv_of_nonneg, Int.tmod_eq_emod_of_nonneg]; refine hK _ (W.liveK [3, 5, 6, 7, 8] fun K2 hK2 => ?_); clear hK K; simp; refine hK2 _ ?_; clear hK2 K2
    refine W.reg (fun K hK => ?_)
    simp (disch := omega) [gA, wrap_i64, wrap_u64, wrap_u32, Int.tdiv_eq_ediv_of_nonneg, Int.tmod_eq_emod_of_nonneg]
    refine callR ht ?_
    simp (disch := omega) [gA, wrap_i64, wrap_u64, wrap_u32, Int.tdiv_eq_ediv_of_nonneg, Int.tmod_eq_emod_of_nonneg]
    refine hK _ (W.liveK [3, 6, 7, 8] fun K2 hK2 => ?_); clear hK K; simp; refine hK2 _ ?_; clear hK2 K2
    refine W.reg (fun K hK => ?_); simp (disch := omega) [gA, wrap_i64, wrap_u64, wrap_u32, Int.tdiv_eq_ediv_of_nonneg, Int.tmod_eq_emod_of_nonneg]
    subst hg2
    refine hK _ ⟨k - 1, _, Gh_fa _ [3, 6, 7, 8], by omega, i + 1, _, _, rfl, by omega⟩
  · have hi : i = L.length := by simp at h; omega
    subst hi
    rw [List.take_length]
    refine W.exit ?_; simp only [pblk_exit, pblk_normal, pblk_ret, pseq_exit, pseq_normal, pseq_ret, pnor_exit, pnor_normal, pnor_ret, if_true, if_false, reduceIte, Nat.reduceEqDiff]
    refine W.sreg (fun K hK => ?_); simp (disch := omega) [gA, wrap_i64, wrap_u64, wrap_u32, Int.tdiv_eq_ediv_of_nonneg, Int.tmod_eq_emod_of_nonneg]; refine hK _ (W.liveK [2] fun K2 hK2 => ?_); clear hK K; simp; refine hK2 _ ?_; clear hK2 K2
    refine W.ret ?_
    simp [go]
def prodl (L : List ZX) : ZX := L.foldl (· * ·) 1
theorem prodl_succ {L : List ZX} {i : Nat} (h : i < L.length) : prodl (L.take (i + 1)) = prodl (L.take i) * nth L i := by
  unfold prodl; rw [take_succ_nth h, List.foldl_append]; rfl
theorem pOne_ret : Ret env.P 5 [.sl [[.int .i64 1]]] (Po (1 : ZX).l) := by
  have := pOf_ret [1] (by decide) (by decide)
  exact this
theorem Product_ret (L : List ZX) (hL : L.length < 1099511627776) (h2 : ∀ i, i < L.length → Ret env.P 31 [Po (prodl (L.take i)).l, Po (nth L i).l] (Po (prodl (L.take (i + 1))).l)) : Ret env.P 33 [sls zp L] (Po (prodl L).l) := by
  have h1 := pOne_ret
  rw [show (1 : ZX) = prodl (L.take 0) from rfl] at h1
  refine ret_of_Wf (E := env) (fun _ => 0) [(0, sls zp L)] Try.func33 rfl (by kernel_rfl) (by kernel_rfl) (show 1 ≤ 19 by decide) (by simp) ?_
  refine W.sreg (fun K hK => ?_); simp (disch := omega) [gA, wrap_i64, wrap_u64, wrap_u32, Int.tdiv_eq_ediv_of_nonneg, Int.tmod_eq_emod_of_nonneg]; refine hK _ (W.liveK [0] fun K2 hK2 => ?_); clear hK K; simp; refine hK2 _ ?_; clear hK2 K2
  generalize hg : prodl (L.take 0) = g0 at *
  refine W.sreg (fun K hK => ?_)
  simp (disch := omega) [gA, wrap_i64, wrap_u64, wrap_u32, Int.tdiv_eq_ediv_of_nonneg, Int.tmod_eq_emod_of_nonneg]
  refine callR h1 ?_
  simp (disch := omega) [gA, wrap_i64, wrap_u64, wrap_u32, Int.tdiv_eq_ediv_of_nonneg, Int.tmod_eq_emod_of_nonneg]
  refine hK _ (W.liveK [0, 3] fun K2 hK2 => ?_); clear hK K; simp; refine hK2 _ ?_; clear hK2 K2
  refine W.seq ?_
  refine W.sreg (fun K hK => ?_); simp (disch := omega) [gA, wrap_i64, wrap_u64, wrap_u32, Int.tdiv_eq_ediv_of_nonneg, Int.tmod_eq_emod_of_nonneg]; refine hK _ (W.liveK [3, 8, 9, 10] fun K2 hK2 => ?_); clear hK K; simp; refine hK2 _ ?_; clear hK2 K2
  subst hg
  refine W.block ?_   -- block 0
  refine W.loopG (fun k σ => ∃ (i : Nat) (rows : Pm.Rows) (clk : Nat), σ = ⟨fa [(3, Po (prodl (L.take i)).l), (8, sls zp L), (9, .int .i64 L.length), (10, .int .i64 i)], rows, clk⟩ ∧ i + k = L.length) L.length ?_ ?_
  · exact ⟨_, .refl, 0, _, _, rfl, by omega⟩
  rintro k _ ⟨i, rows, clk, rfl, hik⟩
  refine W.sreg (fun K hK => ?_); simp (disch := omega) [gA, wrap_i64, wrap_u64, wrap_u32, Int.tdiv_eq_ediv_of_nonneg, Int.tmod_eq_emod_of_nonneg]; refine hK _ (W.liveK [3, 8, 9, 10, 11] fun K2 hK2 => ?_); clear hK K; simp; refine hK2 _ ?_; clear hK2 K2
  refine W.seq ?_
  refine W.cond ⟨_, rfl, fun h => ?_, fun h => ?_⟩   -- t11
  · have hi : i < L.length := by simp at h; omega
    have ht := h2 i hi
    generalize hg2 : prodl (L.take (i + 1)) = g2 at *
    generalize prodl (L.take i) = g at *
    refine W.skip ?_
    refine W.seq ?_
    refine W.block ?_   -- block 1
    refine W.sreg (fun K hK => ?_); simp (disch := omega) [gA, wrap_i64, wrap_u64, wrap_u32, Int.tdiv_eq_ediv_of_nonneg, Int.tmod_eq_emod_of_nonneg]; refine hK _ (W.liveK [3, 5, 8, 9, 10] fun K2 hK2 => ?_); clear hK K; simp; refine hK2 _ ?_; clear hK2 K2
    refine W.reg (fun K hK => ?_)
    simp (disch := omega) [gA, wrap_i64, wrap_u64, wrap_u32, Int.tdiv_eq_ediv_of_nonneg, Int.tmod_eq_emod_of_nonneg]
    refine callR ht ?_
    simp (disch := omega) [gA, wrap_i64, wrap_u64, wrap_u32, Int.tdiv_eq_ediv_of_nonneg, Int.tmod_eq_emod_of_nonneg]
    refine hK _ (W.liveK [3, 8, 9, 10] fun K2 hK2 => ?_); clear hK K; simp; refine hK2 _ ?_; clear hK2 K2
    refine W.reg (fun K hK => ?_); simp (disch := omega) [gA, wrap_i64, wrap_u64, wrap_u32, Int.tdiv_eq_ediv_of_nonneg, Int.tmod_eq_emod_of_nonneg]
    subst hg2
    refine hK _ ⟨k - 1, _, Gh_fa _ [3, 8, 9, 10], by omega, i + 1, _, _, rfl, by omega⟩
  · have hi : i = L.length := by simp at h; omega
    subst hi
    rw [List.take_length]
    refine W.exit ?_; simp only [pblk_exit, pblk_normal, pblk_ret, pseq_exit, pseq_normal, pseq_ret, pnor_exit, pnor_normal, pnor_ret, if_true, if_false, reduceIte, Nat.reduceEqDiff]
    refine W.sreg (fun K hK => ?_); simp (disch := omega) [gA, wrap_i64, wrap_u64, wrap_u32, Int.tdiv_eq_ediv_of_nonneg, Int.tmod_eq_emod_of_nonneg]; refine hK _ (W.liveK [2] fun K2 hK2 => ?_); clear hK K; simp; refine hK2 _ ?_; clear hK2 K2
    refine W.ret ?_
    simp [go]
/-- The squarefree part of any. -/
noncomputable def sq (a : ZX) : ZX := if ZX.N a ≤ 1 then nf a else sz' (nf a)
theorem Square_ret {s n : Nat} {a : ZX} (h : Lay s n a) : Ret env.P 8 [Po a.l] (Po (sq a).l) := by
  have hqb := h.qb_le
  have hn := h.hn
  have hs1 : s < 1099511627774 := by unfold qb at hqb; omega
  have p1 := prime_ret h.bz hs1 (by omega)
  have hA := h.nfz
  have hdeg := deg_ret hA.bz (by omega)
  have hsq : sq a = if ZX.N (nf a) ≤ 1 then nf a else sz' (nf a) := by rw [N_nf]; rfl
  have nA : 2 ≤ ZX.N (nf a) → Nf (nf a) := fun h2 => nf_Nf fun h0 => by rw [h0, nf_zero] at h2; revert h2; decide
  rw [hsq]
  generalize nf a = A at *
  refine ret_of_Wf (E := env) (fun _ => 0) [(0, Po a.l)] Try.func8 rfl (by kernel_rfl) (by kernel_rfl) (show 1 ≤ 15 by decide) (by simp) ?_
  refine W.sreg (fun K hK => ?_); simp (disch := omega) [gA, wrap_i64, wrap_u64, wrap_u32, Int.tdiv_eq_ediv_of_nonneg, Int.tmod_eq_emod_of_nonneg]; refine hK _ (W.liveK [0] fun K2 hK2 => ?_); clear hK K; simp; refine hK2 _ ?_; clear hK2 K2
  refine W.sreg (fun K hK => ?_)
  simp (disch := omega) [gA, wrap_i64, wrap_u64, wrap_u32, Int.tdiv_eq_ediv_of_nonneg, Int.tmod_eq_emod_of_nonneg]
  refine callR p1 ?_
  simp (disch := omega) [gA, wrap_i64, wrap_u64, wrap_u32, Int.tdiv_eq_ediv_of_nonneg, Int.tmod_eq_emod_of_nonneg]
  refine hK _ (W.liveK [0] fun K2 hK2 => ?_); clear hK K; simp; refine hK2 _ ?_; clear hK2 K2
  refine W.seq ?_
  refine W.sreg (fun K hK => ?_)
  simp (disch := omega) [gA, wrap_i64, wrap_u64, wrap_u32, Int.tdiv_eq_ediv_of_nonneg, Int.tmod_eq_emod_of_nonneg]
  refine callR hdeg ?_
  simp (disch := omega) [gA, wrap_i64, wrap_u64, wrap_u32, Int.tdiv_eq_ediv_of_nonneg, Int.tmod_eq_emod_of_nonneg]
  refine hK _ (W.liveK [0, 7] fun K2 hK2 => ?_); clear hK K; simp; refine hK2 _ ?_; clear hK2 K2
  refine W.cond ⟨_, rfl, fun h3 => ?_, fun h3 => ?_⟩   -- t7
  · have h2 : ZX.N A ≤ 1 := by simp at h3; omega
    rw [if_pos h2]
    refine W.sreg (fun K hK => ?_); simp (disch := omega) [gA, wrap_i64, wrap_u64, wrap_u32, Int.tdiv_eq_ediv_of_nonneg, Int.tmod_eq_emod_of_nonneg]; refine hK _ (W.liveK [2] fun K2 hK2 => ?_); clear hK K; simp; refine hK2 _ ?_; clear hK2 K2
    refine W.ret ?_
    simp [go]
  · have h2 : 2 ≤ ZX.N A := by simp at h3; omega
    obtain ⟨t1, t2, t3⟩ := hA.gdz (nA h2) (nA h2) (ZX.dv.refl A)
    rw [if_neg (by omega), show sz' A = qz A (gd A) from rfl]
    generalize (gd A).l = g at *
    refine W.skip ?_
    refine W.sreg (fun K hK => ?_)
    simp (disch := omega) [gA, wrap_i64, wrap_u64, wrap_u32, Int.tdiv_eq_ediv_of_nonneg, Int.tmod_eq_emod_of_nonneg]
    refine callR t2 ?_
    simp (disch := omega) [gA, wrap_i64, wrap_u64, wrap_u32, Int.tdiv_eq_ediv_of_nonneg, Int.tmod_eq_emod_of_nonneg]
    refine callR t1 ?_
    simp (disch := omega) [gA, wrap_i64, wrap_u64, wrap_u32, Int.tdiv_eq_ediv_of_nonneg, Int.tmod_eq_emod_of_nonneg]
    refine callR t3 ?_
    simp (disch := omega) [gA, wrap_i64, wrap_u64, wrap_u32, Int.tdiv_eq_ediv_of_nonneg, Int.tmod_eq_emod_of_nonneg]
    refine hK _ (W.liveK [2] fun K2 hK2 => ?_); clear hK K; simp; refine hK2 _ ?_; clear hK2 K2
    refine W.ret ?_
    simp [go]
theorem Odd_ret {s n : Nat} {a : ZX} (h : Lay s n a) (h0 : a ≠ 0) : Ret env.P 9 [Po a.l] (Po (oz (nf a)).l) := by
  have hqb := h.qb_le
  have hn := h.hn
  have hs1 : s < 1099511627774 := by unfold qb at hqb; omega
  have p1 := prime_ret h.bz hs1 (by omega)
  have hA := h.nfz
  have nA := nf_Nf h0
  have hF := Factors_ret hA
  rw [nf_nf] at hF
  have hle := nl_le (nf a)
  have hNA : ZX.N (nf a) ≤ n := hA.bz.N
  have hne : (nf a).l.length ≠ 0 := fun h1 => by have h2 := ZX.ne_zero.1 nA.ne; have h3 : ZX.N (nf a) = (nf a).l.length := rfl; omega
  generalize nf a = A at *
  have hmul : ∀ i, Ret env.P 31 [Po (pf A (fun k => k % 2 == 0) i).l, Po (fz' A i).l] (Po (pf A (fun k => k % 2 == 0) i * fz' A i).l) := fun i => by
    have b1 := hA.dv nA (pf_Nf nA (fun k => k % 2 == 0) i) (pf_dv_a nA _ i)
    have b2 := hA.dv nA (fz_spec nA i).1 (fz_dv_a nA i)
    exact pMulI_ret (bdL b1) (bdL b2) (by omega)
  obtain ⟨m, hm⟩ : ∃ m, m = nl A := ⟨_, rfl⟩
  have hoz : oz A = pf A (fun k => k % 2 == 0) m := by rw [hm]; rfl
  have hfl : fl A = (List.range m).map (fz' A) := by rw [hm]; rfl
  rw [hoz]
  rw [hfl] at hF
  have hll : ((List.range m).map (fz' A)).length = m := by simp
  have hnth : ∀ i, i < m → nth ((List.range m).map (fz' A)) i = fz' A i := fun i hi => nth_map_range _ hi
  generalize (List.range m).map (fz' A) = L at *
  have h1 := pOne_ret
  rw [show (1 : ZX) = pf A (fun k => k % 2 == 0) 0 from rfl] at h1
  generalize hg : pf A (fun k => k % 2 == 0) 0 = g0 at *
  refine ret_of_Wf (E := env) (fun _ => 0) [(0, Po a.l)] Try.func9 rfl (by kernel_rfl) (by kernel_rfl) (show 1 ≤ 29 by decide) (by simp) ?_
  refine W.sreg (fun K hK => ?_); simp (disch := omega) [gA, wrap_i64, wrap_u64, wrap_u32, Int.tdiv_eq_ediv_of_nonneg, Int.tmod_eq_emod_of_nonneg]; refine hK _ (W.liveK [0] fun K2 hK2 => ?_); clear hK K; simp; refine hK2 _ ?_; clear hK2 K2
  refine W.sreg (fun K hK => ?_)
  simp (disch := omega) [gA, wrap_i64, wrap_u64, wrap_u32, Int.tdiv_eq_ediv_of_nonneg, Int.tmod_eq_emod_of_nonneg]
  refine callR p1 ?_
  simp (disch := omega) [gA, wrap_i64, wrap_u64, wrap_u32, Int.tdiv_eq_ediv_of_nonneg, Int.tmod_eq_emod_of_nonneg]
  refine hK _ (W.liveK [0] fun K2 hK2 => ?_); clear hK K; simp; refine hK2 _ ?_; clear hK2 K2
  refine W.seq ?_
  refine W.sreg (fun K hK => ?_); simp (disch := omega) [gA, wrap_i64, wrap_u64, wrap_u32, Int.tdiv_eq_ediv_of_nonneg, Int.tmod_eq_emod_of_nonneg]; refine hK _ (W.liveK [0, 10] fun K2 hK2 => ?_); clear hK K; simp; refine hK2 _ ?_; clear hK2 K2
  refine W.cond ⟨_, rfl, fun h3 => ?_, fun h3 => ?_⟩   -- t10
  · simp at h3; exact absurd (by rw [h3]; rfl) hne
  clear h3
  refine W.skip ?_
  refine W.sreg (fun K hK => ?_)
  simp (disch := omega) [gA, wrap_i64, wrap_u64, wrap_u32, Int.tdiv_eq_ediv_of_nonneg, Int.tmod_eq_emod_of_nonneg]
  refine callR h1 ?_
  simp (disch := omega) [gA, wrap_i64, wrap_u64, wrap_u32, Int.tdiv_eq_ediv_of_nonneg, Int.tmod_eq_emod_of_nonneg]
  refine hK _ (W.liveK [0, 3] fun K2 hK2 => ?_); clear hK K; simp; refine hK2 _ ?_; clear hK2 K2
  refine W.seq ?_
  refine W.sreg (fun K hK => ?_)
  simp (disch := omega) [gA, wrap_i64, wrap_u64, wrap_u32, Int.tdiv_eq_ediv_of_nonneg, Int.tmod_eq_emod_of_nonneg]
  refine callR hF ?_
  simp (disch := omega) [gA, wrap_i64, wrap_u64, wrap_u32, Int.tdiv_eq_ediv_of_nonneg, Int.tmod_eq_emod_of_nonneg, hll]
  refine hK _ (W.liveK [3, 14, 15, 16] fun K2 hK2 => ?_); clear hK K; simp; refine hK2 _ ?_; clear hK2 K2
  subst hg
  refine W.block ?_   -- block 0
  refine W.loopG (fun k σ => ∃ (i : Nat) (rows : Pm.Rows) (clk : Nat), σ = ⟨fa [(3, Po (pf A (fun k => k % 2 == 0) i).l), (14, sls zp L), (15, .int .i64 m), (16, .int .i64 i)], rows, clk⟩ ∧ i + k = m) m ?_ ?_
  · exact ⟨_, .refl, 0, _, _, rfl, by omega⟩
  rintro k _ ⟨i, rows, clk, rfl, hik⟩
  refine W.sreg (fun K hK => ?_); simp (disch := omega) [gA, wrap_i64, wrap_u64, wrap_u32, Int.tdiv_eq_ediv_of_nonneg, Int.tmod_eq_emod_of_nonneg]; refine hK _ (W.liveK [3, 14, 15, 16, 17] fun K2 hK2 => ?_); clear hK K; simp; refine hK2 _ ?_; clear hK2 K2
  refine W.seq ?_
  refine W.cond ⟨_, rfl, fun h => ?_, fun h => ?_⟩   -- t17
  · have hi : i < m := by simp at h; omega
    have hiL : i < L.length := by omega
    have ht := hmul i
    have hn1 := hnth i hi
    have hpf : pf A (fun k => k % 2 == 0) (i + 1) = if i % 2 == 0 then pf A (fun k => k % 2 == 0) i * fz' A i else pf A (fun k => k % 2 == 0) i := rfl
    generalize hg2 : pf A (fun k => k % 2 == 0) (i + 1) = g2 at *
    generalize pf A (fun k => k % 2 == 0) i = g at *
    have e2 : ((i : Int) % 2 == 0) = (i % 2 == 0) := by rw [Bool.eq_iff_iff, beq_iff_eq, beq_iff_eq]; omega
    refine W.skip ?_
    refine W.seq_blockJ (fun σ => ∃ (rows : Pm.Rows) (clk : Nat), σ = ⟨fa [(3, Po g2.l), (14, sls zp L), (15, .int .i64 m), (16, .int .i64 i)], rows, clk⟩) ?_ ?_   -- block 1
    · refine W.sreg (fun K hK => ?_); simp (disch := omega) [gA, wrap_i64, wrap_u64, wrap_u32, Int.tdiv_eq_ediv_of_nonneg, Int.tmod_eq_emod_of_nonneg, hn1]; refine hK _ (W.liveK [3, 4, 5, 14, 15, 16] fun K2 hK2 => ?_); clear hK K; simp; refine hK2 _ ?_; clear hK2 K2
      refine W.sreg (fun K hK => ?_); simp (disch := omega) [gA, wrap_i64, wrap_u64, wrap_u32, Int.tdiv_eq_ediv_of_nonneg, Int.tmod_eq_emod_of_nonneg, e2]; refine hK _ (W.liveK [3, 5, 14, 15, 16, 23] fun K2 hK2 => ?_); clear hK K; simp; refine hK2 _ ?_; clear hK2 K2
      refine W.cond ⟨_, rfl, fun h => ?_, fun h => ?_⟩   -- t23
      · rw [h, if_pos rfl] at hpf
        rw [hpf]
        refine W.reg (fun K hK => ?_)
        simp (disch := omega) [gA, wrap_i64, wrap_u64, wrap_u32, Int.tdiv_eq_ediv_of_nonneg, Int.tmod_eq_emod_of_nonneg]
        refine callR ht ?_
        simp (disch := omega) [gA, wrap_i64, wrap_u64, wrap_u32, Int.tdiv_eq_ediv_of_nonneg, Int.tmod_eq_emod_of_nonneg]
        exact hK _ ⟨_, Gh_fa _ [3, 14, 15, 16], _, _, rfl⟩
      · rw [h, if_neg (by decide)] at hpf
        rw [hpf]
        refine W.skip ?_
        exact ⟨_, Gh_fa _ [3, 14, 15, 16], _, _, rfl⟩
    rintro _ ⟨rows, clk, rfl⟩
    subst hg2
    refine W.reg (fun K hK => ?_); simp (disch := omega) [gA, wrap_i64, wrap_u64, wrap_u32, Int.tdiv_eq_ediv_of_nonneg, Int.tmod_eq_emod_of_nonneg]
    refine hK _ ⟨k - 1, _, Gh_fa _ [3, 14, 15, 16], by omega, i + 1, _, _, rfl, by omega⟩
  · have hi : i = m := by simp at h; omega
    subst hi
    refine W.exit ?_; simp only [pblk_exit, pblk_normal, pblk_ret, pseq_exit, pseq_normal, pseq_ret, pnor_exit, pnor_normal, pnor_ret, if_true, if_false, reduceIte, Nat.reduceEqDiff]
    refine W.sreg (fun K hK => ?_); simp (disch := omega) [gA, wrap_i64, wrap_u64, wrap_u32, Int.tdiv_eq_ediv_of_nonneg, Int.tmod_eq_emod_of_nonneg]; refine hK _ (W.liveK [2] fun K2 hK2 => ?_); clear hK K; simp; refine hK2 _ ?_; clear hK2 K2
    refine W.ret ?_
    simp [go]
end Go.Proofs.Ytgebobdieekjaaa
