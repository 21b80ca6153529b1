import Derived.Test.YtjnkpfknmncdmaaLbq
set_option linter.unusedSimpArgs false
set_option linter.unusedVariables false
namespace Go.Proofs.Ytjnkpfknmncdmaa
open Go Pm

/-- The common denominator, step by step; then the numerators' divisor. -/
def dnF (l : List Rat) : Int := l.foldl (fun d q => (d * q.den).tdiv (Int.gcd d q.den)) 1
def gnF (d : Int) (l : List Rat) : Int := l.foldl (fun (g : Int) q => (Int.gcd g ((q.num * d).tdiv q.den) : Int)) 0
theorem dnF_succ {l : List Rat} {i : Nat} (h : i < l.length) : dnF (l.take (i + 1)) = (dnF (l.take i) * (nth l i).den).tdiv (Int.gcd (dnF (l.take i)) (nth l i).den) := by
  unfold dnF; rw [take_succ_nth h, List.foldl_append]; rfl
theorem gnF_succ {l : List Rat} {d : Int} {i : Nat} (h : i < l.length) : gnF d (l.take (i + 1)) = (Int.gcd (gnF d (l.take i)) (((nth l i).num * d).tdiv (nth l i).den) : Int) := by
  unfold gnF; rw [take_succ_nth h, List.foldl_append]; rfl
theorem RI_den (q : Rat) : RI (q.den : Int) = .ag [sls i64e (dig DD q.den), .bool false] := by
  simp [show ¬ ((q.den : Int) < 0) by omega]
/-- Content with sign; what is left. -/
def qct (l : List Rat) : Rat := if (nth l (l.length - 1)).num < 0 then -(qmk (gnF (dnF l) l) (dnF l)) else qmk (gnF (dnF l) l) (dnF l)
def qpr (l : List Rat) : List Rat := scaleQ l (1 / qct l)

theorem qPrimitive_ret (l : List Rat) {k : Nat} (hk : k ≤ YY) (hk1 : 1 ≤ k) (hl : ∀ q ∈ l, ZR k q) (hll : l.length < 1099511627776) (h0 : l ≠ [])
    (hd : ∀ i, sz 2 (dnF (l.take i)) ≤ k) (hd1 : ∀ i, 0 < dnF (l.take i)) (hg : ∀ i, sz 2 (gnF (dnF l) (l.take i)) ≤ k)
    (hc : ZR YY (qct l)) (hc0 : qct l ≠ 0) (hc1 : ZR YY (1 / qct l)) :
    Ret env.P 44 [PP l] (.tup [RR (qct l), PP (qpr l)]) := by
  have hkY : k ≤ 137438953472 := hk
  have hl0 : 0 < l.length := List.length_pos_iff.2 h0
  refine ret_of_Wf (E := env) (fun _ => 0) [(0, PP l)] Try.func44 rfl (by kernel_rfl) (by kernel_rfl) (show 1 ≤ 75 by decide) (by simp) ?_
  refine W.sreg (fun K hK => ?_); simp (disch := omega) [gA, wrap_i64, wrap_u64, wrap_u32, Int.tdiv_eq_ediv_of_nonneg, Int.tmod_eq_emod_of_nonneg]; refine hK _ (W.liveK [0, 2] fun K2 hK2 => ?_); clear hK K; simp; refine hK2 _ ?_; clear hK2 K2
  refine W.seq ?_
  refine W.sreg (fun K hK => ?_); simp (disch := omega) [gA, wrap_i64, wrap_u64, wrap_u32, Int.tdiv_eq_ediv_of_nonneg, Int.tmod_eq_emod_of_nonneg]; refine hK _ (W.liveK [0, 2, 11] fun K2 hK2 => ?_); clear hK K; simp; refine hK2 _ ?_; clear hK2 K2
  refine W.cond ⟨_, rfl, fun h => ?_, fun h => ?_⟩   -- t11
  · exfalso; simp at h; exact h0 h
  refine W.skip ?_
  refine W.sreg (fun K hK => ?_)
  simp (disch := omega) [gA, wrap_i64, wrap_u64, wrap_u32, Int.tdiv_eq_ediv_of_nonneg, Int.tmod_eq_emod_of_nonneg]
  refine callR (rOf_ret 1 (by decide) (by decide)) ?_
  simp (disch := omega) [gA, wrap_i64, wrap_u64, wrap_u32, Int.tdiv_eq_ediv_of_nonneg, Int.tmod_eq_emod_of_nonneg]
  refine hK _ (W.liveK [0, 2, 4] fun K2 hK2 => ?_); clear hK K; simp; refine hK2 _ ?_; clear hK2 K2
  refine W.seq ?_
  refine W.sreg (fun K hK => ?_); simp (disch := omega) [gA, wrap_i64, wrap_u64, wrap_u32, Int.tdiv_eq_ediv_of_nonneg, Int.tmod_eq_emod_of_nonneg]; refine hK _ (W.liveK [0, 2, 4, 15, 16] fun K2 hK2 => ?_); clear hK K; simp; refine hK2 _ ?_; clear hK2 K2
  refine W.block ?_   -- block 0
  refine W.loopG (fun n σ => ∃ (i : Nat) (d : Int) (rows : Pm.Rows) (clk : Nat), σ = ⟨fa [(0, PP l), (2, .ptr 2 0 0 0), (4, .ptr 4 1 0 0), (15, .int .i64 l.length), (16, .int .i64 i)], rows, clk⟩ ∧
    rows 2 = some ⟨0, 61, 4, [[.nil, .bool false, .nil, .bool false]]⟩ ∧ rows 4 = some ⟨1, 59, 2, [[sls i64e (dig DD d.natAbs), .bool (decide (d < 0))]]⟩ ∧ n = l.length - i ∧ i ≤ l.length ∧ d = dnF (l.take i)) l.length ?_ ?_
  · exact ⟨_, .refl, 0, 1, _, _, rfl, by simp, by simp, by omega, by omega, by simp [dnF]⟩
  rintro n _ ⟨i, d, rows, clk, rfl, hr2, hr4, hn, hi, hdv⟩
  refine W.sreg (fun K hK => ?_); simp (disch := omega) [gA, wrap_i64, wrap_u64, wrap_u32, Int.tdiv_eq_ediv_of_nonneg, Int.tmod_eq_emod_of_nonneg]; refine hK _ (W.liveK [0, 2, 4, 15, 16, 17] fun K2 hK2 => ?_); clear hK K; simp; refine hK2 _ ?_; clear hK2 K2
  refine W.seq ?_
  refine W.cond ⟨_, rfl, fun h => ?_, fun h => ?_⟩   -- t17
  · have hi : i < l.length := by simp at h; omega
    have hq := hl _ (nth_mem hi)
    have hdi := hd i
    have hdp := hd1 i
    have hs := dnF_succ hi
    rw [← hdv] at hs hdi hdp
    have hsn := hd (i + 1)
    have m1 := rMul_ret d (nth l i).den (by simp only [Z]; omega) (by have := hq.d; simp only [Z]; omega)
    have m2 := rGcd_ret d (nth l i).den (by simp only [Y]; omega) (by have := hq.d; simp only [Y]; omega)
    have zm := sz_mul (b := 2) (by decide) hdi hq.d
    have hgp : 0 < Int.gcd d (nth l i).den := Int.gcd_pos_of_ne_zero_left _ (by omega)
    have zg : Y (Int.gcd d (nth l i).den : Int) := Ymono (y := d) (by simp only [Y]; omega) (by
      have := Int.le_of_dvd hdp (Int.gcd_dvd_left d ((nth l i).den : Int)); omega)
    have m3 := rQuo_ret (d * (nth l i).den) (Int.gcd d (nth l i).den) (by omega) (by simp only [Y]; omega) zg
    rw [← hs] at m3
    rw [RI_den] at m1 m2
    generalize (Int.gcd d (nth l i).den : Int) = gg at *
    generalize d * ((nth l i).den : Int) = dd at *
    generalize hd2 : dnF (l.take (i + 1)) = d2 at *
    generalize hqe : nth l i = q at *
    refine W.skip ?_
    refine W.seq ?_
    refine W.block ?_   -- block 1
    refine W.sreg (fun K hK => ?_); simp (disch := omega) [gA, wrap_i64, wrap_u64, wrap_u32, Int.tdiv_eq_ediv_of_nonneg, Int.tmod_eq_emod_of_nonneg, hqe]; refine hK _ (W.liveK [0, 2, 4, 5, 15, 16] fun K2 hK2 => ?_); clear hK K; simp; refine hK2 _ ?_; clear hK2 K2
    refine W.drw (fun K hK => ?_)
    simp (disch := omega) [gA, wrap_i64, wrap_u64, wrap_u32, Int.tdiv_eq_ediv_of_nonneg, Int.tmod_eq_emod_of_nonneg, hr4, hqe]
    refine callR m1 ?_
    simp (disch := omega) [gA, wrap_i64, wrap_u64, wrap_u32, Int.tdiv_eq_ediv_of_nonneg, Int.tmod_eq_emod_of_nonneg, hr4, hqe]
    refine callR m2 ?_
    simp (disch := omega) [gA, wrap_i64, wrap_u64, wrap_u32, Int.tdiv_eq_ediv_of_nonneg, Int.tmod_eq_emod_of_nonneg, hr4, hqe]
    refine callR m3 ?_
    simp (disch := omega) [gA, wrap_i64, wrap_u64, wrap_u32, Int.tdiv_eq_ediv_of_nonneg, Int.tmod_eq_emod_of_nonneg, hr4, hqe]
    refine stepTxt (by refine ⟨?_, ?_⟩ <;> kernel_rfl) ?_
    simp (disch := omega) [gA, wrap_i64, wrap_u64, wrap_u32, Int.tdiv_eq_ediv_of_nonneg, Int.tmod_eq_emod_of_nonneg]
    refine hK _ (W.liveK [0, 2, 4, 15, 16] fun K2 hK2 => ?_); clear hK K; simp; refine hK2 _ ?_; clear hK2 K2
    refine W.reg (fun K hK => ?_); simp (disch := omega) [gA, wrap_i64, wrap_u64, wrap_u32, Int.tdiv_eq_ediv_of_nonneg, Int.tmod_eq_emod_of_nonneg]
    refine hK _ ⟨l.length - (i + 1), _, Gh_fa _ [0, 2, 4, 15, 16], by omega, i + 1, d2, _, _, rfl, by simp [hr2], by simp, by omega, by omega, hd2.symm⟩
  have hi : i = l.length := by simp at h; omega
  subst hi
  rw [List.take_length] at hdv
  have hdl := hd l.length
  have hdp := hd1 l.length
  rw [List.take_length, ← hdv] at hdl hdp
  rw [← hdv] at hg
  have hqc : qct l = if (nth l (l.length - 1)).num < 0 then -(qmk (gnF d l) d) else qmk (gnF d l) d := by rw [hdv]; rfl
  refine W.exit ?_; simp only [pblk_exit, pblk_normal, pblk_ret, pseq_exit, pseq_normal, pseq_ret, pnor_exit, pnor_normal, pnor_ret, if_true, if_false, reduceIte, Nat.reduceEqDiff]
  refine W.sreg (fun K hK => ?_); simp (disch := omega) [gA, wrap_i64, wrap_u64, wrap_u32, Int.tdiv_eq_ediv_of_nonneg, Int.tmod_eq_emod_of_nonneg]; refine hK _ (W.liveK [0, 2, 4, 6] fun K2 hK2 => ?_); clear hK K; simp; refine hK2 _ ?_; clear hK2 K2
  refine W.row (id := 6) (els := [[.nil, .bool false]]) [[sls i64e (dig DD 0), .bool false]] (by simp; first | exact ⟨rfl, rfl, rfl⟩ | exact ⟨rfl, rfl, rfl, rfl⟩) ⟨⟨.inr ⟨rfl, rfl⟩, .inl rfl, trivial⟩, trivial⟩ ?_
  refine W.seq ?_
  refine W.sreg (fun K hK => ?_); simp (disch := omega) [gA, wrap_i64, wrap_u64, wrap_u32, Int.tdiv_eq_ediv_of_nonneg, Int.tmod_eq_emod_of_nonneg]; refine hK _ (W.liveK [0, 2, 4, 6, 36, 37] fun K2 hK2 => ?_); clear hK K; simp; refine hK2 _ ?_; clear hK2 K2
  refine W.block ?_   -- block 2
  clear hdv
  refine W.loopG (fun n σ => ∃ (i v6 : Nat) (g : Int) (rows : Pm.Rows) (clk : Nat), σ = ⟨fa [(0, PP l), (2, .ptr 2 0 0 0), (4, .ptr 4 1 0 0), (6, .ptr 6 v6 0 0), (36, .int .i64 l.length), (37, .int .i64 i)], rows, clk⟩ ∧
    rows 2 = some ⟨0, 61, 4, [[.nil, .bool false, .nil, .bool false]]⟩ ∧ rows 4 = some ⟨1, 59, 2, [[sls i64e (dig DD d.natAbs), .bool (decide (d < 0))]]⟩ ∧
    rows 6 = some ⟨v6, 59, 2, [[sls i64e (dig DD g.natAbs), .bool (decide (g < 0))]]⟩ ∧ n = l.length - i ∧ i ≤ l.length ∧ g = gnF d (l.take i)) l.length ?_ ?_
  · exact ⟨_, .refl, 0, _, 0, _, _, rfl, by simp [hr2], by simp [hr4], by simp, by omega, by omega, by simp [gnF]⟩
  clear hr2 hr4 rows clk
  rintro n _ ⟨i, v6, g, rows, clk, rfl, hr2, hr4, hr6, hn, hi, hgv⟩
  refine W.sreg (fun K hK => ?_); simp (disch := omega) [gA, wrap_i64, wrap_u64, wrap_u32, Int.tdiv_eq_ediv_of_nonneg, Int.tmod_eq_emod_of_nonneg]; refine hK _ (W.liveK [0, 2, 4, 6, 36, 37, 38] fun K2 hK2 => ?_); clear hK K; simp; refine hK2 _ ?_; clear hK2 K2
  refine W.seq ?_
  refine W.cond ⟨_, rfl, fun h => ?_, fun h => ?_⟩   -- t38
  · have hi : i < l.length := by simp at h; omega
    have hq := hl _ (nth_mem hi)
    have hgi := hg i
    have hs := gnF_succ (d := d) hi
    rw [← hgv] at hs hgi
    have m1 := rMul_ret (nth l i).num d (by have := hq.n; simp only [Z]; omega) (by simp only [Z]; omega)
    have zm := sz_mul (b := 2) (by decide) hq.n hdl
    have m2 := rQuo_ret ((nth l i).num * d) (nth l i).den (by have := (nth l i).den_nz; omega) (by simp only [Y]; omega) (by have := hq.d; simp only [Y]; omega)
    have zq : Y (((nth l i).num * d).tdiv (nth l i).den) := Ymono (y := (nth l i).num * d) (by simp only [Y]; omega) (by rw [Int.natAbs_tdiv]; exact Nat.div_le_self _ _)
    have m3 := rGcd_ret g (((nth l i).num * d).tdiv (nth l i).den) (by simp only [Y]; omega) zq
    rw [← hs] at m3
    rw [RI_den] at m2
    generalize ((nth l i).num * d).tdiv (nth l i).den = nq at *
    generalize (nth l i).num * d = nd at *
    generalize hg2 : gnF d (l.take (i + 1)) = g2 at *
    generalize hqe : nth l i = q at *
    refine W.skip ?_
    refine W.seq ?_
    refine W.block ?_   -- block 3
    refine W.sreg (fun K hK => ?_); simp (disch := omega) [gA, wrap_i64, wrap_u64, wrap_u32, Int.tdiv_eq_ediv_of_nonneg, Int.tmod_eq_emod_of_nonneg, hqe]; refine hK _ (W.liveK [0, 2, 4, 6, 7, 36, 37] fun K2 hK2 => ?_); clear hK K; simp; refine hK2 _ ?_; clear hK2 K2
    refine W.drw (fun K hK => ?_)
    simp (disch := omega) [gA, wrap_i64, wrap_u64, wrap_u32, Int.tdiv_eq_ediv_of_nonneg, Int.tmod_eq_emod_of_nonneg, hr4, hr6, hqe]
    refine callR m1 ?_
    simp (disch := omega) [gA, wrap_i64, wrap_u64, wrap_u32, Int.tdiv_eq_ediv_of_nonneg, Int.tmod_eq_emod_of_nonneg, hr4, hr6, hqe]
    refine callR m2 ?_
    simp (disch := omega) [gA, wrap_i64, wrap_u64, wrap_u32, Int.tdiv_eq_ediv_of_nonneg, Int.tmod_eq_emod_of_nonneg, hr4, hr6, hqe]
    refine callR m3 ?_
    simp (disch := omega) [gA, wrap_i64, wrap_u64, wrap_u32, Int.tdiv_eq_ediv_of_nonneg, Int.tmod_eq_emod_of_nonneg, hr4, hr6, hqe]
    refine stepTxt (by kernel_rfl) ?_
    simp (disch := omega) [gA, wrap_i64, wrap_u64, wrap_u32, Int.tdiv_eq_ediv_of_nonneg, Int.tmod_eq_emod_of_nonneg]
    refine hK _ (W.liveK [0, 2, 4, 6, 36, 37] fun K2 hK2 => ?_); clear hK K; simp; refine hK2 _ ?_; clear hK2 K2
    refine W.reg (fun K hK => ?_); simp (disch := omega) [gA, wrap_i64, wrap_u64, wrap_u32, Int.tdiv_eq_ediv_of_nonneg, Int.tmod_eq_emod_of_nonneg]
    refine hK _ ⟨l.length - (i + 1), _, Gh_fa _ [0, 2, 4, 6, 36, 37], by omega, i + 1, v6, g2, _, _, rfl, by simp [hr2], by simp [hr4], by simp, by omega, by omega, hg2.symm⟩
  have hi : i = l.length := by simp at h; omega
  subst hi
  rw [List.take_length] at hgv
  have hgl := hg l.length
  rw [List.take_length] at hgl
  rw [← hgv] at hgl hqc
  have hMk := Make_ret g d (by simp only [Y]; omega) (by simp only [Y]; omega)
  have hNg := NegR_ret (qmk g d)
  have hQ := QuoR_ret 1 (qct l) ⟨by show sz 2 1 ≤ YY; exact Nat.le_trans (sz_le (k := 1) (by decide) (by decide)) (by decide), by show sz 2 1 ≤ YY; exact Nat.le_trans (sz_le (k := 1) (by decide) (by decide)) (by decide)⟩ hc hc0
  have hOf := OfR_ret 1 1 (by decide) (by decide)
  rw [qmk_one, show (((1 : Int)) : Rat) = 1 by simp] at hOf
  have hSc := qScale_ret l (1 / qct l) ⟨fun q hq => ⟨Nat.le_trans (hl q hq).n hk, Nat.le_trans (hl q hq).d hk⟩, hll⟩ hc1
  rw [show scaleQ l (1 / qct l) = qpr l from rfl] at hSc
  have e1 : ((l.length : Int) - 1).toNat = l.length - 1 := by omega
  generalize qpr l = pr at *
  generalize hone : (1 : Rat) = one at *
  generalize one / qct l = ic at *
  generalize qct l = cc at *
  generalize hqm : qmk g d = c0 at *
  generalize hqe : nth l (l.length - 1) = q at *
  refine W.exit ?_; simp only [pblk_exit, pblk_normal, pblk_ret, pseq_exit, pseq_normal, pseq_ret, pnor_exit, pnor_normal, pnor_ret, if_true, if_false, reduceIte, Nat.reduceEqDiff]
  refine W.sreg (fun K hK => ?_)
  simp (disch := omega) [gA, wrap_i64, wrap_u64, wrap_u32, Int.tdiv_eq_ediv_of_nonneg, Int.tmod_eq_emod_of_nonneg, hr4, hr6]
  refine callR hMk ?_
  simp (disch := omega) [gA, wrap_i64, wrap_u64, wrap_u32, Int.tdiv_eq_ediv_of_nonneg, Int.tmod_eq_emod_of_nonneg]
  refine hK _ (W.liveK [0, 2, 8] fun K2 hK2 => ?_); clear hK K; simp; refine hK2 _ ?_; clear hK2 K2
  refine W.seqJ (fun σ => ∃ (v8 : Nat) (rows : Pm.Rows) (clk : Nat), σ = ⟨fa [(0, PP l), (2, .ptr 2 0 0 0), (8, .ptr 8 v8 0 0)], rows, clk⟩ ∧ rows 2 = some ⟨0, 61, 4, [[.nil, .bool false, .nil, .bool false]]⟩ ∧ rows 8 = some ⟨v8, 61, 4, [re cc]⟩) ?_ ?_
  · refine W.sreg (fun K hK => ?_); simp (disch := omega) [gA, wrap_i64, wrap_u64, wrap_u32, Int.tdiv_eq_ediv_of_nonneg, Int.tmod_eq_emod_of_nonneg, e1, hqe]; refine hK _ (W.liveK [0, 2, 8, 66] fun K2 hK2 => ?_); clear hK K; simp; refine hK2 _ ?_; clear hK2 K2
    refine W.condB (q.num < 0) rfl (fun h => ?_) (fun h => ?_)   -- t66
    · rw [if_pos h] at hqc
      rw [← hqc] at hNg
      refine W.reg (fun K hK => ?_)
      simp (disch := omega) [gA, wrap_i64, wrap_u64, wrap_u32, Int.tdiv_eq_ediv_of_nonneg, Int.tmod_eq_emod_of_nonneg]
      refine callR hNg ?_
      simp (disch := omega) [gA, wrap_i64, wrap_u64, wrap_u32, Int.tdiv_eq_ediv_of_nonneg, Int.tmod_eq_emod_of_nonneg]
      exact hK _ ⟨_, Gh_fa _ [0, 2, 8], _, _, _, rfl, by simp [hr2], by simp⟩
    · rw [if_neg h] at hqc
      refine W.skip ?_
      exact ⟨_, Gh_fa _ [0, 2, 8], _, _, _, rfl, by simp [hr2], by simp [hqc]⟩
  clear hr2 hr4 hr6 rows clk
  rintro _ ⟨v8, rows, clk, rfl, hr2, hr8⟩
  refine W.sdrw (fun K hK => ?_)
  simp (disch := omega) [gA, wrap_i64, wrap_u64, wrap_u32, Int.tdiv_eq_ediv_of_nonneg, Int.tmod_eq_emod_of_nonneg, hr8]
  refine callR hOf ?_
  simp (disch := omega) [gA, wrap_i64, wrap_u64, wrap_u32, Int.tdiv_eq_ediv_of_nonneg, Int.tmod_eq_emod_of_nonneg, hr8]
  refine callR hQ ?_
  simp (disch := omega) [gA, wrap_i64, wrap_u64, wrap_u32, Int.tdiv_eq_ediv_of_nonneg, Int.tmod_eq_emod_of_nonneg, hr8]
  refine callR hSc ?_
  simp (disch := omega) [gA, wrap_i64, wrap_u64, wrap_u32, Int.tdiv_eq_ediv_of_nonneg, Int.tmod_eq_emod_of_nonneg, hr2, hr8]
  refine hK _ (W.liveK [2, 3] fun K2 hK2 => ?_); clear hK K; simp; refine hK2 _ ?_; clear hK2 K2
  refine W.ret ?_
  simp [go]
end Go.Proofs.Ytjnkpfknmncdmaa
