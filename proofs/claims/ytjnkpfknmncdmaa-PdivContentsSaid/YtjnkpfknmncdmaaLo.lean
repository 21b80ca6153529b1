import Derived.Test.YtjnkpfknmncdmaaLm
set_option linter.unusedSimpArgs false
set_option linter.unusedVariables false
namespace Go.Proofs.Ytjnkpfknmncdmaa
open Go Pm

/-! The document's own numbers: digits to the base 10000. -/
abbrev DD : Nat := 10000
theorem hDD : 2 ≤ DD := by decide
/-- A natural number's digits, as a value. -/
abbrev Dn (x : Int) : PV := sls i64e (dig DD x.toNat)
theorem Dn_cut {l : List Int} (h : Lim 10000 l) : sls i64e (cutR l) = Dn (V 10000 l) := by rw [cutR_dig hDD h]; rfl
@[simp] theorem rep_i64 {n : Nat} : List.replicate n [PV.int .i64 0] = emap i64e (List.replicate n 0) := by simp [emap]
@[simp] theorem setEl_i64e {l : List Int} {i : Nat} {x : Int} : setEl (emap i64e l) i 0 [.int .i64 x] = emap i64e (l.set i x) := setEl_g (n := 1) (fun _ => rfl)
@[simp] theorem app_i64e {l : List Int} {x : Int} : emap i64e l ++ [[.int .i64 x]] = emap i64e (l ++ [x]) := by simp [emap]

theorem rcut_ret (l : List Int) (hl : l.length < 17592186044416) : Ret env.P 114 [sls i64e l] (sls i64e (cutR l)) := by
  refine ret_of_Wf (E := env) (fun _ => 0) [(0, sls i64e l)] Try.func114 rfl (by kernel_rfl) (by kernel_rfl) (show 1 ≤ 21 by decide) (by simp) ?_
  refine W.sreg (fun K hK => ?_); simp (disch := omega) [gA, wrap_i64, wrap_u64, wrap_u32, Int.tdiv_eq_ediv_of_nonneg, Int.tmod_eq_emod_of_nonneg]; refine hK _ (W.liveK [0] fun K2 hK2 => ?_); clear hK K; simp; refine hK2 _ ?_; clear hK2 K2
  refine W.sreg (fun K hK => ?_); simp (disch := omega) [gA, wrap_i64, wrap_u64, wrap_u32, Int.tdiv_eq_ediv_of_nonneg, Int.tmod_eq_emod_of_nonneg]; refine hK _ (W.liveK [0, 3] fun K2 hK2 => ?_); clear hK K; simp; refine hK2 _ ?_; clear hK2 K2
  refine W.seq (W.block ?_)
  refine W.loopG (fun k σ => ∃ (rows : Pm.Rows) (clk : Nat), σ = ⟨fa [(0, sls i64e l), (3, .int .i64 (k : Int))], rows, clk⟩ ∧ k ≤ l.length ∧ cutR l = cutR (l.take k)) l.length ?_ ?_
  · exact ⟨_, .refl, _, _, rfl, by omega, by simp⟩
  rintro k _ ⟨rows, clk, rfl, hk, hc⟩
  refine W.seq ?_
  refine W.sregJ (fun σ => ∃ (b : Bool), σ = ⟨fa [(0, sls i64e l), (3, .int .i64 (k : Int)), (15, .bool b)], rows, clk⟩ ∧ (b = true ↔ 0 < k ∧ nth l (k - 1) = 0)) (fun K hK => ?_) ?_
  · simp
    by_cases h0 : 0 < k
    · simp (disch := omega) [gA, wrap_i64, wrap_u64, wrap_u32, Int.tdiv_eq_ediv_of_nonneg, Int.tmod_eq_emod_of_nonneg, h0]
      exact hK _ _ (Gh_fa _ [0, 3, 15]) ⟨_, rfl, by simp [h0]⟩
    · simp (disch := omega) [gA, wrap_i64, wrap_u64, wrap_u32, Int.tdiv_eq_ediv_of_nonneg, Int.tmod_eq_emod_of_nonneg, h0]
      exact hK _ _ (Gh_fa _ [0, 3, 15]) ⟨_, rfl, by simp [h0]⟩
  rintro _ ⟨b, rfl, hb⟩
  refine W.cond ⟨_, rfl, fun h => ?_, fun h => ?_⟩
  · obtain ⟨h0, h1⟩ := hb.1 h
    refine W.skip (W.block ?_)
    refine W.reg (fun K hK => ?_)
    simp (disch := omega) [gA, wrap_i64, wrap_u64, wrap_u32, Int.tdiv_eq_ediv_of_nonneg, Int.tmod_eq_emod_of_nonneg]
    refine hK _ ⟨k - 1, _, Gh.fr [(0, _), (3, .int .i64 ((k - 1 : Nat) : Int))] (by simp; omega), by omega, _, _, rfl, by omega, ?_⟩
    rw [hc, show k = (k - 1) + 1 by omega, take_succ_nth (by omega), h1, cutR_zero]
    simp
  · have h2 : cutR l = l.take k := by
      rw [hc]
      by_cases h0 : 0 < k
      · have h1 : nth l (k - 1) ≠ 0 := fun h1 => by simp [hb.2 ⟨h0, h1⟩] at h
        rw [show k = (k - 1) + 1 by omega, take_succ_nth (by omega)]
        exact cutR_ne h1 _
      · have : k = 0 := by omega
        subst this; simp [cutR]
    refine W.exit ?_
    simp only [pblk_exit, pblk_normal, pblk_ret, pseq_exit, pseq_normal, pseq_ret, pnor_exit, pnor_normal, pnor_ret, if_true, if_false, reduceIte, Nat.reduceEqDiff]
    refine W.sreg (fun K hK => ?_); simp (disch := omega) [gA, wrap_i64, wrap_u64, wrap_u32, Int.tdiv_eq_ediv_of_nonneg, Int.tmod_eq_emod_of_nonneg]; refine hK _ (W.liveK [2] fun K2 hK2 => ?_); clear hK K; simp; refine hK2 _ ?_; clear hK2 K2
    refine W.ret ?_
    simp [h2]

theorem mulAdd_ret (a : List Int) (m c0 : Int) (ha : a.length < 1099511627776) (la : Lim 10000 a) (hm0 : 0 ≤ m) (hm1 : m ≤ 65536) (hc0 : 0 ≤ c0) (hc1 : c0 ≤ 65536) :
    Ret env.P 113 [sls i64e a, .int .i64 m, .int .i64 c0] (Dn (V 10000 a * m + c0)) := by
  refine ret_of_Wf (E := env) (fun _ => 0) [(0, sls i64e a), (1, .int .i64 m), (2, .int .i64 c0)] Try.func113 rfl (by kernel_rfl) (by kernel_rfl) (show 3 ≤ 44 by decide) (by simp) ?_
  refine W.sreg (fun K hK => ?_); simp (disch := omega) [gA, wrap_i64, wrap_u64, wrap_u32, Int.tdiv_eq_ediv_of_nonneg, Int.tmod_eq_emod_of_nonneg]; refine hK _ (W.liveK [0, 1, 2] fun K2 hK2 => ?_); clear hK K; simp; refine hK2 _ ?_; clear hK2 K2
  refine W.sreg (fun K hK => ?_); simp (disch := omega) [gA, wrap_i64, wrap_u64, wrap_u32, Int.tdiv_eq_ediv_of_nonneg, Int.tmod_eq_emod_of_nonneg]; refine hK _ (W.liveK [0, 1, 2, 7] fun K2 hK2 => ?_); clear hK K; simp; refine hK2 _ ?_; clear hK2 K2
  refine W.seq ?_
  refine W.sreg (fun K hK => ?_); simp (disch := omega) [gA, wrap_i64, wrap_u64, wrap_u32, Int.tdiv_eq_ediv_of_nonneg, Int.tmod_eq_emod_of_nonneg]; refine hK _ (W.liveK [0, 1, 2, 7, 8] fun K2 hK2 => ?_); clear hK K; simp; refine hK2 _ ?_; clear hK2 K2
  refine W.block ?_   -- block 0
  refine W.loopG (fun k σ => ∃ (i : Nat) (c : Int) (z : List Int) (ver : Nat) (rows : Pm.Rows) (clk : Nat), σ = ⟨fa [(0, sls i64e a), (1, .int .i64 m), (2, .int .i64 c), (7, .own 12 ver 0 i), (8, .int .i64 i)], rows, clk⟩ ∧
    rows 12 = some ⟨ver, 3, 1, emap i64e z⟩ ∧ k = (a.length - i) * 1000000 + c.toNat ∧ z.length = i ∧ (i ≤ a.length ∨ i + c ≤ a.length + 65536) ∧ Lim 10000 z ∧ 0 ≤ c ∧ c ≤ 65536 ∧
    V 10000 z + 10000 ^ i * c = V 10000 (a.take i) * m + c0) (a.length * 1000000 + c0.toNat) ?_ ?_
  · exact ⟨_, .refl, 0, c0, [], _, _, _, rfl, by simp [emap], by simp, rfl, by omega, Lim.nil, hc0, hc1, by simp [V]⟩
  rintro k _ ⟨i, c, z, ver, rows, clk, rfl, hr, hk, hz, hi, lz, h0, h1, hV⟩
  refine W.seq ?_
  refine W.sregJ (fun σ => ∃ (b : Bool), σ = ⟨fa [(0, sls i64e a), (1, .int .i64 m), (2, .int .i64 c), (7, .own 12 ver 0 i), (8, .int .i64 i), (20, .bool b)], rows, clk⟩ ∧ (b = true ↔ i < a.length ∨ 0 < c)) (fun K hK => ?_) ?_
  · simp
    by_cases h2 : i < a.length
    · simp (disch := omega) [gA, wrap_i64, wrap_u64, wrap_u32, Int.tdiv_eq_ediv_of_nonneg, Int.tmod_eq_emod_of_nonneg, h2]
      exact hK _ _ (Gh_fa _ [0, 1, 2, 7, 8, 20]) ⟨_, rfl, by simp [h2]⟩
    · simp (disch := omega) [gA, wrap_i64, wrap_u64, wrap_u32, Int.tdiv_eq_ediv_of_nonneg, Int.tmod_eq_emod_of_nonneg, h2]
      exact hK _ _ (Gh_fa _ [0, 1, 2, 7, 8, 20]) ⟨_, rfl, by simp [h2]⟩
  rintro _ ⟨b, rfl, hb⟩
  refine W.cond ⟨_, rfl, fun h => ?_, fun h => ?_⟩   -- t20
  · have hb := hb.1 h
    refine W.skip ?_
    refine W.seq ?_
    refine W.block ?_   -- block 1
    refine W.seqJ (fun σ => ∃ (s : Int), σ = ⟨fa [(0, sls i64e a), (1, .int .i64 m), (2, .int .i64 s), (7, .own 12 ver 0 i), (8, .int .i64 i)], rows, clk⟩ ∧ 0 ≤ s ∧ s ≤ 655360000 ∧ (a.length ≤ i → s = c) ∧
      V 10000 z + 10000 ^ i * s = V 10000 (a.take (i + 1)) * m + c0) ?_ ?_
    ·
      refine W.sreg (fun K hK => ?_); simp (disch := omega) [gA, wrap_i64, wrap_u64, wrap_u32, Int.tdiv_eq_ediv_of_nonneg, Int.tmod_eq_emod_of_nonneg]; refine hK _ (W.liveK [0, 1, 2, 7, 8, 26] fun K2 hK2 => ?_); clear hK K; simp; refine hK2 _ ?_; clear hK2 K2
      refine W.cond ⟨_, rfl, fun h => ?_, fun h => ?_⟩   -- t26
      · simp at h
        have hn := la.nth h
        have h2 : 0 ≤ nth a i * m := Int.mul_nonneg hn.1 hm0
        have h3 : nth a i * m ≤ 9999 * 65536 := Int.mul_le_mul (by omega) hm1 hm0 (by omega)
        refine W.reg (fun K hK => ?_); simp (disch := omega) [gA, wrap_i64, wrap_u64, wrap_u32, Int.tdiv_eq_ediv_of_nonneg, Int.tmod_eq_emod_of_nonneg]
        refine hK _ ⟨_, Gh_fa _ [0, 1, 2, 7, 8], _, rfl, by omega, by omega, by omega, ?_⟩
        rw [V_take_succ h, Int.mul_add, Int.add_mul]
        grind
      · simp at h
        refine W.skip ?_
        refine ⟨_, Gh_fa _ [0, 1, 2, 7, 8], _, rfl, by omega, by omega, fun _ => rfl, ?_⟩
        rw [V_take_all (by omega)]
        rw [V_take_all (by omega)] at hV
        exact hV
    rintro _ ⟨s, rfl, hs0, hs1, hsc, hsV⟩
    refine W.sreg (fun K hK => ?_); simp (disch := omega) [gA, wrap_i64, wrap_u64, wrap_u32, Int.tdiv_eq_ediv_of_nonneg, Int.tmod_eq_emod_of_nonneg, hr, hz]
    refine hK _ (W.liveK [0, 1, 2, 7, 8] fun K2 hK2 => ?_); clear hK K; simp; refine hK2 _ ?_; clear hK2 K2
    refine W.reg (fun K hK => ?_); simp (disch := omega) [gA, wrap_i64, wrap_u64, wrap_u32, Int.tdiv_eq_ediv_of_nonneg, Int.tmod_eq_emod_of_nonneg]; refine hK _ (W.liveK [0, 1, 2, 7, 8] fun K2 hK2 => ?_); clear hK K; simp; refine hK2 _ ?_; clear hK2 K2
    refine W.reg (fun K hK => ?_); simp (disch := omega) [gA, wrap_i64, wrap_u64, wrap_u32, Int.tdiv_eq_ediv_of_nonneg, Int.tmod_eq_emod_of_nonneg]
    refine hK _ ⟨(a.length - (i + 1)) * 1000000 + (s / 10000).toNat, _, Gh_fa _ [0, 1, 2, 7, 8], by omega, i + 1, s / 10000, z ++ [s % 10000], _, _, _, rfl, by simp, rfl, by simp [hz], by omega, Lim.append.2 ⟨lz, Lim.cons.2 ⟨by omega, Lim.nil⟩⟩, by omega, by omega, ?_⟩
    rw [V_append, V_one, hz, ← hsV, Int.pow_succ]
    have := Int.emod_add_mul_ediv s 10000
    grind
  · have hb : ¬ (i < a.length ∨ 0 < c) := fun h2 => by simp [hb.2 h2] at h
    have hc : c = 0 := by omega
    subst hc
    refine W.exit ?_; simp only [pblk_exit, pblk_normal, pblk_ret, pseq_exit, pseq_normal, pseq_ret, pnor_exit, pnor_normal, pnor_ret, if_true, if_false, reduceIte, Nat.reduceEqDiff]
    have ez : z.take i = z := take_all hz
    refine W.sreg (fun K hK => ?_)
    simp (disch := omega) [gA, wrap_i64, wrap_u64, wrap_u32, Int.tdiv_eq_ediv_of_nonneg, Int.tmod_eq_emod_of_nonneg, hr, hz, ez]
    refine callR (rcut_ret z (by omega)) ?_
    simp (disch := omega) [gA, wrap_i64, wrap_u64, wrap_u32, Int.tdiv_eq_ediv_of_nonneg, Int.tmod_eq_emod_of_nonneg]
    refine hK _ (W.liveK [6] fun K2 hK2 => ?_); clear hK K; simp; refine hK2 _ ?_; clear hK2 K2
    refine W.ret ?_
    rw [V_take_all (by omega)] at hV
    have e : V 10000 z = V 10000 a * m + c0 := by simpa using hV
    rw [← e, ← Dn_cut lz]
    simp
end Go.Proofs.Ytjnkpfknmncdmaa
