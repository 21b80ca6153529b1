import Derived.Test.YtjnkpfknmncdmaaLr
set_option linter.unusedSimpArgs false
set_option linter.unusedVariables false
namespace Go.Proofs.Ytjnkpfknmncdmaa
open Go Pm

theorem mul_dd {a b : Int} (ha : 0 ≤ a ∧ a < 10000) (hb : 0 ≤ b ∧ b < 10000) : 0 ≤ a * b ∧ a * b ≤ 99980001 := by
  refine ⟨Int.mul_nonneg ha.1 hb.1, ?_⟩
  have := Int.mul_le_mul (show a ≤ 9999 by omega) (show b ≤ 9999 by omega) hb.1 (by decide)
  simpa using this

theorem MulNl_ret (x y : List Int) (hx : x.length < 1099511627776) (hy : y.length < 1099511627776) (lx : Lim 10000 x) (ly : Lim 10000 y) : Ret env.P 117 [sls i64e x, sls i64e y] (Dn (V 10000 x * V 10000 y)) := by
  refine ret_of_Wf (E := env) (fun _ => 0) [(0, sls i64e x), (1, sls i64e y)] Try.func117 rfl (by kernel_rfl) (by kernel_rfl) (show 2 ≤ 66 by decide) (by simp) ?_
  refine W.sreg (fun K hK => ?_); simp (disch := omega) [gA, wrap_i64, wrap_u64, wrap_u32, Int.tdiv_eq_ediv_of_nonneg, Int.tmod_eq_emod_of_nonneg]; refine hK _ (W.liveK [0, 1] fun K2 hK2 => ?_); clear hK K; simp; refine hK2 _ ?_; clear hK2 K2
  have e : ((x.length : Int) + (y.length : Int)).toNat = x.length + y.length := by omega
  refine W.sreg (fun K hK => ?_); simp (disch := omega) [gA, wrap_i64, wrap_u64, wrap_u32, Int.tdiv_eq_ediv_of_nonneg, Int.tmod_eq_emod_of_nonneg, e]; refine hK _ (W.liveK [0, 1, 5] fun K2 hK2 => ?_); clear hK K; simp; refine hK2 _ ?_; clear hK2 K2
  refine W.seq ?_
  refine W.sreg (fun K hK => ?_); simp (disch := omega) [gA, wrap_i64, wrap_u64, wrap_u32, Int.tdiv_eq_ediv_of_nonneg, Int.tmod_eq_emod_of_nonneg]; refine hK _ (W.liveK [0, 1, 5, 17, 18] fun K2 hK2 => ?_); clear hK K; simp; refine hK2 _ ?_; clear hK2 K2
  refine W.block ?_   -- block 0
  refine W.loopG (fun k σ => ∃ (i : Nat) (z : List Int) (ver : Nat) (rows : Pm.Rows) (clk : Nat), σ = ⟨fa [(0, sls i64e x), (1, sls i64e y), (5, .own 15 ver 0 (x.length + y.length)), (17, .int .i64 x.length), (18, .int .i64 i)], rows, clk⟩ ∧
      rows 15 = some ⟨ver, 3, 1, emap i64e z⟩ ∧ k = x.length - i ∧ i ≤ x.length ∧ z.length = x.length + y.length ∧ Lim 10000 z ∧ (∀ j, i + y.length ≤ j → nth z j = 0) ∧
      V 10000 z = V 10000 (x.take i) * V 10000 y) x.length ?_ ?_
  · refine ⟨_, .refl, 0, List.replicate (x.length + y.length) 0, _, _, _, rfl, by simp [e], by omega, by omega, by simp, Lim.rep (by decide) _, fun j _ => ?_, by simp [V, V_rep]⟩
    unfold nth
    cases h : (List.replicate (x.length + y.length) (0 : Int))[j]? with
    | none => rfl
    | some v => have := List.mem_of_getElem? h; simp at this; simp [this]
  rintro k _ ⟨i, z, ver, rows, clk, rfl, hr, hk, hi, hz, lz, hz0, hV⟩
  refine W.sreg (fun K hK => ?_); simp (disch := omega) [gA, wrap_i64, wrap_u64, wrap_u32, Int.tdiv_eq_ediv_of_nonneg, Int.tmod_eq_emod_of_nonneg]; refine hK _ (W.liveK [0, 1, 5, 17, 18, 19] fun K2 hK2 => ?_); clear hK K; simp; refine hK2 _ ?_; clear hK2 K2
  refine W.seq ?_
  refine W.cond ⟨_, rfl, fun h => ?_, fun h => ?_⟩   -- t19
  · simp at h
    have hxi := lx.nth h
    refine W.skip ?_
    refine W.seq ?_
    refine W.block ?_   -- block 1
    refine W.sreg (fun K hK => ?_); simp (disch := omega) [gA, wrap_i64, wrap_u64, wrap_u32, Int.tdiv_eq_ediv_of_nonneg, Int.tmod_eq_emod_of_nonneg]; refine hK _ (W.liveK [0, 1, 5, 6, 17, 18] fun K2 hK2 => ?_); clear hK K; simp; refine hK2 _ ?_; clear hK2 K2
    refine W.sreg (fun K hK => ?_); simp (disch := omega) [gA, wrap_i64, wrap_u64, wrap_u32, Int.tdiv_eq_ediv_of_nonneg, Int.tmod_eq_emod_of_nonneg]; refine hK _ (W.liveK [0, 1, 5, 6, 7, 17, 18] fun K2 hK2 => ?_); clear hK K; simp; refine hK2 _ ?_; clear hK2 K2
    refine W.sreg (fun K hK => ?_); simp (disch := omega) [gA, wrap_i64, wrap_u64, wrap_u32, Int.tdiv_eq_ediv_of_nonneg, Int.tmod_eq_emod_of_nonneg]; refine hK _ (W.liveK [0, 1, 5, 6, 7, 8, 17, 18] fun K2 hK2 => ?_); clear hK K; simp; refine hK2 _ ?_; clear hK2 K2
    refine W.block ?_   -- block 2
    refine W.loopG (fun m σ => ∃ (k : Nat) (c : Int) (z : List Int) (ver : Nat) (rows : Pm.Rows) (clk : Nat), σ = ⟨fa [(0, sls i64e x), (1, sls i64e y), (5, .own 15 ver 0 (x.length + y.length)), (6, .int .i64 i), (7, .int .i64 c), (8, .int .i64 k), (17, .int .i64 x.length), (18, .int .i64 i)], rows, clk⟩ ∧
      rows 15 = some ⟨ver, 3, 1, emap i64e z⟩ ∧ m = y.length + 1 - k ∧ (k ≤ y.length ∧ (∀ j, i + y.length ≤ j → nth z j = 0) ∨ k = y.length + 1 ∧ c = 0) ∧ z.length = x.length + y.length ∧ Lim 10000 z ∧ (∀ j, i + 1 + y.length ≤ j → nth z j = 0) ∧ 0 ≤ c ∧ c ≤ 9999 ∧
      V 10000 z + 10000 ^ (i + k) * c = V 10000 (x.take i) * V 10000 y + 10000 ^ i * nth x i * V 10000 (y.take k)) (y.length + 1) ?_ ?_
    · exact ⟨_, .refl, 0, 0, z, ver, _, _, rfl, by simpa using hr, by omega, .inl ⟨by omega, hz0⟩, hz, lz, fun j hj => hz0 j (by omega), by omega, by omega, by simp [V, hV]⟩
    clear hV hz0 lz hz hr z ver rows clk
    rintro m _ ⟨k, c, z, ver, rows, clk, rfl, hr, hm, hky, hz, lz, hz0, hc0, hc1, hV⟩
    refine W.seq ?_
    refine W.sregJ (fun σ => ∃ (t : Bool), σ = ⟨fa [(0, sls i64e x), (1, sls i64e y), (5, .own 15 ver 0 (x.length + y.length)), (6, .int .i64 i), (7, .int .i64 c), (8, .int .i64 k), (17, .int .i64 x.length), (18, .int .i64 i), (28, .bool t)], rows, clk⟩ ∧ (t = true ↔ k < y.length ∨ 0 < c)) (fun K hK => ?_) ?_
    · simp
      by_cases h2 : k < y.length
      · simp (disch := omega) [gA, wrap_i64, wrap_u64, wrap_u32, Int.tdiv_eq_ediv_of_nonneg, Int.tmod_eq_emod_of_nonneg, h2]
        exact hK _ _ (Gh_fa _ [0, 1, 5, 6, 7, 8, 17, 18, 28]) ⟨_, rfl, by simp [h2]⟩
      · simp (disch := omega) [gA, wrap_i64, wrap_u64, wrap_u32, Int.tdiv_eq_ediv_of_nonneg, Int.tmod_eq_emod_of_nonneg, h2]
        exact hK _ _ (Gh_fa _ [0, 1, 5, 6, 7, 8, 17, 18, 28]) ⟨_, rfl, by simp [h2]⟩
    rintro _ ⟨t, rfl, ht⟩
    refine W.cond ⟨_, rfl, fun h2 => ?_, fun h2 => ?_⟩   -- t28
    · have ht := ht.1 h2
      obtain ⟨hk0, hk1⟩ : k ≤ y.length ∧ (∀ j, i + y.length ≤ j → nth z j = 0) := by
        rcases hky with h3 | h3
        · exact h3
        · omega
      have hzk := lz.nth (i := i + k) (by omega)
      have e0 : ((i : Int) + (k : Int)).toNat = i + k := by omega
      refine W.skip ?_
      refine W.seq ?_
      refine W.block ?_   -- block 3
      refine W.sreg (fun K hK => ?_); simp (disch := omega) [gA, wrap_i64, wrap_u64, wrap_u32, Int.tdiv_eq_ediv_of_nonneg, Int.tmod_eq_emod_of_nonneg, hr, e0]
      refine hK _ (W.liveK [0, 1, 5, 6, 8, 9, 17, 18] fun K2 hK2 => ?_); clear hK K; simp; refine hK2 _ ?_; clear hK2 K2
      refine W.seqJ (fun σ => ∃ (s : Int), σ = ⟨fa [(0, sls i64e x), (1, sls i64e y), (5, .own 15 ver 0 (x.length + y.length)), (6, .int .i64 i), (8, .int .i64 k), (9, .int .i64 s), (17, .int .i64 x.length), (18, .int .i64 i)], rows, clk⟩ ∧ 0 ≤ s ∧ s ≤ 99999999 ∧ (k = y.length → s = c) ∧
        V 10000 z - 10000 ^ (i + k) * nth z (i + k) + 10000 ^ (i + k) * s = V 10000 (x.take i) * V 10000 y + 10000 ^ i * nth x i * V 10000 (y.take (k + 1))) ?_ ?_
      ·
        refine W.sreg (fun K hK => ?_); simp (disch := omega) [gA, wrap_i64, wrap_u64, wrap_u32, Int.tdiv_eq_ediv_of_nonneg, Int.tmod_eq_emod_of_nonneg]; refine hK _ (W.liveK [0, 1, 5, 6, 8, 9, 17, 18, 42] fun K2 hK2 => ?_); clear hK K; simp; refine hK2 _ ?_; clear hK2 K2
        refine W.cond ⟨_, rfl, fun h => ?_, fun h => ?_⟩   -- t42
        · simp at h
          have hyk := ly.nth h
          have hp := mul_dd hxi hyk
          refine W.drw (fun K hK => ?_); simp (disch := omega) [gA, wrap_i64, wrap_u64, wrap_u32, Int.tdiv_eq_ediv_of_nonneg, Int.tmod_eq_emod_of_nonneg]
          refine hK _ ⟨_, Gh_fa _ [0, 1, 5, 6, 8, 9, 17, 18], _, rfl, by omega, by omega, by omega, ?_⟩
          rw [V_take_succ h, Int.pow_add]
          rw [Int.pow_add] at hV
          grind
        · simp at h
          have hkl : k = y.length := by omega
          have h0 := hk1 (i + k) (by omega)
          refine W.skip ?_
          refine ⟨_, Gh_fa _ [0, 1, 5, 6, 8, 9, 17, 18], _, rfl, by omega, by omega, by omega, ?_⟩
          rw [V_take_all (l := y) (by omega)]
          rw [V_take_all (l := y) (by omega)] at hV
          rw [h0]
          grind
      rintro _ ⟨s, rfl, hs0, hs1, hsc, hsV⟩
      refine W.sreg (fun K hK => ?_); simp (disch := omega) [gA, wrap_i64, wrap_u64, wrap_u32, Int.tdiv_eq_ediv_of_nonneg, Int.tmod_eq_emod_of_nonneg, hr, e0]
      refine hK _ (W.liveK [0, 1, 5, 6, 8, 9, 17, 18] fun K2 hK2 => ?_); clear hK K; simp; refine hK2 _ ?_; clear hK2 K2
      refine W.reg (fun K hK => ?_); simp (disch := omega) [gA, wrap_i64, wrap_u64, wrap_u32, Int.tdiv_eq_ediv_of_nonneg, Int.tmod_eq_emod_of_nonneg]; refine hK _ (W.liveK [0, 1, 5, 6, 7, 8, 17, 18] fun K2 hK2 => ?_); clear hK K; simp; refine hK2 _ ?_; clear hK2 K2
      refine W.reg (fun K hK => ?_); simp (disch := omega) [gA, wrap_i64, wrap_u64, wrap_u32, Int.tdiv_eq_ediv_of_nonneg, Int.tmod_eq_emod_of_nonneg]
      have hV2 := V_set (b := 10000) (l := z) (i := i + k) (x := s % 10000) (by omega)
      refine hK _ ⟨y.length + 1 - (k + 1), _, Gh_fa _ [0, 1, 5, 6, 7, 8, 17, 18], by omega, k + 1, s / 10000, z.set (i + k) (s % 10000), ver, _, _, rfl, by simp, rfl, ?_, by simpa using hz, lz.set (by omega), fun j hj => ?_, by omega, by omega, ?_⟩
      · rcases Nat.lt_or_ge k y.length with h3 | h3
        · left
          refine ⟨by omega, fun j hj => ?_⟩
          rw [nth_set_ne (by omega)]; exact hk1 j hj
        · right
          have := hsc (by omega)
          exact ⟨by omega, by omega⟩
      · rw [nth_set_ne (by omega)]; exact hz0 j hj
      · rw [hV2, ← hsV, show i + (k + 1) = (i + k) + 1 by omega, Int.pow_succ]
        have := Int.emod_add_mul_ediv s 10000
        grind
    · have ht : ¬ (k < y.length ∨ 0 < c) := fun h3 => by simp [ht.2 h3] at h2
      have hc : c = 0 := by omega
      subst hc
      refine W.exit ?_; simp only [pblk_exit, pblk_normal, pblk_ret, pseq_exit, pseq_normal, pseq_ret, pnor_exit, pnor_normal, pnor_ret, if_true, if_false, reduceIte, Nat.reduceEqDiff]
      refine W.reg (fun K hK => ?_); simp (disch := omega) [gA, wrap_i64, wrap_u64, wrap_u32, Int.tdiv_eq_ediv_of_nonneg, Int.tmod_eq_emod_of_nonneg]
      refine hK _ ⟨x.length - (i + 1), _, Gh_fa _ [0, 1, 5, 17, 18], by omega, i + 1, z, ver, _, _, rfl, hr, by omega, by omega, hz, lz, hz0, ?_⟩
      rw [V_take_succ h]
      rw [V_take_all (l := y) (by omega)] at hV
      grind
  · simp at h
    have hi' : i = x.length := by omega
    subst hi'
    have hz2 : List.take (x.length + y.length) z = z := List.take_of_length_le (by omega)
    refine W.exit ?_; simp only [pblk_exit, pblk_normal, pblk_ret, pseq_exit, pseq_normal, pseq_ret, pnor_exit, pnor_normal, pnor_ret, if_true, if_false, reduceIte, Nat.reduceEqDiff]
    refine W.sreg (fun K hK => ?_)
    simp (disch := omega) [gA, wrap_i64, wrap_u64, wrap_u32, Int.tdiv_eq_ediv_of_nonneg, Int.tmod_eq_emod_of_nonneg, hr, hz2]
    refine callR (rcut_ret z (by omega)) ?_
    simp (disch := omega) [gA, wrap_i64, wrap_u64, wrap_u32, Int.tdiv_eq_ediv_of_nonneg, Int.tmod_eq_emod_of_nonneg]
    refine hK _ (W.liveK [4] fun K2 hK2 => ?_); clear hK K; simp; refine hK2 _ ?_; clear hK2 K2
    refine W.ret ?_
    rw [V_take_all (Nat.le_refl _)] at hV
    rw [← hV, ← Dn_cut lz]
    simp
theorem MulN_ret (x y : Int) (hx : 0 ≤ x) (hy : 0 ≤ y) (zx : Z x) (zy : Z y) : Ret env.P 117 [Dn x, Dn y] (Dn (x * y)) := by
  have := MulNl_ret (dig DD x.toNat) (dig DD y.toNat) (by have := dd_len' hx; omega) (by have := dd_len' hy; omega) (Lim_dd _) (Lim_dd _)
  rwa [V_dd hx, V_dd hy] at this

theorem Zabs {x : Int} (h : Z x) : Z (x.natAbs : Int) := by simpa [Z, sz] using h

theorem rmade_retN (n : Nat) (neg : Bool) : Ret env.P 87 [sls i64e (dig DD n), .bool neg] (RI (if neg = true then -(n : Int) else n)) := rmade_ret n (by omega) neg
theorem mul_signs (x y : Int) : (if decide (x < 0) != decide (y < 0) then -((x.natAbs * y.natAbs : Nat) : Int) else ((x.natAbs * y.natAbs : Nat) : Int)) = x * y := by
  rw [Int.natCast_mul]
  by_cases h1 : x < 0 <;> by_cases h2 : y < 0
  · simp only [h1, h2, show (x.natAbs : Int) = -x by omega, show (y.natAbs : Int) = -y by omega]; simp <;> grind
  · simp only [h1, h2, show (x.natAbs : Int) = -x by omega, show (y.natAbs : Int) = y by omega]; simp <;> grind
  · simp only [h1, h2, show (x.natAbs : Int) = x by omega, show (y.natAbs : Int) = -y by omega]; simp <;> grind
  · simp only [h1, h2, show (x.natAbs : Int) = x by omega, show (y.natAbs : Int) = y by omega]; simp <;> grind

theorem rMul_ret (x y : Int) (zx : Z x) (zy : Z y) : Ret env.P 92 [RI x, RI y] (RI (x * y)) := by
  refine ret_of_Wf (E := env) (fun _ => 0) [(0, RI x), (1, RI y)] Try.func92 rfl (by kernel_rfl) (by kernel_rfl) (show 2 ≤ 16 by decide) (by simp) ?_
  refine W.sreg (fun K hK => ?_); simp (disch := omega) [gA, wrap_i64, wrap_u64, wrap_u32, Int.tdiv_eq_ediv_of_nonneg, Int.tmod_eq_emod_of_nonneg]; refine hK _ (W.liveK [2, 3, 4] fun K2 hK2 => ?_); clear hK K; simp; refine hK2 _ ?_; clear hK2 K2
  refine W.sdrw (fun K hK => ?_)
  simp (disch := omega) [gA, wrap_i64, wrap_u64, wrap_u32, Int.tdiv_eq_ediv_of_nonneg, Int.tmod_eq_emod_of_nonneg]
  refine callR (MulN_ret x.natAbs y.natAbs (by omega) (by omega) (Zabs zx) (Zabs zy)) ?_
  have e : ((x.natAbs : Int) * y.natAbs).toNat = x.natAbs * y.natAbs := by rw [← Int.natCast_mul]; exact Int.toNat_natCast _
  simp only [Dn, e]
  obtain ⟨m, hm⟩ : ∃ m, m = x.natAbs * y.natAbs := ⟨_, rfl⟩
  rw [← hm]
  simp (disch := omega) [gA, wrap_i64, wrap_u64, wrap_u32, Int.tdiv_eq_ediv_of_nonneg, Int.tmod_eq_emod_of_nonneg]
  refine callR (rmade_retN m (decide (x < 0) != decide (y < 0))) ?_
  have e2 := mul_signs x y
  rw [← hm] at e2
  rw [e2]
  simp (disch := omega) [gA, wrap_i64, wrap_u64, wrap_u32, Int.tdiv_eq_ediv_of_nonneg, Int.tmod_eq_emod_of_nonneg]
  refine hK _ (W.liveK [4] fun K2 hK2 => ?_); clear hK K; simp; refine hK2 _ ?_; clear hK2 K2
  refine W.ret ?_
  simp [go]

theorem rAdd_ret (x y : Int) (zx : Z x) (zy : Z y) : Ret env.P 120 [RI x, RI y] (RI (x + y)) := by
  refine ret_of_Wf (E := env) (fun _ => 0) [(0, RI x), (1, RI y)] Try.func120 rfl (by kernel_rfl) (by kernel_rfl) (show 2 ≤ 40 by decide) (by simp) ?_
  refine W.sreg (fun K hK => ?_); simp (disch := omega) [gA, wrap_i64, wrap_u64, wrap_u32, Int.tdiv_eq_ediv_of_nonneg, Int.tmod_eq_emod_of_nonneg]; refine hK _ (W.liveK [2, 3, 4] fun K2 hK2 => ?_); clear hK K; simp; refine hK2 _ ?_; clear hK2 K2
  refine W.seq ?_
  refine W.sreg (fun K hK => ?_); simp (disch := omega) [gA, wrap_i64, wrap_u64, wrap_u32, Int.tdiv_eq_ediv_of_nonneg, Int.tmod_eq_emod_of_nonneg]; refine hK _ (W.liveK [2, 3, 4, 9] fun K2 hK2 => ?_); clear hK K; simp; refine hK2 _ ?_; clear hK2 K2
  refine W.cond ⟨_, rfl, fun h => ?_, fun h => ?_⟩   -- t9
  · simp at h
    refine W.sdrw (fun K hK => ?_)
    simp (disch := omega) [gA, wrap_i64, wrap_u64, wrap_u32, Int.tdiv_eq_ediv_of_nonneg, Int.tmod_eq_emod_of_nonneg]
    refine callR (AddN_ret x.natAbs y.natAbs (by omega) (by omega) (Zabs zx) (Zabs zy)) ?_
    have e : ((x.natAbs : Int) + y.natAbs).toNat = x.natAbs + y.natAbs := by omega
    simp only [Dn, e]
    obtain ⟨m, hm⟩ : ∃ m, m = x.natAbs + y.natAbs := ⟨_, rfl⟩
    rw [← hm]
    simp (disch := omega) [gA, wrap_i64, wrap_u64, wrap_u32, Int.tdiv_eq_ediv_of_nonneg, Int.tmod_eq_emod_of_nonneg]
    refine callR (rmade_retN m _) ?_
    have e2 : (if decide (x < 0) = true then -(m : Int) else m) = x + y := by by_cases h1 : x < 0 <;> simp [h1] <;> omega
    rw [e2]
    simp (disch := omega) [gA, wrap_i64, wrap_u64, wrap_u32, Int.tdiv_eq_ediv_of_nonneg, Int.tmod_eq_emod_of_nonneg]
    refine hK _ (W.liveK [4] fun K2 hK2 => ?_); clear hK K; simp; refine hK2 _ ?_; clear hK2 K2
    refine W.ret ?_
    simp [go]
  · simp at h
    refine W.skip ?_
    refine W.seq ?_
    refine W.sreg (fun K hK => ?_)
    simp (disch := omega) [gA, wrap_i64, wrap_u64, wrap_u32, Int.tdiv_eq_ediv_of_nonneg, Int.tmod_eq_emod_of_nonneg]
    refine callR (CmpN_ret x.natAbs y.natAbs (by omega) (by omega) (Zabs zx) (Zabs zy)) ?_
    simp (disch := omega) [gA, wrap_i64, wrap_u64, wrap_u32, Int.tdiv_eq_ediv_of_nonneg, Int.tmod_eq_emod_of_nonneg]
    refine hK _ (W.liveK [2, 3, 4, 23] fun K2 hK2 => ?_); clear hK K; simp; refine hK2 _ ?_; clear hK2 K2
    refine W.cond ⟨_, rfl, fun h2 => ?_, fun h2 => ?_⟩   -- t23
    · have h2 : (y.natAbs : Int) ≤ x.natAbs := cmp3_nonneg.1 (of_decide_eq_true h2)
      refine W.sdrw (fun K hK => ?_)
      simp (disch := omega) [gA, wrap_i64, wrap_u64, wrap_u32, Int.tdiv_eq_ediv_of_nonneg, Int.tmod_eq_emod_of_nonneg]
      refine callR (SubN_ret x.natAbs y.natAbs (by omega) h2 (Zabs zx)) ?_
      have e : ((x.natAbs : Int) - y.natAbs).toNat = x.natAbs - y.natAbs := by omega
      simp only [Dn, e]
      obtain ⟨m, hm⟩ : ∃ m, m = x.natAbs - y.natAbs := ⟨_, rfl⟩
      rw [← hm]
      simp (disch := omega) [gA, wrap_i64, wrap_u64, wrap_u32, Int.tdiv_eq_ediv_of_nonneg, Int.tmod_eq_emod_of_nonneg]
      refine callR (rmade_retN m _) ?_
      have e2 : (if decide (x < 0) = true then -(m : Int) else m) = x + y := by by_cases h1 : x < 0 <;> simp [h1] <;> omega
      rw [e2]
      simp (disch := omega) [gA, wrap_i64, wrap_u64, wrap_u32, Int.tdiv_eq_ediv_of_nonneg, Int.tmod_eq_emod_of_nonneg]
      refine hK _ (W.liveK [4] fun K2 hK2 => ?_); clear hK K; simp; refine hK2 _ ?_; clear hK2 K2
      refine W.ret ?_
      simp [go]
    · have h2 : (x.natAbs : Int) < y.natAbs := by
        have h3 := of_decide_eq_false h2
        rw [cmp3_nonneg] at h3; omega
      refine W.skip ?_
      refine W.sdrw (fun K hK => ?_)
      simp (disch := omega) [gA, wrap_i64, wrap_u64, wrap_u32, Int.tdiv_eq_ediv_of_nonneg, Int.tmod_eq_emod_of_nonneg]
      refine callR (SubN_ret y.natAbs x.natAbs (by omega) (by omega) (Zabs zy)) ?_
      have e : ((y.natAbs : Int) - x.natAbs).toNat = y.natAbs - x.natAbs := by omega
      simp only [Dn, e]
      obtain ⟨m, hm⟩ : ∃ m, m = y.natAbs - x.natAbs := ⟨_, rfl⟩
      rw [← hm]
      simp (disch := omega) [gA, wrap_i64, wrap_u64, wrap_u32, Int.tdiv_eq_ediv_of_nonneg, Int.tmod_eq_emod_of_nonneg]
      refine callR (rmade_retN m _) ?_
      have e2 : (if decide (y < 0) = true then -(m : Int) else m) = x + y := by by_cases h1 : y < 0 <;> simp [h1] <;> omega
      rw [e2]
      simp (disch := omega) [gA, wrap_i64, wrap_u64, wrap_u32, Int.tdiv_eq_ediv_of_nonneg, Int.tmod_eq_emod_of_nonneg]
      refine hK _ (W.liveK [4] fun K2 hK2 => ?_); clear hK K; simp; refine hK2 _ ?_; clear hK2 K2
      refine W.ret ?_
      simp [go]
theorem Zneg {x : Int} (h : Z x) : Z (-x) := by simpa [Z, sz_neg] using h
theorem rSub_ret (x y : Int) (zx : Z x) (zy : Z y) : Ret env.P 100 [RI x, RI y] (RI (x - y)) := by
  have hn := rNeg_ret y
  have zn := Zneg zy
  obtain ⟨m, hm⟩ : ∃ m, m = -y := ⟨_, rfl⟩
  rw [← hm] at hn zn
  have e : x - y = x + m := by omega
  rw [e]
  refine ret_of_Wf (E := env) (fun _ => 0) [(0, RI x), (1, RI y)] Try.func100 rfl (by kernel_rfl) (by kernel_rfl) (show 2 ≤ 9 by decide) (by simp) ?_
  refine W.sreg (fun K hK => ?_); simp (disch := omega) [gA, wrap_i64, wrap_u64, wrap_u32, Int.tdiv_eq_ediv_of_nonneg, Int.tmod_eq_emod_of_nonneg]; refine hK _ (W.liveK [2, 3, 4] fun K2 hK2 => ?_); clear hK K; simp; refine hK2 _ ?_; clear hK2 K2
  refine W.sdrw (fun K hK => ?_)
  simp (disch := omega) [gA, wrap_i64, wrap_u64, wrap_u32, Int.tdiv_eq_ediv_of_nonneg, Int.tmod_eq_emod_of_nonneg]
  refine callR hn ?_
  simp (disch := omega) [gA, wrap_i64, wrap_u64, wrap_u32, Int.tdiv_eq_ediv_of_nonneg, Int.tmod_eq_emod_of_nonneg]
  refine callR (rAdd_ret x m zx zn) ?_
  simp (disch := omega) [gA, wrap_i64, wrap_u64, wrap_u32, Int.tdiv_eq_ediv_of_nonneg, Int.tmod_eq_emod_of_nonneg]
  refine hK _ (W.liveK [4] fun K2 hK2 => ?_); clear hK K; simp; refine hK2 _ ?_; clear hK2 K2
  refine W.ret ?_
  simp [go]
theorem sign_cmp3 (x y : Int) : (x - y).sign = cmp3 x y := by
  rcases Int.lt_trichotomy x y with h | h | h
  · rw [cmp3_lt h, Int.sign_eq_neg_one_of_neg (by omega)]
  · subst h; simp [cmp3_eq]
  · rw [cmp3_gt h, Int.sign_eq_one_of_pos (by omega)]
theorem rCmp_ret (x y : Int) (zx : Z x) (zy : Z y) : Ret env.P 50 [RI x, RI y] (.int .i64 (cmp3 x y)) := by
  refine ret_of_Wf (E := env) (fun _ => 0) [(0, RI x), (1, RI y)] Try.func50 rfl (by kernel_rfl) (by kernel_rfl) (show 2 ≤ 9 by decide) (by simp) ?_
  refine W.sreg (fun K hK => ?_); simp (disch := omega) [gA, wrap_i64, wrap_u64, wrap_u32, Int.tdiv_eq_ediv_of_nonneg, Int.tmod_eq_emod_of_nonneg]; refine hK _ (W.liveK [2, 3] fun K2 hK2 => ?_); clear hK K; simp; refine hK2 _ ?_; clear hK2 K2
  refine W.sreg (fun K hK => ?_)
  simp (disch := omega) [gA, wrap_i64, wrap_u64, wrap_u32, Int.tdiv_eq_ediv_of_nonneg, Int.tmod_eq_emod_of_nonneg]
  refine callR (rSub_ret x y zx zy) ?_
  simp (disch := omega) [gA, wrap_i64, wrap_u64, wrap_u32, Int.tdiv_eq_ediv_of_nonneg, Int.tmod_eq_emod_of_nonneg]
  refine callR (rSign_ret (x - y)) ?_
  rw [sign_cmp3]
  simp (disch := omega) [gA, wrap_i64, wrap_u64, wrap_u32, Int.tdiv_eq_ediv_of_nonneg, Int.tmod_eq_emod_of_nonneg]
  refine hK _ (W.liveK [4] fun K2 hK2 => ?_); clear hK K; simp; refine hK2 _ ?_; clear hK2 K2
  refine W.ret ?_
  simp [go]

theorem rSame_ret (x : Int) (n : Bool) (l : List Int) (zx : Z x) (hl : l.length < 1099511627776) : Ret env.P 45 [RI x, IV n l] (.bool (decide (n = decide (x < 0) ∧ l = dig LL x.natAbs))) := by
  have hln : (dig LL x.natAbs).length ≤ sz 2 x := sz_base hLL x
  refine ret_of_Wf (E := env) (fun _ => 0) [(0, RI x), (1, IV n l)] Try.func45 rfl (by kernel_rfl) (by kernel_rfl) (show 2 ≤ 39 by decide) (by simp) ?_
  refine W.sreg (fun K hK => ?_); simp (disch := omega) [gA, wrap_i64, wrap_u64, wrap_u32, Int.tdiv_eq_ediv_of_nonneg, Int.tmod_eq_emod_of_nonneg]; refine hK _ (W.liveK [2, 3] fun K2 hK2 => ?_); clear hK K; simp; refine hK2 _ ?_; clear hK2 K2
  refine W.sreg (fun K hK => ?_)
  simp (disch := omega) [gA, wrap_i64, wrap_u64, wrap_u32, Int.tdiv_eq_ediv_of_nonneg, Int.tmod_eq_emod_of_nonneg]
  refine callR (ToN_ret x.natAbs (Zabs zx)) ?_
  simp (disch := omega) [gA, wrap_i64, wrap_u64, wrap_u32, Int.tdiv_eq_ediv_of_nonneg, Int.tmod_eq_emod_of_nonneg]
  generalize dig LL x.natAbs = m at *
  refine hK _ (W.liveK [2, 3, 5] fun K2 hK2 => ?_); clear hK K; simp; refine hK2 _ ?_; clear hK2 K2
  refine W.seq ?_
  refine W.sregJ (fun σ => ∃ (b : Bool) (rows : Pm.Rows) (clk : Nat), σ = ⟨fa [(3, .ptr 3 1 0 0), (5, us m), (22, .bool b)], rows, clk⟩ ∧ (b = true ↔ ¬ (n = decide (x < 0) ∧ l.length = m.length)) ∧ rows 3 = some ⟨1, 68, 2, [[.bool n, us l]]⟩) (fun K hK => ?_) ?_
  · simp
    cases n <;> by_cases h1 : x < 0
    all_goals
      simp (disch := omega) [gA, wrap_i64, wrap_u64, wrap_u32, Int.tdiv_eq_ediv_of_nonneg, Int.tmod_eq_emod_of_nonneg, h1]
      refine hK _ _ (Gh_fa _ [3, 5, 22]) ⟨_, _, _, rfl, ?_, by simp⟩
      simp [h1]
    all_goals omega
  rintro _ ⟨b, rows, clk, rfl, hb, hr3⟩
  refine W.cond ⟨_, rfl, fun h => ?_, fun h => ?_⟩   -- t22
  · have hb := hb.1 h
    have e : ¬ (n = decide (x < 0) ∧ l = m) := fun h2 => hb ⟨h2.1, by rw [h2.2]⟩
    refine W.sreg (fun K hK => ?_); simp (disch := omega) [gA, wrap_i64, wrap_u64, wrap_u32, Int.tdiv_eq_ediv_of_nonneg, Int.tmod_eq_emod_of_nonneg]; refine hK _ (W.liveK [4] fun K2 hK2 => ?_); clear hK K; simp; refine hK2 _ ?_; clear hK2 K2
    refine W.ret ?_
    simp [go, e]
  · have hb : n = decide (x < 0) ∧ l.length = m.length := Classical.byContradiction fun h2 => by simp [hb.2 h2] at h
    refine W.skip ?_
    refine W.seq ?_
    refine W.sreg (fun K hK => ?_); simp (disch := omega) [gA, wrap_i64, wrap_u64, wrap_u32, Int.tdiv_eq_ediv_of_nonneg, Int.tmod_eq_emod_of_nonneg]; refine hK _ (W.liveK [3, 5, 24, 25] fun K2 hK2 => ?_); clear hK K; simp; refine hK2 _ ?_; clear hK2 K2
    refine W.block ?_   -- block 0
    refine W.loopG (fun k σ => ∃ (i : Nat) (rows : Pm.Rows) (clk : Nat), σ = ⟨fa [(3, .ptr 3 1 0 0), (5, us m), (24, .int .i64 m.length), (25, .int .i64 i)], rows, clk⟩ ∧ rows 3 = some ⟨1, 68, 2, [[.bool n, us l]]⟩ ∧ k = m.length - i ∧ i ≤ m.length ∧ l.take i = m.take i) m.length ?_ ?_
    · exact ⟨_, .refl, 0, _, _, rfl, by simpa using hr3, by omega, by omega, by simp⟩
    rintro k _ ⟨i, rows, clk, rfl, hr3, hk, hi, hI⟩
    refine W.sreg (fun K hK => ?_); simp (disch := omega) [gA, wrap_i64, wrap_u64, wrap_u32, Int.tdiv_eq_ediv_of_nonneg, Int.tmod_eq_emod_of_nonneg]; refine hK _ (W.liveK [3, 5, 24, 25, 26] fun K2 hK2 => ?_); clear hK K; simp; refine hK2 _ ?_; clear hK2 K2
    refine W.seq ?_
    refine W.cond ⟨_, rfl, fun h => ?_, fun h => ?_⟩   -- t26
    · simp at h
      refine W.skip ?_
      refine W.seq ?_
      refine W.block ?_   -- block 1
      refine W.sreg (fun K hK => ?_); simp (disch := omega) [gA, wrap_i64, wrap_u64, wrap_u32, Int.tdiv_eq_ediv_of_nonneg, Int.tmod_eq_emod_of_nonneg]; refine hK _ (W.liveK [3, 5, 6, 24, 25] fun K2 hK2 => ?_); clear hK K; simp; refine hK2 _ ?_; clear hK2 K2
      refine W.sdrw (fun K hK => ?_); simp (disch := omega) [gA, wrap_i64, wrap_u64, wrap_u32, Int.tdiv_eq_ediv_of_nonneg, Int.tmod_eq_emod_of_nonneg, hr3]
      refine hK _ (W.liveK [3, 5, 24, 25, 37] fun K2 hK2 => ?_); clear hK K; simp; refine hK2 _ ?_; clear hK2 K2
      refine W.cond ⟨_, rfl, fun h2 => ?_, fun h2 => ?_⟩   -- t37
      · have h2 : nth m i ≠ nth l i := by simpa using h2
        have e : ¬ (n = decide (x < 0) ∧ l = m) := fun h3 => h2 (by rw [h3.2])
        refine W.sreg (fun K hK => ?_); simp (disch := omega) [gA, wrap_i64, wrap_u64, wrap_u32, Int.tdiv_eq_ediv_of_nonneg, Int.tmod_eq_emod_of_nonneg]; refine hK _ (W.liveK [4] fun K2 hK2 => ?_); clear hK K; simp; refine hK2 _ ?_; clear hK2 K2
        refine W.ret ?_
        simp [go, e]
      · have h2 : nth m i = nth l i := by simpa using h2
        refine W.skip ?_
        refine W.reg (fun K hK => ?_); simp (disch := omega) [gA, wrap_i64, wrap_u64, wrap_u32, Int.tdiv_eq_ediv_of_nonneg, Int.tmod_eq_emod_of_nonneg]
        refine hK _ ⟨m.length - (i + 1), _, Gh_fa _ [3, 5, 24, 25], by omega, i + 1, _, _, rfl, by simp [hr3], by omega, by omega, ?_⟩
        rw [take_succ_nth (by omega), take_succ_nth h, hI, h2]
    · simp at h
      have hi' : i = m.length := by omega
      subst hi'
      rw [List.take_of_length_le (by omega), List.take_of_length_le (by omega)] at hI
      refine W.exit ?_; simp only [pblk_exit, pblk_normal, pblk_ret, pseq_exit, pseq_normal, pseq_ret, pnor_exit, pnor_normal, pnor_ret, if_true, if_false, reduceIte, Nat.reduceEqDiff]
      refine W.sreg (fun K hK => ?_); simp (disch := omega) [gA, wrap_i64, wrap_u64, wrap_u32, Int.tdiv_eq_ediv_of_nonneg, Int.tmod_eq_emod_of_nonneg]; refine hK _ (W.liveK [4] fun K2 hK2 => ?_); clear hK K; simp; refine hK2 _ ?_; clear hK2 K2
      refine W.ret ?_
      simp [go, hb, hI]
end Go.Proofs.Ytjnkpfknmncdmaa
