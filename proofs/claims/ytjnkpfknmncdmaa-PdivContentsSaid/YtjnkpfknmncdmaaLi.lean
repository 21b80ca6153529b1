import Derived.Test.YtjnkpfknmncdmaaLh
set_option linter.unusedSimpArgs false
set_option linter.unusedVariables false
namespace Go.Proofs.Ytjnkpfknmncdmaa
open Go Pm

theorem pMul_ret (a b : List (Bool × List Int)) (ha : POK a) (hb : POK b) (s s' n n' : Nat) (hs : Bd LL s n (a.map gv)) (hs' : Bd LL s' n' (b.map gv)) (hB : s + s' + n + n' < 1099511627775) :
    Ret env.P 26 [Pg a, Pg b] (Po (pmul (a.map gv) (b.map gv))) := by
  refine ret_of_Wf (E := env) (fun id => if id = 11 then 1 else 0) [(0, Pg a), (1, Pg b)] Try.func26 rfl (by kernel_rfl) (by kernel_rfl) (show 2 ≤ 62 by decide) (by simp) ?_
  refine W.sreg (fun K hK => ?_)
  simp (disch := omega) [gA, wrap_i64, wrap_u64, wrap_u32, Int.tdiv_eq_ediv_of_nonneg, Int.tmod_eq_emod_of_nonneg]
  refine hK _ (W.liveK [0, 1] fun K2 hK2 => ?_); clear hK K; simp; refine hK2 _ ?_; clear hK2 K2
  refine W.sreg (fun K hK => ?_)
  simp (disch := omega) [gA, wrap_i64, wrap_u64, wrap_u32, Int.tdiv_eq_ediv_of_nonneg, Int.tmod_eq_emod_of_nonneg]
  refine callR (pNorm_ret a ha) ?_
  simp (disch := omega) [gA, wrap_i64, wrap_u64, wrap_u32, Int.tdiv_eq_ediv_of_nonneg, Int.tmod_eq_emod_of_nonneg]
  refine callR (pNorm_ret b hb) ?_
  simp (disch := omega) [gA, wrap_i64, wrap_u64, wrap_u32, Int.tdiv_eq_ediv_of_nonneg, Int.tmod_eq_emod_of_nonneg]
  refine hK _ (W.liveK [0, 1] fun K2 hK2 => ?_); clear hK K; simp; refine hK2 _ ?_; clear hK2 K2
  have e : pmul (a.map gv) (b.map gv) = pmul (cutR (a.map gv)) (cutR (b.map gv)) := Cn.ext (Cn.pmul _ _) (Cn.pmul _ _) fun t => by simp [V_pmul, V_cutR]
  rw [e]
  replace hs := hs.cut
  replace hs' := hs'.cut
  clear e ha hb
  generalize cutR (a.map gv) = x at *
  generalize cutR (b.map gv) = y at *
  have hlx := hs.len; have hly := hs'.len
  refine W.seq ?_
  refine W.sregJ (fun σ => ∃ (b : Bool), σ = ⟨fa [(0, Po x), (1, Po y), (21, .bool b)], fun _ => none, 0⟩ ∧ (b = true ↔ x = [] ∨ y = [])) (fun K hK => ?_) ?_
  · simp
    have e1 : ((x.length : Int) == 0) = decide (x = []) := by
      cases x <;> simp <;> omega
    have e2 : ((y.length : Int) == 0) = decide (y = []) := by
      cases y <;> simp <;> omega
    rw [e1]
    by_cases h0 : x = []
    · have e3 : decide (x = []) = true := by simp [h0]
      rw [e3]
      simp
      exact hK _ _ (Gh_fa _ [0, 1, 21]) ⟨_, rfl, by simp [h0]⟩
    · have e3 : decide (x = []) = false := by simp [h0]
      rw [e3]
      simp
      exact hK _ _ (Gh_fa _ [0, 1, 21]) ⟨_, rfl, by rw [e2]; simp [h0]⟩
  rintro _ ⟨b, rfl, hb⟩
  refine W.cond ⟨_, rfl, fun h => ?_, fun h => ?_⟩   -- t21
  · have e : pmul x y = [] := by
      have h1 := hb.1 h
      refine Cn.ext (Cn.pmul _ _) Cn.nil fun t => ?_
      rw [V_pmul]
      rcases h1 with rfl | rfl <;> simp [V]
    refine W.sreg (fun K hK => ?_)
    simp (disch := omega) [gA, wrap_i64, wrap_u64, wrap_u32, Int.tdiv_eq_ediv_of_nonneg, Int.tmod_eq_emod_of_nonneg]
    refine hK _ (W.liveK [4] fun K2 hK2 => ?_); clear hK K; simp; refine hK2 _ ?_; clear hK2 K2
    refine W.ret ?_
    simp [go, e]
    rfl
  · have h1 : ¬ (x = [] ∨ y = []) := fun h2 => by simp [hb.2 h2] at h
    have hx0 : 0 < x.length := List.length_pos_iff.2 fun h2 => h1 (.inl h2)
    have hy0 : 0 < y.length := List.length_pos_iff.2 fun h2 => h1 (.inr h2)
    clear h hb h1
    refine W.skip ?_
    refine W.sreg (fun K hK => ?_)
    simp (disch := omega) [gA, wrap_i64, wrap_u64, wrap_u32, Int.tdiv_eq_ediv_of_nonneg, Int.tmod_eq_emod_of_nonneg]
    refine hK _ (W.liveK [0, 1, 5] fun K2 hK2 => ?_); clear hK K; simp; refine hK2 _ ?_; clear hK2 K2
    have e0 : ((x.length : Int) + (y.length : Int) - 1).toNat = x.length + y.length - 1 := by omega
    refine W.row (id := 28) (emap ie (List.replicate (x.length + y.length - 1) 0)) (by simp; exact ⟨rfl, rfl, rfl, by omega⟩) (row_ie _) ?_
    refine W.seq ?_
    refine W.sreg (fun K hK => ?_)
    simp (disch := omega) [gA, wrap_i64, wrap_u64, wrap_u32, Int.tdiv_eq_ediv_of_nonneg, Int.tmod_eq_emod_of_nonneg]
    refine hK _ (W.liveK [1, 5, 29, 30, 31] fun K2 hK2 => ?_); clear hK K; simp; refine hK2 _ ?_; clear hK2 K2
    refine W.block ?_   -- block 0
    refine W.loopG (fun k σ => ∃ (i : Nat) (z : List Int) (ver : Nat) (rows : Pm.Rows) (clk : Nat), σ = ⟨fa [(1, Po y), (5, .own 28 ver 0 (x.length + y.length - 1)), (29, Po x), (30, .int .i64 x.length), (31, .int .i64 i)], rows, clk⟩ ∧
      rows 28 = some ⟨ver, 68, 2, emap ie z⟩ ∧ k = x.length - i ∧ i ≤ x.length ∧ z.length = x.length + y.length - 1 ∧ (∀ j, sz LL (nth z j) ≤ s + s' + i) ∧
      ∀ t, V t z = V t (x.take i) * V t y) x.length ?_ ?_
    · refine ⟨_, .refl, 0, List.replicate (x.length + y.length - 1) 0, _, _, _, rfl, by simp, by omega, by omega, by simp, fun j => ?_, fun t => by simp [V, V_rep]⟩
      · have : Bd LL 0 (x.length + y.length - 1) (List.replicate (x.length + y.length - 1) 0) := ⟨by simp, fun c hc => by rw [(List.mem_replicate.1 hc).2, sz_zero]; omega⟩
        have := this.nth j
        omega
    rintro k _ ⟨i, z, ver, rows, clk, rfl, hr, hk, hi, hz, hzs, hV⟩
    refine W.sreg (fun K hK => ?_)
    simp (disch := omega) [gA, wrap_i64, wrap_u64, wrap_u32, Int.tdiv_eq_ediv_of_nonneg, Int.tmod_eq_emod_of_nonneg]
    refine hK _ (W.liveK [1, 5, 29, 30, 31, 32] fun K2 hK2 => ?_); clear hK K; simp; refine hK2 _ ?_; clear hK2 K2
    refine W.seq ?_
    refine W.cond ⟨_, rfl, fun h => ?_, fun h => ?_⟩   -- t32
    · simp at h
      refine W.skip ?_
      refine W.seq ?_
      refine W.block ?_   -- block 1
      refine W.sreg (fun K hK => ?_)
      simp (disch := omega) [gA, wrap_i64, wrap_u64, wrap_u32, Int.tdiv_eq_ediv_of_nonneg, Int.tmod_eq_emod_of_nonneg]
      refine hK _ (W.liveK [1, 5, 6, 7, 29, 30, 31] fun K2 hK2 => ?_); clear hK K; simp; refine hK2 _ ?_; clear hK2 K2
      refine W.sreg (fun K hK => ?_)
      simp (disch := omega) [gA, wrap_i64, wrap_u64, wrap_u32, Int.tdiv_eq_ediv_of_nonneg, Int.tmod_eq_emod_of_nonneg]
      refine hK _ (W.liveK [1, 5, 6, 7, 29, 30, 31, 36, 37, 38] fun K2 hK2 => ?_); clear hK K; simp; refine hK2 _ ?_; clear hK2 K2
      refine W.block ?_   -- block 2
      refine W.loopG (fun m σ => ∃ (k : Nat) (z : List Int) (ver v7 : Nat) (rows : Pm.Rows) (clk : Nat), σ = ⟨fa [(1, Po y), (5, .own 28 ver 0 (x.length + y.length - 1)), (6, .int .i64 i), (7, .ptr 7 v7 0 0), (29, Po x), (30, .int .i64 x.length), (31, .int .i64 i), (36, Po y), (37, .int .i64 y.length), (38, .int .i64 k)], rows, clk⟩ ∧
        rows 28 = some ⟨ver, 68, 2, emap ie z⟩ ∧ rows 7 = some ⟨v7, 68, 2, [ie (nth x i)]⟩ ∧ m = y.length - k ∧ k ≤ y.length ∧ z.length = x.length + y.length - 1 ∧ (∀ j, sz LL (nth z j) ≤ s + s' + i + 1) ∧ (∀ j, i + k ≤ j → sz LL (nth z j) ≤ s + s' + i) ∧
        ∀ t, V t z = V t (x.take i) * V t y + t ^ i * nth x i * V t (y.take k)) y.length ?_ ?_
      · refine ⟨_, .refl, 0, z, ver, _, _, _, rfl, by simpa using hr, by simp, by omega, by omega, hz, fun j => by have := hzs j; omega, fun j _ => hzs j, fun t => by simp [V, hV]⟩
      clear hV hzs hz hr z ver rows clk
      rintro m _ ⟨k, z, ver, v7, rows, clk, rfl, hr, hr7, hm, hky, hz, hzs, hzs2, hV⟩
      refine W.sreg (fun K hK => ?_)
      simp (disch := omega) [gA, wrap_i64, wrap_u64, wrap_u32, Int.tdiv_eq_ediv_of_nonneg, Int.tmod_eq_emod_of_nonneg]
      refine hK _ (W.liveK [1, 5, 6, 7, 29, 30, 31, 36, 37, 38, 39] fun K2 hK2 => ?_); clear hK K; simp; refine hK2 _ ?_; clear hK2 K2
      refine W.seq ?_
      refine W.cond ⟨_, rfl, fun h2 => ?_, fun h2 => ?_⟩   -- t39
      · simp at h2
        refine W.skip ?_
        refine W.seq ?_
        refine W.block ?_   -- block 3
        refine W.sreg (fun K hK => ?_)
        simp (disch := omega) [gA, wrap_i64, wrap_u64, wrap_u32, Int.tdiv_eq_ediv_of_nonneg, Int.tmod_eq_emod_of_nonneg]
        refine hK _ (W.liveK [1, 5, 6, 7, 8, 9, 29, 30, 31, 36, 37, 38] fun K2 hK2 => ?_); clear hK K; simp; refine hK2 _ ?_; clear hK2 K2
        have e1 : ((i : Int) + (k : Int)).toNat = i + k := by omega
        refine W.drw (fun K hK => ?_)
        simp only [if_true]
        rw [pregion_tail]
        simp (disch := omega) [gA, wrap_i64, wrap_u64, wrap_u32, Int.tdiv_eq_ediv_of_nonneg, Int.tmod_eq_emod_of_nonneg, hr, hr7, e1]
        refine callR (wMulI (Nat.lt_of_le_of_lt (hs.nth i) (by omega)) (Nat.lt_of_le_of_lt (hs'.nth k) (by omega))) ?_
        simp (disch := omega) [gA, wrap_i64, wrap_u64, wrap_u32, Int.tdiv_eq_ediv_of_nonneg, Int.tmod_eq_emod_of_nonneg, hr, hr7, e1]
        have hm1 : sz LL (nth x i * nth y k) ≤ s + s' + i := Nat.le_trans (sz_mul hLL (hs.nth i) (hs'.nth k)) (by omega)
        have hm2 := sz_add hLL (hzs2 (i + k) (Nat.le_refl _)) hm1
        have hlz : i + k < z.length := by omega
        refine callR (wAddI (Nat.lt_of_le_of_lt (hzs2 (i + k) (Nat.le_refl _)) (by omega)) (Nat.lt_of_le_of_lt hm1 (by omega))) ?_
        simp (disch := omega) [gA, wrap_i64, wrap_u64, wrap_u32, Int.tdiv_eq_ediv_of_nonneg, Int.tmod_eq_emod_of_nonneg, hr, hr7, e1]
        refine hK _ (W.liveK [1, 5, 6, 7, 29, 30, 31, 36, 37, 38] fun K2 hK2 => ?_); clear hK K; simp; refine hK2 _ ?_; clear hK2 K2
        refine W.reg (fun K hK => ?_)
        simp (disch := omega) [gA, wrap_i64, wrap_u64, wrap_u32, Int.tdiv_eq_ediv_of_nonneg, Int.tmod_eq_emod_of_nonneg]
        refine hK _ ⟨y.length - (k + 1), _, Gh_fa _ [1, 5, 6, 7, 29, 30, 31, 36, 37, 38], by omega, k + 1, z.set (i + k) (nth z (i + k) + nth x i * nth y k), ver, v7, _, _, rfl, by simp, by simp [hr7], by omega, by omega, by simpa using hz, fun j => ?_, fun j hj => ?_, fun t => ?_⟩
        · by_cases hj : i + k = j
          · subst hj; rw [nth_set_self hlz]; exact hm2
          · rw [nth_set_ne hj]; exact hzs j
        · rw [nth_set_ne (by omega)]; exact hzs2 j (by omega)
        · rw [V_set hlz, V_take_succ h2, hV, Int.pow_add]; grind
      · simp at h2
        have hk' : k = y.length := by omega
        subst hk'
        refine W.exit ?_; simp only [pblk_exit, pblk_normal, pblk_ret, pseq_exit, pseq_normal, pseq_ret, pnor_exit, pnor_normal, pnor_ret, if_true, if_false, reduceIte, Nat.reduceEqDiff]
        refine W.reg (fun K hK => ?_)
        simp (disch := omega) [gA, wrap_i64, wrap_u64, wrap_u32, Int.tdiv_eq_ediv_of_nonneg, Int.tmod_eq_emod_of_nonneg]
        refine hK _ ⟨x.length - (i + 1), _, Gh_fa _ [1, 5, 29, 30, 31], by omega, i + 1, z, ver, _, _, rfl, hr, by omega, by omega, hz, fun j => by have := hzs j; omega, fun t => ?_⟩
        rw [hV, V_take_all (Nat.le_refl _), V_take_succ h]; grind
    · simp at h
      have hi' : i = x.length := by omega
      subst hi'
      refine W.exit ?_; simp only [pblk_exit, pblk_normal, pblk_ret, pseq_exit, pseq_normal, pseq_ret, pnor_exit, pnor_normal, pnor_ret, if_true, if_false, reduceIte, Nat.reduceEqDiff]
      have hz2 := take_all hz
      refine W.sreg (fun K hK => ?_)
      simp (disch := omega) [gA, wrap_i64, wrap_u64, wrap_u32, Int.tdiv_eq_ediv_of_nonneg, Int.tmod_eq_emod_of_nonneg, hr, hz2]
      refine callR (pcut_ret z (by omega)) ?_
      simp (disch := omega) [gA, wrap_i64, wrap_u64, wrap_u32, Int.tdiv_eq_ediv_of_nonneg, Int.tmod_eq_emod_of_nonneg]
      refine hK _ (W.liveK [4] fun K2 hK2 => ?_); clear hK K; simp; refine hK2 _ ?_; clear hK2 K2
      refine W.ret ?_
      have e : cutR z = pmul x y := by
        refine Cn.ext (Cn.cut _) (Cn.pmul _ _) fun t => ?_
        rw [V_cutR, hV, V_pmul, V_take_all (Nat.le_refl _)]
      simp [go, e]
end Go.Proofs.Ytjnkpfknmncdmaa
