import Derived.Test.YtjnkpfknmncdmaaLj
set_option linter.unusedSimpArgs false
set_option linter.unusedVariables false
namespace Go.Proofs.Ytjnkpfknmncdmaa
open Go Pm

theorem cmp3_sign {x y : Int} (h : x.sign < y.sign) : cmp3 x y = -1 := by
  apply cmp3_lt
  rcases Int.lt_trichotomy x 0 with h1 | h1 | h1 <;> rcases Int.lt_trichotomy y 0 with h2 | h2 | h2 <;> first | omega | (simp [Int.sign_eq_neg_one_of_neg, Int.sign_eq_one_of_pos, h1, h2] at h)
theorem cmp3_sign' {x y : Int} (h : y.sign < x.sign) : cmp3 x y = 1 := by
  apply cmp3_gt
  rcases Int.lt_trichotomy x 0 with h1 | h1 | h1 <;> rcases Int.lt_trichotomy y 0 with h2 | h2 | h2 <;> first | omega | (simp [Int.sign_eq_neg_one_of_neg, Int.sign_eq_one_of_pos, h1, h2] at h)
theorem cmp3_neg_neg (x y : Int) : cmp3 (-x) (-y) = cmp3 y x := by simp only [cmp3]; split <;> split <;> (try split) <;> (try split) <;> omega

theorem wCmp_ret (n m : Bool) (l k : List Int) (h : LOK l) (h' : LOK k) : Ret env.P 54 [IV n l, IV m k] (.int .i64 (cmp3 (iv n l) (iv m k))) := by
  refine ret_of_Wf (E := env) (fun _ => 0) [(0, IV n l), (1, IV m k)] Try.func54 rfl (by kernel_rfl) (by kernel_rfl) (show 2 ≤ 32 by decide) (by simp) ?_
  have p1 := V_pos h; have p2 := V_pos h'
  refine W.sreg (fun K hK => ?_)
  simp (disch := omega) [gA, wrap_i64, wrap_u64, wrap_u32, Int.tdiv_eq_ediv_of_nonneg, Int.tmod_eq_emod_of_nonneg]
  refine hK _ (W.liveK [2, 3] fun K2 hK2 => ?_); clear hK K; simp; refine hK2 _ ?_; clear hK2 K2
  refine W.sdrw (fun K hK => ?_)
  simp (disch := omega) [gA, wrap_i64, wrap_u64, wrap_u32, Int.tdiv_eq_ediv_of_nonneg, Int.tmod_eq_emod_of_nonneg]
  refine callR (sign_ret n l h) ?_
  simp (disch := omega) [gA, wrap_i64, wrap_u64, wrap_u32, Int.tdiv_eq_ediv_of_nonneg, Int.tmod_eq_emod_of_nonneg]
  refine callR (sign_ret m k h') ?_
  simp (disch := omega) [gA, wrap_i64, wrap_u64, wrap_u32, Int.tdiv_eq_ediv_of_nonneg, Int.tmod_eq_emod_of_nonneg]
  refine hK _ (W.liveK [2, 3, 5, 6] fun K2 hK2 => ?_); clear hK K; simp; refine hK2 _ ?_; clear hK2 K2
  refine W.seq ?_
  refine W.block ?_   -- block 0
  refine W.sreg (fun K hK => ?_)
  simp (disch := omega) [gA, wrap_i64, wrap_u64, wrap_u32, Int.tdiv_eq_ediv_of_nonneg, Int.tmod_eq_emod_of_nonneg]
  refine hK _ (W.liveK [2, 3, 5, 6, 11] fun K2 hK2 => ?_); clear hK K; simp; refine hK2 _ ?_; clear hK2 K2
  refine W.cond ⟨_, rfl, fun h1 => ?_, fun h1 => ?_⟩   -- t11
  · refine W.sreg (fun K hK => ?_)
    simp (disch := omega) [gA, wrap_i64, wrap_u64, wrap_u32, Int.tdiv_eq_ediv_of_nonneg, Int.tmod_eq_emod_of_nonneg]
    refine hK _ (W.liveK [4] fun K2 hK2 => ?_); clear hK K; simp; refine hK2 _ ?_; clear hK2 K2
    refine W.ret ?_
    simp [go, cmp3_sign (of_decide_eq_true h1)]
  · have h1 := of_decide_eq_false h1
    refine W.sreg (fun K hK => ?_)
    simp (disch := omega) [gA, wrap_i64, wrap_u64, wrap_u32, Int.tdiv_eq_ediv_of_nonneg, Int.tmod_eq_emod_of_nonneg]
    refine hK _ (W.liveK [2, 3, 5, 15] fun K2 hK2 => ?_); clear hK K; simp; refine hK2 _ ?_; clear hK2 K2
    refine W.cond ⟨_, rfl, fun h2 => ?_, fun h2 => ?_⟩   -- t15
    · refine W.sreg (fun K hK => ?_)
      simp (disch := omega) [gA, wrap_i64, wrap_u64, wrap_u32, Int.tdiv_eq_ediv_of_nonneg, Int.tmod_eq_emod_of_nonneg]
      refine hK _ (W.liveK [4] fun K2 hK2 => ?_); clear hK K; simp; refine hK2 _ ?_; clear hK2 K2
      refine W.ret ?_
      simp [go, cmp3_sign' (of_decide_eq_true h2)]
    · have h2 := of_decide_eq_false h2
      have h3 : (iv n l).sign = (iv m k).sign := by omega
      refine W.sreg (fun K hK => ?_)
      simp (disch := omega) [gA, wrap_i64, wrap_u64, wrap_u32, Int.tdiv_eq_ediv_of_nonneg, Int.tmod_eq_emod_of_nonneg]
      refine hK _ (W.liveK [2, 3, 19] fun K2 hK2 => ?_); clear hK K; simp; refine hK2 _ ?_; clear hK2 K2
      refine W.cond ⟨_, rfl, fun h4 => ?_, fun h4 => ?_⟩   -- t19
      · have h4 : iv n l < 0 := by simpa using of_decide_eq_true h4
        have h5 : iv m k < 0 := by
          rw [Int.sign_eq_neg_one_of_neg h4] at h3
          exact Int.sign_eq_neg_one_iff_neg.1 h3.symm
        have en : n = true := by cases n; (· simp [iv] at h4; omega); rfl
        have em : m = true := by cases m; (· simp [iv] at h5; omega); rfl
        subst en; subst em
        refine W.sreg (fun K hK => ?_)
        simp (disch := omega) [gA, wrap_i64, wrap_u64, wrap_u32, Int.tdiv_eq_ediv_of_nonneg, Int.tmod_eq_emod_of_nonneg]
        refine callR (Cmp_ret k l h'.len h.len h'.lim h.lim) ?_
        simp (disch := omega) [gA, wrap_i64, wrap_u64, wrap_u32, Int.tdiv_eq_ediv_of_nonneg, Int.tmod_eq_emod_of_nonneg]
        refine hK _ (W.liveK [4] fun K2 hK2 => ?_); clear hK K; simp; refine hK2 _ ?_; clear hK2 K2
        refine W.ret ?_
        simp [go, iv, cmp3_neg_neg]
      · have h4 : 0 ≤ iv n l := by simpa using of_decide_eq_false h4
        have e1 : iv n l = V 4294967296 l := by
          cases n
          · simp [iv]
          · simp [iv] at h4 ⊢; omega
        have h5 : 0 ≤ iv m k := by
          have : 0 ≤ (iv n l).sign := Int.sign_nonneg_iff.2 h4
          rw [h3] at this
          exact Int.sign_nonneg_iff.1 this
        have e2 : iv m k = V 4294967296 k := by
          cases m
          · simp [iv]
          · simp [iv] at h5 ⊢; omega
        refine W.skip ?_
        refine W.sreg (fun K hK => ?_)
        simp (disch := omega) [gA, wrap_i64, wrap_u64, wrap_u32, Int.tdiv_eq_ediv_of_nonneg, Int.tmod_eq_emod_of_nonneg]
        refine callR (Cmp_ret l k h.len h'.len h.lim h'.lim) ?_
        simp (disch := omega) [gA, wrap_i64, wrap_u64, wrap_u32, Int.tdiv_eq_ediv_of_nonneg, Int.tmod_eq_emod_of_nonneg]
        refine hK _ (W.liveK [4] fun K2 hK2 => ?_); clear hK K; simp; refine hK2 _ ?_; clear hK2 K2
        refine W.ret ?_
        simp [go, e1, e2]
theorem wCmpI {x y : Int} (hx : Sz x) (hy : Sz y) : Ret env.P 54 [I x, I y] (.int .i64 (cmp3 x y)) := by
  have := wCmp_ret (decide (x < 0)) (decide (y < 0)) (dig LL x.natAbs) (dig LL y.natAbs) hx.lok hy.lok
  rwa [iv_I, iv_I] at this

theorem sz_gv {p : Bool × List Int} (h : LOK p.2) : Sz (gv p) := by
  have h1 := sz_V hLL h.lim
  have h2 := h.len
  have e : sz LL (gv p) = sz LL (V 4294967296 p.2) := by
    unfold gv iv sz
    split <;> simp
  show sz LL (gv p) < _
  rw [e]
  exact Nat.lt_of_le_of_lt h1 h2
theorem POK.sz {l : List (Bool × List Int)} (h : POK l) : ∀ c ∈ cutR (l.map gv), Sz c := fun c hc => by
  have := cutR_sub _ _ hc
  simp only [List.mem_map] at this
  obtain ⟨p, hp, rfl⟩ := this
  exact sz_gv (h.ok p hp)

theorem pSame_ret (a b : List (Bool × List Int)) (ha : POK a) (hb : POK b) : Ret env.P 27 [Pg a, Pg b] (.bool (decide (cutR (a.map gv) = cutR (b.map gv)))) := by
  refine ret_of_Wf (E := env) (fun _ => 0) [(0, Pg a), (1, Pg b)] Try.func27 rfl (by kernel_rfl) (by kernel_rfl) (show 2 ≤ 31 by decide) (by simp) ?_
  refine W.sreg (fun K hK => ?_)
  simp (disch := omega) [gA, wrap_i64, wrap_u64, wrap_u32, Int.tdiv_eq_ediv_of_nonneg, Int.tmod_eq_emod_of_nonneg]
  refine hK _ (W.liveK [0, 1] fun K2 hK2 => ?_); clear hK K; simp; refine hK2 _ ?_; clear hK2 K2
  refine W.sreg (fun K hK => ?_)
  simp (disch := omega) [gA, wrap_i64, wrap_u64, wrap_u32, Int.tdiv_eq_ediv_of_nonneg, Int.tmod_eq_emod_of_nonneg]
  refine callR (pNorm_ret a ha) ?_
  simp (disch := omega) [gA, wrap_i64, wrap_u64, wrap_u32, Int.tdiv_eq_ediv_of_nonneg, Int.tmod_eq_emod_of_nonneg]
  refine callR (pNorm_ret b hb) ?_
  simp (disch := omega) [gA, wrap_i64, wrap_u64, wrap_u32, Int.tdiv_eq_ediv_of_nonneg, Int.tmod_eq_emod_of_nonneg]
  refine hK _ (W.liveK [0, 1] fun K2 hK2 => ?_); clear hK K; simp; refine hK2 _ ?_; clear hK2 K2
  have sa := ha.sz; have sb := hb.sz
  have la : (cutR (a.map gv)).length < 1099511627776 := by have := cutR_len (a.map gv); have := ha.len; simp at *; omega
  have lb : (cutR (b.map gv)).length < 1099511627776 := by have := cutR_len (b.map gv); have := hb.len; simp at *; omega
  generalize cutR (a.map gv) = x at *
  generalize cutR (b.map gv) = y at *
  refine W.seq ?_
  refine W.sreg (fun K hK => ?_)
  simp (disch := omega) [gA, wrap_i64, wrap_u64, wrap_u32, Int.tdiv_eq_ediv_of_nonneg, Int.tmod_eq_emod_of_nonneg]
  refine hK _ (W.liveK [0, 1, 15] fun K2 hK2 => ?_); clear hK K; simp; refine hK2 _ ?_; clear hK2 K2
  refine W.cond ⟨_, rfl, fun h => ?_, fun h => ?_⟩   -- t15
  · have h0 : x ≠ y := fun h1 => by subst h1; simp at h
    refine W.sreg (fun K hK => ?_)
    simp (disch := omega) [gA, wrap_i64, wrap_u64, wrap_u32, Int.tdiv_eq_ediv_of_nonneg, Int.tmod_eq_emod_of_nonneg]
    refine hK _ (W.liveK [4] fun K2 hK2 => ?_); clear hK K; simp; refine hK2 _ ?_; clear hK2 K2
    refine W.ret ?_
    simp [go, h0]
  · have h0 : x.length = y.length := by simp at h; omega
    clear h
    refine W.skip ?_
    refine W.seq ?_
    refine W.sreg (fun K hK => ?_)
    simp (disch := omega) [gA, wrap_i64, wrap_u64, wrap_u32, Int.tdiv_eq_ediv_of_nonneg, Int.tmod_eq_emod_of_nonneg]
    refine hK _ (W.liveK [1, 16, 17, 18] fun K2 hK2 => ?_); clear hK K; simp; refine hK2 _ ?_; clear hK2 K2
    refine W.block ?_   -- block 0
    refine W.loopG (fun k σ => ∃ (i : Nat) (rows : Pm.Rows) (clk : Nat), σ = ⟨fa [(1, Po y), (16, Po x), (17, .int .i64 x.length), (18, .int .i64 i)], rows, clk⟩ ∧ k = x.length - i ∧ i ≤ x.length ∧ x.take i = y.take i) x.length ?_ ?_
    · exact ⟨_, .refl, 0, _, _, rfl, by omega, by omega, by simp⟩
    rintro k _ ⟨i, rows, clk, rfl, hk, hi, hxy⟩
    refine W.sreg (fun K hK => ?_)
    simp (disch := omega) [gA, wrap_i64, wrap_u64, wrap_u32, Int.tdiv_eq_ediv_of_nonneg, Int.tmod_eq_emod_of_nonneg]
    refine hK _ (W.liveK [1, 16, 17, 18, 19] fun K2 hK2 => ?_); clear hK K; simp; refine hK2 _ ?_; clear hK2 K2
    refine W.seq ?_
    refine W.cond ⟨_, rfl, fun h => ?_, fun h => ?_⟩   -- t19
    · simp at h
      refine W.skip ?_
      refine W.seq ?_
      refine W.block ?_   -- block 1
      refine W.sreg (fun K hK => ?_)
      simp (disch := omega) [gA, wrap_i64, wrap_u64, wrap_u32, Int.tdiv_eq_ediv_of_nonneg, Int.tmod_eq_emod_of_nonneg]
      refine hK _ (W.liveK [1, 5, 6, 16, 17, 18] fun K2 hK2 => ?_); clear hK K; simp; refine hK2 _ ?_; clear hK2 K2
      refine W.sdrw (fun K hK => ?_)
      simp (disch := omega) [gA, wrap_i64, wrap_u64, wrap_u32, Int.tdiv_eq_ediv_of_nonneg, Int.tmod_eq_emod_of_nonneg]
      refine callR (wCmpI (sa _ (nth_mem h)) (sb _ (nth_mem (by omega)))) ?_
      simp (disch := omega) [gA, wrap_i64, wrap_u64, wrap_u32, Int.tdiv_eq_ediv_of_nonneg, Int.tmod_eq_emod_of_nonneg]
      refine hK _ (W.liveK [1, 16, 17, 18, 29] fun K2 hK2 => ?_); clear hK K; simp; refine hK2 _ ?_; clear hK2 K2
      refine W.cond ⟨_, rfl, fun h2 => ?_, fun h2 => ?_⟩   -- t29
      · have h3 : x ≠ y := fun h1 => by subst h1; simp [cmp3_eq] at h2
        refine W.sreg (fun K hK => ?_)
        simp (disch := omega) [gA, wrap_i64, wrap_u64, wrap_u32, Int.tdiv_eq_ediv_of_nonneg, Int.tmod_eq_emod_of_nonneg]
        refine hK _ (W.liveK [4] fun K2 hK2 => ?_); clear hK K; simp; refine hK2 _ ?_; clear hK2 K2
        refine W.ret ?_
        simp [go, h3]
      · have h3 : nth x i = nth y i := by
          have : cmp3 (nth x i) (nth y i) = 0 := by simpa using h2
          exact cmp3_zero.1 this
        refine W.skip ?_
        refine W.reg (fun K hK => ?_)
        simp (disch := omega) [gA, wrap_i64, wrap_u64, wrap_u32, Int.tdiv_eq_ediv_of_nonneg, Int.tmod_eq_emod_of_nonneg]
        refine hK _ ⟨x.length - (i + 1), _, Gh_fa _ [1, 16, 17, 18], by omega, i + 1, _, _, rfl, by omega, by omega, ?_⟩
        rw [take_succ_nth h, take_succ_nth (by omega), hxy, h3]
    · simp at h
      have h3 : x = y := by
        rw [take_all (show x.length = i by omega), take_all (show y.length = i by omega)] at hxy
        exact hxy
      refine W.exit ?_; simp only [pblk_exit, pblk_normal, pblk_ret, pseq_exit, pseq_normal, pseq_ret, pnor_exit, pnor_normal, pnor_ret, if_true, if_false, reduceIte, Nat.reduceEqDiff]
      refine W.sreg (fun K hK => ?_)
      simp (disch := omega) [gA, wrap_i64, wrap_u64, wrap_u32, Int.tdiv_eq_ediv_of_nonneg, Int.tmod_eq_emod_of_nonneg]
      refine hK _ (W.liveK [4] fun K2 hK2 => ?_); clear hK K; simp; refine hK2 _ ?_; clear hK2 K2
      refine W.ret ?_
      simp [go, h3]
end Go.Proofs.Ytjnkpfknmncdmaa
