import Derived.Test.YtjnkpfknmncdmaaLbf
set_option linter.unusedSimpArgs false
set_option linter.unusedVariables false
namespace Go.Proofs.Ytjnkpfknmncdmaa
open Go Pm

theorem sz_iv (m : Bool) (l : List Int) (k : Nat) (h0 : 0 ≤ V 4294967296 l) (h : V 4294967296 l < 4294967296 ^ k) : sz LL (iv m l) ≤ k := by
  have : sz LL (iv m l) = sz LL (V 4294967296 l) := by unfold sz iv; split <;> simp
  rw [this]; exact sz_of_lt h0 h
theorem wExact_ret (n m : Bool) (l k : List Int) (h : LOK l) (h' : LOK k) (hl : l.length < 1099511627774) (hk : k.length < 1099511627774) (h0 : V 4294967296 k ≠ 0) :
    Ret env.P 98 [IV n l, IV m k] (if iv n l % iv m k = 0 then .tup [I (iv n l / iv m k), .int .i64 0] else .tup [I 0, .int .i64 3]) := by
  have hdm := wDivMod_ret n m l k h h' hl hk
  rw [if_neg h0] at hdm
  have hr0 : 0 ≤ iv n l % iv m k := Int.emod_nonneg _ (by unfold iv; split <;> omega)
  generalize iv n l / iv m k = q at *
  generalize iv n l % iv m k = r at *
  have hrn : (dig LL r.natAbs = []) ↔ r = 0 := by rw [dig_eq_nil hLL]; omega
  refine ret_of_Wf (E := env) (fun _ => 0) [(0, IV n l), (1, IV m k)] Try.func98 rfl (by kernel_rfl) (by kernel_rfl) (show 2 ≤ 26 by decide) (by simp) ?_
  refine W.sreg (fun K hK => ?_); simp (disch := omega) [gA, wrap_i64, wrap_u64, wrap_u32, Int.tdiv_eq_ediv_of_nonneg, Int.tmod_eq_emod_of_nonneg]; refine hK _ (W.liveK [2, 3, 4] fun K2 hK2 => ?_); clear hK K; simp; refine hK2 _ ?_; clear hK2 K2
  refine W.sreg (fun K hK => ?_)
  simp (disch := omega) [gA, wrap_i64, wrap_u64, wrap_u32, Int.tdiv_eq_ediv_of_nonneg, Int.tmod_eq_emod_of_nonneg]
  refine callR hdm ?_
  simp (disch := omega) [gA, wrap_i64, wrap_u64, wrap_u32, Int.tdiv_eq_ediv_of_nonneg, Int.tmod_eq_emod_of_nonneg]
  refine hK _ (W.liveK [4, 6, 7, 8] fun K2 hK2 => ?_); clear hK K; simp; refine hK2 _ ?_; clear hK2 K2
  refine W.seq ?_
  refine W.sreg (fun K hK => ?_); simp (disch := omega) [gA, wrap_i64, wrap_u64, wrap_u32, Int.tdiv_eq_ediv_of_nonneg, Int.tmod_eq_emod_of_nonneg]; refine hK _ (W.liveK [4, 6, 7, 8, 17] fun K2 hK2 => ?_); clear hK K; simp; refine hK2 _ ?_; clear hK2 K2
  refine W.cond ⟨_, rfl, fun h => ?_, fun h => ?_⟩   -- t17
  · cases h
  refine W.skip ?_
  refine W.seq ?_
  refine W.sreg (fun K hK => ?_); simp (disch := omega) [gA, wrap_i64, wrap_u64, wrap_u32, Int.tdiv_eq_ediv_of_nonneg, Int.tmod_eq_emod_of_nonneg]; refine hK _ (W.liveK [4, 6, 23] fun K2 hK2 => ?_); clear hK K; simp; refine hK2 _ ?_; clear hK2 K2
  by_cases hr : r = 0
  · rw [if_pos hr]
    refine W.cond ⟨_, rfl, fun h => ?_, fun h => ?_⟩   -- t23
    · exfalso; have h2 := hrn.2 hr; rw [h2] at h; simp at h
    · refine W.skip ?_
      refine W.sreg (fun K hK => ?_); simp (disch := omega) [gA, wrap_i64, wrap_u64, wrap_u32, Int.tdiv_eq_ediv_of_nonneg, Int.tmod_eq_emod_of_nonneg]; refine hK _ (W.liveK [4, 5] fun K2 hK2 => ?_); clear hK K; simp; refine hK2 _ ?_; clear hK2 K2
      refine W.ret ?_
      simp [go]
  · rw [if_neg hr]
    refine W.cond ⟨_, rfl, fun h => ?_, fun h => ?_⟩   -- t23
    · refine W.sreg (fun K hK => ?_); simp (disch := omega) [gA, wrap_i64, wrap_u64, wrap_u32, Int.tdiv_eq_ediv_of_nonneg, Int.tmod_eq_emod_of_nonneg]; refine hK _ (W.liveK [4, 5] fun K2 hK2 => ?_); clear hK K; simp; refine hK2 _ ?_; clear hK2 K2
      refine W.ret ?_
      simp [go]
      rfl
    · exfalso; simp at h; exact hr (hrn.1 h)

/-- The greatest that divides all. -/
def gcdL (l : List Int) : Nat := l.foldl (fun g c => Nat.gcd g c.natAbs) 0
theorem gcd_one : ∀ l : List Int, l.foldl (fun g c => Nat.gcd g c.natAbs) 1 = 1
  | [] => rfl
  | c :: l => by simp only [List.foldl_cons, Nat.gcd_one_left]; exact gcd_one l
theorem gcdL_split (l : List Int) (i : Nat) (h : gcdL (l.take i) = 1) : gcdL l = 1 := by
  unfold gcdL at *
  rw [← List.take_append_drop i l, List.foldl_append, h]
  exact gcd_one _
theorem gcdL_succ (l : List Int) (i : Nat) (h : i < l.length) : gcdL (l.take (i + 1)) = Nat.gcd (gcdL (l.take i)) (nth l i).natAbs := by
  unfold gcdL
  rw [take_succ_nth h, List.foldl_append]; rfl
theorem natN (x : Nat) : N (x : Int) = us (dig LL x) := rfl
theorem dig_len' {x k : Nat} (h : x < 4294967296 ^ k) : (dig LL x).length ≤ k := dig_len hLL h

theorem wGcd_ret (p : RP) (K0 : Nat) (hK0 : K0 < 1099511627774) (hp : ∀ c ∈ p, Lim 4294967296 c.2 ∧ c.2.length ≤ K0) (hpl : p.length < 1099511627776) : Ret env.P 96 [Pg p] (I (gcdL (p.map gv))) := by
  have hng : ∀ c ∈ p, (gv c).natAbs = (V 4294967296 c.2).toNat := fun c hc => by
    have := V_nonneg (b := 4294967296) (by decide) (hp c hc).1
    unfold gv iv; split <;> omega
  refine ret_of_Wf (E := env) (fun _ => 0) [(0, Pg p)] Try.func96 rfl (by kernel_rfl) (by kernel_rfl) (show 1 ≤ 44 by decide) (by simp) ?_
  refine W.sreg (fun K hK => ?_); simp (disch := omega) [gA, wrap_i64, wrap_u64, wrap_u32, Int.tdiv_eq_ediv_of_nonneg, Int.tmod_eq_emod_of_nonneg]; refine hK _ (W.liveK [0, 2] fun K2 hK2 => ?_); clear hK K; simp; refine hK2 _ ?_; clear hK2 K2
  refine W.sreg (fun K hK => ?_); simp (disch := omega) [gA, wrap_i64, wrap_u64, wrap_u32, Int.tdiv_eq_ediv_of_nonneg, Int.tmod_eq_emod_of_nonneg]; refine hK _ (W.liveK [0, 2, 3] fun K2 hK2 => ?_); clear hK K; simp; refine hK2 _ ?_; clear hK2 K2
  refine W.nils 3 (us []) (by simp) rfl (fun K hK => ?_)
  refine hK _ (W.liveK [0, 2, 3] fun K2 hK2 => ?_); clear hK K; simp; refine hK2 _ ?_; clear hK2 K2
  have hmap : ∀ i, i < p.length → (nth (p.map gv) i).natAbs = (V 4294967296 (nth p i).2).toNat := fun i hi => by rw [nth_gv]; exact hng _ (nth_mem hi)
  refine W.seqJ (fun σ => ∃ (rows : Pm.Rows) (clk : Nat), σ = ⟨fa [(2, .ptr 2 0 0 0), (3, us (dig LL (gcdL (p.map gv))))], rows, clk⟩ ∧ rows 2 = some ⟨0, 68, 2, [[.bool false, .nil]]⟩ ∧ gcdL (p.map gv) < 4294967296 ^ K0) ?_ ?_
  ·
    refine W.sreg (fun K hK => ?_); simp (disch := omega) [gA, wrap_i64, wrap_u64, wrap_u32, Int.tdiv_eq_ediv_of_nonneg, Int.tmod_eq_emod_of_nonneg]; refine hK _ (W.liveK [2, 3, 10, 11, 12] fun K2 hK2 => ?_); clear hK K; simp; refine hK2 _ ?_; clear hK2 K2
    refine W.block ?_   -- block 0
    refine W.loopG (fun q σ => ∃ (i : Nat) (rows : Pm.Rows) (clk : Nat), σ = ⟨fa [(2, .ptr 2 0 0 0), (3, us (dig LL (gcdL ((p.map gv).take i)))), (10, Pg p), (11, .int .i64 p.length), (12, .int .i64 i)], rows, clk⟩ ∧ rows 2 = some ⟨0, 68, 2, [[.bool false, .nil]]⟩ ∧ q = p.length - i ∧ i ≤ p.length ∧ gcdL ((p.map gv).take i) < 4294967296 ^ K0) p.length ?_ ?_
    · exact ⟨_, Gh.fr [(2, .ptr 2 0 0 0), (3, us (dig LL (gcdL ((p.map gv).take 0)))), (10, Pg p), (11, .int .i64 p.length), (12, .int .i64 (0 : Nat))] (by simp [gcdL, dig_zero]), 0, _, _, rfl, by simp, by omega, by omega, by simp [gcdL]; exact Nat.pow_pos (by decide)⟩
    rintro q _ ⟨i, rows, clk, rfl, hr2, hq, hi, hgb⟩
    refine W.sreg (fun K hK => ?_); simp (disch := omega) [gA, wrap_i64, wrap_u64, wrap_u32, Int.tdiv_eq_ediv_of_nonneg, Int.tmod_eq_emod_of_nonneg]; refine hK _ (W.liveK [2, 3, 10, 11, 12, 13] fun K2 hK2 => ?_); clear hK K; simp; refine hK2 _ ?_; clear hK2 K2
    refine W.seq ?_
    refine W.cond ⟨_, rfl, fun h => ?_, fun h => ?_⟩   -- t13
    · have hi : i < p.length := by simp at h; omega
      obtain ⟨hc1, hc2⟩ := hp _ (nth_mem hi)
      have hV0 := V_nonneg (b := 4294967296) (by decide) hc1
      have hVl := V_lt (b := 4294967296) (by decide) hc1
      obtain ⟨x0, hx0⟩ := Int.eq_ofNat_of_zero_le hV0
      have hnorm := Norm_ret (nth p i).2 (by omega) hc1
      rw [hx0, natN] at hnorm
      have hxb : x0 < 4294967296 ^ K0 := by
        have e : ((4294967296 ^ (nth p i).2.length : Nat) : Int) = (4294967296 : Int) ^ (nth p i).2.length := Int.natCast_pow 4294967296 _
        have e2 : 4294967296 ^ (nth p i).2.length ≤ 4294967296 ^ K0 := Nat.pow_le_pow_right (by decide) hc2
        omega
      have hgs := gcdL_succ (p.map gv) i (by simpa using hi)
      rw [hmap i hi, hx0] at hgs
      simp only [Int.toNat_natCast] at hgs
      refine W.skip ?_
      refine W.seq ?_
      refine W.block ?_   -- block 1
      refine W.sreg (fun K hK => ?_); simp (disch := omega) [gA, wrap_i64, wrap_u64, wrap_u32, Int.tdiv_eq_ediv_of_nonneg, Int.tmod_eq_emod_of_nonneg, hr2]; refine hK _ (W.liveK [2, 3, 5, 10, 11, 12] fun K2 hK2 => ?_); clear hK K; simp; refine hK2 _ ?_; clear hK2 K2
      refine W.sreg (fun K hK => ?_)
      simp (disch := omega) [gA, wrap_i64, wrap_u64, wrap_u32, Int.tdiv_eq_ediv_of_nonneg, Int.tmod_eq_emod_of_nonneg]
      refine callR hnorm ?_
      simp (disch := omega) [gA, wrap_i64, wrap_u64, wrap_u32, Int.tdiv_eq_ediv_of_nonneg, Int.tmod_eq_emod_of_nonneg]
      refine hK _ (W.liveK [2, 3, 6, 10, 11, 12] fun K2 hK2 => ?_); clear hK K; simp; refine hK2 _ ?_; clear hK2 K2
      refine W.seq ?_
      refine W.block ?_   -- block 2
      refine W.loopG (fun q σ => ∃ (g x : Nat) (rows : Pm.Rows) (clk : Nat), σ = ⟨fa [(2, .ptr 2 0 0 0), (3, us (dig LL g)), (6, us (dig LL x)), (10, Pg p), (11, .int .i64 p.length), (12, .int .i64 i)], rows, clk⟩ ∧ rows 2 = some ⟨0, 68, 2, [[.bool false, .nil]]⟩ ∧ q = x ∧ Nat.gcd g x = gcdL ((p.map gv).take (i + 1)) ∧ g < 4294967296 ^ K0 ∧ x < 4294967296 ^ K0) x0 ?_ ?_
      · exact ⟨_, .refl, gcdL ((p.map gv).take i), x0, _, _, rfl, by simp [hr2], rfl, hgs.symm, hgb, hxb⟩
      rintro q2 _ ⟨g, x, rows, clk, rfl, hr2, hq2, hgx, hg, hx⟩
      refine W.seq ?_
      refine W.sreg (fun K hK => ?_); simp (disch := omega) [gA, wrap_i64, wrap_u64, wrap_u32, Int.tdiv_eq_ediv_of_nonneg, Int.tmod_eq_emod_of_nonneg]; refine hK _ (W.liveK [2, 3, 6, 10, 11, 12, 21] fun K2 hK2 => ?_); clear hK K; simp; refine hK2 _ ?_; clear hK2 K2
      refine W.cond ⟨_, rfl, fun h => ?_, fun h => ?_⟩   -- t21
      · have h1 : dig LL x ≠ [] := by simp at h; exact List.length_pos_iff.1 h
        have hx0 : x ≠ 0 := fun h2 => h1 ((dig_eq_nil hLL).2 h2)
        have hlg := dig_len' hg
        have hlx := dig_len' hx
        have hdm := DivMod_ret (dig LL g) (dig LL x) ⟨Lim_dig hLL _, by omega⟩ ⟨Lim_dig hLL _, by omega⟩ (by rw [show (4294967296 : Int) = ((LL : Nat) : Int) from rfl, V_dig hLL]; omega) (by omega) (by omega)
        rw [show (4294967296 : Int) = ((LL : Nat) : Int) from rfl, V_dig hLL, V_dig hLL, ← Int.natCast_emod, natN] at hdm
        have hm := Nat.mod_lt g (show 0 < x by omega)
        have hgr : Nat.gcd x (g % x) = Nat.gcd g x := by rw [Nat.gcd_comm x, ← Nat.gcd_rec, Nat.gcd_comm]
        refine W.skip ?_
        refine W.block ?_   -- block 3
        refine W.sreg (fun K hK => ?_)
        simp (disch := omega) [gA, wrap_i64, wrap_u64, wrap_u32, Int.tdiv_eq_ediv_of_nonneg, Int.tmod_eq_emod_of_nonneg]
        refine callR hdm ?_
        simp (disch := omega) [gA, wrap_i64, wrap_u64, wrap_u32, Int.tdiv_eq_ediv_of_nonneg, Int.tmod_eq_emod_of_nonneg]
        refine hK _ (W.liveK [2, 6, 8, 10, 11, 12] fun K2 hK2 => ?_); clear hK K; simp; refine hK2 _ ?_; clear hK2 K2
        refine W.reg (fun K hK => ?_); simp (disch := omega) [gA, wrap_i64, wrap_u64, wrap_u32, Int.tdiv_eq_ediv_of_nonneg, Int.tmod_eq_emod_of_nonneg]
        refine hK _ ⟨g % x, _, Gh_fa _ [2, 3, 6, 10, 11, 12], by omega, x, g % x, _, _, rfl, by simp [hr2], rfl, by rw [hgr, hgx], hx, by omega⟩
      · have h1 : dig LL x = [] := by simp at h; exact h
        have hx0 : x = 0 := (dig_eq_nil hLL).1 h1
        subst hx0
        rw [Nat.gcd_zero_right] at hgx
        refine W.exit ?_; simp only [pblk_exit, pblk_normal, pblk_ret, pseq_exit, pseq_normal, pseq_ret, pnor_exit, pnor_normal, pnor_ret, if_true, if_false, reduceIte, Nat.reduceEqDiff]
        refine W.sregJ (fun σ => ∃ (b : Bool) (rows : Pm.Rows) (clk : Nat), σ = ⟨fa [(2, .ptr 2 0 0 0), (3, us (dig LL g)), (10, Pg p), (11, .int .i64 p.length), (12, .int .i64 i), (39, .bool b)], rows, clk⟩ ∧ rows 2 = some ⟨0, 68, 2, [[.bool false, .nil]]⟩ ∧ (b = true → g = 1)) (fun K hK => ?_) ?_
        · by_cases h2 : (dig LL g).length = 1
          · obtain ⟨w, hw⟩ : ∃ w, dig LL g = [w] := match dig LL g, h2 with | [w], _ => ⟨w, rfl⟩
            have hgv := V_dig hLL g
            rw [hw, V_one] at hgv
            rw [hw] at hK ⊢
            have hnw : nth [w] 0 = w := rfl
            simp (disch := omega) [gA, wrap_i64, wrap_u64, wrap_u32, Int.tdiv_eq_ediv_of_nonneg, Int.tmod_eq_emod_of_nonneg, hnw]
            exact hK _ _ (Gh_fa _ [2, 3, 10, 11, 12, 39]) ⟨_, _, _, rfl, by simp [hr2], fun h3 => by simp at h3; omega⟩
          · have h2' : ((dig LL g).length : Int) ≠ 1 := by omega
            have hb : (((dig LL g).length : Int) == 1) = false := by simpa using h2'
            simp (disch := omega) [gA, wrap_i64, wrap_u64, wrap_u32, Int.tdiv_eq_ediv_of_nonneg, Int.tmod_eq_emod_of_nonneg, hb, h2]
            exact hK _ _ (Gh_fa _ [2, 3, 10, 11, 12, 39]) ⟨_, _, _, rfl, by simp [hr2], fun h3 => by cases h3⟩
        rintro _ ⟨b, rows, clk, rfl, hr2, hb⟩
        refine W.cond ⟨_, rfl, fun h => ?_, fun h => ?_⟩   -- t39
        · have hg1 := hb h
          subst hg1
          have hall := gcdL_split _ _ hgx.symm
          refine W.exit ?_; simp only [pblk_exit, pblk_normal, pblk_ret, pseq_exit, pseq_normal, pseq_ret, pnor_exit, pnor_normal, pnor_ret, if_true, if_false, reduceIte, Nat.reduceEqDiff]
          rw [hall]
          exact ⟨_, Gh_fa _ [2, 3], rows, clk, rfl, hr2, by rw [hall] at *; exact hg⟩
        · refine W.skip ?_
          subst hgx
          refine W.reg (fun K hK => ?_); simp (disch := omega) [gA, wrap_i64, wrap_u64, wrap_u32, Int.tdiv_eq_ediv_of_nonneg, Int.tmod_eq_emod_of_nonneg]
          refine hK _ ⟨p.length - (i + 1), _, Gh_fa _ [2, 3, 10, 11, 12], by omega, i + 1, _, _, rfl, by simp [hr2], by omega, by omega, hg⟩
    · have hi : i = p.length := by simp at h; omega
      rw [List.take_of_length_le (by simp; omega)] at hgb ⊢
      refine W.exit ?_; simp only [pblk_exit, pblk_normal, pblk_ret, pseq_exit, pseq_normal, pseq_ret, pnor_exit, pnor_normal, pnor_ret, if_true, if_false, reduceIte, Nat.reduceEqDiff]
      exact ⟨_, Gh_fa _ [2, 3], rows, clk, rfl, hr2, hgb⟩
  rintro _ ⟨rows, clk, rfl, hr2, hgb⟩
  have hlg := dig_len' hgb
  have hnorm := Norm_ret (dig LL (gcdL (p.map gv))) (by omega) (Lim_dig hLL _)
  rw [show (4294967296 : Int) = ((LL : Nat) : Int) from rfl, V_dig hLL] at hnorm
  have hmade := made_ret (gcdL (p.map gv) : Int) (by omega) false
  refine W.sreg (fun K hK => ?_)
  simp (disch := omega) [gA, wrap_i64, wrap_u64, wrap_u32, Int.tdiv_eq_ediv_of_nonneg, Int.tmod_eq_emod_of_nonneg]
  refine callR hnorm ?_
  simp (disch := omega) [gA, wrap_i64, wrap_u64, wrap_u32, Int.tdiv_eq_ediv_of_nonneg, Int.tmod_eq_emod_of_nonneg]
  refine callR hmade ?_
  simp (disch := omega) [gA, wrap_i64, wrap_u64, wrap_u32, Int.tdiv_eq_ediv_of_nonneg, Int.tmod_eq_emod_of_nonneg, hr2]
  refine hK _ (W.liveK [2] fun K2 hK2 => ?_); clear hK K; simp; refine hK2 _ ?_; clear hK2 K2
  refine W.ret ?_
  simp [go]
end Go.Proofs.Ytjnkpfknmncdmaa
