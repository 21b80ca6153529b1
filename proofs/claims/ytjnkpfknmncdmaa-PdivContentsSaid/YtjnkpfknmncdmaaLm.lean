import Derived.Test.YtjnkpfknmncdmaaLk
set_option linter.unusedSimpArgs false
set_option linter.unusedVariables false
namespace Go.Proofs.Ytjnkpfknmncdmaa
open Go Pm

abbrev RP := List (Bool × List Int)
def i64e (n : Int) : List PV := [.int .i64 n]
def pe (p : RP) : List PV := [Pg p]
def me (r : List RP) : List PV := [sls pe r]
@[simp] theorem i64e_def {n : Int} : i64e n = [.int .i64 n] := rfl
@[simp] theorem pe_def {p : RP} : pe p = [Pg p] := rfl
@[simp] theorem me_def {p : List RP} : me p = [sls pe p] := rfl
@[simp] theorem lenAll_i64e {l : List Int} : lenAll 1 (emap i64e l) = True := lenAll_emap fun _ => rfl
@[simp] theorem lenAll_pe {l : List RP} : lenAll 1 (emap pe l) = True := lenAll_emap fun _ => rfl
@[simp] theorem lenAll_me {l : List (List RP)} : lenAll 1 (emap me l) = True := lenAll_emap fun _ => rfl
@[simp] theorem rowPers_i64e {v e n : Nat} {l : List Int} : rowPers (some ⟨v, e, n, emap i64e l⟩) = True := rowPers_emap fun _ => rfl
@[simp] theorem rowPers_pe {v e n : Nat} {l : List RP} : rowPers (some ⟨v, e, n, emap pe l⟩) = True := rowPers_emap fun _ => rfl
@[simp] theorem rowPers_me {v e n : Nat} {l : List (List RP)} : rowPers (some ⟨v, e, n, emap me l⟩) = True := rowPers_emap fun _ => rfl
@[simp] theorem app_ge {l : RP} {n : Bool} {m : List Int} : emap ge l ++ [[.bool n, us m]] = emap ge (l ++ [(n, m)]) := by simp [emap]
@[simp] theorem app_ie {l : List Int} {x : Int} : emap ie l ++ [[.bool (decide (x < 0)), us (dig LL x.natAbs)]] = emap ie (l ++ [x]) := by simp [emap]
@[simp] theorem app_pe {l : List RP} {p : RP} : emap pe l ++ [[sls ge p]] = emap pe (l ++ [p]) := by simp [emap]
@[simp] theorem app_me {l : List (List RP)} {p : List RP} : emap me l ++ [[sls pe p]] = emap me (l ++ [p]) := by simp [emap]

theorem kRow_ret (l : List Int) (n : Nat) (hl : l.length < 9223372036854775808) (hn : n < 9223372036854775808) : Ret env.P 108 [us l, .int .i64 n] (us (l.take n)) := by
  refine ret_of_Wf (E := env) (fun _ => 0) [(0, us l), (1, .int .i64 n)] Try.func108 rfl (by kernel_rfl) (by kernel_rfl) (show 2 ≤ 11 by decide) (by simp) ?_
  refine W.sreg (fun K hK => ?_)
  simp (disch := omega) [gA, wrap_i64, wrap_u64, wrap_u32, Int.tdiv_eq_ediv_of_nonneg, Int.tmod_eq_emod_of_nonneg]
  refine hK _ (W.liveK [0, 1] fun K2 hK2 => ?_); clear hK K; simp; refine hK2 _ ?_; clear hK2 K2
  have e : (if n < l.length then (n : Int) else (l.length : Int)) = ((min l.length n : Nat) : Int) := by split <;> omega
  refine W.sreg (fun K hK => ?_)
  simp (disch := omega) [gA, wrap_i64, wrap_u64, wrap_u32, Int.tdiv_eq_ediv_of_nonneg, Int.tmod_eq_emod_of_nonneg, e]
  refine hK _ (W.liveK [4] fun K2 hK2 => ?_); clear hK K; simp; refine hK2 _ ?_; clear hK2 K2
  refine W.ret ?_
  have e2 : l.take n = l.take (min l.length n) := by
    rcases Nat.le_total l.length n with h | h
    · rw [List.take_of_length_le h, Nat.min_eq_left h, List.take_of_length_le (Nat.le_refl _)]
    · rw [Nat.min_eq_right h]
  rw [e2]
  simp [go]

theorem kInt_ret (s : Bool) (l : List Int) (n : Nat) (hl : l.length < 9223372036854775808) (hn : n < 9223372036854775808) : Ret env.P 69 [IV s l, .int .i64 n] (IV s (l.take n)) := by
  refine ret_of_Wf (E := env) (fun _ => 0) [(0, IV s l), (1, .int .i64 n)] Try.func69 rfl (by kernel_rfl) (by kernel_rfl) (show 2 ≤ 12 by decide) (by simp) ?_
  refine W.sreg (fun K hK => ?_)
  simp (disch := omega) [gA, wrap_i64, wrap_u64, wrap_u32, Int.tdiv_eq_ediv_of_nonneg, Int.tmod_eq_emod_of_nonneg]
  refine hK _ (W.liveK [1, 2, 4] fun K2 hK2 => ?_); clear hK K; simp; refine hK2 _ ?_; clear hK2 K2
  refine W.sdrw (fun K hK => ?_)
  simp (disch := omega) [gA, wrap_i64, wrap_u64, wrap_u32, Int.tdiv_eq_ediv_of_nonneg, Int.tmod_eq_emod_of_nonneg]
  refine callR (kRow_ret l n hl hn) ?_
  simp (disch := omega) [gA, wrap_i64, wrap_u64, wrap_u32, Int.tdiv_eq_ediv_of_nonneg, Int.tmod_eq_emod_of_nonneg]
  refine hK _ (W.liveK [4] fun K2 hK2 => ?_); clear hK K; simp; refine hK2 _ ?_; clear hK2 K2
  refine W.ret ?_
  simp [go]

/-- A polynomial of at most k coefficients of at most n limbs. -/
def keepP (k n : Nat) (p : RP) : RP := (p.take k).map fun c => (c.1, c.2.take n)
theorem kPoly_ret (p : RP) (k n : Nat) (hp : p.length < 9223372036854775808) (hc : ∀ c ∈ p, c.2.length < 9223372036854775808) (hk : k < 1099511627776) (hn : n < 9223372036854775808) : Ret env.P 24 [Pg p, .int .i64 k, .int .i64 n] (Pg (keepP k n p)) := by
  refine ret_of_Wf (E := env) (fun _ => 0) [(0, Pg p), (1, .int .i64 k), (2, .int .i64 n)] Try.func24 rfl (by kernel_rfl) (by kernel_rfl) (show 3 ≤ 30 by decide) (by simp) ?_
  refine W.sreg (fun K hK => ?_)
  simp (disch := omega) [gA, wrap_i64, wrap_u64, wrap_u32, Int.tdiv_eq_ediv_of_nonneg, Int.tmod_eq_emod_of_nonneg]
  refine hK _ (W.liveK [0, 1, 2] fun K2 hK2 => ?_); clear hK K; simp; refine hK2 _ ?_; clear hK2 K2
  refine W.sreg (fun K hK => ?_)
  simp (disch := omega) [gA, wrap_i64, wrap_u64, wrap_u32, Int.tdiv_eq_ediv_of_nonneg, Int.tmod_eq_emod_of_nonneg]
  refine hK _ (W.liveK [0, 1, 2, 7] fun K2 hK2 => ?_); clear hK K; simp; refine hK2 _ ?_; clear hK2 K2
  refine W.nil 7 7 68 2 (by simp) (by decide) (fun K hK => ?_)
  refine hK _ (W.liveK [0, 1, 2, 7] fun K2 hK2 => ?_); clear hK K; simp; refine hK2 _ ?_; clear hK2 K2
  refine W.seq ?_
  refine W.sreg (fun K hK => ?_)
  simp (disch := omega) [gA, wrap_i64, wrap_u64, wrap_u32, Int.tdiv_eq_ediv_of_nonneg, Int.tmod_eq_emod_of_nonneg]
  refine hK _ (W.liveK [0, 1, 2, 7, 8] fun K2 hK2 => ?_); clear hK K; simp; refine hK2 _ ?_; clear hK2 K2
  refine W.block ?_   -- block 0
  refine W.loopG (fun m σ => ∃ (i ver : Nat) (rows : Pm.Rows) (clk : Nat), σ = ⟨fa [(0, Pg p), (1, .int .i64 k), (2, .int .i64 n), (7, .own 7 ver 0 i), (8, .int .i64 i)], rows, clk⟩ ∧
    rows 7 = some ⟨ver, 68, 2, emap ge (keepP i n p)⟩ ∧ m = k - i ∧ i ≤ k ∧ i ≤ p.length) k ?_ ?_
  · exact ⟨_, .refl, 0, _, _, _, rfl, by simp [keepP, emap], by omega, by omega, by omega⟩
  rintro m _ ⟨i, ver, rows, clk, rfl, hr, hm, hik, hip⟩
  have hkl : (keepP i n p).length = i := by simp [keepP]; omega
  refine W.seq ?_
  refine W.sregJ (fun σ => ∃ (b : Bool), σ = ⟨fa [(0, Pg p), (1, .int .i64 k), (2, .int .i64 n), (7, .own 7 ver 0 i), (8, .int .i64 i), (17, .bool b)], rows, clk⟩ ∧ (b = true ↔ i < p.length ∧ i < k)) (fun K hK => ?_) ?_
  · simp
    by_cases h0 : i < p.length
    · simp [h0]
      exact hK _ _ (Gh_fa _ [0, 1, 2, 7, 8, 17]) ⟨_, rfl, by simp [h0]⟩
    · simp [h0]
      exact hK _ _ (Gh_fa _ [0, 1, 2, 7, 8, 17]) ⟨_, rfl, by simp [h0]⟩
  rintro _ ⟨b, rfl, hb⟩
  refine W.cond ⟨_, rfl, fun h => ?_, fun h => ?_⟩   -- t17
  · obtain ⟨h1, h2⟩ := hb.1 h
    refine W.skip ?_
    refine W.seq ?_
    refine W.block ?_   -- block 1
    refine W.reg (fun K hK => ?_)
    simp (disch := omega) [gA, wrap_i64, wrap_u64, wrap_u32, Int.tdiv_eq_ediv_of_nonneg, Int.tmod_eq_emod_of_nonneg, hr]
    refine callR (kInt_ret _ _ n (hc _ (nth_mem h1)) hn) ?_
    simp (disch := omega) [gA, wrap_i64, wrap_u64, wrap_u32, Int.tdiv_eq_ediv_of_nonneg, Int.tmod_eq_emod_of_nonneg, hr, hkl]
    refine hK _ (W.liveK [0, 1, 2, 7, 8] fun K2 hK2 => ?_); clear hK K; simp; refine hK2 _ ?_; clear hK2 K2
    refine W.reg (fun K hK => ?_)
    simp (disch := omega) [gA, wrap_i64, wrap_u64, wrap_u32, Int.tdiv_eq_ediv_of_nonneg, Int.tmod_eq_emod_of_nonneg]
    refine hK _ ⟨k - (i + 1), _, Gh_fa _ [0, 1, 2, 7, 8], by omega, i + 1, _, _, _, rfl, ?_, by omega, by omega, by omega⟩
    have e : keepP (i + 1) n p = keepP i n p ++ [((nth p i).1, (nth p i).2.take n)] := map_take_succ h1
    rw [e]
    simp
  · have h1 : i = k ∨ i = p.length := by
      have : ¬ (i < p.length ∧ i < k) := fun h2 => by simp [hb.2 h2] at h
      omega
    have e : keepP k n p = keepP i n p := by
      rcases h1 with h1 | h1
      · rw [h1]
      · unfold keepP; rw [List.take_of_length_le (show p.length ≤ k by omega), List.take_of_length_le (by omega)]
    refine W.exit ?_; simp only [pblk_exit, pblk_normal, pblk_ret, pseq_exit, pseq_normal, pseq_ret, pnor_exit, pnor_normal, pnor_ret, if_true, if_false, reduceIte, Nat.reduceEqDiff]
    refine W.sreg (fun K hK => ?_)
    simp (disch := omega) [gA, wrap_i64, wrap_u64, wrap_u32, Int.tdiv_eq_ediv_of_nonneg, Int.tmod_eq_emod_of_nonneg]
    refine hK _ (W.liveK [6] fun K2 hK2 => ?_); clear hK K; simp; refine hK2 _ ?_; clear hK2 K2
    refine W.ret ?_
    rw [e]
    simp [go, hr, hkl, take_all hkl]
end Go.Proofs.Ytjnkpfknmncdmaa
