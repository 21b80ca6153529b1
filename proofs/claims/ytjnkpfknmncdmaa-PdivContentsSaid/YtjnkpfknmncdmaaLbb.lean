import Derived.Test.YtjnkpfknmncdmaaLba
set_option linter.unusedSimpArgs false
set_option linter.unusedVariables false
namespace Go.Proofs.Ytjnkpfknmncdmaa
open Go Pm

theorem wide_own (l : List Int) (n m : Nat) (hn : n ≤ 31) (hl : l.length < 1099511627775) (lm : Lim 4294967296 l) (hm0 : 0 < m) (hm1 : m < 1099511627776) (hb : V 4294967296 l * 2 ^ n < 4294967296 ^ m) :
    ∃ y : List Int, RetO env.P 126 [us l, .int .i64 n, .int .i64 m] 115 1 (emap u32 y) ∧ y.length = m ∧ Lim 4294967296 y ∧ V 4294967296 y = V 4294967296 l * 2 ^ n := by
  have hp : 0 ≤ V 4294967296 l * 2 ^ n := Int.mul_nonneg (V_nonneg (by decide) lm) (Int.le_of_lt (Int.pow_pos (by decide)))
  obtain ⟨N0, hN⟩ := Int.eq_ofNat_of_zero_le hp
  have hS := Shl_ret l n hn hl lm
  rw [hN] at hS hb
  replace hS : Ret env.P 131 [us l, .int .i64 n] (us (dig LL N0)) := hS
  have hdl : (dig LL N0).length ≤ m := dig_len hLL (by
    have h4 : ((4294967296 ^ m : Nat) : Int) = (4294967296 : Int) ^ m := Int.natCast_pow 4294967296 m
    show N0 < 4294967296 ^ m
    omega)
  have hdm := Lim_dig hLL N0
  have hdv := V_dig hLL N0
  refine ⟨dig LL N0 ++ List.replicate (m - (dig LL N0).length) 0, ?_, by simp; omega, Lim.append.2 ⟨hdm, Lim.rep (by decide) _⟩, by rw [V_append, V_rep, hN, ← hdv]; simp⟩
  generalize dig LL N0 = D at *
  refine retO_of_Wf (E := env) (fun _ => 0) (t := 6) [(0, us l), (1, .int .i64 n), (2, .int .i64 m)] Try.func126 rfl (by kernel_rfl) (by kernel_rfl) (show 3 ≤ 16 by decide) rfl (by simp) ?_
  refine W.sreg (fun K hK => ?_); simp (disch := omega) [gA, wrap_i64, wrap_u64, wrap_u32, Int.tdiv_eq_ediv_of_nonneg, Int.tmod_eq_emod_of_nonneg]; refine hK _ (W.liveK [0, 1, 2] fun K2 hK2 => ?_); clear hK K; simp; refine hK2 _ ?_; clear hK2 K2
  refine W.sreg (fun K hK => ?_); simp (disch := omega) [gA, wrap_i64, wrap_u64, wrap_u32, Int.tdiv_eq_ediv_of_nonneg, Int.tmod_eq_emod_of_nonneg]; refine hK _ (W.liveK [0, 1, 7] fun K2 hK2 => ?_); clear hK K; simp; refine hK2 _ ?_; clear hK2 K2
  refine W.sreg (fun K hK => ?_)
  simp (disch := omega) [gA, wrap_i64, wrap_u64, wrap_u32, Int.tdiv_eq_ediv_of_nonneg, Int.tmod_eq_emod_of_nonneg]
  refine callR hS ?_
  simp (disch := omega) [gA, wrap_i64, wrap_u64, wrap_u32, Int.tdiv_eq_ediv_of_nonneg, Int.tmod_eq_emod_of_nonneg]
  refine copyK (e' := 115) (els := emap u32 (List.replicate m 0)) (l := emap u32 D) (by simp) (by simp) hm0 rfl (fun e he => by simp only [emap, List.mem_map] at he; obtain ⟨x, _, rfl⟩ := he; rfl) ?_
  have e1 : (emap u32 (List.replicate m 0)).take 0 ++ (emap u32 D).take m ++ (emap u32 (List.replicate m 0)).drop (0 + min (emap u32 D).length m) = emap u32 (D ++ List.replicate (m - D.length) 0) := by
    simp only [emap, List.take_zero, List.nil_append, List.length_map, Nat.zero_add, List.map_append, Nat.min_eq_left hdl]
    rw [List.take_of_length_le (by simpa using hdl), ← List.map_drop, List.drop_replicate]
  rw [e1]
  generalize hy : D ++ List.replicate (m - D.length) 0 = y at *
  have hyl : y.length = m := by rw [← hy]; simp; omega
  simp (disch := omega) [gA, wrap_i64, wrap_u64, wrap_u32, Int.tdiv_eq_ediv_of_nonneg, Int.tmod_eq_emod_of_nonneg]
  refine hK _ (W.liveK [7] fun K2 hK2 => ?_); clear hK K; simp; refine hK2 _ ?_; clear hK2 K2
  refine W.sreg (fun K hK => ?_); simp (disch := omega) [gA, wrap_i64, wrap_u64, wrap_u32, Int.tdiv_eq_ediv_of_nonneg, Int.tmod_eq_emod_of_nonneg]; refine hK _ (W.liveK [6] fun K2 hK2 => ?_); clear hK K; simp; refine hK2 _ ?_; clear hK2 K2
  refine W.ret ?_
  exact ⟨9, 0, by simp [hyl], by simp, fun x hx p hp => by
    simp only [emap, List.mem_map] at hx
    obtain ⟨r, _, rfl⟩ := hx
    simp at hp
    subst hp; rfl⟩

theorem one_ret (a : List Int) (w : Int) (ha : a.length < 1099511627775) (la : Lim 4294967296 a) (hw0 : 0 < w) (hw1 : w < 4294967296) : Ret env.P 124 [us a, .int .u32 w] (.tup [N (V 4294967296 a / w), .int .u32 (V 4294967296 a % w)]) := by
  refine ret_of_Wf (E := env) (fun _ => 0) [(0, us a), (1, .int .u32 w)] Try.func124 rfl (by kernel_rfl) (by kernel_rfl) (show 2 ≤ 44 by decide) (by simp) ?_
  refine W.sreg (fun K hK => ?_); simp (disch := omega) [gA, wrap_i64, wrap_u64, wrap_u32, Int.tdiv_eq_ediv_of_nonneg, Int.tmod_eq_emod_of_nonneg]; refine hK _ (W.liveK [0, 1] fun K2 hK2 => ?_); clear hK K; simp; refine hK2 _ ?_; clear hK2 K2
  refine W.sreg (fun K hK => ?_); simp (disch := omega) [gA, wrap_i64, wrap_u64, wrap_u32, Int.tdiv_eq_ediv_of_nonneg, Int.tmod_eq_emod_of_nonneg]; refine hK _ (W.liveK [0, 1, 6] fun K2 hK2 => ?_); clear hK K; simp; refine hK2 _ ?_; clear hK2 K2
  refine W.sreg (fun K hK => ?_); simp (disch := omega) [gA, wrap_i64, wrap_u64, wrap_u32, Int.tdiv_eq_ediv_of_nonneg, Int.tmod_eq_emod_of_nonneg]; refine hK _ (W.liveK [0, 1, 6, 7] fun K2 hK2 => ?_); clear hK K; simp; refine hK2 _ ?_; clear hK2 K2
  refine W.seq ?_
  refine W.sreg (fun K hK => ?_); simp (disch := omega) [gA, wrap_i64, wrap_u64, wrap_u32, Int.tdiv_eq_ediv_of_nonneg, Int.tmod_eq_emod_of_nonneg]; refine hK _ (W.liveK [0, 1, 6, 7, 8] fun K2 hK2 => ?_); clear hK K; simp; refine hK2 _ ?_; clear hK2 K2
  refine W.block ?_   -- block 0
  refine W.loopG (fun q σ => ∃ (v : Nat) (r : Int) (z : List Int) (rows : Pm.Rows) (clk : Nat), σ = ⟨fa [(0, us a), (1, .int .u32 w), (6, .own 12 v 0 a.length), (7, .int .u64 r), (8, .int .i64 ((q : Int) - 1))], rows, clk⟩ ∧
    rows 12 = some ⟨v, 115, 1, emap u32 z⟩ ∧ q ≤ a.length ∧ z.length = a.length ∧ Lim 4294967296 z ∧ V 4294967296 (z.drop q) * w + r = V 4294967296 (a.drop q) ∧ 0 ≤ r ∧ r < w) a.length ?_ ?_
  · exact ⟨_, .refl, 0, 0, List.replicate a.length 0, _, _, rfl, by simp, by omega, by simp, Lim.rep (by decide) _, by simp [V], by omega, hw0⟩
  rintro q _ ⟨v, r, z, rows, clk, rfl, hr, hq, hz, lz, hV, hr0, hr1⟩
  refine W.seq ?_
  refine W.sreg (fun K hK => ?_); simp (disch := omega) [gA, wrap_i64, wrap_u64, wrap_u32, Int.tdiv_eq_ediv_of_nonneg, Int.tmod_eq_emod_of_nonneg]; refine hK _ (W.liveK [0, 1, 6, 7, 8, 17] fun K2 hK2 => ?_); clear hK K; simp; refine hK2 _ ?_; clear hK2 K2
  refine W.cond ⟨_, rfl, fun h => ?_, fun h => ?_⟩   -- t17
  · have hq0 : 0 < q := by simp at h; omega
    obtain ⟨j, rfl⟩ : ∃ j, q = j + 1 := ⟨q - 1, by omega⟩
    clear h
    have hj := la.nth (i := j) (by omega)
    have ej : ((j + 1 : Nat) : Int) - 1 = j := by omega
    rw [ej]
    have hVa : V 4294967296 (a.drop j) = nth a j + 4294967296 * V 4294967296 (a.drop (j + 1)) := by rw [drop_nth (by omega)]; rfl
    generalize hxe : nth a j = x at *
    have hrb : r * 4294967296 < 18446744073709551616 := by omega
    have hor := (orI_u64 (a := r * 4294967296) (b := x) 32 (by omega) hj.1 ⟨r, by rw [Int.mul_comm]; rfl⟩ (by simpa using hj.2) (by omega)).1
    refine W.skip ?_
    refine W.seq ?_
    refine W.block ?_   -- block 1
    refine W.sreg (fun K hK => ?_)
    simp (disch := omega) [gA, wrap_i64, wrap_u64, wrap_u32, Int.tdiv_eq_ediv_of_nonneg, Int.tmod_eq_emod_of_nonneg, hxe, hor]
    refine hK _ (W.liveK [0, 1, 6, 8, 9] fun K2 hK2 => ?_); clear hK K; simp; refine hK2 _ ?_; clear hK2 K2
    have hs : (r * 4294967296 + x) / w < 4294967296 := Int.ediv_lt_of_lt_mul hw0 (by
      have := Int.mul_le_mul_of_nonneg_right (show r + 1 ≤ w by omega) (show (0 : Int) ≤ 4294967296 by decide)
      rw [Int.mul_comm 4294967296]; omega)
    have hs0 : 0 ≤ (r * 4294967296 + x) / w := Int.ediv_nonneg (by omega) (by omega)
    have hm0 := Int.emod_nonneg (r * 4294967296 + x) (show w ≠ 0 by omega)
    have hm1 := Int.emod_lt_of_pos (r * 4294967296 + x) hw0
    have hde := Int.mul_ediv_add_emod (r * 4294967296 + x) w
    have hw' : ¬ w = 0 := by omega
    refine W.drw (fun K hK => ?_)
    simp (disch := omega) [gA, wrap_i64, wrap_u64, wrap_u32, Int.tdiv_eq_ediv_of_nonneg, Int.tmod_eq_emod_of_nonneg, hr, hz, hw']
    refine stepTxt (by kernel_rfl) ?_
    simp (disch := omega) [gA, wrap_i64, wrap_u64, wrap_u32, Int.tdiv_eq_ediv_of_nonneg, Int.tmod_eq_emod_of_nonneg, hr, hz, hw']
    refine hK _ (W.liveK [0, 1, 6, 7, 8] fun K2 hK2 => ?_); clear hK K; simp; refine hK2 _ ?_; clear hK2 K2
    refine W.reg (fun K hK => ?_); simp (disch := omega) [gA, wrap_i64, wrap_u64, wrap_u32, Int.tdiv_eq_ediv_of_nonneg, Int.tmod_eq_emod_of_nonneg]
    refine hK _ ⟨j, _, Gh_fa _ [0, 1, 6, 7, 8], by omega, v, (r * 4294967296 + x) % w, z.set j ((r * 4294967296 + x) / w), _, _, rfl, by simp, by omega, by simp [hz], lz.set ⟨hs0, hs⟩, ?_, hm0, hm1⟩
    rw [drop_nth (l := z.set j _) (i := j) (by simp; omega), nth_set_self (by omega), hVa, ← hV, List.drop_set_of_lt (by omega)]
    simp only [V]
    generalize (r * 4294967296 + x) / w = qq at *
    generalize (r * 4294967296 + x) % w = rr at *
    grind
  · have hq0 : q = 0 := by simp at h; omega
    subst hq0
    have zz := take_all hz
    have hcut := cut_ret z (by omega)
    simp only [List.drop_zero] at hV
    have h1 : V 4294967296 z = V 4294967296 a / w ∧ r = V 4294967296 a % w := by
      have h2 : V 4294967296 a / w = V 4294967296 z := by
        have e : (V 4294967296 z + 1) * w = V 4294967296 z * w + w := by grind
        rw [Int.ediv_eq_iff_of_pos hw0]
        constructor <;> omega
      refine ⟨h2.symm, ?_⟩
      have h3 := Int.emod_def (V 4294967296 a) w
      rw [h2, Int.mul_comm] at h3
      omega
    rw [N_cut lz, h1.1] at hcut
    have hr2 := h1.2
    refine W.exit ?_; simp only [pblk_exit, pblk_normal, pblk_ret, pseq_exit, pseq_normal, pseq_ret, pnor_exit, pnor_normal, pnor_ret, if_true, if_false, reduceIte, Nat.reduceEqDiff]
    refine W.sreg (fun K hK => ?_)
    simp (disch := omega) [gA, wrap_i64, wrap_u64, wrap_u32, Int.tdiv_eq_ediv_of_nonneg, Int.tmod_eq_emod_of_nonneg, hr, zz]
    refine callR hcut ?_
    simp (disch := omega) [gA, wrap_i64, wrap_u64, wrap_u32, Int.tdiv_eq_ediv_of_nonneg, Int.tmod_eq_emod_of_nonneg]
    refine hK _ (W.liveK [4, 5] fun K2 hK2 => ?_); clear hK K; simp; refine hK2 _ ?_; clear hK2 K2
    refine W.ret ?_
    simp [go, hr2]
end Go.Proofs.Ytjnkpfknmncdmaa
