import Derived.Test.YtjnkpfknmncdmaaLbg
import Derived.Test.YtjnkpfknmncdmaaLy
set_option linter.unusedSimpArgs false
set_option linter.unusedVariables false
namespace Go.Proofs.Ytjnkpfknmncdmaa
open Go Pm

/-- Sizes with which one can divide. -/
structure PD (x : List Int) : Prop where
  sz : ∀ v ∈ x, sz LL v < 1099511627774
  len : x.length < 1099511627774
theorem PD.pb {x : List Int} (h : PD x) : PB x := ⟨fun v hv => by have := h.sz v hv; show Pm.sz LL v < _; omega, by have := h.len; omega⟩
theorem PD.of {s n : Nat} {x : List Int} (h : Bd LL s n x) (hs : s < 1099511627774) (hn : n < 1099511627774) : PD x := ⟨fun v hv => Nat.lt_of_le_of_lt (h.sz v hv) hs, Nat.lt_of_le_of_lt h.len hn⟩
theorem PD.cut {x : List Int} (h : PD x) : PD (cutR x) := ⟨fun v hv => h.sz v (cutR_sub x v hv), Nat.lt_of_le_of_lt (cutR_len x) h.len⟩
theorem V_digA (v : Int) : V 4294967296 (dig LL v.natAbs) = v.natAbs := V_dig hLL v.natAbs
theorem wExactI {v c : Int} (hv : sz LL v < 1099511627774) (hc : sz LL c < 1099511627774) (h0 : c ≠ 0) : Ret env.P 98 [I v, I c] (if v % c = 0 then .tup [I (v / c), .int .i64 0] else .tup [I 0, .int .i64 3]) := by
  have := wExact_ret (decide (v < 0)) (decide (c < 0)) (dig LL v.natAbs) (dig LL c.natAbs) ⟨Lim_dig hLL _, by unfold sz at hv; omega⟩ ⟨Lim_dig hLL _, by unfold sz at hc; omega⟩ hv hc (by rw [V_digA]; omega)
  rwa [iv_I, iv_I] at this
/-- One over another where it comes out even, else 0. -/
def exq (c v : Int) : Int := if v % c = 0 then v / c else 0

theorem over_ret (x : List Int) (c : Int) (hx : PD x) (hc : sz LL c < 1099511627774) (h0 : c ≠ 0) : Ret env.P 83 [Po x, I c] (Po (cutR (x.map (exq c)))) := by
  have hxl := hx.len
  refine ret_of_Wf (E := env) (fun _ => 0) [(0, Po x), (1, I c)] Try.func83 rfl (by kernel_rfl) (by kernel_rfl) (show 2 ≤ 30 by decide) (by simp) ?_
  refine W.sreg (fun K hK => ?_); simp (disch := omega) [gA, wrap_i64, wrap_u64, wrap_u32, Int.tdiv_eq_ediv_of_nonneg, Int.tmod_eq_emod_of_nonneg]; refine hK _ (W.liveK [0, 3] fun K2 hK2 => ?_); clear hK K; simp; refine hK2 _ ?_; clear hK2 K2
  refine W.sreg (fun K hK => ?_); simp (disch := omega) [gA, wrap_i64, wrap_u64, wrap_u32, Int.tdiv_eq_ediv_of_nonneg, Int.tmod_eq_emod_of_nonneg]; refine hK _ (W.liveK [0, 3, 5] fun K2 hK2 => ?_); clear hK K; simp; refine hK2 _ ?_; clear hK2 K2
  refine W.row (id := 10) (emap ie (List.replicate x.length 0)) (by simp; exact ⟨rfl, rfl, rfl⟩) (row_ie _) ?_
  refine W.seq ?_
  refine W.sreg (fun K hK => ?_); simp (disch := omega) [gA, wrap_i64, wrap_u64, wrap_u32, Int.tdiv_eq_ediv_of_nonneg, Int.tmod_eq_emod_of_nonneg]; refine hK _ (W.liveK [3, 5, 11, 12, 13] fun K2 hK2 => ?_); clear hK K; simp; refine hK2 _ ?_; clear hK2 K2
  refine W.block ?_   -- block 0
  refine W.loopG (fun q σ => ∃ (i : Nat) (z : List Int) (v10 : Nat) (rows : Pm.Rows) (clk : Nat), σ = ⟨fa [(3, .ptr 3 0 0 0), (5, .own 10 v10 0 x.length), (11, Po x), (12, .int .i64 x.length), (13, .int .i64 i)], rows, clk⟩ ∧
    rows 3 = some ⟨0, 68, 2, [ie c]⟩ ∧ rows 10 = some ⟨v10, 68, 2, emap ie z⟩ ∧ q = x.length - i ∧ i ≤ x.length ∧ z.length = x.length ∧ z.take i = (x.take i).map (exq c)) x.length ?_ ?_
  · exact ⟨_, .refl, 0, List.replicate x.length 0, _, _, _, rfl, by simp, by simp, by omega, by omega, by simp, by simp⟩
  rintro q _ ⟨i, z, v10, rows, clk, rfl, hr3, hr10, hq, hi, hz, hv⟩
  refine W.sreg (fun K hK => ?_); simp (disch := omega) [gA, wrap_i64, wrap_u64, wrap_u32, Int.tdiv_eq_ediv_of_nonneg, Int.tmod_eq_emod_of_nonneg]; refine hK _ (W.liveK [3, 5, 11, 12, 13, 14] fun K2 hK2 => ?_); clear hK K; simp; refine hK2 _ ?_; clear hK2 K2
  refine W.seq ?_
  refine W.cond ⟨_, rfl, fun h => ?_, fun h => ?_⟩   -- t14
  · have hi : i < x.length := by simp at h; omega
    have hE := wExactI (hx.sz _ (nth_mem hi)) hc h0
    have hE2 : Ret env.P 98 [I (nth x i), I c] (.tup [I (exq c (nth x i)), .int .i64 (if nth x i % c = 0 then 0 else 3)]) := by
      unfold exq
      split at hE
      · rename_i h1; rw [if_pos h1, if_pos h1]; exact hE
      · rename_i h1; rw [if_neg h1, if_neg h1]; exact hE
    have hts : (x.take (i + 1)).map (exq c) = (x.take i).map (exq c) ++ [exq c (nth x i)] := by rw [take_succ_nth hi]; simp
    generalize (if nth x i % c = 0 then (0 : Int) else 3) = er at *
    generalize exq c (nth x i) = ev at *
    generalize hxe : nth x i = xi at *
    refine W.skip ?_
    refine W.seq ?_
    refine W.block ?_   -- block 1
    refine W.sreg (fun K hK => ?_); simp (disch := omega) [gA, wrap_i64, wrap_u64, wrap_u32, Int.tdiv_eq_ediv_of_nonneg, Int.tmod_eq_emod_of_nonneg, hxe]; refine hK _ (W.liveK [3, 5, 6, 7, 11, 12, 13] fun K2 hK2 => ?_); clear hK K; simp; refine hK2 _ ?_; clear hK2 K2
    refine W.reg (fun K hK => ?_)
    simp (disch := omega) [gA, wrap_i64, wrap_u64, wrap_u32, Int.tdiv_eq_ediv_of_nonneg, Int.tmod_eq_emod_of_nonneg, hr3]
    refine callR hE2 ?_
    simp (disch := omega) [gA, wrap_i64, wrap_u64, wrap_u32, Int.tdiv_eq_ediv_of_nonneg, Int.tmod_eq_emod_of_nonneg, hr10, hz]
    refine hK _ (W.liveK [3, 5, 11, 12, 13] fun K2 hK2 => ?_); clear hK K; simp; refine hK2 _ ?_; clear hK2 K2
    refine W.reg (fun K hK => ?_); simp (disch := omega) [gA, wrap_i64, wrap_u64, wrap_u32, Int.tdiv_eq_ediv_of_nonneg, Int.tmod_eq_emod_of_nonneg]
    refine hK _ ⟨x.length - (i + 1), _, Gh_fa _ [3, 5, 11, 12, 13], by omega, i + 1, z.set i ev, v10, _, _, rfl, by simp [hr3], by simp, by omega, by omega, by simp [hz], ?_⟩
    rw [set_take hv (by omega), hts]
  · have hi : i = x.length := by simp at h; omega
    subst hi
    rw [take_all hz, List.take_length] at hv
    have hz2 := take_all hz
    refine W.exit ?_; simp only [pblk_exit, pblk_normal, pblk_ret, pseq_exit, pseq_normal, pseq_ret, pnor_exit, pnor_normal, pnor_ret, if_true, if_false, reduceIte, Nat.reduceEqDiff]
    have hzb : PB z := by
      rw [hv]
      refine ⟨fun v hv => ?_, by simpa using by omega⟩
      simp only [List.mem_map] at hv
      obtain ⟨w, hw, rfl⟩ := hv
      have h1 := hx.sz w hw
      show sz LL (exq c w) < 1099511627776
      refine Nat.lt_of_le_of_lt (sz_mono hLL (y := w) ?_) (by omega)
      unfold exq; split
      · exact Int.natAbs_ediv_le_natAbs _ _
      · simp
    have hN := pNormI_ret hzb
    rw [hv] at hN hr10 hz2
    generalize x.map (exq c) = y at *
    have hyl : y.length = x.length := by rw [← hv]; exact hz
    refine W.sreg (fun K hK => ?_)
    simp (disch := omega) [gA, wrap_i64, wrap_u64, wrap_u32, Int.tdiv_eq_ediv_of_nonneg, Int.tmod_eq_emod_of_nonneg, hr10, hz2]
    refine callR hN ?_
    simp (disch := omega) [gA, wrap_i64, wrap_u64, wrap_u32, Int.tdiv_eq_ediv_of_nonneg, Int.tmod_eq_emod_of_nonneg]
    refine hK _ (W.liveK [4] fun K2 hK2 => ?_); clear hK K; simp; refine hK2 _ ?_; clear hK2 K2
    refine W.ret ?_
    simp [go]

theorem Content_ret (l : List RP) (K0 : Nat) (hK0 : K0 < 1099511627774) (hp : ∀ p ∈ l, ∀ c ∈ p, Lim 4294967296 c.2 ∧ c.2.length ≤ K0) (hl : l.length < 1099511627776) (hf : l.flatten.length < 1099511627776) :
    Ret env.P 46 [sls pe l] (I (gcdL (l.flatten.map gv))) := by
  refine ret_of_Wf (E := env) (fun _ => 0) [(0, sls pe l)] Try.func46 rfl (by kernel_rfl) (by kernel_rfl) (show 1 ≤ 18 by decide) (by simp) ?_
  refine W.sreg (fun K hK => ?_); simp (disch := omega) [gA, wrap_i64, wrap_u64, wrap_u32, Int.tdiv_eq_ediv_of_nonneg, Int.tmod_eq_emod_of_nonneg]; refine hK _ (W.liveK [0, 2] fun K2 hK2 => ?_); clear hK K; simp; refine hK2 _ ?_; clear hK2 K2
  refine W.sreg (fun K hK => ?_); simp (disch := omega) [gA, wrap_i64, wrap_u64, wrap_u32, Int.tdiv_eq_ediv_of_nonneg, Int.tmod_eq_emod_of_nonneg]; refine hK _ (W.liveK [0, 2, 3] fun K2 hK2 => ?_); clear hK K; simp; refine hK2 _ ?_; clear hK2 K2
  refine W.nil 3 3 68 2 (by simp) (by decide) (fun K hK => ?_)
  refine hK _ (W.liveK [0, 2, 3] fun K2 hK2 => ?_); clear hK K; simp; refine hK2 _ ?_; clear hK2 K2
  refine W.seq ?_
  refine W.sreg (fun K hK => ?_); simp (disch := omega) [gA, wrap_i64, wrap_u64, wrap_u32, Int.tdiv_eq_ediv_of_nonneg, Int.tmod_eq_emod_of_nonneg]; refine hK _ (W.liveK [2, 3, 6, 7, 8] fun K2 hK2 => ?_); clear hK K; simp; refine hK2 _ ?_; clear hK2 K2
  refine W.block ?_   -- block 0
  refine W.loopG (fun q σ => ∃ (i v3 : Nat) (A : RP) (rows : Pm.Rows) (clk : Nat), σ = ⟨fa [(2, .ptr 2 0 0 0), (3, .own 3 v3 0 A.length), (6, sls pe l), (7, .int .i64 l.length), (8, .int .i64 i)], rows, clk⟩ ∧
    rows 2 = some ⟨0, 68, 2, [[.bool false, .nil]]⟩ ∧ rows 3 = some ⟨v3, 68, 2, emap ge A⟩ ∧ q = l.length - i ∧ i ≤ l.length ∧ A = (l.take i).flatten) l.length ?_ ?_
  · exact ⟨_, .refl, 0, _, [], _, _, rfl, by simp, by simp [emap], by omega, by omega, by simp⟩
  rintro q _ ⟨i, v3, A, rows, clk, rfl, hr2, hr3, hq, hi, hA⟩
  refine W.sreg (fun K hK => ?_); simp (disch := omega) [gA, wrap_i64, wrap_u64, wrap_u32, Int.tdiv_eq_ediv_of_nonneg, Int.tmod_eq_emod_of_nonneg]; refine hK _ (W.liveK [2, 3, 6, 7, 8, 9] fun K2 hK2 => ?_); clear hK K; simp; refine hK2 _ ?_; clear hK2 K2
  refine W.seq ?_
  refine W.cond ⟨_, rfl, fun h => ?_, fun h => ?_⟩   -- t9
  · have hi : i < l.length := by simp at h; omega
    have hfs : (l.take (i + 1)).flatten = (l.take i).flatten ++ nth l i := by rw [take_succ_nth hi]; simp
    have hfl : (l.take (i + 1)).flatten.length ≤ l.flatten.length := by
      have e := List.take_append_drop (i + 1) l
      have e2 : l.flatten = (l.take (i + 1)).flatten ++ (l.drop (i + 1)).flatten := by rw [← List.flatten_append, e]
      rw [e2, List.length_append]; omega
    have hl2 : (l.take i).flatten.length + (nth l i).length < 1099511627776 := by
      rw [hfs, List.length_append] at hfl; omega
    have hls : (l.take (i + 1)).flatten.length = (l.take i).flatten.length + (nth l i).length := by rw [hfs, List.length_append]
    rw [← hA] at hfs hl2 hls
    generalize hpe : nth l i = p at *
    refine W.skip ?_
    refine W.seq ?_
    refine W.block ?_   -- block 1
    refine W.sreg (fun K hK => ?_); simp (disch := omega) [gA, wrap_i64, wrap_u64, wrap_u32, Int.tdiv_eq_ediv_of_nonneg, Int.tmod_eq_emod_of_nonneg, hpe]; refine hK _ (W.liveK [2, 3, 5, 6, 7, 8] fun K2 hK2 => ?_); clear hK K; simp; refine hK2 _ ?_; clear hK2 K2
    refine W.reg (fun K hK => ?_)
    simp (disch := omega) [gA, wrap_i64, wrap_u64, wrap_u32, Int.tdiv_eq_ediv_of_nonneg, Int.tmod_eq_emod_of_nonneg, hr3]
    refine hK _ (W.liveK [2, 3, 6, 7, 8] fun K2 hK2 => ?_); clear hK K; simp; refine hK2 _ ?_; clear hK2 K2
    refine W.reg (fun K hK => ?_); simp (disch := omega) [gA, wrap_i64, wrap_u64, wrap_u32, Int.tdiv_eq_ediv_of_nonneg, Int.tmod_eq_emod_of_nonneg]
    refine hK _ ⟨l.length - (i + 1), _, Gh.fr [(2, .ptr 2 0 0 0), (3, .own 3 _ 0 (A ++ p).length), (6, sls pe l), (7, .int .i64 l.length), (8, .int .i64 ((i + 1 : Nat) : Int))] (by simp; exact rfl), by omega, i + 1, _, A ++ p, _, _, rfl, by simp [hr2], by simp, by omega, by omega, hfs.symm⟩
  · have hi : i = l.length := by simp at h; omega
    subst hi
    rw [List.take_length] at hA
    have hG := wGcd_ret l.flatten K0 hK0 (fun c hc => by
      obtain ⟨p, hpl, hcp⟩ := List.mem_flatten.1 hc
      exact hp p hpl c hcp) hf
    rw [← hA] at hG ⊢
    generalize (gcdL (A.map gv) : Int) = g at *
    refine W.exit ?_; simp only [pblk_exit, pblk_normal, pblk_ret, pseq_exit, pseq_normal, pseq_ret, pnor_exit, pnor_normal, pnor_ret, if_true, if_false, reduceIte, Nat.reduceEqDiff]
    refine W.sreg (fun K hK => ?_)
    simp (disch := omega) [gA, wrap_i64, wrap_u64, wrap_u32, Int.tdiv_eq_ediv_of_nonneg, Int.tmod_eq_emod_of_nonneg, hr3]
    refine callR hG ?_
    simp (disch := omega) [gA, wrap_i64, wrap_u64, wrap_u32, Int.tdiv_eq_ediv_of_nonneg, Int.tmod_eq_emod_of_nonneg, hr2]
    refine hK _ (W.liveK [2] fun K2 hK2 => ?_); clear hK K; simp; refine hK2 _ ?_; clear hK2 K2
    refine W.ret ?_
    simp [go]
end Go.Proofs.Ytjnkpfknmncdmaa
