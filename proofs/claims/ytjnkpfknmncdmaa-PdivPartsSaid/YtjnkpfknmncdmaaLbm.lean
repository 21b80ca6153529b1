import Derived.Test.YtjnkpfknmncdmaaLbk
set_option linter.unusedSimpArgs false
set_option linter.unusedVariables false
namespace Go.Proofs.Ytjnkpfknmncdmaa
open Go Pm

/-- The quotient over the whole numbers, step by step. -/
def exs (b : List Int) : Nat → List Int → List Int → Option (List Int × List Int)
  | 0, q, a => some (q, a)
  | i + 1, q, a => if a.length < b.length + i then exs b i q a else if lead a % lead b = 0 then exs b i (q.set i (lead a / lead b)) (psub a (pmul (stp i (lead a / lead b)) b)) else none
def exF : Option (List Int × List Int) → Option (List Int)
  | some (q, []) => some (cutR q)
  | _ => none
def exact (a b : List Int) : Option (List Int) := exF (exs b (psk a b) (List.replicate (psk a b) 0) a)
def exR (o : Option (List Int)) : PV :=
  match o with
  | some q => .tup [Po q, .int .i64 0]
  | none => .tup [Po [], .int .i64 3]
theorem Bd.set {B s n : Nat} {x : List Int} (h : Bd B s n x) {i : Nat} {v : Int} (hv : Pm.sz B v ≤ s) : Bd B s n (x.set i v) := ⟨by simpa using h.len, fun c hc => by
  rcases List.mem_or_eq_of_mem_set hc with h1 | h1
  · exact h.sz c h1
  · rw [h1]; exact hv⟩

theorem Exact_ret (a b : RP) {s s' N : Nat} (ha : POK a) (hb : POK b) (sa : Bd LL s N (a.map gv)) (sb : Bd LL s' N (b.map gv)) (hB : s + N * (s' + N + 1) + s' + N + N + 10 < 1099511627774) :
    Ret env.P 49 [Pg a, Pg b] (if cfs b = [] then .tup [Po [], .int .i64 2] else exR (exact (cfs a) (cfs b))) := by
  have hA : Bd LL s N (cfs a) := sa.cut
  have hBb : Bd LL s' N (cfs b) := sb.cut
  have ca : Cn (cfs a) := Cn.cut _
  have cb : Cn (cfs b) := Cn.cut _
  have na := pNorm_ret a ha
  have nb := pNorm_ret b hb
  rw [show cutR (a.map gv) = cfs a from rfl] at na
  rw [show cutR (b.map gv) = cfs b from rfl] at nb
  refine ret_of_Wf (E := env) (fun _ => 0) [(0, Pg a), (1, Pg b)] Try.func49 rfl (by kernel_rfl) (by kernel_rfl) (show 2 ≤ 71 by decide) (by simp) ?_
  generalize cfs a = x at *
  generalize cfs b = y at *
  refine W.sreg (fun K hK => ?_); simp (disch := omega) [gA, wrap_i64, wrap_u64, wrap_u32, Int.tdiv_eq_ediv_of_nonneg, Int.tmod_eq_emod_of_nonneg]; refine hK _ (W.liveK [0, 1] fun K2 hK2 => ?_); clear hK K; simp; refine hK2 _ ?_; clear hK2 K2
  refine W.sreg (fun K hK => ?_)
  simp (disch := omega) [gA, wrap_i64, wrap_u64, wrap_u32, Int.tdiv_eq_ediv_of_nonneg, Int.tmod_eq_emod_of_nonneg]
  refine callR na ?_
  simp (disch := omega) [gA, wrap_i64, wrap_u64, wrap_u32, Int.tdiv_eq_ediv_of_nonneg, Int.tmod_eq_emod_of_nonneg]
  refine callR nb ?_
  simp (disch := omega) [gA, wrap_i64, wrap_u64, wrap_u32, Int.tdiv_eq_ediv_of_nonneg, Int.tmod_eq_emod_of_nonneg]
  refine hK _ (W.liveK [0, 1] fun K2 hK2 => ?_); clear hK K; simp; refine hK2 _ ?_; clear hK2 K2
  refine W.seq ?_
  refine W.sreg (fun K hK => ?_); simp (disch := omega) [gA, wrap_i64, wrap_u64, wrap_u32, Int.tdiv_eq_ediv_of_nonneg, Int.tmod_eq_emod_of_nonneg]; refine hK _ (W.liveK [0, 1, 17] fun K2 hK2 => ?_); clear hK K; simp; refine hK2 _ ?_; clear hK2 K2
  refine W.cond ⟨_, rfl, fun h => ?_, fun h => ?_⟩   -- t17
  · have h : y = [] := by simp at h; exact h
    rw [if_pos h]
    refine W.sreg (fun K hK => ?_); simp (disch := omega) [gA, wrap_i64, wrap_u64, wrap_u32, Int.tdiv_eq_ediv_of_nonneg, Int.tmod_eq_emod_of_nonneg]; refine hK _ (W.liveK [4, 5] fun K2 hK2 => ?_); clear hK K; simp; refine hK2 _ ?_; clear hK2 K2
    refine W.ret ?_
    simp [go]
    rfl
  have hy : y ≠ [] := by simp at h; exact h
  clear h
  rw [if_neg hy]
  have hy0 : 0 < y.length := List.length_pos_iff.2 hy
  have hNx := hA.len
  have hNy := hBb.len
  have hsy := lead_bd hBb
  have hly := lead_ne cb hy0
  have hL := LeadI_ret (PB.of hBb (by omega) (by omega)) cb
  have hDy := DegI_ret y (by omega)
  have hkN : psk x y ≤ N := by unfold psk; omega
  generalize hdd : s' + N + 1 = d at *
  have hNN : ∀ j, j ≤ N → (N - j) * d ≤ N * d := fun j _ => Nat.mul_le_mul_right _ (by omega)
  have hkk : (if (0 : Int) < (x.length : Int) - (y.length : Int) + 1 then (x.length : Int) - (y.length : Int) + 1 else 0) = (psk x y : Int) := by unfold psk; split <;> omega
  refine W.skip ?_
  refine W.sreg (fun K hK => ?_)
  simp (disch := omega) [gA, wrap_i64, wrap_u64, wrap_u32, Int.tdiv_eq_ediv_of_nonneg, Int.tmod_eq_emod_of_nonneg, hkk]
  refine hK _ (W.liveK [0, 1, 6] fun K2 hK2 => ?_); clear hK K; simp; refine hK2 _ ?_; clear hK2 K2
  refine W.row (id := 25) (emap ie (List.replicate (psk x y) 0)) (by simp; exact ⟨rfl, rfl, rfl⟩) (row_ie _) ?_
  refine W.seq ?_
  refine W.sreg (fun K hK => ?_); simp (disch := omega) [gA, wrap_i64, wrap_u64, wrap_u32, Int.tdiv_eq_ediv_of_nonneg, Int.tmod_eq_emod_of_nonneg]; refine hK _ (W.liveK [0, 1, 6, 7] fun K2 hK2 => ?_); clear hK K; simp; refine hK2 _ ?_; clear hK2 K2
  refine W.block ?_   -- block 0
  obtain ⟨R0, hR0⟩ : ∃ R0, R0 = exs y (psk x y) (List.replicate (psk x y) 0) x := ⟨_, rfl⟩
  have hex : exact x y = exF R0 := by rw [hR0]; rfl
  rw [hex]
  clear hex
  generalize hk0 : psk x y = k0 at *
  refine W.loopG (fun j σ => ∃ (v6 : Nat) (z r : List Int) (rows : Pm.Rows) (clk : Nat), σ = ⟨fa [(0, Po r), (1, Po y), (6, .own 25 v6 0 k0), (7, .int .i64 ((j : Int) - 1))], rows, clk⟩ ∧
    rows 25 = some ⟨v6, 68, 2, emap ie z⟩ ∧ z.length = k0 ∧ j ≤ k0 ∧ exs y j z r = R0 ∧ Bd LL (s + (N - j) * d) (N + N) z ∧ Bd LL (s + (N - j) * d) (N + N) r ∧ Cn r) k0 ?_ ?_
  · exact ⟨_, .refl, _, List.replicate k0 0, x, _, _, rfl, by simp, by simp, by omega, hR0.symm, ⟨by simp; omega, fun c hc => by rw [(List.mem_replicate.1 hc).2, sz_zero]; omega⟩, hA.mono (by omega) (by omega), ca⟩
  rintro j _ ⟨v6, z, r, rows, clk, rfl, hr25, hz, hj, hps, bz, br, cr⟩
  refine W.seq ?_
  refine W.sreg (fun K hK => ?_); simp (disch := omega) [gA, wrap_i64, wrap_u64, wrap_u32, Int.tdiv_eq_ediv_of_nonneg, Int.tmod_eq_emod_of_nonneg]; refine hK _ (W.liveK [0, 1, 6, 7, 30] fun K2 hK2 => ?_); clear hK K; simp; refine hK2 _ ?_; clear hK2 K2
  refine W.cond ⟨_, rfl, fun h => ?_, fun h => ?_⟩   -- t30
  · have hj0 : 0 < j := by simp at h; omega
    obtain ⟨i, rfl⟩ : ∃ i, j = i + 1 := ⟨j - 1, by omega⟩
    clear h
    have ei : ((i + 1 : Nat) : Int) - 1 = i := by omega
    rw [ei]
    have hN1 := hNN (i + 1) (by omega)
    have hN2 := hNN i (by omega)
    have hT : s + (N - i) * d = s + (N - (i + 1)) * d + s' + N + 1 := by
      rw [show N - i = (N - (i + 1)) + 1 by omega, Nat.add_mul, Nat.one_mul]; omega
    have hDr := DegI_ret r (by have := br.len; omega)
    have hLr := LeadI_ret (PB.of br (by omega) (by omega)) cr
    have hlr := lead_bd br
    rw [exs] at hps
    refine W.skip ?_
    refine W.seq_blockJ (fun σ => ∃ (z r : List Int) (rows : Pm.Rows) (clk : Nat), σ = ⟨fa [(0, Po r), (1, Po y), (6, .own 25 v6 0 k0), (7, .int .i64 i)], rows, clk⟩ ∧
      rows 25 = some ⟨v6, 68, 2, emap ie z⟩ ∧ z.length = k0 ∧ exs y i z r = R0 ∧ Bd LL (s + (N - i) * d) (N + N) z ∧ Bd LL (s + (N - i) * d) (N + N) r ∧ Cn r) ?_ ?_   -- block 1
    ·
      refine W.seq ?_
      refine W.sreg (fun K hK => ?_)
      simp (disch := omega) [gA, wrap_i64, wrap_u64, wrap_u32, Int.tdiv_eq_ediv_of_nonneg, Int.tmod_eq_emod_of_nonneg]
      refine callR hDr ?_
      simp (disch := omega) [gA, wrap_i64, wrap_u64, wrap_u32, Int.tdiv_eq_ediv_of_nonneg, Int.tmod_eq_emod_of_nonneg]
      refine callR hDy ?_
      simp (disch := omega) [gA, wrap_i64, wrap_u64, wrap_u32, Int.tdiv_eq_ediv_of_nonneg, Int.tmod_eq_emod_of_nonneg]
      refine hK _ (W.liveK [0, 1, 6, 7, 39] fun K2 hK2 => ?_); clear hK K; simp; refine hK2 _ ?_; clear hK2 K2
      by_cases hlen : r.length < y.length + i
      · rw [if_pos hlen] at hps
        refine W.cond ⟨_, rfl, fun h => ?_, fun h => ?_⟩   -- t39
        · refine W.exit ?_; simp only [pblk_exit, pblk_normal, pblk_ret, pseq_exit, pseq_normal, pseq_ret, pnor_exit, pnor_normal, pnor_ret, if_true, if_false, reduceIte, Nat.reduceEqDiff]
          exact ⟨_, Gh_fa _ [0, 1, 6, 7], z, r, _, _, rfl, hr25, hz, hps, bz.mono (by omega) (by omega), br.mono (by omega) (by omega), cr⟩
        · exfalso; simp at h; omega
      rw [if_neg hlen] at hps
      refine W.cond ⟨_, rfl, fun h => ?_, fun h => ?_⟩   -- t39
      · exfalso; simp at h; omega
      clear h
      have hE := wExactI (v := lead r) (c := lead y) (by omega) (by omega) hly
      refine W.skip ?_
      by_cases hdv : lead r % lead y = 0
      · rw [if_pos hdv] at hE hps
        have hts : sz LL (lead r / lead y) ≤ s + (N - (i + 1)) * d := Nat.le_trans (sz_mono hLL (Int.natAbs_ediv_le_natAbs _ _)) hlr
        have bs := Bd.stp hts i
        have bm := bs.pmul hLL hBb
        have b2 : Bd LL (s + (N - i) * d) (N + N) (psub r (pmul (stp i (lead r / lead y)) y)) := (Bd.psub hLL (br.mono (s' := s + (N - (i + 1)) * d + s' + N) (n' := N + N) (by omega) (by omega)) (bm.mono (by omega) (by omega))).mono (by omega) (by omega)
        have f4 := pMulI_ret bs hBb (by omega)
        have f5 := pSubI_ret (PB.of br (by omega) (by omega)) (PB.of bm (by omega) (by omega))
        have cr2 : Cn (psub r (pmul (stp i (lead r / lead y)) y)) := Cn.psub _ _
        have bz2 := Bd.set (i := i) (bz.mono (s' := s + (N - i) * d) (n' := N + N) (by omega) (by omega)) (Nat.le_trans hts (by omega))
        generalize hr2 : psub r (pmul (stp i (lead r / lead y)) y) = r2 at *
        generalize pmul (stp i (lead r / lead y)) y = pm at *
        generalize lead r / lead y = tt at *
        have hset := rep_append_set i tt
        have hsl2 : (stp i tt).length = i + 1 := by simp [stp]
        have hst := take_all hsl2
        generalize lead r = lr at *
        generalize lead y = ly at *
        refine W.sreg (fun K hK => ?_)
        simp (disch := omega) [gA, wrap_i64, wrap_u64, wrap_u32, Int.tdiv_eq_ediv_of_nonneg, Int.tmod_eq_emod_of_nonneg]
        refine callR hLr ?_
        simp (disch := omega) [gA, wrap_i64, wrap_u64, wrap_u32, Int.tdiv_eq_ediv_of_nonneg, Int.tmod_eq_emod_of_nonneg]
        refine callR hL ?_
        simp (disch := omega) [gA, wrap_i64, wrap_u64, wrap_u32, Int.tdiv_eq_ediv_of_nonneg, Int.tmod_eq_emod_of_nonneg]
        refine callR hE ?_
        simp (disch := omega) [gA, wrap_i64, wrap_u64, wrap_u32, Int.tdiv_eq_ediv_of_nonneg, Int.tmod_eq_emod_of_nonneg]
        refine hK _ (W.liveK [0, 1, 6, 7, 8, 9] fun K2 hK2 => ?_); clear hK K; simp; refine hK2 _ ?_; clear hK2 K2
        refine W.seq ?_
        refine W.sreg (fun K hK => ?_); simp (disch := omega) [gA, wrap_i64, wrap_u64, wrap_u32, Int.tdiv_eq_ediv_of_nonneg, Int.tmod_eq_emod_of_nonneg]; refine hK _ (W.liveK [0, 1, 6, 7, 8, 49] fun K2 hK2 => ?_); clear hK K; simp; refine hK2 _ ?_; clear hK2 K2
        refine W.cond ⟨_, rfl, fun h => ?_, fun h => ?_⟩   -- t49
        · cases h
        refine W.skip ?_
        refine W.sreg (fun K hK => ?_)
        simp (disch := omega) [gA, wrap_i64, wrap_u64, wrap_u32, Int.tdiv_eq_ediv_of_nonneg, Int.tmod_eq_emod_of_nonneg, hr25, hz]
        refine hK _ (W.liveK [0, 1, 6, 7, 8] fun K2 hK2 => ?_); clear hK K; simp; refine hK2 _ ?_; clear hK2 K2
        have e9 : ((i : Int) + 1).toNat = i + 1 := by omega
        refine W.sreg (fun K hK => ?_); simp (disch := omega) [gA, wrap_i64, wrap_u64, wrap_u32, Int.tdiv_eq_ediv_of_nonneg, Int.tmod_eq_emod_of_nonneg, e9]; refine hK _ (W.liveK [0, 1, 6, 7, 8, 10] fun K2 hK2 => ?_); clear hK K; simp; refine hK2 _ ?_; clear hK2 K2
        refine W.row (id := 56) (emap ie (List.replicate (i + 1) 0)) (by simp; exact ⟨rfl, rfl, rfl⟩) (row_ie _) ?_
        refine W.sreg (fun K hK => ?_)
        simp (disch := omega) [gA, wrap_i64, wrap_u64, wrap_u32, Int.tdiv_eq_ediv_of_nonneg, Int.tmod_eq_emod_of_nonneg, hset]
        refine hK _ (W.liveK [0, 1, 6, 7, 10] fun K2 hK2 => ?_); clear hK K; simp; refine hK2 _ ?_; clear hK2 K2
        refine W.freeze 56 (by simp) (fun K hK => ?_)
        simp [hst]
        refine hK _ ?_; clear hK K
        refine W.reg (fun K hK => ?_)
        simp (disch := omega) [gA, wrap_i64, wrap_u64, wrap_u32, Int.tdiv_eq_ediv_of_nonneg, Int.tmod_eq_emod_of_nonneg]
        refine callR f4 ?_
        simp (disch := omega) [gA, wrap_i64, wrap_u64, wrap_u32, Int.tdiv_eq_ediv_of_nonneg, Int.tmod_eq_emod_of_nonneg]
        refine callR f5 ?_
        simp (disch := omega) [gA, wrap_i64, wrap_u64, wrap_u32, Int.tdiv_eq_ediv_of_nonneg, Int.tmod_eq_emod_of_nonneg]
        exact hK _ ⟨_, Gh_fa _ [0, 1, 6, 7], z.set i tt, r2, _, _, rfl, by simp, by simp [hz], hps, bz2, b2, cr2⟩
      · rw [if_neg hdv] at hE hps
        subst hps
        refine W.sreg (fun K hK => ?_)
        simp (disch := omega) [gA, wrap_i64, wrap_u64, wrap_u32, Int.tdiv_eq_ediv_of_nonneg, Int.tmod_eq_emod_of_nonneg]
        refine callR hLr ?_
        simp (disch := omega) [gA, wrap_i64, wrap_u64, wrap_u32, Int.tdiv_eq_ediv_of_nonneg, Int.tmod_eq_emod_of_nonneg]
        refine callR hL ?_
        simp (disch := omega) [gA, wrap_i64, wrap_u64, wrap_u32, Int.tdiv_eq_ediv_of_nonneg, Int.tmod_eq_emod_of_nonneg]
        refine callR hE ?_
        simp (disch := omega) [gA, wrap_i64, wrap_u64, wrap_u32, Int.tdiv_eq_ediv_of_nonneg, Int.tmod_eq_emod_of_nonneg]
        refine hK _ (W.liveK [0, 1, 6, 7, 8, 9] fun K2 hK2 => ?_); clear hK K; simp; refine hK2 _ ?_; clear hK2 K2
        refine W.seq ?_
        refine W.sreg (fun K hK => ?_); simp (disch := omega) [gA, wrap_i64, wrap_u64, wrap_u32, Int.tdiv_eq_ediv_of_nonneg, Int.tmod_eq_emod_of_nonneg]; refine hK _ (W.liveK [0, 1, 6, 7, 8, 49] fun K2 hK2 => ?_); clear hK K; simp; refine hK2 _ ?_; clear hK2 K2
        refine W.cond ⟨_, rfl, fun h => ?_, fun h => ?_⟩   -- t49
        · refine W.sreg (fun K hK => ?_); simp (disch := omega) [gA, wrap_i64, wrap_u64, wrap_u32, Int.tdiv_eq_ediv_of_nonneg, Int.tmod_eq_emod_of_nonneg]; refine hK _ (W.liveK [4, 5] fun K2 hK2 => ?_); clear hK K; simp; refine hK2 _ ?_; clear hK2 K2
          refine W.ret ?_
          simp [go, exR, exF]
          rfl
        · cases h
    rintro _ ⟨z, r, rows, clk, rfl, hr25, hz, hps, bz, br, cr⟩
    refine W.reg (fun K hK => ?_); simp (disch := omega) [gA, wrap_i64, wrap_u64, wrap_u32, Int.tdiv_eq_ediv_of_nonneg, Int.tmod_eq_emod_of_nonneg]
    refine hK _ ⟨i, _, Gh_fa _ [0, 1, 6, 7], by omega, v6, z, r, _, _, rfl, by simp [hr25], hz, by omega, hps, bz, br, cr⟩
  · have hj0 : j = 0 := by simp at h; omega
    subst hj0
    simp only [exs] at hps
    rw [← hps]
    have hN0 := hNN 0 (by omega)
    have hzn := pNormI_ret (PB.of bz (by omega) (by omega))
    have hzz := take_all hz
    refine W.exit ?_; simp only [pblk_exit, pblk_normal, pblk_ret, pseq_exit, pseq_normal, pseq_ret, pnor_exit, pnor_normal, pnor_ret, if_true, if_false, reduceIte, Nat.reduceEqDiff]
    refine W.seq ?_
    refine W.sreg (fun K hK => ?_); simp (disch := omega) [gA, wrap_i64, wrap_u64, wrap_u32, Int.tdiv_eq_ediv_of_nonneg, Int.tmod_eq_emod_of_nonneg]; refine hK _ (W.liveK [6, 68] fun K2 hK2 => ?_); clear hK K; simp; refine hK2 _ ?_; clear hK2 K2
    cases r with
    | nil =>
      refine W.cond ⟨_, rfl, fun h => ?_, fun h => ?_⟩   -- t68
      · exfalso; simp at h
      refine W.skip ?_
      refine W.sreg (fun K hK => ?_)
      simp (disch := omega) [gA, wrap_i64, wrap_u64, wrap_u32, Int.tdiv_eq_ediv_of_nonneg, Int.tmod_eq_emod_of_nonneg, hr25, hzz]
      refine callR hzn ?_
      simp (disch := omega) [gA, wrap_i64, wrap_u64, wrap_u32, Int.tdiv_eq_ediv_of_nonneg, Int.tmod_eq_emod_of_nonneg]
      refine hK _ (W.liveK [4, 5] fun K2 hK2 => ?_); clear hK K; simp; refine hK2 _ ?_; clear hK2 K2
      refine W.ret ?_
      simp [go, exR, exF]
    | cons c r =>
      refine W.cond ⟨_, rfl, fun h => ?_, fun h => ?_⟩   -- t68
      · refine W.sreg (fun K hK => ?_); simp (disch := omega) [gA, wrap_i64, wrap_u64, wrap_u32, Int.tdiv_eq_ediv_of_nonneg, Int.tmod_eq_emod_of_nonneg]; refine hK _ (W.liveK [4, 5] fun K2 hK2 => ?_); clear hK K; simp; refine hK2 _ ?_; clear hK2 K2
        refine W.ret ?_
        simp [go, exR, exF]
        rfl
      · exfalso; simp at h
end Go.Proofs.Ytjnkpfknmncdmaa
