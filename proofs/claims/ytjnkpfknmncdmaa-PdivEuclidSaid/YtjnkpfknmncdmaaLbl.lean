import Derived.Test.YtjnkpfknmncdmaaLbk
set_option linter.unusedSimpArgs false
set_option linter.unusedVariables false
namespace Go.Proofs.Ytjnkpfknmncdmaa
open Go Pm

theorem PdivEuclid_ret (a0 b0 c0 : RP) (ha0 : InP a0) (hb0 : InP b0) (hc0 : InP c0) : Ret env.P 12 [Pg a0, Pg b0, Pg c0] (.bool true) := by
  have k1 := Cut_ret a0 6 2 ha0 (by decide) (by decide)
  have k2 := Cut_ret b0 4 2 hb0 (by decide) (by decide)
  have k3 := Cut_ret c0 3 1 hc0 (by decide) (by decide)
  have sa := Sm.keep ha0 6 2
  have sb := Sm.keep hb0 4 2
  have sc := Sm.keep hc0 3 1
  generalize keepP 6 2 a0 = a at *
  generalize keepP 4 2 b0 = b at *
  generalize keepP 3 1 c0 = c at *
  refine ret_of_Wf (E := env) (fun _ => 0) [(0, Pg a0), (1, Pg b0), (2, Pg c0)] Try.func12 rfl (by kernel_rfl) (by kernel_rfl) (show 3 ≤ 87 by decide) (by simp) ?_
  refine W.sreg (fun K hK => ?_); simp (disch := omega) [gA, wrap_i64, wrap_u64, wrap_u32, Int.tdiv_eq_ediv_of_nonneg, Int.tmod_eq_emod_of_nonneg]; refine hK _ (W.liveK [0, 1, 2] fun K2 hK2 => ?_); clear hK K; simp; refine hK2 _ ?_; clear hK2 K2
  refine W.sreg (fun K hK => ?_)
  simp (disch := omega) [gA, wrap_i64, wrap_u64, wrap_u32, Int.tdiv_eq_ediv_of_nonneg, Int.tmod_eq_emod_of_nonneg]
  refine callR k1 ?_
  simp (disch := omega) [gA, wrap_i64, wrap_u64, wrap_u32, Int.tdiv_eq_ediv_of_nonneg, Int.tmod_eq_emod_of_nonneg]
  refine hK _ (W.liveK [0, 1, 2] fun K2 hK2 => ?_); clear hK K; simp; refine hK2 _ ?_; clear hK2 K2
  refine W.sreg (fun K hK => ?_)
  simp (disch := omega) [gA, wrap_i64, wrap_u64, wrap_u32, Int.tdiv_eq_ediv_of_nonneg, Int.tmod_eq_emod_of_nonneg]
  refine callR k2 ?_
  simp (disch := omega) [gA, wrap_i64, wrap_u64, wrap_u32, Int.tdiv_eq_ediv_of_nonneg, Int.tmod_eq_emod_of_nonneg]
  refine hK _ (W.liveK [0, 1, 2, 7] fun K2 hK2 => ?_); clear hK K; simp; refine hK2 _ ?_; clear hK2 K2
  refine W.sreg (fun K hK => ?_)
  simp (disch := omega) [gA, wrap_i64, wrap_u64, wrap_u32, Int.tdiv_eq_ediv_of_nonneg, Int.tmod_eq_emod_of_nonneg]
  refine callR k3 ?_
  simp (disch := omega) [gA, wrap_i64, wrap_u64, wrap_u32, Int.tdiv_eq_ediv_of_nonneg, Int.tmod_eq_emod_of_nonneg]
  refine hK _ (W.liveK [0, 1, 2, 7] fun K2 hK2 => ?_); clear hK K; simp; refine hK2 _ ?_; clear hK2 K2
  refine W.seq ?_
  refine W.sreg (fun K hK => ?_); simp (disch := omega) [gA, wrap_i64, wrap_u64, wrap_u32, Int.tdiv_eq_ediv_of_nonneg, Int.tmod_eq_emod_of_nonneg]; refine hK _ (W.liveK [0, 1, 2, 7, 31] fun K2 hK2 => ?_); clear hK K; simp; refine hK2 _ ?_; clear hK2 K2
  refine W.cond ⟨_, rfl, fun h => ?_, fun h => ?_⟩   -- t31
  · refine W.sreg (fun K hK => ?_)
    simp (disch := omega) [gA, wrap_i64, wrap_u64, wrap_u32, Int.tdiv_eq_ediv_of_nonneg, Int.tmod_eq_emod_of_nonneg]
    refine callR wakes6_ret ?_
    simp (disch := omega) [gA, wrap_i64, wrap_u64, wrap_u32, Int.tdiv_eq_ediv_of_nonneg, Int.tmod_eq_emod_of_nonneg]
    refine hK _ (W.liveK [6] fun K2 hK2 => ?_); clear hK K; simp; refine hK2 _ ?_; clear hK2 K2
    refine W.ret ?_
    simp [go]
  have hB : cfs b ≠ [] := by simp at h; exact h
  clear h
  have hB0 : 0 < (cfs b).length := List.length_pos_iff.2 hB
  have pa := sa.pok (by decide) (by decide)
  have pb := sb.pok (by decide) (by decide)
  have pc := sc.pok (by decide) (by decide)
  have bbc : Bd LL 7 7 (pmul (b.map gv) (c.map gv)) := (sb.bd.pmul hLL sc.bd).mono (by decide) (by decide)
  have ba2 : Bd LL 8 7 (padd (a.map gv) (pmul (b.map gv) (c.map gv))) := Bd.padd hLL (sa.bd.mono (by decide) (by decide)) bbc
  have m1 := pMul_ret b c pb pc 2 1 4 3 sb.bd sc.bd (by decide)
  have m2 := pAdd_ret a ((pmul (b.map gv) (c.map gv)).map rw') pa (PB.of bbc (by decide) (by decide)).pok
  rw [map_gv_rw, ← Po_eq] at m2
  have r1 := Rest_ret a b (s := 2) (s' := 2) (N := 7) pa pb (sa.bd.mono (by decide) (by decide)) (sb.bd.mono (by decide) (by decide)) (by decide)
  have r2 := Rest_ret ((padd (a.map gv) (pmul (b.map gv) (c.map gv))).map rw') b (s := 8) (s' := 2) (N := 7) (PB.of ba2 (by decide) (by decide)).pok pb (by rw [map_gv_rw]; exact ba2) (sb.bd.mono (by decide) (by decide)) (by decide)
  have r3 := Rest_ret ((pmul (b.map gv) (c.map gv)).map rw') b (s := 7) (s' := 2) (N := 7) (PB.of bbc (by decide) (by decide)).pok pb (by rw [map_gv_rw]; exact bbc) (sb.bd.mono (by decide) (by decide)) (by decide)
  rw [if_neg hB] at r1 r2 r3
  rw [cfs_rwB, ← Po_eq, show cutR (padd (a.map gv) (pmul (b.map gv) (c.map gv))) = _ from Cn.padd _ _] at r2
  rw [cfs_rwB, ← Po_eq, show cutR (pmul (b.map gv) (c.map gv)) = _ from Cn.pmul _ _] at r3
  have e1 := rst_eq (a := cfs a) (a' := padd (a.map gv) (pmul (b.map gv) (c.map gv))) (b := cfs b) (h := c.map gv) (Cn.cut _) (Cn.padd _ _) (Cn.cut _) hB0 fun t => by rw [V_padd, V_pmul, V_cfsB, V_cfsB]
  have e2 := rst_eq (a := []) (a' := pmul (b.map gv) (c.map gv)) (b := cfs b) (h := c.map gv) Cn.nil (Cn.pmul _ _) (Cn.cut _) hB0 fun t => by rw [V_pmul, V_cfsB]; simp [V]
  rw [rst_nil hB0] at e2
  rw [← e1] at r2
  rw [← e2] at r3
  have hl := rst_len (a := cfs a) hB0
  have hbd := rst_bd (s := 2) (s' := 2) (N := 7) (sa.bd.cut.mono (by decide) (by decide)) (sb.bd.cut.mono (by decide) (by decide)) hB0
  have hs := pSameI_ret (x := rst (cfs a) (cfs b)) (y := rst (cfs a) (cfs b)) (PB.of hbd (by decide) (by decide)) (PB.of hbd (by decide) (by decide))
  rw [decide_eq_true rfl] at hs
  generalize padd (a.map gv) (pmul (b.map gv) (c.map gv)) = a2 at *
  generalize pmul (b.map gv) (c.map gv) = bc at *
  generalize rst (cfs a) (cfs b) = rr at *
  generalize cfs b = y at *
  refine W.skip ?_
  refine W.sreg (fun K hK => ?_)
  simp (disch := omega) [gA, wrap_i64, wrap_u64, wrap_u32, Int.tdiv_eq_ediv_of_nonneg, Int.tmod_eq_emod_of_nonneg]
  refine callR r1 ?_
  simp (disch := omega) [gA, wrap_i64, wrap_u64, wrap_u32, Int.tdiv_eq_ediv_of_nonneg, Int.tmod_eq_emod_of_nonneg]
  refine hK _ (W.liveK [0, 1, 2, 7, 8, 9] fun K2 hK2 => ?_); clear hK K; simp; refine hK2 _ ?_; clear hK2 K2
  refine W.sreg (fun K hK => ?_)
  simp (disch := omega) [gA, wrap_i64, wrap_u64, wrap_u32, Int.tdiv_eq_ediv_of_nonneg, Int.tmod_eq_emod_of_nonneg]
  refine callR m1 ?_
  simp (disch := omega) [gA, wrap_i64, wrap_u64, wrap_u32, Int.tdiv_eq_ediv_of_nonneg, Int.tmod_eq_emod_of_nonneg]
  refine callR m2 ?_
  simp (disch := omega) [gA, wrap_i64, wrap_u64, wrap_u32, Int.tdiv_eq_ediv_of_nonneg, Int.tmod_eq_emod_of_nonneg]
  refine callR r2 ?_
  simp (disch := omega) [gA, wrap_i64, wrap_u64, wrap_u32, Int.tdiv_eq_ediv_of_nonneg, Int.tmod_eq_emod_of_nonneg]
  refine hK _ (W.liveK [1, 2, 7, 8, 9, 10, 11] fun K2 hK2 => ?_); clear hK K; simp; refine hK2 _ ?_; clear hK2 K2
  refine W.sreg (fun K hK => ?_)
  simp (disch := omega) [gA, wrap_i64, wrap_u64, wrap_u32, Int.tdiv_eq_ediv_of_nonneg, Int.tmod_eq_emod_of_nonneg]
  refine callR m1 ?_
  simp (disch := omega) [gA, wrap_i64, wrap_u64, wrap_u32, Int.tdiv_eq_ediv_of_nonneg, Int.tmod_eq_emod_of_nonneg]
  refine callR r3 ?_
  simp (disch := omega) [gA, wrap_i64, wrap_u64, wrap_u32, Int.tdiv_eq_ediv_of_nonneg, Int.tmod_eq_emod_of_nonneg]
  refine hK _ (W.liveK [7, 8, 9, 10, 11, 12, 13] fun K2 hK2 => ?_); clear hK K; simp; refine hK2 _ ?_; clear hK2 K2
  refine W.sregJ (fun σ => ∃ (rows : Pm.Rows) (clk : Nat), σ = ⟨fa [(6, .bool true)], rows, clk⟩) (fun K hK => ?_) ?_
  · simp (disch := omega) [gA, wrap_i64, wrap_u64, wrap_u32, Int.tdiv_eq_ediv_of_nonneg, Int.tmod_eq_emod_of_nonneg]
    refine callR hs ?_
    simp (disch := omega) [gA, wrap_i64, wrap_u64, wrap_u32, Int.tdiv_eq_ediv_of_nonneg, Int.tmod_eq_emod_of_nonneg, hl]
    refine callR wakes6_ret ?_
    simp (disch := omega) [gA, wrap_i64, wrap_u64, wrap_u32, Int.tdiv_eq_ediv_of_nonneg, Int.tmod_eq_emod_of_nonneg]
    exact hK _ _ (Gh_fa _ [6]) ⟨_, _, rfl⟩
  rintro _ ⟨rows, clk, rfl⟩
  refine W.ret ?_
  simp [go]
end Go.Proofs.Ytjnkpfknmncdmaa
