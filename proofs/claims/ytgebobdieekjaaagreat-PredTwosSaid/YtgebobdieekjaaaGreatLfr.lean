import Derived.Test.YtgebobdieekjaaaGreatLfp
set_option linter.unusedSimpArgs false
set_option linter.unusedVariables false
namespace Go.Proofs.YtgebobdieekjaaaGreat
open Go Pm

/-! LAW 14: TWO. -/
theorem pmul_one' (x : List Int) (d : Int) : pmul x [d] = pscale x d := Cn.ext (Cn.pmul _ _) (Cn.pscale _ _) fun t => by
  rw [V_pmul, V_pscale]
  simp [V]
theorem two_bd {x y : List Int} {d e : Int} (hx : Bd 2 32 3 x) (hy : Bd 2 32 3 y) (hd : sz 2 d ≤ 32) (he : sz 2 e ≤ 32) : Bd 2 65 3 (psub (pscale x e) (pscale y d)) := by
  rw [← psub_eq]
  exact Bd.padd (by decide) (Bd.pscale (by decide) hx he) (Bd.pneg (Bd.pscale (by decide) hy hd))
set_option maxHeartbeats 2000000 in
theorem PredTwos_ret (l : List PT) (h : ∀ p ∈ l, p.In) (hl : l.length < 9223372036854775808) : Ret env.P 13 [sls ptc l] (.bool true) := by
  have F := four_ret l h hl
  have k0 := fourC_small h 0
  have k1 := fourC_small h 1
  have k2 := fourC_small h 2
  generalize fourC l 0 = c0 at *
  generalize fourC l 1 = c1 at *
  generalize fourC l 2 = c2 at *
  generalize fourC l 3 = c3 at *
  have r1 := pRight_ret k0.ok k1.ok (by decide)
  have r2 := Right12_ret c0.nc_OK c1.nc_OK (Sz31 k0) (Sz31 k1)
  have a1 := pAbove_ret k0.ok k1.ok (by decide)
  have a2 := Above12_ret c0.nc_OK c1.nc_OK (Sz31 k0) (Sz31 k1)
  rw [pmul_one', pmul_one'] at r2 a2
  have b1 := two_bd (Sz31 k1).x2 (Sz31 k0).x2 (Sz31 k1).d2 (Sz31 k0).d2
  have b2 := two_bd (Sz31 k1).y2 (Sz31 k0).y2 (Sz31 k1).d2 (Sz31 k0).d2
  have e1 := pEqual_ret k0.ok k1.ok
  have e2 := Same12_ret c0.nc_OK c1.nc_OK (Sz31 k0) (Sz31 k1)
  have e3 := pEqual_ret k2.ok k2.ok
  rw [decide_eq_true (show c2.nc.x = c2.nc.x ∧ c2.nc.y = c2.nc.y ∧ c2.nc.d = c2.nc.d from ⟨rfl, rfl, rfl⟩)] at e3
  have hw := wakes14_ret
  generalize decide (c0.nc.x = c1.nc.x ∧ c0.nc.y = c1.nc.y ∧ c0.nc.d = c1.nc.d) = be at *
  generalize psub (pscale c1.nc.x c0.nc.d) (pscale c0.nc.x c1.nc.d) = X at *
  generalize psub (pscale c1.nc.y c0.nc.d) (pscale c0.nc.y c1.nc.d) = Y0 at *
  have q1 := qSame_ret X X (Nat.lt_of_le_of_lt b1.len (by decide)) (Nat.lt_of_le_of_lt b1.len (by decide)) (fun c hc => Nat.lt_of_le_of_lt (b1.sz c hc) (by decide)) (fun c hc => Nat.lt_of_le_of_lt (b1.sz c hc) (by decide))
  have q2 := qSame_ret Y0 Y0 (Nat.lt_of_le_of_lt b2.len (by decide)) (Nat.lt_of_le_of_lt b2.len (by decide)) (fun c hc => Nat.lt_of_le_of_lt (b2.sz c hc) (by decide)) (fun c hc => Nat.lt_of_le_of_lt (b2.sz c hc) (by decide))
  simp only [decide_true] at q1 q2
  clear b1 b2 k0 k1 k2
  generalize c0.nc = n0 at *
  generalize c1.nc = n1 at *
  generalize c2.nc = n2 at *
  generalize c3.nc = n3 at *
  simp only [RC.cells_def, CV.doc_def, List.cons_append, List.nil_append] at *
  refine ret_of_Wf (E := env) (fun _ => 0) [(0, sls ptc l)] Tryz.func13 rfl (by kernel_rfl) (by kernel_rfl) (show 1 ≤ 57 by decide) (by simp) ?_
  refine W.sreg (fun K hK => ?_); simp (disch := omega) [gA, wrap_i64, wrap_u64, wrap_u32, Int.tdiv_eq_ediv_of_nonneg, Int.tmod_eq_emod_of_nonneg]; refine hK _ (W.liveK [0] fun K2 hK2 => ?_); clear hK K; simp; refine hK2 _ ?_; clear hK2 K2
  refine W.sreg (fun K hK => ?_)
  simp (disch := omega) [gA, wrap_i64, wrap_u64, wrap_u32, Int.tdiv_eq_ediv_of_nonneg, Int.tmod_eq_emod_of_nonneg]
  refine callR F ?_
  simp (disch := omega) [gA, wrap_i64, wrap_u64, wrap_u32, Int.tdiv_eq_ediv_of_nonneg, Int.tmod_eq_emod_of_nonneg]
  refine hK _ (W.liveK [3, 4] fun K2 hK2 => ?_); clear hK K; simp; refine hK2 _ ?_; clear hK2 K2
  refine W.sdrw (fun K hK => ?_)
  simp (disch := omega) [gA, wrap_i64, wrap_u64, wrap_u32, Int.tdiv_eq_ediv_of_nonneg, Int.tmod_eq_emod_of_nonneg]
  refine callR r2 ?_
  simp (disch := omega) [gA, wrap_i64, wrap_u64, wrap_u32, Int.tdiv_eq_ediv_of_nonneg, Int.tmod_eq_emod_of_nonneg]
  refine callR r1 ?_
  simp (disch := omega) [gA, wrap_i64, wrap_u64, wrap_u32, Int.tdiv_eq_ediv_of_nonneg, Int.tmod_eq_emod_of_nonneg]
  refine callR q1 ?_
  simp (disch := omega) [gA, wrap_i64, wrap_u64, wrap_u32, Int.tdiv_eq_ediv_of_nonneg, Int.tmod_eq_emod_of_nonneg]
  refine callR a2 ?_
  simp (disch := omega) [gA, wrap_i64, wrap_u64, wrap_u32, Int.tdiv_eq_ediv_of_nonneg, Int.tmod_eq_emod_of_nonneg]
  refine callR a1 ?_
  simp (disch := omega) [gA, wrap_i64, wrap_u64, wrap_u32, Int.tdiv_eq_ediv_of_nonneg, Int.tmod_eq_emod_of_nonneg]
  refine callR q2 ?_
  simp (disch := omega) [gA, wrap_i64, wrap_u64, wrap_u32, Int.tdiv_eq_ediv_of_nonneg, Int.tmod_eq_emod_of_nonneg]
  refine callR e1 ?_
  simp (disch := omega) [gA, wrap_i64, wrap_u64, wrap_u32, Int.tdiv_eq_ediv_of_nonneg, Int.tmod_eq_emod_of_nonneg]
  refine callR e2 ?_
  simp (disch := omega) [gA, wrap_i64, wrap_u64, wrap_u32, Int.tdiv_eq_ediv_of_nonneg, Int.tmod_eq_emod_of_nonneg]
  refine callR e3 ?_
  simp (disch := omega) [gA, wrap_i64, wrap_u64, wrap_u32, Int.tdiv_eq_ediv_of_nonneg, Int.tmod_eq_emod_of_nonneg]
  refine callR hw ?_
  simp (disch := omega) [gA, wrap_i64, wrap_u64, wrap_u32, Int.tdiv_eq_ediv_of_nonneg, Int.tmod_eq_emod_of_nonneg]
  refine hK _ (W.liveK [2] fun K2 hK2 => ?_); clear hK K; simp; refine hK2 _ ?_; clear hK2 K2
  refine W.ret ?_
  simp [go]
end Go.Proofs.YtgebobdieekjaaaGreat
