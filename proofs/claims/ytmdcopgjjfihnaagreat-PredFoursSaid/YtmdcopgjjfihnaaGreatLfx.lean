import Derived.Test.YtmdcopgjjfihnaaGreatLfp
import Derived.Test.YtmdcopgjjfihnaaGreatLfv
import Derived.Test.YtmdcopgjjfihnaaGreatLfw
import Derived.Test.YtmdcopgjjfihnaaGreatLft
set_option linter.unusedSimpArgs false
set_option linter.unusedVariables false
namespace Go.Proofs.YtmdcopgjjfihnaaGreat
open Go Pm

/-! LAW 14: FOUR. -/
theorem rowC_bd2 {v : CV} {s k : Nat} (hk : 1 ≤ k) (h : v.Sz s k) : ∀ x ∈ rowC v, Bd 2 (2 * s + k + 1) (2 * k) x := fun x hx => by
  have x1 := h.x2; have y1 := h.y2; have d1 := h.d2
  simp only [rowC, List.mem_cons, List.not_mem_nil, or_false] at hx
  rcases hx with rfl | rfl | rfl | rfl
  · exact (Bd.pscale (by decide) x1 d1).mono (by omega) (by omega)
  · exact (Bd.pscale (by decide) y1 d1).mono (by omega) (by omega)
  · have p1 : Bd 2 (2 * s + k) (2 * k) (pmul v.x v.x) := (Bd.pmul (by decide) x1 x1).mono (by omega) (by omega)
    have p2 : Bd 2 (2 * s + k) (2 * k) (pmul v.y v.y) := (Bd.pmul (by decide) y1 y1).mono (by omega) (by omega)
    exact Bd.padd (by decide) p1 p2
  · exact (bd_one (sz_mul (b := 2) (by decide) d1 d1)).mono (by omega) (by omega)
theorem rowC_EQ {s k : Nat} (hk : 1 ≤ k) {l : List CV} (h : ∀ v ∈ l, v.Sz s k) : EQ (2 * s + k + 1) (2 * k) (l.map rowC) := ⟨fun r hr x hx => by
  simp only [List.mem_map] at hr
  obtain ⟨v, hv, rfl⟩ := hr
  exact rowC_bd2 hk (h v hv) x hx⟩
theorem apt_bd2 {a b : CV} {s k : Nat} (ba : a.Sz s k) (bb : b.Sz s k) : Bd 2 (4 * s + k + 3) (2 * k) (apt a b) := by
  obtain ⟨b1, b2⟩ := ap_bd2 ba bb
  have p1 : Bd 2 (4 * s + k + 2) (2 * k) (pmul (apR a b) (apR a b)) := (Bd.pmul (by decide) b1 b1).mono (by omega) (by omega)
  have p2 : Bd 2 (4 * s + k + 2) (2 * k) (pmul (apA a b) (apA a b)) := (Bd.pmul (by decide) b2 b2).mono (by omega) (by omega)
  exact Bd.padd (by decide) p1 p2
theorem pmul_single {d : Int} {e : Int} (hd : d * e ≠ 0) : pmul [d] [e] = [d * e] := by
  rw [pmul_u]; exact Cn_sing hd
theorem far12 {a b c e : CV} {s k : Nat} (ha : a.OK) (hb : b.OK) (hc : c.OK) (he : e.OK) (ba : a.Sz s k) (bb : b.Sz s k) (bc : c.Sz s k) (be : e.Sz s k) : Ret env.P 29 [.ag a.doc, .ag b.doc, .ag c.doc, .ag e.doc] (PI (farD a b c e)) ∧ Bd 2 (8 * s + k + 4) (2 * k) (farD a b c e) := by
  have hs := ba.hs; have hk := ba.hk
  have hY : YY = 137438953472 := rfl
  have z1 : a.d * b.d ≠ 0 := Int.mul_ne_zero (by have := ha.pos; omega) (by have := hb.pos; omega)
  have z2 : c.d * e.d ≠ 0 := Int.mul_ne_zero (by have := hc.pos; omega) (by have := he.pos; omega)
  have e1 : sz 2 (a.d * b.d) ≤ s + s := sz_mul (b := 2) (by decide) ba.d2 bb.d2
  have e2 : sz 2 (c.d * e.d) ≤ s + s := sz_mul (b := 2) (by decide) bc.d2 be.d2
  have e3 : sz 2 ((a.d * b.d) * (a.d * b.d)) ≤ (s + s) + (s + s) := sz_mul (b := 2) (by decide) e1 e1
  have e4 : sz 2 ((c.d * e.d) * (c.d * e.d)) ≤ (s + s) + (s + s) := sz_mul (b := 2) (by decide) e2 e2
  have A1 := apt_bd2 bc be
  have A2 := apt_bd2 ba bb
  have m1 := qMulI_ret _ _ _ _ _ _ (bd_one ba.d2) (bd_one bb.d2) (by omega)
  have m2 := qMulI_ret _ _ _ _ _ _ (bd_one bc.d2) (bd_one be.d2) (by omega)
  have m3 := qMulI_ret _ _ _ _ _ _ (bd_one e1) (bd_one e1) (by omega)
  have m4 := qMulI_ret _ _ _ _ _ _ (bd_one e2) (bd_one e2) (by omega)
  rw [pmul_single z1] at m1
  rw [pmul_single z2] at m2
  rw [pmul_single (Int.mul_ne_zero z1 z1)] at m3
  rw [pmul_single (Int.mul_ne_zero z2 z2)] at m4
  have m5 := qMulI_ret _ _ _ _ _ _ A1 (bd_one e3) (by omega)
  have m6 := qMulI_ret _ _ _ _ _ _ A2 (bd_one e4) (by omega)
  rw [pmul_u] at m5 m6
  have B1 : Bd 2 (8 * s + k + 3) (2 * k) (pscale (apt c e) ((a.d * b.d) * (a.d * b.d))) := (Bd.pscale (by decide) A1 e3).mono (by omega) (by omega)
  have B2 : Bd 2 (8 * s + k + 3) (2 * k) (pscale (apt a b) ((c.d * e.d) * (c.d * e.d))) := (Bd.pscale (by decide) A2 e4).mono (by omega) (by omega)
  have m7 := qSubI_ret B1 B2 (by omega) (by omega)
  refine ⟨Farther12_ret ha hb hc he ba bb bc be m1 m2 m3 m4 m5 m6 m7, ?_⟩
  unfold farD
  rw [← psub_eq]
  exact Bd.padd (by decide) B1 (Bd.pneg B2)
set_option maxHeartbeats 4000000 in
theorem PredFours_ret (l : List PT) (h : ∀ p ∈ l, p.In) (hl : l.length < 9223372036854775808) : Ret env.P 4 [sls ptc l] (.bool true) := by
  have F := four_ret l h hl
  have k0 := fourC_small h 0
  have k1 := fourC_small h 1
  have k2 := fourC_small h 2
  have k3 := fourC_small h 3
  generalize fourC l 0 = c0 at *
  generalize fourC l 1 = c1 at *
  generalize fourC l 2 = c2 at *
  generalize fourC l 3 = c3 at *
  have o1 := pInCircle_ret k0.ok k1.ok k2.ok k3.ok (by decide) (by decide) (by decide)
  have hE : EQ (2 * 32 + 3 + 1) (2 * 3) [rowC c0.nc, rowC c1.nc, rowC c2.nc, rowC c3.nc] := rowC_EQ (by decide) (l := [c0.nc, c1.nc, c2.nc, c3.nc]) (fun v hv => by
    simp only [List.mem_cons, List.not_mem_nil, or_false] at hv
    rcases hv with rfl | rfl | rfl | rfl
    · exact Sz31 k0
    · exact Sz31 k1
    · exact Sz31 k2
    · exact Sz31 k3)
  have o2 := InCircle12_ret (crow_ret c0.nc_OK (Sz31 k0)) (crow_ret c1.nc_OK (Sz31 k1)) (crow_ret c2.nc_OK (Sz31 k2)) (crow_ret c3.nc_OK (Sz31 k3)) (by decide) (by decide) hE
  have e := dcol_drow (k := 4) (M := [rowC c0.nc, rowC c1.nc, rowC c2.nc, rowC c3.nc]) rfl (fun r hr => by
    simp only [List.mem_cons, List.not_mem_nil, or_false] at hr
    rcases hr with rfl | rfl | rfl | rfl <;> rfl) (by decide)
  rw [e] at o1
  clear e
  have bd := drow_bd (s := 2 * 32 + 3 + 1) (n := 2 * 3) 4 [rowC c0.nc, rowC c1.nc, rowC c2.nc, rowC c3.nc] hE (by decide)
  have f1 := pFarther_ret k0.ok k1.ok k2.ok k3.ok (by decide) (by decide)
  obtain ⟨f2, fb⟩ := far12 c0.nc_OK c1.nc_OK c2.nc_OK c3.nc_OK (Sz31 k0) (Sz31 k1) (Sz31 k2) (Sz31 k3)
  have hw := wakes14_ret
  generalize drow 4 [rowC c0.nc, rowC c1.nc, rowC c2.nc, rowC c3.nc] = D at *
  generalize farD c0.nc c1.nc c2.nc c3.nc = D2 at *
  have q1 := qSame_ret D D (Nat.lt_of_le_of_lt bd.len (by decide)) (Nat.lt_of_le_of_lt bd.len (by decide)) (fun c hc => Nat.lt_of_le_of_lt (bd.sz c hc) (by decide)) (fun c hc => Nat.lt_of_le_of_lt (bd.sz c hc) (by decide))
  have q2 := qSame_ret D2 D2 (Nat.lt_of_le_of_lt fb.len (by decide)) (Nat.lt_of_le_of_lt fb.len (by decide)) (fun c hc => Nat.lt_of_le_of_lt (fb.sz c hc) (by decide)) (fun c hc => Nat.lt_of_le_of_lt (fb.sz c hc) (by decide))
  simp only [decide_true] at q1 q2
  clear bd fb hE k0 k1 k2 k3
  generalize c0.nc = n0 at *
  generalize c1.nc = n1 at *
  generalize c2.nc = n2 at *
  generalize c3.nc = n3 at *
  simp only [RC.cells_def, CV.doc_def, List.cons_append, List.nil_append] at *
  refine ret_of_Wf (E := env) (fun _ => 0) [(0, sls ptc l)] Tryz.func4 rfl (by kernel_rfl) (by kernel_rfl) (show 1 ≤ 53 by decide) (by simp) ?_
  refine W.sreg (fun K hK => ?_); simp (disch := omega) [gA, wrap_i64, wrap_u64, wrap_u32, Int.tdiv_eq_ediv_of_nonneg, Int.tmod_eq_emod_of_nonneg]; refine hK _ (W.liveK [0] fun K2 hK2 => ?_); clear hK K; simp; refine hK2 _ ?_; clear hK2 K2
  refine W.sreg (fun K hK => ?_)
  simp (maxSteps := 4000000) (disch := omega) [gA, wrap_i64, wrap_u64, wrap_u32, Int.tdiv_eq_ediv_of_nonneg, Int.tmod_eq_emod_of_nonneg]
  refine callR F ?_
  simp (maxSteps := 4000000) (disch := omega) [gA, wrap_i64, wrap_u64, wrap_u32, Int.tdiv_eq_ediv_of_nonneg, Int.tmod_eq_emod_of_nonneg]
  refine hK _ (W.liveK [3, 4] fun K2 hK2 => ?_); clear hK K; simp; refine hK2 _ ?_; clear hK2 K2
  refine W.sdrw (fun K hK => ?_)
  simp (maxSteps := 4000000) (disch := omega) [gA, wrap_i64, wrap_u64, wrap_u32, Int.tdiv_eq_ediv_of_nonneg, Int.tmod_eq_emod_of_nonneg]
  refine callR o2 ?_
  simp (maxSteps := 4000000) (disch := omega) [gA, wrap_i64, wrap_u64, wrap_u32, Int.tdiv_eq_ediv_of_nonneg, Int.tmod_eq_emod_of_nonneg]
  refine callR o1 ?_
  simp (maxSteps := 4000000) (disch := omega) [gA, wrap_i64, wrap_u64, wrap_u32, Int.tdiv_eq_ediv_of_nonneg, Int.tmod_eq_emod_of_nonneg]
  refine callR q1 ?_
  simp (maxSteps := 4000000) (disch := omega) [gA, wrap_i64, wrap_u64, wrap_u32, Int.tdiv_eq_ediv_of_nonneg, Int.tmod_eq_emod_of_nonneg]
  refine callR f2 ?_
  simp (maxSteps := 4000000) (disch := omega) [gA, wrap_i64, wrap_u64, wrap_u32, Int.tdiv_eq_ediv_of_nonneg, Int.tmod_eq_emod_of_nonneg]
  refine callR f1 ?_
  simp (maxSteps := 4000000) (disch := omega) [gA, wrap_i64, wrap_u64, wrap_u32, Int.tdiv_eq_ediv_of_nonneg, Int.tmod_eq_emod_of_nonneg]
  refine callR q2 ?_
  simp (maxSteps := 4000000) (disch := omega) [gA, wrap_i64, wrap_u64, wrap_u32, Int.tdiv_eq_ediv_of_nonneg, Int.tmod_eq_emod_of_nonneg]
  refine callR hw ?_
  simp (maxSteps := 4000000) (disch := omega) [gA, wrap_i64, wrap_u64, wrap_u32, Int.tdiv_eq_ediv_of_nonneg, Int.tmod_eq_emod_of_nonneg]
  refine hK _ (W.liveK [2] fun K2 hK2 => ?_); clear hK K; simp; refine hK2 _ ?_; clear hK2 K2
  refine W.ret ?_
  simp [go]
end Go.Proofs.YtmdcopgjjfihnaaGreat
