import Derived.Test.YtmdcopgjjfihnaaGreatLfg
import Derived.Test.YtmdcopgjjfihnaaGreatLfs
set_option linter.unusedSimpArgs false
set_option linter.unusedVariables false
namespace Go.Proofs.YtmdcopgjjfihnaaGreat
open Go Pm

theorem pmul_u (x : List Int) (d : Int) : pmul x [d] = pscale x d := Cn.ext (Cn.pmul _ _) (Cn.pscale _ _) fun t => by
  rw [V_pmul, V_pscale]
  simp [V]
theorem ap_bd2 {a b : CV} {s k : Nat} (ba : a.Sz s k) (bb : b.Sz s k) : Bd 2 (2 * s + 1) k (apR a b) ∧ Bd 2 (2 * s + 1) k (apA a b) := by
  have e : s + s + 1 = 2 * s + 1 := by omega
  have key : ∀ {x y : List Int}, Bd 2 (s + s) k x → Bd 2 (s + s) k y → Bd 2 (2 * s + 1) k (psub x y) := fun {x y} hx hy => by
    rw [← psub_eq, ← e]
    exact Bd.padd (by decide) hx (Bd.pneg hy)
  exact ⟨key (Bd.pscale (by decide) bb.x2 ba.d2) (Bd.pscale (by decide) ba.x2 bb.d2), key (Bd.pscale (by decide) bb.y2 ba.d2) (Bd.pscale (by decide) ba.y2 bb.d2)⟩
set_option maxHeartbeats 2000000 in
theorem apart12_ret {a b : CV} {s k : Nat} (ha : a.OK) (hb : b.OK) (ba : a.Sz s k) (bb : b.Sz s k) : Ret env.P 95 [.ag a.doc, .ag b.doc] (PI (apt a b)) := by
  have hs := ba.hs; have hk := ba.hk
  have hY : YY = 137438953472 := rfl
  have r := Right12_ret ha hb ba bb
  have u := Above12_ret ha hb ba bb
  rw [pmul_u, pmul_u] at r u
  rw [show psub (pscale b.x a.d) (pscale a.x b.d) = apR a b from rfl] at r
  rw [show psub (pscale b.y a.d) (pscale a.y b.d) = apA a b from rfl] at u
  obtain ⟨b1, b2⟩ := ap_bd2 ba bb
  have m1 := qMulI_ret _ _ _ _ _ _ b1 b1 (by omega)
  have m2 := qMulI_ret _ _ _ _ _ _ b2 b2 (by omega)
  have p1 := qAddI_ret _ _ ((Bd.pmul (by decide) b1 b1).mono (by omega) (by omega)) ((Bd.pmul (by decide) b2 b2).mono (by omega) (by omega))
  unfold apt
  clear b1 b2 ha hb ba bb
  generalize padd (pmul (apR a b) (apR a b)) (pmul (apA a b) (apA a b)) = kk at *
  generalize pmul (apR a b) (apR a b) = k1 at *
  generalize pmul (apA a b) (apA a b) = k2 at *
  generalize apR a b = X at *
  generalize apA a b = Y0 at *
  simp only [CV.doc_def] at *
  generalize qd a.x a.d = ux at *
  generalize qd a.y a.d = uy at *
  generalize qd b.x b.d = vx at *
  generalize qd b.y b.d = vy at *
  refine ret_of_Wf (E := env) (fun _ => 0) [(0, .ag [PP ux, PP uy, Po a.x, Po a.y, .bool (decide (a.d < 0)), sls u32 (dig LL a.d.natAbs)]), (1, .ag [PP vx, PP vy, Po b.x, Po b.y, .bool (decide (b.d < 0)), sls u32 (dig LL b.d.natAbs)])] Tryz.func95 rfl (by kernel_rfl) (by kernel_rfl) (show 2 ≤ 20 by decide) (by simp) ?_
  refine W.sreg (fun K hK => ?_); simp (disch := omega) [gA, wrap_i64, wrap_u64, wrap_u32, Int.tdiv_eq_ediv_of_nonneg, Int.tmod_eq_emod_of_nonneg]; refine hK _ (W.liveK [2, 3] fun K2 hK2 => ?_); clear hK K; simp; refine hK2 _ ?_; clear hK2 K2
  refine W.sdrw (fun K hK => ?_)
  simp (disch := omega) [gA, wrap_i64, wrap_u64, wrap_u32, Int.tdiv_eq_ediv_of_nonneg, Int.tmod_eq_emod_of_nonneg]
  refine callR r ?_
  simp (disch := omega) [gA, wrap_i64, wrap_u64, wrap_u32, Int.tdiv_eq_ediv_of_nonneg, Int.tmod_eq_emod_of_nonneg]
  refine callR u ?_
  simp (disch := omega) [gA, wrap_i64, wrap_u64, wrap_u32, Int.tdiv_eq_ediv_of_nonneg, Int.tmod_eq_emod_of_nonneg]
  refine hK _ (W.liveK [5, 6] fun K2 hK2 => ?_); clear hK K; simp; refine hK2 _ ?_; clear hK2 K2
  refine W.sreg (fun K hK => ?_)
  simp (disch := omega) [gA, wrap_i64, wrap_u64, wrap_u32, Int.tdiv_eq_ediv_of_nonneg, Int.tmod_eq_emod_of_nonneg]
  refine callR m1 ?_
  simp (disch := omega) [gA, wrap_i64, wrap_u64, wrap_u32, Int.tdiv_eq_ediv_of_nonneg, Int.tmod_eq_emod_of_nonneg]
  refine callR m2 ?_
  simp (disch := omega) [gA, wrap_i64, wrap_u64, wrap_u32, Int.tdiv_eq_ediv_of_nonneg, Int.tmod_eq_emod_of_nonneg]
  refine callR p1 ?_
  simp (disch := omega) [gA, wrap_i64, wrap_u64, wrap_u32, Int.tdiv_eq_ediv_of_nonneg, Int.tmod_eq_emod_of_nonneg]
  refine hK _ (W.liveK [4] fun K2 hK2 => ?_); clear hK K; simp; refine hK2 _ ?_; clear hK2 K2
  refine W.ret ?_
  simp [go]
end Go.Proofs.YtmdcopgjjfihnaaGreat
