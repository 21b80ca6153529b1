import Derived.Test.YtgebobdieekjaaaGreatLfg
import Derived.Test.YtgebobdieekjaaaGreatLfk
import Derived.Test.YtgebobdieekjaaaGreatLaa
set_option linter.unusedSimpArgs false
set_option linter.unusedVariables false
namespace Go.Proofs.YtgebobdieekjaaaGreat
open Go Pm

/-! THE DOCUMENT'S: WHICH WAY THREE TURN. -/
theorem rowI_EQ {s k : Nat} (hk : 1 ≤ k) {l : List CV} (h : ∀ v ∈ l, v.Sz s k) : EQ s k (l.map rowI) := ⟨fun r hr x hx => by
  simp only [List.mem_map] at hr
  obtain ⟨v, hv, rfl⟩ := hr
  have h1 := h v hv
  simp only [rowI, List.mem_cons, List.not_mem_nil, or_false] at hx
  rcases hx with rfl | rfl | rfl
  · exact h1.x2
  · exact h1.y2
  · exact (bd_one h1.d2).mono (Nat.le_refl _) hk⟩
set_option maxHeartbeats 2000000 in
theorem Orient12_ret {a b c : CV} {s k : Nat} (ha : a.OK) (hb : b.OK) (hc : c.OK) (ba : a.Sz s k) (bb : b.Sz s k) (bc : c.Sz s k) (hk : 1 ≤ k) : Ret env.P 44 [.ag a.doc, .ag b.doc, .ag c.doc] (PI (drow 3 [rowI a, rowI b, rowI c])) := by
  have n1 := row12_ret ha ba
  have n2 := row12_ret hb bb
  have n3 := row12_ret hc bc
  have hs := ba.hs
  have hk2 := ba.hk
  have dt := qDet_ret (s := s) (n := k) (by omega) (by omega) 3 [rowI a, rowI b, rowI c] rfl (by decide) (fun r hr => by
    simp only [List.mem_cons, List.not_mem_nil, or_false] at hr
    rcases hr with rfl | rfl | rfl <;> rfl) (rowI_EQ hk (l := [a, b, c]) (fun v hv => by
    simp only [List.mem_cons, List.not_mem_nil, or_false] at hv
    rcases hv with rfl | rfl | rfl
    · exact ba
    · exact bb
    · exact bc))
  have q1 : rowI a = [a.x, a.y, [a.d]] := rfl
  have q2 : rowI b = [b.x, b.y, [b.d]] := rfl
  have q3 : rowI c = [c.x, c.y, [c.d]] := rfl
  generalize drow 3 [rowI a, rowI b, rowI c] = r at *
  generalize rowI a = ra at *
  generalize rowI b = rb at *
  generalize rowI c = rc at *
  simp only [CV.doc_def] at *
  generalize qd a.x a.d = ux at *
  generalize qd a.y a.d = uy at *
  generalize qd b.x b.d = vx at *
  generalize qd b.y b.d = vy at *
  generalize qd c.x c.d = wx at *
  generalize qd c.y c.d = wy at *
  refine ret_of_Wf (E := env) (fun _ => 0) [(0, .ag [PP ux, PP uy, Po a.x, Po a.y, .bool (decide (a.d < 0)), sls u32 (dig LL a.d.natAbs)]), (1, .ag [PP vx, PP vy, Po b.x, Po b.y, .bool (decide (b.d < 0)), sls u32 (dig LL b.d.natAbs)]), (2, .ag [PP wx, PP wy, Po c.x, Po c.y, .bool (decide (c.d < 0)), sls u32 (dig LL c.d.natAbs)])] Tryz.func44 rfl (by kernel_rfl) (by kernel_rfl) (show 3 ≤ 38 by decide) (by simp) ?_
  refine W.sreg (fun K hK => ?_); simp (disch := omega) [gA, wrap_i64, wrap_u64, wrap_u32, Int.tdiv_eq_ediv_of_nonneg, Int.tmod_eq_emod_of_nonneg]; refine hK _ (W.liveK [3, 4, 5] fun K2 hK2 => ?_); clear hK K; simp; refine hK2 _ ?_; clear hK2 K2
  refine W.sreg (fun K hK => ?_); simp (disch := omega) [gA, wrap_i64, wrap_u64, wrap_u32, Int.tdiv_eq_ediv_of_nonneg, Int.tmod_eq_emod_of_nonneg]; refine hK _ (W.liveK [3, 4, 5, 7] fun K2 hK2 => ?_); clear hK K; simp; refine hK2 _ ?_; clear hK2 K2
  refine W.nil 7 7 29 1 (by simp) (by decide) (fun K hK => ?_)
  refine hK _ (W.liveK [3, 4, 5, 7] fun K2 hK2 => ?_); clear hK K; simp; refine hK2 _ ?_; clear hK2 K2
  refine W.seq ?_
  refine W.sreg (fun K hK => ?_); simp (disch := omega) [gA, wrap_i64, wrap_u64, wrap_u32, Int.tdiv_eq_ediv_of_nonneg, Int.tmod_eq_emod_of_nonneg]; refine hK _ (W.liveK [7, 16, 17, 18] fun K2 hK2 => ?_); clear hK K; simp; refine hK2 _ ?_; clear hK2 K2
  refine W.block ?_   -- block 0
  refine W.loopG (fun q σ => ∃ (i ver : Nat) (rows : Pm.Rows) (clk : Nat), σ = ⟨fa [(7, .own 7 ver 0 i), (16, .slx [[PP ux, PP uy, Po a.x, Po a.y, .bool (decide (a.d < 0)), sls u32 (dig LL a.d.natAbs)], [PP vx, PP vy, Po b.x, Po b.y, .bool (decide (b.d < 0)), sls u32 (dig LL b.d.natAbs)], [PP wx, PP wy, Po c.x, Po c.y, .bool (decide (c.d < 0)), sls u32 (dig LL c.d.natAbs)]]), (17, .int .i64 3), (18, .int .i64 i)], rows, clk⟩ ∧
    rows 7 = some ⟨ver, 29, 1, emap qm ([ra, rb, rc].take i)⟩ ∧ i + q = 3) 3 ?_ ?_
  · exact ⟨_, .refl, 0, _, _, _, rfl, by simp [emap], by omega⟩
  rintro k _ ⟨i, ver, rows, clk, rfl, hr, hik⟩
  refine W.sreg (fun K hK => ?_); simp (disch := omega) [gA, wrap_i64, wrap_u64, wrap_u32, Int.tdiv_eq_ediv_of_nonneg, Int.tmod_eq_emod_of_nonneg]; refine hK _ (W.liveK [7, 16, 17, 18, 19] fun K2 hK2 => ?_); clear hK K; simp; refine hK2 _ ?_; clear hK2 K2
  refine W.seq ?_
  refine W.cond ⟨_, rfl, fun h => ?_, fun h => ?_⟩   -- t19
  · have hi : i = 0 ∨ i = 1 ∨ i = 2 := by simp at h; omega
    clear h
    refine W.skip ?_
    refine W.seq ?_
    refine W.block ?_   -- block 1
    rcases hi with rfl | rfl | rfl
    · refine W.sreg (fun K hK => ?_); simp (disch := omega) [gA, wrap_i64, wrap_u64, wrap_u32, Int.tdiv_eq_ediv_of_nonneg, Int.tmod_eq_emod_of_nonneg]; refine hK _ (W.liveK [7, 9, 16, 17, 18] fun K2 hK2 => ?_); clear hK K; simp; refine hK2 _ ?_; clear hK2 K2
      refine W.sreg (fun K hK => ?_)
      simp (disch := omega) [gA, wrap_i64, wrap_u64, wrap_u32, Int.tdiv_eq_ediv_of_nonneg, Int.tmod_eq_emod_of_nonneg]
      refine callR n1 ?_
      simp (disch := omega) [gA, wrap_i64, wrap_u64, wrap_u32, Int.tdiv_eq_ediv_of_nonneg, Int.tmod_eq_emod_of_nonneg]
      refine hK _ (W.liveK [7, 10, 11, 12, 16, 17, 18] fun K2 hK2 => ?_); clear hK K; simp; refine hK2 _ ?_; clear hK2 K2
      refine W.reg (fun K hK => ?_)
      simp (disch := omega) [gA, wrap_i64, wrap_u64, wrap_u32, Int.tdiv_eq_ediv_of_nonneg, Int.tmod_eq_emod_of_nonneg, hr]
      refine hK _ (W.liveK [7, 16, 17, 18] fun K2 hK2 => ?_); clear hK K; simp; refine hK2 _ ?_; clear hK2 K2
      refine W.reg (fun K hK => ?_); simp (disch := omega) [gA, wrap_i64, wrap_u64, wrap_u32, Int.tdiv_eq_ediv_of_nonneg, Int.tmod_eq_emod_of_nonneg]
      refine hK _ ⟨k - 1, _, Gh_fa _ [7, 16, 17, 18], by omega, 1, _, _, _, rfl, by simp [hr]; rw [q1]; rfl, by omega⟩
    · refine W.sreg (fun K hK => ?_); simp (disch := omega) [gA, wrap_i64, wrap_u64, wrap_u32, Int.tdiv_eq_ediv_of_nonneg, Int.tmod_eq_emod_of_nonneg]; refine hK _ (W.liveK [7, 9, 16, 17, 18] fun K2 hK2 => ?_); clear hK K; simp; refine hK2 _ ?_; clear hK2 K2
      refine W.sreg (fun K hK => ?_)
      simp (disch := omega) [gA, wrap_i64, wrap_u64, wrap_u32, Int.tdiv_eq_ediv_of_nonneg, Int.tmod_eq_emod_of_nonneg]
      refine callR n2 ?_
      simp (disch := omega) [gA, wrap_i64, wrap_u64, wrap_u32, Int.tdiv_eq_ediv_of_nonneg, Int.tmod_eq_emod_of_nonneg]
      refine hK _ (W.liveK [7, 10, 11, 12, 16, 17, 18] fun K2 hK2 => ?_); clear hK K; simp; refine hK2 _ ?_; clear hK2 K2
      refine W.reg (fun K hK => ?_)
      simp (disch := omega) [gA, wrap_i64, wrap_u64, wrap_u32, Int.tdiv_eq_ediv_of_nonneg, Int.tmod_eq_emod_of_nonneg, hr]
      refine hK _ (W.liveK [7, 16, 17, 18] fun K2 hK2 => ?_); clear hK K; simp; refine hK2 _ ?_; clear hK2 K2
      refine W.reg (fun K hK => ?_); simp (disch := omega) [gA, wrap_i64, wrap_u64, wrap_u32, Int.tdiv_eq_ediv_of_nonneg, Int.tmod_eq_emod_of_nonneg]
      refine hK _ ⟨k - 1, _, Gh_fa _ [7, 16, 17, 18], by omega, 2, _, _, _, rfl, by simp [hr]; rw [q2]; rfl, by omega⟩
    · refine W.sreg (fun K hK => ?_); simp (disch := omega) [gA, wrap_i64, wrap_u64, wrap_u32, Int.tdiv_eq_ediv_of_nonneg, Int.tmod_eq_emod_of_nonneg]; refine hK _ (W.liveK [7, 9, 16, 17, 18] fun K2 hK2 => ?_); clear hK K; simp; refine hK2 _ ?_; clear hK2 K2
      refine W.sreg (fun K hK => ?_)
      simp (disch := omega) [gA, wrap_i64, wrap_u64, wrap_u32, Int.tdiv_eq_ediv_of_nonneg, Int.tmod_eq_emod_of_nonneg]
      refine callR n3 ?_
      simp (disch := omega) [gA, wrap_i64, wrap_u64, wrap_u32, Int.tdiv_eq_ediv_of_nonneg, Int.tmod_eq_emod_of_nonneg]
      refine hK _ (W.liveK [7, 10, 11, 12, 16, 17, 18] fun K2 hK2 => ?_); clear hK K; simp; refine hK2 _ ?_; clear hK2 K2
      refine W.reg (fun K hK => ?_)
      simp (disch := omega) [gA, wrap_i64, wrap_u64, wrap_u32, Int.tdiv_eq_ediv_of_nonneg, Int.tmod_eq_emod_of_nonneg, hr]
      refine hK _ (W.liveK [7, 16, 17, 18] fun K2 hK2 => ?_); clear hK K; simp; refine hK2 _ ?_; clear hK2 K2
      refine W.reg (fun K hK => ?_); simp (disch := omega) [gA, wrap_i64, wrap_u64, wrap_u32, Int.tdiv_eq_ediv_of_nonneg, Int.tmod_eq_emod_of_nonneg]
      refine hK _ ⟨k - 1, _, Gh_fa _ [7, 16, 17, 18], by omega, 3, _, _, _, rfl, by simp [hr]; rw [q3]; rfl, by omega⟩
  · have hi : i = 3 := by simp at h; omega
    subst hi
    refine W.exit ?_; simp only [pblk_exit, pblk_normal, pblk_ret, pseq_exit, pseq_normal, pseq_ret, pnor_exit, pnor_normal, pnor_ret, if_true, if_false, reduceIte, Nat.reduceEqDiff]
    refine W.sreg (fun K hK => ?_)
    simp (disch := omega) [gA, wrap_i64, wrap_u64, wrap_u32, Int.tdiv_eq_ediv_of_nonneg, Int.tmod_eq_emod_of_nonneg, hr]
    refine callR dt ?_
    simp (disch := omega) [gA, wrap_i64, wrap_u64, wrap_u32, Int.tdiv_eq_ediv_of_nonneg, Int.tmod_eq_emod_of_nonneg]
    refine hK _ (W.liveK [6] fun K2 hK2 => ?_); clear hK K; simp; refine hK2 _ ?_; clear hK2 K2
    refine W.ret ?_
    simp [go]
end Go.Proofs.YtgebobdieekjaaaGreat
