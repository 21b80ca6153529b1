import Derived.Test.YtmdcopgjjfihnaaGreatLfl
import Derived.Test.YtmdcopgjjfihnaaGreatLfm
set_option linter.unusedSimpArgs false
set_option linter.unusedVariables false
namespace Go.Proofs.YtmdcopgjjfihnaaGreat
open Go Pm

/-! THE DOCUMENT'S CIRCLES. -/
theorem pmul_s (x : List Int) (d : Int) : pmul x [d] = pscale x d := Cn.ext (Cn.pmul _ _) (Cn.pscale _ _) fun t => by
  rw [V_pmul, V_pscale]
  simp [V]
/-- What the walk asks for of a curve. -/
def CRow (v : CV) : Prop := Ret env.P 90 [.ag v.doc] (.tup [PI v.x, PI v.y, PI [v.d]]) ∧ Ret env.P 92 [PI v.x, PI v.x] (PI (pmul v.x v.x)) ∧ Ret env.P 92 [PI v.y, PI v.y] (PI (pmul v.y v.y)) ∧
  Ret env.P 91 [PI (pmul v.x v.x), PI (pmul v.y v.y)] (PI (padd (pmul v.x v.x) (pmul v.y v.y))) ∧ Ret env.P 92 [PI v.x, PI [v.d]] (PI (pscale v.x v.d)) ∧ Ret env.P 92 [PI v.y, PI [v.d]] (PI (pscale v.y v.d)) ∧
  Ret env.P 92 [PI [v.d], PI [v.d]] (PI [v.d * v.d])
theorem crow_ret {v : CV} {s k : Nat} (h : v.OK) (b : v.Sz s k) : CRow v := by
  have hs := b.hs; have hk := b.hk
  have hY : YY = 137438953472 := rfl
  have bd := bd_one b.d2
  have n1 := row12_ret h b
  have m1 := qMulI_ret _ _ _ _ _ _ b.x2 b.x2 (by omega)
  have m2 := qMulI_ret _ _ _ _ _ _ b.y2 b.y2 (by omega)
  have p1 := qAddI_ret (pmul v.x v.x) (pmul v.y v.y) ((Bd.pmul (by decide) b.x2 b.x2).mono (by omega) (by omega)) ((Bd.pmul (by decide) b.y2 b.y2).mono (by omega) (by omega))
  have s1 := qMulI_ret _ _ _ _ _ _ b.x2 bd (by omega)
  have s2 := qMulI_ret _ _ _ _ _ _ b.y2 bd (by omega)
  have s3 := qMulI_ret _ _ _ _ _ _ bd bd (by omega)
  have hd : v.d * v.d ≠ 0 := Int.mul_ne_zero (by have := h.pos; omega) (by have := h.pos; omega)
  rw [pmul_s] at s1 s2 s3
  rw [show pscale [v.d] v.d = [v.d * v.d] from Cn_sing hd] at s3
  exact ⟨n1, m1, m2, p1, s1, s2, s3⟩
set_option maxHeartbeats 4000000 in
theorem InCircle12_ret {a b c e : CV} {s k : Nat} (ha : CRow a) (hb : CRow b) (hc : CRow c) (he : CRow e) (hs : s < 1073741824) (hk : k < 1073741824) (hE : EQ s k [rowC a, rowC b, rowC c, rowC e]) : Ret env.P 28 [.ag a.doc, .ag b.doc, .ag c.doc, .ag e.doc] (PI (drow 4 [rowC a, rowC b, rowC c, rowC e])) := by
  have dt := qDet_ret hs hk 4 [rowC a, rowC b, rowC c, rowC e] rfl (by decide) (fun r hr => by
    simp only [List.mem_cons, List.not_mem_nil, or_false] at hr
    rcases hr with rfl | rfl | rfl | rfl <;> rfl) hE
  have qa : rowC a = [pscale a.x a.d, pscale a.y a.d, padd (pmul a.x a.x) (pmul a.y a.y), [a.d * a.d]] := rfl
  have qb : rowC b = [pscale b.x b.d, pscale b.y b.d, padd (pmul b.x b.x) (pmul b.y b.y), [b.d * b.d]] := rfl
  have qc : rowC c = [pscale c.x c.d, pscale c.y c.d, padd (pmul c.x c.x) (pmul c.y c.y), [c.d * c.d]] := rfl
  have qe : rowC e = [pscale e.x e.d, pscale e.y e.d, padd (pmul e.x e.x) (pmul e.y e.y), [e.d * e.d]] := rfl
  clear hE
  generalize drow 4 [rowC a, rowC b, rowC c, rowC e] = r at *
  generalize rowC a = ra at *
  generalize rowC b = rb at *
  generalize rowC c = rc at *
  generalize rowC e = re at *
  simp only [CRow, CV.doc_def] at *
  generalize qd a.x a.d = ua at *
  generalize qd a.y a.d = wa at *
  generalize qd b.x b.d = ub at *
  generalize qd b.y b.d = wb at *
  generalize qd c.x c.d = uc at *
  generalize qd c.y c.d = wc at *
  generalize qd e.x e.d = ue at *
  generalize qd e.y e.d = we at *
  refine ret_of_Wf (E := env) (fun _ => 0) [(0, .ag [PP ua, PP wa, Po a.x, Po a.y, .bool (decide (a.d < 0)), sls u32 (dig LL a.d.natAbs)]), (1, .ag [PP ub, PP wb, Po b.x, Po b.y, .bool (decide (b.d < 0)), sls u32 (dig LL b.d.natAbs)]), (2, .ag [PP uc, PP wc, Po c.x, Po c.y, .bool (decide (c.d < 0)), sls u32 (dig LL c.d.natAbs)]), (3, .ag [PP ue, PP we, Po e.x, Po e.y, .bool (decide (e.d < 0)), sls u32 (dig LL e.d.natAbs)])] Tryz.func28 rfl (by kernel_rfl) (by kernel_rfl) (show 4 ≤ 56 by decide) (by simp) ?_
  refine W.sreg (fun K hK => ?_); simp (disch := omega) [gA, wrap_i64, wrap_u64, wrap_u32, Int.tdiv_eq_ediv_of_nonneg, Int.tmod_eq_emod_of_nonneg]; refine hK _ (W.liveK [4, 5, 6, 7] fun K2 hK2 => ?_); clear hK K; simp; refine hK2 _ ?_; clear hK2 K2
  refine W.sreg (fun K hK => ?_); simp (disch := omega) [gA, wrap_i64, wrap_u64, wrap_u32, Int.tdiv_eq_ediv_of_nonneg, Int.tmod_eq_emod_of_nonneg]; refine hK _ (W.liveK [4, 5, 6, 7, 9] fun K2 hK2 => ?_); clear hK K; simp; refine hK2 _ ?_; clear hK2 K2
  refine W.nil 9 9 37 1 (by simp) (by decide) (fun K hK => ?_)
  refine hK _ (W.liveK [4, 5, 6, 7, 9] fun K2 hK2 => ?_); clear hK K; simp; refine hK2 _ ?_; clear hK2 K2
  refine W.seq ?_
  refine W.sreg (fun K hK => ?_); simp (disch := omega) [gA, wrap_i64, wrap_u64, wrap_u32, Int.tdiv_eq_ediv_of_nonneg, Int.tmod_eq_emod_of_nonneg]; refine hK _ (W.liveK [9, 20, 21, 22] fun K2 hK2 => ?_); clear hK K; simp; refine hK2 _ ?_; clear hK2 K2
  refine W.block ?_   -- block 0
  refine W.loopG (fun q σ => ∃ (i ver : Nat) (rows : Pm.Rows) (clk : Nat), σ = ⟨fa [(9, .own 9 ver 0 i), (20, .slx [[PP ua, PP wa, Po a.x, Po a.y, .bool (decide (a.d < 0)), sls u32 (dig LL a.d.natAbs)], [PP ub, PP wb, Po b.x, Po b.y, .bool (decide (b.d < 0)), sls u32 (dig LL b.d.natAbs)], [PP uc, PP wc, Po c.x, Po c.y, .bool (decide (c.d < 0)), sls u32 (dig LL c.d.natAbs)], [PP ue, PP we, Po e.x, Po e.y, .bool (decide (e.d < 0)), sls u32 (dig LL e.d.natAbs)]]), (21, .int .i64 4), (22, .int .i64 i)], rows, clk⟩ ∧
    rows 9 = some ⟨ver, 37, 1, emap qm ([ra, rb, rc, re].take i)⟩ ∧ i + q = 4) 4 ?_ ?_
  · exact ⟨_, .refl, 0, _, _, _, rfl, by simp [emap], by omega⟩
  rintro k _ ⟨i, ver, rows, clk, rfl, hr, hik⟩
  refine W.sreg (fun K hK => ?_); simp (disch := omega) [gA, wrap_i64, wrap_u64, wrap_u32, Int.tdiv_eq_ediv_of_nonneg, Int.tmod_eq_emod_of_nonneg]; refine hK _ (W.liveK [9, 20, 21, 22, 23] fun K2 hK2 => ?_); clear hK K; simp; refine hK2 _ ?_; clear hK2 K2
  refine W.seq ?_
  refine W.cond ⟨_, rfl, fun h => ?_, fun h => ?_⟩   -- t23
  · have hi : i = 0 ∨ i = 1 ∨ i = 2 ∨ i = 3 := by simp at h; omega
    clear h
    refine W.skip ?_
    refine W.seq ?_
    refine W.block ?_   -- block 1
    rcases hi with rfl | rfl | rfl | rfl
    · obtain ⟨n1, m1, m2, p1, s1, s2, s3⟩ := ha
      refine W.sreg (fun K hK => ?_); simp (disch := omega) [gA, wrap_i64, wrap_u64, wrap_u32, Int.tdiv_eq_ediv_of_nonneg, Int.tmod_eq_emod_of_nonneg]; refine hK _ (W.liveK [9, 11, 20, 21, 22] fun K2 hK2 => ?_); clear hK K; simp; refine hK2 _ ?_; clear hK2 K2
      refine W.sreg (fun K hK => ?_)
      simp (disch := omega) [gA, wrap_i64, wrap_u64, wrap_u32, Int.tdiv_eq_ediv_of_nonneg, Int.tmod_eq_emod_of_nonneg]
      refine callR n1 ?_
      simp (disch := omega) [gA, wrap_i64, wrap_u64, wrap_u32, Int.tdiv_eq_ediv_of_nonneg, Int.tmod_eq_emod_of_nonneg]
      refine hK _ (W.liveK [9, 12, 13, 14, 20, 21, 22] fun K2 hK2 => ?_); clear hK K; simp; refine hK2 _ ?_; clear hK2 K2
      refine W.sreg (fun K hK => ?_)
      simp (disch := omega) [gA, wrap_i64, wrap_u64, wrap_u32, Int.tdiv_eq_ediv_of_nonneg, Int.tmod_eq_emod_of_nonneg]
      refine callR m1 ?_
      simp (disch := omega) [gA, wrap_i64, wrap_u64, wrap_u32, Int.tdiv_eq_ediv_of_nonneg, Int.tmod_eq_emod_of_nonneg]
      refine callR m2 ?_
      simp (disch := omega) [gA, wrap_i64, wrap_u64, wrap_u32, Int.tdiv_eq_ediv_of_nonneg, Int.tmod_eq_emod_of_nonneg]
      refine callR p1 ?_
      simp (disch := omega) [gA, wrap_i64, wrap_u64, wrap_u32, Int.tdiv_eq_ediv_of_nonneg, Int.tmod_eq_emod_of_nonneg]
      refine hK _ (W.liveK [9, 12, 13, 14, 15, 20, 21, 22] fun K2 hK2 => ?_); clear hK K; simp; refine hK2 _ ?_; clear hK2 K2
      refine W.reg (fun K hK => ?_)
      simp (disch := omega) [gA, wrap_i64, wrap_u64, wrap_u32, Int.tdiv_eq_ediv_of_nonneg, Int.tmod_eq_emod_of_nonneg, hr]
      refine callR s1 ?_
      simp (disch := omega) [gA, wrap_i64, wrap_u64, wrap_u32, Int.tdiv_eq_ediv_of_nonneg, Int.tmod_eq_emod_of_nonneg, hr]
      refine callR s2 ?_
      simp (disch := omega) [gA, wrap_i64, wrap_u64, wrap_u32, Int.tdiv_eq_ediv_of_nonneg, Int.tmod_eq_emod_of_nonneg, hr]
      refine callR s3 ?_
      simp (disch := omega) [gA, wrap_i64, wrap_u64, wrap_u32, Int.tdiv_eq_ediv_of_nonneg, Int.tmod_eq_emod_of_nonneg, hr]
      refine hK _ (W.liveK [9, 20, 21, 22] fun K2 hK2 => ?_); clear hK K; simp; refine hK2 _ ?_; clear hK2 K2
      refine W.reg (fun K hK => ?_); simp (disch := omega) [gA, wrap_i64, wrap_u64, wrap_u32, Int.tdiv_eq_ediv_of_nonneg, Int.tmod_eq_emod_of_nonneg]
      refine hK _ ⟨k - 1, _, Gh_fa _ [9, 20, 21, 22], by omega, 1, _, _, _, rfl, by simp [hr]; rw [qa]; rfl, by omega⟩
    · obtain ⟨n1, m1, m2, p1, s1, s2, s3⟩ := hb
      refine W.sreg (fun K hK => ?_); simp (disch := omega) [gA, wrap_i64, wrap_u64, wrap_u32, Int.tdiv_eq_ediv_of_nonneg, Int.tmod_eq_emod_of_nonneg]; refine hK _ (W.liveK [9, 11, 20, 21, 22] fun K2 hK2 => ?_); clear hK K; simp; refine hK2 _ ?_; clear hK2 K2
      refine W.sreg (fun K hK => ?_)
      simp (disch := omega) [gA, wrap_i64, wrap_u64, wrap_u32, Int.tdiv_eq_ediv_of_nonneg, Int.tmod_eq_emod_of_nonneg]
      refine callR n1 ?_
      simp (disch := omega) [gA, wrap_i64, wrap_u64, wrap_u32, Int.tdiv_eq_ediv_of_nonneg, Int.tmod_eq_emod_of_nonneg]
      refine hK _ (W.liveK [9, 12, 13, 14, 20, 21, 22] fun K2 hK2 => ?_); clear hK K; simp; refine hK2 _ ?_; clear hK2 K2
      refine W.sreg (fun K hK => ?_)
      simp (disch := omega) [gA, wrap_i64, wrap_u64, wrap_u32, Int.tdiv_eq_ediv_of_nonneg, Int.tmod_eq_emod_of_nonneg]
      refine callR m1 ?_
      simp (disch := omega) [gA, wrap_i64, wrap_u64, wrap_u32, Int.tdiv_eq_ediv_of_nonneg, Int.tmod_eq_emod_of_nonneg]
      refine callR m2 ?_
      simp (disch := omega) [gA, wrap_i64, wrap_u64, wrap_u32, Int.tdiv_eq_ediv_of_nonneg, Int.tmod_eq_emod_of_nonneg]
      refine callR p1 ?_
      simp (disch := omega) [gA, wrap_i64, wrap_u64, wrap_u32, Int.tdiv_eq_ediv_of_nonneg, Int.tmod_eq_emod_of_nonneg]
      refine hK _ (W.liveK [9, 12, 13, 14, 15, 20, 21, 22] fun K2 hK2 => ?_); clear hK K; simp; refine hK2 _ ?_; clear hK2 K2
      refine W.reg (fun K hK => ?_)
      simp (disch := omega) [gA, wrap_i64, wrap_u64, wrap_u32, Int.tdiv_eq_ediv_of_nonneg, Int.tmod_eq_emod_of_nonneg, hr]
      refine callR s1 ?_
      simp (disch := omega) [gA, wrap_i64, wrap_u64, wrap_u32, Int.tdiv_eq_ediv_of_nonneg, Int.tmod_eq_emod_of_nonneg, hr]
      refine callR s2 ?_
      simp (disch := omega) [gA, wrap_i64, wrap_u64, wrap_u32, Int.tdiv_eq_ediv_of_nonneg, Int.tmod_eq_emod_of_nonneg, hr]
      refine callR s3 ?_
      simp (disch := omega) [gA, wrap_i64, wrap_u64, wrap_u32, Int.tdiv_eq_ediv_of_nonneg, Int.tmod_eq_emod_of_nonneg, hr]
      refine hK _ (W.liveK [9, 20, 21, 22] fun K2 hK2 => ?_); clear hK K; simp; refine hK2 _ ?_; clear hK2 K2
      refine W.reg (fun K hK => ?_); simp (disch := omega) [gA, wrap_i64, wrap_u64, wrap_u32, Int.tdiv_eq_ediv_of_nonneg, Int.tmod_eq_emod_of_nonneg]
      refine hK _ ⟨k - 1, _, Gh_fa _ [9, 20, 21, 22], by omega, 2, _, _, _, rfl, by simp [hr]; rw [qb]; rfl, by omega⟩
    · obtain ⟨n1, m1, m2, p1, s1, s2, s3⟩ := hc
      refine W.sreg (fun K hK => ?_); simp (disch := omega) [gA, wrap_i64, wrap_u64, wrap_u32, Int.tdiv_eq_ediv_of_nonneg, Int.tmod_eq_emod_of_nonneg]; refine hK _ (W.liveK [9, 11, 20, 21, 22] fun K2 hK2 => ?_); clear hK K; simp; refine hK2 _ ?_; clear hK2 K2
      refine W.sreg (fun K hK => ?_)
      simp (disch := omega) [gA, wrap_i64, wrap_u64, wrap_u32, Int.tdiv_eq_ediv_of_nonneg, Int.tmod_eq_emod_of_nonneg]
      refine callR n1 ?_
      simp (disch := omega) [gA, wrap_i64, wrap_u64, wrap_u32, Int.tdiv_eq_ediv_of_nonneg, Int.tmod_eq_emod_of_nonneg]
      refine hK _ (W.liveK [9, 12, 13, 14, 20, 21, 22] fun K2 hK2 => ?_); clear hK K; simp; refine hK2 _ ?_; clear hK2 K2
      refine W.sreg (fun K hK => ?_)
      simp (disch := omega) [gA, wrap_i64, wrap_u64, wrap_u32, Int.tdiv_eq_ediv_of_nonneg, Int.tmod_eq_emod_of_nonneg]
      refine callR m1 ?_
      simp (disch := omega) [gA, wrap_i64, wrap_u64, wrap_u32, Int.tdiv_eq_ediv_of_nonneg, Int.tmod_eq_emod_of_nonneg]
      refine callR m2 ?_
      simp (disch := omega) [gA, wrap_i64, wrap_u64, wrap_u32, Int.tdiv_eq_ediv_of_nonneg, Int.tmod_eq_emod_of_nonneg]
      refine callR p1 ?_
      simp (disch := omega) [gA, wrap_i64, wrap_u64, wrap_u32, Int.tdiv_eq_ediv_of_nonneg, Int.tmod_eq_emod_of_nonneg]
      refine hK _ (W.liveK [9, 12, 13, 14, 15, 20, 21, 22] fun K2 hK2 => ?_); clear hK K; simp; refine hK2 _ ?_; clear hK2 K2
      refine W.reg (fun K hK => ?_)
      simp (disch := omega) [gA, wrap_i64, wrap_u64, wrap_u32, Int.tdiv_eq_ediv_of_nonneg, Int.tmod_eq_emod_of_nonneg, hr]
      refine callR s1 ?_
      simp (disch := omega) [gA, wrap_i64, wrap_u64, wrap_u32, Int.tdiv_eq_ediv_of_nonneg, Int.tmod_eq_emod_of_nonneg, hr]
      refine callR s2 ?_
      simp (disch := omega) [gA, wrap_i64, wrap_u64, wrap_u32, Int.tdiv_eq_ediv_of_nonneg, Int.tmod_eq_emod_of_nonneg, hr]
      refine callR s3 ?_
      simp (disch := omega) [gA, wrap_i64, wrap_u64, wrap_u32, Int.tdiv_eq_ediv_of_nonneg, Int.tmod_eq_emod_of_nonneg, hr]
      refine hK _ (W.liveK [9, 20, 21, 22] fun K2 hK2 => ?_); clear hK K; simp; refine hK2 _ ?_; clear hK2 K2
      refine W.reg (fun K hK => ?_); simp (disch := omega) [gA, wrap_i64, wrap_u64, wrap_u32, Int.tdiv_eq_ediv_of_nonneg, Int.tmod_eq_emod_of_nonneg]
      refine hK _ ⟨k - 1, _, Gh_fa _ [9, 20, 21, 22], by omega, 3, _, _, _, rfl, by simp [hr]; rw [qc]; rfl, by omega⟩
    · obtain ⟨n1, m1, m2, p1, s1, s2, s3⟩ := he
      refine W.sreg (fun K hK => ?_); simp (disch := omega) [gA, wrap_i64, wrap_u64, wrap_u32, Int.tdiv_eq_ediv_of_nonneg, Int.tmod_eq_emod_of_nonneg]; refine hK _ (W.liveK [9, 11, 20, 21, 22] fun K2 hK2 => ?_); clear hK K; simp; refine hK2 _ ?_; clear hK2 K2
      refine W.sreg (fun K hK => ?_)
      simp (disch := omega) [gA, wrap_i64, wrap_u64, wrap_u32, Int.tdiv_eq_ediv_of_nonneg, Int.tmod_eq_emod_of_nonneg]
      refine callR n1 ?_
      simp (disch := omega) [gA, wrap_i64, wrap_u64, wrap_u32, Int.tdiv_eq_ediv_of_nonneg, Int.tmod_eq_emod_of_nonneg]
      refine hK _ (W.liveK [9, 12, 13, 14, 20, 21, 22] fun K2 hK2 => ?_); clear hK K; simp; refine hK2 _ ?_; clear hK2 K2
      refine W.sreg (fun K hK => ?_)
      simp (disch := omega) [gA, wrap_i64, wrap_u64, wrap_u32, Int.tdiv_eq_ediv_of_nonneg, Int.tmod_eq_emod_of_nonneg]
      refine callR m1 ?_
      simp (disch := omega) [gA, wrap_i64, wrap_u64, wrap_u32, Int.tdiv_eq_ediv_of_nonneg, Int.tmod_eq_emod_of_nonneg]
      refine callR m2 ?_
      simp (disch := omega) [gA, wrap_i64, wrap_u64, wrap_u32, Int.tdiv_eq_ediv_of_nonneg, Int.tmod_eq_emod_of_nonneg]
      refine callR p1 ?_
      simp (disch := omega) [gA, wrap_i64, wrap_u64, wrap_u32, Int.tdiv_eq_ediv_of_nonneg, Int.tmod_eq_emod_of_nonneg]
      refine hK _ (W.liveK [9, 12, 13, 14, 15, 20, 21, 22] fun K2 hK2 => ?_); clear hK K; simp; refine hK2 _ ?_; clear hK2 K2
      refine W.reg (fun K hK => ?_)
      simp (disch := omega) [gA, wrap_i64, wrap_u64, wrap_u32, Int.tdiv_eq_ediv_of_nonneg, Int.tmod_eq_emod_of_nonneg, hr]
      refine callR s1 ?_
      simp (disch := omega) [gA, wrap_i64, wrap_u64, wrap_u32, Int.tdiv_eq_ediv_of_nonneg, Int.tmod_eq_emod_of_nonneg, hr]
      refine callR s2 ?_
      simp (disch := omega) [gA, wrap_i64, wrap_u64, wrap_u32, Int.tdiv_eq_ediv_of_nonneg, Int.tmod_eq_emod_of_nonneg, hr]
      refine callR s3 ?_
      simp (disch := omega) [gA, wrap_i64, wrap_u64, wrap_u32, Int.tdiv_eq_ediv_of_nonneg, Int.tmod_eq_emod_of_nonneg, hr]
      refine hK _ (W.liveK [9, 20, 21, 22] fun K2 hK2 => ?_); clear hK K; simp; refine hK2 _ ?_; clear hK2 K2
      refine W.reg (fun K hK => ?_); simp (disch := omega) [gA, wrap_i64, wrap_u64, wrap_u32, Int.tdiv_eq_ediv_of_nonneg, Int.tmod_eq_emod_of_nonneg]
      refine hK _ ⟨k - 1, _, Gh_fa _ [9, 20, 21, 22], by omega, 4, _, _, _, rfl, by simp [hr]; rw [qe]; rfl, by omega⟩
  · have hi : i = 4 := by simp at h; omega
    subst hi
    refine W.exit ?_; simp only [pblk_exit, pblk_normal, pblk_ret, pseq_exit, pseq_normal, pseq_ret, pnor_exit, pnor_normal, pnor_ret, if_true, if_false, reduceIte, Nat.reduceEqDiff]
    refine W.sreg (fun K hK => ?_)
    simp (disch := omega) [gA, wrap_i64, wrap_u64, wrap_u32, Int.tdiv_eq_ediv_of_nonneg, Int.tmod_eq_emod_of_nonneg, hr]
    refine callR dt ?_
    simp (disch := omega) [gA, wrap_i64, wrap_u64, wrap_u32, Int.tdiv_eq_ediv_of_nonneg, Int.tmod_eq_emod_of_nonneg]
    refine hK _ (W.liveK [8] fun K2 hK2 => ?_); clear hK K; simp; refine hK2 _ ?_; clear hK2 K2
    refine W.ret ?_
    simp [go]
end Go.Proofs.YtmdcopgjjfihnaaGreat
