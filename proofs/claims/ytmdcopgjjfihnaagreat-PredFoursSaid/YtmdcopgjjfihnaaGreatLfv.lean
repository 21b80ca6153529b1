import Derived.Test.YtmdcopgjjfihnaaGreatLfu
set_option linter.unusedSimpArgs false
set_option linter.unusedVariables false
namespace Go.Proofs.YtmdcopgjjfihnaaGreat
open Go Pm

set_option maxHeartbeats 4000000 in
theorem Farther12_ret {a b c e : CV} {s k : Nat} (ha : a.OK) (hb : b.OK) (hc : c.OK) (he : e.OK) (ba : a.Sz s k) (bb : b.Sz s k) (bc : c.Sz s k) (be : e.Sz s k) {p q : Int}
    (m1 : Ret env.P 92 [PI [a.d], PI [b.d]] (PI [p])) (m2 : Ret env.P 92 [PI [c.d], PI [e.d]] (PI [q])) (m3 : Ret env.P 92 [PI [p], PI [p]] (PI [p * p])) (m4 : Ret env.P 92 [PI [q], PI [q]] (PI [q * q]))
    {x y r : List Int} (m5 : Ret env.P 92 [PI (apt c e), PI [p * p]] (PI x)) (m6 : Ret env.P 92 [PI (apt a b), PI [q * q]] (PI y)) (m7 : Ret env.P 94 [PI x, PI y] (PI r)) :
    Ret env.P 29 [.ag a.doc, .ag b.doc, .ag c.doc, .ag e.doc] (PI r) := by
  have n1 := row12_ret ha ba
  have n2 := row12_ret hb bb
  have n3 := row12_ret hc bc
  have n4 := row12_ret he be
  have p1 := apart12_ret hc he bc be
  have p2 := apart12_ret ha hb ba bb
  clear ha hb hc he ba bb bc be
  generalize [p * p] = pp at *
  generalize [q * q] = qq at *
  generalize [p] = lp at *
  generalize [q] = lq at *
  generalize apt c e = z1 at *
  generalize apt a b = z2 at *
  generalize [a.d] = da at *
  generalize [b.d] = db at *
  generalize [c.d] = dc at *
  generalize [e.d] = de at *
  simp only [CV.doc_def] at *
  generalize qd a.x a.d = ua at *
  generalize qd a.y a.d = wa at *
  generalize qd b.x b.d = ub at *
  generalize qd b.y b.d = wb at *
  generalize qd c.x c.d = uc at *
  generalize qd c.y c.d = wc at *
  generalize qd e.x e.d = ue at *
  generalize qd e.y e.d = we at *
  refine ret_of_Wf (E := env) (fun _ => 0) [(0, .ag [PP ua, PP wa, Po a.x, Po a.y, .bool (decide (a.d < 0)), sls u32 (dig LL a.d.natAbs)]), (1, .ag [PP ub, PP wb, Po b.x, Po b.y, .bool (decide (b.d < 0)), sls u32 (dig LL b.d.natAbs)]), (2, .ag [PP uc, PP wc, Po c.x, Po c.y, .bool (decide (c.d < 0)), sls u32 (dig LL c.d.natAbs)]), (3, .ag [PP ue, PP we, Po e.x, Po e.y, .bool (decide (e.d < 0)), sls u32 (dig LL e.d.natAbs)])] Tryz.func29 rfl (by kernel_rfl) (by kernel_rfl) (show 4 ≤ 68 by decide) (by simp) ?_
  refine W.sreg (fun K hK => ?_); simp (disch := omega) [gA, wrap_i64, wrap_u64, wrap_u32, Int.tdiv_eq_ediv_of_nonneg, Int.tmod_eq_emod_of_nonneg]; refine hK _ (W.liveK [4, 5, 6, 7] fun K2 hK2 => ?_); clear hK K; simp; refine hK2 _ ?_; clear hK2 K2
  refine W.sreg (fun K hK => ?_)
  simp (disch := omega) [gA, wrap_i64, wrap_u64, wrap_u32, Int.tdiv_eq_ediv_of_nonneg, Int.tmod_eq_emod_of_nonneg]
  refine callR n1 ?_
  simp (disch := omega) [gA, wrap_i64, wrap_u64, wrap_u32, Int.tdiv_eq_ediv_of_nonneg, Int.tmod_eq_emod_of_nonneg]
  refine hK _ (W.liveK [4, 5, 6, 7, 11] fun K2 hK2 => ?_); clear hK K; simp; refine hK2 _ ?_; clear hK2 K2
  refine W.sreg (fun K hK => ?_)
  simp (disch := omega) [gA, wrap_i64, wrap_u64, wrap_u32, Int.tdiv_eq_ediv_of_nonneg, Int.tmod_eq_emod_of_nonneg]
  refine callR n2 ?_
  simp (disch := omega) [gA, wrap_i64, wrap_u64, wrap_u32, Int.tdiv_eq_ediv_of_nonneg, Int.tmod_eq_emod_of_nonneg]
  refine hK _ (W.liveK [4, 5, 6, 7, 11, 14] fun K2 hK2 => ?_); clear hK K; simp; refine hK2 _ ?_; clear hK2 K2
  refine W.sreg (fun K hK => ?_)
  simp (disch := omega) [gA, wrap_i64, wrap_u64, wrap_u32, Int.tdiv_eq_ediv_of_nonneg, Int.tmod_eq_emod_of_nonneg]
  refine callR n3 ?_
  simp (disch := omega) [gA, wrap_i64, wrap_u64, wrap_u32, Int.tdiv_eq_ediv_of_nonneg, Int.tmod_eq_emod_of_nonneg]
  refine hK _ (W.liveK [4, 5, 6, 7, 11, 14, 17] fun K2 hK2 => ?_); clear hK K; simp; refine hK2 _ ?_; clear hK2 K2
  refine W.sreg (fun K hK => ?_)
  simp (disch := omega) [gA, wrap_i64, wrap_u64, wrap_u32, Int.tdiv_eq_ediv_of_nonneg, Int.tmod_eq_emod_of_nonneg]
  refine callR n4 ?_
  simp (disch := omega) [gA, wrap_i64, wrap_u64, wrap_u32, Int.tdiv_eq_ediv_of_nonneg, Int.tmod_eq_emod_of_nonneg]
  refine hK _ (W.liveK [4, 5, 6, 7, 11, 14, 17, 20] fun K2 hK2 => ?_); clear hK K; simp; refine hK2 _ ?_; clear hK2 K2
  refine W.sreg (fun K hK => ?_)
  simp (disch := omega) [gA, wrap_i64, wrap_u64, wrap_u32, Int.tdiv_eq_ediv_of_nonneg, Int.tmod_eq_emod_of_nonneg]
  refine callR m1 ?_
  simp (disch := omega) [gA, wrap_i64, wrap_u64, wrap_u32, Int.tdiv_eq_ediv_of_nonneg, Int.tmod_eq_emod_of_nonneg]
  refine callR m2 ?_
  simp (disch := omega) [gA, wrap_i64, wrap_u64, wrap_u32, Int.tdiv_eq_ediv_of_nonneg, Int.tmod_eq_emod_of_nonneg]
  refine hK _ (W.liveK [4, 5, 6, 7, 21, 22] fun K2 hK2 => ?_); clear hK K; simp; refine hK2 _ ?_; clear hK2 K2
  refine W.sdrw (fun K hK => ?_)
  simp (disch := omega) [gA, wrap_i64, wrap_u64, wrap_u32, Int.tdiv_eq_ediv_of_nonneg, Int.tmod_eq_emod_of_nonneg]
  refine callR p1 ?_
  simp (disch := omega) [gA, wrap_i64, wrap_u64, wrap_u32, Int.tdiv_eq_ediv_of_nonneg, Int.tmod_eq_emod_of_nonneg]
  refine callR m3 ?_
  simp (disch := omega) [gA, wrap_i64, wrap_u64, wrap_u32, Int.tdiv_eq_ediv_of_nonneg, Int.tmod_eq_emod_of_nonneg]
  refine callR m5 ?_
  simp (disch := omega) [gA, wrap_i64, wrap_u64, wrap_u32, Int.tdiv_eq_ediv_of_nonneg, Int.tmod_eq_emod_of_nonneg]
  refine callR p2 ?_
  simp (disch := omega) [gA, wrap_i64, wrap_u64, wrap_u32, Int.tdiv_eq_ediv_of_nonneg, Int.tmod_eq_emod_of_nonneg]
  refine callR m4 ?_
  simp (disch := omega) [gA, wrap_i64, wrap_u64, wrap_u32, Int.tdiv_eq_ediv_of_nonneg, Int.tmod_eq_emod_of_nonneg]
  refine callR m6 ?_
  simp (disch := omega) [gA, wrap_i64, wrap_u64, wrap_u32, Int.tdiv_eq_ediv_of_nonneg, Int.tmod_eq_emod_of_nonneg]
  refine callR m7 ?_
  simp (disch := omega) [gA, wrap_i64, wrap_u64, wrap_u32, Int.tdiv_eq_ediv_of_nonneg, Int.tmod_eq_emod_of_nonneg]
  refine hK _ (W.liveK [8] fun K2 hK2 => ?_); clear hK K; simp; refine hK2 _ ?_; clear hK2 K2
  refine W.ret ?_
  simp [go]
end Go.Proofs.YtmdcopgjjfihnaaGreat
