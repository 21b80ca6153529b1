import Derived.Test.YtmdcopgjjfihnaaGreatLff
set_option linter.unusedSimpArgs false
set_option linter.unusedVariables false
namespace Go.Proofs.YtmdcopgjjfihnaaGreat
open Go Pm

/-! THE DOCUMENT'S PREDICATES ON TWO. -/
structure CV.Sz (c : CV) (s k : Nat) : Prop where
  x2 : Bd 2 s k c.x
  y2 : Bd 2 s k c.y
  d2 : sz 2 c.d ≤ s
  h1 : 1 ≤ s
  hs : s ≤ 100000000
  hk : k ≤ 100000000
theorem bd_one {s : Nat} {d : Int} (h : sz 2 d ≤ s) : Bd 2 s 1 [d] := ⟨by simp, fun c hc => by simp at hc; subst hc; exact h⟩
theorem bdL' {h n : Nat} {x : List Int} (hx : Bd 2 h n x) : Bd LL h n x := ⟨hx.len, fun c hc => Nat.le_trans (sz_le hLL (Nat.lt_of_lt_of_le (sz_lt (b := 2) (by decide) c) (Nat.pow_le_pow_left (by decide) _))) (hx.sz c hc)⟩
theorem szL' (v : Int) : sz LL v ≤ sz 2 v := sz_le hLL (Nat.lt_of_lt_of_le (sz_lt (b := 2) (by decide) v) (Nat.pow_le_pow_left (by decide) _))
theorem psub_eq (x y : List Int) : padd x (pneg y) = psub x y := Cn.ext (Cn.padd _ _) (Cn.psub _ _) fun t => by rw [V_padd, V_pneg, V_psub]; omega
theorem qSubI_ret {x y : List Int} {s n : Nat} (hx : Bd 2 s n x) (hy : Bd 2 s n y) (hs : s ≤ YY) (hn : n < 1099511627776) : Ret env.P 94 [PI x, PI y] (PI (psub x y)) := by
  have one : sz 2 1 ≤ YY := Nat.le_trans (sz_le (k := 1) (by decide) (by decide)) (by decide)
  have Q : ∀ z : List Int, Bd 2 s n z → QOK (qs z) := fun z hz => by
    rw [← qd_one]
    exact QOK_qd (k := YY) (n := n) (by decide) (hz.mono hs (Nat.le_refl _)) one (Nat.le_refl _) hn
  have e : scaleQ (qs y) (-1) = qs (pneg y) := by rw [← qd_one, negQ_qd (by decide), qd_one]
  have hn' : Bd 2 s n (pneg y) := Bd.pneg hy
  have := qSub_ret (qs x) (qs y) (qs (pneg y)) (Q x hx) (Q y hy) e (Q _ hn')
  rw [← qd_one, ← qd_one, ← qd_one, addQ_qd (by decide), qd_one, qd_one, qd_one, psub_eq, PP_qs, PP_qs, PP_qs] at this
  exact this
theorem row12_ret {c : CV} {s k : Nat} (h : c.OK) (b : c.Sz s k) : Ret env.P 90 [.ag c.doc] (.tup [PI c.x, PI c.y, PI [c.d]]) := by
  have hs := b.hs; have hk := b.hk
  have f1 := rFromI_ret (d := c.d) (Nat.lt_of_le_of_lt (szL' _) (by have := b.d2; omega))
  have o1 := rOf_ret 1 (by decide) (by decide)
  have m1 := MakeI_ret c.d (by show sz 2 _ < 549755813888; have := b.d2; omega)
  have q1 := qFromI_ret h.cx (bdL' b.x2) (by omega) (by omega)
  have q2 := qFromI_ret h.cy (bdL' b.y2) (by omega) (by omega)
  simp only [CV.doc_def] at *
  generalize qd c.x c.d = ux at *
  generalize qd c.y c.d = uy at *
  refine ret_of_Wf (E := env) (fun _ => 0) [(0, .ag [PP ux, PP uy, Po c.x, Po c.y, .bool (decide (c.d < 0)), sls u32 (dig LL c.d.natAbs)])] Tryz.func90 rfl (by kernel_rfl) (by kernel_rfl) (show 1 ≤ 22 by decide) (by simp) ?_
  refine W.sreg (fun K hK => ?_); simp (disch := omega) [gA, wrap_i64, wrap_u64, wrap_u32, Int.tdiv_eq_ediv_of_nonneg, Int.tmod_eq_emod_of_nonneg]; refine hK _ (W.liveK [1] fun K2 hK2 => ?_); clear hK K; simp; refine hK2 _ ?_; clear hK2 K2
  refine W.sreg (fun K hK => ?_)
  simp (disch := omega) [gA, wrap_i64, wrap_u64, wrap_u32, Int.tdiv_eq_ediv_of_nonneg, Int.tmod_eq_emod_of_nonneg]
  refine callR f1 ?_
  simp (disch := omega) [gA, wrap_i64, wrap_u64, wrap_u32, Int.tdiv_eq_ediv_of_nonneg, Int.tmod_eq_emod_of_nonneg]
  refine callR o1 ?_
  simp (disch := omega) [gA, wrap_i64, wrap_u64, wrap_u32, Int.tdiv_eq_ediv_of_nonneg, Int.tmod_eq_emod_of_nonneg]
  refine callR m1 ?_
  simp (disch := omega) [gA, wrap_i64, wrap_u64, wrap_u32, Int.tdiv_eq_ediv_of_nonneg, Int.tmod_eq_emod_of_nonneg]
  refine hK _ (W.liveK [1, 5] fun K2 hK2 => ?_); clear hK K; simp; refine hK2 _ ?_; clear hK2 K2
  refine W.sdrw (fun K hK => ?_)
  simp (disch := omega) [gA, wrap_i64, wrap_u64, wrap_u32, Int.tdiv_eq_ediv_of_nonneg, Int.tmod_eq_emod_of_nonneg]
  refine callR q1 ?_
  simp (disch := omega) [gA, wrap_i64, wrap_u64, wrap_u32, Int.tdiv_eq_ediv_of_nonneg, Int.tmod_eq_emod_of_nonneg]
  refine callR q2 ?_
  simp (disch := omega) [gA, wrap_i64, wrap_u64, wrap_u32, Int.tdiv_eq_ediv_of_nonneg, Int.tmod_eq_emod_of_nonneg]
  refine hK _ (W.liveK [2, 3, 4] fun K2 hK2 => ?_); clear hK K; simp; refine hK2 _ ?_; clear hK2 K2
  refine W.ret ?_
  simp [go]
  rfl
theorem Right12_ret {a b : CV} {s : Nat} {k : Nat} (ha : a.OK) (hb : b.OK) (ba : a.Sz s k) (bb : b.Sz s k) : Ret env.P 159 [.ag a.doc, .ag b.doc] (PI (psub (pmul b.x [a.d]) (pmul a.x [b.d]))) := by
  have hs := ba.hs; have hk := ba.hk
  have n1 := row12_ret ha ba
  have n2 := row12_ret hb bb
  have m1 := qMulI_ret b.x [a.d] s s k 1 bb.x2 (bd_one ba.d2) (by show _ < 137438953472; omega)
  have m2 := qMulI_ret a.x [b.d] s s k 1 ba.x2 (bd_one bb.d2) (by show _ < 137438953472; omega)
  have w1 := (Bd.pmul (by decide) bb.x2 (bd_one ba.d2)).mono (show _ ≤ 2 * s + k + 2 by omega) (show _ ≤ k + 2 by omega)
  have w2 := (Bd.pmul (by decide) ba.x2 (bd_one bb.d2)).mono (show _ ≤ 2 * s + k + 2 by omega) (show _ ≤ k + 2 by omega)
  have d1 := qSubI_ret w1 w2 (by show _ ≤ 137438953472; omega) (by omega)
  generalize psub (pmul b.x [a.d]) (pmul a.x [b.d]) = r at *
  generalize pmul b.x [a.d] = p1 at *
  generalize pmul a.x [b.d] = p2 at *
  clear w1 w2 ba bb ha hb
  simp only [CV.doc_def] at *
  generalize qd a.x a.d = ux at *
  generalize qd a.y a.d = uy at *
  generalize qd b.x b.d = vx at *
  generalize qd b.y b.d = vy at *
  refine ret_of_Wf (E := env) (fun _ => 0) [(0, .ag [PP ux, PP uy, Po a.x, Po a.y, .bool (decide (a.d < 0)), sls u32 (dig LL a.d.natAbs)]), (1, .ag [PP vx, PP vy, Po b.x, Po b.y, .bool (decide (b.d < 0)), sls u32 (dig LL b.d.natAbs)])] Tryz.func159 rfl (by kernel_rfl) (by kernel_rfl) (show 2 ≤ 30 by decide) (by simp) ?_
  generalize [a.d] = da at *
  generalize [b.d] = db at *
  refine W.sreg (fun K hK => ?_); simp (disch := omega) [gA, wrap_i64, wrap_u64, wrap_u32, Int.tdiv_eq_ediv_of_nonneg, Int.tmod_eq_emod_of_nonneg]; refine hK _ (W.liveK [2, 3] fun K2 hK2 => ?_); clear hK K; simp; refine hK2 _ ?_; clear hK2 K2
  refine W.sreg (fun K hK => ?_)
  simp (disch := omega) [gA, wrap_i64, wrap_u64, wrap_u32, Int.tdiv_eq_ediv_of_nonneg, Int.tmod_eq_emod_of_nonneg]
  refine callR n1 ?_
  simp (disch := omega) [gA, wrap_i64, wrap_u64, wrap_u32, Int.tdiv_eq_ediv_of_nonneg, Int.tmod_eq_emod_of_nonneg]
  refine hK _ (W.liveK [3, 5, 6, 7] fun K2 hK2 => ?_); clear hK K; simp; refine hK2 _ ?_; clear hK2 K2
  refine W.sreg (fun K hK => ?_)
  simp (disch := omega) [gA, wrap_i64, wrap_u64, wrap_u32, Int.tdiv_eq_ediv_of_nonneg, Int.tmod_eq_emod_of_nonneg]
  refine callR n2 ?_
  simp (disch := omega) [gA, wrap_i64, wrap_u64, wrap_u32, Int.tdiv_eq_ediv_of_nonneg, Int.tmod_eq_emod_of_nonneg]
  refine hK _ (W.liveK [5, 6, 7, 8, 9, 10] fun K2 hK2 => ?_); clear hK K; simp; refine hK2 _ ?_; clear hK2 K2
  refine W.sreg (fun K hK => ?_)
  simp (disch := omega) [gA, wrap_i64, wrap_u64, wrap_u32, Int.tdiv_eq_ediv_of_nonneg, Int.tmod_eq_emod_of_nonneg]
  refine callR m1 ?_
  simp (disch := omega) [gA, wrap_i64, wrap_u64, wrap_u32, Int.tdiv_eq_ediv_of_nonneg, Int.tmod_eq_emod_of_nonneg]
  refine callR m2 ?_
  simp (disch := omega) [gA, wrap_i64, wrap_u64, wrap_u32, Int.tdiv_eq_ediv_of_nonneg, Int.tmod_eq_emod_of_nonneg]
  refine callR d1 ?_
  simp (disch := omega) [gA, wrap_i64, wrap_u64, wrap_u32, Int.tdiv_eq_ediv_of_nonneg, Int.tmod_eq_emod_of_nonneg]
  refine hK _ (W.liveK [4] fun K2 hK2 => ?_); clear hK K; simp; refine hK2 _ ?_; clear hK2 K2
  refine W.ret ?_
  simp [go]
theorem Above12_ret {a b : CV} {s : Nat} {k : Nat} (ha : a.OK) (hb : b.OK) (ba : a.Sz s k) (bb : b.Sz s k) : Ret env.P 160 [.ag a.doc, .ag b.doc] (PI (psub (pmul b.y [a.d]) (pmul a.y [b.d]))) := by
  have hs := ba.hs; have hk := ba.hk
  have n1 := row12_ret ha ba
  have n2 := row12_ret hb bb
  have m1 := qMulI_ret b.y [a.d] s s k 1 bb.y2 (bd_one ba.d2) (by show _ < 137438953472; omega)
  have m2 := qMulI_ret a.y [b.d] s s k 1 ba.y2 (bd_one bb.d2) (by show _ < 137438953472; omega)
  have w1 := (Bd.pmul (by decide) bb.y2 (bd_one ba.d2)).mono (show _ ≤ 2 * s + k + 2 by omega) (show _ ≤ k + 2 by omega)
  have w2 := (Bd.pmul (by decide) ba.y2 (bd_one bb.d2)).mono (show _ ≤ 2 * s + k + 2 by omega) (show _ ≤ k + 2 by omega)
  have d1 := qSubI_ret w1 w2 (by show _ ≤ 137438953472; omega) (by omega)
  generalize psub (pmul b.y [a.d]) (pmul a.y [b.d]) = r at *
  generalize pmul b.y [a.d] = p1 at *
  generalize pmul a.y [b.d] = p2 at *
  clear w1 w2 ba bb ha hb
  simp only [CV.doc_def] at *
  generalize qd a.x a.d = ux at *
  generalize qd a.y a.d = uy at *
  generalize qd b.x b.d = vx at *
  generalize qd b.y b.d = vy at *
  refine ret_of_Wf (E := env) (fun _ => 0) [(0, .ag [PP ux, PP uy, Po a.x, Po a.y, .bool (decide (a.d < 0)), sls u32 (dig LL a.d.natAbs)]), (1, .ag [PP vx, PP vy, Po b.x, Po b.y, .bool (decide (b.d < 0)), sls u32 (dig LL b.d.natAbs)])] Tryz.func160 rfl (by kernel_rfl) (by kernel_rfl) (show 2 ≤ 30 by decide) (by simp) ?_
  generalize [a.d] = da at *
  generalize [b.d] = db at *
  refine W.sreg (fun K hK => ?_); simp (disch := omega) [gA, wrap_i64, wrap_u64, wrap_u32, Int.tdiv_eq_ediv_of_nonneg, Int.tmod_eq_emod_of_nonneg]; refine hK _ (W.liveK [2, 3] fun K2 hK2 => ?_); clear hK K; simp; refine hK2 _ ?_; clear hK2 K2
  refine W.sreg (fun K hK => ?_)
  simp (disch := omega) [gA, wrap_i64, wrap_u64, wrap_u32, Int.tdiv_eq_ediv_of_nonneg, Int.tmod_eq_emod_of_nonneg]
  refine callR n1 ?_
  simp (disch := omega) [gA, wrap_i64, wrap_u64, wrap_u32, Int.tdiv_eq_ediv_of_nonneg, Int.tmod_eq_emod_of_nonneg]
  refine hK _ (W.liveK [3, 5, 6, 7] fun K2 hK2 => ?_); clear hK K; simp; refine hK2 _ ?_; clear hK2 K2
  refine W.sreg (fun K hK => ?_)
  simp (disch := omega) [gA, wrap_i64, wrap_u64, wrap_u32, Int.tdiv_eq_ediv_of_nonneg, Int.tmod_eq_emod_of_nonneg]
  refine callR n2 ?_
  simp (disch := omega) [gA, wrap_i64, wrap_u64, wrap_u32, Int.tdiv_eq_ediv_of_nonneg, Int.tmod_eq_emod_of_nonneg]
  refine hK _ (W.liveK [5, 6, 7, 8, 9, 10] fun K2 hK2 => ?_); clear hK K; simp; refine hK2 _ ?_; clear hK2 K2
  refine W.sreg (fun K hK => ?_)
  simp (disch := omega) [gA, wrap_i64, wrap_u64, wrap_u32, Int.tdiv_eq_ediv_of_nonneg, Int.tmod_eq_emod_of_nonneg]
  refine callR m1 ?_
  simp (disch := omega) [gA, wrap_i64, wrap_u64, wrap_u32, Int.tdiv_eq_ediv_of_nonneg, Int.tmod_eq_emod_of_nonneg]
  refine callR m2 ?_
  simp (disch := omega) [gA, wrap_i64, wrap_u64, wrap_u32, Int.tdiv_eq_ediv_of_nonneg, Int.tmod_eq_emod_of_nonneg]
  refine callR d1 ?_
  simp (disch := omega) [gA, wrap_i64, wrap_u64, wrap_u32, Int.tdiv_eq_ediv_of_nonneg, Int.tmod_eq_emod_of_nonneg]
  refine hK _ (W.liveK [4] fun K2 hK2 => ?_); clear hK K; simp; refine hK2 _ ?_; clear hK2 K2
  refine W.ret ?_
  simp [go]
end Go.Proofs.YtmdcopgjjfihnaaGreat
