import Derived.Test.YtgebobdieekjaaaGreatLfg
set_option linter.unusedSimpArgs false
set_option linter.unusedVariables false
namespace Go.Proofs.YtgebobdieekjaaaGreat
open Go Pm

/-! ARE TWO ONE WAY. -/
def cross (x : List Int) (d : Int) (y : List Int) (e : Int) : List Int := padd (x.map (· * e)) ((pneg y).map (· * d))
theorem addQ_cross {d e : Int} (hd : d ≠ 0) (he : e ≠ 0) (x y : List Int) : addQ (qd x d) (qd (pneg y) e) = qd (cross x d y e) (d * e) := by
  rw [← qd_mul hd he x, ← qd_mul he hd (pneg y), Int.mul_comm e d, addQ_qd (Int.mul_ne_zero hd he)]
  rfl
theorem cross_nil {d e : Int} (hd : d ≠ 0) (he : e ≠ 0) {x y : List Int} (cx : Cn x) (cy : Cn y) : cross x d y e = [] ↔ x.map (· * e) = y.map (· * d) := by
  have hv : ∀ t, V t (cross x d y e) = V t x * e - V t y * d := fun t => by
    rw [cross, V_padd, V_mapmul, V_mapmul, V_pneg, Int.neg_mul]; omega
  constructor
  · intro h
    refine Cn.ext (Cn_map_mul cx he) (Cn_map_mul cy hd) fun t => ?_
    have := hv t
    rw [h] at this
    rw [V_mapmul, V_mapmul]
    simp only [V] at this
    omega
  · intro h
    refine Cn.ext (Cn.padd _ _) Cn.nil fun t => ?_
    rw [hv t, ← V_mapmul, ← V_mapmul, h]
    simp only [V]; omega
theorem CV.one {a b : CV} (ha : a.OK) (hb : b.OK) : (a.x.map (· * b.d) = b.x.map (· * a.d) ∧ a.y.map (· * b.d) = b.y.map (· * a.d)) ↔ (a.x = b.x ∧ a.y = b.y ∧ a.d = b.d) := by
  have pa := ha.pos
  have pb := hb.pos
  constructor
  · rintro ⟨h1, h2⟩
    have e : (a.d :: (a.x ++ a.y)).map (· * b.d) = (b.d :: (b.x ++ b.y)).map (· * a.d) := by
      simp only [List.map_cons, List.map_append, h1, h2, Int.mul_comm a.d b.d]
    have g1 := gcdL_scale b.d (a.d :: (a.x ++ a.y))
    have g2 := gcdL_scale a.d (b.d :: (b.x ++ b.y))
    rw [e, g2, ha.gcd, hb.gcd] at g1
    have hd : a.d = b.d := by omega
    refine ⟨?_, ?_, hd⟩
    · refine Cn.ext ha.cx hb.cx fun t => ?_
      have := congrArg (V t) h1
      rw [V_mapmul, V_mapmul, hd] at this
      exact Int.eq_of_mul_eq_mul_right (by omega) this
    · refine Cn.ext ha.cy hb.cy fun t => ?_
      have := congrArg (V t) h2
      rw [V_mapmul, V_mapmul, hd] at this
      exact Int.eq_of_mul_eq_mul_right (by omega) this
  · rintro ⟨h1, h2, h3⟩
    rw [h1, h2, h3]; exact ⟨rfl, rfl⟩
theorem qSubD_ret {x y : List Int} {d e : Int} {s n : Nat} (hd : d ≠ 0) (he : e ≠ 0) (hx : Bd 2 s n x) (hy : Bd 2 s n y) (zd : sz 2 d ≤ s) (ze : sz 2 e ≤ s) (hs : s ≤ YY) (hn : n < 1099511627776) : Ret env.P 122 [PP (qd x d), PP (qd y e)] (PP (qd (cross x d y e) (d * e))) := by
  have := qSub_ret (qd x d) (qd y e) (qd (pneg y) e) (QOK_qd hd hx zd hs hn) (QOK_qd he hy ze hs hn) (negQ_qd he y) (QOK_qd he (Bd.pneg hy) ze hs hn)
  rw [addQ_cross hd he] at this
  exact this
theorem Same12_ret {a b : CV} {s k : Nat} (ha : a.OK) (hb : b.OK) (ba : a.Sz s k) (bb : b.Sz s k) : Ret env.P 68 [.ag a.doc, .ag b.doc] (.bool (decide (a.x = b.x ∧ a.y = b.y ∧ a.d = b.d))) := by
  have hs := ba.hs; have hk := ba.hk
  have da : a.d ≠ 0 := by have := ha.pos; omega
  have db : b.d ≠ 0 := by have := hb.pos; omega
  have s1 := qSubD_ret da db ba.x2 bb.x2 ba.d2 bb.d2 (by show _ ≤ 137438953472; omega) (by omega)
  have s2 := qSubD_ret da db ba.y2 bb.y2 ba.d2 bb.d2 (by show _ ≤ 137438953472; omega) (by omega)
  have c1 := cross_nil da db ha.cx hb.cx
  have c2 := cross_nil da db ha.cy hb.cy
  have hone := CV.one ha hb
  rw [← c1, ← c2] at hone
  clear c1 c2
  have e : decide (a.x = b.x ∧ a.y = b.y ∧ a.d = b.d) = decide (cross a.x a.d b.x b.d = [] ∧ cross a.y a.d b.y b.d = []) := decide_eq_decide.2 hone.symm
  rw [e]
  clear e hone
  have l1 : (qd (cross a.x a.d b.x b.d) (a.d * b.d)).length = (cross a.x a.d b.x b.d).length := by simp
  have l2 : (qd (cross a.y a.d b.y b.d) (a.d * b.d)).length = (cross a.y a.d b.y b.d).length := by simp
  generalize cross a.x a.d b.x b.d = k1 at *
  generalize cross a.y a.d b.y b.d = k2 at *
  generalize qd k1 (a.d * b.d) = q1 at *
  generalize qd k2 (a.d * b.d) = q2 at *
  simp only [CV.doc_def] at *
  generalize qd a.x a.d = ux at *
  generalize qd a.y a.d = uy at *
  generalize qd b.x b.d = vx at *
  generalize qd b.y b.d = vy at *
  refine ret_of_Wf (E := env) (fun _ => 0) [(0, .ag [PP ux, PP uy, Po a.x, Po a.y, .bool (decide (a.d < 0)), sls u32 (dig LL a.d.natAbs)]), (1, .ag [PP vx, PP vy, Po b.x, Po b.y, .bool (decide (b.d < 0)), sls u32 (dig LL b.d.natAbs)])] Tryz.func68 rfl (by kernel_rfl) (by kernel_rfl) (show 2 ≤ 21 by decide) (by simp) ?_
  refine W.sreg (fun K hK => ?_); simp (disch := omega) [gA, wrap_i64, wrap_u64, wrap_u32, Int.tdiv_eq_ediv_of_nonneg, Int.tmod_eq_emod_of_nonneg]; refine hK _ (W.liveK [2, 3] fun K2 hK2 => ?_); clear hK K; simp; refine hK2 _ ?_; clear hK2 K2
  by_cases h1 : k1 = []
  · subst h1
    have b1 : ((q1.length : Int) == 0) = true := by rw [beq_iff_eq, l1]; rfl
    by_cases h2 : k2 = []
    · subst h2
      have b2 : ((q2.length : Int) == 0) = true := by rw [beq_iff_eq, l2]; rfl
      refine W.sreg (fun K hK => ?_)
      simp (disch := omega) [gA, wrap_i64, wrap_u64, wrap_u32, Int.tdiv_eq_ediv_of_nonneg, Int.tmod_eq_emod_of_nonneg]
      refine callR s1 ?_
      simp (disch := omega) [gA, wrap_i64, wrap_u64, wrap_u32, Int.tdiv_eq_ediv_of_nonneg, Int.tmod_eq_emod_of_nonneg, b1]
      refine callR s2 ?_
      simp (disch := omega) [gA, wrap_i64, wrap_u64, wrap_u32, Int.tdiv_eq_ediv_of_nonneg, Int.tmod_eq_emod_of_nonneg, b2]
      refine hK _ (W.liveK [4] fun K2 hK2 => ?_); clear hK K; simp; refine hK2 _ ?_; clear hK2 K2
      refine W.ret ?_
      simp [go]
    · have b2 : ((q2.length : Int) == 0) = false := by rw [beq_eq_false_iff_ne, l2]; have := List.length_pos_iff.2 h2; omega
      refine W.sreg (fun K hK => ?_)
      simp (disch := omega) [gA, wrap_i64, wrap_u64, wrap_u32, Int.tdiv_eq_ediv_of_nonneg, Int.tmod_eq_emod_of_nonneg]
      refine callR s1 ?_
      simp (disch := omega) [gA, wrap_i64, wrap_u64, wrap_u32, Int.tdiv_eq_ediv_of_nonneg, Int.tmod_eq_emod_of_nonneg, b1]
      refine callR s2 ?_
      simp (disch := omega) [gA, wrap_i64, wrap_u64, wrap_u32, Int.tdiv_eq_ediv_of_nonneg, Int.tmod_eq_emod_of_nonneg, b2]
      refine hK _ (W.liveK [4] fun K2 hK2 => ?_); clear hK K; simp; refine hK2 _ ?_; clear hK2 K2
      refine W.ret ?_
      simp [go]
      exact h2
  · have b1 : ((q1.length : Int) == 0) = false := by rw [beq_eq_false_iff_ne, l1]; have := List.length_pos_iff.2 h1; omega
    refine W.sreg (fun K hK => ?_)
    simp (disch := omega) [gA, wrap_i64, wrap_u64, wrap_u32, Int.tdiv_eq_ediv_of_nonneg, Int.tmod_eq_emod_of_nonneg]
    refine callR s1 ?_
    simp (disch := omega) [gA, wrap_i64, wrap_u64, wrap_u32, Int.tdiv_eq_ediv_of_nonneg, Int.tmod_eq_emod_of_nonneg, b1]
    refine hK _ (W.liveK [4] fun K2 hK2 => ?_); clear hK K; simp; refine hK2 _ ?_; clear hK2 K2
    refine W.ret ?_
    simp [go]
    exact fun h => absurd h h1
end Go.Proofs.YtgebobdieekjaaaGreat
