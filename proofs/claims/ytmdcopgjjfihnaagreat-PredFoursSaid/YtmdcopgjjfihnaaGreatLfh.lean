import Derived.Test.YtmdcopgjjfihnaaGreatLfg
set_option linter.unusedSimpArgs false
set_option linter.unusedVariables false
namespace Go.Proofs.YtmdcopgjjfihnaaGreat
open Go Pm

/-! ARE TWO ONE WAY. -/
def cross (x : List Int) (d : Int) (y : List Int) (e : Int) : List Int := padd (x.map (· * e)) ((pneg y).map (· * d))
theorem addQ_cross {d e : Int} (hd : d ≠ 0) (he : e ≠ 0) (x y : List Int) : addQ (qd x d) (qd (pneg y) e) = qd (cross x d y e) (d * e) := by
  rw [← qd_mul hd he x, ← qd_mul he hd (pneg y), Int.mul_comm e d, addQ_qd (Int.mul_ne_zero hd he)]
  rfl
theorem cross_nil {d e : Int} (hd : d ≠ 0) (he : e ≠ 0) {x y : List Int} (cx : Cn x) (cy : Cn y) : cross x d y e = [] ↔ x.map (· * e) = y.map (· * d) := by
  have hv : ∀ t, V t (cross x d y e) = V t x * e - V t y * d := fun t => by
    rw [cross, V_padd, V_mapmul, V_mapmul, V_pneg, Int.neg_mul]; omega
  constructor
  · intro h
    refine Cn.ext (Cn_map_mul cx he) (Cn_map_mul cy hd) fun t => ?_
    have := hv t
    rw [h] at this
    rw [V_mapmul, V_mapmul]
    simp only [V] at this
    omega
  · intro h
    refine Cn.ext (Cn.padd _ _) Cn.nil fun t => ?_
    rw [hv t, ← V_mapmul, ← V_mapmul, h]
    simp only [V]; omega
theorem CV.one {a b : CV} (ha : a.OK) (hb : b.OK) : (a.x.map (· * b.d) = b.x.map (· * a.d) ∧ a.y.map (· * b.d) = b.y.map (· * a.d)) ↔ (a.x = b.x ∧ a.y = b.y ∧ a.d = b.d) := by
  have pa := ha.pos
  have pb := hb.pos
  constructor
  · rintro ⟨h1, h2⟩
    have e : (a.d :: (a.x ++ a.y)).map (· * b.d) = (b.d :: (b.x ++ b.y)).map (· * a.d) := by
      simp only [List.map_cons, List.map_append, h1, h2, Int.mul_comm a.d b.d]
    have g1 := gcdL_scale b.d (a.d :: (a.x ++ a.y))
    have g2 := gcdL_scale a.d (b.d :: (b.x ++ b.y))
    rw [e, g2, ha.gcd, hb.gcd] at g1
    have hd : a.d = b.d := by omega
    refine ⟨?_, ?_, hd⟩
    · refine Cn.ext ha.cx hb.cx fun t => ?_
      have := congrArg (V t) h1
      rw [V_mapmul, V_mapmul, hd] at this
      exact Int.eq_of_mul_eq_mul_right (by omega) this
    · refine Cn.ext ha.cy hb.cy fun t => ?_
      have := congrArg (V t) h2
      rw [V_mapmul, V_mapmul, hd] at this
      exact Int.eq_of_mul_eq_mul_right (by omega) this
  · rintro ⟨h1, h2, h3⟩
    rw [h1, h2, h3]; exact ⟨rfl, rfl⟩
theorem qSubD_ret {x y : List Int} {d e : Int} {s n : Nat} (hd : d ≠ 0) (he : e ≠ 0) (hx : Bd 2 s n x) (hy : Bd 2 s n y) (zd : sz 2 d ≤ s) (ze : sz 2 e ≤ s) (hs : s ≤ YY) (hn : n < 1099511627776) : Ret env.P 94 [PP (qd x d), PP (qd y e)] (PP (qd (cross x d y e) (d * e))) := by
  have := qSub_ret (qd x d) (qd y e) (qd (pneg y) e) (QOK_qd hd hx zd hs hn) (QOK_qd he hy ze hs hn) (negQ_qd he y) (QOK_qd he (Bd.pneg hy) ze hs hn)
  rw [addQ_cross hd he] at this
  exact this
end Go.Proofs.YtmdcopgjjfihnaaGreat
