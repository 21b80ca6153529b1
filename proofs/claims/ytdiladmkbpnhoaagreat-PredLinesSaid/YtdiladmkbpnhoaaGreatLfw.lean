import Derived.Test.YtdiladmkbpnhoaaGreatLfs
set_option linter.unusedSimpArgs false
set_option linter.unusedVariables false
namespace Go.Proofs.YtdiladmkbpnhoaaGreat
open Go Pm
def farD (a b c e : CV) : List Int := psub (pscale (apt c e) ((a.d * b.d) * (a.d * b.d))) (pscale (apt a b) ((c.d * e.d) * (c.d * e.d)))
theorem apt_bd {a b : RC} {s n : Nat} (ha : a.OK s n) (hb : b.OK s n) : Bd LL (4 * s + n + 3) (2 * n) (apt a.nc b.nc) := by
 obtain ⟨b1, b2⟩ := apR_bd ha hb
 have p1 : Bd LL (4 * s + n + 2) (2 * n) (pmul (apR a.nc b.nc) (apR a.nc b.nc)) := (Bd.pmul hLL b1 b1).mono (by omega) (by omega)
 have p2 : Bd LL (4 * s + n + 2) (2 * n) (pmul (apA a.nc b.nc) (apA a.nc b.nc)) := (Bd.pmul hLL b2 b2).mono (by omega) (by omega)
 exact Bd.padd hLL p1 p2
theorem pFarther_ret {a b c e : RC} {s n : Nat} (ha : a.OK s n) (hb : b.OK s n) (hc : c.OK s n) (he : e.OK s n) (hs : s ≤ 1000000) (hn : n ≤ 1000000) : Ret env.P 35 [.ag a.cells, .ag b.cells, .ag c.cells, .ag e.cells] (Po (farD a.nc b.nc c.nc e.nc)) := by
 have n1 := pnorm_ret ha
 have n2 := pnorm_ret hb
 have n3 := pnorm_ret hc
 have n4 := pnorm_ret he
 have p1 := papart_ret hc he hs hn
 have p2 := papart_ret ha hb hs hn
 have B1 := apt_bd hc he
 have B2 := apt_bd ha hb
 obtain ⟨_, _, d1⟩ := ha.bd_nc
 obtain ⟨_, _, d2⟩ := hb.bd_nc
 obtain ⟨_, _, d3⟩ := hc.bd_nc
 obtain ⟨_, _, d4⟩ := he.bd_nc
 have small : ∀ {v : Int} {k : Nat}, sz LL v ≤ k → k ≤ 8000000 → Sz v := fun h hk => Nat.lt_of_le_of_lt h (by omega)
 have e1 : sz LL (a.nc.d * b.nc.d) ≤ s + s := sz_mul (b := LL) hLL d1 d2
 have e2 : sz LL (c.nc.d * e.nc.d) ≤ s + s := sz_mul (b := LL) hLL d3 d4
 have e3 : sz LL ((a.nc.d * b.nc.d) * (a.nc.d * b.nc.d)) ≤ (s + s) + (s + s) := sz_mul (b := LL) hLL e1 e1
 have e4 : sz LL ((c.nc.d * e.nc.d) * (c.nc.d * e.nc.d)) ≤ (s + s) + (s + s) := sz_mul (b := LL) hLL e2 e2
 have m1 := wMulI (small d1 (by omega)) (small d2 (by omega))
 have m2 := wMulI (small d3 (by omega)) (small d4 (by omega))
 have m3 := wMulI (small e1 (by omega)) (small e1 (by omega))
 have m4 := wMulI (small e2 (by omega)) (small e2 (by omega))
 have s1 := pScaleI_ret (PB.of B1 (by omega) (by omega)) (small e3 (by omega))
 have s2 := pScaleI_ret (PB.of B2 (by omega) (by omega)) (small e4 (by omega))
 have t1 := pSubI_ret (PB.of (Bd.pscale hLL B1 e3) (by omega) (by omega)) (PB.of (Bd.pscale hLL B2 e4) (by omega) (by omega))
 unfold farD
 clear B1 B2 ha hb hc he d1 d2 d3 d4 e1 e2 e3 e4 small
 generalize psub (pscale (apt c.nc e.nc) ((a.nc.d * b.nc.d) * (a.nc.d * b.nc.d))) (pscale (apt a.nc b.nc) ((c.nc.d * e.nc.d) * (c.nc.d * e.nc.d))) = R at *
 generalize pscale (apt c.nc e.nc) ((a.nc.d * b.nc.d) * (a.nc.d * b.nc.d)) = R1 at *
 generalize pscale (apt a.nc b.nc) ((c.nc.d * e.nc.d) * (c.nc.d * e.nc.d)) = R2 at *
 generalize (a.nc.d * b.nc.d) * (a.nc.d * b.nc.d) = q1 at *
 generalize (c.nc.d * e.nc.d) * (c.nc.d * e.nc.d) = q2 at *
 generalize a.nc.d * b.nc.d = q3 at *
 generalize c.nc.d * e.nc.d = q4 at *
 generalize apt c.nc e.nc = A1 at *
 generalize apt a.nc b.nc = A2 at *
 generalize a.nc = va at *
 generalize b.nc = vb at *
 generalize c.nc = vc at *
 generalize e.nc = ve at *
 simp only [RC.cells_def, CV.cells_def] at *
 refine ret_of_Wf (E := env) (fun _ => 0) [(0, .ag [Pg a.x, Pg a.y, .bool a.s, sls u32 a.l]), (1, .ag [Pg b.x, Pg b.y, .bool b.s, sls u32 b.l]), (2, .ag [Pg c.x, Pg c.y, .bool c.s, sls u32 c.l]), (3, .ag [Pg e.x, Pg e.y, .bool e.s, sls u32 e.l])] Tryz.func35 rfl (by kernel_rfl) (by kernel_rfl) (show 4 ≤ 40 by decide) (by simp) ?_
 refine W.sreg (fun K hK => ?_); simp (disch := omega) [gA, wA]; refine W.lv [4, 5, 6, 7] hK fun J j => ?_; clear hK K; simp; refine j _ ?_; clear j J
 refine W.sdrw (fun K hK => ?_)
 simp (disch := omega) [gA, wA]
 refine callR n1 ?_
 simp (disch := omega) [gA, wA]
 refine callR n2 ?_
 simp (disch := omega) [gA, wA]
 refine callR m1 ?_
 simp (disch := omega) [gA, wA]
 refine callR n3 ?_
 simp (disch := omega) [gA, wA]
 refine callR n4 ?_
 simp (disch := omega) [gA, wA]
 refine callR m2 ?_
 simp (maxSteps := 4000000) (disch := omega) [gA, wA]
 repeat rw [if_pos (by kernel_rfl)]
 simp (maxSteps := 4000000) (disch := omega) [gA, wA]
 repeat rw [if_pos (by kernel_rfl)]
 simp (maxSteps := 4000000) (disch := omega) [gA, wA]
 refine W.lv [4, 5, 6, 7, 9, 10] hK fun J j => ?_; clear hK K; simp; refine j _ ?_; clear j J
 refine W.sdrw (fun K hK => ?_)
 simp (disch := omega) [gA, wA]
 refine callR p1 ?_
 simp (disch := omega) [gA, wA]
 refine callR m3 ?_
 simp (disch := omega) [gA, wA]
 refine callR s1 ?_
 simp (disch := omega) [gA, wA]
 refine callR p2 ?_
 simp (disch := omega) [gA, wA]
 refine callR m4 ?_
 simp (disch := omega) [gA, wA]
 refine callR s2 ?_
 simp (disch := omega) [gA, wA]
 refine callR t1 ?_
 simp (disch := omega) [gA, wA]
 refine W.lv [8] hK fun J j => ?_; clear hK K; simp; refine j _ ?_; clear j J
 refine W.ret ?_
 simp [go]
end Go.Proofs.YtdiladmkbpnhoaaGreat
