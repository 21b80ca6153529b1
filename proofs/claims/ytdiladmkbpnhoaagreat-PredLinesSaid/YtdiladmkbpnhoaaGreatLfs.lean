import Derived.Test.YtdiladmkbpnhoaaGreatLfc
set_option linter.unusedSimpArgs false
set_option linter.unusedVariables false
namespace Go.Proofs.YtdiladmkbpnhoaaGreat
open Go Pm
def apR (a b : CV) : List Int := psub (pscale b.x a.d) (pscale a.x b.d)
def apA (a b : CV) : List Int := psub (pscale b.y a.d) (pscale a.y b.d)
def apt (a b : CV) : List Int := padd (pmul (apR a b) (apR a b)) (pmul (apA a b) (apA a b))
theorem apR_bd {a b : RC} {s n : Nat} (ha : a.OK s n) (hb : b.OK s n) : Bd LL (2 * s + 1) n (apR a.nc b.nc) ∧ Bd LL (2 * s + 1) n (apA a.nc b.nc) := by
 obtain ⟨x1, y1, d1⟩ := ha.bd_nc
 obtain ⟨x2, y2, d2⟩ := hb.bd_nc
 have e : s + s + 1 = 2 * s + 1 := by omega
 have key : ∀ {x y : List Int}, Bd LL (s + s) n x → Bd LL (s + s) n y → Bd LL (2 * s + 1) n (psub x y) := fun {x y} hx hy => by
  have h : padd x (pneg y) = psub x y := Cn.ext (Cn.padd _ _) (Cn.psub _ _) fun t => by rw [V_padd, V_pneg, V_psub]; omega
  rw [← h, ← e]
  exact Bd.padd hLL hx (Bd.pneg hy)
 exact ⟨key (Bd.pscale hLL x2 d1) (Bd.pscale hLL x1 d2), key (Bd.pscale hLL y2 d1) (Bd.pscale hLL y1 d2)⟩
theorem papart_ret {a b : RC} {s n : Nat} (ha : a.OK s n) (hb : b.OK s n) (hs : s ≤ 1000000) (hn : n ≤ 1000000) : Ret env.P 101 [.ag a.cells, .ag b.cells] (Po (apt a.nc b.nc)) := by
 have r := pRight_ret ha hb (by omega)
 have u := pAbove_ret ha hb (by omega)
 obtain ⟨b1, b2⟩ := apR_bd ha hb
 have m1 := pMulI_ret b1 b1 (by omega)
 have m2 := pMulI_ret b2 b2 (by omega)
 have p1 := pAddI_ret (PB.of (Bd.pmul hLL b1 b1) (by omega) (by omega)) (PB.of (Bd.pmul hLL b2 b2) (by omega) (by omega))
 rw [show psub (pscale b.nc.x a.nc.d) (pscale a.nc.x b.nc.d) = apR a.nc b.nc from rfl] at r
 rw [show psub (pscale b.nc.y a.nc.d) (pscale a.nc.y b.nc.d) = apA a.nc b.nc from rfl] at u
 unfold apt
 clear b1 b2 ha hb
 generalize padd (pmul (apR a.nc b.nc) (apR a.nc b.nc)) (pmul (apA a.nc b.nc) (apA a.nc b.nc)) = k at *
 generalize pmul (apR a.nc b.nc) (apR a.nc b.nc) = k1 at *
 generalize pmul (apA a.nc b.nc) (apA a.nc b.nc) = k2 at *
 generalize apR a.nc b.nc = X at *
 generalize apA a.nc b.nc = Y0 at *
 simp only [RC.cells_def] at *
 refine ret_of_Wf (E := env) (fun _ => 0) [(0, .ag [Pg a.x, Pg a.y, .bool a.s, sls u32 a.l]), (1, .ag [Pg b.x, Pg b.y, .bool b.s, sls u32 b.l])] Tryz.func101 rfl (by kernel_rfl) (by kernel_rfl) (show 2 ≤ 20 by decide) (by simp) ?_
 refine W.sreg (fun K hK => ?_); simp (disch := omega) [gA, wA]; refine W.lv [2, 3] hK fun J j => ?_; clear hK K; simp; refine j _ ?_; clear j J
 refine W.sdrw (fun K hK => ?_)
 simp (disch := omega) [gA, wA]
 refine callR r ?_
 simp (disch := omega) [gA, wA]
 refine callR u ?_
 simp (disch := omega) [gA, wA]
 refine W.lv [5, 6] hK fun J j => ?_; clear hK K; simp; refine j _ ?_; clear j J
 refine W.sreg (fun K hK => ?_)
 simp (disch := omega) [gA, wA]
 refine callR m1 ?_
 simp (disch := omega) [gA, wA]
 refine callR m2 ?_
 simp (disch := omega) [gA, wA]
 refine callR p1 ?_
 simp (disch := omega) [gA, wA]
 refine W.lv [4] hK fun J j => ?_; clear hK K; simp; refine j _ ?_; clear j J
 refine W.ret ?_
 simp [go]
end Go.Proofs.YtdiladmkbpnhoaaGreat
