import Derived.Test.YtdiladmkbpnhoaaGreatLcc
set_option linter.unusedSimpArgs false
set_option linter.unusedVariables false
namespace Go.Proofs.YtdiladmkbpnhoaaGreat
open Go Pm
theorem dmd_some {x y q : List Int} (cx : Cn x) (cy : Cn y) (hy : 0 < y.length) (cq : Cn q) (h : ∀ t, V t x = V t q * V t y) : qd (cutR (dmd x y).Q) (dmd x y).D = qs q ∧ (dmd x y).r = [] := by
 obtain ⟨hI, hr⟩ := dmd_inv cx cy hy
 generalize dmd x y = σ at *
 have hv := hI.v
 have e : ∀ t, V t σ.r = V t y * V t (psub (q.map (· * σ.D)) σ.Q) := fun t => by
  have h1 := hv t
  rw [h] at h1
  rw [V_psub, V_mapmul]
  grind
 have h1 := mul_small hI.c cy hy e hr
 have h2 : cutR (psub (q.map (· * σ.D)) σ.Q) = [] := mul_zero_cut cy hy fun t => by rw [← e, h1]; rfl
 have e2 : cutR σ.Q = q.map (· * σ.D) := Cn.ext (Cn.cut _) (Cn_map_mul cq hI.d) fun t => by rw [V_cutR]; exact (V_eq_cut h2 t).symm
 rw [e2]
 exact ⟨qd_mapmul hI.d q, h1⟩
end Go.Proofs.YtdiladmkbpnhoaaGreat
