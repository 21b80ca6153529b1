import Derived.Test.YtdiladmkbpnhoaaGreatLbz
import Derived.Test.YtdiladmkbpnhoaaGreatLbn
set_option linter.unusedSimpArgs false
set_option linter.unusedVariables false
namespace Go.Proofs.YtdiladmkbpnhoaaGreat
open Go Pm
theorem mul_zero_cut {y h : List Int} (cy : Cn y) (hy : 0 < y.length) (e : ∀ t, V t y * V t h = 0) : cutR h = [] := by
 by_cases hh : cutR h = []
 ·exact hh
 ·exfalso
  have h1 : pmul y (cutR h) = [] := Cn.ext (Cn.pmul _ _) Cn.nil fun t => by rw [V_pmul, V_cutR, e]; rfl
  have h2 := pmul_len_eq cy (Cn.cut h) hy (List.length_pos_iff.2 hh)
  rw [h1] at h2
  have := List.length_pos_iff.2 hh
  simp at h2; omega
theorem V_eq_cut {a b : List Int} (h : cutR (psub a b) = []) (t : Int) : V t a = V t b := by
 have h1 := V_psub (t := t) a b
 rw [← V_cutR, h] at h1
 have : V t ([] : List Int) = 0 := rfl
 omega
theorem qd_mapmul {D : Int} (h : D ≠ 0) (x : List Int) : qd (x.map (· * D)) D = qs x := by
 have := qd_mul (D := 1) (l := D) (by decide) h x
 rw [Int.one_mul, qd_one] at this
 exact this
end Go.Proofs.YtdiladmkbpnhoaaGreat
