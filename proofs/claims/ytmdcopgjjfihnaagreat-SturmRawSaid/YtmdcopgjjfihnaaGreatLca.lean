import Derived.Test.YtmdcopgjjfihnaaGreatLbz
import Derived.Test.YtmdcopgjjfihnaaGreatLbn
set_option linter.unusedSimpArgs false
set_option linter.unusedVariables false
namespace Go.Proofs.YtmdcopgjjfihnaaGreat
open Go Pm

/-! THE DOCUMENT's DIVISION AGAINST THE PROGRAM's. -/
theorem V_nil' (t : Int) : V t [] = 0 := rfl
theorem mul_zero_cut {y h : List Int} (cy : Cn y) (hy : 0 < y.length) (e : ∀ t, V t y * V t h = 0) : cutR h = [] := by
  by_cases hh : cutR h = []
  · exact hh
  · exfalso
    have h1 : pmul y (cutR h) = [] := Cn.ext (Cn.pmul _ _) Cn.nil fun t => by rw [V_pmul, V_cutR, e]; rfl
    have h2 := pmul_len_eq cy (Cn.cut h) hy (List.length_pos_iff.2 hh)
    rw [h1] at h2
    have := List.length_pos_iff.2 hh
    simp at h2; omega
theorem V_eq_cut {a b : List Int} (h : cutR (psub a b) = []) (t : Int) : V t a = V t b := by
  have h1 := V_psub (t := t) a b
  rw [← V_cutR, h] at h1
  have : V t ([] : List Int) = 0 := rfl
  omega
theorem qd_mapmul {D : Int} (h : D ≠ 0) (x : List Int) : qd (x.map (· * D)) D = qs x := by
  have := qd_mul (D := 1) (l := D) (by decide) h x
  rw [Int.one_mul, qd_one] at this
  exact this
theorem dmd_pdm {x y z : List Int} (cx : Cn x) (cz : Cn z) (cy : Cn y) (hy : 0 < y.length) (hz : ∀ t, V t z = lead y ^ psk x y * V t x) :
    qd (cutR (dmd z y).Q) (dmd z y).D = qs (pdm x y).1 ∧ qd (dmd z y).r (dmd z y).D = qs (pdm x y).2 := by
  obtain ⟨hI, hr⟩ := dmd_inv cz cy hy
  generalize dmd z y = σ at *
  have hv := hI.v
  have hV := fun t => V_pdm t x y
  have hl := pdm_len (a := x) hy
  obtain ⟨c1, c2⟩ := pdm_Cn (b := y) cx
  generalize (pdm x y).1 = p at *
  generalize (pdm x y).2 = r at *
  have e : ∀ t, V t (psub σ.r (r.map (· * σ.D))) = V t y * V t (psub (p.map (· * σ.D)) σ.Q) := fun t => by
    have h1 := hv t
    have h2 := hV t
    rw [hz] at h1
    rw [V_psub, V_psub, V_mapmul, V_mapmul]
    have h3 : σ.D * (lead y ^ psk x y * V t x) = σ.D * (V t p * V t y + V t r) := by rw [h2]
    rw [h3] at h1
    grind
  have h1 := mul_small (Cn.psub _ _) cy hy e (by
    have := psub_len σ.r (r.map (· * σ.D))
    simp only [List.length_map] at this
    omega)
  have h2 : cutR (psub (p.map (· * σ.D)) σ.Q) = [] := mul_zero_cut cy hy fun t => by rw [← e, h1]; rfl
  have e1 : σ.r = r.map (· * σ.D) := by
    have := Cn_map_mul c2 hI.d
    exact Cn.ext hI.c this fun t => V_eq_cut (by rw [h1]; rfl) t
  have e2 : cutR σ.Q = p.map (· * σ.D) := Cn.ext (Cn.cut _) (Cn_map_mul c1 hI.d) fun t => by rw [V_cutR]; exact (V_eq_cut h2 t).symm
  rw [e1, e2]
  exact ⟨qd_mapmul hI.d p, qd_mapmul hI.d r⟩

theorem sz2_of_LL {v : Int} {k : Nat} (h : sz LL v ≤ k) : sz 2 v ≤ 32 * k := sz_le (by decide) (Nat.lt_of_lt_of_le (sz_lt hLL v) (by
  have : (LL : Nat) = 2 ^ 32 := by decide
  rw [this, ← Nat.pow_mul]
  exact Nat.pow_le_pow_right (by decide) (by rw [← this]; omega)))
theorem Z_of_LL {v : Int} (h : sz LL v ≤ 200) : Z v := Nat.lt_of_le_of_lt (sz2_of_LL h) (by decide)

end Go.Proofs.YtmdcopgjjfihnaaGreat
