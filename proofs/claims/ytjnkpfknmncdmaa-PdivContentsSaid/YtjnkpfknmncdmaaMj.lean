import Derived.Test.YtjnkpfknmncdmaaMi
set_option linter.unusedSimpArgs false
set_option linter.unusedVariables false
namespace Pm

/-! ONE LIMB OF A QUOTIENT. -/
/-- What is divided (X), by what (Y), both told by their heads. -/
structure KD (b W top next head x2 X Y : Int) : Prop where
  b0 : 2 ≤ b
  W0 : 1 ≤ W
  t0 : 1 ≤ top
  n0 : 0 ≤ next
  h0 : 0 ≤ head
  x0 : 0 ≤ x2
  nb : next < b
  xb : x2 < b
  Yl : (top * b + next) * W ≤ Y
  Yu : Y < (top * b + next + 1) * W
  Xl : (head * b + x2) * W ≤ X
  Xu : X < (head * b + x2 + 1) * W
  lt : X < b * Y

section
variable {b W top next head x2 X Y : Int} (h : KD b W top next head x2 X Y)
include h
theorem KD.Y0 : 0 < Y := by
  have h1 : 1 ≤ top * b + next := by
    have := Int.mul_le_mul_of_nonneg_right h.t0 (show 0 ≤ b by have := h.b0; omega)
    have := h.n0; have := h.b0; omega
  have := Int.mul_le_mul h1 h.W0 (by decide) (by omega)
  have := h.Yl; omega
/-- The guess is not too small. -/
theorem KD.first : X < (head / top + 1) * Y := by
  have h1 : head + 1 ≤ (head / top + 1) * top := by
    have := Int.lt_ediv_add_one_mul_self head (show 0 < top by have := h.t0; omega)
    omega
  have hg : 0 ≤ head / top + 1 := by have := Int.ediv_nonneg h.h0 (show 0 ≤ top by have := h.t0; omega); omega
  have hbW : 0 ≤ b * W := Int.mul_nonneg (by have := h.b0; omega) (by have := h.W0; omega)
  have h2 := Int.mul_le_mul_of_nonneg_right h1 hbW
  have h3 : (head * b + x2 + 1) * W ≤ (head + 1) * (b * W) := by
    have : (head + 1) * (b * W) = (head * b + b) * W := by grind
    rw [this]
    exact Int.mul_le_mul_of_nonneg_right (by have := h.xb; omega) (by have := h.W0; omega)
  have h4 : top * (b * W) ≤ Y := by
    have : top * (b * W) ≤ (top * b + next) * W := by
      have e : top * (b * W) = (top * b) * W := by grind
      rw [e]
      exact Int.mul_le_mul_of_nonneg_right (by have := h.n0; omega) (by have := h.W0; omega)
    have := h.Yl; omega
  have h5 : (head / top + 1) * top * (b * W) ≤ (head / top + 1) * Y := by
    rw [Int.mul_assoc]; exact Int.mul_le_mul_of_nonneg_left h4 hg
  have := h.Xu; omega
theorem KD.big {g : Int} (hg : b ≤ g) : X < g * Y := by
  have := Int.mul_le_mul_of_nonneg_right hg (Int.le_of_lt h.Y0)
  have := h.lt; omega
theorem KD.over {g r : Int} (hg : 0 ≤ g) (hr : g * top + r = head) (ho : r * b + x2 < g * next) : X < g * Y := by
  have h1 : head * b + x2 + 1 ≤ g * (top * b + next) := by
    have : g * (top * b + next) = (g * top) * b + g * next := by grind
    have h2 : g * top = head - r := by omega
    have h3 : (head - r) * b = head * b - r * b := by grind
    rw [this, h2, h3]; omega
  have h2 := Int.mul_le_mul_of_nonneg_right h1 (show 0 ≤ W by have := h.W0; omega)
  have h3 := Int.mul_le_mul_of_nonneg_left h.Yl hg
  rw [← Int.mul_assoc] at h3
  have := h.Xu; omega
/-- The guess is at most one too great. -/
theorem KD.near {g r : Int} (hg : 0 ≤ g) (hgb : g < b) (hr : g * top + r = head) (hn : g * next ≤ r * b + x2) : g * Y < X + Y := by
  have h1 : g * (top * b + next) ≤ head * b + x2 := by
    have : g * (top * b + next) = (g * top) * b + g * next := by grind
    have h2 : g * top = head - r := by omega
    have h3 : (head - r) * b = head * b - r * b := by grind
    rw [this, h2, h3]; omega
  have h2 := Int.mul_le_mul_of_nonneg_right h1 (show 0 ≤ W by have := h.W0; omega)
  have h3 : g * Y ≤ g * ((top * b + next) * W) + g * W := by
    have h4 : Y ≤ (top * b + next) * W + W := by have := h.Yu; grind
    have := Int.mul_le_mul_of_nonneg_left h4 hg
    rw [Int.mul_add] at this; exact this
  have h5 : g * W < b * W := Int.mul_lt_mul_of_pos_right hgb (by have := h.W0; omega)
  have h6 : b * W ≤ Y := by
    have h7 : b * W ≤ (top * b + next) * W := Int.mul_le_mul_of_nonneg_right (by
      have := Int.mul_le_mul_of_nonneg_right h.t0 (show 0 ≤ b by have := h.b0; omega)
      have := h.n0; omega) (by have := h.W0; omega)
    have := h.Yl; omega
  rw [← Int.mul_assoc] at h3
  have := h.Xl; omega
theorem KD.broke {g r : Int} (hg : 0 ≤ g) (hgb : g < b) (hr : b ≤ r) : g * next ≤ r * b + x2 := by
  have h1 : g * next ≤ b * b := Int.mul_le_mul (by omega) (by have := h.nb; omega) h.n0 (by have := h.b0; omega)
  have h2 : b * b ≤ r * b := Int.mul_le_mul_of_nonneg_right hr (by have := h.b0; omega)
  have := h.x0; omega
theorem KD.broke_lt {g r : Int} (hh : head ≤ top * b + b - 1) (he : g * top + r = head) (hr : b ≤ r) : g < b := by
  rcases Int.lt_or_le g b with h1 | h1
  · exact h1
  · have := Int.mul_le_mul_of_nonneg_right h1 (show 0 ≤ top by have := h.t0; omega)
    rw [Int.mul_comm b] at this
    omega
/-- Quotient and remainder, if the guess was right. -/
theorem KD.right {g : Int} (h1 : X < (g + 1) * Y) (h2 : 0 ≤ X - g * Y) : g = X / Y ∧ X - g * Y = X % Y := by
  have hY := h.Y0
  have h3 : X / Y = g := by
    have e : (g + 1) * Y = g * Y + Y := by grind
    rw [Int.ediv_eq_iff_of_pos hY]
    constructor
    · omega
    · omega
  refine ⟨h3.symm, ?_⟩
  have := Int.emod_def X Y
  rw [h3, Int.mul_comm] at this
  omega
theorem KD.wrong {g : Int} (h1 : g * Y < X + Y) (h2 : X - g * Y < 0) : g - 1 = X / Y ∧ X - g * Y + Y = X % Y := by
  have hY := h.Y0
  have e : (g - 1) * Y = g * Y - Y := by grind
  have e2 : (g - 1 + 1) * Y = g * Y := by grind
  have := h.right (g := g - 1) (by rw [e2]; omega) (by rw [e]; omega)
  rw [e] at this
  exact ⟨this.1, by have := this.2; omega⟩
end
end Pm
namespace Pm
/-- One limb of a row over 2^n. -/
theorem shr_limb {d e x x' : Int} (hd : 0 < d) (he : 0 < e) (hde : d * e = 4294967296) (hx : 0 ≤ x ∧ x < 4294967296) (hx' : 0 ≤ x' ∧ x' < 4294967296) :
    d * (((x + 4294967296 * x') / d) % 4294967296) = x - x % d + 4294967296 * (x' % d) ∧ (0 ≤ ((x + 4294967296 * x') / d) % 4294967296 ∧ ((x + 4294967296 * x') / d) % 4294967296 < 4294967296) := by
  have h1 : (x + 4294967296 * x') / d = x / d + e * x' := by
    have : x + 4294967296 * x' = x + d * (e * x') := by rw [← hde]; grind
    rw [this, Int.add_mul_ediv_left _ _ (by omega)]
  have h2 : x / d < e := Int.ediv_lt_of_lt_mul hd (by rw [Int.mul_comm, hde]; exact hx.2)
  have h3 : 0 ≤ x / d := Int.ediv_nonneg hx.1 (by omega)
  have h4 : e * x' = e * (x' % d) + 4294967296 * (x' / d) := by
    have := Int.mul_ediv_add_emod x' d
    calc e * x' = e * (d * (x' / d) + x' % d) := by rw [this]
      _ = e * (x' % d) + (d * e) * (x' / d) := by grind
      _ = e * (x' % d) + 4294967296 * (x' / d) := by rw [hde]
  have h5 : 0 ≤ x' % d := Int.emod_nonneg _ (by omega)
  have h6 : x' % d < d := Int.emod_lt_of_pos _ hd
  have h7 : e * (x' % d) + e ≤ 4294967296 := by
    have := Int.mul_le_mul_of_nonneg_left (show x' % d + 1 ≤ d by omega) (show 0 ≤ e by omega)
    rw [Int.mul_add, Int.mul_comm e d, hde] at this; omega
  have h8 : 0 ≤ e * (x' % d) := Int.mul_nonneg (by omega) h5
  have h9 : ((x + 4294967296 * x') / d) % 4294967296 = x / d + e * (x' % d) := by
    rw [h1, h4, ← Int.add_assoc, Int.add_mul_emod_self_left, Int.emod_eq_of_lt (by omega) (by omega)]
  rw [h9]
  refine ⟨?_, by omega, by omega⟩
  have h10 := Int.mul_ediv_add_emod x d
  have h11 : d * (e * (x' % d)) = 4294967296 * (x' % d) := by rw [← Int.mul_assoc, hde]
  rw [Int.mul_add, h11]; omega
end Pm
