import Derived.Test.YtjnkpfknmncdmaaMj
set_option linter.unusedSimpArgs false
set_option linter.unusedVariables false
namespace Pm
theorem kd_of {m : Nat} {D y : List Int} (hD : m + 3 ≤ D.length) (hy : y.length = m + 2) (lD : Lim 4294967296 D) (ly : Lim 4294967296 y) (ht : 1 ≤ nth y (m + 1)) (hlt : V 4294967296 (D.take (m + 3)) < 4294967296 * V 4294967296 y) :
    KD 4294967296 (4294967296 ^ m) (nth y (m + 1)) (nth y m) (nth D (m + 2) * 4294967296 + nth D (m + 1)) (nth D m) (V 4294967296 (D.take (m + 3))) (V 4294967296 y) ∧ nth D (m + 2) ≤ nth y (m + 1) := by
  have hp : (0 : Int) < 4294967296 ^ m := Int.pow_pos (by decide)
  have y0 := V_nonneg (by decide) (ly.take m)
  have y1 := V_lt (by decide) (ly.take m)
  rw [List.length_take, Nat.min_eq_left (by omega)] at y1
  have x0 := V_nonneg (by decide) (lD.take m)
  have x1 := V_lt (by decide) (lD.take m)
  rw [List.length_take, Nat.min_eq_left (by omega)] at x1
  have hY : V 4294967296 y = V 4294967296 (y.take m) + 4294967296 ^ m * (nth y m + 4294967296 * nth y (m + 1)) := by
    rw [← V_take_all (l := y) (i := m + 1 + 1) (by omega), V_take_succ (by omega), V_take_succ (by omega), Int.pow_succ]; grind
  have hX : V 4294967296 (D.take (m + 3)) = V 4294967296 (D.take m) + 4294967296 ^ m * (nth D m + 4294967296 * (nth D (m + 1) + 4294967296 * nth D (m + 2))) := by
    rw [show m + 3 = m + 1 + 1 + 1 from rfl, V_take_succ (by omega), V_take_succ (by omega), V_take_succ (by omega), Int.pow_succ, Int.pow_succ]; grind
  have l1 := ly.nth (i := m) (by omega)
  have l2 := ly.nth (i := m + 1) (by omega)
  have k0 := lD.nth (i := m) (by omega)
  have k1 := lD.nth (i := m + 1) (by omega)
  have k2 := lD.nth (i := m + 2) (by omega)
  generalize nth y m = ya at *
  generalize nth y (m + 1) = yb at *
  generalize nth D m = xa at *
  generalize nth D (m + 1) = xb at *
  generalize nth D (m + 2) = xc at *
  generalize V 4294967296 (y.take m) = yr at *
  generalize V 4294967296 (D.take m) = xr at *
  generalize V 4294967296 (D.take (m + 3)) = X at *
  generalize V 4294967296 y = Y at *
  generalize (4294967296 : Int) ^ m = W at *
  have e1 : (yb * 4294967296 + ya) * W = W * (ya + 4294967296 * yb) := by grind
  have e2 : (yb * 4294967296 + ya + 1) * W = W * (ya + 4294967296 * yb) + W := by grind
  have e3 : ((xc * 4294967296 + xb) * 4294967296 + xa) * W = W * (xa + 4294967296 * (xb + 4294967296 * xc)) := by grind
  have e4 : ((xc * 4294967296 + xb) * 4294967296 + xa + 1) * W = W * (xa + 4294967296 * (xb + 4294967296 * xc)) + W := by grind
  refine ⟨⟨by decide, by omega, ht, l1.1, by omega, k0.1, l1.2, k0.2, by omega, by omega, by omega, by omega, hlt⟩, ?_⟩
  rcases Int.lt_or_le yb xc with h | h
  · exfalso
    have h1 : W * (4294967296 * (4294967296 * (yb + 1))) ≤ W * (xa + 4294967296 * (xb + 4294967296 * xc)) := Int.mul_le_mul_of_nonneg_left (by omega) (by omega)
    have h2 : Y < W * (4294967296 * (yb + 1)) := by
      have := Int.mul_le_mul_of_nonneg_left (show ya + 4294967296 * yb + 1 ≤ 4294967296 * (yb + 1) by omega) (show 0 ≤ W by omega)
      rw [Int.mul_add] at this
      omega
    have h3 : W * (4294967296 * (4294967296 * (yb + 1))) = 4294967296 * (W * (4294967296 * (yb + 1))) := by grind
    omega
  · exact h

/-- One step of x less g y. -/
theorem sub_limb {g w c x β : Int} (hg : 0 ≤ g ∧ g < 4294967296) (hw : 0 ≤ w ∧ w < 4294967296) (hc : 0 ≤ c ∧ c < 4294967296) (hx : 0 ≤ x ∧ x < 4294967296) (hβ : β = 0 ∨ β = 1) :
    (0 ≤ g * w + c ∧ g * w + c < 18446744069414584321) ∧ (0 ≤ (g * w + c) / 4294967296 ∧ (g * w + c) / 4294967296 < 4294967296) ∧
    ∃ β', (β' = 0 ∨ β' = 1) ∧ ((x - (g * w + c) % 4294967296 - β) % 18446744073709551616) / 9223372036854775808 = β' ∧
      ((x - (g * w + c) % 4294967296 - β) % 18446744073709551616) % 4294967296 = x - (g * w + c) % 4294967296 - β + β' * 4294967296 := by
  have h1 : 0 ≤ g * w := Int.mul_nonneg hg.1 hw.1
  have h2 : g * w ≤ 4294967295 * 4294967295 := Int.mul_le_mul (by omega) (by omega) hw.1 (by omega)
  generalize g * w = p at *
  refine ⟨by omega, by omega, ?_⟩
  rcases Int.lt_or_le (x - (p + c) % 4294967296 - β) 0 with h | h
  · exact ⟨1, .inr rfl, by omega, by omega⟩
  · exact ⟨0, .inl rfl, by omega, by omega⟩
end Pm
