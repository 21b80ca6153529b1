import Derived.Test.YtjnkpfknmncdmaaMl
set_option linter.unusedSimpArgs false
set_option linter.unusedVariables false
namespace Pm
theorem padd_len (x y : List Int) : (padd x y).length ≤ max x.length y.length := Nat.le_trans (cutR_len _) (by simp)
theorem pmul0_len : ∀ (x y : List Int), 0 < y.length → (pmul0 x y).length ≤ x.length + y.length - 1
  | [], y, _ => by simp [pmul0]
  | a :: x, y, h => by
    have ih := pmul0_len x y h
    have h1 := padd_len (y.map fun c => c * a) (0 :: pmul0 x y)
    simp only [List.length_map, List.length_cons] at h1
    rw [pmul0]
    simp only [List.length_cons]
    omega
theorem pmul_len {x y : List Int} (h : 0 < y.length) : (pmul x y).length ≤ x.length + y.length - 1 := Nat.le_trans (cutR_len _) (pmul0_len x y h)
theorem pmul_nil (x : List Int) : pmul x [] = [] := Cn.ext (Cn.pmul _ _) Cn.nil fun t => by rw [V_pmul]; simp [V]
/-- The highest coefficient of a product. -/
theorem pmul_top {x y : List Int} (cx : Cn x) (cy : Cn y) (hx : 0 < x.length) (hy : 0 < y.length) : ∃ w : List Int, w.length = x.length + y.length - 2 ∧ pmul x y = w ++ [lead x * lead y] := by
  have lx := lead_ne cx hx
  have ly := lead_ne cy hy
  obtain ⟨u, hu⟩ : ∃ u, u = padd (pmul (y.take (y.length - 1)) x) (pmul (stp (y.length - 1) (lead y)) (x.take (x.length - 1))) := ⟨_, rfl⟩
  have hul : u.length ≤ x.length + y.length - 2 := by
    have h1 := pmul_len (x := y.take (y.length - 1)) (y := x) hx
    rw [List.length_take] at h1
    have h2 : (pmul (stp (y.length - 1) (lead y)) (x.take (x.length - 1))).length ≤ x.length + y.length - 2 := by
      rcases Nat.eq_zero_or_pos (x.take (x.length - 1)).length with h | h
      · have : x.take (x.length - 1) = [] := List.eq_nil_of_length_eq_zero h
        rw [this, pmul_nil]; simp
      · have := pmul_len (x := stp (y.length - 1) (lead y)) h
        simp only [stp, List.length_append, List.length_replicate, List.length_singleton, List.length_take] at this ⊢
        omega
    have h3 := padd_len (pmul (y.take (y.length - 1)) x) (pmul (stp (y.length - 1) (lead y)) (x.take (x.length - 1)))
    rw [← hu] at h3
    omega
  refine ⟨(List.range (x.length + y.length - 2)).map (nth u), by simp, ?_⟩
  have hne : lead x * lead y ≠ 0 := Int.mul_ne_zero lx ly
  refine Cn.ext (Cn.pmul _ _) (cutR_ne hne _) fun t => ?_
  rw [V_append, V_range_nth hul, V_one, hu, V_padd, V_pmul, V_pmul, V_pmul, V_stp, V_lead hx, V_lead hy]
  simp only [List.length_map, List.length_range]
  rw [show x.length + y.length - 2 = (x.length - 1) + (y.length - 1) by omega, Int.pow_add]
  grind
theorem pmul_len_eq {x y : List Int} (cx : Cn x) (cy : Cn y) (hx : 0 < x.length) (hy : 0 < y.length) : (pmul x y).length = x.length + y.length - 1 := by
  obtain ⟨w, h1, h2⟩ := pmul_top cx cy hx hy
  rw [h2, List.length_append, h1, List.length_singleton]; omega
theorem pmul_lead {x y : List Int} (cx : Cn x) (cy : Cn y) (hx : 0 < x.length) (hy : 0 < y.length) : lead (pmul x y) = lead x * lead y := by
  obtain ⟨w, h1, h2⟩ := pmul_top cx cy hx hy
  rw [h2, lead, List.length_append, List.length_singleton, Nat.add_sub_cancel, nth_eq (by simp)]
  simp
/-- Too short for a multiple. -/
theorem mul_small {u y h : List Int} (cu : Cn u) (cy : Cn y) (hy : 0 < y.length) (e : ∀ t, V t u = V t y * V t h) (hl : u.length < y.length) : u = [] := by
  have e2 : u = pmul y (cutR h) := Cn.ext cu (Cn.pmul _ _) fun t => by rw [V_pmul, V_cutR, e t]
  rcases Nat.eq_zero_or_pos (cutR h).length with h0 | h0
  · have : cutR h = [] := List.eq_nil_of_length_eq_zero h0
    rw [e2, this, pmul_nil]
  · have := pmul_len_eq cy (Cn.cut h) hy h0
    rw [← e2] at this; omega
end Pm
