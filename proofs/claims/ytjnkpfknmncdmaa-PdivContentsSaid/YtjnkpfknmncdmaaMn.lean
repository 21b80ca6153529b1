import Derived.Test.YtjnkpfknmncdmaaMm
set_option linter.unusedSimpArgs false
set_option linter.unusedVariables false
namespace Pm

/-! GAUSS: what divides a product, and has nothing in common with one factor, divides the other one. -/
theorem nth_nilI (i : Nat) : nth ([] : List Int) i = 0 := nth_ge (by simp)
theorem nth_cons0 (a : Int) (l : List Int) : nth (a :: l) 0 = a := rfl
theorem nth_consS (a : Int) (l : List Int) (i : Nat) : nth (a :: l) (i + 1) = nth l i := by simp [nth]
theorem nth_cutR : ∀ (x : List Int) (i : Nat), nth (cutR x) i = nth x i
  | [], i => rfl
  | a :: l, i => by
    rw [cutR]
    split
    · rename_i h
      cases i with
      | zero => rw [nth_nilI, nth_cons0, h.2]
      | succ i => rw [nth_consS, ← nth_cutR l i, h.1, nth_nilI, nth_nilI]
    · cases i with
      | zero => rfl
      | succ i => rw [nth_consS, nth_consS, nth_cutR l i]
theorem nth_padd (x y : List Int) (i : Nat) : nth (padd x y) i = nth x i + nth y i := by
  rw [padd, nth_cutR]
  rcases Nat.lt_or_ge i (max x.length y.length) with h | h
  · rw [nth_eq (by simpa using h)]; simp
  · rw [nth_ge (by simpa using h), nth_ge (l := x) (by omega), nth_ge (l := y) (by omega)]; rfl
theorem nth_mapmul (c : Int) (x : List Int) (i : Nat) : nth (x.map (· * c)) i = nth x i * c := nth_map (f := fun v => v * c) (Int.zero_mul c) x i
theorem nth_pscale (c : Int) (x : List Int) (i : Nat) : nth (pscale x c) i = nth x i * c := by rw [pscale, nth_cutR]; exact nth_mapmul c x i
theorem nth_pmul_cons0 (k : Int) (x y : List Int) : nth (pmul (k :: x) y) 0 = nth y 0 * k := by
  rw [pmul, nth_cutR, pmul0, nth_padd, nth_cons0, nth_mapmul, Int.add_zero]
theorem nth_pmul_consS (k : Int) (x y : List Int) (i : Nat) : nth (pmul (k :: x) y) (i + 1) = nth y (i + 1) * k + nth (pmul x y) i := by
  rw [pmul, nth_cutR, pmul0, nth_padd, nth_consS, nth_mapmul, pmul, nth_cutR]
theorem pmul_comm (x y : List Int) : pmul x y = pmul y x := Cn.ext (Cn.pmul _ _) (Cn.pmul _ _) fun t => by rw [V_pmul, V_pmul, Int.mul_comm]
/-- All coefficients are multiples. -/
def Dv (d : Nat) (x : List Int) : Prop := ∀ i, (d : Int) ∣ nth x i
theorem Dv.mem {d : Nat} {x : List Int} (h : Dv d x) : ∀ c ∈ x, (d : Int) ∣ c := fun c hc => by
  obtain ⟨i, hi, rfl⟩ := List.getElem_of_mem hc
  rw [← nth_eq hi]; exact h i
theorem Dv.of {d : Nat} {x : List Int} (h : ∀ c ∈ x, (d : Int) ∣ c) : Dv d x := fun i => by
  rcases Nat.lt_or_ge i x.length with h1 | h1
  · exact h _ (nth_mem h1)
  · rw [nth_ge h1]; exact Int.dvd_zero _
theorem Dv.cons {d : Nat} {k : Int} {x : List Int} (h1 : (d : Int) ∣ k) (h2 : Dv d x) : Dv d (k :: x) := fun i => by
  cases i with
  | zero => exact h1
  | succ i => rw [nth_consS]; exact h2 i
theorem Dv.nil (d : Nat) : Dv d [] := fun i => by rw [nth_nilI]; exact Int.dvd_zero _
theorem Dv.trans {d e : Nat} {x : List Int} (h : e ∣ d) (h2 : Dv d x) : Dv e x := fun i => Int.dvd_trans (Int.ofNat_dvd.2 h) (h2 i)
theorem gauss : ∀ (n d : Nat) (x y : List Int), d + x.length + y.length ≤ n → 0 < d → Dv d (pmul x y) → (∀ e : Nat, e ∣ d → Dv e y → e = 1) → Dv d x
  | n, d, [], y, _, _, _, _ => Dv.nil d
  | n, d, k :: x, [], _, _, _, h => by
    have := h d (Nat.dvd_refl d) (Dv.nil d)
    subst this
    exact fun i => Int.one_dvd _
  | 0, d, k :: x, l :: y, hn, _, _, _ => by simp at hn
  | n + 1, d, k :: x, l :: y, hn, hd, hp, h => by
    simp only [List.length_cons] at hn
    have h0 := hp 0
    rw [nth_pmul_cons0, nth_cons0] at h0
    obtain ⟨g, hg⟩ : ∃ g, g = Nat.gcd d l.natAbs := ⟨_, rfl⟩
    have gd : g ∣ d := by rw [hg]; exact Nat.gcd_dvd_left _ _
    have gl : (g : Int) ∣ l := by rw [hg]; exact Int.ofNat_dvd_left.2 (Nat.gcd_dvd_right _ _)
    have g0 : 0 < g := Nat.pos_of_dvd_of_pos gd hd
    have gle : g ≤ d := Nat.le_of_dvd hd gd
    by_cases g1 : g = 1
    · have hk : (d : Int) ∣ k := by
        have h1 : d ∣ (l * k).natAbs := Int.ofNat_dvd_left.1 h0
        rw [Int.natAbs_mul] at h1
        exact Int.ofNat_dvd_left.2 (Nat.Coprime.dvd_of_dvd_mul_left (show Nat.gcd d l.natAbs = 1 by omega) h1)
      refine Dv.cons hk (gauss n d x (l :: y) (by simp only [List.length_cons]; omega) hd (fun i => ?_) h)
      have h1 := hp (i + 1)
      rw [nth_pmul_consS] at h1
      exact (Int.dvd_add_right (Int.dvd_trans hk (Int.dvd_mul_left _ _))).1 h1
    · have hgx : Dv g (k :: x) := by
        refine gauss n g (k :: x) y (by simp only [List.length_cons]; omega) g0 (fun i => ?_) (fun e he hy => h e (Nat.dvd_trans he gd) (Dv.cons (Int.dvd_trans (Int.ofNat_dvd.2 he) gl) hy))
        have h1 := Dv.trans gd hp (i + 1)
        rw [pmul_comm, nth_pmul_consS, pmul_comm y] at h1
        exact (Int.dvd_add_right (Int.dvd_trans gl (Int.dvd_mul_left _ _))).1 h1
      obtain ⟨d', rfl⟩ := gd
      have hd' : 0 < d' := Nat.pos_of_mul_pos_left hd
      have hlt : d' < g * d' := by
        have : 2 * d' ≤ g * d' := Nat.mul_le_mul_right _ (by omega)
        omega
      obtain ⟨x', hx'⟩ : ∃ x' : List Int, x' = (k :: x).map (· / (g : Int)) := ⟨_, rfl⟩
      have hxe : x'.map (· * (g : Int)) = k :: x := by
        rw [hx', List.map_map]
        refine (List.map_congr_left fun v hv => ?_).trans (List.map_id _)
        exact Int.ediv_mul_cancel (hgx.mem v hv)
      have hxl : x'.length = x.length + 1 := by rw [hx']; simp
      have hpe : pmul (k :: x) (l :: y) = pscale (pmul x' (l :: y)) g := Cn.ext (Cn.pmul _ _) (Cn.pscale _ _) fun t => by
        have := V_map_mul (t := t) (g : Int) id x'
        simp only [id_eq, List.map_id_fun] at this
        rw [V_pscale, V_pmul, V_pmul, ← hxe, this]; grind
      have ih := gauss n d' x' (l :: y) (by simp only [List.length_cons]; omega) hd' (fun i => by
        have h1 := hp i
        rw [hpe, nth_pscale, Int.natCast_mul, Int.mul_comm] at h1
        exact Int.dvd_of_mul_dvd_mul_right (by omega) h1) (fun e he => h e (Nat.dvd_trans he (Nat.dvd_mul_left _ _)))
      rw [← hxe]
      intro i
      rw [nth_mapmul, Int.natCast_mul, Int.mul_comm]
      exact Int.mul_dvd_mul (ih i) (Int.dvd_refl _)
termination_by n _ x y => n
end Pm
