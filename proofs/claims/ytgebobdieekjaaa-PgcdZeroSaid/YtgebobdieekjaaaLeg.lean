import Derived.Test.YtgebobdieekjaaaLef
set_option linter.unusedSimpArgs false
set_option linter.unusedVariables false
namespace Go.Proofs.Ytgebobdieekjaaa
open Go Pm

/-! THE DOCUMENT's REMAINDER OF A MULTIPLE ABOVE 0. -/
def sgn (l : Int) : Int := if l < 0 then -1 else 1
theorem sgn_abs (l : Int) : sgn l * l = l.natAbs := by unfold sgn; split <;> omega
theorem sgn_sq (l : Int) : sgn l * sgn l = 1 := by unfold sgn; split <;> rfl
def rq1 (y x : List Int) : List Int := psr y (lead y).natAbs (sgn (lead y) * lead x) (x.length - y.length) x
def rqF (y x : List Int) (i : Nat) : Int := nth x i * ((lead y).natAbs : Int) - if x.length - y.length ≤ i then sgn (lead y) * lead x * nth y (i - (x.length - y.length)) else 0
theorem rq1_list {y x : List Int} (h : y.length ≤ x.length) : cutR ((List.range x.length).map (rqF y x)) = rq1 y x := by
  refine Cn.ext (Cn.cut _) (Cn.psub _ _) fun t => ?_
  unfold rq1
  rw [V_cutR, psr, V_psub, V_pscale, V_pmul, V_stp]
  obtain ⟨k, hk⟩ : ∃ k, x.length = k + y.length := ⟨x.length - y.length, by omega⟩
  have e1 : (List.range x.length).map (rqF y x) = (List.range x.length).map fun i => nth x i * ((lead y).natAbs : Int) + (-(if x.length - y.length ≤ i then sgn (lead y) * lead x * nth y (i - (x.length - y.length)) else 0)) := List.map_congr_left fun i _ => by unfold rqF; omega
  rw [e1, V_map_add, V_map_mul, V_range_nth (Nat.le_refl _)]
  generalize sgn (lead y) * lead x = T at *
  have e2 : ((List.range x.length).map fun i => -(if x.length - y.length ≤ i then T * nth y (i - (x.length - y.length)) else 0)) = List.replicate k 0 ++ y.map fun v => v * (-T) := by
    have hk2 : x.length - y.length = k := by omega
    rw [hk2, hk, List.range_add, List.map_append, List.map_map]
    congr 1
    · rw [List.eq_replicate_iff]
      refine ⟨by simp, fun v hv => ?_⟩
      simp only [List.mem_map, List.mem_range] at hv
      obtain ⟨i, hi, rfl⟩ := hv
      rw [if_neg (by omega)]; rfl
    · have h2 := range_nth (x := y) (n := y.length) (Nat.le_refl _)
      rw [Nat.sub_self, List.replicate_zero, List.append_nil] at h2
      conv => rhs; rw [← h2]
      rw [List.map_map]
      refine List.map_congr_left fun i _ => ?_
      simp only [Function.comp_apply]
      rw [if_pos (by omega), Nat.add_sub_cancel_left]; grind
  rw [e2, V_append, V_rep]
  have h3 := V_map_mul (t := t) (-T) id y
  simp only [id_eq, List.map_id_fun] at h3
  rw [h3, List.length_replicate, show x.length - y.length = k by omega]
  grind
theorem rq1_len {y x : List Int} (hy : 0 < y.length) (h : y.length ≤ x.length) : (rq1 y x).length < x.length := by
  have h1 := psr_len (b := y) (r := x) (i := x.length - y.length) hy (by omega)
  rw [show psx y x (x.length - y.length) = lead x from by rw [psx, if_pos (by omega)]] at h1
  have e : rq1 y x = pscale (psr y (lead y) (lead x) (x.length - y.length) x) (sgn (lead y)) := Cn.ext (Cn.psub _ _) (Cn.pscale _ _) fun t => by
    unfold rq1
    rw [V_pscale, psr, psr, V_psub, V_psub, V_pscale, V_pscale, V_pmul, V_pmul, V_stp, V_stp, ← sgn_abs]
    grind
  rw [e]
  have := pscale_len (psr y (lead y) (lead x) (x.length - y.length) x) (sgn (lead y))
  omega
theorem V_rq1 (t : Int) (y x : List Int) : ((lead y).natAbs : Int) * V t x = t ^ (x.length - y.length) * (sgn (lead y) * lead x) * V t y + V t (rq1 y x) := by
  unfold rq1
  rw [psr, V_psub, V_pscale, V_pmul, V_stp]; grind
def rq (y : List Int) : Nat → List Int → List Int
  | 0, x => x
  | n + 1, x => if x.length < y.length then x else rq y n (rq1 y x)
theorem rq_end {y x : List Int} (h : x.length < y.length) : ∀ n, rq y n x = x
  | 0 => rfl
  | n + 1 => by rw [rq, if_pos h]
theorem rq_spec {y : List Int} (cy : Cn y) (hy : 0 < y.length) : ∀ (n : Nat) (x : List Int), Cn x → x.length < n → Cn (rq y n x) ∧ (rq y n x).length < y.length ∧ ∃ (m : Int) (q : List Int), m ≠ 0 ∧ ∀ t, m * V t x = V t q * V t y + V t (rq y n x)
  | 0, x, _, h => by omega
  | n + 1, x, cx, h => by
    rw [rq]
    split
    · rename_i h1
      exact ⟨cx, h1, 1, [], by decide, fun t => by simp [V]⟩
    · rename_i h1
      have hl := rq1_len hy (show y.length ≤ x.length by omega)
      obtain ⟨h2, h3, m, q, hm, h4⟩ := rq_spec cy hy n (rq1 y x) (Cn.psub _ _) (by omega)
      have hl0 := lead_ne cy hy
      refine ⟨h2, h3, m * (lead y).natAbs, padd q (pscale (stp (x.length - y.length) (sgn (lead y) * lead x)) m), Int.mul_ne_zero hm (by omega), fun t => ?_⟩
      have h5 := V_rq1 t y x
      have h6 := h4 t
      rw [V_padd, V_pscale, V_stp]
      have : m * ((lead y).natAbs : Int) * V t x = m * (((lead y).natAbs : Int) * V t x) := by grind
      rw [this, h5]
      grind
theorem rq1_bd {s s' N : Nat} {y x : List Int} (by_ : Bd 2 s' N y) (bx : Bd 2 s N x) (hy : 0 < y.length) (h : y.length ≤ x.length) : Bd 2 (s + (s' + N + 1)) N (rq1 y x) := by
  have hl := rq1_len hy h
  have hlx := bx.len
  have hls : sz 2 ((lead y).natAbs : Int) ≤ s' := Nat.le_trans (sz_mono (by decide) (by rw [Int.natAbs_natCast]; exact Nat.le_refl _)) (lead_bd by_)
  have hlr : sz 2 (sgn (lead y) * lead x) ≤ s := Nat.le_trans (sz_mono (by decide) (by
    rw [Int.natAbs_mul]
    have : (sgn (lead y)).natAbs = 1 := by unfold sgn; split <;> rfl
    rw [this, Nat.one_mul]; exact Nat.le_refl _)) (lead_bd bx)
  have b1 : Bd 2 (s + s' + N) (max N (x.length - y.length + 1 + N)) (pscale x ((lead y).natAbs : Int)) := (bx.pscale (by decide) hls).mono (by omega) (by omega)
  have b2 : Bd 2 (s + s' + N) (max N (x.length - y.length + 1 + N)) (pmul (stp (x.length - y.length) (sgn (lead y) * lead x)) y) := ((Bd.stp hlr (x.length - y.length)).pmul (by decide) by_).mono (by omega) (by omega)
  exact ⟨by omega, fun c hc => by
    have h6 := (Bd.psub (by decide) b1 b2).sz c hc
    omega⟩
theorem rq_bd {s' N : Nat} {y : List Int} (by_ : Bd 2 s' N y) (hy : 0 < y.length) : ∀ (n j s : Nat) (x : List Int), Bd 2 s N x → x.length + 1 ≤ y.length + j → Bd 2 (s + j * (s' + N + 1)) N (rq y n x)
  | 0, j, s, x, bx, _ => bx.mono (by simp) (Nat.le_refl _)
  | n + 1, j, s, x, bx, hj => by
    rw [rq]
    split
    · exact bx.mono (by simp) (Nat.le_refl _)
    · rename_i h1
      obtain ⟨i, rfl⟩ : ∃ i, j = i + 1 := ⟨j - 1, by omega⟩
      have hl := rq1_len hy (show y.length ≤ x.length by omega)
      have := rq_bd by_ hy n i (s + (s' + N + 1)) (rq1 y x) (rq1_bd by_ bx hy (by omega)) (by omega)
      rw [Nat.add_mul, Nat.one_mul]
      exact this.mono (by omega) (Nat.le_refl _)
theorem RI_nat (n : Nat) : RI (n : Int) = .ag [sls i64e (dig DD n), .bool false] := by
  simp [show ¬ ((n : Int) < 0) by omega]

end Go.Proofs.Ytgebobdieekjaaa
