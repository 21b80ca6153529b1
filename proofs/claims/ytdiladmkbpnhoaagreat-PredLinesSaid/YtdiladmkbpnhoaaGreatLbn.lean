import Derived.Test.YtdiladmkbpnhoaaGreatLbk
set_option linter.unusedSimpArgs false
set_option linter.unusedVariables false
namespace Go.Proofs.YtdiladmkbpnhoaaGreat
open Go Pm
theorem exs_back {x y : List Int} (cy : Cn y) (hy : 0 < y.length) : ∀ (j : Nat), j ≤ x.length → exs y j (List.replicate j 0 ++ x.drop j) (pmul (cutR (x.take j)) y) = some (x, [])
 | 0, _ => by
  have : pmul (cutR (x.take 0)) y = [] := Cn.ext (Cn.pmul _ _) Cn.nil fun t => by rw [V_pmul, V_cutR]; simp [V]
  rw [exs, this]; rfl
 | j + 1, h => by
  have ih := exs_back (x := x) cy hy j (by omega)
  have hly := lead_ne cy hy
  have ht := take_succ_nth (l := x) (i := j) (by omega)
  have hdr : x.drop j = nth x j :: x.drop (j + 1) := by
   rw [List.drop_eq_getElem_cons (l := x) (i := j) (by omega), show nth x j = x[j] from nth_eq (by omega)]
  rw [exs]
  by_cases hv : nth x j = 0
  ·have hw : cutR (x.take (j + 1)) = cutR (x.take j) := by rw [ht, hv, cutR_zero]
   rw [hw]
   have h1 := pmul_len (x := cutR (x.take j)) hy
   have h2 := cutR_len (x.take j)
   rw [List.length_take] at h2
   rw [if_pos (by omega), ← ih]
   rw [hdr, hv, List.replicate_succ', List.append_assoc]; rfl
  ·have hw : cutR (x.take (j + 1)) = x.take j ++ [nth x j] := by rw [ht]; exact cutR_ne hv _
   have cw : Cn (x.take j ++ [nth x j]) := cutR_ne hv _
   have hwl : (x.take j ++ [nth x j]).length = j + 1 := by simp; omega
   have hlw : lead (x.take j ++ [nth x j]) = nth x j := by
    rw [lead, hwl, Nat.add_sub_cancel, nth_eq (by omega)]
    have : (x.take j).length = j := by simp; omega
    simp [List.getElem_append_right, this]
   rw [hw]
   have hl := pmul_len_eq cw cy (by omega) hy
   have hd := pmul_lead cw cy (by omega) hy
   rw [hwl] at hl
   rw [hlw] at hd
   rw [if_neg (by omega), hd, if_pos (Int.mul_emod_left _ _), Int.mul_ediv_cancel _ hly]
   have e1 : psub (pmul (x.take j ++ [nth x j]) y) (pmul (stp j (nth x j)) y) = pmul (cutR (x.take j)) y := Cn.ext (Cn.psub _ _) (Cn.pmul _ _) fun t => by
    rw [V_psub, V_pmul, V_pmul, V_pmul, V_cutR, V_append, V_one, V_stp, show (x.take j).length = j by simp; omega]
    grind
   have e2 : (List.replicate (j + 1) 0 ++ x.drop (j + 1)).set j (nth x j) = List.replicate j 0 ++ x.drop j := by
    rw [hdr, List.replicate_succ', List.append_assoc, List.set_append_right _ _ (by simp)]
    simp
   rw [e1, e2]
   exact ih
theorem exact_back {x y : List Int} (cx : Cn x) (cy : Cn y) (hy : 0 < y.length) : exact (pmul x y) y = some x := by
 have hk : psk (pmul x y) y = x.length := by
  rcases Nat.eq_zero_or_pos x.length with h | h
  ·have : x = [] := List.eq_nil_of_length_eq_zero h
   have e : pmul x y = [] := Cn.ext (Cn.pmul _ _) Cn.nil fun t => by rw [V_pmul, this]; simp [V]
   rw [e, this]; simp [psk]; omega
  ·have := pmul_len_eq cx cy h hy
   unfold psk; omega
 have h1 := exs_back (x := x) cy hy x.length (Nat.le_refl _)
 rw [List.take_length, show cutR x = x from cx, List.drop_length, List.append_nil] at h1
 rw [exact, hk, h1, exF, show cutR x = x from cx]
end Go.Proofs.YtdiladmkbpnhoaaGreat
