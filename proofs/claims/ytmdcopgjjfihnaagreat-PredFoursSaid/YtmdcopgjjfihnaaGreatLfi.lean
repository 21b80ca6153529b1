import Derived.Test.YtmdcopgjjfihnaaGreatLfh
set_option linter.unusedSimpArgs false
set_option linter.unusedVariables false
namespace Go.Proofs.YtmdcopgjjfihnaaGreat
open Go Pm

/-! FOUR CURVES. -/
theorem tk {w n : Nat} {x y : List PV} (h : x.length = w) : (x ++ y).take (w + n) = x ++ y.take n := by
  rw [List.take_append, List.take_of_length_le (by omega), h, Nat.add_sub_cancel_left]
theorem dp {w n : Nat} {x y : List PV} (h : x.length = w) : (x ++ y).drop (w + n) = y.drop n := by
  rw [List.drop_append, List.drop_of_length_le (by omega), List.nil_append, h, Nat.add_sub_cancel_left]
/-- Four blocks of cells, the first i of them written. -/
def blocks (A : Nat → List PV) (z : List PV) (i : Nat) : List PV := (if 0 < i then A 0 else z) ++ ((if 1 < i then A 1 else z) ++ ((if 2 < i then A 2 else z) ++ ((if 3 < i then A 3 else z) ++ [])))
section
variable {A : Nat → List PV} {z : List PV} {w : Nat}
theorem blk_l (hA : ∀ k, (A k).length = w) (hz : z.length = w) (k i : Nat) : (if k < i then A k else z).length = w := by split <;> simp [hA, hz]
theorem blk_len (hA : ∀ k, (A k).length = w) (hz : z.length = w) (i : Nat) : (blocks A z i).length = 4 * w := by
  simp only [blocks, List.length_append, blk_l hA hz, List.length_nil]; omega
theorem blk_set (hA : ∀ k, (A k).length = w) (hz : z.length = w) : ∀ i, i < 4 → (blocks A z i).take (i * w) ++ A i ++ (blocks A z i).drop (i * w + w) = blocks A z (i + 1)
  | 0, _ => by
    rw [show 0 * w = 0 by omega, show 0 + w = w + 0 by omega]
    unfold blocks
    rw [dp (blk_l hA hz _ _)]
    simp
  | 1, _ => by
    rw [show 1 * w + w = w + (w + 0) by omega, show 1 * w = w + 0 by omega]
    unfold blocks
    rw [dp (blk_l hA hz _ _), dp (blk_l hA hz _ _), tk (blk_l hA hz _ _)]
    simp
  | 2, _ => by
    rw [show 2 * w + w = w + (w + (w + 0)) by omega, show 2 * w = w + (w + 0) by omega]
    unfold blocks
    rw [dp (blk_l hA hz _ _), dp (blk_l hA hz _ _), dp (blk_l hA hz _ _), tk (blk_l hA hz _ _), tk (blk_l hA hz _ _)]
    simp
  | 3, _ => by
    rw [show 3 * w + w = w + (w + (w + (w + 0))) by omega, show 3 * w = w + (w + (w + 0)) by omega]
    unfold blocks
    rw [dp (blk_l hA hz _ _), dp (blk_l hA hz _ _), dp (blk_l hA hz _ _), dp (blk_l hA hz _ _), tk (blk_l hA hz _ _), tk (blk_l hA hz _ _), tk (blk_l hA hz _ _)]
    simp
  | i + 4, h => by omega
theorem blk_get (hA : ∀ k, (A k).length = w) (hz : z.length = w) : ∀ i, i < 4 → ((blocks A z (i + 1)).drop (i * w)).take w = A i
  | 0, _ => by
    rw [show 0 * w = 0 by omega, List.drop_zero, show List.take w (blocks A z (0 + 1)) = List.take (w + 0) (blocks A z (0 + 1)) from rfl]
    unfold blocks
    rw [tk (blk_l hA hz _ _)]
    simp
  | 1, _ => by
    rw [show 1 * w = w + 0 by omega]
    unfold blocks
    rw [dp (blk_l hA hz _ _), List.drop_zero, show ∀ l : List PV, List.take w l = List.take (w + 0) l from fun _ => rfl, tk (blk_l hA hz _ _)]
    simp
  | 2, _ => by
    rw [show 2 * w = w + (w + 0) by omega]
    unfold blocks
    rw [dp (blk_l hA hz _ _), dp (blk_l hA hz _ _), List.drop_zero, show ∀ l : List PV, List.take w l = List.take (w + 0) l from fun _ => rfl, tk (blk_l hA hz _ _)]
    simp
  | 3, _ => by
    rw [show 3 * w = w + (w + (w + 0)) by omega]
    unfold blocks
    rw [dp (blk_l hA hz _ _), dp (blk_l hA hz _ _), dp (blk_l hA hz _ _), List.drop_zero, show ∀ l : List PV, List.take w l = List.take (w + 0) l from fun _ => rfl, tk (blk_l hA hz _ _)]
    simp
  | i + 4, h => by omega
theorem blk_skip {i : Nat} (hi : i < 4) (h : A i = z) : blocks A z i = blocks A z (i + 1) := by
  match i, hi with
  | 0, _ => simp [blocks, h]
  | 1, _ => simp [blocks, h]
  | 2, _ => simp [blocks, h]
  | 3, _ => simp [blocks, h]
end
end Go.Proofs.YtmdcopgjjfihnaaGreat
