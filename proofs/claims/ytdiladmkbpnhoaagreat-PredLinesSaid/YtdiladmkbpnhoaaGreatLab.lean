import Derived.Test.YtdiladmkbpnhoaaGreatLaa
import Derived.Test.YtdiladmkbpnhoaaGreatLin
set_option linter.unusedSimpArgs false
set_option linter.unusedVariables false
namespace Go.Proofs.YtdiladmkbpnhoaaGreat
open Go Pm
def cel (l : List RP) (m i k : Nat) : RP := if m * i + k < l.length then keepP 3 1 (nth l (m * i + k)) else []
def rwR (l : List RP) (m i : Nat) : List RP := (List.range m).map (cel l m i)
def mtx (l : List RP) (n m : Nat) : List (List RP) := (List.range n).map (rwR l m)
theorem cel_sm {l : List RP} (h : ∀ p ∈ l, InP p) (m i k : Nat) : Sm 3 1 (cel l m i k) := by
 unfold cel
 split
 ·rename_i h1; exact Sm.keep (h _ (nth_mem h1)) 3 1
 ·exact Sm.nil _ _
theorem mtx_len (l : List RP) (n m : Nat) : (mtx l n m).length = n := by simp [mtx]
theorem mtx_row {l : List RP} {n m : Nat} {r : List RP} (h : r ∈ mtx l n m) : r.length = m ∧ ((∀ p ∈ l, InP p) → ∀ p ∈ r, Sm 3 1 p) := by
 simp only [mtx, List.mem_map] at h
 obtain ⟨i, _, rfl⟩ := h
 refine ⟨by simp [rwR], fun hl p hp => ?_⟩
 simp only [rwR, List.mem_map] at hp
 obtain ⟨k, _, rfl⟩ := hp
 exact cel_sm hl m i k
end Go.Proofs.YtdiladmkbpnhoaaGreat
