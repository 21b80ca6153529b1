import Derived.Test.YtdiladmkbpnhoaaGreatLac
set_option linter.unusedSimpArgs false
set_option linter.unusedVariables false
namespace Go.Proofs.YtdiladmkbpnhoaaGreat
open Go Pm
theorem mtx_pok {l : List RP} (hl : ∀ p ∈ l, InP p) (n m : Nat) : ∀ r ∈ mtx l n m, r.length = m ∧ ∀ p ∈ r, POK p := fun r hr => ⟨(mtx_row hr).1, fun p hp => ((mtx_row hr).2 hl p hp).pok (by decide) (by decide)⟩
theorem mnr_mem {i k : Nat} {m : List (List RP)} {r : List RP} (h : r ∈ mnr i k m) : ∃ r' ∈ m, r = (r'.eraseIdx k).map nrm := by
 simp only [mnr, List.mem_map] at h
 obtain ⟨r', hr', rfl⟩ := h
 exact ⟨r', List.mem_of_mem_eraseIdx hr', rfl⟩
theorem nrm_facts {q : RP} (hs : Sm 3 1 q) : POK (nrm q) ∧ (cfs (nrm q)).length < 1099511627776 ∧ ∀ c ∈ cfs (nrm q), Z c := by
 have h0 : cfs (nrm q) = cfs q := by
  simp only [nrm, cfs, map_gv_rw]; exact cutR_cutR _
 have h1 : Bd LL 1 3 (cfs q) := hs.bd.cut
 have h2 : Bd 2 32 3 (cfs q) := hs.bd2.cut
 rw [h0]
 exact ⟨(PB.of h1 (by decide) (by decide)).pok, by have := h1.len; omega, bd_ret h2 (by decide)⟩
theorem mv_nth_len (X : List (List RP)) (a : Nat) : (nth (mv X) a).length = (nth X a).length := by
 have : nth (mv X) a = (nth X a).map cfs := nth_map (f := fun r : List RP => r.map cfs) rfl X a
 rw [this, List.length_map]
end Go.Proofs.YtdiladmkbpnhoaaGreat
