import Derived.Test.YtdiladmkbpnhoaaGreatLfg
import Derived.Test.YtdiladmkbpnhoaaGreatLfk
import Derived.Test.YtdiladmkbpnhoaaGreatLaa
set_option linter.unusedSimpArgs false
set_option linter.unusedVariables false
namespace Go.Proofs.YtdiladmkbpnhoaaGreat
open Go Pm
theorem rowI_EQ {s k : Nat} (hk : 1 ≤ k) {l : List CV} (h : ∀ v ∈ l, v.Sz s k) : EQ s k (l.map rowI) := ⟨fun r hr x hx => by
 simp only [List.mem_map] at hr
 obtain ⟨v, hv, rfl⟩ := hr
 have h1 := h v hv
 simp only [rowI, List.mem_cons, List.not_mem_nil, or_false] at hx
 rcases hx with rfl | rfl | rfl
 ·exact h1.x2
 ·exact h1.y2
 ·exact (bd_one h1.d2).mono (Nat.le_refl _) hk⟩
end Go.Proofs.YtdiladmkbpnhoaaGreat
