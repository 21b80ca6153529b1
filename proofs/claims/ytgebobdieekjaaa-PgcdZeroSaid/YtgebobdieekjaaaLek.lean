import Derived.Test.YtgebobdieekjaaaLej
set_option linter.unusedSimpArgs false
set_option linter.unusedVariables false
namespace Go.Proofs.Ytgebobdieekjaaa
open Go Pm

theorem made_lay (l : List Int) : Lay 153 10 (made l 9) := ⟨(made_ok l 9).2, by decide, by decide, by decide⟩
theorem gcdl2 (a b : ZX) : gcdl [a, b] = gz a b := by
  show gz (gz 0 a) b = _
  rw [gz_zero', gz_nf]
theorem gcdl3 (a b : ZX) : gcdl [b, 0, a] = gz a b := by
  show gz (gz (gz 0 b) 0) a = _
  rw [gz_zero', gz_zero, nf_nf, gz_nf, gz_comm]
theorem gcdl1 (a : ZX) : gcdl [a] = nf a := by
  show gz 0 a = _
  rw [gz_zero']
theorem pot_le {C n s : Nat} {a c : ZX} (ha : ZX.N a ≤ n) (hc : ZX.N c ≤ n) (h : (s + n + 1) * 2 * 4 ^ n ≤ C) : Pot C n s (nf a) (nf c) := by
  unfold Pot
  rw [N_nf, N_nf]
  have h1 : ∀ k, k ≤ n → (s + n + 1) * 2 * 4 ^ k ≤ C := fun k hk => Nat.le_trans (Nat.mul_le_mul_left _ (Nat.pow_le_pow_right (by decide) hk)) h
  split
  · refine Nat.le_trans (Nat.mul_le_mul_right _ ?_) (h1 _ ha)
    omega
  · exact h1 _ hc
/-- How great polynomials may be for their divisors to be found. -/
structure Eu (s n : Nat) : Prop where
  hn : n ≤ 20
  hs : 1 ≤ s
  hC : (s + n + 1) * 2 * 4 ^ n ≤ 4500000000
theorem Eu.two {s n : Nat} (h : Eu s n) {a c : ZX} (ba : BZ s n a) (bc : BZ s n c) : Ret env.P 26 [Po a.l, Po c.l] (Po (gz a c).l) := two_ret ba bc (pot_le ba.N bc.N h.hC) h.hn (Nat.le_refl _)
theorem Eu.cop {s n : Nat} (h : Eu s n) {a c : ZX} (ba : BZ s n a) (bc : BZ s n c) : Ret env.P 7 [Po a.l, Po c.l] (.bool (decide (ZX.N (gz a c) = 1))) := Coprime_ret ba bc (pot_le ba.N bc.N h.hC) h.hn (Nat.le_refl _)
theorem zero_bz (s n : Nat) : BZ s n 0 := ⟨Nat.zero_le _, fun c hc => by cases hc⟩
theorem Eu.gcd2 {s n : Nat} (h : Eu s n) {a c : ZX} (ba : BZ s n a) (bc : BZ s n c) : Ret env.P 6 [.sl [[Po a.l], [Po c.l]]] (Po (gz a c).l) := by
  have := Gcd_ret [a, c] (by simp) (fun i hi => by
    match i, hi with
    | 0, _ => exact h.two (zero_bz s n) ba
    | 1, _ =>
      have e : gcdl ([a, c].take 1) = nf a := gcdl1 a
      rw [e]
      have := h.two ba.nf bc
      rw [show gcdl ([a, c].take (1 + 1)) = gz (nf a) c from by rw [gz_nf]; exact gcdl2 a c]
      exact this)
  rw [gcdl2] at this
  exact this
theorem Eu.gcd1 {s n : Nat} (h : Eu s n) {a : ZX} (ba : BZ s n a) : Ret env.P 6 [.sl [[Po a.l]]] (Po (nf a).l) := by
  have := Gcd_ret [a] (by simp) (fun i hi => by
    match i, hi with
    | 0, _ => exact h.two (zero_bz s n) ba)
  rw [gcdl1] at this
  exact this
theorem Eu.gcdN {s n : Nat} (h : Eu s n) {a c : ZX} (ba : BZ s n a) (bc : BZ s n c) : Ret env.P 6 [.sl [[Po c.l], [Po []], [Po a.l]]] (Po (gz a c).l) := by
  have := Gcd_ret [c, 0, a] (by simp) (fun i hi => by
    match i, hi with
    | 0, _ => exact h.two (zero_bz s n) bc
    | 1, _ =>
      rw [show gcdl ([c, 0, a].take 1) = nf c from gcdl1 c, show gcdl ([c, 0, a].take (1 + 1)) = gz (nf c) 0 from by
        show gz (gz 0 c) 0 = _
        rw [gz_zero']]
      exact h.two bc.nf (zero_bz s n)
    | 2, _ =>
      rw [show gcdl ([c, 0, a].take 2) = nf c from by
        show gz (gz 0 c) 0 = _
        rw [gz_zero', gz_zero, nf_nf], show gcdl ([c, 0, a].take (2 + 1)) = gz (nf c) a from by
        show gz (gz (gz 0 c) 0) a = _
        rw [gz_zero', gz_zero, nf_nf]]
      exact h.two bc.nf ba)
  rw [gcdl3] at this
  exact this
theorem gcd0_ret : Ret env.P 6 [.sl []] (Po []) := by
  have := Gcd_ret [] (by simp) (fun i hi => by simp at hi)
  exact this
end Go.Proofs.Ytgebobdieekjaaa
