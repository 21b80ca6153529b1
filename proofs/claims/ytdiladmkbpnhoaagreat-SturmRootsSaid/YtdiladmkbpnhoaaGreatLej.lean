import Derived.Test.YtdiladmkbpnhoaaGreatLei
set_option linter.unusedSimpArgs false
set_option linter.unusedVariables false
namespace Go.Proofs.YtdiladmkbpnhoaaGreat
open Go Pm
theorem BZ.z {h n : Nat} {a : ZX} (b : BZ h n a) (hh : h < 1099511627776) : ∀ c ∈ a.l, Z c := fun c hc => Nat.lt_of_le_of_lt (b.sz c hc) hh
theorem toZ_ret {h n : Nat} {a : ZX} (b : BZ h n a) (hh : h < 1099511627776) (hn : n < 1099511627776) : Ret env.P 54 [PI a.l] (Po a.l) := qTo_ret a.l (b.z hh) (Nat.lt_of_le_of_lt b.len hn)
theorem oz_eq {a b : ZX} (ha : Nf a) (hb : Nf b) (h : ∀ p, ZX.Irr p → ZX.mu p b = ZX.mu p a % 2) : oz a = b := Nf.eq_of_mu (oz_Nf ha) hb fun p hp => by rw [oz_mu ha hp, h p hp]
theorem sq_eq {a b : ZX} (ha : a ≠ 0) (hb : Nf b) (h : ∀ p, ZX.Irr p → ZX.mu p b = min (ZX.mu p a) 1) : sq a = b := by
 have nA := nf_Nf ha
 have e : sq a = sz' (nf a) := by
  unfold sq
  split
  ·rename_i h2
   have h3 : nf a = 1 := nA.N1 (by rw [N_nf]; exact h2)
   rw [h3]
   show 1 = wz 1 0
   rw [wz]
   show 1 = qz 1 (gd 1)
   rw [gd_one, Nf.one.self]
  ·rfl
 rw [e]
 exact Nf.eq_of_mu (sz_Nf nA) hb fun p hp => by rw [sz_mu nA hp, mu_nf hp ha, h p hp]
theorem mu_lin {a p : ZX} (hp : ZX.Irr p) (ha : a ≠ 0) (hN : ZX.N a ≤ 2) : ZX.mu p a ≤ 1 := by
 rcases Nat.lt_or_ge (ZX.mu p a) 2 with h | h
 ·omega
 ·have h1 := ((ZX.mu_le hp ha).1 h).N_le ha
  have h2 : p ^ 2 = p * p := by rw [show (2 : Nat) = 1 + 1 from rfl, ZX.pow_succ', ZX.pow_succ', ZX.pow_zero']; grind
  rw [h2, ZX.N_mul hp.ne hp.ne] at h1
  have := hp.deg
  omega
def wa : ZX := ZX.of [-1, 1]
def wb : ZX := ZX.of [2, 1]
theorem wa_Nf : Nf wa := ⟨ZX.ne_zero.2 (by decide), by decide, by decide⟩
theorem wb_Nf : Nf wb := ⟨ZX.ne_zero.2 (by decide), by decide, by decide⟩
theorem w_apart {p : ZX} (hp : ZX.Irr p) : ZX.mu p wa = 0 ∨ ZX.mu p wb = 0 := by
 rcases Nat.eq_zero_or_pos (ZX.mu p wa) with h | h
 ·exact .inl h
 ·right
  rcases Nat.eq_zero_or_pos (ZX.mu p wb) with h2 | h2
  ·exact h2
  ·exfalso
   have e1 : p ^ 1 = p := by rw [ZX.pow_succ', ZX.pow_zero']; grind
   have d1 := (ZX.mu_le hp wa_Nf.ne).1 h
   have d2 := (ZX.mu_le hp wb_Nf.ne).1 h2
   rw [e1] at d1 d2
   have d3 := d2.add (d1.mul_left (ZX.K (-1)))
   have e : wb + ZX.K (-1) * wa = ZX.K 3 := ZX.ext fun t => by
    rw [ZX.v_add, ZX.v_mul, ZX.v_K, ZX.v_K, wa, wb, ZX.v_of, ZX.v_of]
    simp [V]; omega
   rw [e] at d3
   have := d3.N_le (ZX.K_ne (by decide))
   rw [ZX.N_K (by decide)] at this
   have := hp.deg
   omega
def wp7 : ZX := ZX.of [-2, 5, -3, -1, 1]
def wq7 : ZX := ZX.of [-2, 1, 1]
def wt7 : ZX := ZX.of [0, 0, 1]
theorem small_bz {a : ZX} {n : Nat} (hn : a.l.length ≤ n) (hc : ∀ c ∈ a.l, c.natAbs < 8) : BZ 3 n a := ⟨hn, fun c h => sz_le (by decide) (by have := hc c h; show _ < 8; exact this)⟩
theorem lay_small {a : ZX} (b : BZ 3 5 a) : Lay 3 5 a := ⟨b, by decide, by decide, by decide⟩
theorem wp_l : prodl [wa, wa, wa, wb] = wp7 := ZX.ext fun t => by
 simp only [prodl, List.foldl_cons, List.foldl_nil]
 rw [ZX.v_mul, ZX.v_mul, ZX.v_mul, ZX.v_mul, ZX.v_one, wa, wb, wp7, ZX.v_of, ZX.v_of, ZX.v_of]
 simp only [V]; grind
end Go.Proofs.YtdiladmkbpnhoaaGreat
