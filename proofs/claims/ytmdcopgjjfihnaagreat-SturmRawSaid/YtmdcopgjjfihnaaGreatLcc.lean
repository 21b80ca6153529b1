import Derived.Test.YtmdcopgjjfihnaaGreatLcb
import Derived.Test.YtmdcopgjjfihnaaGreatLca
set_option linter.unusedSimpArgs false
set_option linter.unusedVariables false
namespace Go.Proofs.YtmdcopgjjfihnaaGreat
open Go Pm

theorem qd_sign {D : Int} (hD : D ≠ 0) (x : List Int) : qd x D = qd (x.map (· * D.sign)) (D.natAbs : Nat) := by
  have hs : D.sign ≠ 0 := fun h => hD (Int.sign_eq_zero_iff_zero.1 h)
  have := qd_mul hD hs x
  rw [Int.mul_sign_self] at this
  exact this.symm
/-- The remainder's shape, by the document and by the program. -/
theorem dmd_rst {x y : List Int} (cx : Cn x) (cy : Cn y) (hy : 0 < y.length) : prim ((dmd x y).r.map (· * (dmd x y).D.sign)) = rst x y := by
  obtain ⟨hI, hr⟩ := dmd_inv cx cy hy
  generalize dmd x y = σ at *
  have hD := hI.d
  have hv := hI.v
  have hV := fun t => V_pdm t x y
  have hl := pdm_len (a := x) hy
  obtain ⟨c1, c2⟩ := pdm_Cn (b := y) cx
  rw [rst_sg cx]
  have hl0 := lead_ne cy hy
  have hc0 : lead y ^ psk x y ≠ 0 := Int.pow_ne_zero hl0
  have hsg := pow_sg (lead y) (psk x y)
  have hsq := sg_mul (lead y) (psk x y)
  generalize sg (lead y) (psk x y) = g at *
  generalize (pdm x y).1 = p at *
  generalize (pdm x y).2 = r at *
  generalize hc : lead y ^ psk x y = c at *
  have hm : 0 < ((lead y).natAbs : Int) ^ psk x y := Int.pow_pos (by omega)
  generalize ((lead y).natAbs : Int) ^ psk x y = m at *
  have e : ∀ t, V t (psub (σ.r.map (· * c)) (r.map (· * σ.D))) = V t y * V t (psub (p.map (· * σ.D)) (σ.Q.map (· * c))) := fun t => by
    have h1 := hv t
    have h2 := hV t
    rw [V_psub, V_psub, V_mapmul, V_mapmul, V_mapmul, V_mapmul]
    have h3 : c * (σ.D * V t x) = c * (V t σ.Q * V t y + V t σ.r) := by rw [h1]
    have h4 : σ.D * (V t p * V t y + V t r) = σ.D * (c * V t x) := by rw [h2]
    grind
  have h1 := mul_small (Cn.psub _ _) cy hy e (by
    have := psub_len (σ.r.map (· * c)) (r.map (· * σ.D))
    simp only [List.length_map] at this
    omega)
  have e1 : σ.r.map (· * c) = r.map (· * σ.D) := Cn.ext (Cn_map_mul hI.c hc0) (Cn_map_mul c2 hD) fun t => V_eq_cut (by rw [h1]; rfl) t
  have hs : σ.D.sign * σ.D = σ.D.natAbs := by rw [Int.mul_comm]; exact Int.mul_sign_self _
  have hss : σ.D.sign * σ.D.sign = 1 := by
    rcases Int.lt_trichotomy σ.D 0 with h | h | h
    · rw [Int.sign_eq_neg_one_of_neg h]; rfl
    · exact absurd h hD
    · rw [Int.sign_eq_one_of_pos h]; rfl
  have hsne : σ.D.sign ≠ 0 := fun h => by rw [h] at hss; simp at hss
  have hg : g ≠ 0 := fun h => by rw [h] at hsq; simp at hsq
  -- both times what is above 0
  rw [← prim_pscale (Cn_map_mul hI.c hsne) hm, ← prim_pscale (Cn.pscale r g) (show 0 < (σ.D.natAbs : Int) by omega)]
  congr 1
  refine Cn.ext (Cn.pscale _ _) (Cn.pscale _ _) fun t => ?_
  have e2 : V t σ.r * c = V t r * σ.D := by rw [← V_mapmul, e1, V_mapmul]
  rw [V_pscale, V_mapmul, V_pscale, V_pscale, ← hs]
  have h5 : m = g * c := by rw [hsg]; grind
  rw [h5]
  have : V t σ.r * σ.D.sign * (g * c) = σ.D.sign * g * (V t σ.r * c) := by grind
  rw [this, e2]; grind
theorem dms_bd {s' N : Nat} {y : List Int} (by_ : Bd 2 s' N y) (hy0 : 0 < y.length) (cy : Cn y) {x : List Int} : ∀ (n u : Nat) (σ : DS), DInv x y σ → Bd 2 u N σ.r → sz 2 σ.D ≤ u → Bd 2 (u + n * (s' + N + 2)) N (dms y n σ).r ∧ sz 2 (dms y n σ).D ≤ u + n * (s' + N + 2)
  | 0, u, σ, _, h1, h2 => ⟨by simpa [dms] using h1, by simpa [dms] using h2⟩
  | n + 1, u, σ, hI, h1, h2 => by
    rw [dms]
    split
    · exact ⟨h1.mono (by omega) (Nat.le_refl _), by omega⟩
    · rename_i h3
      have hls : sz 2 (lead y) ≤ s' := lead_bd by_
      have hlr : sz 2 (lead σ.r) ≤ u := lead_bd h1
      have hlen := h1.len
      have b1 : Bd 2 (u + s') N (pscale σ.r (lead y)) := (h1.pscale (by decide) hls).mono (by omega) (Nat.le_refl _)
      have b2 : Bd 2 (u + s' + N) (σ.r.length - y.length + 1 + N) (pmul (stp (σ.r.length - y.length) (lead σ.r)) y) := ((Bd.stp hlr (σ.r.length - y.length)).pmul (by decide) by_).mono (by omega) (Nat.le_refl _)
      have hI2 := hI.step cy hy0 (by omega)
      have hl2 := dst_len (σ := σ) hy0 (by omega)
      have b3 : Bd 2 (u + (s' + N + 2)) N (dst y σ).r := ⟨by omega, fun c hc => by
        have h4 : Bd 2 (u + s' + N) (max N (σ.r.length - y.length + 1 + N)) (pscale σ.r (lead y)) := b1.mono (by omega) (by omega)
        have h5 : Bd 2 (u + s' + N) (max N (σ.r.length - y.length + 1 + N)) (pmul (stp (σ.r.length - y.length) (lead σ.r)) y) := b2.mono (Nat.le_refl _) (by omega)
        have h6 := (Bd.psub (by decide) h4 h5).sz c hc
        omega⟩
      have b4 : sz 2 (dst y σ).D ≤ u + (s' + N + 2) := Nat.le_trans (sz_mul (by decide) h2 hls) (by omega)
      obtain ⟨g1, g2⟩ := dms_bd by_ hy0 cy n (u + (s' + N + 2)) _ hI2 b3 b4
      rw [Nat.add_mul, Nat.one_mul]
      exact ⟨g1.mono (by omega) (Nat.le_refl _), by omega⟩
theorem dmd_bd {s s' N : Nat} {x y : List Int} (hx : Bd 2 s N x) (hs : 1 ≤ s) (by_ : Bd 2 s' N y) (hy0 : 0 < y.length) (cx : Cn x) (cy : Cn y) : Bd 2 (s + (N + 1) * (s' + N + 2)) N (dmd x y).r ∧ sz 2 (dmd x y).D ≤ s + (N + 1) * (s' + N + 2) := by
  have hlen := hx.len
  obtain ⟨h1, h2⟩ := dms_bd by_ hy0 cy (x := x) (x.length + 1) s ⟨List.replicate (psk x y) 0, x, 1⟩ (DInv.start cx) hx (Nat.le_trans (show sz 2 1 ≤ 1 from sz_le (by decide) (by decide)) hs)
  have : (x.length + 1) * (s' + N + 2) ≤ (N + 1) * (s' + N + 2) := Nat.mul_le_mul_right _ (by omega)
  exact ⟨h1.mono (by omega) (Nat.le_refl _), Nat.le_trans h2 (by omega)⟩

end Go.Proofs.YtmdcopgjjfihnaaGreat
