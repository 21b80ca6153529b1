import Derived.Test.YtmdcopgjjfihnaaGreatLcd
import Derived.Test.YtmdcopgjjfihnaaGreatMp
set_option linter.unusedSimpArgs false
set_option linter.unusedVariables false
namespace Go.Proofs.YtmdcopgjjfihnaaGreat
open Go Pm
open ZX hiding N W

/-! THE NORMAL FORM OF A POLYNOMIAL BUT FOR A FACTOR: content 1, the leading coefficient above 0. -/
structure Nf (a : ZX) : Prop where
  ne : a ≠ 0
  g : gcdL a.l = 1
  l : 0 < lead a.l
theorem ne_l {a : ZX} (h : a ≠ 0) : a.l ≠ [] := fun e => by
  have := ne_zero.1 h
  have h2 : ZX.N a = a.l.length := rfl
  rw [h2, e] at this; simp at this
theorem prv_Cn (x : List Int) : Cn (prv x) := Cn.cut _
def nf (a : ZX) : ZX := ⟨prv a.l, prv_Cn _⟩
theorem nf_zero : nf 0 = 0 := ZX.ext fun t => rfl
theorem nf_K {a : ZX} (ha : a ≠ 0) : K (pcn a.l) * nf a = a := ZX.ext fun t => by
  rw [v_mul, v_K]
  conv => rhs; rw [← prv_scale a.c (ne_l ha)]
  rw [V_pscale, Int.mul_comm]; rfl
theorem pcn_ne' {a : ZX} (ha : a ≠ 0) : pcn a.l ≠ 0 := pcn_ne a.c (ne_l ha)
theorem nf_ne {a : ZX} (ha : a ≠ 0) : nf a ≠ 0 := fun h => ha (by rw [← nf_K ha, h]; grind)
theorem nf_Nf {a : ZX} (ha : a ≠ 0) : Nf (nf a) := ⟨nf_ne ha, prv_gcd a.c (ne_l ha), prv_lead a.c (ne_l ha)⟩
theorem Nf.nfe {a : ZX} (h : Nf a) : nf a = a := by
  have h1 : pcn a.l = 1 := by
    unfold pcn
    rw [if_neg (by have := h.l; omega), h.g]; rfl
  have := nf_K h.ne
  rw [h1] at this
  rw [← this]
  conv => lhs; rw [this]
  show _ = (1 : ZX) * _
  grind
theorem N_Kmul {c : Int} (hc : c ≠ 0) (a : ZX) : ZX.N (K c * a) = ZX.N a := by
  by_cases ha : a = 0
  · rw [ha, show K c * (0 : ZX) = 0 by grind]
  · rw [N_mul (K_ne hc) ha, N_K hc]; have := ne_zero.1 ha; omega
theorem N_nf (a : ZX) : ZX.N (nf a) = ZX.N a := by
  by_cases ha : a = 0
  · rw [ha, nf_zero]
  · have := N_Kmul (pcn_ne' ha) (nf a)
    rw [nf_K ha] at this
    exact this.symm
theorem K_l {c : Int} (hc : c ≠ 0) (a : ZX) : (K c * a).l = a.l.map (· * c) := by
  refine Cn.ext (K c * a).c (Cn_map_mul a.c hc) fun t => ?_
  rw [v_mul, v_K, V_mapmul, Int.mul_comm]
theorem lead_K {c : Int} (hc : c ≠ 0) {a : ZX} (ha : a ≠ 0) : lead (K c * a).l = c * lead a.l := by
  have h : (K c * a).l = pmul (K c).l a.l := rfl
  have hK : (K c).l = [c] := by show cutR [c] = [c]; exact cutR_ne hc []
  rw [h, pmul_lead (K c).c a.c (by rw [hK]; simp) (ne_zero.1 ha), hK]
  rfl
/-- Of two normal ones that are one but for a factor. -/
theorem Nf.eq_of_K {a b : ZX} (ha : Nf a) (hb : Nf b) {c d : Int} (hc : c ≠ 0) (hd : d ≠ 0) (e : K c * a = K d * b) : a = b := by
  have h1 : c.natAbs = d.natAbs := by
    have h2 : gcdL (K c * a).l = gcdL (K d * b).l := by rw [e]
    rw [K_l hc, K_l hd, gcdL_scale, gcdL_scale, ha.g, hb.g] at h2
    omega
  have h3 : c * lead a.l = d * lead b.l := by rw [← lead_K hc ha.ne, ← lead_K hd hb.ne, e]
  have h4 : c = d := by
    rcases Int.natAbs_eq_natAbs_iff.1 h1 with h5 | h5
    · exact h5
    · exfalso
      subst h5
      have hl := ha.l
      have hl2 := hb.l
      rcases Int.lt_or_gt_of_ne hd with h6 | h6
      · have := Int.mul_pos (show 0 < -d by omega) hl
        have := Int.mul_neg_of_neg_of_pos h6 hl2
        omega
      · have := Int.mul_neg_of_neg_of_pos (show -d < 0 by omega) hl
        have := Int.mul_pos h6 hl2
        omega
  subst h4
  exact ZX.cancel (K_ne hc) e
theorem nf_of_K {a b : ZX} {c d : Int} (ha : a ≠ 0) (hc : c ≠ 0) (hd : d ≠ 0) (e : K c * a = K d * b) : nf a = nf b := by
  have hb : b ≠ 0 := fun h => by
    rw [h, show K d * (0 : ZX) = 0 by grind] at e
    exact mul_ne (K_ne hc) ha e
  refine Nf.eq_of_K (nf_Nf ha) (nf_Nf hb) (c := c * pcn a.l) (d := d * pcn b.l) (Int.mul_ne_zero hc (pcn_ne' ha)) (Int.mul_ne_zero hd (pcn_ne' hb)) ?_
  rw [← K_mul, ← K_mul]
  have h1 := nf_K ha
  have h2 := nf_K hb
  grind
theorem nf_Kmul {c : Int} (hc : c ≠ 0) (a : ZX) : nf (K c * a) = nf a := by
  by_cases ha : a = 0
  · rw [ha, show K c * (0 : ZX) = 0 by grind]
  · exact nf_of_K (mul_ne (K_ne hc) ha) (show (1 : Int) ≠ 0 by decide) hc (by show (1 : ZX) * _ = _; grind)
theorem nf_nf (a : ZX) : nf (nf a) = nf a := by
  by_cases ha : a = 0
  · rw [ha, nf_zero, nf_zero]
  · exact (nf_Nf ha).nfe
theorem dv_nf (a : ZX) : dv a (nf a) ∧ dv (nf a) a := by
  by_cases ha : a = 0
  · rw [ha, nf_zero]; exact ⟨dv.refl 0, dv.refl 0⟩
  · have h := nf_K ha
    exact ⟨⟨pcn a.l, pcn_ne' ha, 1, by rw [h]; grind⟩, ⟨1, by decide, K (pcn a.l), by rw [h]; show (1 : ZX) * a = a; grind⟩⟩
theorem nf_eq_of_dv {a b : ZX} (h1 : dv a b) (h2 : dv b a) : nf a = nf b := by
  by_cases ha : a = 0
  · subst ha; rw [dv_zero h1]
  · obtain ⟨c, hc, q, e⟩ := h2
    have h3 := h1.N_le (fun hb => ha (by subst hb; exact dv_zero ⟨c, hc, q, e⟩))
    have h4 := dv.N_le ⟨c, hc, q, e⟩ ha
    obtain ⟨hq, hb⟩ := ne_of_K hc ha e
    have h5 := N_Kmul hc a
    rw [e, N_mul hq hb] at h5
    have := ne_zero.1 hq
    have := ne_zero.1 hb
    obtain ⟨d, hd, rfl⟩ := of_N1 (x := q) (by omega)
    exact nf_of_K ha hc hd e
theorem Nf.one : Nf 1 := ⟨one_ne, by decide, by decide⟩
theorem Nf.mul {a b : ZX} (ha : Nf a) (hb : Nf b) : Nf (a * b) := by
  refine ⟨mul_ne ha.ne hb.ne, ?_, ?_⟩
  · show gcdL (pmul a.l b.l) = 1
    rw [gcdL_mul a.c b.c (ne_l ha.ne) (ne_l hb.ne), ha.g, hb.g]
  · show 0 < lead (pmul a.l b.l)
    rw [pmul_lead a.c b.c (ne_zero.1 ha.ne) (ne_zero.1 hb.ne)]
    exact Int.mul_pos ha.l hb.l
theorem Nf.pow {a : ZX} (ha : Nf a) : ∀ k : Nat, Nf (a ^ k)
  | 0 => Nf.one
  | k + 1 => (Nf.pow ha k).mul ha
theorem nf_mul (a b : ZX) : nf (a * b) = nf a * nf b := by
  by_cases ha : a = 0
  · rw [ha, show (0 : ZX) * b = 0 by grind, nf_zero]; grind
  · by_cases hb : b = 0
    · rw [hb, show a * (0 : ZX) = 0 by grind, nf_zero]; grind
    · have h := ((nf_Nf ha).mul (nf_Nf hb)).nfe
      rw [← h]
      refine nf_of_K (mul_ne ha hb) (show (1 : Int) ≠ 0 by decide) (d := pcn a.l * pcn b.l) (Int.mul_ne_zero (pcn_ne' ha) (pcn_ne' hb)) ?_
      have h1 := nf_K ha
      have h2 := nf_K hb
      rw [← K_mul]
      show (1 : ZX) * (a * b) = _
      grind
theorem mu_nf {p a : ZX} (hp : Irr p) (ha : a ≠ 0) : mu p (nf a) = mu p a := by
  conv => rhs; rw [← nf_K ha]
  rw [mu_mul hp (K_ne (pcn_ne' ha)) (nf_ne ha), mu_K hp (pcn_ne' ha)]; omega
theorem Nf.eq_of_mu {a b : ZX} (ha : Nf a) (hb : Nf b) (h : ∀ p, Irr p → mu p a = mu p b) : a = b := by
  rw [← ha.nfe, ← hb.nfe]
  exact nf_eq_of_dv ((dv_iff_mu ha.ne hb.ne).2 fun p hp => by have := h p hp; omega) ((dv_iff_mu hb.ne ha.ne).2 fun p hp => by have := h p hp; omega)
/-- Gauss: what divides over the rationals, comes out even. -/
theorem Nf.quo {a b : ZX} (ha : Nf a) (hb : Nf b) (h : dv b a) : ∃ w, Nf w ∧ a = w * b := by
  obtain ⟨c, hc, q, e⟩ := h
  obtain ⟨hq, _⟩ := ne_of_K hc ha.ne e
  refine ⟨nf q, nf_Nf hq, Nf.eq_of_K ha ((nf_Nf hq).mul hb) hc (pcn_ne' hq) ?_⟩
  have := nf_K hq
  grind
theorem Nf.exact {a b w : ZX} (hb : Nf b) (e : a = w * b) : exact a.l b.l = some w.l := by
  subst e
  exact exact_back w.c b.c (ne_zero.1 hb.ne)
theorem Nf.N1 {a : ZX} (ha : Nf a) (h : ZX.N a ≤ 1) : a = 1 := by
  obtain ⟨c, hc, rfl⟩ := of_N1 (x := a) (by have := ne_zero.1 ha.ne; omega)
  exact Nf.eq_of_K ha Nf.one (show (1 : Int) ≠ 0 by decide) hc (by show (1 : ZX) * _ = K c * 1; grind)

/-- The greatest common divisor, in normal form. -/
noncomputable def gz (a b : ZX) : ZX := nf (Classical.choose (exists_gcd _ a b (Nat.le_refl _)))
theorem gz_spec (a b : ZX) : ∃ g, IsG g a b ∧ gz a b = nf g := ⟨_, Classical.choose_spec (exists_gcd _ a b (Nat.le_refl _)), rfl⟩
theorem gz_eq {g a b : ZX} (h : IsG g a b) : gz a b = nf g := by
  obtain ⟨g', h', e⟩ := gz_spec a b
  rw [e]
  obtain ⟨h1, h2⟩ := h'.assoc h
  exact nf_eq_of_dv h1 h2
theorem IsG.of_dv {g g' a b : ZX} (h : IsG g a b) (h1 : dv g g') (h2 : dv g' g) : IsG g' a b := by
  obtain ⟨c, hc, u, v, e⟩ := h.uv
  obtain ⟨d, hd, w, e2⟩ := h1
  exact ⟨h2.trans h.l, h2.trans h.r, c * d, Int.mul_ne_zero hc hd, w * u, w * v, by rw [← K_mul]; grind⟩
theorem gz_isG (a b : ZX) : IsG (gz a b) a b := by
  obtain ⟨g, h, e⟩ := gz_spec a b
  rw [e]
  obtain ⟨h1, h2⟩ := dv_nf g
  exact IsG.of_dv h h1 h2
theorem gz_ne {a b : ZX} (h : a ≠ 0 ∨ b ≠ 0) : gz a b ≠ 0 := (gz_isG a b).ne h
theorem gz_Nf {a b : ZX} (h : a ≠ 0 ∨ b ≠ 0) : Nf (gz a b) := by
  have h0 := gz_ne h
  obtain ⟨g, h, e⟩ := gz_spec a b
  rw [e] at h0 ⊢
  exact nf_Nf (fun hg => h0 (by rw [hg, nf_zero]))
theorem gz_comm (a b : ZX) : gz a b = gz b a := by
  have h := gz_isG a b
  rw [gz_eq h.symm]
  obtain ⟨g, _, e⟩ := gz_spec a b
  rw [e, nf_nf]
theorem gz_zero (a : ZX) : gz a 0 = nf a := gz_eq (IsG.zero a)
theorem gz_zero' (a : ZX) : gz 0 a = nf a := by rw [gz_comm, gz_zero]
theorem gz_congr {a b a' b' : ZX} (h1 : dv a a') (h2 : dv a' a) (h3 : dv b b') (h4 : dv b' b) : gz a b = gz a' b' := by
  obtain ⟨g, hg, e⟩ := gz_spec a b
  rw [e, gz_eq (hg.congr h1 h2 h3 h4)]
theorem gz_nf (a b : ZX) : gz (nf a) b = gz a b := gz_congr (dv_nf a).2 (dv_nf a).1 (dv.refl b) (dv.refl b)
theorem gz_nf' (a b : ZX) : gz a (nf b) = gz a b := gz_congr (dv.refl a) (dv.refl a) (dv_nf b).2 (dv_nf b).1
theorem gz_step {a b q r : ZX} {c k : Int} (hc : c ≠ 0) (hk : k ≠ 0) (e : K c * a = q * b + K k * r) : gz a b = gz b r := by
  obtain ⟨g, hg, e2⟩ := gz_spec b r
  rw [e2, gz_eq (hg.step2 hc hk e)]
theorem gz_mul (a b z : ZX) : gz (a * z) (b * z) = gz a b * nf z := by
  obtain ⟨g, hg, e⟩ := gz_spec a b
  rw [e, gz_eq (hg.scale z), nf_mul]
end Go.Proofs.YtmdcopgjjfihnaaGreat
