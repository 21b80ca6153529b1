import Derived.Test.YtdiladmkbpnhoaaGreatLcd
import Derived.Test.YtdiladmkbpnhoaaGreatMp
set_option linter.unusedSimpArgs false
set_option linter.unusedVariables false
namespace Go.Proofs.YtdiladmkbpnhoaaGreat
open Go Pm
open ZX hiding N W
structure Nf (a : ZX) : Prop where
 ne : a ≠ 0
 g : gcdL a.l = 1
 l : 0 < lead a.l
theorem ne_l {a : ZX} (h : a ≠ 0) : a.l ≠ [] := fun e => by
 have := ne_zero.1 h
 have h2 : ZX.N a = a.l.length := rfl
 rw [h2, e] at this; simp at this
theorem prv_Cn (x : List Int) : Cn (prv x) := Cn.cut _
def nf (a : ZX) : ZX := ⟨prv a.l, prv_Cn _⟩
theorem nf_zero : nf 0 = 0 := ZX.ext fun t => rfl
theorem nf_K {a : ZX} (ha : a ≠ 0) : K (pcn a.l) * nf a = a := ZX.ext fun t => by
 rw [v_mul, v_K]
 conv => rhs; rw [← prv_scale a.c (ne_l ha)]
 rw [V_pscale, Int.mul_comm]; rfl
theorem pcn_ne' {a : ZX} (ha : a ≠ 0) : pcn a.l ≠ 0 := pcn_ne a.c (ne_l ha)
theorem nf_ne {a : ZX} (ha : a ≠ 0) : nf a ≠ 0 := fun h => ha (by rw [← nf_K ha, h]; grind)
theorem nf_Nf {a : ZX} (ha : a ≠ 0) : Nf (nf a) := ⟨nf_ne ha, prv_gcd a.c (ne_l ha), prv_lead a.c (ne_l ha)⟩
theorem Nf.nfe {a : ZX} (h : Nf a) : nf a = a := by
 have h1 : pcn a.l = 1 := by
  unfold pcn
  rw [if_neg (by have := h.l; omega), h.g]; rfl
 have := nf_K h.ne
 rw [h1] at this
 rw [← this]
 conv => lhs; rw [this]
 show _ = (1 : ZX) * _
 grind
theorem N_Kmul {c : Int} (hc : c ≠ 0) (a : ZX) : ZX.N (K c * a) = ZX.N a := by
 by_cases ha : a = 0
 ·rw [ha, show K c * (0 : ZX) = 0 by grind]
 ·rw [N_mul (K_ne hc) ha, N_K hc]; have := ne_zero.1 ha; omega
theorem N_nf (a : ZX) : ZX.N (nf a) = ZX.N a := by
 by_cases ha : a = 0
 ·rw [ha, nf_zero]
 ·have := N_Kmul (pcn_ne' ha) (nf a)
  rw [nf_K ha] at this
  exact this.symm
theorem K_l {c : Int} (hc : c ≠ 0) (a : ZX) : (K c * a).l = a.l.map (· * c) := by
 refine Cn.ext (K c * a).c (Cn_map_mul a.c hc) fun t => ?_
 rw [v_mul, v_K, V_mapmul, Int.mul_comm]
theorem lead_K {c : Int} (hc : c ≠ 0) {a : ZX} (ha : a ≠ 0) : lead (K c * a).l = c * lead a.l := by
 have h : (K c * a).l = pmul (K c).l a.l := rfl
 have hK : (K c).l = [c] := by show cutR [c] = [c]; exact cutR_ne hc []
 rw [h, pmul_lead (K c).c a.c (by rw [hK]; simp) (ne_zero.1 ha), hK]
 rfl
theorem Nf.eq_of_K {a b : ZX} (ha : Nf a) (hb : Nf b) {c d : Int} (hc : c ≠ 0) (hd : d ≠ 0) (e : K c * a = K d * b) : a = b := by
 have h1 : c.natAbs = d.natAbs := by
  have h2 : gcdL (K c * a).l = gcdL (K d * b).l := by rw [e]
  rw [K_l hc, K_l hd, gcdL_scale, gcdL_scale, ha.g, hb.g] at h2
  omega
 have h3 : c * lead a.l = d * lead b.l := by rw [← lead_K hc ha.ne, ← lead_K hd hb.ne, e]
 have h4 : c = d := by
  rcases Int.natAbs_eq_natAbs_iff.1 h1 with h5 | h5
  ·exact h5
  ·exfalso
   subst h5
   have hl := ha.l
   have hl2 := hb.l
   rcases Int.lt_or_gt_of_ne hd with h6 | h6
   ·have := Int.mul_pos (show 0 < -d by omega) hl
    have := Int.mul_neg_of_neg_of_pos h6 hl2
    omega
   ·have := Int.mul_neg_of_neg_of_pos (show -d < 0 by omega) hl
    have := Int.mul_pos h6 hl2
    omega
 subst h4
 exact ZX.cancel (K_ne hc) e
theorem nf_of_K {a b : ZX} {c d : Int} (ha : a ≠ 0) (hc : c ≠ 0) (hd : d ≠ 0) (e : K c * a = K d * b) : nf a = nf b := by
 have hb : b ≠ 0 := fun h => by
  rw [h, show K d * (0 : ZX) = 0 by grind] at e
  exact mul_ne (K_ne hc) ha e
 refine Nf.eq_of_K (nf_Nf ha) (nf_Nf hb) (c := c * pcn a.l) (d := d * pcn b.l) (Int.mul_ne_zero hc (pcn_ne' ha)) (Int.mul_ne_zero hd (pcn_ne' hb)) ?_
 rw [← K_mul, ← K_mul]
 have h1 := nf_K ha
 have h2 := nf_K hb
 grind
theorem nf_Kmul {c : Int} (hc : c ≠ 0) (a : ZX) : nf (K c * a) = nf a := by
 by_cases ha : a = 0
 ·rw [ha, show K c * (0 : ZX) = 0 by grind]
 ·exact nf_of_K (mul_ne (K_ne hc) ha) (show (1 : Int) ≠ 0 by decide) hc (by show (1 : ZX) * _ = _; grind)
theorem nf_nf (a : ZX) : nf (nf a) = nf a := by
 by_cases ha : a = 0
 ·rw [ha, nf_zero, nf_zero]
 ·exact (nf_Nf ha).nfe
theorem dv_nf (a : ZX) : dv a (nf a) ∧ dv (nf a) a := by
 by_cases ha : a = 0
 ·rw [ha, nf_zero]; exact ⟨dv.refl 0, dv.refl 0⟩
 ·have h := nf_K ha
  exact ⟨⟨pcn a.l, pcn_ne' ha, 1, by rw [h]; grind⟩, ⟨1, by decide, K (pcn a.l), by rw [h]; show (1 : ZX) * a = a; grind⟩⟩
theorem nf_eq_of_dv {a b : ZX} (h1 : dv a b) (h2 : dv b a) : nf a = nf b := by
 by_cases ha : a = 0
 ·subst ha; rw [dv_zero h1]
 ·obtain ⟨c, hc, q, e⟩ := h2
  have h3 := h1.N_le (fun hb => ha (by subst hb; exact dv_zero ⟨c, hc, q, e⟩))
  have h4 := dv.N_le ⟨c, hc, q, e⟩ ha
  obtain ⟨hq, hb⟩ := ne_of_K hc ha e
  have h5 := N_Kmul hc a
  rw [e, N_mul hq hb] at h5
  have := ne_zero.1 hq
  have := ne_zero.1 hb
  obtain ⟨d, hd, rfl⟩ := of_N1 (x := q) (by omega)
  exact nf_of_K ha hc hd e
theorem Nf.one : Nf 1 := ⟨one_ne, by decide, by decide⟩
theorem Nf.mul {a b : ZX} (ha : Nf a) (hb : Nf b) : Nf (a * b) := by
 refine ⟨mul_ne ha.ne hb.ne, ?_, ?_⟩
 ·show gcdL (pmul a.l b.l) = 1
  rw [gcdL_mul a.c b.c (ne_l ha.ne) (ne_l hb.ne), ha.g, hb.g]
 ·show 0 < lead (pmul a.l b.l)
  rw [pmul_lead a.c b.c (ne_zero.1 ha.ne) (ne_zero.1 hb.ne)]
  exact Int.mul_pos ha.l hb.l
theorem Nf.pow {a : ZX} (ha : Nf a) : ∀ k : Nat, Nf (a ^ k)
 | 0 => Nf.one
 | k + 1 => (Nf.pow ha k).mul ha
theorem nf_mul (a b : ZX) : nf (a * b) = nf a * nf b := by
 by_cases ha : a = 0
 ·rw [ha, show (0 : ZX) * b = 0 by grind, nf_zero]; grind
 ·by_cases hb : b = 0
  ·rw [hb, show a * (0 : ZX) = 0 by grind, nf_zero]; grind
  ·have h := ((nf_Nf ha).mul (nf_Nf hb)).nfe
   rw [← h]
   refine nf_of_K (mul_ne ha hb) (show (1 : Int) ≠ 0 by decide) (d := pcn a.l * pcn b.l) (Int.mul_ne_zero (pcn_ne' ha) (pcn_ne' hb)) ?_
   have h1 := nf_K ha
   have h2 := nf_K hb
   rw [← K_mul]
   show (1 : ZX) * (a * b) = _
   grind
theorem mu_nf {p a : ZX} (hp : Irr p) (ha : a ≠ 0) : mu p (nf a) = mu p a := by
 conv => rhs; rw [← nf_K ha]
 rw [mu_mul hp (K_ne (pcn_ne' ha)) (nf_ne ha), mu_K hp (pcn_ne' ha)]; omega
theorem Nf.eq_of_mu {a b : ZX} (ha : Nf a) (hb : Nf b) (h : ∀ p, Irr p → mu p a = mu p b) : a = b := by
 rw [← ha.nfe, ← hb.nfe]
 exact nf_eq_of_dv ((dv_iff_mu ha.ne hb.ne).2 fun p hp => by have := h p hp; omega) ((dv_iff_mu hb.ne ha.ne).2 fun p hp => by have := h p hp; omega)
theorem Nf.quo {a b : ZX} (ha : Nf a) (hb : Nf b) (h : dv b a) : ∃ w, Nf w ∧ a = w * b := by
 obtain ⟨c, hc, q, e⟩ := h
 obtain ⟨hq, _⟩ := ne_of_K hc ha.ne e
 refine ⟨nf q, nf_Nf hq, Nf.eq_of_K ha ((nf_Nf hq).mul hb) hc (pcn_ne' hq) ?_⟩
 have := nf_K hq
 grind
theorem Nf.exact {a b w : ZX} (hb : Nf b) (e : a = w * b) : exact a.l b.l = some w.l := by
 subst e
 exact exact_back w.c b.c (ne_zero.1 hb.ne)
theorem Nf.N1 {a : ZX} (ha : Nf a) (h : ZX.N a ≤ 1) : a = 1 := by
 obtain ⟨c, hc, rfl⟩ := of_N1 (x := a) (by have := ne_zero.1 ha.ne; omega)
 exact Nf.eq_of_K ha Nf.one (show (1 : Int) ≠ 0 by decide) hc (by show (1 : ZX) * _ = K c * 1; grind)
noncomputable def gz (a b : ZX) : ZX := nf (Classical.choose (exists_gcd _ a b (Nat.le_refl _)))
theorem gz_spec (a b : ZX) : ∃ g, IsG g a b ∧ gz a b = nf g := ⟨_, Classical.choose_spec (exists_gcd _ a b (Nat.le_refl _)), rfl⟩
theorem gz_eq {g a b : ZX} (h : IsG g a b) : gz a b = nf g := by
 obtain ⟨g', h', e⟩ := gz_spec a b
 rw [e]
 obtain ⟨h1, h2⟩ := h'.assoc h
 exact nf_eq_of_dv h1 h2
theorem IsG.of_dv {g g' a b : ZX} (h : IsG g a b) (h1 : dv g g') (h2 : dv g' g) : IsG g' a b := by
 obtain ⟨c, hc, u, v, e⟩ := h.uv
 obtain ⟨d, hd, w, e2⟩ := h1
 exact ⟨h2.trans h.l, h2.trans h.r, c * d, Int.mul_ne_zero hc hd, w * u, w * v, by rw [← K_mul]; grind⟩
theorem gz_isG (a b : ZX) : IsG (gz a b) a b := by
 obtain ⟨g, h, e⟩ := gz_spec a b
 rw [e]
 obtain ⟨h1, h2⟩ := dv_nf g
 exact IsG.of_dv h h1 h2
theorem gz_ne {a b : ZX} (h : a ≠ 0 ∨ b ≠ 0) : gz a b ≠ 0 := (gz_isG a b).ne h
theorem gz_Nf {a b : ZX} (h : a ≠ 0 ∨ b ≠ 0) : Nf (gz a b) := by
 have h0 := gz_ne h
 obtain ⟨g, h, e⟩ := gz_spec a b
 rw [e] at h0 ⊢
 exact nf_Nf (fun hg => h0 (by rw [hg, nf_zero]))
theorem gz_comm (a b : ZX) : gz a b = gz b a := by
 have h := gz_isG a b
 rw [gz_eq h.symm]
 obtain ⟨g, _, e⟩ := gz_spec a b
 rw [e, nf_nf]
theorem gz_zero (a : ZX) : gz a 0 = nf a := gz_eq (IsG.zero a)
theorem gz_zero' (a : ZX) : gz 0 a = nf a := by rw [gz_comm, gz_zero]
theorem gz_congr {a b a' b' : ZX} (h1 : dv a a') (h2 : dv a' a) (h3 : dv b b') (h4 : dv b' b) : gz a b = gz a' b' := by
 obtain ⟨g, hg, e⟩ := gz_spec a b
 rw [e, gz_eq (hg.congr h1 h2 h3 h4)]
theorem gz_nf (a b : ZX) : gz (nf a) b = gz a b := gz_congr (dv_nf a).2 (dv_nf a).1 (dv.refl b) (dv.refl b)
theorem gz_nf' (a b : ZX) : gz a (nf b) = gz a b := gz_congr (dv.refl a) (dv.refl a) (dv_nf b).2 (dv_nf b).1
theorem gz_step {a b q r : ZX} {c k : Int} (hc : c ≠ 0) (hk : k ≠ 0) (e : K c * a = q * b + K k * r) : gz a b = gz b r := by
 obtain ⟨g, hg, e2⟩ := gz_spec b r
 rw [e2, gz_eq (hg.step2 hc hk e)]
theorem gz_mul (a b z : ZX) : gz (a * z) (b * z) = gz a b * nf z := by
 obtain ⟨g, hg, e⟩ := gz_spec a b
 rw [e, gz_eq (hg.scale z), nf_mul]
end Go.Proofs.YtdiladmkbpnhoaaGreat
namespace Go.Proofs.YtdiladmkbpnhoaaGreat
open Go Pm
open ZX hiding N W
open Classical in
noncomputable def qz (a b : ZX) : ZX := if h : ∃ w, Nf w ∧ a = w * b then h.choose else 0
theorem qz_spec {a b : ZX} (ha : Nf a) (hb : Nf b) (h : dv b a) : Nf (qz a b) ∧ a = qz a b * b := by
 have h := ha.quo hb h
 unfold qz
 rw [dif_pos h]
 exact h.choose_spec
theorem qz_eq {a b w : ZX} (hb : Nf b) (hw : Nf w) (e : a = w * b) : qz a b = w := by
 have ha : Nf a := by rw [e]; exact hw.mul hb
 obtain ⟨h1, h2⟩ := qz_spec ha hb ⟨1, by decide, w, by rw [e]; show (1 : ZX) * _ = _; grind⟩
 refine ZX.cancel hb.ne ?_
 have : qz a b * b = w * b := by rw [← h2, e]
 grind
theorem qz_exact {a b : ZX} (ha : Nf a) (hb : Nf b) (h : dv b a) : exact a.l b.l = some (qz a b).l := Nf.exact hb (qz_spec ha hb h).2
theorem qz_mu {a b p : ZX} (ha : Nf a) (hb : Nf b) (h : dv b a) (hp : Irr p) : mu p (qz a b) = mu p a - mu p b := by
 obtain ⟨h1, h2⟩ := qz_spec ha hb h
 have h3 : mu p a = mu p (qz a b) + mu p b := by
  conv => lhs; rw [h2]
  exact mu_mul hp h1.ne hb.ne
 omega
theorem Nf.self {a : ZX} (ha : Nf a) : qz a a = 1 := qz_eq ha Nf.one (by grind)
theorem Nf.qone {a : ZX} (ha : Nf a) : qz a 1 = a := qz_eq Nf.one ha (by grind)
noncomputable def gd (a : ZX) : ZX := gz a (der a)
theorem gd_Nf {a : ZX} (ha : a ≠ 0) : Nf (gd a) := gz_Nf (.inl ha)
theorem gd_dv (a : ZX) : dv (gd a) a := (gz_isG a (der a)).l
theorem gd_mu {a p : ZX} (ha : a ≠ 0) (hp : Irr p) : mu p (gd a) = mu p a - 1 := (gz_isG a (der a)).mu_der ha hp
theorem gd_N {a : ZX} (h : 2 ≤ ZX.N a) : ZX.N (gd a) < ZX.N a := by
 have h1 := (gz_isG a (der a)).r.N_le (der_ne h)
 have h2 := N_der a
 have : ZX.N (gd a) = ZX.N (gz a (der a)) := rfl
 omega
theorem gd_one : gd 1 = 1 := by
 unfold gd
 rw [der_one, gz_zero, Nf.one.nfe]
noncomputable def gs (a : ZX) : Nat → ZX
 | 0 => a
 | k + 1 => gd (gs a k)
theorem gs_Nf {a : ZX} (ha : Nf a) : ∀ k, Nf (gs a k)
 | 0 => ha
 | k + 1 => gd_Nf (gs_Nf ha k).ne
theorem gs_dv (a : ZX) : ∀ k, dv (gs a k) a
 | 0 => dv.refl a
 | k + 1 => (gd_dv _).trans (gs_dv a k)
theorem gs_mu {a p : ZX} (ha : Nf a) (hp : Irr p) : ∀ k, mu p (gs a k) = mu p a - k
 | 0 => rfl
 | k + 1 => by
  show mu p (gd (gs a k)) = _
  rw [gd_mu (gs_Nf ha k).ne hp, gs_mu ha hp k]; omega
theorem gs_N {a : ZX} : ∀ k, ZX.N (gs a k) ≤ 1 ∨ ZX.N (gs a k) + k ≤ ZX.N a
 | 0 => .inr (Nat.le_refl _)
 | k + 1 => by
  rcases gs_N (a := a) k with h | h
  ·left
   show ZX.N (gz (gs a k) (der (gs a k))) ≤ 1
   by_cases h0 : gs a k = 0
   ·rw [h0, show der (0 : ZX) = 0 from ZX.ext fun t => rfl, gz_zero, nf_zero]; decide
   ·exact Nat.le_trans ((gz_isG _ _).l.N_le h0) h
  ·rcases Nat.lt_or_ge (ZX.N (gs a k)) 2 with h2 | h2
   ·left
    show ZX.N (gz (gs a k) (der (gs a k))) ≤ 1
    by_cases h0 : gs a k = 0
    ·rw [h0, show der (0 : ZX) = 0 from ZX.ext fun t => rfl, gz_zero, nf_zero]; decide
    ·exact Nat.le_trans ((gz_isG _ _).l.N_le h0) (by omega)
   ·right
    have := gd_N h2
    show ZX.N (gd (gs a k)) + (k + 1) ≤ _
    omega
open Classical in
noncomputable def nl (a : ZX) : Nat := if h : ∃ m, ZX.N (gs a m) ≤ 1 ∧ ∀ k, k < m → 2 ≤ ZX.N (gs a k) then h.choose else 0
theorem nl_spec (a : ZX) : ZX.N (gs a (nl a)) ≤ 1 ∧ ∀ k, k < nl a → 2 ≤ ZX.N (gs a k) := by
 have h : ∃ m, ZX.N (gs a m) ≤ 1 ∧ ∀ k, k < m → 2 ≤ ZX.N (gs a k) := by
  have key : ∀ n, (∃ m, m ≤ n ∧ ZX.N (gs a m) ≤ 1 ∧ ∀ k, k < m → 2 ≤ ZX.N (gs a k)) ∨ ∀ k, k ≤ n → 2 ≤ ZX.N (gs a k) := by
   intro n
   induction n with
   | zero =>
    rcases Nat.lt_or_ge (ZX.N (gs a 0)) 2 with h | h
    ·exact .inl ⟨0, Nat.le_refl _, by omega, fun k hk => by omega⟩
    ·exact .inr fun k hk => by rw [show k = 0 by omega]; exact h
   | succ n ih =>
    rcases ih with ⟨m, h1, h2⟩ | ih
    ·exact .inl ⟨m, by omega, h2⟩
    ·rcases Nat.lt_or_ge (ZX.N (gs a (n + 1))) 2 with h | h
     ·exact .inl ⟨n + 1, Nat.le_refl _, by omega, fun k hk => ih k (by omega)⟩
     ·refine .inr fun k hk => ?_
      rcases Nat.lt_or_ge k (n + 1) with h3 | h3
      ·exact ih k (by omega)
      ·rw [show k = n + 1 by omega]; exact h
  rcases key (ZX.N a) with ⟨m, _, h⟩ | h
  ·exact ⟨m, h⟩
  ·have h1 := h (ZX.N a) (Nat.le_refl _)
   rcases gs_N (a := a) (ZX.N a) with h2 | h2 <;> omega
 unfold nl
 rw [dif_pos h]
 exact h.choose_spec
theorem nl_le (a : ZX) : nl a ≤ ZX.N a := by
 rcases Nat.eq_zero_or_pos (nl a) with h | h
 ·omega
 ·have h1 := (nl_spec a).2 (nl a - 1) (by omega)
  rcases gs_N (a := a) (nl a - 1) with h2 | h2 <;> omega
theorem nl_lt {a : ZX} {k : Nat} (h : ∀ j, j ≤ k → 2 ≤ ZX.N (gs a j)) : k < nl a := by
 rcases Nat.lt_or_ge k (nl a) with h1 | h1
 ·exact h1
 ·have := h _ h1
  have := (nl_spec a).1
  omega
theorem gs_nl {a : ZX} (ha : Nf a) : ∀ j, gs a (nl a + j) = 1
 | 0 => (gs_Nf ha _).N1 (nl_spec a).1
 | j + 1 => by
  show gd (gs a (nl a + j)) = 1
  rw [gs_nl ha j, gd_one]
noncomputable def wz (a : ZX) (k : Nat) : ZX := qz (gs a k) (gs a (k + 1))
theorem wz_spec {a : ZX} (ha : Nf a) (k : Nat) : Nf (wz a k) ∧ gs a k = wz a k * gs a (k + 1) := qz_spec (gs_Nf ha k) (gs_Nf ha (k + 1)) (gd_dv _)
theorem wz_mu {a p : ZX} (ha : Nf a) (hp : Irr p) (k : Nat) : mu p (wz a k) = if k < mu p a then 1 else 0 := by
 rw [wz, qz_mu (gs_Nf ha k) (gs_Nf ha (k + 1)) (gd_dv _) hp, gs_mu ha hp, gs_mu ha hp]
 split <;> omega
theorem wz_nl {a : ZX} (ha : Nf a) (j : Nat) : wz a (nl a + j) = 1 := by
 rw [wz, gs_nl ha j, Nat.add_assoc, gs_nl ha (j + 1), Nf.one.self]
theorem wz_dv {a : ZX} (ha : Nf a) (k : Nat) : dv (wz a (k + 1)) (wz a k) := (dv_iff_mu (wz_spec ha _).1.ne (wz_spec ha _).1.ne).2 fun p hp => by
 rw [wz_mu ha hp, wz_mu ha hp]
 split <;> split <;> omega
noncomputable def fz' (a : ZX) (k : Nat) : ZX := qz (wz a k) (wz a (k + 1))
theorem fz_spec {a : ZX} (ha : Nf a) (k : Nat) : Nf (fz' a k) ∧ wz a k = fz' a k * wz a (k + 1) := qz_spec (wz_spec ha k).1 (wz_spec ha (k + 1)).1 (wz_dv ha k)
theorem fz_mu {a p : ZX} (ha : Nf a) (hp : Irr p) (k : Nat) : mu p (fz' a k) = if mu p a = k + 1 then 1 else 0 := by
 rw [fz', qz_mu (wz_spec ha k).1 (wz_spec ha (k + 1)).1 (wz_dv ha k) hp, wz_mu ha hp, wz_mu ha hp]
 split <;> split <;> split <;> omega
theorem fz_last {a : ZX} (ha : Nf a) {k : Nat} (h : k + 1 = nl a) : fz' a k = wz a k := by
 rw [fz', h, show nl a = nl a + 0 from rfl, wz_nl ha 0, (wz_spec ha k).1.qone]
noncomputable def fl (a : ZX) : List ZX := (List.range (nl a)).map (fz' a)
theorem fl_len (a : ZX) : (fl a).length = nl a := by simp [fl]
theorem mu_lt_nl {a p : ZX} (ha : Nf a) (hp : Irr p) : mu p a ≤ nl a := by
 have h := gs_mu ha hp (nl a)
 have h1 := gs_nl ha 0
 rw [Nat.add_zero] at h1
 rw [h1, mu_one hp] at h
 omega
noncomputable def pf (a : ZX) (c : Nat → Bool) : Nat → ZX
 | 0 => 1
 | k + 1 => if c k then pf a c k * fz' a k else pf a c k
theorem pf_Nf {a : ZX} (ha : Nf a) (c : Nat → Bool) : ∀ k, Nf (pf a c k)
 | 0 => Nf.one
 | k + 1 => by
  rw [pf]
  split
  ·exact (pf_Nf ha c k).mul (fz_spec ha k).1
  ·exact pf_Nf ha c k
theorem pf_mu {a p : ZX} (ha : Nf a) (hp : Irr p) (c : Nat → Bool) : ∀ k, mu p (pf a c k) = if 1 ≤ mu p a ∧ mu p a ≤ k ∧ c (mu p a - 1) = true then 1 else 0
 | 0 => by
  rw [pf, mu_one hp, if_neg (by omega)]
 | k + 1 => by
  have ih := pf_mu ha hp c k
  have hf := fz_mu ha hp k
  rw [pf]
  by_cases hc : c k = true
  ·rw [if_pos hc, mu_mul hp (pf_Nf ha c k).ne (fz_spec ha k).1.ne, ih, hf]
   by_cases h1 : mu p a = k + 1
   ·rw [if_pos h1, h1, Nat.add_sub_cancel, if_neg (by omega), if_pos ⟨by omega, Nat.le_refl _, hc⟩]
   ·rw [if_neg h1]
    by_cases h2 : 1 ≤ mu p a ∧ mu p a ≤ k ∧ c (mu p a - 1) = true
    ·rw [if_pos h2, if_pos ⟨h2.1, by omega, h2.2.2⟩]
    ·rw [if_neg h2, if_neg (fun h3 => h2 ⟨h3.1, by omega, h3.2.2⟩)]
  ·rw [if_neg hc, ih]
   by_cases h1 : mu p a = k + 1
   ·rw [h1, Nat.add_sub_cancel, if_neg (by omega), if_neg (fun h3 => hc h3.2.2)]
   ·by_cases h2 : 1 ≤ mu p a ∧ mu p a ≤ k ∧ c (mu p a - 1) = true
    ·rw [if_pos h2, if_pos ⟨h2.1, by omega, h2.2.2⟩]
    ·rw [if_neg h2, if_neg (fun h3 => h2 ⟨h3.1, by omega, h3.2.2⟩)]
noncomputable def oz (a : ZX) : ZX := pf a (fun k => k % 2 == 0) (nl a)
noncomputable def sz' (a : ZX) : ZX := wz a 0
theorem oz_Nf {a : ZX} (ha : Nf a) : Nf (oz a) := pf_Nf ha _ _
theorem sz_Nf {a : ZX} (ha : Nf a) : Nf (sz' a) := (wz_spec ha 0).1
theorem oz_mu {a p : ZX} (ha : Nf a) (hp : Irr p) : mu p (oz a) = mu p a % 2 := by
 have h := mu_lt_nl ha hp
 rw [oz, pf_mu ha hp]
 by_cases h1 : 1 ≤ mu p a ∧ mu p a ≤ nl a ∧ ((mu p a - 1) % 2 == 0) = true
 ·rw [if_pos h1]
  have := h1.2.2
  simp only [beq_iff_eq] at this
  omega
 ·rw [if_neg h1]
  simp only [beq_iff_eq] at h1
  omega
theorem sz_mu {a p : ZX} (ha : Nf a) (hp : Irr p) : mu p (sz' a) = min (mu p a) 1 := by
 rw [sz', wz_mu ha hp]
 split <;> omega
theorem pf_all {a : ZX} (ha : Nf a) : pf a (fun _ => true) (nl a) = sz' a := Nf.eq_of_mu (pf_Nf ha _ _) (sz_Nf ha) fun p hp => by
 have h := mu_lt_nl ha hp
 rw [pf_mu ha hp, sz_mu ha hp]
 by_cases h1 : 1 ≤ mu p a
 ·rw [if_pos ⟨h1, h, rfl⟩]; omega
 ·rw [if_neg (fun h2 => h1 h2.1)]; omega
theorem nl_small {a : ZX} (h : ZX.N a ≤ 1) : nl a = 0 := by
 rcases Nat.eq_zero_or_pos (nl a) with h1 | h1
 ·exact h1
 ·have := (nl_spec a).2 0 h1
  have : ZX.N (gs a 0) = ZX.N a := rfl
  omega
theorem nl_pos {a : ZX} (h : 2 ≤ ZX.N a) : 0 < nl a := nl_lt fun j hj => by rw [show j = 0 by omega]; exact h
def qb (h n : Nat) : Nat := h + n * (2 * h + 5) + 1
theorem dv_bd {a b : ZX} (ha : Nf a) (hb : Nf b) (hd : dv b a) {h n : Nat} (hx : Bd 2 h n a.l) (hn : n + 1 ≤ 2 ^ h) : Bd 2 (qb h n) n b.l := by
 obtain ⟨w, _, e⟩ := ha.quo hb hd
 exact quo_bd ha.ne e hx hn
theorem qz_dv {a b : ZX} (ha : Nf a) (hb : Nf b) (h : dv b a) : dv (qz a b) a := by
 obtain ⟨_, h2⟩ := qz_spec ha hb h
 exact ⟨1, by decide, b, by rw [ZX.mul_comm' b, ← h2]; show (1 : ZX) * _ = _; grind⟩
theorem wz_dv_a {a : ZX} (ha : Nf a) (k : Nat) : dv (wz a k) a := (qz_dv (gs_Nf ha k) (gs_Nf ha (k + 1)) (gd_dv _)).trans (gs_dv a k)
theorem fz_dv_a {a : ZX} (ha : Nf a) (k : Nat) : dv (fz' a k) a := (qz_dv (wz_spec ha k).1 (wz_spec ha (k + 1)).1 (wz_dv ha k)).trans (wz_dv_a ha k)
theorem pf_dv_a {a : ZX} (ha : Nf a) (c : Nat → Bool) (k : Nat) : dv (pf a c k) a := (dv_iff_mu (pf_Nf ha c k).ne ha.ne).2 fun p hp => by
 rw [pf_mu ha hp]
 split <;> omega
end Go.Proofs.YtdiladmkbpnhoaaGreat
