import Derived.Test.YtmdcopgjjfihnaaGreatLea
set_option linter.unusedSimpArgs false
set_option linter.unusedVariables false
namespace Go.Proofs.YtmdcopgjjfihnaaGreat
open Go Pm
open ZX hiding N W

/-! LAYERS AND FACTORS. -/
open Classical in
/-- The quotient of normal ones that comes out even. -/
noncomputable def qz (a b : ZX) : ZX := if h : ∃ w, Nf w ∧ a = w * b then h.choose else 0
theorem qz_spec {a b : ZX} (ha : Nf a) (hb : Nf b) (h : dv b a) : Nf (qz a b) ∧ a = qz a b * b := by
  have h := ha.quo hb h
  unfold qz
  rw [dif_pos h]
  exact h.choose_spec
theorem qz_eq {a b w : ZX} (hb : Nf b) (hw : Nf w) (e : a = w * b) : qz a b = w := by
  have ha : Nf a := by rw [e]; exact hw.mul hb
  obtain ⟨h1, h2⟩ := qz_spec ha hb ⟨1, by decide, w, by rw [e]; show (1 : ZX) * _ = _; grind⟩
  refine ZX.cancel hb.ne ?_
  have : qz a b * b = w * b := by rw [← h2, e]
  grind
theorem qz_exact {a b : ZX} (ha : Nf a) (hb : Nf b) (h : dv b a) : exact a.l b.l = some (qz a b).l := Nf.exact hb (qz_spec ha hb h).2
theorem qz_mu {a b p : ZX} (ha : Nf a) (hb : Nf b) (h : dv b a) (hp : Irr p) : mu p (qz a b) = mu p a - mu p b := by
  obtain ⟨h1, h2⟩ := qz_spec ha hb h
  have h3 : mu p a = mu p (qz a b) + mu p b := by
    conv => lhs; rw [h2]
    exact mu_mul hp h1.ne hb.ne
  omega
theorem Nf.self {a : ZX} (ha : Nf a) : qz a a = 1 := qz_eq ha Nf.one (by grind)
theorem Nf.qone {a : ZX} (ha : Nf a) : qz a 1 = a := qz_eq Nf.one ha (by grind)

/-- What stands once more at least. -/
noncomputable def gd (a : ZX) : ZX := gz a (der a)
theorem gd_Nf {a : ZX} (ha : a ≠ 0) : Nf (gd a) := gz_Nf (.inl ha)
theorem gd_dv (a : ZX) : dv (gd a) a := (gz_isG a (der a)).l
theorem gd_mu {a p : ZX} (ha : a ≠ 0) (hp : Irr p) : mu p (gd a) = mu p a - 1 := (gz_isG a (der a)).mu_der ha hp
theorem gd_N {a : ZX} (h : 2 ≤ ZX.N a) : ZX.N (gd a) < ZX.N a := by
  have h1 := (gz_isG a (der a)).r.N_le (der_ne h)
  have h2 := N_der a
  have : ZX.N (gd a) = ZX.N (gz a (der a)) := rfl
  omega
theorem gd_one : gd 1 = 1 := by
  unfold gd
  rw [der_one, gz_zero, Nf.one.nfe]
noncomputable def gs (a : ZX) : Nat → ZX
  | 0 => a
  | k + 1 => gd (gs a k)
theorem gs_Nf {a : ZX} (ha : Nf a) : ∀ k, Nf (gs a k)
  | 0 => ha
  | k + 1 => gd_Nf (gs_Nf ha k).ne
theorem gs_dv (a : ZX) : ∀ k, dv (gs a k) a
  | 0 => dv.refl a
  | k + 1 => (gd_dv _).trans (gs_dv a k)
theorem gs_mu {a p : ZX} (ha : Nf a) (hp : Irr p) : ∀ k, mu p (gs a k) = mu p a - k
  | 0 => rfl
  | k + 1 => by
    show mu p (gd (gs a k)) = _
    rw [gd_mu (gs_Nf ha k).ne hp, gs_mu ha hp k]; omega
theorem gs_N {a : ZX} : ∀ k, ZX.N (gs a k) ≤ 1 ∨ ZX.N (gs a k) + k ≤ ZX.N a
  | 0 => .inr (Nat.le_refl _)
  | k + 1 => by
    rcases gs_N (a := a) k with h | h
    · left
      show ZX.N (gz (gs a k) (der (gs a k))) ≤ 1
      by_cases h0 : gs a k = 0
      · rw [h0, show der (0 : ZX) = 0 from ZX.ext fun t => rfl, gz_zero, nf_zero]; decide
      · exact Nat.le_trans ((gz_isG _ _).l.N_le h0) h
    · rcases Nat.lt_or_ge (ZX.N (gs a k)) 2 with h2 | h2
      · left
        show ZX.N (gz (gs a k) (der (gs a k))) ≤ 1
        by_cases h0 : gs a k = 0
        · rw [h0, show der (0 : ZX) = 0 from ZX.ext fun t => rfl, gz_zero, nf_zero]; decide
        · exact Nat.le_trans ((gz_isG _ _).l.N_le h0) (by omega)
      · right
        have := gd_N h2
        show ZX.N (gd (gs a k)) + (k + 1) ≤ _
        omega
open Classical in
/-- How many layers there are. -/
noncomputable def nl (a : ZX) : Nat := if h : ∃ m, ZX.N (gs a m) ≤ 1 ∧ ∀ k, k < m → 2 ≤ ZX.N (gs a k) then h.choose else 0
theorem nl_spec (a : ZX) : ZX.N (gs a (nl a)) ≤ 1 ∧ ∀ k, k < nl a → 2 ≤ ZX.N (gs a k) := by
  have h : ∃ m, ZX.N (gs a m) ≤ 1 ∧ ∀ k, k < m → 2 ≤ ZX.N (gs a k) := by
    have key : ∀ n, (∃ m, m ≤ n ∧ ZX.N (gs a m) ≤ 1 ∧ ∀ k, k < m → 2 ≤ ZX.N (gs a k)) ∨ ∀ k, k ≤ n → 2 ≤ ZX.N (gs a k) := by
      intro n
      induction n with
      | zero =>
        rcases Nat.lt_or_ge (ZX.N (gs a 0)) 2 with h | h
        · exact .inl ⟨0, Nat.le_refl _, by omega, fun k hk => by omega⟩
        · exact .inr fun k hk => by rw [show k = 0 by omega]; exact h
      | succ n ih =>
        rcases ih with ⟨m, h1, h2⟩ | ih
        · exact .inl ⟨m, by omega, h2⟩
        · rcases Nat.lt_or_ge (ZX.N (gs a (n + 1))) 2 with h | h
          · exact .inl ⟨n + 1, Nat.le_refl _, by omega, fun k hk => ih k (by omega)⟩
          · refine .inr fun k hk => ?_
            rcases Nat.lt_or_ge k (n + 1) with h3 | h3
            · exact ih k (by omega)
            · rw [show k = n + 1 by omega]; exact h
    rcases key (ZX.N a) with ⟨m, _, h⟩ | h
    · exact ⟨m, h⟩
    · have h1 := h (ZX.N a) (Nat.le_refl _)
      rcases gs_N (a := a) (ZX.N a) with h2 | h2 <;> omega
  unfold nl
  rw [dif_pos h]
  exact h.choose_spec
theorem nl_le (a : ZX) : nl a ≤ ZX.N a := by
  rcases Nat.eq_zero_or_pos (nl a) with h | h
  · omega
  · have h1 := (nl_spec a).2 (nl a - 1) (by omega)
    rcases gs_N (a := a) (nl a - 1) with h2 | h2 <;> omega
theorem nl_lt {a : ZX} {k : Nat} (h : ∀ j, j ≤ k → 2 ≤ ZX.N (gs a j)) : k < nl a := by
  rcases Nat.lt_or_ge k (nl a) with h1 | h1
  · exact h1
  · have := h _ h1
    have := (nl_spec a).1
    omega
theorem gs_nl {a : ZX} (ha : Nf a) : ∀ j, gs a (nl a + j) = 1
  | 0 => (gs_Nf ha _).N1 (nl_spec a).1
  | j + 1 => by
    show gd (gs a (nl a + j)) = 1
    rw [gs_nl ha j, gd_one]
noncomputable def wz (a : ZX) (k : Nat) : ZX := qz (gs a k) (gs a (k + 1))
theorem wz_spec {a : ZX} (ha : Nf a) (k : Nat) : Nf (wz a k) ∧ gs a k = wz a k * gs a (k + 1) := qz_spec (gs_Nf ha k) (gs_Nf ha (k + 1)) (gd_dv _)
theorem wz_mu {a p : ZX} (ha : Nf a) (hp : Irr p) (k : Nat) : mu p (wz a k) = if k < mu p a then 1 else 0 := by
  rw [wz, qz_mu (gs_Nf ha k) (gs_Nf ha (k + 1)) (gd_dv _) hp, gs_mu ha hp, gs_mu ha hp]
  split <;> omega
theorem wz_nl {a : ZX} (ha : Nf a) (j : Nat) : wz a (nl a + j) = 1 := by
  rw [wz, gs_nl ha j, Nat.add_assoc, gs_nl ha (j + 1), Nf.one.self]
theorem wz_dv {a : ZX} (ha : Nf a) (k : Nat) : dv (wz a (k + 1)) (wz a k) := (dv_iff_mu (wz_spec ha _).1.ne (wz_spec ha _).1.ne).2 fun p hp => by
  rw [wz_mu ha hp, wz_mu ha hp]
  split <;> split <;> omega
/-- What stands just k + 1 times. -/
noncomputable def fz' (a : ZX) (k : Nat) : ZX := qz (wz a k) (wz a (k + 1))
theorem fz_spec {a : ZX} (ha : Nf a) (k : Nat) : Nf (fz' a k) ∧ wz a k = fz' a k * wz a (k + 1) := qz_spec (wz_spec ha k).1 (wz_spec ha (k + 1)).1 (wz_dv ha k)
theorem fz_mu {a p : ZX} (ha : Nf a) (hp : Irr p) (k : Nat) : mu p (fz' a k) = if mu p a = k + 1 then 1 else 0 := by
  rw [fz', qz_mu (wz_spec ha k).1 (wz_spec ha (k + 1)).1 (wz_dv ha k) hp, wz_mu ha hp, wz_mu ha hp]
  split <;> split <;> split <;> omega
theorem fz_last {a : ZX} (ha : Nf a) {k : Nat} (h : k + 1 = nl a) : fz' a k = wz a k := by
  rw [fz', h, show nl a = nl a + 0 from rfl, wz_nl ha 0, (wz_spec ha k).1.qone]
noncomputable def fl (a : ZX) : List ZX := (List.range (nl a)).map (fz' a)
theorem fl_len (a : ZX) : (fl a).length = nl a := by simp [fl]
theorem mu_lt_nl {a p : ZX} (ha : Nf a) (hp : Irr p) : mu p a ≤ nl a := by
  have h := gs_mu ha hp (nl a)
  have h1 := gs_nl ha 0
  rw [Nat.add_zero] at h1
  rw [h1, mu_one hp] at h
  omega
/-- The product of the first ones that are chosen. -/
noncomputable def pf (a : ZX) (c : Nat → Bool) : Nat → ZX
  | 0 => 1
  | k + 1 => if c k then pf a c k * fz' a k else pf a c k
theorem pf_Nf {a : ZX} (ha : Nf a) (c : Nat → Bool) : ∀ k, Nf (pf a c k)
  | 0 => Nf.one
  | k + 1 => by
    rw [pf]
    split
    · exact (pf_Nf ha c k).mul (fz_spec ha k).1
    · exact pf_Nf ha c k
theorem pf_mu {a p : ZX} (ha : Nf a) (hp : Irr p) (c : Nat → Bool) : ∀ k, mu p (pf a c k) = if 1 ≤ mu p a ∧ mu p a ≤ k ∧ c (mu p a - 1) = true then 1 else 0
  | 0 => by
    rw [pf, mu_one hp, if_neg (by omega)]
  | k + 1 => by
    have ih := pf_mu ha hp c k
    have hf := fz_mu ha hp k
    rw [pf]
    by_cases hc : c k = true
    · rw [if_pos hc, mu_mul hp (pf_Nf ha c k).ne (fz_spec ha k).1.ne, ih, hf]
      by_cases h1 : mu p a = k + 1
      · rw [if_pos h1, h1, Nat.add_sub_cancel, if_neg (by omega), if_pos ⟨by omega, Nat.le_refl _, hc⟩]
      · rw [if_neg h1]
        by_cases h2 : 1 ≤ mu p a ∧ mu p a ≤ k ∧ c (mu p a - 1) = true
        · rw [if_pos h2, if_pos ⟨h2.1, by omega, h2.2.2⟩]
        · rw [if_neg h2, if_neg (fun h3 => h2 ⟨h3.1, by omega, h3.2.2⟩)]
    · rw [if_neg hc, ih]
      by_cases h1 : mu p a = k + 1
      · rw [h1, Nat.add_sub_cancel, if_neg (by omega), if_neg (fun h3 => hc h3.2.2)]
      · by_cases h2 : 1 ≤ mu p a ∧ mu p a ≤ k ∧ c (mu p a - 1) = true
        · rw [if_pos h2, if_pos ⟨h2.1, by omega, h2.2.2⟩]
        · rw [if_neg h2, if_neg (fun h3 => h2 ⟨h3.1, by omega, h3.2.2⟩)]
/-- What stands an odd number of times; the squarefree part. -/
noncomputable def oz (a : ZX) : ZX := pf a (fun k => k % 2 == 0) (nl a)
noncomputable def sz' (a : ZX) : ZX := wz a 0
theorem oz_Nf {a : ZX} (ha : Nf a) : Nf (oz a) := pf_Nf ha _ _
theorem sz_Nf {a : ZX} (ha : Nf a) : Nf (sz' a) := (wz_spec ha 0).1
theorem oz_mu {a p : ZX} (ha : Nf a) (hp : Irr p) : mu p (oz a) = mu p a % 2 := by
  have h := mu_lt_nl ha hp
  rw [oz, pf_mu ha hp]
  by_cases h1 : 1 ≤ mu p a ∧ mu p a ≤ nl a ∧ ((mu p a - 1) % 2 == 0) = true
  · rw [if_pos h1]
    have := h1.2.2
    simp only [beq_iff_eq] at this
    omega
  · rw [if_neg h1]
    simp only [beq_iff_eq] at h1
    omega
theorem sz_mu {a p : ZX} (ha : Nf a) (hp : Irr p) : mu p (sz' a) = min (mu p a) 1 := by
  rw [sz', wz_mu ha hp]
  split <;> omega
theorem pf_all {a : ZX} (ha : Nf a) : pf a (fun _ => true) (nl a) = sz' a := Nf.eq_of_mu (pf_Nf ha _ _) (sz_Nf ha) fun p hp => by
  have h := mu_lt_nl ha hp
  rw [pf_mu ha hp, sz_mu ha hp]
  by_cases h1 : 1 ≤ mu p a
  · rw [if_pos ⟨h1, h, rfl⟩]; omega
  · rw [if_neg (fun h2 => h1 h2.1)]; omega
theorem nl_small {a : ZX} (h : ZX.N a ≤ 1) : nl a = 0 := by
  rcases Nat.eq_zero_or_pos (nl a) with h1 | h1
  · exact h1
  · have := (nl_spec a).2 0 h1
    have : ZX.N (gs a 0) = ZX.N a := rfl
    omega
theorem nl_pos {a : ZX} (h : 2 ≤ ZX.N a) : 0 < nl a := nl_lt fun j hj => by rw [show j = 0 by omega]; exact h
/-- Sizes: all of these divide. -/
def qb (h n : Nat) : Nat := h + n * (2 * h + 5) + 1
theorem dv_bd {a b : ZX} (ha : Nf a) (hb : Nf b) (hd : dv b a) {h n : Nat} (hx : Bd 2 h n a.l) (hn : n + 1 ≤ 2 ^ h) : Bd 2 (qb h n) n b.l := by
  obtain ⟨w, _, e⟩ := ha.quo hb hd
  exact quo_bd ha.ne e hx hn
theorem qz_dv {a b : ZX} (ha : Nf a) (hb : Nf b) (h : dv b a) : dv (qz a b) a := by
  obtain ⟨_, h2⟩ := qz_spec ha hb h
  exact ⟨1, by decide, b, by rw [ZX.mul_comm' b, ← h2]; show (1 : ZX) * _ = _; grind⟩
theorem wz_dv_a {a : ZX} (ha : Nf a) (k : Nat) : dv (wz a k) a := (qz_dv (gs_Nf ha k) (gs_Nf ha (k + 1)) (gd_dv _)).trans (gs_dv a k)
theorem fz_dv_a {a : ZX} (ha : Nf a) (k : Nat) : dv (fz' a k) a := (qz_dv (wz_spec ha k).1 (wz_spec ha (k + 1)).1 (wz_dv ha k)).trans (wz_dv_a ha k)
theorem pf_dv_a {a : ZX} (ha : Nf a) (c : Nat → Bool) (k : Nat) : dv (pf a c k) a := (dv_iff_mu (pf_Nf ha c k).ne ha.ne).2 fun p hp => by
  rw [pf_mu ha hp]
  split <;> omega
end Go.Proofs.YtmdcopgjjfihnaaGreat
