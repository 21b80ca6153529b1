import Derived.Test.YtjnkpfknmncdmaaMe
set_option linter.unusedSimpArgs false
set_option linter.unusedVariables false
namespace Pm

/-! DIVISION OF A MULTIPLE. -/
theorem psub_len (x y : List Int) : (psub x y).length ≤ max x.length y.length := Nat.le_trans (cutR_len _) (by simp)
theorem pscale_len (x : List Int) (c : Int) : (pscale x c).length ≤ x.length := Nat.le_trans (cutR_len _) (by simp)
/-- The highest coefficient. -/
def lead (x : List Int) : Int := nth x (x.length - 1)
theorem lead_split {x : List Int} (h : 0 < x.length) : x = x.take (x.length - 1) ++ [lead x] := by
  have := take_succ_nth (l := x) (i := x.length - 1) (by omega)
  rw [show x.length - 1 + 1 = x.length by omega, List.take_length] at this
  exact this
theorem lead_ne {x : List Int} (hc : Cn x) (h : 0 < x.length) : lead x ≠ 0 := by
  intro h0
  have e := lead_split h
  rw [h0] at e
  have h1 := cutR_zero (x.take (x.length - 1))
  rw [← e, show cutR x = x from hc] at h1
  have h2 := cutR_len (x.take (x.length - 1))
  rw [← h1, List.length_take] at h2
  omega
theorem V_lead {x : List Int} (h : 0 < x.length) (t : Int) : V t x = V t (x.take (x.length - 1)) + t ^ (x.length - 1) * lead x := by
  conv => lhs; rw [lead_split h]
  rw [V_append, V_one, List.length_take, Nat.min_eq_left (by omega)]
/-- x t^i. -/
def stp (i : Nat) (x : Int) : List Int := List.replicate i 0 ++ [x]
theorem V_stp (t : Int) (i : Nat) (x : Int) : V t (stp i x) = t ^ i * x := by rw [stp, V_append, V_rep, V_one]; simp
/-- What is taken away at t^(b's degree + i). -/
def psx (b r : List Int) (i : Nat) : Int := if r.length = b.length + i then lead r else 0
def psq (c x : Int) (i : Nat) (q : List Int) : List Int := padd (pscale q c) (stp i x)
def psr (b : List Int) (c x : Int) (i : Nat) (r : List Int) : List Int := psub (pscale r c) (pmul (stp i x) b)
def ps (b : List Int) (c : Int) : Nat → List Int → List Int → List Int × List Int
  | 0, q, r => (q, r)
  | i + 1, q, r => ps b c i (psq c (psx b r i) i q) (psr b c (psx b r i) i r)
theorem V_ps (t : Int) (b : List Int) (c : Int) : ∀ (k : Nat) (q r : List Int), V t (ps b c k q r).1 * V t b + V t (ps b c k q r).2 = c ^ k * (V t q * V t b + V t r)
  | 0, q, r => by simp [ps]
  | i + 1, q, r => by
    rw [ps, V_ps t b c i]
    simp only [psq, psr, V_padd, V_psub, V_pscale, V_pmul, V_stp, Int.pow_succ]
    grind
theorem psr_len {b r : List Int} {i : Nat} (hb : 0 < b.length) (hr : r.length ≤ b.length + i) : (psr b (lead b) (psx b r i) i r).length ≤ b.length - 1 + i := by
  rcases Nat.lt_or_ge r.length (b.length + i) with h | h
  · have hx : psx b r i = 0 := by rw [psx, if_neg (by omega)]
    have e : psr b (lead b) (psx b r i) i r = pscale r (lead b) := Cn.ext (Cn.psub _ _) (Cn.pscale _ _) fun t => by
      rw [hx, psr, V_psub, V_pmul, V_stp]; simp
    rw [e]
    have := pscale_len r (lead b); omega
  · have hrl : r.length = b.length + i := by omega
    have hx : psx b r i = lead r := by rw [psx, if_pos hrl]
    have e : psr b (lead b) (psx b r i) i r = psub (pscale (r.take (r.length - 1)) (lead b)) (List.replicate i 0 ++ (b.take (b.length - 1)).map fun v => v * lead r) := Cn.ext (Cn.psub _ _) (Cn.psub _ _) fun t => by
      have h1 := V_lead (x := r) (by omega) t
      have h2 := V_lead (x := b) hb t
      have h3 := V_map_mul (t := t) (lead r) id (b.take (b.length - 1))
      simp only [id_eq, List.map_id_fun] at h3
      rw [hx, psr, V_psub, V_psub, V_pmul, V_stp, V_pscale, V_pscale, V_append, V_rep, h3, List.length_replicate, h1, h2, show r.length - 1 = i + (b.length - 1) by omega, Int.pow_add]
      grind
    rw [e]
    refine Nat.le_trans (psub_len _ _) ?_
    have h4 := pscale_len (r.take (r.length - 1)) (lead b)
    rw [List.length_take] at h4
    simp only [List.length_append, List.length_replicate, List.length_map, List.length_take]
    omega
theorem ps_len {b : List Int} (hb : 0 < b.length) : ∀ (k : Nat) (q r : List Int), r.length ≤ b.length - 1 + k → (ps b (lead b) k q r).2.length ≤ b.length - 1
  | 0, q, r, h => by simpa [ps] using h
  | i + 1, q, r, h => by
    rw [ps]
    exact ps_len hb i _ _ (psr_len hb (by omega))
theorem ps_Cn {b : List Int} {c : Int} : ∀ (k : Nat) (q r : List Int), Cn q → Cn r → Cn (ps b c k q r).1 ∧ Cn (ps b c k q r).2
  | 0, q, r, h1, h2 => ⟨h1, h2⟩
  | i + 1, q, r, _, _ => by rw [ps]; exact ps_Cn i _ _ (Cn.padd _ _) (Cn.psub _ _)
theorem lead_bd {b s n : Nat} {x : List Int} (h : Bd b s n x) : sz b (lead x) ≤ s := h.nth _
theorem Bd.stp {b s : Nat} {x : Int} (h : Pm.sz b x ≤ s) (i : Nat) : Bd b s (i + 1) (Pm.stp i x) := ⟨by simp [Pm.stp], fun c hc => by
  simp only [Pm.stp, List.mem_append, List.mem_replicate, List.mem_singleton] at hc
  rcases hc with ⟨_, rfl⟩ | rfl
  · rw [sz_zero]; omega
  · exact h⟩
theorem psx_bd {b s n i : Nat} {y r : List Int} (h : Bd b s n r) : sz b (psx y r i) ≤ s := by
  rw [psx]; split
  · exact lead_bd h
  · rw [sz_zero]; omega
/-- How the sizes grow: at each step by as much as d. -/
theorem ps_step_bd {B s s' N i : Nat} {b q r : List Int} (hB : 2 ≤ B) (hb : Bd B s' N b) (hq : Bd B s (N + N) q) (hr : Bd B s (N + N) r) (hi : i < N) :
    Bd B (s + s' + N + 1) (N + N) (psq (lead b) (psx b r i) i q) ∧ Bd B (s + s' + N + 1) (N + N) (psr b (lead b) (psx b r i) i r) := by
  have hc := lead_bd hb
  have hx := psx_bd (y := b) (i := i) hr
  have hs := Bd.stp hx i
  constructor
  · exact (Bd.padd hB ((hq.pscale hB hc).mono (s' := s + s') (n' := N + N) (by omega) (by omega)) (hs.mono (by omega) (by omega))).mono (by omega) (by omega)
  · exact (Bd.psub hB ((hr.pscale hB hc).mono (s' := s + s' + N) (n' := N + N) (by omega) (by omega)) ((hs.pmul hB hb).mono (by omega) (by omega))).mono (by omega) (by omega)
theorem ps_bd {B s' N : Nat} {b : List Int} (hB : 2 ≤ B) (hb : Bd B s' N b) : ∀ (k s : Nat) (q r : List Int), k ≤ N → Bd B s (N + N) q → Bd B s (N + N) r → Bd B (s + k * (s' + N + 1)) (N + N) (ps b (lead b) k q r).1 ∧ Bd B (s + k * (s' + N + 1)) (N + N) (ps b (lead b) k q r).2
  | 0, s, q, r, _, hq, hr => ⟨hq.mono (by omega) (by omega), hr.mono (by omega) (by omega)⟩
  | i + 1, s, q, r, hk, hq, hr => by
    obtain ⟨h1, h2⟩ := ps_step_bd hB hb hq hr (show i < N by omega)
    obtain ⟨h3, h4⟩ := ps_bd hB hb i (s + s' + N + 1) _ _ (by omega) h1 h2
    rw [ps, Nat.add_mul, Nat.one_mul]
    exact ⟨h3.mono (by omega) (by omega), h4.mono (by omega) (by omega)⟩
/-- How many steps. -/
def psk (a b : List Int) : Nat := a.length + 1 - b.length
/-- Quotient and remainder of a multiple. -/
def pdm (a b : List Int) : List Int × List Int := ps b (lead b) (psk a b) [] a
theorem V_pdm (t : Int) (a b : List Int) : V t (pdm a b).1 * V t b + V t (pdm a b).2 = lead b ^ psk a b * V t a := by
  rw [pdm, V_ps]; simp [V]
theorem pdm_len {a b : List Int} (hb : 0 < b.length) : (pdm a b).2.length ≤ b.length - 1 := ps_len hb _ _ _ (by unfold psk; omega)
theorem pdm_Cn {a b : List Int} (ha : Cn a) : Cn (pdm a b).1 ∧ Cn (pdm a b).2 := ps_Cn _ _ _ Cn.nil ha
end Pm
