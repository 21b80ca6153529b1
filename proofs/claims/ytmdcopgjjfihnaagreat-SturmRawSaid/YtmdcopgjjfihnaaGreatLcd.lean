import Derived.Test.YtmdcopgjjfihnaaGreatLcc
set_option linter.unusedSimpArgs false
set_option linter.unusedVariables false
namespace Go.Proofs.YtmdcopgjjfihnaaGreat
open Go Pm

theorem exs_sound {y : List Int} : ∀ (i : Nat) (q a q' a' : List Int), (∀ j, j < i → nth q j = 0) → i ≤ q.length → exs y i q a = some (q', a') → ∀ t, V t q' * V t y + V t a' = V t q * V t y + V t a
  | 0, q, a, q', a', _, _, h, t => by
    simp only [exs, Option.some.injEq, Prod.mk.injEq] at h
    rw [h.1, h.2]
  | i + 1, q, a, q', a', h0, hi, h, t => by
    rw [exs] at h
    split at h
    · exact exs_sound i q a q' a' (fun j hj => h0 j (by omega)) (by omega) h t
    · split at h
      · have h1 := exs_sound i _ _ q' a' (fun j hj => by rw [nth_set_ne (by omega)]; exact h0 j (by omega)) (by simp; omega) h t
        rw [h1, V_set (by omega), h0 i (by omega), V_psub, V_pmul, V_stp]
        grind
      · cases h
theorem exact_some {x y q : List Int} (h : exact x y = some q) : Cn q ∧ ∀ t, V t x = V t q * V t y := by
  unfold exact at h
  cases hx : exs y (psk x y) (List.replicate (psk x y) 0) x with
  | none => rw [hx] at h; cases h
  | some z =>
    obtain ⟨q', a'⟩ := z
    rw [hx] at h
    cases a' with
    | cons c l => cases h
    | nil =>
      simp only [exF, Option.some.injEq] at h
      subst h
      refine ⟨Cn.cut _, fun t => ?_⟩
      have := exs_sound _ _ _ _ _ (fun j hj => by rw [nth_eq (by simpa using hj)]; simp) (by simp) hx t
      rw [V_rep] at this
      rw [V_cutR]
      have h0 : V t ([] : List Int) = 0 := rfl
      rw [h0] at this
      omega
theorem dmd_some {x y q : List Int} (cx : Cn x) (cy : Cn y) (hy : 0 < y.length) (cq : Cn q) (h : ∀ t, V t x = V t q * V t y) : qd (cutR (dmd x y).Q) (dmd x y).D = qs q ∧ (dmd x y).r = [] := by
  obtain ⟨hI, hr⟩ := dmd_inv cx cy hy
  generalize dmd x y = σ at *
  have hv := hI.v
  have e : ∀ t, V t σ.r = V t y * V t (psub (q.map (· * σ.D)) σ.Q) := fun t => by
    have h1 := hv t
    rw [h] at h1
    rw [V_psub, V_mapmul]
    grind
  have h1 := mul_small hI.c cy hy e hr
  have h2 : cutR (psub (q.map (· * σ.D)) σ.Q) = [] := mul_zero_cut cy hy fun t => by rw [← e, h1]; rfl
  have e2 : cutR σ.Q = q.map (· * σ.D) := Cn.ext (Cn.cut _) (Cn_map_mul cq hI.d) fun t => by rw [V_cutR]; exact (V_eq_cut h2 t).symm
  rw [e2]
  exact ⟨qd_mapmul hI.d q, h1⟩
theorem den_one {q : Rat} (h : q.den = 1) : q = (q.num : Rat) := by
  refine Rat.ext ?_ ?_
  · rw [Rat.num_intCast]
  · rw [Rat.den_intCast, h]
theorem dms_Ql (y : List Int) : ∀ (n : Nat) (σ : DS), (dms y n σ).Q.length = σ.Q.length
  | 0, _ => rfl
  | n + 1, σ => by
    rw [dms]
    split
    · rfl
    · rw [dms_Ql y n]; simp [dst]
theorem dmd_Ql (x y : List Int) : (dmd x y).Q.length = psk x y := by rw [dmd, dms_Ql]; simp
theorem dmd_none {x y : List Int} (cx : Cn x) (cy : Cn y) (hy : 0 < y.length) (h : exact x y = none) (hr : (dmd x y).r = []) (hd : ∀ q ∈ qd (cutR (dmd x y).Q) (dmd x y).D, q.den = 1) : False := by
  obtain ⟨hI, _⟩ := dmd_inv cx cy hy
  generalize dmd x y = σ at *
  have hD := hI.d
  have hv := hI.v
  obtain ⟨w, hw⟩ : ∃ w : List Int, w.map (· * σ.D) = cutR σ.Q := by
    refine ⟨(cutR σ.Q).map fun v => (qmk v σ.D).num, ?_⟩
    rw [List.map_map]
    conv => rhs; rw [← List.map_id (cutR σ.Q)]
    refine List.map_congr_left fun v hv => ?_
    have h1 := den_one (hd (qmk v σ.D) (List.mem_map.2 ⟨v, hv, rfl⟩))
    simp only [Function.comp_apply, id_eq]
    generalize (qmk v σ.D).num = n at *
    rw [qmk_div hD] at h1
    have h2 := cast_ne hD
    have h3 : (v : Rat) = (n : Rat) * (σ.D : Rat) := by
      have h4 : (v : Rat) / (σ.D : Rat) * σ.D = n * σ.D := by rw [h1]
      rwa [Rat.div_mul_cancel h2] at h4
    exact_mod_cast h3.symm
  have e : x = pmul (cutR w) y := Cn.ext cx (Cn.pmul _ _) fun t => by
    have h1 := hv t
    rw [hr, ← V_cutR σ.Q, ← hw, V_mapmul] at h1
    have h0 : V t ([] : List Int) = 0 := rfl
    rw [h0] at h1
    rw [V_pmul, V_cutR]
    exact Int.eq_of_mul_eq_mul_left hD (by grind)
  have := exact_back (Cn.cut w) cy hy
  rw [← e, h] at this
  cases this

theorem exs_bd {y : List Int} {s' N : Nat} (hy : Bd 2 s' N y) : ∀ (i s : Nat) (q a q' a' : List Int), i ≤ N → (∀ c ∈ q, sz 2 c ≤ s) → Bd 2 s (N + N) a → exs y i q a = some (q', a') → ∀ c ∈ q', sz 2 c ≤ s + i * (s' + N + 1)
  | 0, s, q, a, q', a', _, hq, _, h => fun c hc => by
    simp only [exs, Option.some.injEq, Prod.mk.injEq] at h
    rw [← h.1] at hc
    have := hq c hc; omega
  | i + 1, s, q, a, q', a', hi, hq, ha, h => fun c hc => by
    rw [exs] at h
    split at h
    · have := exs_bd hy i s q a q' a' (by omega) hq ha h c hc
      rw [Nat.add_mul]; omega
    · split at h
      · have hv : sz 2 (lead a / lead y) ≤ s := Nat.le_trans (sz_mono (by decide) (Int.natAbs_ediv_le_natAbs _ _)) (lead_bd ha)
        have h1 : Bd 2 (s + s' + N) (N + N) (pmul (stp i (lead a / lead y)) y) := ((Bd.stp hv i).pmul (by decide) hy).mono (by omega) (by omega)
        have h2 : Bd 2 (s + (s' + N + 1)) (N + N) (psub a (pmul (stp i (lead a / lead y)) y)) := (Bd.psub (by decide) (ha.mono (show s ≤ s + s' + N by omega) (Nat.le_refl _)) h1).mono (by omega) (Nat.le_refl _)
        have := exs_bd hy i (s + (s' + N + 1)) _ _ q' a' (by omega) (fun d hd => by
          rcases List.mem_or_eq_of_mem_set hd with h3 | h3
          · have := hq d h3; omega
          · rw [h3]; omega) h2 h c hc
        rw [Nat.add_mul]; omega
      · cases h
theorem exact_sz {x y q : List Int} {s s' N : Nat} (hx : Bd 2 s N x) (hy : Bd 2 s' N y) (hy0 : 0 < y.length) (h : exact x y = some q) : ∀ c ∈ q, sz 2 c ≤ s + N * (s' + N + 1) := fun c hc => by
  unfold exact at h
  have hk : psk x y ≤ N := by have := hx.len; unfold psk; omega
  cases hz : exs y (psk x y) (List.replicate (psk x y) 0) x with
  | none => rw [hz] at h; cases h
  | some z =>
    obtain ⟨q', a'⟩ := z
    rw [hz] at h
    cases a' with
    | cons d l => cases h
    | nil =>
      simp only [exF, Option.some.injEq] at h
      subst h
      have := exs_bd hy _ s _ _ _ _ hk (fun d hd => by rw [(List.mem_replicate.1 hd).2, sz_zero]; omega) (hx.mono (Nat.le_refl _) (by omega)) hz c (cutR_sub _ _ hc)
      have h2 : psk x y * (s' + N + 1) ≤ N * (s' + N + 1) := Nat.mul_le_mul_right _ hk
      omega

end Go.Proofs.YtmdcopgjjfihnaaGreat
