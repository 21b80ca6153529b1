import Derived.Test.YtjnkpfknmncdmaaLbo
set_option linter.unusedSimpArgs false
set_option linter.unusedVariables false
namespace Go.Proofs.Ytjnkpfknmncdmaa
open Go Pm

/-! RATIONAL POLYNOMIALS AS WHOLE ONES OVER ONE NUMBER. -/
abbrev qd (x : List Int) (D : Int) : List Rat := x.map fun v => qmk v D
theorem qmk_div {v D : Int} (h : D ≠ 0) : qmk v D = (v : Rat) / (D : Rat) := by rw [qmk, if_neg h, Rat.divInt_eq_div]
theorem cast_ne {D : Int} (h : D ≠ 0) : (D : Rat) ≠ 0 := fun h2 => h (by exact_mod_cast h2)
theorem qmk_zero {D : Int} (h : D ≠ 0) : qmk 0 D = 0 := by rw [qmk_div h]; simp [Rat.div_def]
theorem qmk_eq_zero {v D : Int} (h : D ≠ 0) : qmk v D = 0 ↔ v = 0 := by
  constructor
  · intro h2
    rw [qmk_div h] at h2
    have h3 := cast_ne h
    have : (v : Rat) = 0 := by
      have h4 : (v : Rat) / (D : Rat) * D = 0 := by rw [h2]; grind
      rw [Rat.div_mul_cancel h3] at h4
      exact h4
    exact_mod_cast this
  · rintro rfl; exact qmk_zero h
theorem qmk_mul {v D l : Int} (h : D ≠ 0) (hl : l ≠ 0) : qmk (v * l) (D * l) = qmk v D := by
  rw [qmk_div h, qmk_div (Int.mul_ne_zero h hl), Rat.intCast_mul, Rat.intCast_mul]
  have h1 := cast_ne h
  have h2 := cast_ne hl
  grind
theorem qmk_add {v w D : Int} (h : D ≠ 0) : qmk v D + qmk w D = qmk (v + w) D := by
  rw [qmk_div h, qmk_div h, qmk_div h, Rat.intCast_add]
  have h1 := cast_ne h
  grind
theorem qmk_neg {v D : Int} (h : D ≠ 0) : qmk v D * (-1) = qmk (-v) D := by
  rw [qmk_div h, qmk_div h, Rat.intCast_neg]
  have h1 := cast_ne h
  grind
theorem qmk_cast {v w D : Int} (h : D ≠ 0) : (w : Rat) * qmk v D = qmk (w * v) D := by
  rw [qmk_div h, qmk_div h, Rat.intCast_mul]
  have h1 := cast_ne h
  grind
theorem qmk_quo {v D l : Int} (h : D ≠ 0) (hl : l ≠ 0) : qmk v D / (l : Rat) = qmk v (D * l) := by
  rw [qmk_div h, qmk_div (Int.mul_ne_zero h hl), Rat.intCast_mul]
  have h1 := cast_ne h
  have h2 := cast_ne hl
  grind
theorem cutQ_qd {D : Int} (h : D ≠ 0) : ∀ x : List Int, cutQ (qd x D) = qd (cutR x) D
  | [] => rfl
  | a :: x => by
    have ih := cutQ_qd h x
    simp only [qd, List.map_cons] at ih ⊢
    rw [cutQ, ih, cutR]
    by_cases h1 : cutR x = [] ∧ a = 0
    · simp [h1, qmk_zero h]
    · rw [if_neg h1, if_neg (by simpa [qmk_eq_zero h] using h1)]; simp
theorem nth_qd {D : Int} (h : D ≠ 0) (x : List Int) (k : Nat) : nth (qd x D) k = qmk (nth x k) D := nth_map (f := fun v => qmk v D) (qmk_zero h) x k
theorem addQ_qd {D : Int} (h : D ≠ 0) (x y : List Int) : addQ (qd x D) (qd y D) = qd (padd x y) D := by
  rw [addQ, padd, ← cutQ_qd h]
  congr 1
  simp only [qd, List.length_map, List.map_map]
  congr 1
  funext k
  simp only [Function.comp_apply]
  rw [show nth (List.map (fun v => qmk v D) x) k = _ from nth_qd h x k, show nth (List.map (fun v => qmk v D) y) k = _ from nth_qd h y k, qmk_add h]
theorem negQ_qd {D : Int} (h : D ≠ 0) (x : List Int) : scaleQ (qd x D) (-1) = qd (pneg x) D := by
  rw [scaleQ, pneg, ← cutQ_qd h]
  congr 1
  simp only [qd, List.map_map]
  congr 1
  funext k
  simp only [Function.comp_apply]
  exact qmk_neg h
theorem scaleQ_qd {D : Int} (h : D ≠ 0) (y : List Int) (v : Int) : scaleQ (qs y) (qmk v D) = qd (pscale y v) D := by
  rw [scaleQ, pscale, ← cutQ_qd h]
  congr 1
  simp only [qd, qs, List.map_map]
  congr 1
  funext k
  simp only [Function.comp_apply]
  exact qmk_cast h
theorem qd_mul {D l : Int} (h : D ≠ 0) (hl : l ≠ 0) (x : List Int) : qd (x.map (· * l)) (D * l) = qd x D := by
  simp only [qd, List.map_map]
  congr 1
  funext k
  simp only [Function.comp_apply]
  exact qmk_mul h hl
theorem qd_one (x : List Int) : qd x 1 = qs x := by
  simp only [qd, qs, qmk_one]
theorem ZR_qmk {v D : Int} {k : Nat} (h : D ≠ 0) (hv : sz 2 v ≤ k) (hD : sz 2 D ≤ k) : ZR k (qmk v D) := by
  refine ⟨Nat.le_trans (sz_mono (by decide) ?_) hv, Nat.le_trans (sz_mono (by decide) ?_) hD⟩
  · rw [qmk_num _ _ h]
    refine Nat.le_trans (Int.natAbs_ediv_le_natAbs _ _) ?_
    split <;> simp
  · rw [qmk_den _ _ h]
    refine Nat.le_trans (Int.natAbs_ediv_le_natAbs _ _) ?_
    split <;> simp
theorem QOK_qd {x : List Int} {D : Int} {k n : Nat} (h : D ≠ 0) (hx : Bd 2 k n x) (hD : sz 2 D ≤ k) (hk : k ≤ YY) (hn : n < 1099511627776) : QOK (qd x D) := ⟨fun q hq => by
  simp only [List.mem_map] at hq
  obtain ⟨v, hv, rfl⟩ := hq
  exact ZR_qmk h (Nat.le_trans (hx.sz v hv) hk) (Nat.le_trans hD hk), by have := hx.len; simp; omega⟩

/-- Quotient and remainder over the rationals: whole ones over a number. -/
structure DS where
  Q : List Int
  r : List Int
  D : Int
def dst (y : List Int) (σ : DS) : DS := ⟨(σ.Q.map (· * lead y)).set (σ.r.length - y.length) (lead σ.r), psr y (lead y) (lead σ.r) (σ.r.length - y.length) σ.r, σ.D * lead y⟩
def dms (y : List Int) : Nat → DS → DS
  | 0, σ => σ
  | n + 1, σ => if σ.r.length < y.length then σ else dms y n (dst y σ)
def dmd (x y : List Int) : DS := dms y (x.length + 1) ⟨List.replicate (psk x y) 0, x, 1⟩
theorem dst_len {y : List Int} {σ : DS} (hy : 0 < y.length) (h : y.length ≤ σ.r.length) : (dst y σ).r.length < σ.r.length := by
  have h1 := psr_len (b := y) (r := σ.r) (i := σ.r.length - y.length) hy (by omega)
  rw [show psx y σ.r (σ.r.length - y.length) = lead σ.r from by rw [psx, if_pos (by omega)]] at h1
  show (psr y (lead y) (lead σ.r) (σ.r.length - y.length) σ.r).length < _
  omega
theorem dms_end {y : List Int} {σ : DS} (h : σ.r.length < y.length) : ∀ n, dms y n σ = σ
  | 0 => rfl
  | n + 1 => by rw [dms, if_pos h]
structure DInv (x y : List Int) (σ : DS) : Prop where
  v : ∀ t, σ.D * V t x = V t σ.Q * V t y + V t σ.r
  z : ∀ j, j + y.length ≤ σ.r.length → nth σ.Q j = 0
  c : Cn σ.r
  d : σ.D ≠ 0
  q : σ.r.length + 1 ≤ σ.Q.length + y.length ∨ σ.r.length < y.length
theorem DInv.step {x y : List Int} {σ : DS} (cy : Cn y) (hy : 0 < y.length) (h : y.length ≤ σ.r.length) (hI : DInv x y σ) : DInv x y (dst y σ) := by
  have hl := lead_ne cy hy
  have hlt := dst_len hy h
  have hq := hI.q.resolve_right (by omega)
  have hk : σ.r.length - y.length < (σ.Q.map (· * lead y)).length := by simp; omega
  have h1 := psr_len (b := y) (r := σ.r) (i := σ.r.length - y.length) hy (by omega)
  rw [show psx y σ.r (σ.r.length - y.length) = lead σ.r from by rw [psx, if_pos (by omega)]] at h1
  refine ⟨fun t => ?_, fun j hj => ?_, Cn.psub _ _, Int.mul_ne_zero hI.d hl, ?_⟩
  · have h2 := hI.v t
    have h3 := V_set (b := t) (x := lead σ.r) hk
    have h4 : nth (σ.Q.map (· * lead y)) (σ.r.length - y.length) = 0 := by
      rw [nth_mapmul, hI.z _ (by omega)]; simp
    show σ.D * lead y * V t x = V t ((σ.Q.map (· * lead y)).set (σ.r.length - y.length) (lead σ.r)) * V t y + V t (psr y (lead y) (lead σ.r) (σ.r.length - y.length) σ.r)
    rw [h3, h4, V_mapmul, psr, V_psub, V_pmul, V_stp, V_pscale]
    have h5 : σ.D * lead y * V t x = lead y * (σ.D * V t x) := by grind
    rw [h5, h2]; grind
  · have hj : j + y.length ≤ (psr y (lead y) (lead σ.r) (σ.r.length - y.length) σ.r).length := hj
    show nth ((σ.Q.map (· * lead y)).set (σ.r.length - y.length) (lead σ.r)) j = 0
    rw [nth_set_ne (by omega), nth_mapmul, hI.z _ (by omega)]; simp
  · left
    have : (dst y σ).Q.length = σ.Q.length := by simp [dst]
    omega
theorem DInv.dms {x y : List Int} (cy : Cn y) (hy : 0 < y.length) : ∀ (n : Nat) (σ : DS), σ.r.length < n → DInv x y σ → DInv x y (dms y n σ) ∧ (Proofs.Ytjnkpfknmncdmaa.dms y n σ).r.length < y.length
  | 0, σ, h, _ => by omega
  | n + 1, σ, h, hI => by
    rw [Proofs.Ytjnkpfknmncdmaa.dms]
    split
    · rename_i h1; exact ⟨hI, h1⟩
    · rename_i h1
      exact DInv.dms cy hy n _ (by have := dst_len (σ := σ) hy (by omega); omega) (hI.step cy hy (by omega))
theorem DInv.start {x y : List Int} (cx : Cn x) : DInv x y ⟨List.replicate (psk x y) 0, x, 1⟩ := by
  refine ⟨fun t => ?_, fun j hj => ?_, cx, show (1 : Int) ≠ 0 by decide, ?_⟩
  · simp [V_rep]
  · rcases Nat.lt_or_ge j (psk x y) with h | h
    · rw [nth_eq (by simpa using h)]; simp
    · rw [nth_ge (by simpa using h)]; rfl
  · simp only [psk, List.length_replicate]; omega
theorem dmd_inv {x y : List Int} (cx : Cn x) (cy : Cn y) (hy : 0 < y.length) : DInv x y (dmd x y) ∧ (dmd x y).r.length < y.length := DInv.dms cy hy _ _ (Nat.lt_succ_self _) (DInv.start cx)
end Go.Proofs.Ytjnkpfknmncdmaa
