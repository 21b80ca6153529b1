import Derived.Test.YtdiladmkbpnhoaaGreatLad
set_option linter.unusedSimpArgs false
set_option linter.unusedVariables false
namespace Go.Proofs.YtdiladmkbpnhoaaGreat
open Go Pm
theorem pmul_cfs2 (x : List Int) (p : RP) : pmul x (p.map gv) = pmul x (cfs p) := Cn.ext (Cn.pmul _ _) (Cn.pmul _ _) fun t => by simp [V_pmul, cfs, V_cutR]
theorem pMulH_ret {x : List Int} {b : RP} {s s' n n' : Nat} (hb : POK b) (hs : Bd LL s n x) (hs' : Bd LL s' n' (b.map gv)) (hB : s + s' + n + n' < 1099511627775) : Ret env.P 46 [Po x, Pg b] (Po (pmul x (cfs b))) := by
 have := pMul_ret (x.map rw') b (PB.of hs (by omega) (by omega)).pok hb s s' n n' (by rwa [map_gv_rw]) hs' (by omega)
 rw [map_gv_rw, ← Po_eq, pmul_cfs2] at this
 exact this
theorem MOK.okM {s N n : Nat} {M : List (List RP)} (h : MOK s N M) (hl : M.length = n) (h4 : n ≤ 4) : okM M := ⟨h.sq, by omega⟩
theorem MOK.det {s N n : Nat} {M : List (List RP)} (h : MOK s N M) (hl : M.length = n) (h4 : n ≤ 4) (hs : s < 1073741824) (hN : N < 1073741824) : Ret env.P 87 [sls me M] (.tup [Po (dcol n (mv M)), .int .i64 0]) := by
 have := Det_ret hs hN M (by omega) (fun r hr => ⟨by rw [h.sq r hr]; omega, h.ok r hr⟩)
 rw [if_pos (h.okM hl h4), hl] at this
 exact this
theorem mtx_MOK {l : List RP} (hl : ∀ p ∈ l, InP p) (n : Nat) : MOK 1 3 (mtx l n n) := ⟨fun r hr => by rw [(mtx_row hr).1, mtx_len], fun r hr p hp => by
 have h := (mtx_row hr).2 hl p hp
 exact ⟨h.pok (by decide) (by decide), h.bd⟩⟩
theorem MOK.nth {s N : Nat} {M : List (List RP)} (h : MOK s N M) {i k : Nat} (hi : i < M.length) (hk : k < M.length) : POK (Pm.nth (Pm.nth M i) k) ∧ Bd LL s N ((Pm.nth (Pm.nth M i) k).map gv) := h.ok _ (nth_mem hi) _ (nth_mem (by rw [h.sq _ (nth_mem hi)]; exact hk))
theorem MOK.eb {s N : Nat} {M : List (List RP)} (h : MOK s N M) : EB s N (mv M) := EB.mv fun r hr p hp => (h.ok r hr p hp).2
theorem MOK.sqI {s N n : Nat} {M : List (List RP)} (h : MOK s N M) (hl : M.length = n) (t : Int) : Sq n (ev t (mv M)) := Sq_ev (by rw [mv_len, hl]) (mv_row (by rw [← hl]; exact h.sq)) t
def exT (n i : Nat) (M : List (List RP)) (k : Nat) : List Int := if (i + k) % 2 = 1 then pneg (pmul (dcol (n - 1) (mnrI i k (mv M))) (cfs (nth (nth M i) k))) else pmul (dcol (n - 1) (mnrI i k (mv M))) (cfs (nth (nth M i) k))
def exS (n i : Nat) (M : List (List RP)) (j : Nat) : List Int := (List.range j).foldl (fun s k => padd s (exT n i M k)) []
theorem exS_succ (n i : Nat) (M : List (List RP)) (j : Nat) : exS n i M (j + 1) = padd (exS n i M j) (exT n i M j) := by
 simp only [exS, List.range_succ, List.foldl_append, List.foldl_cons, List.foldl_nil]
theorem exP_bd {n i k : Nat} {M : List (List RP)} (h : MOK 1 3 M) (hl : M.length = n) (h4 : n ≤ 4) : Bd LL 33 13 (dcol (n - 1) (mnrI i k (mv M))) := by
 have := dcol_bd (n - 1) (mnrI i k (mv M)) (h.eb.mnr i k) (by simp only [mnrI, List.length_map]; have := List.length_eraseIdx_le (mv M) i; rw [mv_len] at this; omega)
 refine this.mono ?_ ?_
 ·have := Nat.mul_le_mul_right (1 + 3 + 4) (show n - 1 ≤ 3 by omega); omega
 ·have := Nat.mul_le_mul_right 3 (show n - 1 ≤ 3 by omega); omega
theorem exQ_bd {n i k : Nat} {M : List (List RP)} (h : MOK 1 3 M) (hl : M.length = n) (h4 : n ≤ 4) (hi : i < n) (hk : k < n) : Bd LL 47 16 (pmul (dcol (n - 1) (mnrI i k (mv M))) (cfs (nth (nth M i) k))) :=
 ((exP_bd h hl h4).pmul hLL (h.nth (by omega) (by omega)).2.cut).mono (by omega) (by omega)
theorem exT_bd {n i k : Nat} {M : List (List RP)} (h : MOK 1 3 M) (hl : M.length = n) (h4 : n ≤ 4) (hi : i < n) (hk : k < n) : Bd LL 47 16 (exT n i M k) := by
 rw [exT]; split
 ·exact (exQ_bd h hl h4 hi hk).pneg
 ·exact exQ_bd h hl h4 hi hk
theorem exS_bd {n i : Nat} {M : List (List RP)} (h : MOK 1 3 M) (hl : M.length = n) (h4 : n ≤ 4) (hi : i < n) : ∀ j, j ≤ n → Bd LL (47 + j) 16 (exS n i M j)
 | 0, _ => ⟨by simp [exS], fun c hc => by simp [exS] at hc⟩
 | j + 1, hj => by
  rw [exS_succ]
  exact ((exS_bd h hl h4 hi j (by omega)).padd hLL ((exT_bd h hl h4 hi (by omega)).mono (by omega) (by omega))).mono (by omega) (by omega)
theorem V_exT (t : Int) {n i k : Nat} {M : List (List RP)} (hl : M.length = n) (hi : i < n) : V t (exT n i M k) = if (i + k) % 2 = 1 then -(dC (n - 1) (mnrI i k (ev t (mv M))) * nth (nth (ev t (mv M)) i) k) else dC (n - 1) (mnrI i k (ev t (mv M))) * nth (nth (ev t (mv M)) i) k := by
 have h1 : V t (pmul (dcol (n - 1) (mnrI i k (mv M))) (cfs (nth (nth M i) k))) = dC (n - 1) (mnrI i k (ev t (mv M))) * nth (nth (ev t (mv M)) i) k := by
  rw [V_pmul, V_dcol t (n - 1) _ (by simp only [mnrI, List.length_map]; rw [List.length_eraseIdx_of_lt (by rw [mv_len]; omega), mv_len]; omega), ev_mnr, nth_ev, nth_mv]
 rw [exT]; split
 ·rw [V_pneg, h1]
 ·rw [h1]
theorem exS_eq {n i : Nat} {M : List (List RP)} (h : MOK 1 3 M) (hl : M.length = n) (h4 : n ≤ 4) (hi : i < n) : exS n i M n = dcol n (mv M) := by
 refine Cn.ext ?_ (Cn_dcol n _) fun t => ?_
 ·obtain ⟨m, rfl⟩ : ∃ m, n = m + 1 := ⟨n - 1, by omega⟩
  rw [exS_succ]; exact Cn.padd _ _
 ·rw [V_dcol t n _ (by rw [mv_len, hl]), ← dC_expand (h.sqI hl t) h4 hi]
  have key : ∀ j, V t (exS n i M j) = (List.range j).foldl (fun s k => s + if (i + k) % 2 = 1 then -(dC (n - 1) (mnrI i k (ev t (mv M))) * nth (nth (ev t (mv M)) i) k) else dC (n - 1) (mnrI i k (ev t (mv M))) * nth (nth (ev t (mv M)) i) k) 0 := by
   intro j
   induction j with
   | zero => simp [exS, V]
   | succ j ih =>
    rw [exS_succ, V_padd, ih, V_exT t hl hi, List.range_succ, List.foldl_append]
    rfl
  exact key n
end Go.Proofs.YtdiladmkbpnhoaaGreat
