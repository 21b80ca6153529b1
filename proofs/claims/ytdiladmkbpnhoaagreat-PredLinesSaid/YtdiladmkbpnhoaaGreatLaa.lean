import Derived.Test.YtdiladmkbpnhoaaGreatLz
set_option linter.unusedSimpArgs false
set_option linter.unusedVariables false
namespace Go.Proofs.YtdiladmkbpnhoaaGreat
open Go Pm
def drow : Nat → List (List (List Int)) → List Int
 | 0, _ => [1]
 | n + 1, M => (List.range (n + 1)).foldl (fun d k => padd d (if k % 2 = 1 then pneg (pmul (nth (nth M 0) k) (drow n (mnrI 0 k M))) else pmul (nth (nth M 0) k) (drow n (mnrI 0 k M)))) []
structure EQ (s n : Nat) (M : List (List (List Int))) : Prop where
 ok : ∀ r ∈ M, ∀ x ∈ r, Bd 2 s n x
theorem EQ.nth {s n : Nat} {M : List (List (List Int))} (h : EQ s n M) (i k : Nat) : Bd 2 s n (nth (nth M i) k) := by
 by_cases hi : i < M.length
 ·by_cases hk : k < (Pm.nth M i).length
  ·exact h.ok _ (nth_mem hi) _ (nth_mem hk)
  ·rw [nth_ge (l := Pm.nth M i) (by omega)]; exact ⟨by show 0 ≤ n; omega, fun c hc => by cases hc⟩
 ·rw [nth_ge (l := M) (by omega)]; exact ⟨by show 0 ≤ n; omega, fun c hc => by cases hc⟩
theorem EQ.mnr {s n : Nat} {M : List (List (List Int))} (h : EQ s n M) (i k : Nat) : EQ s n (mnrI i k M) := ⟨fun r hr x hx => by
 simp only [mnrI, List.mem_map] at hr
 obtain ⟨r', hr', rfl⟩ := hr
 exact h.ok r' (List.mem_of_mem_eraseIdx hr') x (List.mem_of_mem_eraseIdx hx)⟩
theorem drow_step_bd {s n S N : Nat} (e : Nat → List Int) (f : Nat → List Int) (he : ∀ i, Bd 2 s n (e i)) (hf : ∀ i, Bd 2 S N (f i)) : ∀ j, Bd 2 (s + S + n + j) (n + N) ((List.range j).foldl (fun d i => padd d (if i % 2 = 1 then pneg (pmul (e i) (f i)) else pmul (e i) (f i))) [])
 | 0 => ⟨by simp, fun c hc => by cases hc⟩
 | j + 1 => by
  have ih := drow_step_bd e f he hf j
  have hp := (he j).pmul (by decide) (hf j)
  rw [List.range_succ, List.foldl_append]
  simp only [List.foldl_cons, List.foldl_nil]
  have hq : Bd 2 (s + S + n) (n + N) (if j % 2 = 1 then pneg (pmul (e j) (f j)) else pmul (e j) (f j)) := by
   split
   ·exact hp.pneg
   ·exact hp
  exact (Bd.padd (by decide) ih (hq.mono (by omega) (by omega))).mono (by omega) (by omega)
theorem drow_bd {s n : Nat} : ∀ (k : Nat) (M : List (List (List Int))), EQ s n M → k ≤ 4 → Bd 2 (k * (s + n + 4) + 1) (k * n + 1) (drow k M)
 | 0, M, _, _ => ⟨by simp [drow], fun c hc => by simp [drow] at hc; subst hc; exact Nat.le_trans (sz_le (k := 1) (by decide) (by decide)) (by omega)⟩
 | k + 1, M, h, h4 => by
  have := drow_step_bd (fun i => nth (nth M 0) i) (fun i => drow k (mnrI 0 i M)) (fun i => h.nth 0 i) (fun i => drow_bd k (mnrI 0 i M) (h.mnr 0 i) (by omega)) (k + 1)
  rw [drow]
  refine this.mono ?_ ?_
  ·rw [Nat.add_mul k 1]; omega
  ·rw [Nat.add_mul k 1]; omega
theorem bdY {s n : Nat} {x : List Int} (h : Bd 2 s n x) (hs : s ≤ 137438953472) (hn : n ≤ 1099511627775) : Bd 2 YY 1099511627775 x := h.mono hs hn
abbrev ev (t : Int) (M : List (List (List Int))) : List (List Int) := M.map fun r => r.map (V t)
theorem nth_ev (t : Int) (M : List (List (List Int))) (i k : Nat) : nth (nth (ev t M) i) k = V t (nth (nth M i) k) := by
 have h1 : nth (ev t M) i = (nth M i).map (V t) := nth_map (f := fun r : List (List Int) => r.map (V t)) rfl M i
 rw [h1]
 exact nth_map (f := V t) rfl _ _
theorem ev_mnr (t : Int) (M : List (List (List Int))) (i k : Nat) : ev t (mnrI i k M) = mnrI i k (ev t M) := by
 simp only [ev, mnrI, eraseIdx_map, List.map_map]
 congr 1
 funext r
 simp only [Function.comp_apply, eraseIdx_map]
theorem V_drow (t : Int) : ∀ (k : Nat) (M : List (List (List Int))), V t (drow k M) = dR k (ev t M)
 | 0, _ => by simp [drow, dR, V]
 | k + 1, M => by
  have key : ∀ j, V t ((List.range j).foldl (fun d i => padd d (if i % 2 = 1 then pneg (pmul (nth (nth M 0) i) (drow k (mnrI 0 i M))) else pmul (nth (nth M 0) i) (drow k (mnrI 0 i M)))) []) = (List.range j).foldl (fun d i => d + if i % 2 = 1 then -(nth (nth (ev t M) 0) i * dR k (mnrI 0 i (ev t M))) else nth (nth (ev t M) 0) i * dR k (mnrI 0 i (ev t M))) 0 := by
   intro j
   induction j with
   | zero => simp [V]
   | succ j ih =>
    rw [List.range_succ, List.foldl_append, List.foldl_append]
    simp only [List.foldl_cons, List.foldl_nil]
    rw [V_padd, ih, nth_ev, ← ev_mnr, ← V_drow t k]
    split
    ·rw [V_pneg, V_pmul]
    ·rw [V_pmul]
  rw [drow, dR, key]
theorem V_dcol (t : Int) : ∀ (k : Nat) (M : List (List (List Int))), M.length = k → V t (dcol k M) = dC k (ev t M)
 | 0, _, _ => by simp [dcol, dC, V]
 | k + 1, M, hM => by
  have key : ∀ j, j ≤ k + 1 → V t ((List.range j).foldl (fun d i => if nth (nth M i) 0 = [] then d else if i % 2 = 0 then padd d (pmul (nth (nth M i) 0) (dcol k (mnrI i 0 M))) else psub d (pmul (nth (nth M i) 0) (dcol k (mnrI i 0 M)))) []) = (List.range j).foldl (fun d i => if i % 2 = 0 then d + nth (nth (ev t M) i) 0 * dC k (mnrI i 0 (ev t M)) else d - nth (nth (ev t M) i) 0 * dC k (mnrI i 0 (ev t M))) 0 := by
   intro j
   induction j with
   | zero => intro _; simp [V]
   | succ j ih =>
    intro hj
    rw [List.range_succ, List.foldl_append, List.foldl_append]
    simp only [List.foldl_cons, List.foldl_nil]
    rw [nth_ev, ← ev_mnr, ← V_dcol t k (mnrI j 0 M) (by simp only [mnrI, List.length_map]; rw [List.length_eraseIdx_of_lt (by omega)]; omega), ← ih (by omega)]
    by_cases h0 : nth (nth M j) 0 = []
    ·simp [h0, V]
    ·rw [if_neg h0]
     split
     ·rw [V_padd, V_pmul]
     ·rw [V_psub, V_pmul]
  rw [dcol, dC, hM, key _ (Nat.le_refl _)]
theorem Cn_one : Cn [1] := by show cutR [1] = [1]; decide
theorem Cn_dcol : ∀ (k : Nat) (M : List (List (List Int))), Cn (dcol k M)
 | 0, _ => Cn_one
 | k + 1, M => by
  have key : ∀ j, Cn ((List.range j).foldl (fun d i => if nth (nth M i) 0 = [] then d else if i % 2 = 0 then padd d (pmul (nth (nth M i) 0) (dcol k (mnrI i 0 M))) else psub d (pmul (nth (nth M i) 0) (dcol k (mnrI i 0 M)))) []) := by
   intro j
   induction j with
   | zero => exact Cn.nil
   | succ j ih =>
    rw [List.range_succ, List.foldl_append]
    simp only [List.foldl_cons, List.foldl_nil]
    split
    ·exact ih
    ·split
     ·exact Cn.padd _ _
     ·exact Cn.psub _ _
  rw [dcol]; exact key _
theorem Cn_drow : ∀ (k : Nat) (M : List (List (List Int))), Cn (drow k M)
 | 0, _ => Cn_one
 | k + 1, M => by
  rw [drow, List.range_succ, List.foldl_append]
  exact Cn.padd _ _
theorem Sq_ev {k : Nat} {M : List (List (List Int))} (h1 : M.length = k) (h2 : ∀ r ∈ M, r.length = k) (t : Int) : Sq k (ev t M) := ⟨by simp [h1], fun r hr => by
 simp only [ev, List.mem_map] at hr
 obtain ⟨r', hr', rfl⟩ := hr
 simp [h2 r' hr']⟩
theorem dcol_drow {k : Nat} {M : List (List (List Int))} (h1 : M.length = k) (h2 : ∀ r ∈ M, r.length = k) (hk : k ≤ 4) : dcol k M = drow k M := by
 refine (Cn_dcol k M).ext (Cn_drow k M) fun t => ?_
 rw [V_dcol t k M h1, V_drow t k M, dC_dR (Sq_ev h1 h2 t) hk]
end Go.Proofs.YtdiladmkbpnhoaaGreat
