import Derived.Test.YtdiladmkbpnhoaaGreatLef
set_option linter.unusedSimpArgs false
set_option linter.unusedVariables false
namespace Go.Proofs.YtdiladmkbpnhoaaGreat
open Go Pm
def sgn (l : Int) : Int := if l < 0 then -1 else 1
theorem sgn_abs (l : Int) : sgn l * l = l.natAbs := by unfold sgn; split <;> omega
theorem sgn_sq (l : Int) : sgn l * sgn l = 1 := by unfold sgn; split <;> rfl
def rq1 (y x : List Int) : List Int := psr y (lead y).natAbs (sgn (lead y) * lead x) (x.length - y.length) x
def rqF (y x : List Int) (i : Nat) : Int := nth x i * ((lead y).natAbs : Int) - if x.length - y.length ≤ i then sgn (lead y) * lead x * nth y (i - (x.length - y.length)) else 0
theorem rq1_list {y x : List Int} (h : y.length ≤ x.length) : cutR ((List.range x.length).map (rqF y x)) = rq1 y x := by
 refine Cn.ext (Cn.cut _) (Cn.psub _ _) fun t => ?_
 unfold rq1
 rw [V_cutR, psr, V_psub, V_pscale, V_pmul, V_stp]
 obtain ⟨k, hk⟩ : ∃ k, x.length = k + y.length := ⟨x.length - y.length, by omega⟩
 have e1 : (List.range x.length).map (rqF y x) = (List.range x.length).map fun i => nth x i * ((lead y).natAbs : Int) + (-(if x.length - y.length ≤ i then sgn (lead y) * lead x * nth y (i - (x.length - y.length)) else 0)) := List.map_congr_left fun i _ => by unfold rqF; omega
 rw [e1, V_map_add, V_map_mul, V_range_nth (Nat.le_refl _)]
 generalize sgn (lead y) * lead x = T at *
 have e2 : ((List.range x.length).map fun i => -(if x.length - y.length ≤ i then T * nth y (i - (x.length - y.length)) else 0)) = List.replicate k 0 ++ y.map fun v => v * (-T) := by
  have hk2 : x.length - y.length = k := by omega
  rw [hk2, hk, List.range_add, List.map_append, List.map_map]
  congr 1
  ·rw [List.eq_replicate_iff]
   refine ⟨by simp, fun v hv => ?_⟩
   simp only [List.mem_map, List.mem_range] at hv
   obtain ⟨i, hi, rfl⟩ := hv
   rw [if_neg (by omega)]; rfl
  ·have h2 := range_nth (x := y) (n := y.length) (Nat.le_refl _)
   rw [Nat.sub_self, List.replicate_zero, List.append_nil] at h2
   conv => rhs; rw [← h2]
   rw [List.map_map]
   refine List.map_congr_left fun i _ => ?_
   simp only [Function.comp_apply]
   rw [if_pos (by omega), Nat.add_sub_cancel_left]; grind
 rw [e2, V_append, V_rep]
 have h3 := V_map_mul (t := t) (-T) id y
 simp only [id_eq, List.map_id_fun] at h3
 rw [h3, List.length_replicate, show x.length - y.length = k by omega]
 grind
theorem rq1_len {y x : List Int} (hy : 0 < y.length) (h : y.length ≤ x.length) : (rq1 y x).length < x.length := by
 have h1 := psr_len (b := y) (r := x) (i := x.length - y.length) hy (by omega)
 rw [show psx y x (x.length - y.length) = lead x from by rw [psx, if_pos (by omega)]] at h1
 have e : rq1 y x = pscale (psr y (lead y) (lead x) (x.length - y.length) x) (sgn (lead y)) := Cn.ext (Cn.psub _ _) (Cn.pscale _ _) fun t => by
  unfold rq1
  rw [V_pscale, psr, psr, V_psub, V_psub, V_pscale, V_pscale, V_pmul, V_pmul, V_stp, V_stp, ← sgn_abs]
  grind
 rw [e]
 have := pscale_len (psr y (lead y) (lead x) (x.length - y.length) x) (sgn (lead y))
 omega
theorem V_rq1 (t : Int) (y x : List Int) : ((lead y).natAbs : Int) * V t x = t ^ (x.length - y.length) * (sgn (lead y) * lead x) * V t y + V t (rq1 y x) := by
 unfold rq1
 rw [psr, V_psub, V_pscale, V_pmul, V_stp]; grind
def rq (y : List Int) : Nat → List Int → List Int
 | 0, x => x
 | n + 1, x => if x.length < y.length then x else rq y n (rq1 y x)
theorem rq_end {y x : List Int} (h : x.length < y.length) : ∀ n, rq y n x = x
 | 0 => rfl
 | n + 1 => by rw [rq, if_pos h]
theorem rq_spec {y : List Int} (cy : Cn y) (hy : 0 < y.length) : ∀ (n : Nat) (x : List Int), Cn x → x.length < n → Cn (rq y n x) ∧ (rq y n x).length < y.length ∧ ∃ (m : Int) (q : List Int), m ≠ 0 ∧ ∀ t, m * V t x = V t q * V t y + V t (rq y n x)
 | 0, x, _, h => by omega
 | n + 1, x, cx, h => by
  rw [rq]
  split
  ·rename_i h1
   exact ⟨cx, h1, 1, [], by decide, fun t => by simp [V]⟩
  ·rename_i h1
   have hl := rq1_len hy (show y.length ≤ x.length by omega)
   obtain ⟨h2, h3, m, q, hm, h4⟩ := rq_spec cy hy n (rq1 y x) (Cn.psub _ _) (by omega)
   have hl0 := lead_ne cy hy
   refine ⟨h2, h3, m * (lead y).natAbs, padd q (pscale (stp (x.length - y.length) (sgn (lead y) * lead x)) m), Int.mul_ne_zero hm (by omega), fun t => ?_⟩
   have h5 := V_rq1 t y x
   have h6 := h4 t
   rw [V_padd, V_pscale, V_stp]
   have : m * ((lead y).natAbs : Int) * V t x = m * (((lead y).natAbs : Int) * V t x) := by grind
   rw [this, h5]
   grind
theorem rq1_bd {s s' N : Nat} {y x : List Int} (by_ : Bd 2 s' N y) (bx : Bd 2 s N x) (hy : 0 < y.length) (h : y.length ≤ x.length) : Bd 2 (s + (s' + N + 1)) N (rq1 y x) := by
 have hl := rq1_len hy h
 have hlx := bx.len
 have hls : sz 2 ((lead y).natAbs : Int) ≤ s' := Nat.le_trans (sz_mono (by decide) (by rw [Int.natAbs_natCast]; exact Nat.le_refl _)) (lead_bd by_)
 have hlr : sz 2 (sgn (lead y) * lead x) ≤ s := Nat.le_trans (sz_mono (by decide) (by
  rw [Int.natAbs_mul]
  have : (sgn (lead y)).natAbs = 1 := by unfold sgn; split <;> rfl
  rw [this, Nat.one_mul]; exact Nat.le_refl _)) (lead_bd bx)
 have b1 : Bd 2 (s + s' + N) (max N (x.length - y.length + 1 + N)) (pscale x ((lead y).natAbs : Int)) := (bx.pscale (by decide) hls).mono (by omega) (by omega)
 have b2 : Bd 2 (s + s' + N) (max N (x.length - y.length + 1 + N)) (pmul (stp (x.length - y.length) (sgn (lead y) * lead x)) y) := ((Bd.stp hlr (x.length - y.length)).pmul (by decide) by_).mono (by omega) (by omega)
 exact ⟨by omega, fun c hc => by
  have h6 := (Bd.psub (by decide) b1 b2).sz c hc
  omega⟩
theorem rq_bd {s' N : Nat} {y : List Int} (by_ : Bd 2 s' N y) (hy : 0 < y.length) : ∀ (n j s : Nat) (x : List Int), Bd 2 s N x → x.length + 1 ≤ y.length + j → Bd 2 (s + j * (s' + N + 1)) N (rq y n x)
 | 0, j, s, x, bx, _ => bx.mono (by simp) (Nat.le_refl _)
 | n + 1, j, s, x, bx, hj => by
  rw [rq]
  split
  ·exact bx.mono (by simp) (Nat.le_refl _)
  ·rename_i h1
   obtain ⟨i, rfl⟩ : ∃ i, j = i + 1 := ⟨j - 1, by omega⟩
   have hl := rq1_len hy (show y.length ≤ x.length by omega)
   have := rq_bd by_ hy n i (s + (s' + N + 1)) (rq1 y x) (rq1_bd by_ bx hy (by omega)) (by omega)
   rw [Nat.add_mul, Nat.one_mul]
   exact this.mono (by omega) (Nat.le_refl _)
theorem RI_nat (n : Nat) : RI (n : Int) = .ag [sls i64e (dig DD n), .bool false] := by
 simp [show ¬ ((n : Int) < 0) by omega]
set_option maxHeartbeats 2000000 in
theorem qrest_ret {s s' N : Nat} {x0 y : List Int} (bx0 : Bd 2 s N x0) (by_ : Bd 2 s' N y) (cx0 : Cn x0) (cy : Cn y) (hy0 : 0 < y.length) (hN : N ≤ 1000) (hB : s + (x0.length + 1 - y.length + 1) * (s' + N + 1) < YY) :
  Ret env.P 163 [PI x0, PI y] (PI (rq y (x0.length + 1) x0)) := by
 have hlN := bx0.len
 have hNy := by_.len
 obtain ⟨R, hR⟩ : ∃ R, R = rq y (x0.length + 1) x0 := ⟨_, rfl⟩
 rw [← hR]
 obtain ⟨M, hM⟩ : ∃ M, M = s + (x0.length + 1 - y.length + 1) * (s' + N + 1) := ⟨_, rfl⟩
 rw [← hM] at hB
 have hB : M < 137438953472 := hB
 have hls : sz 2 ((lead y).natAbs : Int) ≤ s' := Nat.le_trans (sz_mono (by decide) (by rw [Int.natAbs_natCast]; exact Nat.le_refl _)) (lead_bd by_)
 have e2 : ((y.length : Int) - 1).toNat = y.length - 1 := by omega
 have hyl : nth y (y.length - 1) = lead y := rfl
 refine ret_of_Wf (E := env) (fun id => if id = 16 then 2 else 0) [(0, PI x0), (1, PI y)] Tryz.func163 rfl (by kernel_rfl) (by kernel_rfl) (show 2 ≤ 78 by decide) (by simp) ?_
 refine W.sreg (fun K hK => ?_); simp (disch := omega) [gA, wA]; refine W.lv [0, 1] hK fun J j => ?_; clear hK K; simp; refine j _ ?_; clear j J
 refine W.sreg (fun K hK => ?_); simp (disch := omega) [gA, wA, e2, hyl]; refine W.lv [0, 1, 5] hK fun J j => ?_; clear hK K; simp; refine j _ ?_; clear j J
 refine W.sreg (fun K hK => ?_); simp (disch := omega) [gA, wA]; refine W.lv [0, 1, 5, 6] hK fun J j => ?_; clear hK K; simp; refine j _ ?_; clear j J
 refine W.sreg (fun K hK => ?_); simp (disch := omega) [gA, wA]; refine W.lv [0, 1, 5, 6] hK fun J j => ?_; clear hK K; simp; refine j _ ?_; clear j J
 refine W.seq ?_
 refine W.block ?_
 refine W.loopG (fun n σ => ∃ (x : List Int) (j u : Nat) (rows : Pm.Rows) (clk : Nat), σ = ⟨fa [(0, PI x), (1, PI y), (5, .ptr 5 0 0 0), (6, .ptr 6 1 0 0)], rows, clk⟩ ∧
  rows 5 = some ⟨0, 41, 2, [[sls i64e (dig DD (lead y).natAbs), .bool (decide (lead y < 0))]]⟩ ∧ rows 6 = some ⟨1, 41, 2, [[sls i64e (dig DD (lead y).natAbs), .bool false]]⟩ ∧
  Cn x ∧ x.length < n ∧ rq y n x = R ∧ Bd 2 u N x ∧ x.length + 1 ≤ y.length + j ∧ u + (j + 1) * (s' + N + 1) ≤ M) (x0.length + 1) ?_ ?_
 ·exact ⟨_, .refl, x0, x0.length + 1 - y.length, s, _, _, rfl, by simp, by simp, cx0, by omega, hR.symm, bx0, by omega, by omega⟩
 rintro n _ ⟨x, j, u, rows, clk, rfl, hr5, hr6, cx, hxn, hxR, bx, hj, hu⟩
 have hlx := bx.len
 refine W.seq ?_
 refine W.sreg (fun K hK => ?_); simp (disch := omega) [gA, wA]; refine W.lv [0, 1, 5, 6, 25] hK fun J j => ?_; clear hK K; simp; refine j _ ?_; clear j J
 refine W.cond ⟨_, rfl, fun h => ?_, fun h => ?_⟩
 ·have h : y.length ≤ x.length := by simp at h; omega
  obtain ⟨n, rfl⟩ : ∃ m, n = m + 1 := ⟨n - 1, by omega⟩
  rw [rq, if_neg (by omega)] at hxR
  have hl2 := rq1_len hy0 h
  obtain ⟨k, hk⟩ : ∃ k, k = x.length - y.length := ⟨_, rfl⟩
  have hkI : (x.length : Int) - (y.length : Int) = k := by omega
  have e1 : ((x.length : Int) - 1).toNat = x.length - 1 := by omega
  have hxl : nth x (x.length - 1) = lead x := rfl
  have hlist := rq1_list h
  have b2 := rq1_bd by_ bx hy0 h
  have hlX : sz 2 (lead x) ≤ u := lead_bd bx
  have hu1 : u + (s' + N + 1) ≤ M := by
   have := Nat.le_mul_of_pos_left (s' + N + 1) (show 0 < j + 1 by omega)
   omega
  refine W.skip ?_
  refine W.block ?_
  refine W.sreg (fun K hK => ?_); simp (disch := omega) [gA, wA, hkI]; refine W.lv [0, 1, 5, 6, 7] hK fun J j => ?_; clear hK K; simp; refine j _ ?_; clear j J
  refine W.sreg (fun K hK => ?_); simp (disch := omega) [gA, wA, e1, hxl]; refine W.lv [0, 1, 5, 6, 7, 8] hK fun J j => ?_; clear hK K; simp; refine j _ ?_; clear j J
  obtain ⟨T, hT⟩ : ∃ T, T = sgn (lead y) * lead x := ⟨_, rfl⟩
  have hTs : sz 2 T ≤ u := Nat.le_trans (sz_mono (by decide) (by
   rw [hT, Int.natAbs_mul]
   have : (sgn (lead y)).natAbs = 1 := by unfold sgn; split <;> rfl
   rw [this, Nat.one_mul]; exact Nat.le_refl _)) hlX
  have hTp : (lead y < 0 → T = -lead x) ∧ (¬ lead y < 0 → T = lead x) := by
   rw [hT]; unfold sgn
   constructor
   ·intro h; rw [if_pos h]; omega
   ·intro h; rw [if_neg h]; omega
  refine W.seqJ (fun σ => ∃ (v : Nat) (rows : Pm.Rows) (clk : Nat), σ = ⟨fa [(0, PI x), (1, PI y), (5, .ptr 5 0 0 0), (6, .ptr 6 1 0 0), (7, .int .i64 k), (8, .ptr 8 v 0 0)], rows, clk⟩ ∧
   rows 5 = some ⟨0, 41, 2, [[sls i64e (dig DD (lead y).natAbs), .bool (decide (lead y < 0))]]⟩ ∧ rows 6 = some ⟨1, 41, 2, [[sls i64e (dig DD (lead y).natAbs), .bool false]]⟩ ∧
   rows 8 = some ⟨v, 41, 2, [[sls i64e (dig DD T.natAbs), .bool (decide (T < 0))]]⟩) ?_ ?_
  ·refine W.sreg (fun K hK => ?_); simp (disch := omega) [gA, wA, hr5]; refine W.lv [0, 1, 5, 6, 7, 8, 39] hK fun J j => ?_; clear hK K; simp; refine j _ ?_; clear j J
   refine W.cond ⟨_, rfl, fun h => ?_, fun h => ?_⟩
   ·have h : lead y < 0 := by simpa using h
    have hneg := rNeg_ret (lead x)
    rw [← hTp.1 h] at hneg
    refine W.reg (fun K hK => ?_)
    simp (disch := omega) [gA, wA]
    refine callR hneg ?_
    simp (disch := omega) [gA, wA]
    exact hK _ ⟨_, Gh_fa _ [0, 1, 5, 6, 7, 8], _, _, _, rfl, by simp [hr5], by simp [hr6], by simp⟩
   ·have h : ¬ lead y < 0 := by simpa using h
    rw [hTp.2 h]
    refine W.skip ?_
    exact ⟨_, Gh_fa _ [0, 1, 5, 6, 7, 8], _, _, _, rfl, by simp [hr5], by simp [hr6], by simp⟩
  clear hr5 hr6 rows clk
  rintro _ ⟨v8, rows, clk, rfl, hr5, hr6, hr8⟩
  refine W.sreg (fun K hK => ?_); simp (disch := omega) [gA, wA]; refine W.lv [0, 1, 5, 6, 7, 8, 9] hK fun J j => ?_; clear hK K; simp; refine j _ ?_; clear j J
  refine W.nil 9 9 43 4 (by simp) (by decide) (fun K hK => ?_)
  refine W.lv [0, 1, 5, 6, 7, 8, 9] hK fun J j => ?_; clear hK K; simp; refine j _ ?_; clear j J
  refine W.seq ?_
  refine W.sreg (fun K hK => ?_); simp (disch := omega) [gA, wA]; refine W.lv [0, 1, 5, 6, 7, 8, 9, 43, 44] hK fun J j => ?_; clear hK K; simp; refine j _ ?_; clear j J
  refine W.block ?_
  refine W.loopG (fun m σ => ∃ (i v9 : Nat) (rows : Pm.Rows) (clk : Nat), σ = ⟨fa [(0, PI x), (1, PI y), (5, .ptr 5 0 0 0), (6, .ptr 6 1 0 0), (7, .int .i64 k), (8, .ptr 8 v8 0 0), (9, .own 9 v9 0 i), (43, .int .i64 x.length), (44, .int .i64 i)], rows, clk⟩ ∧
   rows 5 = some ⟨0, 41, 2, [[sls i64e (dig DD (lead y).natAbs), .bool (decide (lead y < 0))]]⟩ ∧ rows 6 = some ⟨1, 41, 2, [[sls i64e (dig DD (lead y).natAbs), .bool false]]⟩ ∧
   rows 8 = some ⟨v8, 41, 2, [[sls i64e (dig DD T.natAbs), .bool (decide (T < 0))]]⟩ ∧ rows 9 = some ⟨v9, 43, 4, emap ri ((List.range i).map (rqF y x))⟩ ∧ i + m = x.length) x.length ?_ ?_
  ·exact ⟨_, Gh_fa _ [0, 1, 5, 6, 7, 8, 9, 43, 44], 0, _, _, _, rfl, by simp [hr5], by simp [hr6], by simp [hr8], by simp [emap], by omega⟩
  clear hr5 hr6 hr8 rows clk
  rintro m _ ⟨i, v9, rows, clk, rfl, hr5, hr6, hr8, hr9, him⟩
  have hil : ((List.range i).map (rqF y x)).length = i := by simp
  refine W.sreg (fun K hK => ?_); simp (disch := omega) [gA, wA]; refine W.lv [0, 1, 5, 6, 7, 8, 9, 43, 44, 45] hK fun J j => ?_; clear hK K; simp; refine j _ ?_; clear j J
  refine W.seq ?_
  refine W.cond ⟨_, rfl, fun h => ?_, fun h => ?_⟩
  ·have hi : i < x.length := by simp at h; omega
   have hxi := bx.nth i
   have m1 := rMul_ret (nth x i) ((lead y).natAbs : Int) (by show sz 2 _ < 1099511627776; omega) (by show sz 2 _ < 1099511627776; omega)
   rw [RI_nat] at m1
   have s1 : sz 2 (nth x i * ((lead y).natAbs : Int)) ≤ u + s' := sz_mul (by decide) hxi hls
   have er : (List.range (i + 1)).map (rqF y x) = (List.range i).map (rqF y x) ++ [rqF y x i] := by
    rw [List.range_succ, List.map_append]; rfl
   have hF : rqF y x i = nth x i * ((lead y).natAbs : Int) - if k ≤ i then T * nth y (i - k) else 0 := by unfold rqF; rw [hk, hT]
   generalize (List.range i).map (rqF y x) = acc at *
   generalize hP : nth x i * ((lead y).natAbs : Int) = P at *
   refine W.skip ?_
   refine W.seq ?_
   refine W.block ?_
   refine W.sreg (fun K hK => ?_); simp (disch := omega) [gA, wA]; refine W.lv [0, 1, 5, 6, 7, 8, 9, 10, 43, 44] hK fun J j => ?_; clear hK K; simp; refine j _ ?_; clear j J
   refine W.sdrw (fun K hK => ?_)
   simp (disch := omega) [gA, wA, hr6]
   refine callR m1 ?_
   simp (disch := omega) [gA, wA]
   rw [if_pos (by kernel_rfl)]
   simp (disch := omega) [gA, wA]
   refine W.lv [0, 1, 5, 6, 7, 8, 9, 10, 11, 43, 44] hK fun J j => ?_; clear hK K; simp; refine j _ ?_; clear j J
   generalize hQ : rqF y x i = Q at *
   have sQ : sz 2 Q ≤ u + (s' + N + 1) := by
    have hyi : sz 2 (nth y (i - k)) ≤ s' := by_.nth _
    rw [hF]
    split
    ·have := sz_mul (b := 2) (by decide) hTs hyi
     have h1 := sz_add (b := 2) (by decide) (x := P) (y := -(T * nth y (i - k))) (k := u + s') s1 (by rw [sz_neg]; exact this)
     rw [← Int.sub_eq_add_neg] at h1
     omega
    ·rw [Int.sub_zero]; omega
   refine W.seqJ (fun σ => ∃ (v11 : Nat) (rows : Pm.Rows) (clk : Nat), σ = ⟨fa [(0, PI x), (1, PI y), (5, .ptr 5 0 0 0), (6, .ptr 6 1 0 0), (7, .int .i64 k), (8, .ptr 8 v8 0 0), (9, .own 9 v9 0 i), (11, .ptr 11 v11 0 0), (43, .int .i64 x.length), (44, .int .i64 i)], rows, clk⟩ ∧
    rows 5 = some ⟨0, 41, 2, [[sls i64e (dig DD (lead y).natAbs), .bool (decide (lead y < 0))]]⟩ ∧ rows 6 = some ⟨1, 41, 2, [[sls i64e (dig DD (lead y).natAbs), .bool false]]⟩ ∧
    rows 8 = some ⟨v8, 41, 2, [[sls i64e (dig DD T.natAbs), .bool (decide (T < 0))]]⟩ ∧ rows 9 = some ⟨v9, 43, 4, emap ri acc⟩ ∧
    rows 11 = some ⟨v11, 41, 2, [[sls i64e (dig DD Q.natAbs), .bool (decide (Q < 0))]]⟩) ?_ ?_
   ·refine W.sreg (fun K hK => ?_); simp (disch := omega) [gA, wA]; refine W.lv [0, 1, 5, 6, 7, 8, 9, 10, 11, 43, 44, 56] hK fun J j => ?_; clear hK K; simp; refine j _ ?_; clear j J
    refine W.cond ⟨_, rfl, fun h => ?_, fun h => ?_⟩
    ·have hki : k ≤ i := by simp at h; omega
     rw [if_pos hki] at hF
     have eik : (i : Int) - (k : Int) = ((i - k : Nat) : Int) := by omega
     have hyb : i - k < y.length := by omega
     have m2 := rMul_ret T (nth y (i - k)) (by show sz 2 _ < 1099511627776; omega) (by have := by_.nth (i - k); show sz 2 _ < 1099511627776; omega)
     have s2 := sz_mul (b := 2) (by decide) hTs (by_.nth (i - k))
     have m3 := rSub_ret P (T * nth y (i - k)) (by show sz 2 _ < 1099511627776; omega) (by show sz 2 _ < 1099511627776; omega)
     rw [← hF] at m3
     generalize T * nth y (i - k) = P2 at *
     refine W.drw (fun K hK => ?_)
     simp (disch := omega) [gA, wA, hr8, eik]
     refine callR m2 ?_
     simp (disch := omega) [gA, wA]
     refine callR m3 ?_
     simp (disch := omega) [gA, wA]
     refine stepTxt (by kernel_rfl) ?_
     simp (disch := omega) [gA, wA]
     exact hK _ ⟨_, Gh_fa _ [0, 1, 5, 6, 7, 8, 9, 11, 43, 44], _, _, _, rfl, by simp [hr5], by simp [hr6], by simp [hr8], by simp [hr9], by simp⟩
    ·have hki : ¬ k ≤ i := by simp at h; omega
     rw [if_neg hki, Int.sub_zero] at hF
     rw [hF]
     refine W.skip ?_
     exact ⟨_, Gh_fa _ [0, 1, 5, 6, 7, 8, 9, 11, 43, 44], _, _, _, rfl, by simp [hr5], by simp [hr6], by simp [hr8], by simp [hr9], by simp⟩
   clear hr5 hr6 hr8 hr9 rows clk
   rintro _ ⟨v11, rows, clk, rfl, hr5, hr6, hr8, hr9, hr11⟩
   have o1 := rOf_ret 1 (by decide) (by decide)
   have mk := MakeI_ret Q (by show sz 2 Q < 549755813888; omega)
   refine W.drw (fun K hK => ?_)
   rw [if_pos rfl, pregion_tail]
   simp (disch := omega) [gA, wA, hr11]
   refine callR o1 ?_
   simp (disch := omega) [gA, wA]
   refine callR mk ?_
   simp (disch := omega) [gA, wA, hr9, hil]
   refine W.lv [0, 1, 5, 6, 7, 8, 9, 43, 44] hK fun J j => ?_; clear hK K; simp; refine j _ ?_; clear j J
   refine W.reg (fun K hK => ?_); simp (disch := omega) [gA, wA]
   refine hK _ ⟨m - 1, _, Gh_fa _ [0, 1, 5, 6, 7, 8, 9, 43, 44], by omega, i + 1, _, _, _, rfl, by simp [hr5], by simp [hr6], by simp [hr8], by rw [er]; simp, by omega⟩
  ·have hi : i = x.length := by simp at h; omega
   subst hi
   have hcl : ((List.range x.length).map (rqF y x)).length = x.length := by simp
   generalize (List.range x.length).map (rqF y x) = acc at *
   have ez := take_all hcl
   have hcut := qcutI_ret acc (by omega)
   rw [hlist] at hcut
   refine W.exit ?_; simp only [pX, if_true, if_false, reduceIte, Nat.reduceEqDiff]
   refine W.reg (fun K hK => ?_)
   simp (disch := omega) [gA, wA, hr9, ez]
   refine callR hcut ?_
   simp (disch := omega) [gA, wA]
   obtain ⟨j, rfl⟩ : ∃ i, j = i + 1 := ⟨j - 1, by omega⟩
   rw [Nat.add_mul, Nat.one_mul] at hu
   refine hK _ ⟨n, _, Gh_fa _ [0, 1, 5, 6], by omega, rq1 y x, j, u + (s' + N + 1), _, _, rfl, by simp [hr5], by simp [hr6], Cn.psub _ _, by omega, hxR, b2, by omega, by omega⟩
 ·have h : x.length < y.length := by simp at h; omega
  rw [rq_end h] at hxR
  subst hxR
  refine W.exit ?_; simp only [pX, if_true, if_false, reduceIte, Nat.reduceEqDiff]
  refine W.sreg (fun K hK => ?_); simp (disch := omega) [gA, wA]; refine W.lv [4] hK fun J j => ?_; clear hK K; simp; refine j _ ?_; clear j J
  refine W.ret ?_
  simp [go]
end Go.Proofs.YtdiladmkbpnhoaaGreat
