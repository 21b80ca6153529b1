import Derived.Test.YtbbjgncblhfegaaGreatRah
import Derived.Test.YtbbjgncblhfegaaGreatRak
import Derived.Test.YtbbjgncblhfegaaGreatRam
set_option linter.unusedSimpArgs false
set_option linter.unusedVariables false
namespace Go.Proofs.YtbbjgncblhfegaaGreat
open Go Pm
def uL (l : Int) : Int := if l < 0 then -1 else 1
theorem aeg (l : Int) : uL l * l = l.natAbs := by unfold uL; split <;> omega
def Q7 (y x : List Int) : List Int := uI y (lead y).natAbs (uL (lead y) * lead x) (x.length - y.length) x
def Q8 (y x : List Int) (i : Nat) : Int := nth x i * ((lead y).natAbs : Int) - if x.length - y.length ≤ i then uL (lead y) * lead x * nth y (i - (x.length - y.length)) else 0
theorem aaA {y x : List Int} (h : y.length ≤ x.length) : aM ((List.range x.length).map (Q8 y x)) = Q7 y x := by
 refine Cn.ext (Cn.cut _) (Cn.dW _ _) fun t => ?_
 unfold Q7
 rw [b9, uI, gO, bT, cL, lY]
 obtain ⟨k, hk⟩ : ∃ k, x.length = k + y.length := ⟨x.length - y.length, by omega⟩
 have e1 : (List.range x.length).map (Q8 y x) = (List.range x.length).map fun i => nth x i * ((lead y).natAbs : Int) + (-(if x.length - y.length ≤ i then uL (lead y) * lead x * nth y (i - (x.length - y.length)) else 0)) := List.map_congr_left fun i _ => by unfold Q8; omega
 rw [e1, p8, fK, iO (Nat.le_refl _)]
 generalize uL (lead y) * lead x = T at *
 have e2 : ((List.range x.length).map fun i => -(if x.length - y.length ≤ i then T * nth y (i - (x.length - y.length)) else 0)) = List.replicate k 0 ++ y.map fun v => v * (-T) := by
  have hk2 : x.length - y.length = k := by omega
  rw [hk2, hk, List.range_add, List.map_append, List.map_map]
  congr 1
  ·rw [List.eq_replicate_iff]
   refine ⟨by simp, fun v hv => ?_⟩
   simp only [List.mem_map, List.mem_range] at hv
   obtain ⟨i, hi, rfl⟩ := hv
   rw [if_neg (by omega)]; rfl
  ·have h2 := mW (x := y) (n := y.length) (Nat.le_refl _)
   rw [Nat.sub_self, List.replicate_zero, List.append_nil] at h2
   conv => rhs; rw [← h2]
   rw [List.map_map]
   refine List.map_congr_left fun i _ => ?_
   simp only [Function.comp_apply]
   rw [if_pos (by omega), Nat.add_sub_cancel_left]; grind
 rw [e2, dD, oD]
 have h3 := fK (t := t) (-T) id y
 simp only [id_eq, List.map_id_fun] at h3
 rw [h3, List.length_replicate, show x.length - y.length = k by omega]
 grind
theorem qI {y x : List Int} (hy : 0 < y.length) (h : y.length ≤ x.length) : (Q7 y x).length < x.length := by
 have h1 := xL (b := y) (r := x) (i := x.length - y.length) hy (by omega)
 rw [show s5 y x (x.length - y.length) = lead x from by rw [s5, if_pos (by omega)]] at h1
 have e : Q7 y x = aV (uI y (lead y) (lead x) (x.length - y.length) x) (uL (lead y)) := Cn.ext (Cn.dW _ _) (Cn.aV _ _) fun t => by
  unfold Q7
  rw [bT, uI, uI, gO, gO, bT, bT, cL, cL, lY, lY, ← aeg]
  grind
 rw [e]
 have := nT (uI y (lead y) (lead x) (x.length - y.length) x) (uL (lead y))
 omega
theorem aaB (t : Int) (y x : List Int) : ((lead y).natAbs : Int) * V t x = t ^ (x.length - y.length) * (uL (lead y) * lead x) * V t y + V t (Q7 y x) := by
 unfold Q7
 rw [uI, gO, bT, cL, lY]; grind
def rq (y : List Int) : Nat → List Int → List Int
 | 0, x => x
 | n + 1, x => if x.length < y.length then x else rq y n (Q7 y x)
theorem ajB {y x : List Int} (h : x.length < y.length) : ∀ n, rq y n x = x
 | 0 => rfl
 | n + 1 => by rw [rq, if_pos h]
theorem Q9 {y : List Int} (cy : Cn y) (hy : 0 < y.length) : ∀ (n : Nat) (x : List Int), Cn x → x.length < n → Cn (rq y n x) ∧ (rq y n x).length < y.length ∧ ∃ (m : Int) (q : List Int), m ≠ 0 ∧ ∀ t, m * V t x = V t q * V t y + V t (rq y n x)
 | 0, x, _, h => by omega
 | n + 1, x, cx, h => by
  rw [rq]
  split
  ·rename_i h1
   exact ⟨cx, h1, 1, [], by decide, fun t => by simp [V]⟩
  ·rename_i h1
   have hl := qI hy (show y.length ≤ x.length by omega)
   obtain ⟨h2, h3, m, q, hm, h4⟩ := Q9 cy hy n (Q7 y x) (Cn.dW _ _) (by omega)
   have vP := cB cy hy
   refine ⟨h2, h3, m * (lead y).natAbs, fX q (aV (oK (x.length - y.length) (uL (lead y) * lead x)) m), Int.mul_ne_zero hm (by omega), fun t => ?_⟩
   have h5 := aaB t y x
   have h6 := h4 t
   rw [pB, bT, lY]
   have : m * ((lead y).natAbs : Int) * V t x = m * (((lead y).natAbs : Int) * V t x) := by grind
   rw [this, h5]
   grind
theorem NT {s s' N : Nat} {y x : List Int} (qH : Bd 2 s' N y) (bx : Bd 2 s N x) (hy : 0 < y.length) (h : y.length ≤ x.length) : Bd 2 (s + (s' + N + 1)) N (Q7 y x) := by
 have hl := qI hy h
 have hlx := bx.len
 have hls : sz 2 ((lead y).natAbs : Int) ≤ s' := Nat.le_trans (cA (by decide) (by rw [Int.natAbs_natCast]; exact Nat.le_refl _)) (eP qH)
 have hlr : sz 2 (uL (lead y) * lead x) ≤ s := Nat.le_trans (cA (by decide) (by
  rw [Int.natAbs_mul]
  have : (uL (lead y)).natAbs = 1 := by unfold uL; split <;> rfl
  rw [this, Nat.one_mul]; exact Nat.le_refl _)) (eP bx)
 have b1 : Bd 2 (s + s' + N) (max N (x.length - y.length + 1 + N)) (aV x ((lead y).natAbs : Int)) := (bx.aV (by decide) hls).mono (by omega) (by omega)
 have b2 : Bd 2 (s + s' + N) (max N (x.length - y.length + 1 + N)) (bH (oK (x.length - y.length) (uL (lead y) * lead x)) y) := ((Bd.oK hlr (x.length - y.length)).bH (by decide) qH).mono (by omega) (by omega)
 exact ⟨by omega, fun c hc => by
  have h6 := (Bd.dW (by decide) b1 b2).sz c hc
  omega⟩
theorem agG {s' N : Nat} {y : List Int} (qH : Bd 2 s' N y) (hy : 0 < y.length) : ∀ (n j s : Nat) (x : List Int), Bd 2 s N x → x.length + 1 ≤ y.length + j → Bd 2 (s + j * (s' + N + 1)) N (rq y n x)
 | 0, j, s, x, bx, _ => bx.mono (by simp) (Nat.le_refl _)
 | n + 1, j, s, x, bx, hj => by
  rw [rq]
  split
  ·exact bx.mono (by simp) (Nat.le_refl _)
  ·rename_i h1
   obtain ⟨i, rfl⟩ : ∃ i, j = i + 1 := ⟨j - 1, by omega⟩
   have hl := qI hy (show y.length ≤ x.length by omega)
   have := agG qH hy n i (s + (s' + N + 1)) (Q7 y x) (NT qH bx hy (by omega)) (by omega)
   rw [Nat.add_mul, Nat.one_mul]
   exact this.mono (by omega) (Nat.le_refl _)
theorem ajC (n : Nat) : RI (n : Int) = .ag [aI aD (aR DD n), .bool false] := by
 simp [show ¬ ((n : Int) < 0) by omega]
set_option maxHeartbeats 2000000 in
theorem DM {s s' N : Nat} {x0 y : List Int} (bx0 : Bd 2 s N x0) (qH : Bd 2 s' N y) (cx0 : Cn x0) (cy : Cn y) (MY : 0 < y.length) (hN : N ≤ 1000) (hB : s + (x0.length + 1 - y.length + 1) * (s' + N + 1) < YY) :
  aK env.P 127 [PI x0, PI y] (PI (rq y (x0.length + 1) x0)) := by
 have hlN := bx0.len
 have hNy := qH.len
 obtain ⟨R, hR⟩ : ∃ R, R = rq y (x0.length + 1) x0 := ⟨_, rfl⟩
 rw [← hR]
 obtain ⟨M, hM⟩ : ∃ M, M = s + (x0.length + 1 - y.length + 1) * (s' + N + 1) := ⟨_, rfl⟩
 rw [← hM] at hB
 have hB : M < 137438953472 := hB
 have hls : sz 2 ((lead y).natAbs : Int) ≤ s' := Nat.le_trans (cA (by decide) (by rw [Int.natAbs_natCast]; exact Nat.le_refl _)) (eP qH)
 have e2 : ((y.length : Int) - 1).toNat = y.length - 1 := by omega
 have K2 : nth y (y.length - 1) = lead y := rfl
 refine aB (E := env) (fun id => if id = 16 then 2 else 0) [(0, PI x0), (1, PI y)] Tryz.func127 rfl (by kernel_rfl) (by kernel_rfl) (show 2 ≤ 78 by decide) (by simp) ?_
 refine W.sr ?_; simp (disch := omega) [gw]; refine W.lx [0, 1] ?_; simp
 refine W.sr ?_; simp (disch := omega) [gw, e2, K2]; refine W.lx [0, 1, 5] ?_; simp
 refine W.sr ?_; simp (disch := omega) [gw]; refine W.lx [0, 1, 5, 6] ?_; simp
 refine W.sr ?_; simp (disch := omega) [gw]; refine W.lx [0, 1, 5, 6] ?_; simp
 refine W.seq ?_
 refine W.block ?_
 refine W.a8 (fun n σ => ∃ (x : List Int) (j u : Nat) (rows : Pm.Rows) (clk : Nat), σ = ⟨fa [(0, PI x), (1, PI y), (5, .ptr 5 0 0 0), (6, .ptr 6 1 0 0)], rows, clk⟩ ∧
  rows 5 = some ⟨0, 48, 2, [[aI aD (aR DD (lead y).natAbs), .bool (decide (lead y < 0))]]⟩ ∧ rows 6 = some ⟨1, 48, 2, [[aI aD (aR DD (lead y).natAbs), .bool false]]⟩ ∧
  Cn x ∧ x.length < n ∧ rq y n x = R ∧ Bd 2 u N x ∧ x.length + 1 ≤ y.length + j ∧ u + (j + 1) * (s' + N + 1) ≤ M) (x0.length + 1) ?_ ?_
 ·exact ⟨_, .refl, x0, x0.length + 1 - y.length, s, _, _, rfl, by simp, by simp, cx0, by omega, hR.symm, bx0, by omega, by omega⟩
 rintro n _ ⟨x, j, u, rows, clk, rfl, lZ, tK, cx, hxn, hxR, bx, hj, hu⟩
 have hlx := bx.len
 refine W.seq ?_
 refine W.sr ?_; simp (disch := omega) [gw]; refine W.lx [0, 1, 5, 6, 25] ?_; simp
 refine W.cond ⟨_, rfl, fun h => ?_, fun h => ?_⟩
 ·have h : y.length ≤ x.length := by simp at h; omega
  obtain ⟨n, rfl⟩ : ∃ m, n = m + 1 := ⟨n - 1, by omega⟩
  rw [rq, if_neg (by omega)] at hxR
  have Y6 := qI MY h
  obtain ⟨k, hk⟩ : ∃ k, k = x.length - y.length := ⟨_, rfl⟩
  have hkI : (x.length : Int) - (y.length : Int) = k := by omega
  have e1 : ((x.length : Int) - 1).toNat = x.length - 1 := by omega
  have hxl : nth x (x.length - 1) = lead x := rfl
  have apa := aaA h
  have b2 := NT qH bx MY h
  have hlX : sz 2 (lead x) ≤ u := eP bx
  have hu1 : u + (s' + N + 1) ≤ M := by
   have := Nat.le_mul_of_pos_left (s' + N + 1) (show 0 < j + 1 by omega)
   omega
  refine W.skip ?_
  refine W.block ?_
  refine W.sr ?_; simp (disch := omega) [gw, hkI]; refine W.lx [0, 1, 5, 6, 7] ?_; simp
  refine W.sr ?_; simp (disch := omega) [gw, e1, hxl]; refine W.lx [0, 1, 5, 6, 7, 8] ?_; simp
  obtain ⟨T, hT⟩ : ∃ T, T = uL (lead y) * lead x := ⟨_, rfl⟩
  have hTs : sz 2 T ≤ u := Nat.le_trans (cA (by decide) (by
   rw [hT, Int.natAbs_mul]
   have : (uL (lead y)).natAbs = 1 := by unfold uL; split <;> rfl
   rw [this, Nat.one_mul]; exact Nat.le_refl _)) hlX
  have hTp : (lead y < 0 → T = -lead x) ∧ (¬ lead y < 0 → T = lead x) := by
   rw [hT]; unfold uL
   constructor
   ·intro h; rw [if_pos h]; omega
   ·intro h; rw [if_neg h]; omega
  refine W.fV (fun σ => ∃ (v : Nat) (rows : Pm.Rows) (clk : Nat), σ = ⟨fa [(0, PI x), (1, PI y), (5, .ptr 5 0 0 0), (6, .ptr 6 1 0 0), (7, .int .i64 k), (8, .ptr 8 v 0 0)], rows, clk⟩ ∧
   rows 5 = some ⟨0, 48, 2, [[aI aD (aR DD (lead y).natAbs), .bool (decide (lead y < 0))]]⟩ ∧ rows 6 = some ⟨1, 48, 2, [[aI aD (aR DD (lead y).natAbs), .bool false]]⟩ ∧
   rows 8 = some ⟨v, 48, 2, [[aI aD (aR DD T.natAbs), .bool (decide (T < 0))]]⟩) ?_ ?_
  ·refine W.sr ?_; simp (disch := omega) [gw, lZ]; refine W.lx [0, 1, 5, 6, 7, 8, 39] ?_; simp
   refine W.cond ⟨_, rfl, fun h => ?_, fun h => ?_⟩
   ·have h : lead y < 0 := by simpa using h
    have ZB := pI (lead x)
    rw [← hTp.1 h] at ZB
    refine W.bY (fun K hK => ?_)
    simp (disch := omega) [gw]
    refine aA ZB ?_
    simp (disch := omega) [gw]
    exact hK _ ⟨_, aC _ [0, 1, 5, 6, 7, 8], _, _, _, rfl, by simp [lZ], by simp [tK], by simp⟩
   ·have h : ¬ lead y < 0 := by simpa using h
    rw [hTp.2 h]
    refine W.skip ?_
    exact ⟨_, aC _ [0, 1, 5, 6, 7, 8], _, _, _, rfl, by simp [lZ], by simp [tK], by simp⟩
  clear lZ tK rows clk
  rintro _ ⟨v8, rows, clk, rfl, lZ, tK, xC⟩
  refine W.sr ?_; simp (disch := omega) [gw]; refine W.lx [0, 1, 5, 6, 7, 8, 9] ?_; simp
  refine W.nil 9 9 50 4 (by simp) (by decide) (fun K hK => ?_)
  refine W.lw [0, 1, 5, 6, 7, 8, 9] hK ?_; clear hK K; simp
  refine W.seq ?_
  refine W.sr ?_; simp (disch := omega) [gw]; refine W.lx [0, 1, 5, 6, 7, 8, 9, 43, 44] ?_; simp
  refine W.block ?_
  refine W.a8 (fun m σ => ∃ (i v9 : Nat) (rows : Pm.Rows) (clk : Nat), σ = ⟨fa [(0, PI x), (1, PI y), (5, .ptr 5 0 0 0), (6, .ptr 6 1 0 0), (7, .int .i64 k), (8, .ptr 8 v8 0 0), (9, .own 9 v9 0 i), (43, .int .i64 x.length), (44, .int .i64 i)], rows, clk⟩ ∧
   rows 5 = some ⟨0, 48, 2, [[aI aD (aR DD (lead y).natAbs), .bool (decide (lead y < 0))]]⟩ ∧ rows 6 = some ⟨1, 48, 2, [[aI aD (aR DD (lead y).natAbs), .bool false]]⟩ ∧
   rows 8 = some ⟨v8, 48, 2, [[aI aD (aR DD T.natAbs), .bool (decide (T < 0))]]⟩ ∧ rows 9 = some ⟨v9, 50, 4, emap ri ((List.range i).map (Q8 y x))⟩ ∧ i + m = x.length) x.length ?_ ?_
  ·exact ⟨_, aC _ [0, 1, 5, 6, 7, 8, 9, 43, 44], 0, _, _, _, rfl, by simp [lZ], by simp [tK], by simp [xC], by simp [emap], by omega⟩
  clear lZ tK xC rows clk
  rintro m _ ⟨i, v9, rows, clk, rfl, lZ, tK, xC, hr9, him⟩
  have rV : ((List.range i).map (Q8 y x)).length = i := by simp
  refine W.sr ?_; simp (disch := omega) [gw]; refine W.lx [0, 1, 5, 6, 7, 8, 9, 43, 44, 45] ?_; simp
  refine W.seq ?_
  refine W.cond ⟨_, rfl, fun h => ?_, fun h => ?_⟩
  ·have hi : i < x.length := by simp at h; omega
   have hxi := bx.nth i
   have m1 := dK (nth x i) ((lead y).natAbs : Int) (by show sz 2 _ < 1099511627776; omega) (by show sz 2 _ < 1099511627776; omega)
   rw [ajC] at m1
   have s1 : sz 2 (nth x i * ((lead y).natAbs : Int)) ≤ u + s' := bR (by decide) hxi hls
   have er : (List.range (i + 1)).map (Q8 y x) = (List.range i).map (Q8 y x) ++ [Q8 y x i] := by
    rw [List.range_succ, List.map_append]; rfl
   have hF : Q8 y x i = nth x i * ((lead y).natAbs : Int) - if k ≤ i then T * nth y (i - k) else 0 := by unfold Q8; rw [hk, hT]
   generalize (List.range i).map (Q8 y x) = acc at *
   generalize hP : nth x i * ((lead y).natAbs : Int) = P at *
   refine W.skip ?_
   refine W.seq ?_
   refine W.block ?_
   refine W.sr ?_; simp (disch := omega) [gw]; refine W.lx [0, 1, 5, 6, 7, 8, 9, 10, 43, 44] ?_; simp
   refine W.sd ?_
   simp (disch := omega) [gw, tK]
   refine aA m1 ?_
   simp (disch := omega) [gw]
   rw [if_pos (by kernel_rfl)]
   simp (disch := omega) [gw]
   refine W.lx [0, 1, 5, 6, 7, 8, 9, 10, 11, 43, 44] ?_; simp
   generalize hQ : Q8 y x i = Q at *
   have sQ : sz 2 Q ≤ u + (s' + N + 1) := by
    have SP : sz 2 (nth y (i - k)) ≤ s' := qH.nth _
    rw [hF]
    split
    ·have := bR (b := 2) (by decide) hTs SP
     have h1 := mJ (b := 2) (by decide) (x := P) (y := -(T * nth y (i - k))) (k := u + s') s1 (by rw [nR]; exact this)
     rw [← Int.sub_eq_add_neg] at h1
     omega
    ·rw [Int.sub_zero]; omega
   refine W.fV (fun σ => ∃ (v11 : Nat) (rows : Pm.Rows) (clk : Nat), σ = ⟨fa [(0, PI x), (1, PI y), (5, .ptr 5 0 0 0), (6, .ptr 6 1 0 0), (7, .int .i64 k), (8, .ptr 8 v8 0 0), (9, .own 9 v9 0 i), (11, .ptr 11 v11 0 0), (43, .int .i64 x.length), (44, .int .i64 i)], rows, clk⟩ ∧
    rows 5 = some ⟨0, 48, 2, [[aI aD (aR DD (lead y).natAbs), .bool (decide (lead y < 0))]]⟩ ∧ rows 6 = some ⟨1, 48, 2, [[aI aD (aR DD (lead y).natAbs), .bool false]]⟩ ∧
    rows 8 = some ⟨v8, 48, 2, [[aI aD (aR DD T.natAbs), .bool (decide (T < 0))]]⟩ ∧ rows 9 = some ⟨v9, 50, 4, emap ri acc⟩ ∧
    rows 11 = some ⟨v11, 48, 2, [[aI aD (aR DD Q.natAbs), .bool (decide (Q < 0))]]⟩) ?_ ?_
   ·refine W.sr ?_; simp (disch := omega) [gw]; refine W.lx [0, 1, 5, 6, 7, 8, 9, 10, 11, 43, 44, 56] ?_; simp
    refine W.cond ⟨_, rfl, fun h => ?_, fun h => ?_⟩
    ·have hki : k ≤ i := by simp at h; omega
     rw [if_pos hki] at hF
     have eik : (i : Int) - (k : Int) = ((i - k : Nat) : Int) := by omega
     have hyb : i - k < y.length := by omega
     have m2 := dK T (nth y (i - k)) (by show sz 2 _ < 1099511627776; omega) (by have := qH.nth (i - k); show sz 2 _ < 1099511627776; omega)
     have s2 := bR (b := 2) (by decide) hTs (qH.nth (i - k))
     have m3 := IY P (T * nth y (i - k)) (by show sz 2 _ < 1099511627776; omega) (by show sz 2 _ < 1099511627776; omega)
     rw [← hF] at m3
     generalize T * nth y (i - k) = P2 at *
     refine W.MR (fun K hK => ?_)
     simp (disch := omega) [gw, xC, eik]
     refine aA m2 ?_
     simp (disch := omega) [gw]
     refine aA m3 ?_
     simp (disch := omega) [gw]
     refine b8 (by kernel_rfl) ?_
     simp (disch := omega) [gw]
     exact hK _ ⟨_, aC _ [0, 1, 5, 6, 7, 8, 9, 11, 43, 44], _, _, _, rfl, by simp [lZ], by simp [tK], by simp [xC], by simp [hr9], by simp⟩
    ·have hki : ¬ k ≤ i := by simp at h; omega
     rw [if_neg hki, Int.sub_zero] at hF
     rw [hF]
     refine W.skip ?_
     exact ⟨_, aC _ [0, 1, 5, 6, 7, 8, 9, 11, 43, 44], _, _, _, rfl, by simp [lZ], by simp [tK], by simp [xC], by simp [hr9], by simp⟩
   clear lZ tK xC hr9 rows clk
   rintro _ ⟨v11, rows, clk, rfl, lZ, tK, xC, hr9, at6⟩
   have o1 := nV 1 (by decide) (by decide)
   have mk := C7 Q (by show sz 2 Q < 549755813888; omega)
   refine W.MR (fun K hK => ?_)
   rw [if_pos rfl, dN]
   simp (disch := omega) [gw, at6]
   refine aA o1 ?_
   simp (disch := omega) [gw]
   refine aA mk ?_
   simp (disch := omega) [gw, hr9, rV]
   refine W.lw [0, 1, 5, 6, 7, 8, 9, 43, 44] hK ?_; clear hK K; simp
   refine W.bY (fun K hK => ?_); simp (disch := omega) [gw]
   refine hK _ ⟨m - 1, _, aC _ [0, 1, 5, 6, 7, 8, 9, 43, 44], by omega, i + 1, _, _, _, rfl, by simp [lZ], by simp [tK], by simp [xC], by rw [er]; simp, by omega⟩
  ·have hi : i = x.length := by simp at h; omega
   subst hi
   have eY : ((List.range x.length).map (Q8 y x)).length = x.length := by simp
   generalize (List.range x.length).map (Q8 y x) = acc at *
   have ez := bE eY
   have lL := mZ acc (by omega)
   rw [apa] at lL
   refine W.exit ?_; simp only [pX, if_true, if_false, reduceIte, Nat.reduceEqDiff]
   refine W.bY (fun K hK => ?_)
   simp (disch := omega) [gw, hr9, ez]
   refine aA lL ?_
   simp (disch := omega) [gw]
   obtain ⟨j, rfl⟩ : ∃ i, j = i + 1 := ⟨j - 1, by omega⟩
   rw [Nat.add_mul, Nat.one_mul] at hu
   refine hK _ ⟨n, _, aC _ [0, 1, 5, 6], by omega, Q7 y x, j, u + (s' + N + 1), _, _, rfl, by simp [lZ], by simp [tK], Cn.dW _ _, by omega, hxR, b2, by omega, by omega⟩
 ·have h : x.length < y.length := by simp at h; omega
  rw [ajB h] at hxR
  subst hxR
  refine W.exit ?_; simp only [pX, if_true, if_false, reduceIte, Nat.reduceEqDiff]
  refine W.sr ?_; simp (disch := omega) [gw]; refine W.lx [4] ?_; simp
  refine W.ret ?_
  simp [go]
end Go.Proofs.YtbbjgncblhfegaaGreat
namespace Pm
open Go Go.RowKit
section
variable {E : Env} {c : Cx} {w0 : World} {S0 : c9} {m : Nat} {G : Gs}
theorem aeh (hI : Inv w0 S0 c) {t e : TypeId} {n bb len : Nat} {z : List PV} (hE : E.ty t = .slice e n bb z) {parts : Array (Nat × Operand)} {ρ : Operand → PV} {vρ : Operand → Value} (hρ : ∀ x, aJ c (ρ x) (vρ x))
  {els : List (List PV)} (yJ : fS n 0 (parts.toList.map fun x => (x.1, ρ x.2)) = some els) (hlen : len = els.length) (hsm : len ≤ 4096) (hn : n ≤ 4096)
  (gT : ∀ e ∈ els, ∀ p ∈ e, gS c.rows p) :
  ∃ bX, (Instr.buildSlice t len (parts.map fun (i, x) => (i, vρ x))).run E.P c.w = .ok (.slice (some ⟨c.w.heap.size, 0, none⟩) len len) (c.w.alloc (.cells bX e)) ∧ bX.size = len * n ∧ a7 (aP c) els.flatten bX.toList ∧ (∀ u ∈ bX.toList, u.oneCell' = true) ∧ (∀ e ∈ els, e.length = n) ∧ 0 < n := by
 obtain ⟨hu, hnp, ED, i, zv, hi, hz, hs, _, LK, _⟩ := eH hE
 obtain ⟨g1, g2, g3⟩ := mH yJ
 have PC : parts.size = els.length := by rw [g1]; simp
 have arK : zv.cells.size = n := by rw [← ED, ← LK]; simp
 have CF : ∀ j (x : Nat × Value), ((parts.map fun (i, x) => (i, vρ x)).toList)[j]? = some x → x.1 = 0 + j ∧ ∃ e, els[j]? = some e ∧ a7 (aP c) e x.2.cells.toList ∧ ∀ u ∈ x.2.cells.toList, u.oneCell' = true := by
  intro j x hx
  simp at hx
  obtain ⟨a, b, fP, rfl⟩ := hx
  obtain ⟨q1, e, q2, q3⟩ := g3 j (a, ρ b) (by simp; exact ⟨a, b, fP, rfl, rfl⟩)
  have q4 := kU (hρ b) q3 (fun q hq => gT e (List.mem_of_getElem? q2) q hq)
  exact ⟨q1, e, q2, q4.1, q4.2⟩
 obtain ⟨bX, f1, f2⟩ := yM (n := n) (parts.map fun (i, x) => (i, vρ x)).toList 0 ((Array.range (len * n)).map (zv.cells[· % zv.cells.size]!)) (fun j x hx => by
  obtain ⟨q1, e, q2, q3, _⟩ := CF j x hx
  refine ⟨q1, ?_⟩
  have := q3.length
  rw [g2 e (List.mem_of_getElem? q2)] at this
  simpa using this.symm) (by simp [PC, hlen])
 simp only [Nat.zero_mul, List.take_zero, List.nil_append] at f2
 have iX : (Instr.buildSlice t len (parts.map fun (i, x) => (i, vρ x))).run E.P c.w = .ok (.slice (some ⟨c.w.heap.size, 0, none⟩) len len) (c.w.alloc (.cells bX e)) := by
  have hbound : ¬ (16777216 < len * n) := by
   have : len * n ≤ 4096 * 4096 := Nat.mul_le_mul hsm hn
   omega
  by_cases h0 : len * n = 0
  ·have vP : len = 0 := by
    rcases Nat.mul_eq_zero.1 h0 with h | h
    ·exact h
    ·omega
   have WD : parts = #[] := Array.eq_empty_of_size_eq_zero (by omega)
   subst WD
   subst vP
   simp [Instr.fill] at f1
   subst f1
   have KU : Array.range 0 = #[] := rfl
   simp [Instr.buildSlice, run_underlying hu, cN hi, newRow, Instr.fill, KU]
  ·have f1' : Instr.fill (fun i => some (i * n, n)) ((Array.range (len * n)).map (zv.cells[· % zv.cells.size]!)) (parts.toList.map fun x => (x.1, vρ x.2)) = some bX := by simpa using f1
   simp only [Instr.buildSlice, Sem.run_bind, run_underlying hu, Result.andThen_ok, cN hi, hs]
   simp [h0, hbound, newRow, zeroValue, typeInfo, hi, hz, f1']
 have e3 : bX.toList = ((parts.map fun (i, x) => (i, vρ x)).toList.map fun x => x.2.cells.toList).flatten := by rw [f2, List.flatMap_def]
 have key : ∀ (vs : List (Nat × Value)) (es : List (List PV)), vs.length = es.length → (∀ (j : Nat) (x : Nat × Value), vs[j]? = some x → ∃ e, es[j]? = some e ∧ a7 (aP c) e x.2.cells.toList ∧ ∀ u ∈ x.2.cells.toList, u.oneCell' = true) →
   a7 (aP c) es.flatten (vs.map fun x => x.2.cells.toList).flatten ∧ ∀ u ∈ (vs.map fun x => x.2.cells.toList).flatten, u.oneCell' = true := by
  intro vs
  induction vs with
  | nil =>
   intro es hl _
   have : es = [] := List.eq_nil_of_length_eq_zero hl.symm
   subst this
   exact ⟨trivial, by simp⟩
  | cons v vs ih =>
   intro es hl h
   match es, hl with
   | e :: es, hl =>
    obtain ⟨h1, h2⟩ := ih es (by simpa using hl) fun j x hx => by simpa using h (j + 1) x (by simpa using hx)
    obtain ⟨e', q1, q2, q3⟩ := h 0 v (by simp)
    simp at q1; subst q1
    simp only [List.flatten_cons, List.map_cons]
    refine ⟨a7.append q2 h1, fun u hu => ?_⟩
    rcases List.mem_append.1 hu with hu | hu
    ·exact q3 u hu
    ·exact h2 u hu
 obtain ⟨k1, k2⟩ := key (parts.map fun (i, x) => (i, vρ x)).toList els (by simp [PC]) fun j x hx => (CF j x hx).2
 rw [← e3] at k1 k2
 refine ⟨bX, iX, ?_, k1, k2, g2, hnp⟩
 have h5 := k1.length
 have fl : ∀ {l : List (List PV)}, (∀ e ∈ l, e.length = n) → l.flatten.length = l.length * n := by
  intro l
  induction l with
  | nil => intro _; simp
  | cons e l ih => intro h; rw [List.flatten_cons, List.length_append, ih (fun e he => h e (by simp [he])), h e (by simp), List.length_cons, Nat.add_mul]; omega
 rw [fl g2, Array.length_toList] at h5
 rw [hlen]; exact h5.symm
def BW (E : Env) (o : Oper) (K : PS → Prop) (σ : PS) : Prop :=
 match o.op with
 | .buildSlice t len parts =>
  match E.ty t with
  | .slice e n _ _ => ∃ els, fS n 0 (parts.toList.map fun x => (x.1, aQ σ.f x.2)) = some els ∧ len = els.length ∧ len ≤ 4096 ∧ n ≤ 4096 ∧ (∀ x ∈ els, ∀ p ∈ x, gS σ.rows p) ∧
    EE K σ o.dst (.own (o.dst.getD 0) σ.clock 0 els.length) (o.dst.getD 0) e n els
  | _ => False
 | _ => False
theorem sA {o : Oper} {a : Act} {w : World} {σ : PS} {K : PS → Prop} (h : BW E o K σ) (hR : Rel w0 S0 m G σ a w) (hd : ∀ t, o.dst = some t → t < m)
  {K' : Act → World → Prop} {Q : Exit → Act → World → Prop} (hK : ∀ σ' a' w', K σ' → Rel w0 S0 m G σ' a' w' → K' a' w') : o.wp E.P a w K' Q := by
 obtain ⟨⟨c, rfl, hr, eY, hI, hf, hG⟩, hn, eI⟩ := hR
 have hρ := kI hf
 obtain ⟨dst, op, type, pos, after, guard⟩ := o
 simp only at hd
 unfold BW at h
 simp only at h
 split at h
 ·rename_i t len parts
  split at h
  ·rename_i e n b z hE
   obtain ⟨els, h1, h2, h3, h4, h5, h⟩ := h
   rw [← hr] at h5
   obtain ⟨bX, g1, g2, g3, g4, g5, g6⟩ := aeh hI hE hρ h1 h2 h3 h4 h5
   obtain ⟨uF, hA⟩ := uQ hI (ver := σ.clock) (fun hu => Nat.lt_irrefl _ (eY _ hu)) (dst.getD 0) e n els.length els.length els bX rfl (Nat.le_refl _) (by simp only [maxLen]; omega) (by rw [g2, h2]) (by
    rw [List.take_of_length_le (by rw [Array.length_toList, g2, h2]; exact Nat.le_refl _)]; exact g3) g4 g5 g6
   obtain ⟨f', rows', vK, yP⟩ := oW (K := fun f' r' => K ⟨f', r', σ.clock + 1⟩) hr eY hf hG hn eI h uF hA (j0 (r := ⟨σ.clock, e, n, els⟩) (A := some ⟨c.w.heap.size, 0, none⟩) (cap := els.length) (by simp [dC]) rfl (Or.inl rfl) (by simp [dC])) hd
   unfold Oper.wp
   have : (execOp a.eval { dst := dst, op := .buildSlice t len parts, type := type, pos := pos, after := after, guard := guard }).run E.P c.w = .ok (.value (.slice (some ⟨c.w.heap.size, 0, none⟩) els.length els.length)) (c.w.alloc (.cells bX e)) := by
    rw [h2] at g1
    simp only [execOp, Sem.run_bind, h2, g1, Result.andThen_ok, Sem.run_pure]
   rw [this]
   refine hK _ _ _ vK (yP.mono fun v hv => ?_)
   show v < σ.clock + 1
   rcases hv with rfl | hv
   ·omega
   ·have : v < σ.clock := hv
    omega
  ·exact h.elim
 ·exact h.elim
theorem l8 {ops : Array Oper} {K : PS → Prop} {Q : Exit → Act → World → Prop} {l2 : List Oper} (hK : ∀ σ' a' w', K σ' → Rel w0 S0 m G σ' a' w' → wpList E.P ops Q l2 a' w') :
  ∀ (l : List Oper) (σ : PS) (a : Act) (w : World), (∀ o ∈ l, ∀ t, o.dst = some t → t < m) → aL E ops.toList l K σ → Rel w0 S0 m G σ a w → wpList E.P ops Q (l ++ l2) a w
 | [], σ, a, w, _, h, hR => hK _ _ _ h hR
 | o :: os, σ, a, w, hd, h, hR => by
  have hdo := hd o (by simp)
  have hds : ∀ o ∈ os, ∀ t, o.dst = some t → t < m := fun o ho => hd o (by simp [ho])
  have wanted : ∀ {σ}, dQ E o (aL E ops.toList os K) σ → Rel w0 S0 m G σ a w → o.wp E.P a w (wpList E.P ops Q (os ++ l2)) Q := fun hp hR =>
   vU hp hR hdo fun σ' a' w' hk j1 => l8 hK os σ' a' w' hds hk j1
  show wpList E.P ops Q (o :: (os ++ l2)) a w
  unfold wpList
  simp only [aL] at h
  split at h
  ·rename_i hg
   rw [if_pos (by simp [Region.wanted, hg])]
   exact .inl (wanted h hR)
  ·rename_i j want hg
   split at h
   ·exact h.elim
   ·rename_i d SS
    have hd3 : (ops[j]?).bind (·.dst) = some d := by simpa using SS
    have skip : yielded ops a.tmps j ≠ some want → aL E ops.toList os K (σ.put o.dst (.eA [])) → (if Region.wanted o (yielded ops a.tmps) = true then o.wp E.P a w (wpList E.P ops Q (os ++ l2)) Q ∨ (o.asks E.P a w ∧ LetsOut Q) else wpList E.P ops Q (os ++ l2) (a.put o.dst undef) w) := by
     intro hy h2
     rw [if_neg (by simpa [Region.wanted, hg] using hy)]
     refine l8 hK os _ _ w hds h2 ?_
     obtain ⟨⟨c, rfl, hr, eY, hI, hf, hG⟩, hn, eI⟩ := hR
     exact lP hf hG hn eI (rG.refl c) hI LV hdo rfl (by simp [PS.put, hr]) eY
    obtain ⟨c, _, _, _, _, hf, _⟩ := hR.ex
    have hx := hf d
    rcases h with ⟨h1, h2⟩ | ⟨h1 | h1, h2⟩
    ·rw [h1] at hx
     rw [if_pos (by simp [Region.wanted, hg, gE hd3 hx])]
     exact .inl (wanted h2 hR)
    ·rw [h1] at hx
     exact skip (by rw [gE hd3 hx]; cases want <;> simp) h2
    ·rw [h1] at hx
     exact skip (by rw [rO hd3 hx]; simp) h2
end
theorem W.aaC {E : Env} {n : Nat} {tl : Nat → Nat} {Q : PX → PS → Prop} {σ : PS} {id : Nat} {ops : List Oper} {y : Code} (i : Nat) {o : Oper} (ho : ops = ops.take i ++ o :: ops.drop (i + 1)) (hg : o.guard = none)
  (h : ∀ K : PS → Prop, (∀ σ, W E n tl y Q σ → K σ) → go (aL E ops (ops.take i) (fun σ => BW E o (aL E ops (ops.drop (i + 1)) K) σ) σ)) : W E n tl (.seq (.region id ops.toArray false) y) Q σ := by
 refine W.seq ?_
 intro fJ w0 S0 G a w Q' hR hQ
 simp only [dY, oZ, Bool.and_eq_true] at fJ
 have hd : ∀ o ∈ ops, ∀ t, o.dst = some t → t < n := fun o ho t ht => by
  have := Array.all_eq_true_iff_forall_mem.1 fJ.1 o (by simpa using ho)
  simpa [ht] using this
 refine wp_region_list ?_
 show wpList E.P ops.toArray Q' ops a w
 have h1 := h (fun σ => W E n tl y Q σ) fun _ h => h
 have rM : o ∈ ops := by rw [ho]; simp
 have := l8 (E := E) (w0 := w0) (S0 := S0) (m := n) (G := G) (ops := ops.toArray) (Q := Q') (l2 := o :: ops.drop (i + 1)) (K := fun σ => BW E o (aL E ops (ops.drop (i + 1)) (fun σ => W E n tl y Q σ)) σ) (fun σ' a' w' hl j1 => by
  unfold wpList
  rw [if_pos (by simp [Region.wanted, hg])]
  refine .inl (sA hl j1 (hd o rM) fun σ2 a2 w2 hk hR2 => ?_)
  exact fT (E := E) (ops := ops.toArray) (fun σ3 a3 w3 hk3 hR3 => hQ .normal σ3 a3 w3 hk3 hR3) _ σ2 a2 w2 (fun o ho => hd o (List.mem_of_mem_drop ho)) hk hR2) (ops.take i) σ a w (fun o ho => hd o (List.mem_of_mem_take ho)) h1 hR
 rwa [← ho] at this
def AL (ti : TI) (rows : Rows) (len : Nat) (ps : List (Nat × PV)) (K : TypeId → Nat → List (List PV) → Prop) : Prop :=
 match ti with
 | .slice e n _ _ => iC n 0 ps fun els => aH (len = els.length ∧ len ≤ 4096 ∧ n ≤ 4096 ∧ fU rows els.flatten) (K e n els)
 | _ => False
@[congr] theorem aei {t t' : TI} {rows rows' : Rows} {len : Nat} {ps PY : List (Nat × PV)} {K : TypeId → Nat → List (List PV) → Prop} (h : t = t') (h2 : ps = PY) (h3 : rows = rows') : AL t rows len ps K = AL t' rows' len PY K := by rw [h, h2, h3]
@[simp] theorem aej {e n b : Nat} {z : List PV} {rows : Rows} {len : Nat} {ps : List (Nat × PV)} {K : TypeId → Nat → List (List PV) → Prop} : AL (.slice e n b z) rows len ps K = iC n 0 ps fun els => aH (len = els.length ∧ len ≤ 4096 ∧ n ≤ 4096 ∧ fU rows els.flatten) (K e n els) := rfl
@[simp] theorem aq7 {E : Env} {K : PS → Prop} {f : Nat → PV} {rows : Rows} {clk : Nat} {d : Option Tmp} {ty : TypeId} {pos : String} {af : Array Edge} {t : TypeId} {len : Nat} {parts : Array (Nat × Operand)} :
  BW E ⟨d, .buildSlice t len parts, ty, pos, af, none⟩ K ⟨f, rows, clk⟩ = AL (E.ty t) rows len (parts.toList.map fun x => (x.1, aQ f x.2)) fun e n els => K ⟨put f d (.own (d.getD 0) clk 0 els.length), dC rows (d.getD 0) (some ⟨clk, e, n, els⟩), clk + 1⟩ := by
 simp only [BW, AL]
 generalize E.ty t = T
 cases T with
 | slice e n b z =>
  simp only
  rw [← uR]
  simp only [aH, EE, fU]
  apply propext
  constructor
  ·rintro ⟨els, h1, h2, h3, h4, h5, h6⟩
   exact ⟨els, h1, ⟨h2, h3, h4, fun q hq => by obtain ⟨x, hx, hq⟩ := List.mem_flatten.1 hq; exact h5 x hx q hq⟩, h6⟩
  ·rintro ⟨els, h1, ⟨h2, h3, h4, h5⟩, h6⟩
   exact ⟨els, h1, h2, h3, h4, fun x hx q hq => h5 q (List.mem_flatten.2 ⟨x, hx, hq⟩), h6⟩
 | _ => rfl
end Pm
namespace Go.Proofs.YtbbjgncblhfegaaGreat
open Go Pm
def rz (a c : ZX) : ZX := ZX.of (rq c.l (a.l.length + 1) a.l)
theorem qJ {a c : ZX} (hc : c ≠ 0) : (rz a c).l = rq c.l (a.l.length + 1) a.l ∧ ZX.N (rz a c) < ZX.N c ∧ ∃ (m : Int) (q : ZX), m ≠ 0 ∧ ZX.K m * a = q * c + ZX.K 1 * rz a c := by
 obtain ⟨h1, h2, m, q, hm, h3⟩ := Q9 c.c (ZX.aG.1 hc) (a.l.length + 1) a.l a.c (by omega)
 have e : (rz a c).l = rq c.l (a.l.length + 1) a.l := h1
 refine ⟨e, by show (rz a c).l.length < c.l.length; rw [e]; exact h2, m, ZX.of q, hm, ZX.ext fun t => ?_⟩
 rw [ZX.cU, ZX.tM, ZX.kG, ZX.cU, ZX.cU, ZX.tM, ZX.JL, e, h3 t]; omega
theorem RA {s n : Nat} {a c : ZX} (ha : BZ s n a) (hb : BZ s n c) (hc : c ≠ 0) : BZ (s + (ZX.N a + 1 - ZX.N c) * (s + n + 1)) n (rz a c) := by
 have h := agG hb (ZX.aG.1 hc) (a.l.length + 1) (ZX.N a + 1 - ZX.N c) s a.l ha (by show ZX.N a + 1 ≤ ZX.N c + _; omega)
 rw [← (qJ hc).1] at h
 exact h
theorem DN {s n C : Nat} {a c : ZX} (b : BZ s n a) (b' : BZ s n c) (hP : xT C n s (nf a) (nf c)) (hn : n ≤ 20) (hC : C ≤ 4500000000) (h1 : 1 ≤ s) : aK env.P 171 [PI a.l, PI c.l] (PI (gz a c).l) := by
 have hs := hP.le
 have p1 := jV b h1 (by show s ≤ 137438953472; omega) (by omega)
 have p2 := jV b' h1 (by show s ≤ 137438953472; omega) (by omega)
 have b1 := b.nf
 have b2 := b'.nf
 have hg : gz (nf a) (nf c) = gz a c := by rw [agA, NQ]
 have hx1 := JS a
 rw [← hg]
 generalize nE : nf a = x0 at *
 generalize MY : nf c = y0 at *
 generalize hG : gz x0 y0 = G at *
 refine aB (E := env) (fun _ => 0) [(0, PI a.l), (1, PI c.l)] Tryz.func171 rfl (by kernel_rfl) (by kernel_rfl) (show 2 ≤ 18 by decide) (by simp) ?_
 generalize a.l = al at *
 generalize c.l = cl at *
 refine W.sr ?_; simp (disch := omega) [gw]; refine W.lx [0, 1] ?_; simp
 refine W.sr ?_
 simp (disch := omega) [gw]
 refine aA p1 ?_
 simp (disch := omega) [gw]
 refine aA p2 ?_
 simp (disch := omega) [gw]
 refine W.lx [0, 1] ?_; simp
 refine W.seq ?_
 refine W.block ?_
 refine W.a8 (fun k σ => ∃ (x y : ZX) (s : Nat) (rows : Pm.Rows) (clk : Nat), σ = ⟨fa [(0, PI x.l), (1, PI y.l)], rows, clk⟩ ∧ BZ s n x ∧ BZ s n y ∧ 1 ≤ s ∧ xT C n s x y ∧ gz x y = G ∧ nf x = x ∧ nf y = y ∧ k = ZX.N y) (ZX.N y0) ?_ ?_
 ·exact ⟨_, .refl, x0, y0, s, _, _, rfl, b1, b2, h1, hP, hG, hx1, by rw [← MY, JS], rfl⟩
 rintro k _ ⟨x, y, s, rows, clk, rfl, bx, qH, h1, hp, hgz, hnx, hny, rfl⟩
 have hs := hp.le
 have hlx := bx.len
 have hly := qH.len
 refine W.seq ?_
 refine W.sr ?_; simp (disch := omega) [gw]; refine W.lx [0, 1, 11] ?_; simp
 refine W.cond ⟨_, rfl, fun h => ?_, fun h => ?_⟩
 ·have hy : y ≠ 0 := ZX.aG.2 (by show 0 < y.l.length; simp at h; omega)
  obtain ⟨TQ, hN, m, q, hm, e⟩ := qJ (a := x) hy
  have br := RA bx qH hy
  have hmul : (x.l.length + 1 - y.l.length + 1) * (s + n + 1) ≤ 22 * 4500000000 := Nat.mul_le_mul (by omega) (by omega)
  have agH : (ZX.N x + 1 - ZX.N y) * (s + n + 1) ≤ 22 * 4500000000 := Nat.mul_le_mul (by have : ZX.N x = x.l.length := rfl; omega) (by omega)
  have hR := DM (s := s) (s' := s) (N := n) bx qH x.c y.c (ZX.aG.1 hy) (by omega) (by show _ < 137438953472; omega)
  rw [← TQ] at hR
  have pr := jV br (by omega) (by show _ ≤ 137438953472; omega) (by omega)
  have ND : ZX.N (nf (rz x y)) < ZX.N y := by rw [BV]; exact hN
  have hp2 := hp.step ND
  have mG := FU hm (show (1 : Int) ≠ 0 by decide) e
  rw [← NQ y (rz x y)] at mG
  have br2 := br.nf
  have TX := JS (rz x y)
  generalize (rz x y).l = rl at *
  generalize nf (rz x y) = r2 at *
  refine W.skip ?_
  refine W.block ?_
  refine W.bY (fun K hK => ?_)
  simp (disch := omega) [gw]
  refine aA hR ?_
  simp (disch := omega) [gw]
  refine aA pr ?_
  simp (disch := omega) [gw]
  refine hK _ ⟨ZX.N r2, _, aC _ [0, 1], ND, y, r2, _, _, _, rfl, qH.mono (by omega) (Nat.le_refl _), br2, by omega, hp2, by rw [← mG, hgz], hny, TX, rfl⟩
 ·have hy : y = 0 := by
   refine Classical.byContradiction fun h0 => ?_
   have h1 := ZX.aG.1 h0
   have h2 : ZX.N y = y.l.length := rfl
   simp at h; rw [h2, h] at h1; simp at h1
  subst hy
  rw [tP, hnx] at hgz
  subst hgz
  refine W.exit ?_; simp only [pX, if_true, if_false, reduceIte, Nat.reduceEqDiff]
  refine W.sr ?_; simp (disch := omega) [gw]; refine W.lx [4] ?_; simp
  refine W.ret ?_
  simp [go]
theorem UU {h h' n : Nat} {a c : ZX} (b : BZ h n a) (b' : BZ h' n c) (h1 : 1 ≤ h) (ha : Nf a) (hc : Nf c) (hd : ZX.dv c a) (hB : h + (n + 1) * (h' + n + 2) + h' + n + n + 10 < 137438953472) : aK env.P 172 [PI a.l, PI c.l] (.eA [PI (qz a c).l, PI []]) := by
 obtain ⟨hw, e⟩ := l7 ha hc hd
 have hD := JI a.l c.l b b' a.c c.c (ZX.aG.1 hc.ne) h1 hB
 obtain ⟨e1, e2⟩ := aag (q := (qz a c).l) a.c c.c (ZX.aG.1 hc.ne) (qz a c).c fun t => by
  conv => lhs; rw [e]
  rw [ZX.cU]
 rw [e1, e2, oG, oG, oG] at hD
 exact hD
def zq (a : ZX) : List PV := [PI a.l]
@[simp] theorem at7 {a : ZX} : zq a = [PI a.l] := rfl
@[simp] theorem alP {l : List ZX} : bB 1 (emap zq l) = True := cZ fun _ => rfl
@[simp] theorem ajE {v e n : Nat} {l : List ZX} : cP (some ⟨v, e, n, emap zq l⟩) = True := cM fun _ => rfl
@[simp] theorem at8 {l : List ZX} {a : ZX} : emap zq l ++ [[aI ri a.l]] = emap zq (l ++ [a]) := by simp [emap]
theorem oO.qd {s n : Nat} {a c d : ZX} (h : oO s n a) (h1 : 1 ≤ s) (ha : Nf a) (hc : Nf c) (hd : Nf d) (hca : ZX.dv c a) (hdc : ZX.dv d c) : aK env.P 172 [PI c.l, PI d.l] (.eA [PI (qz c d).l, PI []]) ∧ aK env.P 111 [PI (qz c d).l] (PI (qz c d).l) := by
 have b := h.dv ha hc hca
 have b2 := h.dv ha hd (hdc.trans hca)
 have hq := h.oH
 have hn := h.hn
 obtain ⟨hw, e⟩ := l7 hc hd hdc
 have bq := h.dv ha hw ((aav hc hd hdc).trans hca)
 have hm : (n + 1) * (qb s n + n + 2) ≤ 21 * 4500000000 := Nat.mul_le_mul (by omega) (by omega)
 have ajF : 1 ≤ qb s n := by unfold qb; omega
 refine ⟨UU b b2 ajF hc hd hdc (by omega), ?_⟩
 have := jV bq ajF (by show _ ≤ 137438953472; omega) (by omega)
 rwa [hw.nfe] at this
theorem oO.qgd {s n : Nat} {a c : ZX} (h : oO s n a) (ha : Nf a) (hc : Nf c) (hd : ZX.dv c a) : aK env.P 125 [PI c.l] (PI (ZX.bM c).l) ∧ aK env.P 171 [PI c.l, PI (ZX.bM c).l] (PI (gd c).l) := by
 have b := h.dv ha hc hd
 have b2 := b.bM (by have := h.hn; omega)
 have hq := h.oH
 have hn := h.hn
 have ajF : 1 ≤ qb s n := by unfold qb; omega
 refine ⟨tT b (by show _ ≤ 137438953472; omega) (by omega), DN (s := qb s n + 5) (b.mono (by omega) (Nat.le_refl _)) b2 ?_ h.hn (C := 4500000000) (Nat.le_refl _) (by omega)⟩
 have hN := ZX.l6 c
 have h1 : ZX.N c ≤ n := b.N
 have h2 := ZX.aG.1 hc.ne
 unfold xT
 rw [BV, BV, if_pos (by omega)]
 refine Nat.le_trans (Nat.mul_le_mul (show qb s n + 5 + n + 1 ≤ qb s n + n + 6 by omega) (Nat.pow_le_pow_right (by decide) h1)) h.hC
theorem n3 {s n : Nat} {a : ZX} (h : oO s n a) (h1 : 1 ≤ s) : aK env.P 93 [PI a.l] (aI zq (fl (nf a))) := by
 have hqb := h.oH
 have hn := h.hn
 have qA : s ≤ 4500000000 := by unfold qb at hqb; omega
 have p1 := jV h.bz h1 (by show s ≤ 137438953472; omega) (by omega)
 have hA := h.nfz
 have hNa : ZX.N a = a.l.length := rfl
 have ZU := BV a
 have hle := DJ (nf a)
 have hNA : ZX.N (nf a) ≤ n := hA.bz.N
 refine aB (E := env) (fun _ => 0) [(0, PI a.l)] Tryz.func93 rfl (by kernel_rfl) (by kernel_rfl) (show 1 ≤ 94 by decide) (by simp) ?_
 refine W.sr ?_; simp (disch := omega) [gw]; refine W.lx [0] ?_; simp
 refine W.seq ?_
 refine W.sr ?_; simp (disch := omega) [gw]; refine W.lx [0, 2, 15] ?_; simp
 refine W.cond ⟨_, rfl, fun h => ?_, fun h => ?_⟩
 ·have h2 : ZX.N a ≤ 1 := by simp at h; omega
  have h3 : fl (nf a) = [] := by unfold fl; rw [J0 (by rw [ZU]; exact h2)]; rfl
  rw [h3]
  refine W.sr ?_; simp (disch := omega) [gw]; refine W.lx [2] ?_; simp
  refine W.TL 2 (aI zq []) (by simp) rfl (fun K hK => ?_)
  refine W.lw [2] hK ?_; clear hK K; simp
  refine W.ret ?_
  simp [go]
 have h2 : 2 ≤ ZX.N a := by simp at h; omega
 have nA : Nf (nf a) := eV (ZX.aG.2 (by omega))
 clear h
 generalize nf a = A at *
 obtain ⟨m, hm⟩ : ∃ m, m = nl A := ⟨_, rfl⟩
 have QG : fl A = (List.range m).map (j9 A) := by rw [hm]; rfl
 rw [QG]
 refine W.skip ?_
 refine W.sr ?_
 simp (disch := omega) [gw]
 refine aA p1 ?_
 simp (disch := omega) [gw]
 refine W.lx [0] ?_; simp
 refine W.sr ?_; simp (disch := omega) [gw]; refine W.lx [0, 3] ?_; simp
 refine W.aaC 1 rfl rfl (fun K hK => ?_)
 simp (disch := omega) [gw]
 refine W.lw [3, 4] hK ?_; clear hK K; simp
 refine W.seq ?_
 refine W.block ?_
 refine W.a8 (fun k σ => ∃ (i ver : Nat) (rows : Pm.Rows) (clk : Nat), σ = ⟨fa [(3, .nil), (4, .own 19 ver 0 (i + 1))], rows, clk⟩ ∧ rows 19 = some ⟨ver, 24, 1, emap zq ((List.range (i + 1)).map (gs A))⟩ ∧ i + k = m) m ?_ ?_
 ·exact ⟨_, .refl, 0, _, _, _, rfl, by simp [emap, gs], by omega⟩
 rintro k _ ⟨i, ver, rows, clk, rfl, hr, FD⟩
 have rV : ((List.range (i + 1)).map (gs A)).length = i + 1 := by simp
 have r9 : nth ((List.range (i + 1)).map (gs A)) i = gs A i := dP _ (by omega)
 have er : (List.range (i + 1 + 1)).map (gs A) = (List.range (i + 1)).map (gs A) ++ [gs A (i + 1)] := by rw [List.range_succ, List.map_append]; rfl
 have e1 : ((i : Int) + 1 - 1).toNat = i := by omega
 generalize hL : (List.range (i + 1)).map (gs A) = L at *
 refine W.seq ?_
 refine W.sr ?_; simp (disch := omega) [gw, hr, rV, r9]; refine W.lx [3, 4, 27] ?_; simp
 refine W.cond ⟨_, rfl, fun h => ?_, fun h => ?_⟩
 ·have h3 : 2 ≤ ZX.N (gs A i) := by
   have h4 : ZX.N (gs A i) = (gs A i).l.length := rfl
   simp at h; omega
  clear h
  have hi : i < nl A := by
   rcases Nat.lt_or_ge i (nl A) with h4 | h4
   ·exact h4
   ·have h5 := (jA A).1
    rw [show nl A = i by omega] at h5; omega
  obtain ⟨t1, t2⟩ := hA.qgd nA (lE nA i) (DI A i)
  rw [show gd (gs A i) = gs A (i + 1) from rfl] at t2
  generalize hg : (gs A i).l = g at *
  generalize mG : gs A (i + 1) = g2 at *
  refine W.skip ?_
  refine W.block ?_
  refine W.sr ?_; simp (disch := omega) [gw, hr, rV, r9, hg]; refine W.lx [3, 4, 5] ?_; simp
  refine W.bY (fun K hK => ?_)
  simp (disch := omega) [gw]
  refine aA t1 ?_
  simp (disch := omega) [gw]
  refine aA t2 ?_
  simp (disch := omega) [gw, hr, rV]
  refine hK _ ⟨k - 1, _, aC _ [3, 4], by omega, i + 1, _, _, _, rfl, by rw [er]; simp, by omega⟩
 have h3 : ZX.N (gs A i) ≤ 1 := by
  have h4 : ZX.N (gs A i) = (gs A i).l.length := rfl
  simp at h; omega
 clear h
 have hi : i = m := by
  rcases Nat.lt_or_ge i (nl A) with h4 | h4
  ·have := (jA A).2 i h4; omega
  ·omega
 subst hi
 have hR : L ++ [(1 : ZX)] = (List.range (i + 2)).map (gs A) := by
  rw [show (1 : ZX) = gs A (i + 1) by rw [hm, JV nA 1]]
  exact er.symm
 have gT := pO
 generalize hz : (1 : ZX) = z1 at *
 refine W.exit ?_; simp only [pX, if_true, if_false, reduceIte, Nat.reduceEqDiff]
 refine W.sr ?_
 simp (disch := omega) [gw]
 refine aA gT ?_
 simp (disch := omega) [gw, hr, rV]
 refine W.lx [3, 4] ?_; simp
 clear hr r9 e1 er hL rV
 have hRl : (L ++ [z1]).length = i + 2 := by rw [hR]; simp
 have r9 : ∀ j, j < i + 2 → nth (L ++ [z1]) j = gs A j := fun j hj => by rw [hR]; exact dP _ hj
 generalize L ++ [z1] = R at *
 have hRt : List.take (i + 2) R = R := List.take_of_length_le (by omega)
 refine W.freeze 19 (by simp) (fun K hK => ?_)
 simp [hRt]
 refine hK _ ?_; clear hK K
 refine W.nil 3 3 24 1 (by simp) (by decide) (fun K hK => ?_)
 refine W.lw [3, 4] hK ?_; clear hK K; simp
 refine W.seq ?_
 refine W.sr ?_; simp (disch := omega) [gw]; refine W.lx [3, 4, 6] ?_; simp
 refine W.block ?_
 refine W.a8 (fun k σ => ∃ (j ver : Nat) (rows : Pm.Rows) (clk : Nat), σ = ⟨fa [(3, .own 3 ver 0 j), (4, aI zq R), (6, .int .i64 j)], rows, clk⟩ ∧ rows 3 = some ⟨ver, 24, 1, emap zq ((List.range j).map (j9 A))⟩ ∧ j + k = i) i ?_ ?_
 ·exact ⟨_, .refl, 0, _, _, _, rfl, by simp [emap], by omega⟩
 clear rows clk ver FD k
 rintro k _ ⟨j, ver, rows, clk, rfl, hr, hjk⟩
 have hjl : ((List.range j).map (j9 A)).length = j := by simp
 refine W.seq ?_
 refine W.sr ?_; simp (disch := omega) [gw, hRl]; refine W.lx [3, 4, 6, 50] ?_; simp
 refine W.cond ⟨_, rfl, fun h => ?_, fun h => ?_⟩
 ·have hj : j < i := by simp at h; omega
  clear h
  have er : (List.range (j + 1)).map (j9 A) = (List.range j).map (j9 A) ++ [j9 A j] := by rw [List.range_succ, List.map_append]; rfl
  have n0 := r9 j (by omega)
  have n1 := r9 (j + 1) (by omega)
  have n2 := r9 (j + 2) (by omega)
  have l0 : j < R.length := by omega
  have l1 : j + 1 < R.length := by omega
  have l2 : j + 2 < R.length := by omega
  have e1 : ((j : Int) + 1).toNat = j + 1 := by omega
  have e2 : ((j : Int) + 2).toNat = j + 2 := by omega
  obtain ⟨d1, q1⟩ := hA.qd h1 nA (lE nA j) (lE nA (j + 1)) (DI A j) (wP _)
  obtain ⟨d2, q2⟩ := hA.qd h1 nA (lE nA (j + 1)) (lE nA (j + 2)) (DI A (j + 1)) (wP _)
  obtain ⟨d3, q3⟩ := hA.qd h1 nA (eQ nA j).1 (eQ nA (j + 1)).1 (xR nA j) (JX nA j)
  rw [show qz (gs A j) (gs A (j + 1)) = wz A j from rfl] at d1 q1
  rw [show qz (gs A (j + 1)) (gs A (j + 2)) = wz A (j + 1) from rfl] at d2 q2
  rw [show qz (wz A j) (wz A (j + 1)) = j9 A j from rfl] at d3 q3
  have h0 : (nth R j).l = (gs A j).l := by rw [n0]
  have h1' : (nth R (j + 1)).l = (gs A (j + 1)).l := by rw [n1]
  have h2' : (nth R (j + 2)).l = (gs A (j + 2)).l := by rw [n2]
  generalize (gs A j).l = g0 at *
  generalize (gs A (j + 1)).l = g1 at *
  generalize (gs A (j + 2)).l = g2 at *
  generalize (wz A j).l = w0 at *
  generalize (wz A (j + 1)).l = w1 at *
  generalize hF : j9 A j = F at *
  generalize hac : (List.range j).map (j9 A) = acc at *
  refine W.skip ?_
  refine W.seq ?_
  refine W.block ?_
  refine W.sd ?_
  simp (disch := omega) [gw, h0, h1', e1]
  refine aA d1 ?_
  simp (disch := omega) [gw]
  refine W.lx [3, 4, 6, 7] ?_; simp
  refine W.sd ?_
  simp (disch := omega) [gw, h1', h2', e1, e2]
  refine aA d2 ?_
  simp (disch := omega) [gw]
  refine W.lx [3, 4, 6, 7, 9] ?_; simp
  refine W.sr ?_
  simp (disch := omega) [gw]
  refine aA q1 ?_
  simp (disch := omega) [gw]
  refine aA q2 ?_
  simp (disch := omega) [gw]
  refine aA d3 ?_
  simp (disch := omega) [gw]
  refine W.lx [3, 4, 6, 11] ?_; simp
  refine W.bY (fun K hK => ?_)
  simp (disch := omega) [gw]
  refine aA q3 ?_
  simp (disch := omega) [gw, hr, hjl]
  refine W.lw [3, 4, 6] hK ?_; clear hK K; simp
  refine W.bY (fun K hK => ?_); simp (disch := omega) [gw]
  refine hK _ ⟨k - 1, _, aC _ [3, 4, 6], by omega, j + 1, _, _, _, rfl, by rw [er]; simp, by omega⟩
 ·have hj : j = i := by simp at h; omega
  subst hj
  generalize (List.range j).map (j9 A) = acc at *
  have uH : List.take j acc = acc := List.take_of_length_le (by omega)
  refine W.exit ?_; simp only [pX, if_true, if_false, reduceIte, Nat.reduceEqDiff]
  refine W.sr ?_
  simp (disch := omega) [gw, hr, uH]
  refine W.lx [2] ?_; simp
  refine W.ret ?_
  simp [go, hr, uH]
theorem tU {s n : Nat} {a : ZX} (h : oO s n a) (h1 : 1 ≤ s) : aK env.P 26 [PI a.l] (PI (sq a).l) := by
 have hqb := h.oH
 have hn := h.hn
 have hF := n3 h h1
 have hA := h.nfz
 have hNa : ZX.N a = a.l.length := rfl
 have hsq : ZX.N a ≠ 0 → sq a = pf (nf a) (fun _ => true) (nl (nf a)) := fun h0 => by
  have nA := eV (ZX.aG.2 (Nat.pos_of_ne_zero h0))
  unfold sq
  split
  ·rename_i h2
   rw [J0 (by rw [BV]; exact h2), nA.N1 (by rw [BV]; exact h2)]; rfl
  ·rw [ajx nA]
 have hNf : ZX.N a ≠ 0 → Nf (nf a) := fun h0 => eV (ZX.aG.2 (Nat.pos_of_ne_zero h0))
 have hle := DJ (nf a)
 have hNA : ZX.N (nf a) ≤ n := hA.bz.N
 have apd : ZX.N a = 0 → (sq a).l = [] := fun h0 => by
  have h2 : a = 0 := Classical.byContradiction fun h3 => by have := ZX.aG.1 h3; omega
  unfold sq
  rw [if_pos (by omega), h2, gG]; rfl
 generalize nf a = A at *
 refine aB (E := env) (fun _ => 0) [(0, PI a.l)] Tryz.func26 rfl (by kernel_rfl) (by kernel_rfl) (show 1 ≤ 26 by decide) (by simp) ?_
 refine W.sr ?_; simp (disch := omega) [gw]; refine W.lx [0] ?_; simp
 refine W.seq ?_
 refine W.sr ?_; simp (disch := omega) [gw]; refine W.lx [0, 2, 8] ?_; simp
 refine W.cond ⟨_, rfl, fun h3 => ?_, fun h3 => ?_⟩
 ·have h0 : ZX.N a = 0 := by rw [hNa]; simp at h3; rw [h3]; rfl
  rw [apd h0]
  refine W.sr ?_; simp (disch := omega) [gw]; refine W.lx [2] ?_; simp
  refine W.TL 2 (PI []) (by simp) rfl (fun K hK => ?_)
  refine W.lw [2] hK ?_; clear hK K; simp
  refine W.ret ?_
  simp [go]
 have h0 : ZX.N a ≠ 0 := by rw [hNa]; simp at h3; intro h4; exact h3 (List.eq_nil_of_length_eq_zero h4)
 have nA := hNf h0
 rw [hsq h0]
 clear h3 hsq apd hNf
 have hmul : ∀ i, aK env.P 54 [PI (pf A (fun _ => true) i).l, PI (j9 A i).l] (PI (pf A (fun _ => true) (i + 1)).l) := fun i => by
  have b1 := hA.dv nA (tR nA (fun _ => true) i) (xS nA _ i)
  have b2 := hA.dv nA (tQ nA i).1 (FV nA i)
  exact m7 _ _ _ _ _ _ b1 b2 (by show _ < 137438953472; omega)
 obtain ⟨m, hm⟩ : ∃ m, m = nl A := ⟨_, rfl⟩
 have QG : fl A = (List.range m).map (j9 A) := by rw [hm]; rfl
 rw [← hm] at hle ⊢
 rw [QG] at hF
 have BE : ((List.range m).map (j9 A)).length = m := by simp
 have r9 : ∀ i, i < m → (nth ((List.range m).map (j9 A)) i).l = (j9 A i).l := fun i hi => by rw [dP _ hi]
 generalize (List.range m).map (j9 A) = L at *
 have h1 := pO
 rw [show (1 : ZX) = pf A (fun _ => true) 0 from rfl] at h1
 generalize hg : pf A (fun _ => true) 0 = g0 at *
 refine W.skip ?_
 refine W.sr ?_
 simp (disch := omega) [gw]
 refine aA h1 ?_
 simp (disch := omega) [gw]
 refine W.lx [0, 3] ?_; simp
 refine W.sr ?_
 simp (disch := omega) [gw]
 refine aA hF ?_
 simp (disch := omega) [gw]
 refine W.lx [3, 4] ?_; simp
 refine W.seq ?_
 refine W.sr ?_; simp (disch := omega) [gw, BE]; refine W.lx [3, 4, 14, 15] ?_; simp
 subst hg
 refine W.block ?_
 refine W.a8 (fun k σ => ∃ (i : Nat) (rows : Pm.Rows) (clk : Nat), σ = ⟨fa [(3, PI (pf A (fun _ => true) i).l), (4, aI zq L), (14, .int .i64 m), (15, .int .i64 i)], rows, clk⟩ ∧ i + k = m) m ?_ ?_
 ·exact ⟨_, .refl, 0, _, _, rfl, by omega⟩
 rintro k _ ⟨i, rows, clk, rfl, FD⟩
 refine W.sr ?_; simp (disch := omega) [gw]; refine W.lx [3, 4, 14, 15, 16] ?_; simp
 refine W.seq ?_
 refine W.cond ⟨_, rfl, fun h => ?_, fun h => ?_⟩
 ·have hi : i < m := by simp at h; omega
  have hiL : i < L.length := by omega
  have ht := hmul i
  have tS := r9 i hi
  generalize mG : pf A (fun _ => true) (i + 1) = g2 at *
  generalize pf A (fun _ => true) i = g at *
  refine W.skip ?_
  refine W.seq ?_
  refine W.block ?_
  refine W.sr ?_; simp (disch := omega) [gw]; refine W.lx [3, 4, 5, 14, 15] ?_; simp
  refine W.bY (fun K hK => ?_)
  simp (disch := omega) [gw, tS]
  refine aA ht ?_
  simp (disch := omega) [gw]
  refine W.lw [3, 4, 14, 15] hK ?_; clear hK K; simp
  subst mG
  refine W.bY (fun K hK => ?_); simp (disch := omega) [gw]
  refine hK _ ⟨k - 1, _, aC _ [3, 4, 14, 15], by omega, i + 1, _, _, rfl, by omega⟩
 ·have hi : i = m := by simp at h; omega
  subst hi
  refine W.exit ?_; simp only [pX, if_true, if_false, reduceIte, Nat.reduceEqDiff]
  refine W.sr ?_; simp (disch := omega) [gw]; refine W.lx [2] ?_; simp
  refine W.ret ?_
  simp [go]
theorem UW {s n : Nat} {a : ZX} (h : oO s n a) (h1 : 1 ≤ s) (h0 : a ≠ 0) : aK env.P 121 [PI a.l] (PI (oz (nf a)).l) := by
 have hqb := h.oH
 have hn := h.hn
 have hF := n3 h h1
 have hA := h.nfz
 have nA := eV h0
 have pW : a.l.length ≠ 0 := fun h1 => by have h2 := ZX.aG.1 h0; have h3 : ZX.N a = a.l.length := rfl; omega
 have hle := DJ (nf a)
 have hNA : ZX.N (nf a) ≤ n := hA.bz.N
 generalize nf a = A at *
 obtain ⟨c, hc⟩ : ∃ c : Nat → Bool, c = fun k => k % 2 == 0 := ⟨_, rfl⟩
 have hoz : oz A = pf A c (nl A) := by rw [hc]; rfl
 rw [hoz]
 have hmul : ∀ i, i % 2 = 0 → aK env.P 54 [PI (pf A c i).l, PI (j9 A i).l] (PI (pf A c (i + 2)).l) := fun i hi => by
  have b1 := hA.dv nA (tR nA c i) (xS nA _ i)
  have b2 := hA.dv nA (tQ nA i).1 (FV nA i)
  have e : pf A c (i + 2) = pf A c i * j9 A i := by
   have c1 : c (i + 1) = false := by rw [hc]; simp; omega
   have c2 : c i = true := by rw [hc]; simp; omega
   rw [pf, if_neg (by rw [c1]; decide), pf, if_pos c2]
  rw [e]
  exact m7 _ _ _ _ _ _ b1 b2 (by show _ < 137438953472; omega)
 obtain ⟨m, hm⟩ : ∃ m, m = nl A := ⟨_, rfl⟩
 have QG : fl A = (List.range m).map (j9 A) := by rw [hm]; rfl
 have NU : ∀ i, m ≤ i → i ≤ m + 1 → i % 2 = 0 → pf A c i = pf A c m := fun i hi A9 hi3 => by
  rcases Nat.lt_or_ge m i with h4 | h4
  ·obtain rfl : i = m + 1 := by omega
   rw [pf, if_neg (by rw [hc]; simp; omega)]
  ·rw [show i = m by omega]
 rw [← hm] at hle ⊢
 rw [QG] at hF
 have BE : ((List.range m).map (j9 A)).length = m := by simp
 have r9 : ∀ i, i < m → (nth ((List.range m).map (j9 A)) i).l = (j9 A i).l := fun i hi => by rw [dP _ hi]
 generalize (List.range m).map (j9 A) = L at *
 have h1 := pO
 rw [show (1 : ZX) = pf A c 0 from rfl] at h1
 generalize hg : pf A c 0 = g0 at *
 refine aB (E := env) (fun _ => 0) [(0, PI a.l)] Tryz.func121 rfl (by kernel_rfl) (by kernel_rfl) (show 1 ≤ 26 by decide) (by simp) ?_
 refine W.sr ?_; simp (disch := omega) [gw]; refine W.lx [0] ?_; simp
 refine W.seq ?_
 refine W.sr ?_; simp (disch := omega) [gw]; refine W.lx [0, 2, 8] ?_; simp
 refine W.cond ⟨_, rfl, fun h3 => ?_, fun h3 => ?_⟩
 ·simp at h3; exact absurd (by rw [h3]; rfl) pW
 clear h3
 refine W.skip ?_
 refine W.sr ?_
 simp (disch := omega) [gw]
 refine aA h1 ?_
 simp (disch := omega) [gw]
 refine W.lx [0, 3] ?_; simp
 refine W.sr ?_
 simp (disch := omega) [gw]
 refine aA hF ?_
 simp (disch := omega) [gw]
 refine W.lx [3, 4] ?_; simp
 refine W.seq ?_
 refine W.sr ?_; simp (disch := omega) [gw]; refine W.lx [3, 4, 5] ?_; simp
 subst hg
 refine W.block ?_
 refine W.a8 (fun k σ => ∃ (i : Nat) (rows : Pm.Rows) (clk : Nat), σ = ⟨fa [(3, PI (pf A c i).l), (4, aI zq L), (5, .int .i64 i)], rows, clk⟩ ∧ k = m - i ∧ i ≤ m + 1 ∧ i % 2 = 0) m ?_ ?_
 ·exact ⟨_, .refl, 0, _, _, rfl, by omega, by omega, rfl⟩
 rintro k _ ⟨i, rows, clk, rfl, FD, him, A9⟩
 refine W.seq ?_
 refine W.sr ?_; simp (disch := omega) [gw, BE]; refine W.lx [3, 4, 5, 16] ?_; simp
 refine W.cond ⟨_, rfl, fun h => ?_, fun h => ?_⟩
 ·have hi : i < m := by simp at h; omega
  have hiL : i < L.length := by omega
  have ht := hmul i A9
  have tS := r9 i hi
  generalize mG : pf A c (i + 2) = g2 at *
  generalize pf A c i = g at *
  refine W.skip ?_
  refine W.seq ?_
  refine W.block ?_
  refine W.bY (fun K hK => ?_)
  simp (disch := omega) [gw, tS]
  refine aA ht ?_
  simp (disch := omega) [gw]
  refine W.lw [3, 4, 5] hK ?_; clear hK K; simp
  subst mG
  refine W.bY (fun K hK => ?_); simp (disch := omega) [gw]
  refine hK _ ⟨m - (i + 2), _, aC _ [3, 4, 5], by omega, i + 2, _, _, rfl, rfl, by omega, by omega⟩
 ·have hi : m ≤ i := by simp at h; omega
  rw [NU i hi him A9]
  refine W.exit ?_; simp only [pX, if_true, if_false, reduceIte, Nat.reduceEqDiff]
  refine W.sr ?_; simp (disch := omega) [gw]; refine W.lx [2] ?_; simp
  refine W.ret ?_
  simp [go]
abbrev R2 (n d : Int) : PV := .ag [aI aD (aR DD n.natAbs), .bool (decide (n < 0)), aI aD (aR DD d.natAbs), .bool (decide (d < 0))]
theorem cG (q : Rat) : RR q = R2 q.num q.den := by
 have : decide ((q.den : Int) < 0) = false := decide_eq_false (by omega)
 show PV.ag (re q) = PV.ag _
 rw [this]; rfl
def hm (n d : Int) : List Int → Int × Int
 | [] => (0, 1)
 | a :: l => ((hm n d l).1 * n + a * (hm n d l).2, (hm n d l).2 * d)
def xE (x : List Int) (n d : Int) : Int := (hm n d x).1.sign
theorem agI {s k u : Nat} {n d : Int} (hn : sz 2 n ≤ u) (hd : sz 2 d ≤ u) (hu : 1 ≤ u) : ∀ {x : List Int}, Bd 2 s k x → sz 2 (hm n d x).1 ≤ s + x.length * (u + 1) ∧ sz 2 (hm n d x).2 ≤ x.length * u + 1
 | [], _ => ⟨by show sz 2 0 ≤ _; rw [show sz 2 0 = 0 by decide]; omega, by show sz 2 1 ≤ _; exact Nat.le_trans (cO (k := 1) (by decide) (by decide)) (by omega)⟩
 | a :: l, h => by
  obtain ⟨h1, h2⟩ := agI hn hd hu (x := l) ⟨Nat.le_trans (by simp) h.len, fun c hc => h.sz c (by simp [hc])⟩
  have ha := h.sz a (by simp)
  have e : (a :: l).length * u = l.length * u + u := by rw [List.length_cons, Nat.add_mul]; omega
  have e' : (a :: l).length * (u + 1) = l.length * u + l.length + u + 1 := by rw [List.length_cons, Nat.add_mul, Nat.mul_add]; omega
  have e'' : l.length * (u + 1) = l.length * u + l.length := by rw [Nat.mul_add]; omega
  refine ⟨?_, ?_⟩
  ·have g1 := bR (b := 2) (by decide) h1 hn
   have g2 := bR (b := 2) (by decide) ha h2
   have := mJ (b := 2) (by decide) (Nat.le_trans g1 (Nat.le_max_left _ (s + (l.length * u + 1)))) (Nat.le_trans g2 (Nat.le_max_right (s + l.length * (u + 1) + u) _))
   refine Nat.le_trans this ?_
   rw [e', e'']
   omega
  ·have := bR (b := 2) (by decide) h2 hd
   rw [e]
   exact Nat.le_trans this (by omega)
theorem u3 (p q p' q' : Int) (hp : sz 2 p ≤ YY) (hq : sz 2 q ≤ YY) (uD : sz 2 p' ≤ YY) (hq' : sz 2 q' ≤ YY) : aK env.P 27 [R2 p q, R2 p' q'] (.int .i64 (dH (p * q') (p' * q))) := by
 have zz : ∀ {x : Int}, sz 2 x ≤ YY → Z x := fun h => by simp only [Z, YY] at *; omega
 have s1 := bR (b := 2) (by decide) hp hq'
 have s2 := bR (b := 2) (by decide) uD hq
 have m1 := dK p q' (zz hp) (zz hq')
 have m2 := dK p' q (zz uD) (zz hq)
 have c1 := ZP (p * q') (p' * q) (by simp only [Z, YY] at *; omega) (by simp only [Z, YY] at *; omega)
 generalize dH (p * q') (p' * q) = r at *
 generalize p * q' = x1 at *
 generalize p' * q = x2 at *
 refine aB (E := env) (fun _ => 0) [(0, R2 p q), (1, R2 p' q')] Tryz.func27 rfl (by kernel_rfl) (by kernel_rfl) (show 2 ≤ 16 by decide) (by simp) ?_
 refine W.sr ?_; simp (disch := omega) [gw]; refine W.lx [2, 3] ?_; simp
 refine W.sd ?_
 simp (disch := omega) [gw]
 refine aA m1 ?_
 simp (disch := omega) [gw]
 refine aA m2 ?_
 simp (disch := omega) [gw]
 refine aA c1 ?_
 simp (disch := omega) [gw]
 refine W.lx [4] ?_; simp
 refine W.ret ?_
 simp [go]
theorem j7 (p q : Rat) (hp : ZR YY p) (hq : ZR YY q) : aK env.P 27 [RR p, RR q] (.int .i64 (dH (p.num * q.den) (q.num * p.den))) := by
 rw [cG, cG]; exact u3 _ _ _ _ hp.n hp.d hq.n hq.d
@[simp] theorem RB : aR DD 1 = [1] := by decide
theorem UX (x : List Int) (hl : x.length < 9223372036854775808) : aK env.P 184 [PI x] (.bool true) := by
 refine aB (E := env) (fun _ => 0) [(0, PI x)] Tryz.func184 rfl (by kernel_rfl) (by kernel_rfl) (show 1 ≤ 29 by decide) (by simp) ?_
 refine W.sr ?_; simp (disch := omega) [gw]; refine W.lx [0] ?_; simp
 refine W.seq ?_
 refine W.sr ?_; simp (disch := omega) [gw]; refine W.lx [0, 5, 6] ?_; simp
 refine W.block ?_
 refine W.a8 (fun k σ => ∃ (i : Nat) (rows : Pm.Rows) (clk : Nat), σ = ⟨fa [(0, PI x), (5, .int .i64 x.length), (6, .int .i64 i)], rows, clk⟩ ∧ i + k = x.length) x.length ?_ ?_
 ·exact ⟨_, .refl, 0, _, _, rfl, by omega⟩
 rintro k _ ⟨i, rows, clk, rfl, hI⟩
 refine W.sr ?_; simp (disch := omega) [gw]; refine W.lx [0, 5, 6, 7] ?_; simp
 refine W.seq ?_
 refine W.cond ⟨_, rfl, fun h => ?_, fun h => ?_⟩
 ·have hi : i < x.length := by simp at h; omega
  refine W.skip ?_
  refine W.seq ?_
  refine W.block ?_
  refine W.sr ?_; simp (disch := omega) [gw]; refine W.lx [0, 3, 5, 6] ?_; simp
  refine W.sr ?_; simp (disch := omega) [gw, hi]; refine W.lx [0, 5, 6, 27] ?_; simp
  refine W.cond ⟨_, rfl, fun h => ?_, fun h => ?_⟩
  ·simp at h
   exact absurd rfl h
  ·refine W.skip ?_
   refine W.bY (fun K hK => ?_); simp (disch := omega) [gw]
   refine hK _ ⟨k - 1, _, aC _ [0, 5, 6], by omega, i + 1, _, _, rfl, by omega⟩
 ·refine W.exit ?_; simp only [pX, if_true, if_false, reduceIte, Nat.reduceEqDiff]
  refine W.sr ?_; simp (disch := omega) [gw]; refine W.lx [2] ?_; simp
  refine W.ret ?_
  simp [go]
theorem u4 {x : List Int} {n d : Int} {s k u : Nat} (hx : Bd 2 s k x) (hn : sz 2 n ≤ u) (hd : sz 2 d ≤ u) (hu : 1 ≤ u) (hk : k < 1099511627776) (hB : s + k * (u + 1) + u < YY) : aK env.P 107 [PI x, R2 n d] (.int .i64 (xE x n d)) := by
 have hl := hx.len
 have hW := UX x (by omega)
 have hO := nV 1 (by decide) (by decide)
 have zz : ∀ {x : Int}, sz 2 x ≤ YY → Z x := fun h => by simp only [Z, YY] at *; omega
 have hY : YY = 137438953472 := rfl
 have bd := fun i => agI (s := s) (k := k) (x := x.drop i) hn hd hu ⟨by simp; omega, fun c hc => hx.sz c (List.mem_of_mem_drop hc)⟩
 have hle : ∀ i, (x.drop i).length * (u + 1) ≤ k * (u + 1) := fun i => Nat.mul_le_mul_right _ (by simp; omega)
 have aaD : ∀ i, (x.drop i).length * u ≤ (x.drop i).length * (u + 1) := fun i => Nat.mul_le_mul_left _ (by omega)
 have step : ∀ i, i < x.length → hm n d (x.drop i) = ((hm n d (x.drop (i + 1))).1 * n + nth x i * (hm n d (x.drop (i + 1))).2, (hm n d (x.drop (i + 1))).2 * d) := fun i hi => by
  rw [List.drop_eq_getElem_cons hi, cS hi]; rfl
 have NU : hm n d (x.drop x.length) = (0, 1) := by rw [List.drop_length]; rfl
 have hS := C5 (hm n d x).1
 have h0 : hm n d (x.drop 0) = hm n d x := rfl
 have hs : xE x n d = (hm n d x).1.sign := rfl
 rw [hs]
 have M : ∀ i, i < x.length → aK env.P 94 [RI (hm n d (x.drop (i + 1))).1, RI n] (RI ((hm n d (x.drop (i + 1))).1 * n)) ∧ aK env.P 94 [RI (nth x i), RI (hm n d (x.drop (i + 1))).2] (RI (nth x i * (hm n d (x.drop (i + 1))).2)) ∧
   aK env.P 128 [RI ((hm n d (x.drop (i + 1))).1 * n), RI (nth x i * (hm n d (x.drop (i + 1))).2)] (RI (hm n d (x.drop i)).1) ∧ aK env.P 94 [RI (hm n d (x.drop (i + 1))).2, RI d] (RI (hm n d (x.drop i)).2) := fun i hi => by
  obtain ⟨b1, b2⟩ := bd (i + 1)
  have l1 := hle (i + 1)
  have l2 := aaD (i + 1)
  have ha := hx.sz _ (bN hi)
  have g1 := bR (b := 2) (by decide) b1 hn
  have g2 := bR (b := 2) (by decide) ha b2
  have e := step i hi
  rw [e]
  exact ⟨dK _ _ (zz (by omega)) (zz (by omega)), dK _ _ (zz (by omega)) (zz (by omega)), zV _ _ (by simp only [Z]; omega) (by simp only [Z]; omega), dK _ _ (zz (by omega)) (zz (by omega))⟩
 clear bd hle aaD step
 generalize hm n d x = r0 at *
 refine aB (E := env) (fun _ => 0) [(0, PI x), (1, R2 n d)] Tryz.func107 rfl (by kernel_rfl) (by kernel_rfl) (show 2 ≤ 42 by decide) (by simp) ?_
 refine W.sr ?_; simp (disch := omega) [gw]; refine W.lx [0, 3] ?_; simp
 refine W.seq ?_
 refine W.sr ?_
 simp (disch := omega) [gw]
 refine aA hW ?_
 simp (disch := omega) [gw]
 refine W.lx [0, 3, 10] ?_; simp
 refine W.cond ⟨_, rfl, fun h => ?_, fun h => ?_⟩
 ·simp at h
 refine W.skip ?_
 refine W.sr ?_; simp (disch := omega) [gw]; refine W.lx [0, 3, 5] ?_; simp
 refine W.sr ?_
 simp (disch := omega) [gw]
 refine aA hO ?_
 simp (disch := omega) [gw]
 refine W.lx [0, 3, 5, 6] ?_; simp
 refine W.seq ?_
 refine W.sr ?_; simp (disch := omega) [gw]; refine W.lx [0, 3, 5, 6, 7] ?_; simp
 refine W.row (id := 5) (els := [[.nil, .bool false]]) [[aI aD (aR DD (0 : Int).natAbs), .bool (decide ((0 : Int) < 0))]] (by simp; first | exact ⟨rfl, rfl, rfl⟩ | exact ⟨rfl, rfl⟩ | rfl) ⟨⟨.inr ⟨rfl, rfl⟩, .inl rfl, trivial⟩, trivial⟩ ?_
 refine W.block ?_
 refine W.a8 (fun k σ => ∃ (v3 v5 v6 e3 e5 e6 : Nat) (rows : Pm.Rows) (clk : Nat), σ = ⟨fa [(0, PI x), (3, .ptr 3 v3 0 0), (5, .ptr 5 v5 0 0), (6, .ptr 6 v6 0 0), (7, .int .i64 ((k : Int) - 1))], rows, clk⟩ ∧ k ≤ x.length ∧
  rows 3 = some ⟨v3, e3, 4, [[aI aD (aR DD n.natAbs), .bool (decide (n < 0)), aI aD (aR DD d.natAbs), .bool (decide (d < 0))]]⟩ ∧
  rows 5 = some ⟨v5, e5, 2, [[aI aD (aR DD (hm n d (x.drop k)).1.natAbs), .bool (decide ((hm n d (x.drop k)).1 < 0))]]⟩ ∧
  rows 6 = some ⟨v6, e6, 2, [[aI aD (aR DD (hm n d (x.drop k)).2.natAbs), .bool (decide ((hm n d (x.drop k)).2 < 0))]]⟩) x.length ?_ ?_
 ·exact ⟨_, .refl, _, _, _, _, _, _, _, _, rfl, Nat.le_refl _, by simp; (first | exact ⟨rfl, rfl, rfl⟩ | exact ⟨rfl, rfl⟩ | rfl), by rw [NU]; simp; (first | exact ⟨rfl, rfl, rfl⟩ | exact ⟨rfl, rfl⟩ | rfl), by rw [NU]; simp; (first | exact ⟨rfl, rfl, rfl⟩ | exact ⟨rfl, rfl⟩ | rfl)⟩
 rintro k _ ⟨v3, v5, v6, e3, e5, e6, rows, clk, rfl, hkl, fY, lZ, tK⟩
 refine W.seq ?_
 refine W.sr ?_; simp (disch := omega) [gw]; refine W.lx [0, 3, 5, 6, 7, 21] ?_; simp
 refine W.cond ⟨_, rfl, fun h => ?_, fun h => ?_⟩
 ·have wF : 0 < k := by simp at h; omega
  obtain ⟨k, rfl⟩ : ∃ j, k = j + 1 := ⟨k - 1, by omega⟩
  obtain ⟨m1, m2, m3, m4⟩ := M k (by omega)
  generalize hm n d (x.drop (k + 1)) = A at *
  have e1 : (((k + 1 : Nat) : Int) - 1).toNat = k := by omega
  refine W.skip ?_
  refine W.seq ?_
  refine W.block ?_
  refine W.sd ?_
  simp (disch := omega) [gw, fY, lZ, tK]
  refine aA m1 ?_
  simp (disch := omega) [gw, e1]
  try simp (disch := omega) [gw, e1, tK]
  refine aA m2 ?_
  simp (disch := omega) [gw]
  refine aA m3 ?_
  simp (disch := omega) [gw, lZ]
  try (refine b8 (by kernel_rfl) ?_)
  try simp (disch := omega) [gw, lZ]
  refine W.lx [0, 3, 5, 6, 7] ?_; simp
  refine W.bY (fun K hK => ?_)
  simp (disch := omega) [gw, fY, tK]
  refine aA m4 ?_
  simp (disch := omega) [gw, tK]
  refine W.lw [0, 3, 5, 6, 7] hK ?_; clear hK K; simp
  refine W.bY (fun K hK => ?_); simp (disch := omega) [gw]
  refine hK _ ⟨k, _, aC _ [0, 3, 5, 6, 7], by omega, v3, v5, v6, _, _, _, _, _, rfl, by omega, by simp [fY]; exact rfl, by simp; exact rfl, by simp; exact rfl⟩
 ·have wF : k = 0 := by simp at h; omega
  subst wF
  rw [h0] at lZ
  refine W.exit ?_; simp only [pX, if_true, if_false, reduceIte, Nat.reduceEqDiff]
  refine W.sr ?_
  simp (disch := omega) [gw, lZ]
  refine aA hS ?_
  simp (disch := omega) [gw]
  refine W.lx [4] ?_; simp
  refine W.ret ?_
  simp [go]
end Go.Proofs.YtbbjgncblhfegaaGreat
namespace Go.Proofs.YtbbjgncblhfegaaGreat
open Go Pm
open ZX hiding N W
theorem aaE {y : List Int} (cy : Cn y) (hy : 0 < y.length) : ∀ (n : Nat) (x : List Int), Cn x → x.length < n → ∃ (m : Int) (q : List Int), 0 < m ∧ ∀ t, m * V t x = V t q * V t y + V t (rq y n x)
 | 0, x, _, h => by omega
 | n + 1, x, cx, h => by
  rw [rq]
  split
  ·exact ⟨1, [], by decide, fun t => by simp [V]⟩
  ·rename_i h1
   have hl := qI hy (show y.length ≤ x.length by omega)
   obtain ⟨m, q, hm, h4⟩ := aaE cy hy n (Q7 y x) (Cn.dW _ _) (by omega)
   have vP := cB cy hy
   refine ⟨m * (lead y).natAbs, fX q (aV (oK (x.length - y.length) (uL (lead y) * lead x)) m), Int.mul_pos hm (by omega), fun t => ?_⟩
   have h5 := aaB t y x
   have h6 := h4 t
   rw [pB, bT, lY]
   have : m * ((lead y).natAbs : Int) * V t x = m * (((lead y).natAbs : Int) * V t x) := by grind
   rw [this, h5]
   grind
theorem aaF {x y s q : List Int} {D : Int} (cx : Cn x) (cy : Cn y) (hy : 0 < y.length) (cs : Cn s) (hs : s.length < y.length) (hD : 0 < D) (hv : ∀ t, D * V t x = V t q * V t y + V t s) : JC x y = iT s := by
 have hV := fun t => YR t x y
 have hl := E6 (a := x) hy
 obtain ⟨c1, c2⟩ := zF (b := y) cx
 rw [ZZ cx]
 have vP := cB cy hy
 have uW : lead y ^ iD x y ≠ 0 := Int.pow_ne_zero vP
 have hsg := ZW (lead y) (iD x y)
 have hsq := ZY (lead y) (iD x y)
 generalize sg (lead y) (iD x y) = g at *
 generalize (wC x y).1 = p at *
 generalize (wC x y).2 = r at *
 generalize hc : lead y ^ iD x y = c at *
 have hm : 0 < ((lead y).natAbs : Int) ^ iD x y := Int.pow_pos (by omega)
 generalize ((lead y).natAbs : Int) ^ iD x y = m at *
 have e : ∀ t, V t (dW (s.map (· * c)) (r.map (· * D))) = V t y * V t (dW (p.map (· * D)) (q.map (· * c))) := fun t => by
  have h1 := hv t
  have h2 := hV t
  rw [gO, gO, c8, c8, c8, c8]
  have h3 : c * (D * V t x) = c * (V t q * V t y + V t s) := by rw [h1]
  have h4 : D * (V t p * V t y + V t r) = D * (c * V t x) := by rw [h2]
  grind
 have h1 := CW (Cn.dW _ _) cy hy e (by
  have := s0 (s.map (· * c)) (r.map (· * D))
  simp only [List.length_map] at this
  omega)
 have uK : D ≠ 0 := by omega
 have e1 : s.map (· * c) = r.map (· * D) := Cn.ext (jR cs uW) (jR c2 uK) fun t => JK (by rw [h1]; rfl) t
 rw [← wJ cs hm, ← wJ (Cn.aV r g) hD]
 congr 1
 refine Cn.ext (Cn.aV _ _) (Cn.aV _ _) fun t => ?_
 have e2 : V t s * c = V t r * D := by rw [← c8, e1, c8]
 rw [bT, bT, bT]
 have h5 : m = g * c := by rw [hsg]; grind
 rw [h5]
 have : V t s * (g * c) = g * (V t s * c) := by grind
 rw [this, e2]; grind
def oI (a : ZX) : ZX := ⟨iT a.l, Cn.cut _⟩
def nx (a b : ZX) : ZX := ⟨fH (iT (rz a b).l), Cn.fH _⟩
theorem UY {a b : ZX} (hb : b ≠ 0) : ZX.N (nx a b) < ZX.N b := by
 obtain ⟨_, hN, _⟩ := qJ (a := a) hb
 have h1 := JF (iT (rz a b).l)
 have h2 := j6 (rz a b).l
 have h3 : ZX.N (nx a b) = (fH (iT (rz a b).l)).length := rfl
 have h4 : ZX.N (rz a b) = (rz a b).l.length := rfl
 omega
theorem RC {s n : Nat} {a b : ZX} (ha : BZ s n a) (hb : BZ s n b) (h0 : b ≠ 0) : BZ (s + (ZX.N a + 1 - ZX.N b) * (s + n + 1)) n (nx a b) := Bd.fH (gX (RA ha hb h0))
def sB : Nat → ZX → ZX → List ZX
 | 0, _, _ => []
 | k + 1, a, b => if ZX.N b = 0 then [] else b :: sB k b (nx a b)
theorem jB (k : Nat) (a : ZX) : sB k a 0 = [] := by cases k <;> simp [sB, show ZX.N 0 = 0 by decide]
theorem AM : ∀ {k j : Nat} {a b : ZX}, ZX.N b ≤ k → ZX.N b ≤ j → sB k a b = sB j a b
 | 0, j, a, b, h, _ => by
  have : b = 0 := Classical.byContradiction fun h0 => by have := ZX.aG.1 h0; omega
  rw [this, jB, jB]
 | k + 1, 0, a, b, _, h => by
  have : b = 0 := Classical.byContradiction fun h0 => by have := ZX.aG.1 h0; omega
  rw [this, jB, jB]
 | k + 1, j + 1, a, b, h1, h2 => by
  rw [sB, sB]
  split
  ·rfl
  ·rename_i h0
   have := UY (a := a) (ZX.aG.2 (Nat.pos_of_ne_zero h0))
   rw [AM (k := k) (j := j) (by omega) (by omega)]
def bC (f : ZX) : List ZX := f :: sB (ZX.N f) f (oI (bM f))
theorem ajG (x : List Int) : PP (qd x 1) = PI x := by rw [FJ]; show PV.sl (emap re (qs x)) = PV.sl (emap ri x); rw [z7]
theorem wR {s n : Nat} {a : ZX} (b : BZ s n a) (qA : 1 ≤ s) (hs : s ≤ YY) (hn : n < 1099511627776) : aK env.P 124 [PI a.l] (PI (oI a).l) := by
 have := JH a.l 1 (by decide) b (by exact Nat.le_trans (cO (k := 1) (by decide) (by decide)) qA) a.c qA hs hn
 rw [show ((1 : Nat) : Int) = 1 from rfl, ajG] at this
 exact this
structure Ch (s n : Nat) (f : ZX) : Prop where
 bz : BZ s n f
 hn : n ≤ 20
 tS : 1 ≤ n
 hC : (s + 5 + n + 1) * 4 ^ n ≤ 4500000000
theorem Ch.pot {s n : Nat} {f : ZX} (h : Ch s n f) : xT 4500000000 n (s + 5) f (oI (bM f)) := by
 have h1 := l6 f
 have h2 : ZX.N (oI (bM f)) ≤ ZX.N (bM f) := j6 _
 have h3 := h.bz.N
 have hn := h.tS
 unfold xT
 split
 ·exact Nat.le_trans (Nat.mul_le_mul_left _ (Nat.pow_le_pow_right (by decide) h3)) h.hC
 ·have h4 : ZX.N (oI (bM f)) = 0 := by omega
  have h5 := h.hC
  rw [h4, Nat.pow_zero, Nat.mul_one]
  exact Nat.le_trans (Nat.mul_le_mul_left _ (show 2 ≤ 4 ^ n from Nat.le_trans (by decide) (Nat.pow_le_pow_right (n := 4) (by decide) hn))) h5
theorem aaG {l : List ZX} {a : ZX} {i : Nat} (h : i < l.length) : nth (l ++ [a]) i = nth l i := by
 simp only [nth, List.getElem?_append_left h]
theorem wS {s n : Nat} {a f : ZX} (hS : aK env.P 26 [PI a.l] (PI f.l)) (h : Ch s n f) (h1 : 1 ≤ s) : aK env.P 57 [PI a.l] (aI zq (bC f)) := by
 have hn := h.hn
 have hp := h.pot
 have hs := hp.le
 have bd : BZ (s + 5) n (bM f) := h.bz.bM (by omega)
 have d1 := tT h.bz (by show s ≤ 137438953472; omega) (by omega)
 have d2 := wR bd (by omega) (by show s + 5 ≤ 137438953472; omega) (by omega)
 have b2 : BZ (s + 5) n (oI (bM f)) := gX bd
 have b1 : BZ (s + 5) n f := h.bz.mono (by omega) (Nat.le_refl _)
 have ND : ZX.N (oI (bM f)) ≤ ZX.N f := Nat.le_trans (j6 _) (Nat.le_trans (l6 f) (by omega))
 have hc : bC f = f :: sB (ZX.N f) f (oI (bM f)) := rfl
 rw [AM ND (Nat.le_refl _)] at hc
 generalize hC : bC f = C at *
 generalize oI (bM f) = g0 at *
 generalize (bM f).l = dl at *
 have QG : f.l = f.l := rfl
 refine aB (E := env) (fun _ => 0) [(0, PI a.l)] Tryz.func57 rfl (by kernel_rfl) (by kernel_rfl) (show 1 ≤ 31 by decide) (by simp) ?_
 refine W.sr ?_; simp (disch := omega) [gw]; refine W.lx [0] ?_; simp
 refine W.sr ?_
 simp (disch := omega) [gw]
 refine aA hS ?_
 simp (disch := omega) [gw]
 refine W.lx [3] ?_; simp
 refine W.aaC 1 rfl rfl (fun K hK => ?_)
 simp (disch := omega) [gw]
 refine W.lw [3, 4] hK ?_; clear hK K; simp
 refine W.sr ?_
 simp (disch := omega) [gw]
 refine aA d1 ?_
 simp (disch := omega) [gw]
 refine aA d2 ?_
 simp (disch := omega) [gw]
 refine W.lx [4, 5] ?_; simp
 refine W.seq ?_
 refine W.block ?_
 refine W.a8 (fun k σ => ∃ (L : List ZX) (x g : ZX) (i ver s : Nat) (rows : Pm.Rows) (clk : Nat), σ = ⟨fa [(4, .own 9 ver 0 (i + 1)), (5, PI g.l)], rows, clk⟩ ∧ rows 9 = some ⟨ver, 24, 1, emap zq L⟩ ∧ L.length = i + 1 ∧ nth L i = x ∧
  L ++ sB k x g = C ∧ k = ZX.N g ∧ BZ s n x ∧ BZ s n g ∧ 1 ≤ s ∧ xT 4500000000 n s x g ∧ i + ZX.N g ≤ 20) (ZX.N g0) ?_ ?_
 ·exact ⟨_, .refl, [f], f, g0, 0, _, s + 5, _, _, rfl, by simp [emap], rfl, rfl, hc.symm, rfl, b1, b2, by omega, hp, by have := b2.N; omega⟩
 rintro k _ ⟨L, x, g, i, ver, s, rows, clk, rfl, hr, hL, hx, NN, rfl, bx, bg, h1, hp, hiN⟩
 have hs := hp.le
 have hlx := bx.len
 have hlg := bg.len
 have hLl : (emap zq L).length = i + 1 := by simp [emap, hL]
 refine W.seq ?_
 refine W.sr ?_; simp (disch := omega) [gw]; refine W.lx [4, 5, 15] ?_; simp
 refine W.cond ⟨_, rfl, fun h => ?_, fun h => ?_⟩
 ·have hg : g ≠ 0 := ZX.aG.2 (by show 0 < g.l.length; simp at h; omega)
  obtain ⟨TQ, hN, _⟩ := qJ (a := x) hg
  have br := RA bx bg hg
  have hmul : (x.l.length + 1 - g.l.length + 1) * (s + n + 1) ≤ 22 * 4500000000 := Nat.mul_le_mul (by omega) (by omega)
  have agH : (ZX.N x + 1 - ZX.N g) * (s + n + 1) ≤ 22 * 4500000000 := Nat.mul_le_mul (by have : ZX.N x = x.l.length := rfl; omega) (by omega)
  have hR := DM (s := s) (s' := s) (N := n) bx bg x.c g.c (ZX.aG.1 hg) (by omega) (by show _ < 137438953472; omega)
  rw [← TQ] at hR
  have hZ := wR br (by omega) (by show _ ≤ 137438953472; omega) (by omega)
  have hNg := DA (oI (rz x g)).l ((gX br).mono (by show _ ≤ 137438953472; omega) (by omega))
  have e3 : fH (oI (rz x g)).l = (nx x g).l := rfl
  rw [e3] at hNg
  have ND := UY (a := x) hg
  have hp2 := hp.step ND
  have bn := RC bx bg hg
  have hi : i < L.length := by omega
  have hx2 : nth (L ++ [g]) i = x := by rw [aaG hi]; exact hx
  have apf : i < (L ++ [g]).length := by simp; omega
  have hch : L ++ [g] ++ sB (ZX.N (nx x g)) g (nx x g) = C := by
   rw [← NN]
   obtain ⟨j, hj⟩ : ∃ j, ZX.N g = j + 1 := ⟨ZX.N g - 1, by have := ZX.aG.1 hg; have : ZX.N g = g.l.length := rfl; omega⟩
   rw [hj, sB, if_neg (by omega), AM (k := j) (j := ZX.N (nx x g)) (by omega) (Nat.le_refl _)]
   simp
  generalize (rz x g).l = rl at *
  generalize (oI (rz x g)).l = pl at *
  generalize hnx : nx x g = nn at *
  have hnl : nn.l = nn.l := rfl
  refine W.skip ?_
  refine W.block ?_
  refine W.sr ?_
  simp (disch := omega) [gw, hr, hLl]
  refine W.lx [4, 5] ?_; simp
  have e1 : ((i : Int) + 1 + 1 - 2).toNat = i := by omega
  refine W.bY (fun K hK => ?_)
  simp (disch := omega) [gw, e1, apf, hx2]
  refine aA hR ?_
  simp (disch := omega) [gw]
  refine aA hZ ?_
  simp (disch := omega) [gw]
  refine aA hNg ?_
  simp (disch := omega) [gw]
  refine hK _ ⟨ZX.N nn, _, aC _ [4, 5], ND, L ++ [g], g, nn, i + 1, _, _, _, _, rfl, by simp, by simp [hL], ?_, hch, rfl, bg.mono (by omega) (Nat.le_refl _), bn, by omega, hp2, by omega⟩
  rw [cS (by simp; omega)]
  simp [← hL]
 ·have hg : g = 0 := by
   refine Classical.byContradiction fun h0 => ?_
   have h1 := ZX.aG.1 h0
   have h2 : ZX.N g = g.l.length := rfl
   simp at h; rw [h2, h] at h1; simp at h1
  subst hg
  rw [jB, List.append_nil] at NN
  subst NN
  have uH : List.take (i + 1) L = L := List.take_of_length_le (by omega)
  refine W.exit ?_; simp only [pX, if_true, if_false, reduceIte, Nat.reduceEqDiff]
  refine W.sr ?_; simp (disch := omega) [gw]; refine W.lx [2] ?_; simp
  refine W.ret ?_
  simp [go, hr, hLl, uH]
end Go.Proofs.YtbbjgncblhfegaaGreat
