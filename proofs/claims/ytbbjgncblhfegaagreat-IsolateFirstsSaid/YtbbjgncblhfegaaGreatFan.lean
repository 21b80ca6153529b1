import Derived.Test.YtbbjgncblhfegaaGreatFah
import Derived.Test.YtbbjgncblhfegaaGreatFak
import Derived.Test.YtbbjgncblhfegaaGreatFam
set_option linter.unusedSimpArgs false
set_option linter.unusedVariables false
namespace Go.Proofs.YtbbjgncblhfegaaGreat
open Go Pm
def uY (l : Int) : Int := if l < 0 then -1 else 1
theorem aeo (l : Int) : uY l * l = l.natAbs := by unfold uY; split <;> omega
def RJ (y x : List Int) : List Int := uT y (lead y).natAbs (uY (lead y) * lead x) (x.length - y.length) x
def RL (y x : List Int) (i : Nat) : Int := nth x i * ((lead y).natAbs : Int) - if x.length - y.length ≤ i then uY (lead y) * lead x * nth y (i - (x.length - y.length)) else 0
theorem aaL {y x : List Int} (h : y.length ≤ x.length) : aM ((List.range x.length).map (RL y x)) = RJ y x := by
 refine Cn.ext (Cn.cut _) (Cn.eC _ _) fun t => ?_
 unfold RJ
 rw [cF, uT, gS, bV, cR, mA]
 obtain ⟨k, hk⟩ : ∃ k, x.length = k + y.length := ⟨x.length - y.length, by omega⟩
 have e1 : (List.range x.length).map (RL y x) = (List.range x.length).map fun i => nth x i * ((lead y).natAbs : Int) + (-(if x.length - y.length ≤ i then uY (lead y) * lead x * nth y (i - (x.length - y.length)) else 0)) := List.map_congr_left fun i _ => by unfold RL; omega
 rw [e1, qL, fN, iS (Nat.le_refl _)]
 generalize uY (lead y) * lead x = T at *
 have e2 : ((List.range x.length).map fun i => -(if x.length - y.length ≤ i then T * nth y (i - (x.length - y.length)) else 0)) = List.replicate k 0 ++ y.map fun v => v * (-T) := by
  have hk2 : x.length - y.length = k := by omega
  rw [hk2, hk, List.range_add, List.map_append, List.map_map]
  congr 1
  ·rw [List.eq_replicate_iff]
   refine ⟨by simp, fun v hv => ?_⟩
   simp only [List.mem_map, List.mem_range] at hv
   obtain ⟨i, hi, rfl⟩ := hv
   rw [if_neg (by omega)]; rfl
  ·have h2 := m8 (x := y) (n := y.length) (Nat.le_refl _)
   rw [Nat.sub_self, List.replicate_zero, List.append_nil] at h2
   conv => rhs; rw [← h2]
   rw [List.map_map]
   refine List.map_congr_left fun i _ => ?_
   simp only [Function.comp_apply]
   rw [if_pos (by omega), Nat.add_sub_cancel_left]; grind
 rw [e2, dK, oN]
 have h3 := fN (t := t) (-T) id y
 simp only [id_eq, List.map_id_fun] at h3
 rw [h3, List.length_replicate, show x.length - y.length = k by omega]
 grind
theorem qV {y x : List Int} (hy : 0 < y.length) (h : y.length ≤ x.length) : (RJ y x).length < x.length := by
 have h1 := x7 (b := y) (r := x) (i := x.length - y.length) hy (by omega)
 rw [show tJ y x (x.length - y.length) = lead x from by rw [tJ, if_pos (by omega)]] at h1
 have e : RJ y x = aX (uT y (lead y) (lead x) (x.length - y.length) x) (uY (lead y)) := Cn.ext (Cn.eC _ _) (Cn.aX _ _) fun t => by
  unfold RJ
  rw [bV, uT, uT, gS, gS, bV, bV, cR, cR, mA, mA, ← aeo]
  grind
 rw [e]
 have := n4 (uT y (lead y) (lead x) (x.length - y.length) x) (uY (lead y))
 omega
theorem aaM (t : Int) (y x : List Int) : ((lead y).natAbs : Int) * V t x = t ^ (x.length - y.length) * (uY (lead y) * lead x) * V t y + V t (RJ y x) := by
 unfold RJ
 rw [uT, gS, bV, cR, mA]; grind
def rq (y : List Int) : Nat → List Int → List Int
 | 0, x => x
 | n + 1, x => if x.length < y.length then x else rq y n (RJ y x)
theorem ajT {y x : List Int} (h : x.length < y.length) : ∀ n, rq y n x = x
 | 0 => rfl
 | n + 1 => by rw [rq, if_pos h]
theorem RM {y : List Int} (cy : Cn y) (hy : 0 < y.length) : ∀ (n : Nat) (x : List Int), Cn x → x.length < n → Cn (rq y n x) ∧ (rq y n x).length < y.length ∧ ∃ (m : Int) (q : List Int), m ≠ 0 ∧ ∀ t, m * V t x = V t q * V t y + V t (rq y n x)
 | 0, x, _, h => by omega
 | n + 1, x, cx, h => by
  rw [rq]
  split
  ·rename_i h1
   exact ⟨cx, h1, 1, [], by decide, fun t => by simp [V]⟩
  ·rename_i h1
   have hl := qV hy (show y.length ≤ x.length by omega)
   obtain ⟨h2, h3, m, q, hm, h4⟩ := RM cy hy n (RJ y x) (Cn.eC _ _) (by omega)
   have wH := cH cy hy
   refine ⟨h2, h3, m * (lead y).natAbs, gC q (aX (oS (x.length - y.length) (uY (lead y) * lead x)) m), Int.mul_ne_zero hm (by omega), fun t => ?_⟩
   have h5 := aaM t y x
   have h6 := h4 t
   rw [pJ, bV, mA]
   have : m * ((lead y).natAbs : Int) * V t x = m * (((lead y).natAbs : Int) * V t x) := by grind
   rw [this, h5]
   grind
theorem OD {s s' N : Nat} {y x : List Int} (qU : Bd 2 s' N y) (bx : Bd 2 s N x) (hy : 0 < y.length) (h : y.length ≤ x.length) : Bd 2 (s + (s' + N + 1)) N (RJ y x) := by
 have hl := qV hy h
 have hlx := bx.len
 have hls : sz 2 ((lead y).natAbs : Int) ≤ s' := Nat.le_trans (cG (by decide) (by rw [Int.natAbs_natCast]; exact Nat.le_refl _)) (eU qU)
 have hlr : sz 2 (uY (lead y) * lead x) ≤ s := Nat.le_trans (cG (by decide) (by
  rw [Int.natAbs_mul]
  have : (uY (lead y)).natAbs = 1 := by unfold uY; split <;> rfl
  rw [this, Nat.one_mul]; exact Nat.le_refl _)) (eU bx)
 have b1 : Bd 2 (s + s' + N) (max N (x.length - y.length + 1 + N)) (aX x ((lead y).natAbs : Int)) := (bx.aX (by decide) hls).mono (by omega) (by omega)
 have b2 : Bd 2 (s + s' + N) (max N (x.length - y.length + 1 + N)) (bJ (oS (x.length - y.length) (uY (lead y) * lead x)) y) := ((Bd.oS hlr (x.length - y.length)).bJ (by decide) qU).mono (by omega) (by omega)
 exact ⟨by omega, fun c hc => by
  have h6 := (Bd.eC (by decide) b1 b2).sz c hc
  omega⟩
theorem agR {s' N : Nat} {y : List Int} (qU : Bd 2 s' N y) (hy : 0 < y.length) : ∀ (n j s : Nat) (x : List Int), Bd 2 s N x → x.length + 1 ≤ y.length + j → Bd 2 (s + j * (s' + N + 1)) N (rq y n x)
 | 0, j, s, x, bx, _ => bx.mono (by simp) (Nat.le_refl _)
 | n + 1, j, s, x, bx, hj => by
  rw [rq]
  split
  ·exact bx.mono (by simp) (Nat.le_refl _)
  ·rename_i h1
   obtain ⟨i, rfl⟩ : ∃ i, j = i + 1 := ⟨j - 1, by omega⟩
   have hl := qV hy (show y.length ≤ x.length by omega)
   have := agR qU hy n i (s + (s' + N + 1)) (RJ y x) (OD qU bx hy (by omega)) (by omega)
   rw [Nat.add_mul, Nat.one_mul]
   exact this.mono (by omega) (Nat.le_refl _)
theorem ajU (n : Nat) : RI (n : Int) = .ag [aJ aF (aT DD n), .bool false] := by
 simp [show ¬ ((n : Int) < 0) by omega]
set_option maxHeartbeats 2000000 in
theorem D5 {s s' N : Nat} {x0 y : List Int} (bx0 : Bd 2 s N x0) (qU : Bd 2 s' N y) (cx0 : Cn x0) (cy : Cn y) (NI : 0 < y.length) (hN : N ≤ 1000) (hB : s + (x0.length + 1 - y.length + 1) * (s' + N + 1) < YY) :
  aI env.P 127 [PI x0, PI y] (PI (rq y (x0.length + 1) x0)) := by
 have hlN := bx0.len
 have hNy := qU.len
 obtain ⟨R, hR⟩ : ∃ R, R = rq y (x0.length + 1) x0 := ⟨_, rfl⟩
 rw [← hR]
 obtain ⟨M, hM⟩ : ∃ M, M = s + (x0.length + 1 - y.length + 1) * (s' + N + 1) := ⟨_, rfl⟩
 rw [← hM] at hB
 have hB : M < 137438953472 := hB
 have hls : sz 2 ((lead y).natAbs : Int) ≤ s' := Nat.le_trans (cG (by decide) (by rw [Int.natAbs_natCast]; exact Nat.le_refl _)) (eU qU)
 have e2 : ((y.length : Int) - 1).toNat = y.length - 1 := by omega
 have LK : nth y (y.length - 1) = lead y := rfl
 refine aB (E := env) (fun id => if id = 16 then 2 else 0) [(0, PI x0), (1, PI y)] Tryz.func127 rfl (by kernel_rfl) (by kernel_rfl) (show 2 ≤ 78 by decide) (by simp) ?_
 refine W.sr ?_; simp (disch := omega) [gw]; refine W.lx [0, 1] ?_; simp
 refine W.sr ?_; simp (disch := omega) [gw, e2, LK]; refine W.lx [0, 1, 5] ?_; simp
 refine W.sr ?_; simp (disch := omega) [gw]; refine W.lx [0, 1, 5, 6] ?_; simp
 refine W.sr ?_; simp (disch := omega) [gw]; refine W.lx [0, 1, 5, 6] ?_; simp
 refine W.seq ?_
 refine W.block ?_
 refine W.bE (fun n σ => ∃ (x : List Int) (j u : Nat) (rows : Pm.Rows) (clk : Nat), σ = ⟨fa [(0, PI x), (1, PI y), (5, .ptr 5 0 0 0), (6, .ptr 6 1 0 0)], rows, clk⟩ ∧
  rows 5 = some ⟨0, 48, 2, [[aJ aF (aT DD (lead y).natAbs), .bool (decide (lead y < 0))]]⟩ ∧ rows 6 = some ⟨1, 48, 2, [[aJ aF (aT DD (lead y).natAbs), .bool false]]⟩ ∧
  Cn x ∧ x.length < n ∧ rq y n x = R ∧ Bd 2 u N x ∧ x.length + 1 ≤ y.length + j ∧ u + (j + 1) * (s' + N + 1) ≤ M) (x0.length + 1) ?_ ?_
 ·exact ⟨_, .refl, x0, x0.length + 1 - y.length, s, _, _, rfl, by simp, by simp, cx0, by omega, hR.symm, bx0, by omega, by omega⟩
 rintro n _ ⟨x, j, u, rows, clk, rfl, mB, tX, cx, hxn, hxR, bx, hj, hu⟩
 have hlx := bx.len
 refine W.seq ?_
 refine W.sr ?_; simp (disch := omega) [gw]; refine W.lx [0, 1, 5, 6, 25] ?_; simp
 refine W.cond ⟨_, rfl, fun h => ?_, fun h => ?_⟩
 ·have h : y.length ≤ x.length := by simp at h; omega
  obtain ⟨n, rfl⟩ : ∃ m, n = m + 1 := ⟨n - 1, by omega⟩
  rw [rq, if_neg (by omega)] at hxR
  have ZE := qV NI h
  obtain ⟨k, hk⟩ : ∃ k, k = x.length - y.length := ⟨_, rfl⟩
  have hkI : (x.length : Int) - (y.length : Int) = k := by omega
  have e1 : ((x.length : Int) - 1).toNat = x.length - 1 := by omega
  have hxl : nth x (x.length - 1) = lead x := rfl
  have apy := aaL h
  have b2 := OD qU bx NI h
  have hlX : sz 2 (lead x) ≤ u := eU bx
  have hu1 : u + (s' + N + 1) ≤ M := by
   have := Nat.le_mul_of_pos_left (s' + N + 1) (show 0 < j + 1 by omega)
   omega
  refine W.skip ?_
  refine W.block ?_
  refine W.sr ?_; simp (disch := omega) [gw, hkI]; refine W.lx [0, 1, 5, 6, 7] ?_; simp
  refine W.sr ?_; simp (disch := omega) [gw, e1, hxl]; refine W.lx [0, 1, 5, 6, 7, 8] ?_; simp
  obtain ⟨T, hT⟩ : ∃ T, T = uY (lead y) * lead x := ⟨_, rfl⟩
  have hTs : sz 2 T ≤ u := Nat.le_trans (cG (by decide) (by
   rw [hT, Int.natAbs_mul]
   have : (uY (lead y)).natAbs = 1 := by unfold uY; split <;> rfl
   rw [this, Nat.one_mul]; exact Nat.le_refl _)) hlX
  have hTp : (lead y < 0 → T = -lead x) ∧ (¬ lead y < 0 → T = lead x) := by
   rw [hT]; unfold uY
   constructor
   ·intro h; rw [if_pos h]; omega
   ·intro h; rw [if_neg h]; omega
  refine W.fI (fun σ => ∃ (v : Nat) (rows : Pm.Rows) (clk : Nat), σ = ⟨fa [(0, PI x), (1, PI y), (5, .ptr 5 0 0 0), (6, .ptr 6 1 0 0), (7, .int .i64 k), (8, .ptr 8 v 0 0)], rows, clk⟩ ∧
   rows 5 = some ⟨0, 48, 2, [[aJ aF (aT DD (lead y).natAbs), .bool (decide (lead y < 0))]]⟩ ∧ rows 6 = some ⟨1, 48, 2, [[aJ aF (aT DD (lead y).natAbs), .bool false]]⟩ ∧
   rows 8 = some ⟨v, 48, 2, [[aJ aF (aT DD T.natAbs), .bool (decide (T < 0))]]⟩) ?_ ?_
  ·refine W.sr ?_; simp (disch := omega) [gw, mB]; refine W.lx [0, 1, 5, 6, 7, 8, 39] ?_; simp
   refine W.cond ⟨_, rfl, fun h => ?_, fun h => ?_⟩
   ·have h : lead y < 0 := by simpa using h
    have ZL := pQ (lead x)
    rw [← hTp.1 h] at ZL
    refine W.cB (fun K hK => ?_)
    simp (disch := omega) [gw]
    refine aA ZL ?_
    simp (disch := omega) [gw]
    exact hK _ ⟨_, aC _ [0, 1, 5, 6, 7, 8], _, _, _, rfl, by simp [mB], by simp [tX], by simp⟩
   ·have h : ¬ lead y < 0 := by simpa using h
    rw [hTp.2 h]
    refine W.skip ?_
    exact ⟨_, aC _ [0, 1, 5, 6, 7, 8], _, _, _, rfl, by simp [mB], by simp [tX], by simp⟩
  clear mB tX rows clk
  rintro _ ⟨v8, rows, clk, rfl, mB, tX, xS⟩
  refine W.sr ?_; simp (disch := omega) [gw]; refine W.lx [0, 1, 5, 6, 7, 8, 9] ?_; simp
  refine W.nil 9 9 50 4 (by simp) (by decide) (fun K hK => ?_)
  refine W.lw [0, 1, 5, 6, 7, 8, 9] hK ?_; clear hK K; simp
  refine W.seq ?_
  refine W.sr ?_; simp (disch := omega) [gw]; refine W.lx [0, 1, 5, 6, 7, 8, 9, 43, 44] ?_; simp
  refine W.block ?_
  refine W.bE (fun m σ => ∃ (i v9 : Nat) (rows : Pm.Rows) (clk : Nat), σ = ⟨fa [(0, PI x), (1, PI y), (5, .ptr 5 0 0 0), (6, .ptr 6 1 0 0), (7, .int .i64 k), (8, .ptr 8 v8 0 0), (9, .own 9 v9 0 i), (43, .int .i64 x.length), (44, .int .i64 i)], rows, clk⟩ ∧
   rows 5 = some ⟨0, 48, 2, [[aJ aF (aT DD (lead y).natAbs), .bool (decide (lead y < 0))]]⟩ ∧ rows 6 = some ⟨1, 48, 2, [[aJ aF (aT DD (lead y).natAbs), .bool false]]⟩ ∧
   rows 8 = some ⟨v8, 48, 2, [[aJ aF (aT DD T.natAbs), .bool (decide (T < 0))]]⟩ ∧ rows 9 = some ⟨v9, 50, 4, emap ri ((List.range i).map (RL y x))⟩ ∧ i + m = x.length) x.length ?_ ?_
  ·exact ⟨_, aC _ [0, 1, 5, 6, 7, 8, 9, 43, 44], 0, _, _, _, rfl, by simp [mB], by simp [tX], by simp [xS], by simp [emap], by omega⟩
  clear mB tX xS rows clk
  rintro m _ ⟨i, v9, rows, clk, rfl, mB, tX, xS, J0, him⟩
  have uW : ((List.range i).map (RL y x)).length = i := by simp
  refine W.sr ?_; simp (disch := omega) [gw]; refine W.lx [0, 1, 5, 6, 7, 8, 9, 43, 44, 45] ?_; simp
  refine W.seq ?_
  refine W.cond ⟨_, rfl, fun h => ?_, fun h => ?_⟩
  ·have hi : i < x.length := by simp at h; omega
   have hxi := bx.nth i
   have m1 := dS (nth x i) ((lead y).natAbs : Int) (by show sz 2 _ < 1099511627776; omega) (by show sz 2 _ < 1099511627776; omega)
   rw [ajU] at m1
   have s1 : sz 2 (nth x i * ((lead y).natAbs : Int)) ≤ u + s' := bT (by decide) hxi hls
   have er : (List.range (i + 1)).map (RL y x) = (List.range i).map (RL y x) ++ [RL y x i] := by
    rw [List.range_succ, List.map_append]; rfl
   have hF : RL y x i = nth x i * ((lead y).natAbs : Int) - if k ≤ i then T * nth y (i - k) else 0 := by unfold RL; rw [hk, hT]
   generalize (List.range i).map (RL y x) = acc at *
   generalize hP : nth x i * ((lead y).natAbs : Int) = P at *
   refine W.skip ?_
   refine W.seq ?_
   refine W.block ?_
   refine W.sr ?_; simp (disch := omega) [gw]; refine W.lx [0, 1, 5, 6, 7, 8, 9, 10, 43, 44] ?_; simp
   refine W.sd ?_
   simp (disch := omega) [gw, tX]
   refine aA m1 ?_
   simp (disch := omega) [gw]
   rw [if_pos (by kernel_rfl)]
   simp (disch := omega) [gw]
   refine W.lx [0, 1, 5, 6, 7, 8, 9, 10, 11, 43, 44] ?_; simp
   generalize hQ : RL y x i = Q at *
   have sQ : sz 2 Q ≤ u + (s' + N + 1) := by
    have S5 : sz 2 (nth y (i - k)) ≤ s' := qU.nth _
    rw [hF]
    split
    ·have := bT (b := 2) (by decide) hTs S5
     have h1 := mP (b := 2) (by decide) (x := P) (y := -(T * nth y (i - k))) (k := u + s') s1 (by rw [nZ]; exact this)
     rw [← Int.sub_eq_add_neg] at h1
     omega
    ·rw [Int.sub_zero]; omega
   refine W.fI (fun σ => ∃ (v11 : Nat) (rows : Pm.Rows) (clk : Nat), σ = ⟨fa [(0, PI x), (1, PI y), (5, .ptr 5 0 0 0), (6, .ptr 6 1 0 0), (7, .int .i64 k), (8, .ptr 8 v8 0 0), (9, .own 9 v9 0 i), (11, .ptr 11 v11 0 0), (43, .int .i64 x.length), (44, .int .i64 i)], rows, clk⟩ ∧
    rows 5 = some ⟨0, 48, 2, [[aJ aF (aT DD (lead y).natAbs), .bool (decide (lead y < 0))]]⟩ ∧ rows 6 = some ⟨1, 48, 2, [[aJ aF (aT DD (lead y).natAbs), .bool false]]⟩ ∧
    rows 8 = some ⟨v8, 48, 2, [[aJ aF (aT DD T.natAbs), .bool (decide (T < 0))]]⟩ ∧ rows 9 = some ⟨v9, 50, 4, emap ri acc⟩ ∧
    rows 11 = some ⟨v11, 48, 2, [[aJ aF (aT DD Q.natAbs), .bool (decide (Q < 0))]]⟩) ?_ ?_
   ·refine W.sr ?_; simp (disch := omega) [gw]; refine W.lx [0, 1, 5, 6, 7, 8, 9, 10, 11, 43, 44, 56] ?_; simp
    refine W.cond ⟨_, rfl, fun h => ?_, fun h => ?_⟩
    ·have hki : k ≤ i := by simp at h; omega
     rw [if_pos hki] at hF
     have eik : (i : Int) - (k : Int) = ((i - k : Nat) : Int) := by omega
     have hyb : i - k < y.length := by omega
     have m2 := dS T (nth y (i - k)) (by show sz 2 _ < 1099511627776; omega) (by have := qU.nth (i - k); show sz 2 _ < 1099511627776; omega)
     have s2 := bT (b := 2) (by decide) hTs (qU.nth (i - k))
     have m3 := JI P (T * nth y (i - k)) (by show sz 2 _ < 1099511627776; omega) (by show sz 2 _ < 1099511627776; omega)
     rw [← hF] at m3
     generalize T * nth y (i - k) = P2 at *
     refine W.M9 (fun K hK => ?_)
     simp (disch := omega) [gw, xS, eik]
     refine aA m2 ?_
     simp (disch := omega) [gw]
     refine aA m3 ?_
     simp (disch := omega) [gw]
     refine cA (by kernel_rfl) ?_
     simp (disch := omega) [gw]
     exact hK _ ⟨_, aC _ [0, 1, 5, 6, 7, 8, 9, 11, 43, 44], _, _, _, rfl, by simp [mB], by simp [tX], by simp [xS], by simp [J0], by simp⟩
    ·have hki : ¬ k ≤ i := by simp at h; omega
     rw [if_neg hki, Int.sub_zero] at hF
     rw [hF]
     refine W.skip ?_
     exact ⟨_, aC _ [0, 1, 5, 6, 7, 8, 9, 11, 43, 44], _, _, _, rfl, by simp [mB], by simp [tX], by simp [xS], by simp [J0], by simp⟩
   clear mB tX xS J0 rows clk
   rintro _ ⟨v11, rows, clk, rfl, mB, tX, xS, J0, GM⟩
   have o1 := n6 1 (by decide) (by decide)
   have mk := DQ Q (by show sz 2 Q < 549755813888; omega)
   refine W.M9 (fun K hK => ?_)
   rw [if_pos rfl, dU]
   simp (disch := omega) [gw, GM]
   refine aA o1 ?_
   simp (disch := omega) [gw]
   refine aA mk ?_
   simp (disch := omega) [gw, J0, uW]
   refine W.lw [0, 1, 5, 6, 7, 8, 9, 43, 44] hK ?_; clear hK K; simp
   refine W.cB (fun K hK => ?_); simp (disch := omega) [gw]
   refine hK _ ⟨m - 1, _, aC _ [0, 1, 5, 6, 7, 8, 9, 43, 44], by omega, i + 1, _, _, _, rfl, by simp [mB], by simp [tX], by simp [xS], by rw [er]; simp, by omega⟩
  ·have hi : i = x.length := by simp at h; omega
   subst hi
   have eY : ((List.range x.length).map (RL y x)).length = x.length := by simp
   generalize (List.range x.length).map (RL y x) = acc at *
   have ez := bH eY
   have lT := nD acc (by omega)
   rw [apy] at lT
   refine W.exit ?_; simp only [pX, if_true, if_false, reduceIte, Nat.reduceEqDiff]
   refine W.cB (fun K hK => ?_)
   simp (disch := omega) [gw, J0, ez]
   refine aA lT ?_
   simp (disch := omega) [gw]
   obtain ⟨j, rfl⟩ : ∃ i, j = i + 1 := ⟨j - 1, by omega⟩
   rw [Nat.add_mul, Nat.one_mul] at hu
   refine hK _ ⟨n, _, aC _ [0, 1, 5, 6], by omega, RJ y x, j, u + (s' + N + 1), _, _, rfl, by simp [mB], by simp [tX], Cn.eC _ _, by omega, hxR, b2, by omega, by omega⟩
 ·have h : x.length < y.length := by simp at h; omega
  rw [ajT h] at hxR
  subst hxR
  refine W.exit ?_; simp only [pX, if_true, if_false, reduceIte, Nat.reduceEqDiff]
  refine W.sr ?_; simp (disch := omega) [gw]; refine W.lx [4] ?_; simp
  refine W.ret ?_
  simp [go]
end Go.Proofs.YtbbjgncblhfegaaGreat
namespace Pm
open Go Go.RowKit
section
variable {E : Env} {c : Cx} {w0 : World} {S0 : dF} {m : Nat} {G : Gs}
theorem aep (hI : Inv w0 S0 c) {t e : TypeId} {n bb len : Nat} {z : List PV} (hE : E.ty t = .slice e n bb z) {parts : Array (Nat × Operand)} {ρ : Operand → PV} {vρ : Operand → Value} (hρ : ∀ x, aK c (ρ x) (vρ x))
  {els : List (List PV)} (yW : fW n 0 (parts.toList.map fun x => (x.1, ρ x.2)) = some els) (hlen : len = els.length) (hsm : len ≤ 4096) (hn : n ≤ 4096)
  (gW : ∀ e ∈ els, ∀ p ∈ e, gV c.rows p) :
  ∃ bZ, (Instr.buildSlice t len (parts.map fun (i, x) => (i, vρ x))).run E.P c.w = .ok (.slice (some ⟨c.w.heap.size, 0, none⟩) len len) (c.w.alloc (.cells bZ e)) ∧ bZ.size = len * n ∧ bB (aQ c) els.flatten bZ.toList ∧ (∀ u ∈ bZ.toList, u.oneCell' = true) ∧ (∀ e ∈ els, e.length = n) ∧ 0 < n := by
 obtain ⟨hu, hnp, EW, i, zv, hi, hz, hs, _, L5, _⟩ := eM hE
 obtain ⟨g1, g2, g3⟩ := mN yW
 have PT : parts.size = els.length := by rw [g1]; simp
 have asd : zv.cells.size = n := by rw [← EW, ← L5]; simp
 have C0 : ∀ j (x : Nat × Value), ((parts.map fun (i, x) => (i, vρ x)).toList)[j]? = some x → x.1 = 0 + j ∧ ∃ e, els[j]? = some e ∧ bB (aQ c) e x.2.cells.toList ∧ ∀ u ∈ x.2.cells.toList, u.oneCell' = true := by
  intro j x hx
  simp at hx
  obtain ⟨a, b, fU, rfl⟩ := hx
  obtain ⟨q1, e, q2, q3⟩ := g3 j (a, ρ b) (by simp; exact ⟨a, b, fU, rfl, rfl⟩)
  have q4 := k8 (hρ b) q3 (fun q hq => gW e (List.mem_of_getElem? q2) q hq)
  exact ⟨q1, e, q2, q4.1, q4.2⟩
 obtain ⟨bZ, f1, f2⟩ := yZ (n := n) (parts.map fun (i, x) => (i, vρ x)).toList 0 ((Array.range (len * n)).map (zv.cells[· % zv.cells.size]!)) (fun j x hx => by
  obtain ⟨q1, e, q2, q3, _⟩ := C0 j x hx
  refine ⟨q1, ?_⟩
  have := q3.length
  rw [g2 e (List.mem_of_getElem? q2)] at this
  simpa using this.symm) (by simp [PT, hlen])
 simp only [Nat.zero_mul, List.take_zero, List.nil_append] at f2
 have i5 : (Instr.buildSlice t len (parts.map fun (i, x) => (i, vρ x))).run E.P c.w = .ok (.slice (some ⟨c.w.heap.size, 0, none⟩) len len) (c.w.alloc (.cells bZ e)) := by
  have hbound : ¬ (16777216 < len * n) := by
   have : len * n ≤ 4096 * 4096 := Nat.mul_le_mul hsm hn
   omega
  by_cases h0 : len * n = 0
  ·have wH : len = 0 := by
    rcases Nat.mul_eq_zero.1 h0 with h | h
    ·exact h
    ·omega
   have WM : parts = #[] := Array.eq_empty_of_size_eq_zero (by omega)
   subst WM
   subst wH
   simp [Instr.fill] at f1
   subst f1
   have LF : Array.range 0 = #[] := rfl
   simp [Instr.buildSlice, run_underlying hu, cU hi, newRow, Instr.fill, LF]
  ·have f1' : Instr.fill (fun i => some (i * n, n)) ((Array.range (len * n)).map (zv.cells[· % zv.cells.size]!)) (parts.toList.map fun x => (x.1, vρ x.2)) = some bZ := by simpa using f1
   simp only [Instr.buildSlice, Sem.run_bind, run_underlying hu, Result.andThen_ok, cU hi, hs]
   simp [h0, hbound, newRow, zeroValue, typeInfo, hi, hz, f1']
 have e3 : bZ.toList = ((parts.map fun (i, x) => (i, vρ x)).toList.map fun x => x.2.cells.toList).flatten := by rw [f2, List.flatMap_def]
 have key : ∀ (vs : List (Nat × Value)) (es : List (List PV)), vs.length = es.length → (∀ (j : Nat) (x : Nat × Value), vs[j]? = some x → ∃ e, es[j]? = some e ∧ bB (aQ c) e x.2.cells.toList ∧ ∀ u ∈ x.2.cells.toList, u.oneCell' = true) →
   bB (aQ c) es.flatten (vs.map fun x => x.2.cells.toList).flatten ∧ ∀ u ∈ (vs.map fun x => x.2.cells.toList).flatten, u.oneCell' = true := by
  intro vs
  induction vs with
  | nil =>
   intro es hl _
   have : es = [] := List.eq_nil_of_length_eq_zero hl.symm
   subst this
   exact ⟨trivial, by simp⟩
  | cons v vs ih =>
   intro es hl h
   match es, hl with
   | e :: es, hl =>
    obtain ⟨h1, h2⟩ := ih es (by simpa using hl) fun j x hx => by simpa using h (j + 1) x (by simpa using hx)
    obtain ⟨e', q1, q2, q3⟩ := h 0 v (by simp)
    simp at q1; subst q1
    simp only [List.flatten_cons, List.map_cons]
    refine ⟨bB.append q2 h1, fun u hu => ?_⟩
    rcases List.mem_append.1 hu with hu | hu
    ·exact q3 u hu
    ·exact h2 u hu
 obtain ⟨k1, k2⟩ := key (parts.map fun (i, x) => (i, vρ x)).toList els (by simp [PT]) fun j x hx => (C0 j x hx).2
 rw [← e3] at k1 k2
 refine ⟨bZ, i5, ?_, k1, k2, g2, hnp⟩
 have h5 := k1.length
 have fl : ∀ {l : List (List PV)}, (∀ e ∈ l, e.length = n) → l.flatten.length = l.length * n := by
  intro l
  induction l with
  | nil => intro _; simp
  | cons e l ih => intro h; rw [List.flatten_cons, List.length_append, ih (fun e he => h e (by simp [he])), h e (by simp), List.length_cons, Nat.add_mul]; omega
 rw [fl g2, Array.length_toList] at h5
 rw [hlen]; exact h5.symm
def CK (E : Env) (o : Oper) (K : PS → Prop) (σ : PS) : Prop :=
 match o.op with
 | .buildSlice t len parts =>
  match E.ty t with
  | .slice e n _ _ => ∃ els, fW n 0 (parts.toList.map fun x => (x.1, aR σ.f x.2)) = some els ∧ len = els.length ∧ len ≤ 4096 ∧ n ≤ 4096 ∧ (∀ x ∈ els, ∀ p ∈ x, gV σ.rows p) ∧
    EX K σ o.dst (.own (o.dst.getD 0) σ.clock 0 els.length) (o.dst.getD 0) e n els
  | _ => False
 | _ => False
theorem sJ {o : Oper} {a : Act} {w : World} {σ : PS} {K : PS → Prop} (h : CK E o K σ) (hR : Rel w0 S0 m G σ a w) (hd : ∀ t, o.dst = some t → t < m)
  {K' : Act → World → Prop} {Q : Exit → Act → World → Prop} (hK : ∀ σ' a' w', K σ' → Rel w0 S0 m G σ' a' w' → K' a' w') : o.wp E.P a w K' Q := by
 obtain ⟨⟨c, rfl, hr, eY, hI, hf, hG⟩, hn, eN⟩ := hR
 have hρ := kP hf
 obtain ⟨dst, op, type, pos, after, guard⟩ := o
 simp only at hd
 unfold CK at h
 simp only at h
 split at h
 ·rename_i t len parts
  split at h
  ·rename_i e n b z hE
   obtain ⟨els, h1, h2, h3, h4, h5, h⟩ := h
   rw [← hr] at h5
   obtain ⟨bZ, g1, g2, g3, g4, g5, g6⟩ := aep hI hE hρ h1 h2 h3 h4 h5
   obtain ⟨uR, hA⟩ := u5 hI (ver := σ.clock) (fun hu => Nat.lt_irrefl _ (eY _ hu)) (dst.getD 0) e n els.length els.length els bZ rfl (Nat.le_refl _) (by simp only [maxLen]; omega) (by rw [g2, h2]) (by
    rw [List.take_of_length_le (by rw [Array.length_toList, g2, h2]; exact Nat.le_refl _)]; exact g3) g4 g5 g6
   obtain ⟨f', rows', wC, y5⟩ := o8 (K := fun f' r' => K ⟨f', r', σ.clock + 1⟩) hr eY hf hG hn eN h uR hA (j5 (r := ⟨σ.clock, e, n, els⟩) (A := some ⟨c.w.heap.size, 0, none⟩) (cap := els.length) (by simp [dJ]) rfl (Or.inl rfl) (by simp [dJ])) hd
   unfold Oper.wp
   have : (execOp a.eval { dst := dst, op := .buildSlice t len parts, type := type, pos := pos, after := after, guard := guard }).run E.P c.w = .ok (.value (.slice (some ⟨c.w.heap.size, 0, none⟩) els.length els.length)) (c.w.alloc (.cells bZ e)) := by
    rw [h2] at g1
    simp only [execOp, Sem.run_bind, h2, g1, Result.andThen_ok, Sem.run_pure]
   rw [this]
   refine hK _ _ _ wC (y5.mono fun v hv => ?_)
   show v < σ.clock + 1
   rcases hv with rfl | hv
   ·omega
   ·have : v < σ.clock := hv
    omega
  ·exact h.elim
 ·exact h.elim
theorem mG {ops : Array Oper} {K : PS → Prop} {Q : Exit → Act → World → Prop} {l2 : List Oper} (hK : ∀ σ' a' w', K σ' → Rel w0 S0 m G σ' a' w' → wpList E.P ops Q l2 a' w') :
  ∀ (l : List Oper) (σ : PS) (a : Act) (w : World), (∀ o ∈ l, ∀ t, o.dst = some t → t < m) → aL E ops.toList l K σ → Rel w0 S0 m G σ a w → wpList E.P ops Q (l ++ l2) a w
 | [], σ, a, w, _, h, hR => hK _ _ _ h hR
 | o :: os, σ, a, w, hd, h, hR => by
  have hdo := hd o (by simp)
  have hds : ∀ o ∈ os, ∀ t, o.dst = some t → t < m := fun o ho => hd o (by simp [ho])
  have wanted : ∀ {σ}, dW E o (aL E ops.toList os K) σ → Rel w0 S0 m G σ a w → o.wp E.P a w (wpList E.P ops Q (os ++ l2)) Q := fun hp hR =>
   wM hp hR hdo fun σ' a' w' hk j6 => mG hK os σ' a' w' hds hk j6
  show wpList E.P ops Q (o :: (os ++ l2)) a w
  unfold wpList
  simp only [aL] at h
  split at h
  ·rename_i hg
   rw [if_pos (by simp [Region.wanted, hg])]
   exact .inl (wanted h hR)
  ·rename_i j want hg
   split at h
   ·exact h.elim
   ·rename_i d S7
    have hd3 : (ops[j]?).bind (·.dst) = some d := by simpa using S7
    have skip : yielded ops a.tmps j ≠ some want → aL E ops.toList os K (σ.put o.dst (.dP [])) → (if Region.wanted o (yielded ops a.tmps) = true then o.wp E.P a w (wpList E.P ops Q (os ++ l2)) Q ∨ (o.asks E.P a w ∧ LetsOut Q) else wpList E.P ops Q (os ++ l2) (a.put o.dst undef) w) := by
     intro hy h2
     rw [if_neg (by simpa [Region.wanted, hg] using hy)]
     refine mG hK os _ _ w hds h2 ?_
     obtain ⟨⟨c, rfl, hr, eY, hI, hf, hG⟩, hn, eN⟩ := hR
     exact lY hf hG hn eN (rS.refl c) hI ME hdo rfl (by simp [PS.put, hr]) eY
    obtain ⟨c, _, _, _, _, hf, _⟩ := hR.ex
    have hx := hf d
    rcases h with ⟨h1, h2⟩ | ⟨h1 | h1, h2⟩
    ·rw [h1] at hx
     rw [if_pos (by simp [Region.wanted, hg, gJ hd3 hx])]
     exact .inl (wanted h2 hR)
    ·rw [h1] at hx
     exact skip (by rw [gJ hd3 hx]; cases want <;> simp) h2
    ·rw [h1] at hx
     exact skip (by rw [r5 hd3 hx]; simp) h2
end
theorem W.aaN {E : Env} {n : Nat} {tl : Nat → Nat} {Q : PX → PS → Prop} {σ : PS} {id : Nat} {ops : List Oper} {y : Code} (i : Nat) {o : Oper} (ho : ops = ops.take i ++ o :: ops.drop (i + 1)) (hg : o.guard = none)
  (h : ∀ K : PS → Prop, (∀ σ, W E n tl y Q σ → K σ) → go (aL E ops (ops.take i) (fun σ => CK E o (aL E ops (ops.drop (i + 1)) K) σ) σ)) : W E n tl (.seq (.region id ops.toArray false) y) Q σ := by
 refine W.seq ?_
 intro fM w0 S0 G a w Q' hR hQ
 simp only [eE, pB, Bool.and_eq_true] at fM
 have hd : ∀ o ∈ ops, ∀ t, o.dst = some t → t < n := fun o ho t ht => by
  have := Array.all_eq_true_iff_forall_mem.1 fM.1 o (by simpa using ho)
  simpa [ht] using this
 refine wp_region_list ?_
 show wpList E.P ops.toArray Q' ops a w
 have h1 := h (fun σ => W E n tl y Q σ) fun _ h => h
 have rY : o ∈ ops := by rw [ho]; simp
 have := mG (E := E) (w0 := w0) (S0 := S0) (m := n) (G := G) (ops := ops.toArray) (Q := Q') (l2 := o :: ops.drop (i + 1)) (K := fun σ => CK E o (aL E ops (ops.drop (i + 1)) (fun σ => W E n tl y Q σ)) σ) (fun σ' a' w' hl j6 => by
  unfold wpList
  rw [if_pos (by simp [Region.wanted, hg])]
  refine .inl (sJ hl j6 (hd o rY) fun σ2 a2 w2 hk hR2 => ?_)
  exact fX (E := E) (ops := ops.toArray) (fun σ3 a3 w3 hk3 hR3 => hQ .normal σ3 a3 w3 hk3 hR3) _ σ2 a2 w2 (fun o ho => hd o (List.mem_of_mem_drop ho)) hk hR2) (ops.take i) σ a w (fun o ho => hd o (List.mem_of_mem_take ho)) h1 hR
 rwa [← ho] at this
def A6 (ti : TI) (rows : Rows) (len : Nat) (ps : List (Nat × PV)) (K : TypeId → Nat → List (List PV) → Prop) : Prop :=
 match ti with
 | .slice e n _ _ => iF n 0 ps fun els => aH (len = els.length ∧ len ≤ 4096 ∧ n ≤ 4096 ∧ fY rows els.flatten) (K e n els)
 | _ => False
@[congr] theorem aeq {t t' : TI} {rows rows' : Rows} {len : Nat} {ps QF : List (Nat × PV)} {K : TypeId → Nat → List (List PV) → Prop} (h : t = t') (h2 : ps = QF) (h3 : rows = rows') : A6 t rows len ps K = A6 t' rows' len QF K := by rw [h, h2, h3]
@[simp] theorem aer {e n b : Nat} {z : List PV} {rows : Rows} {len : Nat} {ps : List (Nat × PV)} {K : TypeId → Nat → List (List PV) → Prop} : A6 (.slice e n b z) rows len ps K = iF n 0 ps fun els => aH (len = els.length ∧ len ≤ 4096 ∧ n ≤ 4096 ∧ fY rows els.flatten) (K e n els) := rfl
@[simp] theorem arC {E : Env} {K : PS → Prop} {f : Nat → PV} {rows : Rows} {clk : Nat} {d : Option Tmp} {ty : TypeId} {pos : String} {af : Array Edge} {t : TypeId} {len : Nat} {parts : Array (Nat × Operand)} :
  CK E ⟨d, .buildSlice t len parts, ty, pos, af, none⟩ K ⟨f, rows, clk⟩ = A6 (E.ty t) rows len (parts.toList.map fun x => (x.1, aR f x.2)) fun e n els => K ⟨put f d (.own (d.getD 0) clk 0 els.length), dJ rows (d.getD 0) (some ⟨clk, e, n, els⟩), clk + 1⟩ := by
 simp only [CK, A6]
 generalize E.ty t = T
 cases T with
 | slice e n b z =>
  simp only
  rw [← u6]
  simp only [aH, EX, fY]
  apply propext
  constructor
  ·rintro ⟨els, h1, h2, h3, h4, h5, h6⟩
   exact ⟨els, h1, ⟨h2, h3, h4, fun q hq => by obtain ⟨x, hx, hq⟩ := List.mem_flatten.1 hq; exact h5 x hx q hq⟩, h6⟩
  ·rintro ⟨els, h1, ⟨h2, h3, h4, h5⟩, h6⟩
   exact ⟨els, h1, h2, h3, h4, fun x hx q hq => h5 q (List.mem_flatten.2 ⟨x, hx, hq⟩), h6⟩
 | _ => rfl
end Pm
namespace Go.Proofs.YtbbjgncblhfegaaGreat
open Go Pm
def rz (a c : ZX) : ZX := ZX.of (rq c.l (a.l.length + 1) a.l)
theorem qW {a c : ZX} (hc : c ≠ 0) : (rz a c).l = rq c.l (a.l.length + 1) a.l ∧ ZX.N (rz a c) < ZX.N c ∧ ∃ (m : Int) (q : ZX), m ≠ 0 ∧ ZX.K m * a = q * c + ZX.K 1 * rz a c := by
 obtain ⟨h1, h2, m, q, hm, h3⟩ := RM c.c (ZX.aG.1 hc) (a.l.length + 1) a.l a.c (by omega)
 have e : (rz a c).l = rq c.l (a.l.length + 1) a.l := h1
 refine ⟨e, by show (rz a c).l.length < c.l.length; rw [e]; exact h2, m, ZX.of q, hm, ZX.ext fun t => ?_⟩
 rw [ZX.c9, ZX.sF, ZX.kC, ZX.c9, ZX.c9, ZX.sF, ZX.N9, e, h3 t]; omega
theorem RN {s n : Nat} {a c : ZX} (ha : BZ s n a) (hb : BZ s n c) (hc : c ≠ 0) : BZ (s + (ZX.N a + 1 - ZX.N c) * (s + n + 1)) n (rz a c) := by
 have h := agR hb (ZX.aG.1 hc) (a.l.length + 1) (ZX.N a + 1 - ZX.N c) s a.l ha (by show ZX.N a + 1 ≤ ZX.N c + _; omega)
 rw [← (qW hc).1] at h
 exact h
theorem D6 {s n C : Nat} {a c : ZX} (b : BZ s n a) (b' : BZ s n c) (hP : vH C n s (nf a) (nf c)) (hn : n ≤ 20) (hC : C ≤ 4500000000) (h1 : 1 ≤ s) : aI env.P 171 [PI a.l, PI c.l] (PI (gz a c).l) := by
 have hs := hP.le
 have p1 := jW b h1 (by show s ≤ 137438953472; omega) (by omega)
 have p2 := jW b' h1 (by show s ≤ 137438953472; omega) (by omega)
 have b1 := b.nf
 have b2 := b'.nf
 have hg : gz (nf a) (nf c) = gz a c := by rw [agM, OB]
 have hx1 := RD a
 rw [← hg]
 generalize nN : nf a = x0 at *
 generalize NI : nf c = y0 at *
 generalize hG : gz x0 y0 = G at *
 refine aB (E := env) (fun _ => 0) [(0, PI a.l), (1, PI c.l)] Tryz.func171 rfl (by kernel_rfl) (by kernel_rfl) (show 2 ≤ 18 by decide) (by simp) ?_
 generalize a.l = al at *
 generalize c.l = cl at *
 refine W.sr ?_; simp (disch := omega) [gw]; refine W.lx [0, 1] ?_; simp
 refine W.sr ?_
 simp (disch := omega) [gw]
 refine aA p1 ?_
 simp (disch := omega) [gw]
 refine aA p2 ?_
 simp (disch := omega) [gw]
 refine W.lx [0, 1] ?_; simp
 refine W.seq ?_
 refine W.block ?_
 refine W.bE (fun k σ => ∃ (x y : ZX) (s : Nat) (rows : Pm.Rows) (clk : Nat), σ = ⟨fa [(0, PI x.l), (1, PI y.l)], rows, clk⟩ ∧ BZ s n x ∧ BZ s n y ∧ 1 ≤ s ∧ vH C n s x y ∧ gz x y = G ∧ nf x = x ∧ nf y = y ∧ k = ZX.N y) (ZX.N y0) ?_ ?_
 ·exact ⟨_, .refl, x0, y0, s, _, _, rfl, b1, b2, h1, hP, hG, hx1, by rw [← NI, RD], rfl⟩
 rintro k _ ⟨x, y, s, rows, clk, rfl, bx, qU, h1, hp, hgz, hnx, hny, rfl⟩
 have hs := hp.le
 have hlx := bx.len
 have hly := qU.len
 refine W.seq ?_
 refine W.sr ?_; simp (disch := omega) [gw]; refine W.lx [0, 1, 11] ?_; simp
 refine W.cond ⟨_, rfl, fun h => ?_, fun h => ?_⟩
 ·have hy : y ≠ 0 := ZX.aG.2 (by show 0 < y.l.length; simp at h; omega)
  obtain ⟨T0, hN, m, q, hm, e⟩ := qW (a := x) hy
  have br := RN bx qU hy
  have hmul : (x.l.length + 1 - y.l.length + 1) * (s + n + 1) ≤ 22 * 4500000000 := Nat.mul_le_mul (by omega) (by omega)
  have agS : (ZX.N x + 1 - ZX.N y) * (s + n + 1) ≤ 22 * 4500000000 := Nat.mul_le_mul (by have : ZX.N x = x.l.length := rfl; omega) (by omega)
  have hR := D5 (s := s) (s' := s) (N := n) bx qU x.c y.c (ZX.aG.1 hy) (by omega) (by show _ < 137438953472; omega)
  rw [← T0] at hR
  have pr := jW br (by omega) (by show _ ≤ 137438953472; omega) (by omega)
  have HG : ZX.N (nf (rz x y)) < ZX.N y := by rw [xT]; exact hN
  have hp2 := hp.step HG
  have o7 := GI hm (show (1 : Int) ≠ 0 by decide) e
  rw [← OB y (rz x y)] at o7
  have br2 := br.nf
  have T8 := RD (rz x y)
  generalize (rz x y).l = rl at *
  generalize nf (rz x y) = r2 at *
  refine W.skip ?_
  refine W.block ?_
  refine W.cB (fun K hK => ?_)
  simp (disch := omega) [gw]
  refine aA hR ?_
  simp (disch := omega) [gw]
  refine aA pr ?_
  simp (disch := omega) [gw]
  refine hK _ ⟨ZX.N r2, _, aC _ [0, 1], HG, y, r2, _, _, _, rfl, qU.mono (by omega) (Nat.le_refl _), br2, by omega, hp2, by rw [← o7, hgz], hny, T8, rfl⟩
 ·have hy : y = 0 := by
   refine Classical.byContradiction fun h0 => ?_
   have h1 := ZX.aG.1 h0
   have h2 : ZX.N y = y.l.length := rfl
   simp at h; rw [h2, h] at h1; simp at h1
  subst hy
  rw [qS, hnx] at hgz
  subst hgz
  refine W.exit ?_; simp only [pX, if_true, if_false, reduceIte, Nat.reduceEqDiff]
  refine W.sr ?_; simp (disch := omega) [gw]; refine W.lx [4] ?_; simp
  refine W.ret ?_
  simp [go]
theorem U3 {h h' n : Nat} {a c : ZX} (b : BZ h n a) (b' : BZ h' n c) (h1 : 1 ≤ h) (ha : Nf a) (hc : Nf c) (hd : ZX.dv c a) (hB : h + (n + 1) * (h' + n + 2) + h' + n + n + 10 < 137438953472) : aI env.P 172 [PI a.l, PI c.l] (.dP [PI (qz a c).l, PI []]) := by
 obtain ⟨hw, e⟩ := mE ha hc hd
 have hD := JZ a.l c.l b b' a.c c.c (ZX.aG.1 hc.ne) h1 hB
 obtain ⟨e1, e2⟩ := aap (q := (qz a c).l) a.c c.c (ZX.aG.1 hc.ne) (qz a c).c fun t => by
  conv => lhs; rw [e]
  rw [ZX.c9]
 rw [e1, e2, oQ, oQ, oQ] at hD
 exact hD
def zq (a : ZX) : List PV := [PI a.l]
@[simp] theorem auw {a : ZX} : zq a = [PI a.l] := rfl
@[simp] theorem ame {l : List ZX} : bF 1 (emap zq l) = True := dB fun _ => rfl
@[simp] theorem ajW {v e n : Nat} {l : List ZX} : cW (some ⟨v, e, n, emap zq l⟩) = True := cS fun _ => rfl
@[simp] theorem auy {l : List ZX} {a : ZX} : emap zq l ++ [[aJ ri a.l]] = emap zq (l ++ [a]) := by simp [emap]
theorem vI.qd {s n : Nat} {a c d : ZX} (h : vI s n a) (h1 : 1 ≤ s) (ha : Nf a) (hc : Nf c) (hd : Nf d) (hca : ZX.dv c a) (hdc : ZX.dv d c) : aI env.P 172 [PI c.l, PI d.l] (.dP [PI (qz c d).l, PI []]) ∧ aI env.P 111 [PI (qz c d).l] (PI (qz c d).l) := by
 have b := h.dv ha hc hca
 have b2 := h.dv ha hd (hdc.trans hca)
 have hq := h.xD
 have hn := h.hn
 obtain ⟨hw, e⟩ := mE hc hd hdc
 have bq := h.dv ha hw ((aaI hc hd hdc).trans hca)
 have hm : (n + 1) * (qb s n + n + 2) ≤ 21 * 4500000000 := Nat.mul_le_mul (by omega) (by omega)
 have ajX : 1 ≤ qb s n := by unfold qb; omega
 refine ⟨U3 b b2 ajX hc hd hdc (by omega), ?_⟩
 have := jW bq ajX (by show _ ≤ 137438953472; omega) (by omega)
 rwa [hw.nfe] at this
theorem vI.qgd {s n : Nat} {a c : ZX} (h : vI s n a) (ha : Nf a) (hc : Nf c) (hd : ZX.dv c a) : aI env.P 125 [PI c.l] (PI (ZX.bP c).l) ∧ aI env.P 171 [PI c.l, PI (ZX.bP c).l] (PI (gd c).l) := by
 have b := h.dv ha hc hd
 have b2 := b.bP (by have := h.hn; omega)
 have hq := h.xD
 have hn := h.hn
 have ajX : 1 ≤ qb s n := by unfold qb; omega
 refine ⟨uC b (by show _ ≤ 137438953472; omega) (by omega), D6 (s := qb s n + 5) (b.mono (by omega) (Nat.le_refl _)) b2 ?_ h.hn (C := 4500000000) (Nat.le_refl _) (by omega)⟩
 have hN := ZX.nJ c
 have h1 : ZX.N c ≤ n := b.N
 have h2 := ZX.aG.1 hc.ne
 unfold vH
 rw [xT, xT, if_pos (by omega)]
 refine Nat.le_trans (Nat.mul_le_mul (show qb s n + 5 + n + 1 ≤ qb s n + n + 6 by omega) (Nat.pow_le_pow_right (by decide) h1)) h.hC
theorem uE {s n : Nat} {a : ZX} (h : vI s n a) (h1 : 1 ≤ s) : aI env.P 93 [PI a.l] (aJ zq (fl (nf a))) := by
 have hqb := h.xD
 have hn := h.hn
 have rD : s ≤ 4500000000 := by unfold qb at hqb; omega
 have p1 := jW h.bz h1 (by show s ≤ 137438953472; omega) (by omega)
 have hA := h.nfz
 have hNa : ZX.N a = a.l.length := rfl
 have Z5 := xT a
 have hle := agP (nf a)
 have hNA : ZX.N (nf a) ≤ n := hA.bz.N
 refine aB (E := env) (fun _ => 0) [(0, PI a.l)] Tryz.func93 rfl (by kernel_rfl) (by kernel_rfl) (show 1 ≤ 94 by decide) (by simp) ?_
 refine W.sr ?_; simp (disch := omega) [gw]; refine W.lx [0] ?_; simp
 refine W.seq ?_
 refine W.sr ?_; simp (disch := omega) [gw]; refine W.lx [0, 2, 15] ?_; simp
 refine W.cond ⟨_, rfl, fun h => ?_, fun h => ?_⟩
 ·have h2 : ZX.N a ≤ 1 := by simp at h; omega
  have h3 : fl (nf a) = [] := by unfold fl; rw [KE (by rw [Z5]; exact h2)]; rfl
  rw [h3]
  refine W.sr ?_; simp (disch := omega) [gw]; refine W.lx [2] ?_; simp
  refine W.TW 2 (aJ zq []) (by simp) rfl (fun K hK => ?_)
  refine W.lw [2] hK ?_; clear hK K; simp
  refine W.ret ?_
  simp [go]
 have h2 : 2 ≤ ZX.N a := by simp at h; omega
 have nA : Nf (nf a) := mD (ZX.aG.2 (by omega))
 clear h
 generalize nf a = A at *
 obtain ⟨m, hm⟩ : ∃ m, m = nl A := ⟨_, rfl⟩
 have hfl : fl A = (List.range m).map (A3 A) := by rw [hm]; rfl
 rw [hfl]
 refine W.skip ?_
 refine W.sr ?_
 simp (disch := omega) [gw]
 refine aA p1 ?_
 simp (disch := omega) [gw]
 refine W.lx [0] ?_; simp
 refine W.sr ?_; simp (disch := omega) [gw]; refine W.lx [0, 3] ?_; simp
 refine W.aaN 1 rfl rfl (fun K hK => ?_)
 simp (disch := omega) [gw]
 refine W.lw [3, 4] hK ?_; clear hK K; simp
 refine W.seq ?_
 refine W.block ?_
 refine W.bE (fun k σ => ∃ (i ver : Nat) (rows : Pm.Rows) (clk : Nat), σ = ⟨fa [(3, .nil), (4, .own 19 ver 0 (i + 1))], rows, clk⟩ ∧ rows 19 = some ⟨ver, 24, 1, emap zq ((List.range (i + 1)).map (gs A))⟩ ∧ i + k = m) m ?_ ?_
 ·exact ⟨_, .refl, 0, _, _, _, rfl, by simp [emap, gs], by omega⟩
 rintro k _ ⟨i, ver, rows, clk, rfl, hr, LN⟩
 have uW : ((List.range (i + 1)).map (gs A)).length = i + 1 := by simp
 have A7 : nth ((List.range (i + 1)).map (gs A)) i = gs A i := mT _ (by omega)
 have er : (List.range (i + 1 + 1)).map (gs A) = (List.range (i + 1)).map (gs A) ++ [gs A (i + 1)] := by rw [List.range_succ, List.map_append]; rfl
 have e1 : ((i : Int) + 1 - 1).toNat = i := by omega
 generalize hL : (List.range (i + 1)).map (gs A) = L at *
 refine W.seq ?_
 refine W.sr ?_; simp (disch := omega) [gw, hr, uW, A7]; refine W.lx [3, 4, 27] ?_; simp
 refine W.cond ⟨_, rfl, fun h => ?_, fun h => ?_⟩
 ·have h3 : 2 ≤ ZX.N (gs A i) := by
   have h4 : ZX.N (gs A i) = (gs A i).l.length := rfl
   simp at h; omega
  clear h
  have hi : i < nl A := by
   rcases Nat.lt_or_ge i (nl A) with h4 | h4
   ·exact h4
   ·have h5 := (oC A).1
    rw [show nl A = i by omega] at h5; omega
  obtain ⟨t1, t2⟩ := hA.qgd nA (mF nA i) (KB A i)
  rw [show gd (gs A i) = gs A (i + 1) from rfl] at t2
  generalize hg : (gs A i).l = g at *
  generalize o7 : gs A (i + 1) = g2 at *
  refine W.skip ?_
  refine W.block ?_
  refine W.sr ?_; simp (disch := omega) [gw, hr, uW, A7, hg]; refine W.lx [3, 4, 5] ?_; simp
  refine W.cB (fun K hK => ?_)
  simp (disch := omega) [gw]
  refine aA t1 ?_
  simp (disch := omega) [gw]
  refine aA t2 ?_
  simp (disch := omega) [gw, hr, uW]
  refine hK _ ⟨k - 1, _, aC _ [3, 4], by omega, i + 1, _, _, _, rfl, by rw [er]; simp, by omega⟩
 have h3 : ZX.N (gs A i) ≤ 1 := by
  have h4 : ZX.N (gs A i) = (gs A i).l.length := rfl
  simp at h; omega
 clear h
 have hi : i = m := by
  rcases Nat.lt_or_ge i (nl A) with h4 | h4
  ·have := (oC A).2 i h4; omega
  ·omega
 subst hi
 have hR : L ++ [(1 : ZX)] = (List.range (i + 2)).map (gs A) := by
  rw [show (1 : ZX) = gs A (i + 1) by rw [hm, aaD nA 1]]
  exact er.symm
 have gW := uD
 generalize hz : (1 : ZX) = z1 at *
 refine W.exit ?_; simp only [pX, if_true, if_false, reduceIte, Nat.reduceEqDiff]
 refine W.sr ?_
 simp (disch := omega) [gw]
 refine aA gW ?_
 simp (disch := omega) [gw, hr, uW]
 refine W.lx [3, 4] ?_; simp
 clear hr A7 e1 er hL uW
 have hRl : (L ++ [z1]).length = i + 2 := by rw [hR]; simp
 have A7 : ∀ j, j < i + 2 → nth (L ++ [z1]) j = gs A j := fun j hj => by rw [hR]; exact mT _ hj
 generalize L ++ [z1] = R at *
 have hRt : List.take (i + 2) R = R := List.take_of_length_le (by omega)
 refine W.freeze 19 (by simp) (fun K hK => ?_)
 simp [hRt]
 refine hK _ ?_; clear hK K
 refine W.nil 3 3 24 1 (by simp) (by decide) (fun K hK => ?_)
 refine W.lw [3, 4] hK ?_; clear hK K; simp
 refine W.seq ?_
 refine W.sr ?_; simp (disch := omega) [gw]; refine W.lx [3, 4, 6] ?_; simp
 refine W.block ?_
 refine W.bE (fun k σ => ∃ (j ver : Nat) (rows : Pm.Rows) (clk : Nat), σ = ⟨fa [(3, .own 3 ver 0 j), (4, aJ zq R), (6, .int .i64 j)], rows, clk⟩ ∧ rows 3 = some ⟨ver, 24, 1, emap zq ((List.range j).map (A3 A))⟩ ∧ j + k = i) i ?_ ?_
 ·exact ⟨_, .refl, 0, _, _, _, rfl, by simp [emap], by omega⟩
 clear rows clk ver LN k
 rintro k _ ⟨j, ver, rows, clk, rfl, hr, hjk⟩
 have hjl : ((List.range j).map (A3 A)).length = j := by simp
 refine W.seq ?_
 refine W.sr ?_; simp (disch := omega) [gw, hRl]; refine W.lx [3, 4, 6, 50] ?_; simp
 refine W.cond ⟨_, rfl, fun h => ?_, fun h => ?_⟩
 ·have hj : j < i := by simp at h; omega
  clear h
  have er : (List.range (j + 1)).map (A3 A) = (List.range j).map (A3 A) ++ [A3 A j] := by rw [List.range_succ, List.map_append]; rfl
  have n0 := A7 j (by omega)
  have n1 := A7 (j + 1) (by omega)
  have n2 := A7 (j + 2) (by omega)
  have l0 : j < R.length := by omega
  have l1 : j + 1 < R.length := by omega
  have l2 : j + 2 < R.length := by omega
  have e1 : ((j : Int) + 1).toNat = j + 1 := by omega
  have e2 : ((j : Int) + 2).toNat = j + 2 := by omega
  obtain ⟨d1, q1⟩ := hA.qd h1 nA (mF nA j) (mF nA (j + 1)) (KB A j) (xB _)
  obtain ⟨d2, q2⟩ := hA.qd h1 nA (mF nA (j + 1)) (mF nA (j + 2)) (KB A (j + 1)) (xB _)
  obtain ⟨d3, q3⟩ := hA.qd h1 nA (iB nA j).1 (iB nA (j + 1)).1 (GK nA j) (RH nA j)
  rw [show qz (gs A j) (gs A (j + 1)) = wz A j from rfl] at d1 q1
  rw [show qz (gs A (j + 1)) (gs A (j + 2)) = wz A (j + 1) from rfl] at d2 q2
  rw [show qz (wz A j) (wz A (j + 1)) = A3 A j from rfl] at d3 q3
  have h0 : (nth R j).l = (gs A j).l := by rw [n0]
  have h1' : (nth R (j + 1)).l = (gs A (j + 1)).l := by rw [n1]
  have h2' : (nth R (j + 2)).l = (gs A (j + 2)).l := by rw [n2]
  generalize (gs A j).l = g0 at *
  generalize (gs A (j + 1)).l = g1 at *
  generalize (gs A (j + 2)).l = g2 at *
  generalize (wz A j).l = w0 at *
  generalize (wz A (j + 1)).l = w1 at *
  generalize hF : A3 A j = F at *
  generalize hac : (List.range j).map (A3 A) = acc at *
  refine W.skip ?_
  refine W.seq ?_
  refine W.block ?_
  refine W.sd ?_
  simp (disch := omega) [gw, h0, h1', e1]
  refine aA d1 ?_
  simp (disch := omega) [gw]
  refine W.lx [3, 4, 6, 7] ?_; simp
  refine W.sd ?_
  simp (disch := omega) [gw, h1', h2', e1, e2]
  refine aA d2 ?_
  simp (disch := omega) [gw]
  refine W.lx [3, 4, 6, 7, 9] ?_; simp
  refine W.sr ?_
  simp (disch := omega) [gw]
  refine aA q1 ?_
  simp (disch := omega) [gw]
  refine aA q2 ?_
  simp (disch := omega) [gw]
  refine aA d3 ?_
  simp (disch := omega) [gw]
  refine W.lx [3, 4, 6, 11] ?_; simp
  refine W.cB (fun K hK => ?_)
  simp (disch := omega) [gw]
  refine aA q3 ?_
  simp (disch := omega) [gw, hr, hjl]
  refine W.lw [3, 4, 6] hK ?_; clear hK K; simp
  refine W.cB (fun K hK => ?_); simp (disch := omega) [gw]
  refine hK _ ⟨k - 1, _, aC _ [3, 4, 6], by omega, j + 1, _, _, _, rfl, by rw [er]; simp, by omega⟩
 ·have hj : j = i := by simp at h; omega
  subst hj
  generalize (List.range j).map (A3 A) = acc at *
  have BV : List.take j acc = acc := List.take_of_length_le (by omega)
  refine W.exit ?_; simp only [pX, if_true, if_false, reduceIte, Nat.reduceEqDiff]
  refine W.sr ?_
  simp (disch := omega) [gw, hr, BV]
  refine W.lx [2] ?_; simp
  refine W.ret ?_
  simp [go, hr, BV]
theorem oD {s n : Nat} {a : ZX} (h : vI s n a) (h1 : 1 ≤ s) : aI env.P 26 [PI a.l] (PI (sq a).l) := by
 have hqb := h.xD
 have hn := h.hn
 have hF := uE h h1
 have hA := h.nfz
 have hNa : ZX.N a = a.l.length := rfl
 have hsq : ZX.N a ≠ 0 → sq a = pf (nf a) (fun _ => true) (nl (nf a)) := fun h0 => by
  have nA := mD (ZX.aG.2 (Nat.pos_of_ne_zero h0))
  unfold sq
  split
  ·rename_i h2
   rw [KE (by rw [xT]; exact h2), nA.N1 (by rw [xT]; exact h2)]; rfl
  ·rw [ajO nA]
 have hNf : ZX.N a ≠ 0 → Nf (nf a) := fun h0 => mD (ZX.aG.2 (Nat.pos_of_ne_zero h0))
 have hle := agP (nf a)
 have hNA : ZX.N (nf a) ≤ n := hA.bz.N
 have apB : ZX.N a = 0 → (sq a).l = [] := fun h0 => by
  have h2 : a = 0 := Classical.byContradiction fun h3 => by have := ZX.aG.1 h3; omega
  unfold sq
  rw [if_pos (by omega), h2, j2]; rfl
 generalize nf a = A at *
 refine aB (E := env) (fun _ => 0) [(0, PI a.l)] Tryz.func26 rfl (by kernel_rfl) (by kernel_rfl) (show 1 ≤ 26 by decide) (by simp) ?_
 refine W.sr ?_; simp (disch := omega) [gw]; refine W.lx [0] ?_; simp
 refine W.seq ?_
 refine W.sr ?_; simp (disch := omega) [gw]; refine W.lx [0, 2, 8] ?_; simp
 refine W.cond ⟨_, rfl, fun h3 => ?_, fun h3 => ?_⟩
 ·have h0 : ZX.N a = 0 := by rw [hNa]; simp at h3; rw [h3]; rfl
  rw [apB h0]
  refine W.sr ?_; simp (disch := omega) [gw]; refine W.lx [2] ?_; simp
  refine W.TW 2 (PI []) (by simp) rfl (fun K hK => ?_)
  refine W.lw [2] hK ?_; clear hK K; simp
  refine W.ret ?_
  simp [go]
 have h0 : ZX.N a ≠ 0 := by rw [hNa]; simp at h3; intro h4; exact h3 (List.eq_nil_of_length_eq_zero h4)
 have nA := hNf h0
 rw [hsq h0]
 clear h3 hsq apB hNf
 have hmul : ∀ i, aI env.P 54 [PI (pf A (fun _ => true) i).l, PI (A3 A i).l] (PI (pf A (fun _ => true) (i + 1)).l) := fun i => by
  have b1 := hA.dv nA (D4 nA (fun _ => true) i) (aej nA _ i)
  have b2 := hA.dv nA (GJ nA i).1 (aei nA i)
  exact qO _ _ _ _ _ _ b1 b2 (by show _ < 137438953472; omega)
 obtain ⟨m, hm⟩ : ∃ m, m = nl A := ⟨_, rfl⟩
 have hfl : fl A = (List.range m).map (A3 A) := by rw [hm]; rfl
 rw [← hm] at hle ⊢
 rw [hfl] at hF
 have L7 : ((List.range m).map (A3 A)).length = m := by simp
 have A7 : ∀ i, i < m → (nth ((List.range m).map (A3 A)) i).l = (A3 A i).l := fun i hi => by rw [mT _ hi]
 generalize (List.range m).map (A3 A) = L at *
 have h1 := uD
 rw [show (1 : ZX) = pf A (fun _ => true) 0 from rfl] at h1
 generalize hg : pf A (fun _ => true) 0 = g0 at *
 refine W.skip ?_
 refine W.sr ?_
 simp (disch := omega) [gw]
 refine aA h1 ?_
 simp (disch := omega) [gw]
 refine W.lx [0, 3] ?_; simp
 refine W.sr ?_
 simp (disch := omega) [gw]
 refine aA hF ?_
 simp (disch := omega) [gw]
 refine W.lx [3, 4] ?_; simp
 refine W.seq ?_
 refine W.sr ?_; simp (disch := omega) [gw, L7]; refine W.lx [3, 4, 14, 15] ?_; simp
 subst hg
 refine W.block ?_
 refine W.bE (fun k σ => ∃ (i : Nat) (rows : Pm.Rows) (clk : Nat), σ = ⟨fa [(3, PI (pf A (fun _ => true) i).l), (4, aJ zq L), (14, .int .i64 m), (15, .int .i64 i)], rows, clk⟩ ∧ i + k = m) m ?_ ?_
 ·exact ⟨_, .refl, 0, _, _, rfl, by omega⟩
 rintro k _ ⟨i, rows, clk, rfl, LN⟩
 refine W.sr ?_; simp (disch := omega) [gw]; refine W.lx [3, 4, 14, 15, 16] ?_; simp
 refine W.seq ?_
 refine W.cond ⟨_, rfl, fun h => ?_, fun h => ?_⟩
 ·have hi : i < m := by simp at h; omega
  have hiL : i < L.length := by omega
  have ht := hmul i
  have xE := A7 i hi
  generalize o7 : pf A (fun _ => true) (i + 1) = g2 at *
  generalize pf A (fun _ => true) i = g at *
  refine W.skip ?_
  refine W.seq ?_
  refine W.block ?_
  refine W.sr ?_; simp (disch := omega) [gw]; refine W.lx [3, 4, 5, 14, 15] ?_; simp
  refine W.cB (fun K hK => ?_)
  simp (disch := omega) [gw, xE]
  refine aA ht ?_
  simp (disch := omega) [gw]
  refine W.lw [3, 4, 14, 15] hK ?_; clear hK K; simp
  subst o7
  refine W.cB (fun K hK => ?_); simp (disch := omega) [gw]
  refine hK _ ⟨k - 1, _, aC _ [3, 4, 14, 15], by omega, i + 1, _, _, rfl, by omega⟩
 ·have hi : i = m := by simp at h; omega
  subst hi
  refine W.exit ?_; simp only [pX, if_true, if_false, reduceIte, Nat.reduceEqDiff]
  refine W.sr ?_; simp (disch := omega) [gw]; refine W.lx [2] ?_; simp
  refine W.ret ?_
  simp [go]
abbrev R2 (n d : Int) : PV := .ag [aJ aF (aT DD n.natAbs), .bool (decide (n < 0)), aJ aF (aT DD d.natAbs), .bool (decide (d < 0))]
theorem bQ (q : Rat) : RR q = R2 q.num q.den := by
 have : decide ((q.den : Int) < 0) = false := decide_eq_false (by omega)
 show PV.ag (re q) = PV.ag _
 rw [this]; rfl
def hm (n d : Int) : List Int → Int × Int
 | [] => (0, 1)
 | a :: l => ((hm n d l).1 * n + a * (hm n d l).2, (hm n d l).2 * d)
def GN (x : List Int) (n d : Int) : Int := (hm n d x).1.sign
theorem agT {s k u : Nat} {n d : Int} (hn : sz 2 n ≤ u) (hd : sz 2 d ≤ u) (hu : 1 ≤ u) : ∀ {x : List Int}, Bd 2 s k x → sz 2 (hm n d x).1 ≤ s + x.length * (u + 1) ∧ sz 2 (hm n d x).2 ≤ x.length * u + 1
 | [], _ => ⟨by show sz 2 0 ≤ _; rw [show sz 2 0 = 0 by decide]; omega, by show sz 2 1 ≤ _; exact Nat.le_trans (cT (k := 1) (by decide) (by decide)) (by omega)⟩
 | a :: l, h => by
  obtain ⟨h1, h2⟩ := agT hn hd hu (x := l) ⟨Nat.le_trans (by simp) h.len, fun c hc => h.sz c (by simp [hc])⟩
  have ha := h.sz a (by simp)
  have e : (a :: l).length * u = l.length * u + u := by rw [List.length_cons, Nat.add_mul]; omega
  have e' : (a :: l).length * (u + 1) = l.length * u + l.length + u + 1 := by rw [List.length_cons, Nat.add_mul, Nat.mul_add]; omega
  have e'' : l.length * (u + 1) = l.length * u + l.length := by rw [Nat.mul_add]; omega
  refine ⟨?_, ?_⟩
  ·have g1 := bT (b := 2) (by decide) h1 hn
   have g2 := bT (b := 2) (by decide) ha h2
   have := mP (b := 2) (by decide) (Nat.le_trans g1 (Nat.le_max_left _ (s + (l.length * u + 1)))) (Nat.le_trans g2 (Nat.le_max_right (s + l.length * (u + 1) + u) _))
   refine Nat.le_trans this ?_
   rw [e', e'']
   omega
  ·have := bT (b := 2) (by decide) h2 hd
   rw [e]
   exact Nat.le_trans this (by omega)
theorem vJ (p q p' q' : Int) (hp : sz 2 p ≤ YY) (hq : sz 2 q ≤ YY) (uP : sz 2 p' ≤ YY) (hq' : sz 2 q' ≤ YY) : aI env.P 27 [R2 p q, R2 p' q'] (.int .i64 (dD (p * q') (p' * q))) := by
 have zz : ∀ {x : Int}, sz 2 x ≤ YY → Z x := fun h => by simp only [Z, YY] at *; omega
 have s1 := bT (b := 2) (by decide) hp hq'
 have s2 := bT (b := 2) (by decide) uP hq
 have m1 := dS p q' (zz hp) (zz hq')
 have m2 := dS p' q (zz uP) (zz hq)
 have c1 := Z0 (p * q') (p' * q) (by simp only [Z, YY] at *; omega) (by simp only [Z, YY] at *; omega)
 generalize dD (p * q') (p' * q) = r at *
 generalize p * q' = x1 at *
 generalize p' * q = x2 at *
 refine aB (E := env) (fun _ => 0) [(0, R2 p q), (1, R2 p' q')] Tryz.func27 rfl (by kernel_rfl) (by kernel_rfl) (show 2 ≤ 16 by decide) (by simp) ?_
 refine W.sr ?_; simp (disch := omega) [gw]; refine W.lx [2, 3] ?_; simp
 refine W.sd ?_
 simp (disch := omega) [gw]
 refine aA m1 ?_
 simp (disch := omega) [gw]
 refine aA m2 ?_
 simp (disch := omega) [gw]
 refine aA c1 ?_
 simp (disch := omega) [gw]
 refine W.lx [4] ?_; simp
 refine W.ret ?_
 simp [go]
theorem gG (p q : Rat) (hp : ZR YY p) (hq : ZR YY q) : aI env.P 27 [RR p, RR q] (.int .i64 (dD (p.num * q.den) (q.num * p.den))) := by
 rw [bQ, bQ]; exact vJ _ _ _ _ hp.n hp.d hq.n hq.d
@[simp] theorem RO : aT DD 1 = [1] := by decide
theorem U4 (x : List Int) (hl : x.length < 9223372036854775808) : aI env.P 184 [PI x] (.bool true) := by
 refine aB (E := env) (fun _ => 0) [(0, PI x)] Tryz.func184 rfl (by kernel_rfl) (by kernel_rfl) (show 1 ≤ 29 by decide) (by simp) ?_
 refine W.sr ?_; simp (disch := omega) [gw]; refine W.lx [0] ?_; simp
 refine W.seq ?_
 refine W.sr ?_; simp (disch := omega) [gw]; refine W.lx [0, 5, 6] ?_; simp
 refine W.block ?_
 refine W.bE (fun k σ => ∃ (i : Nat) (rows : Pm.Rows) (clk : Nat), σ = ⟨fa [(0, PI x), (5, .int .i64 x.length), (6, .int .i64 i)], rows, clk⟩ ∧ i + k = x.length) x.length ?_ ?_
 ·exact ⟨_, .refl, 0, _, _, rfl, by omega⟩
 rintro k _ ⟨i, rows, clk, rfl, hI⟩
 refine W.sr ?_; simp (disch := omega) [gw]; refine W.lx [0, 5, 6, 7] ?_; simp
 refine W.seq ?_
 refine W.cond ⟨_, rfl, fun h => ?_, fun h => ?_⟩
 ·have hi : i < x.length := by simp at h; omega
  refine W.skip ?_
  refine W.seq ?_
  refine W.block ?_
  refine W.sr ?_; simp (disch := omega) [gw]; refine W.lx [0, 3, 5, 6] ?_; simp
  refine W.sr ?_; simp (disch := omega) [gw, hi]; refine W.lx [0, 5, 6, 27] ?_; simp
  refine W.cond ⟨_, rfl, fun h => ?_, fun h => ?_⟩
  ·simp at h
   exact absurd rfl h
  ·refine W.skip ?_
   refine W.cB (fun K hK => ?_); simp (disch := omega) [gw]
   refine hK _ ⟨k - 1, _, aC _ [0, 5, 6], by omega, i + 1, _, _, rfl, by omega⟩
 ·refine W.exit ?_; simp only [pX, if_true, if_false, reduceIte, Nat.reduceEqDiff]
  refine W.sr ?_; simp (disch := omega) [gw]; refine W.lx [2] ?_; simp
  refine W.ret ?_
  simp [go]
theorem vK {x : List Int} {n d : Int} {s k u : Nat} (hx : Bd 2 s k x) (hn : sz 2 n ≤ u) (hd : sz 2 d ≤ u) (hu : 1 ≤ u) (hk : k < 1099511627776) (hB : s + k * (u + 1) + u < YY) : aI env.P 107 [PI x, R2 n d] (.int .i64 (GN x n d)) := by
 have hl := hx.len
 have hW := U4 x (by omega)
 have hO := n6 1 (by decide) (by decide)
 have zz : ∀ {x : Int}, sz 2 x ≤ YY → Z x := fun h => by simp only [Z, YY] at *; omega
 have hY : YY = 137438953472 := rfl
 have bd := fun i => agT (s := s) (k := k) (x := x.drop i) hn hd hu ⟨by simp; omega, fun c hc => hx.sz c (List.mem_of_mem_drop hc)⟩
 have hle : ∀ i, (x.drop i).length * (u + 1) ≤ k * (u + 1) := fun i => Nat.mul_le_mul_right _ (by simp; omega)
 have aaO : ∀ i, (x.drop i).length * u ≤ (x.drop i).length * (u + 1) := fun i => Nat.mul_le_mul_left _ (by omega)
 have step : ∀ i, i < x.length → hm n d (x.drop i) = ((hm n d (x.drop (i + 1))).1 * n + nth x i * (hm n d (x.drop (i + 1))).2, (hm n d (x.drop (i + 1))).2 * d) := fun i hi => by
  rw [List.drop_eq_getElem_cons hi, cE hi]; rfl
 have aaP : hm n d (x.drop x.length) = (0, 1) := by rw [List.drop_length]; rfl
 have hS := DO (hm n d x).1
 have h0 : hm n d (x.drop 0) = hm n d x := rfl
 have hs : GN x n d = (hm n d x).1.sign := rfl
 rw [hs]
 have M : ∀ i, i < x.length → aI env.P 94 [RI (hm n d (x.drop (i + 1))).1, RI n] (RI ((hm n d (x.drop (i + 1))).1 * n)) ∧ aI env.P 94 [RI (nth x i), RI (hm n d (x.drop (i + 1))).2] (RI (nth x i * (hm n d (x.drop (i + 1))).2)) ∧
   aI env.P 128 [RI ((hm n d (x.drop (i + 1))).1 * n), RI (nth x i * (hm n d (x.drop (i + 1))).2)] (RI (hm n d (x.drop i)).1) ∧ aI env.P 94 [RI (hm n d (x.drop (i + 1))).2, RI d] (RI (hm n d (x.drop i)).2) := fun i hi => by
  obtain ⟨b1, b2⟩ := bd (i + 1)
  have l1 := hle (i + 1)
  have l2 := aaO (i + 1)
  have ha := hx.sz _ (bM hi)
  have g1 := bT (b := 2) (by decide) b1 hn
  have g2 := bT (b := 2) (by decide) ha b2
  have e := step i hi
  rw [e]
  exact ⟨dS _ _ (zz (by omega)) (zz (by omega)), dS _ _ (zz (by omega)) (zz (by omega)), AF _ _ (by simp only [Z]; omega) (by simp only [Z]; omega), dS _ _ (zz (by omega)) (zz (by omega))⟩
 clear bd hle aaO step
 generalize hm n d x = r0 at *
 refine aB (E := env) (fun _ => 0) [(0, PI x), (1, R2 n d)] Tryz.func107 rfl (by kernel_rfl) (by kernel_rfl) (show 2 ≤ 42 by decide) (by simp) ?_
 refine W.sr ?_; simp (disch := omega) [gw]; refine W.lx [0, 3] ?_; simp
 refine W.seq ?_
 refine W.sr ?_
 simp (disch := omega) [gw]
 refine aA hW ?_
 simp (disch := omega) [gw]
 refine W.lx [0, 3, 10] ?_; simp
 refine W.cond ⟨_, rfl, fun h => ?_, fun h => ?_⟩
 ·simp at h
 refine W.skip ?_
 refine W.sr ?_; simp (disch := omega) [gw]; refine W.lx [0, 3, 5] ?_; simp
 refine W.sr ?_
 simp (disch := omega) [gw]
 refine aA hO ?_
 simp (disch := omega) [gw]
 refine W.lx [0, 3, 5, 6] ?_; simp
 refine W.seq ?_
 refine W.sr ?_; simp (disch := omega) [gw]; refine W.lx [0, 3, 5, 6, 7] ?_; simp
 refine W.row (id := 5) (els := [[.nil, .bool false]]) [[aJ aF (aT DD (0 : Int).natAbs), .bool (decide ((0 : Int) < 0))]] (by simp; first | exact ⟨rfl, rfl, rfl⟩ | exact ⟨rfl, rfl⟩ | rfl) ⟨⟨.inr ⟨rfl, rfl⟩, .inl rfl, trivial⟩, trivial⟩ ?_
 refine W.block ?_
 refine W.bE (fun k σ => ∃ (v3 v5 v6 e3 e5 e6 : Nat) (rows : Pm.Rows) (clk : Nat), σ = ⟨fa [(0, PI x), (3, .ptr 3 v3 0 0), (5, .ptr 5 v5 0 0), (6, .ptr 6 v6 0 0), (7, .int .i64 ((k : Int) - 1))], rows, clk⟩ ∧ k ≤ x.length ∧
  rows 3 = some ⟨v3, e3, 4, [[aJ aF (aT DD n.natAbs), .bool (decide (n < 0)), aJ aF (aT DD d.natAbs), .bool (decide (d < 0))]]⟩ ∧
  rows 5 = some ⟨v5, e5, 2, [[aJ aF (aT DD (hm n d (x.drop k)).1.natAbs), .bool (decide ((hm n d (x.drop k)).1 < 0))]]⟩ ∧
  rows 6 = some ⟨v6, e6, 2, [[aJ aF (aT DD (hm n d (x.drop k)).2.natAbs), .bool (decide ((hm n d (x.drop k)).2 < 0))]]⟩) x.length ?_ ?_
 ·exact ⟨_, .refl, _, _, _, _, _, _, _, _, rfl, Nat.le_refl _, by simp; (first | exact ⟨rfl, rfl, rfl⟩ | exact ⟨rfl, rfl⟩ | rfl), by rw [aaP]; simp; (first | exact ⟨rfl, rfl, rfl⟩ | exact ⟨rfl, rfl⟩ | rfl), by rw [aaP]; simp; (first | exact ⟨rfl, rfl, rfl⟩ | exact ⟨rfl, rfl⟩ | rfl)⟩
 rintro k _ ⟨v3, v5, v6, e3, e5, e6, rows, clk, rfl, hkl, gD, mB, tX⟩
 refine W.seq ?_
 refine W.sr ?_; simp (disch := omega) [gw]; refine W.lx [0, 3, 5, 6, 7, 21] ?_; simp
 refine W.cond ⟨_, rfl, fun h => ?_, fun h => ?_⟩
 ·have uV : 0 < k := by simp at h; omega
  obtain ⟨k, rfl⟩ : ∃ j, k = j + 1 := ⟨k - 1, by omega⟩
  obtain ⟨m1, m2, m3, m4⟩ := M k (by omega)
  generalize hm n d (x.drop (k + 1)) = A at *
  have e1 : (((k + 1 : Nat) : Int) - 1).toNat = k := by omega
  refine W.skip ?_
  refine W.seq ?_
  refine W.block ?_
  refine W.sd ?_
  simp (disch := omega) [gw, gD, mB, tX]
  refine aA m1 ?_
  simp (disch := omega) [gw, e1]
  try simp (disch := omega) [gw, e1, tX]
  refine aA m2 ?_
  simp (disch := omega) [gw]
  refine aA m3 ?_
  simp (disch := omega) [gw, mB]
  try (refine cA (by kernel_rfl) ?_)
  try simp (disch := omega) [gw, mB]
  refine W.lx [0, 3, 5, 6, 7] ?_; simp
  refine W.cB (fun K hK => ?_)
  simp (disch := omega) [gw, gD, tX]
  refine aA m4 ?_
  simp (disch := omega) [gw, tX]
  refine W.lw [0, 3, 5, 6, 7] hK ?_; clear hK K; simp
  refine W.cB (fun K hK => ?_); simp (disch := omega) [gw]
  refine hK _ ⟨k, _, aC _ [0, 3, 5, 6, 7], by omega, v3, v5, v6, _, _, _, _, _, rfl, by omega, by simp [gD]; exact rfl, by simp; exact rfl, by simp; exact rfl⟩
 ·have uV : k = 0 := by simp at h; omega
  subst uV
  rw [h0] at mB
  refine W.exit ?_; simp only [pX, if_true, if_false, reduceIte, Nat.reduceEqDiff]
  refine W.sr ?_
  simp (disch := omega) [gw, mB]
  refine aA hS ?_
  simp (disch := omega) [gw]
  refine W.lx [4] ?_; simp
  refine W.ret ?_
  simp [go]
end Go.Proofs.YtbbjgncblhfegaaGreat
namespace Go.Proofs.YtbbjgncblhfegaaGreat
open Go Pm
open ZX hiding N W
theorem aaQ {y : List Int} (cy : Cn y) (hy : 0 < y.length) : ∀ (n : Nat) (x : List Int), Cn x → x.length < n → ∃ (m : Int) (q : List Int), 0 < m ∧ ∀ t, m * V t x = V t q * V t y + V t (rq y n x)
 | 0, x, _, h => by omega
 | n + 1, x, cx, h => by
  rw [rq]
  split
  ·exact ⟨1, [], by decide, fun t => by simp [V]⟩
  ·rename_i h1
   have hl := qV hy (show y.length ≤ x.length by omega)
   obtain ⟨m, q, hm, h4⟩ := aaQ cy hy n (RJ y x) (Cn.eC _ _) (by omega)
   have wH := cH cy hy
   refine ⟨m * (lead y).natAbs, gC q (aX (oS (x.length - y.length) (uY (lead y) * lead x)) m), Int.mul_pos hm (by omega), fun t => ?_⟩
   have h5 := aaM t y x
   have h6 := h4 t
   rw [pJ, bV, mA]
   have : m * ((lead y).natAbs : Int) * V t x = m * (((lead y).natAbs : Int) * V t x) := by grind
   rw [this, h5]
   grind
theorem aaR {x y s q : List Int} {D : Int} (cx : Cn x) (cy : Cn y) (hy : 0 < y.length) (cs : Cn s) (hs : s.length < y.length) (hD : 0 < D) (hv : ∀ t, D * V t x = V t q * V t y + V t s) : JT x y = iY s := by
 have hV := fun t => Y1 t x y
 have hl := FQ (a := x) hy
 obtain ⟨c1, c2⟩ := zV (b := y) cx
 rw [Z9 cx]
 have wH := cH cy hy
 have vC : lead y ^ iG x y ≠ 0 := Int.pow_ne_zero wH
 have hsg := Z7 (lead y) (iG x y)
 have hsq := Z8 (lead y) (iG x y)
 generalize sg (lead y) (iG x y) = g at *
 generalize (wT x y).1 = p at *
 generalize (wT x y).2 = r at *
 generalize hc : lead y ^ iG x y = c at *
 have hm : 0 < ((lead y).natAbs : Int) ^ iG x y := Int.pow_pos (by omega)
 generalize ((lead y).natAbs : Int) ^ iG x y = m at *
 have e : ∀ t, V t (eC (s.map (· * c)) (r.map (· * D))) = V t y * V t (eC (p.map (· * D)) (q.map (· * c))) := fun t => by
  have h1 := hv t
  have h2 := hV t
  rw [gS, gS, dE, dE, dE, dE]
  have h3 : c * (D * V t x) = c * (V t q * V t y + V t s) := by rw [h1]
  have h4 : D * (V t p * V t y + V t r) = D * (c * V t x) := by rw [h2]
  grind
 have h1 := DH (Cn.eC _ _) cy hy e (by
  have := tI (s.map (· * c)) (r.map (· * D))
  simp only [List.length_map] at this
  omega)
 have uX : D ≠ 0 := by omega
 have e1 : s.map (· * c) = r.map (· * D) := Cn.ext (jT cs vC) (jT c2 uX) fun t => J2 (by rw [h1]; rfl) t
 rw [← wZ cs hm, ← wZ (Cn.aX r g) hD]
 congr 1
 refine Cn.ext (Cn.aX _ _) (Cn.aX _ _) fun t => ?_
 have e2 : V t s * c = V t r * D := by rw [← dE, e1, dE]
 rw [bV, bV, bV]
 have h5 : m = g * c := by rw [hsg]; grind
 rw [h5]
 have : V t s * (g * c) = g * (V t s * c) := by grind
 rw [this, e2]; grind
def oR (a : ZX) : ZX := ⟨iY a.l, Cn.cut _⟩
def nx (a b : ZX) : ZX := ⟨fJ (iY (rz a b).l), Cn.fJ _⟩
theorem U5 {a b : ZX} (hb : b ≠ 0) : ZX.N (nx a b) < ZX.N b := by
 obtain ⟨_, hN, _⟩ := qW (a := a) hb
 have h1 := JW (iY (rz a b).l)
 have h2 := kB (rz a b).l
 have h3 : ZX.N (nx a b) = (fJ (iY (rz a b).l)).length := rfl
 have h4 : ZX.N (rz a b) = (rz a b).l.length := rfl
 omega
theorem RQ {s n : Nat} {a b : ZX} (ha : BZ s n a) (hb : BZ s n b) (h0 : b ≠ 0) : BZ (s + (ZX.N a + 1 - ZX.N b) * (s + n + 1)) n (nx a b) := Bd.fJ (iA (RN ha hb h0))
def sK : Nat → ZX → ZX → List ZX
 | 0, _, _ => []
 | k + 1, a, b => if ZX.N b = 0 then [] else b :: sK k b (nx a b)
theorem jG (k : Nat) (a : ZX) : sK k a 0 = [] := by cases k <;> simp [sK, show ZX.N 0 = 0 by decide]
theorem A8 : ∀ {k j : Nat} {a b : ZX}, ZX.N b ≤ k → ZX.N b ≤ j → sK k a b = sK j a b
 | 0, j, a, b, h, _ => by
  have : b = 0 := Classical.byContradiction fun h0 => by have := ZX.aG.1 h0; omega
  rw [this, jG, jG]
 | k + 1, 0, a, b, _, h => by
  have : b = 0 := Classical.byContradiction fun h0 => by have := ZX.aG.1 h0; omega
  rw [this, jG, jG]
 | k + 1, j + 1, a, b, h1, h2 => by
  rw [sK, sK]
  split
  ·rfl
  ·rename_i h0
   have := U5 (a := a) (ZX.aG.2 (Nat.pos_of_ne_zero h0))
   rw [A8 (k := k) (j := j) (by omega) (by omega)]
def aP (f : ZX) : List ZX := f :: sK (ZX.N f) f (oR (bP f))
theorem ajY (x : List Int) : PP (qd x 1) = PI x := by rw [F6]; show PV.sl (emap re (qs x)) = PV.sl (emap ri x); rw [AO]
theorem xF {s n : Nat} {a : ZX} (b : BZ s n a) (rD : 1 ≤ s) (hs : s ≤ YY) (hn : n < 1099511627776) : aI env.P 124 [PI a.l] (PI (oR a).l) := by
 have := JY a.l 1 (by decide) b (by exact Nat.le_trans (cT (k := 1) (by decide) (by decide)) rD) a.c rD hs hn
 rw [show ((1 : Nat) : Int) = 1 from rfl, ajY] at this
 exact this
structure Ch (s n : Nat) (f : ZX) : Prop where
 bz : BZ s n f
 hn : n ≤ 20
 xE : 1 ≤ n
 hC : (s + 5 + n + 1) * 4 ^ n ≤ 4500000000
theorem Ch.pot {s n : Nat} {f : ZX} (h : Ch s n f) : vH 4500000000 n (s + 5) f (oR (bP f)) := by
 have h1 := nJ f
 have h2 : ZX.N (oR (bP f)) ≤ ZX.N (bP f) := kB _
 have h3 := h.bz.N
 have hn := h.xE
 unfold vH
 split
 ·exact Nat.le_trans (Nat.mul_le_mul_left _ (Nat.pow_le_pow_right (by decide) h3)) h.hC
 ·have h4 : ZX.N (oR (bP f)) = 0 := by omega
  have h5 := h.hC
  rw [h4, Nat.pow_zero, Nat.mul_one]
  exact Nat.le_trans (Nat.mul_le_mul_left _ (show 2 ≤ 4 ^ n from Nat.le_trans (by decide) (Nat.pow_le_pow_right (n := 4) (by decide) hn))) h5
theorem aaS {l : List ZX} {a : ZX} {i : Nat} (h : i < l.length) : nth (l ++ [a]) i = nth l i := by
 simp only [nth, List.getElem?_append_left h]
theorem xG {s n : Nat} {a f : ZX} (hS : aI env.P 26 [PI a.l] (PI f.l)) (h : Ch s n f) (h1 : 1 ≤ s) : aI env.P 57 [PI a.l] (aJ zq (aP f)) := by
 have hn := h.hn
 have hp := h.pot
 have hs := hp.le
 have bd : BZ (s + 5) n (bP f) := h.bz.bP (by omega)
 have d1 := uC h.bz (by show s ≤ 137438953472; omega) (by omega)
 have d2 := xF bd (by omega) (by show s + 5 ≤ 137438953472; omega) (by omega)
 have b2 : BZ (s + 5) n (oR (bP f)) := iA bd
 have b1 : BZ (s + 5) n f := h.bz.mono (by omega) (Nat.le_refl _)
 have HG : ZX.N (oR (bP f)) ≤ ZX.N f := Nat.le_trans (kB _) (Nat.le_trans (nJ f) (by omega))
 have hc : aP f = f :: sK (ZX.N f) f (oR (bP f)) := rfl
 rw [A8 HG (Nat.le_refl _)] at hc
 generalize hC : aP f = C at *
 generalize oR (bP f) = g0 at *
 generalize (bP f).l = dl at *
 have hfl : f.l = f.l := rfl
 refine aB (E := env) (fun _ => 0) [(0, PI a.l)] Tryz.func57 rfl (by kernel_rfl) (by kernel_rfl) (show 1 ≤ 31 by decide) (by simp) ?_
 refine W.sr ?_; simp (disch := omega) [gw]; refine W.lx [0] ?_; simp
 refine W.sr ?_
 simp (disch := omega) [gw]
 refine aA hS ?_
 simp (disch := omega) [gw]
 refine W.lx [3] ?_; simp
 refine W.aaN 1 rfl rfl (fun K hK => ?_)
 simp (disch := omega) [gw]
 refine W.lw [3, 4] hK ?_; clear hK K; simp
 refine W.sr ?_
 simp (disch := omega) [gw]
 refine aA d1 ?_
 simp (disch := omega) [gw]
 refine aA d2 ?_
 simp (disch := omega) [gw]
 refine W.lx [4, 5] ?_; simp
 refine W.seq ?_
 refine W.block ?_
 refine W.bE (fun k σ => ∃ (L : List ZX) (x g : ZX) (i ver s : Nat) (rows : Pm.Rows) (clk : Nat), σ = ⟨fa [(4, .own 9 ver 0 (i + 1)), (5, PI g.l)], rows, clk⟩ ∧ rows 9 = some ⟨ver, 24, 1, emap zq L⟩ ∧ L.length = i + 1 ∧ nth L i = x ∧
  L ++ sK k x g = C ∧ k = ZX.N g ∧ BZ s n x ∧ BZ s n g ∧ 1 ≤ s ∧ vH 4500000000 n s x g ∧ i + ZX.N g ≤ 20) (ZX.N g0) ?_ ?_
 ·exact ⟨_, .refl, [f], f, g0, 0, _, s + 5, _, _, rfl, by simp [emap], rfl, rfl, hc.symm, rfl, b1, b2, by omega, hp, by have := b2.N; omega⟩
 rintro k _ ⟨L, x, g, i, ver, s, rows, clk, rfl, hr, hL, hx, N7, rfl, bx, bg, h1, hp, hiN⟩
 have hs := hp.le
 have hlx := bx.len
 have hlg := bg.len
 have hLl : (emap zq L).length = i + 1 := by simp [emap, hL]
 refine W.seq ?_
 refine W.sr ?_; simp (disch := omega) [gw]; refine W.lx [4, 5, 15] ?_; simp
 refine W.cond ⟨_, rfl, fun h => ?_, fun h => ?_⟩
 ·have hg : g ≠ 0 := ZX.aG.2 (by show 0 < g.l.length; simp at h; omega)
  obtain ⟨T0, hN, _⟩ := qW (a := x) hg
  have br := RN bx bg hg
  have hmul : (x.l.length + 1 - g.l.length + 1) * (s + n + 1) ≤ 22 * 4500000000 := Nat.mul_le_mul (by omega) (by omega)
  have agS : (ZX.N x + 1 - ZX.N g) * (s + n + 1) ≤ 22 * 4500000000 := Nat.mul_le_mul (by have : ZX.N x = x.l.length := rfl; omega) (by omega)
  have hR := D5 (s := s) (s' := s) (N := n) bx bg x.c g.c (ZX.aG.1 hg) (by omega) (by show _ < 137438953472; omega)
  rw [← T0] at hR
  have hZ := xF br (by omega) (by show _ ≤ 137438953472; omega) (by omega)
  have hNg := DU (oR (rz x g)).l ((iA br).mono (by show _ ≤ 137438953472; omega) (by omega))
  have e3 : fJ (oR (rz x g)).l = (nx x g).l := rfl
  rw [e3] at hNg
  have HG := U5 (a := x) hg
  have hp2 := hp.step HG
  have bn := RQ bx bg hg
  have hi : i < L.length := by omega
  have hx2 : nth (L ++ [g]) i = x := by rw [aaS hi]; exact hx
  have apD : i < (L ++ [g]).length := by simp; omega
  have hch : L ++ [g] ++ sK (ZX.N (nx x g)) g (nx x g) = C := by
   rw [← N7]
   obtain ⟨j, hj⟩ : ∃ j, ZX.N g = j + 1 := ⟨ZX.N g - 1, by have := ZX.aG.1 hg; have : ZX.N g = g.l.length := rfl; omega⟩
   rw [hj, sK, if_neg (by omega), A8 (k := j) (j := ZX.N (nx x g)) (by omega) (Nat.le_refl _)]
   simp
  generalize (rz x g).l = rl at *
  generalize (oR (rz x g)).l = pl at *
  generalize hnx : nx x g = nn at *
  have hnl : nn.l = nn.l := rfl
  refine W.skip ?_
  refine W.block ?_
  refine W.sr ?_
  simp (disch := omega) [gw, hr, hLl]
  refine W.lx [4, 5] ?_; simp
  have e1 : ((i : Int) + 1 + 1 - 2).toNat = i := by omega
  refine W.cB (fun K hK => ?_)
  simp (disch := omega) [gw, e1, apD, hx2]
  refine aA hR ?_
  simp (disch := omega) [gw]
  refine aA hZ ?_
  simp (disch := omega) [gw]
  refine aA hNg ?_
  simp (disch := omega) [gw]
  refine hK _ ⟨ZX.N nn, _, aC _ [4, 5], HG, L ++ [g], g, nn, i + 1, _, _, _, _, rfl, by simp, by simp [hL], ?_, hch, rfl, bg.mono (by omega) (Nat.le_refl _), bn, by omega, hp2, by omega⟩
  rw [cE (by simp; omega)]
  simp [← hL]
 ·have hg : g = 0 := by
   refine Classical.byContradiction fun h0 => ?_
   have h1 := ZX.aG.1 h0
   have h2 : ZX.N g = g.l.length := rfl
   simp at h; rw [h2, h] at h1; simp at h1
  subst hg
  rw [jG, List.append_nil] at N7
  subst N7
  have BV : List.take (i + 1) L = L := List.take_of_length_le (by omega)
  refine W.exit ?_; simp only [pX, if_true, if_false, reduceIte, Nat.reduceEqDiff]
  refine W.sr ?_; simp (disch := omega) [gw]; refine W.lx [2] ?_; simp
  refine W.ret ?_
  simp [go, hr, hLl, BV]
end Go.Proofs.YtbbjgncblhfegaaGreat
