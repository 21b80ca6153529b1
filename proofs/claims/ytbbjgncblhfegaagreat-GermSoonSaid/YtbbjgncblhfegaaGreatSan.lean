import Derived.Test.YtbbjgncblhfegaaGreatSah
import Derived.Test.YtbbjgncblhfegaaGreatSak
import Derived.Test.YtbbjgncblhfegaaGreatSam
set_option linter.unusedSimpArgs false
set_option linter.unusedVariables false
namespace Go.Proofs.YtbbjgncblhfegaaGreat
open Go Pm
def uV (l : Int) : Int := if l < 0 then -1 else 1
theorem aez (l : Int) : uV l * l = l.natAbs := by unfold uV; split <;> omega
def RF (y x : List Int) : List Int := uS y (lead y).natAbs (uV (lead y) * lead x) (x.length - y.length) x
def RG (y x : List Int) (i : Nat) : Int := nth x i * ((lead y).natAbs : Int) - if x.length - y.length ≤ i then uV (lead y) * lead x * nth y (i - (x.length - y.length)) else 0
theorem aaP {y x : List Int} (h : y.length ≤ x.length) : aM ((List.range x.length).map (RG y x)) = RF y x := by
 refine Cn.ext (Cn.cut _) (Cn.dZ _ _) fun t => ?_
 unfold RF
 rw [cA, uS, gR, bW, cM, mC]
 obtain ⟨k, hk⟩ : ∃ k, x.length = k + y.length := ⟨x.length - y.length, by omega⟩
 have e1 : (List.range x.length).map (RG y x) = (List.range x.length).map fun i => nth x i * ((lead y).natAbs : Int) + (-(if x.length - y.length ≤ i then uV (lead y) * lead x * nth y (i - (x.length - y.length)) else 0)) := List.map_congr_left fun i _ => by unfold RG; omega
 rw [e1, qO, fL, iR (Nat.le_refl _)]
 generalize uV (lead y) * lead x = T at *
 have e2 : ((List.range x.length).map fun i => -(if x.length - y.length ≤ i then T * nth y (i - (x.length - y.length)) else 0)) = List.replicate k 0 ++ y.map fun v => v * (-T) := by
  have hk2 : x.length - y.length = k := by omega
  rw [hk2, hk, List.range_add, List.map_append, List.map_map]
  congr 1
  ·rw [List.eq_replicate_iff]
   refine ⟨by simp, fun v hv => ?_⟩
   simp only [List.mem_map, List.mem_range] at hv
   obtain ⟨i, hi, rfl⟩ := hv
   rw [if_neg (by omega)]; rfl
  ·have h2 := nG (x := y) (n := y.length) (Nat.le_refl _)
   rw [Nat.sub_self, List.replicate_zero, List.append_nil] at h2
   conv => rhs; rw [← h2]
   rw [List.map_map]
   refine List.map_congr_left fun i _ => ?_
   simp only [Function.comp_apply]
   rw [if_pos (by omega), Nat.add_sub_cancel_left]; grind
 rw [e2, dG, oQ]
 have h3 := fL (t := t) (-T) id y
 simp only [id_eq, List.map_id_fun] at h3
 rw [h3, List.length_replicate, show x.length - y.length = k by omega]
 grind
theorem qV {y x : List Int} (hy : 0 < y.length) (h : y.length ≤ x.length) : (RF y x).length < x.length := by
 have h1 := xR (b := y) (r := x) (i := x.length - y.length) hy (by omega)
 rw [show tI y x (x.length - y.length) = lead x from by rw [tI, if_pos (by omega)]] at h1
 have e : RF y x = aV (uS y (lead y) (lead x) (x.length - y.length) x) (uV (lead y)) := Cn.ext (Cn.dZ _ _) (Cn.aV _ _) fun t => by
  unfold RF
  rw [bW, uS, uS, gR, gR, bW, bW, cM, cM, mC, mC, ← aez]
  grind
 rw [e]
 have := n7 (uS y (lead y) (lead x) (x.length - y.length) x) (uV (lead y))
 omega
theorem aaQ (t : Int) (y x : List Int) : ((lead y).natAbs : Int) * V t x = t ^ (x.length - y.length) * (uV (lead y) * lead x) * V t y + V t (RF y x) := by
 unfold RF
 rw [uS, gR, bW, cM, mC]; grind
def rq (y : List Int) : Nat → List Int → List Int
 | 0, x => x
 | n + 1, x => if x.length < y.length then x else rq y n (RF y x)
theorem ajX {y x : List Int} (h : x.length < y.length) : ∀ n, rq y n x = x
 | 0 => rfl
 | n + 1 => by rw [rq, if_pos h]
theorem RH {y : List Int} (cy : Cn y) (hy : 0 < y.length) : ∀ (n : Nat) (x : List Int), Cn x → x.length < n → Cn (rq y n x) ∧ (rq y n x).length < y.length ∧ ∃ (m : Int) (q : List Int), m ≠ 0 ∧ ∀ t, m * V t x = V t q * V t y + V t (rq y n x)
 | 0, x, _, h => by omega
 | n + 1, x, cx, h => by
  rw [rq]
  split
  ·rename_i h1
   exact ⟨cx, h1, 1, [], by decide, fun t => by simp [V]⟩
  ·rename_i h1
   have hl := qV hy (show y.length ≤ x.length by omega)
   obtain ⟨h2, h3, m, q, hm, h4⟩ := RH cy hy n (RF y x) (Cn.dZ _ _) (by omega)
   have uO := cD cy hy
   refine ⟨h2, h3, m * (lead y).natAbs, gB q (aV (oW (x.length - y.length) (uV (lead y) * lead x)) m), Int.mul_ne_zero hm (by omega), fun t => ?_⟩
   have h5 := aaQ t y x
   have h6 := h4 t
   rw [pO, bW, mC]
   have : m * ((lead y).natAbs : Int) * V t x = m * (((lead y).natAbs : Int) * V t x) := by grind
   rw [this, h5]
   grind
theorem N7 {s s' N : Nat} {y x : List Int} (qU : Bd 2 s' N y) (bx : Bd 2 s N x) (hy : 0 < y.length) (h : y.length ≤ x.length) : Bd 2 (s + (s' + N + 1)) N (RF y x) := by
 have hl := qV hy h
 have hlx := bx.len
 have hls : sz 2 ((lead y).natAbs : Int) ≤ s' := Nat.le_trans (cC (by decide) (by rw [Int.natAbs_natCast]; exact Nat.le_refl _)) (eT qU)
 have hlr : sz 2 (uV (lead y) * lead x) ≤ s := Nat.le_trans (cC (by decide) (by
  rw [Int.natAbs_mul]
  have : (uV (lead y)).natAbs = 1 := by unfold uV; split <;> rfl
  rw [this, Nat.one_mul]; exact Nat.le_refl _)) (eT bx)
 have b1 : Bd 2 (s + s' + N) (max N (x.length - y.length + 1 + N)) (aV x ((lead y).natAbs : Int)) := (bx.aV (by decide) hls).mono (by omega) (by omega)
 have b2 : Bd 2 (s + s' + N) (max N (x.length - y.length + 1 + N)) (bH (oW (x.length - y.length) (uV (lead y) * lead x)) y) := ((Bd.oW hlr (x.length - y.length)).bH (by decide) qU).mono (by omega) (by omega)
 exact ⟨by omega, fun c hc => by
  have h6 := (Bd.dZ (by decide) b1 b2).sz c hc
  omega⟩
theorem ag1 {s' N : Nat} {y : List Int} (qU : Bd 2 s' N y) (hy : 0 < y.length) : ∀ (n j s : Nat) (x : List Int), Bd 2 s N x → x.length + 1 ≤ y.length + j → Bd 2 (s + j * (s' + N + 1)) N (rq y n x)
 | 0, j, s, x, bx, _ => bx.mono (by simp) (Nat.le_refl _)
 | n + 1, j, s, x, bx, hj => by
  rw [rq]
  split
  ·exact bx.mono (by simp) (Nat.le_refl _)
  ·rename_i h1
   obtain ⟨i, rfl⟩ : ∃ i, j = i + 1 := ⟨j - 1, by omega⟩
   have hl := qV hy (show y.length ≤ x.length by omega)
   have := ag1 qU hy n i (s + (s' + N + 1)) (RF y x) (N7 qU bx hy (by omega)) (by omega)
   rw [Nat.add_mul, Nat.one_mul]
   exact this.mono (by omega) (Nat.le_refl _)
theorem ajY (n : Nat) : RI (n : Int) = .ag [aI aF (aR DD n), .bool false] := by
 simp [show ¬ ((n : Int) < 0) by omega]
set_option maxHeartbeats 2000000 in
theorem DX {s s' N : Nat} {x0 y : List Int} (bx0 : Bd 2 s N x0) (qU : Bd 2 s' N y) (cx0 : Cn x0) (cy : Cn y) (NB : 0 < y.length) (hN : N ≤ 1000) (hB : s + (x0.length + 1 - y.length + 1) * (s' + N + 1) < YY) :
  aJ env.P 127 [PI x0, PI y] (PI (rq y (x0.length + 1) x0)) := by
 have hlN := bx0.len
 have hNy := qU.len
 obtain ⟨R, hR⟩ : ∃ R, R = rq y (x0.length + 1) x0 := ⟨_, rfl⟩
 rw [← hR]
 obtain ⟨M, hM⟩ : ∃ M, M = s + (x0.length + 1 - y.length + 1) * (s' + N + 1) := ⟨_, rfl⟩
 rw [← hM] at hB
 have hB : M < 137438953472 := hB
 have hls : sz 2 ((lead y).natAbs : Int) ≤ s' := Nat.le_trans (cC (by decide) (by rw [Int.natAbs_natCast]; exact Nat.le_refl _)) (eT qU)
 have e2 : ((y.length : Int) - 1).toNat = y.length - 1 := by omega
 have LD : nth y (y.length - 1) = lead y := rfl
 refine aB (E := env) (fun id => if id = 16 then 2 else 0) [(0, PI x0), (1, PI y)] Tryz.func127 rfl (by kernel_rfl) (by kernel_rfl) (show 2 ≤ 78 by decide) (by simp) ?_
 refine W.sr ?_; simp (disch := omega) [gw]; refine W.lx [0, 1] ?_; simp
 refine W.sr ?_; simp (disch := omega) [gw, e2, LD]; refine W.lx [0, 1, 5] ?_; simp
 refine W.sr ?_; simp (disch := omega) [gw]; refine W.lx [0, 1, 5, 6] ?_; simp
 refine W.sr ?_; simp (disch := omega) [gw]; refine W.lx [0, 1, 5, 6] ?_; simp
 refine W.seq ?_
 refine W.block ?_
 refine W.a9 (fun n σ => ∃ (x : List Int) (j u : Nat) (rows : Pm.Rows) (clk : Nat), σ = ⟨fa [(0, PI x), (1, PI y), (5, .ptr 5 0 0 0), (6, .ptr 6 1 0 0)], rows, clk⟩ ∧
  rows 5 = some ⟨0, 48, 2, [[aI aF (aR DD (lead y).natAbs), .bool (decide (lead y < 0))]]⟩ ∧ rows 6 = some ⟨1, 48, 2, [[aI aF (aR DD (lead y).natAbs), .bool false]]⟩ ∧
  Cn x ∧ x.length < n ∧ rq y n x = R ∧ Bd 2 u N x ∧ x.length + 1 ≤ y.length + j ∧ u + (j + 1) * (s' + N + 1) ≤ M) (x0.length + 1) ?_ ?_
 ·exact ⟨_, .refl, x0, x0.length + 1 - y.length, s, _, _, rfl, by simp, by simp, cx0, by omega, hR.symm, bx0, by omega, by omega⟩
 rintro n _ ⟨x, j, u, rows, clk, rfl, mE, tW, cx, hxn, hxR, bx, hj, hu⟩
 have hlx := bx.len
 refine W.seq ?_
 refine W.sr ?_; simp (disch := omega) [gw]; refine W.lx [0, 1, 5, 6, 25] ?_; simp
 refine W.cond ⟨_, rfl, fun h => ?_, fun h => ?_⟩
 ·have h : y.length ≤ x.length := by simp at h; omega
  obtain ⟨n, rfl⟩ : ∃ m, n = m + 1 := ⟨n - 1, by omega⟩
  rw [rq, if_neg (by omega)] at hxR
  have ZK := qV NB h
  obtain ⟨k, hk⟩ : ∃ k, k = x.length - y.length := ⟨_, rfl⟩
  have hkI : (x.length : Int) - (y.length : Int) = k := by omega
  have e1 : ((x.length : Int) - 1).toNat = x.length - 1 := by omega
  have hxl : nth x (x.length - 1) = lead x := rfl
  have apC := aaP h
  have b2 := N7 qU bx NB h
  have hlX : sz 2 (lead x) ≤ u := eT bx
  have hu1 : u + (s' + N + 1) ≤ M := by
   have := Nat.le_mul_of_pos_left (s' + N + 1) (show 0 < j + 1 by omega)
   omega
  refine W.skip ?_
  refine W.block ?_
  refine W.sr ?_; simp (disch := omega) [gw, hkI]; refine W.lx [0, 1, 5, 6, 7] ?_; simp
  refine W.sr ?_; simp (disch := omega) [gw, e1, hxl]; refine W.lx [0, 1, 5, 6, 7, 8] ?_; simp
  obtain ⟨T, hT⟩ : ∃ T, T = uV (lead y) * lead x := ⟨_, rfl⟩
  have hTs : sz 2 T ≤ u := Nat.le_trans (cC (by decide) (by
   rw [hT, Int.natAbs_mul]
   have : (uV (lead y)).natAbs = 1 := by unfold uV; split <;> rfl
   rw [this, Nat.one_mul]; exact Nat.le_refl _)) hlX
  have hTp : (lead y < 0 → T = -lead x) ∧ (¬ lead y < 0 → T = lead x) := by
   rw [hT]; unfold uV
   constructor
   ·intro h; rw [if_pos h]; omega
   ·intro h; rw [if_neg h]; omega
  refine W.fY (fun σ => ∃ (v : Nat) (rows : Pm.Rows) (clk : Nat), σ = ⟨fa [(0, PI x), (1, PI y), (5, .ptr 5 0 0 0), (6, .ptr 6 1 0 0), (7, .int .i64 k), (8, .ptr 8 v 0 0)], rows, clk⟩ ∧
   rows 5 = some ⟨0, 48, 2, [[aI aF (aR DD (lead y).natAbs), .bool (decide (lead y < 0))]]⟩ ∧ rows 6 = some ⟨1, 48, 2, [[aI aF (aR DD (lead y).natAbs), .bool false]]⟩ ∧
   rows 8 = some ⟨v, 48, 2, [[aI aF (aR DD T.natAbs), .bool (decide (T < 0))]]⟩) ?_ ?_
  ·refine W.sr ?_; simp (disch := omega) [gw, mE]; refine W.lx [0, 1, 5, 6, 7, 8, 39] ?_; simp
   refine W.cond ⟨_, rfl, fun h => ?_, fun h => ?_⟩
   ·have h : lead y < 0 := by simpa using h
    have ZQ := pV (lead x)
    rw [← hTp.1 h] at ZQ
    refine W.b8 (fun K hK => ?_)
    simp (disch := omega) [gw]
    refine aA ZQ ?_
    simp (disch := omega) [gw]
    exact hK _ ⟨_, aC _ [0, 1, 5, 6, 7, 8], _, _, _, rfl, by simp [mE], by simp [tW], by simp⟩
   ·have h : ¬ lead y < 0 := by simpa using h
    rw [hTp.2 h]
    refine W.skip ?_
    exact ⟨_, aC _ [0, 1, 5, 6, 7, 8], _, _, _, rfl, by simp [mE], by simp [tW], by simp⟩
  clear mE tW rows clk
  rintro _ ⟨v8, rows, clk, rfl, mE, tW, xL⟩
  refine W.sr ?_; simp (disch := omega) [gw]; refine W.lx [0, 1, 5, 6, 7, 8, 9] ?_; simp
  refine W.nil 9 9 50 4 (by simp) (by decide) (fun K hK => ?_)
  refine W.lw [0, 1, 5, 6, 7, 8, 9] hK ?_; clear hK K; simp
  refine W.seq ?_
  refine W.sr ?_; simp (disch := omega) [gw]; refine W.lx [0, 1, 5, 6, 7, 8, 9, 43, 44] ?_; simp
  refine W.block ?_
  refine W.a9 (fun m σ => ∃ (i v9 : Nat) (rows : Pm.Rows) (clk : Nat), σ = ⟨fa [(0, PI x), (1, PI y), (5, .ptr 5 0 0 0), (6, .ptr 6 1 0 0), (7, .int .i64 k), (8, .ptr 8 v8 0 0), (9, .own 9 v9 0 i), (43, .int .i64 x.length), (44, .int .i64 i)], rows, clk⟩ ∧
   rows 5 = some ⟨0, 48, 2, [[aI aF (aR DD (lead y).natAbs), .bool (decide (lead y < 0))]]⟩ ∧ rows 6 = some ⟨1, 48, 2, [[aI aF (aR DD (lead y).natAbs), .bool false]]⟩ ∧
   rows 8 = some ⟨v8, 48, 2, [[aI aF (aR DD T.natAbs), .bool (decide (T < 0))]]⟩ ∧ rows 9 = some ⟨v9, 50, 4, emap ri ((List.range i).map (RG y x))⟩ ∧ i + m = x.length) x.length ?_ ?_
  ·exact ⟨_, aC _ [0, 1, 5, 6, 7, 8, 9, 43, 44], 0, _, _, _, rfl, by simp [mE], by simp [tW], by simp [xL], by simp [emap], by omega⟩
  clear mE tW xL rows clk
  rintro m _ ⟨i, v9, rows, clk, rfl, mE, tW, xL, FZ, him⟩
  have sE : ((List.range i).map (RG y x)).length = i := by simp
  refine W.sr ?_; simp (disch := omega) [gw]; refine W.lx [0, 1, 5, 6, 7, 8, 9, 43, 44, 45] ?_; simp
  refine W.seq ?_
  refine W.cond ⟨_, rfl, fun h => ?_, fun h => ?_⟩
  ·have hi : i < x.length := by simp at h; omega
   have hxi := bx.nth i
   have m1 := dQ (nth x i) ((lead y).natAbs : Int) (by show sz 2 _ < 1099511627776; omega) (by show sz 2 _ < 1099511627776; omega)
   rw [ajY] at m1
   have s1 : sz 2 (nth x i * ((lead y).natAbs : Int)) ≤ u + s' := bU (by decide) hxi hls
   have er : (List.range (i + 1)).map (RG y x) = (List.range i).map (RG y x) ++ [RG y x i] := by
    rw [List.range_succ, List.map_append]; rfl
   have hF : RG y x i = nth x i * ((lead y).natAbs : Int) - if k ≤ i then T * nth y (i - k) else 0 := by unfold RG; rw [hk, hT]
   generalize (List.range i).map (RG y x) = acc at *
   generalize hP : nth x i * ((lead y).natAbs : Int) = P at *
   refine W.skip ?_
   refine W.seq ?_
   refine W.block ?_
   refine W.sr ?_; simp (disch := omega) [gw]; refine W.lx [0, 1, 5, 6, 7, 8, 9, 10, 43, 44] ?_; simp
   refine W.sd ?_
   simp (disch := omega) [gw, tW]
   refine aA m1 ?_
   simp (disch := omega) [gw]
   rw [if_pos (by kernel_rfl)]
   simp (disch := omega) [gw]
   refine W.lx [0, 1, 5, 6, 7, 8, 9, 10, 11, 43, 44] ?_; simp
   generalize hQ : RG y x i = Q at *
   have sQ : sz 2 Q ≤ u + (s' + N + 1) := by
    have S9 : sz 2 (nth y (i - k)) ≤ s' := qU.nth _
    rw [hF]
    split
    ·have := bU (b := 2) (by decide) hTs S9
     have h1 := mU (b := 2) (by decide) (x := P) (y := -(T * nth y (i - k))) (k := u + s') s1 (by rw [n5]; exact this)
     rw [← Int.sub_eq_add_neg] at h1
     omega
    ·rw [Int.sub_zero]; omega
   refine W.fY (fun σ => ∃ (v11 : Nat) (rows : Pm.Rows) (clk : Nat), σ = ⟨fa [(0, PI x), (1, PI y), (5, .ptr 5 0 0 0), (6, .ptr 6 1 0 0), (7, .int .i64 k), (8, .ptr 8 v8 0 0), (9, .own 9 v9 0 i), (11, .ptr 11 v11 0 0), (43, .int .i64 x.length), (44, .int .i64 i)], rows, clk⟩ ∧
    rows 5 = some ⟨0, 48, 2, [[aI aF (aR DD (lead y).natAbs), .bool (decide (lead y < 0))]]⟩ ∧ rows 6 = some ⟨1, 48, 2, [[aI aF (aR DD (lead y).natAbs), .bool false]]⟩ ∧
    rows 8 = some ⟨v8, 48, 2, [[aI aF (aR DD T.natAbs), .bool (decide (T < 0))]]⟩ ∧ rows 9 = some ⟨v9, 50, 4, emap ri acc⟩ ∧
    rows 11 = some ⟨v11, 48, 2, [[aI aF (aR DD Q.natAbs), .bool (decide (Q < 0))]]⟩) ?_ ?_
   ·refine W.sr ?_; simp (disch := omega) [gw]; refine W.lx [0, 1, 5, 6, 7, 8, 9, 10, 11, 43, 44, 56] ?_; simp
    refine W.cond ⟨_, rfl, fun h => ?_, fun h => ?_⟩
    ·have hki : k ≤ i := by simp at h; omega
     rw [if_pos hki] at hF
     have eik : (i : Int) - (k : Int) = ((i - k : Nat) : Int) := by omega
     have hyb : i - k < y.length := by omega
     have m2 := dQ T (nth y (i - k)) (by show sz 2 _ < 1099511627776; omega) (by have := qU.nth (i - k); show sz 2 _ < 1099511627776; omega)
     have s2 := bU (b := 2) (by decide) hTs (qU.nth (i - k))
     have m3 := JF P (T * nth y (i - k)) (by show sz 2 _ < 1099511627776; omega) (by show sz 2 _ < 1099511627776; omega)
     rw [← hF] at m3
     generalize T * nth y (i - k) = P2 at *
     refine W.M4 (fun K hK => ?_)
     simp (disch := omega) [gw, xL, eik]
     refine aA m2 ?_
     simp (disch := omega) [gw]
     refine aA m3 ?_
     simp (disch := omega) [gw]
     refine bS (by kernel_rfl) ?_
     simp (disch := omega) [gw]
     exact hK _ ⟨_, aC _ [0, 1, 5, 6, 7, 8, 9, 11, 43, 44], _, _, _, rfl, by simp [mE], by simp [tW], by simp [xL], by simp [FZ], by simp⟩
    ·have hki : ¬ k ≤ i := by simp at h; omega
     rw [if_neg hki, Int.sub_zero] at hF
     rw [hF]
     refine W.skip ?_
     exact ⟨_, aC _ [0, 1, 5, 6, 7, 8, 9, 11, 43, 44], _, _, _, rfl, by simp [mE], by simp [tW], by simp [xL], by simp [FZ], by simp⟩
   clear mE tW xL FZ rows clk
   rintro _ ⟨v11, rows, clk, rfl, mE, tW, xL, FZ, auC⟩
   have o1 := mD 1 (by decide) (by decide)
   have mk := DH Q (by show sz 2 Q < 549755813888; omega)
   refine W.M4 (fun K hK => ?_)
   rw [if_pos rfl, dR]
   simp (disch := omega) [gw, auC]
   refine aA o1 ?_
   simp (disch := omega) [gw]
   refine aA mk ?_
   simp (disch := omega) [gw, FZ, sE]
   refine W.lw [0, 1, 5, 6, 7, 8, 9, 43, 44] hK ?_; clear hK K; simp
   refine W.b8 (fun K hK => ?_); simp (disch := omega) [gw]
   refine hK _ ⟨m - 1, _, aC _ [0, 1, 5, 6, 7, 8, 9, 43, 44], by omega, i + 1, _, _, _, rfl, by simp [mE], by simp [tW], by simp [xL], by rw [er]; simp, by omega⟩
  ·have hi : i = x.length := by simp at h; omega
   subst hi
   have fA : ((List.range x.length).map (RG y x)).length = x.length := by simp
   generalize (List.range x.length).map (RG y x) = acc at *
   have ez := bE fA
   have lU := nK acc (by omega)
   rw [apC] at lU
   refine W.exit ?_; simp only [pX, if_true, if_false, reduceIte, Nat.reduceEqDiff]
   refine W.b8 (fun K hK => ?_)
   simp (disch := omega) [gw, FZ, ez]
   refine aA lU ?_
   simp (disch := omega) [gw]
   obtain ⟨j, rfl⟩ : ∃ i, j = i + 1 := ⟨j - 1, by omega⟩
   rw [Nat.add_mul, Nat.one_mul] at hu
   refine hK _ ⟨n, _, aC _ [0, 1, 5, 6], by omega, RF y x, j, u + (s' + N + 1), _, _, rfl, by simp [mE], by simp [tW], Cn.dZ _ _, by omega, hxR, b2, by omega, by omega⟩
 ·have h : x.length < y.length := by simp at h; omega
  rw [ajX h] at hxR
  subst hxR
  refine W.exit ?_; simp only [pX, if_true, if_false, reduceIte, Nat.reduceEqDiff]
  refine W.sr ?_; simp (disch := omega) [gw]; refine W.lx [4] ?_; simp
  refine W.ret ?_
  simp [go]
end Go.Proofs.YtbbjgncblhfegaaGreat
namespace Pm
open Go Go.RowKit
section
variable {E : Env} {c : Cx} {w0 : World} {S0 : dB} {m : Nat} {G : Gs}
theorem aeA (hI : Inv w0 S0 c) {t e : TypeId} {n bb len : Nat} {z : List PV} (hE : E.ty t = .slice e n bb z) {parts : Array (Nat × Operand)} {ρ : Operand → PV} {vρ : Operand → Value} (hρ : ∀ x, aK c (ρ x) (vρ x))
  {els : List (List PV)} (yM : fV n 0 (parts.toList.map fun x => (x.1, ρ x.2)) = some els) (hlen : len = els.length) (hsm : len ≤ 4096) (hn : n ≤ 4096)
  (gV : ∀ e ∈ els, ∀ p ∈ e, gU c.rows p) :
  ∃ b5, (Instr.buildSlice t len (parts.map fun (i, x) => (i, vρ x))).run E.P c.w = .ok (.slice (some ⟨c.w.heap.size, 0, none⟩) len len) (c.w.alloc (.cells b5 e)) ∧ b5.size = len * n ∧ a7 (aP c) els.flatten b5.toList ∧ (∀ u ∈ b5.toList, u.oneCell' = true) ∧ (∀ e ∈ els, e.length = n) ∧ 0 < n := by
 obtain ⟨hu, hnp, EJ, i, zv, hi, hz, hs, _, LX, _⟩ := eI hE
 obtain ⟨g1, g2, g3⟩ := mS yM
 have PM : parts.size = els.length := by rw [g1]; simp
 have asg : zv.cells.size = n := by rw [← EJ, ← LX]; simp
 have CO : ∀ j (x : Nat × Value), ((parts.map fun (i, x) => (i, vρ x)).toList)[j]? = some x → x.1 = 0 + j ∧ ∃ e, els[j]? = some e ∧ a7 (aP c) e x.2.cells.toList ∧ ∀ u ∈ x.2.cells.toList, u.oneCell' = true := by
  intro j x hx
  simp at hx
  obtain ⟨a, b, fT, rfl⟩ := hx
  obtain ⟨q1, e, q2, q3⟩ := g3 j (a, ρ b) (by simp; exact ⟨a, b, fT, rfl, rfl⟩)
  have q4 := lA (hρ b) q3 (fun q hq => gV e (List.mem_of_getElem? q2) q hq)
  exact ⟨q1, e, q2, q4.1, q4.2⟩
 obtain ⟨b5, f1, f2⟩ := yP (n := n) (parts.map fun (i, x) => (i, vρ x)).toList 0 ((Array.range (len * n)).map (zv.cells[· % zv.cells.size]!)) (fun j x hx => by
  obtain ⟨q1, e, q2, q3, _⟩ := CO j x hx
  refine ⟨q1, ?_⟩
  have := q3.length
  rw [g2 e (List.mem_of_getElem? q2)] at this
  simpa using this.symm) (by simp [PM, hlen])
 simp only [Nat.zero_mul, List.take_zero, List.nil_append] at f2
 have i5 : (Instr.buildSlice t len (parts.map fun (i, x) => (i, vρ x))).run E.P c.w = .ok (.slice (some ⟨c.w.heap.size, 0, none⟩) len len) (c.w.alloc (.cells b5 e)) := by
  have hbound : ¬ (16777216 < len * n) := by
   have : len * n ≤ 4096 * 4096 := Nat.mul_le_mul hsm hn
   omega
  by_cases h0 : len * n = 0
  ·have uO : len = 0 := by
    rcases Nat.mul_eq_zero.1 h0 with h | h
    ·exact h
    ·omega
   have K7 : parts = #[] := Array.eq_empty_of_size_eq_zero (by omega)
   subst K7
   subst uO
   simp [Instr.fill] at f1
   subst f1
   have CP : Array.range 0 = #[] := rfl
   simp [Instr.buildSlice, run_underlying hu, cQ hi, newRow, Instr.fill, CP]
  ·have f1' : Instr.fill (fun i => some (i * n, n)) ((Array.range (len * n)).map (zv.cells[· % zv.cells.size]!)) (parts.toList.map fun x => (x.1, vρ x.2)) = some b5 := by simpa using f1
   simp only [Instr.buildSlice, Sem.run_bind, run_underlying hu, Result.andThen_ok, cQ hi, hs]
   simp [h0, hbound, newRow, zeroValue, typeInfo, hi, hz, f1']
 have e3 : b5.toList = ((parts.map fun (i, x) => (i, vρ x)).toList.map fun x => x.2.cells.toList).flatten := by rw [f2, List.flatMap_def]
 have key : ∀ (vs : List (Nat × Value)) (es : List (List PV)), vs.length = es.length → (∀ (j : Nat) (x : Nat × Value), vs[j]? = some x → ∃ e, es[j]? = some e ∧ a7 (aP c) e x.2.cells.toList ∧ ∀ u ∈ x.2.cells.toList, u.oneCell' = true) →
   a7 (aP c) es.flatten (vs.map fun x => x.2.cells.toList).flatten ∧ ∀ u ∈ (vs.map fun x => x.2.cells.toList).flatten, u.oneCell' = true := by
  intro vs
  induction vs with
  | nil =>
   intro es hl _
   have : es = [] := List.eq_nil_of_length_eq_zero hl.symm
   subst this
   exact ⟨trivial, by simp⟩
  | cons v vs ih =>
   intro es hl h
   match es, hl with
   | e :: es, hl =>
    obtain ⟨h1, h2⟩ := ih es (by simpa using hl) fun j x hx => by simpa using h (j + 1) x (by simpa using hx)
    obtain ⟨e', q1, q2, q3⟩ := h 0 v (by simp)
    simp at q1; subst q1
    simp only [List.flatten_cons, List.map_cons]
    refine ⟨a7.append q2 h1, fun u hu => ?_⟩
    rcases List.mem_append.1 hu with hu | hu
    ·exact q3 u hu
    ·exact h2 u hu
 obtain ⟨k1, k2⟩ := key (parts.map fun (i, x) => (i, vρ x)).toList els (by simp [PM]) fun j x hx => (CO j x hx).2
 rw [← e3] at k1 k2
 refine ⟨b5, i5, ?_, k1, k2, g2, hnp⟩
 have h5 := k1.length
 have fl : ∀ {l : List (List PV)}, (∀ e ∈ l, e.length = n) → l.flatten.length = l.length * n := by
  intro l
  induction l with
  | nil => intro _; simp
  | cons e l ih => intro h; rw [List.flatten_cons, List.length_append, ih (fun e he => h e (by simp [he])), h e (by simp), List.length_cons, Nat.add_mul]; omega
 rw [fl g2, Array.length_toList] at h5
 rw [hlen]; exact h5.symm
def B8 (E : Env) (o : Oper) (K : PS → Prop) (σ : PS) : Prop :=
 match o.op with
 | .buildSlice t len parts =>
  match E.ty t with
  | .slice e n _ _ => ∃ els, fV n 0 (parts.toList.map fun x => (x.1, aQ σ.f x.2)) = some els ∧ len = els.length ∧ len ≤ 4096 ∧ n ≤ 4096 ∧ (∀ x ∈ els, ∀ p ∈ x, gU σ.rows p) ∧
    EK K σ o.dst (.own (o.dst.getD 0) σ.clock 0 els.length) (o.dst.getD 0) e n els
  | _ => False
 | _ => False
theorem sL {o : Oper} {a : Act} {w : World} {σ : PS} {K : PS → Prop} (h : B8 E o K σ) (hR : Rel w0 S0 m G σ a w) (hd : ∀ t, o.dst = some t → t < m)
  {K' : Act → World → Prop} {Q : Exit → Act → World → Prop} (hK : ∀ σ' a' w', K σ' → Rel w0 S0 m G σ' a' w' → K' a' w') : o.wp E.P a w K' Q := by
 obtain ⟨⟨c, rfl, hr, fA, hI, hf, hG⟩, hn, eJ⟩ := hR
 have hρ := kS hf
 obtain ⟨dst, op, type, pos, after, guard⟩ := o
 simp only at hd
 unfold B8 at h
 simp only at h
 split at h
 ·rename_i t len parts
  split at h
  ·rename_i e n b z hE
   obtain ⟨els, h1, h2, h3, h4, h5, h⟩ := h
   rw [← hr] at h5
   obtain ⟨b5, g1, g2, g3, g4, g5, g6⟩ := aeA hI hE hρ h1 h2 h3 h4 h5
   obtain ⟨uP, hA⟩ := u3 hI (ver := σ.clock) (fun hu => Nat.lt_irrefl _ (fA _ hu)) (dst.getD 0) e n els.length els.length els b5 rfl (Nat.le_refl _) (by simp only [maxLen]; omega) (by rw [g2, h2]) (by
    rw [List.take_of_length_le (by rw [Array.length_toList, g2, h2]; exact Nat.le_refl _)]; exact g3) g4 g5 g6
   obtain ⟨f', rows', vW, yS⟩ := pE (K := fun f' r' => K ⟨f', r', σ.clock + 1⟩) hr fA hf hG hn eJ h uP hA (kB (r := ⟨σ.clock, e, n, els⟩) (A := some ⟨c.w.heap.size, 0, none⟩) (cap := els.length) (by simp [dF]) rfl (Or.inl rfl) (by simp [dF])) hd
   unfold Oper.wp
   have : (execOp a.eval { dst := dst, op := .buildSlice t len parts, type := type, pos := pos, after := after, guard := guard }).run E.P c.w = .ok (.value (.slice (some ⟨c.w.heap.size, 0, none⟩) els.length els.length)) (c.w.alloc (.cells b5 e)) := by
    rw [h2] at g1
    simp only [execOp, Sem.run_bind, h2, g1, Result.andThen_ok, Sem.run_pure]
   rw [this]
   refine hK _ _ _ vW (yS.mono fun v hv => ?_)
   show v < σ.clock + 1
   rcases hv with rfl | hv
   ·omega
   ·have : v < σ.clock := hv
    omega
  ·exact h.elim
 ·exact h.elim
theorem mI {ops : Array Oper} {K : PS → Prop} {Q : Exit → Act → World → Prop} {l2 : List Oper} (hK : ∀ σ' a' w', K σ' → Rel w0 S0 m G σ' a' w' → wpList E.P ops Q l2 a' w') :
  ∀ (l : List Oper) (σ : PS) (a : Act) (w : World), (∀ o ∈ l, ∀ t, o.dst = some t → t < m) → aL E ops.toList l K σ → Rel w0 S0 m G σ a w → wpList E.P ops Q (l ++ l2) a w
 | [], σ, a, w, _, h, hR => hK _ _ _ h hR
 | o :: os, σ, a, w, hd, h, hR => by
  have hdo := hd o (by simp)
  have hds : ∀ o ∈ os, ∀ t, o.dst = some t → t < m := fun o ho => hd o (by simp [ho])
  have wanted : ∀ {σ}, dV E o (aL E ops.toList os K) σ → Rel w0 S0 m G σ a w → o.wp E.P a w (wpList E.P ops Q (os ++ l2)) Q := fun hp hR =>
   wG hp hR hdo fun σ' a' w' hk kC => mI hK os σ' a' w' hds hk kC
  show wpList E.P ops Q (o :: (os ++ l2)) a w
  unfold wpList
  simp only [aL] at h
  split at h
  ·rename_i hg
   rw [if_pos (by simp [Region.wanted, hg])]
   exact .inl (wanted h hR)
  ·rename_i j want hg
   split at h
   ·exact h.elim
   ·rename_i d MB
    have hd3 : (ops[j]?).bind (·.dst) = some d := by simpa using MB
    have skip : yielded ops a.tmps j ≠ some want → aL E ops.toList os K (σ.put o.dst (.eP [])) → (if Region.wanted o (yielded ops a.tmps) = true then o.wp E.P a w (wpList E.P ops Q (os ++ l2)) Q ∨ (o.asks E.P a w ∧ LetsOut Q) else wpList E.P ops Q (os ++ l2) (a.put o.dst undef) w) := by
     intro hy h2
     rw [if_neg (by simpa [Region.wanted, hg] using hy)]
     refine mI hK os _ _ w hds h2 ?_
     obtain ⟨⟨c, rfl, hr, fA, hI, hf, hG⟩, hn, eJ⟩ := hR
     exact l5 hf hG hn eJ (rT.refl c) hI L8 hdo rfl (by simp [PS.put, hr]) fA
    obtain ⟨c, _, _, _, _, hf, _⟩ := hR.ex
    have hx := hf d
    rcases h with ⟨h1, h2⟩ | ⟨h1 | h1, h2⟩
    ·rw [h1] at hx
     rw [if_pos (by simp [Region.wanted, hg, gI hd3 hx])]
     exact .inl (wanted h2 hR)
    ·rw [h1] at hx
     exact skip (by rw [gI hd3 hx]; cases want <;> simp) h2
    ·rw [h1] at hx
     exact skip (by rw [r6 hd3 hx]; simp) h2
end
theorem W.aaR {E : Env} {n : Nat} {tl : Nat → Nat} {Q : PX → PS → Prop} {σ : PS} {id : Nat} {ops : List Oper} {y : Code} (i : Nat) {o : Oper} (ho : ops = ops.take i ++ o :: ops.drop (i + 1)) (hg : o.guard = none)
  (h : ∀ K : PS → Prop, (∀ σ, W E n tl y Q σ → K σ) → go (aL E ops (ops.take i) (fun σ => B8 E o (aL E ops (ops.drop (i + 1)) K) σ) σ)) : W E n tl (.seq (.region id ops.toArray false) y) Q σ := by
 refine W.seq ?_
 intro fK w0 S0 G a w Q' hR hQ
 simp only [eB, pH, Bool.and_eq_true] at fK
 have hd : ∀ o ∈ ops, ∀ t, o.dst = some t → t < n := fun o ho t ht => by
  have := Array.all_eq_true_iff_forall_mem.1 fK.1 o (by simpa using ho)
  simpa [ht] using this
 refine wp_region_list ?_
 show wpList E.P ops.toArray Q' ops a w
 have h1 := h (fun σ => W E n tl y Q σ) fun _ h => h
 have rZ : o ∈ ops := by rw [ho]; simp
 have := mI (E := E) (w0 := w0) (S0 := S0) (m := n) (G := G) (ops := ops.toArray) (Q := Q') (l2 := o :: ops.drop (i + 1)) (K := fun σ => B8 E o (aL E ops (ops.drop (i + 1)) (fun σ => W E n tl y Q σ)) σ) (fun σ' a' w' hl kC => by
  unfold wpList
  rw [if_pos (by simp [Region.wanted, hg])]
  refine .inl (sL hl kC (hd o rZ) fun σ2 a2 w2 hk hR2 => ?_)
  exact fW (E := E) (ops := ops.toArray) (fun σ3 a3 w3 hk3 hR3 => hQ .normal σ3 a3 w3 hk3 hR3) _ σ2 a2 w2 (fun o ho => hd o (List.mem_of_mem_drop ho)) hk hR2) (ops.take i) σ a w (fun o ho => hd o (List.mem_of_mem_take ho)) h1 hR
 rwa [← ho] at this
def AO (ti : TI) (rows : Rows) (len : Nat) (ps : List (Nat × PV)) (K : TypeId → Nat → List (List PV) → Prop) : Prop :=
 match ti with
 | .slice e n _ _ => iE n 0 ps fun els => aH (len = els.length ∧ len ≤ 4096 ∧ n ≤ 4096 ∧ fX rows els.flatten) (K e n els)
 | _ => False
@[congr] theorem aeB {t t' : TI} {rows rows' : Rows} {len : Nat} {ps P9 : List (Nat × PV)} {K : TypeId → Nat → List (List PV) → Prop} (h : t = t') (h2 : ps = P9) (h3 : rows = rows') : AO t rows len ps K = AO t' rows' len P9 K := by rw [h, h2, h3]
@[simp] theorem aeC {e n b : Nat} {z : List PV} {rows : Rows} {len : Nat} {ps : List (Nat × PV)} {K : TypeId → Nat → List (List PV) → Prop} : AO (.slice e n b z) rows len ps K = iE n 0 ps fun els => aH (len = els.length ∧ len ≤ 4096 ∧ n ≤ 4096 ∧ fX rows els.flatten) (K e n els) := rfl
@[simp] theorem arC {E : Env} {K : PS → Prop} {f : Nat → PV} {rows : Rows} {clk : Nat} {d : Option Tmp} {ty : TypeId} {pos : String} {af : Array Edge} {t : TypeId} {len : Nat} {parts : Array (Nat × Operand)} :
  B8 E ⟨d, .buildSlice t len parts, ty, pos, af, none⟩ K ⟨f, rows, clk⟩ = AO (E.ty t) rows len (parts.toList.map fun x => (x.1, aQ f x.2)) fun e n els => K ⟨put f d (.own (d.getD 0) clk 0 els.length), dF rows (d.getD 0) (some ⟨clk, e, n, els⟩), clk + 1⟩ := by
 simp only [B8, AO]
 generalize E.ty t = T
 cases T with
 | slice e n b z =>
  simp only
  rw [← u4]
  simp only [aH, EK, fX]
  apply propext
  constructor
  ·rintro ⟨els, h1, h2, h3, h4, h5, h6⟩
   exact ⟨els, h1, ⟨h2, h3, h4, fun q hq => by obtain ⟨x, hx, hq⟩ := List.mem_flatten.1 hq; exact h5 x hx q hq⟩, h6⟩
  ·rintro ⟨els, h1, ⟨h2, h3, h4, h5⟩, h6⟩
   exact ⟨els, h1, h2, h3, h4, fun x hx q hq => h5 q (List.mem_flatten.2 ⟨x, hx, hq⟩), h6⟩
 | _ => rfl
end Pm
namespace Go.Proofs.YtbbjgncblhfegaaGreat
open Go Pm
def rz (a c : ZX) : ZX := ZX.of (rq c.l (a.l.length + 1) a.l)
theorem qW {a c : ZX} (hc : c ≠ 0) : (rz a c).l = rq c.l (a.l.length + 1) a.l ∧ ZX.N (rz a c) < ZX.N c ∧ ∃ (m : Int) (q : ZX), m ≠ 0 ∧ ZX.K m * a = q * c + ZX.K 1 * rz a c := by
 obtain ⟨h1, h2, m, q, hm, h3⟩ := RH c.c (ZX.aD.1 hc) (a.l.length + 1) a.l a.c (by omega)
 have e : (rz a c).l = rq c.l (a.l.length + 1) a.l := h1
 refine ⟨e, by show (rz a c).l.length < c.l.length; rw [e]; exact h2, m, ZX.of q, hm, ZX.ext fun t => ?_⟩
 rw [ZX.cV, ZX.rE, ZX.iU, ZX.cV, ZX.cV, ZX.rE, ZX.B6, e, h3 t]; omega
theorem RJ {s n : Nat} {a c : ZX} (ha : BZ s n a) (hb : BZ s n c) (hc : c ≠ 0) : BZ (s + (ZX.N a + 1 - ZX.N c) * (s + n + 1)) n (rz a c) := by
 have h := ag1 hb (ZX.aD.1 hc) (a.l.length + 1) (ZX.N a + 1 - ZX.N c) s a.l ha (by show ZX.N a + 1 ≤ ZX.N c + _; omega)
 rw [← (qW hc).1] at h
 exact h
theorem DY {s n C : Nat} {a c : ZX} (b : BZ s n a) (b' : BZ s n c) (hP : x6 C n s (nf a) (nf c)) (hn : n ≤ 20) (hC : C ≤ 4500000000) (h1 : 1 ≤ s) : aJ env.P 171 [PI a.l, PI c.l] (PI (gz a c).l) := by
 have hs := hP.le
 have p1 := j3 b h1 (by show s ≤ 137438953472; omega) (by omega)
 have p2 := j3 b' h1 (by show s ≤ 137438953472; omega) (by omega)
 have b1 := b.nf
 have b2 := b'.nf
 have hg : gz (nf a) (nf c) = gz a c := by rw [agV, N4]
 have hx1 := J4 a
 rw [← hg]
 generalize nS : nf a = x0 at *
 generalize NB : nf c = y0 at *
 generalize hG : gz x0 y0 = G at *
 refine aB (E := env) (fun _ => 0) [(0, PI a.l), (1, PI c.l)] Tryz.func171 rfl (by kernel_rfl) (by kernel_rfl) (show 2 ≤ 18 by decide) (by simp) ?_
 generalize a.l = al at *
 generalize c.l = cl at *
 refine W.sr ?_; simp (disch := omega) [gw]; refine W.lx [0, 1] ?_; simp
 refine W.sr ?_
 simp (disch := omega) [gw]
 refine aA p1 ?_
 simp (disch := omega) [gw]
 refine aA p2 ?_
 simp (disch := omega) [gw]
 refine W.lx [0, 1] ?_; simp
 refine W.seq ?_
 refine W.block ?_
 refine W.a9 (fun k σ => ∃ (x y : ZX) (s : Nat) (rows : Pm.Rows) (clk : Nat), σ = ⟨fa [(0, PI x.l), (1, PI y.l)], rows, clk⟩ ∧ BZ s n x ∧ BZ s n y ∧ 1 ≤ s ∧ x6 C n s x y ∧ gz x y = G ∧ nf x = x ∧ nf y = y ∧ k = ZX.N y) (ZX.N y0) ?_ ?_
 ·exact ⟨_, .refl, x0, y0, s, _, _, rfl, b1, b2, h1, hP, hG, hx1, by rw [← NB, J4], rfl⟩
 rintro k _ ⟨x, y, s, rows, clk, rfl, bx, qU, h1, hp, hgz, hnx, hny, rfl⟩
 have hs := hp.le
 have hlx := bx.len
 have hly := qU.len
 refine W.seq ?_
 refine W.sr ?_; simp (disch := omega) [gw]; refine W.lx [0, 1, 11] ?_; simp
 refine W.cond ⟨_, rfl, fun h => ?_, fun h => ?_⟩
 ·have hy : y ≠ 0 := ZX.aD.2 (by show 0 < y.l.length; simp at h; omega)
  obtain ⟨T5, hN, m, q, hm, e⟩ := qW (a := x) hy
  have br := RJ bx qU hy
  have hmul : (x.l.length + 1 - y.l.length + 1) * (s + n + 1) ≤ 22 * 4500000000 := Nat.mul_le_mul (by omega) (by omega)
  have ag3 : (ZX.N x + 1 - ZX.N y) * (s + n + 1) ≤ 22 * 4500000000 := Nat.mul_le_mul (by have : ZX.N x = x.l.length := rfl; omega) (by omega)
  have hR := DX (s := s) (s' := s) (N := n) bx qU x.c y.c (ZX.aD.1 hy) (by omega) (by show _ < 137438953472; omega)
  rw [← T5] at hR
  have pr := j3 br (by omega) (by show _ ≤ 137438953472; omega) (by omega)
  have FP : ZX.N (nf (rz x y)) < ZX.N y := by rw [B7]; exact hN
  have hp2 := hp.step FP
  have m8 := F6 hm (show (1 : Int) ≠ 0 by decide) e
  rw [← N4 y (rz x y)] at m8
  have br2 := br.nf
  have UC := J4 (rz x y)
  generalize (rz x y).l = rl at *
  generalize nf (rz x y) = r2 at *
  refine W.skip ?_
  refine W.block ?_
  refine W.b8 (fun K hK => ?_)
  simp (disch := omega) [gw]
  refine aA hR ?_
  simp (disch := omega) [gw]
  refine aA pr ?_
  simp (disch := omega) [gw]
  refine hK _ ⟨ZX.N r2, _, aC _ [0, 1], FP, y, r2, _, _, _, rfl, qU.mono (by omega) (Nat.le_refl _), br2, by omega, hp2, by rw [← m8, hgz], hny, UC, rfl⟩
 ·have hy : y = 0 := by
   refine Classical.byContradiction fun h0 => ?_
   have h1 := ZX.aD.1 h0
   have h2 : ZX.N y = y.l.length := rfl
   simp at h; rw [h2, h] at h1; simp at h1
  subst hy
  rw [uA, hnx] at hgz
  subst hgz
  refine W.exit ?_; simp only [pX, if_true, if_false, reduceIte, Nat.reduceEqDiff]
  refine W.sr ?_; simp (disch := omega) [gw]; refine W.lx [4] ?_; simp
  refine W.ret ?_
  simp [go]
theorem U7 {h h' n : Nat} {a c : ZX} (b : BZ h n a) (b' : BZ h' n c) (h1 : 1 ≤ h) (ha : Nf a) (hc : Nf c) (hd : ZX.dv c a) (hB : h + (n + 1) * (h' + n + 2) + h' + n + n + 10 < 137438953472) : aJ env.P 172 [PI a.l, PI c.l] (.eP [PI (qz a c).l, PI []]) := by
 obtain ⟨hw, e⟩ := mH ha hc hd
 have hD := JV a.l c.l b b' a.c c.c (ZX.aD.1 hc.ne) h1 hB
 obtain ⟨e1, e2⟩ := aaw (q := (qz a c).l) a.c c.c (ZX.aD.1 hc.ne) (qz a c).c fun t => by
  conv => lhs; rw [e]
  rw [ZX.cV]
 rw [e1, e2, oT, oT, oT] at hD
 exact hD
def zq (a : ZX) : List PV := [PI a.l]
@[simp] theorem auD {a : ZX} : zq a = [PI a.l] := rfl
@[simp] theorem ami {l : List ZX} : bC 1 (emap zq l) = True := c8 fun _ => rfl
@[simp] theorem aj0 {v e n : Nat} {l : List ZX} : cR (some ⟨v, e, n, emap zq l⟩) = True := cN fun _ => rfl
@[simp] theorem auE {l : List ZX} {a : ZX} : emap zq l ++ [[aI ri a.l]] = emap zq (l ++ [a]) := by simp [emap]
theorem o7.qd {s n : Nat} {a c d : ZX} (h : o7 s n a) (h1 : 1 ≤ s) (ha : Nf a) (hc : Nf c) (hd : Nf d) (hca : ZX.dv c a) (hdc : ZX.dv d c) : aJ env.P 172 [PI c.l, PI d.l] (.eP [PI (qz c d).l, PI []]) ∧ aJ env.P 111 [PI (qz c d).l] (PI (qz c d).l) := by
 have b := h.dv ha hc hca
 have b2 := h.dv ha hd (hdc.trans hca)
 have hq := h.oU
 have hn := h.hn
 obtain ⟨hw, e⟩ := mH hc hd hdc
 have bq := h.dv ha hw ((aaJ hc hd hdc).trans hca)
 have hm : (n + 1) * (qb s n + n + 2) ≤ 21 * 4500000000 := Nat.mul_le_mul (by omega) (by omega)
 have aj1 : 1 ≤ qb s n := by unfold qb; omega
 refine ⟨U7 b b2 aj1 hc hd hdc (by omega), ?_⟩
 have := j3 bq aj1 (by show _ ≤ 137438953472; omega) (by omega)
 rwa [hw.nfe] at this
theorem o7.qgd {s n : Nat} {a c : ZX} (h : o7 s n a) (ha : Nf a) (hc : Nf c) (hd : ZX.dv c a) : aJ env.P 125 [PI c.l] (PI (ZX.bK c).l) ∧ aJ env.P 171 [PI c.l, PI (ZX.bK c).l] (PI (gd c).l) := by
 have b := h.dv ha hc hd
 have b2 := b.bK (by have := h.hn; omega)
 have hq := h.oU
 have hn := h.hn
 have aj1 : 1 ≤ qb s n := by unfold qb; omega
 refine ⟨uD b (by show _ ≤ 137438953472; omega) (by omega), DY (s := qb s n + 5) (b.mono (by omega) (Nat.le_refl _)) b2 ?_ h.hn (C := 4500000000) (Nat.le_refl _) (by omega)⟩
 have hN := ZX.lN c
 have h1 : ZX.N c ≤ n := b.N
 have h2 := ZX.aD.1 hc.ne
 unfold x6
 rw [B7, B7, if_pos (by omega)]
 refine Nat.le_trans (Nat.mul_le_mul (show qb s n + 5 + n + 1 ≤ qb s n + n + 6 by omega) (Nat.pow_le_pow_right (by decide) h1)) h.hC
theorem oF {s n : Nat} {a : ZX} (h : o7 s n a) (h1 : 1 ≤ s) : aJ env.P 93 [PI a.l] (aI zq (fl (nf a))) := by
 have hqb := h.oU
 have hn := h.hn
 have qQ : s ≤ 4500000000 := by unfold qb at hqb; omega
 have p1 := j3 h.bz h1 (by show s ≤ 137438953472; omega) (by omega)
 have hA := h.nfz
 have hNa : ZX.N a = a.l.length := rfl
 have hNN := B7 a
 have hle := DU (nf a)
 have hNA : ZX.N (nf a) ≤ n := hA.bz.N
 refine aB (E := env) (fun _ => 0) [(0, PI a.l)] Tryz.func93 rfl (by kernel_rfl) (by kernel_rfl) (show 1 ≤ 94 by decide) (by simp) ?_
 refine W.sr ?_; simp (disch := omega) [gw]; refine W.lx [0] ?_; simp
 refine W.seq ?_
 refine W.sr ?_; simp (disch := omega) [gw]; refine W.lx [0, 2, 15] ?_; simp
 refine W.cond ⟨_, rfl, fun h => ?_, fun h => ?_⟩
 ·have h2 : ZX.N a ≤ 1 := by simp at h; omega
  have h3 : fl (nf a) = [] := by unfold fl; rw [KB (by rw [hNN]; exact h2)]; rfl
  rw [h3]
  refine W.sr ?_; simp (disch := omega) [gw]; refine W.lx [2] ?_; simp
  refine W.TZ 2 (aI zq []) (by simp) rfl (fun K hK => ?_)
  refine W.lw [2] hK ?_; clear hK K; simp
  refine W.ret ?_
  simp [go]
 have h2 : 2 ≤ ZX.N a := by simp at h; omega
 have nA : Nf (nf a) := gF (ZX.aD.2 (by omega))
 clear h
 generalize nf a = A at *
 obtain ⟨m, hm⟩ : ∃ m, m = nl A := ⟨_, rfl⟩
 have QO : fl A = (List.range m).map (kJ A) := by rw [hm]; rfl
 rw [QO]
 refine W.skip ?_
 refine W.sr ?_
 simp (disch := omega) [gw]
 refine aA p1 ?_
 simp (disch := omega) [gw]
 refine W.lx [0] ?_; simp
 refine W.sr ?_; simp (disch := omega) [gw]; refine W.lx [0, 3] ?_; simp
 refine W.aaR 1 rfl rfl (fun K hK => ?_)
 simp (disch := omega) [gw]
 refine W.lw [3, 4] hK ?_; clear hK K; simp
 refine W.seq ?_
 refine W.block ?_
 refine W.a9 (fun k σ => ∃ (i ver : Nat) (rows : Pm.Rows) (clk : Nat), σ = ⟨fa [(3, .nil), (4, .own 19 ver 0 (i + 1))], rows, clk⟩ ∧ rows 19 = some ⟨ver, 24, 1, emap zq ((List.range (i + 1)).map (gs A))⟩ ∧ i + k = m) m ?_ ?_
 ·exact ⟨_, .refl, 0, _, _, _, rfl, by simp [emap, gs], by omega⟩
 rintro k _ ⟨i, ver, rows, clk, rfl, hr, I5⟩
 have sE : ((List.range (i + 1)).map (gs A)).length = i + 1 := by simp
 have sJ : nth ((List.range (i + 1)).map (gs A)) i = gs A i := dU _ (by omega)
 have er : (List.range (i + 1 + 1)).map (gs A) = (List.range (i + 1)).map (gs A) ++ [gs A (i + 1)] := by rw [List.range_succ, List.map_append]; rfl
 have e1 : ((i : Int) + 1 - 1).toNat = i := by omega
 generalize hL : (List.range (i + 1)).map (gs A) = L at *
 refine W.seq ?_
 refine W.sr ?_; simp (disch := omega) [gw, hr, sE, sJ]; refine W.lx [3, 4, 27] ?_; simp
 refine W.cond ⟨_, rfl, fun h => ?_, fun h => ?_⟩
 ·have h3 : 2 ≤ ZX.N (gs A i) := by
   have h4 : ZX.N (gs A i) = (gs A i).l.length := rfl
   simp at h; omega
  clear h
  have hi : i < nl A := by
   rcases Nat.lt_or_ge i (nl A) with h4 | h4
   ·exact h4
   ·have h5 := (jH A).1
    rw [show nl A = i by omega] at h5; omega
  obtain ⟨t1, t2⟩ := hA.qgd nA (lO nA i) (DT A i)
  rw [show gd (gs A i) = gs A (i + 1) from rfl] at t2
  generalize hg : (gs A i).l = g at *
  generalize m8 : gs A (i + 1) = g2 at *
  refine W.skip ?_
  refine W.block ?_
  refine W.sr ?_; simp (disch := omega) [gw, hr, sE, sJ, hg]; refine W.lx [3, 4, 5] ?_; simp
  refine W.b8 (fun K hK => ?_)
  simp (disch := omega) [gw]
  refine aA t1 ?_
  simp (disch := omega) [gw]
  refine aA t2 ?_
  simp (disch := omega) [gw, hr, sE]
  refine hK _ ⟨k - 1, _, aC _ [3, 4], by omega, i + 1, _, _, _, rfl, by rw [er]; simp, by omega⟩
 have h3 : ZX.N (gs A i) ≤ 1 := by
  have h4 : ZX.N (gs A i) = (gs A i).l.length := rfl
  simp at h; omega
 clear h
 have hi : i = m := by
  rcases Nat.lt_or_ge i (nl A) with h4 | h4
  ·have := (jH A).2 i h4; omega
  ·omega
 subst hi
 have hR : L ++ [(1 : ZX)] = (List.range (i + 2)).map (gs A) := by
  rw [show (1 : ZX) = gs A (i + 1) by rw [hm, J7 nA 1]]
  exact er.symm
 have gV := p9
 generalize hz : (1 : ZX) = z1 at *
 refine W.exit ?_; simp only [pX, if_true, if_false, reduceIte, Nat.reduceEqDiff]
 refine W.sr ?_
 simp (disch := omega) [gw]
 refine aA gV ?_
 simp (disch := omega) [gw, hr, sE]
 refine W.lx [3, 4] ?_; simp
 clear hr sJ e1 er hL sE
 have hRl : (L ++ [z1]).length = i + 2 := by rw [hR]; simp
 have sJ : ∀ j, j < i + 2 → nth (L ++ [z1]) j = gs A j := fun j hj => by rw [hR]; exact dU _ hj
 generalize L ++ [z1] = R at *
 have hRt : List.take (i + 2) R = R := List.take_of_length_le (by omega)
 refine W.freeze 19 (by simp) (fun K hK => ?_)
 simp [hRt]
 refine hK _ ?_; clear hK K
 refine W.nil 3 3 24 1 (by simp) (by decide) (fun K hK => ?_)
 refine W.lw [3, 4] hK ?_; clear hK K; simp
 refine W.seq ?_
 refine W.sr ?_; simp (disch := omega) [gw]; refine W.lx [3, 4, 6] ?_; simp
 refine W.block ?_
 refine W.a9 (fun k σ => ∃ (j ver : Nat) (rows : Pm.Rows) (clk : Nat), σ = ⟨fa [(3, .own 3 ver 0 j), (4, aI zq R), (6, .int .i64 j)], rows, clk⟩ ∧ rows 3 = some ⟨ver, 24, 1, emap zq ((List.range j).map (kJ A))⟩ ∧ j + k = i) i ?_ ?_
 ·exact ⟨_, .refl, 0, _, _, _, rfl, by simp [emap], by omega⟩
 clear rows clk ver I5 k
 rintro k _ ⟨j, ver, rows, clk, rfl, hr, hjk⟩
 have hjl : ((List.range j).map (kJ A)).length = j := by simp
 refine W.seq ?_
 refine W.sr ?_; simp (disch := omega) [gw, hRl]; refine W.lx [3, 4, 6, 50] ?_; simp
 refine W.cond ⟨_, rfl, fun h => ?_, fun h => ?_⟩
 ·have hj : j < i := by simp at h; omega
  clear h
  have er : (List.range (j + 1)).map (kJ A) = (List.range j).map (kJ A) ++ [kJ A j] := by rw [List.range_succ, List.map_append]; rfl
  have n0 := sJ j (by omega)
  have n1 := sJ (j + 1) (by omega)
  have n2 := sJ (j + 2) (by omega)
  have l0 : j < R.length := by omega
  have l1 : j + 1 < R.length := by omega
  have l2 : j + 2 < R.length := by omega
  have e1 : ((j : Int) + 1).toNat = j + 1 := by omega
  have e2 : ((j : Int) + 2).toNat = j + 2 := by omega
  obtain ⟨d1, q1⟩ := hA.qd h1 nA (lO nA j) (lO nA (j + 1)) (DT A j) (w7 _)
  obtain ⟨d2, q2⟩ := hA.qd h1 nA (lO nA (j + 1)) (lO nA (j + 2)) (DT A (j + 1)) (w7 _)
  obtain ⟨d3, q3⟩ := hA.qd h1 nA (eU nA j).1 (eU nA (j + 1)).1 (xY nA j) (J9 nA j)
  rw [show qz (gs A j) (gs A (j + 1)) = wz A j from rfl] at d1 q1
  rw [show qz (gs A (j + 1)) (gs A (j + 2)) = wz A (j + 1) from rfl] at d2 q2
  rw [show qz (wz A j) (wz A (j + 1)) = kJ A j from rfl] at d3 q3
  have h0 : (nth R j).l = (gs A j).l := by rw [n0]
  have h1' : (nth R (j + 1)).l = (gs A (j + 1)).l := by rw [n1]
  have h2' : (nth R (j + 2)).l = (gs A (j + 2)).l := by rw [n2]
  generalize (gs A j).l = g0 at *
  generalize (gs A (j + 1)).l = g1 at *
  generalize (gs A (j + 2)).l = g2 at *
  generalize (wz A j).l = w0 at *
  generalize (wz A (j + 1)).l = w1 at *
  generalize hF : kJ A j = F at *
  generalize hac : (List.range j).map (kJ A) = acc at *
  refine W.skip ?_
  refine W.seq ?_
  refine W.block ?_
  refine W.sd ?_
  simp (disch := omega) [gw, h0, h1', e1]
  refine aA d1 ?_
  simp (disch := omega) [gw]
  refine W.lx [3, 4, 6, 7] ?_; simp
  refine W.sd ?_
  simp (disch := omega) [gw, h1', h2', e1, e2]
  refine aA d2 ?_
  simp (disch := omega) [gw]
  refine W.lx [3, 4, 6, 7, 9] ?_; simp
  refine W.sr ?_
  simp (disch := omega) [gw]
  refine aA q1 ?_
  simp (disch := omega) [gw]
  refine aA q2 ?_
  simp (disch := omega) [gw]
  refine aA d3 ?_
  simp (disch := omega) [gw]
  refine W.lx [3, 4, 6, 11] ?_; simp
  refine W.b8 (fun K hK => ?_)
  simp (disch := omega) [gw]
  refine aA q3 ?_
  simp (disch := omega) [gw, hr, hjl]
  refine W.lw [3, 4, 6] hK ?_; clear hK K; simp
  refine W.b8 (fun K hK => ?_); simp (disch := omega) [gw]
  refine hK _ ⟨k - 1, _, aC _ [3, 4, 6], by omega, j + 1, _, _, _, rfl, by rw [er]; simp, by omega⟩
 ·have hj : j = i := by simp at h; omega
  subst hj
  generalize (List.range j).map (kJ A) = acc at *
  have uR : List.take j acc = acc := List.take_of_length_le (by omega)
  refine W.exit ?_; simp only [pX, if_true, if_false, reduceIte, Nat.reduceEqDiff]
  refine W.sr ?_
  simp (disch := omega) [gw, hr, uR]
  refine W.lx [2] ?_; simp
  refine W.ret ?_
  simp [go, hr, uR]
theorem uE {s n : Nat} {a : ZX} (h : o7 s n a) (h1 : 1 ≤ s) : aJ env.P 26 [PI a.l] (PI (sq a).l) := by
 have hqb := h.oU
 have hn := h.hn
 have hF := oF h h1
 have hA := h.nfz
 have hNa : ZX.N a = a.l.length := rfl
 have rF : ZX.N a ≠ 0 → sq a = pf (nf a) (fun _ => true) (nl (nf a)) := fun h0 => by
  have nA := gF (ZX.aD.2 (Nat.pos_of_ne_zero h0))
  unfold sq
  split
  ·rename_i h2
   rw [KB (by rw [B7]; exact h2), nA.N1 (by rw [B7]; exact h2)]; rfl
  ·rw [ajT nA]
 have hNf : ZX.N a ≠ 0 → Nf (nf a) := fun h0 => gF (ZX.aD.2 (Nat.pos_of_ne_zero h0))
 have hle := DU (nf a)
 have hNA : ZX.N (nf a) ≤ n := hA.bz.N
 have apE : ZX.N a = 0 → (sq a).l = [] := fun h0 => by
  have h2 : a = 0 := Classical.byContradiction fun h3 => by have := ZX.aD.1 h3; omega
  unfold sq
  rw [if_pos (by omega), h2, jG]; rfl
 generalize nf a = A at *
 refine aB (E := env) (fun _ => 0) [(0, PI a.l)] Tryz.func26 rfl (by kernel_rfl) (by kernel_rfl) (show 1 ≤ 26 by decide) (by simp) ?_
 refine W.sr ?_; simp (disch := omega) [gw]; refine W.lx [0] ?_; simp
 refine W.seq ?_
 refine W.sr ?_; simp (disch := omega) [gw]; refine W.lx [0, 2, 8] ?_; simp
 refine W.cond ⟨_, rfl, fun h3 => ?_, fun h3 => ?_⟩
 ·have h0 : ZX.N a = 0 := by rw [hNa]; simp at h3; rw [h3]; rfl
  rw [apE h0]
  refine W.sr ?_; simp (disch := omega) [gw]; refine W.lx [2] ?_; simp
  refine W.TZ 2 (PI []) (by simp) rfl (fun K hK => ?_)
  refine W.lw [2] hK ?_; clear hK K; simp
  refine W.ret ?_
  simp [go]
 have h0 : ZX.N a ≠ 0 := by rw [hNa]; simp at h3; intro h4; exact h3 (List.eq_nil_of_length_eq_zero h4)
 have nA := hNf h0
 rw [rF h0]
 clear h3 rF apE hNf
 have hmul : ∀ i, aJ env.P 54 [PI (pf A (fun _ => true) i).l, PI (kJ A i).l] (PI (pf A (fun _ => true) (i + 1)).l) := fun i => by
  have b1 := hA.dv nA (uC nA (fun _ => true) i) (xZ nA _ i)
  have b2 := hA.dv nA (uB nA i).1 (F7 nA i)
  exact jX _ _ _ _ _ _ b1 b2 (by show _ < 137438953472; omega)
 obtain ⟨m, hm⟩ : ∃ m, m = nl A := ⟨_, rfl⟩
 have QO : fl A = (List.range m).map (kJ A) := by rw [hm]; rfl
 rw [← hm] at hle ⊢
 rw [QO] at hF
 have BK : ((List.range m).map (kJ A)).length = m := by simp
 have sJ : ∀ i, i < m → (nth ((List.range m).map (kJ A)) i).l = (kJ A i).l := fun i hi => by rw [dU _ hi]
 generalize (List.range m).map (kJ A) = L at *
 have h1 := p9
 rw [show (1 : ZX) = pf A (fun _ => true) 0 from rfl] at h1
 generalize hg : pf A (fun _ => true) 0 = g0 at *
 refine W.skip ?_
 refine W.sr ?_
 simp (disch := omega) [gw]
 refine aA h1 ?_
 simp (disch := omega) [gw]
 refine W.lx [0, 3] ?_; simp
 refine W.sr ?_
 simp (disch := omega) [gw]
 refine aA hF ?_
 simp (disch := omega) [gw]
 refine W.lx [3, 4] ?_; simp
 refine W.seq ?_
 refine W.sr ?_; simp (disch := omega) [gw, BK]; refine W.lx [3, 4, 14, 15] ?_; simp
 subst hg
 refine W.block ?_
 refine W.a9 (fun k σ => ∃ (i : Nat) (rows : Pm.Rows) (clk : Nat), σ = ⟨fa [(3, PI (pf A (fun _ => true) i).l), (4, aI zq L), (14, .int .i64 m), (15, .int .i64 i)], rows, clk⟩ ∧ i + k = m) m ?_ ?_
 ·exact ⟨_, .refl, 0, _, _, rfl, by omega⟩
 rintro k _ ⟨i, rows, clk, rfl, I5⟩
 refine W.sr ?_; simp (disch := omega) [gw]; refine W.lx [3, 4, 14, 15, 16] ?_; simp
 refine W.seq ?_
 refine W.cond ⟨_, rfl, fun h => ?_, fun h => ?_⟩
 ·have hi : i < m := by simp at h; omega
  have hiL : i < L.length := by omega
  have ht := hmul i
  have sK := sJ i hi
  generalize m8 : pf A (fun _ => true) (i + 1) = g2 at *
  generalize pf A (fun _ => true) i = g at *
  refine W.skip ?_
  refine W.seq ?_
  refine W.block ?_
  refine W.sr ?_; simp (disch := omega) [gw]; refine W.lx [3, 4, 5, 14, 15] ?_; simp
  refine W.b8 (fun K hK => ?_)
  simp (disch := omega) [gw, sK]
  refine aA ht ?_
  simp (disch := omega) [gw]
  refine W.lw [3, 4, 14, 15] hK ?_; clear hK K; simp
  subst m8
  refine W.b8 (fun K hK => ?_); simp (disch := omega) [gw]
  refine hK _ ⟨k - 1, _, aC _ [3, 4, 14, 15], by omega, i + 1, _, _, rfl, by omega⟩
 ·have hi : i = m := by simp at h; omega
  subst hi
  refine W.exit ?_; simp only [pX, if_true, if_false, reduceIte, Nat.reduceEqDiff]
  refine W.sr ?_; simp (disch := omega) [gw]; refine W.lx [2] ?_; simp
  refine W.ret ?_
  simp [go]
theorem U8 {s n : Nat} {a : ZX} (h : o7 s n a) (h1 : 1 ≤ s) (h0 : a ≠ 0) : aJ env.P 121 [PI a.l] (PI (oz (nf a)).l) := by
 have hqb := h.oU
 have hn := h.hn
 have hF := oF h h1
 have hA := h.nfz
 have nA := gF h0
 have qI : a.l.length ≠ 0 := fun h1 => by have h2 := ZX.aD.1 h0; have h3 : ZX.N a = a.l.length := rfl; omega
 have hle := DU (nf a)
 have hNA : ZX.N (nf a) ≤ n := hA.bz.N
 generalize nf a = A at *
 obtain ⟨c, hc⟩ : ∃ c : Nat → Bool, c = fun k => k % 2 == 0 := ⟨_, rfl⟩
 have hoz : oz A = pf A c (nl A) := by rw [hc]; rfl
 rw [hoz]
 have hmul : ∀ i, i % 2 = 0 → aJ env.P 54 [PI (pf A c i).l, PI (kJ A i).l] (PI (pf A c (i + 2)).l) := fun i hi => by
  have b1 := hA.dv nA (uC nA c i) (xZ nA _ i)
  have b2 := hA.dv nA (uB nA i).1 (F7 nA i)
  have e : pf A c (i + 2) = pf A c i * kJ A i := by
   have c1 : c (i + 1) = false := by rw [hc]; simp; omega
   have c2 : c i = true := by rw [hc]; simp; omega
   rw [pf, if_neg (by rw [c1]; decide), pf, if_pos c2]
  rw [e]
  exact jX _ _ _ _ _ _ b1 b2 (by show _ < 137438953472; omega)
 obtain ⟨m, hm⟩ : ∃ m, m = nl A := ⟨_, rfl⟩
 have QO : fl A = (List.range m).map (kJ A) := by rw [hm]; rfl
 have N8 : ∀ i, m ≤ i → i ≤ m + 1 → i % 2 = 0 → pf A c i = pf A c m := fun i hi BE hi3 => by
  rcases Nat.lt_or_ge m i with h4 | h4
  ·obtain rfl : i = m + 1 := by omega
   rw [pf, if_neg (by rw [hc]; simp; omega)]
  ·rw [show i = m by omega]
 rw [← hm] at hle ⊢
 rw [QO] at hF
 have BK : ((List.range m).map (kJ A)).length = m := by simp
 have sJ : ∀ i, i < m → (nth ((List.range m).map (kJ A)) i).l = (kJ A i).l := fun i hi => by rw [dU _ hi]
 generalize (List.range m).map (kJ A) = L at *
 have h1 := p9
 rw [show (1 : ZX) = pf A c 0 from rfl] at h1
 generalize hg : pf A c 0 = g0 at *
 refine aB (E := env) (fun _ => 0) [(0, PI a.l)] Tryz.func121 rfl (by kernel_rfl) (by kernel_rfl) (show 1 ≤ 26 by decide) (by simp) ?_
 refine W.sr ?_; simp (disch := omega) [gw]; refine W.lx [0] ?_; simp
 refine W.seq ?_
 refine W.sr ?_; simp (disch := omega) [gw]; refine W.lx [0, 2, 8] ?_; simp
 refine W.cond ⟨_, rfl, fun h3 => ?_, fun h3 => ?_⟩
 ·simp at h3; exact absurd (by rw [h3]; rfl) qI
 clear h3
 refine W.skip ?_
 refine W.sr ?_
 simp (disch := omega) [gw]
 refine aA h1 ?_
 simp (disch := omega) [gw]
 refine W.lx [0, 3] ?_; simp
 refine W.sr ?_
 simp (disch := omega) [gw]
 refine aA hF ?_
 simp (disch := omega) [gw]
 refine W.lx [3, 4] ?_; simp
 refine W.seq ?_
 refine W.sr ?_; simp (disch := omega) [gw]; refine W.lx [3, 4, 5] ?_; simp
 subst hg
 refine W.block ?_
 refine W.a9 (fun k σ => ∃ (i : Nat) (rows : Pm.Rows) (clk : Nat), σ = ⟨fa [(3, PI (pf A c i).l), (4, aI zq L), (5, .int .i64 i)], rows, clk⟩ ∧ k = m - i ∧ i ≤ m + 1 ∧ i % 2 = 0) m ?_ ?_
 ·exact ⟨_, .refl, 0, _, _, rfl, by omega, by omega, rfl⟩
 rintro k _ ⟨i, rows, clk, rfl, I5, him, BE⟩
 refine W.seq ?_
 refine W.sr ?_; simp (disch := omega) [gw, BK]; refine W.lx [3, 4, 5, 16] ?_; simp
 refine W.cond ⟨_, rfl, fun h => ?_, fun h => ?_⟩
 ·have hi : i < m := by simp at h; omega
  have hiL : i < L.length := by omega
  have ht := hmul i BE
  have sK := sJ i hi
  generalize m8 : pf A c (i + 2) = g2 at *
  generalize pf A c i = g at *
  refine W.skip ?_
  refine W.seq ?_
  refine W.block ?_
  refine W.b8 (fun K hK => ?_)
  simp (disch := omega) [gw, sK]
  refine aA ht ?_
  simp (disch := omega) [gw]
  refine W.lw [3, 4, 5] hK ?_; clear hK K; simp
  subst m8
  refine W.b8 (fun K hK => ?_); simp (disch := omega) [gw]
  refine hK _ ⟨m - (i + 2), _, aC _ [3, 4, 5], by omega, i + 2, _, _, rfl, rfl, by omega, by omega⟩
 ·have hi : m ≤ i := by simp at h; omega
  rw [N8 i hi him BE]
  refine W.exit ?_; simp only [pX, if_true, if_false, reduceIte, Nat.reduceEqDiff]
  refine W.sr ?_; simp (disch := omega) [gw]; refine W.lx [2] ?_; simp
  refine W.ret ?_
  simp [go]
abbrev R2 (n d : Int) : PV := .ag [aI aF (aR DD n.natAbs), .bool (decide (n < 0)), aI aF (aR DD d.natAbs), .bool (decide (d < 0))]
theorem bN (q : Rat) : RR q = R2 q.num q.den := by
 have : decide ((q.den : Int) < 0) = false := decide_eq_false (by omega)
 show PV.ag (re q) = PV.ag _
 rw [this]; rfl
def hm (n d : Int) : List Int → Int × Int
 | [] => (0, 1)
 | a :: l => ((hm n d l).1 * n + a * (hm n d l).2, (hm n d l).2 * d)
def s0 (x : List Int) (n d : Int) : Int := (hm n d x).1.sign
theorem ag4 {s k u : Nat} {n d : Int} (hn : sz 2 n ≤ u) (hd : sz 2 d ≤ u) (hu : 1 ≤ u) : ∀ {x : List Int}, Bd 2 s k x → sz 2 (hm n d x).1 ≤ s + x.length * (u + 1) ∧ sz 2 (hm n d x).2 ≤ x.length * u + 1
 | [], _ => ⟨by show sz 2 0 ≤ _; rw [show sz 2 0 = 0 by decide]; omega, by show sz 2 1 ≤ _; exact Nat.le_trans (cO (k := 1) (by decide) (by decide)) (by omega)⟩
 | a :: l, h => by
  obtain ⟨h1, h2⟩ := ag4 hn hd hu (x := l) ⟨Nat.le_trans (by simp) h.len, fun c hc => h.sz c (by simp [hc])⟩
  have ha := h.sz a (by simp)
  have e : (a :: l).length * u = l.length * u + u := by rw [List.length_cons, Nat.add_mul]; omega
  have e' : (a :: l).length * (u + 1) = l.length * u + l.length + u + 1 := by rw [List.length_cons, Nat.add_mul, Nat.mul_add]; omega
  have e'' : l.length * (u + 1) = l.length * u + l.length := by rw [Nat.mul_add]; omega
  refine ⟨?_, ?_⟩
  ·have g1 := bU (b := 2) (by decide) h1 hn
   have g2 := bU (b := 2) (by decide) ha h2
   have := mU (b := 2) (by decide) (Nat.le_trans g1 (Nat.le_max_left _ (s + (l.length * u + 1)))) (Nat.le_trans g2 (Nat.le_max_right (s + l.length * (u + 1) + u) _))
   refine Nat.le_trans this ?_
   rw [e', e'']
   omega
  ·have := bU (b := 2) (by decide) h2 hd
   rw [e]
   exact Nat.le_trans this (by omega)
theorem vH (p q p' q' : Int) (hp : sz 2 p ≤ YY) (hq : sz 2 q ≤ YY) (uM : sz 2 p' ≤ YY) (hq' : sz 2 q' ≤ YY) : aJ env.P 27 [R2 p q, R2 p' q'] (.int .i64 (dN (p * q') (p' * q))) := by
 have zz : ∀ {x : Int}, sz 2 x ≤ YY → Z x := fun h => by simp only [Z, YY] at *; omega
 have s1 := bU (b := 2) (by decide) hp hq'
 have s2 := bU (b := 2) (by decide) uM hq
 have m1 := dQ p q' (zz hp) (zz hq')
 have m2 := dQ p' q (zz uM) (zz hq)
 have c1 := Z7 (p * q') (p' * q) (by simp only [Z, YY] at *; omega) (by simp only [Z, YY] at *; omega)
 generalize dN (p * q') (p' * q) = r at *
 generalize p * q' = x1 at *
 generalize p' * q = x2 at *
 refine aB (E := env) (fun _ => 0) [(0, R2 p q), (1, R2 p' q')] Tryz.func27 rfl (by kernel_rfl) (by kernel_rfl) (show 2 ≤ 16 by decide) (by simp) ?_
 refine W.sr ?_; simp (disch := omega) [gw]; refine W.lx [2, 3] ?_; simp
 refine W.sd ?_
 simp (disch := omega) [gw]
 refine aA m1 ?_
 simp (disch := omega) [gw]
 refine aA m2 ?_
 simp (disch := omega) [gw]
 refine aA c1 ?_
 simp (disch := omega) [gw]
 refine W.lx [4] ?_; simp
 refine W.ret ?_
 simp [go]
theorem kI (p q : Rat) (hp : ZR YY p) (hq : ZR YY q) : aJ env.P 27 [RR p, RR q] (.int .i64 (dN (p.num * q.den) (q.num * p.den))) := by
 rw [bN, bN]; exact vH _ _ _ _ hp.n hp.d hq.n hq.d
@[simp] theorem F8 : aR DD 1 = [1] := by decide
theorem U9 (x : List Int) (hl : x.length < 9223372036854775808) : aJ env.P 184 [PI x] (.bool true) := by
 refine aB (E := env) (fun _ => 0) [(0, PI x)] Tryz.func184 rfl (by kernel_rfl) (by kernel_rfl) (show 1 ≤ 29 by decide) (by simp) ?_
 refine W.sr ?_; simp (disch := omega) [gw]; refine W.lx [0] ?_; simp
 refine W.seq ?_
 refine W.sr ?_; simp (disch := omega) [gw]; refine W.lx [0, 5, 6] ?_; simp
 refine W.block ?_
 refine W.a9 (fun k σ => ∃ (i : Nat) (rows : Pm.Rows) (clk : Nat), σ = ⟨fa [(0, PI x), (5, .int .i64 x.length), (6, .int .i64 i)], rows, clk⟩ ∧ i + k = x.length) x.length ?_ ?_
 ·exact ⟨_, .refl, 0, _, _, rfl, by omega⟩
 rintro k _ ⟨i, rows, clk, rfl, hI⟩
 refine W.sr ?_; simp (disch := omega) [gw]; refine W.lx [0, 5, 6, 7] ?_; simp
 refine W.seq ?_
 refine W.cond ⟨_, rfl, fun h => ?_, fun h => ?_⟩
 ·have hi : i < x.length := by simp at h; omega
  refine W.skip ?_
  refine W.seq ?_
  refine W.block ?_
  refine W.sr ?_; simp (disch := omega) [gw]; refine W.lx [0, 3, 5, 6] ?_; simp
  refine W.sr ?_; simp (disch := omega) [gw, hi]; refine W.lx [0, 5, 6, 27] ?_; simp
  refine W.cond ⟨_, rfl, fun h => ?_, fun h => ?_⟩
  ·simp at h
   exact absurd rfl h
  ·refine W.skip ?_
   refine W.b8 (fun K hK => ?_); simp (disch := omega) [gw]
   refine hK _ ⟨k - 1, _, aC _ [0, 5, 6], by omega, i + 1, _, _, rfl, by omega⟩
 ·refine W.exit ?_; simp only [pX, if_true, if_false, reduceIte, Nat.reduceEqDiff]
  refine W.sr ?_; simp (disch := omega) [gw]; refine W.lx [2] ?_; simp
  refine W.ret ?_
  simp [go]
theorem vI {x : List Int} {n d : Int} {s k u : Nat} (hx : Bd 2 s k x) (hn : sz 2 n ≤ u) (hd : sz 2 d ≤ u) (hu : 1 ≤ u) (hk : k < 1099511627776) (hB : s + k * (u + 1) + u < YY) : aJ env.P 107 [PI x, R2 n d] (.int .i64 (s0 x n d)) := by
 have hl := hx.len
 have hW := U9 x (by omega)
 have hO := mD 1 (by decide) (by decide)
 have zz : ∀ {x : Int}, sz 2 x ≤ YY → Z x := fun h => by simp only [Z, YY] at *; omega
 have hY : YY = 137438953472 := rfl
 have bd := fun i => ag4 (s := s) (k := k) (x := x.drop i) hn hd hu ⟨by simp; omega, fun c hc => hx.sz c (List.mem_of_mem_drop hc)⟩
 have hle : ∀ i, (x.drop i).length * (u + 1) ≤ k * (u + 1) := fun i => Nat.mul_le_mul_right _ (by simp; omega)
 have aaS : ∀ i, (x.drop i).length * u ≤ (x.drop i).length * (u + 1) := fun i => Nat.mul_le_mul_left _ (by omega)
 have step : ∀ i, i < x.length → hm n d (x.drop i) = ((hm n d (x.drop (i + 1))).1 * n + nth x i * (hm n d (x.drop (i + 1))).2, (hm n d (x.drop (i + 1))).2 * d) := fun i hi => by
  rw [List.drop_eq_getElem_cons hi, cT hi]; rfl
 have N8 : hm n d (x.drop x.length) = (0, 1) := by rw [List.drop_length]; rfl
 have hS := DF (hm n d x).1
 have h0 : hm n d (x.drop 0) = hm n d x := rfl
 have hs : s0 x n d = (hm n d x).1.sign := rfl
 rw [hs]
 have M : ∀ i, i < x.length → aJ env.P 94 [RI (hm n d (x.drop (i + 1))).1, RI n] (RI ((hm n d (x.drop (i + 1))).1 * n)) ∧ aJ env.P 94 [RI (nth x i), RI (hm n d (x.drop (i + 1))).2] (RI (nth x i * (hm n d (x.drop (i + 1))).2)) ∧
   aJ env.P 128 [RI ((hm n d (x.drop (i + 1))).1 * n), RI (nth x i * (hm n d (x.drop (i + 1))).2)] (RI (hm n d (x.drop i)).1) ∧ aJ env.P 94 [RI (hm n d (x.drop (i + 1))).2, RI d] (RI (hm n d (x.drop i)).2) := fun i hi => by
  obtain ⟨b1, b2⟩ := bd (i + 1)
  have l1 := hle (i + 1)
  have l2 := aaS (i + 1)
  have ha := hx.sz _ (bR hi)
  have g1 := bU (b := 2) (by decide) b1 hn
  have g2 := bU (b := 2) (by decide) ha b2
  have e := step i hi
  rw [e]
  exact ⟨dQ _ _ (zz (by omega)) (zz (by omega)), dQ _ _ (zz (by omega)) (zz (by omega)), zZ _ _ (by simp only [Z]; omega) (by simp only [Z]; omega), dQ _ _ (zz (by omega)) (zz (by omega))⟩
 clear bd hle aaS step
 generalize hm n d x = r0 at *
 refine aB (E := env) (fun _ => 0) [(0, PI x), (1, R2 n d)] Tryz.func107 rfl (by kernel_rfl) (by kernel_rfl) (show 2 ≤ 42 by decide) (by simp) ?_
 refine W.sr ?_; simp (disch := omega) [gw]; refine W.lx [0, 3] ?_; simp
 refine W.seq ?_
 refine W.sr ?_
 simp (disch := omega) [gw]
 refine aA hW ?_
 simp (disch := omega) [gw]
 refine W.lx [0, 3, 10] ?_; simp
 refine W.cond ⟨_, rfl, fun h => ?_, fun h => ?_⟩
 ·simp at h
 refine W.skip ?_
 refine W.sr ?_; simp (disch := omega) [gw]; refine W.lx [0, 3, 5] ?_; simp
 refine W.sr ?_
 simp (disch := omega) [gw]
 refine aA hO ?_
 simp (disch := omega) [gw]
 refine W.lx [0, 3, 5, 6] ?_; simp
 refine W.seq ?_
 refine W.sr ?_; simp (disch := omega) [gw]; refine W.lx [0, 3, 5, 6, 7] ?_; simp
 refine W.row (id := 5) (els := [[.nil, .bool false]]) [[aI aF (aR DD (0 : Int).natAbs), .bool (decide ((0 : Int) < 0))]] (by simp; first | exact ⟨rfl, rfl, rfl⟩ | exact ⟨rfl, rfl⟩ | rfl) ⟨⟨.inr ⟨rfl, rfl⟩, .inl rfl, trivial⟩, trivial⟩ ?_
 refine W.block ?_
 refine W.a9 (fun k σ => ∃ (v3 v5 v6 e3 e5 e6 : Nat) (rows : Pm.Rows) (clk : Nat), σ = ⟨fa [(0, PI x), (3, .ptr 3 v3 0 0), (5, .ptr 5 v5 0 0), (6, .ptr 6 v6 0 0), (7, .int .i64 ((k : Int) - 1))], rows, clk⟩ ∧ k ≤ x.length ∧
  rows 3 = some ⟨v3, e3, 4, [[aI aF (aR DD n.natAbs), .bool (decide (n < 0)), aI aF (aR DD d.natAbs), .bool (decide (d < 0))]]⟩ ∧
  rows 5 = some ⟨v5, e5, 2, [[aI aF (aR DD (hm n d (x.drop k)).1.natAbs), .bool (decide ((hm n d (x.drop k)).1 < 0))]]⟩ ∧
  rows 6 = some ⟨v6, e6, 2, [[aI aF (aR DD (hm n d (x.drop k)).2.natAbs), .bool (decide ((hm n d (x.drop k)).2 < 0))]]⟩) x.length ?_ ?_
 ·exact ⟨_, .refl, _, _, _, _, _, _, _, _, rfl, Nat.le_refl _, by simp; (first | exact ⟨rfl, rfl, rfl⟩ | exact ⟨rfl, rfl⟩ | rfl), by rw [N8]; simp; (first | exact ⟨rfl, rfl, rfl⟩ | exact ⟨rfl, rfl⟩ | rfl), by rw [N8]; simp; (first | exact ⟨rfl, rfl, rfl⟩ | exact ⟨rfl, rfl⟩ | rfl)⟩
 rintro k _ ⟨v3, v5, v6, e3, e5, e6, rows, clk, rfl, hkl, gC, mE, tW⟩
 refine W.seq ?_
 refine W.sr ?_; simp (disch := omega) [gw]; refine W.lx [0, 3, 5, 6, 7, 21] ?_; simp
 refine W.cond ⟨_, rfl, fun h => ?_, fun h => ?_⟩
 ·have wQ : 0 < k := by simp at h; omega
  obtain ⟨k, rfl⟩ : ∃ j, k = j + 1 := ⟨k - 1, by omega⟩
  obtain ⟨m1, m2, m3, m4⟩ := M k (by omega)
  generalize hm n d (x.drop (k + 1)) = A at *
  have e1 : (((k + 1 : Nat) : Int) - 1).toNat = k := by omega
  refine W.skip ?_
  refine W.seq ?_
  refine W.block ?_
  refine W.sd ?_
  simp (disch := omega) [gw, gC, mE, tW]
  refine aA m1 ?_
  simp (disch := omega) [gw, e1]
  try simp (disch := omega) [gw, e1, tW]
  refine aA m2 ?_
  simp (disch := omega) [gw]
  refine aA m3 ?_
  simp (disch := omega) [gw, mE]
  try (refine bS (by kernel_rfl) ?_)
  try simp (disch := omega) [gw, mE]
  refine W.lx [0, 3, 5, 6, 7] ?_; simp
  refine W.b8 (fun K hK => ?_)
  simp (disch := omega) [gw, gC, tW]
  refine aA m4 ?_
  simp (disch := omega) [gw, tW]
  refine W.lw [0, 3, 5, 6, 7] hK ?_; clear hK K; simp
  refine W.b8 (fun K hK => ?_); simp (disch := omega) [gw]
  refine hK _ ⟨k, _, aC _ [0, 3, 5, 6, 7], by omega, v3, v5, v6, _, _, _, _, _, rfl, by omega, by simp [gC]; exact rfl, by simp; exact rfl, by simp; exact rfl⟩
 ·have wQ : k = 0 := by simp at h; omega
  subst wQ
  rw [h0] at mE
  refine W.exit ?_; simp only [pX, if_true, if_false, reduceIte, Nat.reduceEqDiff]
  refine W.sr ?_
  simp (disch := omega) [gw, mE]
  refine aA hS ?_
  simp (disch := omega) [gw]
  refine W.lx [4] ?_; simp
  refine W.ret ?_
  simp [go]
end Go.Proofs.YtbbjgncblhfegaaGreat
namespace Go.Proofs.YtbbjgncblhfegaaGreat
open Go Pm
open ZX hiding N W
theorem aaT {y : List Int} (cy : Cn y) (hy : 0 < y.length) : ∀ (n : Nat) (x : List Int), Cn x → x.length < n → ∃ (m : Int) (q : List Int), 0 < m ∧ ∀ t, m * V t x = V t q * V t y + V t (rq y n x)
 | 0, x, _, h => by omega
 | n + 1, x, cx, h => by
  rw [rq]
  split
  ·exact ⟨1, [], by decide, fun t => by simp [V]⟩
  ·rename_i h1
   have hl := qV hy (show y.length ≤ x.length by omega)
   obtain ⟨m, q, hm, h4⟩ := aaT cy hy n (RF y x) (Cn.dZ _ _) (by omega)
   have uO := cD cy hy
   refine ⟨m * (lead y).natAbs, gB q (aV (oW (x.length - y.length) (uV (lead y) * lead x)) m), Int.mul_pos hm (by omega), fun t => ?_⟩
   have h5 := aaQ t y x
   have h6 := h4 t
   rw [pO, bW, mC]
   have : m * ((lead y).natAbs : Int) * V t x = m * (((lead y).natAbs : Int) * V t x) := by grind
   rw [this, h5]
   grind
theorem aaU {x y s q : List Int} {D : Int} (cx : Cn x) (cy : Cn y) (hy : 0 < y.length) (cs : Cn s) (hs : s.length < y.length) (hD : 0 < D) (hv : ∀ t, D * V t x = V t q * V t y + V t s) : JP x y = iZ s := by
 have hV := fun t => Y7 t x y
 have hl := FC (a := x) hy
 obtain ⟨c1, c2⟩ := zI (b := y) cx
 rw [aag cx]
 have uO := cD cy hy
 have vA : lead y ^ iF x y ≠ 0 := Int.pow_ne_zero uO
 have hsg := aae (lead y) (iF x y)
 have rF := aaf (lead y) (iF x y)
 generalize sg (lead y) (iF x y) = g at *
 generalize (wN x y).1 = p at *
 generalize (wN x y).2 = r at *
 generalize hc : lead y ^ iF x y = c at *
 have hm : 0 < ((lead y).natAbs : Int) ^ iF x y := Int.pow_pos (by omega)
 generalize ((lead y).natAbs : Int) ^ iF x y = m at *
 have e : ∀ t, V t (dZ (s.map (· * c)) (r.map (· * D))) = V t y * V t (dZ (p.map (· * D)) (q.map (· * c))) := fun t => by
  have h1 := hv t
  have h2 := hV t
  rw [gR, gR, dA, dA, dA, dA]
  have h3 : c * (D * V t x) = c * (V t q * V t y + V t s) := by rw [h1]
  have h4 : D * (V t p * V t y + V t r) = D * (c * V t x) := by rw [h2]
  grind
 have h1 := C6 (Cn.dZ _ _) cy hy e (by
  have := tH (s.map (· * c)) (r.map (· * D))
  simp only [List.length_map] at this
  omega)
 have uU : D ≠ 0 := by omega
 have e1 : s.map (· * c) = r.map (· * D) := Cn.ext (j0 cs vA) (j0 c2 uU) fun t => JX (by rw [h1]; rfl) t
 rw [← wU cs hm, ← wU (Cn.aV r g) hD]
 congr 1
 refine Cn.ext (Cn.aV _ _) (Cn.aV _ _) fun t => ?_
 have e2 : V t s * c = V t r * D := by rw [← dA, e1, dA]
 rw [bW, bW, bW]
 have h5 : m = g * c := by rw [hsg]; grind
 rw [h5]
 have : V t s * (g * c) = g * (V t s * c) := by grind
 rw [this, e2]; grind
def oV (a : ZX) : ZX := ⟨iZ a.l, Cn.cut _⟩
def nx (a b : ZX) : ZX := ⟨fI (iZ (rz a b).l), Cn.fI _⟩
theorem VA {a b : ZX} (hb : b ≠ 0) : ZX.N (nx a b) < ZX.N b := by
 obtain ⟨_, hN, _⟩ := qW (a := a) hb
 have h1 := JS (iZ (rz a b).l)
 have h2 := kH (rz a b).l
 have h3 : ZX.N (nx a b) = (fI (iZ (rz a b).l)).length := rfl
 have h4 : ZX.N (rz a b) = (rz a b).l.length := rfl
 omega
theorem RK {s n : Nat} {a b : ZX} (ha : BZ s n a) (hb : BZ s n b) (h0 : b ≠ 0) : BZ (s + (ZX.N a + 1 - ZX.N b) * (s + n + 1)) n (nx a b) := Bd.fI (gZ (RJ ha hb h0))
def sM : Nat → ZX → ZX → List ZX
 | 0, _, _ => []
 | k + 1, a, b => if ZX.N b = 0 then [] else b :: sM k b (nx a b)
theorem jI (k : Nat) (a : ZX) : sM k a 0 = [] := by cases k <;> simp [sM, show ZX.N 0 = 0 by decide]
theorem AQ : ∀ {k j : Nat} {a b : ZX}, ZX.N b ≤ k → ZX.N b ≤ j → sM k a b = sM j a b
 | 0, j, a, b, h, _ => by
  have : b = 0 := Classical.byContradiction fun h0 => by have := ZX.aD.1 h0; omega
  rw [this, jI, jI]
 | k + 1, 0, a, b, _, h => by
  have : b = 0 := Classical.byContradiction fun h0 => by have := ZX.aD.1 h0; omega
  rw [this, jI, jI]
 | k + 1, j + 1, a, b, h1, h2 => by
  rw [sM, sM]
  split
  ·rfl
  ·rename_i h0
   have := VA (a := a) (ZX.aD.2 (Nat.pos_of_ne_zero h0))
   rw [AQ (k := k) (j := j) (by omega) (by omega)]
def bB (f : ZX) : List ZX := f :: sM (ZX.N f) f (oV (bK f))
theorem aj2 (x : List Int) : PP (qd x 1) = PI x := by rw [FU]; show PV.sl (emap re (qs x)) = PV.sl (emap ri x); rw [AB]
theorem w9 {s n : Nat} {a : ZX} (b : BZ s n a) (qQ : 1 ≤ s) (hs : s ≤ YY) (hn : n < 1099511627776) : aJ env.P 124 [PI a.l] (PI (oV a).l) := by
 have := JU a.l 1 (by decide) b (by exact Nat.le_trans (cO (k := 1) (by decide) (by decide)) qQ) a.c qQ hs hn
 rw [show ((1 : Nat) : Int) = 1 from rfl, aj2] at this
 exact this
structure Ch (s n : Nat) (f : ZX) : Prop where
 bz : BZ s n f
 hn : n ≤ 20
 sK : 1 ≤ n
 hC : (s + 5 + n + 1) * 4 ^ n ≤ 4500000000
theorem Ch.pot {s n : Nat} {f : ZX} (h : Ch s n f) : x6 4500000000 n (s + 5) f (oV (bK f)) := by
 have h1 := lN f
 have h2 : ZX.N (oV (bK f)) ≤ ZX.N (bK f) := kH _
 have h3 := h.bz.N
 have hn := h.sK
 unfold x6
 split
 ·exact Nat.le_trans (Nat.mul_le_mul_left _ (Nat.pow_le_pow_right (by decide) h3)) h.hC
 ·have h4 : ZX.N (oV (bK f)) = 0 := by omega
  have h5 := h.hC
  rw [h4, Nat.pow_zero, Nat.mul_one]
  exact Nat.le_trans (Nat.mul_le_mul_left _ (show 2 ≤ 4 ^ n from Nat.le_trans (by decide) (Nat.pow_le_pow_right (n := 4) (by decide) hn))) h5
theorem aaV {l : List ZX} {a : ZX} {i : Nat} (h : i < l.length) : nth (l ++ [a]) i = nth l i := by
 simp only [nth, List.getElem?_append_left h]
theorem xA {s n : Nat} {a f : ZX} (hS : aJ env.P 26 [PI a.l] (PI f.l)) (h : Ch s n f) (h1 : 1 ≤ s) : aJ env.P 57 [PI a.l] (aI zq (bB f)) := by
 have hn := h.hn
 have hp := h.pot
 have hs := hp.le
 have bd : BZ (s + 5) n (bK f) := h.bz.bK (by omega)
 have d1 := uD h.bz (by show s ≤ 137438953472; omega) (by omega)
 have d2 := w9 bd (by omega) (by show s + 5 ≤ 137438953472; omega) (by omega)
 have b2 : BZ (s + 5) n (oV (bK f)) := gZ bd
 have b1 : BZ (s + 5) n f := h.bz.mono (by omega) (Nat.le_refl _)
 have FP : ZX.N (oV (bK f)) ≤ ZX.N f := Nat.le_trans (kH _) (Nat.le_trans (lN f) (by omega))
 have hc : bB f = f :: sM (ZX.N f) f (oV (bK f)) := rfl
 rw [AQ FP (Nat.le_refl _)] at hc
 generalize hC : bB f = C at *
 generalize oV (bK f) = g0 at *
 generalize (bK f).l = dl at *
 have QO : f.l = f.l := rfl
 refine aB (E := env) (fun _ => 0) [(0, PI a.l)] Tryz.func57 rfl (by kernel_rfl) (by kernel_rfl) (show 1 ≤ 31 by decide) (by simp) ?_
 refine W.sr ?_; simp (disch := omega) [gw]; refine W.lx [0] ?_; simp
 refine W.sr ?_
 simp (disch := omega) [gw]
 refine aA hS ?_
 simp (disch := omega) [gw]
 refine W.lx [3] ?_; simp
 refine W.aaR 1 rfl rfl (fun K hK => ?_)
 simp (disch := omega) [gw]
 refine W.lw [3, 4] hK ?_; clear hK K; simp
 refine W.sr ?_
 simp (disch := omega) [gw]
 refine aA d1 ?_
 simp (disch := omega) [gw]
 refine aA d2 ?_
 simp (disch := omega) [gw]
 refine W.lx [4, 5] ?_; simp
 refine W.seq ?_
 refine W.block ?_
 refine W.a9 (fun k σ => ∃ (L : List ZX) (x g : ZX) (i ver s : Nat) (rows : Pm.Rows) (clk : Nat), σ = ⟨fa [(4, .own 9 ver 0 (i + 1)), (5, PI g.l)], rows, clk⟩ ∧ rows 9 = some ⟨ver, 24, 1, emap zq L⟩ ∧ L.length = i + 1 ∧ nth L i = x ∧
  L ++ sM k x g = C ∧ k = ZX.N g ∧ BZ s n x ∧ BZ s n g ∧ 1 ≤ s ∧ x6 4500000000 n s x g ∧ i + ZX.N g ≤ 20) (ZX.N g0) ?_ ?_
 ·exact ⟨_, .refl, [f], f, g0, 0, _, s + 5, _, _, rfl, by simp [emap], rfl, rfl, hc.symm, rfl, b1, b2, by omega, hp, by have := b2.N; omega⟩
 rintro k _ ⟨L, x, g, i, ver, s, rows, clk, rfl, hr, hL, hx, NW, rfl, bx, bg, h1, hp, hiN⟩
 have hs := hp.le
 have hlx := bx.len
 have hlg := bg.len
 have hLl : (emap zq L).length = i + 1 := by simp [emap, hL]
 refine W.seq ?_
 refine W.sr ?_; simp (disch := omega) [gw]; refine W.lx [4, 5, 15] ?_; simp
 refine W.cond ⟨_, rfl, fun h => ?_, fun h => ?_⟩
 ·have hg : g ≠ 0 := ZX.aD.2 (by show 0 < g.l.length; simp at h; omega)
  obtain ⟨T5, hN, _⟩ := qW (a := x) hg
  have br := RJ bx bg hg
  have hmul : (x.l.length + 1 - g.l.length + 1) * (s + n + 1) ≤ 22 * 4500000000 := Nat.mul_le_mul (by omega) (by omega)
  have ag3 : (ZX.N x + 1 - ZX.N g) * (s + n + 1) ≤ 22 * 4500000000 := Nat.mul_le_mul (by have : ZX.N x = x.l.length := rfl; omega) (by omega)
  have hR := DX (s := s) (s' := s) (N := n) bx bg x.c g.c (ZX.aD.1 hg) (by omega) (by show _ < 137438953472; omega)
  rw [← T5] at hR
  have hZ := w9 br (by omega) (by show _ ≤ 137438953472; omega) (by omega)
  have hNg := DK (oV (rz x g)).l ((gZ br).mono (by show _ ≤ 137438953472; omega) (by omega))
  have e3 : fI (oV (rz x g)).l = (nx x g).l := rfl
  rw [e3] at hNg
  have FP := VA (a := x) hg
  have hp2 := hp.step FP
  have bn := RK bx bg hg
  have hi : i < L.length := by omega
  have hx2 : nth (L ++ [g]) i = x := by rw [aaV hi]; exact hx
  have apH : i < (L ++ [g]).length := by simp; omega
  have hch : L ++ [g] ++ sM (ZX.N (nx x g)) g (nx x g) = C := by
   rw [← NW]
   obtain ⟨j, hj⟩ : ∃ j, ZX.N g = j + 1 := ⟨ZX.N g - 1, by have := ZX.aD.1 hg; have : ZX.N g = g.l.length := rfl; omega⟩
   rw [hj, sM, if_neg (by omega), AQ (k := j) (j := ZX.N (nx x g)) (by omega) (Nat.le_refl _)]
   simp
  generalize (rz x g).l = rl at *
  generalize (oV (rz x g)).l = pl at *
  generalize hnx : nx x g = nn at *
  have hnl : nn.l = nn.l := rfl
  refine W.skip ?_
  refine W.block ?_
  refine W.sr ?_
  simp (disch := omega) [gw, hr, hLl]
  refine W.lx [4, 5] ?_; simp
  have e1 : ((i : Int) + 1 + 1 - 2).toNat = i := by omega
  refine W.b8 (fun K hK => ?_)
  simp (disch := omega) [gw, e1, apH, hx2]
  refine aA hR ?_
  simp (disch := omega) [gw]
  refine aA hZ ?_
  simp (disch := omega) [gw]
  refine aA hNg ?_
  simp (disch := omega) [gw]
  refine hK _ ⟨ZX.N nn, _, aC _ [4, 5], FP, L ++ [g], g, nn, i + 1, _, _, _, _, rfl, by simp, by simp [hL], ?_, hch, rfl, bg.mono (by omega) (Nat.le_refl _), bn, by omega, hp2, by omega⟩
  rw [cT (by simp; omega)]
  simp [← hL]
 ·have hg : g = 0 := by
   refine Classical.byContradiction fun h0 => ?_
   have h1 := ZX.aD.1 h0
   have h2 : ZX.N g = g.l.length := rfl
   simp at h; rw [h2, h] at h1; simp at h1
  subst hg
  rw [jI, List.append_nil] at NW
  subst NW
  have uR : List.take (i + 1) L = L := List.take_of_length_le (by omega)
  refine W.exit ?_; simp only [pX, if_true, if_false, reduceIte, Nat.reduceEqDiff]
  refine W.sr ?_; simp (disch := omega) [gw]; refine W.lx [2] ?_; simp
  refine W.ret ?_
  simp [go, hr, hLl, uR]
end Go.Proofs.YtbbjgncblhfegaaGreat
