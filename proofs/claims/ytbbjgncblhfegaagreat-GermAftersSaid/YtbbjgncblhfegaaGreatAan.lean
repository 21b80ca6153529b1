import Derived.Test.YtbbjgncblhfegaaGreatAah
import Derived.Test.YtbbjgncblhfegaaGreatAak
import Derived.Test.YtbbjgncblhfegaaGreatAam
set_option linter.unusedSimpArgs false
set_option linter.unusedVariables false
namespace Go.Proofs.YtbbjgncblhfegaaGreat
open Go Pm
def uV (l : Int) : Int := if l < 0 then -1 else 1
theorem aeu (l : Int) : uV l * l = l.natAbs := by unfold uV; split <;> omega
def RC (y x : List Int) : List Int := uS y (lead y).natAbs (uV (lead y) * lead x) (x.length - y.length) x
def RD (y x : List Int) (i : Nat) : Int := nth x i * ((lead y).natAbs : Int) - if x.length - y.length ≤ i then uV (lead y) * lead x * nth y (i - (x.length - y.length)) else 0
theorem aaK {y x : List Int} (h : y.length ≤ x.length) : aM ((List.range x.length).map (RD y x)) = RC y x := by
 refine Cn.ext (Cn.cut _) (Cn.dY _ _) fun t => ?_
 unfold RC
 rw [cA, uS, gR, bV, cL, l9]
 obtain ⟨k, hk⟩ : ∃ k, x.length = k + y.length := ⟨x.length - y.length, by omega⟩
 have e1 : (List.range x.length).map (RD y x) = (List.range x.length).map fun i => nth x i * ((lead y).natAbs : Int) + (-(if x.length - y.length ≤ i then uV (lead y) * lead x * nth y (i - (x.length - y.length)) else 0)) := List.map_congr_left fun i _ => by unfold RD; omega
 rw [e1, qM, fM, iR (Nat.le_refl _)]
 generalize uV (lead y) * lead x = T at *
 have e2 : ((List.range x.length).map fun i => -(if x.length - y.length ≤ i then T * nth y (i - (x.length - y.length)) else 0)) = List.replicate k 0 ++ y.map fun v => v * (-T) := by
  have hk2 : x.length - y.length = k := by omega
  rw [hk2, hk, List.range_add, List.map_append, List.map_map]
  congr 1
  ·rw [List.eq_replicate_iff]
   refine ⟨by simp, fun v hv => ?_⟩
   simp only [List.mem_map, List.mem_range] at hv
   obtain ⟨i, hi, rfl⟩ := hv
   rw [if_neg (by omega)]; rfl
  ·have h2 := m9 (x := y) (n := y.length) (Nat.le_refl _)
   rw [Nat.sub_self, List.replicate_zero, List.append_nil] at h2
   conv => rhs; rw [← h2]
   rw [List.map_map]
   refine List.map_congr_left fun i _ => ?_
   simp only [Function.comp_apply]
   rw [if_pos (by omega), Nat.add_sub_cancel_left]; grind
 rw [e2, dF, oN]
 have h3 := fM (t := t) (-T) id y
 simp only [id_eq, List.map_id_fun] at h3
 rw [h3, List.length_replicate, show x.length - y.length = k by omega]
 grind
theorem qU {y x : List Int} (hy : 0 < y.length) (h : y.length ≤ x.length) : (RC y x).length < x.length := by
 have h1 := xM (b := y) (r := x) (i := x.length - y.length) hy (by omega)
 rw [show tF y x (x.length - y.length) = lead x from by rw [tF, if_pos (by omega)]] at h1
 have e : RC y x = aV (uS y (lead y) (lead x) (x.length - y.length) x) (uV (lead y)) := Cn.ext (Cn.dY _ _) (Cn.aV _ _) fun t => by
  unfold RC
  rw [bV, uS, uS, gR, gR, bV, bV, cL, cL, l9, l9, ← aeu]
  grind
 rw [e]
 have := nY (uS y (lead y) (lead x) (x.length - y.length) x) (uV (lead y))
 omega
theorem aaL (t : Int) (y x : List Int) : ((lead y).natAbs : Int) * V t x = t ^ (x.length - y.length) * (uV (lead y) * lead x) * V t y + V t (RC y x) := by
 unfold RC
 rw [uS, gR, bV, cL, l9]; grind
def rq (y : List Int) : Nat → List Int → List Int
 | 0, x => x
 | n + 1, x => if x.length < y.length then x else rq y n (RC y x)
theorem ajW {y x : List Int} (h : x.length < y.length) : ∀ n, rq y n x = x
 | 0 => rfl
 | n + 1 => by rw [rq, if_pos h]
theorem RE {y : List Int} (cy : Cn y) (hy : 0 < y.length) : ∀ (n : Nat) (x : List Int), Cn x → x.length < n → Cn (rq y n x) ∧ (rq y n x).length < y.length ∧ ∃ (m : Int) (q : List Int), m ≠ 0 ∧ ∀ t, m * V t x = V t q * V t y + V t (rq y n x)
 | 0, x, _, h => by omega
 | n + 1, x, cx, h => by
  rw [rq]
  split
  ·rename_i h1
   exact ⟨cx, h1, 1, [], by decide, fun t => by simp [V]⟩
  ·rename_i h1
   have hl := qU hy (show y.length ≤ x.length by omega)
   obtain ⟨h2, h3, m, q, hm, h4⟩ := RE cy hy n (RC y x) (Cn.dY _ _) (by omega)
   have uN := cD cy hy
   refine ⟨h2, h3, m * (lead y).natAbs, fZ q (aV (oT (x.length - y.length) (uV (lead y) * lead x)) m), Int.mul_ne_zero hm (by omega), fun t => ?_⟩
   have h5 := aaL t y x
   have h6 := h4 t
   rw [pM, bV, l9]
   have : m * ((lead y).natAbs : Int) * V t x = m * (((lead y).natAbs : Int) * V t x) := by grind
   rw [this, h5]
   grind
theorem N6 {s s' N : Nat} {y x : List Int} (qS : Bd 2 s' N y) (bx : Bd 2 s N x) (hy : 0 < y.length) (h : y.length ≤ x.length) : Bd 2 (s + (s' + N + 1)) N (RC y x) := by
 have hl := qU hy h
 have hlx := bx.len
 have hls : sz 2 ((lead y).natAbs : Int) ≤ s' := Nat.le_trans (cC (by decide) (by rw [Int.natAbs_natCast]; exact Nat.le_refl _)) (eT qS)
 have hlr : sz 2 (uV (lead y) * lead x) ≤ s := Nat.le_trans (cC (by decide) (by
  rw [Int.natAbs_mul]
  have : (uV (lead y)).natAbs = 1 := by unfold uV; split <;> rfl
  rw [this, Nat.one_mul]; exact Nat.le_refl _)) (eT bx)
 have b1 : Bd 2 (s + s' + N) (max N (x.length - y.length + 1 + N)) (aV x ((lead y).natAbs : Int)) := (bx.aV (by decide) hls).mono (by omega) (by omega)
 have b2 : Bd 2 (s + s' + N) (max N (x.length - y.length + 1 + N)) (bH (oT (x.length - y.length) (uV (lead y) * lead x)) y) := ((Bd.oT hlr (x.length - y.length)).bH (by decide) qS).mono (by omega) (by omega)
 exact ⟨by omega, fun c hc => by
  have h6 := (Bd.dY (by decide) b1 b2).sz c hc
  omega⟩
theorem agX {s' N : Nat} {y : List Int} (qS : Bd 2 s' N y) (hy : 0 < y.length) : ∀ (n j s : Nat) (x : List Int), Bd 2 s N x → x.length + 1 ≤ y.length + j → Bd 2 (s + j * (s' + N + 1)) N (rq y n x)
 | 0, j, s, x, bx, _ => bx.mono (by simp) (Nat.le_refl _)
 | n + 1, j, s, x, bx, hj => by
  rw [rq]
  split
  ·exact bx.mono (by simp) (Nat.le_refl _)
  ·rename_i h1
   obtain ⟨i, rfl⟩ : ∃ i, j = i + 1 := ⟨j - 1, by omega⟩
   have hl := qU hy (show y.length ≤ x.length by omega)
   have := agX qS hy n i (s + (s' + N + 1)) (RC y x) (N6 qS bx hy (by omega)) (by omega)
   rw [Nat.add_mul, Nat.one_mul]
   exact this.mono (by omega) (Nat.le_refl _)
theorem ajX (n : Nat) : RI (n : Int) = .ag [aJ aF (aQ DD n), .bool false] := by
 simp [show ¬ ((n : Int) < 0) by omega]
set_option maxHeartbeats 2000000 in
theorem DT {s s' N : Nat} {x0 y : List Int} (bx0 : Bd 2 s N x0) (qS : Bd 2 s' N y) (cx0 : Cn x0) (cy : Cn y) (NA : 0 < y.length) (hN : N ≤ 1000) (hB : s + (x0.length + 1 - y.length + 1) * (s' + N + 1) < YY) :
  aI env.P 127 [PI x0, PI y] (PI (rq y (x0.length + 1) x0)) := by
 have hlN := bx0.len
 have hNy := qS.len
 obtain ⟨R, hR⟩ : ∃ R, R = rq y (x0.length + 1) x0 := ⟨_, rfl⟩
 rw [← hR]
 obtain ⟨M, hM⟩ : ∃ M, M = s + (x0.length + 1 - y.length + 1) * (s' + N + 1) := ⟨_, rfl⟩
 rw [← hM] at hB
 have hB : M < 137438953472 := hB
 have hls : sz 2 ((lead y).natAbs : Int) ≤ s' := Nat.le_trans (cC (by decide) (by rw [Int.natAbs_natCast]; exact Nat.le_refl _)) (eT qS)
 have e2 : ((y.length : Int) - 1).toNat = y.length - 1 := by omega
 have LC : nth y (y.length - 1) = lead y := rfl
 refine aB (E := env) (fun id => if id = 16 then 2 else 0) [(0, PI x0), (1, PI y)] Tryz.func127 rfl (by kernel_rfl) (by kernel_rfl) (show 2 ≤ 78 by decide) (by simp) ?_
 refine W.sr ?_; simp (disch := omega) [gw]; refine W.lx [0, 1] ?_; simp
 refine W.sr ?_; simp (disch := omega) [gw, e2, LC]; refine W.lx [0, 1, 5] ?_; simp
 refine W.sr ?_; simp (disch := omega) [gw]; refine W.lx [0, 1, 5, 6] ?_; simp
 refine W.sr ?_; simp (disch := omega) [gw]; refine W.lx [0, 1, 5, 6] ?_; simp
 refine W.seq ?_
 refine W.block ?_
 refine W.a9 (fun n σ => ∃ (x : List Int) (j u : Nat) (rows : Pm.Rows) (clk : Nat), σ = ⟨fa [(0, PI x), (1, PI y), (5, .ptr 5 0 0 0), (6, .ptr 6 1 0 0)], rows, clk⟩ ∧
  rows 5 = some ⟨0, 48, 2, [[aJ aF (aQ DD (lead y).natAbs), .bool (decide (lead y < 0))]]⟩ ∧ rows 6 = some ⟨1, 48, 2, [[aJ aF (aQ DD (lead y).natAbs), .bool false]]⟩ ∧
  Cn x ∧ x.length < n ∧ rq y n x = R ∧ Bd 2 u N x ∧ x.length + 1 ≤ y.length + j ∧ u + (j + 1) * (s' + N + 1) ≤ M) (x0.length + 1) ?_ ?_
 ·exact ⟨_, .refl, x0, x0.length + 1 - y.length, s, _, _, rfl, by simp, by simp, cx0, by omega, hR.symm, bx0, by omega, by omega⟩
 rintro n _ ⟨x, j, u, rows, clk, rfl, mB, tV, cx, hxn, hxR, bx, hj, hu⟩
 have hlx := bx.len
 refine W.seq ?_
 refine W.sr ?_; simp (disch := omega) [gw]; refine W.lx [0, 1, 5, 6, 25] ?_; simp
 refine W.cond ⟨_, rfl, fun h => ?_, fun h => ?_⟩
 ·have h : y.length ≤ x.length := by simp at h; omega
  obtain ⟨n, rfl⟩ : ∃ m, n = m + 1 := ⟨n - 1, by omega⟩
  rw [rq, if_neg (by omega)] at hxR
  have ZC := qU NA h
  obtain ⟨k, hk⟩ : ∃ k, k = x.length - y.length := ⟨_, rfl⟩
  have hkI : (x.length : Int) - (y.length : Int) = k := by omega
  have e1 : ((x.length : Int) - 1).toNat = x.length - 1 := by omega
  have hxl : nth x (x.length - 1) = lead x := rfl
  have apE := aaK h
  have b2 := N6 qS bx NA h
  have hlX : sz 2 (lead x) ≤ u := eT bx
  have hu1 : u + (s' + N + 1) ≤ M := by
   have := Nat.le_mul_of_pos_left (s' + N + 1) (show 0 < j + 1 by omega)
   omega
  refine W.skip ?_
  refine W.block ?_
  refine W.sr ?_; simp (disch := omega) [gw, hkI]; refine W.lx [0, 1, 5, 6, 7] ?_; simp
  refine W.sr ?_; simp (disch := omega) [gw, e1, hxl]; refine W.lx [0, 1, 5, 6, 7, 8] ?_; simp
  obtain ⟨T, hT⟩ : ∃ T, T = uV (lead y) * lead x := ⟨_, rfl⟩
  have hTs : sz 2 T ≤ u := Nat.le_trans (cC (by decide) (by
   rw [hT, Int.natAbs_mul]
   have : (uV (lead y)).natAbs = 1 := by unfold uV; split <;> rfl
   rw [this, Nat.one_mul]; exact Nat.le_refl _)) hlX
  have hTp : (lead y < 0 → T = -lead x) ∧ (¬ lead y < 0 → T = lead x) := by
   rw [hT]; unfold uV
   constructor
   ·intro h; rw [if_pos h]; omega
   ·intro h; rw [if_neg h]; omega
  refine W.fX (fun σ => ∃ (v : Nat) (rows : Pm.Rows) (clk : Nat), σ = ⟨fa [(0, PI x), (1, PI y), (5, .ptr 5 0 0 0), (6, .ptr 6 1 0 0), (7, .int .i64 k), (8, .ptr 8 v 0 0)], rows, clk⟩ ∧
   rows 5 = some ⟨0, 48, 2, [[aJ aF (aQ DD (lead y).natAbs), .bool (decide (lead y < 0))]]⟩ ∧ rows 6 = some ⟨1, 48, 2, [[aJ aF (aQ DD (lead y).natAbs), .bool false]]⟩ ∧
   rows 8 = some ⟨v, 48, 2, [[aJ aF (aQ DD T.natAbs), .bool (decide (T < 0))]]⟩) ?_ ?_
  ·refine W.sr ?_; simp (disch := omega) [gw, mB]; refine W.lx [0, 1, 5, 6, 7, 8, 39] ?_; simp
   refine W.cond ⟨_, rfl, fun h => ?_, fun h => ?_⟩
   ·have h : lead y < 0 := by simpa using h
    have ZI := pT (lead x)
    rw [← hTp.1 h] at ZI
    refine W.b8 (fun K hK => ?_)
    simp (disch := omega) [gw]
    refine aA ZI ?_
    simp (disch := omega) [gw]
    exact hK _ ⟨_, aC _ [0, 1, 5, 6, 7, 8], _, _, _, rfl, by simp [mB], by simp [tV], by simp⟩
   ·have h : ¬ lead y < 0 := by simpa using h
    rw [hTp.2 h]
    refine W.skip ?_
    exact ⟨_, aC _ [0, 1, 5, 6, 7, 8], _, _, _, rfl, by simp [mB], by simp [tV], by simp⟩
  clear mB tV rows clk
  rintro _ ⟨v8, rows, clk, rfl, mB, tV, xG⟩
  refine W.sr ?_; simp (disch := omega) [gw]; refine W.lx [0, 1, 5, 6, 7, 8, 9] ?_; simp
  refine W.nil 9 9 50 4 (by simp) (by decide) (fun K hK => ?_)
  refine W.lw [0, 1, 5, 6, 7, 8, 9] hK ?_; clear hK K; simp
  refine W.seq ?_
  refine W.sr ?_; simp (disch := omega) [gw]; refine W.lx [0, 1, 5, 6, 7, 8, 9, 43, 44] ?_; simp
  refine W.block ?_
  refine W.a9 (fun m σ => ∃ (i v9 : Nat) (rows : Pm.Rows) (clk : Nat), σ = ⟨fa [(0, PI x), (1, PI y), (5, .ptr 5 0 0 0), (6, .ptr 6 1 0 0), (7, .int .i64 k), (8, .ptr 8 v8 0 0), (9, .own 9 v9 0 i), (43, .int .i64 x.length), (44, .int .i64 i)], rows, clk⟩ ∧
   rows 5 = some ⟨0, 48, 2, [[aJ aF (aQ DD (lead y).natAbs), .bool (decide (lead y < 0))]]⟩ ∧ rows 6 = some ⟨1, 48, 2, [[aJ aF (aQ DD (lead y).natAbs), .bool false]]⟩ ∧
   rows 8 = some ⟨v8, 48, 2, [[aJ aF (aQ DD T.natAbs), .bool (decide (T < 0))]]⟩ ∧ rows 9 = some ⟨v9, 50, 4, emap ri ((List.range i).map (RD y x))⟩ ∧ i + m = x.length) x.length ?_ ?_
  ·exact ⟨_, aC _ [0, 1, 5, 6, 7, 8, 9, 43, 44], 0, _, _, _, rfl, by simp [mB], by simp [tV], by simp [xG], by simp [emap], by omega⟩
  clear mB tV xG rows clk
  rintro m _ ⟨i, v9, rows, clk, rfl, mB, tV, xG, hr9, him⟩
  have sE : ((List.range i).map (RD y x)).length = i := by simp
  refine W.sr ?_; simp (disch := omega) [gw]; refine W.lx [0, 1, 5, 6, 7, 8, 9, 43, 44, 45] ?_; simp
  refine W.seq ?_
  refine W.cond ⟨_, rfl, fun h => ?_, fun h => ?_⟩
  ·have hi : i < x.length := by simp at h; omega
   have hxi := bx.nth i
   have m1 := dO (nth x i) ((lead y).natAbs : Int) (by show sz 2 _ < 1099511627776; omega) (by show sz 2 _ < 1099511627776; omega)
   rw [ajX] at m1
   have s1 : sz 2 (nth x i * ((lead y).natAbs : Int)) ≤ u + s' := bS (by decide) hxi hls
   have er : (List.range (i + 1)).map (RD y x) = (List.range i).map (RD y x) ++ [RD y x i] := by
    rw [List.range_succ, List.map_append]; rfl
   have hF : RD y x i = nth x i * ((lead y).natAbs : Int) - if k ≤ i then T * nth y (i - k) else 0 := by unfold RD; rw [hk, hT]
   generalize (List.range i).map (RD y x) = acc at *
   generalize hP : nth x i * ((lead y).natAbs : Int) = P at *
   refine W.skip ?_
   refine W.seq ?_
   refine W.block ?_
   refine W.sr ?_; simp (disch := omega) [gw]; refine W.lx [0, 1, 5, 6, 7, 8, 9, 10, 43, 44] ?_; simp
   refine W.sd ?_
   simp (disch := omega) [gw, tV]
   refine aA m1 ?_
   simp (disch := omega) [gw]
   rw [if_pos (by kernel_rfl)]
   simp (disch := omega) [gw]
   refine W.lx [0, 1, 5, 6, 7, 8, 9, 10, 11, 43, 44] ?_; simp
   generalize hQ : RD y x i = Q at *
   have sQ : sz 2 Q ≤ u + (s' + N + 1) := by
    have SZ : sz 2 (nth y (i - k)) ≤ s' := qS.nth _
    rw [hF]
    split
    ·have := bS (b := 2) (by decide) hTs SZ
     have h1 := mQ (b := 2) (by decide) (x := P) (y := -(T * nth y (i - k))) (k := u + s') s1 (by rw [nW]; exact this)
     rw [← Int.sub_eq_add_neg] at h1
     omega
    ·rw [Int.sub_zero]; omega
   refine W.fX (fun σ => ∃ (v11 : Nat) (rows : Pm.Rows) (clk : Nat), σ = ⟨fa [(0, PI x), (1, PI y), (5, .ptr 5 0 0 0), (6, .ptr 6 1 0 0), (7, .int .i64 k), (8, .ptr 8 v8 0 0), (9, .own 9 v9 0 i), (11, .ptr 11 v11 0 0), (43, .int .i64 x.length), (44, .int .i64 i)], rows, clk⟩ ∧
    rows 5 = some ⟨0, 48, 2, [[aJ aF (aQ DD (lead y).natAbs), .bool (decide (lead y < 0))]]⟩ ∧ rows 6 = some ⟨1, 48, 2, [[aJ aF (aQ DD (lead y).natAbs), .bool false]]⟩ ∧
    rows 8 = some ⟨v8, 48, 2, [[aJ aF (aQ DD T.natAbs), .bool (decide (T < 0))]]⟩ ∧ rows 9 = some ⟨v9, 50, 4, emap ri acc⟩ ∧
    rows 11 = some ⟨v11, 48, 2, [[aJ aF (aQ DD Q.natAbs), .bool (decide (Q < 0))]]⟩) ?_ ?_
   ·refine W.sr ?_; simp (disch := omega) [gw]; refine W.lx [0, 1, 5, 6, 7, 8, 9, 10, 11, 43, 44, 56] ?_; simp
    refine W.cond ⟨_, rfl, fun h => ?_, fun h => ?_⟩
    ·have hki : k ≤ i := by simp at h; omega
     rw [if_pos hki] at hF
     have eik : (i : Int) - (k : Int) = ((i - k : Nat) : Int) := by omega
     have hyb : i - k < y.length := by omega
     have m2 := dO T (nth y (i - k)) (by show sz 2 _ < 1099511627776; omega) (by have := qS.nth (i - k); show sz 2 _ < 1099511627776; omega)
     have s2 := bS (b := 2) (by decide) hTs (qS.nth (i - k))
     have m3 := JC P (T * nth y (i - k)) (by show sz 2 _ < 1099511627776; omega) (by show sz 2 _ < 1099511627776; omega)
     rw [← hF] at m3
     generalize T * nth y (i - k) = P2 at *
     refine W.M3 (fun K hK => ?_)
     simp (disch := omega) [gw, xG, eik]
     refine aA m2 ?_
     simp (disch := omega) [gw]
     refine aA m3 ?_
     simp (disch := omega) [gw]
     refine bN (by kernel_rfl) ?_
     simp (disch := omega) [gw]
     exact hK _ ⟨_, aC _ [0, 1, 5, 6, 7, 8, 9, 11, 43, 44], _, _, _, rfl, by simp [mB], by simp [tV], by simp [xG], by simp [hr9], by simp⟩
    ·have hki : ¬ k ≤ i := by simp at h; omega
     rw [if_neg hki, Int.sub_zero] at hF
     rw [hF]
     refine W.skip ?_
     exact ⟨_, aC _ [0, 1, 5, 6, 7, 8, 9, 11, 43, 44], _, _, _, rfl, by simp [mB], by simp [tV], by simp [xG], by simp [hr9], by simp⟩
   clear mB tV xG hr9 rows clk
   rintro _ ⟨v11, rows, clk, rfl, mB, tV, xG, hr9, auB⟩
   have o1 := mA 1 (by decide) (by decide)
   have mk := DE Q (by show sz 2 Q < 549755813888; omega)
   refine W.M3 (fun K hK => ?_)
   rw [if_pos rfl, dQ]
   simp (disch := omega) [gw, auB]
   refine aA o1 ?_
   simp (disch := omega) [gw]
   refine aA mk ?_
   simp (disch := omega) [gw, hr9, sE]
   refine W.lw [0, 1, 5, 6, 7, 8, 9, 43, 44] hK ?_; clear hK K; simp
   refine W.b8 (fun K hK => ?_); simp (disch := omega) [gw]
   refine hK _ ⟨m - 1, _, aC _ [0, 1, 5, 6, 7, 8, 9, 43, 44], by omega, i + 1, _, _, _, rfl, by simp [mB], by simp [tV], by simp [xG], by rw [er]; simp, by omega⟩
  ·have hi : i = x.length := by simp at h; omega
   subst hi
   have fA : ((List.range x.length).map (RD y x)).length = x.length := by simp
   generalize (List.range x.length).map (RD y x) = acc at *
   have ez := bE fA
   have lS := nD acc (by omega)
   rw [apE] at lS
   refine W.exit ?_; simp only [pX, if_true, if_false, reduceIte, Nat.reduceEqDiff]
   refine W.b8 (fun K hK => ?_)
   simp (disch := omega) [gw, hr9, ez]
   refine aA lS ?_
   simp (disch := omega) [gw]
   obtain ⟨j, rfl⟩ : ∃ i, j = i + 1 := ⟨j - 1, by omega⟩
   rw [Nat.add_mul, Nat.one_mul] at hu
   refine hK _ ⟨n, _, aC _ [0, 1, 5, 6], by omega, RC y x, j, u + (s' + N + 1), _, _, rfl, by simp [mB], by simp [tV], Cn.dY _ _, by omega, hxR, b2, by omega, by omega⟩
 ·have h : x.length < y.length := by simp at h; omega
  rw [ajW h] at hxR
  subst hxR
  refine W.exit ?_; simp only [pX, if_true, if_false, reduceIte, Nat.reduceEqDiff]
  refine W.sr ?_; simp (disch := omega) [gw]; refine W.lx [4] ?_; simp
  refine W.ret ?_
  simp [go]
end Go.Proofs.YtbbjgncblhfegaaGreat
namespace Pm
open Go Go.RowKit
section
variable {E : Env} {c : Cx} {w0 : World} {S0 : c9} {m : Nat} {G : Gs}
theorem aev (hI : Inv w0 S0 c) {t e : TypeId} {n bb len : Nat} {z : List PV} (hE : E.ty t = .slice e n bb z) {parts : Array (Nat × Operand)} {ρ : Operand → PV} {vρ : Operand → Value} (hρ : ∀ x, aK c (ρ x) (vρ x))
  {els : List (List PV)} (yH : fU n 0 (parts.toList.map fun x => (x.1, ρ x.2)) = some els) (hlen : len = els.length) (hsm : len ≤ 4096) (hn : n ≤ 4096)
  (gX : ∀ e ∈ els, ∀ p ∈ e, gW c.rows p) :
  ∃ bZ, (Instr.buildSlice t len (parts.map fun (i, x) => (i, vρ x))).run E.P c.w = .ok (.slice (some ⟨c.w.heap.size, 0, none⟩) len len) (c.w.alloc (.cells bZ e)) ∧ bZ.size = len * n ∧ a7 (aP c) els.flatten bZ.toList ∧ (∀ u ∈ bZ.toList, u.oneCell' = true) ∧ (∀ e ∈ els, e.length = n) ∧ 0 < n := by
 obtain ⟨hu, hnp, EJ, i, zv, hi, hz, hs, _, LX, _⟩ := eI hE
 obtain ⟨g1, g2, g3⟩ := mO yH
 have PJ : parts.size = els.length := by rw [g1]; simp
 have ase : zv.cells.size = n := by rw [← EJ, ← LX]; simp
 have CM : ∀ j (x : Nat × Value), ((parts.map fun (i, x) => (i, vρ x)).toList)[j]? = some x → x.1 = 0 + j ∧ ∃ e, els[j]? = some e ∧ a7 (aP c) e x.2.cells.toList ∧ ∀ u ∈ x.2.cells.toList, u.oneCell' = true := by
  intro j x hx
  simp at hx
  obtain ⟨a, b, gE, rfl⟩ := hx
  obtain ⟨q1, e, q2, q3⟩ := g3 j (a, ρ b) (by simp; exact ⟨a, b, gE, rfl, rfl⟩)
  have q4 := lA (hρ b) q3 (fun q hq => gX e (List.mem_of_getElem? q2) q hq)
  exact ⟨q1, e, q2, q4.1, q4.2⟩
 obtain ⟨bZ, f1, f2⟩ := yK (n := n) (parts.map fun (i, x) => (i, vρ x)).toList 0 ((Array.range (len * n)).map (zv.cells[· % zv.cells.size]!)) (fun j x hx => by
  obtain ⟨q1, e, q2, q3, _⟩ := CM j x hx
  refine ⟨q1, ?_⟩
  have := q3.length
  rw [g2 e (List.mem_of_getElem? q2)] at this
  simpa using this.symm) (by simp [PJ, hlen])
 simp only [Nat.zero_mul, List.take_zero, List.nil_append] at f2
 have i3 : (Instr.buildSlice t len (parts.map fun (i, x) => (i, vρ x))).run E.P c.w = .ok (.slice (some ⟨c.w.heap.size, 0, none⟩) len len) (c.w.alloc (.cells bZ e)) := by
  have hbound : ¬ (16777216 < len * n) := by
   have : len * n ≤ 4096 * 4096 := Nat.mul_le_mul hsm hn
   omega
  by_cases h0 : len * n = 0
  ·have uN : len = 0 := by
    rcases Nat.mul_eq_zero.1 h0 with h | h
    ·exact h
    ·omega
   have SR : parts = #[] := Array.eq_empty_of_size_eq_zero (by omega)
   subst SR
   subst uN
   simp [Instr.fill] at f1
   subst f1
   have CN : Array.range 0 = #[] := rfl
   simp [Instr.buildSlice, run_underlying hu, cP hi, newRow, Instr.fill, CN]
  ·have f1' : Instr.fill (fun i => some (i * n, n)) ((Array.range (len * n)).map (zv.cells[· % zv.cells.size]!)) (parts.toList.map fun x => (x.1, vρ x.2)) = some bZ := by simpa using f1
   simp only [Instr.buildSlice, Sem.run_bind, run_underlying hu, Result.andThen_ok, cP hi, hs]
   simp [h0, hbound, newRow, zeroValue, typeInfo, hi, hz, f1']
 have e3 : bZ.toList = ((parts.map fun (i, x) => (i, vρ x)).toList.map fun x => x.2.cells.toList).flatten := by rw [f2, List.flatMap_def]
 have key : ∀ (vs : List (Nat × Value)) (es : List (List PV)), vs.length = es.length → (∀ (j : Nat) (x : Nat × Value), vs[j]? = some x → ∃ e, es[j]? = some e ∧ a7 (aP c) e x.2.cells.toList ∧ ∀ u ∈ x.2.cells.toList, u.oneCell' = true) →
   a7 (aP c) es.flatten (vs.map fun x => x.2.cells.toList).flatten ∧ ∀ u ∈ (vs.map fun x => x.2.cells.toList).flatten, u.oneCell' = true := by
  intro vs
  induction vs with
  | nil =>
   intro es hl _
   have : es = [] := List.eq_nil_of_length_eq_zero hl.symm
   subst this
   exact ⟨trivial, by simp⟩
  | cons v vs ih =>
   intro es hl h
   match es, hl with
   | e :: es, hl =>
    obtain ⟨h1, h2⟩ := ih es (by simpa using hl) fun j x hx => by simpa using h (j + 1) x (by simpa using hx)
    obtain ⟨e', q1, q2, q3⟩ := h 0 v (by simp)
    simp at q1; subst q1
    simp only [List.flatten_cons, List.map_cons]
    refine ⟨a7.append q2 h1, fun u hu => ?_⟩
    rcases List.mem_append.1 hu with hu | hu
    ·exact q3 u hu
    ·exact h2 u hu
 obtain ⟨k1, k2⟩ := key (parts.map fun (i, x) => (i, vρ x)).toList els (by simp [PJ]) fun j x hx => (CM j x hx).2
 rw [← e3] at k1 k2
 refine ⟨bZ, i3, ?_, k1, k2, g2, hnp⟩
 have h5 := k1.length
 have fl : ∀ {l : List (List PV)}, (∀ e ∈ l, e.length = n) → l.flatten.length = l.length * n := by
  intro l
  induction l with
  | nil => intro _; simp
  | cons e l ih => intro h; rw [List.flatten_cons, List.length_append, ih (fun e he => h e (by simp [he])), h e (by simp), List.length_cons, Nat.add_mul]; omega
 rw [fl g2, Array.length_toList] at h5
 rw [hlen]; exact h5.symm
def B5 (E : Env) (o : Oper) (K : PS → Prop) (σ : PS) : Prop :=
 match o.op with
 | .buildSlice t len parts =>
  match E.ty t with
  | .slice e n _ _ => ∃ els, fU n 0 (parts.toList.map fun x => (x.1, aR σ.f x.2)) = some els ∧ len = els.length ∧ len ≤ 4096 ∧ n ≤ 4096 ∧ (∀ x ∈ els, ∀ p ∈ x, gW σ.rows p) ∧
    EK K σ o.dst (.own (o.dst.getD 0) σ.clock 0 els.length) (o.dst.getD 0) e n els
  | _ => False
 | _ => False
theorem sK {o : Oper} {a : Act} {w : World} {σ : PS} {K : PS → Prop} (h : B5 E o K σ) (hR : Rel w0 S0 m G σ a w) (hd : ∀ t, o.dst = some t → t < m)
  {K' : Act → World → Prop} {Q : Exit → Act → World → Prop} (hK : ∀ σ' a' w', K σ' → Rel w0 S0 m G σ' a' w' → K' a' w') : o.wp E.P a w K' Q := by
 obtain ⟨⟨c, rfl, hr, fA, hI, hf, hG⟩, hn, eJ⟩ := hR
 have hρ := kP hf
 obtain ⟨dst, op, type, pos, after, guard⟩ := o
 simp only at hd
 unfold B5 at h
 simp only at h
 split at h
 ·rename_i t len parts
  split at h
  ·rename_i e n b z hE
   obtain ⟨els, h1, h2, h3, h4, h5, h⟩ := h
   rw [← hr] at h5
   obtain ⟨bZ, g1, g2, g3, g4, g5, g6⟩ := aev hI hE hρ h1 h2 h3 h4 h5
   obtain ⟨uO, hA⟩ := u0 hI (ver := σ.clock) (fun hu => Nat.lt_irrefl _ (fA _ hu)) (dst.getD 0) e n els.length els.length els bZ rfl (Nat.le_refl _) (by simp only [maxLen]; omega) (by rw [g2, h2]) (by
    rw [List.take_of_length_le (by rw [Array.length_toList, g2, h2]; exact Nat.le_refl _)]; exact g3) g4 g5 g6
   obtain ⟨f', rows', vS, yN⟩ := pC (K := fun f' r' => K ⟨f', r', σ.clock + 1⟩) hr fA hf hG hn eJ h uO hA (j8 (r := ⟨σ.clock, e, n, els⟩) (A := some ⟨c.w.heap.size, 0, none⟩) (cap := els.length) (by simp [dE]) rfl (Or.inl rfl) (by simp [dE])) hd
   unfold Oper.wp
   have : (execOp a.eval { dst := dst, op := .buildSlice t len parts, type := type, pos := pos, after := after, guard := guard }).run E.P c.w = .ok (.value (.slice (some ⟨c.w.heap.size, 0, none⟩) els.length els.length)) (c.w.alloc (.cells bZ e)) := by
    rw [h2] at g1
    simp only [execOp, Sem.run_bind, h2, g1, Result.andThen_ok, Sem.run_pure]
   rw [this]
   refine hK _ _ _ vS (yN.mono fun v hv => ?_)
   show v < σ.clock + 1
   rcases hv with rfl | hv
   ·omega
   ·have : v < σ.clock := hv
    omega
  ·exact h.elim
 ·exact h.elim
theorem mF {ops : Array Oper} {K : PS → Prop} {Q : Exit → Act → World → Prop} {l2 : List Oper} (hK : ∀ σ' a' w', K σ' → Rel w0 S0 m G σ' a' w' → wpList E.P ops Q l2 a' w') :
  ∀ (l : List Oper) (σ : PS) (a : Act) (w : World), (∀ o ∈ l, ∀ t, o.dst = some t → t < m) → aL E ops.toList l K σ → Rel w0 S0 m G σ a w → wpList E.P ops Q (l ++ l2) a w
 | [], σ, a, w, _, h, hR => hK _ _ _ h hR
 | o :: os, σ, a, w, hd, h, hR => by
  have hdo := hd o (by simp)
  have hds : ∀ o ∈ os, ∀ t, o.dst = some t → t < m := fun o ho => hd o (by simp [ho])
  have wanted : ∀ {σ}, dU E o (aL E ops.toList os K) σ → Rel w0 S0 m G σ a w → o.wp E.P a w (wpList E.P ops Q (os ++ l2)) Q := fun hp hR =>
   wB hp hR hdo fun σ' a' w' hk j9 => mF hK os σ' a' w' hds hk j9
  show wpList E.P ops Q (o :: (os ++ l2)) a w
  unfold wpList
  simp only [aL] at h
  split at h
  ·rename_i hg
   rw [if_pos (by simp [Region.wanted, hg])]
   exact .inl (wanted h hR)
  ·rename_i j want hg
   split at h
   ·exact h.elim
   ·rename_i d S5
    have hd3 : (ops[j]?).bind (·.dst) = some d := by simpa using S5
    have skip : yielded ops a.tmps j ≠ some want → aL E ops.toList os K (σ.put o.dst (.eP [])) → (if Region.wanted o (yielded ops a.tmps) = true then o.wp E.P a w (wpList E.P ops Q (os ++ l2)) Q ∨ (o.asks E.P a w ∧ LetsOut Q) else wpList E.P ops Q (os ++ l2) (a.put o.dst undef) w) := by
     intro hy h2
     rw [if_neg (by simpa [Region.wanted, hg] using hy)]
     refine mF hK os _ _ w hds h2 ?_
     obtain ⟨⟨c, rfl, hr, fA, hI, hf, hG⟩, hn, eJ⟩ := hR
     exact lW hf hG hn eJ (rT.refl c) hI L8 hdo rfl (by simp [PS.put, hr]) fA
    obtain ⟨c, _, _, _, _, hf, _⟩ := hR.ex
    have hx := hf d
    rcases h with ⟨h1, h2⟩ | ⟨h1 | h1, h2⟩
    ·rw [h1] at hx
     rw [if_pos (by simp [Region.wanted, hg, gH hd3 hx])]
     exact .inl (wanted h2 hR)
    ·rw [h1] at hx
     exact skip (by rw [gH hd3 hx]; cases want <;> simp) h2
    ·rw [h1] at hx
     exact skip (by rw [r6 hd3 hx]; simp) h2
end
theorem W.aaM {E : Env} {n : Nat} {tl : Nat → Nat} {Q : PX → PS → Prop} {σ : PS} {id : Nat} {ops : List Oper} {y : Code} (i : Nat) {o : Oper} (ho : ops = ops.take i ++ o :: ops.drop (i + 1)) (hg : o.guard = none)
  (h : ∀ K : PS → Prop, (∀ σ, W E n tl y Q σ → K σ) → go (aL E ops (ops.take i) (fun σ => B5 E o (aL E ops (ops.drop (i + 1)) K) σ) σ)) : W E n tl (.seq (.region id ops.toArray false) y) Q σ := by
 refine W.seq ?_
 intro fL w0 S0 G a w Q' hR hQ
 simp only [eA, pF, Bool.and_eq_true] at fL
 have hd : ∀ o ∈ ops, ∀ t, o.dst = some t → t < n := fun o ho t ht => by
  have := Array.all_eq_true_iff_forall_mem.1 fL.1 o (by simpa using ho)
  simpa [ht] using this
 refine wp_region_list ?_
 show wpList E.P ops.toArray Q' ops a w
 have h1 := h (fun σ => W E n tl y Q σ) fun _ h => h
 have rZ : o ∈ ops := by rw [ho]; simp
 have := mF (E := E) (w0 := w0) (S0 := S0) (m := n) (G := G) (ops := ops.toArray) (Q := Q') (l2 := o :: ops.drop (i + 1)) (K := fun σ => B5 E o (aL E ops (ops.drop (i + 1)) (fun σ => W E n tl y Q σ)) σ) (fun σ' a' w' hl j9 => by
  unfold wpList
  rw [if_pos (by simp [Region.wanted, hg])]
  refine .inl (sK hl j9 (hd o rZ) fun σ2 a2 w2 hk hR2 => ?_)
  exact fV (E := E) (ops := ops.toArray) (fun σ3 a3 w3 hk3 hR3 => hQ .normal σ3 a3 w3 hk3 hR3) _ σ2 a2 w2 (fun o ho => hd o (List.mem_of_mem_drop ho)) hk hR2) (ops.take i) σ a w (fun o ho => hd o (List.mem_of_mem_take ho)) h1 hR
 rwa [← ho] at this
def AL (ti : TI) (rows : Rows) (len : Nat) (ps : List (Nat × PV)) (K : TypeId → Nat → List (List PV) → Prop) : Prop :=
 match ti with
 | .slice e n _ _ => iG n 0 ps fun els => aH (len = els.length ∧ len ≤ 4096 ∧ n ≤ 4096 ∧ fW rows els.flatten) (K e n els)
 | _ => False
@[congr] theorem aew {t t' : TI} {rows rows' : Rows} {len : Nat} {ps P6 : List (Nat × PV)} {K : TypeId → Nat → List (List PV) → Prop} (h : t = t') (h2 : ps = P6) (h3 : rows = rows') : AL t rows len ps K = AL t' rows' len P6 K := by rw [h, h2, h3]
@[simp] theorem aex {e n b : Nat} {z : List PV} {rows : Rows} {len : Nat} {ps : List (Nat × PV)} {K : TypeId → Nat → List (List PV) → Prop} : AL (.slice e n b z) rows len ps K = iG n 0 ps fun els => aH (len = els.length ∧ len ≤ 4096 ∧ n ≤ 4096 ∧ fW rows els.flatten) (K e n els) := rfl
@[simp] theorem arE {E : Env} {K : PS → Prop} {f : Nat → PV} {rows : Rows} {clk : Nat} {d : Option Tmp} {ty : TypeId} {pos : String} {af : Array Edge} {t : TypeId} {len : Nat} {parts : Array (Nat × Operand)} :
  B5 E ⟨d, .buildSlice t len parts, ty, pos, af, none⟩ K ⟨f, rows, clk⟩ = AL (E.ty t) rows len (parts.toList.map fun x => (x.1, aR f x.2)) fun e n els => K ⟨put f d (.own (d.getD 0) clk 0 els.length), dE rows (d.getD 0) (some ⟨clk, e, n, els⟩), clk + 1⟩ := by
 simp only [B5, AL]
 generalize E.ty t = T
 cases T with
 | slice e n b z =>
  simp only
  rw [← u3]
  simp only [aH, EK, fW]
  apply propext
  constructor
  ·rintro ⟨els, h1, h2, h3, h4, h5, h6⟩
   exact ⟨els, h1, ⟨h2, h3, h4, fun q hq => by obtain ⟨x, hx, hq⟩ := List.mem_flatten.1 hq; exact h5 x hx q hq⟩, h6⟩
  ·rintro ⟨els, h1, ⟨h2, h3, h4, h5⟩, h6⟩
   exact ⟨els, h1, h2, h3, h4, fun x hx q hq => h5 q (List.mem_flatten.2 ⟨x, hx, hq⟩), h6⟩
 | _ => rfl
end Pm
namespace Go.Proofs.YtbbjgncblhfegaaGreat
open Go Pm
def rz (a c : ZX) : ZX := ZX.of (rq c.l (a.l.length + 1) a.l)
theorem qV {a c : ZX} (hc : c ≠ 0) : (rz a c).l = rq c.l (a.l.length + 1) a.l ∧ ZX.N (rz a c) < ZX.N c ∧ ∃ (m : Int) (q : ZX), m ≠ 0 ∧ ZX.K m * a = q * c + ZX.K 1 * rz a c := by
 obtain ⟨h1, h2, m, q, hm, h3⟩ := RE c.c (ZX.aD.1 hc) (a.l.length + 1) a.l a.c (by omega)
 have e : (rz a c).l = rq c.l (a.l.length + 1) a.l := h1
 refine ⟨e, by show (rz a c).l.length < c.l.length; rw [e]; exact h2, m, ZX.of q, hm, ZX.ext fun t => ?_⟩
 rw [ZX.cU, ZX.rE, ZX.iU, ZX.cU, ZX.cU, ZX.rE, ZX.B3, e, h3 t]; omega
theorem RF {s n : Nat} {a c : ZX} (ha : BZ s n a) (hb : BZ s n c) (hc : c ≠ 0) : BZ (s + (ZX.N a + 1 - ZX.N c) * (s + n + 1)) n (rz a c) := by
 have h := agX hb (ZX.aD.1 hc) (a.l.length + 1) (ZX.N a + 1 - ZX.N c) s a.l ha (by show ZX.N a + 1 ≤ ZX.N c + _; omega)
 rw [← (qV hc).1] at h
 exact h
theorem DU {s n C : Nat} {a c : ZX} (b : BZ s n a) (b' : BZ s n c) (hP : xU C n s (nf a) (nf c)) (hn : n ≤ 20) (hC : C ≤ 4500000000) (h1 : 1 ≤ s) : aI env.P 171 [PI a.l, PI c.l] (PI (gz a c).l) := by
 have hs := hP.le
 have p1 := j2 b h1 (by show s ≤ 137438953472; omega) (by omega)
 have p2 := j2 b' h1 (by show s ≤ 137438953472; omega) (by omega)
 have b1 := b.nf
 have b2 := b'.nf
 have hg : gz (nf a) (nf c) = gz a c := by rw [agR, NZ]
 have hx1 := J2 a
 rw [← hg]
 generalize nM : nf a = x0 at *
 generalize NA : nf c = y0 at *
 generalize hG : gz x0 y0 = G at *
 refine aB (E := env) (fun _ => 0) [(0, PI a.l), (1, PI c.l)] Tryz.func171 rfl (by kernel_rfl) (by kernel_rfl) (show 2 ≤ 18 by decide) (by simp) ?_
 generalize a.l = al at *
 generalize c.l = cl at *
 refine W.sr ?_; simp (disch := omega) [gw]; refine W.lx [0, 1] ?_; simp
 refine W.sr ?_
 simp (disch := omega) [gw]
 refine aA p1 ?_
 simp (disch := omega) [gw]
 refine aA p2 ?_
 simp (disch := omega) [gw]
 refine W.lx [0, 1] ?_; simp
 refine W.seq ?_
 refine W.block ?_
 refine W.a9 (fun k σ => ∃ (x y : ZX) (s : Nat) (rows : Pm.Rows) (clk : Nat), σ = ⟨fa [(0, PI x.l), (1, PI y.l)], rows, clk⟩ ∧ BZ s n x ∧ BZ s n y ∧ 1 ≤ s ∧ xU C n s x y ∧ gz x y = G ∧ nf x = x ∧ nf y = y ∧ k = ZX.N y) (ZX.N y0) ?_ ?_
 ·exact ⟨_, .refl, x0, y0, s, _, _, rfl, b1, b2, h1, hP, hG, hx1, by rw [← NA, J2], rfl⟩
 rintro k _ ⟨x, y, s, rows, clk, rfl, bx, qS, h1, hp, hgz, hnx, hny, rfl⟩
 have hs := hp.le
 have hlx := bx.len
 have hly := qS.len
 refine W.seq ?_
 refine W.sr ?_; simp (disch := omega) [gw]; refine W.lx [0, 1, 11] ?_; simp
 refine W.cond ⟨_, rfl, fun h => ?_, fun h => ?_⟩
 ·have hy : y ≠ 0 := ZX.aD.2 (by show 0 < y.l.length; simp at h; omega)
  obtain ⟨TY, hN, m, q, hm, e⟩ := qV (a := x) hy
  have br := RF bx qS hy
  have hmul : (x.l.length + 1 - y.l.length + 1) * (s + n + 1) ≤ 22 * 4500000000 := Nat.mul_le_mul (by omega) (by omega)
  have agY : (ZX.N x + 1 - ZX.N y) * (s + n + 1) ≤ 22 * 4500000000 := Nat.mul_le_mul (by have : ZX.N x = x.l.length := rfl; omega) (by omega)
  have hR := DT (s := s) (s' := s) (N := n) bx qS x.c y.c (ZX.aD.1 hy) (by omega) (by show _ < 137438953472; omega)
  rw [← TY] at hR
  have pr := j2 br (by omega) (by show _ ≤ 137438953472; omega) (by omega)
  have JM : ZX.N (nf (rz x y)) < ZX.N y := by rw [B4]; exact hN
  have hp2 := hp.step JM
  have mX := F2 hm (show (1 : Int) ≠ 0 by decide) e
  rw [← NZ y (rz x y)] at mX
  have br2 := br.nf
  have T7 := J2 (rz x y)
  generalize (rz x y).l = rl at *
  generalize nf (rz x y) = r2 at *
  refine W.skip ?_
  refine W.block ?_
  refine W.b8 (fun K hK => ?_)
  simp (disch := omega) [gw]
  refine aA hR ?_
  simp (disch := omega) [gw]
  refine aA pr ?_
  simp (disch := omega) [gw]
  refine hK _ ⟨ZX.N r2, _, aC _ [0, 1], JM, y, r2, _, _, _, rfl, qS.mono (by omega) (Nat.le_refl _), br2, by omega, hp2, by rw [← mX, hgz], hny, T7, rfl⟩
 ·have hy : y = 0 := by
   refine Classical.byContradiction fun h0 => ?_
   have h1 := ZX.aD.1 h0
   have h2 : ZX.N y = y.l.length := rfl
   simp at h; rw [h2, h] at h1; simp at h1
  subst hy
  rw [tY, hnx] at hgz
  subst hgz
  refine W.exit ?_; simp only [pX, if_true, if_false, reduceIte, Nat.reduceEqDiff]
  refine W.sr ?_; simp (disch := omega) [gw]; refine W.lx [4] ?_; simp
  refine W.ret ?_
  simp [go]
theorem U1 {h h' n : Nat} {a c : ZX} (b : BZ h n a) (b' : BZ h' n c) (h1 : 1 ≤ h) (ha : Nf a) (hc : Nf c) (hd : ZX.dv c a) (hB : h + (n + 1) * (h' + n + 2) + h' + n + n + 10 < 137438953472) : aI env.P 172 [PI a.l, PI c.l] (.eP [PI (qz a c).l, PI []]) := by
 obtain ⟨hw, e⟩ := mE ha hc hd
 have hD := JT a.l c.l b b' a.c c.c (ZX.aD.1 hc.ne) h1 hB
 obtain ⟨e1, e2⟩ := aao (q := (qz a c).l) a.c c.c (ZX.aD.1 hc.ne) (qz a c).c fun t => by
  conv => lhs; rw [e]
  rw [ZX.cU]
 rw [e1, e2, oQ, oQ, oQ] at hD
 exact hD
def zq (a : ZX) : List PV := [PI a.l]
@[simp] theorem auC {a : ZX} : zq a = [PI a.l] := rfl
@[simp] theorem amh {l : List ZX} : bB 1 (emap zq l) = True := cZ fun _ => rfl
@[simp] theorem ajZ {v e n : Nat} {l : List ZX} : cQ (some ⟨v, e, n, emap zq l⟩) = True := cM fun _ => rfl
@[simp] theorem auD {l : List ZX} {a : ZX} : emap zq l ++ [[aJ ri a.l]] = emap zq (l ++ [a]) := by simp [emap]
theorem qT.qd {s n : Nat} {a c d : ZX} (h : qT s n a) (h1 : 1 ≤ s) (ha : Nf a) (hc : Nf c) (hd : Nf d) (hca : ZX.dv c a) (hdc : ZX.dv d c) : aI env.P 172 [PI c.l, PI d.l] (.eP [PI (qz c d).l, PI []]) ∧ aI env.P 111 [PI (qz c d).l] (PI (qz c d).l) := by
 have b := h.dv ha hc hca
 have b2 := h.dv ha hd (hdc.trans hca)
 have hq := h.oR
 have hn := h.hn
 obtain ⟨hw, e⟩ := mE hc hd hdc
 have bq := h.dv ha hw ((aaD hc hd hdc).trans hca)
 have hm : (n + 1) * (qb s n + n + 2) ≤ 21 * 4500000000 := Nat.mul_le_mul (by omega) (by omega)
 have aj0 : 1 ≤ qb s n := by unfold qb; omega
 refine ⟨U1 b b2 aj0 hc hd hdc (by omega), ?_⟩
 have := j2 bq aj0 (by show _ ≤ 137438953472; omega) (by omega)
 rwa [hw.nfe] at this
theorem qT.qgd {s n : Nat} {a c : ZX} (h : qT s n a) (ha : Nf a) (hc : Nf c) (hd : ZX.dv c a) : aI env.P 125 [PI c.l] (PI (ZX.bK c).l) ∧ aI env.P 171 [PI c.l, PI (ZX.bK c).l] (PI (gd c).l) := by
 have b := h.dv ha hc hd
 have b2 := b.bK (by have := h.hn; omega)
 have hq := h.oR
 have hn := h.hn
 have aj0 : 1 ≤ qb s n := by unfold qb; omega
 refine ⟨oB b (by show _ ≤ 137438953472; omega) (by omega), DU (s := qb s n + 5) (b.mono (by omega) (Nat.le_refl _)) b2 ?_ h.hn (C := 4500000000) (Nat.le_refl _) (by omega)⟩
 have hN := ZX.kN c
 have h1 : ZX.N c ≤ n := b.N
 have h2 := ZX.aD.1 hc.ne
 unfold xU
 rw [B4, B4, if_pos (by omega)]
 refine Nat.le_trans (Nat.mul_le_mul (show qb s n + 5 + n + 1 ≤ qb s n + n + 6 by omega) (Nat.pow_le_pow_right (by decide) h1)) h.hC
theorem oC {s n : Nat} {a : ZX} (h : qT s n a) (h1 : 1 ≤ s) : aI env.P 93 [PI a.l] (aJ zq (fl (nf a))) := by
 have hqb := h.oR
 have hn := h.hn
 have qO : s ≤ 4500000000 := by unfold qb at hqb; omega
 have p1 := j2 h.bz h1 (by show s ≤ 137438953472; omega) (by omega)
 have hA := h.nfz
 have hNa : ZX.N a = a.l.length := rfl
 have Z4 := B4 a
 have hle := DP (nf a)
 have hNA : ZX.N (nf a) ≤ n := hA.bz.N
 refine aB (E := env) (fun _ => 0) [(0, PI a.l)] Tryz.func93 rfl (by kernel_rfl) (by kernel_rfl) (show 1 ≤ 94 by decide) (by simp) ?_
 refine W.sr ?_; simp (disch := omega) [gw]; refine W.lx [0] ?_; simp
 refine W.seq ?_
 refine W.sr ?_; simp (disch := omega) [gw]; refine W.lx [0, 2, 15] ?_; simp
 refine W.cond ⟨_, rfl, fun h => ?_, fun h => ?_⟩
 ·have h2 : ZX.N a ≤ 1 := by simp at h; omega
  have h3 : fl (nf a) = [] := by unfold fl; rw [KA (by rw [Z4]; exact h2)]; rfl
  rw [h3]
  refine W.sr ?_; simp (disch := omega) [gw]; refine W.lx [2] ?_; simp
  refine W.TU 2 (aJ zq []) (by simp) rfl (fun K hK => ?_)
  refine W.lw [2] hK ?_; clear hK K; simp
  refine W.ret ?_
  simp [go]
 have h2 : 2 ≤ ZX.N a := by simp at h; omega
 have nA : Nf (nf a) := gD (ZX.aD.2 (by omega))
 clear h
 generalize nf a = A at *
 obtain ⟨m, hm⟩ : ∃ m, m = nl A := ⟨_, rfl⟩
 have QL : fl A = (List.range m).map (kG A) := by rw [hm]; rfl
 rw [QL]
 refine W.skip ?_
 refine W.sr ?_
 simp (disch := omega) [gw]
 refine aA p1 ?_
 simp (disch := omega) [gw]
 refine W.lx [0] ?_; simp
 refine W.sr ?_; simp (disch := omega) [gw]; refine W.lx [0, 3] ?_; simp
 refine W.aaM 1 rfl rfl (fun K hK => ?_)
 simp (disch := omega) [gw]
 refine W.lw [3, 4] hK ?_; clear hK K; simp
 refine W.seq ?_
 refine W.block ?_
 refine W.a9 (fun k σ => ∃ (i ver : Nat) (rows : Pm.Rows) (clk : Nat), σ = ⟨fa [(3, .nil), (4, .own 19 ver 0 (i + 1))], rows, clk⟩ ∧ rows 19 = some ⟨ver, 24, 1, emap zq ((List.range (i + 1)).map (gs A))⟩ ∧ i + k = m) m ?_ ?_
 ·exact ⟨_, .refl, 0, _, _, _, rfl, by simp [emap, gs], by omega⟩
 rintro k _ ⟨i, ver, rows, clk, rfl, hr, I0⟩
 have sE : ((List.range (i + 1)).map (gs A)).length = i + 1 := by simp
 have sJ : nth ((List.range (i + 1)).map (gs A)) i = gs A i := dS _ (by omega)
 have er : (List.range (i + 1 + 1)).map (gs A) = (List.range (i + 1)).map (gs A) ++ [gs A (i + 1)] := by rw [List.range_succ, List.map_append]; rfl
 have e1 : ((i : Int) + 1 - 1).toNat = i := by omega
 generalize hL : (List.range (i + 1)).map (gs A) = L at *
 refine W.seq ?_
 refine W.sr ?_; simp (disch := omega) [gw, hr, sE, sJ]; refine W.lx [3, 4, 27] ?_; simp
 refine W.cond ⟨_, rfl, fun h => ?_, fun h => ?_⟩
 ·have h3 : 2 ≤ ZX.N (gs A i) := by
   have h4 : ZX.N (gs A i) = (gs A i).l.length := rfl
   simp at h; omega
  clear h
  have hi : i < nl A := by
   rcases Nat.lt_or_ge i (nl A) with h4 | h4
   ·exact h4
   ·have h5 := (jF A).1
    rw [show nl A = i by omega] at h5; omega
  obtain ⟨t1, t2⟩ := hA.qgd nA (lM nA i) (DO A i)
  rw [show gd (gs A i) = gs A (i + 1) from rfl] at t2
  generalize hg : (gs A i).l = g at *
  generalize mX : gs A (i + 1) = g2 at *
  refine W.skip ?_
  refine W.block ?_
  refine W.sr ?_; simp (disch := omega) [gw, hr, sE, sJ, hg]; refine W.lx [3, 4, 5] ?_; simp
  refine W.b8 (fun K hK => ?_)
  simp (disch := omega) [gw]
  refine aA t1 ?_
  simp (disch := omega) [gw]
  refine aA t2 ?_
  simp (disch := omega) [gw, hr, sE]
  refine hK _ ⟨k - 1, _, aC _ [3, 4], by omega, i + 1, _, _, _, rfl, by rw [er]; simp, by omega⟩
 have h3 : ZX.N (gs A i) ≤ 1 := by
  have h4 : ZX.N (gs A i) = (gs A i).l.length := rfl
  simp at h; omega
 clear h
 have hi : i = m := by
  rcases Nat.lt_or_ge i (nl A) with h4 | h4
  ·have := (jF A).2 i h4; omega
  ·omega
 subst hi
 have hR : L ++ [(1 : ZX)] = (List.range (i + 2)).map (gs A) := by
  rw [show (1 : ZX) = gs A (i + 1) by rw [hm, J6 nA 1]]
  exact er.symm
 have gX := p7
 generalize hz : (1 : ZX) = z1 at *
 refine W.exit ?_; simp only [pX, if_true, if_false, reduceIte, Nat.reduceEqDiff]
 refine W.sr ?_
 simp (disch := omega) [gw]
 refine aA gX ?_
 simp (disch := omega) [gw, hr, sE]
 refine W.lx [3, 4] ?_; simp
 clear hr sJ e1 er hL sE
 have hRl : (L ++ [z1]).length = i + 2 := by rw [hR]; simp
 have sJ : ∀ j, j < i + 2 → nth (L ++ [z1]) j = gs A j := fun j hj => by rw [hR]; exact dS _ hj
 generalize L ++ [z1] = R at *
 have hRt : List.take (i + 2) R = R := List.take_of_length_le (by omega)
 refine W.freeze 19 (by simp) (fun K hK => ?_)
 simp [hRt]
 refine hK _ ?_; clear hK K
 refine W.nil 3 3 24 1 (by simp) (by decide) (fun K hK => ?_)
 refine W.lw [3, 4] hK ?_; clear hK K; simp
 refine W.seq ?_
 refine W.sr ?_; simp (disch := omega) [gw]; refine W.lx [3, 4, 6] ?_; simp
 refine W.block ?_
 refine W.a9 (fun k σ => ∃ (j ver : Nat) (rows : Pm.Rows) (clk : Nat), σ = ⟨fa [(3, .own 3 ver 0 j), (4, aJ zq R), (6, .int .i64 j)], rows, clk⟩ ∧ rows 3 = some ⟨ver, 24, 1, emap zq ((List.range j).map (kG A))⟩ ∧ j + k = i) i ?_ ?_
 ·exact ⟨_, .refl, 0, _, _, _, rfl, by simp [emap], by omega⟩
 clear rows clk ver I0 k
 rintro k _ ⟨j, ver, rows, clk, rfl, hr, hjk⟩
 have hjl : ((List.range j).map (kG A)).length = j := by simp
 refine W.seq ?_
 refine W.sr ?_; simp (disch := omega) [gw, hRl]; refine W.lx [3, 4, 6, 50] ?_; simp
 refine W.cond ⟨_, rfl, fun h => ?_, fun h => ?_⟩
 ·have hj : j < i := by simp at h; omega
  clear h
  have er : (List.range (j + 1)).map (kG A) = (List.range j).map (kG A) ++ [kG A j] := by rw [List.range_succ, List.map_append]; rfl
  have n0 := sJ j (by omega)
  have n1 := sJ (j + 1) (by omega)
  have n2 := sJ (j + 2) (by omega)
  have l0 : j < R.length := by omega
  have l1 : j + 1 < R.length := by omega
  have l2 : j + 2 < R.length := by omega
  have e1 : ((j : Int) + 1).toNat = j + 1 := by omega
  have e2 : ((j : Int) + 2).toNat = j + 2 := by omega
  obtain ⟨d1, q1⟩ := hA.qd h1 nA (lM nA j) (lM nA (j + 1)) (DO A j) (wW _)
  obtain ⟨d2, q2⟩ := hA.qd h1 nA (lM nA (j + 1)) (lM nA (j + 2)) (DO A (j + 1)) (wW _)
  obtain ⟨d3, q3⟩ := hA.qd h1 nA (eU nA j).1 (eU nA (j + 1)).1 (xS nA j) (J8 nA j)
  rw [show qz (gs A j) (gs A (j + 1)) = wz A j from rfl] at d1 q1
  rw [show qz (gs A (j + 1)) (gs A (j + 2)) = wz A (j + 1) from rfl] at d2 q2
  rw [show qz (wz A j) (wz A (j + 1)) = kG A j from rfl] at d3 q3
  have h0 : (nth R j).l = (gs A j).l := by rw [n0]
  have h1' : (nth R (j + 1)).l = (gs A (j + 1)).l := by rw [n1]
  have h2' : (nth R (j + 2)).l = (gs A (j + 2)).l := by rw [n2]
  generalize (gs A j).l = g0 at *
  generalize (gs A (j + 1)).l = g1 at *
  generalize (gs A (j + 2)).l = g2 at *
  generalize (wz A j).l = w0 at *
  generalize (wz A (j + 1)).l = w1 at *
  generalize hF : kG A j = F at *
  generalize hac : (List.range j).map (kG A) = acc at *
  refine W.skip ?_
  refine W.seq ?_
  refine W.block ?_
  refine W.sd ?_
  simp (disch := omega) [gw, h0, h1', e1]
  refine aA d1 ?_
  simp (disch := omega) [gw]
  refine W.lx [3, 4, 6, 7] ?_; simp
  refine W.sd ?_
  simp (disch := omega) [gw, h1', h2', e1, e2]
  refine aA d2 ?_
  simp (disch := omega) [gw]
  refine W.lx [3, 4, 6, 7, 9] ?_; simp
  refine W.sr ?_
  simp (disch := omega) [gw]
  refine aA q1 ?_
  simp (disch := omega) [gw]
  refine aA q2 ?_
  simp (disch := omega) [gw]
  refine aA d3 ?_
  simp (disch := omega) [gw]
  refine W.lx [3, 4, 6, 11] ?_; simp
  refine W.b8 (fun K hK => ?_)
  simp (disch := omega) [gw]
  refine aA q3 ?_
  simp (disch := omega) [gw, hr, hjl]
  refine W.lw [3, 4, 6] hK ?_; clear hK K; simp
  refine W.b8 (fun K hK => ?_); simp (disch := omega) [gw]
  refine hK _ ⟨k - 1, _, aC _ [3, 4, 6], by omega, j + 1, _, _, _, rfl, by rw [er]; simp, by omega⟩
 ·have hj : j = i := by simp at h; omega
  subst hj
  generalize (List.range j).map (kG A) = acc at *
  have uR : List.take j acc = acc := List.take_of_length_le (by omega)
  refine W.exit ?_; simp only [pX, if_true, if_false, reduceIte, Nat.reduceEqDiff]
  refine W.sr ?_
  simp (disch := omega) [gw, hr, uR]
  refine W.lx [2] ?_; simp
  refine W.ret ?_
  simp [go, hr, uR]
theorem uC {s n : Nat} {a : ZX} (h : qT s n a) (h1 : 1 ≤ s) : aI env.P 26 [PI a.l] (PI (sq a).l) := by
 have hqb := h.oR
 have hn := h.hn
 have hF := oC h h1
 have hA := h.nfz
 have hNa : ZX.N a = a.l.length := rfl
 have hsq : ZX.N a ≠ 0 → sq a = pf (nf a) (fun _ => true) (nl (nf a)) := fun h0 => by
  have nA := gD (ZX.aD.2 (Nat.pos_of_ne_zero h0))
  unfold sq
  split
  ·rename_i h2
   rw [KA (by rw [B4]; exact h2), nA.N1 (by rw [B4]; exact h2)]; rfl
  ·rw [ajR nA]
 have hNf : ZX.N a ≠ 0 → Nf (nf a) := fun h0 => gD (ZX.aD.2 (Nat.pos_of_ne_zero h0))
 have hle := DP (nf a)
 have hNA : ZX.N (nf a) ≤ n := hA.bz.N
 have apH : ZX.N a = 0 → (sq a).l = [] := fun h0 => by
  have h2 : a = 0 := Classical.byContradiction fun h3 => by have := ZX.aD.1 h3; omega
  unfold sq
  rw [if_pos (by omega), h2, jE]; rfl
 generalize nf a = A at *
 refine aB (E := env) (fun _ => 0) [(0, PI a.l)] Tryz.func26 rfl (by kernel_rfl) (by kernel_rfl) (show 1 ≤ 26 by decide) (by simp) ?_
 refine W.sr ?_; simp (disch := omega) [gw]; refine W.lx [0] ?_; simp
 refine W.seq ?_
 refine W.sr ?_; simp (disch := omega) [gw]; refine W.lx [0, 2, 8] ?_; simp
 refine W.cond ⟨_, rfl, fun h3 => ?_, fun h3 => ?_⟩
 ·have h0 : ZX.N a = 0 := by rw [hNa]; simp at h3; rw [h3]; rfl
  rw [apH h0]
  refine W.sr ?_; simp (disch := omega) [gw]; refine W.lx [2] ?_; simp
  refine W.TU 2 (PI []) (by simp) rfl (fun K hK => ?_)
  refine W.lw [2] hK ?_; clear hK K; simp
  refine W.ret ?_
  simp [go]
 have h0 : ZX.N a ≠ 0 := by rw [hNa]; simp at h3; intro h4; exact h3 (List.eq_nil_of_length_eq_zero h4)
 have nA := hNf h0
 rw [hsq h0]
 clear h3 hsq apH hNf
 have hmul : ∀ i, aI env.P 54 [PI (pf A (fun _ => true) i).l, PI (kG A i).l] (PI (pf A (fun _ => true) (i + 1)).l) := fun i => by
  have b1 := hA.dv nA (uA nA (fun _ => true) i) (xT nA _ i)
  have b2 := hA.dv nA (tZ nA i).1 (F3 nA i)
  exact jW _ _ _ _ _ _ b1 b2 (by show _ < 137438953472; omega)
 obtain ⟨m, hm⟩ : ∃ m, m = nl A := ⟨_, rfl⟩
 have QL : fl A = (List.range m).map (kG A) := by rw [hm]; rfl
 rw [← hm] at hle ⊢
 rw [QL] at hF
 have BH : ((List.range m).map (kG A)).length = m := by simp
 have sJ : ∀ i, i < m → (nth ((List.range m).map (kG A)) i).l = (kG A i).l := fun i hi => by rw [dS _ hi]
 generalize (List.range m).map (kG A) = L at *
 have h1 := p7
 rw [show (1 : ZX) = pf A (fun _ => true) 0 from rfl] at h1
 generalize hg : pf A (fun _ => true) 0 = g0 at *
 refine W.skip ?_
 refine W.sr ?_
 simp (disch := omega) [gw]
 refine aA h1 ?_
 simp (disch := omega) [gw]
 refine W.lx [0, 3] ?_; simp
 refine W.sr ?_
 simp (disch := omega) [gw]
 refine aA hF ?_
 simp (disch := omega) [gw]
 refine W.lx [3, 4] ?_; simp
 refine W.seq ?_
 refine W.sr ?_; simp (disch := omega) [gw, BH]; refine W.lx [3, 4, 14, 15] ?_; simp
 subst hg
 refine W.block ?_
 refine W.a9 (fun k σ => ∃ (i : Nat) (rows : Pm.Rows) (clk : Nat), σ = ⟨fa [(3, PI (pf A (fun _ => true) i).l), (4, aJ zq L), (14, .int .i64 m), (15, .int .i64 i)], rows, clk⟩ ∧ i + k = m) m ?_ ?_
 ·exact ⟨_, .refl, 0, _, _, rfl, by omega⟩
 rintro k _ ⟨i, rows, clk, rfl, I0⟩
 refine W.sr ?_; simp (disch := omega) [gw]; refine W.lx [3, 4, 14, 15, 16] ?_; simp
 refine W.seq ?_
 refine W.cond ⟨_, rfl, fun h => ?_, fun h => ?_⟩
 ·have hi : i < m := by simp at h; omega
  have hiL : i < L.length := by omega
  have ht := hmul i
  have uB := sJ i hi
  generalize mX : pf A (fun _ => true) (i + 1) = g2 at *
  generalize pf A (fun _ => true) i = g at *
  refine W.skip ?_
  refine W.seq ?_
  refine W.block ?_
  refine W.sr ?_; simp (disch := omega) [gw]; refine W.lx [3, 4, 5, 14, 15] ?_; simp
  refine W.b8 (fun K hK => ?_)
  simp (disch := omega) [gw, uB]
  refine aA ht ?_
  simp (disch := omega) [gw]
  refine W.lw [3, 4, 14, 15] hK ?_; clear hK K; simp
  subst mX
  refine W.b8 (fun K hK => ?_); simp (disch := omega) [gw]
  refine hK _ ⟨k - 1, _, aC _ [3, 4, 14, 15], by omega, i + 1, _, _, rfl, by omega⟩
 ·have hi : i = m := by simp at h; omega
  subst hi
  refine W.exit ?_; simp only [pX, if_true, if_false, reduceIte, Nat.reduceEqDiff]
  refine W.sr ?_; simp (disch := omega) [gw]; refine W.lx [2] ?_; simp
  refine W.ret ?_
  simp [go]
theorem U2 {s n : Nat} {a : ZX} (h : qT s n a) (h1 : 1 ≤ s) (h0 : a ≠ 0) : aI env.P 121 [PI a.l] (PI (oz (nf a)).l) := by
 have hqb := h.oR
 have hn := h.hn
 have hF := oC h h1
 have hA := h.nfz
 have nA := gD h0
 have qG : a.l.length ≠ 0 := fun h1 => by have h2 := ZX.aD.1 h0; have h3 : ZX.N a = a.l.length := rfl; omega
 have hle := DP (nf a)
 have hNA : ZX.N (nf a) ≤ n := hA.bz.N
 generalize nf a = A at *
 obtain ⟨c, hc⟩ : ∃ c : Nat → Bool, c = fun k => k % 2 == 0 := ⟨_, rfl⟩
 have hoz : oz A = pf A c (nl A) := by rw [hc]; rfl
 rw [hoz]
 have hmul : ∀ i, i % 2 = 0 → aI env.P 54 [PI (pf A c i).l, PI (kG A i).l] (PI (pf A c (i + 2)).l) := fun i hi => by
  have b1 := hA.dv nA (uA nA c i) (xT nA _ i)
  have b2 := hA.dv nA (tZ nA i).1 (F3 nA i)
  have e : pf A c (i + 2) = pf A c i * kG A i := by
   have c1 : c (i + 1) = false := by rw [hc]; simp; omega
   have c2 : c i = true := by rw [hc]; simp; omega
   rw [pf, if_neg (by rw [c1]; decide), pf, if_pos c2]
  rw [e]
  exact jW _ _ _ _ _ _ b1 b2 (by show _ < 137438953472; omega)
 obtain ⟨m, hm⟩ : ∃ m, m = nl A := ⟨_, rfl⟩
 have QL : fl A = (List.range m).map (kG A) := by rw [hm]; rfl
 have N7 : ∀ i, m ≤ i → i ≤ m + 1 → i % 2 = 0 → pf A c i = pf A c m := fun i hi BB hi3 => by
  rcases Nat.lt_or_ge m i with h4 | h4
  ·obtain rfl : i = m + 1 := by omega
   rw [pf, if_neg (by rw [hc]; simp; omega)]
  ·rw [show i = m by omega]
 rw [← hm] at hle ⊢
 rw [QL] at hF
 have BH : ((List.range m).map (kG A)).length = m := by simp
 have sJ : ∀ i, i < m → (nth ((List.range m).map (kG A)) i).l = (kG A i).l := fun i hi => by rw [dS _ hi]
 generalize (List.range m).map (kG A) = L at *
 have h1 := p7
 rw [show (1 : ZX) = pf A c 0 from rfl] at h1
 generalize hg : pf A c 0 = g0 at *
 refine aB (E := env) (fun _ => 0) [(0, PI a.l)] Tryz.func121 rfl (by kernel_rfl) (by kernel_rfl) (show 1 ≤ 26 by decide) (by simp) ?_
 refine W.sr ?_; simp (disch := omega) [gw]; refine W.lx [0] ?_; simp
 refine W.seq ?_
 refine W.sr ?_; simp (disch := omega) [gw]; refine W.lx [0, 2, 8] ?_; simp
 refine W.cond ⟨_, rfl, fun h3 => ?_, fun h3 => ?_⟩
 ·simp at h3; exact absurd (by rw [h3]; rfl) qG
 clear h3
 refine W.skip ?_
 refine W.sr ?_
 simp (disch := omega) [gw]
 refine aA h1 ?_
 simp (disch := omega) [gw]
 refine W.lx [0, 3] ?_; simp
 refine W.sr ?_
 simp (disch := omega) [gw]
 refine aA hF ?_
 simp (disch := omega) [gw]
 refine W.lx [3, 4] ?_; simp
 refine W.seq ?_
 refine W.sr ?_; simp (disch := omega) [gw]; refine W.lx [3, 4, 5] ?_; simp
 subst hg
 refine W.block ?_
 refine W.a9 (fun k σ => ∃ (i : Nat) (rows : Pm.Rows) (clk : Nat), σ = ⟨fa [(3, PI (pf A c i).l), (4, aJ zq L), (5, .int .i64 i)], rows, clk⟩ ∧ k = m - i ∧ i ≤ m + 1 ∧ i % 2 = 0) m ?_ ?_
 ·exact ⟨_, .refl, 0, _, _, rfl, by omega, by omega, rfl⟩
 rintro k _ ⟨i, rows, clk, rfl, I0, him, BB⟩
 refine W.seq ?_
 refine W.sr ?_; simp (disch := omega) [gw, BH]; refine W.lx [3, 4, 5, 16] ?_; simp
 refine W.cond ⟨_, rfl, fun h => ?_, fun h => ?_⟩
 ·have hi : i < m := by simp at h; omega
  have hiL : i < L.length := by omega
  have ht := hmul i BB
  have uB := sJ i hi
  generalize mX : pf A c (i + 2) = g2 at *
  generalize pf A c i = g at *
  refine W.skip ?_
  refine W.seq ?_
  refine W.block ?_
  refine W.b8 (fun K hK => ?_)
  simp (disch := omega) [gw, uB]
  refine aA ht ?_
  simp (disch := omega) [gw]
  refine W.lw [3, 4, 5] hK ?_; clear hK K; simp
  subst mX
  refine W.b8 (fun K hK => ?_); simp (disch := omega) [gw]
  refine hK _ ⟨m - (i + 2), _, aC _ [3, 4, 5], by omega, i + 2, _, _, rfl, rfl, by omega, by omega⟩
 ·have hi : m ≤ i := by simp at h; omega
  rw [N7 i hi him BB]
  refine W.exit ?_; simp only [pX, if_true, if_false, reduceIte, Nat.reduceEqDiff]
  refine W.sr ?_; simp (disch := omega) [gw]; refine W.lx [2] ?_; simp
  refine W.ret ?_
  simp [go]
abbrev R2 (n d : Int) : PV := .ag [aJ aF (aQ DD n.natAbs), .bool (decide (n < 0)), aJ aF (aQ DD d.natAbs), .bool (decide (d < 0))]
theorem b9 (q : Rat) : RR q = R2 q.num q.den := by
 have : decide ((q.den : Int) < 0) = false := decide_eq_false (by omega)
 show PV.ag (re q) = PV.ag _
 rw [this]; rfl
def hm (n d : Int) : List Int → Int × Int
 | [] => (0, 1)
 | a :: l => ((hm n d l).1 * n + a * (hm n d l).2, (hm n d l).2 * d)
def o0 (x : List Int) (n d : Int) : Int := (hm n d x).1.sign
theorem agZ {s k u : Nat} {n d : Int} (hn : sz 2 n ≤ u) (hd : sz 2 d ≤ u) (hu : 1 ≤ u) : ∀ {x : List Int}, Bd 2 s k x → sz 2 (hm n d x).1 ≤ s + x.length * (u + 1) ∧ sz 2 (hm n d x).2 ≤ x.length * u + 1
 | [], _ => ⟨by show sz 2 0 ≤ _; rw [show sz 2 0 = 0 by decide]; omega, by show sz 2 1 ≤ _; exact Nat.le_trans (cN (k := 1) (by decide) (by decide)) (by omega)⟩
 | a :: l, h => by
  obtain ⟨h1, h2⟩ := agZ hn hd hu (x := l) ⟨Nat.le_trans (by simp) h.len, fun c hc => h.sz c (by simp [hc])⟩
  have ha := h.sz a (by simp)
  have e : (a :: l).length * u = l.length * u + u := by rw [List.length_cons, Nat.add_mul]; omega
  have e' : (a :: l).length * (u + 1) = l.length * u + l.length + u + 1 := by rw [List.length_cons, Nat.add_mul, Nat.mul_add]; omega
  have e'' : l.length * (u + 1) = l.length * u + l.length := by rw [Nat.mul_add]; omega
  refine ⟨?_, ?_⟩
  ·have g1 := bS (b := 2) (by decide) h1 hn
   have g2 := bS (b := 2) (by decide) ha h2
   have := mQ (b := 2) (by decide) (Nat.le_trans g1 (Nat.le_max_left _ (s + (l.length * u + 1)))) (Nat.le_trans g2 (Nat.le_max_right (s + l.length * (u + 1) + u) _))
   refine Nat.le_trans this ?_
   rw [e', e'']
   omega
  ·have := bS (b := 2) (by decide) h2 hd
   rw [e]
   exact Nat.le_trans this (by omega)
theorem qW (p q p' q' : Int) (hp : sz 2 p ≤ YY) (hq : sz 2 q ≤ YY) (uL : sz 2 p' ≤ YY) (hq' : sz 2 q' ≤ YY) : aI env.P 27 [R2 p q, R2 p' q'] (.int .i64 (dC (p * q') (p' * q))) := by
 have zz : ∀ {x : Int}, sz 2 x ≤ YY → Z x := fun h => by simp only [Z, YY] at *; omega
 have s1 := bS (b := 2) (by decide) hp hq'
 have s2 := bS (b := 2) (by decide) uL hq
 have m1 := dO p q' (zz hp) (zz hq')
 have m2 := dO p' q (zz uL) (zz hq)
 have c1 := ZY (p * q') (p' * q) (by simp only [Z, YY] at *; omega) (by simp only [Z, YY] at *; omega)
 generalize dC (p * q') (p' * q) = r at *
 generalize p * q' = x1 at *
 generalize p' * q = x2 at *
 refine aB (E := env) (fun _ => 0) [(0, R2 p q), (1, R2 p' q')] Tryz.func27 rfl (by kernel_rfl) (by kernel_rfl) (show 2 ≤ 16 by decide) (by simp) ?_
 refine W.sr ?_; simp (disch := omega) [gw]; refine W.lx [2, 3] ?_; simp
 refine W.sd ?_
 simp (disch := omega) [gw]
 refine aA m1 ?_
 simp (disch := omega) [gw]
 refine aA m2 ?_
 simp (disch := omega) [gw]
 refine aA c1 ?_
 simp (disch := omega) [gw]
 refine W.lx [4] ?_; simp
 refine W.ret ?_
 simp [go]
theorem kF (p q : Rat) (hp : ZR YY p) (hq : ZR YY q) : aI env.P 27 [RR p, RR q] (.int .i64 (dC (p.num * q.den) (q.num * p.den))) := by
 rw [b9, b9]; exact qW _ _ _ _ hp.n hp.d hq.n hq.d
@[simp] theorem F4 : aQ DD 1 = [1] := by decide
theorem U3 (x : List Int) (hl : x.length < 9223372036854775808) : aI env.P 184 [PI x] (.bool true) := by
 refine aB (E := env) (fun _ => 0) [(0, PI x)] Tryz.func184 rfl (by kernel_rfl) (by kernel_rfl) (show 1 ≤ 29 by decide) (by simp) ?_
 refine W.sr ?_; simp (disch := omega) [gw]; refine W.lx [0] ?_; simp
 refine W.seq ?_
 refine W.sr ?_; simp (disch := omega) [gw]; refine W.lx [0, 5, 6] ?_; simp
 refine W.block ?_
 refine W.a9 (fun k σ => ∃ (i : Nat) (rows : Pm.Rows) (clk : Nat), σ = ⟨fa [(0, PI x), (5, .int .i64 x.length), (6, .int .i64 i)], rows, clk⟩ ∧ i + k = x.length) x.length ?_ ?_
 ·exact ⟨_, .refl, 0, _, _, rfl, by omega⟩
 rintro k _ ⟨i, rows, clk, rfl, hI⟩
 refine W.sr ?_; simp (disch := omega) [gw]; refine W.lx [0, 5, 6, 7] ?_; simp
 refine W.seq ?_
 refine W.cond ⟨_, rfl, fun h => ?_, fun h => ?_⟩
 ·have hi : i < x.length := by simp at h; omega
  refine W.skip ?_
  refine W.seq ?_
  refine W.block ?_
  refine W.sr ?_; simp (disch := omega) [gw]; refine W.lx [0, 3, 5, 6] ?_; simp
  refine W.sr ?_; simp (disch := omega) [gw, hi]; refine W.lx [0, 5, 6, 27] ?_; simp
  refine W.cond ⟨_, rfl, fun h => ?_, fun h => ?_⟩
  ·simp at h
   exact absurd rfl h
  ·refine W.skip ?_
   refine W.b8 (fun K hK => ?_); simp (disch := omega) [gw]
   refine hK _ ⟨k - 1, _, aC _ [0, 5, 6], by omega, i + 1, _, _, rfl, by omega⟩
 ·refine W.exit ?_; simp only [pX, if_true, if_false, reduceIte, Nat.reduceEqDiff]
  refine W.sr ?_; simp (disch := omega) [gw]; refine W.lx [2] ?_; simp
  refine W.ret ?_
  simp [go]
theorem qX {x : List Int} {n d : Int} {s k u : Nat} (hx : Bd 2 s k x) (hn : sz 2 n ≤ u) (hd : sz 2 d ≤ u) (hu : 1 ≤ u) (hk : k < 1099511627776) (hB : s + k * (u + 1) + u < YY) : aI env.P 107 [PI x, R2 n d] (.int .i64 (o0 x n d)) := by
 have hl := hx.len
 have hW := U3 x (by omega)
 have hO := mA 1 (by decide) (by decide)
 have zz : ∀ {x : Int}, sz 2 x ≤ YY → Z x := fun h => by simp only [Z, YY] at *; omega
 have hY : YY = 137438953472 := rfl
 have bd := fun i => agZ (s := s) (k := k) (x := x.drop i) hn hd hu ⟨by simp; omega, fun c hc => hx.sz c (List.mem_of_mem_drop hc)⟩
 have hle : ∀ i, (x.drop i).length * (u + 1) ≤ k * (u + 1) := fun i => Nat.mul_le_mul_right _ (by simp; omega)
 have aaN : ∀ i, (x.drop i).length * u ≤ (x.drop i).length * (u + 1) := fun i => Nat.mul_le_mul_left _ (by omega)
 have step : ∀ i, i < x.length → hm n d (x.drop i) = ((hm n d (x.drop (i + 1))).1 * n + nth x i * (hm n d (x.drop (i + 1))).2, (hm n d (x.drop (i + 1))).2 * d) := fun i hi => by
  rw [List.drop_eq_getElem_cons hi, cS hi]; rfl
 have N7 : hm n d (x.drop x.length) = (0, 1) := by rw [List.drop_length]; rfl
 have hS := DB (hm n d x).1
 have h0 : hm n d (x.drop 0) = hm n d x := rfl
 have hs : o0 x n d = (hm n d x).1.sign := rfl
 rw [hs]
 have M : ∀ i, i < x.length → aI env.P 94 [RI (hm n d (x.drop (i + 1))).1, RI n] (RI ((hm n d (x.drop (i + 1))).1 * n)) ∧ aI env.P 94 [RI (nth x i), RI (hm n d (x.drop (i + 1))).2] (RI (nth x i * (hm n d (x.drop (i + 1))).2)) ∧
   aI env.P 128 [RI ((hm n d (x.drop (i + 1))).1 * n), RI (nth x i * (hm n d (x.drop (i + 1))).2)] (RI (hm n d (x.drop i)).1) ∧ aI env.P 94 [RI (hm n d (x.drop (i + 1))).2, RI d] (RI (hm n d (x.drop i)).2) := fun i hi => by
  obtain ⟨b1, b2⟩ := bd (i + 1)
  have l1 := hle (i + 1)
  have l2 := aaN (i + 1)
  have ha := hx.sz _ (bQ hi)
  have g1 := bS (b := 2) (by decide) b1 hn
  have g2 := bS (b := 2) (by decide) ha b2
  have e := step i hi
  rw [e]
  exact ⟨dO _ _ (zz (by omega)) (zz (by omega)), dO _ _ (zz (by omega)) (zz (by omega)), zT _ _ (by simp only [Z]; omega) (by simp only [Z]; omega), dO _ _ (zz (by omega)) (zz (by omega))⟩
 clear bd hle aaN step
 generalize hm n d x = r0 at *
 refine aB (E := env) (fun _ => 0) [(0, PI x), (1, R2 n d)] Tryz.func107 rfl (by kernel_rfl) (by kernel_rfl) (show 2 ≤ 42 by decide) (by simp) ?_
 refine W.sr ?_; simp (disch := omega) [gw]; refine W.lx [0, 3] ?_; simp
 refine W.seq ?_
 refine W.sr ?_
 simp (disch := omega) [gw]
 refine aA hW ?_
 simp (disch := omega) [gw]
 refine W.lx [0, 3, 10] ?_; simp
 refine W.cond ⟨_, rfl, fun h => ?_, fun h => ?_⟩
 ·simp at h
 refine W.skip ?_
 refine W.sr ?_; simp (disch := omega) [gw]; refine W.lx [0, 3, 5] ?_; simp
 refine W.sr ?_
 simp (disch := omega) [gw]
 refine aA hO ?_
 simp (disch := omega) [gw]
 refine W.lx [0, 3, 5, 6] ?_; simp
 refine W.seq ?_
 refine W.sr ?_; simp (disch := omega) [gw]; refine W.lx [0, 3, 5, 6, 7] ?_; simp
 refine W.row (id := 5) (els := [[.nil, .bool false]]) [[aJ aF (aQ DD (0 : Int).natAbs), .bool (decide ((0 : Int) < 0))]] (by simp; first | exact ⟨rfl, rfl, rfl⟩ | exact ⟨rfl, rfl⟩ | rfl) ⟨⟨.inr ⟨rfl, rfl⟩, .inl rfl, trivial⟩, trivial⟩ ?_
 refine W.block ?_
 refine W.a9 (fun k σ => ∃ (v3 v5 v6 e3 e5 e6 : Nat) (rows : Pm.Rows) (clk : Nat), σ = ⟨fa [(0, PI x), (3, .ptr 3 v3 0 0), (5, .ptr 5 v5 0 0), (6, .ptr 6 v6 0 0), (7, .int .i64 ((k : Int) - 1))], rows, clk⟩ ∧ k ≤ x.length ∧
  rows 3 = some ⟨v3, e3, 4, [[aJ aF (aQ DD n.natAbs), .bool (decide (n < 0)), aJ aF (aQ DD d.natAbs), .bool (decide (d < 0))]]⟩ ∧
  rows 5 = some ⟨v5, e5, 2, [[aJ aF (aQ DD (hm n d (x.drop k)).1.natAbs), .bool (decide ((hm n d (x.drop k)).1 < 0))]]⟩ ∧
  rows 6 = some ⟨v6, e6, 2, [[aJ aF (aQ DD (hm n d (x.drop k)).2.natAbs), .bool (decide ((hm n d (x.drop k)).2 < 0))]]⟩) x.length ?_ ?_
 ·exact ⟨_, .refl, _, _, _, _, _, _, _, _, rfl, Nat.le_refl _, by simp; (first | exact ⟨rfl, rfl, rfl⟩ | exact ⟨rfl, rfl⟩ | rfl), by rw [N7]; simp; (first | exact ⟨rfl, rfl, rfl⟩ | exact ⟨rfl, rfl⟩ | rfl), by rw [N7]; simp; (first | exact ⟨rfl, rfl, rfl⟩ | exact ⟨rfl, rfl⟩ | rfl)⟩
 rintro k _ ⟨v3, v5, v6, e3, e5, e6, rows, clk, rfl, hkl, fQ, mB, tV⟩
 refine W.seq ?_
 refine W.sr ?_; simp (disch := omega) [gw]; refine W.lx [0, 3, 5, 6, 7, 21] ?_; simp
 refine W.cond ⟨_, rfl, fun h => ?_, fun h => ?_⟩
 ·have wL : 0 < k := by simp at h; omega
  obtain ⟨k, rfl⟩ : ∃ j, k = j + 1 := ⟨k - 1, by omega⟩
  obtain ⟨m1, m2, m3, m4⟩ := M k (by omega)
  generalize hm n d (x.drop (k + 1)) = A at *
  have e1 : (((k + 1 : Nat) : Int) - 1).toNat = k := by omega
  refine W.skip ?_
  refine W.seq ?_
  refine W.block ?_
  refine W.sd ?_
  simp (disch := omega) [gw, fQ, mB, tV]
  refine aA m1 ?_
  simp (disch := omega) [gw, e1]
  try simp (disch := omega) [gw, e1, tV]
  refine aA m2 ?_
  simp (disch := omega) [gw]
  refine aA m3 ?_
  simp (disch := omega) [gw, mB]
  try (refine bN (by kernel_rfl) ?_)
  try simp (disch := omega) [gw, mB]
  refine W.lx [0, 3, 5, 6, 7] ?_; simp
  refine W.b8 (fun K hK => ?_)
  simp (disch := omega) [gw, fQ, tV]
  refine aA m4 ?_
  simp (disch := omega) [gw, tV]
  refine W.lw [0, 3, 5, 6, 7] hK ?_; clear hK K; simp
  refine W.b8 (fun K hK => ?_); simp (disch := omega) [gw]
  refine hK _ ⟨k, _, aC _ [0, 3, 5, 6, 7], by omega, v3, v5, v6, _, _, _, _, _, rfl, by omega, by simp [fQ]; exact rfl, by simp; exact rfl, by simp; exact rfl⟩
 ·have wL : k = 0 := by simp at h; omega
  subst wL
  rw [h0] at mB
  refine W.exit ?_; simp only [pX, if_true, if_false, reduceIte, Nat.reduceEqDiff]
  refine W.sr ?_
  simp (disch := omega) [gw, mB]
  refine aA hS ?_
  simp (disch := omega) [gw]
  refine W.lx [4] ?_; simp
  refine W.ret ?_
  simp [go]
end Go.Proofs.YtbbjgncblhfegaaGreat
namespace Go.Proofs.YtbbjgncblhfegaaGreat
open Go Pm
open ZX hiding N W
theorem aaO {y : List Int} (cy : Cn y) (hy : 0 < y.length) : ∀ (n : Nat) (x : List Int), Cn x → x.length < n → ∃ (m : Int) (q : List Int), 0 < m ∧ ∀ t, m * V t x = V t q * V t y + V t (rq y n x)
 | 0, x, _, h => by omega
 | n + 1, x, cx, h => by
  rw [rq]
  split
  ·exact ⟨1, [], by decide, fun t => by simp [V]⟩
  ·rename_i h1
   have hl := qU hy (show y.length ≤ x.length by omega)
   obtain ⟨m, q, hm, h4⟩ := aaO cy hy n (RC y x) (Cn.dY _ _) (by omega)
   have uN := cD cy hy
   refine ⟨m * (lead y).natAbs, fZ q (aV (oT (x.length - y.length) (uV (lead y) * lead x)) m), Int.mul_pos hm (by omega), fun t => ?_⟩
   have h5 := aaL t y x
   have h6 := h4 t
   rw [pM, bV, l9]
   have : m * ((lead y).natAbs : Int) * V t x = m * (((lead y).natAbs : Int) * V t x) := by grind
   rw [this, h5]
   grind
theorem aaP {x y s q : List Int} {D : Int} (cx : Cn x) (cy : Cn y) (hy : 0 < y.length) (cs : Cn s) (hs : s.length < y.length) (hD : 0 < D) (hv : ∀ t, D * V t x = V t q * V t y + V t s) : JN x y = iX s := by
 have hV := fun t => YX t x y
 have hl := FC (a := x) hy
 obtain ⟨c1, c2⟩ := zD (b := y) cx
 rw [Z8 cx]
 have uN := cD cy hy
 have tI : lead y ^ iH x y ≠ 0 := Int.pow_ne_zero uN
 have hsg := Z6 (lead y) (iH x y)
 have hsq := Z7 (lead y) (iH x y)
 generalize sg (lead y) (iH x y) = g at *
 generalize (wI x y).1 = p at *
 generalize (wI x y).2 = r at *
 generalize hc : lead y ^ iH x y = c at *
 have hm : 0 < ((lead y).natAbs : Int) ^ iH x y := Int.pow_pos (by omega)
 generalize ((lead y).natAbs : Int) ^ iH x y = m at *
 have e : ∀ t, V t (dY (s.map (· * c)) (r.map (· * D))) = V t y * V t (dY (p.map (· * D)) (q.map (· * c))) := fun t => by
  have h1 := hv t
  have h2 := hV t
  rw [gR, gR, c8, c8, c8, c8]
  have h3 : c * (D * V t x) = c * (V t q * V t y + V t s) := by rw [h1]
  have h4 : D * (V t p * V t y + V t r) = D * (c * V t x) := by rw [h2]
  grind
 have h1 := C4 (Cn.dY _ _) cy hy e (by
  have := tE (s.map (· * c)) (r.map (· * D))
  simp only [List.length_map] at this
  omega)
 have uU : D ≠ 0 := by omega
 have e1 : s.map (· * c) = r.map (· * D) := Cn.ext (jZ cs tI) (jZ c2 uU) fun t => JV (by rw [h1]; rfl) t
 rw [← wP cs hm, ← wP (Cn.aV r g) hD]
 congr 1
 refine Cn.ext (Cn.aV _ _) (Cn.aV _ _) fun t => ?_
 have e2 : V t s * c = V t r * D := by rw [← c8, e1, c8]
 rw [bV, bV, bV]
 have h5 : m = g * c := by rw [hsg]; grind
 rw [h5]
 have : V t s * (g * c) = g * (V t s * c) := by grind
 rw [this, e2]; grind
def oS (a : ZX) : ZX := ⟨iX a.l, Cn.cut _⟩
def nx (a b : ZX) : ZX := ⟨fJ (iX (rz a b).l), Cn.fJ _⟩
theorem U4 {a b : ZX} (hb : b ≠ 0) : ZX.N (nx a b) < ZX.N b := by
 obtain ⟨_, hN, _⟩ := qV (a := a) hb
 have h1 := JQ (iX (rz a b).l)
 have h2 := kE (rz a b).l
 have h3 : ZX.N (nx a b) = (fJ (iX (rz a b).l)).length := rfl
 have h4 : ZX.N (rz a b) = (rz a b).l.length := rfl
 omega
theorem RG {s n : Nat} {a b : ZX} (ha : BZ s n a) (hb : BZ s n b) (h0 : b ≠ 0) : BZ (s + (ZX.N a + 1 - ZX.N b) * (s + n + 1)) n (nx a b) := Bd.fJ (iC (RF ha hb h0))
def sL : Nat → ZX → ZX → List ZX
 | 0, _, _ => []
 | k + 1, a, b => if ZX.N b = 0 then [] else b :: sL k b (nx a b)
theorem jG (k : Nat) (a : ZX) : sL k a 0 = [] := by cases k <;> simp [sL, show ZX.N 0 = 0 by decide]
theorem AM : ∀ {k j : Nat} {a b : ZX}, ZX.N b ≤ k → ZX.N b ≤ j → sL k a b = sL j a b
 | 0, j, a, b, h, _ => by
  have : b = 0 := Classical.byContradiction fun h0 => by have := ZX.aD.1 h0; omega
  rw [this, jG, jG]
 | k + 1, 0, a, b, _, h => by
  have : b = 0 := Classical.byContradiction fun h0 => by have := ZX.aD.1 h0; omega
  rw [this, jG, jG]
 | k + 1, j + 1, a, b, h1, h2 => by
  rw [sL, sL]
  split
  ·rfl
  ·rename_i h0
   have := U4 (a := a) (ZX.aD.2 (Nat.pos_of_ne_zero h0))
   rw [AM (k := k) (j := j) (by omega) (by omega)]
def bC (f : ZX) : List ZX := f :: sL (ZX.N f) f (oS (bK f))
theorem aj1 (x : List Int) : PP (qd x 1) = PI x := by rw [FQ]; show PV.sl (emap re (qs x)) = PV.sl (emap ri x); rw [z6]
theorem wY {s n : Nat} {a : ZX} (b : BZ s n a) (qO : 1 ≤ s) (hs : s ≤ YY) (hn : n < 1099511627776) : aI env.P 124 [PI a.l] (PI (oS a).l) := by
 have := JS a.l 1 (by decide) b (by exact Nat.le_trans (cN (k := 1) (by decide) (by decide)) qO) a.c qO hs hn
 rw [show ((1 : Nat) : Int) = 1 from rfl, aj1] at this
 exact this
structure Ch (s n : Nat) (f : ZX) : Prop where
 bz : BZ s n f
 hn : n ≤ 20
 uB : 1 ≤ n
 hC : (s + 5 + n + 1) * 4 ^ n ≤ 4500000000
theorem Ch.pot {s n : Nat} {f : ZX} (h : Ch s n f) : xU 4500000000 n (s + 5) f (oS (bK f)) := by
 have h1 := kN f
 have h2 : ZX.N (oS (bK f)) ≤ ZX.N (bK f) := kE _
 have h3 := h.bz.N
 have hn := h.uB
 unfold xU
 split
 ·exact Nat.le_trans (Nat.mul_le_mul_left _ (Nat.pow_le_pow_right (by decide) h3)) h.hC
 ·have h4 : ZX.N (oS (bK f)) = 0 := by omega
  have h5 := h.hC
  rw [h4, Nat.pow_zero, Nat.mul_one]
  exact Nat.le_trans (Nat.mul_le_mul_left _ (show 2 ≤ 4 ^ n from Nat.le_trans (by decide) (Nat.pow_le_pow_right (n := 4) (by decide) hn))) h5
theorem aaQ {l : List ZX} {a : ZX} {i : Nat} (h : i < l.length) : nth (l ++ [a]) i = nth l i := by
 simp only [nth, List.getElem?_append_left h]
theorem wZ {s n : Nat} {a f : ZX} (hS : aI env.P 26 [PI a.l] (PI f.l)) (h : Ch s n f) (h1 : 1 ≤ s) : aI env.P 57 [PI a.l] (aJ zq (bC f)) := by
 have hn := h.hn
 have hp := h.pot
 have hs := hp.le
 have bd : BZ (s + 5) n (bK f) := h.bz.bK (by omega)
 have d1 := oB h.bz (by show s ≤ 137438953472; omega) (by omega)
 have d2 := wY bd (by omega) (by show s + 5 ≤ 137438953472; omega) (by omega)
 have b2 : BZ (s + 5) n (oS (bK f)) := iC bd
 have b1 : BZ (s + 5) n f := h.bz.mono (by omega) (Nat.le_refl _)
 have JM : ZX.N (oS (bK f)) ≤ ZX.N f := Nat.le_trans (kE _) (Nat.le_trans (kN f) (by omega))
 have hc : bC f = f :: sL (ZX.N f) f (oS (bK f)) := rfl
 rw [AM JM (Nat.le_refl _)] at hc
 generalize hC : bC f = C at *
 generalize oS (bK f) = g0 at *
 generalize (bK f).l = dl at *
 have QL : f.l = f.l := rfl
 refine aB (E := env) (fun _ => 0) [(0, PI a.l)] Tryz.func57 rfl (by kernel_rfl) (by kernel_rfl) (show 1 ≤ 31 by decide) (by simp) ?_
 refine W.sr ?_; simp (disch := omega) [gw]; refine W.lx [0] ?_; simp
 refine W.sr ?_
 simp (disch := omega) [gw]
 refine aA hS ?_
 simp (disch := omega) [gw]
 refine W.lx [3] ?_; simp
 refine W.aaM 1 rfl rfl (fun K hK => ?_)
 simp (disch := omega) [gw]
 refine W.lw [3, 4] hK ?_; clear hK K; simp
 refine W.sr ?_
 simp (disch := omega) [gw]
 refine aA d1 ?_
 simp (disch := omega) [gw]
 refine aA d2 ?_
 simp (disch := omega) [gw]
 refine W.lx [4, 5] ?_; simp
 refine W.seq ?_
 refine W.block ?_
 refine W.a9 (fun k σ => ∃ (L : List ZX) (x g : ZX) (i ver s : Nat) (rows : Pm.Rows) (clk : Nat), σ = ⟨fa [(4, .own 9 ver 0 (i + 1)), (5, PI g.l)], rows, clk⟩ ∧ rows 9 = some ⟨ver, 24, 1, emap zq L⟩ ∧ L.length = i + 1 ∧ nth L i = x ∧
  L ++ sL k x g = C ∧ k = ZX.N g ∧ BZ s n x ∧ BZ s n g ∧ 1 ≤ s ∧ xU 4500000000 n s x g ∧ i + ZX.N g ≤ 20) (ZX.N g0) ?_ ?_
 ·exact ⟨_, .refl, [f], f, g0, 0, _, s + 5, _, _, rfl, by simp [emap], rfl, rfl, hc.symm, rfl, b1, b2, by omega, hp, by have := b2.N; omega⟩
 rintro k _ ⟨L, x, g, i, ver, s, rows, clk, rfl, hr, hL, hx, NW, rfl, bx, bg, h1, hp, hiN⟩
 have hs := hp.le
 have hlx := bx.len
 have hlg := bg.len
 have hLl : (emap zq L).length = i + 1 := by simp [emap, hL]
 refine W.seq ?_
 refine W.sr ?_; simp (disch := omega) [gw]; refine W.lx [4, 5, 15] ?_; simp
 refine W.cond ⟨_, rfl, fun h => ?_, fun h => ?_⟩
 ·have hg : g ≠ 0 := ZX.aD.2 (by show 0 < g.l.length; simp at h; omega)
  obtain ⟨TY, hN, _⟩ := qV (a := x) hg
  have br := RF bx bg hg
  have hmul : (x.l.length + 1 - g.l.length + 1) * (s + n + 1) ≤ 22 * 4500000000 := Nat.mul_le_mul (by omega) (by omega)
  have agY : (ZX.N x + 1 - ZX.N g) * (s + n + 1) ≤ 22 * 4500000000 := Nat.mul_le_mul (by have : ZX.N x = x.l.length := rfl; omega) (by omega)
  have hR := DT (s := s) (s' := s) (N := n) bx bg x.c g.c (ZX.aD.1 hg) (by omega) (by show _ < 137438953472; omega)
  rw [← TY] at hR
  have hZ := wY br (by omega) (by show _ ≤ 137438953472; omega) (by omega)
  have hNg := DH (oS (rz x g)).l ((iC br).mono (by show _ ≤ 137438953472; omega) (by omega))
  have e3 : fJ (oS (rz x g)).l = (nx x g).l := rfl
  rw [e3] at hNg
  have JM := U4 (a := x) hg
  have hp2 := hp.step JM
  have bn := RG bx bg hg
  have hi : i < L.length := by omega
  have hx2 : nth (L ++ [g]) i = x := by rw [aaQ hi]; exact hx
  have apJ : i < (L ++ [g]).length := by simp; omega
  have hch : L ++ [g] ++ sL (ZX.N (nx x g)) g (nx x g) = C := by
   rw [← NW]
   obtain ⟨j, hj⟩ : ∃ j, ZX.N g = j + 1 := ⟨ZX.N g - 1, by have := ZX.aD.1 hg; have : ZX.N g = g.l.length := rfl; omega⟩
   rw [hj, sL, if_neg (by omega), AM (k := j) (j := ZX.N (nx x g)) (by omega) (Nat.le_refl _)]
   simp
  generalize (rz x g).l = rl at *
  generalize (oS (rz x g)).l = pl at *
  generalize hnx : nx x g = nn at *
  have hnl : nn.l = nn.l := rfl
  refine W.skip ?_
  refine W.block ?_
  refine W.sr ?_
  simp (disch := omega) [gw, hr, hLl]
  refine W.lx [4, 5] ?_; simp
  have e1 : ((i : Int) + 1 + 1 - 2).toNat = i := by omega
  refine W.b8 (fun K hK => ?_)
  simp (disch := omega) [gw, e1, apJ, hx2]
  refine aA hR ?_
  simp (disch := omega) [gw]
  refine aA hZ ?_
  simp (disch := omega) [gw]
  refine aA hNg ?_
  simp (disch := omega) [gw]
  refine hK _ ⟨ZX.N nn, _, aC _ [4, 5], JM, L ++ [g], g, nn, i + 1, _, _, _, _, rfl, by simp, by simp [hL], ?_, hch, rfl, bg.mono (by omega) (Nat.le_refl _), bn, by omega, hp2, by omega⟩
  rw [cS (by simp; omega)]
  simp [← hL]
 ·have hg : g = 0 := by
   refine Classical.byContradiction fun h0 => ?_
   have h1 := ZX.aD.1 h0
   have h2 : ZX.N g = g.l.length := rfl
   simp at h; rw [h2, h] at h1; simp at h1
  subst hg
  rw [jG, List.append_nil] at NW
  subst NW
  have uR : List.take (i + 1) L = L := List.take_of_length_le (by omega)
  refine W.exit ?_; simp only [pX, if_true, if_false, reduceIte, Nat.reduceEqDiff]
  refine W.sr ?_; simp (disch := omega) [gw]; refine W.lx [2] ?_; simp
  refine W.ret ?_
  simp [go, hr, hLl, uR]
end Go.Proofs.YtbbjgncblhfegaaGreat
