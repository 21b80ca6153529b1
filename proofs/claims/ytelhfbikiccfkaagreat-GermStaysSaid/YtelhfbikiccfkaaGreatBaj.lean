import Derived.Test.YtelhfbikiccfkaaGreatBaf
import Derived.Test.YtelhfbikiccfkaaGreatBai
set_option linter.unusedSimpArgs false
set_option linter.unusedVariables false
namespace Go.Proofs.YtelhfbikiccfkaaGreat
open Go Pm
theorem abr {t : Int} (h0 : 0 < t) (h1 : t < 4294967296) : ∃ s : Nat, s ≤ 31 ∧ (32 : Int) - nb t.toNat = s ∧ 2147483648 ≤ t * 2 ^ s ∧ (t + 1) * 2 ^ s ≤ 4294967296 := by
 have h2 : nb t.toNat ≤ 32 := nG.2 (by omega)
 have h3 : 1 ≤ nb t.toNat := by
  rcases Nat.eq_zero_or_pos (nb t.toNat) with h | h
  ·have := nG.1 (Nat.le_of_eq h); omega
  ·exact h
 obtain ⟨k, hk⟩ : ∃ k, nb t.toNat = k + 1 := ⟨nb t.toNat - 1, by omega⟩
 have h4 : t.toNat < 2 ^ (k + 1) := nG.1 (Nat.le_of_eq hk)
 have h5 : 2 ^ k ≤ t.toNat := by
  rcases Nat.lt_or_ge t.toNat (2 ^ k) with h | h
  ·have := nG.2 h; omega
  ·exact h
 have e1 : (2 : Int) ^ (k + 1) * 2 ^ (31 - k) = 4294967296 := by rw [← Int.pow_add, show k + 1 + (31 - k) = 32 by omega]; rfl
 have e2 : (2 : Int) ^ k * 2 ^ (31 - k) = 2147483648 := by rw [← Int.pow_add, show k + (31 - k) = 31 by omega]; rfl
 have hp : (0 : Int) < 2 ^ (31 - k) := Int.pow_pos (by decide)
 have q1 : ((2 ^ k : Nat) : Int) = (2 : Int) ^ k := Int.natCast_pow 2 k
 have q2 : ((2 ^ (k + 1) : Nat) : Int) = (2 : Int) ^ (k + 1) := Int.natCast_pow 2 (k + 1)
 refine ⟨31 - k, by omega, by omega, ?_, ?_⟩
 ·have := Int.mul_le_mul_of_nonneg_right (show (2 : Int) ^ k ≤ t by omega) (Int.le_of_lt hp)
  omega
 ·have := Int.mul_le_mul_of_nonneg_right (show t + 1 ≤ (2 : Int) ^ (k + 1) by omega) (Int.le_of_lt hp)
  omega
theorem WY {y : List Int} (hc : aN y = y) (h : y ≠ []) : nth y (y.length - 1) ≠ 0 := by
 intro h0
 have hl : 0 < y.length := List.length_pos_iff.2 h
 have e : y = y.take (y.length - 1) ++ [0] := by
  have := bA (l := y) (i := y.length - 1) (by omega)
  rw [h0, show y.length - 1 + 1 = y.length by omega, List.take_length] at this
  exact this
 have h1 := jB (y.take (y.length - 1))
 rw [← e, hc] at h1
 have h2 := bP (y.take (y.length - 1))
 rw [← h1, List.length_take] at h2
 omega
theorem abt : N 0 = us [] := rfl
theorem abu {m i : Nat} {X D : List Int} {Y g : Int} (lX : cR 4294967296 X) (lD : cR 4294967296 D) (hYb : Y < 4294967296 ^ (m + 2)) (hY0 : 0 < Y) (tV : i + m + 3 ≤ X.length) (hDl : D.length = (X.drop i).length) (hDd : D.drop (m + 3) = (X.drop i).drop (m + 3))
  (hg : g = V 4294967296 ((X.drop i).take (m + 3)) / Y) (hDv : V 4294967296 (D.take (m + 3)) = V 4294967296 ((X.drop i).take (m + 3)) % Y) (cW : V 4294967296 (X.drop (i + 1)) < Y) :
  V 4294967296 ((X.take i ++ D).drop i) < Y ∧ V 4294967296 (X.take i ++ D) = V 4294967296 X - 4294967296 ^ i * (g * Y) := by
 have hl : (X.take i).length = i := by simp; omega
 have e1 : (X.take i ++ D).drop i = D := by rw [List.drop_append, hl, List.drop_of_length_le (by omega)]; simp
 have hD3 := jV (b := 4294967296) D (m + 3) (by rw [hDl]; simp; omega)
 have hX3 := jV (b := 4294967296) (X.drop i) (m + 3) (by simp; omega)
 have hXi := jV (b := 4294967296) X i (by omega)
 have hz : V 4294967296 ((X.drop i).drop (m + 3)) = 0 := by
  have h1 := jV (b := 4294967296) (X.drop (i + 1)) (m + 2) (by simp; omega)
  have h2 : (X.drop (i + 1)).drop (m + 2) = (X.drop i).drop (m + 3) := by
   rw [List.drop_drop, List.drop_drop]; congr 1; omega
  have h3 := bN (b := 4294967296) (by decide) ((lX.drop (i + 1)).take (m + 2))
  have h4 := bN (b := 4294967296) (by decide) ((lX.drop i).drop (m + 3))
  rw [h2] at h1
  rcases Int.lt_or_le 0 (V 4294967296 ((X.drop i).drop (m + 3))) with h5 | h5
  ·exfalso
   have := Int.mul_le_mul_of_nonneg_left (show 1 ≤ V 4294967296 ((X.drop i).drop (m + 3)) by omega) (show 0 ≤ (4294967296 : Int) ^ (m + 2) by omega)
   omega
  ·omega
 rw [hDd, hz, Int.mul_zero, Int.add_zero] at hD3
 rw [hz, Int.mul_zero, Int.add_zero] at hX3
 have hm := Int.emod_lt_of_pos (V 4294967296 ((X.drop i).take (m + 3))) hY0
 have WS := Int.mul_ediv_add_emod (V 4294967296 ((X.drop i).take (m + 3))) Y
 rw [← hg, ← hDv, ← hX3, ← hD3] at WS
 refine ⟨by rw [e1, hD3, hDv]; exact hm, ?_⟩
 rw [dU, hl, hXi, ← WS]
 grind
theorem LM (a b : List Int) (ha : rX a) (hb : rX b) (h0 : V 4294967296 b = 0) : aG env.P 256 [us a, us b] (.fH [us [], us [], .int .i64 2]) := by
 have hlb := hb.len
 have P7 := ha.len
 have hcb := bP b
 have hy : aN b = [] := by rw [qO fY hb.yP]; show aS LL (V 4294967296 b).toNat = []; rw [h0]; rfl
 refine bV [(0, us a), (1, us b)] Tryz.func256 ?_
 refine aA [0, 1] ?_
 refine iU ?_
 refine aD (dI a (by omega)) ?_
 simp (disch := omega) [gw]
 refine aD (dI b (by omega)) ?_
 simp (disch := omega) [gw]
 refine bH [0, 1] ?_
 rw [hy]
 refine W.seq ?_
 refine W.block ?_
 refine aA [0, 1, 18] ?_
 refine bE ?_ ?_ <;> intro h
 ·refine aA [4, 5, 6] ?_
  refine W.ret ?_
  simp [go]
  rfl
 ·cases h
theorem B5 (a b : List Int) (ha : rX a) (hb : rX b) (h0 : V 4294967296 b ≠ 0) (P7 : a.length < 1099511627774) (hlb : b.length < 1099511627774) :
  aG env.P 256 [us a, us b] (.fH [N (V 4294967296 a / V 4294967296 b), N (V 4294967296 a % V 4294967296 b), .int .i64 0]) := by
 have hca := bP a
 have hcb := bP b
 have hVa := cV (b := 4294967296) a
 have hVb := cV (b := 4294967296) b
 have lx := eA ha.yP
 have ly := eA hb.yP
 have cx := eC a
 have cy := eC b
 rw [← hVa, ← hVb]
 rw [← hVb] at h0
 refine bV [(0, us a), (1, us b)] Tryz.func256 ?_
 refine aA [0, 1] ?_
 refine iU ?_
 refine aD (dI a (by omega)) ?_
 simp (disch := omega) [gw]
 refine aD (dI b (by omega)) ?_
 simp (disch := omega) [gw]
 refine bH [0, 1] ?_
 have hxl : (aN a).length < 1099511627774 := by omega
 have N8 : (aN b).length < 1099511627774 := by omega
 clear hVa hVb hca hcb
 generalize aN a = x at *
 generalize aN b = y at *
 have hyn : y ≠ [] := fun h => h0 (by rw [h]; rfl)
 have hyp : 0 < y.length := List.length_pos_iff.2 hyn
 have hY0 : 0 < V 4294967296 y := by have := bN (b := 4294967296) (by decide) ly; omega
 have hX0 := bN (b := 4294967296) (by decide) lx
 refine W.seq ?_
 refine W.block ?_
 refine aA [0, 1, 18] ?_
 refine bE ?_ ?_ <;> intro h
 ·exfalso; simp at h; exact hyn h
 clear h
 refine aA [0, 1, 22] ?_
 refine bE ?_ ?_ <;> intro h
 ·have h : x.length < y.length := by simp at h; omega
  have tM := jD (b := 4294967296) (by decide) lx ly cy h
  rw [Int.ediv_eq_zero_of_lt hX0 tM, Int.emod_eq_of_lt hX0 tM]
  refine iU ?_
  refine aD (mO x (by omega) lx) ?_
  simp (disch := omega) [gw]
  refine bH [4, 5, 6] ?_
  refine W.ret ?_
  simp [go]
  rfl
 have tM : y.length ≤ x.length := by simp at h; omega
 clear h
 refine aA [0, 1, 30] ?_
 refine bE ?_ ?_ <;> intro h
 ·have h : y.length = 1 := by simp at h; omega
  obtain ⟨w, rfl⟩ : ∃ w, y = [w] := match y, h with | [w], _ => ⟨w, rfl⟩
  have hw := (cR.cons.1 ly).1
  have hV1 : V 4294967296 [w] = w := nB
  rw [hV1] at h0 hY0 ⊢
  have N4 := Int.emod_nonneg (V 4294967296 x) h0
  have FO := Int.emod_lt_of_pos (V 4294967296 x) hY0
  have iR := afv x w (by omega) lx hY0 hw.2
  have lr : cR 4294967296 [V 4294967296 x % w] := cR.cons.2 ⟨⟨N4, by omega⟩, cR.nil⟩
  have mW := dI [V 4294967296 x % w] (by simp)
  rw [vG lr, nB] at mW
  have hnw : nth [w] 0 = w := rfl
  generalize V 4294967296 x / w = qq at *
  generalize V 4294967296 x % w = rr at *
  refine W.sr ?_
  simp (disch := omega) [gw, hnw]
  refine cI [7, 8] iR ?_
  refine aK [4, 5, 6] mW ?_
  exact bT
 have hy2 : 2 ≤ y.length := by simp at h; omega
 clear h
 obtain ⟨m, hm⟩ : ∃ m, y.length = m + 2 := ⟨y.length - 2, by omega⟩
 have htn := WY cy hyn
 rw [show y.length - 1 = m + 1 by omega] at htn
 have htl := ly.nth (i := m + 1) (by omega)
 obtain ⟨s, afD, hsn, p7, hs2⟩ := abr (t := nth y (m + 1)) (by omega) htl.2
 have hLZ := ala (nth y (m + 1)) htl.1 htl.2
 rw [hsn] at hLZ
 have hp : (0 : Int) < 2 ^ s := Int.pow_pos (by decide)
 have arh : (2 : Int) ^ s ≤ 2147483648 := by
  have := Int.ofNat_le.2 (Nat.pow_le_pow_right (show 0 < 2 by decide) afD)
  simpa using this
 have hbm : (0 : Int) < 4294967296 ^ (m + 1) := Int.pow_pos (by decide)
 have aln := o6 (b := 4294967296) (by decide) lx
 have hVy := jV (b := 4294967296) y (m + 1) (by omega)
 have hy1 : V 4294967296 (y.drop (m + 1)) = nth y (m + 1) := by rw [fE (by omega), List.drop_of_length_le (by omega), nB]
 rw [hy1] at hVy
 have awi := bN (b := 4294967296) (by decide) (ly.take (m + 1))
 have hy3 := o6 (b := 4294967296) (by decide) (ly.take (m + 1))
 rw [List.length_take, Nat.min_eq_left (by omega)] at hy3
 have hyU : V 4294967296 y * 2 ^ s < 4294967296 ^ (m + 2) := by
  have h1 : V 4294967296 y < (nth y (m + 1) + 1) * 4294967296 ^ (m + 1) := by rw [hVy]; grind
  have h2 := Int.mul_lt_mul_of_pos_right h1 hp
  have h3 := Int.mul_le_mul_of_nonneg_right hs2 (Int.le_of_lt hbm)
  have e : (nth y (m + 1) + 1) * 4294967296 ^ (m + 1) * 2 ^ s = (nth y (m + 1) + 1) * 2 ^ s * 4294967296 ^ (m + 1) := by grind
  rw [show m + 2 = (m + 1) + 1 from rfl, Int.pow_succ]
  omega
 have hyL : 2147483648 * 4294967296 ^ (m + 1) ≤ V 4294967296 y * 2 ^ s := by
  have h1 : nth y (m + 1) * 4294967296 ^ (m + 1) ≤ V 4294967296 y := by rw [hVy, Int.mul_comm]; omega
  have h2 := Int.mul_le_mul_of_nonneg_right h1 (Int.le_of_lt hp)
  have h3 := Int.mul_le_mul_of_nonneg_right p7 (Int.le_of_lt hbm)
  have e : nth y (m + 1) * 4294967296 ^ (m + 1) * 2 ^ s = nth y (m + 1) * 2 ^ s * 4294967296 ^ (m + 1) := by grind
  omega
 have hxU : V 4294967296 x * 2 ^ s < 4294967296 ^ (x.length + 1) := by
  rw [Int.pow_succ]
  exact Int.lt_of_lt_of_le (Int.mul_lt_mul_of_pos_right aln hp) (Int.mul_le_mul_of_nonneg_left (by omega) (Int.le_of_lt (Int.pow_pos (by decide))))
 obtain ⟨x', hwx, aA8, lx', alq⟩ := LK x s (x.length + 1) afD (by omega) lx (by omega) (by omega) hxU
 obtain ⟨y', hwy, ari, ly', WZ⟩ := LK y s (m + 2) afD (by omega) ly (by omega) (by omega) hyU
 have awk : 2147483648 ≤ nth y' (m + 1) := by
  have h1 := jV (b := 4294967296) y' (m + 1) (by omega)
  have h2 : V 4294967296 (y'.drop (m + 1)) = nth y' (m + 1) := by rw [fE (by omega), List.drop_of_length_le (by omega), nB]
  have h3 := o6 (b := 4294967296) (by decide) (ly'.take (m + 1))
  rw [List.length_take, Nat.min_eq_left (by omega)] at h3
  rw [h2, WZ] at h1
  rcases Int.lt_or_le (nth y' (m + 1)) 2147483648 with h4 | h4
  ·exfalso
   have := Int.mul_le_mul_of_nonneg_left (show nth y' (m + 1) + 1 ≤ 2147483648 by omega) (Int.le_of_lt hbm)
   rw [Int.mul_add, Int.mul_comm _ 2147483648] at this
   omega
  ·exact h4
 have afE : 0 < V 4294967296 y' := by rw [WZ]; exact Int.mul_pos hY0 hp
 have awl : V 4294967296 y' < 4294967296 ^ (m + 2) := by rw [WZ]; exact hyU
 have hxm : m + 2 ≤ x.length := by omega
 have hqx : V 4294967296 x / V 4294967296 y = V 4294967296 x' / V 4294967296 y' := by rw [alq, WZ, Int.mul_ediv_mul_of_pos_left _ _ hp]
 have hrx : V 4294967296 x % V 4294967296 y = V 4294967296 x' % V 4294967296 y' / 2 ^ s := by
  rw [alq, WZ]
  have e1 := Int.emod_def (V 4294967296 x * 2 ^ s) (V 4294967296 y * 2 ^ s)
  rw [Int.mul_ediv_mul_of_pos_left _ _ hp] at e1
  have e2 := Int.emod_def (V 4294967296 x) (V 4294967296 y)
  rw [e1, e2]
  have e3 : V 4294967296 x * 2 ^ s - V 4294967296 y * 2 ^ s * (V 4294967296 x / V 4294967296 y) = (V 4294967296 x - V 4294967296 y * (V 4294967296 x / V 4294967296 y)) * 2 ^ s := by grind
  rw [e3, Int.mul_ediv_cancel _ (by omega)]
 have arj : V 4294967296 (x'.drop (x.length - m - 1)) < V 4294967296 y' := by
  have h1 := jV (b := 4294967296) x' (x.length - m - 1) (by omega)
  have h2 := bN (b := 4294967296) (by decide) (lx'.take (x.length - m - 1))
  rw [alq] at h1
  have h3 : V 4294967296 x * 2 ^ s < 4294967296 ^ (x.length - m - 1) * (4294967296 ^ (m + 1) * 2 ^ s) := by
   rw [← Int.mul_assoc, ← Int.pow_add, show x.length - m - 1 + (m + 1) = x.length by omega]
   exact Int.mul_lt_mul_of_pos_right aln hp
  have h4 : V 4294967296 (x'.drop (x.length - m - 1)) < 4294967296 ^ (m + 1) * 2 ^ s := Int.lt_of_mul_lt_mul_left (a := 4294967296 ^ (x.length - m - 1)) (by omega) (Int.le_of_lt (Int.pow_pos (by decide)))
  have h5 := Int.mul_le_mul_of_nonneg_left arh (Int.le_of_lt hbm)
  rw [WZ]
  rw [Int.mul_comm _ 2147483648] at h5
  omega
 rw [hqx, hrx]
 refine W.skip ?_
 have a1 : ((m : Int) + 2 - 1) = ((m + 1 : Nat) : Int) := by omega
 refine W.sr ?_
 simp (disch := omega) [gw, hm, a1]
 refine cI [0, 1, 9] hLZ ?_
 replace hwx : iD env.P 264 [us x, .int .i64 s, .int .i64 ((x.length : Int) + 1)] 182 1 (emap u32 x') := hwx
 replace hwy : iD env.P 264 [us y, .int .i64 s, .int .i64 ((m : Int) + 2)] 182 1 (emap u32 y') := hwy
 refine W.sr ?_
 simp (disch := omega) [gw, hm]
 refine aii hwx 58 (by simp) (by simp) (by simp) ?_
 simp (disch := omega) [gw, hm]
 refine aii hwy 63 (by simp) (by simp) (by simp) ?_
 simp (disch := omega) [gw]
 refine bH [0, 9, 10, 11] ?_
 refine W.freeze 63 (by simp) (fun K hK => ?_)
 simp
 refine hK _ ?_; clear hK K
 refine W.sr ?_
 simp (disch := omega) [gw, ari]
 refine bH [0, 9, 10, 11, 12] ?_
 obtain ⟨ql, hql⟩ : ∃ ql, x.length = ql + m + 1 := ⟨x.length - m - 1, by omega⟩
 rw [show x.length - m - 1 = ql by omega] at arj
 have ain : x'.length = ql + m + 2 := by omega
 have aq : (x.length : Int) - ((m : Int) + 2) + 1 = (ql : Int) := by omega
 refine W.sr ?_
 simp (disch := omega) [gw, aq]
 refine bH [4, 9, 10, 11, 12] ?_
 clear hwx hwy hVy hy1 awi hy3 hyU hyL hxU hqx hrx htn htl p7 hs2 hsn hLZ aln hY0 hX0
 refine aL [4, 9, 10, 11, 12, 13] ?_
 refine W.block ?_
 refine W.bC (fun q σ => ∃ (v4 : Nat) (X Q : List Int) (rows : Pm.Rows) (clk : Nat), σ = ⟨fa [(4, .own 71 v4 0 ql), (9, .int .i64 s), (10, .own 58 0 0 (ql + m + 2)), (11, us y'), (12, .int .i64 ((m : Int) + 2)), (13, .int .i64 ((q : Int) - 1))], rows, clk⟩ ∧
  rows 58 = some ⟨0, 182, 1, emap u32 X⟩ ∧ rows 71 = some ⟨v4, 182, 1, emap u32 Q⟩ ∧ q ≤ ql ∧ X.length = ql + m + 2 ∧ Q.length = ql ∧ cR 4294967296 X ∧ cR 4294967296 Q ∧
  V 4294967296 X + 4294967296 ^ q * V 4294967296 (Q.drop q) * V 4294967296 y' = V 4294967296 x' ∧ V 4294967296 (X.drop q) < V 4294967296 y') ql ?_ ?_
 ·exact ⟨_, Gh.fr [(4, .own 71 _ 0 ql), (9, .int .i64 s), (10, .own 58 0 0 (ql + m + 2)), (11, us y'), (12, .int .i64 ((m : Int) + 2)), (13, .int .i64 ((ql : Int) - 1))] (by simp [ain]; exact rfl), _, x', List.replicate ql 0, _, _, rfl, by simp, by simp, by omega, ain, by simp, lx', cR.rep (by decide) _, by simp [V], arj⟩
 rintro q _ ⟨v4, X, Q, rows, clk, rfl, afF, alr, hq, hXl, hQl, lX, lQ, hVX, hXU⟩
 refine aL [4, 9, 10, 11, 12, 13, 76] ?_
 refine bE ?_ ?_ <;> intro h
 ·have FR : 0 < q := by simp at h; omega
  obtain ⟨i, rfl⟩ : ∃ i, q = i + 1 := ⟨q - 1, by omega⟩
  clear h
  have ei : ((i + 1 : Nat) : Int) - 1 = i := by omega
  rw [ei]
  have ark : V 4294967296 ((X.drop i).take (m + 3)) < 4294967296 * V 4294967296 y' := by
   have h1 := jV (b := 4294967296) (X.drop i) (m + 3) (by simp; omega)
   have h2 := bN (b := 4294967296) (by decide) ((lX.drop i).drop (m + 3))
   have h3 := Int.mul_nonneg (show (0 : Int) ≤ 4294967296 ^ (m + 3) from Int.le_of_lt (Int.pow_pos (by decide))) h2
   have h4 : V 4294967296 (X.drop i) = nth X i + 4294967296 * V 4294967296 (X.drop (i + 1)) := by rw [fE (by omega)]; rfl
   have h5 := lX.nth (i := i) (by omega)
   omega
  have afH := fun (rows : Pm.Rows) clk hr => QE (id := 58) (ver := 0) (off := i) (m := m) X y' rows clk hr ari (by omega) ly' awk lX (by omega) (by omega) ark
  have e6 : (i : Int) + ((m : Int) + 2) + 1 = ((i + m + 3 : Nat) : Int) := by omega
  have e7 : ((i : Int) + (m : Int) + 3).toNat - i = m + 3 := by omega
  refine lG ?_
  refine W.b8 (fun K hK => ?_)
  simp (disch := omega) [gw, afF, hXl, e6, e7]
  refine apW (afH _ _ afF) ?_
  rintro r rows' kF ⟨D, rfl, rfl, rfl, hDl, lD, hDd, hDv⟩
  have kG := abu (g := V 4294967296 ((X.drop i).take (m + 3)) / V 4294967296 y') lX lD awl afE (by omega) hDl hDd rfl hDv hXU
  have hg0 : 0 ≤ V 4294967296 ((X.drop i).take (m + 3)) / V 4294967296 y' := Int.ediv_nonneg (bN (by decide) ((lX.drop i).take _)) (Int.le_of_lt afE)
  have hg1 : V 4294967296 ((X.drop i).take (m + 3)) / V 4294967296 y' < 4294967296 := Int.ediv_lt_of_lt_mul afE ark
  generalize V 4294967296 ((X.drop i).take (m + 3)) / V 4294967296 y' = g at *
  have awn : (X.take i ++ D).length = ql + m + 2 := by simp [hDl]; omega
  have lX2 : cR 4294967296 (X.take i ++ D) := cR.append.2 ⟨lX.take i, lD⟩
  obtain ⟨awo, awp⟩ := kG
  generalize X.take i ++ D = X2 at *
  simp (disch := omega) [gw, alr, hQl]
  refine W.lw [4, 9, 10, 11, 12, 13] hK ?_; clear hK K; simp
  refine W.b8 (fun K hK => ?_); simp (disch := omega) [gw]
  refine hK _ ⟨i, _, aB _ [4, 9, 10, 11, 12, 13], by omega, v4, X2, Q.set i g, _, _, rfl, by simp, by simp, by omega, awn, by simp [hQl], lX2, lQ.set ⟨hg0, hg1⟩, ?_, awo⟩
  rw [awp, fE (l := Q.set i g) (i := i) (by simp; omega), eK (by omega), List.drop_set_of_lt (by omega), ← hVX]
  simp only [V, Int.pow_succ]
  generalize V 4294967296 (Q.drop (i + 1)) = vq at *
  grind
 ·have FR : q = 0 := by simp at h; omega
  subst FR
  simp only [List.drop_zero, Int.pow_zero, Int.one_mul] at hVX hXU
  have hX0 := bN (b := 4294967296) (by decide) lX
  have hQe : V 4294967296 x' / V 4294967296 y' = V 4294967296 Q := by
   have e : (V 4294967296 Q + 1) * V 4294967296 y' = V 4294967296 Q * V 4294967296 y' + V 4294967296 y' := by grind
   rw [Int.ediv_eq_iff_of_pos afE]
   constructor <;> omega
  have hRe : V 4294967296 x' % V 4294967296 y' = V 4294967296 X := by
   have h3 := Int.emod_def (V 4294967296 x') (V 4294967296 y')
   rw [hQe, Int.mul_comm] at h3
   omega
  have hXt : V 4294967296 (X.take (m + 2)) = V 4294967296 X := by
   have h1 := jV (b := 4294967296) X (m + 2) (by omega)
   have h2 := bN (b := 4294967296) (by decide) (lX.drop (m + 2))
   have h3 := bN (b := 4294967296) (by decide) (lX.take (m + 2))
   have h4 : (0 : Int) < 4294967296 ^ (m + 2) := Int.pow_pos (by decide)
   rcases Int.lt_or_le 0 (V 4294967296 (X.drop (m + 2))) with h5 | h5
   ·exfalso
    have := Int.mul_le_mul_of_nonneg_left (show 1 ≤ V 4294967296 (X.drop (m + 2)) by omega) (Int.le_of_lt h4)
    omega
   ·have : V 4294967296 (X.drop (m + 2)) = 0 := by omega
    rw [this] at h1; omega
  rw [hQe, hRe, ← hXt]
  have zQ := bJ hQl
  have zX := bJ hXl
  have mW := dI Q (by omega)
  rw [vG lQ] at mW
  have awq := afw (X.take (m + 2)) s afD (by simp; omega) (lX.take _)
  refine fB ?_
  refine W.freeze 71 (by simp [alr]) (fun K hK => ?_)
  simp [alr, zQ]
  refine hK _ ?_; clear hK K
  refine W.freeze 58 (by simp [afF]) (fun K hK => ?_)
  simp [afF, zX]
  refine hK _ ?_; clear hK K
  have e8 : ((m : Int) + 2).toNat = m + 2 := by omega
  refine oE ?_
  refine aD mW ?_
  simp (disch := omega) [gw, hXl, e8]
  refine cI [4, 5, 6] awq ?_
  exact bT
theorem H0 {A B : Int} (hB : 0 < B) (hA : 0 ≤ A) : (A % B = 0 → (-A) / B = -(A / B) ∧ (-A) % B = 0) ∧ (0 < A % B → (-A) / B = -(A / B + 1) ∧ (-A) % B = B - A % B) := by
 have h1 := Int.mul_ediv_add_emod A B
 have h2 := Int.emod_lt_of_pos A hB
 constructor
 ·intro h
  refine (Int.ediv_emod_unique hB).2 ⟨?_, by omega, by omega⟩
  rw [Int.mul_neg]; omega
 ·intro h
  refine (Int.ediv_emod_unique hB).2 ⟨?_, by omega, by omega⟩
  rw [Int.mul_neg, Int.mul_add]; omega
theorem abv (n m : Bool) {A B : Int} (hB : 0 < B) (hA : 0 ≤ A) :
  (¬ (n = true ∧ 0 < A % B) → (if n = true then -A else A) / (if m = true then -B else B) = (if (n != m) = true then -(A / B) else A / B) ∧ (if n = true then -A else A) % (if m = true then -B else B) = A % B) ∧
  (n = true → 0 < A % B → (if n = true then -A else A) / (if m = true then -B else B) = (if (n != m) = true then -(A / B + 1) else A / B + 1) ∧ (if n = true then -A else A) % (if m = true then -B else B) = B - A % B) := by
 obtain ⟨p1, p2⟩ := H0 hB hA
 have h0 := Int.emod_nonneg A (show B ≠ 0 by omega)
 cases n <;> cases m <;> simp [Int.ediv_neg, Int.emod_neg]
 ·exact ⟨fun h => by have := p1 (by omega); exact ⟨this.1, by omega⟩, p2⟩
 ·exact ⟨fun h => by have := p1 (by omega); exact ⟨by omega, by omega⟩, fun h => by have := p2 h; exact ⟨by omega, this.2⟩⟩
theorem abw (n : Bool) (l : List Int) (h : rX l) : aG env.P 158 [IV n l] (I (V 4294967296 l)) := by
 refine bV [(0, IV n l)] Tryz.func158 ?_
 refine aA [1, 2] ?_
 refine iU ?_
 refine bZ (mO l h.len h.yP) ?_
 refine aD (fU _ (pR h) false) ?_
 simp (disch := omega) [gw]
 refine bH [2] ?_
 exact bT
theorem abx (n : Bool) (l : List Int) : aG env.P 111 [IV n l] (.int .i64 (if l.length = 0 then 0 else if n = true then -1 else 1)) := by
 refine bV [(0, IV n l)] Tryz.func111 ?_
 refine cS [1] ?_
 refine W.block ?_
 refine aA [1, 3] ?_
 refine bE ?_ ?_ <;> intro h
 ·have h : l = [] := by simp at h; exact h
  subst h
  refine aA [2] ?_
  exact bT
 ·have h : l.length ≠ 0 := by simp at h; simpa using h
  rw [if_neg h]
  refine aA [8] ?_
  refine bE ?_ ?_ <;> intro h
  ·subst h
   refine aA [2] ?_
   exact bT
  ·subst h
   refine W.skip ?_
   refine aA [2] ?_
   exact bT
theorem afI (p : RP) (hp : p.length < 9223372036854775808) : aG env.P 87 [Pg p] (.int .i64 ((p.length : Int) - 1)) := by
 refine bV [(0, Pg p)] Tryz.func87 ?_
 refine aA [0] ?_
 refine aA [2] ?_
 exact bT
theorem LN (p : RP) (h : sO p) : aG env.P 110 [Pg p] (I (lead (mH p))) := by
 have hl := h.len
 have fX := bP (p.map gv)
 rw [List.length_map] at fX
 refine bV [(0, Pg p)] Tryz.func110 ?_
 refine aA [0, 2] ?_
 refine W.seq ?_
 refine aK [0, 2] (iG p h) ?_
 rw [show aN (p.map gv) = mH p from rfl] at fX ⊢
 generalize mH p = x at *
 refine aA [0, 2, 7] ?_
 refine bE ?_ ?_ <;> intro h
 ·have h : x = [] := by simp at h; exact h
  subst h
  refine aA [2] ?_
  refine W.ret ?_
  simp [go]
  exact ⟨Int.le_refl 0, rfl⟩
 ·have h : x ≠ [] := by simp at h; exact h
  have n9 : 0 < x.length := List.length_pos_iff.2 h
  refine W.skip ?_
  have e1 : ((x.length : Int) - 1).toNat = x.length - 1 := by omega
  refine W.sr ?_
  simp (disch := omega) [gw, e1]
  refine bH [2] ?_
  refine W.ret ?_
  simp [go, lead]
theorem LO {x : Int} {k : Nat} (h0 : 0 ≤ x) (h : x < 4294967296 ^ k) : sz LL x ≤ k := dD fY (by
 have e : ((4294967296 ^ k : Nat) : Int) = (4294967296 : Int) ^ k := Int.natCast_pow 4294967296 k
 show x.natAbs < 4294967296 ^ k
 omega)
theorem TL {x : Int} {k : Nat} (h0 : 0 ≤ x) (h : sz LL x ≤ k) (hk : k < 1099511627776) : rX (aS LL x.toNat) := ⟨fR fY _, by
 have e : x.natAbs = x.toNat := by omega
 unfold sz at h
 rw [e] at h
 omega⟩
theorem aby {x : Int} (h0 : 0 ≤ x) : V 4294967296 (aS LL x.toNat) = x := by
 have := jU fY x.toNat
 rw [show ((LL : Nat) : Int) = 4294967296 from rfl] at this
 rw [this]; omega
theorem afJ {x : Int} (h0 : 0 ≤ x) : (0 < (aS LL x.toNat).length) ↔ 0 < x := by
 rw [List.length_pos_iff, Ne, eD fY]; omega
theorem LP (n m : Bool) (l k : List Int) (GW : rX l) (h' : rX k) (hl : l.length < 1099511627774) (hk : k.length < 1099511627774) :
  aG env.P 257 [IV n l, IV m k] (if V 4294967296 k = 0 then .fH [I 0, I 0, .int .i64 2] else .fH [I (iv n l / iv m k), I (iv n l % iv m k), .int .i64 0]) := by
 have p1 := pR GW
 have p2 := pR h'
 refine bV [(0, IV n l), (1, IV m k)] Tryz.func257 ?_
 refine aA [2, 3, 4, 5] ?_
 by_cases h0 : V 4294967296 k = 0
 ·rw [if_pos h0]
  refine aK [2, 3, 4, 5, 6, 7, 8] (LM l k GW h' h0) ?_
  refine aL [2, 3, 4, 5, 6, 7, 8, 19] ?_
  refine bE ?_ ?_ <;> intro h
  ·refine aA [4, 5, 6] ?_
   refine W.ret ?_
   simp [go]
   rfl
  ·cases h
 ·rw [if_neg h0]
  have hB : 0 < V 4294967296 k := by omega
  have SR := B5 l k GW h' h0 hl hk
  obtain ⟨d1, d2⟩ := abv n m hB p1
  rw [show (if n = true then -V 4294967296 l else V 4294967296 l) = iv n l from rfl, show (if m = true then -V 4294967296 k else V 4294967296 k) = iv m k from rfl] at d1 d2
  have q0 := Int.ediv_nonneg p1 p2
  have r0 := Int.emod_nonneg (V 4294967296 l) h0
  have r1 := Int.emod_lt_of_pos (V 4294967296 l) hB
  have oG : sz LL (V 4294967296 l / V 4294967296 k) ≤ l.length := LO q0 (Int.lt_of_le_of_lt (Int.ediv_le_self _ p1) (o6 (by decide) GW.yP))
  have awr : sz LL (V 4294967296 l % V 4294967296 k) ≤ k.length := LO r0 (Int.lt_trans r1 (o6 (by decide) h'.yP))
  refine aK [2, 3, 4, 5, 6, 7, 8] SR ?_
  generalize V 4294967296 l / V 4294967296 k = Q at *
  generalize V 4294967296 l % V 4294967296 k = R at *
  refine aL [2, 3, 4, 5, 6, 7, 8, 19] ?_
  refine bE ?_ ?_ <;> intro h
  ·cases h
  refine W.skip ?_
  refine iU ?_
  refine bZ (fU Q q0 (n != m)) ?_
  refine cI [2, 3, 4, 5, 7, 8] (fU R r0 false) ?_
  refine W.gS (fun σ => ∃ (rows : Pm.Rows) (clk : Nat), σ = ⟨fa [(4, .ptr 4 2 0 0), (5, .ptr 5 3 0 0)], rows, clk⟩ ∧ rows 4 = some ⟨2, 38, 2, [ie (iv n l / iv m k)]⟩ ∧ rows 5 = some ⟨3, 38, 2, [ie (iv n l % iv m k)]⟩) ?_ ?_
  ·
   by_cases als : n = true ∧ 0 < R
   ·obtain ⟨rfl, hR⟩ := als
    obtain ⟨e1, e2⟩ := d2 rfl hR
    rw [e1, e2]
    have hdp := (afJ r0).2 hR
    have hQl := TL q0 oG GW.len
    have hRl := TL r0 awr h'.len
    have arl := TG (aS LL Q.toNat) [1] hQl.len (by simp) hQl.yP (cR.cons.2 ⟨by decide, cR.nil⟩)
    rw [aby q0, nB] at arl
    have arn := HV k (aS LL R.toNat) h'.len hRl.len h'.yP hRl.yP
    rw [aby r0, P6, if_neg (by omega)] at arn
    refine W.gM (fun σ => ∃ (rows : Pm.Rows) (clk : Nat), σ = ⟨fa [(2, .ptr 2 0 0 0), (3, .ptr 3 1 0 0), (4, .ptr 4 2 0 0), (5, .ptr 5 3 0 0), (7, N Q), (8, N R), (38, .bool true)], rows, clk⟩ ∧ rows 2 = some ⟨0, 38, 2, [[.bool true, us l]]⟩ ∧ rows 3 = some ⟨1, 38, 2, [[.bool m, us k]]⟩ ∧ rows 4 = some ⟨2, 38, 2, [ie (if true = m then Q else -Q)]⟩ ∧ rows 5 = some ⟨3, 38, 2, [ie R]⟩) (fun K hK => ?_) ?_
    ·simp (disch := omega) [gw, hdp]
     exact hK _ _ (aB _ [2, 3, 4, 5, 7, 8, 38]) ⟨_, _, rfl, by simp, by simp, by simp, by simp⟩
    rintro _ ⟨rows, clk, rfl, dP, fC, iV, lW⟩
    refine bE ?_ ?_ <;> intro h
    ·refine aK [2, 3, 4, 5, 7, 8] arl ?_
     refine W.sr ?_
     simp (disch := omega) [gw, fC]
     refine cI [2, 3, 4, 5, 7, 8] arn ?_
     refine W.b8 (fun K hK => ?_)
     simp (disch := omega) [gw, dP, fC]
     refine aD (fU (Q + 1) (by omega) (!m)) ?_
     simp (disch := omega) [gw]
     refine aD (fU (V 4294967296 k - R) (by omega) false) ?_
     simp (disch := omega) [gw, iV, lW]
     exact hK _ ⟨_, aB _ [4, 5], _, _, rfl, by cases m <;> simp, by simp⟩
    ·cases h
   ·obtain ⟨e1, e2⟩ := d1 als
    rw [e1, e2]
    refine W.gM (fun σ => ∃ (rows : Pm.Rows) (clk : Nat), σ = ⟨fa [(4, .ptr 4 2 0 0), (5, .ptr 5 3 0 0), (38, .bool false)], rows, clk⟩ ∧ rows 4 = some ⟨2, 38, 2, [ie (if (n != m) = true then -Q else Q)]⟩ ∧ rows 5 = some ⟨3, 38, 2, [ie R]⟩) (fun K hK => ?_) ?_
    ·cases n with
     | false =>
      simp (disch := omega) [gw]
      exact hK _ _ (aB _ [4, 5, 38]) ⟨_, _, rfl, by cases m <;> simp, by simp⟩
     | true =>
      have hR : R = 0 := by simp at als; omega
      subst hR
      simp (disch := omega) [gw]
      exact hK _ _ (aB _ [4, 5, 38]) ⟨_, _, rfl, by cases m <;> simp, by simp⟩
    rintro _ ⟨rows, clk, rfl, iV, lW⟩
    refine bE ?_ ?_ <;> intro h
    ·cases h
    ·refine W.skip ?_
     exact ⟨_, aB _ [4, 5], _, _, rfl, iV, lW⟩
  rintro _ ⟨rows, clk, rfl, iV, lW⟩
  generalize iv n l / iv m k = q at *
  generalize iv n l % iv m k = r at *
  refine W.sd ?_
  simp (disch := omega) [gw, iV, lW]
  refine bR (by kernel_rfl) ?_
  simp (disch := omega) [gw, iV, lW]
  rw [if_pos (by kernel_rfl)]
  simp (disch := omega) [gw, iV, lW]
  refine bR (by kernel_rfl) ?_
  simp (disch := omega) [gw]
  refine bH [4, 5, 6] ?_
  exact bT
theorem QH (n m : Bool) (l k : List Int) (h : rX l) (h' : rX k) (hl : l.length < 1099511627774) (hk : k.length < 1099511627774) (h0 : V 4294967296 k ≠ 0) :
  aG env.P 235 [IV n l, IV m k] (if iv n l % iv m k = 0 then .fH [I (iv n l / iv m k), .int .i64 0] else .fH [I 0, .int .i64 3]) := by
 have SR := LP n m l k h h' hl hk
 rw [if_neg h0] at SR
 have E5 : 0 ≤ iv n l % iv m k := Int.emod_nonneg _ (by unfold iv; split <;> omega)
 generalize iv n l / iv m k = q at *
 generalize iv n l % iv m k = r at *
 have hrn : (aS LL r.natAbs = []) ↔ r = 0 := by rw [eD fY]; omega
 refine bV [(0, IV n l), (1, IV m k)] Tryz.func235 ?_
 refine aA [2, 3, 4] ?_
 refine aK [4, 6, 7, 8] SR ?_
 refine aL [4, 6, 7, 8, 17] ?_
 refine bE ?_ ?_ <;> intro h
 ·cases h
 refine W.skip ?_
 refine aL [4, 6, 23] ?_
 by_cases hr : r = 0
 ·rw [if_pos hr]
  refine bE ?_ ?_ <;> intro h
  ·exfalso; have h2 := hrn.2 hr; rw [h2] at h; simp at h
  ·refine W.skip ?_
   refine aA [4, 5] ?_
   exact bT
 ·rw [if_neg hr]
  refine bE ?_ ?_ <;> intro h
  ·refine aA [4, 5] ?_
   refine W.ret ?_
   simp [go]
   rfl
  ·exfalso; simp at h; exact hr (hrn.1 h)
def bK (l : List Int) : Nat := l.foldl (fun g c => Nat.gcd g c.natAbs) 0
theorem gcd_one : ∀ l : List Int, l.foldl (fun g c => Nat.gcd g c.natAbs) 1 = 1
 | [] => rfl
 | c :: l => by simp only [List.foldl_cons, Nat.gcd_one_left]; exact gcd_one l
theorem QI (l : List Int) (i : Nat) (h : bK (l.take i) = 1) : bK l = 1 := by
 unfold bK at *
 rw [← List.take_append_drop i l, List.foldl_append, h]
 exact gcd_one _
theorem W1 (l : List Int) (i : Nat) (h : i < l.length) : bK (l.take (i + 1)) = Nat.gcd (bK (l.take i)) (nth l i).natAbs := by
 unfold bK
 rw [bA h, List.foldl_append]; rfl
theorem aro (x : Nat) : N (x : Int) = us (aS LL x) := rfl
theorem B6 {x k : Nat} (h : x < 4294967296 ^ k) : (aS LL x).length ≤ k := zN fY h
theorem LQ (p : RP) (K0 : Nat) (hK0 : K0 < 1099511627774) (hp : ∀ c ∈ p, cR 4294967296 c.2 ∧ c.2.length ≤ K0) (SM : p.length < 1099511627776) : aG env.P 234 [Pg p] (I (bK (p.map gv))) := by
 have hng : ∀ c ∈ p, (gv c).natAbs = (V 4294967296 c.2).toNat := fun c hc => by
  have := bN (b := 4294967296) (by decide) (hp c hc).1
  unfold gv iv; split <;> omega
 refine bV [(0, Pg p)] Tryz.func234 ?_
 refine aA [0, 2] ?_
 refine aA [0, 2, 3] ?_
 refine W.WO 3 (us []) (by simp) rfl (fun K hK => ?_)
 refine W.lw [0, 2, 3] hK ?_; clear hK K; simp
 have aws : ∀ i, i < p.length → (nth (p.map gv) i).natAbs = (V 4294967296 (nth p i).2).toNat := fun i hi => by rw [tT]; exact hng _ (bU hi)
 refine W.gS (fun σ => ∃ (rows : Pm.Rows) (clk : Nat), σ = ⟨fa [(2, .ptr 2 0 0 0), (3, us (aS LL (bK (p.map gv))))], rows, clk⟩ ∧ rows 2 = some ⟨0, 38, 2, [[.bool false, .nil]]⟩ ∧ bK (p.map gv) < 4294967296 ^ K0) ?_ ?_
 ·
  refine aA [2, 3, 10, 11, 12] ?_
  refine W.block ?_
  refine W.bC (fun q σ => ∃ (i : Nat) (rows : Pm.Rows) (clk : Nat), σ = ⟨fa [(2, .ptr 2 0 0 0), (3, us (aS LL (bK ((p.map gv).take i)))), (10, Pg p), (11, .int .i64 p.length), (12, .int .i64 i)], rows, clk⟩ ∧ rows 2 = some ⟨0, 38, 2, [[.bool false, .nil]]⟩ ∧ q = p.length - i ∧ i ≤ p.length ∧ bK ((p.map gv).take i) < 4294967296 ^ K0) p.length ?_ ?_
  ·exact ⟨_, Gh.fr [(2, .ptr 2 0 0 0), (3, us (aS LL (bK ((p.map gv).take 0)))), (10, Pg p), (11, .int .i64 p.length), (12, .int .i64 (0 : Nat))] (by simp [bK, lH]), 0, _, _, rfl, by simp, by omega, by omega, by simp [bK]; exact Nat.pow_pos (by decide)⟩
  rintro q _ ⟨i, rows, clk, rfl, dP, hq, hi, JS⟩
  refine cS [2, 3, 10, 11, 12, 13] ?_
  refine bE ?_ ?_ <;> intro h
  ·have hi : i < p.length := by simp at h; omega
   obtain ⟨u0, Y1⟩ := hp _ (bU hi)
   have hV0 := bN (b := 4294967296) (by decide) u0
   have hVl := o6 (b := 4294967296) (by decide) u0
   obtain ⟨x0, n9⟩ := Int.eq_ofNat_of_zero_le hV0
   have LR := mO (nth p i).2 (by omega) u0
   rw [n9, aro] at LR
   have hxb : x0 < 4294967296 ^ K0 := by
    have e : ((4294967296 ^ (nth p i).2.length : Nat) : Int) = (4294967296 : Int) ^ (nth p i).2.length := Int.natCast_pow 4294967296 _
    have e2 : 4294967296 ^ (nth p i).2.length ≤ 4294967296 ^ K0 := Nat.pow_le_pow_right (by decide) Y1
    omega
   have hgs := W1 (p.map gv) i (by simpa using hi)
   rw [aws i hi, n9] at hgs
   simp only [Int.toNat_natCast] at hgs
   refine lG ?_
   refine W.sr ?_
   simp (disch := omega) [gw, dP]
   refine bH [2, 3, 5, 10, 11, 12] ?_
   refine aK [2, 3, 6, 10, 11, 12] LR ?_
   refine W.seq ?_
   refine W.block ?_
   refine W.bC (fun q σ => ∃ (g x : Nat) (rows : Pm.Rows) (clk : Nat), σ = ⟨fa [(2, .ptr 2 0 0 0), (3, us (aS LL g)), (6, us (aS LL x)), (10, Pg p), (11, .int .i64 p.length), (12, .int .i64 i)], rows, clk⟩ ∧ rows 2 = some ⟨0, 38, 2, [[.bool false, .nil]]⟩ ∧ q = x ∧ Nat.gcd g x = bK ((p.map gv).take (i + 1)) ∧ g < 4294967296 ^ K0 ∧ x < 4294967296 ^ K0) x0 ?_ ?_
   ·exact ⟨_, .refl, bK ((p.map gv).take i), x0, _, _, rfl, by simp [dP], rfl, hgs.symm, JS, hxb⟩
   rintro q2 _ ⟨g, x, rows, clk, rfl, dP, hq2, hgx, hg, hx⟩
   refine aL [2, 3, 6, 10, 11, 12, 21] ?_
   refine bE ?_ ?_ <;> intro h
   ·have h1 : aS LL x ≠ [] := by simp at h; exact List.length_pos_iff.1 h
    have n9 : x ≠ 0 := fun h2 => h1 ((eD fY).2 h2)
    have hlg := B6 hg
    have hlx := B6 hx
    have SR := B5 (aS LL g) (aS LL x) ⟨fR fY _, by omega⟩ ⟨fR fY _, by omega⟩ (by rw [show (4294967296 : Int) = ((LL : Nat) : Int) from rfl, jU fY]; omega) (by omega) (by omega)
    rw [show (4294967296 : Int) = ((LL : Nat) : Int) from rfl, jU fY, jU fY, ← Int.natCast_emod, aro] at SR
    have hm := Nat.mod_lt g (show 0 < x by omega)
    have hgr : Nat.gcd x (g % x) = Nat.gcd g x := by rw [Nat.gcd_comm x, ← Nat.gcd_rec, Nat.gcd_comm]
    refine W.skip ?_
    refine W.block ?_
    refine aK [2, 6, 8, 10, 11, 12] SR ?_
    refine W.b8 (fun K hK => ?_); simp (disch := omega) [gw]
    refine hK _ ⟨g % x, _, aB _ [2, 3, 6, 10, 11, 12], by omega, x, g % x, _, _, rfl, by simp [dP], rfl, by rw [hgr, hgx], hx, by omega⟩
   ·have h1 : aS LL x = [] := by simp at h; exact h
    have n9 : x = 0 := (eD fY).1 h1
    subst n9
    rw [Nat.gcd_zero_right] at hgx
    refine fB ?_
    refine W.gM (fun σ => ∃ (b : Bool) (rows : Pm.Rows) (clk : Nat), σ = ⟨fa [(2, .ptr 2 0 0 0), (3, us (aS LL g)), (10, Pg p), (11, .int .i64 p.length), (12, .int .i64 i), (39, .bool b)], rows, clk⟩ ∧ rows 2 = some ⟨0, 38, 2, [[.bool false, .nil]]⟩ ∧ (b = true → g = 1)) (fun K hK => ?_) ?_
    ·by_cases h2 : (aS LL g).length = 1
     ·obtain ⟨w, hw⟩ : ∃ w, aS LL g = [w] := match aS LL g, h2 with | [w], _ => ⟨w, rfl⟩
      have hgv := jU fY g
      rw [hw, nB] at hgv
      rw [hw] at hK ⊢
      have hnw : nth [w] 0 = w := rfl
      simp (disch := omega) [gw, hnw]
      exact hK _ _ (aB _ [2, 3, 10, 11, 12, 39]) ⟨_, _, _, rfl, by simp [dP], fun h3 => by simp at h3; omega⟩
     ·have h2' : ((aS LL g).length : Int) ≠ 1 := by omega
      have hb : (((aS LL g).length : Int) == 1) = false := by simpa using h2'
      simp (disch := omega) [gw, hb, h2]
      exact hK _ _ (aB _ [2, 3, 10, 11, 12, 39]) ⟨_, _, _, rfl, by simp [dP], fun h3 => by cases h3⟩
    rintro _ ⟨b, rows, clk, rfl, dP, hb⟩
    refine bE ?_ ?_ <;> intro h
    ·have hg1 := hb h
     subst hg1
     have tP := QI _ _ hgx.symm
     refine fB ?_
     rw [tP]
     exact ⟨_, aB _ [2, 3], rows, clk, rfl, dP, by rw [tP] at *; exact hg⟩
    ·refine W.skip ?_
     subst hgx
     refine W.b8 (fun K hK => ?_); simp (disch := omega) [gw]
     refine hK _ ⟨p.length - (i + 1), _, aB _ [2, 3, 10, 11, 12], by omega, i + 1, _, _, rfl, by simp [dP], by omega, by omega, hg⟩
  ·have hi : i = p.length := by simp at h; omega
   rw [List.take_of_length_le (by simp; omega)] at JS ⊢
   refine fB ?_
   exact ⟨_, aB _ [2, 3], rows, clk, rfl, dP, JS⟩
 rintro _ ⟨rows, clk, rfl, dP, JS⟩
 have hlg := B6 JS
 have LR := mO (aS LL (bK (p.map gv))) (by omega) (fR fY _)
 rw [show (4294967296 : Int) = ((LL : Nat) : Int) from rfl, jU fY] at LR
 have arq := fU (bK (p.map gv) : Int) (by omega) false
 refine iU ?_
 refine bZ LR ?_
 refine aD arq ?_
 simp (disch := omega) [gw, dP]
 refine bH [2] ?_
 exact bT
theorem qW : ∀ {l : List Int}, l.length ≤ (aN l).length → aN l = l
 | [], _ => rfl
 | x :: l, h => by
  rw [aN] at h ⊢
  split
  ·rename_i h1
   rw [if_pos h1] at h; simp at h
  ·rename_i h1
   rw [if_neg h1] at h
   rw [qW (by simpa using h)]
theorem LS {b : Int} (hb : 1 ≤ b) {l : List Int} (hl : cR b l) (h : l ≠ [] → b ^ (l.length - 1) ≤ V b l) : aN l = l := by
 apply qW
 rcases Nat.lt_or_ge (aN l).length l.length with h1 | h1
 ·exfalso
  have h2 := h (by intro h0; subst h0; simp at h1)
  have h3 := o6 (by omega) (eA hl)
  rw [cV] at h3
  obtain ⟨m, hm⟩ : ∃ m, l.length - 1 = (aN l).length + m := ⟨l.length - 1 - (aN l).length, by omega⟩
  rw [hm, Int.pow_add] at h2
  have h4 : 1 ≤ b ^ m := Int.pow_pos (by omega)
  have h5 := Int.mul_le_mul_of_nonneg_left h4 (show 0 ≤ b ^ (aN l).length from Int.le_of_lt (Int.pow_pos (by omega)))
  omega
 ·exact h1
@[simp] theorem afK {l : List Int} {x : Int} : emap u32 l ++ [[.int .u32 x]] = emap u32 (l ++ [x]) := by simp [emap]
theorem FT (x : Int) : aG env.P 141 [RI x] (.bool (decide (x = 0))) := by
 refine bV [(0, RI x)] Tryz.func141 ?_
 refine aA [1] ?_
 refine aA [2] ?_
 refine W.ret ?_
 simp [go]
 have e : ((aS DD x.natAbs).length = 0) ↔ x = 0 := by rw [List.length_eq_zero_iff, eD N9]; omega
 rw [Bool.eq_iff_iff, decide_eq_true_iff, beq_iff_eq, ← e]
 omega
theorem TM {x : Int} : (aS DD x.natAbs).length = 0 ↔ x = 0 := by rw [List.length_eq_zero_iff, eD N9]; omega
theorem FU (x : Int) : aG env.P 145 [RI x] (.int .i64 x.sign) := by
 refine bV [(0, RI x)] Tryz.func145 ?_
 refine cS [1] ?_
 refine W.block ?_
 refine aA [1, 3] ?_
 refine bE ?_ ?_ <;> intro h
 ·have h0 : x = 0 := by rw [← TM]; simp at h; simp [h]
  subst h0
  refine aA [2] ?_
  exact bT
 ·have h0 : x ≠ 0 := by rw [Ne, ← TM]; simp at h; simpa using h
  refine aA [8] ?_
  refine bE ?_ ?_ <;> intro h
  ·simp at h
   refine aA [2] ?_
   refine W.ret ?_
   simp [go, Int.sign_eq_neg_one_of_neg h]
  ·simp at h
   refine W.skip ?_
   refine aA [2] ?_
   refine W.ret ?_
   simp [go, Int.sign_eq_one_of_pos (show 0 < x by omega)]
theorem qX (x : Int) : aG env.P 18 [RI x] (RI (-x)) := by
 refine bV [(0, RI x)] Tryz.func18 ?_
 refine aA [1, 2] ?_
 refine iU ?_
 refine aD (rY x.natAbs (by omega) (!decide (x < 0))) ?_
 simp (disch := omega) [gw]
 refine bH [2] ?_
 refine W.ret ?_
 have e : (if 0 ≤ x then -(x.natAbs : Int) else x.natAbs) = -x := by split <;> omega
 simp only [e]
 simp [go]
theorem W2 (a : List Int) (d : Int) (ha : a.length < 1099511627776) (la : cR 10000 a) (hd0 : 0 < d) (H2 : d ≤ 65536) : aG env.P 152 [aI aF a, .int .i64 d] (.fH [Dn (V 10000 a / d), .int .i64 (V 10000 a % d)]) := by
 refine bV [(0, aI aF a), (1, .int .i64 d)] Tryz.func152 ?_
 refine aA [0, 1] ?_
 refine aA [0, 1, 6] ?_
 refine aA [0, 1, 6, 7] ?_
 refine aL [0, 1, 6, 7, 8] ?_
 refine W.block ?_
 refine W.bC (fun k σ => ∃ (r : Int) (z : List Int) (ver : Nat) (rows : Pm.Rows) (clk : Nat), σ = ⟨fa [(0, aI aF a), (1, .int .i64 d), (6, .own 12 ver 0 a.length), (7, .int .i64 r), (8, .int .i64 ((k : Int) - 1))], rows, clk⟩ ∧
  rows 12 = some ⟨ver, 3, 1, emap aF z⟩ ∧ k ≤ a.length ∧ z.length = a.length ∧ cR 10000 z ∧ 0 ≤ r ∧ r < d ∧ V 10000 (a.drop k) = d * V 10000 (z.drop k) + r) a.length ?_ ?_
 ·exact ⟨_, .refl, 0, List.replicate a.length 0, _, _, _, rfl, by simp, by omega, by simp, cR.rep (by decide) _, by omega, hd0, by simp [V]⟩
 rintro k _ ⟨r, z, ver, rows, clk, rfl, hr, hk, hz, lz, E5, tR, hV⟩
 refine aL [0, 1, 6, 7, 8, 17] ?_
 refine bE ?_ ?_ <;> intro h
 ·simp at h
  obtain ⟨j, rfl⟩ : ∃ j, k = j + 1 := ⟨k - 1, by omega⟩
  clear h
  have hx := la.nth (i := j) (by omega)
  have JU : 0 ≤ r * 10000 + nth a j := by omega
  have p7 : r * 10000 + nth a j < d * 10000 := by omega
  have FR : 0 ≤ (r * 10000 + nth a j) / d := Int.ediv_nonneg JU (by omega)
  have hq1 : (r * 10000 + nth a j) / d < 10000 := Int.ediv_lt_of_lt_mul hd0 (by omega)
  have N4 := Int.emod_nonneg (r * 10000 + nth a j) (show d ≠ 0 by omega)
  have FO := Int.emod_lt_of_pos (r * 10000 + nth a j) hd0
  have hdz : d ≠ 0 := by omega
  refine lG ?_
  refine aA [0, 1, 6, 8, 9] ?_
  refine W.sr ?_
  simp (disch := omega) [gw, hr, hdz]
  refine bH [0, 1, 6, 8, 9] ?_
  refine W.b8 (fun K hK => ?_); simp (disch := omega) [gw, hdz]
  refine W.lw [0, 1, 6, 7, 8] hK ?_; clear hK K; simp
  refine W.b8 (fun K hK => ?_); simp (disch := omega) [gw]
  refine hK _ ⟨j, _, aB _ [0, 1, 6, 7, 8], by omega, _, z.set j ((r * 10000 + nth a j) / d), ver, _, _, rfl, by simp, by omega, by simpa using hz, lz.set ⟨FR, hq1⟩, N4, FO, ?_⟩
  rw [fE (l := a) (i := j) (by omega), fE (l := z.set j _) (i := j) (by simp; omega), eK (by omega), List.drop_set_of_lt (by omega)]
  simp only [V]
  rw [hV]
  have := Int.emod_add_mul_ediv (r * 10000 + nth a j) d
  grind
 ·simp at h
  have B4 : k = 0 := by omega
  subst B4
  simp only [List.drop_zero] at hV
  have ez : z.take a.length = z := bJ hz
  have hzn := bN (by decide) lz
  have e1 : V 10000 a / d = V 10000 z := by
   rw [hV, Int.mul_add_ediv_left _ _ (by omega), Int.ediv_eq_zero_of_lt E5 tR]; simp
  have e2 : V 10000 a % d = r := by
   rw [hV, Int.mul_add_emod_self_left, Int.emod_eq_of_lt E5 tR]
  refine fB ?_
  refine W.sr ?_
  simp (disch := omega) [gw, hr, ez]
  refine aD (oO z (by omega)) ?_
  simp (disch := omega) [gw]
  refine bH [4, 5] ?_
  refine W.ret ?_
  rw [e1, e2, ← tU lz]
  simp [go]
theorem B7 (y d : Int) (hy : 0 ≤ y) (hz : Z y) (hd0 : 0 < d) (H2 : d ≤ 65536) : aG env.P 152 [Dn y, .int .i64 d] (.fH [Dn (y / d), .int .i64 (y % d)]) := by
 have := W2 (aS DD y.toNat) d (by have := jX hy; omega) (lV _) hd0 H2
 rwa [vL hy] at this
theorem afM (n : Nat) (hz : Z (n : Int)) : aG env.P 71 [aI aF (aS DD n)] (us (aS LL n)) := by
 have hln : (aS LL n).length ≤ sz 2 (n : Int) := TK fY n
 refine bV [(0, aI aF (aS DD n))] Tryz.func71 ?_
 refine aA [0] ?_
 refine aA [0, 3] ?_
 refine W.nil 3 3 182 1 (by simp) (by decide) (fun K hK => ?_)
 refine W.lw [0, 3] hK ?_; clear hK K; simp
 refine W.seq ?_
 refine W.block ?_
 refine W.bC (fun k σ => ∃ (i : Nat) (z : List Int) (ver : Nat) (rows : Pm.Rows) (clk : Nat), σ = ⟨fa [(0, aI aF (aS DD k)), (3, .own 3 ver 0 i)], rows, clk⟩ ∧ rows 3 = some ⟨ver, 182, 1, emap u32 z⟩ ∧ z.length = i ∧ k ≤ n ∧ aS LL n = z ++ aS LL k) n ?_ ?_
 ·exact ⟨_, .refl, 0, [], _, _, _, rfl, by simp [emap], rfl, by omega, by simp⟩
 rintro k _ ⟨i, z, ver, rows, clk, rfl, hr, G2, hk, hd⟩
 have hzk : Z (k : Int) := Nat.lt_of_le_of_lt (cZ (by decide) (y := (n : Int)) (by omega)) hz
 have tV : i ≤ (aS LL n).length := by rw [hd]; simp [G2]
 have e0 : (aS DD k).length = 0 ↔ k = 0 := by rw [List.length_eq_zero_iff, eD N9]
 refine aL [0, 3, 9] ?_
 refine bE ?_ ?_ <;> intro h
 ·have B4 : k ≠ 0 := by rw [Ne, ← e0]; simp at h; omega
  have wT : Z ((k : Int) / 65536) := Nat.lt_of_le_of_lt (cZ (by decide) (y := (k : Int)) (by omega)) hzk
  refine W.skip ?_
  refine W.block ?_
  refine iU ?_
  refine aD (B7 (k : Int) 65536 (by omega) hzk (by decide) (by decide)) ?_
  simp (disch := omega) [gw]
  refine bH [3, 4, 5] ?_
  refine iU ?_
  refine aD (B7 ((k : Int) / 65536) 65536 (by omega) wT (by decide) (by decide)) ?_
  simp (disch := omega) [gw]
  refine bH [3, 4, 5, 6] ?_
  refine W.sr ?_
  simp (disch := omega) [gw, hr, G2, wrap_u32']
  have e1 : (k : Int) / 65536 % 65536 * 65536 + k % 65536 = ((k % LL : Nat) : Int) := by simp; omega
  have e3 : k / LL < k := Nat.div_lt_self (by omega) (by decide)
  obtain ⟨dg, e2⟩ : ∃ dg : Int, dg = ((k % LL : Nat) : Int) := ⟨_, rfl⟩
  rw [← e2] at e1
  simp only [e1, afK]
  refine bH [3, 4] ?_
  refine W.b8 (fun K hK => ?_); simp (disch := omega) [gw]
  refine hK _ ⟨k / LL, _, Gh.fr [(0, aI aF (aS DD (k / LL))), (3, .own 3 _ 0 (i + 1))] ?_, e3, i + 1, z ++ [dg], _, _, _, rfl, by simp; rfl, by simp [G2], by omega, ?_⟩
  ·have e2 : ((k : Int) / 65536 / 65536).toNat = k / LL := by show _ = k / 4294967296; omega
   simp only [Dn, e2]
   simp
  ·rw [hd, qN fY B4, e2]; simp
 ·have B4 : k = 0 := by rw [← e0]; simp at h; simp [h]
  subst B4
  refine fB ?_
  refine aA [2] ?_
  refine W.ret ?_
  simp [lH] at hd
  have ez : z.take i = z := bJ G2
  simp [go, hr, ez, hd]
theorem H3 (x : Int) (hz : Z x) : aG env.P 17 [RI x] (I x) := by
 refine bV [(0, RI x)] Tryz.func17 ?_
 refine aA [1, 2] ?_
 refine oE ?_
 refine aD (afM x.natAbs (by simpa [Z, sz] using hz)) ?_
 simp (disch := omega) [gw]
 refine bH [2] ?_
 exact bT
theorem W3 (x y : List Int) (hx : x.length < 1099511627776) (hy : y.length < 1099511627776) (lx : cR 10000 x) (ly : cR 10000 y) (cx : aN x = x) (cy : aN y = y) : aG env.P 229 [aI aF x, aI aF y] (.int .i64 (dQ (V 10000 x) (V 10000 y))) := by
 refine bV [(0, aI aF x), (1, aI aF y)] Tryz.func229 ?_
 refine aA [0, 1] ?_
 refine aL [0, 1, 10] ?_
 refine bE ?_ ?_ <;> intro h
 ·simp at h
  refine aL [15] ?_
  refine bE ?_ ?_ <;> intro h
  ·simp at h
   refine aA [4] ?_
   refine W.ret ?_
   simp [nD (jD (by decide) lx ly cy h)]
  ·simp at h
   refine W.skip ?_
   refine aA [4] ?_
   refine W.ret ?_
   simp [nE (jD (by decide) ly lx cx (by omega))]
 ·simp at h
  have hlen : x.length = y.length := by omega
  clear h
  refine W.skip ?_
  refine aL [0, 1, 5] ?_
  refine W.block ?_
  refine W.bC (fun k σ => ∃ (rows : Pm.Rows) (clk : Nat), σ = ⟨fa [(0, aI aF x), (1, aI aF y), (5, .int .i64 ((k : Int) - 1))], rows, clk⟩ ∧ k ≤ x.length ∧ x.drop k = y.drop k) x.length ?_ ?_
  ·exact ⟨_, .refl, _, _, rfl, by omega, by rw [List.drop_of_length_le (by omega), List.drop_of_length_le (by omega)]⟩
  rintro k _ ⟨rows, clk, rfl, hk, hd⟩
  refine aL [0, 1, 5, 20] ?_
  refine bE ?_ ?_ <;> intro h
  ·have h0 : 0 < k := by simp at h; omega
   obtain ⟨j, rfl⟩ : ∃ j, k = j + 1 := ⟨k - 1, by omega⟩
   clear h
   refine lG ?_
   refine oE ?_
   refine bH [0, 1, 5, 31] ?_
   refine bE ?_ ?_ <;> intro h
   ·simp at h
    refine W.seq ?_
    refine oE ?_
    refine bH [40] ?_
    refine W.cond ⟨_, rfl, fun h2 => ?_, fun h2 => ?_⟩
    ·simp at h2
     refine aA [4] ?_
     refine W.ret ?_
     simp [nD (nC (by decide) lx ly hlen (by omega) hd h2)]
    ·simp at h2
     refine W.skip ?_
     refine aA [4] ?_
     refine W.ret ?_
     simp [nE (nC (by decide) ly lx hlen.symm (by omega) hd.symm (by omega))]
   ·simp at h
    refine W.skip ?_
    refine W.b8 (fun K hK => ?_); simp (disch := omega) [gw]
    refine hK _ ⟨j, _, aB _ [0, 1, 5], by omega, _, _, rfl, by omega, ?_⟩
    rw [fE (l := x) (i := j) (by omega), fE (l := y) (i := j) (by omega), hd, h]
  ·have h0 : k = 0 := by simp at h; omega
   subst h0
   simp at hd
   subst hd
   refine fB ?_
   refine aA [4] ?_
   refine W.ret ?_
   simp [zO]
theorem LU (x y : Int) (hx : 0 ≤ x) (hy : 0 ≤ y) (zx : Z x) (zy : Z y) : aG env.P 229 [Dn x, Dn y] (.int .i64 (dQ x y)) := by
 have := W3 (aS DD x.toNat) (aS DD y.toNat) (by have := jX hx; omega) (by have := jX hy; omega) (lV _) (lV _) (jC N9 _) (jC N9 _)
 rwa [vL hx, vL hy] at this
theorem W4 (a b : List Int) (ha : a.length < 1099511627776) (hb : b.length < 1099511627776) (la : cR 10000 a) (lb : cR 10000 b) (ca : aN a = a) (cb : aN b = b) : aG env.P 228 [aI aF a, aI aF b] (Dn (V 10000 a + V 10000 b)) := by
 refine bV [(0, aI aF a), (1, aI aF b)] Tryz.func228 ?_
 refine aA [0, 1] ?_
 refine aA [0, 1, 5] ?_
 refine W.nil 5 5 3 1 (by simp) (by decide) (fun K hK => ?_)
 refine W.lw [0, 1, 5] hK ?_; clear hK K; simp
 refine aA [0, 1, 5, 6] ?_
 refine aL [0, 1, 5, 6, 7] ?_
 refine W.block ?_
 obtain ⟨M, hM⟩ : ∃ M, M = max a.length b.length := ⟨_, rfl⟩
 refine W.bC (fun k σ => ∃ (i : Nat) (c : Int) (z : List Int) (ver : Nat) (rows : Pm.Rows) (clk : Nat), σ = ⟨fa [(0, aI aF a), (1, aI aF b), (5, .own 5 ver 0 i), (6, .int .i64 c), (7, .int .i64 i)], rows, clk⟩ ∧
  rows 5 = some ⟨ver, 3, 1, emap aF z⟩ ∧ k = 2 * (M - i) + c.toNat ∧ z.length = i ∧ (i ≤ M ∨ (i = M + 1 ∧ c = 0 ∧ 10000 ^ M ≤ V 10000 a + V 10000 b)) ∧ cR 10000 z ∧ 0 ≤ c ∧ c ≤ 1 ∧
  V 10000 z + 10000 ^ i * c = V 10000 (a.take i) + V 10000 (b.take i)) (2 * M) ?_ ?_
 ·exact ⟨_, .refl, 0, 0, [], _, _, _, rfl, by simp [emap], by simp, rfl, by omega, cR.nil, by omega, by omega, by simp [V]⟩
 rintro k _ ⟨i, c, z, ver, rows, clk, rfl, hr, hk, hz, hi, lz, xC, u0, hV⟩
 refine W.seq ?_
 refine W.gM (fun σ => ∃ (t : Bool), σ = ⟨fa [(0, aI aF a), (1, aI aF b), (5, .own 5 ver 0 i), (6, .int .i64 c), (7, .int .i64 i), (21, .bool t)], rows, clk⟩ ∧ (t = true ↔ i < M ∨ 0 < c)) (fun K hK => ?_) ?_
 ·simp
  by_cases h1 : i < a.length
  ·simp (disch := omega) [gw, h1]
   exact hK _ _ (aB _ [0, 1, 5, 6, 7, 21]) ⟨_, rfl, by simp; omega⟩
  ·by_cases h2 : i < b.length
   ·simp (disch := omega) [gw, h1, h2]
    exact hK _ _ (aB _ [0, 1, 5, 6, 7, 21]) ⟨_, rfl, by simp; omega⟩
   ·simp (disch := omega) [gw, h1, h2]
    exact hK _ _ (aB _ [0, 1, 5, 6, 7, 21]) ⟨_, rfl, by simp; omega⟩
 rintro _ ⟨t, rfl, ht⟩
 refine bE ?_ ?_ <;> intro h
 ·have ht := ht.1 h
  refine lG ?_
  refine W.gS (fun σ => ∃ (s : Int), σ = ⟨fa [(0, aI aF a), (1, aI aF b), (5, .own 5 ver 0 i), (6, .int .i64 s), (7, .int .i64 i)], rows, clk⟩ ∧ 0 ≤ s ∧ s ≤ c + 9999 ∧ (a.length ≤ i → s = c) ∧
   V 10000 z + 10000 ^ i * s = V 10000 (a.take (i + 1)) + V 10000 (b.take i)) ?_ ?_
  ·
   refine aA [0, 1, 5, 6, 7, 27] ?_
   refine bE ?_ ?_ <;> intro h
   ·simp at h
    have hx := la.nth h
    refine W.b8 (fun K hK => ?_); simp (disch := omega) [gw]
    refine hK _ ⟨_, aB _ [0, 1, 5, 6, 7], _, rfl, by omega, by omega, by omega, ?_⟩
    rw [aT h]; grind
   ·simp at h
    refine W.skip ?_
    refine ⟨_, aB _ [0, 1, 5, 6, 7], _, rfl, by omega, by omega, fun _ => rfl, ?_⟩
    rw [aZ (l := a) (by omega)]
    rwa [aZ (l := a) (by omega)] at hV
  rintro _ ⟨s, rfl, JU, p7, hsc, hsV⟩
  refine W.gS (fun σ => ∃ (u : Int), σ = ⟨fa [(0, aI aF a), (1, aI aF b), (5, .own 5 ver 0 i), (6, .int .i64 u), (7, .int .i64 i)], rows, clk⟩ ∧ 0 ≤ u ∧ u ≤ s + 9999 ∧ (b.length ≤ i → u = s) ∧
   V 10000 z + 10000 ^ i * u = V 10000 (a.take (i + 1)) + V 10000 (b.take (i + 1))) ?_ ?_
  ·
   refine aA [0, 1, 5, 6, 7, 37] ?_
   refine bE ?_ ?_ <;> intro h
   ·simp at h
    have hx := lb.nth h
    refine W.b8 (fun K hK => ?_); simp (disch := omega) [gw]
    refine hK _ ⟨_, aB _ [0, 1, 5, 6, 7], _, rfl, by omega, by omega, by omega, ?_⟩
    rw [aT h]; grind
   ·simp at h
    refine W.skip ?_
    refine ⟨_, aB _ [0, 1, 5, 6, 7], _, rfl, by omega, by omega, fun _ => rfl, ?_⟩
    rw [aZ (l := b) (by omega)]
    rwa [aZ (l := b) (by omega)] at hsV
  rintro _ ⟨u, rfl, hu0, hu1, huc, huV⟩
  refine W.sr ?_
  simp (disch := omega) [gw, hr, hz]
  refine bH [0, 1, 5, 6, 7] ?_
  refine W.b8 (fun K hK => ?_); simp (disch := omega) [gw]; refine W.lw [0, 1, 5, 6, 7] hK ?_; clear hK K; simp
  refine W.b8 (fun K hK => ?_); simp (disch := omega) [gw]
  refine hK _ ⟨2 * (M - (i + 1)) + (u / 10000).toNat, _, aB _ [0, 1, 5, 6, 7], ?_, i + 1, u / 10000, z ++ [u % 10000], _, _, _, rfl, by simp, rfl, by simp [hz], ?_, cR.append.2 ⟨lz, cR.cons.2 ⟨by omega, cR.nil⟩⟩, by omega, by omega, ?_⟩
  ·rcases Nat.lt_or_ge i M with h1 | h1
   ·omega
   ·have := hsc (by omega); have := huc (by omega); omega
  ·rcases Nat.lt_or_ge i M with h1 | h1
   ·omega
   ·right
    have hc : c = 1 := by omega
    have hzn := bN (by decide) lz
    rw [aZ (l := a) (by omega), aZ (l := b) (by omega), hc] at hV
    have hiM : i = M := by omega
    rw [← hiM]
    refine ⟨rfl, by have := hsc (by omega); have := huc (by omega); omega, ?_⟩
    rw [← hV]
    omega
  ·rw [dU, nB, hz, ← huV, Int.pow_succ]
   have := Int.emod_add_mul_ediv u 10000
   grind
 ·have ht : ¬ (i < M ∨ 0 < c) := fun h2 => by simp [ht.2 h2] at h
  have hc : c = 0 := by omega
  subst hc
  refine fB ?_
  refine aA [4] ?_
  refine W.ret ?_
  rw [aZ (l := a) (by omega), aZ (l := b) (by omega)] at hV
  have e : V 10000 a + V 10000 b = V 10000 z := by rw [← hV]; simp
  have cz : aN z = z := by
   refine LS (by decide) lz fun h0 => ?_
   rw [hz, ← e]
   rcases hi with h1 | ⟨h1, _, h2⟩
   ·have hna := bN (by decide) la
    have hnb := bN (by decide) lb
    have tV : 0 < i := by rw [← hz]; exact List.length_pos_iff.2 h0
    rcases Nat.le_total b.length a.length with h3 | h3
    ·have := kJ (b := 10000) (by decide) la ca (by intro h5; rw [h5] at h3 hM; simp at h3; simp [h3] at hM; omega)
     rw [show i - 1 = a.length - 1 by omega]; omega
    ·have := kJ (b := 10000) (by decide) lb cb (by intro h5; rw [h5] at h3 hM; simp at h3; simp [h3] at hM; omega)
     rw [show i - 1 = b.length - 1 by omega]; omega
   ·rw [h1]; exact h2
  have ez : z.take i = z := bJ hz
  rw [e, ← tU lz, cz]
  simp [go, hr, ez]
theorem abz (x y : Int) (hx : 0 ≤ x) (hy : 0 ≤ y) (zx : Z x) (zy : Z y) : aG env.P 228 [Dn x, Dn y] (Dn (x + y)) := by
 have := W4 (aS DD x.toNat) (aS DD y.toNat) (by have := jX hx; omega) (by have := jX hy; omega) (lV _) (lV _) (jC N9 _) (jC N9 _)
 rwa [vL hx, vL hy] at this
theorem W5 (a b : List Int) (ha : a.length < 1099511627776) (hb : b.length ≤ a.length) (la : cR 10000 a) (lb : cR 10000 b) (hle : V 10000 b ≤ V 10000 a) : aG env.P 230 [aI aF a, aI aF b] (Dn (V 10000 a - V 10000 b)) := by
 refine bV [(0, aI aF a), (1, aI aF b)] Tryz.func230 ?_
 refine aA [0, 1] ?_
 refine aA [0, 1, 5] ?_
 refine aA [0, 1, 5, 6] ?_
 refine aL [0, 1, 5, 6, 13, 14] ?_
 refine W.block ?_
 refine W.bC (fun k σ => ∃ (i : Nat) (c : Int) (z : List Int) (ver : Nat) (rows : Pm.Rows) (clk : Nat), σ = ⟨fa [(0, aI aF a), (1, aI aF b), (5, .own 11 ver 0 a.length), (6, .int .i64 c), (13, .int .i64 a.length), (14, .int .i64 i)], rows, clk⟩ ∧
  rows 11 = some ⟨ver, 3, 1, emap aF z⟩ ∧ k = a.length - i ∧ i ≤ a.length ∧ z.length = a.length ∧ cR 10000 z ∧ 0 ≤ c ∧ c ≤ 1 ∧
  V 10000 (z.take i) - 10000 ^ i * c = V 10000 (a.take i) - V 10000 (b.take i)) a.length ?_ ?_
 ·exact ⟨_, .refl, 0, 0, List.replicate a.length 0, _, _, _, rfl, by simp, by omega, by omega, by simp, cR.rep (by decide) _, by omega, by omega, by simp [V]⟩
 rintro k _ ⟨i, c, z, ver, rows, clk, rfl, hr, hk, hi, hz, lz, xC, u0, hV⟩
 refine cS [0, 1, 5, 6, 13, 14, 15] ?_
 refine bE ?_ ?_ <;> intro h
 ·simp at h
  have hx := la.nth h
  refine lG ?_
  refine aA [0, 1, 5, 6, 7, 13, 14] ?_
  refine aA [0, 1, 5, 7, 8, 13, 14] ?_
  refine W.gS (fun σ => ∃ (s : Int), σ = ⟨fa [(0, aI aF a), (1, aI aF b), (5, .own 11 ver 0 a.length), (7, .int .i64 i), (8, .int .i64 s), (13, .int .i64 a.length), (14, .int .i64 i)], rows, clk⟩ ∧ -10000 ≤ s ∧ s ≤ 9999 ∧
   V 10000 (z.take i) + 10000 ^ i * s = V 10000 (a.take (i + 1)) - V 10000 (b.take (i + 1))) ?_ ?_
  ·
   refine aA [0, 1, 5, 7, 8, 13, 14, 26] ?_
   refine bE ?_ ?_ <;> intro h
   ·simp at h
    have hy := lb.nth h
    refine W.b8 (fun K hK => ?_); simp (disch := omega) [gw]
    refine hK _ ⟨_, aB _ [0, 1, 5, 7, 8, 13, 14], _, rfl, by omega, by omega, ?_⟩
    rw [aT (l := a) (by omega), aT h]; grind
   ·simp at h
    refine W.skip ?_
    refine ⟨_, aB _ [0, 1, 5, 7, 8, 13, 14], _, rfl, by omega, by omega, ?_⟩
    rw [aT (l := a) (by omega), aZ (l := b) (by omega)]
    rw [aZ (l := b) (by omega)] at hV
    grind
  rintro _ ⟨s, rfl, JU, p7, hsV⟩
  refine aA [0, 1, 5, 6, 7, 8, 13, 14] ?_
  refine W.gS (fun σ => ∃ (u c : Int), σ = ⟨fa [(0, aI aF a), (1, aI aF b), (5, .own 11 ver 0 a.length), (6, .int .i64 c), (7, .int .i64 i), (8, .int .i64 u), (13, .int .i64 a.length), (14, .int .i64 i)], rows, clk⟩ ∧ 0 ≤ u ∧ u ≤ 9999 ∧ 0 ≤ c ∧ c ≤ 1 ∧ s = u - 10000 * c) ?_ ?_
  ·
   refine aA [0, 1, 5, 6, 7, 8, 13, 14, 34] ?_
   refine bE ?_ ?_ <;> intro h
   ·simp at h
    refine aA [0, 1, 5, 7, 8, 13, 14] ?_
    refine W.b8 (fun K hK => ?_); simp (disch := omega) [gw]
    exact hK _ ⟨_, aB _ [0, 1, 5, 6, 7, 8, 13, 14], _, 1, rfl, by omega, by omega, by omega, by omega, by omega⟩
   ·simp at h
    refine W.skip ?_
    exact ⟨_, aB _ [0, 1, 5, 6, 7, 8, 13, 14], _, 0, rfl, by omega, by omega, by omega, by omega, by omega⟩
  rintro _ ⟨u, c', rfl, hu0, hu1, awv, aww, hu⟩
  refine W.b8 (fun K hK => ?_); simp (disch := omega) [gw, hr]
  refine W.lw [0, 1, 5, 6, 13, 14] hK ?_; clear hK K; simp
  refine W.b8 (fun K hK => ?_); simp (disch := omega) [gw]
  refine hK _ ⟨a.length - (i + 1), _, aB _ [0, 1, 5, 6, 13, 14], by omega, i + 1, c', z.set i u, ver, _, _, rfl, by simp, by omega, by omega, by simpa using hz, lz.set (by omega), awv, aww, ?_⟩
  rw [eU (by omega), ← hsV, hu, Int.pow_succ]
  grind
 ·simp at h
  have l6 : i = a.length := by omega
  subst l6
  have ez : z.take a.length = z := bJ hz
  refine fB ?_
  refine W.sr ?_
  simp (disch := omega) [gw, hr, ez]
  refine aD (oO z (by omega)) ?_
  simp (disch := omega) [gw]
  refine bH [4] ?_
  refine W.ret ?_
  rw [ez, aZ (l := a) (by omega), aZ (l := b) (by omega)] at hV
  have h1 := o6 (by decide) lz
  rw [hz] at h1
  have hc : c = 0 := by
   rcases (show c = 0 ∨ c = 1 by omega) with h2 | h2
   ·exact h2
   ·subst h2; omega
  subst hc
  have e : V 10000 a - V 10000 b = V 10000 z := by rw [← hV]; simp
  rw [e, ← tU lz]
  simp [go]
theorem B8 (x y : Int) (hy : 0 ≤ y) (hle : y ≤ x) (zx : Z x) : aG env.P 230 [Dn x, Dn y] (Dn (x - y)) := by
 have hlen : (aS DD y.toNat).length ≤ (aS DD x.toNat).length := by
  have h1 := cZ (b := DD) N9 (x := y) (y := x) (by omega)
  simp only [sz] at h1
  rwa [show y.natAbs = y.toNat by omega, show x.natAbs = x.toNat by omega] at h1
 have := W5 (aS DD x.toNat) (aS DD y.toNat) (by have := jX (show 0 ≤ x by omega); omega) hlen (lV _) (lV _) (by rw [vL hy, vL (by omega)]; exact hle)
 rwa [vL hy, vL (by omega)] at this
theorem alu {a b : Int} (ha : 0 ≤ a ∧ a < 10000) (hb : 0 ≤ b ∧ b < 10000) : 0 ≤ a * b ∧ a * b ≤ 99980001 := by
 refine ⟨Int.mul_nonneg ha.1 hb.1, ?_⟩
 have := Int.mul_le_mul (show a ≤ 9999 by omega) (show b ≤ 9999 by omega) hb.1 (by decide)
 simpa using this
theorem W6 (x y : List Int) (hx : x.length < 1099511627776) (hy : y.length < 1099511627776) (lx : cR 10000 x) (ly : cR 10000 y) : aG env.P 147 [aI aF x, aI aF y] (Dn (V 10000 x * V 10000 y)) := by
 refine bV [(0, aI aF x), (1, aI aF y)] Tryz.func147 ?_
 refine aA [0, 1] ?_
 have e : ((x.length : Int) + (y.length : Int)).toNat = x.length + y.length := by omega
 refine W.sr ?_
 simp (disch := omega) [gw, e]
 refine bH [0, 1, 5] ?_
 refine aL [0, 1, 5, 17, 18] ?_
 refine W.block ?_
 refine W.bC (fun k σ => ∃ (i : Nat) (z : List Int) (ver : Nat) (rows : Pm.Rows) (clk : Nat), σ = ⟨fa [(0, aI aF x), (1, aI aF y), (5, .own 15 ver 0 (x.length + y.length)), (17, .int .i64 x.length), (18, .int .i64 i)], rows, clk⟩ ∧
   rows 15 = some ⟨ver, 3, 1, emap aF z⟩ ∧ k = x.length - i ∧ i ≤ x.length ∧ z.length = x.length + y.length ∧ cR 10000 z ∧ (∀ j, i + y.length ≤ j → nth z j = 0) ∧
   V 10000 z = V 10000 (x.take i) * V 10000 y) x.length ?_ ?_
 ·refine ⟨_, .refl, 0, List.replicate (x.length + y.length) 0, _, _, _, rfl, by simp [e], by omega, by omega, by simp, cR.rep (by decide) _, fun j _ => ?_, by simp [V, pQ]⟩
  unfold nth
  cases h : (List.replicate (x.length + y.length) (0 : Int))[j]? with
  | none => rfl
  | some v => have := List.mem_of_getElem? h; simp at this; simp [this]
 rintro k _ ⟨i, z, ver, rows, clk, rfl, hr, hk, hi, hz, lz, n3, hV⟩
 refine cS [0, 1, 5, 17, 18, 19] ?_
 refine bE ?_ ?_ <;> intro h
 ·simp at h
  have hxi := lx.nth h
  refine lG ?_
  refine aA [0, 1, 5, 6, 17, 18] ?_
  refine aA [0, 1, 5, 6, 7, 17, 18] ?_
  refine aA [0, 1, 5, 6, 7, 8, 17, 18] ?_
  refine W.block ?_
  refine W.bC (fun m σ => ∃ (k : Nat) (c : Int) (z : List Int) (ver : Nat) (rows : Pm.Rows) (clk : Nat), σ = ⟨fa [(0, aI aF x), (1, aI aF y), (5, .own 15 ver 0 (x.length + y.length)), (6, .int .i64 i), (7, .int .i64 c), (8, .int .i64 k), (17, .int .i64 x.length), (18, .int .i64 i)], rows, clk⟩ ∧
   rows 15 = some ⟨ver, 3, 1, emap aF z⟩ ∧ m = y.length + 1 - k ∧ (k ≤ y.length ∧ (∀ j, i + y.length ≤ j → nth z j = 0) ∨ k = y.length + 1 ∧ c = 0) ∧ z.length = x.length + y.length ∧ cR 10000 z ∧ (∀ j, i + 1 + y.length ≤ j → nth z j = 0) ∧ 0 ≤ c ∧ c ≤ 9999 ∧
   V 10000 z + 10000 ^ (i + k) * c = V 10000 (x.take i) * V 10000 y + 10000 ^ i * nth x i * V 10000 (y.take k)) (y.length + 1) ?_ ?_
  ·exact ⟨_, .refl, 0, 0, z, ver, _, _, rfl, by simpa using hr, by omega, .inl ⟨by omega, n3⟩, hz, lz, fun j hj => n3 j (by omega), by omega, by omega, by simp [V, hV]⟩
  clear hV n3 lz hz hr z ver rows clk
  rintro m _ ⟨k, c, z, ver, rows, clk, rfl, hr, hm, hky, hz, lz, n3, xC, u0, hV⟩
  refine W.seq ?_
  refine W.gM (fun σ => ∃ (t : Bool), σ = ⟨fa [(0, aI aF x), (1, aI aF y), (5, .own 15 ver 0 (x.length + y.length)), (6, .int .i64 i), (7, .int .i64 c), (8, .int .i64 k), (17, .int .i64 x.length), (18, .int .i64 i), (28, .bool t)], rows, clk⟩ ∧ (t = true ↔ k < y.length ∨ 0 < c)) (fun K hK => ?_) ?_
  ·simp
   by_cases h2 : k < y.length
   ·simp (disch := omega) [gw, h2]
    exact hK _ _ (aB _ [0, 1, 5, 6, 7, 8, 17, 18, 28]) ⟨_, rfl, by simp [h2]⟩
   ·simp (disch := omega) [gw, h2]
    exact hK _ _ (aB _ [0, 1, 5, 6, 7, 8, 17, 18, 28]) ⟨_, rfl, by simp [h2]⟩
  rintro _ ⟨t, rfl, ht⟩
  refine W.cond ⟨_, rfl, fun h2 => ?_, fun h2 => ?_⟩
  ·have ht := ht.1 h2
   obtain ⟨B4, hk1⟩ : k ≤ y.length ∧ (∀ j, i + y.length ≤ j → nth z j = 0) := by
    rcases hky with h3 | h3
    ·exact h3
    ·omega
   have hzk := lz.nth (i := i + k) (by omega)
   have e0 : ((i : Int) + (k : Int)).toNat = i + k := by omega
   refine lG ?_
   refine W.sr ?_
   simp (disch := omega) [gw, hr, e0]
   refine bH [0, 1, 5, 6, 8, 9, 17, 18] ?_
   refine W.gS (fun σ => ∃ (s : Int), σ = ⟨fa [(0, aI aF x), (1, aI aF y), (5, .own 15 ver 0 (x.length + y.length)), (6, .int .i64 i), (8, .int .i64 k), (9, .int .i64 s), (17, .int .i64 x.length), (18, .int .i64 i)], rows, clk⟩ ∧ 0 ≤ s ∧ s ≤ 99999999 ∧ (k = y.length → s = c) ∧
    V 10000 z - 10000 ^ (i + k) * nth z (i + k) + 10000 ^ (i + k) * s = V 10000 (x.take i) * V 10000 y + 10000 ^ i * nth x i * V 10000 (y.take (k + 1))) ?_ ?_
   ·
    refine aA [0, 1, 5, 6, 8, 9, 17, 18, 42] ?_
    refine bE ?_ ?_ <;> intro h
    ·simp at h
     have hyk := ly.nth h
     have hp := alu hxi hyk
     refine W.N7 (fun K hK => ?_); simp (disch := omega) [gw]
     refine hK _ ⟨_, aB _ [0, 1, 5, 6, 8, 9, 17, 18], _, rfl, by omega, by omega, by omega, ?_⟩
     rw [aT h, Int.pow_add]
     rw [Int.pow_add] at hV
     grind
    ·simp at h
     have hkl : k = y.length := by omega
     have h0 := hk1 (i + k) (by omega)
     refine W.skip ?_
     refine ⟨_, aB _ [0, 1, 5, 6, 8, 9, 17, 18], _, rfl, by omega, by omega, by omega, ?_⟩
     rw [aZ (l := y) (by omega)]
     rw [aZ (l := y) (by omega)] at hV
     rw [h0]
     grind
   rintro _ ⟨s, rfl, JU, p7, hsc, hsV⟩
   refine W.sr ?_
   simp (disch := omega) [gw, hr, e0]
   refine bH [0, 1, 5, 6, 8, 9, 17, 18] ?_
   refine W.b8 (fun K hK => ?_); simp (disch := omega) [gw]; refine W.lw [0, 1, 5, 6, 7, 8, 17, 18] hK ?_; clear hK K; simp
   refine W.b8 (fun K hK => ?_); simp (disch := omega) [gw]
   have P5 := FJ (b := 10000) (l := z) (i := i + k) (x := s % 10000) (by omega)
   refine hK _ ⟨y.length + 1 - (k + 1), _, aB _ [0, 1, 5, 6, 7, 8, 17, 18], by omega, k + 1, s / 10000, z.set (i + k) (s % 10000), ver, _, _, rfl, by simp, rfl, ?_, by simpa using hz, lz.set (by omega), fun j hj => ?_, by omega, by omega, ?_⟩
   ·rcases Nat.lt_or_ge k y.length with h3 | h3
    ·left
     refine ⟨by omega, fun j hj => ?_⟩
     rw [gG (by omega)]; exact hk1 j hj
    ·right
     have := hsc (by omega)
     exact ⟨by omega, by omega⟩
   ·rw [gG (by omega)]; exact n3 j hj
   ·rw [P5, ← hsV, show i + (k + 1) = (i + k) + 1 by omega, Int.pow_succ]
    have := Int.emod_add_mul_ediv s 10000
    grind
  ·have ht : ¬ (k < y.length ∨ 0 < c) := fun h3 => by simp [ht.2 h3] at h2
   have hc : c = 0 := by omega
   subst hc
   refine fB ?_
   refine W.b8 (fun K hK => ?_); simp (disch := omega) [gw]
   refine hK _ ⟨x.length - (i + 1), _, aB _ [0, 1, 5, 17, 18], by omega, i + 1, z, ver, _, _, rfl, hr, by omega, by omega, hz, lz, n3, ?_⟩
   rw [aT h]
   rw [aZ (l := y) (by omega)] at hV
   grind
 ·simp at h
  have l6 : i = x.length := by omega
  subst l6
  have wT : List.take (x.length + y.length) z = z := List.take_of_length_le (by omega)
  refine fB ?_
  refine W.sr ?_
  simp (disch := omega) [gw, hr, wT]
  refine aD (oO z (by omega)) ?_
  simp (disch := omega) [gw]
  refine bH [4] ?_
  refine W.ret ?_
  rw [aZ (Nat.le_refl _)] at hV
  rw [← hV, ← tU lz]
  simp
theorem abA (x y : Int) (hx : 0 ≤ x) (hy : 0 ≤ y) (zx : Z x) (zy : Z y) : aG env.P 147 [Dn x, Dn y] (Dn (x * y)) := by
 have := W6 (aS DD x.toNat) (aS DD y.toNat) (by have := jX hx; omega) (by have := jX hy; omega) (lV _) (lV _)
 rwa [vL hx, vL hy] at this
theorem LV {x : Int} (h : Z x) : Z (x.natAbs : Int) := by simpa [Z, sz] using h
theorem mP (n : Nat) (neg : Bool) : aG env.P 72 [aI aF (aS DD n), .bool neg] (RI (if neg = true then -(n : Int) else n)) := rY n (by omega) neg
theorem W7 (x y : Int) : (if decide (x < 0) != decide (y < 0) then -((x.natAbs * y.natAbs : Nat) : Int) else ((x.natAbs * y.natAbs : Nat) : Int)) = x * y := by
 rw [Int.natCast_mul]
 by_cases h1 : x < 0 <;> by_cases h2 : y < 0
 ·simp only [h1, h2, show (x.natAbs : Int) = -x by omega, show (y.natAbs : Int) = -y by omega]; simp <;> grind
 ·simp only [h1, h2, show (x.natAbs : Int) = -x by omega, show (y.natAbs : Int) = y by omega]; simp <;> grind
 ·simp only [h1, h2, show (x.natAbs : Int) = x by omega, show (y.natAbs : Int) = -y by omega]; simp <;> grind
 ·simp only [h1, h2, show (x.natAbs : Int) = x by omega, show (y.natAbs : Int) = y by omega]; simp <;> grind
theorem eH (x y : Int) (zx : Z x) (zy : Z y) : aG env.P 67 [RI x, RI y] (RI (x * y)) := by
 refine bV [(0, RI x), (1, RI y)] Tryz.func67 ?_
 refine aA [2, 3, 4] ?_
 refine oE ?_
 refine aD (abA x.natAbs y.natAbs (by omega) (by omega) (LV zx) (LV zy)) ?_
 have e : ((x.natAbs : Int) * y.natAbs).toNat = x.natAbs * y.natAbs := by rw [← Int.natCast_mul]; exact Int.toNat_natCast _
 simp only [Dn, e]
 obtain ⟨m, hm⟩ : ∃ m, m = x.natAbs * y.natAbs := ⟨_, rfl⟩
 rw [← hm]
 simp (disch := omega) [gw]
 refine aD (mP m (decide (x < 0) != decide (y < 0))) ?_
 have e2 := W7 x y
 rw [← hm] at e2
 rw [e2]
 simp (disch := omega) [gw]
 refine bH [4] ?_
 exact bT
theorem B9 (x y : Int) (zx : Z x) (zy : Z y) : aG env.P 167 [RI x, RI y] (RI (x + y)) := by
 refine bV [(0, RI x), (1, RI y)] Tryz.func167 ?_
 refine aA [2, 3, 4] ?_
 refine aL [2, 3, 4, 9] ?_
 refine bE ?_ ?_ <;> intro h
 ·simp at h
  refine oE ?_
  refine aD (abz x.natAbs y.natAbs (by omega) (by omega) (LV zx) (LV zy)) ?_
  have e : ((x.natAbs : Int) + y.natAbs).toNat = x.natAbs + y.natAbs := by omega
  simp only [Dn, e]
  obtain ⟨m, hm⟩ : ∃ m, m = x.natAbs + y.natAbs := ⟨_, rfl⟩
  rw [← hm]
  simp (disch := omega) [gw]
  refine aD (mP m _) ?_
  have e2 : (if decide (x < 0) = true then -(m : Int) else m) = x + y := by by_cases h1 : x < 0 <;> simp [h1] <;> omega
  rw [e2]
  simp (disch := omega) [gw]
  refine bH [4] ?_
  exact bT
 ·simp at h
  refine W.skip ?_
  refine W.seq ?_
  refine iU ?_
  refine aD (LU x.natAbs y.natAbs (by omega) (by omega) (LV zx) (LV zy)) ?_
  simp (disch := omega) [gw]
  refine bH [2, 3, 4, 23] ?_
  refine W.cond ⟨_, rfl, fun h2 => ?_, fun h2 => ?_⟩
  ·have h2 : (y.natAbs : Int) ≤ x.natAbs := qP.1 (of_decide_eq_true h2)
   refine oE ?_
   refine aD (B8 x.natAbs y.natAbs (by omega) h2 (LV zx)) ?_
   have e : ((x.natAbs : Int) - y.natAbs).toNat = x.natAbs - y.natAbs := by omega
   simp only [Dn, e]
   obtain ⟨m, hm⟩ : ∃ m, m = x.natAbs - y.natAbs := ⟨_, rfl⟩
   rw [← hm]
   simp (disch := omega) [gw]
   refine aD (mP m _) ?_
   have e2 : (if decide (x < 0) = true then -(m : Int) else m) = x + y := by by_cases h1 : x < 0 <;> simp [h1] <;> omega
   rw [e2]
   simp (disch := omega) [gw]
   refine bH [4] ?_
   exact bT
  ·have h2 : (x.natAbs : Int) < y.natAbs := by
    have h3 := of_decide_eq_false h2
    rw [qP] at h3; omega
   refine W.skip ?_
   refine oE ?_
   refine aD (B8 y.natAbs x.natAbs (by omega) (by omega) (LV zy)) ?_
   have e : ((y.natAbs : Int) - x.natAbs).toNat = y.natAbs - x.natAbs := by omega
   simp only [Dn, e]
   obtain ⟨m, hm⟩ : ∃ m, m = y.natAbs - x.natAbs := ⟨_, rfl⟩
   rw [← hm]
   simp (disch := omega) [gw]
   refine aD (mP m _) ?_
   have e2 : (if decide (y < 0) = true then -(m : Int) else m) = x + y := by by_cases h1 : y < 0 <;> simp [h1] <;> omega
   rw [e2]
   simp (disch := omega) [gw]
   refine bH [4] ?_
   exact bT
theorem awx {x : Int} (h : Z x) : Z (-x) := by simpa [Z, o7] using h
theorem LW (x y : Int) (zx : Z x) (zy : Z y) : aG env.P 146 [RI x, RI y] (RI (x - y)) := by
 have hn := qX y
 have zn := awx zy
 obtain ⟨m, hm⟩ : ∃ m, m = -y := ⟨_, rfl⟩
 rw [← hm] at hn zn
 have e : x - y = x + m := by omega
 rw [e]
 refine bV [(0, RI x), (1, RI y)] Tryz.func146 ?_
 refine aA [2, 3, 4] ?_
 refine oE ?_
 refine bZ hn ?_
 refine cI [4] (B9 x m zx zn) ?_
 exact bT
theorem W8 (x y : Int) : (x - y).sign = dQ x y := by
 rcases Int.lt_trichotomy x y with h | h | h
 ·rw [nD h, Int.sign_eq_neg_one_of_neg (by omega)]
 ·subst h; simp [zO]
 ·rw [nE h, Int.sign_eq_one_of_pos (by omega)]
theorem abB (x y : Int) (zx : Z x) (zy : Z y) : aG env.P 66 [RI x, RI y] (.int .i64 (dQ x y)) := by
 refine bV [(0, RI x), (1, RI y)] Tryz.func66 ?_
 refine aA [2, 3] ?_
 refine iU ?_
 refine bZ (LW x y zx zy) ?_
 refine aD (FU (x - y)) ?_
 rw [W8]
 simp (disch := omega) [gw]
 refine bH [4] ?_
 exact bT
end Go.Proofs.YtelhfbikiccfkaaGreat
