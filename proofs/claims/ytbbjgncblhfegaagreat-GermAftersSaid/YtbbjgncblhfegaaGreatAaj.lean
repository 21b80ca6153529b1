import Derived.Test.YtbbjgncblhfegaaGreatAaf
import Derived.Test.YtbbjgncblhfegaaGreatAai
set_option linter.unusedSimpArgs false
set_option linter.unusedVariables false
namespace Go.Proofs.YtbbjgncblhfegaaGreat
open Go Pm
theorem ZM {t : Int} (h0 : 0 < t) (h1 : t < 4294967296) : ∃ s : Nat, s ≤ 31 ∧ (32 : Int) - nb t.toNat = s ∧ 2147483648 ≤ t * 2 ^ s ∧ (t + 1) * 2 ^ s ≤ 4294967296 := by
 have h2 : nb t.toNat ≤ 32 := oO.2 (by omega)
 have h3 : 1 ≤ nb t.toNat := by
  rcases Nat.eq_zero_or_pos (nb t.toNat) with h | h
  ·have := oO.1 (Nat.le_of_eq h); omega
  ·exact h
 obtain ⟨k, hk⟩ : ∃ k, nb t.toNat = k + 1 := ⟨nb t.toNat - 1, by omega⟩
 have h4 : t.toNat < 2 ^ (k + 1) := oO.1 (Nat.le_of_eq hk)
 have h5 : 2 ^ k ≤ t.toNat := by
  rcases Nat.lt_or_ge t.toNat (2 ^ k) with h | h
  ·have := oO.2 h; omega
  ·exact h
 have e1 : (2 : Int) ^ (k + 1) * 2 ^ (31 - k) = 4294967296 := by rw [← Int.pow_add, show k + 1 + (31 - k) = 32 by omega]; rfl
 have e2 : (2 : Int) ^ k * 2 ^ (31 - k) = 2147483648 := by rw [← Int.pow_add, show k + (31 - k) = 31 by omega]; rfl
 have hp : (0 : Int) < 2 ^ (31 - k) := Int.pow_pos (by decide)
 have q1 : ((2 ^ k : Nat) : Int) = (2 : Int) ^ k := Int.natCast_pow 2 k
 have q2 : ((2 ^ (k + 1) : Nat) : Int) = (2 : Int) ^ (k + 1) := Int.natCast_pow 2 (k + 1)
 refine ⟨31 - k, by omega, by omega, ?_, ?_⟩
 ·have := Int.mul_le_mul_of_nonneg_right (show (2 : Int) ^ k ≤ t by omega) (Int.le_of_lt hp)
  omega
 ·have := Int.mul_le_mul_of_nonneg_right (show t + 1 ≤ (2 : Int) ^ (k + 1) by omega) (Int.le_of_lt hp)
  omega
theorem T9 {y : List Int} (hc : aM y = y) (h : y ≠ []) : nth y (y.length - 1) ≠ 0 := by
 intro h0
 have hl : 0 < y.length := List.length_pos_iff.2 h
 have e : y = y.take (y.length - 1) ++ [0] := by
  have := a8 (l := y) (i := y.length - 1) (by omega)
  rw [h0, show y.length - 1 + 1 = y.length by omega, List.take_length] at this
  exact this
 have h1 := iP (y.take (y.length - 1))
 rw [← e, hc] at h1
 have h2 := bM (y.take (y.length - 1))
 rw [← h1, List.length_take] at h2
 omega
theorem ZN : N 0 = us [] := rfl
theorem ZO {m i : Nat} {X D : List Int} {Y g : Int} (lX : b6 4294967296 X) (lD : b6 4294967296 D) (hYb : Y < 4294967296 ^ (m + 2)) (hY0 : 0 < Y) (sE : i + m + 3 ≤ X.length) (hDl : D.length = (X.drop i).length) (hDd : D.drop (m + 3) = (X.drop i).drop (m + 3))
  (hg : g = V 4294967296 ((X.drop i).take (m + 3)) / Y) (hDv : V 4294967296 (D.take (m + 3)) = V 4294967296 ((X.drop i).take (m + 3)) % Y) (eZ : V 4294967296 (X.drop (i + 1)) < Y) :
  V 4294967296 ((X.take i ++ D).drop i) < Y ∧ V 4294967296 (X.take i ++ D) = V 4294967296 X - 4294967296 ^ i * (g * Y) := by
 have hl : (X.take i).length = i := by simp; omega
 have e1 : (X.take i ++ D).drop i = D := by rw [List.drop_append, hl, List.drop_of_length_le (by omega)]; simp
 have hD3 := i9 (b := 4294967296) D (m + 3) (by rw [hDl]; simp; omega)
 have hX3 := i9 (b := 4294967296) (X.drop i) (m + 3) (by simp; omega)
 have hXi := i9 (b := 4294967296) X i (by omega)
 have hz : V 4294967296 ((X.drop i).drop (m + 3)) = 0 := by
  have h1 := i9 (b := 4294967296) (X.drop (i + 1)) (m + 2) (by simp; omega)
  have h2 : (X.drop (i + 1)).drop (m + 2) = (X.drop i).drop (m + 3) := by
   rw [List.drop_drop, List.drop_drop]; congr 1; omega
  have h3 := bF (b := 4294967296) (by decide) ((lX.drop (i + 1)).take (m + 2))
  have h4 := bF (b := 4294967296) (by decide) ((lX.drop i).drop (m + 3))
  rw [h2] at h1
  rcases Int.lt_or_le 0 (V 4294967296 ((X.drop i).drop (m + 3))) with h5 | h5
  ·exfalso
   have := Int.mul_le_mul_of_nonneg_left (show 1 ≤ V 4294967296 ((X.drop i).drop (m + 3)) by omega) (show 0 ≤ (4294967296 : Int) ^ (m + 2) by omega)
   omega
  ·omega
 rw [hDd, hz, Int.mul_zero, Int.add_zero] at hD3
 rw [hz, Int.mul_zero, Int.add_zero] at hX3
 have hm := Int.emod_lt_of_pos (V 4294967296 ((X.drop i).take (m + 3))) hY0
 have TX := Int.mul_ediv_add_emod (V 4294967296 ((X.drop i).take (m + 3))) Y
 rw [← hg, ← hDv, ← hX3, ← hD3] at TX
 refine ⟨by rw [e1, hD3, hDv]; exact hm, ?_⟩
 rw [dF, hl, hXi, ← TX]
 grind
theorem I3 (a b : List Int) (ha : qP a) (hb : qP b) (h0 : V 4294967296 b = 0) : aI env.P 251 [us a, us b] (.eP [us [], us [], .int .i64 2]) := by
 have hlb := hb.len
 have M8 := ha.len
 have hcb := bM b
 have hy : aM b = [] := by rw [pK fS hb.wJ]; show aQ LL (V 4294967296 b).toNat = []; rw [h0]; rfl
 refine aB (E := env) (fun _ => 0) [(0, us a), (1, us b)] Tryz.func251 rfl (by kernel_rfl) (by kernel_rfl) (show 2 ≤ 98 by decide) (by simp) ?_
 refine W.sr ?_; simp (disch := omega) [gw]; refine W.lx [0, 1] ?_; simp
 refine W.sr ?_
 simp (disch := omega) [gw]
 refine aA (cR a (by omega)) ?_
 simp (disch := omega) [gw]
 refine aA (cR b (by omega)) ?_
 simp (disch := omega) [gw]
 refine W.lx [0, 1] ?_; simp
 rw [hy]
 refine W.seq ?_
 refine W.block ?_
 refine W.sr ?_; simp (disch := omega) [gw]; refine W.lx [0, 1, 18] ?_; simp
 refine W.cond ⟨_, rfl, fun h => ?_, fun h => ?_⟩
 ·refine W.sr ?_; simp (disch := omega) [gw]; refine W.lx [4, 5, 6] ?_; simp
  refine W.ret ?_
  simp [go]
  rfl
 ·cases h
theorem zN (a b : List Int) (ha : qP a) (hb : qP b) (h0 : V 4294967296 b ≠ 0) (M8 : a.length < 1099511627774) (hlb : b.length < 1099511627774) :
  aI env.P 251 [us a, us b] (.eP [N (V 4294967296 a / V 4294967296 b), N (V 4294967296 a % V 4294967296 b), .int .i64 0]) := by
 have hca := bM a
 have hcb := bM b
 have hVa := cA (b := 4294967296) a
 have hVb := cA (b := 4294967296) b
 have lx := dG ha.wJ
 have ly := dG hb.wJ
 have cx := dI a
 have cy := dI b
 rw [← hVa, ← hVb]
 rw [← hVb] at h0
 refine aB (E := env) (fun _ => 0) [(0, us a), (1, us b)] Tryz.func251 rfl (by kernel_rfl) (by kernel_rfl) (show 2 ≤ 98 by decide) (by simp) ?_
 refine W.sr ?_; simp (disch := omega) [gw]; refine W.lx [0, 1] ?_; simp
 refine W.sr ?_
 simp (disch := omega) [gw]
 refine aA (cR a (by omega)) ?_
 simp (disch := omega) [gw]
 refine aA (cR b (by omega)) ?_
 simp (disch := omega) [gw]
 refine W.lx [0, 1] ?_; simp
 have hxl : (aM a).length < 1099511627774 := by omega
 have LC : (aM b).length < 1099511627774 := by omega
 clear hVa hVb hca hcb
 generalize aM a = x at *
 generalize aM b = y at *
 have hyn : y ≠ [] := fun h => h0 (by rw [h]; rfl)
 have hyp : 0 < y.length := List.length_pos_iff.2 hyn
 have hY0 : 0 < V 4294967296 y := by have := bF (b := 4294967296) (by decide) ly; omega
 have hX0 := bF (b := 4294967296) (by decide) lx
 refine W.seq ?_
 refine W.block ?_
 refine W.sr ?_; simp (disch := omega) [gw]; refine W.lx [0, 1, 18] ?_; simp
 refine W.cond ⟨_, rfl, fun h => ?_, fun h => ?_⟩
 ·exfalso; simp at h; exact hyn h
 clear h
 refine W.sr ?_; simp (disch := omega) [gw]; refine W.lx [0, 1, 22] ?_; simp
 refine W.cond ⟨_, rfl, fun h => ?_, fun h => ?_⟩
 ·have h : x.length < y.length := by simp at h; omega
  have uQ := iQ (b := 4294967296) (by decide) lx ly cy h
  rw [Int.ediv_eq_zero_of_lt hX0 uQ, Int.emod_eq_of_lt hX0 uQ]
  refine W.sr ?_
  simp (disch := omega) [gw]
  refine aA (lI x (by omega) lx) ?_
  simp (disch := omega) [gw]
  refine W.lx [4, 5, 6] ?_; simp
  refine W.ret ?_
  simp [go]
  rfl
 have uQ : y.length ≤ x.length := by simp at h; omega
 clear h
 refine W.sr ?_; simp (disch := omega) [gw]; refine W.lx [0, 1, 30] ?_; simp
 refine W.cond ⟨_, rfl, fun h => ?_, fun h => ?_⟩
 ·have h : y.length = 1 := by simp at h; omega
  obtain ⟨w, rfl⟩ : ∃ w, y = [w] := match y, h with | [w], _ => ⟨w, rfl⟩
  have hw := (b6.cons.1 ly).1
  have hV1 : V 4294967296 [w] = w := lZ
  rw [hV1] at h0 hY0 ⊢
  have K8 := Int.emod_nonneg (V 4294967296 x) h0
  have G1 := Int.emod_lt_of_pos (V 4294967296 x) hY0
  have gX := adM x w (by omega) lx hY0 hw.2
  have lr : b6 4294967296 [V 4294967296 x % w] := b6.cons.2 ⟨⟨K8, by omega⟩, b6.nil⟩
  have lS := cR [V 4294967296 x % w] (by simp)
  rw [tH lr, lZ] at lS
  have hnw : nth [w] 0 = w := rfl
  generalize V 4294967296 x / w = qq at *
  generalize V 4294967296 x % w = rr at *
  refine W.sr ?_
  simp (disch := omega) [gw, hnw]
  refine aA gX ?_
  simp (disch := omega) [gw]
  refine W.lx [7, 8] ?_; simp
  refine W.sr ?_
  simp (disch := omega) [gw]
  refine aA lS ?_
  simp (disch := omega) [gw]
  refine W.lx [4, 5, 6] ?_; simp
  refine W.ret ?_
  simp [go]
 have hy2 : 2 ≤ y.length := by simp at h; omega
 clear h
 obtain ⟨m, hm⟩ : ∃ m, y.length = m + 2 := ⟨y.length - 2, by omega⟩
 have htn := T9 cy hyn
 rw [show y.length - 1 = m + 1 by omega] at htn
 have htl := ly.nth (i := m + 1) (by omega)
 obtain ⟨s, adT, hsn, qO, hs2⟩ := ZM (t := nth y (m + 1)) (by omega) htl.2
 have hLZ := ajk (nth y (m + 1)) htl.1 htl.2
 rw [hsn] at hLZ
 have hp : (0 : Int) < 2 ^ s := Int.pow_pos (by decide)
 have ao1 : (2 : Int) ^ s ≤ 2147483648 := by
  have := Int.ofNat_le.2 (Nat.pow_le_pow_right (show 0 < 2 by decide) adT)
  simpa using this
 have hbm : (0 : Int) < 4294967296 ^ (m + 1) := Int.pow_pos (by decide)
 have aju := nV (b := 4294967296) (by decide) lx
 have hVy := i9 (b := 4294967296) y (m + 1) (by omega)
 have hy1 : V 4294967296 (y.drop (m + 1)) = nth y (m + 1) := by rw [dV (by omega), List.drop_of_length_le (by omega), lZ]
 rw [hy1] at hVy
 have at0 := bF (b := 4294967296) (by decide) (ly.take (m + 1))
 have hy3 := nV (b := 4294967296) (by decide) (ly.take (m + 1))
 rw [List.length_take, Nat.min_eq_left (by omega)] at hy3
 have hyU : V 4294967296 y * 2 ^ s < 4294967296 ^ (m + 2) := by
  have h1 : V 4294967296 y < (nth y (m + 1) + 1) * 4294967296 ^ (m + 1) := by rw [hVy]; grind
  have h2 := Int.mul_lt_mul_of_pos_right h1 hp
  have h3 := Int.mul_le_mul_of_nonneg_right hs2 (Int.le_of_lt hbm)
  have e : (nth y (m + 1) + 1) * 4294967296 ^ (m + 1) * 2 ^ s = (nth y (m + 1) + 1) * 2 ^ s * 4294967296 ^ (m + 1) := by grind
  rw [show m + 2 = (m + 1) + 1 from rfl, Int.pow_succ]
  omega
 have hyL : 2147483648 * 4294967296 ^ (m + 1) ≤ V 4294967296 y * 2 ^ s := by
  have h1 : nth y (m + 1) * 4294967296 ^ (m + 1) ≤ V 4294967296 y := by rw [hVy, Int.mul_comm]; omega
  have h2 := Int.mul_le_mul_of_nonneg_right h1 (Int.le_of_lt hp)
  have h3 := Int.mul_le_mul_of_nonneg_right qO (Int.le_of_lt hbm)
  have e : nth y (m + 1) * 4294967296 ^ (m + 1) * 2 ^ s = nth y (m + 1) * 2 ^ s * 4294967296 ^ (m + 1) := by grind
  omega
 have hxU : V 4294967296 x * 2 ^ s < 4294967296 ^ (x.length + 1) := by
  rw [Int.pow_succ]
  exact Int.lt_of_lt_of_le (Int.mul_lt_mul_of_pos_right aju hp) (Int.mul_le_mul_of_nonneg_left (by omega) (Int.le_of_lt (Int.pow_pos (by decide))))
 obtain ⟨x', hwx, ayx, lx', ajv⟩ := IZ x s (x.length + 1) adT (by omega) lx (by omega) (by omega) hxU
 obtain ⟨y', hwy, ao2, ly', UA⟩ := IZ y s (m + 2) adT (by omega) ly (by omega) (by omega) hyU
 have at2 : 2147483648 ≤ nth y' (m + 1) := by
  have h1 := i9 (b := 4294967296) y' (m + 1) (by omega)
  have h2 : V 4294967296 (y'.drop (m + 1)) = nth y' (m + 1) := by rw [dV (by omega), List.drop_of_length_le (by omega), lZ]
  have h3 := nV (b := 4294967296) (by decide) (ly'.take (m + 1))
  rw [List.length_take, Nat.min_eq_left (by omega)] at h3
  rw [h2, UA] at h1
  rcases Int.lt_or_le (nth y' (m + 1)) 2147483648 with h4 | h4
  ·exfalso
   have := Int.mul_le_mul_of_nonneg_left (show nth y' (m + 1) + 1 ≤ 2147483648 by omega) (Int.le_of_lt hbm)
   rw [Int.mul_add, Int.mul_comm _ 2147483648] at this
   omega
  ·exact h4
 have adU : 0 < V 4294967296 y' := by rw [UA]; exact Int.mul_pos hY0 hp
 have at3 : V 4294967296 y' < 4294967296 ^ (m + 2) := by rw [UA]; exact hyU
 have hxm : m + 2 ≤ x.length := by omega
 have hqx : V 4294967296 x / V 4294967296 y = V 4294967296 x' / V 4294967296 y' := by rw [ajv, UA, Int.mul_ediv_mul_of_pos_left _ _ hp]
 have hrx : V 4294967296 x % V 4294967296 y = V 4294967296 x' % V 4294967296 y' / 2 ^ s := by
  rw [ajv, UA]
  have e1 := Int.emod_def (V 4294967296 x * 2 ^ s) (V 4294967296 y * 2 ^ s)
  rw [Int.mul_ediv_mul_of_pos_left _ _ hp] at e1
  have e2 := Int.emod_def (V 4294967296 x) (V 4294967296 y)
  rw [e1, e2]
  have e3 : V 4294967296 x * 2 ^ s - V 4294967296 y * 2 ^ s * (V 4294967296 x / V 4294967296 y) = (V 4294967296 x - V 4294967296 y * (V 4294967296 x / V 4294967296 y)) * 2 ^ s := by grind
  rw [e3, Int.mul_ediv_cancel _ (by omega)]
 have ao3 : V 4294967296 (x'.drop (x.length - m - 1)) < V 4294967296 y' := by
  have h1 := i9 (b := 4294967296) x' (x.length - m - 1) (by omega)
  have h2 := bF (b := 4294967296) (by decide) (lx'.take (x.length - m - 1))
  rw [ajv] at h1
  have h3 : V 4294967296 x * 2 ^ s < 4294967296 ^ (x.length - m - 1) * (4294967296 ^ (m + 1) * 2 ^ s) := by
   rw [← Int.mul_assoc, ← Int.pow_add, show x.length - m - 1 + (m + 1) = x.length by omega]
   exact Int.mul_lt_mul_of_pos_right aju hp
  have h4 : V 4294967296 (x'.drop (x.length - m - 1)) < 4294967296 ^ (m + 1) * 2 ^ s := Int.lt_of_mul_lt_mul_left (a := 4294967296 ^ (x.length - m - 1)) (by omega) (Int.le_of_lt (Int.pow_pos (by decide)))
  have h5 := Int.mul_le_mul_of_nonneg_left ao1 (Int.le_of_lt hbm)
  rw [UA]
  rw [Int.mul_comm _ 2147483648] at h5
  omega
 rw [hqx, hrx]
 refine W.skip ?_
 have a1 : ((m : Int) + 2 - 1) = ((m + 1 : Nat) : Int) := by omega
 refine W.sr ?_
 simp (disch := omega) [gw, hm, a1]
 refine aA hLZ ?_
 simp (disch := omega) [gw]
 refine W.lx [0, 1, 9] ?_; simp
 replace hwx : gG env.P 259 [us x, .int .i64 s, .int .i64 ((x.length : Int) + 1)] 143 1 (emap u32 x') := hwx
 replace hwy : gG env.P 259 [us y, .int .i64 s, .int .i64 ((m : Int) + 2)] 143 1 (emap u32 y') := hwy
 refine W.sr ?_
 simp (disch := omega) [gw, hm]
 refine agz hwx 58 (by simp) (by simp) (by simp) ?_
 simp (disch := omega) [gw, hm]
 refine agz hwy 63 (by simp) (by simp) (by simp) ?_
 simp (disch := omega) [gw]
 refine W.lx [0, 9, 10, 11] ?_; simp
 refine W.freeze 63 (by simp) (fun K hK => ?_)
 simp
 refine hK _ ?_; clear hK K
 refine W.sr ?_; simp (disch := omega) [gw, ao2]; refine W.lx [0, 9, 10, 11, 12] ?_; simp
 obtain ⟨ql, hql⟩ : ∃ ql, x.length = ql + m + 1 := ⟨x.length - m - 1, by omega⟩
 rw [show x.length - m - 1 = ql by omega] at ao3
 have agG : x'.length = ql + m + 2 := by omega
 have aq : (x.length : Int) - ((m : Int) + 2) + 1 = (ql : Int) := by omega
 refine W.sr ?_
 simp (disch := omega) [gw, aq]
 refine W.lx [4, 9, 10, 11, 12] ?_; simp
 clear hwx hwy hVy hy1 at0 hy3 hyU hyL hxU hqx hrx htn htl qO hs2 hsn hLZ aju hY0 hX0
 refine W.seq ?_
 refine W.sr ?_; simp (disch := omega) [gw]; refine W.lx [4, 9, 10, 11, 12, 13] ?_; simp
 refine W.block ?_
 refine W.a9 (fun q σ => ∃ (v4 : Nat) (X Q : List Int) (rows : Pm.Rows) (clk : Nat), σ = ⟨fa [(4, .own 71 v4 0 ql), (9, .int .i64 s), (10, .own 58 0 0 (ql + m + 2)), (11, us y'), (12, .int .i64 ((m : Int) + 2)), (13, .int .i64 ((q : Int) - 1))], rows, clk⟩ ∧
  rows 58 = some ⟨0, 143, 1, emap u32 X⟩ ∧ rows 71 = some ⟨v4, 143, 1, emap u32 Q⟩ ∧ q ≤ ql ∧ X.length = ql + m + 2 ∧ Q.length = ql ∧ b6 4294967296 X ∧ b6 4294967296 Q ∧
  V 4294967296 X + 4294967296 ^ q * V 4294967296 (Q.drop q) * V 4294967296 y' = V 4294967296 x' ∧ V 4294967296 (X.drop q) < V 4294967296 y') ql ?_ ?_
 ·exact ⟨_, Gh.fr [(4, .own 71 _ 0 ql), (9, .int .i64 s), (10, .own 58 0 0 (ql + m + 2)), (11, us y'), (12, .int .i64 ((m : Int) + 2)), (13, .int .i64 ((ql : Int) - 1))] (by simp [agG]; exact rfl), _, x', List.replicate ql 0, _, _, rfl, by simp, by simp, by omega, agG, by simp, lx', b6.rep (by decide) _, by simp [V], ao3⟩
 rintro q _ ⟨v4, X, Q, rows, clk, rfl, adV, ajw, hq, hXl, hQl, lX, lQ, hVX, hXU⟩
 refine W.seq ?_
 refine W.sr ?_; simp (disch := omega) [gw]; refine W.lx [4, 9, 10, 11, 12, 13, 76] ?_; simp
 refine W.cond ⟨_, rfl, fun h => ?_, fun h => ?_⟩
 ·have BX : 0 < q := by simp at h; omega
  obtain ⟨i, rfl⟩ : ∃ i, q = i + 1 := ⟨q - 1, by omega⟩
  clear h
  have ei : ((i + 1 : Nat) : Int) - 1 = i := by omega
  rw [ei]
  have ao4 : V 4294967296 ((X.drop i).take (m + 3)) < 4294967296 * V 4294967296 y' := by
   have h1 := i9 (b := 4294967296) (X.drop i) (m + 3) (by simp; omega)
   have h2 := bF (b := 4294967296) (by decide) ((lX.drop i).drop (m + 3))
   have h3 := Int.mul_nonneg (show (0 : Int) ≤ 4294967296 ^ (m + 3) from Int.le_of_lt (Int.pow_pos (by decide))) h2
   have h4 : V 4294967296 (X.drop i) = nth X i + 4294967296 * V 4294967296 (X.drop (i + 1)) := by rw [dV (by omega)]; rfl
   have h5 := lX.nth (i := i) (by omega)
   omega
  have adX := fun (rows : Pm.Rows) clk hr => NF (id := 58) (ver := 0) (off := i) (m := m) X y' rows clk hr ao2 (by omega) ly' at2 lX (by omega) (by omega) ao4
  have e6 : (i : Int) + ((m : Int) + 2) + 1 = ((i + m + 3 : Nat) : Int) := by omega
  have e7 : ((i : Int) + (m : Int) + 3).toNat - i = m + 3 := by omega
  refine W.skip ?_
  refine W.seq ?_
  refine W.block ?_
  refine W.b8 (fun K hK => ?_)
  simp (disch := omega) [gw, adV, hXl, e6, e7]
  refine anU (adX _ _ adV) ?_
  rintro r rows' jT ⟨D, rfl, rfl, rfl, hDl, lD, hDd, hDv⟩
  have lR := ZO (g := V 4294967296 ((X.drop i).take (m + 3)) / V 4294967296 y') lX lD at3 adU (by omega) hDl hDd rfl hDv hXU
  have hg0 : 0 ≤ V 4294967296 ((X.drop i).take (m + 3)) / V 4294967296 y' := Int.ediv_nonneg (bF (by decide) ((lX.drop i).take _)) (Int.le_of_lt adU)
  have W6 : V 4294967296 ((X.drop i).take (m + 3)) / V 4294967296 y' < 4294967296 := Int.ediv_lt_of_lt_mul adU ao4
  generalize V 4294967296 ((X.drop i).take (m + 3)) / V 4294967296 y' = g at *
  have at6 : (X.take i ++ D).length = ql + m + 2 := by simp [hDl]; omega
  have lX2 : b6 4294967296 (X.take i ++ D) := b6.append.2 ⟨lX.take i, lD⟩
  obtain ⟨at7, at8⟩ := lR
  generalize X.take i ++ D = X2 at *
  simp (disch := omega) [gw, ajw, hQl]
  refine W.lw [4, 9, 10, 11, 12, 13] hK ?_; clear hK K; simp
  refine W.b8 (fun K hK => ?_); simp (disch := omega) [gw]
  refine hK _ ⟨i, _, aC _ [4, 9, 10, 11, 12, 13], by omega, v4, X2, Q.set i g, _, _, rfl, by simp, by simp, by omega, at6, by simp [hQl], lX2, lQ.set ⟨hg0, W6⟩, ?_, at7⟩
  rw [at8, dV (l := Q.set i g) (i := i) (by simp; omega), dR (by omega), List.drop_set_of_lt (by omega), ← hVX]
  simp only [V, Int.pow_succ]
  generalize V 4294967296 (Q.drop (i + 1)) = vq at *
  grind
 ·have BX : q = 0 := by simp at h; omega
  subst BX
  simp only [List.drop_zero, Int.pow_zero, Int.one_mul] at hVX hXU
  have hX0 := bF (b := 4294967296) (by decide) lX
  have hQe : V 4294967296 x' / V 4294967296 y' = V 4294967296 Q := by
   have e : (V 4294967296 Q + 1) * V 4294967296 y' = V 4294967296 Q * V 4294967296 y' + V 4294967296 y' := by grind
   rw [Int.ediv_eq_iff_of_pos adU]
   constructor <;> omega
  have hRe : V 4294967296 x' % V 4294967296 y' = V 4294967296 X := by
   have h3 := Int.emod_def (V 4294967296 x') (V 4294967296 y')
   rw [hQe, Int.mul_comm] at h3
   omega
  have hXt : V 4294967296 (X.take (m + 2)) = V 4294967296 X := by
   have h1 := i9 (b := 4294967296) X (m + 2) (by omega)
   have h2 := bF (b := 4294967296) (by decide) (lX.drop (m + 2))
   have h3 := bF (b := 4294967296) (by decide) (lX.take (m + 2))
   have h4 : (0 : Int) < 4294967296 ^ (m + 2) := Int.pow_pos (by decide)
   rcases Int.lt_or_le 0 (V 4294967296 (X.drop (m + 2))) with h5 | h5
   ·exfalso
    have := Int.mul_le_mul_of_nonneg_left (show 1 ≤ V 4294967296 (X.drop (m + 2)) by omega) (Int.le_of_lt h4)
    omega
   ·have : V 4294967296 (X.drop (m + 2)) = 0 := by omega
    rw [this] at h1; omega
  rw [hQe, hRe, ← hXt]
  have zQ := bE hQl
  have zX := bE hXl
  have lS := cR Q (by omega)
  rw [tH lQ] at lS
  have at9 := adN (X.take (m + 2)) s adT (by simp; omega) (lX.take _)
  refine W.exit ?_; simp only [pX, if_true, if_false, reduceIte, Nat.reduceEqDiff]
  refine W.freeze 71 (by simp [ajw]) (fun K hK => ?_)
  simp [ajw, zQ]
  refine hK _ ?_; clear hK K
  refine W.freeze 58 (by simp [adV]) (fun K hK => ?_)
  simp [adV, zX]
  refine hK _ ?_; clear hK K
  have e8 : ((m : Int) + 2).toNat = m + 2 := by omega
  refine W.sd ?_
  simp (disch := omega) [gw]
  refine aA lS ?_
  simp (disch := omega) [gw, hXl, e8]
  refine aA at9 ?_
  simp (disch := omega) [gw]
  refine W.lx [4, 5, 6] ?_; simp
  refine W.ret ?_
  simp [go]
theorem FJ {A B : Int} (hB : 0 < B) (hA : 0 ≤ A) : (A % B = 0 → (-A) / B = -(A / B) ∧ (-A) % B = 0) ∧ (0 < A % B → (-A) / B = -(A / B + 1) ∧ (-A) % B = B - A % B) := by
 have h1 := Int.mul_ediv_add_emod A B
 have h2 := Int.emod_lt_of_pos A hB
 constructor
 ·intro h
  refine (Int.ediv_emod_unique hB).2 ⟨?_, by omega, by omega⟩
  rw [Int.mul_neg]; omega
 ·intro h
  refine (Int.ediv_emod_unique hB).2 ⟨?_, by omega, by omega⟩
  rw [Int.mul_neg, Int.mul_add]; omega
theorem ZP (n m : Bool) {A B : Int} (hB : 0 < B) (hA : 0 ≤ A) :
  (¬ (n = true ∧ 0 < A % B) → (if n = true then -A else A) / (if m = true then -B else B) = (if (n != m) = true then -(A / B) else A / B) ∧ (if n = true then -A else A) % (if m = true then -B else B) = A % B) ∧
  (n = true → 0 < A % B → (if n = true then -A else A) / (if m = true then -B else B) = (if (n != m) = true then -(A / B + 1) else A / B + 1) ∧ (if n = true then -A else A) % (if m = true then -B else B) = B - A % B) := by
 obtain ⟨p1, p2⟩ := FJ hB hA
 have h0 := Int.emod_nonneg A (show B ≠ 0 by omega)
 cases n <;> cases m <;> simp [Int.ediv_neg, Int.emod_neg]
 ·exact ⟨fun h => by have := p1 (by omega); exact ⟨this.1, by omega⟩, p2⟩
 ·exact ⟨fun h => by have := p1 (by omega); exact ⟨by omega, by omega⟩, fun h => by have := p2 h; exact ⟨by omega, this.2⟩⟩
theorem ZQ (n : Bool) (l : List Int) (h : qP l) : aI env.P 162 [IV n l] (I (V 4294967296 l)) := by
 refine aB (E := env) (fun _ => 0) [(0, IV n l)] Tryz.func162 rfl (by kernel_rfl) (by kernel_rfl) (show 1 ≤ 7 by decide) (by simp) ?_
 refine W.sr ?_; simp (disch := omega) [gw]; refine W.lx [1, 2] ?_; simp
 refine W.sr ?_
 simp (disch := omega) [gw]
 refine aA (lI l h.len h.wJ) ?_
 simp (disch := omega) [gw]
 refine aA (eW _ (oP h) false) ?_
 simp (disch := omega) [gw]
 refine W.lx [2] ?_; simp
 refine W.ret ?_
 simp [go]
theorem ZS (n : Bool) (l : List Int) : aI env.P 139 [IV n l] (.int .i64 (if l.length = 0 then 0 else if n = true then -1 else 1)) := by
 refine aB (E := env) (fun _ => 0) [(0, IV n l)] Tryz.func139 rfl (by kernel_rfl) (by kernel_rfl) (show 1 ≤ 11 by decide) (by simp) ?_
 refine W.sr ?_; simp (disch := omega) [gw]; refine W.lx [1] ?_; simp
 refine W.seq ?_
 refine W.block ?_
 refine W.sr ?_; simp (disch := omega) [gw]; refine W.lx [1, 3] ?_; simp
 refine W.cond ⟨_, rfl, fun h => ?_, fun h => ?_⟩
 ·have h : l = [] := by simp at h; exact h
  subst h
  refine W.sr ?_; simp (disch := omega) [gw]; refine W.lx [2] ?_; simp
  refine W.ret ?_
  simp [go]
 ·have h : l.length ≠ 0 := by simp at h; simpa using h
  rw [if_neg h]
  refine W.sr ?_; simp (disch := omega) [gw]; refine W.lx [8] ?_; simp
  refine W.cond ⟨_, rfl, fun h => ?_, fun h => ?_⟩
  ·subst h
   refine W.sr ?_; simp (disch := omega) [gw]; refine W.lx [2] ?_; simp
   refine W.ret ?_
   simp [go]
  ·subst h
   refine W.skip ?_
   refine W.sr ?_; simp (disch := omega) [gw]; refine W.lx [2] ?_; simp
   refine W.ret ?_
   simp [go]
theorem adY (p : RP) (hp : p.length < 9223372036854775808) : aI env.P 102 [Pg p] (.int .i64 ((p.length : Int) - 1)) := by
 refine aB (E := env) (fun _ => 0) [(0, Pg p)] Tryz.func102 rfl (by kernel_rfl) (by kernel_rfl) (show 1 ≤ 6 by decide) (by simp) ?_
 refine W.sr ?_; simp (disch := omega) [gw]; refine W.lx [0] ?_; simp
 refine W.sr ?_; simp (disch := omega) [gw]; refine W.lx [2] ?_; simp
 refine W.ret ?_
 simp [go]
theorem I4 (p : RP) (h : rD p) : aI env.P 138 [Pg p] (I (lead (k7 p))) := by
 have hl := h.len
 have fA := bM (p.map gv)
 rw [List.length_map] at fA
 refine aB (E := env) (fun _ => 0) [(0, Pg p)] Tryz.func138 rfl (by kernel_rfl) (by kernel_rfl) (show 1 ≤ 15 by decide) (by simp) ?_
 refine W.sr ?_; simp (disch := omega) [gw]; refine W.lx [0, 2] ?_; simp
 refine W.seq ?_
 refine W.sr ?_
 simp (disch := omega) [gw]
 refine aA (gI p h) ?_
 simp (disch := omega) [gw]
 refine W.lx [0, 2] ?_; simp
 rw [show aM (p.map gv) = k7 p from rfl] at fA ⊢
 generalize k7 p = x at *
 refine W.sr ?_; simp (disch := omega) [gw]; refine W.lx [0, 2, 7] ?_; simp
 refine W.cond ⟨_, rfl, fun h => ?_, fun h => ?_⟩
 ·have h : x = [] := by simp at h; exact h
  subst h
  refine W.sr ?_; simp (disch := omega) [gw]; refine W.lx [2] ?_; simp
  refine W.ret ?_
  simp [go]
  exact ⟨Int.le_refl 0, rfl⟩
 ·have h : x ≠ [] := by simp at h; exact h
  have nM : 0 < x.length := List.length_pos_iff.2 h
  refine W.skip ?_
  have e1 : ((x.length : Int) - 1).toNat = x.length - 1 := by omega
  refine W.sr ?_; simp (disch := omega) [gw, e1]; refine W.lx [2] ?_; simp
  refine W.ret ?_
  simp [go, lead]
theorem I5 {x : Int} {k : Nat} (h0 : 0 ≤ x) (h : x < 4294967296 ^ k) : sz LL x ≤ k := cN fS (by
 have e : ((4294967296 ^ k : Nat) : Int) = (4294967296 : Int) ^ k := Int.natCast_pow 4294967296 k
 show x.natAbs < 4294967296 ^ k
 omega)
theorem QH {x : Int} {k : Nat} (h0 : 0 ≤ x) (h : sz LL x ≤ k) (hk : k < 1099511627776) : qP (aQ LL x.toNat) := ⟨eS fS _, by
 have e : x.natAbs = x.toNat := by omega
 unfold sz at h
 rw [e] at h
 omega⟩
theorem ZT {x : Int} (h0 : 0 ≤ x) : V 4294967296 (aQ LL x.toNat) = x := by
 have := jM fS x.toNat
 rw [show ((LL : Nat) : Int) = 4294967296 from rfl] at this
 rw [this]; omega
theorem adZ {x : Int} (h0 : 0 ≤ x) : (0 < (aQ LL x.toNat).length) ↔ 0 < x := by
 rw [List.length_pos_iff, Ne, dK fS]; omega
theorem I6 (n m : Bool) (l k : List Int) (ED : qP l) (h' : qP k) (hl : l.length < 1099511627774) (hk : k.length < 1099511627774) :
  aI env.P 252 [IV n l, IV m k] (if V 4294967296 k = 0 then .eP [I 0, I 0, .int .i64 2] else .eP [I (iv n l / iv m k), I (iv n l % iv m k), .int .i64 0]) := by
 have p1 := oP ED
 have p2 := oP h'
 refine aB (E := env) (fun _ => 0) [(0, IV n l), (1, IV m k)] Tryz.func252 rfl (by kernel_rfl) (by kernel_rfl) (show 2 ≤ 60 by decide) (by simp) ?_
 refine W.sr ?_; simp (disch := omega) [gw]; refine W.lx [2, 3, 4, 5] ?_; simp
 by_cases h0 : V 4294967296 k = 0
 ·rw [if_pos h0]
  refine W.sr ?_
  simp (disch := omega) [gw]
  refine aA (I3 l k ED h' h0) ?_
  simp (disch := omega) [gw]
  refine W.lx [2, 3, 4, 5, 6, 7, 8] ?_; simp
  refine W.seq ?_
  refine W.sr ?_; simp (disch := omega) [gw]; refine W.lx [2, 3, 4, 5, 6, 7, 8, 19] ?_; simp
  refine W.cond ⟨_, rfl, fun h => ?_, fun h => ?_⟩
  ·refine W.sr ?_; simp (disch := omega) [gw]; refine W.lx [4, 5, 6] ?_; simp
   refine W.ret ?_
   simp [go]
   rfl
  ·cases h
 ·rw [if_neg h0]
  have hB : 0 < V 4294967296 k := by omega
  have PL := zN l k ED h' h0 hl hk
  obtain ⟨d1, d2⟩ := ZP n m hB p1
  rw [show (if n = true then -V 4294967296 l else V 4294967296 l) = iv n l from rfl, show (if m = true then -V 4294967296 k else V 4294967296 k) = iv m k from rfl] at d1 d2
  have q0 := Int.ediv_nonneg p1 p2
  have r0 := Int.emod_nonneg (V 4294967296 l) h0
  have r1 := Int.emod_lt_of_pos (V 4294967296 l) hB
  have mN : sz LL (V 4294967296 l / V 4294967296 k) ≤ l.length := I5 q0 (Int.lt_of_le_of_lt (Int.ediv_le_self _ p1) (nV (by decide) ED.wJ))
  have aua : sz LL (V 4294967296 l % V 4294967296 k) ≤ k.length := I5 r0 (Int.lt_trans r1 (nV (by decide) h'.wJ))
  refine W.sr ?_
  simp (disch := omega) [gw]
  refine aA PL ?_
  simp (disch := omega) [gw]
  refine W.lx [2, 3, 4, 5, 6, 7, 8] ?_; simp
  generalize V 4294967296 l / V 4294967296 k = Q at *
  generalize V 4294967296 l % V 4294967296 k = R at *
  refine W.seq ?_
  refine W.sr ?_; simp (disch := omega) [gw]; refine W.lx [2, 3, 4, 5, 6, 7, 8, 19] ?_; simp
  refine W.cond ⟨_, rfl, fun h => ?_, fun h => ?_⟩
  ·cases h
  refine W.skip ?_
  refine W.sr ?_
  simp (disch := omega) [gw]
  refine aA (eW Q q0 (n != m)) ?_
  simp (disch := omega) [gw]
  refine aA (eW R r0 false) ?_
  simp (disch := omega) [gw]
  refine W.lx [2, 3, 4, 5, 7, 8] ?_; simp
  refine W.fX (fun σ => ∃ (rows : Pm.Rows) (clk : Nat), σ = ⟨fa [(4, .ptr 4 2 0 0), (5, .ptr 5 3 0 0)], rows, clk⟩ ∧ rows 4 = some ⟨2, 40, 2, [ie (iv n l / iv m k)]⟩ ∧ rows 5 = some ⟨3, 40, 2, [ie (iv n l % iv m k)]⟩) ?_ ?_
  ·
   by_cases ajx : n = true ∧ 0 < R
   ·obtain ⟨rfl, hR⟩ := ajx
    obtain ⟨e1, e2⟩ := d2 rfl hR
    rw [e1, e2]
    have hdp := (adZ r0).2 hR
    have hQl := QH q0 mN ED.len
    have hRl := QH r0 aua h'.len
    have ao5 := QE (aQ LL Q.toNat) [1] hQl.len (by simp) hQl.wJ (b6.cons.2 ⟨by decide, b6.nil⟩)
    rw [ZT q0, lZ] at ao5
    have ao6 := FE k (aQ LL R.toNat) h'.len hRl.len h'.wJ hRl.wJ
    rw [ZT r0, M7, if_neg (by omega)] at ao6
    refine W.gY (fun σ => ∃ (rows : Pm.Rows) (clk : Nat), σ = ⟨fa [(2, .ptr 2 0 0 0), (3, .ptr 3 1 0 0), (4, .ptr 4 2 0 0), (5, .ptr 5 3 0 0), (7, N Q), (8, N R), (38, .bool true)], rows, clk⟩ ∧ rows 2 = some ⟨0, 40, 2, [[.bool true, us l]]⟩ ∧ rows 3 = some ⟨1, 40, 2, [[.bool m, us k]]⟩ ∧ rows 4 = some ⟨2, 40, 2, [ie (if true = m then Q else -Q)]⟩ ∧ rows 5 = some ⟨3, 40, 2, [ie R]⟩) (fun K hK => ?_) ?_
    ·simp (disch := omega) [gw, hdp]
     exact hK _ _ (aC _ [2, 3, 4, 5, 7, 8, 38]) ⟨_, _, rfl, by simp, by simp, by simp, by simp⟩
    rintro _ ⟨rows, clk, rfl, cI, fQ, jN, mB⟩
    refine W.cond ⟨_, rfl, fun h => ?_, fun h => ?_⟩
    ·refine W.sr ?_
     simp (disch := omega) [gw]
     refine aA ao5 ?_
     simp (disch := omega) [gw]
     refine W.lx [2, 3, 4, 5, 7, 8] ?_; simp
     refine W.sr ?_
     simp (disch := omega) [gw, fQ]
     refine aA ao6 ?_
     simp (disch := omega) [gw]
     refine W.lx [2, 3, 4, 5, 7, 8] ?_; simp
     refine W.b8 (fun K hK => ?_)
     simp (disch := omega) [gw, cI, fQ]
     refine aA (eW (Q + 1) (by omega) (!m)) ?_
     simp (disch := omega) [gw]
     refine aA (eW (V 4294967296 k - R) (by omega) false) ?_
     simp (disch := omega) [gw, jN, mB]
     exact hK _ ⟨_, aC _ [4, 5], _, _, rfl, by cases m <;> simp, by simp⟩
    ·cases h
   ·obtain ⟨e1, e2⟩ := d1 ajx
    rw [e1, e2]
    refine W.gY (fun σ => ∃ (rows : Pm.Rows) (clk : Nat), σ = ⟨fa [(4, .ptr 4 2 0 0), (5, .ptr 5 3 0 0), (38, .bool false)], rows, clk⟩ ∧ rows 4 = some ⟨2, 40, 2, [ie (if (n != m) = true then -Q else Q)]⟩ ∧ rows 5 = some ⟨3, 40, 2, [ie R]⟩) (fun K hK => ?_) ?_
    ·cases n with
     | false =>
      simp (disch := omega) [gw]
      exact hK _ _ (aC _ [4, 5, 38]) ⟨_, _, rfl, by cases m <;> simp, by simp⟩
     | true =>
      have hR : R = 0 := by simp at ajx; omega
      subst hR
      simp (disch := omega) [gw]
      exact hK _ _ (aC _ [4, 5, 38]) ⟨_, _, rfl, by cases m <;> simp, by simp⟩
    rintro _ ⟨rows, clk, rfl, jN, mB⟩
    refine W.cond ⟨_, rfl, fun h => ?_, fun h => ?_⟩
    ·cases h
    ·refine W.skip ?_
     exact ⟨_, aC _ [4, 5], _, _, rfl, jN, mB⟩
  rintro _ ⟨rows, clk, rfl, jN, mB⟩
  generalize iv n l / iv m k = q at *
  generalize iv n l % iv m k = r at *
  refine W.sd ?_
  simp (disch := omega) [gw, jN, mB]
  refine bN (by kernel_rfl) ?_
  simp (disch := omega) [gw, jN, mB]
  rw [if_pos (by kernel_rfl)]
  simp (disch := omega) [gw, jN, mB]
  refine bN (by kernel_rfl) ?_
  simp (disch := omega) [gw]
  refine W.lx [4, 5, 6] ?_; simp
  refine W.ret ?_
  simp [go]
theorem NI (n m : Bool) (l k : List Int) (h : qP l) (h' : qP k) (hl : l.length < 1099511627774) (hk : k.length < 1099511627774) (h0 : V 4294967296 k ≠ 0) :
  aI env.P 234 [IV n l, IV m k] (if iv n l % iv m k = 0 then .eP [I (iv n l / iv m k), .int .i64 0] else .eP [I 0, .int .i64 3]) := by
 have PL := I6 n m l k h h' hl hk
 rw [if_neg h0] at PL
 have CN : 0 ≤ iv n l % iv m k := Int.emod_nonneg _ (by unfold iv; split <;> omega)
 generalize iv n l / iv m k = q at *
 generalize iv n l % iv m k = r at *
 have hrn : (aQ LL r.natAbs = []) ↔ r = 0 := by rw [dK fS]; omega
 refine aB (E := env) (fun _ => 0) [(0, IV n l), (1, IV m k)] Tryz.func234 rfl (by kernel_rfl) (by kernel_rfl) (show 2 ≤ 26 by decide) (by simp) ?_
 refine W.sr ?_; simp (disch := omega) [gw]; refine W.lx [2, 3, 4] ?_; simp
 refine W.sr ?_
 simp (disch := omega) [gw]
 refine aA PL ?_
 simp (disch := omega) [gw]
 refine W.lx [4, 6, 7, 8] ?_; simp
 refine W.seq ?_
 refine W.sr ?_; simp (disch := omega) [gw]; refine W.lx [4, 6, 7, 8, 17] ?_; simp
 refine W.cond ⟨_, rfl, fun h => ?_, fun h => ?_⟩
 ·cases h
 refine W.skip ?_
 refine W.seq ?_
 refine W.sr ?_; simp (disch := omega) [gw]; refine W.lx [4, 6, 23] ?_; simp
 by_cases hr : r = 0
 ·rw [if_pos hr]
  refine W.cond ⟨_, rfl, fun h => ?_, fun h => ?_⟩
  ·exfalso; have h2 := hrn.2 hr; rw [h2] at h; simp at h
  ·refine W.skip ?_
   refine W.sr ?_; simp (disch := omega) [gw]; refine W.lx [4, 5] ?_; simp
   refine W.ret ?_
   simp [go]
 ·rw [if_neg hr]
  refine W.cond ⟨_, rfl, fun h => ?_, fun h => ?_⟩
  ·refine W.sr ?_; simp (disch := omega) [gw]; refine W.lx [4, 5] ?_; simp
   refine W.ret ?_
   simp [go]
   rfl
  ·exfalso; simp at h; exact hr (hrn.1 h)
def bG (l : List Int) : Nat := l.foldl (fun g c => Nat.gcd g c.natAbs) 0
theorem gcd_one : ∀ l : List Int, l.foldl (fun g c => Nat.gcd g c.natAbs) 1 = 1
 | [] => rfl
 | c :: l => by simp only [List.foldl_cons, Nat.gcd_one_left]; exact gcd_one l
theorem NJ (l : List Int) (i : Nat) (h : bG (l.take i) = 1) : bG l = 1 := by
 unfold bG at *
 rw [← List.take_append_drop i l, List.foldl_append, h]
 exact gcd_one _
theorem UB (l : List Int) (i : Nat) (h : i < l.length) : bG (l.take (i + 1)) = Nat.gcd (bG (l.take i)) (nth l i).natAbs := by
 unfold bG
 rw [a8 h, List.foldl_append]; rfl
theorem ao7 (x : Nat) : N (x : Int) = us (aQ LL x) := rfl
theorem zO {x k : Nat} (h : x < 4294967296 ^ k) : (aQ LL x).length ≤ k := FA fS h
theorem I7 (p : RP) (K0 : Nat) (hK0 : K0 < 1099511627774) (hp : ∀ c ∈ p, b6 4294967296 c.2 ∧ c.2.length ≤ K0) (PG : p.length < 1099511627776) : aI env.P 233 [Pg p] (I (bG (p.map gv))) := by
 have hng : ∀ c ∈ p, (gv c).natAbs = (V 4294967296 c.2).toNat := fun c hc => by
  have := bF (b := 4294967296) (by decide) (hp c hc).1
  unfold gv iv; split <;> omega
 refine aB (E := env) (fun _ => 0) [(0, Pg p)] Tryz.func233 rfl (by kernel_rfl) (by kernel_rfl) (show 1 ≤ 44 by decide) (by simp) ?_
 refine W.sr ?_; simp (disch := omega) [gw]; refine W.lx [0, 2] ?_; simp
 refine W.sr ?_; simp (disch := omega) [gw]; refine W.lx [0, 2, 3] ?_; simp
 refine W.TU 3 (us []) (by simp) rfl (fun K hK => ?_)
 refine W.lw [0, 2, 3] hK ?_; clear hK K; simp
 have aub : ∀ i, i < p.length → (nth (p.map gv) i).natAbs = (V 4294967296 (nth p i).2).toNat := fun i hi => by rw [sA]; exact hng _ (bQ hi)
 refine W.fX (fun σ => ∃ (rows : Pm.Rows) (clk : Nat), σ = ⟨fa [(2, .ptr 2 0 0 0), (3, us (aQ LL (bG (p.map gv))))], rows, clk⟩ ∧ rows 2 = some ⟨0, 40, 2, [[.bool false, .nil]]⟩ ∧ bG (p.map gv) < 4294967296 ^ K0) ?_ ?_
 ·
  refine W.sr ?_; simp (disch := omega) [gw]; refine W.lx [2, 3, 10, 11, 12] ?_; simp
  refine W.block ?_
  refine W.a9 (fun q σ => ∃ (i : Nat) (rows : Pm.Rows) (clk : Nat), σ = ⟨fa [(2, .ptr 2 0 0 0), (3, us (aQ LL (bG ((p.map gv).take i)))), (10, Pg p), (11, .int .i64 p.length), (12, .int .i64 i)], rows, clk⟩ ∧ rows 2 = some ⟨0, 40, 2, [[.bool false, .nil]]⟩ ∧ q = p.length - i ∧ i ≤ p.length ∧ bG ((p.map gv).take i) < 4294967296 ^ K0) p.length ?_ ?_
  ·exact ⟨_, Gh.fr [(2, .ptr 2 0 0 0), (3, us (aQ LL (bG ((p.map gv).take 0)))), (10, Pg p), (11, .int .i64 p.length), (12, .int .i64 (0 : Nat))] (by simp [bG, kB]), 0, _, _, rfl, by simp, by omega, by omega, by simp [bG]; exact Nat.pow_pos (by decide)⟩
  rintro q _ ⟨i, rows, clk, rfl, cI, hq, hi, GZ⟩
  refine W.sr ?_; simp (disch := omega) [gw]; refine W.lx [2, 3, 10, 11, 12, 13] ?_; simp
  refine W.seq ?_
  refine W.cond ⟨_, rfl, fun h => ?_, fun h => ?_⟩
  ·have hi : i < p.length := by simp at h; omega
   obtain ⟨uM, WI⟩ := hp _ (bQ hi)
   have hV0 := bF (b := 4294967296) (by decide) uM
   have hVl := nV (b := 4294967296) (by decide) uM
   obtain ⟨x0, nM⟩ := Int.eq_ofNat_of_zero_le hV0
   have I8 := lI (nth p i).2 (by omega) uM
   rw [nM, ao7] at I8
   have hxb : x0 < 4294967296 ^ K0 := by
    have e : ((4294967296 ^ (nth p i).2.length : Nat) : Int) = (4294967296 : Int) ^ (nth p i).2.length := Int.natCast_pow 4294967296 _
    have e2 : 4294967296 ^ (nth p i).2.length ≤ 4294967296 ^ K0 := Nat.pow_le_pow_right (by decide) WI
    omega
   have hgs := UB (p.map gv) i (by simpa using hi)
   rw [aub i hi, nM] at hgs
   simp only [Int.toNat_natCast] at hgs
   refine W.skip ?_
   refine W.seq ?_
   refine W.block ?_
   refine W.sr ?_; simp (disch := omega) [gw, cI]; refine W.lx [2, 3, 5, 10, 11, 12] ?_; simp
   refine W.sr ?_
   simp (disch := omega) [gw]
   refine aA I8 ?_
   simp (disch := omega) [gw]
   refine W.lx [2, 3, 6, 10, 11, 12] ?_; simp
   refine W.seq ?_
   refine W.block ?_
   refine W.a9 (fun q σ => ∃ (g x : Nat) (rows : Pm.Rows) (clk : Nat), σ = ⟨fa [(2, .ptr 2 0 0 0), (3, us (aQ LL g)), (6, us (aQ LL x)), (10, Pg p), (11, .int .i64 p.length), (12, .int .i64 i)], rows, clk⟩ ∧ rows 2 = some ⟨0, 40, 2, [[.bool false, .nil]]⟩ ∧ q = x ∧ Nat.gcd g x = bG ((p.map gv).take (i + 1)) ∧ g < 4294967296 ^ K0 ∧ x < 4294967296 ^ K0) x0 ?_ ?_
   ·exact ⟨_, .refl, bG ((p.map gv).take i), x0, _, _, rfl, by simp [cI], rfl, hgs.symm, GZ, hxb⟩
   rintro q2 _ ⟨g, x, rows, clk, rfl, cI, hq2, hgx, hg, hx⟩
   refine W.seq ?_
   refine W.sr ?_; simp (disch := omega) [gw]; refine W.lx [2, 3, 6, 10, 11, 12, 21] ?_; simp
   refine W.cond ⟨_, rfl, fun h => ?_, fun h => ?_⟩
   ·have h1 : aQ LL x ≠ [] := by simp at h; exact List.length_pos_iff.1 h
    have nM : x ≠ 0 := fun h2 => h1 ((dK fS).2 h2)
    have hlg := zO hg
    have hlx := zO hx
    have PL := zN (aQ LL g) (aQ LL x) ⟨eS fS _, by omega⟩ ⟨eS fS _, by omega⟩ (by rw [show (4294967296 : Int) = ((LL : Nat) : Int) from rfl, jM fS]; omega) (by omega) (by omega)
    rw [show (4294967296 : Int) = ((LL : Nat) : Int) from rfl, jM fS, jM fS, ← Int.natCast_emod, ao7] at PL
    have hm := Nat.mod_lt g (show 0 < x by omega)
    have hgr : Nat.gcd x (g % x) = Nat.gcd g x := by rw [Nat.gcd_comm x, ← Nat.gcd_rec, Nat.gcd_comm]
    refine W.skip ?_
    refine W.block ?_
    refine W.sr ?_
    simp (disch := omega) [gw]
    refine aA PL ?_
    simp (disch := omega) [gw]
    refine W.lx [2, 6, 8, 10, 11, 12] ?_; simp
    refine W.b8 (fun K hK => ?_); simp (disch := omega) [gw]
    refine hK _ ⟨g % x, _, aC _ [2, 3, 6, 10, 11, 12], by omega, x, g % x, _, _, rfl, by simp [cI], rfl, by rw [hgr, hgx], hx, by omega⟩
   ·have h1 : aQ LL x = [] := by simp at h; exact h
    have nM : x = 0 := (dK fS).1 h1
    subst nM
    rw [Nat.gcd_zero_right] at hgx
    refine W.exit ?_; simp only [pX, if_true, if_false, reduceIte, Nat.reduceEqDiff]
    refine W.gY (fun σ => ∃ (b : Bool) (rows : Pm.Rows) (clk : Nat), σ = ⟨fa [(2, .ptr 2 0 0 0), (3, us (aQ LL g)), (10, Pg p), (11, .int .i64 p.length), (12, .int .i64 i), (39, .bool b)], rows, clk⟩ ∧ rows 2 = some ⟨0, 40, 2, [[.bool false, .nil]]⟩ ∧ (b = true → g = 1)) (fun K hK => ?_) ?_
    ·by_cases h2 : (aQ LL g).length = 1
     ·obtain ⟨w, hw⟩ : ∃ w, aQ LL g = [w] := match aQ LL g, h2 with | [w], _ => ⟨w, rfl⟩
      have hgv := jM fS g
      rw [hw, lZ] at hgv
      rw [hw] at hK ⊢
      have hnw : nth [w] 0 = w := rfl
      simp (disch := omega) [gw, hnw]
      exact hK _ _ (aC _ [2, 3, 10, 11, 12, 39]) ⟨_, _, _, rfl, by simp [cI], fun h3 => by simp at h3; omega⟩
     ·have h2' : ((aQ LL g).length : Int) ≠ 1 := by omega
      have hb : (((aQ LL g).length : Int) == 1) = false := by simpa using h2'
      simp (disch := omega) [gw, hb, h2]
      exact hK _ _ (aC _ [2, 3, 10, 11, 12, 39]) ⟨_, _, _, rfl, by simp [cI], fun h3 => by cases h3⟩
    rintro _ ⟨b, rows, clk, rfl, cI, hb⟩
    refine W.cond ⟨_, rfl, fun h => ?_, fun h => ?_⟩
    ·have W6 := hb h
     subst W6
     have r7 := NJ _ _ hgx.symm
     refine W.exit ?_; simp only [pX, if_true, if_false, reduceIte, Nat.reduceEqDiff]
     rw [r7]
     exact ⟨_, aC _ [2, 3], rows, clk, rfl, cI, by rw [r7] at *; exact hg⟩
    ·refine W.skip ?_
     subst hgx
     refine W.b8 (fun K hK => ?_); simp (disch := omega) [gw]
     refine hK _ ⟨p.length - (i + 1), _, aC _ [2, 3, 10, 11, 12], by omega, i + 1, _, _, rfl, by simp [cI], by omega, by omega, hg⟩
  ·have hi : i = p.length := by simp at h; omega
   rw [List.take_of_length_le (by simp; omega)] at GZ ⊢
   refine W.exit ?_; simp only [pX, if_true, if_false, reduceIte, Nat.reduceEqDiff]
   exact ⟨_, aC _ [2, 3], rows, clk, rfl, cI, GZ⟩
 rintro _ ⟨rows, clk, rfl, cI, GZ⟩
 have hlg := zO GZ
 have I8 := lI (aQ LL (bG (p.map gv))) (by omega) (eS fS _)
 rw [show (4294967296 : Int) = ((LL : Nat) : Int) from rfl, jM fS] at I8
 have ao9 := eW (bG (p.map gv) : Int) (by omega) false
 refine W.sr ?_
 simp (disch := omega) [gw]
 refine aA I8 ?_
 simp (disch := omega) [gw]
 refine aA ao9 ?_
 simp (disch := omega) [gw, cI]
 refine W.lx [2] ?_; simp
 refine W.ret ?_
 simp [go]
theorem pS : ∀ {l : List Int}, l.length ≤ (aM l).length → aM l = l
 | [], _ => rfl
 | x :: l, h => by
  rw [aM] at h ⊢
  split
  ·rename_i h1
   rw [if_pos h1] at h; simp at h
  ·rename_i h1
   rw [if_neg h1] at h
   rw [pS (by simpa using h)]
theorem I9 {b : Int} (hb : 1 ≤ b) {l : List Int} (hl : b6 b l) (h : l ≠ [] → b ^ (l.length - 1) ≤ V b l) : aM l = l := by
 apply pS
 rcases Nat.lt_or_ge (aM l).length l.length with h1 | h1
 ·exfalso
  have h2 := h (by intro h0; subst h0; simp at h1)
  have h3 := nV (by omega) (dG hl)
  rw [cA] at h3
  obtain ⟨m, hm⟩ : ∃ m, l.length - 1 = (aM l).length + m := ⟨l.length - 1 - (aM l).length, by omega⟩
  rw [hm, Int.pow_add] at h2
  have h4 : 1 ≤ b ^ m := Int.pow_pos (by omega)
  have h5 := Int.mul_le_mul_of_nonneg_left h4 (show 0 ≤ b ^ (aM l).length from Int.le_of_lt (Int.pow_pos (by omega)))
  omega
 ·exact h1
@[simp] theorem ad1 {l : List Int} {x : Int} : emap u32 l ++ [[.int .u32 x]] = emap u32 (l ++ [x]) := by simp [emap]
theorem DA (x : Int) : aI env.P 174 [RI x] (.bool (decide (x = 0))) := by
 refine aB (E := env) (fun _ => 0) [(0, RI x)] Tryz.func174 rfl (by kernel_rfl) (by kernel_rfl) (show 1 ≤ 7 by decide) (by simp) ?_
 refine W.sr ?_; simp (disch := omega) [gw]; refine W.lx [1] ?_; simp
 refine W.sr ?_; simp (disch := omega) [gw]; refine W.lx [2] ?_; simp
 refine W.ret ?_
 simp [go]
 have e : ((aQ DD x.natAbs).length = 0) ↔ x = 0 := by rw [List.length_eq_zero_iff, dK LD]; omega
 rw [Bool.eq_iff_iff, decide_eq_true_iff, beq_iff_eq, ← e]
 omega
theorem QI {x : Int} : (aQ DD x.natAbs).length = 0 ↔ x = 0 := by rw [List.length_eq_zero_iff, dK LD]; omega
theorem DB (x : Int) : aI env.P 168 [RI x] (.int .i64 x.sign) := by
 refine aB (E := env) (fun _ => 0) [(0, RI x)] Tryz.func168 rfl (by kernel_rfl) (by kernel_rfl) (show 1 ≤ 11 by decide) (by simp) ?_
 refine W.sr ?_; simp (disch := omega) [gw]; refine W.lx [1] ?_; simp
 refine W.seq ?_
 refine W.block ?_
 refine W.sr ?_; simp (disch := omega) [gw]; refine W.lx [1, 3] ?_; simp
 refine W.cond ⟨_, rfl, fun h => ?_, fun h => ?_⟩
 ·have h0 : x = 0 := by rw [← QI]; simp at h; simp [h]
  subst h0
  refine W.sr ?_; simp (disch := omega) [gw]; refine W.lx [2] ?_; simp
  refine W.ret ?_
  simp [go]
 ·have h0 : x ≠ 0 := by rw [Ne, ← QI]; simp at h; simpa using h
  refine W.sr ?_; simp (disch := omega) [gw]; refine W.lx [8] ?_; simp
  refine W.cond ⟨_, rfl, fun h => ?_, fun h => ?_⟩
  ·simp at h
   refine W.sr ?_; simp (disch := omega) [gw]; refine W.lx [2] ?_; simp
   refine W.ret ?_
   simp [go, Int.sign_eq_neg_one_of_neg h]
  ·simp at h
   refine W.skip ?_
   refine W.sr ?_; simp (disch := omega) [gw]; refine W.lx [2] ?_; simp
   refine W.ret ?_
   simp [go, Int.sign_eq_one_of_pos (show 0 < x by omega)]
theorem pT (x : Int) : aI env.P 50 [RI x] (RI (-x)) := by
 refine aB (E := env) (fun _ => 0) [(0, RI x)] Tryz.func50 rfl (by kernel_rfl) (by kernel_rfl) (show 1 ≤ 9 by decide) (by simp) ?_
 refine W.sr ?_; simp (disch := omega) [gw]; refine W.lx [1, 2] ?_; simp
 refine W.sr ?_
 simp (disch := omega) [gw]
 refine aA (nC x.natAbs (by omega) (!decide (x < 0))) ?_
 simp (disch := omega) [gw]
 refine W.lx [2] ?_; simp
 refine W.ret ?_
 have e : (if 0 ≤ x then -(x.natAbs : Int) else x.natAbs) = -x := by split <;> omega
 simp only [e]
 simp [go]
theorem UC (a : List Int) (d : Int) (ha : a.length < 1099511627776) (la : b6 10000 a) (ZU : 0 < d) (NK : d ≤ 65536) : aI env.P 178 [aJ aF a, .int .i64 d] (.eP [Dn (V 10000 a / d), .int .i64 (V 10000 a % d)]) := by
 refine aB (E := env) (fun _ => 0) [(0, aJ aF a), (1, .int .i64 d)] Tryz.func178 rfl (by kernel_rfl) (by kernel_rfl) (show 2 ≤ 39 by decide) (by simp) ?_
 refine W.sr ?_; simp (disch := omega) [gw]; refine W.lx [0, 1] ?_; simp
 refine W.sr ?_; simp (disch := omega) [gw]; refine W.lx [0, 1, 6] ?_; simp
 refine W.sr ?_; simp (disch := omega) [gw]; refine W.lx [0, 1, 6, 7] ?_; simp
 refine W.seq ?_
 refine W.sr ?_; simp (disch := omega) [gw]; refine W.lx [0, 1, 6, 7, 8] ?_; simp
 refine W.block ?_
 refine W.a9 (fun k σ => ∃ (r : Int) (z : List Int) (ver : Nat) (rows : Pm.Rows) (clk : Nat), σ = ⟨fa [(0, aJ aF a), (1, .int .i64 d), (6, .own 12 ver 0 a.length), (7, .int .i64 r), (8, .int .i64 ((k : Int) - 1))], rows, clk⟩ ∧
  rows 12 = some ⟨ver, 3, 1, emap aF z⟩ ∧ k ≤ a.length ∧ z.length = a.length ∧ b6 10000 z ∧ 0 ≤ r ∧ r < d ∧ V 10000 (a.drop k) = d * V 10000 (z.drop k) + r) a.length ?_ ?_
 ·exact ⟨_, .refl, 0, List.replicate a.length 0, _, _, _, rfl, by simp, by omega, by simp, b6.rep (by decide) _, by omega, ZU, by simp [V]⟩
 rintro k _ ⟨r, z, ver, rows, clk, rfl, hr, hk, hz, lz, CN, BW, hV⟩
 refine W.seq ?_
 refine W.sr ?_; simp (disch := omega) [gw]; refine W.lx [0, 1, 6, 7, 8, 17] ?_; simp
 refine W.cond ⟨_, rfl, fun h => ?_, fun h => ?_⟩
 ·simp at h
  obtain ⟨j, rfl⟩ : ∃ j, k = j + 1 := ⟨k - 1, by omega⟩
  clear h
  have hx := la.nth (i := j) (by omega)
  have TZ : 0 ≤ r * 10000 + nth a j := by omega
  have qO : r * 10000 + nth a j < d * 10000 := by omega
  have BX : 0 ≤ (r * 10000 + nth a j) / d := Int.ediv_nonneg TZ (by omega)
  have ZJ : (r * 10000 + nth a j) / d < 10000 := Int.ediv_lt_of_lt_mul ZU (by omega)
  have K8 := Int.emod_nonneg (r * 10000 + nth a j) (show d ≠ 0 by omega)
  have G1 := Int.emod_lt_of_pos (r * 10000 + nth a j) ZU
  have hdz : d ≠ 0 := by omega
  refine W.skip ?_
  refine W.seq ?_
  refine W.block ?_
  refine W.sr ?_; simp (disch := omega) [gw]; refine W.lx [0, 1, 6, 8, 9] ?_; simp
  refine W.sr ?_; simp (disch := omega) [gw, hr, hdz]
  refine W.lx [0, 1, 6, 8, 9] ?_; simp
  refine W.b8 (fun K hK => ?_); simp (disch := omega) [gw, hdz]
  refine W.lw [0, 1, 6, 7, 8] hK ?_; clear hK K; simp
  refine W.b8 (fun K hK => ?_); simp (disch := omega) [gw]
  refine hK _ ⟨j, _, aC _ [0, 1, 6, 7, 8], by omega, _, z.set j ((r * 10000 + nth a j) / d), ver, _, _, rfl, by simp, by omega, by simpa using hz, lz.set ⟨BX, ZJ⟩, K8, G1, ?_⟩
  rw [dV (l := a) (i := j) (by omega), dV (l := z.set j _) (i := j) (by simp; omega), dR (by omega), List.drop_set_of_lt (by omega)]
  simp only [V]
  rw [hV]
  have := Int.emod_add_mul_ediv (r * 10000 + nth a j) d
  grind
 ·simp at h
  have wL : k = 0 := by omega
  subst wL
  simp only [List.drop_zero] at hV
  have ez : z.take a.length = z := bE hz
  have hzn := bF (by decide) lz
  have e1 : V 10000 a / d = V 10000 z := by
   rw [hV, Int.mul_add_ediv_left _ _ (by omega), Int.ediv_eq_zero_of_lt CN BW]; simp
  have e2 : V 10000 a % d = r := by
   rw [hV, Int.mul_add_emod_self_left, Int.emod_eq_of_lt CN BW]
  refine W.exit ?_; simp only [pX, if_true, if_false, reduceIte, Nat.reduceEqDiff]
  refine W.sr ?_
  simp (disch := omega) [gw, hr, ez]
  refine aA (nB z (by omega)) ?_
  simp (disch := omega) [gw]
  refine W.lx [4, 5] ?_; simp
  refine W.ret ?_
  rw [e1, e2, ← sC lz]
  simp [go]
theorem zP (y d : Int) (hy : 0 ≤ y) (hz : Z y) (ZU : 0 < d) (NK : d ≤ 65536) : aI env.P 178 [Dn y, .int .i64 d] (.eP [Dn (y / d), .int .i64 (y % d)]) := by
 have := UC (aQ DD y.toNat) d (by have := jB hy; omega) (kK _) ZU NK
 rwa [tN hy] at this
theorem ad2 (n : Nat) (hz : Z (n : Int)) : aI env.P 98 [aJ aF (aQ DD n)] (us (aQ LL n)) := by
 have hln : (aQ LL n).length ≤ sz 2 (n : Int) := QG fS n
 refine aB (E := env) (fun _ => 0) [(0, aJ aF (aQ DD n))] Tryz.func98 rfl (by kernel_rfl) (by kernel_rfl) (show 1 ≤ 31 by decide) (by simp) ?_
 refine W.sr ?_; simp (disch := omega) [gw]; refine W.lx [0] ?_; simp
 refine W.sr ?_; simp (disch := omega) [gw]; refine W.lx [0, 3] ?_; simp
 refine W.nil 3 3 143 1 (by simp) (by decide) (fun K hK => ?_)
 refine W.lw [0, 3] hK ?_; clear hK K; simp
 refine W.seq ?_
 refine W.block ?_
 refine W.a9 (fun k σ => ∃ (i : Nat) (z : List Int) (ver : Nat) (rows : Pm.Rows) (clk : Nat), σ = ⟨fa [(0, aJ aF (aQ DD k)), (3, .own 3 ver 0 i)], rows, clk⟩ ∧ rows 3 = some ⟨ver, 143, 1, emap u32 z⟩ ∧ z.length = i ∧ k ≤ n ∧ aQ LL n = z ++ aQ LL k) n ?_ ?_
 ·exact ⟨_, .refl, 0, [], _, _, _, rfl, by simp [emap], rfl, by omega, by simp⟩
 rintro k _ ⟨i, z, ver, rows, clk, rfl, hr, EJ, hk, hd⟩
 have hzk : Z (k : Int) := Nat.lt_of_le_of_lt (cC (by decide) (y := (n : Int)) (by omega)) hz
 have sE : i ≤ (aQ LL n).length := by rw [hd]; simp [EJ]
 have e0 : (aQ DD k).length = 0 ↔ k = 0 := by rw [List.length_eq_zero_iff, dK LD]
 refine W.seq ?_
 refine W.sr ?_; simp (disch := omega) [gw]; refine W.lx [0, 3, 9] ?_; simp
 refine W.cond ⟨_, rfl, fun h => ?_, fun h => ?_⟩
 ·have wL : k ≠ 0 := by rw [Ne, ← e0]; simp at h; omega
  have uT : Z ((k : Int) / 65536) := Nat.lt_of_le_of_lt (cC (by decide) (y := (k : Int)) (by omega)) hzk
  refine W.skip ?_
  refine W.block ?_
  refine W.sr ?_
  simp (disch := omega) [gw]
  refine aA (zP (k : Int) 65536 (by omega) hzk (by decide) (by decide)) ?_
  simp (disch := omega) [gw]
  refine W.lx [3, 4, 5] ?_; simp
  refine W.sr ?_
  simp (disch := omega) [gw]
  refine aA (zP ((k : Int) / 65536) 65536 (by omega) uT (by decide) (by decide)) ?_
  simp (disch := omega) [gw]
  refine W.lx [3, 4, 5, 6] ?_; simp
  refine W.sr ?_; simp (disch := omega) [gw, hr, EJ, wrap_u32']
  have e1 : (k : Int) / 65536 % 65536 * 65536 + k % 65536 = ((k % LL : Nat) : Int) := by simp; omega
  have e3 : k / LL < k := Nat.div_lt_self (by omega) (by decide)
  obtain ⟨dg, e2⟩ : ∃ dg : Int, dg = ((k % LL : Nat) : Int) := ⟨_, rfl⟩
  rw [← e2] at e1
  simp only [e1, ad1]
  refine W.lx [3, 4] ?_; simp
  refine W.b8 (fun K hK => ?_); simp (disch := omega) [gw]
  refine hK _ ⟨k / LL, _, Gh.fr [(0, aJ aF (aQ DD (k / LL))), (3, .own 3 _ 0 (i + 1))] ?_, e3, i + 1, z ++ [dg], _, _, _, rfl, by simp; rfl, by simp [EJ], by omega, ?_⟩
  ·have e2 : ((k : Int) / 65536 / 65536).toNat = k / LL := by show _ = k / 4294967296; omega
   simp only [Dn, e2]
   simp
  ·rw [hd, pJ fS wL, e2]; simp
 ·have wL : k = 0 := by rw [← e0]; simp at h; simp [h]
  subst wL
  refine W.exit ?_; simp only [pX, if_true, if_false, reduceIte, Nat.reduceEqDiff]
  refine W.sr ?_; simp (disch := omega) [gw]; refine W.lx [2] ?_; simp
  refine W.ret ?_
  simp [kB] at hd
  have ez : z.take i = z := bE EJ
  simp [go, hr, ez, hd]
theorem FK (x : Int) (hz : Z x) : aI env.P 49 [RI x] (I x) := by
 refine aB (E := env) (fun _ => 0) [(0, RI x)] Tryz.func49 rfl (by kernel_rfl) (by kernel_rfl) (show 1 ≤ 9 by decide) (by simp) ?_
 refine W.sr ?_; simp (disch := omega) [gw]; refine W.lx [1, 2] ?_; simp
 refine W.sd ?_
 simp (disch := omega) [gw]
 refine aA (ad2 x.natAbs (by simpa [Z, sz] using hz)) ?_
 simp (disch := omega) [gw]
 refine W.lx [2] ?_; simp
 refine W.ret ?_
 simp [go]
theorem UD (x y : List Int) (hx : x.length < 1099511627776) (hy : y.length < 1099511627776) (lx : b6 10000 x) (ly : b6 10000 y) (cx : aM x = x) (cy : aM y = y) : aI env.P 196 [aJ aF x, aJ aF y] (.int .i64 (dC (V 10000 x) (V 10000 y))) := by
 refine aB (E := env) (fun _ => 0) [(0, aJ aF x), (1, aJ aF y)] Tryz.func196 rfl (by kernel_rfl) (by kernel_rfl) (show 2 ≤ 41 by decide) (by simp) ?_
 refine W.sr ?_; simp (disch := omega) [gw]; refine W.lx [0, 1] ?_; simp
 refine W.seq ?_
 refine W.sr ?_; simp (disch := omega) [gw]; refine W.lx [0, 1, 10] ?_; simp
 refine W.cond ⟨_, rfl, fun h => ?_, fun h => ?_⟩
 ·simp at h
  refine W.seq ?_
  refine W.sr ?_; simp (disch := omega) [gw]; refine W.lx [15] ?_; simp
  refine W.cond ⟨_, rfl, fun h => ?_, fun h => ?_⟩
  ·simp at h
   refine W.sr ?_; simp (disch := omega) [gw]; refine W.lx [4] ?_; simp
   refine W.ret ?_
   simp [l7 (iQ (by decide) lx ly cy h)]
  ·simp at h
   refine W.skip ?_
   refine W.sr ?_; simp (disch := omega) [gw]; refine W.lx [4] ?_; simp
   refine W.ret ?_
   simp [l8 (iQ (by decide) ly lx cx (by omega))]
 ·simp at h
  have hlen : x.length = y.length := by omega
  clear h
  refine W.skip ?_
  refine W.seq ?_
  refine W.sr ?_; simp (disch := omega) [gw]; refine W.lx [0, 1, 5] ?_; simp
  refine W.block ?_
  refine W.a9 (fun k σ => ∃ (rows : Pm.Rows) (clk : Nat), σ = ⟨fa [(0, aJ aF x), (1, aJ aF y), (5, .int .i64 ((k : Int) - 1))], rows, clk⟩ ∧ k ≤ x.length ∧ x.drop k = y.drop k) x.length ?_ ?_
  ·exact ⟨_, .refl, _, _, rfl, by omega, by rw [List.drop_of_length_le (by omega), List.drop_of_length_le (by omega)]⟩
  rintro k _ ⟨rows, clk, rfl, hk, hd⟩
  refine W.seq ?_
  refine W.sr ?_; simp (disch := omega) [gw]; refine W.lx [0, 1, 5, 20] ?_; simp
  refine W.cond ⟨_, rfl, fun h => ?_, fun h => ?_⟩
  ·have h0 : 0 < k := by simp at h; omega
   obtain ⟨j, rfl⟩ : ∃ j, k = j + 1 := ⟨k - 1, by omega⟩
   clear h
   refine W.skip ?_
   refine W.seq ?_
   refine W.block ?_
   refine W.sd ?_; simp (disch := omega) [gw]; refine W.lx [0, 1, 5, 31] ?_; simp
   refine W.cond ⟨_, rfl, fun h => ?_, fun h => ?_⟩
   ·simp at h
    refine W.seq ?_
    refine W.sd ?_; simp (disch := omega) [gw]; refine W.lx [40] ?_; simp
    refine W.cond ⟨_, rfl, fun h2 => ?_, fun h2 => ?_⟩
    ·simp at h2
     refine W.sr ?_; simp (disch := omega) [gw]; refine W.lx [4] ?_; simp
     refine W.ret ?_
     simp [l7 (l6 (by decide) lx ly hlen (by omega) hd h2)]
    ·simp at h2
     refine W.skip ?_
     refine W.sr ?_; simp (disch := omega) [gw]; refine W.lx [4] ?_; simp
     refine W.ret ?_
     simp [l8 (l6 (by decide) ly lx hlen.symm (by omega) hd.symm (by omega))]
   ·simp at h
    refine W.skip ?_
    refine W.b8 (fun K hK => ?_); simp (disch := omega) [gw]
    refine hK _ ⟨j, _, aC _ [0, 1, 5], by omega, _, _, rfl, by omega, ?_⟩
    rw [dV (l := x) (i := j) (by omega), dV (l := y) (i := j) (by omega), hd, h]
  ·have h0 : k = 0 := by simp at h; omega
   subst h0
   simp at hd
   subst hd
   refine W.exit ?_; simp only [pX, if_true, if_false, reduceIte, Nat.reduceEqDiff]
   refine W.sr ?_; simp (disch := omega) [gw]; refine W.lx [4] ?_; simp
   refine W.ret ?_
   simp [xJ]
theorem JA (x y : Int) (hx : 0 ≤ x) (hy : 0 ≤ y) (zx : Z x) (zy : Z y) : aI env.P 196 [Dn x, Dn y] (.int .i64 (dC x y)) := by
 have := UD (aQ DD x.toNat) (aQ DD y.toNat) (by have := jB hx; omega) (by have := jB hy; omega) (kK _) (kK _) (l5 LD _) (l5 LD _)
 rwa [tN hx, tN hy] at this
theorem UE (a b : List Int) (ha : a.length < 1099511627776) (hb : b.length < 1099511627776) (la : b6 10000 a) (lb : b6 10000 b) (ca : aM a = a) (cb : aM b = b) : aI env.P 195 [aJ aF a, aJ aF b] (Dn (V 10000 a + V 10000 b)) := by
 refine aB (E := env) (fun _ => 0) [(0, aJ aF a), (1, aJ aF b)] Tryz.func195 rfl (by kernel_rfl) (by kernel_rfl) (show 2 ≤ 52 by decide) (by simp) ?_
 refine W.sr ?_; simp (disch := omega) [gw]; refine W.lx [0, 1] ?_; simp
 refine W.sr ?_; simp (disch := omega) [gw]; refine W.lx [0, 1, 5] ?_; simp
 refine W.nil 5 5 3 1 (by simp) (by decide) (fun K hK => ?_)
 refine W.lw [0, 1, 5] hK ?_; clear hK K; simp
 refine W.sr ?_; simp (disch := omega) [gw]; refine W.lx [0, 1, 5, 6] ?_; simp
 refine W.seq ?_
 refine W.sr ?_; simp (disch := omega) [gw]; refine W.lx [0, 1, 5, 6, 7] ?_; simp
 refine W.block ?_
 obtain ⟨M, hM⟩ : ∃ M, M = max a.length b.length := ⟨_, rfl⟩
 refine W.a9 (fun k σ => ∃ (i : Nat) (c : Int) (z : List Int) (ver : Nat) (rows : Pm.Rows) (clk : Nat), σ = ⟨fa [(0, aJ aF a), (1, aJ aF b), (5, .own 5 ver 0 i), (6, .int .i64 c), (7, .int .i64 i)], rows, clk⟩ ∧
  rows 5 = some ⟨ver, 3, 1, emap aF z⟩ ∧ k = 2 * (M - i) + c.toNat ∧ z.length = i ∧ (i ≤ M ∨ (i = M + 1 ∧ c = 0 ∧ 10000 ^ M ≤ V 10000 a + V 10000 b)) ∧ b6 10000 z ∧ 0 ≤ c ∧ c ≤ 1 ∧
  V 10000 z + 10000 ^ i * c = V 10000 (a.take i) + V 10000 (b.take i)) (2 * M) ?_ ?_
 ·exact ⟨_, .refl, 0, 0, [], _, _, _, rfl, by simp [emap], by simp, rfl, by omega, b6.nil, by omega, by omega, by simp [V]⟩
 rintro k _ ⟨i, c, z, ver, rows, clk, rfl, hr, hk, hz, hi, lz, tI, uM, hV⟩
 refine W.seq ?_
 refine W.gY (fun σ => ∃ (t : Bool), σ = ⟨fa [(0, aJ aF a), (1, aJ aF b), (5, .own 5 ver 0 i), (6, .int .i64 c), (7, .int .i64 i), (21, .bool t)], rows, clk⟩ ∧ (t = true ↔ i < M ∨ 0 < c)) (fun K hK => ?_) ?_
 ·simp
  by_cases h1 : i < a.length
  ·simp (disch := omega) [gw, h1]
   exact hK _ _ (aC _ [0, 1, 5, 6, 7, 21]) ⟨_, rfl, by simp; omega⟩
  ·by_cases h2 : i < b.length
   ·simp (disch := omega) [gw, h1, h2]
    exact hK _ _ (aC _ [0, 1, 5, 6, 7, 21]) ⟨_, rfl, by simp; omega⟩
   ·simp (disch := omega) [gw, h1, h2]
    exact hK _ _ (aC _ [0, 1, 5, 6, 7, 21]) ⟨_, rfl, by simp; omega⟩
 rintro _ ⟨t, rfl, ht⟩
 refine W.cond ⟨_, rfl, fun h => ?_, fun h => ?_⟩
 ·have ht := ht.1 h
  refine W.skip ?_
  refine W.seq ?_
  refine W.block ?_
  refine W.fX (fun σ => ∃ (s : Int), σ = ⟨fa [(0, aJ aF a), (1, aJ aF b), (5, .own 5 ver 0 i), (6, .int .i64 s), (7, .int .i64 i)], rows, clk⟩ ∧ 0 ≤ s ∧ s ≤ c + 9999 ∧ (a.length ≤ i → s = c) ∧
   V 10000 z + 10000 ^ i * s = V 10000 (a.take (i + 1)) + V 10000 (b.take i)) ?_ ?_
  ·
   refine W.sr ?_; simp (disch := omega) [gw]; refine W.lx [0, 1, 5, 6, 7, 27] ?_; simp
   refine W.cond ⟨_, rfl, fun h => ?_, fun h => ?_⟩
   ·simp at h
    have hx := la.nth h
    refine W.b8 (fun K hK => ?_); simp (disch := omega) [gw]
    refine hK _ ⟨_, aC _ [0, 1, 5, 6, 7], _, rfl, by omega, by omega, by omega, ?_⟩
    rw [aT h]; grind
   ·simp at h
    refine W.skip ?_
    refine ⟨_, aC _ [0, 1, 5, 6, 7], _, rfl, by omega, by omega, fun _ => rfl, ?_⟩
    rw [aX (l := a) (by omega)]
    rwa [aX (l := a) (by omega)] at hV
  rintro _ ⟨s, rfl, TZ, qO, hsc, hsV⟩
  refine W.fX (fun σ => ∃ (u : Int), σ = ⟨fa [(0, aJ aF a), (1, aJ aF b), (5, .own 5 ver 0 i), (6, .int .i64 u), (7, .int .i64 i)], rows, clk⟩ ∧ 0 ≤ u ∧ u ≤ s + 9999 ∧ (b.length ≤ i → u = s) ∧
   V 10000 z + 10000 ^ i * u = V 10000 (a.take (i + 1)) + V 10000 (b.take (i + 1))) ?_ ?_
  ·
   refine W.sr ?_; simp (disch := omega) [gw]; refine W.lx [0, 1, 5, 6, 7, 37] ?_; simp
   refine W.cond ⟨_, rfl, fun h => ?_, fun h => ?_⟩
   ·simp at h
    have hx := lb.nth h
    refine W.b8 (fun K hK => ?_); simp (disch := omega) [gw]
    refine hK _ ⟨_, aC _ [0, 1, 5, 6, 7], _, rfl, by omega, by omega, by omega, ?_⟩
    rw [aT h]; grind
   ·simp at h
    refine W.skip ?_
    refine ⟨_, aC _ [0, 1, 5, 6, 7], _, rfl, by omega, by omega, fun _ => rfl, ?_⟩
    rw [aX (l := b) (by omega)]
    rwa [aX (l := b) (by omega)] at hsV
  rintro _ ⟨u, rfl, hu0, hu1, huc, huV⟩
  refine W.sr ?_; simp (disch := omega) [gw, hr, hz]
  refine W.lx [0, 1, 5, 6, 7] ?_; simp
  refine W.b8 (fun K hK => ?_); simp (disch := omega) [gw]; refine W.lw [0, 1, 5, 6, 7] hK ?_; clear hK K; simp
  refine W.b8 (fun K hK => ?_); simp (disch := omega) [gw]
  refine hK _ ⟨2 * (M - (i + 1)) + (u / 10000).toNat, _, aC _ [0, 1, 5, 6, 7], ?_, i + 1, u / 10000, z ++ [u % 10000], _, _, _, rfl, by simp, rfl, by simp [hz], ?_, b6.append.2 ⟨lz, b6.cons.2 ⟨by omega, b6.nil⟩⟩, by omega, by omega, ?_⟩
  ·rcases Nat.lt_or_ge i M with h1 | h1
   ·omega
   ·have := hsc (by omega); have := huc (by omega); omega
  ·rcases Nat.lt_or_ge i M with h1 | h1
   ·omega
   ·right
    have hc : c = 1 := by omega
    have hzn := bF (by decide) lz
    rw [aX (l := a) (by omega), aX (l := b) (by omega), hc] at hV
    have hiM : i = M := by omega
    rw [← hiM]
    refine ⟨rfl, by have := hsc (by omega); have := huc (by omega); omega, ?_⟩
    rw [← hV]
    omega
  ·rw [dF, lZ, hz, ← huV, Int.pow_succ]
   have := Int.emod_add_mul_ediv u 10000
   grind
 ·have ht : ¬ (i < M ∨ 0 < c) := fun h2 => by simp [ht.2 h2] at h
  have hc : c = 0 := by omega
  subst hc
  refine W.exit ?_; simp only [pX, if_true, if_false, reduceIte, Nat.reduceEqDiff]
  refine W.sr ?_; simp (disch := omega) [gw]; refine W.lx [4] ?_; simp
  refine W.ret ?_
  rw [aX (l := a) (by omega), aX (l := b) (by omega)] at hV
  have e : V 10000 a + V 10000 b = V 10000 z := by rw [← hV]; simp
  have cz : aM z = z := by
   refine I9 (by decide) lz fun h0 => ?_
   rw [hz, ← e]
   rcases hi with h1 | ⟨h1, _, h2⟩
   ·have hna := bF (by decide) la
    have hnb := bF (by decide) lb
    have sE : 0 < i := by rw [← hz]; exact List.length_pos_iff.2 h0
    rcases Nat.le_total b.length a.length with h3 | h3
    ·have := lE (b := 10000) (by decide) la ca (by intro h5; rw [h5] at h3 hM; simp at h3; simp [h3] at hM; omega)
     rw [show i - 1 = a.length - 1 by omega]; omega
    ·have := lE (b := 10000) (by decide) lb cb (by intro h5; rw [h5] at h3 hM; simp at h3; simp [h3] at hM; omega)
     rw [show i - 1 = b.length - 1 by omega]; omega
   ·rw [h1]; exact h2
  have ez : z.take i = z := bE hz
  rw [e, ← sC lz, cz]
  simp [go, hr, ez]
theorem ZV (x y : Int) (hx : 0 ≤ x) (hy : 0 ≤ y) (zx : Z x) (zy : Z y) : aI env.P 195 [Dn x, Dn y] (Dn (x + y)) := by
 have := UE (aQ DD x.toNat) (aQ DD y.toNat) (by have := jB hx; omega) (by have := jB hy; omega) (kK _) (kK _) (l5 LD _) (l5 LD _)
 rwa [tN hx, tN hy] at this
theorem UF (a b : List Int) (ha : a.length < 1099511627776) (hb : b.length ≤ a.length) (la : b6 10000 a) (lb : b6 10000 b) (hle : V 10000 b ≤ V 10000 a) : aI env.P 197 [aJ aF a, aJ aF b] (Dn (V 10000 a - V 10000 b)) := by
 refine aB (E := env) (fun _ => 0) [(0, aJ aF a), (1, aJ aF b)] Tryz.func197 rfl (by kernel_rfl) (by kernel_rfl) (show 2 ≤ 44 by decide) (by simp) ?_
 refine W.sr ?_; simp (disch := omega) [gw]; refine W.lx [0, 1] ?_; simp
 refine W.sr ?_; simp (disch := omega) [gw]; refine W.lx [0, 1, 5] ?_; simp
 refine W.sr ?_; simp (disch := omega) [gw]; refine W.lx [0, 1, 5, 6] ?_; simp
 refine W.seq ?_
 refine W.sr ?_; simp (disch := omega) [gw]; refine W.lx [0, 1, 5, 6, 13, 14] ?_; simp
 refine W.block ?_
 refine W.a9 (fun k σ => ∃ (i : Nat) (c : Int) (z : List Int) (ver : Nat) (rows : Pm.Rows) (clk : Nat), σ = ⟨fa [(0, aJ aF a), (1, aJ aF b), (5, .own 11 ver 0 a.length), (6, .int .i64 c), (13, .int .i64 a.length), (14, .int .i64 i)], rows, clk⟩ ∧
  rows 11 = some ⟨ver, 3, 1, emap aF z⟩ ∧ k = a.length - i ∧ i ≤ a.length ∧ z.length = a.length ∧ b6 10000 z ∧ 0 ≤ c ∧ c ≤ 1 ∧
  V 10000 (z.take i) - 10000 ^ i * c = V 10000 (a.take i) - V 10000 (b.take i)) a.length ?_ ?_
 ·exact ⟨_, .refl, 0, 0, List.replicate a.length 0, _, _, _, rfl, by simp, by omega, by omega, by simp, b6.rep (by decide) _, by omega, by omega, by simp [V]⟩
 rintro k _ ⟨i, c, z, ver, rows, clk, rfl, hr, hk, hi, hz, lz, tI, uM, hV⟩
 refine W.sr ?_; simp (disch := omega) [gw]; refine W.lx [0, 1, 5, 6, 13, 14, 15] ?_; simp
 refine W.seq ?_
 refine W.cond ⟨_, rfl, fun h => ?_, fun h => ?_⟩
 ·simp at h
  have hx := la.nth h
  refine W.skip ?_
  refine W.seq ?_
  refine W.block ?_
  refine W.sr ?_; simp (disch := omega) [gw]; refine W.lx [0, 1, 5, 6, 7, 13, 14] ?_; simp
  refine W.sr ?_; simp (disch := omega) [gw]; refine W.lx [0, 1, 5, 7, 8, 13, 14] ?_; simp
  refine W.fX (fun σ => ∃ (s : Int), σ = ⟨fa [(0, aJ aF a), (1, aJ aF b), (5, .own 11 ver 0 a.length), (7, .int .i64 i), (8, .int .i64 s), (13, .int .i64 a.length), (14, .int .i64 i)], rows, clk⟩ ∧ -10000 ≤ s ∧ s ≤ 9999 ∧
   V 10000 (z.take i) + 10000 ^ i * s = V 10000 (a.take (i + 1)) - V 10000 (b.take (i + 1))) ?_ ?_
  ·
   refine W.sr ?_; simp (disch := omega) [gw]; refine W.lx [0, 1, 5, 7, 8, 13, 14, 26] ?_; simp
   refine W.cond ⟨_, rfl, fun h => ?_, fun h => ?_⟩
   ·simp at h
    have hy := lb.nth h
    refine W.b8 (fun K hK => ?_); simp (disch := omega) [gw]
    refine hK _ ⟨_, aC _ [0, 1, 5, 7, 8, 13, 14], _, rfl, by omega, by omega, ?_⟩
    rw [aT (l := a) (by omega), aT h]; grind
   ·simp at h
    refine W.skip ?_
    refine ⟨_, aC _ [0, 1, 5, 7, 8, 13, 14], _, rfl, by omega, by omega, ?_⟩
    rw [aT (l := a) (by omega), aX (l := b) (by omega)]
    rw [aX (l := b) (by omega)] at hV
    grind
  rintro _ ⟨s, rfl, TZ, qO, hsV⟩
  refine W.sr ?_; simp (disch := omega) [gw]; refine W.lx [0, 1, 5, 6, 7, 8, 13, 14] ?_; simp
  refine W.fX (fun σ => ∃ (u c : Int), σ = ⟨fa [(0, aJ aF a), (1, aJ aF b), (5, .own 11 ver 0 a.length), (6, .int .i64 c), (7, .int .i64 i), (8, .int .i64 u), (13, .int .i64 a.length), (14, .int .i64 i)], rows, clk⟩ ∧ 0 ≤ u ∧ u ≤ 9999 ∧ 0 ≤ c ∧ c ≤ 1 ∧ s = u - 10000 * c) ?_ ?_
  ·
   refine W.sr ?_; simp (disch := omega) [gw]; refine W.lx [0, 1, 5, 6, 7, 8, 13, 14, 34] ?_; simp
   refine W.cond ⟨_, rfl, fun h => ?_, fun h => ?_⟩
   ·simp at h
    refine W.sr ?_; simp (disch := omega) [gw]; refine W.lx [0, 1, 5, 7, 8, 13, 14] ?_; simp
    refine W.b8 (fun K hK => ?_); simp (disch := omega) [gw]
    exact hK _ ⟨_, aC _ [0, 1, 5, 6, 7, 8, 13, 14], _, 1, rfl, by omega, by omega, by omega, by omega, by omega⟩
   ·simp at h
    refine W.skip ?_
    exact ⟨_, aC _ [0, 1, 5, 6, 7, 8, 13, 14], _, 0, rfl, by omega, by omega, by omega, by omega, by omega⟩
  rintro _ ⟨u, c', rfl, hu0, hu1, aud, aue, hu⟩
  refine W.b8 (fun K hK => ?_); simp (disch := omega) [gw, hr]
  refine W.lw [0, 1, 5, 6, 13, 14] hK ?_; clear hK K; simp
  refine W.b8 (fun K hK => ?_); simp (disch := omega) [gw]
  refine hK _ ⟨a.length - (i + 1), _, aC _ [0, 1, 5, 6, 13, 14], by omega, i + 1, c', z.set i u, ver, _, _, rfl, by simp, by omega, by omega, by simpa using hz, lz.set (by omega), aud, aue, ?_⟩
  rw [dW (by omega), ← hsV, hu, Int.pow_succ]
  grind
 ·simp at h
  have kY : i = a.length := by omega
  subst kY
  have ez : z.take a.length = z := bE hz
  refine W.exit ?_; simp only [pX, if_true, if_false, reduceIte, Nat.reduceEqDiff]
  refine W.sr ?_
  simp (disch := omega) [gw, hr, ez]
  refine aA (nB z (by omega)) ?_
  simp (disch := omega) [gw]
  refine W.lx [4] ?_; simp
  refine W.ret ?_
  rw [ez, aX (l := a) (by omega), aX (l := b) (by omega)] at hV
  have h1 := nV (by decide) lz
  rw [hz] at h1
  have hc : c = 0 := by
   rcases (show c = 0 ∨ c = 1 by omega) with h2 | h2
   ·exact h2
   ·subst h2; omega
  subst hc
  have e : V 10000 a - V 10000 b = V 10000 z := by rw [← hV]; simp
  rw [e, ← sC lz]
  simp [go]
theorem zS (x y : Int) (hy : 0 ≤ y) (hle : y ≤ x) (zx : Z x) : aI env.P 197 [Dn x, Dn y] (Dn (x - y)) := by
 have hlen : (aQ DD y.toNat).length ≤ (aQ DD x.toNat).length := by
  have h1 := cC (b := DD) LD (x := y) (y := x) (by omega)
  simp only [sz] at h1
  rwa [show y.natAbs = y.toNat by omega, show x.natAbs = x.toNat by omega] at h1
 have := UF (aQ DD x.toNat) (aQ DD y.toNat) (by have := jB (show 0 ≤ x by omega); omega) hlen (kK _) (kK _) (by rw [tN hy, tN (by omega)]; exact hle)
 rwa [tN hy, tN (by omega)] at this
theorem ajy {a b : Int} (ha : 0 ≤ a ∧ a < 10000) (hb : 0 ≤ b ∧ b < 10000) : 0 ≤ a * b ∧ a * b ≤ 99980001 := by
 refine ⟨Int.mul_nonneg ha.1 hb.1, ?_⟩
 have := Int.mul_le_mul (show a ≤ 9999 by omega) (show b ≤ 9999 by omega) hb.1 (by decide)
 simpa using this
theorem UG (x y : List Int) (hx : x.length < 1099511627776) (hy : y.length < 1099511627776) (lx : b6 10000 x) (ly : b6 10000 y) : aI env.P 173 [aJ aF x, aJ aF y] (Dn (V 10000 x * V 10000 y)) := by
 refine aB (E := env) (fun _ => 0) [(0, aJ aF x), (1, aJ aF y)] Tryz.func173 rfl (by kernel_rfl) (by kernel_rfl) (show 2 ≤ 66 by decide) (by simp) ?_
 refine W.sr ?_; simp (disch := omega) [gw]; refine W.lx [0, 1] ?_; simp
 have e : ((x.length : Int) + (y.length : Int)).toNat = x.length + y.length := by omega
 refine W.sr ?_; simp (disch := omega) [gw, e]; refine W.lx [0, 1, 5] ?_; simp
 refine W.seq ?_
 refine W.sr ?_; simp (disch := omega) [gw]; refine W.lx [0, 1, 5, 17, 18] ?_; simp
 refine W.block ?_
 refine W.a9 (fun k σ => ∃ (i : Nat) (z : List Int) (ver : Nat) (rows : Pm.Rows) (clk : Nat), σ = ⟨fa [(0, aJ aF x), (1, aJ aF y), (5, .own 15 ver 0 (x.length + y.length)), (17, .int .i64 x.length), (18, .int .i64 i)], rows, clk⟩ ∧
   rows 15 = some ⟨ver, 3, 1, emap aF z⟩ ∧ k = x.length - i ∧ i ≤ x.length ∧ z.length = x.length + y.length ∧ b6 10000 z ∧ (∀ j, i + y.length ≤ j → nth z j = 0) ∧
   V 10000 z = V 10000 (x.take i) * V 10000 y) x.length ?_ ?_
 ·refine ⟨_, .refl, 0, List.replicate (x.length + y.length) 0, _, _, _, rfl, by simp [e], by omega, by omega, by simp, b6.rep (by decide) _, fun j _ => ?_, by simp [V, oN]⟩
  unfold nth
  cases h : (List.replicate (x.length + y.length) (0 : Int))[j]? with
  | none => rfl
  | some v => have := List.mem_of_getElem? h; simp at this; simp [this]
 rintro k _ ⟨i, z, ver, rows, clk, rfl, hr, hk, hi, hz, lz, rA, hV⟩
 refine W.sr ?_; simp (disch := omega) [gw]; refine W.lx [0, 1, 5, 17, 18, 19] ?_; simp
 refine W.seq ?_
 refine W.cond ⟨_, rfl, fun h => ?_, fun h => ?_⟩
 ·simp at h
  have hxi := lx.nth h
  refine W.skip ?_
  refine W.seq ?_
  refine W.block ?_
  refine W.sr ?_; simp (disch := omega) [gw]; refine W.lx [0, 1, 5, 6, 17, 18] ?_; simp
  refine W.sr ?_; simp (disch := omega) [gw]; refine W.lx [0, 1, 5, 6, 7, 17, 18] ?_; simp
  refine W.sr ?_; simp (disch := omega) [gw]; refine W.lx [0, 1, 5, 6, 7, 8, 17, 18] ?_; simp
  refine W.block ?_
  refine W.a9 (fun m σ => ∃ (k : Nat) (c : Int) (z : List Int) (ver : Nat) (rows : Pm.Rows) (clk : Nat), σ = ⟨fa [(0, aJ aF x), (1, aJ aF y), (5, .own 15 ver 0 (x.length + y.length)), (6, .int .i64 i), (7, .int .i64 c), (8, .int .i64 k), (17, .int .i64 x.length), (18, .int .i64 i)], rows, clk⟩ ∧
   rows 15 = some ⟨ver, 3, 1, emap aF z⟩ ∧ m = y.length + 1 - k ∧ (k ≤ y.length ∧ (∀ j, i + y.length ≤ j → nth z j = 0) ∨ k = y.length + 1 ∧ c = 0) ∧ z.length = x.length + y.length ∧ b6 10000 z ∧ (∀ j, i + 1 + y.length ≤ j → nth z j = 0) ∧ 0 ≤ c ∧ c ≤ 9999 ∧
   V 10000 z + 10000 ^ (i + k) * c = V 10000 (x.take i) * V 10000 y + 10000 ^ i * nth x i * V 10000 (y.take k)) (y.length + 1) ?_ ?_
  ·exact ⟨_, .refl, 0, 0, z, ver, _, _, rfl, by simpa using hr, by omega, .inl ⟨by omega, rA⟩, hz, lz, fun j hj => rA j (by omega), by omega, by omega, by simp [V, hV]⟩
  clear hV rA lz hz hr z ver rows clk
  rintro m _ ⟨k, c, z, ver, rows, clk, rfl, hr, hm, hky, hz, lz, rA, tI, uM, hV⟩
  refine W.seq ?_
  refine W.gY (fun σ => ∃ (t : Bool), σ = ⟨fa [(0, aJ aF x), (1, aJ aF y), (5, .own 15 ver 0 (x.length + y.length)), (6, .int .i64 i), (7, .int .i64 c), (8, .int .i64 k), (17, .int .i64 x.length), (18, .int .i64 i), (28, .bool t)], rows, clk⟩ ∧ (t = true ↔ k < y.length ∨ 0 < c)) (fun K hK => ?_) ?_
  ·simp
   by_cases h2 : k < y.length
   ·simp (disch := omega) [gw, h2]
    exact hK _ _ (aC _ [0, 1, 5, 6, 7, 8, 17, 18, 28]) ⟨_, rfl, by simp [h2]⟩
   ·simp (disch := omega) [gw, h2]
    exact hK _ _ (aC _ [0, 1, 5, 6, 7, 8, 17, 18, 28]) ⟨_, rfl, by simp [h2]⟩
  rintro _ ⟨t, rfl, ht⟩
  refine W.cond ⟨_, rfl, fun h2 => ?_, fun h2 => ?_⟩
  ·have ht := ht.1 h2
   obtain ⟨wL, hk1⟩ : k ≤ y.length ∧ (∀ j, i + y.length ≤ j → nth z j = 0) := by
    rcases hky with h3 | h3
    ·exact h3
    ·omega
   have hzk := lz.nth (i := i + k) (by omega)
   have e0 : ((i : Int) + (k : Int)).toNat = i + k := by omega
   refine W.skip ?_
   refine W.seq ?_
   refine W.block ?_
   refine W.sr ?_; simp (disch := omega) [gw, hr, e0]
   refine W.lx [0, 1, 5, 6, 8, 9, 17, 18] ?_; simp
   refine W.fX (fun σ => ∃ (s : Int), σ = ⟨fa [(0, aJ aF x), (1, aJ aF y), (5, .own 15 ver 0 (x.length + y.length)), (6, .int .i64 i), (8, .int .i64 k), (9, .int .i64 s), (17, .int .i64 x.length), (18, .int .i64 i)], rows, clk⟩ ∧ 0 ≤ s ∧ s ≤ 99999999 ∧ (k = y.length → s = c) ∧
    V 10000 z - 10000 ^ (i + k) * nth z (i + k) + 10000 ^ (i + k) * s = V 10000 (x.take i) * V 10000 y + 10000 ^ i * nth x i * V 10000 (y.take (k + 1))) ?_ ?_
   ·
    refine W.sr ?_; simp (disch := omega) [gw]; refine W.lx [0, 1, 5, 6, 8, 9, 17, 18, 42] ?_; simp
    refine W.cond ⟨_, rfl, fun h => ?_, fun h => ?_⟩
    ·simp at h
     have hyk := ly.nth h
     have hp := ajy hxi hyk
     refine W.M3 (fun K hK => ?_); simp (disch := omega) [gw]
     refine hK _ ⟨_, aC _ [0, 1, 5, 6, 8, 9, 17, 18], _, rfl, by omega, by omega, by omega, ?_⟩
     rw [aT h, Int.pow_add]
     rw [Int.pow_add] at hV
     grind
    ·simp at h
     have hkl : k = y.length := by omega
     have h0 := hk1 (i + k) (by omega)
     refine W.skip ?_
     refine ⟨_, aC _ [0, 1, 5, 6, 8, 9, 17, 18], _, rfl, by omega, by omega, by omega, ?_⟩
     rw [aX (l := y) (by omega)]
     rw [aX (l := y) (by omega)] at hV
     rw [h0]
     grind
   rintro _ ⟨s, rfl, TZ, qO, hsc, hsV⟩
   refine W.sr ?_; simp (disch := omega) [gw, hr, e0]
   refine W.lx [0, 1, 5, 6, 8, 9, 17, 18] ?_; simp
   refine W.b8 (fun K hK => ?_); simp (disch := omega) [gw]; refine W.lw [0, 1, 5, 6, 7, 8, 17, 18] hK ?_; clear hK K; simp
   refine W.b8 (fun K hK => ?_); simp (disch := omega) [gw]
   have T0 := C2 (b := 10000) (l := z) (i := i + k) (x := s % 10000) (by omega)
   refine hK _ ⟨y.length + 1 - (k + 1), _, aC _ [0, 1, 5, 6, 7, 8, 17, 18], by omega, k + 1, s / 10000, z.set (i + k) (s % 10000), ver, _, _, rfl, by simp, rfl, ?_, by simpa using hz, lz.set (by omega), fun j hj => ?_, by omega, by omega, ?_⟩
   ·rcases Nat.lt_or_ge k y.length with h3 | h3
    ·left
     refine ⟨by omega, fun j hj => ?_⟩
     rw [fF (by omega)]; exact hk1 j hj
    ·right
     have := hsc (by omega)
     exact ⟨by omega, by omega⟩
   ·rw [fF (by omega)]; exact rA j hj
   ·rw [T0, ← hsV, show i + (k + 1) = (i + k) + 1 by omega, Int.pow_succ]
    have := Int.emod_add_mul_ediv s 10000
    grind
  ·have ht : ¬ (k < y.length ∨ 0 < c) := fun h3 => by simp [ht.2 h3] at h2
   have hc : c = 0 := by omega
   subst hc
   refine W.exit ?_; simp only [pX, if_true, if_false, reduceIte, Nat.reduceEqDiff]
   refine W.b8 (fun K hK => ?_); simp (disch := omega) [gw]
   refine hK _ ⟨x.length - (i + 1), _, aC _ [0, 1, 5, 17, 18], by omega, i + 1, z, ver, _, _, rfl, hr, by omega, by omega, hz, lz, rA, ?_⟩
   rw [aT h]
   rw [aX (l := y) (by omega)] at hV
   grind
 ·simp at h
  have kY : i = x.length := by omega
  subst kY
  have uT : List.take (x.length + y.length) z = z := List.take_of_length_le (by omega)
  refine W.exit ?_; simp only [pX, if_true, if_false, reduceIte, Nat.reduceEqDiff]
  refine W.sr ?_
  simp (disch := omega) [gw, hr, uT]
  refine aA (nB z (by omega)) ?_
  simp (disch := omega) [gw]
  refine W.lx [4] ?_; simp
  refine W.ret ?_
  rw [aX (Nat.le_refl _)] at hV
  rw [← hV, ← sC lz]
  simp
theorem ZW (x y : Int) (hx : 0 ≤ x) (hy : 0 ≤ y) (zx : Z x) (zy : Z y) : aI env.P 173 [Dn x, Dn y] (Dn (x * y)) := by
 have := UG (aQ DD x.toNat) (aQ DD y.toNat) (by have := jB hx; omega) (by have := jB hy; omega) (kK _) (kK _)
 rwa [tN hx, tN hy] at this
theorem JB {x : Int} (h : Z x) : Z (x.natAbs : Int) := by simpa [Z, sz] using h
theorem lJ (n : Nat) (neg : Bool) : aI env.P 99 [aJ aF (aQ DD n), .bool neg] (RI (if neg = true then -(n : Int) else n)) := nC n (by omega) neg
theorem UH (x y : Int) : (if decide (x < 0) != decide (y < 0) then -((x.natAbs * y.natAbs : Nat) : Int) else ((x.natAbs * y.natAbs : Nat) : Int)) = x * y := by
 rw [Int.natCast_mul]
 by_cases h1 : x < 0 <;> by_cases h2 : y < 0
 ·simp only [h1, h2, show (x.natAbs : Int) = -x by omega, show (y.natAbs : Int) = -y by omega]; simp <;> grind
 ·simp only [h1, h2, show (x.natAbs : Int) = -x by omega, show (y.natAbs : Int) = y by omega]; simp <;> grind
 ·simp only [h1, h2, show (x.natAbs : Int) = x by omega, show (y.natAbs : Int) = -y by omega]; simp <;> grind
 ·simp only [h1, h2, show (x.natAbs : Int) = x by omega, show (y.natAbs : Int) = y by omega]; simp <;> grind
theorem dO (x y : Int) (zx : Z x) (zy : Z y) : aI env.P 94 [RI x, RI y] (RI (x * y)) := by
 refine aB (E := env) (fun _ => 0) [(0, RI x), (1, RI y)] Tryz.func94 rfl (by kernel_rfl) (by kernel_rfl) (show 2 ≤ 16 by decide) (by simp) ?_
 refine W.sr ?_; simp (disch := omega) [gw]; refine W.lx [2, 3, 4] ?_; simp
 refine W.sd ?_
 simp (disch := omega) [gw]
 refine aA (ZW x.natAbs y.natAbs (by omega) (by omega) (JB zx) (JB zy)) ?_
 have e : ((x.natAbs : Int) * y.natAbs).toNat = x.natAbs * y.natAbs := by rw [← Int.natCast_mul]; exact Int.toNat_natCast _
 simp only [Dn, e]
 obtain ⟨m, hm⟩ : ∃ m, m = x.natAbs * y.natAbs := ⟨_, rfl⟩
 rw [← hm]
 simp (disch := omega) [gw]
 refine aA (lJ m (decide (x < 0) != decide (y < 0))) ?_
 have e2 := UH x y
 rw [← hm] at e2
 rw [e2]
 simp (disch := omega) [gw]
 refine W.lx [4] ?_; simp
 refine W.ret ?_
 simp [go]
theorem zT (x y : Int) (zx : Z x) (zy : Z y) : aI env.P 128 [RI x, RI y] (RI (x + y)) := by
 refine aB (E := env) (fun _ => 0) [(0, RI x), (1, RI y)] Tryz.func128 rfl (by kernel_rfl) (by kernel_rfl) (show 2 ≤ 40 by decide) (by simp) ?_
 refine W.sr ?_; simp (disch := omega) [gw]; refine W.lx [2, 3, 4] ?_; simp
 refine W.seq ?_
 refine W.sr ?_; simp (disch := omega) [gw]; refine W.lx [2, 3, 4, 9] ?_; simp
 refine W.cond ⟨_, rfl, fun h => ?_, fun h => ?_⟩
 ·simp at h
  refine W.sd ?_
  simp (disch := omega) [gw]
  refine aA (ZV x.natAbs y.natAbs (by omega) (by omega) (JB zx) (JB zy)) ?_
  have e : ((x.natAbs : Int) + y.natAbs).toNat = x.natAbs + y.natAbs := by omega
  simp only [Dn, e]
  obtain ⟨m, hm⟩ : ∃ m, m = x.natAbs + y.natAbs := ⟨_, rfl⟩
  rw [← hm]
  simp (disch := omega) [gw]
  refine aA (lJ m _) ?_
  have e2 : (if decide (x < 0) = true then -(m : Int) else m) = x + y := by by_cases h1 : x < 0 <;> simp [h1] <;> omega
  rw [e2]
  simp (disch := omega) [gw]
  refine W.lx [4] ?_; simp
  refine W.ret ?_
  simp [go]
 ·simp at h
  refine W.skip ?_
  refine W.seq ?_
  refine W.sr ?_
  simp (disch := omega) [gw]
  refine aA (JA x.natAbs y.natAbs (by omega) (by omega) (JB zx) (JB zy)) ?_
  simp (disch := omega) [gw]
  refine W.lx [2, 3, 4, 23] ?_; simp
  refine W.cond ⟨_, rfl, fun h2 => ?_, fun h2 => ?_⟩
  ·have h2 : (y.natAbs : Int) ≤ x.natAbs := pL.1 (of_decide_eq_true h2)
   refine W.sd ?_
   simp (disch := omega) [gw]
   refine aA (zS x.natAbs y.natAbs (by omega) h2 (JB zx)) ?_
   have e : ((x.natAbs : Int) - y.natAbs).toNat = x.natAbs - y.natAbs := by omega
   simp only [Dn, e]
   obtain ⟨m, hm⟩ : ∃ m, m = x.natAbs - y.natAbs := ⟨_, rfl⟩
   rw [← hm]
   simp (disch := omega) [gw]
   refine aA (lJ m _) ?_
   have e2 : (if decide (x < 0) = true then -(m : Int) else m) = x + y := by by_cases h1 : x < 0 <;> simp [h1] <;> omega
   rw [e2]
   simp (disch := omega) [gw]
   refine W.lx [4] ?_; simp
   refine W.ret ?_
   simp [go]
  ·have h2 : (x.natAbs : Int) < y.natAbs := by
    have h3 := of_decide_eq_false h2
    rw [pL] at h3; omega
   refine W.skip ?_
   refine W.sd ?_
   simp (disch := omega) [gw]
   refine aA (zS y.natAbs x.natAbs (by omega) (by omega) (JB zy)) ?_
   have e : ((y.natAbs : Int) - x.natAbs).toNat = y.natAbs - x.natAbs := by omega
   simp only [Dn, e]
   obtain ⟨m, hm⟩ : ∃ m, m = y.natAbs - x.natAbs := ⟨_, rfl⟩
   rw [← hm]
   simp (disch := omega) [gw]
   refine aA (lJ m _) ?_
   have e2 : (if decide (y < 0) = true then -(m : Int) else m) = x + y := by by_cases h1 : y < 0 <;> simp [h1] <;> omega
   rw [e2]
   simp (disch := omega) [gw]
   refine W.lx [4] ?_; simp
   refine W.ret ?_
   simp [go]
theorem auf {x : Int} (h : Z x) : Z (-x) := by simpa [Z, nW] using h
theorem JC (x y : Int) (zx : Z x) (zy : Z y) : aI env.P 169 [RI x, RI y] (RI (x - y)) := by
 have hn := pT y
 have zn := auf zy
 obtain ⟨m, hm⟩ : ∃ m, m = -y := ⟨_, rfl⟩
 rw [← hm] at hn zn
 have e : x - y = x + m := by omega
 rw [e]
 refine aB (E := env) (fun _ => 0) [(0, RI x), (1, RI y)] Tryz.func169 rfl (by kernel_rfl) (by kernel_rfl) (show 2 ≤ 9 by decide) (by simp) ?_
 refine W.sr ?_; simp (disch := omega) [gw]; refine W.lx [2, 3, 4] ?_; simp
 refine W.sd ?_
 simp (disch := omega) [gw]
 refine aA hn ?_
 simp (disch := omega) [gw]
 refine aA (zT x m zx zn) ?_
 simp (disch := omega) [gw]
 refine W.lx [4] ?_; simp
 refine W.ret ?_
 simp [go]
theorem UI (x y : Int) : (x - y).sign = dC x y := by
 rcases Int.lt_trichotomy x y with h | h | h
 ·rw [l7 h, Int.sign_eq_neg_one_of_neg (by omega)]
 ·subst h; simp [xJ]
 ·rw [l8 h, Int.sign_eq_one_of_pos (by omega)]
theorem ZY (x y : Int) (zx : Z x) (zy : Z y) : aI env.P 91 [RI x, RI y] (.int .i64 (dC x y)) := by
 refine aB (E := env) (fun _ => 0) [(0, RI x), (1, RI y)] Tryz.func91 rfl (by kernel_rfl) (by kernel_rfl) (show 2 ≤ 9 by decide) (by simp) ?_
 refine W.sr ?_; simp (disch := omega) [gw]; refine W.lx [2, 3] ?_; simp
 refine W.sr ?_
 simp (disch := omega) [gw]
 refine aA (JC x y zx zy) ?_
 simp (disch := omega) [gw]
 refine aA (DB (x - y)) ?_
 rw [UI]
 simp (disch := omega) [gw]
 refine W.lx [4] ?_; simp
 refine W.ret ?_
 simp [go]
end Go.Proofs.YtbbjgncblhfegaaGreat
