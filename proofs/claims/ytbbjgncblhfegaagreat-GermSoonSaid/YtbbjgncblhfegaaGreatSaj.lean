import Derived.Test.YtbbjgncblhfegaaGreatSaf
import Derived.Test.YtbbjgncblhfegaaGreatSai
set_option linter.unusedSimpArgs false
set_option linter.unusedVariables false
namespace Go.Proofs.YtbbjgncblhfegaaGreat
open Go Pm
theorem ZV {t : Int} (h0 : 0 < t) (h1 : t < 4294967296) : ∃ s : Nat, s ≤ 31 ∧ (32 : Int) - nb t.toNat = s ∧ 2147483648 ≤ t * 2 ^ s ∧ (t + 1) * 2 ^ s ≤ 4294967296 := by
 have h2 : nb t.toNat ≤ 32 := oR.2 (by omega)
 have h3 : 1 ≤ nb t.toNat := by
  rcases Nat.eq_zero_or_pos (nb t.toNat) with h | h
  ·have := oR.1 (Nat.le_of_eq h); omega
  ·exact h
 obtain ⟨k, hk⟩ : ∃ k, nb t.toNat = k + 1 := ⟨nb t.toNat - 1, by omega⟩
 have h4 : t.toNat < 2 ^ (k + 1) := oR.1 (Nat.le_of_eq hk)
 have h5 : 2 ^ k ≤ t.toNat := by
  rcases Nat.lt_or_ge t.toNat (2 ^ k) with h | h
  ·have := oR.2 h; omega
  ·exact h
 have e1 : (2 : Int) ^ (k + 1) * 2 ^ (31 - k) = 4294967296 := by rw [← Int.pow_add, show k + 1 + (31 - k) = 32 by omega]; rfl
 have e2 : (2 : Int) ^ k * 2 ^ (31 - k) = 2147483648 := by rw [← Int.pow_add, show k + (31 - k) = 31 by omega]; rfl
 have hp : (0 : Int) < 2 ^ (31 - k) := Int.pow_pos (by decide)
 have q1 : ((2 ^ k : Nat) : Int) = (2 : Int) ^ k := Int.natCast_pow 2 k
 have q2 : ((2 ^ (k + 1) : Nat) : Int) = (2 : Int) ^ (k + 1) := Int.natCast_pow 2 (k + 1)
 refine ⟨31 - k, by omega, by omega, ?_, ?_⟩
 ·have := Int.mul_le_mul_of_nonneg_right (show (2 : Int) ^ k ≤ t by omega) (Int.le_of_lt hp)
  omega
 ·have := Int.mul_le_mul_of_nonneg_right (show t + 1 ≤ (2 : Int) ^ (k + 1) by omega) (Int.le_of_lt hp)
  omega
theorem UE {y : List Int} (hc : aM y = y) (h : y ≠ []) : nth y (y.length - 1) ≠ 0 := by
 intro h0
 have hl : 0 < y.length := List.length_pos_iff.2 h
 have e : y = y.take (y.length - 1) ++ [0] := by
  have := a8 (l := y) (i := y.length - 1) (by omega)
  rw [h0, show y.length - 1 + 1 = y.length by omega, List.take_length] at this
  exact this
 have h1 := iP (y.take (y.length - 1))
 rw [← e, hc] at h1
 have h2 := bM (y.take (y.length - 1))
 rw [← h1, List.length_take] at h2
 omega
theorem ZW : N 0 = us [] := rfl
theorem ZY {m i : Nat} {X D : List Int} {Y g : Int} (lX : b9 4294967296 X) (lD : b9 4294967296 D) (hYb : Y < 4294967296 ^ (m + 2)) (hY0 : 0 < Y) (sE : i + m + 3 ≤ X.length) (hDl : D.length = (X.drop i).length) (hDd : D.drop (m + 3) = (X.drop i).drop (m + 3))
  (hg : g = V 4294967296 ((X.drop i).take (m + 3)) / Y) (hDv : V 4294967296 (D.take (m + 3)) = V 4294967296 ((X.drop i).take (m + 3)) % Y) (eZ : V 4294967296 (X.drop (i + 1)) < Y) :
  V 4294967296 ((X.take i ++ D).drop i) < Y ∧ V 4294967296 (X.take i ++ D) = V 4294967296 X - 4294967296 ^ i * (g * Y) := by
 have hl : (X.take i).length = i := by simp; omega
 have e1 : (X.take i ++ D).drop i = D := by rw [List.drop_append, hl, List.drop_of_length_le (by omega)]; simp
 have hD3 := jB (b := 4294967296) D (m + 3) (by rw [hDl]; simp; omega)
 have hX3 := jB (b := 4294967296) (X.drop i) (m + 3) (by simp; omega)
 have hXi := jB (b := 4294967296) X i (by omega)
 have hz : V 4294967296 ((X.drop i).drop (m + 3)) = 0 := by
  have h1 := jB (b := 4294967296) (X.drop (i + 1)) (m + 2) (by simp; omega)
  have h2 : (X.drop (i + 1)).drop (m + 2) = (X.drop i).drop (m + 3) := by
   rw [List.drop_drop, List.drop_drop]; congr 1; omega
  have h3 := bF (b := 4294967296) (by decide) ((lX.drop (i + 1)).take (m + 2))
  have h4 := bF (b := 4294967296) (by decide) ((lX.drop i).drop (m + 3))
  rw [h2] at h1
  rcases Int.lt_or_le 0 (V 4294967296 ((X.drop i).drop (m + 3))) with h5 | h5
  ·exfalso
   have := Int.mul_le_mul_of_nonneg_left (show 1 ≤ V 4294967296 ((X.drop i).drop (m + 3)) by omega) (show 0 ≤ (4294967296 : Int) ^ (m + 2) by omega)
   omega
  ·omega
 rw [hDd, hz, Int.mul_zero, Int.add_zero] at hD3
 rw [hz, Int.mul_zero, Int.add_zero] at hX3
 have hm := Int.emod_lt_of_pos (V 4294967296 ((X.drop i).take (m + 3))) hY0
 have T4 := Int.mul_ediv_add_emod (V 4294967296 ((X.drop i).take (m + 3))) Y
 rw [← hg, ← hDv, ← hX3, ← hD3] at T4
 refine ⟨by rw [e1, hD3, hDv]; exact hm, ?_⟩
 rw [dG, hl, hXi, ← T4]
 grind
theorem I6 (a b : List Int) (ha : qR a) (hb : qR b) (h0 : V 4294967296 b = 0) : aJ env.P 251 [us a, us b] (.eP [us [], us [], .int .i64 2]) := by
 have hlb := hb.len
 have M9 := ha.len
 have hcb := bM b
 have hy : aM b = [] := by rw [pM fS hb.wO]; show aR LL (V 4294967296 b).toNat = []; rw [h0]; rfl
 refine aB (E := env) (fun _ => 0) [(0, us a), (1, us b)] Tryz.func251 rfl (by kernel_rfl) (by kernel_rfl) (show 2 ≤ 98 by decide) (by simp) ?_
 refine W.sr ?_; simp (disch := omega) [gw]; refine W.lx [0, 1] ?_; simp
 refine W.sr ?_
 simp (disch := omega) [gw]
 refine aA (cS a (by omega)) ?_
 simp (disch := omega) [gw]
 refine aA (cS b (by omega)) ?_
 simp (disch := omega) [gw]
 refine W.lx [0, 1] ?_; simp
 rw [hy]
 refine W.seq ?_
 refine W.block ?_
 refine W.sr ?_; simp (disch := omega) [gw]; refine W.lx [0, 1, 18] ?_; simp
 refine W.cond ⟨_, rfl, fun h => ?_, fun h => ?_⟩
 ·refine W.sr ?_; simp (disch := omega) [gw]; refine W.lx [4, 5, 6] ?_; simp
  refine W.ret ?_
  simp [go]
  rfl
 ·cases h
theorem zU (a b : List Int) (ha : qR a) (hb : qR b) (h0 : V 4294967296 b ≠ 0) (M9 : a.length < 1099511627774) (hlb : b.length < 1099511627774) :
  aJ env.P 251 [us a, us b] (.eP [N (V 4294967296 a / V 4294967296 b), N (V 4294967296 a % V 4294967296 b), .int .i64 0]) := by
 have hca := bM a
 have hcb := bM b
 have hVa := cA (b := 4294967296) a
 have hVb := cA (b := 4294967296) b
 have lx := dH ha.wO
 have ly := dH hb.wO
 have cx := dJ a
 have cy := dJ b
 rw [← hVa, ← hVb]
 rw [← hVb] at h0
 refine aB (E := env) (fun _ => 0) [(0, us a), (1, us b)] Tryz.func251 rfl (by kernel_rfl) (by kernel_rfl) (show 2 ≤ 98 by decide) (by simp) ?_
 refine W.sr ?_; simp (disch := omega) [gw]; refine W.lx [0, 1] ?_; simp
 refine W.sr ?_
 simp (disch := omega) [gw]
 refine aA (cS a (by omega)) ?_
 simp (disch := omega) [gw]
 refine aA (cS b (by omega)) ?_
 simp (disch := omega) [gw]
 refine W.lx [0, 1] ?_; simp
 have hxl : (aM a).length < 1099511627774 := by omega
 have LD : (aM b).length < 1099511627774 := by omega
 clear hVa hVb hca hcb
 generalize aM a = x at *
 generalize aM b = y at *
 have hyn : y ≠ [] := fun h => h0 (by rw [h]; rfl)
 have hyp : 0 < y.length := List.length_pos_iff.2 hyn
 have hY0 : 0 < V 4294967296 y := by have := bF (b := 4294967296) (by decide) ly; omega
 have hX0 := bF (b := 4294967296) (by decide) lx
 refine W.seq ?_
 refine W.block ?_
 refine W.sr ?_; simp (disch := omega) [gw]; refine W.lx [0, 1, 18] ?_; simp
 refine W.cond ⟨_, rfl, fun h => ?_, fun h => ?_⟩
 ·exfalso; simp at h; exact hyn h
 clear h
 refine W.sr ?_; simp (disch := omega) [gw]; refine W.lx [0, 1, 22] ?_; simp
 refine W.cond ⟨_, rfl, fun h => ?_, fun h => ?_⟩
 ·have h : x.length < y.length := by simp at h; omega
  have uQ := iQ (b := 4294967296) (by decide) lx ly cy h
  rw [Int.ediv_eq_zero_of_lt hX0 uQ, Int.emod_eq_of_lt hX0 uQ]
  refine W.sr ?_
  simp (disch := omega) [gw]
  refine aA (lI x (by omega) lx) ?_
  simp (disch := omega) [gw]
  refine W.lx [4, 5, 6] ?_; simp
  refine W.ret ?_
  simp [go]
  rfl
 have uQ : y.length ≤ x.length := by simp at h; omega
 clear h
 refine W.sr ?_; simp (disch := omega) [gw]; refine W.lx [0, 1, 30] ?_; simp
 refine W.cond ⟨_, rfl, fun h => ?_, fun h => ?_⟩
 ·have h : y.length = 1 := by simp at h; omega
  obtain ⟨w, rfl⟩ : ∃ w, y = [w] := match y, h with | [w], _ => ⟨w, rfl⟩
  have hw := (b9.cons.1 ly).1
  have hV1 : V 4294967296 [w] = w := l7
  rw [hV1] at h0 hY0 ⊢
  have K9 := Int.emod_nonneg (V 4294967296 x) h0
  have G7 := Int.emod_lt_of_pos (V 4294967296 x) hY0
  have gV := adS x w (by omega) lx hY0 hw.2
  have lr : b9 4294967296 [V 4294967296 x % w] := b9.cons.2 ⟨⟨K9, by omega⟩, b9.nil⟩
  have lU := cS [V 4294967296 x % w] (by simp)
  rw [tK lr, l7] at lU
  have hnw : nth [w] 0 = w := rfl
  generalize V 4294967296 x / w = qq at *
  generalize V 4294967296 x % w = rr at *
  refine W.sr ?_
  simp (disch := omega) [gw, hnw]
  refine aA gV ?_
  simp (disch := omega) [gw]
  refine W.lx [7, 8] ?_; simp
  refine W.sr ?_
  simp (disch := omega) [gw]
  refine aA lU ?_
  simp (disch := omega) [gw]
  refine W.lx [4, 5, 6] ?_; simp
  refine W.ret ?_
  simp [go]
 have hy2 : 2 ≤ y.length := by simp at h; omega
 clear h
 obtain ⟨m, hm⟩ : ∃ m, y.length = m + 2 := ⟨y.length - 2, by omega⟩
 have htn := UE cy hyn
 rw [show y.length - 1 = m + 1 by omega] at htn
 have htl := ly.nth (i := m + 1) (by omega)
 obtain ⟨s, adZ, hsn, qQ, hs2⟩ := ZV (t := nth y (m + 1)) (by omega) htl.2
 have hLZ := ajo (nth y (m + 1)) htl.1 htl.2
 rw [hsn] at hLZ
 have hp : (0 : Int) < 2 ^ s := Int.pow_pos (by decide)
 have ao0 : (2 : Int) ^ s ≤ 2147483648 := by
  have := Int.ofNat_le.2 (Nat.pow_le_pow_right (show 0 < 2 by decide) adZ)
  simpa using this
 have hbm : (0 : Int) < 4294967296 ^ (m + 1) := Int.pow_pos (by decide)
 have ajy := n4 (b := 4294967296) (by decide) lx
 have hVy := jB (b := 4294967296) y (m + 1) (by omega)
 have hy1 : V 4294967296 (y.drop (m + 1)) = nth y (m + 1) := by rw [dW (by omega), List.drop_of_length_le (by omega), l7]
 rw [hy1] at hVy
 have at1 := bF (b := 4294967296) (by decide) (ly.take (m + 1))
 have hy3 := n4 (b := 4294967296) (by decide) (ly.take (m + 1))
 rw [List.length_take, Nat.min_eq_left (by omega)] at hy3
 have hyU : V 4294967296 y * 2 ^ s < 4294967296 ^ (m + 2) := by
  have h1 : V 4294967296 y < (nth y (m + 1) + 1) * 4294967296 ^ (m + 1) := by rw [hVy]; grind
  have h2 := Int.mul_lt_mul_of_pos_right h1 hp
  have h3 := Int.mul_le_mul_of_nonneg_right hs2 (Int.le_of_lt hbm)
  have e : (nth y (m + 1) + 1) * 4294967296 ^ (m + 1) * 2 ^ s = (nth y (m + 1) + 1) * 2 ^ s * 4294967296 ^ (m + 1) := by grind
  rw [show m + 2 = (m + 1) + 1 from rfl, Int.pow_succ]
  omega
 have hyL : 2147483648 * 4294967296 ^ (m + 1) ≤ V 4294967296 y * 2 ^ s := by
  have h1 : nth y (m + 1) * 4294967296 ^ (m + 1) ≤ V 4294967296 y := by rw [hVy, Int.mul_comm]; omega
  have h2 := Int.mul_le_mul_of_nonneg_right h1 (Int.le_of_lt hp)
  have h3 := Int.mul_le_mul_of_nonneg_right qQ (Int.le_of_lt hbm)
  have e : nth y (m + 1) * 4294967296 ^ (m + 1) * 2 ^ s = nth y (m + 1) * 2 ^ s * 4294967296 ^ (m + 1) := by grind
  omega
 have hxU : V 4294967296 x * 2 ^ s < 4294967296 ^ (x.length + 1) := by
  rw [Int.pow_succ]
  exact Int.lt_of_lt_of_le (Int.mul_lt_mul_of_pos_right ajy hp) (Int.mul_le_mul_of_nonneg_left (by omega) (Int.le_of_lt (Int.pow_pos (by decide))))
 obtain ⟨x', hwx, ayC, lx', ajz⟩ := I4 x s (x.length + 1) adZ (by omega) lx (by omega) (by omega) hxU
 obtain ⟨y', hwy, ao1, ly', UF⟩ := I4 y s (m + 2) adZ (by omega) ly (by omega) (by omega) hyU
 have at3 : 2147483648 ≤ nth y' (m + 1) := by
  have h1 := jB (b := 4294967296) y' (m + 1) (by omega)
  have h2 : V 4294967296 (y'.drop (m + 1)) = nth y' (m + 1) := by rw [dW (by omega), List.drop_of_length_le (by omega), l7]
  have h3 := n4 (b := 4294967296) (by decide) (ly'.take (m + 1))
  rw [List.length_take, Nat.min_eq_left (by omega)] at h3
  rw [h2, UF] at h1
  rcases Int.lt_or_le (nth y' (m + 1)) 2147483648 with h4 | h4
  ·exfalso
   have := Int.mul_le_mul_of_nonneg_left (show nth y' (m + 1) + 1 ≤ 2147483648 by omega) (Int.le_of_lt hbm)
   rw [Int.mul_add, Int.mul_comm _ 2147483648] at this
   omega
  ·exact h4
 have ad1 : 0 < V 4294967296 y' := by rw [UF]; exact Int.mul_pos hY0 hp
 have at4 : V 4294967296 y' < 4294967296 ^ (m + 2) := by rw [UF]; exact hyU
 have hxm : m + 2 ≤ x.length := by omega
 have hqx : V 4294967296 x / V 4294967296 y = V 4294967296 x' / V 4294967296 y' := by rw [ajz, UF, Int.mul_ediv_mul_of_pos_left _ _ hp]
 have hrx : V 4294967296 x % V 4294967296 y = V 4294967296 x' % V 4294967296 y' / 2 ^ s := by
  rw [ajz, UF]
  have e1 := Int.emod_def (V 4294967296 x * 2 ^ s) (V 4294967296 y * 2 ^ s)
  rw [Int.mul_ediv_mul_of_pos_left _ _ hp] at e1
  have e2 := Int.emod_def (V 4294967296 x) (V 4294967296 y)
  rw [e1, e2]
  have e3 : V 4294967296 x * 2 ^ s - V 4294967296 y * 2 ^ s * (V 4294967296 x / V 4294967296 y) = (V 4294967296 x - V 4294967296 y * (V 4294967296 x / V 4294967296 y)) * 2 ^ s := by grind
  rw [e3, Int.mul_ediv_cancel _ (by omega)]
 have ao2 : V 4294967296 (x'.drop (x.length - m - 1)) < V 4294967296 y' := by
  have h1 := jB (b := 4294967296) x' (x.length - m - 1) (by omega)
  have h2 := bF (b := 4294967296) (by decide) (lx'.take (x.length - m - 1))
  rw [ajz] at h1
  have h3 : V 4294967296 x * 2 ^ s < 4294967296 ^ (x.length - m - 1) * (4294967296 ^ (m + 1) * 2 ^ s) := by
   rw [← Int.mul_assoc, ← Int.pow_add, show x.length - m - 1 + (m + 1) = x.length by omega]
   exact Int.mul_lt_mul_of_pos_right ajy hp
  have h4 : V 4294967296 (x'.drop (x.length - m - 1)) < 4294967296 ^ (m + 1) * 2 ^ s := Int.lt_of_mul_lt_mul_left (a := 4294967296 ^ (x.length - m - 1)) (by omega) (Int.le_of_lt (Int.pow_pos (by decide)))
  have h5 := Int.mul_le_mul_of_nonneg_left ao0 (Int.le_of_lt hbm)
  rw [UF]
  rw [Int.mul_comm _ 2147483648] at h5
  omega
 rw [hqx, hrx]
 refine W.skip ?_
 have a1 : ((m : Int) + 2 - 1) = ((m + 1 : Nat) : Int) := by omega
 refine W.sr ?_
 simp (disch := omega) [gw, hm, a1]
 refine aA hLZ ?_
 simp (disch := omega) [gw]
 refine W.lx [0, 1, 9] ?_; simp
 replace hwx : gH env.P 259 [us x, .int .i64 s, .int .i64 ((x.length : Int) + 1)] 143 1 (emap u32 x') := hwx
 replace hwy : gH env.P 259 [us y, .int .i64 s, .int .i64 ((m : Int) + 2)] 143 1 (emap u32 y') := hwy
 refine W.sr ?_
 simp (disch := omega) [gw, hm]
 refine agD hwx 58 (by simp) (by simp) (by simp) ?_
 simp (disch := omega) [gw, hm]
 refine agD hwy 63 (by simp) (by simp) (by simp) ?_
 simp (disch := omega) [gw]
 refine W.lx [0, 9, 10, 11] ?_; simp
 refine W.freeze 63 (by simp) (fun K hK => ?_)
 simp
 refine hK _ ?_; clear hK K
 refine W.sr ?_; simp (disch := omega) [gw, ao1]; refine W.lx [0, 9, 10, 11, 12] ?_; simp
 obtain ⟨ql, hql⟩ : ∃ ql, x.length = ql + m + 1 := ⟨x.length - m - 1, by omega⟩
 rw [show x.length - m - 1 = ql by omega] at ao2
 have agK : x'.length = ql + m + 2 := by omega
 have aq : (x.length : Int) - ((m : Int) + 2) + 1 = (ql : Int) := by omega
 refine W.sr ?_
 simp (disch := omega) [gw, aq]
 refine W.lx [4, 9, 10, 11, 12] ?_; simp
 clear hwx hwy hVy hy1 at1 hy3 hyU hyL hxU hqx hrx htn htl qQ hs2 hsn hLZ ajy hY0 hX0
 refine W.seq ?_
 refine W.sr ?_; simp (disch := omega) [gw]; refine W.lx [4, 9, 10, 11, 12, 13] ?_; simp
 refine W.block ?_
 refine W.a9 (fun q σ => ∃ (v4 : Nat) (X Q : List Int) (rows : Pm.Rows) (clk : Nat), σ = ⟨fa [(4, .own 71 v4 0 ql), (9, .int .i64 s), (10, .own 58 0 0 (ql + m + 2)), (11, us y'), (12, .int .i64 ((m : Int) + 2)), (13, .int .i64 ((q : Int) - 1))], rows, clk⟩ ∧
  rows 58 = some ⟨0, 143, 1, emap u32 X⟩ ∧ rows 71 = some ⟨v4, 143, 1, emap u32 Q⟩ ∧ q ≤ ql ∧ X.length = ql + m + 2 ∧ Q.length = ql ∧ b9 4294967296 X ∧ b9 4294967296 Q ∧
  V 4294967296 X + 4294967296 ^ q * V 4294967296 (Q.drop q) * V 4294967296 y' = V 4294967296 x' ∧ V 4294967296 (X.drop q) < V 4294967296 y') ql ?_ ?_
 ·exact ⟨_, Gh.fr [(4, .own 71 _ 0 ql), (9, .int .i64 s), (10, .own 58 0 0 (ql + m + 2)), (11, us y'), (12, .int .i64 ((m : Int) + 2)), (13, .int .i64 ((ql : Int) - 1))] (by simp [agK]; exact rfl), _, x', List.replicate ql 0, _, _, rfl, by simp, by simp, by omega, agK, by simp, lx', b9.rep (by decide) _, by simp [V], ao2⟩
 rintro q _ ⟨v4, X, Q, rows, clk, rfl, ad2, ajA, hq, hXl, hQl, lX, lQ, hVX, hXU⟩
 refine W.seq ?_
 refine W.sr ?_; simp (disch := omega) [gw]; refine W.lx [4, 9, 10, 11, 12, 13, 76] ?_; simp
 refine W.cond ⟨_, rfl, fun h => ?_, fun h => ?_⟩
 ·have DB : 0 < q := by simp at h; omega
  obtain ⟨i, rfl⟩ : ∃ i, q = i + 1 := ⟨q - 1, by omega⟩
  clear h
  have ei : ((i + 1 : Nat) : Int) - 1 = i := by omega
  rw [ei]
  have ao3 : V 4294967296 ((X.drop i).take (m + 3)) < 4294967296 * V 4294967296 y' := by
   have h1 := jB (b := 4294967296) (X.drop i) (m + 3) (by simp; omega)
   have h2 := bF (b := 4294967296) (by decide) ((lX.drop i).drop (m + 3))
   have h3 := Int.mul_nonneg (show (0 : Int) ≤ 4294967296 ^ (m + 3) from Int.le_of_lt (Int.pow_pos (by decide))) h2
   have h4 : V 4294967296 (X.drop i) = nth X i + 4294967296 * V 4294967296 (X.drop (i + 1)) := by rw [dW (by omega)]; rfl
   have h5 := lX.nth (i := i) (by omega)
   omega
  have ad4 := fun (rows : Pm.Rows) clk hr => NG (id := 58) (ver := 0) (off := i) (m := m) X y' rows clk hr ao1 (by omega) ly' at3 lX (by omega) (by omega) ao3
  have e6 : (i : Int) + ((m : Int) + 2) + 1 = ((i + m + 3 : Nat) : Int) := by omega
  have e7 : ((i : Int) + (m : Int) + 3).toNat - i = m + 3 := by omega
  refine W.skip ?_
  refine W.seq ?_
  refine W.block ?_
  refine W.b8 (fun K hK => ?_)
  simp (disch := omega) [gw, ad2, hXl, e6, e7]
  refine anU (ad4 _ _ ad2) ?_
  rintro r rows' jU ⟨D, rfl, rfl, rfl, hDl, lD, hDd, hDv⟩
  have lT := ZY (g := V 4294967296 ((X.drop i).take (m + 3)) / V 4294967296 y') lX lD at4 ad1 (by omega) hDl hDd rfl hDv hXU
  have hg0 : 0 ≤ V 4294967296 ((X.drop i).take (m + 3)) / V 4294967296 y' := Int.ediv_nonneg (bF (by decide) ((lX.drop i).take _)) (Int.le_of_lt ad1)
  have XE : V 4294967296 ((X.drop i).take (m + 3)) / V 4294967296 y' < 4294967296 := Int.ediv_lt_of_lt_mul ad1 ao3
  generalize V 4294967296 ((X.drop i).take (m + 3)) / V 4294967296 y' = g at *
  have at7 : (X.take i ++ D).length = ql + m + 2 := by simp [hDl]; omega
  have lX2 : b9 4294967296 (X.take i ++ D) := b9.append.2 ⟨lX.take i, lD⟩
  obtain ⟨at8, at9⟩ := lT
  generalize X.take i ++ D = X2 at *
  simp (disch := omega) [gw, ajA, hQl]
  refine W.lw [4, 9, 10, 11, 12, 13] hK ?_; clear hK K; simp
  refine W.b8 (fun K hK => ?_); simp (disch := omega) [gw]
  refine hK _ ⟨i, _, aC _ [4, 9, 10, 11, 12, 13], by omega, v4, X2, Q.set i g, _, _, rfl, by simp, by simp, by omega, at7, by simp [hQl], lX2, lQ.set ⟨hg0, XE⟩, ?_, at8⟩
  rw [at9, dW (l := Q.set i g) (i := i) (by simp; omega), dS (by omega), List.drop_set_of_lt (by omega), ← hVX]
  simp only [V, Int.pow_succ]
  generalize V 4294967296 (Q.drop (i + 1)) = vq at *
  grind
 ·have DB : q = 0 := by simp at h; omega
  subst DB
  simp only [List.drop_zero, Int.pow_zero, Int.one_mul] at hVX hXU
  have hX0 := bF (b := 4294967296) (by decide) lX
  have hQe : V 4294967296 x' / V 4294967296 y' = V 4294967296 Q := by
   have e : (V 4294967296 Q + 1) * V 4294967296 y' = V 4294967296 Q * V 4294967296 y' + V 4294967296 y' := by grind
   rw [Int.ediv_eq_iff_of_pos ad1]
   constructor <;> omega
  have hRe : V 4294967296 x' % V 4294967296 y' = V 4294967296 X := by
   have h3 := Int.emod_def (V 4294967296 x') (V 4294967296 y')
   rw [hQe, Int.mul_comm] at h3
   omega
  have hXt : V 4294967296 (X.take (m + 2)) = V 4294967296 X := by
   have h1 := jB (b := 4294967296) X (m + 2) (by omega)
   have h2 := bF (b := 4294967296) (by decide) (lX.drop (m + 2))
   have h3 := bF (b := 4294967296) (by decide) (lX.take (m + 2))
   have h4 : (0 : Int) < 4294967296 ^ (m + 2) := Int.pow_pos (by decide)
   rcases Int.lt_or_le 0 (V 4294967296 (X.drop (m + 2))) with h5 | h5
   ·exfalso
    have := Int.mul_le_mul_of_nonneg_left (show 1 ≤ V 4294967296 (X.drop (m + 2)) by omega) (Int.le_of_lt h4)
    omega
   ·have : V 4294967296 (X.drop (m + 2)) = 0 := by omega
    rw [this] at h1; omega
  rw [hQe, hRe, ← hXt]
  have zQ := bE hQl
  have zX := bE hXl
  have lU := cS Q (by omega)
  rw [tK lQ] at lU
  have aua := adT (X.take (m + 2)) s adZ (by simp; omega) (lX.take _)
  refine W.exit ?_; simp only [pX, if_true, if_false, reduceIte, Nat.reduceEqDiff]
  refine W.freeze 71 (by simp [ajA]) (fun K hK => ?_)
  simp [ajA, zQ]
  refine hK _ ?_; clear hK K
  refine W.freeze 58 (by simp [ad2]) (fun K hK => ?_)
  simp [ad2, zX]
  refine hK _ ?_; clear hK K
  have e8 : ((m : Int) + 2).toNat = m + 2 := by omega
  refine W.sd ?_
  simp (disch := omega) [gw]
  refine aA lU ?_
  simp (disch := omega) [gw, hXl, e8]
  refine aA aua ?_
  simp (disch := omega) [gw]
  refine W.lx [4, 5, 6] ?_; simp
  refine W.ret ?_
  simp [go]
theorem FJ {A B : Int} (hB : 0 < B) (hA : 0 ≤ A) : (A % B = 0 → (-A) / B = -(A / B) ∧ (-A) % B = 0) ∧ (0 < A % B → (-A) / B = -(A / B + 1) ∧ (-A) % B = B - A % B) := by
 have h1 := Int.mul_ediv_add_emod A B
 have h2 := Int.emod_lt_of_pos A hB
 constructor
 ·intro h
  refine (Int.ediv_emod_unique hB).2 ⟨?_, by omega, by omega⟩
  rw [Int.mul_neg]; omega
 ·intro h
  refine (Int.ediv_emod_unique hB).2 ⟨?_, by omega, by omega⟩
  rw [Int.mul_neg, Int.mul_add]; omega
theorem ZZ (n m : Bool) {A B : Int} (hB : 0 < B) (hA : 0 ≤ A) :
  (¬ (n = true ∧ 0 < A % B) → (if n = true then -A else A) / (if m = true then -B else B) = (if (n != m) = true then -(A / B) else A / B) ∧ (if n = true then -A else A) % (if m = true then -B else B) = A % B) ∧
  (n = true → 0 < A % B → (if n = true then -A else A) / (if m = true then -B else B) = (if (n != m) = true then -(A / B + 1) else A / B + 1) ∧ (if n = true then -A else A) % (if m = true then -B else B) = B - A % B) := by
 obtain ⟨p1, p2⟩ := FJ hB hA
 have h0 := Int.emod_nonneg A (show B ≠ 0 by omega)
 cases n <;> cases m <;> simp [Int.ediv_neg, Int.emod_neg]
 ·exact ⟨fun h => by have := p1 (by omega); exact ⟨this.1, by omega⟩, p2⟩
 ·exact ⟨fun h => by have := p1 (by omega); exact ⟨by omega, by omega⟩, fun h => by have := p2 h; exact ⟨by omega, this.2⟩⟩
theorem Z0 (n : Bool) (l : List Int) (h : qR l) : aJ env.P 162 [IV n l] (I (V 4294967296 l)) := by
 refine aB (E := env) (fun _ => 0) [(0, IV n l)] Tryz.func162 rfl (by kernel_rfl) (by kernel_rfl) (show 1 ≤ 7 by decide) (by simp) ?_
 refine W.sr ?_; simp (disch := omega) [gw]; refine W.lx [1, 2] ?_; simp
 refine W.sr ?_
 simp (disch := omega) [gw]
 refine aA (lI l h.len h.wO) ?_
 simp (disch := omega) [gw]
 refine aA (eW _ (oS h) false) ?_
 simp (disch := omega) [gw]
 refine W.lx [2] ?_; simp
 refine W.ret ?_
 simp [go]
theorem Z2 (n : Bool) (l : List Int) : aJ env.P 139 [IV n l] (.int .i64 (if l.length = 0 then 0 else if n = true then -1 else 1)) := by
 refine aB (E := env) (fun _ => 0) [(0, IV n l)] Tryz.func139 rfl (by kernel_rfl) (by kernel_rfl) (show 1 ≤ 11 by decide) (by simp) ?_
 refine W.sr ?_; simp (disch := omega) [gw]; refine W.lx [1] ?_; simp
 refine W.seq ?_
 refine W.block ?_
 refine W.sr ?_; simp (disch := omega) [gw]; refine W.lx [1, 3] ?_; simp
 refine W.cond ⟨_, rfl, fun h => ?_, fun h => ?_⟩
 ·have h : l = [] := by simp at h; exact h
  subst h
  refine W.sr ?_; simp (disch := omega) [gw]; refine W.lx [2] ?_; simp
  refine W.ret ?_
  simp [go]
 ·have h : l.length ≠ 0 := by simp at h; simpa using h
  rw [if_neg h]
  refine W.sr ?_; simp (disch := omega) [gw]; refine W.lx [8] ?_; simp
  refine W.cond ⟨_, rfl, fun h => ?_, fun h => ?_⟩
  ·subst h
   refine W.sr ?_; simp (disch := omega) [gw]; refine W.lx [2] ?_; simp
   refine W.ret ?_
   simp [go]
  ·subst h
   refine W.skip ?_
   refine W.sr ?_; simp (disch := omega) [gw]; refine W.lx [2] ?_; simp
   refine W.ret ?_
   simp [go]
theorem ad5 (p : RP) (hp : p.length < 9223372036854775808) : aJ env.P 102 [Pg p] (.int .i64 ((p.length : Int) - 1)) := by
 refine aB (E := env) (fun _ => 0) [(0, Pg p)] Tryz.func102 rfl (by kernel_rfl) (by kernel_rfl) (show 1 ≤ 6 by decide) (by simp) ?_
 refine W.sr ?_; simp (disch := omega) [gw]; refine W.lx [0] ?_; simp
 refine W.sr ?_; simp (disch := omega) [gw]; refine W.lx [2] ?_; simp
 refine W.ret ?_
 simp [go]
theorem I7 (p : RP) (h : rD p) : aJ env.P 138 [Pg p] (I (lead (k8 p))) := by
 have hl := h.len
 have fA := bM (p.map gv)
 rw [List.length_map] at fA
 refine aB (E := env) (fun _ => 0) [(0, Pg p)] Tryz.func138 rfl (by kernel_rfl) (by kernel_rfl) (show 1 ≤ 15 by decide) (by simp) ?_
 refine W.sr ?_; simp (disch := omega) [gw]; refine W.lx [0, 2] ?_; simp
 refine W.seq ?_
 refine W.sr ?_
 simp (disch := omega) [gw]
 refine aA (gJ p h) ?_
 simp (disch := omega) [gw]
 refine W.lx [0, 2] ?_; simp
 rw [show aM (p.map gv) = k8 p from rfl] at fA ⊢
 generalize k8 p = x at *
 refine W.sr ?_; simp (disch := omega) [gw]; refine W.lx [0, 2, 7] ?_; simp
 refine W.cond ⟨_, rfl, fun h => ?_, fun h => ?_⟩
 ·have h : x = [] := by simp at h; exact h
  subst h
  refine W.sr ?_; simp (disch := omega) [gw]; refine W.lx [2] ?_; simp
  refine W.ret ?_
  simp [go]
  exact ⟨Int.le_refl 0, rfl⟩
 ·have h : x ≠ [] := by simp at h; exact h
  have nS : 0 < x.length := List.length_pos_iff.2 h
  refine W.skip ?_
  have e1 : ((x.length : Int) - 1).toNat = x.length - 1 := by omega
  refine W.sr ?_; simp (disch := omega) [gw, e1]; refine W.lx [2] ?_; simp
  refine W.ret ?_
  simp [go, lead]
theorem I8 {x : Int} {k : Nat} (h0 : 0 ≤ x) (h : x < 4294967296 ^ k) : sz LL x ≤ k := cO fS (by
 have e : ((4294967296 ^ k : Nat) : Int) = (4294967296 : Int) ^ k := Int.natCast_pow 4294967296 k
 show x.natAbs < 4294967296 ^ k
 omega)
theorem QK {x : Int} {k : Nat} (h0 : 0 ≤ x) (h : sz LL x ≤ k) (hk : k < 1099511627776) : qR (aR LL x.toNat) := ⟨eS fS _, by
 have e : x.natAbs = x.toNat := by omega
 unfold sz at h
 rw [e] at h
 omega⟩
theorem Z3 {x : Int} (h0 : 0 ≤ x) : V 4294967296 (aR LL x.toNat) = x := by
 have := jO fS x.toNat
 rw [show ((LL : Nat) : Int) = 4294967296 from rfl] at this
 rw [this]; omega
theorem ad6 {x : Int} (h0 : 0 ≤ x) : (0 < (aR LL x.toNat).length) ↔ 0 < x := by
 rw [List.length_pos_iff, Ne, dM fS]; omega
theorem I9 (n m : Bool) (l k : List Int) (ED : qR l) (h' : qR k) (hl : l.length < 1099511627774) (hk : k.length < 1099511627774) :
  aJ env.P 252 [IV n l, IV m k] (if V 4294967296 k = 0 then .eP [I 0, I 0, .int .i64 2] else .eP [I (iv n l / iv m k), I (iv n l % iv m k), .int .i64 0]) := by
 have p1 := oS ED
 have p2 := oS h'
 refine aB (E := env) (fun _ => 0) [(0, IV n l), (1, IV m k)] Tryz.func252 rfl (by kernel_rfl) (by kernel_rfl) (show 2 ≤ 60 by decide) (by simp) ?_
 refine W.sr ?_; simp (disch := omega) [gw]; refine W.lx [2, 3, 4, 5] ?_; simp
 by_cases h0 : V 4294967296 k = 0
 ·rw [if_pos h0]
  refine W.sr ?_
  simp (disch := omega) [gw]
  refine aA (I6 l k ED h' h0) ?_
  simp (disch := omega) [gw]
  refine W.lx [2, 3, 4, 5, 6, 7, 8] ?_; simp
  refine W.seq ?_
  refine W.sr ?_; simp (disch := omega) [gw]; refine W.lx [2, 3, 4, 5, 6, 7, 8, 19] ?_; simp
  refine W.cond ⟨_, rfl, fun h => ?_, fun h => ?_⟩
  ·refine W.sr ?_; simp (disch := omega) [gw]; refine W.lx [4, 5, 6] ?_; simp
   refine W.ret ?_
   simp [go]
   rfl
  ·cases h
 ·rw [if_neg h0]
  have hB : 0 < V 4294967296 k := by omega
  have PO := zU l k ED h' h0 hl hk
  obtain ⟨d1, d2⟩ := ZZ n m hB p1
  rw [show (if n = true then -V 4294967296 l else V 4294967296 l) = iv n l from rfl, show (if m = true then -V 4294967296 k else V 4294967296 k) = iv m k from rfl] at d1 d2
  have q0 := Int.ediv_nonneg p1 p2
  have r0 := Int.emod_nonneg (V 4294967296 l) h0
  have r1 := Int.emod_lt_of_pos (V 4294967296 l) hB
  have mR : sz LL (V 4294967296 l / V 4294967296 k) ≤ l.length := I8 q0 (Int.lt_of_le_of_lt (Int.ediv_le_self _ p1) (n4 (by decide) ED.wO))
  have aub : sz LL (V 4294967296 l % V 4294967296 k) ≤ k.length := I8 r0 (Int.lt_trans r1 (n4 (by decide) h'.wO))
  refine W.sr ?_
  simp (disch := omega) [gw]
  refine aA PO ?_
  simp (disch := omega) [gw]
  refine W.lx [2, 3, 4, 5, 6, 7, 8] ?_; simp
  generalize V 4294967296 l / V 4294967296 k = Q at *
  generalize V 4294967296 l % V 4294967296 k = R at *
  refine W.seq ?_
  refine W.sr ?_; simp (disch := omega) [gw]; refine W.lx [2, 3, 4, 5, 6, 7, 8, 19] ?_; simp
  refine W.cond ⟨_, rfl, fun h => ?_, fun h => ?_⟩
  ·cases h
  refine W.skip ?_
  refine W.sr ?_
  simp (disch := omega) [gw]
  refine aA (eW Q q0 (n != m)) ?_
  simp (disch := omega) [gw]
  refine aA (eW R r0 false) ?_
  simp (disch := omega) [gw]
  refine W.lx [2, 3, 4, 5, 7, 8] ?_; simp
  refine W.fY (fun σ => ∃ (rows : Pm.Rows) (clk : Nat), σ = ⟨fa [(4, .ptr 4 2 0 0), (5, .ptr 5 3 0 0)], rows, clk⟩ ∧ rows 4 = some ⟨2, 40, 2, [ie (iv n l / iv m k)]⟩ ∧ rows 5 = some ⟨3, 40, 2, [ie (iv n l % iv m k)]⟩) ?_ ?_
  ·
   by_cases ajB : n = true ∧ 0 < R
   ·obtain ⟨rfl, hR⟩ := ajB
    obtain ⟨e1, e2⟩ := d2 rfl hR
    rw [e1, e2]
    have hdp := (ad6 r0).2 hR
    have hQl := QK q0 mR ED.len
    have hRl := QK r0 aub h'.len
    have ao4 := QH (aR LL Q.toNat) [1] hQl.len (by simp) hQl.wO (b9.cons.2 ⟨by decide, b9.nil⟩)
    rw [Z3 q0, l7] at ao4
    have ao5 := FE k (aR LL R.toNat) h'.len hRl.len h'.wO hRl.wO
    rw [Z3 r0, M8, if_neg (by omega)] at ao5
    refine W.gW (fun σ => ∃ (rows : Pm.Rows) (clk : Nat), σ = ⟨fa [(2, .ptr 2 0 0 0), (3, .ptr 3 1 0 0), (4, .ptr 4 2 0 0), (5, .ptr 5 3 0 0), (7, N Q), (8, N R), (38, .bool true)], rows, clk⟩ ∧ rows 2 = some ⟨0, 40, 2, [[.bool true, us l]]⟩ ∧ rows 3 = some ⟨1, 40, 2, [[.bool m, us k]]⟩ ∧ rows 4 = some ⟨2, 40, 2, [ie (if true = m then Q else -Q)]⟩ ∧ rows 5 = some ⟨3, 40, 2, [ie R]⟩) (fun K hK => ?_) ?_
    ·simp (disch := omega) [gw, hdp]
     exact hK _ _ (aC _ [2, 3, 4, 5, 7, 8, 38]) ⟨_, _, rfl, by simp, by simp, by simp, by simp⟩
    rintro _ ⟨rows, clk, rfl, cJ, gC, jP, mE⟩
    refine W.cond ⟨_, rfl, fun h => ?_, fun h => ?_⟩
    ·refine W.sr ?_
     simp (disch := omega) [gw]
     refine aA ao4 ?_
     simp (disch := omega) [gw]
     refine W.lx [2, 3, 4, 5, 7, 8] ?_; simp
     refine W.sr ?_
     simp (disch := omega) [gw, gC]
     refine aA ao5 ?_
     simp (disch := omega) [gw]
     refine W.lx [2, 3, 4, 5, 7, 8] ?_; simp
     refine W.b8 (fun K hK => ?_)
     simp (disch := omega) [gw, cJ, gC]
     refine aA (eW (Q + 1) (by omega) (!m)) ?_
     simp (disch := omega) [gw]
     refine aA (eW (V 4294967296 k - R) (by omega) false) ?_
     simp (disch := omega) [gw, jP, mE]
     exact hK _ ⟨_, aC _ [4, 5], _, _, rfl, by cases m <;> simp, by simp⟩
    ·cases h
   ·obtain ⟨e1, e2⟩ := d1 ajB
    rw [e1, e2]
    refine W.gW (fun σ => ∃ (rows : Pm.Rows) (clk : Nat), σ = ⟨fa [(4, .ptr 4 2 0 0), (5, .ptr 5 3 0 0), (38, .bool false)], rows, clk⟩ ∧ rows 4 = some ⟨2, 40, 2, [ie (if (n != m) = true then -Q else Q)]⟩ ∧ rows 5 = some ⟨3, 40, 2, [ie R]⟩) (fun K hK => ?_) ?_
    ·cases n with
     | false =>
      simp (disch := omega) [gw]
      exact hK _ _ (aC _ [4, 5, 38]) ⟨_, _, rfl, by cases m <;> simp, by simp⟩
     | true =>
      have hR : R = 0 := by simp at ajB; omega
      subst hR
      simp (disch := omega) [gw]
      exact hK _ _ (aC _ [4, 5, 38]) ⟨_, _, rfl, by cases m <;> simp, by simp⟩
    rintro _ ⟨rows, clk, rfl, jP, mE⟩
    refine W.cond ⟨_, rfl, fun h => ?_, fun h => ?_⟩
    ·cases h
    ·refine W.skip ?_
     exact ⟨_, aC _ [4, 5], _, _, rfl, jP, mE⟩
  rintro _ ⟨rows, clk, rfl, jP, mE⟩
  generalize iv n l / iv m k = q at *
  generalize iv n l % iv m k = r at *
  refine W.sd ?_
  simp (disch := omega) [gw, jP, mE]
  refine bS (by kernel_rfl) ?_
  simp (disch := omega) [gw, jP, mE]
  rw [if_pos (by kernel_rfl)]
  simp (disch := omega) [gw, jP, mE]
  refine bS (by kernel_rfl) ?_
  simp (disch := omega) [gw]
  refine W.lx [4, 5, 6] ?_; simp
  refine W.ret ?_
  simp [go]
theorem NJ (n m : Bool) (l k : List Int) (h : qR l) (h' : qR k) (hl : l.length < 1099511627774) (hk : k.length < 1099511627774) (h0 : V 4294967296 k ≠ 0) :
  aJ env.P 234 [IV n l, IV m k] (if iv n l % iv m k = 0 then .eP [I (iv n l / iv m k), .int .i64 0] else .eP [I 0, .int .i64 3]) := by
 have PO := I9 n m l k h h' hl hk
 rw [if_neg h0] at PO
 have CP : 0 ≤ iv n l % iv m k := Int.emod_nonneg _ (by unfold iv; split <;> omega)
 generalize iv n l / iv m k = q at *
 generalize iv n l % iv m k = r at *
 have hrn : (aR LL r.natAbs = []) ↔ r = 0 := by rw [dM fS]; omega
 refine aB (E := env) (fun _ => 0) [(0, IV n l), (1, IV m k)] Tryz.func234 rfl (by kernel_rfl) (by kernel_rfl) (show 2 ≤ 26 by decide) (by simp) ?_
 refine W.sr ?_; simp (disch := omega) [gw]; refine W.lx [2, 3, 4] ?_; simp
 refine W.sr ?_
 simp (disch := omega) [gw]
 refine aA PO ?_
 simp (disch := omega) [gw]
 refine W.lx [4, 6, 7, 8] ?_; simp
 refine W.seq ?_
 refine W.sr ?_; simp (disch := omega) [gw]; refine W.lx [4, 6, 7, 8, 17] ?_; simp
 refine W.cond ⟨_, rfl, fun h => ?_, fun h => ?_⟩
 ·cases h
 refine W.skip ?_
 refine W.seq ?_
 refine W.sr ?_; simp (disch := omega) [gw]; refine W.lx [4, 6, 23] ?_; simp
 by_cases hr : r = 0
 ·rw [if_pos hr]
  refine W.cond ⟨_, rfl, fun h => ?_, fun h => ?_⟩
  ·exfalso; have h2 := hrn.2 hr; rw [h2] at h; simp at h
  ·refine W.skip ?_
   refine W.sr ?_; simp (disch := omega) [gw]; refine W.lx [4, 5] ?_; simp
   refine W.ret ?_
   simp [go]
 ·rw [if_neg hr]
  refine W.cond ⟨_, rfl, fun h => ?_, fun h => ?_⟩
  ·refine W.sr ?_; simp (disch := omega) [gw]; refine W.lx [4, 5] ?_; simp
   refine W.ret ?_
   simp [go]
   rfl
  ·exfalso; simp at h; exact hr (hrn.1 h)
def bG (l : List Int) : Nat := l.foldl (fun g c => Nat.gcd g c.natAbs) 0
theorem gcd_one : ∀ l : List Int, l.foldl (fun g c => Nat.gcd g c.natAbs) 1 = 1
 | [] => rfl
 | c :: l => by simp only [List.foldl_cons, Nat.gcd_one_left]; exact gcd_one l
theorem NK (l : List Int) (i : Nat) (h : bG (l.take i) = 1) : bG l = 1 := by
 unfold bG at *
 rw [← List.take_append_drop i l, List.foldl_append, h]
 exact gcd_one _
theorem UG (l : List Int) (i : Nat) (h : i < l.length) : bG (l.take (i + 1)) = Nat.gcd (bG (l.take i)) (nth l i).natAbs := by
 unfold bG
 rw [a8 h, List.foldl_append]; rfl
theorem ao6 (x : Nat) : N (x : Int) = us (aR LL x) := rfl
theorem zV {x k : Nat} (h : x < 4294967296 ^ k) : (aR LL x).length ≤ k := FA fS h
theorem JA (p : RP) (K0 : Nat) (hK0 : K0 < 1099511627774) (hp : ∀ c ∈ p, b9 4294967296 c.2 ∧ c.2.length ≤ K0) (PK : p.length < 1099511627776) : aJ env.P 233 [Pg p] (I (bG (p.map gv))) := by
 have hng : ∀ c ∈ p, (gv c).natAbs = (V 4294967296 c.2).toNat := fun c hc => by
  have := bF (b := 4294967296) (by decide) (hp c hc).1
  unfold gv iv; split <;> omega
 refine aB (E := env) (fun _ => 0) [(0, Pg p)] Tryz.func233 rfl (by kernel_rfl) (by kernel_rfl) (show 1 ≤ 44 by decide) (by simp) ?_
 refine W.sr ?_; simp (disch := omega) [gw]; refine W.lx [0, 2] ?_; simp
 refine W.sr ?_; simp (disch := omega) [gw]; refine W.lx [0, 2, 3] ?_; simp
 refine W.TZ 3 (us []) (by simp) rfl (fun K hK => ?_)
 refine W.lw [0, 2, 3] hK ?_; clear hK K; simp
 have auc : ∀ i, i < p.length → (nth (p.map gv) i).natAbs = (V 4294967296 (nth p i).2).toNat := fun i hi => by rw [sA]; exact hng _ (bR hi)
 refine W.fY (fun σ => ∃ (rows : Pm.Rows) (clk : Nat), σ = ⟨fa [(2, .ptr 2 0 0 0), (3, us (aR LL (bG (p.map gv))))], rows, clk⟩ ∧ rows 2 = some ⟨0, 40, 2, [[.bool false, .nil]]⟩ ∧ bG (p.map gv) < 4294967296 ^ K0) ?_ ?_
 ·
  refine W.sr ?_; simp (disch := omega) [gw]; refine W.lx [2, 3, 10, 11, 12] ?_; simp
  refine W.block ?_
  refine W.a9 (fun q σ => ∃ (i : Nat) (rows : Pm.Rows) (clk : Nat), σ = ⟨fa [(2, .ptr 2 0 0 0), (3, us (aR LL (bG ((p.map gv).take i)))), (10, Pg p), (11, .int .i64 p.length), (12, .int .i64 i)], rows, clk⟩ ∧ rows 2 = some ⟨0, 40, 2, [[.bool false, .nil]]⟩ ∧ q = p.length - i ∧ i ≤ p.length ∧ bG ((p.map gv).take i) < 4294967296 ^ K0) p.length ?_ ?_
  ·exact ⟨_, Gh.fr [(2, .ptr 2 0 0 0), (3, us (aR LL (bG ((p.map gv).take 0)))), (10, Pg p), (11, .int .i64 p.length), (12, .int .i64 (0 : Nat))] (by simp [bG, kE]), 0, _, _, rfl, by simp, by omega, by omega, by simp [bG]; exact Nat.pow_pos (by decide)⟩
  rintro q _ ⟨i, rows, clk, rfl, cJ, hq, hi, G4⟩
  refine W.sr ?_; simp (disch := omega) [gw]; refine W.lx [2, 3, 10, 11, 12, 13] ?_; simp
  refine W.seq ?_
  refine W.cond ⟨_, rfl, fun h => ?_, fun h => ?_⟩
  ·have hi : i < p.length := by simp at h; omega
   obtain ⟨uN, WO⟩ := hp _ (bR hi)
   have hV0 := bF (b := 4294967296) (by decide) uN
   have hVl := n4 (b := 4294967296) (by decide) uN
   obtain ⟨x0, nS⟩ := Int.eq_ofNat_of_zero_le hV0
   have JB := lI (nth p i).2 (by omega) uN
   rw [nS, ao6] at JB
   have hxb : x0 < 4294967296 ^ K0 := by
    have e : ((4294967296 ^ (nth p i).2.length : Nat) : Int) = (4294967296 : Int) ^ (nth p i).2.length := Int.natCast_pow 4294967296 _
    have e2 : 4294967296 ^ (nth p i).2.length ≤ 4294967296 ^ K0 := Nat.pow_le_pow_right (by decide) WO
    omega
   have hgs := UG (p.map gv) i (by simpa using hi)
   rw [auc i hi, nS] at hgs
   simp only [Int.toNat_natCast] at hgs
   refine W.skip ?_
   refine W.seq ?_
   refine W.block ?_
   refine W.sr ?_; simp (disch := omega) [gw, cJ]; refine W.lx [2, 3, 5, 10, 11, 12] ?_; simp
   refine W.sr ?_
   simp (disch := omega) [gw]
   refine aA JB ?_
   simp (disch := omega) [gw]
   refine W.lx [2, 3, 6, 10, 11, 12] ?_; simp
   refine W.seq ?_
   refine W.block ?_
   refine W.a9 (fun q σ => ∃ (g x : Nat) (rows : Pm.Rows) (clk : Nat), σ = ⟨fa [(2, .ptr 2 0 0 0), (3, us (aR LL g)), (6, us (aR LL x)), (10, Pg p), (11, .int .i64 p.length), (12, .int .i64 i)], rows, clk⟩ ∧ rows 2 = some ⟨0, 40, 2, [[.bool false, .nil]]⟩ ∧ q = x ∧ Nat.gcd g x = bG ((p.map gv).take (i + 1)) ∧ g < 4294967296 ^ K0 ∧ x < 4294967296 ^ K0) x0 ?_ ?_
   ·exact ⟨_, .refl, bG ((p.map gv).take i), x0, _, _, rfl, by simp [cJ], rfl, hgs.symm, G4, hxb⟩
   rintro q2 _ ⟨g, x, rows, clk, rfl, cJ, hq2, hgx, hg, hx⟩
   refine W.seq ?_
   refine W.sr ?_; simp (disch := omega) [gw]; refine W.lx [2, 3, 6, 10, 11, 12, 21] ?_; simp
   refine W.cond ⟨_, rfl, fun h => ?_, fun h => ?_⟩
   ·have h1 : aR LL x ≠ [] := by simp at h; exact List.length_pos_iff.1 h
    have nS : x ≠ 0 := fun h2 => h1 ((dM fS).2 h2)
    have hlg := zV hg
    have hlx := zV hx
    have PO := zU (aR LL g) (aR LL x) ⟨eS fS _, by omega⟩ ⟨eS fS _, by omega⟩ (by rw [show (4294967296 : Int) = ((LL : Nat) : Int) from rfl, jO fS]; omega) (by omega) (by omega)
    rw [show (4294967296 : Int) = ((LL : Nat) : Int) from rfl, jO fS, jO fS, ← Int.natCast_emod, ao6] at PO
    have hm := Nat.mod_lt g (show 0 < x by omega)
    have hgr : Nat.gcd x (g % x) = Nat.gcd g x := by rw [Nat.gcd_comm x, ← Nat.gcd_rec, Nat.gcd_comm]
    refine W.skip ?_
    refine W.block ?_
    refine W.sr ?_
    simp (disch := omega) [gw]
    refine aA PO ?_
    simp (disch := omega) [gw]
    refine W.lx [2, 6, 8, 10, 11, 12] ?_; simp
    refine W.b8 (fun K hK => ?_); simp (disch := omega) [gw]
    refine hK _ ⟨g % x, _, aC _ [2, 3, 6, 10, 11, 12], by omega, x, g % x, _, _, rfl, by simp [cJ], rfl, by rw [hgr, hgx], hx, by omega⟩
   ·have h1 : aR LL x = [] := by simp at h; exact h
    have nS : x = 0 := (dM fS).1 h1
    subst nS
    rw [Nat.gcd_zero_right] at hgx
    refine W.exit ?_; simp only [pX, if_true, if_false, reduceIte, Nat.reduceEqDiff]
    refine W.gW (fun σ => ∃ (b : Bool) (rows : Pm.Rows) (clk : Nat), σ = ⟨fa [(2, .ptr 2 0 0 0), (3, us (aR LL g)), (10, Pg p), (11, .int .i64 p.length), (12, .int .i64 i), (39, .bool b)], rows, clk⟩ ∧ rows 2 = some ⟨0, 40, 2, [[.bool false, .nil]]⟩ ∧ (b = true → g = 1)) (fun K hK => ?_) ?_
    ·by_cases h2 : (aR LL g).length = 1
     ·obtain ⟨w, hw⟩ : ∃ w, aR LL g = [w] := match aR LL g, h2 with | [w], _ => ⟨w, rfl⟩
      have hgv := jO fS g
      rw [hw, l7] at hgv
      rw [hw] at hK ⊢
      have hnw : nth [w] 0 = w := rfl
      simp (disch := omega) [gw, hnw]
      exact hK _ _ (aC _ [2, 3, 10, 11, 12, 39]) ⟨_, _, _, rfl, by simp [cJ], fun h3 => by simp at h3; omega⟩
     ·have h2' : ((aR LL g).length : Int) ≠ 1 := by omega
      have hb : (((aR LL g).length : Int) == 1) = false := by simpa using h2'
      simp (disch := omega) [gw, hb, h2]
      exact hK _ _ (aC _ [2, 3, 10, 11, 12, 39]) ⟨_, _, _, rfl, by simp [cJ], fun h3 => by cases h3⟩
    rintro _ ⟨b, rows, clk, rfl, cJ, hb⟩
    refine W.cond ⟨_, rfl, fun h => ?_, fun h => ?_⟩
    ·have XE := hb h
     subst XE
     have r7 := NK _ _ hgx.symm
     refine W.exit ?_; simp only [pX, if_true, if_false, reduceIte, Nat.reduceEqDiff]
     rw [r7]
     exact ⟨_, aC _ [2, 3], rows, clk, rfl, cJ, by rw [r7] at *; exact hg⟩
    ·refine W.skip ?_
     subst hgx
     refine W.b8 (fun K hK => ?_); simp (disch := omega) [gw]
     refine hK _ ⟨p.length - (i + 1), _, aC _ [2, 3, 10, 11, 12], by omega, i + 1, _, _, rfl, by simp [cJ], by omega, by omega, hg⟩
  ·have hi : i = p.length := by simp at h; omega
   rw [List.take_of_length_le (by simp; omega)] at G4 ⊢
   refine W.exit ?_; simp only [pX, if_true, if_false, reduceIte, Nat.reduceEqDiff]
   exact ⟨_, aC _ [2, 3], rows, clk, rfl, cJ, G4⟩
 rintro _ ⟨rows, clk, rfl, cJ, G4⟩
 have hlg := zV G4
 have JB := lI (aR LL (bG (p.map gv))) (by omega) (eS fS _)
 rw [show (4294967296 : Int) = ((LL : Nat) : Int) from rfl, jO fS] at JB
 have ao8 := eW (bG (p.map gv) : Int) (by omega) false
 refine W.sr ?_
 simp (disch := omega) [gw]
 refine aA JB ?_
 simp (disch := omega) [gw]
 refine aA ao8 ?_
 simp (disch := omega) [gw, cJ]
 refine W.lx [2] ?_; simp
 refine W.ret ?_
 simp [go]
theorem pU : ∀ {l : List Int}, l.length ≤ (aM l).length → aM l = l
 | [], _ => rfl
 | x :: l, h => by
  rw [aM] at h ⊢
  split
  ·rename_i h1
   rw [if_pos h1] at h; simp at h
  ·rename_i h1
   rw [if_neg h1] at h
   rw [pU (by simpa using h)]
theorem JC {b : Int} (hb : 1 ≤ b) {l : List Int} (hl : b9 b l) (h : l ≠ [] → b ^ (l.length - 1) ≤ V b l) : aM l = l := by
 apply pU
 rcases Nat.lt_or_ge (aM l).length l.length with h1 | h1
 ·exfalso
  have h2 := h (by intro h0; subst h0; simp at h1)
  have h3 := n4 (by omega) (dH hl)
  rw [cA] at h3
  obtain ⟨m, hm⟩ : ∃ m, l.length - 1 = (aM l).length + m := ⟨l.length - 1 - (aM l).length, by omega⟩
  rw [hm, Int.pow_add] at h2
  have h4 : 1 ≤ b ^ m := Int.pow_pos (by omega)
  have h5 := Int.mul_le_mul_of_nonneg_left h4 (show 0 ≤ b ^ (aM l).length from Int.le_of_lt (Int.pow_pos (by omega)))
  omega
 ·exact h1
@[simp] theorem ad7 {l : List Int} {x : Int} : emap u32 l ++ [[.int .u32 x]] = emap u32 (l ++ [x]) := by simp [emap]
theorem DE (x : Int) : aJ env.P 174 [RI x] (.bool (decide (x = 0))) := by
 refine aB (E := env) (fun _ => 0) [(0, RI x)] Tryz.func174 rfl (by kernel_rfl) (by kernel_rfl) (show 1 ≤ 7 by decide) (by simp) ?_
 refine W.sr ?_; simp (disch := omega) [gw]; refine W.lx [1] ?_; simp
 refine W.sr ?_; simp (disch := omega) [gw]; refine W.lx [2] ?_; simp
 refine W.ret ?_
 simp [go]
 have e : ((aR DD x.natAbs).length = 0) ↔ x = 0 := by rw [List.length_eq_zero_iff, dM LF]; omega
 rw [Bool.eq_iff_iff, decide_eq_true_iff, beq_iff_eq, ← e]
 omega
theorem QL {x : Int} : (aR DD x.natAbs).length = 0 ↔ x = 0 := by rw [List.length_eq_zero_iff, dM LF]; omega
theorem DF (x : Int) : aJ env.P 168 [RI x] (.int .i64 x.sign) := by
 refine aB (E := env) (fun _ => 0) [(0, RI x)] Tryz.func168 rfl (by kernel_rfl) (by kernel_rfl) (show 1 ≤ 11 by decide) (by simp) ?_
 refine W.sr ?_; simp (disch := omega) [gw]; refine W.lx [1] ?_; simp
 refine W.seq ?_
 refine W.block ?_
 refine W.sr ?_; simp (disch := omega) [gw]; refine W.lx [1, 3] ?_; simp
 refine W.cond ⟨_, rfl, fun h => ?_, fun h => ?_⟩
 ·have h0 : x = 0 := by rw [← QL]; simp at h; simp [h]
  subst h0
  refine W.sr ?_; simp (disch := omega) [gw]; refine W.lx [2] ?_; simp
  refine W.ret ?_
  simp [go]
 ·have h0 : x ≠ 0 := by rw [Ne, ← QL]; simp at h; simpa using h
  refine W.sr ?_; simp (disch := omega) [gw]; refine W.lx [8] ?_; simp
  refine W.cond ⟨_, rfl, fun h => ?_, fun h => ?_⟩
  ·simp at h
   refine W.sr ?_; simp (disch := omega) [gw]; refine W.lx [2] ?_; simp
   refine W.ret ?_
   simp [go, Int.sign_eq_neg_one_of_neg h]
  ·simp at h
   refine W.skip ?_
   refine W.sr ?_; simp (disch := omega) [gw]; refine W.lx [2] ?_; simp
   refine W.ret ?_
   simp [go, Int.sign_eq_one_of_pos (show 0 < x by omega)]
theorem pV (x : Int) : aJ env.P 50 [RI x] (RI (-x)) := by
 refine aB (E := env) (fun _ => 0) [(0, RI x)] Tryz.func50 rfl (by kernel_rfl) (by kernel_rfl) (show 1 ≤ 9 by decide) (by simp) ?_
 refine W.sr ?_; simp (disch := omega) [gw]; refine W.lx [1, 2] ?_; simp
 refine W.sr ?_
 simp (disch := omega) [gw]
 refine aA (nJ x.natAbs (by omega) (!decide (x < 0))) ?_
 simp (disch := omega) [gw]
 refine W.lx [2] ?_; simp
 refine W.ret ?_
 have e : (if 0 ≤ x then -(x.natAbs : Int) else x.natAbs) = -x := by split <;> omega
 simp only [e]
 simp [go]
theorem UH (a : List Int) (d : Int) (ha : a.length < 1099511627776) (la : b9 10000 a) (Z4 : 0 < d) (FK : d ≤ 65536) : aJ env.P 178 [aI aF a, .int .i64 d] (.eP [Dn (V 10000 a / d), .int .i64 (V 10000 a % d)]) := by
 refine aB (E := env) (fun _ => 0) [(0, aI aF a), (1, .int .i64 d)] Tryz.func178 rfl (by kernel_rfl) (by kernel_rfl) (show 2 ≤ 39 by decide) (by simp) ?_
 refine W.sr ?_; simp (disch := omega) [gw]; refine W.lx [0, 1] ?_; simp
 refine W.sr ?_; simp (disch := omega) [gw]; refine W.lx [0, 1, 6] ?_; simp
 refine W.sr ?_; simp (disch := omega) [gw]; refine W.lx [0, 1, 6, 7] ?_; simp
 refine W.seq ?_
 refine W.sr ?_; simp (disch := omega) [gw]; refine W.lx [0, 1, 6, 7, 8] ?_; simp
 refine W.block ?_
 refine W.a9 (fun k σ => ∃ (r : Int) (z : List Int) (ver : Nat) (rows : Pm.Rows) (clk : Nat), σ = ⟨fa [(0, aI aF a), (1, .int .i64 d), (6, .own 12 ver 0 a.length), (7, .int .i64 r), (8, .int .i64 ((k : Int) - 1))], rows, clk⟩ ∧
  rows 12 = some ⟨ver, 3, 1, emap aF z⟩ ∧ k ≤ a.length ∧ z.length = a.length ∧ b9 10000 z ∧ 0 ≤ r ∧ r < d ∧ V 10000 (a.drop k) = d * V 10000 (z.drop k) + r) a.length ?_ ?_
 ·exact ⟨_, .refl, 0, List.replicate a.length 0, _, _, _, rfl, by simp, by omega, by simp, b9.rep (by decide) _, by omega, Z4, by simp [V]⟩
 rintro k _ ⟨r, z, ver, rows, clk, rfl, hr, hk, hz, lz, CP, B3, hV⟩
 refine W.seq ?_
 refine W.sr ?_; simp (disch := omega) [gw]; refine W.lx [0, 1, 6, 7, 8, 17] ?_; simp
 refine W.cond ⟨_, rfl, fun h => ?_, fun h => ?_⟩
 ·simp at h
  obtain ⟨j, rfl⟩ : ∃ j, k = j + 1 := ⟨k - 1, by omega⟩
  clear h
  have hx := la.nth (i := j) (by omega)
  have T6 : 0 ≤ r * 10000 + nth a j := by omega
  have qQ : r * 10000 + nth a j < d * 10000 := by omega
  have DB : 0 ≤ (r * 10000 + nth a j) / d := Int.ediv_nonneg T6 (by omega)
  have ZS : (r * 10000 + nth a j) / d < 10000 := Int.ediv_lt_of_lt_mul Z4 (by omega)
  have K9 := Int.emod_nonneg (r * 10000 + nth a j) (show d ≠ 0 by omega)
  have G7 := Int.emod_lt_of_pos (r * 10000 + nth a j) Z4
  have hdz : d ≠ 0 := by omega
  refine W.skip ?_
  refine W.seq ?_
  refine W.block ?_
  refine W.sr ?_; simp (disch := omega) [gw]; refine W.lx [0, 1, 6, 8, 9] ?_; simp
  refine W.sr ?_; simp (disch := omega) [gw, hr, hdz]
  refine W.lx [0, 1, 6, 8, 9] ?_; simp
  refine W.b8 (fun K hK => ?_); simp (disch := omega) [gw, hdz]
  refine W.lw [0, 1, 6, 7, 8] hK ?_; clear hK K; simp
  refine W.b8 (fun K hK => ?_); simp (disch := omega) [gw]
  refine hK _ ⟨j, _, aC _ [0, 1, 6, 7, 8], by omega, _, z.set j ((r * 10000 + nth a j) / d), ver, _, _, rfl, by simp, by omega, by simpa using hz, lz.set ⟨DB, ZS⟩, K9, G7, ?_⟩
  rw [dW (l := a) (i := j) (by omega), dW (l := z.set j _) (i := j) (by simp; omega), dS (by omega), List.drop_set_of_lt (by omega)]
  simp only [V]
  rw [hV]
  have := Int.emod_add_mul_ediv (r * 10000 + nth a j) d
  grind
 ·simp at h
  have wQ : k = 0 := by omega
  subst wQ
  simp only [List.drop_zero] at hV
  have ez : z.take a.length = z := bE hz
  have hzn := bF (by decide) lz
  have e1 : V 10000 a / d = V 10000 z := by
   rw [hV, Int.mul_add_ediv_left _ _ (by omega), Int.ediv_eq_zero_of_lt CP B3]; simp
  have e2 : V 10000 a % d = r := by
   rw [hV, Int.mul_add_emod_self_left, Int.emod_eq_of_lt CP B3]
  refine W.exit ?_; simp only [pX, if_true, if_false, reduceIte, Nat.reduceEqDiff]
  refine W.sr ?_
  simp (disch := omega) [gw, hr, ez]
  refine aA (nI z (by omega)) ?_
  simp (disch := omega) [gw]
  refine W.lx [4, 5] ?_; simp
  refine W.ret ?_
  rw [e1, e2, ← sC lz]
  simp [go]
theorem zW (y d : Int) (hy : 0 ≤ y) (hz : Z y) (Z4 : 0 < d) (FK : d ≤ 65536) : aJ env.P 178 [Dn y, .int .i64 d] (.eP [Dn (y / d), .int .i64 (y % d)]) := by
 have := UH (aR DD y.toNat) d (by have := jD hy; omega) (kN _) Z4 FK
 rwa [tP hy] at this
theorem ad8 (n : Nat) (hz : Z (n : Int)) : aJ env.P 98 [aI aF (aR DD n)] (us (aR LL n)) := by
 have hln : (aR LL n).length ≤ sz 2 (n : Int) := QJ fS n
 refine aB (E := env) (fun _ => 0) [(0, aI aF (aR DD n))] Tryz.func98 rfl (by kernel_rfl) (by kernel_rfl) (show 1 ≤ 31 by decide) (by simp) ?_
 refine W.sr ?_; simp (disch := omega) [gw]; refine W.lx [0] ?_; simp
 refine W.sr ?_; simp (disch := omega) [gw]; refine W.lx [0, 3] ?_; simp
 refine W.nil 3 3 143 1 (by simp) (by decide) (fun K hK => ?_)
 refine W.lw [0, 3] hK ?_; clear hK K; simp
 refine W.seq ?_
 refine W.block ?_
 refine W.a9 (fun k σ => ∃ (i : Nat) (z : List Int) (ver : Nat) (rows : Pm.Rows) (clk : Nat), σ = ⟨fa [(0, aI aF (aR DD k)), (3, .own 3 ver 0 i)], rows, clk⟩ ∧ rows 3 = some ⟨ver, 143, 1, emap u32 z⟩ ∧ z.length = i ∧ k ≤ n ∧ aR LL n = z ++ aR LL k) n ?_ ?_
 ·exact ⟨_, .refl, 0, [], _, _, _, rfl, by simp [emap], rfl, by omega, by simp⟩
 rintro k _ ⟨i, z, ver, rows, clk, rfl, hr, EJ, hk, hd⟩
 have hzk : Z (k : Int) := Nat.lt_of_le_of_lt (cC (by decide) (y := (n : Int)) (by omega)) hz
 have sE : i ≤ (aR LL n).length := by rw [hd]; simp [EJ]
 have e0 : (aR DD k).length = 0 ↔ k = 0 := by rw [List.length_eq_zero_iff, dM LF]
 refine W.seq ?_
 refine W.sr ?_; simp (disch := omega) [gw]; refine W.lx [0, 3, 9] ?_; simp
 refine W.cond ⟨_, rfl, fun h => ?_, fun h => ?_⟩
 ·have wQ : k ≠ 0 := by rw [Ne, ← e0]; simp at h; omega
  have uT : Z ((k : Int) / 65536) := Nat.lt_of_le_of_lt (cC (by decide) (y := (k : Int)) (by omega)) hzk
  refine W.skip ?_
  refine W.block ?_
  refine W.sr ?_
  simp (disch := omega) [gw]
  refine aA (zW (k : Int) 65536 (by omega) hzk (by decide) (by decide)) ?_
  simp (disch := omega) [gw]
  refine W.lx [3, 4, 5] ?_; simp
  refine W.sr ?_
  simp (disch := omega) [gw]
  refine aA (zW ((k : Int) / 65536) 65536 (by omega) uT (by decide) (by decide)) ?_
  simp (disch := omega) [gw]
  refine W.lx [3, 4, 5, 6] ?_; simp
  refine W.sr ?_; simp (disch := omega) [gw, hr, EJ, wrap_u32']
  have e1 : (k : Int) / 65536 % 65536 * 65536 + k % 65536 = ((k % LL : Nat) : Int) := by simp; omega
  have e3 : k / LL < k := Nat.div_lt_self (by omega) (by decide)
  obtain ⟨dg, e2⟩ : ∃ dg : Int, dg = ((k % LL : Nat) : Int) := ⟨_, rfl⟩
  rw [← e2] at e1
  simp only [e1, ad7]
  refine W.lx [3, 4] ?_; simp
  refine W.b8 (fun K hK => ?_); simp (disch := omega) [gw]
  refine hK _ ⟨k / LL, _, Gh.fr [(0, aI aF (aR DD (k / LL))), (3, .own 3 _ 0 (i + 1))] ?_, e3, i + 1, z ++ [dg], _, _, _, rfl, by simp; rfl, by simp [EJ], by omega, ?_⟩
  ·have e2 : ((k : Int) / 65536 / 65536).toNat = k / LL := by show _ = k / 4294967296; omega
   simp only [Dn, e2]
   simp
  ·rw [hd, pL fS wQ, e2]; simp
 ·have wQ : k = 0 := by rw [← e0]; simp at h; simp [h]
  subst wQ
  refine W.exit ?_; simp only [pX, if_true, if_false, reduceIte, Nat.reduceEqDiff]
  refine W.sr ?_; simp (disch := omega) [gw]; refine W.lx [2] ?_; simp
  refine W.ret ?_
  simp [kE] at hd
  have ez : z.take i = z := bE EJ
  simp [go, hr, ez, hd]
theorem FL (x : Int) (hz : Z x) : aJ env.P 49 [RI x] (I x) := by
 refine aB (E := env) (fun _ => 0) [(0, RI x)] Tryz.func49 rfl (by kernel_rfl) (by kernel_rfl) (show 1 ≤ 9 by decide) (by simp) ?_
 refine W.sr ?_; simp (disch := omega) [gw]; refine W.lx [1, 2] ?_; simp
 refine W.sd ?_
 simp (disch := omega) [gw]
 refine aA (ad8 x.natAbs (by simpa [Z, sz] using hz)) ?_
 simp (disch := omega) [gw]
 refine W.lx [2] ?_; simp
 refine W.ret ?_
 simp [go]
theorem UI (x y : List Int) (hx : x.length < 1099511627776) (hy : y.length < 1099511627776) (lx : b9 10000 x) (ly : b9 10000 y) (cx : aM x = x) (cy : aM y = y) : aJ env.P 196 [aI aF x, aI aF y] (.int .i64 (dN (V 10000 x) (V 10000 y))) := by
 refine aB (E := env) (fun _ => 0) [(0, aI aF x), (1, aI aF y)] Tryz.func196 rfl (by kernel_rfl) (by kernel_rfl) (show 2 ≤ 41 by decide) (by simp) ?_
 refine W.sr ?_; simp (disch := omega) [gw]; refine W.lx [0, 1] ?_; simp
 refine W.seq ?_
 refine W.sr ?_; simp (disch := omega) [gw]; refine W.lx [0, 1, 10] ?_; simp
 refine W.cond ⟨_, rfl, fun h => ?_, fun h => ?_⟩
 ·simp at h
  refine W.seq ?_
  refine W.sr ?_; simp (disch := omega) [gw]; refine W.lx [15] ?_; simp
  refine W.cond ⟨_, rfl, fun h => ?_, fun h => ?_⟩
  ·simp at h
   refine W.sr ?_; simp (disch := omega) [gw]; refine W.lx [4] ?_; simp
   refine W.ret ?_
   simp [mA (iQ (by decide) lx ly cy h)]
  ·simp at h
   refine W.skip ?_
   refine W.sr ?_; simp (disch := omega) [gw]; refine W.lx [4] ?_; simp
   refine W.ret ?_
   simp [mB (iQ (by decide) ly lx cx (by omega))]
 ·simp at h
  have hlen : x.length = y.length := by omega
  clear h
  refine W.skip ?_
  refine W.seq ?_
  refine W.sr ?_; simp (disch := omega) [gw]; refine W.lx [0, 1, 5] ?_; simp
  refine W.block ?_
  refine W.a9 (fun k σ => ∃ (rows : Pm.Rows) (clk : Nat), σ = ⟨fa [(0, aI aF x), (1, aI aF y), (5, .int .i64 ((k : Int) - 1))], rows, clk⟩ ∧ k ≤ x.length ∧ x.drop k = y.drop k) x.length ?_ ?_
  ·exact ⟨_, .refl, _, _, rfl, by omega, by rw [List.drop_of_length_le (by omega), List.drop_of_length_le (by omega)]⟩
  rintro k _ ⟨rows, clk, rfl, hk, hd⟩
  refine W.seq ?_
  refine W.sr ?_; simp (disch := omega) [gw]; refine W.lx [0, 1, 5, 20] ?_; simp
  refine W.cond ⟨_, rfl, fun h => ?_, fun h => ?_⟩
  ·have h0 : 0 < k := by simp at h; omega
   obtain ⟨j, rfl⟩ : ∃ j, k = j + 1 := ⟨k - 1, by omega⟩
   clear h
   refine W.skip ?_
   refine W.seq ?_
   refine W.block ?_
   refine W.sd ?_; simp (disch := omega) [gw]; refine W.lx [0, 1, 5, 31] ?_; simp
   refine W.cond ⟨_, rfl, fun h => ?_, fun h => ?_⟩
   ·simp at h
    refine W.seq ?_
    refine W.sd ?_; simp (disch := omega) [gw]; refine W.lx [40] ?_; simp
    refine W.cond ⟨_, rfl, fun h2 => ?_, fun h2 => ?_⟩
    ·simp at h2
     refine W.sr ?_; simp (disch := omega) [gw]; refine W.lx [4] ?_; simp
     refine W.ret ?_
     simp [mA (l9 (by decide) lx ly hlen (by omega) hd h2)]
    ·simp at h2
     refine W.skip ?_
     refine W.sr ?_; simp (disch := omega) [gw]; refine W.lx [4] ?_; simp
     refine W.ret ?_
     simp [mB (l9 (by decide) ly lx hlen.symm (by omega) hd.symm (by omega))]
   ·simp at h
    refine W.skip ?_
    refine W.b8 (fun K hK => ?_); simp (disch := omega) [gw]
    refine hK _ ⟨j, _, aC _ [0, 1, 5], by omega, _, _, rfl, by omega, ?_⟩
    rw [dW (l := x) (i := j) (by omega), dW (l := y) (i := j) (by omega), hd, h]
  ·have h0 : k = 0 := by simp at h; omega
   subst h0
   simp at hd
   subst hd
   refine W.exit ?_; simp only [pX, if_true, if_false, reduceIte, Nat.reduceEqDiff]
   refine W.sr ?_; simp (disch := omega) [gw]; refine W.lx [4] ?_; simp
   refine W.ret ?_
   simp [xO]
theorem JD (x y : Int) (hx : 0 ≤ x) (hy : 0 ≤ y) (zx : Z x) (zy : Z y) : aJ env.P 196 [Dn x, Dn y] (.int .i64 (dN x y)) := by
 have := UI (aR DD x.toNat) (aR DD y.toNat) (by have := jD hx; omega) (by have := jD hy; omega) (kN _) (kN _) (l8 LF _) (l8 LF _)
 rwa [tP hx, tP hy] at this
theorem UJ (a b : List Int) (ha : a.length < 1099511627776) (hb : b.length < 1099511627776) (la : b9 10000 a) (lb : b9 10000 b) (ca : aM a = a) (cb : aM b = b) : aJ env.P 195 [aI aF a, aI aF b] (Dn (V 10000 a + V 10000 b)) := by
 refine aB (E := env) (fun _ => 0) [(0, aI aF a), (1, aI aF b)] Tryz.func195 rfl (by kernel_rfl) (by kernel_rfl) (show 2 ≤ 52 by decide) (by simp) ?_
 refine W.sr ?_; simp (disch := omega) [gw]; refine W.lx [0, 1] ?_; simp
 refine W.sr ?_; simp (disch := omega) [gw]; refine W.lx [0, 1, 5] ?_; simp
 refine W.nil 5 5 3 1 (by simp) (by decide) (fun K hK => ?_)
 refine W.lw [0, 1, 5] hK ?_; clear hK K; simp
 refine W.sr ?_; simp (disch := omega) [gw]; refine W.lx [0, 1, 5, 6] ?_; simp
 refine W.seq ?_
 refine W.sr ?_; simp (disch := omega) [gw]; refine W.lx [0, 1, 5, 6, 7] ?_; simp
 refine W.block ?_
 obtain ⟨M, hM⟩ : ∃ M, M = max a.length b.length := ⟨_, rfl⟩
 refine W.a9 (fun k σ => ∃ (i : Nat) (c : Int) (z : List Int) (ver : Nat) (rows : Pm.Rows) (clk : Nat), σ = ⟨fa [(0, aI aF a), (1, aI aF b), (5, .own 5 ver 0 i), (6, .int .i64 c), (7, .int .i64 i)], rows, clk⟩ ∧
  rows 5 = some ⟨ver, 3, 1, emap aF z⟩ ∧ k = 2 * (M - i) + c.toNat ∧ z.length = i ∧ (i ≤ M ∨ (i = M + 1 ∧ c = 0 ∧ 10000 ^ M ≤ V 10000 a + V 10000 b)) ∧ b9 10000 z ∧ 0 ≤ c ∧ c ≤ 1 ∧
  V 10000 z + 10000 ^ i * c = V 10000 (a.take i) + V 10000 (b.take i)) (2 * M) ?_ ?_
 ·exact ⟨_, .refl, 0, 0, [], _, _, _, rfl, by simp [emap], by simp, rfl, by omega, b9.nil, by omega, by omega, by simp [V]⟩
 rintro k _ ⟨i, c, z, ver, rows, clk, rfl, hr, hk, hz, hi, lz, vA, uN, hV⟩
 refine W.seq ?_
 refine W.gW (fun σ => ∃ (t : Bool), σ = ⟨fa [(0, aI aF a), (1, aI aF b), (5, .own 5 ver 0 i), (6, .int .i64 c), (7, .int .i64 i), (21, .bool t)], rows, clk⟩ ∧ (t = true ↔ i < M ∨ 0 < c)) (fun K hK => ?_) ?_
 ·simp
  by_cases h1 : i < a.length
  ·simp (disch := omega) [gw, h1]
   exact hK _ _ (aC _ [0, 1, 5, 6, 7, 21]) ⟨_, rfl, by simp; omega⟩
  ·by_cases h2 : i < b.length
   ·simp (disch := omega) [gw, h1, h2]
    exact hK _ _ (aC _ [0, 1, 5, 6, 7, 21]) ⟨_, rfl, by simp; omega⟩
   ·simp (disch := omega) [gw, h1, h2]
    exact hK _ _ (aC _ [0, 1, 5, 6, 7, 21]) ⟨_, rfl, by simp; omega⟩
 rintro _ ⟨t, rfl, ht⟩
 refine W.cond ⟨_, rfl, fun h => ?_, fun h => ?_⟩
 ·have ht := ht.1 h
  refine W.skip ?_
  refine W.seq ?_
  refine W.block ?_
  refine W.fY (fun σ => ∃ (s : Int), σ = ⟨fa [(0, aI aF a), (1, aI aF b), (5, .own 5 ver 0 i), (6, .int .i64 s), (7, .int .i64 i)], rows, clk⟩ ∧ 0 ≤ s ∧ s ≤ c + 9999 ∧ (a.length ≤ i → s = c) ∧
   V 10000 z + 10000 ^ i * s = V 10000 (a.take (i + 1)) + V 10000 (b.take i)) ?_ ?_
  ·
   refine W.sr ?_; simp (disch := omega) [gw]; refine W.lx [0, 1, 5, 6, 7, 27] ?_; simp
   refine W.cond ⟨_, rfl, fun h => ?_, fun h => ?_⟩
   ·simp at h
    have hx := la.nth h
    refine W.b8 (fun K hK => ?_); simp (disch := omega) [gw]
    refine hK _ ⟨_, aC _ [0, 1, 5, 6, 7], _, rfl, by omega, by omega, by omega, ?_⟩
    rw [aT h]; grind
   ·simp at h
    refine W.skip ?_
    refine ⟨_, aC _ [0, 1, 5, 6, 7], _, rfl, by omega, by omega, fun _ => rfl, ?_⟩
    rw [aX (l := a) (by omega)]
    rwa [aX (l := a) (by omega)] at hV
  rintro _ ⟨s, rfl, T6, qQ, hsc, hsV⟩
  refine W.fY (fun σ => ∃ (u : Int), σ = ⟨fa [(0, aI aF a), (1, aI aF b), (5, .own 5 ver 0 i), (6, .int .i64 u), (7, .int .i64 i)], rows, clk⟩ ∧ 0 ≤ u ∧ u ≤ s + 9999 ∧ (b.length ≤ i → u = s) ∧
   V 10000 z + 10000 ^ i * u = V 10000 (a.take (i + 1)) + V 10000 (b.take (i + 1))) ?_ ?_
  ·
   refine W.sr ?_; simp (disch := omega) [gw]; refine W.lx [0, 1, 5, 6, 7, 37] ?_; simp
   refine W.cond ⟨_, rfl, fun h => ?_, fun h => ?_⟩
   ·simp at h
    have hx := lb.nth h
    refine W.b8 (fun K hK => ?_); simp (disch := omega) [gw]
    refine hK _ ⟨_, aC _ [0, 1, 5, 6, 7], _, rfl, by omega, by omega, by omega, ?_⟩
    rw [aT h]; grind
   ·simp at h
    refine W.skip ?_
    refine ⟨_, aC _ [0, 1, 5, 6, 7], _, rfl, by omega, by omega, fun _ => rfl, ?_⟩
    rw [aX (l := b) (by omega)]
    rwa [aX (l := b) (by omega)] at hsV
  rintro _ ⟨u, rfl, hu0, hu1, huc, huV⟩
  refine W.sr ?_; simp (disch := omega) [gw, hr, hz]
  refine W.lx [0, 1, 5, 6, 7] ?_; simp
  refine W.b8 (fun K hK => ?_); simp (disch := omega) [gw]; refine W.lw [0, 1, 5, 6, 7] hK ?_; clear hK K; simp
  refine W.b8 (fun K hK => ?_); simp (disch := omega) [gw]
  refine hK _ ⟨2 * (M - (i + 1)) + (u / 10000).toNat, _, aC _ [0, 1, 5, 6, 7], ?_, i + 1, u / 10000, z ++ [u % 10000], _, _, _, rfl, by simp, rfl, by simp [hz], ?_, b9.append.2 ⟨lz, b9.cons.2 ⟨by omega, b9.nil⟩⟩, by omega, by omega, ?_⟩
  ·rcases Nat.lt_or_ge i M with h1 | h1
   ·omega
   ·have := hsc (by omega); have := huc (by omega); omega
  ·rcases Nat.lt_or_ge i M with h1 | h1
   ·omega
   ·right
    have hc : c = 1 := by omega
    have hzn := bF (by decide) lz
    rw [aX (l := a) (by omega), aX (l := b) (by omega), hc] at hV
    have hiM : i = M := by omega
    rw [← hiM]
    refine ⟨rfl, by have := hsc (by omega); have := huc (by omega); omega, ?_⟩
    rw [← hV]
    omega
  ·rw [dG, l7, hz, ← huV, Int.pow_succ]
   have := Int.emod_add_mul_ediv u 10000
   grind
 ·have ht : ¬ (i < M ∨ 0 < c) := fun h2 => by simp [ht.2 h2] at h
  have hc : c = 0 := by omega
  subst hc
  refine W.exit ?_; simp only [pX, if_true, if_false, reduceIte, Nat.reduceEqDiff]
  refine W.sr ?_; simp (disch := omega) [gw]; refine W.lx [4] ?_; simp
  refine W.ret ?_
  rw [aX (l := a) (by omega), aX (l := b) (by omega)] at hV
  have e : V 10000 a + V 10000 b = V 10000 z := by rw [← hV]; simp
  have cz : aM z = z := by
   refine JC (by decide) lz fun h0 => ?_
   rw [hz, ← e]
   rcases hi with h1 | ⟨h1, _, h2⟩
   ·have hna := bF (by decide) la
    have hnb := bF (by decide) lb
    have sE : 0 < i := by rw [← hz]; exact List.length_pos_iff.2 h0
    rcases Nat.le_total b.length a.length with h3 | h3
    ·have := lE (b := 10000) (by decide) la ca (by intro h5; rw [h5] at h3 hM; simp at h3; simp [h3] at hM; omega)
     rw [show i - 1 = a.length - 1 by omega]; omega
    ·have := lE (b := 10000) (by decide) lb cb (by intro h5; rw [h5] at h3 hM; simp at h3; simp [h3] at hM; omega)
     rw [show i - 1 = b.length - 1 by omega]; omega
   ·rw [h1]; exact h2
  have ez : z.take i = z := bE hz
  rw [e, ← sC lz, cz]
  simp [go, hr, ez]
theorem Z5 (x y : Int) (hx : 0 ≤ x) (hy : 0 ≤ y) (zx : Z x) (zy : Z y) : aJ env.P 195 [Dn x, Dn y] (Dn (x + y)) := by
 have := UJ (aR DD x.toNat) (aR DD y.toNat) (by have := jD hx; omega) (by have := jD hy; omega) (kN _) (kN _) (l8 LF _) (l8 LF _)
 rwa [tP hx, tP hy] at this
theorem UK (a b : List Int) (ha : a.length < 1099511627776) (hb : b.length ≤ a.length) (la : b9 10000 a) (lb : b9 10000 b) (hle : V 10000 b ≤ V 10000 a) : aJ env.P 197 [aI aF a, aI aF b] (Dn (V 10000 a - V 10000 b)) := by
 refine aB (E := env) (fun _ => 0) [(0, aI aF a), (1, aI aF b)] Tryz.func197 rfl (by kernel_rfl) (by kernel_rfl) (show 2 ≤ 44 by decide) (by simp) ?_
 refine W.sr ?_; simp (disch := omega) [gw]; refine W.lx [0, 1] ?_; simp
 refine W.sr ?_; simp (disch := omega) [gw]; refine W.lx [0, 1, 5] ?_; simp
 refine W.sr ?_; simp (disch := omega) [gw]; refine W.lx [0, 1, 5, 6] ?_; simp
 refine W.seq ?_
 refine W.sr ?_; simp (disch := omega) [gw]; refine W.lx [0, 1, 5, 6, 13, 14] ?_; simp
 refine W.block ?_
 refine W.a9 (fun k σ => ∃ (i : Nat) (c : Int) (z : List Int) (ver : Nat) (rows : Pm.Rows) (clk : Nat), σ = ⟨fa [(0, aI aF a), (1, aI aF b), (5, .own 11 ver 0 a.length), (6, .int .i64 c), (13, .int .i64 a.length), (14, .int .i64 i)], rows, clk⟩ ∧
  rows 11 = some ⟨ver, 3, 1, emap aF z⟩ ∧ k = a.length - i ∧ i ≤ a.length ∧ z.length = a.length ∧ b9 10000 z ∧ 0 ≤ c ∧ c ≤ 1 ∧
  V 10000 (z.take i) - 10000 ^ i * c = V 10000 (a.take i) - V 10000 (b.take i)) a.length ?_ ?_
 ·exact ⟨_, .refl, 0, 0, List.replicate a.length 0, _, _, _, rfl, by simp, by omega, by omega, by simp, b9.rep (by decide) _, by omega, by omega, by simp [V]⟩
 rintro k _ ⟨i, c, z, ver, rows, clk, rfl, hr, hk, hi, hz, lz, vA, uN, hV⟩
 refine W.sr ?_; simp (disch := omega) [gw]; refine W.lx [0, 1, 5, 6, 13, 14, 15] ?_; simp
 refine W.seq ?_
 refine W.cond ⟨_, rfl, fun h => ?_, fun h => ?_⟩
 ·simp at h
  have hx := la.nth h
  refine W.skip ?_
  refine W.seq ?_
  refine W.block ?_
  refine W.sr ?_; simp (disch := omega) [gw]; refine W.lx [0, 1, 5, 6, 7, 13, 14] ?_; simp
  refine W.sr ?_; simp (disch := omega) [gw]; refine W.lx [0, 1, 5, 7, 8, 13, 14] ?_; simp
  refine W.fY (fun σ => ∃ (s : Int), σ = ⟨fa [(0, aI aF a), (1, aI aF b), (5, .own 11 ver 0 a.length), (7, .int .i64 i), (8, .int .i64 s), (13, .int .i64 a.length), (14, .int .i64 i)], rows, clk⟩ ∧ -10000 ≤ s ∧ s ≤ 9999 ∧
   V 10000 (z.take i) + 10000 ^ i * s = V 10000 (a.take (i + 1)) - V 10000 (b.take (i + 1))) ?_ ?_
  ·
   refine W.sr ?_; simp (disch := omega) [gw]; refine W.lx [0, 1, 5, 7, 8, 13, 14, 26] ?_; simp
   refine W.cond ⟨_, rfl, fun h => ?_, fun h => ?_⟩
   ·simp at h
    have hy := lb.nth h
    refine W.b8 (fun K hK => ?_); simp (disch := omega) [gw]
    refine hK _ ⟨_, aC _ [0, 1, 5, 7, 8, 13, 14], _, rfl, by omega, by omega, ?_⟩
    rw [aT (l := a) (by omega), aT h]; grind
   ·simp at h
    refine W.skip ?_
    refine ⟨_, aC _ [0, 1, 5, 7, 8, 13, 14], _, rfl, by omega, by omega, ?_⟩
    rw [aT (l := a) (by omega), aX (l := b) (by omega)]
    rw [aX (l := b) (by omega)] at hV
    grind
  rintro _ ⟨s, rfl, T6, qQ, hsV⟩
  refine W.sr ?_; simp (disch := omega) [gw]; refine W.lx [0, 1, 5, 6, 7, 8, 13, 14] ?_; simp
  refine W.fY (fun σ => ∃ (u c : Int), σ = ⟨fa [(0, aI aF a), (1, aI aF b), (5, .own 11 ver 0 a.length), (6, .int .i64 c), (7, .int .i64 i), (8, .int .i64 u), (13, .int .i64 a.length), (14, .int .i64 i)], rows, clk⟩ ∧ 0 ≤ u ∧ u ≤ 9999 ∧ 0 ≤ c ∧ c ≤ 1 ∧ s = u - 10000 * c) ?_ ?_
  ·
   refine W.sr ?_; simp (disch := omega) [gw]; refine W.lx [0, 1, 5, 6, 7, 8, 13, 14, 34] ?_; simp
   refine W.cond ⟨_, rfl, fun h => ?_, fun h => ?_⟩
   ·simp at h
    refine W.sr ?_; simp (disch := omega) [gw]; refine W.lx [0, 1, 5, 7, 8, 13, 14] ?_; simp
    refine W.b8 (fun K hK => ?_); simp (disch := omega) [gw]
    exact hK _ ⟨_, aC _ [0, 1, 5, 6, 7, 8, 13, 14], _, 1, rfl, by omega, by omega, by omega, by omega, by omega⟩
   ·simp at h
    refine W.skip ?_
    exact ⟨_, aC _ [0, 1, 5, 6, 7, 8, 13, 14], _, 0, rfl, by omega, by omega, by omega, by omega, by omega⟩
  rintro _ ⟨u, c', rfl, hu0, hu1, aue, auf, hu⟩
  refine W.b8 (fun K hK => ?_); simp (disch := omega) [gw, hr]
  refine W.lw [0, 1, 5, 6, 13, 14] hK ?_; clear hK K; simp
  refine W.b8 (fun K hK => ?_); simp (disch := omega) [gw]
  refine hK _ ⟨a.length - (i + 1), _, aC _ [0, 1, 5, 6, 13, 14], by omega, i + 1, c', z.set i u, ver, _, _, rfl, by simp, by omega, by omega, by simpa using hz, lz.set (by omega), aue, auf, ?_⟩
  rw [dX (by omega), ← hsV, hu, Int.pow_succ]
  grind
 ·simp at h
  have kZ : i = a.length := by omega
  subst kZ
  have ez : z.take a.length = z := bE hz
  refine W.exit ?_; simp only [pX, if_true, if_false, reduceIte, Nat.reduceEqDiff]
  refine W.sr ?_
  simp (disch := omega) [gw, hr, ez]
  refine aA (nI z (by omega)) ?_
  simp (disch := omega) [gw]
  refine W.lx [4] ?_; simp
  refine W.ret ?_
  rw [ez, aX (l := a) (by omega), aX (l := b) (by omega)] at hV
  have h1 := n4 (by decide) lz
  rw [hz] at h1
  have hc : c = 0 := by
   rcases (show c = 0 ∨ c = 1 by omega) with h2 | h2
   ·exact h2
   ·subst h2; omega
  subst hc
  have e : V 10000 a - V 10000 b = V 10000 z := by rw [← hV]; simp
  rw [e, ← sC lz]
  simp [go]
theorem zY (x y : Int) (hy : 0 ≤ y) (hle : y ≤ x) (zx : Z x) : aJ env.P 197 [Dn x, Dn y] (Dn (x - y)) := by
 have hlen : (aR DD y.toNat).length ≤ (aR DD x.toNat).length := by
  have h1 := cC (b := DD) LF (x := y) (y := x) (by omega)
  simp only [sz] at h1
  rwa [show y.natAbs = y.toNat by omega, show x.natAbs = x.toNat by omega] at h1
 have := UK (aR DD x.toNat) (aR DD y.toNat) (by have := jD (show 0 ≤ x by omega); omega) hlen (kN _) (kN _) (by rw [tP hy, tP (by omega)]; exact hle)
 rwa [tP hy, tP (by omega)] at this
theorem ajC {a b : Int} (ha : 0 ≤ a ∧ a < 10000) (hb : 0 ≤ b ∧ b < 10000) : 0 ≤ a * b ∧ a * b ≤ 99980001 := by
 refine ⟨Int.mul_nonneg ha.1 hb.1, ?_⟩
 have := Int.mul_le_mul (show a ≤ 9999 by omega) (show b ≤ 9999 by omega) hb.1 (by decide)
 simpa using this
theorem UL (x y : List Int) (hx : x.length < 1099511627776) (hy : y.length < 1099511627776) (lx : b9 10000 x) (ly : b9 10000 y) : aJ env.P 173 [aI aF x, aI aF y] (Dn (V 10000 x * V 10000 y)) := by
 refine aB (E := env) (fun _ => 0) [(0, aI aF x), (1, aI aF y)] Tryz.func173 rfl (by kernel_rfl) (by kernel_rfl) (show 2 ≤ 66 by decide) (by simp) ?_
 refine W.sr ?_; simp (disch := omega) [gw]; refine W.lx [0, 1] ?_; simp
 have e : ((x.length : Int) + (y.length : Int)).toNat = x.length + y.length := by omega
 refine W.sr ?_; simp (disch := omega) [gw, e]; refine W.lx [0, 1, 5] ?_; simp
 refine W.seq ?_
 refine W.sr ?_; simp (disch := omega) [gw]; refine W.lx [0, 1, 5, 17, 18] ?_; simp
 refine W.block ?_
 refine W.a9 (fun k σ => ∃ (i : Nat) (z : List Int) (ver : Nat) (rows : Pm.Rows) (clk : Nat), σ = ⟨fa [(0, aI aF x), (1, aI aF y), (5, .own 15 ver 0 (x.length + y.length)), (17, .int .i64 x.length), (18, .int .i64 i)], rows, clk⟩ ∧
   rows 15 = some ⟨ver, 3, 1, emap aF z⟩ ∧ k = x.length - i ∧ i ≤ x.length ∧ z.length = x.length + y.length ∧ b9 10000 z ∧ (∀ j, i + y.length ≤ j → nth z j = 0) ∧
   V 10000 z = V 10000 (x.take i) * V 10000 y) x.length ?_ ?_
 ·refine ⟨_, .refl, 0, List.replicate (x.length + y.length) 0, _, _, _, rfl, by simp [e], by omega, by omega, by simp, b9.rep (by decide) _, fun j _ => ?_, by simp [V, oQ]⟩
  unfold nth
  cases h : (List.replicate (x.length + y.length) (0 : Int))[j]? with
  | none => rfl
  | some v => have := List.mem_of_getElem? h; simp at this; simp [this]
 rintro k _ ⟨i, z, ver, rows, clk, rfl, hr, hk, hi, hz, lz, rA, hV⟩
 refine W.sr ?_; simp (disch := omega) [gw]; refine W.lx [0, 1, 5, 17, 18, 19] ?_; simp
 refine W.seq ?_
 refine W.cond ⟨_, rfl, fun h => ?_, fun h => ?_⟩
 ·simp at h
  have hxi := lx.nth h
  refine W.skip ?_
  refine W.seq ?_
  refine W.block ?_
  refine W.sr ?_; simp (disch := omega) [gw]; refine W.lx [0, 1, 5, 6, 17, 18] ?_; simp
  refine W.sr ?_; simp (disch := omega) [gw]; refine W.lx [0, 1, 5, 6, 7, 17, 18] ?_; simp
  refine W.sr ?_; simp (disch := omega) [gw]; refine W.lx [0, 1, 5, 6, 7, 8, 17, 18] ?_; simp
  refine W.block ?_
  refine W.a9 (fun m σ => ∃ (k : Nat) (c : Int) (z : List Int) (ver : Nat) (rows : Pm.Rows) (clk : Nat), σ = ⟨fa [(0, aI aF x), (1, aI aF y), (5, .own 15 ver 0 (x.length + y.length)), (6, .int .i64 i), (7, .int .i64 c), (8, .int .i64 k), (17, .int .i64 x.length), (18, .int .i64 i)], rows, clk⟩ ∧
   rows 15 = some ⟨ver, 3, 1, emap aF z⟩ ∧ m = y.length + 1 - k ∧ (k ≤ y.length ∧ (∀ j, i + y.length ≤ j → nth z j = 0) ∨ k = y.length + 1 ∧ c = 0) ∧ z.length = x.length + y.length ∧ b9 10000 z ∧ (∀ j, i + 1 + y.length ≤ j → nth z j = 0) ∧ 0 ≤ c ∧ c ≤ 9999 ∧
   V 10000 z + 10000 ^ (i + k) * c = V 10000 (x.take i) * V 10000 y + 10000 ^ i * nth x i * V 10000 (y.take k)) (y.length + 1) ?_ ?_
  ·exact ⟨_, .refl, 0, 0, z, ver, _, _, rfl, by simpa using hr, by omega, .inl ⟨by omega, rA⟩, hz, lz, fun j hj => rA j (by omega), by omega, by omega, by simp [V, hV]⟩
  clear hV rA lz hz hr z ver rows clk
  rintro m _ ⟨k, c, z, ver, rows, clk, rfl, hr, hm, hky, hz, lz, rA, vA, uN, hV⟩
  refine W.seq ?_
  refine W.gW (fun σ => ∃ (t : Bool), σ = ⟨fa [(0, aI aF x), (1, aI aF y), (5, .own 15 ver 0 (x.length + y.length)), (6, .int .i64 i), (7, .int .i64 c), (8, .int .i64 k), (17, .int .i64 x.length), (18, .int .i64 i), (28, .bool t)], rows, clk⟩ ∧ (t = true ↔ k < y.length ∨ 0 < c)) (fun K hK => ?_) ?_
  ·simp
   by_cases h2 : k < y.length
   ·simp (disch := omega) [gw, h2]
    exact hK _ _ (aC _ [0, 1, 5, 6, 7, 8, 17, 18, 28]) ⟨_, rfl, by simp [h2]⟩
   ·simp (disch := omega) [gw, h2]
    exact hK _ _ (aC _ [0, 1, 5, 6, 7, 8, 17, 18, 28]) ⟨_, rfl, by simp [h2]⟩
  rintro _ ⟨t, rfl, ht⟩
  refine W.cond ⟨_, rfl, fun h2 => ?_, fun h2 => ?_⟩
  ·have ht := ht.1 h2
   obtain ⟨wQ, hk1⟩ : k ≤ y.length ∧ (∀ j, i + y.length ≤ j → nth z j = 0) := by
    rcases hky with h3 | h3
    ·exact h3
    ·omega
   have hzk := lz.nth (i := i + k) (by omega)
   have e0 : ((i : Int) + (k : Int)).toNat = i + k := by omega
   refine W.skip ?_
   refine W.seq ?_
   refine W.block ?_
   refine W.sr ?_; simp (disch := omega) [gw, hr, e0]
   refine W.lx [0, 1, 5, 6, 8, 9, 17, 18] ?_; simp
   refine W.fY (fun σ => ∃ (s : Int), σ = ⟨fa [(0, aI aF x), (1, aI aF y), (5, .own 15 ver 0 (x.length + y.length)), (6, .int .i64 i), (8, .int .i64 k), (9, .int .i64 s), (17, .int .i64 x.length), (18, .int .i64 i)], rows, clk⟩ ∧ 0 ≤ s ∧ s ≤ 99999999 ∧ (k = y.length → s = c) ∧
    V 10000 z - 10000 ^ (i + k) * nth z (i + k) + 10000 ^ (i + k) * s = V 10000 (x.take i) * V 10000 y + 10000 ^ i * nth x i * V 10000 (y.take (k + 1))) ?_ ?_
   ·
    refine W.sr ?_; simp (disch := omega) [gw]; refine W.lx [0, 1, 5, 6, 8, 9, 17, 18, 42] ?_; simp
    refine W.cond ⟨_, rfl, fun h => ?_, fun h => ?_⟩
    ·simp at h
     have hyk := ly.nth h
     have hp := ajC hxi hyk
     refine W.M4 (fun K hK => ?_); simp (disch := omega) [gw]
     refine hK _ ⟨_, aC _ [0, 1, 5, 6, 8, 9, 17, 18], _, rfl, by omega, by omega, by omega, ?_⟩
     rw [aT h, Int.pow_add]
     rw [Int.pow_add] at hV
     grind
    ·simp at h
     have hkl : k = y.length := by omega
     have h0 := hk1 (i + k) (by omega)
     refine W.skip ?_
     refine ⟨_, aC _ [0, 1, 5, 6, 8, 9, 17, 18], _, rfl, by omega, by omega, by omega, ?_⟩
     rw [aX (l := y) (by omega)]
     rw [aX (l := y) (by omega)] at hV
     rw [h0]
     grind
   rintro _ ⟨s, rfl, T6, qQ, hsc, hsV⟩
   refine W.sr ?_; simp (disch := omega) [gw, hr, e0]
   refine W.lx [0, 1, 5, 6, 8, 9, 17, 18] ?_; simp
   refine W.b8 (fun K hK => ?_); simp (disch := omega) [gw]; refine W.lw [0, 1, 5, 6, 7, 8, 17, 18] hK ?_; clear hK K; simp
   refine W.b8 (fun K hK => ?_); simp (disch := omega) [gw]
   have T7 := C4 (b := 10000) (l := z) (i := i + k) (x := s % 10000) (by omega)
   refine hK _ ⟨y.length + 1 - (k + 1), _, aC _ [0, 1, 5, 6, 7, 8, 17, 18], by omega, k + 1, s / 10000, z.set (i + k) (s % 10000), ver, _, _, rfl, by simp, rfl, ?_, by simpa using hz, lz.set (by omega), fun j hj => ?_, by omega, by omega, ?_⟩
   ·rcases Nat.lt_or_ge k y.length with h3 | h3
    ·left
     refine ⟨by omega, fun j hj => ?_⟩
     rw [fF (by omega)]; exact hk1 j hj
    ·right
     have := hsc (by omega)
     exact ⟨by omega, by omega⟩
   ·rw [fF (by omega)]; exact rA j hj
   ·rw [T7, ← hsV, show i + (k + 1) = (i + k) + 1 by omega, Int.pow_succ]
    have := Int.emod_add_mul_ediv s 10000
    grind
  ·have ht : ¬ (k < y.length ∨ 0 < c) := fun h3 => by simp [ht.2 h3] at h2
   have hc : c = 0 := by omega
   subst hc
   refine W.exit ?_; simp only [pX, if_true, if_false, reduceIte, Nat.reduceEqDiff]
   refine W.b8 (fun K hK => ?_); simp (disch := omega) [gw]
   refine hK _ ⟨x.length - (i + 1), _, aC _ [0, 1, 5, 17, 18], by omega, i + 1, z, ver, _, _, rfl, hr, by omega, by omega, hz, lz, rA, ?_⟩
   rw [aT h]
   rw [aX (l := y) (by omega)] at hV
   grind
 ·simp at h
  have kZ : i = x.length := by omega
  subst kZ
  have uT : List.take (x.length + y.length) z = z := List.take_of_length_le (by omega)
  refine W.exit ?_; simp only [pX, if_true, if_false, reduceIte, Nat.reduceEqDiff]
  refine W.sr ?_
  simp (disch := omega) [gw, hr, uT]
  refine aA (nI z (by omega)) ?_
  simp (disch := omega) [gw]
  refine W.lx [4] ?_; simp
  refine W.ret ?_
  rw [aX (Nat.le_refl _)] at hV
  rw [← hV, ← sC lz]
  simp
theorem Z6 (x y : Int) (hx : 0 ≤ x) (hy : 0 ≤ y) (zx : Z x) (zy : Z y) : aJ env.P 173 [Dn x, Dn y] (Dn (x * y)) := by
 have := UL (aR DD x.toNat) (aR DD y.toNat) (by have := jD hx; omega) (by have := jD hy; omega) (kN _) (kN _)
 rwa [tP hx, tP hy] at this
theorem JE {x : Int} (h : Z x) : Z (x.natAbs : Int) := by simpa [Z, sz] using h
theorem lJ (n : Nat) (neg : Bool) : aJ env.P 99 [aI aF (aR DD n), .bool neg] (RI (if neg = true then -(n : Int) else n)) := nJ n (by omega) neg
theorem UM (x y : Int) : (if decide (x < 0) != decide (y < 0) then -((x.natAbs * y.natAbs : Nat) : Int) else ((x.natAbs * y.natAbs : Nat) : Int)) = x * y := by
 rw [Int.natCast_mul]
 by_cases h1 : x < 0 <;> by_cases h2 : y < 0
 ·simp only [h1, h2, show (x.natAbs : Int) = -x by omega, show (y.natAbs : Int) = -y by omega]; simp <;> grind
 ·simp only [h1, h2, show (x.natAbs : Int) = -x by omega, show (y.natAbs : Int) = y by omega]; simp <;> grind
 ·simp only [h1, h2, show (x.natAbs : Int) = x by omega, show (y.natAbs : Int) = -y by omega]; simp <;> grind
 ·simp only [h1, h2, show (x.natAbs : Int) = x by omega, show (y.natAbs : Int) = y by omega]; simp <;> grind
theorem dQ (x y : Int) (zx : Z x) (zy : Z y) : aJ env.P 94 [RI x, RI y] (RI (x * y)) := by
 refine aB (E := env) (fun _ => 0) [(0, RI x), (1, RI y)] Tryz.func94 rfl (by kernel_rfl) (by kernel_rfl) (show 2 ≤ 16 by decide) (by simp) ?_
 refine W.sr ?_; simp (disch := omega) [gw]; refine W.lx [2, 3, 4] ?_; simp
 refine W.sd ?_
 simp (disch := omega) [gw]
 refine aA (Z6 x.natAbs y.natAbs (by omega) (by omega) (JE zx) (JE zy)) ?_
 have e : ((x.natAbs : Int) * y.natAbs).toNat = x.natAbs * y.natAbs := by rw [← Int.natCast_mul]; exact Int.toNat_natCast _
 simp only [Dn, e]
 obtain ⟨m, hm⟩ : ∃ m, m = x.natAbs * y.natAbs := ⟨_, rfl⟩
 rw [← hm]
 simp (disch := omega) [gw]
 refine aA (lJ m (decide (x < 0) != decide (y < 0))) ?_
 have e2 := UM x y
 rw [← hm] at e2
 rw [e2]
 simp (disch := omega) [gw]
 refine W.lx [4] ?_; simp
 refine W.ret ?_
 simp [go]
theorem zZ (x y : Int) (zx : Z x) (zy : Z y) : aJ env.P 128 [RI x, RI y] (RI (x + y)) := by
 refine aB (E := env) (fun _ => 0) [(0, RI x), (1, RI y)] Tryz.func128 rfl (by kernel_rfl) (by kernel_rfl) (show 2 ≤ 40 by decide) (by simp) ?_
 refine W.sr ?_; simp (disch := omega) [gw]; refine W.lx [2, 3, 4] ?_; simp
 refine W.seq ?_
 refine W.sr ?_; simp (disch := omega) [gw]; refine W.lx [2, 3, 4, 9] ?_; simp
 refine W.cond ⟨_, rfl, fun h => ?_, fun h => ?_⟩
 ·simp at h
  refine W.sd ?_
  simp (disch := omega) [gw]
  refine aA (Z5 x.natAbs y.natAbs (by omega) (by omega) (JE zx) (JE zy)) ?_
  have e : ((x.natAbs : Int) + y.natAbs).toNat = x.natAbs + y.natAbs := by omega
  simp only [Dn, e]
  obtain ⟨m, hm⟩ : ∃ m, m = x.natAbs + y.natAbs := ⟨_, rfl⟩
  rw [← hm]
  simp (disch := omega) [gw]
  refine aA (lJ m _) ?_
  have e2 : (if decide (x < 0) = true then -(m : Int) else m) = x + y := by by_cases h1 : x < 0 <;> simp [h1] <;> omega
  rw [e2]
  simp (disch := omega) [gw]
  refine W.lx [4] ?_; simp
  refine W.ret ?_
  simp [go]
 ·simp at h
  refine W.skip ?_
  refine W.seq ?_
  refine W.sr ?_
  simp (disch := omega) [gw]
  refine aA (JD x.natAbs y.natAbs (by omega) (by omega) (JE zx) (JE zy)) ?_
  simp (disch := omega) [gw]
  refine W.lx [2, 3, 4, 23] ?_; simp
  refine W.cond ⟨_, rfl, fun h2 => ?_, fun h2 => ?_⟩
  ·have h2 : (y.natAbs : Int) ≤ x.natAbs := pN.1 (of_decide_eq_true h2)
   refine W.sd ?_
   simp (disch := omega) [gw]
   refine aA (zY x.natAbs y.natAbs (by omega) h2 (JE zx)) ?_
   have e : ((x.natAbs : Int) - y.natAbs).toNat = x.natAbs - y.natAbs := by omega
   simp only [Dn, e]
   obtain ⟨m, hm⟩ : ∃ m, m = x.natAbs - y.natAbs := ⟨_, rfl⟩
   rw [← hm]
   simp (disch := omega) [gw]
   refine aA (lJ m _) ?_
   have e2 : (if decide (x < 0) = true then -(m : Int) else m) = x + y := by by_cases h1 : x < 0 <;> simp [h1] <;> omega
   rw [e2]
   simp (disch := omega) [gw]
   refine W.lx [4] ?_; simp
   refine W.ret ?_
   simp [go]
  ·have h2 : (x.natAbs : Int) < y.natAbs := by
    have h3 := of_decide_eq_false h2
    rw [pN] at h3; omega
   refine W.skip ?_
   refine W.sd ?_
   simp (disch := omega) [gw]
   refine aA (zY y.natAbs x.natAbs (by omega) (by omega) (JE zy)) ?_
   have e : ((y.natAbs : Int) - x.natAbs).toNat = y.natAbs - x.natAbs := by omega
   simp only [Dn, e]
   obtain ⟨m, hm⟩ : ∃ m, m = y.natAbs - x.natAbs := ⟨_, rfl⟩
   rw [← hm]
   simp (disch := omega) [gw]
   refine aA (lJ m _) ?_
   have e2 : (if decide (y < 0) = true then -(m : Int) else m) = x + y := by by_cases h1 : y < 0 <;> simp [h1] <;> omega
   rw [e2]
   simp (disch := omega) [gw]
   refine W.lx [4] ?_; simp
   refine W.ret ?_
   simp [go]
theorem aug {x : Int} (h : Z x) : Z (-x) := by simpa [Z, n5] using h
theorem JF (x y : Int) (zx : Z x) (zy : Z y) : aJ env.P 169 [RI x, RI y] (RI (x - y)) := by
 have hn := pV y
 have zn := aug zy
 obtain ⟨m, hm⟩ : ∃ m, m = -y := ⟨_, rfl⟩
 rw [← hm] at hn zn
 have e : x - y = x + m := by omega
 rw [e]
 refine aB (E := env) (fun _ => 0) [(0, RI x), (1, RI y)] Tryz.func169 rfl (by kernel_rfl) (by kernel_rfl) (show 2 ≤ 9 by decide) (by simp) ?_
 refine W.sr ?_; simp (disch := omega) [gw]; refine W.lx [2, 3, 4] ?_; simp
 refine W.sd ?_
 simp (disch := omega) [gw]
 refine aA hn ?_
 simp (disch := omega) [gw]
 refine aA (zZ x m zx zn) ?_
 simp (disch := omega) [gw]
 refine W.lx [4] ?_; simp
 refine W.ret ?_
 simp [go]
theorem UN (x y : Int) : (x - y).sign = dN x y := by
 rcases Int.lt_trichotomy x y with h | h | h
 ·rw [mA h, Int.sign_eq_neg_one_of_neg (by omega)]
 ·subst h; simp [xO]
 ·rw [mB h, Int.sign_eq_one_of_pos (by omega)]
theorem Z7 (x y : Int) (zx : Z x) (zy : Z y) : aJ env.P 91 [RI x, RI y] (.int .i64 (dN x y)) := by
 refine aB (E := env) (fun _ => 0) [(0, RI x), (1, RI y)] Tryz.func91 rfl (by kernel_rfl) (by kernel_rfl) (show 2 ≤ 9 by decide) (by simp) ?_
 refine W.sr ?_; simp (disch := omega) [gw]; refine W.lx [2, 3] ?_; simp
 refine W.sr ?_
 simp (disch := omega) [gw]
 refine aA (JF x y zx zy) ?_
 simp (disch := omega) [gw]
 refine aA (DF (x - y)) ?_
 rw [UN]
 simp (disch := omega) [gw]
 refine W.lx [4] ?_; simp
 refine W.ret ?_
 simp [go]
end Go.Proofs.YtbbjgncblhfegaaGreat
