import Derived.Test.YtdiladmkbpnhoaaGreatLba
import Derived.Test.YtdiladmkbpnhoaaGreatMe
import Derived.Test.YtdiladmkbpnhoaaGreatLm
set_option linter.unusedSimpArgs false
set_option linter.unusedVariables false
namespace Go.Proofs.YtdiladmkbpnhoaaGreat
open Go Pm
theorem shift_of {t : Int} (h0 : 0 < t) (h1 : t < 4294967296) : ∃ s : Nat, s ≤ 31 ∧ (32 : Int) - nb t.toNat = s ∧ 2147483648 ≤ t * 2 ^ s ∧ (t + 1) * 2 ^ s ≤ 4294967296 := by
 have h2 : nb t.toNat ≤ 32 := nb_lt.2 (by omega)
 have h3 : 1 ≤ nb t.toNat := by
  rcases Nat.eq_zero_or_pos (nb t.toNat) with h | h
  ·have := nb_lt.1 (Nat.le_of_eq h); omega
  ·exact h
 obtain ⟨k, hk⟩ : ∃ k, nb t.toNat = k + 1 := ⟨nb t.toNat - 1, by omega⟩
 have h4 : t.toNat < 2 ^ (k + 1) := nb_lt.1 (Nat.le_of_eq hk)
 have h5 : 2 ^ k ≤ t.toNat := by
  rcases Nat.lt_or_ge t.toNat (2 ^ k) with h | h
  ·have := nb_lt.2 h; omega
  ·exact h
 have e1 : (2 : Int) ^ (k + 1) * 2 ^ (31 - k) = 4294967296 := by rw [← Int.pow_add, show k + 1 + (31 - k) = 32 by omega]; rfl
 have e2 : (2 : Int) ^ k * 2 ^ (31 - k) = 2147483648 := by rw [← Int.pow_add, show k + (31 - k) = 31 by omega]; rfl
 have hp : (0 : Int) < 2 ^ (31 - k) := Int.pow_pos (by decide)
 have q1 : ((2 ^ k : Nat) : Int) = (2 : Int) ^ k := Int.natCast_pow 2 k
 have q2 : ((2 ^ (k + 1) : Nat) : Int) = (2 : Int) ^ (k + 1) := Int.natCast_pow 2 (k + 1)
 refine ⟨31 - k, by omega, by omega, ?_, ?_⟩
 ·have := Int.mul_le_mul_of_nonneg_right (show (2 : Int) ^ k ≤ t by omega) (Int.le_of_lt hp)
  omega
 ·have := Int.mul_le_mul_of_nonneg_right (show t + 1 ≤ (2 : Int) ^ (k + 1) by omega) (Int.le_of_lt hp)
  omega
theorem canon_top {y : List Int} (hc : cutR y = y) (h : y ≠ []) : nth y (y.length - 1) ≠ 0 := by
 intro h0
 have hl : 0 < y.length := List.length_pos_iff.2 h
 have e : y = y.take (y.length - 1) ++ [0] := by
  have := take_succ_nth (l := y) (i := y.length - 1) (by omega)
  rw [h0, show y.length - 1 + 1 = y.length by omega, List.take_length] at this
  exact this
 have h1 := cutR_zero (y.take (y.length - 1))
 rw [← e, hc] at h1
 have h2 := cutR_len (y.take (y.length - 1))
 rw [← h1, List.length_take] at h2
 omega
theorem N_zero : N 0 = us [] := rfl
theorem div_step {m i : Nat} {X D : List Int} {Y g : Int} (lX : Lim 4294967296 X) (lD : Lim 4294967296 D) (hYb : Y < 4294967296 ^ (m + 2)) (hY0 : 0 < Y) (hil : i + m + 3 ≤ X.length) (hDl : D.length = (X.drop i).length) (hDd : D.drop (m + 3) = (X.drop i).drop (m + 3))
  (hg : g = V 4294967296 ((X.drop i).take (m + 3)) / Y) (hDv : V 4294967296 (D.take (m + 3)) = V 4294967296 ((X.drop i).take (m + 3)) % Y) (hlt : V 4294967296 (X.drop (i + 1)) < Y) :
  V 4294967296 ((X.take i ++ D).drop i) < Y ∧ V 4294967296 (X.take i ++ D) = V 4294967296 X - 4294967296 ^ i * (g * Y) := by
 have hl : (X.take i).length = i := by simp; omega
 have e1 : (X.take i ++ D).drop i = D := by rw [List.drop_append, hl, List.drop_of_length_le (by omega)]; simp
 have hD3 := V_split (b := 4294967296) D (m + 3) (by rw [hDl]; simp; omega)
 have hX3 := V_split (b := 4294967296) (X.drop i) (m + 3) (by simp; omega)
 have hXi := V_split (b := 4294967296) X i (by omega)
 have hz : V 4294967296 ((X.drop i).drop (m + 3)) = 0 := by
  have h1 := V_split (b := 4294967296) (X.drop (i + 1)) (m + 2) (by simp; omega)
  have h2 : (X.drop (i + 1)).drop (m + 2) = (X.drop i).drop (m + 3) := by
   rw [List.drop_drop, List.drop_drop]; congr 1; omega
  have h3 := V_nonneg (b := 4294967296) (by decide) ((lX.drop (i + 1)).take (m + 2))
  have h4 := V_nonneg (b := 4294967296) (by decide) ((lX.drop i).drop (m + 3))
  rw [h2] at h1
  rcases Int.lt_or_le 0 (V 4294967296 ((X.drop i).drop (m + 3))) with h5 | h5
  ·exfalso
   have := Int.mul_le_mul_of_nonneg_left (show 1 ≤ V 4294967296 ((X.drop i).drop (m + 3)) by omega) (show 0 ≤ (4294967296 : Int) ^ (m + 2) by omega)
   omega
  ·omega
 rw [hDd, hz, Int.mul_zero, Int.add_zero] at hD3
 rw [hz, Int.mul_zero, Int.add_zero] at hX3
 have hm := Int.emod_lt_of_pos (V 4294967296 ((X.drop i).take (m + 3))) hY0
 have hde := Int.mul_ediv_add_emod (V 4294967296 ((X.drop i).take (m + 3))) Y
 rw [← hg, ← hDv, ← hX3, ← hD3] at hde
 refine ⟨by rw [e1, hD3, hDv]; exact hm, ?_⟩
 rw [V_append, hl, hXi, ← hde]
 grind
theorem DivMod_ret0 (a b : List Int) (ha : LOK a) (hb : LOK b) (h0 : V 4294967296 b = 0) : Ret env.P 213 [us a, us b] (.tup [us [], us [], .int .i64 2]) := by
 have hlb := hb.len
 have hla := ha.len
 have hcb := cutR_len b
 have hy : cutR b = [] := by rw [cutR_dig hLL hb.lim]; show dig LL (V 4294967296 b).toNat = []; rw [h0]; rfl
 refine ret_of_Wf (E := env) (fun _ => 0) [(0, us a), (1, us b)] Tryz.func213 rfl (by kernel_rfl) (by kernel_rfl) (show 2 ≤ 98 by decide) (by simp) ?_
 refine W.sreg (fun K hK => ?_); simp (disch := omega) [gA, wA]; refine W.lv [0, 1] hK fun J j => ?_; clear hK K; simp; refine j _ ?_; clear j J
 refine W.sreg (fun K hK => ?_)
 simp (disch := omega) [gA, wA]
 refine callR (cut_ret a (by omega)) ?_
 simp (disch := omega) [gA, wA]
 refine callR (cut_ret b (by omega)) ?_
 simp (disch := omega) [gA, wA]
 refine W.lv [0, 1] hK fun J j => ?_; clear hK K; simp; refine j _ ?_; clear j J
 rw [hy]
 refine W.seq ?_
 refine W.block ?_
 refine W.sreg (fun K hK => ?_); simp (disch := omega) [gA, wA]; refine W.lv [0, 1, 18] hK fun J j => ?_; clear hK K; simp; refine j _ ?_; clear j J
 refine W.cond ⟨_, rfl, fun h => ?_, fun h => ?_⟩
 ·refine W.sreg (fun K hK => ?_); simp (disch := omega) [gA, wA]; refine W.lv [4, 5, 6] hK fun J j => ?_; clear hK K; simp; refine j _ ?_; clear j J
  refine W.ret ?_
  simp [go]
  rfl
 ·cases h
theorem DivMod_ret (a b : List Int) (ha : LOK a) (hb : LOK b) (h0 : V 4294967296 b ≠ 0) (hla : a.length < 1099511627774) (hlb : b.length < 1099511627774) :
  Ret env.P 213 [us a, us b] (.tup [N (V 4294967296 a / V 4294967296 b), N (V 4294967296 a % V 4294967296 b), .int .i64 0]) := by
 have hca := cutR_len a
 have hcb := cutR_len b
 have hVa := V_cutR (b := 4294967296) a
 have hVb := V_cutR (b := 4294967296) b
 have lx := Lim_cutR ha.lim
 have ly := Lim_cutR hb.lim
 have cx := cutR_cutR a
 have cy := cutR_cutR b
 rw [← hVa, ← hVb]
 rw [← hVb] at h0
 refine ret_of_Wf (E := env) (fun _ => 0) [(0, us a), (1, us b)] Tryz.func213 rfl (by kernel_rfl) (by kernel_rfl) (show 2 ≤ 98 by decide) (by simp) ?_
 refine W.sreg (fun K hK => ?_); simp (disch := omega) [gA, wA]; refine W.lv [0, 1] hK fun J j => ?_; clear hK K; simp; refine j _ ?_; clear j J
 refine W.sreg (fun K hK => ?_)
 simp (disch := omega) [gA, wA]
 refine callR (cut_ret a (by omega)) ?_
 simp (disch := omega) [gA, wA]
 refine callR (cut_ret b (by omega)) ?_
 simp (disch := omega) [gA, wA]
 refine W.lv [0, 1] hK fun J j => ?_; clear hK K; simp; refine j _ ?_; clear j J
 have hxl : (cutR a).length < 1099511627774 := by omega
 have hyl : (cutR b).length < 1099511627774 := by omega
 clear hVa hVb hca hcb
 generalize cutR a = x at *
 generalize cutR b = y at *
 have hyn : y ≠ [] := fun h => h0 (by rw [h]; rfl)
 have hyp : 0 < y.length := List.length_pos_iff.2 hyn
 have hY0 : 0 < V 4294967296 y := by have := V_nonneg (b := 4294967296) (by decide) ly; omega
 have hX0 := V_nonneg (b := 4294967296) (by decide) lx
 refine W.seq ?_
 refine W.block ?_
 refine W.sreg (fun K hK => ?_); simp (disch := omega) [gA, wA]; refine W.lv [0, 1, 18] hK fun J j => ?_; clear hK K; simp; refine j _ ?_; clear j J
 refine W.cond ⟨_, rfl, fun h => ?_, fun h => ?_⟩
 ·exfalso; simp at h; exact hyn h
 clear h
 refine W.sreg (fun K hK => ?_); simp (disch := omega) [gA, wA]; refine W.lv [0, 1, 22] hK fun J j => ?_; clear hK K; simp; refine j _ ?_; clear j J
 refine W.cond ⟨_, rfl, fun h => ?_, fun h => ?_⟩
 ·have h : x.length < y.length := by simp at h; omega
  have hxy := V_lt_of_len (b := 4294967296) (by decide) lx ly cy h
  rw [Int.ediv_eq_zero_of_lt hX0 hxy, Int.emod_eq_of_lt hX0 hxy]
  refine W.sreg (fun K hK => ?_)
  simp (disch := omega) [gA, wA]
  refine callR (Norm_ret x (by omega) lx) ?_
  simp (disch := omega) [gA, wA]
  refine W.lv [4, 5, 6] hK fun J j => ?_; clear hK K; simp; refine j _ ?_; clear j J
  refine W.ret ?_
  simp [go]
  rfl
 have hxy : y.length ≤ x.length := by simp at h; omega
 clear h
 refine W.sreg (fun K hK => ?_); simp (disch := omega) [gA, wA]; refine W.lv [0, 1, 30] hK fun J j => ?_; clear hK K; simp; refine j _ ?_; clear j J
 refine W.cond ⟨_, rfl, fun h => ?_, fun h => ?_⟩
 ·have h : y.length = 1 := by simp at h; omega
  obtain ⟨w, rfl⟩ : ∃ w, y = [w] := match y, h with | [w], _ => ⟨w, rfl⟩
  have hw := (Lim.cons.1 ly).1
  have hV1 : V 4294967296 [w] = w := V_one
  rw [hV1] at h0 hY0 ⊢
  have hm0 := Int.emod_nonneg (V 4294967296 x) h0
  have hm1 := Int.emod_lt_of_pos (V 4294967296 x) hY0
  have hone := one_ret x w (by omega) lx hY0 hw.2
  have lr : Lim 4294967296 [V 4294967296 x % w] := Lim.cons.2 ⟨⟨hm0, by omega⟩, Lim.nil⟩
  have hcut := cut_ret [V 4294967296 x % w] (by simp)
  rw [N_cut lr, V_one] at hcut
  have hnw : nth [w] 0 = w := rfl
  generalize V 4294967296 x / w = qq at *
  generalize V 4294967296 x % w = rr at *
  refine W.sreg (fun K hK => ?_)
  simp (disch := omega) [gA, wA, hnw]
  refine callR hone ?_
  simp (disch := omega) [gA, wA]
  refine W.lv [7, 8] hK fun J j => ?_; clear hK K; simp; refine j _ ?_; clear j J
  refine W.sreg (fun K hK => ?_)
  simp (disch := omega) [gA, wA]
  refine callR hcut ?_
  simp (disch := omega) [gA, wA]
  refine W.lv [4, 5, 6] hK fun J j => ?_; clear hK K; simp; refine j _ ?_; clear j J
  refine W.ret ?_
  simp [go]
 have hy2 : 2 ≤ y.length := by simp at h; omega
 clear h
 obtain ⟨m, hm⟩ : ∃ m, y.length = m + 2 := ⟨y.length - 2, by omega⟩
 have htn := canon_top cy hyn
 rw [show y.length - 1 = m + 1 by omega] at htn
 have htl := ly.nth (i := m + 1) (by omega)
 obtain ⟨s, hs31, hsn, hs1, hs2⟩ := shift_of (t := nth y (m + 1)) (by omega) htl.2
 have hLZ := LZ_ret (nth y (m + 1)) htl.1 htl.2
 rw [hsn] at hLZ
 have hp : (0 : Int) < 2 ^ s := Int.pow_pos (by decide)
 have hs31' : (2 : Int) ^ s ≤ 2147483648 := by
  have := Int.ofNat_le.2 (Nat.pow_le_pow_right (show 0 < 2 by decide) hs31)
  simpa using this
 have hbm : (0 : Int) < 4294967296 ^ (m + 1) := Int.pow_pos (by decide)
 have hxlt := V_lt (b := 4294967296) (by decide) lx
 have hVy := V_split (b := 4294967296) y (m + 1) (by omega)
 have hy1 : V 4294967296 (y.drop (m + 1)) = nth y (m + 1) := by rw [drop_nth (by omega), List.drop_of_length_le (by omega), V_one]
 rw [hy1] at hVy
 have hy2' := V_nonneg (b := 4294967296) (by decide) (ly.take (m + 1))
 have hy3 := V_lt (b := 4294967296) (by decide) (ly.take (m + 1))
 rw [List.length_take, Nat.min_eq_left (by omega)] at hy3
 have hyU : V 4294967296 y * 2 ^ s < 4294967296 ^ (m + 2) := by
  have h1 : V 4294967296 y < (nth y (m + 1) + 1) * 4294967296 ^ (m + 1) := by rw [hVy]; grind
  have h2 := Int.mul_lt_mul_of_pos_right h1 hp
  have h3 := Int.mul_le_mul_of_nonneg_right hs2 (Int.le_of_lt hbm)
  have e : (nth y (m + 1) + 1) * 4294967296 ^ (m + 1) * 2 ^ s = (nth y (m + 1) + 1) * 2 ^ s * 4294967296 ^ (m + 1) := by grind
  rw [show m + 2 = (m + 1) + 1 from rfl, Int.pow_succ]
  omega
 have hyL : 2147483648 * 4294967296 ^ (m + 1) ≤ V 4294967296 y * 2 ^ s := by
  have h1 : nth y (m + 1) * 4294967296 ^ (m + 1) ≤ V 4294967296 y := by rw [hVy, Int.mul_comm]; omega
  have h2 := Int.mul_le_mul_of_nonneg_right h1 (Int.le_of_lt hp)
  have h3 := Int.mul_le_mul_of_nonneg_right hs1 (Int.le_of_lt hbm)
  have e : nth y (m + 1) * 4294967296 ^ (m + 1) * 2 ^ s = nth y (m + 1) * 2 ^ s * 4294967296 ^ (m + 1) := by grind
  omega
 have hxU : V 4294967296 x * 2 ^ s < 4294967296 ^ (x.length + 1) := by
  rw [Int.pow_succ]
  exact Int.lt_of_lt_of_le (Int.mul_lt_mul_of_pos_right hxlt hp) (Int.mul_le_mul_of_nonneg_left (by omega) (Int.le_of_lt (Int.pow_pos (by decide))))
 obtain ⟨x', hwx, hx'l, lx', hx'V⟩ := wide_own x s (x.length + 1) hs31 (by omega) lx (by omega) (by omega) hxU
 obtain ⟨y', hwy, hy'l, ly', hy'V⟩ := wide_own y s (m + 2) hs31 (by omega) ly (by omega) (by omega) hyU
 have hy't : 2147483648 ≤ nth y' (m + 1) := by
  have h1 := V_split (b := 4294967296) y' (m + 1) (by omega)
  have h2 : V 4294967296 (y'.drop (m + 1)) = nth y' (m + 1) := by rw [drop_nth (by omega), List.drop_of_length_le (by omega), V_one]
  have h3 := V_lt (b := 4294967296) (by decide) (ly'.take (m + 1))
  rw [List.length_take, Nat.min_eq_left (by omega)] at h3
  rw [h2, hy'V] at h1
  rcases Int.lt_or_le (nth y' (m + 1)) 2147483648 with h4 | h4
  ·exfalso
   have := Int.mul_le_mul_of_nonneg_left (show nth y' (m + 1) + 1 ≤ 2147483648 by omega) (Int.le_of_lt hbm)
   rw [Int.mul_add, Int.mul_comm _ 2147483648] at this
   omega
  ·exact h4
 have hY'0 : 0 < V 4294967296 y' := by rw [hy'V]; exact Int.mul_pos hY0 hp
 have hY'b : V 4294967296 y' < 4294967296 ^ (m + 2) := by rw [hy'V]; exact hyU
 have hxm : m + 2 ≤ x.length := by omega
 have hqx : V 4294967296 x / V 4294967296 y = V 4294967296 x' / V 4294967296 y' := by rw [hx'V, hy'V, Int.mul_ediv_mul_of_pos_left _ _ hp]
 have hrx : V 4294967296 x % V 4294967296 y = V 4294967296 x' % V 4294967296 y' / 2 ^ s := by
  rw [hx'V, hy'V]
  have e1 := Int.emod_def (V 4294967296 x * 2 ^ s) (V 4294967296 y * 2 ^ s)
  rw [Int.mul_ediv_mul_of_pos_left _ _ hp] at e1
  have e2 := Int.emod_def (V 4294967296 x) (V 4294967296 y)
  rw [e1, e2]
  have e3 : V 4294967296 x * 2 ^ s - V 4294967296 y * 2 ^ s * (V 4294967296 x / V 4294967296 y) = (V 4294967296 x - V 4294967296 y * (V 4294967296 x / V 4294967296 y)) * 2 ^ s := by grind
  rw [e3, Int.mul_ediv_cancel _ (by omega)]
 have hX'U : V 4294967296 (x'.drop (x.length - m - 1)) < V 4294967296 y' := by
  have h1 := V_split (b := 4294967296) x' (x.length - m - 1) (by omega)
  have h2 := V_nonneg (b := 4294967296) (by decide) (lx'.take (x.length - m - 1))
  rw [hx'V] at h1
  have h3 : V 4294967296 x * 2 ^ s < 4294967296 ^ (x.length - m - 1) * (4294967296 ^ (m + 1) * 2 ^ s) := by
   rw [← Int.mul_assoc, ← Int.pow_add, show x.length - m - 1 + (m + 1) = x.length by omega]
   exact Int.mul_lt_mul_of_pos_right hxlt hp
  have h4 : V 4294967296 (x'.drop (x.length - m - 1)) < 4294967296 ^ (m + 1) * 2 ^ s := Int.lt_of_mul_lt_mul_left (a := 4294967296 ^ (x.length - m - 1)) (by omega) (Int.le_of_lt (Int.pow_pos (by decide)))
  have h5 := Int.mul_le_mul_of_nonneg_left hs31' (Int.le_of_lt hbm)
  rw [hy'V]
  rw [Int.mul_comm _ 2147483648] at h5
  omega
 rw [hqx, hrx]
 refine W.skip ?_
 have a1 : ((m : Int) + 2 - 1) = ((m + 1 : Nat) : Int) := by omega
 refine W.sreg (fun K hK => ?_)
 simp (disch := omega) [gA, wA, hm, a1]
 refine callR hLZ ?_
 simp (disch := omega) [gA, wA]
 refine W.lv [0, 1, 9] hK fun J j => ?_; clear hK K; simp; refine j _ ?_; clear j J
 replace hwx : RetO env.P 222 [us x, .int .i64 s, .int .i64 ((x.length : Int) + 1)] 169 1 (emap u32 x') := hwx
 replace hwy : RetO env.P 222 [us y, .int .i64 s, .int .i64 ((m : Int) + 2)] 169 1 (emap u32 y') := hwy
 refine W.sreg (fun K hK => ?_)
 simp (disch := omega) [gA, wA, hm]
 refine callO hwx 58 (by simp) (by simp) (by simp) ?_
 simp (disch := omega) [gA, wA, hm]
 refine callO hwy 63 (by simp) (by simp) (by simp) ?_
 simp (disch := omega) [gA, wA]
 refine W.lv [0, 9, 10, 11] hK fun J j => ?_; clear hK K; simp; refine j _ ?_; clear j J
 refine W.freeze 63 (by simp) (fun K hK => ?_)
 simp
 refine hK _ ?_; clear hK K
 refine W.sreg (fun K hK => ?_); simp (disch := omega) [gA, wA, hy'l]; refine W.lv [0, 9, 10, 11, 12] hK fun J j => ?_; clear hK K; simp; refine j _ ?_; clear j J
 obtain ⟨ql, hql⟩ : ∃ ql, x.length = ql + m + 1 := ⟨x.length - m - 1, by omega⟩
 rw [show x.length - m - 1 = ql by omega] at hX'U
 have hx'l2 : x'.length = ql + m + 2 := by omega
 have aq : (x.length : Int) - ((m : Int) + 2) + 1 = (ql : Int) := by omega
 refine W.sreg (fun K hK => ?_)
 simp (disch := omega) [gA, wA, aq]
 refine W.lv [4, 9, 10, 11, 12] hK fun J j => ?_; clear hK K; simp; refine j _ ?_; clear j J
 clear hwx hwy hVy hy1 hy2' hy3 hyU hyL hxU hqx hrx htn htl hs1 hs2 hsn hLZ hxlt hY0 hX0
 refine W.seq ?_
 refine W.sreg (fun K hK => ?_); simp (disch := omega) [gA, wA]; refine W.lv [4, 9, 10, 11, 12, 13] hK fun J j => ?_; clear hK K; simp; refine j _ ?_; clear j J
 refine W.block ?_
 refine W.loopG (fun q σ => ∃ (v4 : Nat) (X Q : List Int) (rows : Pm.Rows) (clk : Nat), σ = ⟨fa [(4, .own 71 v4 0 ql), (9, .int .i64 s), (10, .own 58 0 0 (ql + m + 2)), (11, us y'), (12, .int .i64 ((m : Int) + 2)), (13, .int .i64 ((q : Int) - 1))], rows, clk⟩ ∧
  rows 58 = some ⟨0, 169, 1, emap u32 X⟩ ∧ rows 71 = some ⟨v4, 169, 1, emap u32 Q⟩ ∧ q ≤ ql ∧ X.length = ql + m + 2 ∧ Q.length = ql ∧ Lim 4294967296 X ∧ Lim 4294967296 Q ∧
  V 4294967296 X + 4294967296 ^ q * V 4294967296 (Q.drop q) * V 4294967296 y' = V 4294967296 x' ∧ V 4294967296 (X.drop q) < V 4294967296 y') ql ?_ ?_
 ·exact ⟨_, Gh.fr [(4, .own 71 _ 0 ql), (9, .int .i64 s), (10, .own 58 0 0 (ql + m + 2)), (11, us y'), (12, .int .i64 ((m : Int) + 2)), (13, .int .i64 ((ql : Int) - 1))] (by simp [hx'l2]; exact rfl), _, x', List.replicate ql 0, _, _, rfl, by simp, by simp, by omega, hx'l2, by simp, lx', Lim.rep (by decide) _, by simp [V], hX'U⟩
 rintro q _ ⟨v4, X, Q, rows, clk, rfl, hr58, hr71, hq, hXl, hQl, lX, lQ, hVX, hXU⟩
 refine W.seq ?_
 refine W.sreg (fun K hK => ?_); simp (disch := omega) [gA, wA]; refine W.lv [4, 9, 10, 11, 12, 13, 76] hK fun J j => ?_; clear hK K; simp; refine j _ ?_; clear j J
 refine W.cond ⟨_, rfl, fun h => ?_, fun h => ?_⟩
 ·have hq0 : 0 < q := by simp at h; omega
  obtain ⟨i, rfl⟩ : ∃ i, q = i + 1 := ⟨q - 1, by omega⟩
  clear h
  have ei : ((i + 1 : Nat) : Int) - 1 = i := by omega
  rw [ei]
  have hdlt : V 4294967296 ((X.drop i).take (m + 3)) < 4294967296 * V 4294967296 y' := by
   have h1 := V_split (b := 4294967296) (X.drop i) (m + 3) (by simp; omega)
   have h2 := V_nonneg (b := 4294967296) (by decide) ((lX.drop i).drop (m + 3))
   have h3 := Int.mul_nonneg (show (0 : Int) ≤ 4294967296 ^ (m + 3) from Int.le_of_lt (Int.pow_pos (by decide))) h2
   have h4 : V 4294967296 (X.drop i) = nth X i + 4294967296 * V 4294967296 (X.drop (i + 1)) := by rw [drop_nth (by omega)]; rfl
   have h5 := lX.nth (i := i) (by omega)
   omega
  have hdig := fun (rows : Pm.Rows) clk hr => digit_retG (id := 58) (ver := 0) (off := i) (m := m) X y' rows clk hr hy'l (by omega) ly' hy't lX (by omega) (by omega) hdlt
  have e6 : (i : Int) + ((m : Int) + 2) + 1 = ((i + m + 3 : Nat) : Int) := by omega
  have e7 : ((i : Int) + (m : Int) + 3).toNat - i = m + 3 := by omega
  refine W.skip ?_
  refine W.seq ?_
  refine W.block ?_
  refine W.reg (fun K hK => ?_)
  simp (disch := omega) [gA, wA, hr58, hXl, e6, e7]
  refine callM (hdig _ _ hr58) ?_
  rintro r rows' clk' ⟨D, rfl, rfl, rfl, hDl, lD, hDd, hDv⟩
  have hst := div_step (g := V 4294967296 ((X.drop i).take (m + 3)) / V 4294967296 y') lX lD hY'b hY'0 (by omega) hDl hDd rfl hDv hXU
  have hg0 : 0 ≤ V 4294967296 ((X.drop i).take (m + 3)) / V 4294967296 y' := Int.ediv_nonneg (V_nonneg (by decide) ((lX.drop i).take _)) (Int.le_of_lt hY'0)
  have hg1 : V 4294967296 ((X.drop i).take (m + 3)) / V 4294967296 y' < 4294967296 := Int.ediv_lt_of_lt_mul hY'0 hdlt
  generalize V 4294967296 ((X.drop i).take (m + 3)) / V 4294967296 y' = g at *
  have hXl2 : (X.take i ++ D).length = ql + m + 2 := by simp [hDl]; omega
  have lX2 : Lim 4294967296 (X.take i ++ D) := Lim.append.2 ⟨lX.take i, lD⟩
  obtain ⟨hst1, hst2⟩ := hst
  generalize X.take i ++ D = X2 at *
  simp (disch := omega) [gA, wA, hr71, hQl]
  refine W.lv [4, 9, 10, 11, 12, 13] hK fun J j => ?_; clear hK K; simp; refine j _ ?_; clear j J
  refine W.reg (fun K hK => ?_); simp (disch := omega) [gA, wA]
  refine hK _ ⟨i, _, Gh_fa _ [4, 9, 10, 11, 12, 13], by omega, v4, X2, Q.set i g, _, _, rfl, by simp, by simp, by omega, hXl2, by simp [hQl], lX2, lQ.set ⟨hg0, hg1⟩, ?_, hst1⟩
  rw [hst2, drop_nth (l := Q.set i g) (i := i) (by simp; omega), nth_set_self (by omega), List.drop_set_of_lt (by omega), ← hVX]
  simp only [V, Int.pow_succ]
  generalize V 4294967296 (Q.drop (i + 1)) = vq at *
  grind
 ·have hq0 : q = 0 := by simp at h; omega
  subst hq0
  simp only [List.drop_zero, Int.pow_zero, Int.one_mul] at hVX hXU
  have hX0 := V_nonneg (b := 4294967296) (by decide) lX
  have hQe : V 4294967296 x' / V 4294967296 y' = V 4294967296 Q := by
   have e : (V 4294967296 Q + 1) * V 4294967296 y' = V 4294967296 Q * V 4294967296 y' + V 4294967296 y' := by grind
   rw [Int.ediv_eq_iff_of_pos hY'0]
   constructor <;> omega
  have hRe : V 4294967296 x' % V 4294967296 y' = V 4294967296 X := by
   have h3 := Int.emod_def (V 4294967296 x') (V 4294967296 y')
   rw [hQe, Int.mul_comm] at h3
   omega
  have hXt : V 4294967296 (X.take (m + 2)) = V 4294967296 X := by
   have h1 := V_split (b := 4294967296) X (m + 2) (by omega)
   have h2 := V_nonneg (b := 4294967296) (by decide) (lX.drop (m + 2))
   have h3 := V_nonneg (b := 4294967296) (by decide) (lX.take (m + 2))
   have h4 : (0 : Int) < 4294967296 ^ (m + 2) := Int.pow_pos (by decide)
   rcases Int.lt_or_le 0 (V 4294967296 (X.drop (m + 2))) with h5 | h5
   ·exfalso
    have := Int.mul_le_mul_of_nonneg_left (show 1 ≤ V 4294967296 (X.drop (m + 2)) by omega) (Int.le_of_lt h4)
    omega
   ·have : V 4294967296 (X.drop (m + 2)) = 0 := by omega
    rw [this] at h1; omega
  rw [hQe, hRe, ← hXt]
  have zQ := take_all hQl
  have zX := take_all hXl
  have hcut := cut_ret Q (by omega)
  rw [N_cut lQ] at hcut
  have hshr := Shr_ret (X.take (m + 2)) s hs31 (by simp; omega) (lX.take _)
  refine W.exit ?_; simp only [pX, if_true, if_false, reduceIte, Nat.reduceEqDiff]
  refine W.freeze 71 (by simp [hr71]) (fun K hK => ?_)
  simp [hr71, zQ]
  refine hK _ ?_; clear hK K
  refine W.freeze 58 (by simp [hr58]) (fun K hK => ?_)
  simp [hr58, zX]
  refine hK _ ?_; clear hK K
  have e8 : ((m : Int) + 2).toNat = m + 2 := by omega
  refine W.sdrw (fun K hK => ?_)
  simp (disch := omega) [gA, wA]
  refine callR hcut ?_
  simp (disch := omega) [gA, wA, hXl, e8]
  refine callR hshr ?_
  simp (disch := omega) [gA, wA]
  refine W.lv [4, 5, 6] hK fun J j => ?_; clear hK K; simp; refine j _ ?_; clear j J
  refine W.ret ?_
  simp [go]
end Go.Proofs.YtdiladmkbpnhoaaGreat
namespace Go.Proofs.YtdiladmkbpnhoaaGreat
open Go Pm
theorem div_pos_sign {A B : Int} (hB : 0 < B) (hA : 0 ≤ A) : (A % B = 0 → (-A) / B = -(A / B) ∧ (-A) % B = 0) ∧ (0 < A % B → (-A) / B = -(A / B + 1) ∧ (-A) % B = B - A % B) := by
 have h1 := Int.mul_ediv_add_emod A B
 have h2 := Int.emod_lt_of_pos A hB
 constructor
 ·intro h
  refine (Int.ediv_emod_unique hB).2 ⟨?_, by omega, by omega⟩
  rw [Int.mul_neg]; omega
 ·intro h
  refine (Int.ediv_emod_unique hB).2 ⟨?_, by omega, by omega⟩
  rw [Int.mul_neg, Int.mul_add]; omega
theorem div_sign (n m : Bool) {A B : Int} (hB : 0 < B) (hA : 0 ≤ A) :
  (¬ (n = true ∧ 0 < A % B) → (if n = true then -A else A) / (if m = true then -B else B) = (if (n != m) = true then -(A / B) else A / B) ∧ (if n = true then -A else A) % (if m = true then -B else B) = A % B) ∧
  (n = true → 0 < A % B → (if n = true then -A else A) / (if m = true then -B else B) = (if (n != m) = true then -(A / B + 1) else A / B + 1) ∧ (if n = true then -A else A) % (if m = true then -B else B) = B - A % B) := by
 obtain ⟨p1, p2⟩ := div_pos_sign hB hA
 have h0 := Int.emod_nonneg A (show B ≠ 0 by omega)
 cases n <;> cases m <;> simp [Int.ediv_neg, Int.emod_neg]
 ·exact ⟨fun h => by have := p1 (by omega); exact ⟨this.1, by omega⟩, p2⟩
 ·exact ⟨fun h => by have := p1 (by omega); exact ⟨by omega, by omega⟩, fun h => by have := p2 h; exact ⟨by omega, this.2⟩⟩
theorem wAbs_ret (n : Bool) (l : List Int) (h : LOK l) : Ret env.P 129 [IV n l] (I (V 4294967296 l)) := by
 refine ret_of_Wf (E := env) (fun _ => 0) [(0, IV n l)] Tryz.func129 rfl (by kernel_rfl) (by kernel_rfl) (show 1 ≤ 7 by decide) (by simp) ?_
 refine W.sreg (fun K hK => ?_); simp (disch := omega) [gA, wA]; refine W.lv [1, 2] hK fun J j => ?_; clear hK K; simp; refine j _ ?_; clear j J
 refine W.sreg (fun K hK => ?_)
 simp (disch := omega) [gA, wA]
 refine callR (Norm_ret l h.len h.lim) ?_
 simp (disch := omega) [gA, wA]
 refine callR (made_ret _ (V_pos h) false) ?_
 simp (disch := omega) [gA, wA]
 refine W.lv [2] hK fun J j => ?_; clear hK K; simp; refine j _ ?_; clear j J
 refine W.ret ?_
 simp [go]
theorem Sign_ret (n : Bool) (l : List Int) : Ret env.P 216 [IV n l] (.int .i64 (if l.length = 0 then 0 else if n = true then -1 else 1)) := by
 refine ret_of_Wf (E := env) (fun _ => 0) [(0, IV n l)] Tryz.func216 rfl (by kernel_rfl) (by kernel_rfl) (show 1 ≤ 11 by decide) (by simp) ?_
 refine W.sreg (fun K hK => ?_); simp (disch := omega) [gA, wA]; refine W.lv [1] hK fun J j => ?_; clear hK K; simp; refine j _ ?_; clear j J
 refine W.seq ?_
 refine W.block ?_
 refine W.sreg (fun K hK => ?_); simp (disch := omega) [gA, wA]; refine W.lv [1, 3] hK fun J j => ?_; clear hK K; simp; refine j _ ?_; clear j J
 refine W.cond ⟨_, rfl, fun h => ?_, fun h => ?_⟩
 ·have h : l = [] := by simp at h; exact h
  subst h
  refine W.sreg (fun K hK => ?_); simp (disch := omega) [gA, wA]; refine W.lv [2] hK fun J j => ?_; clear hK K; simp; refine j _ ?_; clear j J
  refine W.ret ?_
  simp [go]
 ·have h : l.length ≠ 0 := by simp at h; simpa using h
  rw [if_neg h]
  refine W.sreg (fun K hK => ?_); simp (disch := omega) [gA, wA]; refine W.lv [8] hK fun J j => ?_; clear hK K; simp; refine j _ ?_; clear j J
  refine W.cond ⟨_, rfl, fun h => ?_, fun h => ?_⟩
  ·subst h
   refine W.sreg (fun K hK => ?_); simp (disch := omega) [gA, wA]; refine W.lv [2] hK fun J j => ?_; clear hK K; simp; refine j _ ?_; clear j J
   refine W.ret ?_
   simp [go]
  ·subst h
   refine W.skip ?_
   refine W.sreg (fun K hK => ?_); simp (disch := omega) [gA, wA]; refine W.lv [2] hK fun J j => ?_; clear hK K; simp; refine j _ ?_; clear j J
   refine W.ret ?_
   simp [go]
theorem Deg_ret (p : RP) (hp : p.length < 9223372036854775808) : Ret env.P 140 [Pg p] (.int .i64 ((p.length : Int) - 1)) := by
 refine ret_of_Wf (E := env) (fun _ => 0) [(0, Pg p)] Tryz.func140 rfl (by kernel_rfl) (by kernel_rfl) (show 1 ≤ 6 by decide) (by simp) ?_
 refine W.sreg (fun K hK => ?_); simp (disch := omega) [gA, wA]; refine W.lv [0] hK fun J j => ?_; clear hK K; simp; refine j _ ?_; clear j J
 refine W.sreg (fun K hK => ?_); simp (disch := omega) [gA, wA]; refine W.lv [2] hK fun J j => ?_; clear hK K; simp; refine j _ ?_; clear j J
 refine W.ret ?_
 simp [go]
theorem Lead_ret (p : RP) (h : POK p) : Ret env.P 131 [Pg p] (I (lead (cfs p))) := by
 have hl := h.len
 have hcl := cutR_len (p.map gv)
 rw [List.length_map] at hcl
 refine ret_of_Wf (E := env) (fun _ => 0) [(0, Pg p)] Tryz.func131 rfl (by kernel_rfl) (by kernel_rfl) (show 1 ≤ 15 by decide) (by simp) ?_
 refine W.sreg (fun K hK => ?_); simp (disch := omega) [gA, wA]; refine W.lv [0, 2] hK fun J j => ?_; clear hK K; simp; refine j _ ?_; clear j J
 refine W.seq ?_
 refine W.sreg (fun K hK => ?_)
 simp (disch := omega) [gA, wA]
 refine callR (pNorm_ret p h) ?_
 simp (disch := omega) [gA, wA]
 refine W.lv [0, 2] hK fun J j => ?_; clear hK K; simp; refine j _ ?_; clear j J
 rw [show cutR (p.map gv) = cfs p from rfl] at hcl ⊢
 generalize cfs p = x at *
 refine W.sreg (fun K hK => ?_); simp (disch := omega) [gA, wA]; refine W.lv [0, 2, 7] hK fun J j => ?_; clear hK K; simp; refine j _ ?_; clear j J
 refine W.cond ⟨_, rfl, fun h => ?_, fun h => ?_⟩
 ·have h : x = [] := by simp at h; exact h
  subst h
  refine W.sreg (fun K hK => ?_); simp (disch := omega) [gA, wA]; refine W.lv [2] hK fun J j => ?_; clear hK K; simp; refine j _ ?_; clear j J
  refine W.ret ?_
  simp [go]
  exact ⟨Int.le_refl 0, rfl⟩
 ·have h : x ≠ [] := by simp at h; exact h
  have hx0 : 0 < x.length := List.length_pos_iff.2 h
  refine W.skip ?_
  have e1 : ((x.length : Int) - 1).toNat = x.length - 1 := by omega
  refine W.sreg (fun K hK => ?_); simp (disch := omega) [gA, wA, e1]; refine W.lv [2] hK fun J j => ?_; clear hK K; simp; refine j _ ?_; clear j J
  refine W.ret ?_
  simp [go, lead]
theorem sz_of_lt {x : Int} {k : Nat} (h0 : 0 ≤ x) (h : x < 4294967296 ^ k) : sz LL x ≤ k := sz_le hLL (by
 have e : ((4294967296 ^ k : Nat) : Int) = (4294967296 : Int) ^ k := Int.natCast_pow 4294967296 k
 show x.natAbs < 4294967296 ^ k
 omega)
theorem dig_lok {x : Int} {k : Nat} (h0 : 0 ≤ x) (h : sz LL x ≤ k) (hk : k < 1099511627776) : LOK (dig LL x.toNat) := ⟨Lim_dig hLL _, by
 have e : x.natAbs = x.toNat := by omega
 unfold sz at h
 rw [e] at h
 omega⟩
theorem V_digI {x : Int} (h0 : 0 ≤ x) : V 4294967296 (dig LL x.toNat) = x := by
 have := V_dig hLL x.toNat
 rw [show ((LL : Nat) : Int) = 4294967296 from rfl] at this
 rw [this]; omega
theorem dig_pos {x : Int} (h0 : 0 ≤ x) : (0 < (dig LL x.toNat).length) ↔ 0 < x := by
 rw [List.length_pos_iff, Ne, dig_eq_nil hLL]; omega
theorem wDivMod_ret (n m : Bool) (l k : List Int) (hlo : LOK l) (h' : LOK k) (hl : l.length < 1099511627774) (hk : k.length < 1099511627774) :
  Ret env.P 214 [IV n l, IV m k] (if V 4294967296 k = 0 then .tup [I 0, I 0, .int .i64 2] else .tup [I (iv n l / iv m k), I (iv n l % iv m k), .int .i64 0]) := by
 have p1 := V_pos hlo
 have p2 := V_pos h'
 refine ret_of_Wf (E := env) (fun _ => 0) [(0, IV n l), (1, IV m k)] Tryz.func214 rfl (by kernel_rfl) (by kernel_rfl) (show 2 ≤ 60 by decide) (by simp) ?_
 refine W.sreg (fun K hK => ?_); simp (disch := omega) [gA, wA]; refine W.lv [2, 3, 4, 5] hK fun J j => ?_; clear hK K; simp; refine j _ ?_; clear j J
 by_cases h0 : V 4294967296 k = 0
 ·rw [if_pos h0]
  refine W.sreg (fun K hK => ?_)
  simp (disch := omega) [gA, wA]
  refine callR (DivMod_ret0 l k hlo h' h0) ?_
  simp (disch := omega) [gA, wA]
  refine W.lv [2, 3, 4, 5, 6, 7, 8] hK fun J j => ?_; clear hK K; simp; refine j _ ?_; clear j J
  refine W.seq ?_
  refine W.sreg (fun K hK => ?_); simp (disch := omega) [gA, wA]; refine W.lv [2, 3, 4, 5, 6, 7, 8, 19] hK fun J j => ?_; clear hK K; simp; refine j _ ?_; clear j J
  refine W.cond ⟨_, rfl, fun h => ?_, fun h => ?_⟩
  ·refine W.sreg (fun K hK => ?_); simp (disch := omega) [gA, wA]; refine W.lv [4, 5, 6] hK fun J j => ?_; clear hK K; simp; refine j _ ?_; clear j J
   refine W.ret ?_
   simp [go]
   rfl
  ·cases h
 ·rw [if_neg h0]
  have hB : 0 < V 4294967296 k := by omega
  have hdm := DivMod_ret l k hlo h' h0 hl hk
  obtain ⟨d1, d2⟩ := div_sign n m hB p1
  rw [show (if n = true then -V 4294967296 l else V 4294967296 l) = iv n l from rfl, show (if m = true then -V 4294967296 k else V 4294967296 k) = iv m k from rfl] at d1 d2
  have q0 := Int.ediv_nonneg p1 p2
  have r0 := Int.emod_nonneg (V 4294967296 l) h0
  have r1 := Int.emod_lt_of_pos (V 4294967296 l) hB
  have hsz : sz LL (V 4294967296 l / V 4294967296 k) ≤ l.length := sz_of_lt q0 (Int.lt_of_le_of_lt (Int.ediv_le_self _ p1) (V_lt (by decide) hlo.lim))
  have hszr : sz LL (V 4294967296 l % V 4294967296 k) ≤ k.length := sz_of_lt r0 (Int.lt_trans r1 (V_lt (by decide) h'.lim))
  refine W.sreg (fun K hK => ?_)
  simp (disch := omega) [gA, wA]
  refine callR hdm ?_
  simp (disch := omega) [gA, wA]
  refine W.lv [2, 3, 4, 5, 6, 7, 8] hK fun J j => ?_; clear hK K; simp; refine j _ ?_; clear j J
  generalize V 4294967296 l / V 4294967296 k = Q at *
  generalize V 4294967296 l % V 4294967296 k = R at *
  refine W.seq ?_
  refine W.sreg (fun K hK => ?_); simp (disch := omega) [gA, wA]; refine W.lv [2, 3, 4, 5, 6, 7, 8, 19] hK fun J j => ?_; clear hK K; simp; refine j _ ?_; clear j J
  refine W.cond ⟨_, rfl, fun h => ?_, fun h => ?_⟩
  ·cases h
  refine W.skip ?_
  refine W.sreg (fun K hK => ?_)
  simp (disch := omega) [gA, wA]
  refine callR (made_ret Q q0 (n != m)) ?_
  simp (disch := omega) [gA, wA]
  refine callR (made_ret R r0 false) ?_
  simp (disch := omega) [gA, wA]
  refine W.lv [2, 3, 4, 5, 7, 8] hK fun J j => ?_; clear hK K; simp; refine j _ ?_; clear j J
  refine W.seqJ (fun σ => ∃ (rows : Pm.Rows) (clk : Nat), σ = ⟨fa [(4, .ptr 4 2 0 0), (5, .ptr 5 3 0 0)], rows, clk⟩ ∧ rows 4 = some ⟨2, 27, 2, [ie (iv n l / iv m k)]⟩ ∧ rows 5 = some ⟨3, 27, 2, [ie (iv n l % iv m k)]⟩) ?_ ?_
  ·
   by_cases hadj : n = true ∧ 0 < R
   ·obtain ⟨rfl, hR⟩ := hadj
    obtain ⟨e1, e2⟩ := d2 rfl hR
    rw [e1, e2]
    have hdp := (dig_pos r0).2 hR
    have hQl := dig_lok q0 hsz hlo.len
    have hRl := dig_lok r0 hszr h'.len
    have hadd := Add_ret (dig LL Q.toNat) [1] hQl.len (by simp) hQl.lim (Lim.cons.2 ⟨by decide, Lim.nil⟩)
    rw [V_digI q0, V_one] at hadd
    have hsub := Sub_ret k (dig LL R.toNat) h'.len hRl.len h'.lim hRl.lim
    rw [V_digI r0, subR, if_neg (by omega)] at hsub
    refine W.sregJ (fun σ => ∃ (rows : Pm.Rows) (clk : Nat), σ = ⟨fa [(2, .ptr 2 0 0 0), (3, .ptr 3 1 0 0), (4, .ptr 4 2 0 0), (5, .ptr 5 3 0 0), (7, N Q), (8, N R), (38, .bool true)], rows, clk⟩ ∧ rows 2 = some ⟨0, 27, 2, [[.bool true, us l]]⟩ ∧ rows 3 = some ⟨1, 27, 2, [[.bool m, us k]]⟩ ∧ rows 4 = some ⟨2, 27, 2, [ie (if true = m then Q else -Q)]⟩ ∧ rows 5 = some ⟨3, 27, 2, [ie R]⟩) (fun K hK => ?_) ?_
    ·simp (disch := omega) [gA, wA, hdp]
     exact hK _ _ (Gh_fa _ [2, 3, 4, 5, 7, 8, 38]) ⟨_, _, rfl, by simp, by simp, by simp, by simp⟩
    rintro _ ⟨rows, clk, rfl, hr2, hr3, hr4, hr5⟩
    refine W.cond ⟨_, rfl, fun h => ?_, fun h => ?_⟩
    ·refine W.sreg (fun K hK => ?_)
     simp (disch := omega) [gA, wA]
     refine callR hadd ?_
     simp (disch := omega) [gA, wA]
     refine W.lv [2, 3, 4, 5, 7, 8] hK fun J j => ?_; clear hK K; simp; refine j _ ?_; clear j J
     refine W.sreg (fun K hK => ?_)
     simp (disch := omega) [gA, wA, hr3]
     refine callR hsub ?_
     simp (disch := omega) [gA, wA]
     refine W.lv [2, 3, 4, 5, 7, 8] hK fun J j => ?_; clear hK K; simp; refine j _ ?_; clear j J
     refine W.reg (fun K hK => ?_)
     simp (disch := omega) [gA, wA, hr2, hr3]
     refine callR (made_ret (Q + 1) (by omega) (!m)) ?_
     simp (disch := omega) [gA, wA]
     refine callR (made_ret (V 4294967296 k - R) (by omega) false) ?_
     simp (disch := omega) [gA, wA, hr4, hr5]
     exact hK _ ⟨_, Gh_fa _ [4, 5], _, _, rfl, by cases m <;> simp, by simp⟩
    ·cases h
   ·obtain ⟨e1, e2⟩ := d1 hadj
    rw [e1, e2]
    refine W.sregJ (fun σ => ∃ (rows : Pm.Rows) (clk : Nat), σ = ⟨fa [(4, .ptr 4 2 0 0), (5, .ptr 5 3 0 0), (38, .bool false)], rows, clk⟩ ∧ rows 4 = some ⟨2, 27, 2, [ie (if (n != m) = true then -Q else Q)]⟩ ∧ rows 5 = some ⟨3, 27, 2, [ie R]⟩) (fun K hK => ?_) ?_
    ·cases n with
     | false =>
      simp (disch := omega) [gA, wA]
      exact hK _ _ (Gh_fa _ [4, 5, 38]) ⟨_, _, rfl, by cases m <;> simp, by simp⟩
     | true =>
      have hR : R = 0 := by simp at hadj; omega
      subst hR
      simp (disch := omega) [gA, wA]
      exact hK _ _ (Gh_fa _ [4, 5, 38]) ⟨_, _, rfl, by cases m <;> simp, by simp⟩
    rintro _ ⟨rows, clk, rfl, hr4, hr5⟩
    refine W.cond ⟨_, rfl, fun h => ?_, fun h => ?_⟩
    ·cases h
    ·refine W.skip ?_
     exact ⟨_, Gh_fa _ [4, 5], _, _, rfl, hr4, hr5⟩
  rintro _ ⟨rows, clk, rfl, hr4, hr5⟩
  generalize iv n l / iv m k = q at *
  generalize iv n l % iv m k = r at *
  refine W.sdrw (fun K hK => ?_)
  simp (disch := omega) [gA, wA, hr4, hr5]
  refine stepTxt (by kernel_rfl) ?_
  simp (disch := omega) [gA, wA, hr4, hr5]
  rw [if_pos (by kernel_rfl)]
  simp (disch := omega) [gA, wA, hr4, hr5]
  refine stepTxt (by kernel_rfl) ?_
  simp (disch := omega) [gA, wA]
  refine W.lv [4, 5, 6] hK fun J j => ?_; clear hK K; simp; refine j _ ?_; clear j J
  refine W.ret ?_
  simp [go]
end Go.Proofs.YtdiladmkbpnhoaaGreat
namespace Go.Proofs.YtdiladmkbpnhoaaGreat
open Go Pm
theorem sz_iv (m : Bool) (l : List Int) (k : Nat) (h0 : 0 ≤ V 4294967296 l) (h : V 4294967296 l < 4294967296 ^ k) : sz LL (iv m l) ≤ k := by
 have : sz LL (iv m l) = sz LL (V 4294967296 l) := by unfold sz iv; split <;> simp
 rw [this]; exact sz_of_lt h0 h
theorem wExact_ret (n m : Bool) (l k : List Int) (h : LOK l) (h' : LOK k) (hl : l.length < 1099511627774) (hk : k.length < 1099511627774) (h0 : V 4294967296 k ≠ 0) :
  Ret env.P 169 [IV n l, IV m k] (if iv n l % iv m k = 0 then .tup [I (iv n l / iv m k), .int .i64 0] else .tup [I 0, .int .i64 3]) := by
 have hdm := wDivMod_ret n m l k h h' hl hk
 rw [if_neg h0] at hdm
 have hr0 : 0 ≤ iv n l % iv m k := Int.emod_nonneg _ (by unfold iv; split <;> omega)
 generalize iv n l / iv m k = q at *
 generalize iv n l % iv m k = r at *
 have hrn : (dig LL r.natAbs = []) ↔ r = 0 := by rw [dig_eq_nil hLL]; omega
 refine ret_of_Wf (E := env) (fun _ => 0) [(0, IV n l), (1, IV m k)] Tryz.func169 rfl (by kernel_rfl) (by kernel_rfl) (show 2 ≤ 26 by decide) (by simp) ?_
 refine W.sreg (fun K hK => ?_); simp (disch := omega) [gA, wA]; refine W.lv [2, 3, 4] hK fun J j => ?_; clear hK K; simp; refine j _ ?_; clear j J
 refine W.sreg (fun K hK => ?_)
 simp (disch := omega) [gA, wA]
 refine callR hdm ?_
 simp (disch := omega) [gA, wA]
 refine W.lv [4, 6, 7, 8] hK fun J j => ?_; clear hK K; simp; refine j _ ?_; clear j J
 refine W.seq ?_
 refine W.sreg (fun K hK => ?_); simp (disch := omega) [gA, wA]; refine W.lv [4, 6, 7, 8, 17] hK fun J j => ?_; clear hK K; simp; refine j _ ?_; clear j J
 refine W.cond ⟨_, rfl, fun h => ?_, fun h => ?_⟩
 ·cases h
 refine W.skip ?_
 refine W.seq ?_
 refine W.sreg (fun K hK => ?_); simp (disch := omega) [gA, wA]; refine W.lv [4, 6, 23] hK fun J j => ?_; clear hK K; simp; refine j _ ?_; clear j J
 by_cases hr : r = 0
 ·rw [if_pos hr]
  refine W.cond ⟨_, rfl, fun h => ?_, fun h => ?_⟩
  ·exfalso; have h2 := hrn.2 hr; rw [h2] at h; simp at h
  ·refine W.skip ?_
   refine W.sreg (fun K hK => ?_); simp (disch := omega) [gA, wA]; refine W.lv [4, 5] hK fun J j => ?_; clear hK K; simp; refine j _ ?_; clear j J
   refine W.ret ?_
   simp [go]
 ·rw [if_neg hr]
  refine W.cond ⟨_, rfl, fun h => ?_, fun h => ?_⟩
  ·refine W.sreg (fun K hK => ?_); simp (disch := omega) [gA, wA]; refine W.lv [4, 5] hK fun J j => ?_; clear hK K; simp; refine j _ ?_; clear j J
   refine W.ret ?_
   simp [go]
   rfl
  ·exfalso; simp at h; exact hr (hrn.1 h)
def gcdL (l : List Int) : Nat := l.foldl (fun g c => Nat.gcd g c.natAbs) 0
theorem gcd_one : ∀ l : List Int, l.foldl (fun g c => Nat.gcd g c.natAbs) 1 = 1
 | [] => rfl
 | c :: l => by simp only [List.foldl_cons, Nat.gcd_one_left]; exact gcd_one l
theorem gcdL_split (l : List Int) (i : Nat) (h : gcdL (l.take i) = 1) : gcdL l = 1 := by
 unfold gcdL at *
 rw [← List.take_append_drop i l, List.foldl_append, h]
 exact gcd_one _
theorem gcdL_succ (l : List Int) (i : Nat) (h : i < l.length) : gcdL (l.take (i + 1)) = Nat.gcd (gcdL (l.take i)) (nth l i).natAbs := by
 unfold gcdL
 rw [take_succ_nth h, List.foldl_append]; rfl
theorem natN (x : Nat) : N (x : Int) = us (dig LL x) := rfl
theorem dig_len' {x k : Nat} (h : x < 4294967296 ^ k) : (dig LL x).length ≤ k := dig_len hLL h
theorem wGcd_ret (p : RP) (K0 : Nat) (hK0 : K0 < 1099511627774) (hp : ∀ c ∈ p, Lim 4294967296 c.2 ∧ c.2.length ≤ K0) (hpl : p.length < 1099511627776) : Ret env.P 167 [Pg p] (I (gcdL (p.map gv))) := by
 have hng : ∀ c ∈ p, (gv c).natAbs = (V 4294967296 c.2).toNat := fun c hc => by
  have := V_nonneg (b := 4294967296) (by decide) (hp c hc).1
  unfold gv iv; split <;> omega
 refine ret_of_Wf (E := env) (fun _ => 0) [(0, Pg p)] Tryz.func167 rfl (by kernel_rfl) (by kernel_rfl) (show 1 ≤ 44 by decide) (by simp) ?_
 refine W.sreg (fun K hK => ?_); simp (disch := omega) [gA, wA]; refine W.lv [0, 2] hK fun J j => ?_; clear hK K; simp; refine j _ ?_; clear j J
 refine W.sreg (fun K hK => ?_); simp (disch := omega) [gA, wA]; refine W.lv [0, 2, 3] hK fun J j => ?_; clear hK K; simp; refine j _ ?_; clear j J
 refine W.nils 3 (us []) (by simp) rfl (fun K hK => ?_)
 refine W.lv [0, 2, 3] hK fun J j => ?_; clear hK K; simp; refine j _ ?_; clear j J
 have hmap : ∀ i, i < p.length → (nth (p.map gv) i).natAbs = (V 4294967296 (nth p i).2).toNat := fun i hi => by rw [nth_gv]; exact hng _ (nth_mem hi)
 refine W.seqJ (fun σ => ∃ (rows : Pm.Rows) (clk : Nat), σ = ⟨fa [(2, .ptr 2 0 0 0), (3, us (dig LL (gcdL (p.map gv))))], rows, clk⟩ ∧ rows 2 = some ⟨0, 27, 2, [[.bool false, .nil]]⟩ ∧ gcdL (p.map gv) < 4294967296 ^ K0) ?_ ?_
 ·
  refine W.sreg (fun K hK => ?_); simp (disch := omega) [gA, wA]; refine W.lv [2, 3, 10, 11, 12] hK fun J j => ?_; clear hK K; simp; refine j _ ?_; clear j J
  refine W.block ?_
  refine W.loopG (fun q σ => ∃ (i : Nat) (rows : Pm.Rows) (clk : Nat), σ = ⟨fa [(2, .ptr 2 0 0 0), (3, us (dig LL (gcdL ((p.map gv).take i)))), (10, Pg p), (11, .int .i64 p.length), (12, .int .i64 i)], rows, clk⟩ ∧ rows 2 = some ⟨0, 27, 2, [[.bool false, .nil]]⟩ ∧ q = p.length - i ∧ i ≤ p.length ∧ gcdL ((p.map gv).take i) < 4294967296 ^ K0) p.length ?_ ?_
  ·exact ⟨_, Gh.fr [(2, .ptr 2 0 0 0), (3, us (dig LL (gcdL ((p.map gv).take 0)))), (10, Pg p), (11, .int .i64 p.length), (12, .int .i64 (0 : Nat))] (by simp [gcdL, dig_zero]), 0, _, _, rfl, by simp, by omega, by omega, by simp [gcdL]; exact Nat.pow_pos (by decide)⟩
  rintro q _ ⟨i, rows, clk, rfl, hr2, hq, hi, hgb⟩
  refine W.sreg (fun K hK => ?_); simp (disch := omega) [gA, wA]; refine W.lv [2, 3, 10, 11, 12, 13] hK fun J j => ?_; clear hK K; simp; refine j _ ?_; clear j J
  refine W.seq ?_
  refine W.cond ⟨_, rfl, fun h => ?_, fun h => ?_⟩
  ·have hi : i < p.length := by simp at h; omega
   obtain ⟨hc1, hc2⟩ := hp _ (nth_mem hi)
   have hV0 := V_nonneg (b := 4294967296) (by decide) hc1
   have hVl := V_lt (b := 4294967296) (by decide) hc1
   obtain ⟨x0, hx0⟩ := Int.eq_ofNat_of_zero_le hV0
   have hnorm := Norm_ret (nth p i).2 (by omega) hc1
   rw [hx0, natN] at hnorm
   have hxb : x0 < 4294967296 ^ K0 := by
    have e : ((4294967296 ^ (nth p i).2.length : Nat) : Int) = (4294967296 : Int) ^ (nth p i).2.length := Int.natCast_pow 4294967296 _
    have e2 : 4294967296 ^ (nth p i).2.length ≤ 4294967296 ^ K0 := Nat.pow_le_pow_right (by decide) hc2
    omega
   have hgs := gcdL_succ (p.map gv) i (by simpa using hi)
   rw [hmap i hi, hx0] at hgs
   simp only [Int.toNat_natCast] at hgs
   refine W.skip ?_
   refine W.seq ?_
   refine W.block ?_
   refine W.sreg (fun K hK => ?_); simp (disch := omega) [gA, wA, hr2]; refine W.lv [2, 3, 5, 10, 11, 12] hK fun J j => ?_; clear hK K; simp; refine j _ ?_; clear j J
   refine W.sreg (fun K hK => ?_)
   simp (disch := omega) [gA, wA]
   refine callR hnorm ?_
   simp (disch := omega) [gA, wA]
   refine W.lv [2, 3, 6, 10, 11, 12] hK fun J j => ?_; clear hK K; simp; refine j _ ?_; clear j J
   refine W.seq ?_
   refine W.block ?_
   refine W.loopG (fun q σ => ∃ (g x : Nat) (rows : Pm.Rows) (clk : Nat), σ = ⟨fa [(2, .ptr 2 0 0 0), (3, us (dig LL g)), (6, us (dig LL x)), (10, Pg p), (11, .int .i64 p.length), (12, .int .i64 i)], rows, clk⟩ ∧ rows 2 = some ⟨0, 27, 2, [[.bool false, .nil]]⟩ ∧ q = x ∧ Nat.gcd g x = gcdL ((p.map gv).take (i + 1)) ∧ g < 4294967296 ^ K0 ∧ x < 4294967296 ^ K0) x0 ?_ ?_
   ·exact ⟨_, .refl, gcdL ((p.map gv).take i), x0, _, _, rfl, by simp [hr2], rfl, hgs.symm, hgb, hxb⟩
   rintro q2 _ ⟨g, x, rows, clk, rfl, hr2, hq2, hgx, hg, hx⟩
   refine W.seq ?_
   refine W.sreg (fun K hK => ?_); simp (disch := omega) [gA, wA]; refine W.lv [2, 3, 6, 10, 11, 12, 21] hK fun J j => ?_; clear hK K; simp; refine j _ ?_; clear j J
   refine W.cond ⟨_, rfl, fun h => ?_, fun h => ?_⟩
   ·have h1 : dig LL x ≠ [] := by simp at h; exact List.length_pos_iff.1 h
    have hx0 : x ≠ 0 := fun h2 => h1 ((dig_eq_nil hLL).2 h2)
    have hlg := dig_len' hg
    have hlx := dig_len' hx
    have hdm := DivMod_ret (dig LL g) (dig LL x) ⟨Lim_dig hLL _, by omega⟩ ⟨Lim_dig hLL _, by omega⟩ (by rw [show (4294967296 : Int) = ((LL : Nat) : Int) from rfl, V_dig hLL]; omega) (by omega) (by omega)
    rw [show (4294967296 : Int) = ((LL : Nat) : Int) from rfl, V_dig hLL, V_dig hLL, ← Int.natCast_emod, natN] at hdm
    have hm := Nat.mod_lt g (show 0 < x by omega)
    have hgr : Nat.gcd x (g % x) = Nat.gcd g x := by rw [Nat.gcd_comm x, ← Nat.gcd_rec, Nat.gcd_comm]
    refine W.skip ?_
    refine W.block ?_
    refine W.sreg (fun K hK => ?_)
    simp (disch := omega) [gA, wA]
    refine callR hdm ?_
    simp (disch := omega) [gA, wA]
    refine W.lv [2, 6, 8, 10, 11, 12] hK fun J j => ?_; clear hK K; simp; refine j _ ?_; clear j J
    refine W.reg (fun K hK => ?_); simp (disch := omega) [gA, wA]
    refine hK _ ⟨g % x, _, Gh_fa _ [2, 3, 6, 10, 11, 12], by omega, x, g % x, _, _, rfl, by simp [hr2], rfl, by rw [hgr, hgx], hx, by omega⟩
   ·have h1 : dig LL x = [] := by simp at h; exact h
    have hx0 : x = 0 := (dig_eq_nil hLL).1 h1
    subst hx0
    rw [Nat.gcd_zero_right] at hgx
    refine W.exit ?_; simp only [pX, if_true, if_false, reduceIte, Nat.reduceEqDiff]
    refine W.sregJ (fun σ => ∃ (b : Bool) (rows : Pm.Rows) (clk : Nat), σ = ⟨fa [(2, .ptr 2 0 0 0), (3, us (dig LL g)), (10, Pg p), (11, .int .i64 p.length), (12, .int .i64 i), (39, .bool b)], rows, clk⟩ ∧ rows 2 = some ⟨0, 27, 2, [[.bool false, .nil]]⟩ ∧ (b = true → g = 1)) (fun K hK => ?_) ?_
    ·by_cases h2 : (dig LL g).length = 1
     ·obtain ⟨w, hw⟩ : ∃ w, dig LL g = [w] := match dig LL g, h2 with | [w], _ => ⟨w, rfl⟩
      have hgv := V_dig hLL g
      rw [hw, V_one] at hgv
      rw [hw] at hK ⊢
      have hnw : nth [w] 0 = w := rfl
      simp (disch := omega) [gA, wA, hnw]
      exact hK _ _ (Gh_fa _ [2, 3, 10, 11, 12, 39]) ⟨_, _, _, rfl, by simp [hr2], fun h3 => by simp at h3; omega⟩
     ·have h2' : ((dig LL g).length : Int) ≠ 1 := by omega
      have hb : (((dig LL g).length : Int) == 1) = false := by simpa using h2'
      simp (disch := omega) [gA, wA, hb, h2]
      exact hK _ _ (Gh_fa _ [2, 3, 10, 11, 12, 39]) ⟨_, _, _, rfl, by simp [hr2], fun h3 => by cases h3⟩
    rintro _ ⟨b, rows, clk, rfl, hr2, hb⟩
    refine W.cond ⟨_, rfl, fun h => ?_, fun h => ?_⟩
    ·have hg1 := hb h
     subst hg1
     have hall := gcdL_split _ _ hgx.symm
     refine W.exit ?_; simp only [pX, if_true, if_false, reduceIte, Nat.reduceEqDiff]
     rw [hall]
     exact ⟨_, Gh_fa _ [2, 3], rows, clk, rfl, hr2, by rw [hall] at *; exact hg⟩
    ·refine W.skip ?_
     subst hgx
     refine W.reg (fun K hK => ?_); simp (disch := omega) [gA, wA]
     refine hK _ ⟨p.length - (i + 1), _, Gh_fa _ [2, 3, 10, 11, 12], by omega, i + 1, _, _, rfl, by simp [hr2], by omega, by omega, hg⟩
  ·have hi : i = p.length := by simp at h; omega
   rw [List.take_of_length_le (by simp; omega)] at hgb ⊢
   refine W.exit ?_; simp only [pX, if_true, if_false, reduceIte, Nat.reduceEqDiff]
   exact ⟨_, Gh_fa _ [2, 3], rows, clk, rfl, hr2, hgb⟩
 rintro _ ⟨rows, clk, rfl, hr2, hgb⟩
 have hlg := dig_len' hgb
 have hnorm := Norm_ret (dig LL (gcdL (p.map gv))) (by omega) (Lim_dig hLL _)
 rw [show (4294967296 : Int) = ((LL : Nat) : Int) from rfl, V_dig hLL] at hnorm
 have hmade := made_ret (gcdL (p.map gv) : Int) (by omega) false
 refine W.sreg (fun K hK => ?_)
 simp (disch := omega) [gA, wA]
 refine callR hnorm ?_
 simp (disch := omega) [gA, wA]
 refine callR hmade ?_
 simp (disch := omega) [gA, wA, hr2]
 refine W.lv [2] hK fun J j => ?_; clear hK K; simp; refine j _ ?_; clear j J
 refine W.ret ?_
 simp [go]
end Go.Proofs.YtdiladmkbpnhoaaGreat
