import Derived.Test.YtdiladmkbpnhoaaGreatLh
import Derived.Test.YtdiladmkbpnhoaaGreatMe
import Derived.Test.YtdiladmkbpnhoaaGreatMh
set_option linter.unusedSimpArgs false
set_option linter.unusedVariables false
namespace Go.Proofs.YtdiladmkbpnhoaaGreat
open Go Pm
theorem LZ_ret (n : Int) (h0 : 0 ≤ n) (h1 : n < 4294967296) : Ret env.P 221 [.int .u32 n] (.int .i64 (32 - nb n.toNat)) := by
 refine ret_of_Wf (E := env) (fun _ => 0) [(0, .int .u32 n)] Tryz.func221 rfl (by kernel_rfl) (by kernel_rfl) (show 1 ≤ 6 by decide) (by simp) ?_
 refine W.sreg (fun K hK => ?_); simp (disch := omega) [gA, wA]; refine W.lv [0] hK fun J j => ?_; clear hK K; simp; refine j _ ?_; clear j J
 refine W.sreg (fun K hK => ?_)
 simp (disch := omega) [gA, wA]
 refine callR (Len32_ret n h0 h1) ?_
 have : nb n.toNat ≤ 32 := nb_lt.2 (by omega)
 simp (disch := omega) [gA, wA]
 refine W.lv [2] hK fun J j => ?_; clear hK K; simp; refine j _ ?_; clear j J
 refine W.ret ?_
 simp [go]
theorem Shl_ret (l : List Int) (n : Nat) (hn : n ≤ 31) (hl : l.length < 1099511627775) (lm : Lim 4294967296 l) : Ret env.P 227 [us l, .int .i64 n] (N (V 4294967296 l * 2 ^ n)) := by
 refine ret_of_Wf (E := env) (fun _ => 0) [(0, us l), (1, .int .i64 n)] Tryz.func227 rfl (by kernel_rfl) (by kernel_rfl) (show 2 ≤ 67 by decide) (by simp) ?_
 refine W.sreg (fun K hK => ?_); simp (disch := omega) [gA, wA]; refine W.lv [0, 1] hK fun J j => ?_; clear hK K; simp; refine j _ ?_; clear j J
 have hcl := cutR_len l
 refine W.sreg (fun K hK => ?_)
 simp (disch := omega) [gA, wA]
 refine callR (cut_ret l (by omega)) ?_
 simp (disch := omega) [gA, wA]
 refine W.lv [0, 1] hK fun J j => ?_; clear hK K; simp; refine j _ ?_; clear j J
 have lx := Lim_cutR lm
 have hV := V_cutR (b := 4294967296) l
 rw [← hV]
 have hxl : (cutR l).length < 1099511627775 := by omega
 clear hV
 generalize cutR l = x at *
 have h65 : ¬ (65536 < (n : Int)) := by omega
 have e0 : (if 0 < n then (n : Int) else 0) = n := by split <;> omega
 refine W.sreg (fun K hK => ?_)
 simp (disch := omega) [gA, wA, h65, e0]
 refine W.lv [0, 1] hK fun J j => ?_; clear hK K; simp; refine j _ ?_; clear j J
 refine W.seq ?_
 refine W.sreg (fun K hK => ?_); simp (disch := omega) [gA, wA]; refine W.lv [0, 1, 18] hK fun J j => ?_; clear hK K; simp; refine j _ ?_; clear j J
 refine W.cond ⟨_, rfl, fun h => ?_, fun h => ?_⟩
 ·have h : x = [] := by simp at h; exact h
  subst h
  refine W.sreg (fun K hK => ?_); simp (disch := omega) [gA, wA]; refine W.lv [4] hK fun J j => ?_; clear hK K; simp; refine j _ ?_; clear j J
  refine W.ret ?_
  simp [go, V]
  rfl
 have h : x ≠ [] := by simp at h; exact h
 refine W.skip ?_
 have d1 : (n : Int) / 32 = 0 := by omega
 have d2 : (n : Int) % 32 = n := by omega
 refine W.sreg (fun K hK => ?_); simp (disch := omega) [gA, wA, d1, d2]; refine W.lv [0, 5, 6] hK fun J j => ?_; clear hK K; simp; refine j _ ?_; clear j J
 refine W.sreg (fun K hK => ?_); simp (disch := omega) [gA, wA]; refine W.lv [0, 5, 6, 7] hK fun J j => ?_; clear hK K; simp; refine j _ ?_; clear j J
 refine W.seq ?_
 refine W.sreg (fun K hK => ?_); simp (disch := omega) [gA, wA]; refine W.lv [5, 6, 7, 30, 31, 32] hK fun J j => ?_; clear hK K; simp; refine j _ ?_; clear j J
 refine W.block ?_
 have h2n : (2 : Int) ^ n ≤ 2147483648 := by
  have := Int.ofNat_le.2 (Nat.pow_le_pow_right (show 0 < 2 by decide) hn)
  simpa using this
 have h2p : (0 : Int) < 2 ^ n := Int.pow_pos (by decide)
 have h2d : (2 : Int) ^ n ∣ 4294967296 := by
  refine ⟨2 ^ (32 - n), ?_⟩
  rw [← Int.pow_add, show n + (32 - n) = 32 by omega]; rfl
 refine W.loopG (fun q σ => ∃ (i v : Nat) (z : List Int) (rows : Pm.Rows) (clk : Nat), σ = ⟨fa [(5, .int .i64 0), (6, .int .u64 n), (7, .own 29 v 0 (x.length + 1)), (30, us x), (31, .int .i64 x.length), (32, .int .i64 i)], rows, clk⟩ ∧
  rows 29 = some ⟨v, 169, 1, emap u32 z⟩ ∧ q = x.length - i ∧ i ≤ x.length ∧ z.length = x.length + 1 ∧ Lim 4294967296 z ∧ V 4294967296 (z.take (i + 1)) = V 4294967296 (x.take i) * 2 ^ n ∧ nth z i < 2 ^ n) x.length ?_ ?_
 ·exact ⟨_, .refl, 0, _, List.replicate (x.length + 1) 0, _, _, rfl, by simp, by omega, by omega, by simp, Lim.rep (by decide) _, by simp [V, List.replicate_succ], by rw [nth_eq (by simp)]; simp; exact h2p⟩
 rintro q _ ⟨i, v, z, rows, clk, rfl, hr, hq, hi, hz, lz, hV, hzi⟩
 refine W.sreg (fun K hK => ?_); simp (disch := omega) [gA, wA]; refine W.lv [5, 6, 7, 30, 31, 32, 33] hK fun J j => ?_; clear hK K; simp; refine j _ ?_; clear j J
 refine W.seq ?_
 refine W.cond ⟨_, rfl, fun h => ?_, fun h => ?_⟩
 ·have hi : i < x.length := by simp at h; omega
  have hw := lx.nth hi
  refine W.skip ?_
  refine W.seq ?_
  refine W.block ?_
  refine W.sreg (fun K hK => ?_); simp (disch := omega) [gA, wA]; refine W.lv [5, 6, 7, 8, 9, 30, 31, 32] hK fun J j => ?_; clear hK K; simp; refine j _ ?_; clear j J
  have hVx := V_take_succ (b := 4294967296) hi
  generalize hwe : nth x i = w at *
  have hv0 : 0 ≤ w * 2 ^ n := Int.mul_nonneg hw.1 (by omega)
  have hv1 : w * 2 ^ n < 4294967296 * 2 ^ n := Int.mul_lt_mul_of_pos_right hw.2 h2p
  have hvd : (2 ^ n : Int) ∣ w * 2 ^ n := ⟨w, Int.mul_comm _ _⟩
  have hwr : IntKind.u64.wrap (w * 2 ^ n) = w * 2 ^ n := wrap_u64 hv0 (by omega)
  have hzi2 := lz.nth (i := i) (by omega)
  refine W.sreg (fun K hK => ?_)
  simp (disch := omega) [gA, wA, hwr]
  refine W.lv [5, 6, 7, 8, 10, 30, 31, 32] hK fun J j => ?_; clear hK K; simp; refine j _ ?_; clear j J
  have hVx2 : V 4294967296 (x.take (i + 1)) * 2 ^ n = V 4294967296 (x.take i) * 2 ^ n + 4294967296 ^ i * (w * 2 ^ n) := by rw [hVx]; grind
  generalize hve : w * 2 ^ n = y at *
  have hlow : (2 ^ n : Int) ∣ y % 4294967296 := by
   rw [Int.emod_def]
   exact Int.dvd_sub hvd (Int.dvd_trans h2d (Int.dvd_mul_right _ _))
  have hlow2 : y % 4294967296 + 2 ^ n ≤ 4294967296 := by
   obtain ⟨c, hc⟩ := hlow
   obtain ⟨d, hd⟩ := h2d
   have h1 : (2 ^ n : Int) * c < 2 ^ n * d := by have := Int.emod_lt_of_pos y (show (0 : Int) < 4294967296 by decide); omega
   have h2 : c < d := Int.lt_of_mul_lt_mul_left h1 (by omega)
   have h3 := Int.mul_le_mul_of_nonneg_left (show c + 1 ≤ d by omega) (show 0 ≤ (2 ^ n : Int) by omega)
   rw [Int.mul_add] at h3
   omega
  have hor := (orI_u32 (a := y % 4294967296) (b := nth z i) n (by omega) hzi2.1 hlow hzi (by omega)).2
  have hwy : IntKind.u32.wrap y = y % 4294967296 := wrap_u32'
  refine W.sreg (fun K hK => ?_)
  simp (disch := omega) [gA, wA, hr, hz, hwy, hor]
  refine W.lv [5, 6, 7, 8, 10, 30, 31, 32] hK fun J j => ?_; clear hK K; simp; refine j _ ?_; clear j J
  refine W.reg (fun K hK => ?_)
  simp (disch := omega) [gA, wA, hz]
  refine W.lv [5, 6, 7, 30, 31, 32] hK fun J j => ?_; clear hK K; simp; refine j _ ?_; clear j J
  refine W.reg (fun K hK => ?_); simp (disch := omega) [gA, wA]
  refine hK _ ⟨x.length - (i + 1), _, Gh_fa _ [5, 6, 7, 30, 31, 32], by omega, i + 1, v, (z.set i (y % 4294967296 + nth z i)).set (i + 1) (y / 4294967296), _, _, rfl, by simp, by omega, by omega, by simp [hz], (lz.set ⟨by omega, by omega⟩).set ⟨by omega, by omega⟩, ?_, ?_⟩
  ·have q1 := V_take_set (b := 4294967296) (l := z.set i (y % 4294967296 + nth z i)) (i := i + 1) (x := y / 4294967296) (by simp; omega)
   have q2 := V_take_set (b := 4294967296) (l := z) (i := i) (x := y % 4294967296 + nth z i) (by omega)
   have q3 := V_take_succ (b := 4294967296) (l := z) (i := i) (by omega)
   have q4 := Int.mul_ediv_add_emod y 4294967296
   rw [q1, q2, hVx2, ← hV, q3, Int.pow_succ]
   generalize y / 4294967296 = yq at *
   generalize y % 4294967296 = yr at *
   rw [← q4]; grind
  ·rw [nth_set_self (by simp; omega)]; omega
 ·have hi : i = x.length := by simp at h; omega
  subst hi
  have hVz : V 4294967296 z = V 4294967296 x * 2 ^ n := by
   rw [V_take_all (by omega), V_take_all (Nat.le_refl _)] at hV; exact hV
  have zz := take_all hz
  have hcut := cut_ret z (by omega)
  rw [N_cut lz, hVz] at hcut
  refine W.exit ?_; simp only [pX, if_true, if_false, reduceIte, Nat.reduceEqDiff]
  refine W.sreg (fun K hK => ?_)
  simp (disch := omega) [gA, wA, hr, zz]
  refine callR hcut ?_
  simp (disch := omega) [gA, wA]
  refine W.lv [4] hK fun J j => ?_; clear hK K; simp; refine j _ ?_; clear j J
  refine W.ret ?_
  simp [go]
end Go.Proofs.YtdiladmkbpnhoaaGreat
namespace Go.Proofs.YtdiladmkbpnhoaaGreat
open Go Pm
theorem wide_own (l : List Int) (n m : Nat) (hn : n ≤ 31) (hl : l.length < 1099511627775) (lm : Lim 4294967296 l) (hm0 : 0 < m) (hm1 : m < 1099511627776) (hb : V 4294967296 l * 2 ^ n < 4294967296 ^ m) :
  ∃ y : List Int, RetO env.P 222 [us l, .int .i64 n, .int .i64 m] 169 1 (emap u32 y) ∧ y.length = m ∧ Lim 4294967296 y ∧ V 4294967296 y = V 4294967296 l * 2 ^ n := by
 have hp : 0 ≤ V 4294967296 l * 2 ^ n := Int.mul_nonneg (V_nonneg (by decide) lm) (Int.le_of_lt (Int.pow_pos (by decide)))
 obtain ⟨N0, hN⟩ := Int.eq_ofNat_of_zero_le hp
 have hS := Shl_ret l n hn hl lm
 rw [hN] at hS hb
 replace hS : Ret env.P 227 [us l, .int .i64 n] (us (dig LL N0)) := hS
 have hdl : (dig LL N0).length ≤ m := dig_len hLL (by
  have h4 : ((4294967296 ^ m : Nat) : Int) = (4294967296 : Int) ^ m := Int.natCast_pow 4294967296 m
  show N0 < 4294967296 ^ m
  omega)
 have hdm := Lim_dig hLL N0
 have hdv := V_dig hLL N0
 refine ⟨dig LL N0 ++ List.replicate (m - (dig LL N0).length) 0, ?_, by simp; omega, Lim.append.2 ⟨hdm, Lim.rep (by decide) _⟩, by rw [V_append, V_rep, hN, ← hdv]; simp⟩
 generalize dig LL N0 = D at *
 refine retO_of_Wf (E := env) (fun _ => 0) (t := 6) [(0, us l), (1, .int .i64 n), (2, .int .i64 m)] Tryz.func222 rfl (by kernel_rfl) (by kernel_rfl) (show 3 ≤ 16 by decide) rfl (by simp) ?_
 refine W.sreg (fun K hK => ?_); simp (disch := omega) [gA, wA]; refine W.lv [0, 1, 2] hK fun J j => ?_; clear hK K; simp; refine j _ ?_; clear j J
 refine W.sreg (fun K hK => ?_); simp (disch := omega) [gA, wA]; refine W.lv [0, 1, 7] hK fun J j => ?_; clear hK K; simp; refine j _ ?_; clear j J
 refine W.sreg (fun K hK => ?_)
 simp (disch := omega) [gA, wA]
 refine callR hS ?_
 simp (disch := omega) [gA, wA]
 refine copyK (e' := 169) (els := emap u32 (List.replicate m 0)) (l := emap u32 D) (by simp) (by simp) hm0 rfl (fun e he => by simp only [emap, List.mem_map] at he; obtain ⟨x, _, rfl⟩ := he; rfl) ?_
 have e1 : (emap u32 (List.replicate m 0)).take 0 ++ (emap u32 D).take m ++ (emap u32 (List.replicate m 0)).drop (0 + min (emap u32 D).length m) = emap u32 (D ++ List.replicate (m - D.length) 0) := by
  simp only [emap, List.take_zero, List.nil_append, List.length_map, Nat.zero_add, List.map_append, Nat.min_eq_left hdl]
  rw [List.take_of_length_le (by simpa using hdl), ← List.map_drop, List.drop_replicate]
 rw [e1]
 generalize hy : D ++ List.replicate (m - D.length) 0 = y at *
 have hyl : y.length = m := by rw [← hy]; simp; omega
 simp (disch := omega) [gA, wA]
 refine W.lv [7] hK fun J j => ?_; clear hK K; simp; refine j _ ?_; clear j J
 refine W.sreg (fun K hK => ?_); simp (disch := omega) [gA, wA]; refine W.lv [6] hK fun J j => ?_; clear hK K; simp; refine j _ ?_; clear j J
 refine W.ret ?_
 exact ⟨9, 0, by simp [hyl], by simp, fun x hx p hp => by
  simp only [emap, List.mem_map] at hx
  obtain ⟨r, _, rfl⟩ := hx
  simp at hp
  subst hp; rfl⟩
theorem one_ret (a : List Int) (w : Int) (ha : a.length < 1099511627775) (la : Lim 4294967296 a) (hw0 : 0 < w) (hw1 : w < 4294967296) : Ret env.P 220 [us a, .int .u32 w] (.tup [N (V 4294967296 a / w), .int .u32 (V 4294967296 a % w)]) := by
 refine ret_of_Wf (E := env) (fun _ => 0) [(0, us a), (1, .int .u32 w)] Tryz.func220 rfl (by kernel_rfl) (by kernel_rfl) (show 2 ≤ 44 by decide) (by simp) ?_
 refine W.sreg (fun K hK => ?_); simp (disch := omega) [gA, wA]; refine W.lv [0, 1] hK fun J j => ?_; clear hK K; simp; refine j _ ?_; clear j J
 refine W.sreg (fun K hK => ?_); simp (disch := omega) [gA, wA]; refine W.lv [0, 1, 6] hK fun J j => ?_; clear hK K; simp; refine j _ ?_; clear j J
 refine W.sreg (fun K hK => ?_); simp (disch := omega) [gA, wA]; refine W.lv [0, 1, 6, 7] hK fun J j => ?_; clear hK K; simp; refine j _ ?_; clear j J
 refine W.seq ?_
 refine W.sreg (fun K hK => ?_); simp (disch := omega) [gA, wA]; refine W.lv [0, 1, 6, 7, 8] hK fun J j => ?_; clear hK K; simp; refine j _ ?_; clear j J
 refine W.block ?_
 refine W.loopG (fun q σ => ∃ (v : Nat) (r : Int) (z : List Int) (rows : Pm.Rows) (clk : Nat), σ = ⟨fa [(0, us a), (1, .int .u32 w), (6, .own 12 v 0 a.length), (7, .int .u64 r), (8, .int .i64 ((q : Int) - 1))], rows, clk⟩ ∧
  rows 12 = some ⟨v, 169, 1, emap u32 z⟩ ∧ q ≤ a.length ∧ z.length = a.length ∧ Lim 4294967296 z ∧ V 4294967296 (z.drop q) * w + r = V 4294967296 (a.drop q) ∧ 0 ≤ r ∧ r < w) a.length ?_ ?_
 ·exact ⟨_, .refl, 0, 0, List.replicate a.length 0, _, _, rfl, by simp, by omega, by simp, Lim.rep (by decide) _, by simp [V], by omega, hw0⟩
 rintro q _ ⟨v, r, z, rows, clk, rfl, hr, hq, hz, lz, hV, hr0, hr1⟩
 refine W.seq ?_
 refine W.sreg (fun K hK => ?_); simp (disch := omega) [gA, wA]; refine W.lv [0, 1, 6, 7, 8, 17] hK fun J j => ?_; clear hK K; simp; refine j _ ?_; clear j J
 refine W.cond ⟨_, rfl, fun h => ?_, fun h => ?_⟩
 ·have hq0 : 0 < q := by simp at h; omega
  obtain ⟨j, rfl⟩ : ∃ j, q = j + 1 := ⟨q - 1, by omega⟩
  clear h
  have hj := la.nth (i := j) (by omega)
  have ej : ((j + 1 : Nat) : Int) - 1 = j := by omega
  rw [ej]
  have hVa : V 4294967296 (a.drop j) = nth a j + 4294967296 * V 4294967296 (a.drop (j + 1)) := by rw [drop_nth (by omega)]; rfl
  generalize hxe : nth a j = x at *
  have hrb : r * 4294967296 < 18446744073709551616 := by omega
  have hor := (orI_u64 (a := r * 4294967296) (b := x) 32 (by omega) hj.1 ⟨r, by rw [Int.mul_comm]; rfl⟩ (by simpa using hj.2) (by omega)).1
  refine W.skip ?_
  refine W.seq ?_
  refine W.block ?_
  refine W.sreg (fun K hK => ?_)
  simp (disch := omega) [gA, wA, hxe, hor]
  refine W.lv [0, 1, 6, 8, 9] hK fun J j => ?_; clear hK K; simp; refine j _ ?_; clear j J
  have hs : (r * 4294967296 + x) / w < 4294967296 := Int.ediv_lt_of_lt_mul hw0 (by
   have := Int.mul_le_mul_of_nonneg_right (show r + 1 ≤ w by omega) (show (0 : Int) ≤ 4294967296 by decide)
   rw [Int.mul_comm 4294967296]; omega)
  have hs0 : 0 ≤ (r * 4294967296 + x) / w := Int.ediv_nonneg (by omega) (by omega)
  have hm0 := Int.emod_nonneg (r * 4294967296 + x) (show w ≠ 0 by omega)
  have hm1 := Int.emod_lt_of_pos (r * 4294967296 + x) hw0
  have hde := Int.mul_ediv_add_emod (r * 4294967296 + x) w
  have hw' : ¬ w = 0 := by omega
  refine W.drw (fun K hK => ?_)
  simp (disch := omega) [gA, wA, hr, hz, hw']
  refine stepTxt (by kernel_rfl) ?_
  simp (disch := omega) [gA, wA, hr, hz, hw']
  refine W.lv [0, 1, 6, 7, 8] hK fun J j => ?_; clear hK K; simp; refine j _ ?_; clear j J
  refine W.reg (fun K hK => ?_); simp (disch := omega) [gA, wA]
  refine hK _ ⟨j, _, Gh_fa _ [0, 1, 6, 7, 8], by omega, v, (r * 4294967296 + x) % w, z.set j ((r * 4294967296 + x) / w), _, _, rfl, by simp, by omega, by simp [hz], lz.set ⟨hs0, hs⟩, ?_, hm0, hm1⟩
  rw [drop_nth (l := z.set j _) (i := j) (by simp; omega), nth_set_self (by omega), hVa, ← hV, List.drop_set_of_lt (by omega)]
  simp only [V]
  generalize (r * 4294967296 + x) / w = qq at *
  generalize (r * 4294967296 + x) % w = rr at *
  grind
 ·have hq0 : q = 0 := by simp at h; omega
  subst hq0
  have zz := take_all hz
  have hcut := cut_ret z (by omega)
  simp only [List.drop_zero] at hV
  have h1 : V 4294967296 z = V 4294967296 a / w ∧ r = V 4294967296 a % w := by
   have h2 : V 4294967296 a / w = V 4294967296 z := by
    have e : (V 4294967296 z + 1) * w = V 4294967296 z * w + w := by grind
    rw [Int.ediv_eq_iff_of_pos hw0]
    constructor <;> omega
   refine ⟨h2.symm, ?_⟩
   have h3 := Int.emod_def (V 4294967296 a) w
   rw [h2, Int.mul_comm] at h3
   omega
  rw [N_cut lz, h1.1] at hcut
  have hr2 := h1.2
  refine W.exit ?_; simp only [pX, if_true, if_false, reduceIte, Nat.reduceEqDiff]
  refine W.sreg (fun K hK => ?_)
  simp (disch := omega) [gA, wA, hr, zz]
  refine callR hcut ?_
  simp (disch := omega) [gA, wA]
  refine W.lv [4, 5] hK fun J j => ?_; clear hK K; simp; refine j _ ?_; clear j J
  refine W.ret ?_
  simp [go, hr2]
end Go.Proofs.YtdiladmkbpnhoaaGreat
namespace Go.Proofs.YtdiladmkbpnhoaaGreat
open Go Pm
theorem nth_len_zero {x : List Int} {i : Nat} (h : x.length ≤ i) : nth x i = 0 := nth_ge h
theorem Shr_ret (l : List Int) (n : Nat) (hn : n ≤ 31) (hl : l.length < 1099511627775) (lm : Lim 4294967296 l) : Ret env.P 224 [us l, .int .i64 n] (N (V 4294967296 l / 2 ^ n)) := by
 refine ret_of_Wf (E := env) (fun _ => 0) [(0, us l), (1, .int .i64 n)] Tryz.func224 rfl (by kernel_rfl) (by kernel_rfl) (show 2 ≤ 69 by decide) (by simp) ?_
 refine W.sreg (fun K hK => ?_); simp (disch := omega) [gA, wA]; refine W.lv [0, 1] hK fun J j => ?_; clear hK K; simp; refine j _ ?_; clear j J
 have hcl := cutR_len l
 refine W.sreg (fun K hK => ?_)
 simp (disch := omega) [gA, wA]
 refine callR (cut_ret l (by omega)) ?_
 simp (disch := omega) [gA, wA]
 refine W.lv [0, 1] hK fun J j => ?_; clear hK K; simp; refine j _ ?_; clear j J
 have lx := Lim_cutR lm
 have hV := V_cutR (b := 4294967296) l
 rw [← hV]
 have hxl : (cutR l).length < 1099511627775 := by omega
 clear hV
 generalize cutR l = x at *
 have h65 : ¬ (65536 < (n : Int)) := by omega
 have e0 : (if 0 < n then (n : Int) else 0) = n := by split <;> omega
 refine W.sreg (fun K hK => ?_)
 simp (disch := omega) [gA, wA, h65, e0]
 refine W.lv [0, 1] hK fun J j => ?_; clear hK K; simp; refine j _ ?_; clear j J
 have d1 : (n : Int) / 32 = 0 := by omega
 have d2 : (n : Int) % 32 = n := by omega
 refine W.sreg (fun K hK => ?_); simp (disch := omega) [gA, wA, d1, d2]; refine W.lv [0, 5, 6] hK fun J j => ?_; clear hK K; simp; refine j _ ?_; clear j J
 refine W.seq ?_
 refine W.sreg (fun K hK => ?_); simp (disch := omega) [gA, wA]; refine W.lv [0, 5, 6, 23] hK fun J j => ?_; clear hK K; simp; refine j _ ?_; clear j J
 refine W.cond ⟨_, rfl, fun h => ?_, fun h => ?_⟩
 ·have h : x = [] := by simp at h; exact h
  subst h
  refine W.sreg (fun K hK => ?_); simp (disch := omega) [gA, wA]; refine W.lv [4] hK fun J j => ?_; clear hK K; simp; refine j _ ?_; clear j J
  refine W.ret ?_
  simp [go, V]
  rfl
 have h : x ≠ [] := by simp at h; exact h
 refine W.skip ?_
 refine W.sreg (fun K hK => ?_); simp (disch := omega) [gA, wA]; refine W.lv [0, 5, 6, 7] hK fun J j => ?_; clear hK K; simp; refine j _ ?_; clear j J
 refine W.seq ?_
 refine W.sreg (fun K hK => ?_); simp (disch := omega) [gA, wA]; refine W.lv [0, 5, 6, 7, 30, 31] hK fun J j => ?_; clear hK K; simp; refine j _ ?_; clear j J
 refine W.block ?_
 have h2p : (0 : Int) < 2 ^ n := Int.pow_pos (by decide)
 have h2e : (0 : Int) < 2 ^ (32 - n) := Int.pow_pos (by decide)
 have h2d : (2 : Int) ^ n * 2 ^ (32 - n) = 4294967296 := by
  rw [← Int.pow_add, show n + (32 - n) = 32 by omega]; rfl
 refine W.loopG (fun q σ => ∃ (i v : Nat) (z : List Int) (rows : Pm.Rows) (clk : Nat), σ = ⟨fa [(0, us x), (5, .int .i64 0), (6, .int .u64 n), (7, .own 28 v 0 x.length), (30, .int .i64 x.length), (31, .int .i64 i)], rows, clk⟩ ∧
  rows 28 = some ⟨v, 169, 1, emap u32 z⟩ ∧ q = x.length - i ∧ i ≤ x.length ∧ z.length = x.length ∧ Lim 4294967296 z ∧ 2 ^ n * V 4294967296 (z.take i) + nth x 0 % 2 ^ n = V 4294967296 (x.take i) + (nth x i % 2 ^ n) * 4294967296 ^ i) x.length ?_ ?_
 ·exact ⟨_, .refl, 0, _, List.replicate x.length 0, _, _, rfl, by simp, by omega, by omega, by simp, Lim.rep (by decide) _, by simp [V]⟩
 rintro q _ ⟨i, v, z, rows, clk, rfl, hr, hq, hi, hz, lz, hV⟩
 refine W.sreg (fun K hK => ?_); simp (disch := omega) [gA, wA]; refine W.lv [0, 5, 6, 7, 30, 31, 32] hK fun J j => ?_; clear hK K; simp; refine j _ ?_; clear j J
 refine W.seq ?_
 refine W.cond ⟨_, rfl, fun h => ?_, fun h => ?_⟩
 ·have hi : i < x.length := by simp at h; omega
  have hw := lx.nth hi
  have hw2 : 0 ≤ nth x (i + 1) ∧ nth x (i + 1) < 4294967296 := by
   rcases Nat.lt_or_ge (i + 1) x.length with h3 | h3
   ·exact lx.nth h3
   ·rw [nth_len_zero h3]; decide
  have hVx := V_take_succ (b := 4294967296) hi
  obtain ⟨q1, q2, q3⟩ := shr_limb h2p h2e h2d hw hw2
  generalize hwe : nth x i = w at *
  refine W.skip ?_
  refine W.seq ?_
  refine W.block ?_
  refine W.sreg (fun K hK => ?_); simp (disch := omega) [gA, wA]; refine W.lv [0, 5, 6, 7, 8, 30, 31] hK fun J j => ?_; clear hK K; simp; refine j _ ?_; clear j J
  refine W.sreg (fun K hK => ?_); simp (disch := omega) [gA, wA, hwe]; refine W.lv [0, 5, 6, 7, 8, 9, 30, 31] hK fun J j => ?_; clear hK K; simp; refine j _ ?_; clear j J
  refine W.seqJ (fun σ => ∃ (rows : Pm.Rows) (clk : Nat), σ = ⟨fa [(0, us x), (5, .int .i64 0), (6, .int .u64 n), (7, .own 28 v 0 x.length), (8, .int .i64 i), (9, .int .u64 (w + 4294967296 * nth x (i + 1))), (30, .int .i64 x.length), (31, .int .i64 i)], rows, clk⟩ ∧ rows 28 = some ⟨v, 169, 1, emap u32 z⟩) ?_ ?_
  ·
   refine W.sreg (fun K hK => ?_); simp (disch := omega) [gA, wA]; refine W.lv [0, 5, 6, 7, 8, 9, 30, 31, 47] hK fun J j => ?_; clear hK K; simp; refine j _ ?_; clear j J
   refine W.cond ⟨_, rfl, fun h => ?_, fun h => ?_⟩
   ·have h : i + 1 < x.length := by simp at h; omega
    have hor := (orI_u64 (a := nth x (i + 1) * 4294967296) (b := w) 32 (by omega) hw.1 ⟨nth x (i + 1), by rw [Int.mul_comm]; rfl⟩ (by simpa using hw.2) (by omega)).2
    rw [show nth x (i + 1) * 4294967296 + w = w + 4294967296 * nth x (i + 1) by omega] at hor
    refine W.reg (fun K hK => ?_); simp (disch := omega) [gA, wA, hor]
    exact hK _ ⟨_, Gh_fa _ [0, 5, 6, 7, 8, 9, 30, 31], _, _, rfl, by simp [hr]⟩
   ·have h : x.length ≤ i + 1 := by simp at h; omega
    rw [nth_len_zero h]
    refine W.skip ?_
    exact ⟨_, Gh.fr [(0, us x), (5, .int .i64 0), (6, .int .u64 n), (7, .own 28 v 0 x.length), (8, .int .i64 i), (9, .int .u64 (w + 4294967296 * 0)), (30, .int .i64 x.length), (31, .int .i64 i)] (by simp), _, _, rfl, by simp [hr]⟩
  rintro _ ⟨rows, clk, rfl, hr⟩
  have hwr : IntKind.u32.wrap ((w + 4294967296 * nth x (i + 1)) / 2 ^ n) = ((w + 4294967296 * nth x (i + 1)) / 2 ^ n) % 4294967296 := wrap_u32'
  have hfd : (w + 4294967296 * nth x (i + 1)).fdiv (2 ^ n) = (w + 4294967296 * nth x (i + 1)) / 2 ^ n := Int.fdiv_eq_ediv_of_nonneg _ (by omega)
  refine W.reg (fun K hK => ?_)
  simp (disch := omega) [gA, wA, hr, hz, hfd, hwr]
  refine W.lv [0, 5, 6, 7, 30, 31] hK fun J j => ?_; clear hK K; simp; refine j _ ?_; clear j J
  refine W.reg (fun K hK => ?_); simp (disch := omega) [gA, wA]
  refine hK _ ⟨x.length - (i + 1), _, Gh_fa _ [0, 5, 6, 7, 30, 31], by omega, i + 1, v, z.set i (((w + 4294967296 * nth x (i + 1)) / 2 ^ n) % 4294967296), _, _, rfl, by simp, by omega, by omega, by simp [hz], lz.set ⟨q2, q3⟩, ?_⟩
  rw [V_take_set (by omega), hVx, Int.mul_add, Int.pow_succ]
  generalize ((w + 4294967296 * nth x (i + 1)) / 2 ^ n) % 4294967296 = o at *
  generalize nth x (i + 1) % 2 ^ n = lo1 at *
  generalize w % 2 ^ n = lo at *
  have e2 : (2 : Int) ^ n * (4294967296 ^ i * o) = 4294967296 ^ i * (2 ^ n * o) := by grind
  rw [e2, q1]
  grind
 ·have hi : i = x.length := by simp at h; omega
  subst hi
  have zz := take_all hz
  have hcut := cut_ret z (by omega)
  rw [N_cut lz] at hcut
  rw [zz, List.take_of_length_le (Nat.le_refl _), nth_len_zero (Nat.le_refl _)] at hV
  have hVz : V 4294967296 x / 2 ^ n = V 4294967296 z := by
   have h5 := Int.emod_nonneg (nth x 0) (show (2 ^ n : Int) ≠ 0 by omega)
   have h6 := Int.emod_lt_of_pos (nth x 0) h2p
   rw [Int.zero_emod, Int.zero_mul, Int.add_zero] at hV
   have e : (V 4294967296 z + 1) * 2 ^ n = 2 ^ n * V 4294967296 z + 2 ^ n := by grind
   have e' : V 4294967296 z * 2 ^ n = 2 ^ n * V 4294967296 z := Int.mul_comm _ _
   rw [Int.ediv_eq_iff_of_pos h2p]
   constructor <;> omega
  rw [hVz]
  refine W.exit ?_; simp only [pX, if_true, if_false, reduceIte, Nat.reduceEqDiff]
  refine W.sreg (fun K hK => ?_)
  simp (disch := omega) [gA, wA, hr, zz]
  refine callR hcut ?_
  simp (disch := omega) [gA, wA]
  refine W.lv [4] hK fun J j => ?_; clear hK K; simp; refine j _ ?_; clear j J
  refine W.ret ?_
  simp [go]
end Go.Proofs.YtdiladmkbpnhoaaGreat
namespace Go.Proofs.YtdiladmkbpnhoaaGreat
open Go Pm
theorem nth_drop' (z : List Int) (o k : Nat) : nth (z.drop o) k = nth z (o + k) := by simp [nth, List.getElem?_drop]
theorem drop_set' (z : List Int) (o k : Nat) (x : Int) : (z.set (o + k) x).drop o = (z.drop o).set k x := by
 rw [List.drop_set]
 rw [if_neg (by omega)]
 congr 1; omega
set_option maxHeartbeats 2000000 in
theorem digit_retG {id ver off m : Nat} (zl y : List Int) (rows : Pm.Rows) (clk : Nat) (hr : rows id = some ⟨ver, 169, 1, emap u32 zl⟩) (hyl : y.length = m + 2) (hym : m < 1099511627776) (ly : Lim 4294967296 y) (htop : 2147483648 ≤ nth y (m + 1)) (lz : Lim 4294967296 zl)
  (hoff : off + m + 3 ≤ zl.length) (hzl : zl.length < 1099511627776) (hlt : V 4294967296 ((zl.drop off).take (m + 3)) < 4294967296 * V 4294967296 y) :
  RetG env.P 223 [.own id ver off (m + 3), us y] rows clk (fun r rows' clk' => ∃ D : List Int, r = .int .u32 (V 4294967296 ((zl.drop off).take (m + 3)) / V 4294967296 y) ∧ rows' = upd rows id (some ⟨ver, 169, 1, emap u32 (zl.take off ++ D)⟩) ∧ clk' = clk ∧
   D.length = (zl.drop off).length ∧ Lim 4294967296 D ∧ D.drop (m + 3) = (zl.drop off).drop (m + 3) ∧ V 4294967296 (D.take (m + 3)) = V 4294967296 ((zl.drop off).take (m + 3)) % V 4294967296 y) := by
 obtain ⟨hKD, hc⟩ := kd_of (D := zl.drop off) (by simp; omega) hyl (lz.drop off) ly (by omega) hlt
 have l1 := ly.nth (i := m) (by omega)
 have l2 := ly.nth (i := m + 1) (by omega)
 have k0 := (lz.drop off).nth (i := m) (by simp; omega)
 have k1 := (lz.drop off).nth (i := m + 1) (by simp; omega)
 have k2 := (lz.drop off).nth (i := m + 2) (by simp; omega)
 have n0 := nth_drop' zl off m
 have n1 := nth_drop' zl off (m + 1)
 have n2 := nth_drop' zl off (m + 2)
 have hDl : (zl.drop off).length = zl.length - off := by simp
 have hYb : V 4294967296 y < 4294967296 ^ (m + 2) := by have := V_lt (by decide) ly; rwa [hyl] at this
 have hX : V 4294967296 ((zl.drop off).take (m + 3)) = V 4294967296 ((zl.drop off).take (m + 2)) + 4294967296 ^ (m + 2) * nth (zl.drop off) (m + 2) := V_take_succ (by simp; omega)
 refine retG_of_Wf (E := env) (fun _ => 0) (t := 4) [(0, .own id ver off (m + 3)), (1, us y)] Tryz.func223 rfl (by kernel_rfl) (by kernel_rfl) (show 2 ≤ 170 by decide) rfl (by simp) ?_
 refine W.sreg (fun K hK => ?_); simp (disch := omega) [gA, wA]; refine W.lv [0, 1] hK fun J j => ?_; clear hK K; simp; refine j _ ?_; clear j J
 refine W.sreg (fun K hK => ?_); simp (disch := omega) [gA, wA, hyl]; refine W.lv [0, 1, 5] hK fun J j => ?_; clear hK K; simp; refine j _ ?_; clear j J
 have a1 : ((m : Int) + 2 - 1) = ((m + 1 : Nat) : Int) := by omega
 have a2 : ((m : Int) + 2 - 2) = (m : Int) := by omega
 refine W.sdrw (fun K hK => ?_)
 simp (disch := omega) [gA, wA, hyl, a1, a2]
 refine W.lv [0, 1, 5, 6, 7] hK fun J j => ?_; clear hK K; simp; refine j _ ?_; clear j J
 rw [n0] at k0 hKD
 rw [n1] at k1 hKD
 rw [n2] at k2 hKD hc hX
 generalize hxa : nth zl (off + m) = xa at *
 generalize hxb : nth zl (off + (m + 1)) = xb at *
 generalize hxc : nth zl (off + (m + 2)) = xc at *
 generalize htt : nth y (m + 1) = top at *
 generalize hnn : nth y m = nx at *
 have hor := (orI_u64 (a := xc * 4294967296) (b := xb) 32 (by omega) k1.1 ⟨xc, by rw [Int.mul_comm]; rfl⟩ (by simpa using k1.2) (by omega)).1
 have htp : ¬ top = 0 := by omega
 refine W.sdrw (fun K hK => ?_)
 have a3 : ((m : Int) + 2).toNat = m + 2 := by omega
 simp (disch := omega) [gA, wA, hr, a1, a3, hxb, hxc, hor]
 refine W.lv [0, 1, 5, 6, 7, 8] hK fun J j => ?_; clear hK K; simp; refine j _ ?_; clear j J
 generalize hXX : V 4294967296 ((zl.drop off).take (m + 3)) = X at *
 generalize hYY : V 4294967296 y = Y at *
 have hY0 := hKD.Y0
 have hX0 : 0 ≤ X := by rw [← hXX]; exact V_nonneg (by decide) ((lz.drop off).take _)
 have hhd : xc * 4294967296 + xb ≤ top * 4294967296 + 4294967296 - 1 := by omega
 have hf := hKD.first
 have hg0 := Int.ediv_nonneg hKD.h0 (show 0 ≤ top by omega)
 have hde := Int.mul_ediv_add_emod (xc * 4294967296 + xb) top
 have hr0 := Int.emod_nonneg (xc * 4294967296 + xb) htp
 have hr1 := Int.emod_lt_of_pos (xc * 4294967296 + xb) (show 0 < top by omega)
 have hgu : (xc * 4294967296 + xb) / top ≤ 4294967297 := by
  rcases Int.lt_or_le 4294967297 ((xc * 4294967296 + xb) / top) with h | h
  ·exfalso
   have := Int.mul_le_mul_of_nonneg_left (show 4294967298 ≤ (xc * 4294967296 + xb) / top by omega) (show 0 ≤ top by omega)
   omega
  ·exact h
 rw [Int.mul_comm] at hde
 have hh0 := hKD.h0
 generalize hhe : xc * 4294967296 + xb = head at *
 have hwq : IntKind.u64.wrap (head / top) = head / top := wrap_u64 hg0 (by omega)
 refine W.sreg (fun K hK => ?_); simp (disch := omega) [gA, wA, htp, hwq]; refine W.lv [0, 1, 5, 6, 7, 8, 9] hK fun J j => ?_; clear hK K; simp; refine j _ ?_; clear j J
 refine W.sreg (fun K hK => ?_); simp (disch := omega) [gA, wA, htp]; refine W.lv [0, 1, 5, 6, 7, 9, 10] hK fun J j => ?_; clear hK K; simp; refine j _ ?_; clear j J
 refine W.seq_blockJ (fun σ => ∃ (g : Int), σ = ⟨fa [(0, .own id ver off (m + 3)), (1, us y), (5, .int .i64 ((m : Int) + 2)), (9, .int .u64 g)], rows, clk⟩ ∧ 0 ≤ g ∧ g < 4294967296 ∧ X < (g + 1) * Y ∧ g * Y < X + Y) ?_ ?_
 ·
  refine W.loopG (fun k σ => ∃ (g r : Int), σ = ⟨fa [(0, .own id ver off (m + 3)), (1, us y), (5, .int .i64 ((m : Int) + 2)), (6, .int .u64 top), (7, .int .u64 nx), (9, .int .u64 g), (10, .int .u64 r)], rows, clk⟩ ∧ k = g.toNat ∧ 0 ≤ g ∧ g ≤ 4294967297 ∧ 0 ≤ r ∧ r < 4294967296 ∧ g * top + r = head ∧ X < (g + 1) * Y) (head / top).toNat ?_ ?_
  ·exact ⟨_, .refl, head / top, head % top, rfl, rfl, hg0, hgu, hr0, by omega, hde, hf⟩
  rintro k _ ⟨g, r, rfl, hk, q1, q2, q3, q4, q5, q6⟩
  refine W.seq ?_
  have hgn0 : 0 ≤ g * nx := Int.mul_nonneg q1 l1.1
  refine W.sregJ (fun σ => ∃ (b : Bool), σ = ⟨fa [(0, .own id ver off (m + 3)), (1, us y), (5, .int .i64 ((m : Int) + 2)), (6, .int .u64 top), (7, .int .u64 nx), (9, .int .u64 g), (10, .int .u64 r), (71, .bool b)], rows, clk⟩ ∧ (b = true ↔ 4294967296 ≤ g ∨ r * 4294967296 + xa < g * nx)) (fun K hK => ?_) ?_
  ·by_cases hb : 4294967296 ≤ g
   ·simp (disch := omega) [gA, wA, hb]
    exact hK _ _ (Gh_fa _ [0, 1, 5, 6, 7, 9, 10, 71]) ⟨_, rfl, by simp [hb]⟩
   ·have hgn1 : g * nx ≤ 4294967295 * 4294967295 := Int.mul_le_mul (by omega) (by omega) l1.1 (by omega)
    have hwr : IntKind.u64.wrap (g * nx) = g * nx := wrap_u64 hgn0 (by omega)
    have hor2 := (orI_u64 (a := r * 4294967296) (b := xa) 32 (by omega) k0.1 ⟨r, by rw [Int.mul_comm]; rfl⟩ (by simpa using k0.2) (by omega)).1
    simp (disch := omega) [gA, wA, hb, hwr, hr, a2, hxa, hor2]
    exact hK _ _ (Gh_fa _ [0, 1, 5, 6, 7, 9, 10, 71]) ⟨_, rfl, by simp [hb]⟩
  rintro _ ⟨b, rfl, hb⟩
  refine W.cond ⟨_, rfl, fun h => ?_, fun h => ?_⟩
  ·have h := hb.1 h
   have hlt2 : X < g * Y := by
    rcases h with h | h
    ·exact hKD.big h
    ·exact hKD.over q1 q5 h
   have hgp : 1 ≤ g := by
    rcases Int.lt_or_le g 1 with h3 | h3
    ·exfalso
     have : g = 0 := by omega
     rw [this, Int.zero_mul] at hlt2; omega
    ·exact h3
   have e5 : (g - 1) * top + (r + top) = head := by rw [Int.sub_mul]; omega
   have e6 : X < (g - 1 + 1) * Y := by rw [Int.sub_add_cancel]; exact hlt2
   refine W.skip ?_
   refine W.block ?_
   refine W.sreg (fun K hK => ?_); simp (disch := omega) [gA, wA]; refine W.lv [0, 1, 5, 6, 7, 9, 10] hK fun J j => ?_; clear hK K; simp; refine j _ ?_; clear j J
   refine W.sreg (fun K hK => ?_); simp (disch := omega) [gA, wA]; refine W.lv [0, 1, 5, 6, 7, 9, 10] hK fun J j => ?_; clear hK K; simp; refine j _ ?_; clear j J
   refine W.sreg (fun K hK => ?_); simp (disch := omega) [gA, wA]; refine W.lv [0, 1, 5, 6, 7, 9, 10, 78] hK fun J j => ?_; clear hK K; simp; refine j _ ?_; clear j J
   refine W.cond ⟨_, rfl, fun h => ?_, fun h => ?_⟩
   ·have h : 4294967296 ≤ r + top := by simp at h; omega
    have hgb := hKD.broke_lt hhd e5 h
    have hnr := hKD.near (by omega) hgb e5 (hKD.broke (by omega) hgb h)
    refine W.exit ?_; simp only [pX, if_true, if_false, reduceIte, Nat.reduceEqDiff]
    exact ⟨_, Gh_fa _ [0, 1, 5, 9], g - 1, rfl, by omega, hgb, e6, hnr⟩
   ·have h : r + top < 4294967296 := by simp at h; omega
    refine W.skip ?_
    exact ⟨(g - 1).toNat, _, Gh_fa _ [0, 1, 5, 6, 7, 9, 10], by omega, g - 1, r + top, rfl, rfl, by omega, by omega, by omega, h, e5, e6⟩
  ·have h : ¬ (4294967296 ≤ g ∨ r * 4294967296 + xa < g * nx) := fun h2 => by rw [hb.2 h2] at h; cases h
   have hnr := hKD.near q1 (by omega) q5 (by omega)
   refine W.exit ?_; simp only [pX, if_true, if_false, reduceIte, Nat.reduceEqDiff]
   exact ⟨_, Gh_fa _ [0, 1, 5, 9], g, rfl, q1, by omega, q6, hnr⟩
 rintro _ ⟨g, rfl, g0, g1, hgX, hgY⟩
 clear hf hg0 hde hr0 hr1 hgu hor
 refine W.sreg (fun K hK => ?_); simp (disch := omega) [gA, wA]; refine W.lv [0, 1, 5, 9, 11, 12] hK fun J j => ?_; clear hK K; simp; refine j _ ?_; clear j J
 refine W.seq ?_
 refine W.sreg (fun K hK => ?_); simp (disch := omega) [gA, wA, hyl]; refine W.lv [0, 1, 5, 9, 11, 12, 79, 80, 81] hK fun J j => ?_; clear hK K; simp; refine j _ ?_; clear j J
 refine W.block ?_
 refine W.loopG (fun q σ => ∃ (i : Nat) (c β : Int) (z : List Int) (rows2 : Pm.Rows), σ = ⟨fa [(0, .own id ver off (m + 3)), (1, us y), (5, .int .i64 ((m : Int) + 2)), (9, .int .u64 g), (11, .int .u64 c), (12, .int .u64 β), (79, us y), (80, .int .i64 ((m : Int) + 2)), (81, .int .i64 i)], rows2, clk⟩ ∧
  rows2 id = some ⟨ver, 169, 1, emap u32 z⟩ ∧ (∀ j, j ≠ id → rows2 j = rows j) ∧ q = m + 2 - i ∧ i ≤ m + 2 ∧ z.length = zl.length ∧ Lim 4294967296 z ∧ z.take off = zl.take off ∧ (z.drop off).drop i = (zl.drop off).drop i ∧ 0 ≤ c ∧ c < 4294967296 ∧ (β = 0 ∨ β = 1) ∧
  V 4294967296 ((z.drop off).take i) + g * V 4294967296 (y.take i) = V 4294967296 ((zl.drop off).take i) + (c + β) * 4294967296 ^ i) (m + 2) ?_ ?_
 ·exact ⟨_, Gh.fr [(0, .own id ver off (m + 3)), (1, us y), (5, .int .i64 ((m : Int) + 2)), (9, .int .u64 g), (11, .int .u64 0), (12, .int .u64 0), (79, us y), (80, .int .i64 ((m : Int) + 2)), (81, .int .i64 (0 : Nat))] (by simp), 0, 0, 0, zl, rows, rfl, hr, fun _ _ => rfl, by omega, by omega, rfl, lz, rfl, rfl, by omega, by omega, .inl rfl, by simp [V]⟩
 rintro q _ ⟨i, c, β, z, rows2, rfl, hr2, hro, hq, hi, hzl2, lz2, hP, hD, c0, c1, hβ, hV⟩
 refine W.sreg (fun K hK => ?_); simp (disch := omega) [gA, wA]; refine W.lv [0, 1, 5, 9, 11, 12, 79, 80, 81, 82] hK fun J j => ?_; clear hK K; simp; refine j _ ?_; clear j J
 refine W.seq ?_
 refine W.cond ⟨_, rfl, fun h => ?_, fun h => ?_⟩
 ·have hi : i < m + 2 := by simp at h; omega
  have hw := ly.nth (i := i) (by omega)
  have hVy := V_take_succ (b := 4294967296) (l := y) (i := i) (by omega)
  have hVx := V_take_succ (b := 4294967296) (l := zl.drop off) (i := i) (by omega)
  have hxn : nth z (off + i) = nth (zl.drop off) i := by
   rw [← nth_drop']
   have := congrArg (fun l => nth l 0) hD
   simpa [nth_drop'] using this
  have hx := (lz.drop off).nth (i := i) (by omega)
  generalize nth (zl.drop off) i = x at *
  generalize hwe : nth y i = w at *
  obtain ⟨s1, s2, β', hβ', s3, s4⟩ := sub_limb ⟨g0, g1⟩ hw ⟨c0, c1⟩ hx hβ
  refine W.skip ?_
  refine W.seq ?_
  refine W.block ?_
  refine W.sreg (fun K hK => ?_); simp (disch := omega) [gA, wA, hyl, hwe]; refine W.lv [0, 1, 5, 9, 11, 12, 13, 14, 79, 80, 81] hK fun J j => ?_; clear hK K; simp; refine j _ ?_; clear j J
  have hp1 : IntKind.u64.wrap (g * w) = g * w := wrap_u64 (Int.mul_nonneg g0 hw.1) (by omega)
  have hp2 : IntKind.u64.wrap (g * w + c) = g * w + c := wrap_u64 s1.1 (by omega)
  refine W.sreg (fun K hK => ?_)
  simp (disch := omega) [gA, wA, hp1, hp2]
  refine W.lv [0, 1, 5, 9, 12, 13, 15, 79, 80, 81] hK fun J j => ?_; clear hK K; simp; refine j _ ?_; clear j J
  refine W.sreg (fun K hK => ?_); simp (disch := omega) [gA, wA]; refine W.lv [0, 1, 5, 9, 11, 12, 13, 15, 79, 80, 81] hK fun J j => ?_; clear hK K; simp; refine j _ ?_; clear j J
  have hp3 : IntKind.u32.wrap (g * w + c) = (g * w + c) % 4294967296 := wrap_u32'
  have hp4 : IntKind.u64.wrap (IntKind.u64.wrap (x - (g * w + c) % 4294967296) - β) = (x - (g * w + c) % 4294967296 - β) % 18446744073709551616 := by rw [wrap_u64', wrap_u64']; omega
  refine W.sreg (fun K hK => ?_)
  simp (disch := omega) [gA, wA, hr2, hxn, hp3, hp4]
  refine W.lv [0, 1, 5, 9, 11, 13, 16, 79, 80, 81] hK fun J j => ?_; clear hK K; simp; refine j _ ?_; clear j J
  have hs3 := s3
  have hs4 := s4
  generalize hss : (x - (g * w + c) % 4294967296 - β) % 18446744073709551616 = s at *
  have hp5 : IntKind.u32.wrap s = s % 4294967296 := wrap_u32'
  have hoi : off + i < z.length := by omega
  refine W.reg (fun K hK => ?_)
  simp (disch := omega) [gA, wA, hr2, hp5, s3, hoi]
  refine W.lv [0, 1, 5, 9, 11, 12, 79, 80, 81] hK fun J j => ?_; clear hK K; simp; refine j _ ?_; clear j J
  refine W.reg (fun K hK => ?_); simp (disch := omega) [gA, wA]
  refine hK _ ⟨m + 2 - (i + 1), _, Gh_fa _ [0, 1, 5, 9, 11, 12, 79, 80, 81], by omega, i + 1, (g * w + c) / 4294967296, β', z.set (off + i) (s % 4294967296), _, rfl, by simp, fun j hj => by simp [hj, hro j hj], by omega, by omega, by simp [hzl2], lz2.set ⟨by omega, by omega⟩, by rw [take_set_ge (by omega), hP], ?_, s2.1, s2.2, hβ', ?_⟩
  ·rw [drop_set', List.drop_set_of_lt (by omega)]
   have := congrArg (List.drop 1) hD
   rw [List.drop_drop, List.drop_drop, List.drop_drop, List.drop_drop] at this
   rw [List.drop_drop, List.drop_drop]
   exact this
  ·rw [drop_set', V_take_set (by simp; omega), hVy, hVx, s4, Int.pow_succ]
   have h10 := Int.mul_ediv_add_emod (g * w + c) 4294967296
   generalize (g * w + c) / 4294967296 = pq at *
   generalize (g * w + c) % 4294967296 = pr at *
   generalize (4294967296 : Int) ^ i = bi at *
   have e7 : g * (V 4294967296 (y.take i) + bi * w) = g * V 4294967296 (y.take i) + bi * (g * w) := by grind
   rw [e7]
   have e8 : g * w = 4294967296 * pq + pr - c := by omega
   rw [e8]
   have e9 : V 4294967296 ((z.drop off).take i) = V 4294967296 ((zl.drop off).take i) + (c + β) * bi - g * V 4294967296 (y.take i) := by omega
   rw [e9]
   grind
 ·have hi : i = m + 2 := by simp at h; omega
  subst hi
  rw [List.take_of_length_le (show y.length ≤ m + 2 by omega), hYY] at hV
  have hxn : nth z (off + (m + 2)) = xc := by
   rw [← n2, ← nth_drop']
   have := congrArg (fun l => nth l 0) hD
   simpa [nth_drop'] using this
  have hV0 := V_nonneg (b := 4294967296) (by decide) ((lz2.drop off).take (m + 2))
  have hV1 := V_lt (b := 4294967296) (by decide) ((lz2.drop off).take (m + 2))
  rw [List.length_take, Nat.min_eq_left (by simp; omega)] at hV1
  have hXg : X - g * Y = V 4294967296 ((z.drop off).take (m + 2)) + 4294967296 ^ (m + 2) * (xc - c - β) := by
   rw [hX]
   have : (c + β) * 4294967296 ^ (m + 2) = 4294967296 ^ (m + 2) * c + 4294967296 ^ (m + 2) * β := by grind
   rw [Int.mul_sub, Int.mul_sub]; omega
  have hoi : off + (m + 2) < z.length := by omega
  generalize hbn : (4294967296 : Int) ^ (m + 2) = bn at *
  have hp4 : IntKind.u64.wrap (IntKind.u64.wrap (xc - c) - β) = (xc - c - β) % 18446744073709551616 := by rw [wrap_u64', wrap_u64']; omega
  refine W.exit ?_; simp only [pX, if_true, if_false, reduceIte, Nat.reduceEqDiff]
  refine W.sreg (fun K hK => ?_)
  simp (disch := omega) [gA, wA, hr2, a3, hxn, hp4]
  refine W.lv [0, 1, 5, 9, 17] hK fun J j => ?_; clear hK K; simp; refine j _ ?_; clear j J
  generalize hss : (xc - c - β) % 18446744073709551616 = s at *
  have hp5 : IntKind.u32.wrap s = s % 4294967296 := wrap_u32'
  refine W.sreg (fun K hK => ?_)
  simp (disch := omega) [gA, wA, hr2, a3, hp5, hoi]
  refine W.lv [0, 1, 5, 9, 17] hK fun J j => ?_; clear hK K; simp; refine j _ ?_; clear j J
  have hD2l : (z.set (off + (m + 2)) (s % 4294967296)).drop off = (z.drop off).set (m + 2) (s % 4294967296) := drop_set' _ _ _ _
  have hz2t : (z.set (off + (m + 2)) (s % 4294967296)).take off = zl.take off := by rw [take_set_ge (by omega), hP]
  have hz2d : ((z.drop off).set (m + 2) (s % 4294967296)).drop (m + 3) = (zl.drop off).drop (m + 3) := by
   rw [List.drop_set_of_lt (by omega)]
   have := congrArg (List.drop 1) hD
   rw [List.drop_drop, List.drop_drop, List.drop_drop, List.drop_drop] at this
   rw [List.drop_drop, List.drop_drop]
   exact this
  have hD2 : Lim 4294967296 ((z.drop off).set (m + 2) (s % 4294967296)) := (lz2.drop off).set ⟨by omega, by omega⟩
  refine W.seq ?_
  rcases Int.lt_or_le (xc - c - β) 0 with hneg | hpos
  ·-- one too many
   have hs63 : s / 9223372036854775808 = 1 := by omega
   refine W.sreg (fun K hK => ?_); simp (disch := omega) [gA, wA, hs63]; refine W.lv [0, 1, 5, 9, 129] hK fun J j => ?_; clear hK K; simp; refine j _ ?_; clear j J
   refine W.cond ⟨_, rfl, fun h => ?_, fun h => ?_⟩
   ·cases h
   refine W.skip ?_
   have hxn2 : bn * (xc - c - β) = - bn := by
    rcases Int.lt_or_le (xc - c - β) (-1) with h | h
    ·exfalso
     have := Int.mul_le_mul_of_nonneg_left (show xc - c - β ≤ -2 by omega) (show 0 ≤ bn by omega)
     omega
    ·have : xc - c - β = -1 := by omega
     rw [this]; omega
   have hsv : s % 4294967296 = 4294967295 := by
    rcases Int.lt_or_le (xc - c - β) (-1) with h | h
    ·exfalso
     have := Int.mul_le_mul_of_nonneg_left (show xc - c - β ≤ -2 by omega) (show 0 ≤ bn by omega)
     omega
    ·omega
   rw [hxn2] at hXg
   obtain ⟨hq1, hq2⟩ := hKD.wrong hgY (by omega)
   have hgp : 0 ≤ g - 1 := by rw [hq1]; exact Int.ediv_nonneg hX0 (by omega)
   rw [hsv] at hD2l hz2t hz2d hD2 ⊢
   have hD1n : ((z.drop off).set (m + 2) 4294967295).take (m + 2) = (z.drop off).take (m + 2) := take_set_ge (Nat.le_refl _)
   rw [← hD1n] at hXg hV0 hV1
   have hD2n : nth ((z.drop off).set (m + 2) 4294967295) (m + 2) = 4294967295 := nth_set_self (by simp; omega)
   generalize hz2 : z.set (off + (m + 2)) 4294967295 = z2 at *
   have hz2l : z2.length = zl.length := by rw [← hz2]; simp [hzl2]
   rw [← hD2l] at hXg hV0 hV1 hD2n hD2 hz2d
   have lz3 : Lim 4294967296 z2 := by rw [← hz2]; exact lz2.set ⟨by omega, by omega⟩
   clear hss hp5 hp4 hs63 hD2l hD1n hV hxn hD hP hD2 lz2
   refine W.sreg (fun K hK => ?_); simp (disch := omega) [gA, wA]; refine W.lv [0, 1, 5, 9, 18] hK fun J j => ?_; clear hK K; simp; refine j _ ?_; clear j J
   refine W.seq ?_
   refine W.sreg (fun K hK => ?_); simp (disch := omega) [gA, wA, hyl]; refine W.lv [0, 5, 9, 18, 132, 133, 134] hK fun J j => ?_; clear hK K; simp; refine j _ ?_; clear j J
   refine W.block ?_
   refine W.loopG (fun q σ => ∃ (i : Nat) (k : Int) (z : List Int) (rows2 : Pm.Rows), σ = ⟨fa [(0, .own id ver off (m + 3)), (5, .int .i64 ((m : Int) + 2)), (9, .int .u64 g), (18, .int .u64 k), (132, us y), (133, .int .i64 ((m : Int) + 2)), (134, .int .i64 i)], rows2, clk⟩ ∧
    rows2 id = some ⟨ver, 169, 1, emap u32 z⟩ ∧ (∀ j, j ≠ id → rows2 j = rows j) ∧ q = m + 2 - i ∧ i ≤ m + 2 ∧ z.length = zl.length ∧ Lim 4294967296 z ∧ z.take off = zl.take off ∧ (z.drop off).drop i = (z2.drop off).drop i ∧ (k = 0 ∨ k = 1) ∧
    V 4294967296 ((z.drop off).take i) + k * 4294967296 ^ i = V 4294967296 ((z2.drop off).take i) + V 4294967296 (y.take i)) (m + 2) ?_ ?_
   ·exact ⟨_, Gh.fr [(0, .own id ver off (m + 3)), (5, .int .i64 ((m : Int) + 2)), (9, .int .u64 g), (18, .int .u64 0), (132, us y), (133, .int .i64 ((m : Int) + 2)), (134, .int .i64 (0 : Nat))] (by simp), 0, 0, z2, _, rfl, by simp, fun j hj => by simp [hj, hro j hj], by omega, by omega, hz2l, lz3, hz2t, rfl, .inl rfl, by simp [V]⟩
   rintro q _ ⟨i, k, z, rows3, rfl, hr3, hro3, hq, hi, hzl3, lz4, hP, hD, hk, hV⟩
   refine W.sreg (fun K hK => ?_); simp (disch := omega) [gA, wA]; refine W.lv [0, 5, 9, 18, 132, 133, 134, 135] hK fun J j => ?_; clear hK K; simp; refine j _ ?_; clear j J
   refine W.seq ?_
   refine W.cond ⟨_, rfl, fun h => ?_, fun h => ?_⟩
   ·have hi : i < m + 2 := by simp at h; omega
    have hw := ly.nth (i := i) (by omega)
    have hVy := V_take_succ (b := 4294967296) (l := y) (i := i) (by omega)
    have hVx := V_take_succ (b := 4294967296) (l := z2.drop off) (i := i) (by simp; omega)
    have hxn : nth z (off + i) = nth (z2.drop off) i := by
     rw [← nth_drop']
     have := congrArg (fun l => nth l 0) hD
     simpa [nth_drop'] using this
    have hx := (lz3.drop off).nth (i := i) (by simp; omega)
    generalize nth (z2.drop off) i = x at *
    generalize hwe : nth y i = w at *
    refine W.skip ?_
    refine W.seq ?_
    refine W.block ?_
    refine W.sreg (fun K hK => ?_); simp (disch := omega) [gA, wA, hyl, hwe]; refine W.lv [0, 5, 9, 18, 19, 20, 132, 133, 134] hK fun J j => ?_; clear hK K; simp; refine j _ ?_; clear j J
    refine W.sreg (fun K hK => ?_); simp (disch := omega) [gA, wA, hr3, hxn]; refine W.lv [0, 5, 9, 19, 21, 132, 133, 134] hK fun J j => ?_; clear hK K; simp; refine j _ ?_; clear j J
    have hp6 : IntKind.u32.wrap (x + w + k) = (x + w + k) % 4294967296 := wrap_u32'
    have hoi2 : off + i < z.length := by omega
    refine W.reg (fun K hK => ?_)
    simp (disch := omega) [gA, wA, hr3, hp6, hoi2]
    refine W.lv [0, 5, 9, 18, 132, 133, 134] hK fun J j => ?_; clear hK K; simp; refine j _ ?_; clear j J
    refine W.reg (fun K hK => ?_); simp (disch := omega) [gA, wA]
    refine hK _ ⟨m + 2 - (i + 1), _, Gh_fa _ [0, 5, 9, 18, 132, 133, 134], by omega, i + 1, (x + w + k) / 4294967296, z.set (off + i) ((x + w + k) % 4294967296), _, rfl, by simp, fun j hj => by simp [hj, hro3 j hj], by omega, by omega, by simp [hzl3], lz4.set ⟨by omega, by omega⟩, by rw [take_set_ge (by omega), hP], ?_, by omega, ?_⟩
    ·rw [drop_set', List.drop_set_of_lt (by omega)]
     have := congrArg (List.drop 1) hD
     rw [List.drop_drop, List.drop_drop, List.drop_drop, List.drop_drop] at this
     rw [List.drop_drop, List.drop_drop]
     exact this
    ·rw [drop_set', V_take_set (by simp; omega), hVy, hVx, Int.pow_succ]
     have h10 := Int.mul_ediv_add_emod (x + w + k) 4294967296
     generalize (x + w + k) / 4294967296 = pq at *
     generalize (x + w + k) % 4294967296 = pr at *
     generalize (4294967296 : Int) ^ i = bi at *
     have e8 : pr = x + w + k - 4294967296 * pq := by omega
     rw [e8]
     have e9 : V 4294967296 ((z.drop off).take i) = V 4294967296 ((z2.drop off).take i) + V 4294967296 (y.take i) - k * bi := by omega
     rw [e9]
     grind
   ·have hi : i = m + 2 := by simp at h; omega
    subst hi
    rw [List.take_of_length_le (show y.length ≤ m + 2 by omega), hYY, hbn] at hV
    have hxn : nth z (off + (m + 2)) = 4294967295 := by
     rw [← hD2n, ← nth_drop']
     have := congrArg (fun l => nth l 0) hD
     simpa [nth_drop'] using this
    have hV2 := V_nonneg (b := 4294967296) (by decide) ((lz4.drop off).take (m + 2))
    have hV3 := V_lt (b := 4294967296) (by decide) ((lz4.drop off).take (m + 2))
    rw [List.length_take, Nat.min_eq_left (by simp; omega), hbn] at hV3
    have hk1 : k = 1 := by
     rcases hk with rfl | rfl
     ·exfalso; omega
     ·rfl
    subst hk1
    have hoi3 : off + (m + 2) < z.length := by omega
    have hwc : IntKind.u32.wrap 4294967296 = 0 := rfl
    have hwg : IntKind.u32.wrap g = g := wrap_u32 g0 g1
    refine W.exit ?_; simp only [pX, if_true, if_false, reduceIte, Nat.reduceEqDiff]
    refine W.sreg (fun K hK => ?_)
    simp (disch := omega) [gA, wA, hr3, a3, hxn, hoi3, hwc]
    refine W.lv [9] hK fun J j => ?_; clear hK K; simp; refine j _ ?_; clear j J
    refine W.sreg (fun K hK => ?_); simp (disch := omega) [gA, wA, hwg]; refine W.lv [4] hK fun J j => ?_; clear hK K; simp; refine j _ ?_; clear j J
    refine W.ret ?_
    refine ⟨(z.drop off).set (m + 2) 0, by simp [hq1], ?_, rfl, by simp; omega, (lz4.drop off).set ⟨by omega, by omega⟩, ?_, ?_⟩
    ·have hzz : z.set (off + (m + 2)) 0 = zl.take off ++ (z.drop off).set (m + 2) 0 := by
      rw [← drop_set', ← hP, ← take_set_ge (l := z) (i := off + (m + 2)) (x := 0) (show off ≤ off + (m + 2) by omega), List.take_append_drop]
     rw [hzz]
     funext j
     by_cases hj : j = id
     ·subst hj; simp
     ·simp [hj, hro3 j hj, upd]
    ·rw [List.drop_set_of_lt (by omega), ← hz2d]
     have := congrArg (List.drop 1) hD
     rw [List.drop_drop, List.drop_drop, List.drop_drop, List.drop_drop] at this
     rw [List.drop_drop, List.drop_drop]
     exact this
    ·rw [show m + 3 = (m + 2) + 1 from rfl, V_take_set (by simp; omega), hbn, ← hq2]
     omega
  ·have hs63 : s / 9223372036854775808 = 0 := by omega
   have hnn2 : 0 ≤ X - g * Y := by
    rw [hXg]
    have := Int.mul_nonneg (show 0 ≤ bn by omega) hpos
    omega
   obtain ⟨hq1, hq2⟩ := hKD.right hgX hnn2
   refine W.sreg (fun K hK => ?_); simp (disch := omega) [gA, wA, hs63]; refine W.lv [0, 1, 5, 9, 129] hK fun J j => ?_; clear hK K; simp; refine j _ ?_; clear j J
   refine W.cond ⟨_, rfl, fun h => ?_, fun h => ?_⟩
   ·have hwg : IntKind.u32.wrap g = g := wrap_u32 g0 g1
    refine W.sreg (fun K hK => ?_); simp (disch := omega) [gA, wA, hwg]; refine W.lv [4] hK fun J j => ?_; clear hK K; simp; refine j _ ?_; clear j J
    refine W.ret ?_
    refine ⟨(z.drop off).set (m + 2) (s % 4294967296), by simp [hq1], ?_, rfl, by simp; omega, hD2, hz2d, ?_⟩
    ·have hzz : z.set (off + (m + 2)) (s % 4294967296) = zl.take off ++ (z.drop off).set (m + 2) (s % 4294967296) := by
      rw [← hz2t, ← hD2l, List.take_append_drop]
     rw [hzz]
     funext j
     by_cases hj : j = id
     ·subst hj; simp
     ·simp [hj, hro j hj, upd]
    ·rw [show m + 3 = (m + 2) + 1 from rfl, V_take_set (by simp; omega), hbn, ← hq2, hXg]
     have : s % 4294967296 = xc - c - β := by omega
     rw [this]
   ·cases h
end Go.Proofs.YtdiladmkbpnhoaaGreat
