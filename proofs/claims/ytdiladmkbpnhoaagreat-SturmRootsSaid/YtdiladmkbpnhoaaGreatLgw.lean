import Derived.Test.YtdiladmkbpnhoaaGreatLgv
set_option linter.unusedSimpArgs false
set_option linter.unusedVariables false
namespace Go.Proofs.YtdiladmkbpnhoaaGreat
open Go Pm
open ZX hiding N W
theorem cmp3_zero_rat (p q : Rat) : (cmp3 (p.num * q.den) (q.num * p.den) = 0) ↔ p = q := by
 rw [Pm.cmp3_zero, Rat.eq_iff_mul_eq_mul]
theorem cmp3_pos_rat (p q : Rat) : (0 < cmp3 (p.num * q.den) (q.num * p.den)) ↔ q < p := by
 rw [Pm.cmp3_pos, Rat.lt_iff]
set_option maxHeartbeats 4000000 in
theorem SturmRoots_ret (l : List Int) (n d : Int) (hb : ∀ x ∈ l, -9223372036854775808 ≤ x ∧ x < 9223372036854775808) (hl : l.length < 9223372036854775808) (hn : -9223372036854775808 ≤ n ∧ n < 9223372036854775808) (hd : -9223372036854775808 ≤ d ∧ d < 9223372036854775808) :
  Ret env.P 6 [sls i64e l, .int .i64 n, .int .i64 d] (.bool true) := by
 obtain ⟨J, hJ⟩ : ∃ J, J = min 4 (l.length / 3) := ⟨_, rfl⟩
 obtain ⟨B, hB⟩ : ∃ B, B = decide (n % 3 = 0) := ⟨_, rfl⟩
 obtain ⟨f0, fL⟩ := kq_facts l (j := J) (by omega) B
 have mk := MK.of fL f0 (by decide) (by decide)
 obtain ⟨c0, c1⟩ := kq_all l (j := J) (by omega) B
 have hq := sml_sq n d
 have hq10 : SQ 7 (sml n d) := ⟨Nat.le_trans hq.n2 (by decide), Nat.le_trans hq.d2 (by decide), by decide⟩
 obtain ⟨c2, c3⟩ := c1 (sml n d)
 have hrange := (sml_range n d).2
 have c3 := c3 (by grind)
 have q100 : SQ 7 (100 : Rat) := ⟨by decide, by decide, by decide⟩
 have cc := cCount_ret (c := chn (sq (kq l J B))) (by have := mk.len; omega) (pbs mk.bd (by decide))
 have ab := abov mk.bd mk.len hq10 (by decide)
 have b1 := betw mk.bd mk.len hq10 q100 (by decide) (by grind)
 have b2 := betw0 mk.bd mk.len q100 hq10 (by decide)
 rw [if_pos (by grind)] at b2
 have b3 := betw mk.bd mk.len hq10 hq10 (by decide) Rat.le_refl
 rw [Int.sub_self] at b3
 rw [c0] at cc
 rw [c2] at ab
 rw [c3] at b1
 have hN := mk.new
 have hS := Small_ret n d hn hd
 have w3 := Within_ret n 3 hn (by decide) (by decide)
 have hw := wakes8_ret
 have o1 : Ret env.P 43 [.sl [[.int .i64 1]]] (Po (kp l 0).l) := pOne_ret
 have o3 : Ret env.P 43 [.sl [[.int .i64 1], [.int .i64 0], [.int .i64 1]]] (Po [1, 0, 1]) := pOf_ret [1, 0, 1] (by decide) (by decide)
 have r100 := OfR_ret 100 1 (by decide) (by decide)
 rw [show qmk 100 1 = 100 from by decide] at r100
 have tr := hq10.tor (by decide)
 have tf := q100.tor (by decide)
 have hll := kl_len l J
 have cpl : ∀ i, ((kl l J).take i).countP (fun r => decide (sml n d < r)) ≤ i := fun i => Nat.le_trans List.countP_le_length (by simp; omega)
 have hp1 : kp l 0 = 1 := rfl
 have hpm : ∀ j, j ≤ J → ∀ k : Nat, k ≤ 2 → Bd LL 32 11 (kp l j * linq (kr l (3 * j)) ^ k).l := fun j hj k hk => by
  obtain ⟨h1, h2, h3⟩ := kp_facts l j
  obtain ⟨g1, g2⟩ := kr_bd l (3 * j)
  have hl9 : n1 (linq (kr l (3 * j))) ≤ 9 := by
   unfold n1
   rw [linq_l, l1_cons, l1_cons, l1_nil, Int.natAbs_neg]; omega
  have h4 := n1_mul (kp l j) (linq (kr l (3 * j)) ^ k)
  have h5 := n1_pow hl9 k
  have h6 : 9 ^ k ≤ 9 ^ 2 := Nat.pow_le_pow_right (by decide) hk
  have h7 : 81 ^ j ≤ 81 ^ 4 := Nat.pow_le_pow_right (by decide) (by omega)
  have h8 := Nat.mul_le_mul (Nat.le_trans h3 h7) (Nat.le_trans h5 h6)
  have e1 : 81 ^ 4 * 9 ^ 2 = 3486784401 := by decide
  have e2 : (2 : Nat) ^ 32 = 4294967296 := by decide
  have hN : ∀ k : Nat, ZX.N (linq (kr l (3 * j)) ^ k) = k + 1 := fun k => by
   induction k with
   | zero => exact ZX.N_one
   | succ k ih => rw [pow_succ', ZX.N_mul (pow_ne (linq_ne _) k) (linq_ne _), ih, linq_N]; omega
  exact bdL (BZ.of_n1 (s := 32) (n := 11) (by omega) (by rw [ZX.N_mul h1 (pow_ne (linq_ne _) k), hN]; omega))
 have hMul : ∀ j, j ≤ J → ∀ k : Nat, k ≤ 1 → Ret env.P 46 [Po (kp l j * linq (kr l (3 * j)) ^ k).l, .sl [[.bool (decide (-(kr l (3 * j)).num < 0)), us (dig LL (-(kr l (3 * j)).num).natAbs)], [.bool (decide (((kr l (3 * j)).den : Int) < 0)), us (dig LL ((kr l (3 * j)).den : Int).natAbs)]]] (Po (kp l j * linq (kr l (3 * j)) ^ (k + 1)).l) := fun j hj k hk => by
  obtain ⟨g1, g2⟩ := kr_bd l (3 * j)
  have h1 : Bd LL 3 2 (linq (kr l (3 * j))).l := by
   rw [linq_l]
   refine ⟨by simp, fun c hc => ?_⟩
   simp only [List.mem_cons, List.not_mem_nil, or_false] at hc
   refine sz_le hLL (Nat.lt_of_lt_of_le (show c.natAbs < 2 ^ 3 from ?_) (Nat.pow_le_pow_left (by decide) _))
   rcases hc with rfl | rfl
   ·rw [Int.natAbs_neg]; omega
   ·omega
  have h2 := pMulI_ret (hpm j hj k (by omega)) h1 (by decide)
  have e1 : kp l j * linq (kr l (3 * j)) ^ (k + 1) = (kp l j * linq (kr l (3 * j)) ^ k) * linq (kr l (3 * j)) := by rw [pow_succ']; grind
  rw [e1]
  rw [linq_l] at h2
  have e2 : ((kp l j * linq (kr l (3 * j)) ^ k) * linq (kr l (3 * j))).l = pmul (kp l j * linq (kr l (3 * j)) ^ k).l [-(kr l (3 * j)).num, ((kr l (3 * j)).den : Int)] := by rw [← linq_l]; rfl
  rw [e2]
  exact h2
 have hMq : B = true → Ret env.P 46 [Po (kp l J).l, Po [1, 0, 1]] (Po (kq l J B).l) := fun h => by
  have h1 := hpm J (Nat.le_refl _) 0 (by omega)
  rw [show kp l J * linq (kr l (3 * J)) ^ 0 = kp l J by rw [pow_zero']; grind] at h1
  have h2 := pMulI_ret (y := [1, 0, 1]) h1 (s' := 1) (n' := 3) ⟨by decide, fun c hc => by
   simp only [List.mem_cons, List.not_mem_nil, or_false] at hc
   rcases hc with rfl | rfl | rfl <;> decide⟩ (by decide)
  have e1 : (kq l J B).l = pmul (kp l J).l [1, 0, 1] := by
   unfold kq; rw [if_pos h]
   show pmul (kp l J).l (cutR [1, 0, 1]) = _
   rw [show cutR [1, 0, 1] = [1, 0, 1] by decide]
  rw [e1]; exact h2
 have hMq2 : B = false → kq l J B = kp l J := fun h => by unfold kq; rw [if_neg (by rw [h]; decide)]
 have hkp : ∀ j, kp l (j + 1) = kp l j * linq (kr l (3 * j)) ^ km l (3 * j) := fun j => rfl
 have hp0 : ∀ j, (kp l j).l = (kp l j * linq (kr l (3 * j)) ^ 0).l := fun j => by rw [pow_zero']; congr 1; grind
 have hkl : ∀ j, kl l (j + 1) = if kr l (3 * j) ∈ kl l j then kl l j else kl l j ++ [kr l (3 * j)] := fun j => rfl
 have hOf : ∀ i, i + 2 < l.length → Ret env.P 16 [.int .i64 (nth l i), .int .i64 13] (.int .i64 (nth l i % 13)) ∧ Ret env.P 16 [.int .i64 (nth l (i + 1)), .int .i64 3] (.int .i64 (nth l (i + 1) % 3)) ∧ Ret env.P 16 [.int .i64 (nth l (i + 2)), .int .i64 2] (.int .i64 (nth l (i + 2) % 2)) ∧
   Ret env.P 44 [.int .i64 (nth l i % 13 - 6), .int .i64 (1 + nth l (i + 1) % 3)] (RR (kr l i)) := fun i hi => by
  have h1 := Int.emod_nonneg (nth l i) (show (13 : Int) ≠ 0 by decide)
  have h2 := Int.emod_lt_of_pos (nth l i) (show (0 : Int) < 13 by decide)
  have h3 := Int.emod_nonneg (nth l (i + 1)) (show (3 : Int) ≠ 0 by decide)
  have h4 := Int.emod_lt_of_pos (nth l (i + 1)) (show (0 : Int) < 3 by decide)
  exact ⟨Within_ret _ 13 (hb _ (nth_mem (by omega))) (by decide) (by decide), Within_ret _ 3 (hb _ (nth_mem (by omega))) (by decide) (by decide), Within_ret _ 2 (hb _ (nth_mem (by omega))) (by decide) (by decide), OfR_ret _ _ (by omega) (by omega)⟩
 have hSQ : ∀ i, SQ 7 (kr l i) := fun i => by
  obtain ⟨g1, g2⟩ := kr_bd l i
  exact ⟨Nat.le_trans (sz_small (k := 3) (by omega)) (by decide), Nat.le_trans (sz_small (k := 3) (by omega)) (by decide), by decide⟩
 have hSQm : ∀ j, ∀ r ∈ kl l j, SQ 7 r := fun j r hr => by
  obtain ⟨i, _, rfl⟩ := (kl_mem l j r).1 hr
  exact hSQ _
 have hkll := kl_len l
 have hkl0 : kl l 0 = [] := rfl
 have lcmp := hq10
 have hJ4 : J ≤ 4 := by omega
 have hJl : ∀ j, j < J → 3 * j + 2 < l.length ∧ 3 * j < 12 := fun j hj => by omega
 have hJe : ∀ j, j ≤ J → (j < J ↔ (3 * j + 2 < l.length ∧ 3 * j < 12)) := fun j hj => by omega
 have hcnt := fun i => (kl l J).take i
 have hBt : B = true ↔ n % 3 = 0 := by rw [hB]; simp
 clear mk f0 fL c0 c2 c3 c1 hpm hrange
 generalize hQ : (kq l J B).l = qq at *
 generalize chn (sq (kq l J B)) = C at *
 generalize (sml n d) = u at *
 rw [RR_R2] at hS r100
 rw [RR_R2] at tr tf
 refine ret_of_Wf (E := env) (fun _ => 0) [(0, sls i64e l), (1, .int .i64 n), (2, .int .i64 d)] Tryz.func6 rfl (by kernel_rfl) (by kernel_rfl) (show 3 ≤ 169 by decide) (by simp) ?_
 refine W.sreg (fun K hK => ?_); simp (disch := omega) [gA, wA]; refine W.lv [0, 1, 2] hK fun J j => ?_; clear hK K; simp; refine j _ ?_; clear j J
 refine W.sreg (fun K hK => ?_)
 simp (disch := omega) [gA, wA]
 refine callR o1 ?_
 simp (disch := omega) [gA, wA]
 refine W.lv [0, 1, 2, 7] hK fun J j => ?_; clear hK K; simp; refine j _ ?_; clear j J
 refine W.sreg (fun K hK => ?_); simp (disch := omega) [gA, wA]; refine W.lv [0, 1, 2, 7, 8] hK fun J j => ?_; clear hK K; simp; refine j _ ?_; clear j J
 refine W.nil 8 8 43 4 (by simp) (by decide) (fun K hK => ?_)
 refine W.lv [0, 1, 2, 7, 8] hK fun J j => ?_; clear hK K; simp; refine j _ ?_; clear j J
 refine W.seq ?_
 refine W.sreg (fun K hK => ?_); simp (disch := omega) [gA, wA]; refine W.lv [0, 1, 2, 7, 8, 9] hK fun J j => ?_; clear hK K; simp; refine j _ ?_; clear j J
 refine W.block ?_
 refine W.loopG (fun k σ => ∃ (j ver : Nat) (rows : Pm.Rows) (clk : Nat), σ = ⟨fa [(0, sls i64e l), (1, .int .i64 n), (2, .int .i64 d), (7, Po (kp l j).l), (8, .own 8 ver 0 (kl l j).length), (9, .int .i64 (3 * (j : Int)))], rows, clk⟩ ∧ j + k = J ∧ rows 8 = some ⟨ver, 43, 4, emap re (kl l j)⟩) J ?_ ?_
 ·exact ⟨_, .refl, 0, _, _, _, rfl, by omega, by rw [hkl0]; simp [emap]⟩
 rintro k _ ⟨j, ver, rows, clk, rfl, hjk, hr⟩
 have hjJ : j ≤ J := by omega
 have hjl := hkll j
 have hell : (emap re (kl l j)).length = (kl l j).length := by simp [emap]
 refine W.seq ?_
 refine W.sregJ (fun σ => ∃ (b : Bool) (rows : Pm.Rows) (clk : Nat), σ = ⟨fa [(0, sls i64e l), (1, .int .i64 n), (2, .int .i64 d), (7, Po (kp l j).l), (8, .own 8 ver 0 (kl l j).length), (9, .int .i64 (3 * (j : Int))), (32, .bool b)], rows, clk⟩ ∧ (b = true ↔ j < J) ∧ rows 8 = some ⟨ver, 43, 4, emap re (kl l j)⟩) (fun K hK => ?_) ?_
 ·by_cases h1 : 3 * j + 2 < l.length
  ·have a1 : (3 * (j : Int)) + 2 < (l.length : Int) := by omega
   simp (disch := omega) [gA, wA, a1]
   exact hK _ _ (Gh_fa _ [0, 1, 2, 7, 8, 9, 32]) ⟨_, _, _, rfl, by rw [hJe j hjJ]; first | (rw [decide_eq_true_eq]; omega) | (constructor <;> intro q <;> first | (exfalso; omega) | cases q), by simp [hr]⟩
  ·have a1 : ¬ (3 * (j : Int)) + 2 < (l.length : Int) := by omega
   simp (disch := omega) [gA, wA, a1]
   exact hK _ _ (Gh_fa _ [0, 1, 2, 7, 8, 9, 32]) ⟨_, _, _, rfl, by rw [hJe j hjJ]; first | (rw [decide_eq_true_eq]; omega) | (constructor <;> intro q <;> first | (exfalso; omega) | cases q), by simp [hr]⟩
 rintro _ ⟨b, rows, clk, rfl, hb2, hr⟩
 refine W.cond ⟨_, rfl, fun h => ?_, fun h => ?_⟩
 ·have hj : j < J := hb2.1 h
  obtain ⟨hi1, hi2⟩ := hJl j hj
  obtain ⟨w1, w2, w3', w4⟩ := hOf (3 * j) hi1
  have hi0 : 3 * j < l.length := by omega
  have hi01 : 3 * j + 1 < l.length := by omega
  have ng := rNeg_ret (kr l (3 * j)).num
  have hs := hSQ (3 * j)
  have to1 := rTo_ret (-(kr l (3 * j)).num) (by have := hs.n2; simp only [Z, sz, Int.natAbs_neg] at *; omega)
  have to2 := rTo_ret ((kr l (3 * j)).den : Int) (by have := hs.d2; simp only [Z] at *; omega)
  have mm := fun k => hMul j hjJ k
  have hkpj := hkp j
  have hklj := hkl j
  have hp0j := hp0 j
  have hm2 := Int.emod_nonneg (nth l (3 * j + 2)) (show (2 : Int) ≠ 0 by decide)
  have hm3 := Int.emod_lt_of_pos (nth l (3 * j + 2)) (show (0 : Int) < 2 by decide)
  have hkm : km l (3 * j) = (nth l (3 * j + 2) % 2).toNat + 1 := rfl
  have hmem := hSQm j
  have e13 := Int.emod_nonneg (nth l (3 * j)) (show (13 : Int) ≠ 0 by decide)
  have e13' := Int.emod_lt_of_pos (nth l (3 * j)) (show (0 : Int) < 13 by decide)
  have e3 := Int.emod_nonneg (nth l (3 * j + 1)) (show (3 : Int) ≠ 0 by decide)
  have e3' := Int.emod_lt_of_pos (nth l (3 * j + 1)) (show (0 : Int) < 3 by decide)
  have t1 : ((3 * (j : Int))).toNat = 3 * j := by omega
  have t2 : ((3 * (j : Int)) + 1).toNat = 3 * j + 1 := by omega
  have t3 : ((3 * (j : Int)) + 2).toNat = 3 * j + 2 := by omega
  have hap : emap re (kl l j) ++ [[sls i64e (dig DD (kr l (3 * j)).num.natAbs), .bool (decide ((kr l (3 * j)).num < 0)), sls i64e (dig DD ((kr l (3 * j)).den : Int).natAbs), .bool (decide (((kr l (3 * j)).den : Int) < 0))]] = emap re (kl l j ++ [kr l (3 * j)]) := by
   have e1 : decide (((kr l (3 * j)).den : Int) < 0) = false := decide_eq_false (by omega)
   rw [e1]
   simp [emap, re_def]
  have hcmp : ∀ x ∈ kl l j, Ret env.P 47 [.ag [sls i64e (dig DD x.num.natAbs), .bool (decide (x.num < 0)), sls i64e (dig DD x.den), .bool false], R2 (kr l (3 * j)).num ((kr l (3 * j)).den : Int)] (.int .i64 (cmp3 (x.num * (kr l (3 * j)).den) ((kr l (3 * j)).num * x.den))) := fun x hx => by
   have := (hmem x hx).cmp hs (by decide)
   rw [RR_R2 (kr l (3 * j))] at this
   exact this
  have hcz := fun x => cmp3_zero_rat x (kr l (3 * j))
  generalize hfj : linq (kr l (3 * j)) = f at *
  generalize hrj : kr l (3 * j) = r at *
  rw [RR_R2] at w4
  clear hrj hfj hs
  generalize r.num = rn at *
  generalize (r.den : Int) = rd at *
  generalize -rn = rm at *
  refine W.skip ?_
  refine W.seq_blockJ (fun σ => ∃ (ver : Nat) (rows : Pm.Rows) (clk : Nat), σ = ⟨fa [(0, sls i64e l), (1, .int .i64 n), (2, .int .i64 d), (7, Po (kp l (j + 1)).l), (8, .own 8 ver 0 (kl l (j + 1)).length), (9, .int .i64 (3 * (j : Int)))], rows, clk⟩ ∧ rows 8 = some ⟨ver, 43, 4, emap re (kl l (j + 1))⟩) ?_ ?_
  ·refine W.sdrw (fun K hK => ?_)
   simp (disch := omega) [gA, wA, hi0, hi01, t1, t2]
   refine callR w1 ?_
   simp (disch := omega) [gA, wA, hi0, hi01, t1, t2]
   refine callR w2 ?_
   simp (disch := omega) [gA, wA, hi0, hi01, t1, t2]
   refine callR w4 ?_
   simp (disch := omega) [gA, wA]
   (try (refine stepTxt (of_decide_eq_true (by kernel_rfl)) ?_)); (try simp (maxSteps := 4000000) (disch := omega) [gA, wA]); (repeat rw [if_pos (by kernel_rfl)]); (try simp (maxSteps := 4000000) (disch := omega) [gA, wA])
   refine W.lv [0, 1, 2, 7, 8, 9, 10] hK fun J j => ?_; clear hK K; simp; refine j _ ?_; clear j J
   refine W.sdrw (fun K hK => ?_)
   simp (disch := omega) [gA, wA]
   refine callR ng ?_
   simp (disch := omega) [gA, wA]
   refine callR to1 ?_
   simp (disch := omega) [gA, wA]
   refine callR to2 ?_
   simp (disch := omega) [gA, wA]
   refine W.lv [0, 1, 2, 7, 8, 9, 10, 11] hK fun J j => ?_; clear hK K; simp; refine j _ ?_; clear j J
   refine W.seq ?_
   refine W.sreg (fun K hK => ?_); simp (disch := omega) [gA, wA]; refine W.lv [0, 1, 2, 7, 8, 9, 10, 11, 12] hK fun J j => ?_; clear hK K; simp; refine j _ ?_; clear j J
   refine W.block ?_
   refine W.loopG (fun m σ => ∃ (q v10 e10 ver : Nat) (rows : Pm.Rows) (clk : Nat), σ = ⟨fa [(0, sls i64e l), (1, .int .i64 n), (2, .int .i64 d), (7, Po (kp l j * f ^ q).l), (8, .own 8 ver 0 (kl l j).length), (9, .int .i64 (3 * (j : Int))), (10, .ptr 10 v10 0 0), (11, .slx [[.bool (decide (rm < 0)), us (dig LL rm.natAbs)], [.bool (decide (rd < 0)), us (dig LL rd.natAbs)]]), (12, .int .i64 q)], rows, clk⟩ ∧ q + m = km l (3 * j) ∧
    rows 8 = some ⟨ver, 43, 4, emap re (kl l j)⟩ ∧ rows 10 = some ⟨v10, e10, 4, [[sls i64e (dig DD rn.natAbs), .bool (decide (rn < 0)), sls i64e (dig DD rd.natAbs), .bool (decide (rd < 0))]]⟩) (km l (3 * j)) ?_ ?_
   ·exact ⟨_, .refl, 0, _, _, _, _, _, by rw [← hp0j]; rfl, by omega, by simp [hr]; try exact rfl, by simp; try exact rfl⟩
   rintro m _ ⟨q, v10, e10, ver, rows, clk, rfl, hqm, hr, hr10⟩
   refine W.seq ?_
   refine W.sreg (fun K hK => ?_)
   simp (disch := omega) [gA, wA, hi1, t3]
   refine callR w3' ?_
   simp (disch := omega) [gA, wA]
   refine W.lv [0, 1, 2, 7, 8, 9, 10, 11, 12, 64] hK fun J j => ?_; clear hK K; simp; refine j _ ?_; clear j J
   refine W.cond ⟨_, rfl, fun h => ?_, fun h => ?_⟩
   ·have hq : (q : Int) ≤ nth l (3 * j + 2) % 2 := by simpa using h
    have mq := mm q (by omega)
    refine W.skip ?_
    refine W.seq ?_
    refine W.block ?_
    refine W.reg (fun K hK => ?_)
    simp (disch := omega) [gA, wA]
    refine callR mq ?_
    simp (disch := omega) [gA, wA]
    refine W.lv [0, 1, 2, 7, 8, 9, 10, 11, 12] hK fun J j => ?_; clear hK K; simp; refine j _ ?_; clear j J
    refine W.reg (fun K hK => ?_); simp (disch := omega) [gA, wA]
    refine hK _ ⟨m - 1, _, Gh_fa _ [0, 1, 2, 7, 8, 9, 10, 11, 12], by omega, q + 1, v10, e10, ver, _, _, rfl, by omega, hr, hr10⟩
   ·have hq : ¬ (q : Int) ≤ nth l (3 * j + 2) % 2 := by simpa using h
    have hqe : q = km l (3 * j) := by omega
    rw [hqe, ← hkpj]
    refine W.exit ?_; simp only [pX, if_true, if_false, reduceIte, Nat.reduceEqDiff]
    refine W.sreg (fun K hK => ?_); simp (disch := omega) [gA, wA]; refine W.lv [0, 1, 2, 7, 8, 9, 10, 13] hK fun J j => ?_; clear hK K; simp; refine j _ ?_; clear j J
    refine W.seq ?_
    refine W.sreg (fun K hK => ?_); simp (disch := omega) [gA, wA, hr, hell]; refine W.lv [0, 1, 2, 7, 8, 9, 10, 13, 71, 72] hK fun J j => ?_; clear hK K; simp; refine j _ ?_; clear j J
    refine W.block ?_
    refine W.loopG (fun m σ => ∃ (q v10 e10 ver : Nat) (rows : Pm.Rows) (clk : Nat), σ = ⟨fa [(0, sls i64e l), (1, .int .i64 n), (2, .int .i64 d), (7, Po (kp l (j + 1)).l), (8, .own 8 ver 0 (kl l j).length), (9, .int .i64 (3 * (j : Int))), (10, .ptr 10 v10 0 0), (13, .bool (decide (r ∈ (kl l j).take q))), (71, .int .i64 (kl l j).length), (72, .int .i64 q)], rows, clk⟩ ∧ q + m = (kl l j).length ∧
     rows 8 = some ⟨ver, 43, 4, emap re (kl l j)⟩ ∧ rows 10 = some ⟨v10, e10, 4, [[sls i64e (dig DD rn.natAbs), .bool (decide (rn < 0)), sls i64e (dig DD rd.natAbs), .bool (decide (rd < 0))]]⟩) (kl l j).length ?_ ?_
    ·exact ⟨_, .refl, 0, _, _, _, _, _, by simp; first | rfl | exact ⟨rfl, rfl, rfl⟩, by omega, by simp [hr]; try rfl, by simp [hr10]; try rfl⟩
    rintro m _ ⟨q, v10, e10, ver, rows, clk, rfl, hqm, hr, hr10⟩
    refine W.sreg (fun K hK => ?_); simp (disch := omega) [gA, wA]; refine W.lv [0, 1, 2, 7, 8, 9, 10, 13, 71, 72, 73] hK fun J j => ?_; clear hK K; simp; refine j _ ?_; clear j J
    refine W.seq ?_
    refine W.cond ⟨_, rfl, fun h => ?_, fun h => ?_⟩
    ·have hq : q < (kl l j).length := by simp at h; omega
     have hx := nth_mem hq
     have cq := hcmp _ hx
     have hzq := hcz (nth (kl l j) q)
     have htk : r ∈ (kl l j).take (q + 1) ↔ (r ∈ (kl l j).take q ∨ nth (kl l j) q = r) := by
      rw [take_succ_nth hq]; simp [eq_comm]
     generalize cmp3 ((nth (kl l j) q).num * rd) (rn * (nth (kl l j) q).den) = cv at *
     refine W.skip ?_
     refine W.seq ?_
     refine W.block ?_
     refine W.sreg (fun K hK => ?_); simp (disch := omega) [gA, wA]; refine W.lv [0, 1, 2, 7, 8, 9, 10, 13, 14, 71, 72] hK fun J j => ?_; clear hK K; simp; refine j _ ?_; clear j J
     by_cases hin : r ∈ (kl l j).take q
     ·have e1 : decide (r ∈ (kl l j).take (q + 1)) = true := decide_eq_true (htk.2 (.inl hin))
      rw [decide_eq_true hin]
      refine W.drw (fun K hK => ?_)
      simp (disch := omega) [gA, wA]
      refine W.lv [0, 1, 2, 7, 8, 9, 10, 13, 71, 72] hK fun J j => ?_; clear hK K; simp; refine j _ ?_; clear j J
      refine W.reg (fun K hK => ?_); simp (disch := omega) [gA, wA]
      refine hK _ ⟨m - 1, _, Gh_fa _ [0, 1, 2, 7, 8, 9, 10, 13, 71, 72], by omega, q + 1, v10, e10, ver, _, _, by rw [e1]; rfl, by omega, hr, hr10⟩
     ·have e1 : decide (r ∈ (kl l j).take (q + 1)) = (cv == 0) := by
       rw [Bool.eq_iff_iff, decide_eq_true_eq, beq_iff_eq, htk, hzq]
       exact ⟨fun h => h.resolve_left hin, .inr⟩
      rw [decide_eq_false hin]
      refine W.drw (fun K hK => ?_)
      simp (disch := omega) [gA, wA, hr, hr10, hq]
      refine callR cq ?_
      simp (disch := omega) [gA, wA]
      refine W.lv [0, 1, 2, 7, 8, 9, 10, 13, 71, 72] hK fun J j => ?_; clear hK K; simp; refine j _ ?_; clear j J
      refine W.reg (fun K hK => ?_); simp (disch := omega) [gA, wA]
      refine hK _ ⟨m - 1, _, Gh_fa _ [0, 1, 2, 7, 8, 9, 10, 13, 71, 72], by omega, q + 1, v10, e10, ver, _, _, by rw [e1]; rfl, by omega, hr, hr10⟩
    ·have hq : q = (kl l j).length := by simp at h; omega
     subst hq
     rw [List.take_length]
     refine W.exit ?_; simp only [pX, if_true, if_false, reduceIte, Nat.reduceEqDiff]
     refine W.sreg (fun K hK => ?_); simp (disch := omega) [gA, wA]; refine W.lv [0, 1, 2, 7, 8, 9, 10, 87] hK fun J j => ?_; clear hK K; simp; refine j _ ?_; clear j J
     refine W.cond ⟨_, rfl, fun h => ?_, fun h => ?_⟩
     ·have hin : r ∉ kl l j := by simpa using h
      rw [if_neg hin] at hklj
      refine W.reg (fun K hK => ?_)
      simp (disch := omega) [gA, wA, hr10, hr, hell, hap]
      exact hK _ ⟨_, Gh_fa _ [0, 1, 2, 7, 8, 9], _, _, _, by rw [hklj, List.length_append]; exact rfl, by simp [hklj, hap]⟩
     ·have hin : r ∈ kl l j := by simpa using h
      rw [if_pos hin] at hklj
      refine W.skip ?_
      exact ⟨_, Gh_fa _ [0, 1, 2, 7, 8, 9], _, _, _, by rw [hklj]; exact rfl, by rw [hklj]; exact hr⟩
  rintro _ ⟨ver, rows, clk, rfl, hr⟩
  refine W.reg (fun K hK => ?_); simp (disch := omega) [gA, wA]
  refine hK _ ⟨k - 1, _, Gh_fa _ [0, 1, 2, 7, 8, 9], by omega, j + 1, ver, _, _, by congr 1, by omega, hr⟩
 ·have hj : j = J := by
   have : ¬ j < J := fun q => by rw [hb2.2 q] at h; cases h
   omega
  subst hj
  refine W.exit ?_; simp only [pX, if_true, if_false, reduceIte, Nat.reduceEqDiff]
  refine W.seqJ (fun σ => ∃ (ver : Nat) (rows : Pm.Rows) (clk : Nat), σ = ⟨fa [(1, .int .i64 n), (2, .int .i64 d), (7, Po qq), (8, .own 8 ver 0 (kl l j).length)], rows, clk⟩ ∧ rows 8 = some ⟨ver, 43, 4, emap re (kl l j)⟩) ?_ ?_
  ·refine W.sreg (fun K hK => ?_)
   simp (disch := omega) [gA, wA]
   refine callR w3 ?_
   simp (disch := omega) [gA, wA]
   refine W.lv [1, 2, 7, 8, 94] hK fun J j => ?_; clear hK K; simp; refine j _ ?_; clear j J
   refine W.cond ⟨_, rfl, fun h => ?_, fun h => ?_⟩
   ·have h : n % 3 = 0 := by simpa using h
    have mq := hMq (hBt.2 h)
    refine W.reg (fun K hK => ?_)
    simp (disch := omega) [gA, wA]
    refine callR o3 ?_
    simp (disch := omega) [gA, wA]
    refine callR mq ?_
    simp (disch := omega) [gA, wA]
    exact hK _ ⟨_, Gh_fa _ [1, 2, 7, 8], _, _, _, rfl, by simp [hr]⟩
   ·have h : ¬ n % 3 = 0 := by simpa using h
    have mq := hMq2 (by cases hBB : B with
     | false => rfl
     | true => exact absurd (hBt.1 hBB) h)
    rw [mq] at hQ
    rw [hQ]
    refine W.skip ?_
    exact ⟨_, Gh_fa _ [1, 2, 7, 8], _, _, _, rfl, by simp [hr]⟩
  rintro _ ⟨ver, rows, clk, rfl, hr⟩
  refine W.sreg (fun K hK => ?_)
  simp (disch := omega) [gA, wA]
  refine callR hN ?_
  simp (disch := omega) [gA, wA]
  refine W.lv [1, 2, 8, 15, 16] hK fun J j => ?_; clear hK K; simp; refine j _ ?_; clear j J
  refine W.seq ?_
  refine W.sreg (fun K hK => ?_)
  simp (disch := omega) [gA, wA]
  refine W.lv [1, 2, 8, 15, 109] hK fun J j => ?_; clear hK K; simp; refine j _ ?_; clear j J
  refine W.cond ⟨_, rfl, fun h => ?_, fun h => ?_⟩
  ·simp at h
  refine W.skip ?_
  refine W.sreg (fun K hK => ?_)
  simp (disch := omega) [gA, wA]
  refine callR hS ?_
  simp (disch := omega) [gA, wA]
  refine W.lv [8, 15, 17] hK fun J j => ?_; clear hK K; simp; refine j _ ?_; clear j J
  refine W.sreg (fun K hK => ?_); simp (disch := omega) [gA, wA]; refine W.lv [8, 15, 17, 18] hK fun J j => ?_; clear hK K; simp; refine j _ ?_; clear j J
  refine W.seq ?_
  have hell : (emap re (kl l j)).length = (kl l j).length := by simp [emap]
  refine W.sreg (fun K hK => ?_); simp (disch := omega) [gA, wA, hr, hell]; refine W.lv [8, 15, 17, 18, 114, 115] hK fun J j => ?_; clear hK K; simp; refine j _ ?_; clear j J
  refine W.block ?_
  have hcl := hkll j
  have hsm := hSQm j
  have hcmp : ∀ x ∈ kl l j, Ret env.P 47 [.ag [sls i64e (dig DD x.num.natAbs), .bool (decide (x.num < 0)), sls i64e (dig DD x.den), .bool false], R2 u.num (u.den : Int)] (.int .i64 (cmp3 (x.num * u.den) (u.num * x.den))) := fun x hx => by
   have := (hsm x hx).cmp lcmp (by decide)
   rw [RR_R2 u] at this
   exact this
  have hcp := fun x => cmp3_pos_rat x u
  refine W.loopG (fun m σ => ∃ (q v17 e17 ver : Nat) (rows : Pm.Rows) (clk : Nat), σ = ⟨fa [(8, .own 8 ver 0 (kl l j).length), (15, CH C), (17, .ptr 17 v17 0 0), (18, .int .i64 (((kl l j).take q).countP fun r => decide (u < r))), (114, .int .i64 (kl l j).length), (115, .int .i64 q)], rows, clk⟩ ∧ q + m = (kl l j).length ∧
   rows 8 = some ⟨ver, 43, 4, emap re (kl l j)⟩ ∧ rows 17 = some ⟨v17, e17, 4, [[sls i64e (dig DD u.num.natAbs), .bool (decide (u.num < 0)), sls i64e (dig DD (u.den : Int).natAbs), .bool (decide ((u.den : Int) < 0))]]⟩) (kl l j).length ?_ ?_
  ·exact ⟨_, .refl, 0, _, _, _, _, _, by simp; first | rfl | exact ⟨rfl, rfl, rfl⟩, by omega, by simp [hr]; try exact rfl, by simp; try exact rfl⟩
  rintro m _ ⟨q, v17, e17, ver, rows, clk, rfl, hqm, hr, hr17⟩
  have cq := cpl q
  refine W.sreg (fun K hK => ?_); simp (disch := omega) [gA, wA]; refine W.lv [8, 15, 17, 18, 114, 115, 116] hK fun J j => ?_; clear hK K; simp; refine j _ ?_; clear j J
  refine W.seq ?_
  refine W.cond ⟨_, rfl, fun h => ?_, fun h => ?_⟩
  ·have hq : q < (kl l j).length := by simp at h; omega
   have cc1 := hcmp _ (nth_mem hq)
   have hcq := hcp (nth (kl l j) q)
   have hs1 : ((kl l j).take (q + 1)).countP (fun r => decide (u < r)) = ((kl l j).take q).countP (fun r => decide (u < r)) + if u < nth (kl l j) q then 1 else 0 := by
    rw [take_succ_nth hq, List.countP_append, List.countP_singleton]
    simp
   generalize hcn : ((kl l j).take q).countP (fun r => decide (u < r)) = cn at *
   generalize cmp3 ((nth (kl l j) q).num * u.den) (u.num * (nth (kl l j) q).den) = cv at *
   refine W.skip ?_
   refine W.seq_blockJ (fun σ => ∃ (v17 e17 ver : Nat) (rows : Pm.Rows) (clk : Nat), σ = ⟨fa [(8, .own 8 ver 0 (kl l j).length), (15, CH C), (17, .ptr 17 v17 0 0), (18, .int .i64 (((kl l j).take (q + 1)).countP fun r => decide (u < r))), (114, .int .i64 (kl l j).length), (115, .int .i64 q)], rows, clk⟩ ∧
    rows 8 = some ⟨ver, 43, 4, emap re (kl l j)⟩ ∧ rows 17 = some ⟨v17, e17, 4, [[sls i64e (dig DD u.num.natAbs), .bool (decide (u.num < 0)), sls i64e (dig DD (u.den : Int).natAbs), .bool (decide ((u.den : Int) < 0))]]⟩) ?_ ?_
   ·refine W.sreg (fun K hK => ?_); simp (disch := omega) [gA, wA]; refine W.lv [8, 15, 17, 18, 19, 114, 115] hK fun J j => ?_; clear hK K; simp; refine j _ ?_; clear j J
    refine W.sdrw (fun K hK => ?_)
    simp (disch := omega) [gA, wA, hr, hr17, hq]
    refine callR cc1 ?_
    simp (disch := omega) [gA, wA]
    refine W.lv [8, 15, 17, 18, 114, 115, 124] hK fun J j => ?_; clear hK K; simp; refine j _ ?_; clear j J
    refine W.cond ⟨_, rfl, fun h => ?_, fun h => ?_⟩
    ·have h : 0 < cv := by simpa using h
     rw [if_pos (hcq.1 h)] at hs1
     refine W.reg (fun K hK => ?_); simp (disch := omega) [gA, wA]
     exact hK _ ⟨_, Gh_fa _ [8, 15, 17, 18, 114, 115], _, _, _, _, _, by rw [hs1]; rfl, by simp [hr]; try exact rfl, by simp [hr17]; try exact rfl⟩
    ·have h : ¬ 0 < cv := by simpa using h
     rw [if_neg (fun z => h (hcq.2 z))] at hs1
     refine W.skip ?_
     exact ⟨_, Gh_fa _ [8, 15, 17, 18, 114, 115], _, _, _, _, _, by rw [hs1]; rfl, by simp [hr]; try exact rfl, by simp [hr17]; try exact rfl⟩
   rintro _ ⟨v17, e17, ver, rows, clk, rfl, hr, hr17⟩
   refine W.reg (fun K hK => ?_); simp (disch := omega) [gA, wA]
   refine hK _ ⟨m - 1, _, Gh_fa _ [8, 15, 17, 18, 114, 115], by omega, q + 1, v17, e17, ver, _, _, rfl, by omega, hr, hr17⟩
  ·have hq : q = (kl l j).length := by simp at h; omega
   subst hq
   rw [List.take_length] at cq ⊢
   generalize (kl l j).countP (fun r => decide (u < r)) = cn at *
   refine W.exit ?_; simp only [pX, if_true, if_false, reduceIte, Nat.reduceEqDiff]
   refine W.sreg (fun K hK => ?_)
   simp (disch := omega) [gA, wA, hr17]
   refine callR tr ?_
   simp (disch := omega) [gA, wA]
   refine W.lv [8, 15, 18, 20] hK fun J j => ?_; clear hK K; simp; refine j _ ?_; clear j J
   refine W.sreg (fun K hK => ?_)
   simp (disch := omega) [gA, wA]
   refine callR r100 ?_
   simp (disch := omega) [gA, wA]
   refine callR tf ?_
   simp (disch := omega) [gA, wA]
   refine W.lv [8, 15, 18, 20, 21] hK fun J j => ?_; clear hK K; simp; refine j _ ?_; clear j J
   refine W.sreg (fun K hK => ?_)
   simp (disch := omega) [gA, wA]
   refine callR cc ?_
   simp (disch := omega) [gA, wA, hr, hell]
   refine callR ab ?_
   simp (disch := omega) [gA, wA]
   refine callR b1 ?_
   simp (disch := omega) [gA, wA]
   refine callR b2 ?_
   simp (disch := omega) [gA, wA]
   refine callR b3 ?_
   simp (disch := omega) [gA, wA]
   refine callR hw ?_
   simp (disch := omega) [gA, wA]
   refine W.lv [6] hK fun J j => ?_; clear hK K; simp; refine j _ ?_; clear j J
   refine W.ret ?_
   simp [go]
end Go.Proofs.YtdiladmkbpnhoaaGreat
