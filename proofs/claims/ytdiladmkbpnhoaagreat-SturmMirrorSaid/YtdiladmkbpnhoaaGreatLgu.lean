import Derived.Test.YtdiladmkbpnhoaaGreatLgt
set_option linter.unusedSimpArgs false
set_option linter.unusedVariables false
namespace Go.Proofs.YtdiladmkbpnhoaaGreat
open Go Pm
open ZX hiding N W
theorem NegI_ret (x : Int) : Ret env.P 56 [.ag (ri x)] (.ag (ri (-x))) := by
 have h := NegR_ret (x : Rat)
 rw [show -((x : Int) : Rat) = ((-x : Int) : Rat) by simp, show RR ((x : Int) : Rat) = .ag (ri x) from congrArg PV.ag (re_int x), show RR ((-x : Int) : Rat) = .ag (ri (-x)) from congrArg PV.ag (re_int (-x))] at h
 exact h
theorem made_lay5 (l : List Int) : Lay 18 6 (made l 5) ∧ Lay 18 6 (mir (made l 5)) ∧ Lay 20 6 (made l 5 * K (-3)) ∧ Lay 35 11 (made l 5 * made l 5) := by
 obtain ⟨h1, h2⟩ := made_n1 l 5
 have h0 := (made_ok l 5).1
 have h3 : n1 (mir (made l 5)) = n1 (made l 5) := by
  show l1 (mirL (made l 5).l (made l 5).l.length) = l1 (made l 5).l
  have key : ∀ (x : List Int) (i : Nat), i ≤ x.length → l1 (mirL x i) = l1 (x.take i) := fun x i => by
   have app : ∀ (y : List Int) (c : Int), l1 (y ++ [c]) = l1 y + c.natAbs := fun y c => by simp [l1]
   induction i with
   | zero => intro _; rfl
   | succ i ih =>
    intro h
    rw [mirL, app, ih (by omega), take_succ_nth (by omega), app]
    split <;> simp
  rw [key _ _ (Nat.le_refl _), List.take_length]
 have h4 := n1_mul (made l 5) (K (-3))
 have h5 := n1_K (-3)
 have h6 := n1_mul (made l 5) (made l 5)
 have h7 : n1 (made l 5) * n1 (K (-3)) ≤ (3 * 9 ^ 5) * 3 := Nat.mul_le_mul h1 h5
 have h8 : n1 (made l 5) * n1 (made l 5) ≤ (3 * 9 ^ 5) * (3 * 9 ^ 5) := Nat.mul_le_mul h1 h1
 have h9 : 3 * 9 ^ 5 = 177147 := by decide
 rw [h9] at h1 h7 h8
 have e1 : (2 : Nat) ^ 18 = 262144 := by decide
 have e2 : (2 : Nat) ^ 20 = 1048576 := by decide
 have e3 : (2 : Nat) ^ 35 = 34359738368 := by decide
 refine ⟨⟨BZ.of_n1 (by omega) h2, by decide, by decide, by decide⟩, ⟨BZ.of_n1 (by omega) (by rw [N_mir]; exact h2), by decide, by decide, by decide⟩, ⟨BZ.of_n1 (by omega) ?_, by decide, by decide, by decide⟩, ⟨BZ.of_n1 (by omega) ?_, by decide, by decide, by decide⟩⟩
 ·rw [ZX.N_mul h0 (ZX.K_ne (by decide)), ZX.N_K (by decide)]; omega
 ·rw [ZX.N_mul h0 h0]; omega
set_option maxHeartbeats 4000000 in
theorem SturmMirror_ret (l : List Int) (n d : Int) (hb : ∀ x ∈ l, -9223372036854775808 ≤ x ∧ x < 9223372036854775808) (hl : l.length < 9223372036854775808) (hn : -9223372036854775808 ≤ n ∧ n < 9223372036854775808) (hd : -9223372036854775808 ≤ d ∧ d < 9223372036854775808) :
  Ret env.P 8 [sls i64e l, .int .i64 n, .int .i64 d] (.bool true) := by
 have hM := Made_ret l hl hb 5 (by decide)
 obtain ⟨y1, y2, y3, y4⟩ := made_lay5 l
 have h0 := (made_ok l 5).1
 have k1 := MK.of y1 h0 (by decide) (by decide)
 have k2 := MK.of y2 (mir_ne h0) (by decide) (by decide)
 have k3 := MK.of y3 (ZX.mul_ne h0 (ZX.K_ne (by decide))) (by decide) (by decide)
 have k4 := MK.of y4 (ZX.mul_ne h0 h0) (by decide) (by decide)
 have e3 : sq (made l 5 * K (-3)) = sq (made l 5) := by
  rw [show made l 5 * K (-3) = K (-3) * made l 5 by grind]; exact sq_K h0 (by decide)
 have N3 := k3.new
 have N4 := k4.new
 rw [e3] at N3
 rw [sq_sq h0] at N4
 have G1 := y1.glob h0 (by decide)
 have G2 := y2.glob (mir_ne h0) (by decide)
 have hf := (sq_two h0).1.ne
 obtain ⟨κ, hκ, hs⟩ := mir_sign hf
 rw [← sq_mir h0] at hs
 obtain ⟨q1, q2⟩ := mirror_counts G1 G2 hf hκ hs
 have hS := Small_ret n d hn hd
 have hq := sml_sq n d
 have hq2 := q2 (sml n d)
 have hz : (e (sml n d) (sq (made l 5)) = 0) ↔ sgA (made l 5).l (sml n d).num (sml n d).den = 0 := by
  rw [root_sq h0, sgA_sg3, sg3_eq_zero]
 have sg := qSign_ret (x := (made l 5).l) (n := (sml n d).num) (d := ((sml n d).den : Int)) (u := 5) y1.bz hq.n2 hq.d2 (by decide) (by decide) (by decide)
 have o3 : Ret env.P 43 [.sl [[.int .i64 (-3)]]] (Po [-3]) := pOf_ret [-3] (by decide) (by decide)
 have m3 := pMulI_ret (x := (made l 5).l) (y := [-3]) (bdL y1.bz) (s' := 1) (n' := 1) ⟨by decide, fun c hc => by
  simp only [List.mem_cons, List.not_mem_nil, or_false] at hc
  rcases hc with rfl; decide⟩ (by decide)
 have m4 := pMulI_ret (bdL y1.bz) (bdL y1.bz) (by decide)
 replace m3 : Ret env.P 46 [Po (made l 5).l, Po [-3]] (Po (made l 5 * K (-3)).l) := m3
 replace m4 : Ret env.P 46 [Po (made l 5).l, Po (made l 5).l] (Po (made l 5 * made l 5).l) := m4
 have qneg : SQ 5 (-sml n d) := ⟨by rw [Rat.neg_num]; unfold sz; rw [Int.natAbs_neg]; exact hq.n2, by rw [Rat.neg_den]; exact hq.d2, by decide⟩
 have t1 := hq.tor (by decide)
 have t2 := qneg.tor (by decide)
 have ng := NegR_ret (sml n d)
 have c1 := cCount_ret (c := chn (sq (made l 5))) (by have := k1.len; omega) (pbs k1.bd (by decide))
 have c2 := cCount_ret (c := chn (sq (mir (made l 5)))) (by have := k2.len; omega) (pbs k2.bd (by decide))
 have a1 := abov k1.bd k1.len hq (by decide)
 have a2 := abov k2.bd k2.len qneg (by decide)
 rw [q1] at c1
 have v1 := vt_le (chn (sq (made l 5))) (sml n d)
 have v2 := vt_le (chn (sq (mir (made l 5)))) (-sml n d)
 have v3 := vr_le (sgR (chn (sq (made l 5))))
 have v4 := vr_le (sgR (chn (sq (mir (made l 5)))))
 have v5 := vr_le (sgL (chn (sq (mir (made l 5)))))
 have l3 : (sgR (chn (sq (made l 5)))).length = (chn (sq (made l 5))).length := by simp [sgR]
 have l4 : (sgR (chn (sq (mir (made l 5))))).length = (chn (sq (mir (made l 5)))).length := by simp [sgR]
 have l5 : (sgL (chn (sq (mir (made l 5))))).length = (chn (sq (mir (made l 5)))).length := by simp [sgL]
 have hc1 := k1.len
 have hc2 := k2.len
 have hw := wakes8_ret
 have T1 := k1.to
 have T2' := k2.to
 have N1 := k1.new
 have N2 := k2.new
 have ml : (mir (made l 5)).l = mirL (made l 5).l (made l 5).l.length := rfl
 have hlen := y1.bz.len
 simp only [hz] at hq2
 rw [ml] at T2' N2
 clear q2 hs hκ G1 G2 y1 y2 y3 y4 k1 k2 k3 k4 e3 hf qneg hq q1 hz ml h0
 generalize sgA (made l 5).l (sml n d).num (sml n d).den = sv at *
 generalize chn (sq (made l 5)) = C at *
 generalize chn (sq (mir (made l 5))) = M at *
 generalize (made l 5 * K (-3)).l = al3 at *
 generalize (made l 5 * made l 5).l = al4 at *
 generalize (made l 5).l = al at *
 generalize vt C (sml n d) = vu at *
 generalize vt M (-sml n d) = mv at *
 generalize vr (sgR C) = vR at *
 generalize vr (sgR M) = mR at *
 generalize vr (sgL M) = mL at *
 generalize sml n d = u at *
 generalize -u = w at *
 have eq1 : (((vu : Int) - vR + (if sv = 0 then 1 else 0)) == ((mL : Int) - mR - ((mv : Int) - mR))) = true := by
  rw [beq_iff_eq]; omega
 have ng2 := fun i : Nat => NegI_ret (nth al i)
 have mS : ∀ i, mirL al (i + 1) = mirL al i ++ [if i % 2 = 1 then -nth al i else nth al i] := fun i => rfl
 have mlen := mirL_len al
 have m00 : mirL al 0 = [] := rfl
 rw [RR_R2, RR_R2] at ng
 rw [RR_R2] at hS t1 t2
 generalize hMf : mirL al = mf at *
 refine ret_of_Wf (E := env) (fun _ => 0) [(0, sls i64e l), (1, .int .i64 n), (2, .int .i64 d)] Tryz.func8 rfl (by kernel_rfl) (by kernel_rfl) (show 3 ≤ 162 by decide) (by simp) ?_
 refine W.sreg (fun K hK => ?_); simp (disch := omega) [gA, wA]; refine W.lv [0, 1, 2] hK fun J j => ?_; clear hK K; simp; refine j _ ?_; clear j J
 refine W.sreg (fun K hK => ?_)
 simp (disch := omega) [gA, wA]
 refine callR hM ?_
 simp (disch := omega) [gA, wA]
 refine W.lv [1, 2, 7] hK fun J j => ?_; clear hK K; simp; refine j _ ?_; clear j J
 refine W.sreg (fun K hK => ?_); simp (disch := omega) [gA, wA]; refine W.lv [1, 2, 7, 8] hK fun J j => ?_; clear hK K; simp; refine j _ ?_; clear j J
 refine W.nil 8 8 43 4 (by simp) (by decide) (fun K hK => ?_)
 refine W.lv [1, 2, 7, 8] hK fun J j => ?_; clear hK K; simp; refine j _ ?_; clear j J
 refine W.seq ?_
 refine W.sreg (fun K hK => ?_); simp (disch := omega) [gA, wA]; refine W.lv [1, 2, 7, 8, 27, 28] hK fun J j => ?_; clear hK K; simp; refine j _ ?_; clear j J
 refine W.block ?_
 refine W.loopG (fun k σ => ∃ (i ver : Nat) (rows : Pm.Rows) (clk : Nat), σ = ⟨fa [(1, .int .i64 n), (2, .int .i64 d), (7, PI al), (8, .own 8 ver 0 i), (27, .int .i64 al.length), (28, .int .i64 i)], rows, clk⟩ ∧ i + k = al.length ∧ rows 8 = some ⟨ver, 43, 4, emap ri (mf i)⟩) al.length ?_ ?_
 ·exact ⟨_, .refl, 0, _, _, _, rfl, by omega, by rw [m00]; simp [emap]⟩
 rintro k _ ⟨i, ver, rows, clk, rfl, hik, hr⟩
 have hil : (emap ri (mf i)).length = i := by simp [emap, mlen]
 refine W.sreg (fun K hK => ?_); simp (disch := omega) [gA, wA]; refine W.lv [1, 2, 7, 8, 27, 28, 29] hK fun J j => ?_; clear hK K; simp; refine j _ ?_; clear j J
 refine W.seq ?_
 refine W.cond ⟨_, rfl, fun h => ?_, fun h => ?_⟩
 ·have hi : i < al.length := by simp at h; omega
  have ngi := ng2 i
  have hap : emap ri (mf i) ++ [ri (if i % 2 = 1 then -nth al i else nth al i)] = emap ri (mf (i + 1)) := by rw [mS]; simp [emap]
  simp only [ri_def, dig_one] at hap
  refine W.skip ?_
  refine W.seq ?_
  refine W.block ?_
  refine W.sreg (fun K hK => ?_); simp (disch := omega) [gA, wA]; refine W.lv [1, 2, 7, 8, 9, 27, 28] hK fun J j => ?_; clear hK K; simp; refine j _ ?_; clear j J
  refine W.sreg (fun K hK => ?_); simp (disch := omega) [gA, wA, hi]; refine W.lv [1, 2, 7, 8, 9, 10, 27, 28] hK fun J j => ?_; clear hK K; simp; refine j _ ?_; clear j J
  refine W.seqJ (fun σ => ∃ (v10 e10 ver : Nat) (rows : Pm.Rows) (clk : Nat), σ = ⟨fa [(1, .int .i64 n), (2, .int .i64 d), (7, PI al), (8, .own 8 ver 0 i), (10, .ptr 10 v10 0 0), (27, .int .i64 al.length), (28, .int .i64 i)], rows, clk⟩ ∧ rows 8 = some ⟨ver, 43, 4, emap ri (mf i)⟩ ∧
   rows 10 = some ⟨v10, e10, 4, [ri (if i % 2 = 1 then -nth al i else nth al i)]⟩) ?_ ?_
  ·refine W.sreg (fun K hK => ?_); simp (disch := omega) [gA, wA]; refine W.lv [1, 2, 7, 8, 10, 27, 28, 37] hK fun J j => ?_; clear hK K; simp; refine j _ ?_; clear j J
   refine W.cond ⟨_, rfl, fun h => ?_, fun h => ?_⟩
   ·have h : i % 2 = 1 := by simp at h; omega
    rw [if_pos h]
    simp only [ri_def] at ngi ⊢
    refine W.reg (fun K hK => ?_)
    simp (disch := omega) [gA, wA]
    refine callR ngi ?_
    simp (disch := omega) [gA, wA]
    exact hK _ ⟨_, Gh_fa _ [1, 2, 7, 8, 10, 27, 28], _, _, _, _, _, rfl, by simp [hr]; try exact rfl, by simp; try exact rfl⟩
   ·have h : ¬ i % 2 = 1 := by simp at h; omega
    rw [if_neg h]
    refine W.skip ?_
    exact ⟨_, Gh_fa _ [1, 2, 7, 8, 10, 27, 28], _, _, _, _, _, rfl, by simp [hr]; try exact rfl, by simp; try exact rfl⟩
  rintro _ ⟨v10, e10, ver, rows, clk, rfl, hr, hr10⟩
  refine W.reg (fun K hK => ?_); simp (disch := omega) [gA, wA, hr10, hr, hil, hap]; refine W.lv [1, 2, 7, 8, 27, 28] hK fun J j => ?_; clear hK K; simp; refine j _ ?_; clear j J
  refine W.reg (fun K hK => ?_); simp (disch := omega) [gA, wA]
  refine hK _ ⟨k - 1, _, Gh_fa _ [1, 2, 7, 8, 27, 28], by omega, i + 1, _, _, _, rfl, by omega, by simp [hap]⟩
 ·have hi : i = al.length := by simp at h; omega
  subst hi
  refine W.exit ?_; simp only [pX, if_true, if_false, reduceIte, Nat.reduceEqDiff]
  have hz2 : List.take al.length (mf al.length) = mf al.length := by rw [List.take_of_length_le (by rw [mlen]; exact Nat.le_refl _)]
  refine W.sreg (fun K hK => ?_)
  simp (disch := omega) [gA, wA]
  refine callR T1 ?_
  simp (disch := omega) [gA, wA]
  refine W.lv [1, 2, 7, 8, 11] hK fun J j => ?_; clear hK K; simp; refine j _ ?_; clear j J
  refine W.sreg (fun K hK => ?_)
  simp (disch := omega) [gA, wA]
  refine callR N1 ?_
  simp (disch := omega) [gA, wA]
  refine W.lv [1, 2, 7, 8, 11, 12, 13] hK fun J j => ?_; clear hK K; simp; refine j _ ?_; clear j J
  refine W.sreg (fun K hK => ?_)
  simp (disch := omega) [gA, wA, hr, hil, hz2]
  refine callR T2' ?_
  simp (disch := omega) [gA, wA]
  refine callR N2 ?_
  simp (disch := omega) [gA, wA]
  refine W.lv [1, 2, 7, 11, 12, 13, 14, 15] hK fun J j => ?_; clear hK K; simp; refine j _ ?_; clear j J
  refine W.sreg (fun K hK => ?_)
  simp (disch := omega) [gA, wA]
  refine callR o3 ?_
  simp (disch := omega) [gA, wA]
  refine callR m3 ?_
  simp (disch := omega) [gA, wA]
  refine callR N3 ?_
  simp (disch := omega) [gA, wA]
  refine W.lv [1, 2, 7, 11, 12, 13, 14, 15, 16, 17] hK fun J j => ?_; clear hK K; simp; refine j _ ?_; clear j J
  refine W.sreg (fun K hK => ?_)
  simp (disch := omega) [gA, wA]
  refine callR m4 ?_
  simp (disch := omega) [gA, wA]
  refine callR N4 ?_
  simp (disch := omega) [gA, wA]
  refine W.lv [1, 2, 7, 12, 13, 14, 15, 16, 17, 18, 19] hK fun J j => ?_; clear hK K; simp; refine j _ ?_; clear j J
  refine W.seq ?_
  refine W.sreg (fun K hK => ?_)
  simp (disch := omega) [gA, wA]
  refine W.lv [1, 2, 7, 12, 14, 16, 18, 102] hK fun J j => ?_; clear hK K; simp; refine j _ ?_; clear j J
  refine W.cond ⟨_, rfl, fun h => ?_, fun h => ?_⟩
  ·simp at h
  refine W.skip ?_
  refine W.sreg (fun K hK => ?_)
  simp (disch := omega) [gA, wA]
  refine callR hS ?_
  simp (disch := omega) [gA, wA]
  refine W.lv [7, 12, 14, 16, 18, 20] hK fun J j => ?_; clear hK K; simp; refine j _ ?_; clear j J
  refine W.sdrw (fun K hK => ?_)
  simp (maxSteps := 4000000) (disch := omega) [gA, wA]
  refine callR t1 ?_
  simp (maxSteps := 4000000) (disch := omega) [gA, wA]
  refine callR ng ?_
  simp (maxSteps := 4000000) (disch := omega) [gA, wA]
  refine callR t2 ?_
  simp (maxSteps := 4000000) (disch := omega) [gA, wA]
  (try (refine stepTxt (of_decide_eq_true (by kernel_rfl)) ?_)); (try simp (maxSteps := 4000000) (disch := omega) [gA, wA]); (repeat rw [if_pos (by kernel_rfl)]); (try simp (maxSteps := 4000000) (disch := omega) [gA, wA])
  (try (refine stepTxt (of_decide_eq_true (by kernel_rfl)) ?_)); (try simp (maxSteps := 4000000) (disch := omega) [gA, wA]); (repeat rw [if_pos (by kernel_rfl)]); (try simp (maxSteps := 4000000) (disch := omega) [gA, wA])
  refine W.lv [7, 12, 14, 16, 18, 20, 21, 22] hK fun J j => ?_; clear hK K; simp; refine j _ ?_; clear j J
  refine W.sreg (fun K hK => ?_); simp (disch := omega) [gA, wA]; refine W.lv [7, 12, 14, 16, 18, 20, 21, 22, 23] hK fun J j => ?_; clear hK K; simp; refine j _ ?_; clear j J
  refine W.seqJ (fun σ => ∃ (v21 e21 v22 e22 : Nat) (rows : Pm.Rows) (clk : Nat), σ = ⟨fa [(12, CH C), (14, CH M), (16, CH C), (18, CH C), (21, .ptr 21 v21 0 0), (22, .ptr 22 v22 0 0), (23, .int .i64 (if sv = 0 then 1 else 0))], rows, clk⟩ ∧ rows 21 = some ⟨v21, e21, 4, [[.bool (decide (u.num < 0)), us (dig LL u.num.natAbs), .bool (decide ((u.den : Int) < 0)), us (dig LL (u.den : Int).natAbs)]]⟩ ∧ rows 22 = some ⟨v22, e22, 4, [[.bool (decide (w.num < 0)), us (dig LL w.num.natAbs), .bool (decide ((w.den : Int) < 0)), us (dig LL (w.den : Int).natAbs)]]⟩) ?_ ?_
  ·refine W.sreg (fun K hK => ?_)
   simp (disch := omega) [gA, wA]
   refine callR sg ?_
   simp (disch := omega) [gA, wA]
   refine W.lv [12, 14, 16, 18, 21, 22, 23, 114] hK fun J j => ?_; clear hK K; simp; refine j _ ?_; clear j J
   refine W.cond ⟨_, rfl, fun h => ?_, fun h => ?_⟩
   ·have h : sv = 0 := by simpa using h
    rw [if_pos h]
    refine W.reg (fun K hK => ?_); simp (disch := omega) [gA, wA]
    exact hK _ ⟨_, Gh_fa _ [12, 14, 16, 18, 21, 22, 23], _, _, _, _, _, _, rfl, by simp; exact rfl, by simp; try exact rfl⟩
   ·have h : ¬ sv = 0 := by simpa using h
    rw [if_neg h]
    refine W.skip ?_
    exact ⟨_, Gh_fa _ [12, 14, 16, 18, 21, 22, 23], _, _, _, _, _, _, rfl, by simp; exact rfl, by simp; try exact rfl⟩
  rintro _ ⟨v21, e21, v22, e22, rows, clk, rfl, hr21, hr22⟩
  have hzb : (0 : Int) ≤ (if sv = 0 then 1 else 0) ∧ (if sv = 0 then 1 else 0 : Int) ≤ 1 := by split <;> decide
  generalize (if sv = 0 then 1 else 0 : Int) = zv at *
  simp only [RT, T2] at a1 a2
  refine W.sdrw (fun K hK => ?_)
  simp (disch := omega) [gA, wA, hr21, hr22]
  refine callR c1 ?_
  simp (disch := omega) [gA, wA, hr21, hr22]
  refine callR c2 ?_
  simp (disch := omega) [gA, wA, hr21, hr22]
  refine callR a1 ?_
  simp (disch := omega) [gA, wA, hr21, hr22]
  refine callR c2 ?_
  simp (disch := omega) [gA, wA, hr21, hr22]
  refine callR a2 ?_
  simp (disch := omega) [gA, wA, hr21, hr22, eq1]
  refine callR a1 ?_
  simp (disch := omega) [gA, wA, hr21, hr22]
  refine callR a1 ?_
  simp (disch := omega) [gA, wA, hr21, hr22]
  refine callR a1 ?_
  simp (disch := omega) [gA, wA, hr21, hr22]
  refine callR a1 ?_
  simp (disch := omega) [gA, wA, hr21, hr22]
  refine callR c1 ?_
  simp (disch := omega) [gA, wA, hr21, hr22]
  refine callR c1 ?_
  simp (disch := omega) [gA, wA, hr21, hr22]
  refine callR hw ?_
  simp (disch := omega) [gA, wA, hr21, hr22]
  refine W.lv [6] hK fun J j => ?_; clear hK K; simp; refine j _ ?_; clear j J
  refine W.ret ?_
  simp [go]
end Go.Proofs.YtdiladmkbpnhoaaGreat
