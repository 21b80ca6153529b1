import Derived.Test.YtdiladmkbpnhoaaGreatLgn
set_option linter.unusedSimpArgs false
set_option linter.unusedVariables false
namespace Go.Proofs.YtdiladmkbpnhoaaGreat
open Go Pm
open ZX hiding N W
theorem qmk_quot {n d : Int} (h : d ≠ 0) : qmk n d = (n : Rat) / d := by rw [qmk, if_neg h, Rat.divInt_eq_div]
theorem qmk_eq {n d : Int} (h : d ≠ 0) {q : Rat} (e : (n : Rat) = q * d) : qmk n d = q := by
 have hd : (d : Rat) ≠ 0 := fun h0 => h (Rat.intCast_eq_zero_iff.1 h0)
 rw [qmk_quot h, e, Rat.mul_div_cancel hd]
theorem num_den (q : Rat) : ((q.num : Int) : Rat) = q * ((q.den : Int) : Rat) := by
 have hd : (0 : Rat) < ((q.den : Int) : Rat) := Rat.intCast_pos.2 (by have := q.den_pos; omega)
 have h1 : q = (q.num : Rat) / ((q.den : Int) : Rat) := by
  rw [← Rat.divInt_eq_div, Rat.num_divInt_den]
 have h2 := Rat.div_mul_cancel (a := (q.num : Rat)) (Rat.ne_of_gt hd)
 rw [← h1] at h2
 exact h2.symm
theorem rMk_ret {n d : Int} (hn : sz LL n < 1099511627770) (hd : sz LL d < 1099511627770) (h0 : d ≠ 0) : Ret env.P 132 [I n, I d] (.tup [RT (qmk n d), .int .i64 0]) := by
 have n1 := wNormI (x := d) (by show _ < _; omega)
 have n2 := wNormI (x := n) (by show _ < _; omega)
 have z1 := ZeroJ_ret d
 have l1 := lowest_ret hn hd h0
 rw [show decide (d = 0) = false from decide_eq_false h0] at z1
 show Ret env.P _ _ (.tup [T2 (qmk n d).num (qmk n d).den, _])
 replace l1 : Ret env.P 200 [I n, I d] (T2 (qmk n d).num (qmk n d).den) := l1
 generalize (qmk n d).num = rn at *
 generalize ((qmk n d).den : Int) = rd at *
 refine ret_of_Wf (E := env) (fun _ => 0) [(0, I n), (1, I d)] Tryz.func132 rfl (by kernel_rfl) (by kernel_rfl) (show 2 ≤ 15 by decide) (by simp) ?_
 refine W.sreg (fun K hK => ?_); simp (disch := omega) [gA, wA]; refine W.lv [2, 3, 4] hK fun J j => ?_; clear hK K; simp; refine j _ ?_; clear j J
 refine W.seq ?_
 refine W.sreg (fun K hK => ?_)
 simp (disch := omega) [gA, wA]
 refine callR n1 ?_
 simp (disch := omega) [gA, wA]
 refine W.lv [2, 3, 4] hK fun J j => ?_; clear hK K; simp; refine j _ ?_; clear j J
 refine W.sreg (fun K hK => ?_)
 simp (disch := omega) [gA, wA]
 refine callR z1 ?_
 simp (disch := omega) [gA, wA]
 refine W.lv [2, 3, 4, 9] hK fun J j => ?_; clear hK K; simp; refine j _ ?_; clear j J
 refine W.cond ⟨_, rfl, fun h => ?_, fun h => ?_⟩
 ·simp at h
 refine W.skip ?_
 refine W.sdrw (fun K hK => ?_)
 simp (maxSteps := 4000000) (disch := omega) [gA, wA]
 refine callR n2 ?_
 simp (maxSteps := 4000000) (disch := omega) [gA, wA]
 refine callR l1 ?_
 simp (maxSteps := 4000000) (disch := omega) [gA, wA]
 (try (refine stepTxt (of_decide_eq_true (by kernel_rfl)) ?_)); (try simp (maxSteps := 4000000) (disch := omega) [gA, wA]); (repeat rw [if_pos (by kernel_rfl)]); (try simp (maxSteps := 4000000) (disch := omega) [gA, wA])
 refine W.lv [4, 5] hK fun J j => ?_; clear hK K; simp; refine j _ ?_; clear j J
 refine W.ret ?_
 simp [go]
theorem mid_eq (p q : Rat) : qmk (p.num * q.den + q.num * p.den) (p.den * q.den * 2) = (p + q) / 2 := by
 have h1 : ((p.den : Int) * q.den * 2) ≠ 0 := by
  have := p.den_nz; have := q.den_nz
  refine Int.mul_ne_zero (Int.mul_ne_zero ?_ ?_) (by decide) <;> omega
 refine qmk_eq h1 ?_
 rw [Rat.intCast_add, Rat.intCast_mul, Rat.intCast_mul, Rat.intCast_mul, Rat.intCast_mul, num_den p, num_den q]
 have h2 : (p + q) / 2 * 2 = p + q := Rat.div_mul_cancel (by decide)
 show _ = (p + q) / 2 * (((p.den : Int) : Rat) * ((q.den : Int) : Rat) * 2)
 generalize (p + q) / 2 = m at *
 grind
theorem rMid_ret {p q : Rat} {k : Nat} (hp : sz LL p.num ≤ k ∧ sz LL (p.den : Int) ≤ k) (hq : sz LL q.num ≤ k ∧ sz LL (q.den : Int) ≤ k) (hk : k ≤ 300000000000) : Ret env.P 150 [RT p, RT q] (RT ((p + q) / 2)) := by
 have c1 := cross_ret hp.1 hp.2 hq.1 hq.2 (by omega) (qmk_self p) (qmk_self q) hp hq
 have g1 := sz_mul (b := LL) hLL hp.1 hq.2
 have g2 := sz_mul (b := LL) hLL hq.1 hp.2
 have g3 := sz_mul (b := LL) hLL hp.2 hq.2
 have s2 : sz LL 2 ≤ 1 := sz_le (k := 1) hLL (by decide)
 have g4 := sz_mul (b := LL) hLL g3 s2
 have g5 := sz_add (b := LL) hLL (Nat.le_trans g1 (show k + k ≤ k + k from Nat.le_refl _)) (Nat.le_trans g2 (show k + k ≤ k + k from Nat.le_refl _))
 have a1 := wAddI (x := p.num * q.den) (y := q.num * p.den) (by show _ < _; omega) (by show _ < _; omega)
 have o1 := Of_ret 2 (by decide) (by decide)
 have m1 := wMulI (x := (p.den : Int) * q.den) (y := 2) (by show _ < _; omega) (by show _ < _; omega)
 have h1 : ((p.den : Int) * q.den * 2) ≠ 0 := by
  have := p.den_nz; have := q.den_nz
  refine Int.mul_ne_zero (Int.mul_ne_zero ?_ ?_) (by decide) <;> omega
 have l1 := lowest_ret (n := p.num * q.den + q.num * p.den) (d := p.den * q.den * 2) (by omega) (by omega) h1
 rw [mid_eq] at l1
 show Ret env.P _ [T2 p.num p.den, T2 q.num q.den] (T2 ((p + q) / 2).num ((p + q) / 2).den)
 replace l1 : Ret env.P 200 [I (p.num * q.den + q.num * p.den), I (p.den * q.den * 2)] (T2 ((p + q) / 2).num ((p + q) / 2).den) := l1
 clear g1 g2 g3 g4 g5 h1 hp hq
 generalize ((p + q) / 2).num = rn at *
 generalize (((p + q) / 2).den : Int) = rd at *
 generalize p.num * (q.den : Int) + q.num * p.den = x4 at *
 generalize (p.den : Int) * q.den * 2 = x5 at *
 generalize p.num * (q.den : Int) = x1 at *
 generalize q.num * (p.den : Int) = x2 at *
 generalize (p.den : Int) * (q.den : Int) = x3 at *
 generalize p.num = pn at *
 generalize (p.den : Int) = pd at *
 generalize q.num = qn at *
 generalize (q.den : Int) = qd at *
 refine ret_of_Wf (E := env) (fun _ => 0) [(0, T2 pn pd), (1, T2 qn qd)] Tryz.func150 rfl (by kernel_rfl) (by kernel_rfl) (show 2 ≤ 22 by decide) (by simp) ?_
 refine W.sreg (fun K hK => ?_); simp (disch := omega) [gA, wA]; refine W.lv [2, 3, 4] hK fun J j => ?_; clear hK K; simp; refine j _ ?_; clear j J
 refine W.sreg (fun K hK => ?_)
 simp (disch := omega) [gA, wA]
 refine callR c1 ?_
 simp (disch := omega) [gA, wA]
 refine W.lv [4, 5, 6, 7] hK fun J j => ?_; clear hK K; simp; refine j _ ?_; clear j J
 refine W.sdrw (fun K hK => ?_)
 simp (maxSteps := 4000000) (disch := omega) [gA, wA]
 refine callR a1 ?_
 simp (maxSteps := 4000000) (disch := omega) [gA, wA]
 refine callR o1 ?_
 simp (maxSteps := 4000000) (disch := omega) [gA, wA]
 refine callR m1 ?_
 simp (maxSteps := 4000000) (disch := omega) [gA, wA]
 refine callR l1 ?_
 simp (maxSteps := 4000000) (disch := omega) [gA, wA]
 (try (refine stepTxt (of_decide_eq_true (by kernel_rfl)) ?_)); (try simp (maxSteps := 4000000) (disch := omega) [gA, wA]); (repeat rw [if_pos (by kernel_rfl)]); (try simp (maxSteps := 4000000) (disch := omega) [gA, wA])
 refine W.lv [4] hK fun J j => ?_; clear hK K; simp; refine j _ ?_; clear j J
 refine W.ret ?_
 simp [go]
theorem rNegT_ret {p : Rat} (hp : sz LL p.num < 1099511627770 ∧ sz LL (p.den : Int) < 1099511627770) : Ret env.P 137 [RT p] (RT (-p)) := by
 have n1 := rnorm_ret hp.1 hp.2
 rw [qmk_self] at n1
 have n2 := wNegI (x := p.num) (by show _ < _; omega)
 replace n1 : Ret env.P 201 [T2 p.num p.den] (T2 p.num p.den) := n1
 show Ret env.P _ [T2 p.num p.den] (T2 (-p).num (-p).den)
 rw [Rat.neg_num, Rat.neg_den]
 generalize -p.num = rn at *
 generalize p.num = pn at *
 generalize (p.den : Int) = pd at *
 refine ret_of_Wf (E := env) (fun _ => 0) [(0, T2 pn pd)] Tryz.func137 rfl (by kernel_rfl) (by kernel_rfl) (show 1 ≤ 10 by decide) (by simp) ?_
 refine W.sreg (fun K hK => ?_); simp (disch := omega) [gA, wA]; refine W.lv [1, 2] hK fun J j => ?_; clear hK K; simp; refine j _ ?_; clear j J
 refine W.sreg (fun K hK => ?_)
 simp (disch := omega) [gA, wA]
 refine callR n1 ?_
 simp (disch := omega) [gA, wA]
 refine W.lv [1, 2] hK fun J j => ?_; clear hK K; simp; refine j _ ?_; clear j J
 refine W.sreg (fun K hK => ?_)
 simp (disch := omega) [gA, wA]
 refine callR n2 ?_
 simp (disch := omega) [gA, wA]
 refine W.lv [1, 2] hK fun J j => ?_; clear hK K; simp; refine j _ ?_; clear j J
 refine W.sreg (fun K hK => ?_); simp (disch := omega) [gA, wA]; refine W.lv [2] hK fun J j => ?_; clear hK K; simp; refine j _ ?_; clear j J
 refine W.ret ?_
 simp [go]
theorem Half_ret {p q : Rat} (hp : ZR YY p) (hq : ZR YY q) (hs : ZR YY (p + q)) : Ret env.P 202 [RR p, RR q] (RR ((p + q) / 2)) := by
 have a1 := AddR_ret p q hp hq
 have o1 := OfR_ret 1 2 (by decide) (by decide)
 have m1 := MulR_ret (p + q) (qmk 1 2) hs ⟨by decide, by decide⟩
 have e : (p + q) * qmk 1 2 = (p + q) / 2 := by
  rw [show qmk 1 2 = (1 : Rat) / 2 by rw [qmk_quot (by decide)]; rfl]; grind
 rw [e] at m1
 rw [RR_R2] at *
 rw [RR_R2 q, RR_R2 (p + q), RR_R2 (qmk 1 2)] at *
 generalize (p + q) / 2 = m at *
 generalize p + q = s at *
 generalize qmk 1 2 = hf at *
 generalize p.num = pn at *
 generalize (p.den : Int) = pd at *
 generalize q.num = qn at *
 generalize (q.den : Int) = qd at *
 generalize s.num = sn at *
 generalize (s.den : Int) = sd at *
 generalize hf.num = fn at *
 generalize (hf.den : Int) = fd at *
 rw [RR_R2] at *
 generalize m.num = mn at *
 generalize (m.den : Int) = md at *
 refine ret_of_Wf (E := env) (fun _ => 0) [(0, R2 pn pd), (1, R2 qn qd)] Tryz.func202 rfl (by kernel_rfl) (by kernel_rfl) (show 2 ≤ 10 by decide) (by simp) ?_
 refine W.sreg (fun K hK => ?_); simp (disch := omega) [gA, wA]; refine W.lv [2, 3, 4] hK fun J j => ?_; clear hK K; simp; refine j _ ?_; clear j J
 refine W.sreg (fun K hK => ?_)
 simp (disch := omega) [gA, wA]
 refine callR a1 ?_
 simp (disch := omega) [gA, wA]
 refine callR o1 ?_
 simp (disch := omega) [gA, wA]
 refine callR m1 ?_
 simp (disch := omega) [gA, wA]
 refine W.lv [4] hK fun J j => ?_; clear hK K; simp; refine j _ ?_; clear j J
 refine W.ret ?_
 simp [go]
theorem rFromJ {d : Int} (h : sz LL d < 4294967296) : Ret env.P 40 [I d] (RI d) := by
 have h1 := rFrom_ret (decide (d < 0)) (dig LL d.natAbs) (by have : sz LL d = (dig LL d.natAbs).length := rfl; omega) (Lim_dig hLL _)
 rw [show iv (decide (d < 0)) (dig LL d.natAbs) = d from gv_rw d] at h1
 exact h1
theorem FromR_ret {p : Rat} (hp : sz LL p.num < 4294967296 ∧ sz LL (p.den : Int) < 4294967296) (hY : Y p.num ∧ Y (p.den : Int)) : Ret env.P 63 [RT p] (RR p) := by
 have f1 := rFromJ hp.1
 have f2 := rFromJ hp.2
 have m1 := Make_ret p.num p.den hY.1 hY.2
 rw [qmk_self, RR_R2] at m1
 rw [RR_R2]
 show Ret env.P _ [T2 p.num p.den] _
 replace f1 : Ret env.P 40 [I p.num] (RI p.num) := f1
 replace f2 : Ret env.P 40 [I (p.den : Int)] (RI (p.den : Int)) := f2
 generalize p.num = pn at *
 generalize (p.den : Int) = pd at *
 refine ret_of_Wf (E := env) (fun _ => 0) [(0, T2 pn pd)] Tryz.func63 rfl (by kernel_rfl) (by kernel_rfl) (show 1 ≤ 10 by decide) (by simp) ?_
 refine W.sreg (fun K hK => ?_); simp (disch := omega) [gA, wA]; refine W.lv [1, 2] hK fun J j => ?_; clear hK K; simp; refine j _ ?_; clear j J
 refine W.sdrw (fun K hK => ?_)
 simp (maxSteps := 4000000) (disch := omega) [gA, wA]
 refine callR f1 ?_
 simp (maxSteps := 4000000) (disch := omega) [gA, wA]
 refine callR f2 ?_
 simp (maxSteps := 4000000) (disch := omega) [gA, wA]
 refine callR m1 ?_
 simp (maxSteps := 4000000) (disch := omega) [gA, wA]
 (try (refine stepTxt (of_decide_eq_true (by kernel_rfl)) ?_)); (try simp (maxSteps := 4000000) (disch := omega) [gA, wA]); (repeat rw [if_pos (by kernel_rfl)]); (try simp (maxSteps := 4000000) (disch := omega) [gA, wA])
 refine W.lv [2] hK fun J j => ?_; clear hK K; simp; refine j _ ?_; clear j J
 refine W.ret ?_
 simp [go]
theorem SameR_ret {p : Rat} (zp : Z p.num) (zd : Z (p.den : Int)) : Ret env.P 61 [RR p, RT p] (.bool true) := by
 have f1 := rSameI zp
 have f2 := rSameI zd
 rw [RR_R2]
 show Ret env.P _ [R2 p.num p.den, T2 p.num p.den] _
 generalize p.num = pn at *
 generalize (p.den : Int) = pd at *
 refine ret_of_Wf (E := env) (fun _ => 0) [(0, R2 pn pd), (1, T2 pn pd)] Tryz.func61 rfl (by kernel_rfl) (by kernel_rfl) (show 2 ≤ 17 by decide) (by simp) ?_
 refine W.sreg (fun K hK => ?_); simp (disch := omega) [gA, wA]; refine W.lv [2, 3] hK fun J j => ?_; clear hK K; simp; refine j _ ?_; clear j J
 refine W.sreg (fun K hK => ?_)
 simp (disch := omega) [gA, wA]
 refine callR f1 ?_
 simp (disch := omega) [gA, wA]
 refine callR f2 ?_
 simp (disch := omega) [gA, wA]
 refine W.lv [4] hK fun J j => ?_; clear hK K; simp; refine j _ ?_; clear j J
 refine W.ret ?_
 simp [go]
end Go.Proofs.YtdiladmkbpnhoaaGreat
