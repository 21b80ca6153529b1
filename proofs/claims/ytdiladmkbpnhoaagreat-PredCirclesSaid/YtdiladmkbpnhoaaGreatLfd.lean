import Derived.Test.YtdiladmkbpnhoaaGreatLcb
import Derived.Test.YtdiladmkbpnhoaaGreatLfc
set_option linter.unusedSimpArgs false
set_option linter.unusedVariables false
namespace Go.Proofs.YtdiladmkbpnhoaaGreat
open Go Pm
def CV.doc (c : CV) : List PV := PP (qd c.x c.d) :: PP (qd c.y c.d) :: c.cells
@[simp] theorem CV.doc_def {c : CV} : c.doc = [PP (qd c.x c.d), PP (qd c.y c.d), Po c.x, Po c.y, .bool (decide (c.d < 0)), sls u32 (dig LL c.d.natAbs)] := rfl
theorem scaleQ_qdD {D : Int} (h : D ≠ 0) {x : List Int} (cx : Cn x) : scaleQ (qd x D) (D : Rat) = qs x := by
 have h0 := cast_ne h
 have : (qd x D).map (fun q => q * (D : Rat)) = qs x := by
  simp only [qd, qs, List.map_map]
  congr 1
  funext v
  simp only [Function.comp_apply]
  rw [qmk_div h]
  exact Rat.div_mul_cancel h0
 rw [scaleQ, this, ← qd_one, cutQ_qd (by decide), show cutR x = x from cx]
theorem whole12_ret {x : List Int} {D : Int} {k n : Nat} (hD : D ≠ 0) (cx : Cn x) (hx : Bd 2 k n x) (hd : sz 2 D ≤ k) (hk : k ≤ YY) (hk1 : 1 ≤ k) (hn : n < 1099511627776) : Ret env.P 212 [PP (qd x D), RI D] (PI x) := by
 have o1 := rOf_ret 1 (by decide) (by decide)
 have m1 := MakeI_ret D (by show sz 2 D < 549755813888; have : YY = 137438953472 := rfl; omega)
 have s1 := qScale_ret (qd x D) (D : Rat) (QOK_qd hD hx hd hk hn) (ZR_int (Nat.le_trans hd hk) (by decide))
 rw [scaleQ_qdD hD cx, RR, re_int, PP_qs] at s1
 generalize qd x D = q at *
 refine ret_of_Wf (E := env) (fun _ => 0) [(0, PP q), (1, RI D)] Tryz.func212 rfl (by kernel_rfl) (by kernel_rfl) (show 2 ≤ 10 by decide) (by simp) ?_
 refine W.sreg (fun K hK => ?_); simp (disch := omega) [gA, wA]; refine W.lv [0, 3, 4] hK fun J j => ?_; clear hK K; simp; refine j _ ?_; clear j J
 refine W.sdrw (fun K hK => ?_)
 simp (disch := omega) [gA, wA]
 refine callR o1 ?_
 simp (disch := omega) [gA, wA]
 refine callR m1 ?_
 simp (disch := omega) [gA, wA]
 refine callR s1 ?_
 simp (disch := omega) [gA, wA]
 refine W.lv [4] hK fun J j => ?_; clear hK K; simp; refine j _ ?_; clear j J
 refine W.ret ?_
 simp [go]
theorem dnF_take {D : Nat} (hD : 0 < D) (x : List Int) (i : Nat) : dnF ((qd x D).take i) = (D / gcD D (x.take i) : Nat) := by
 rw [← dnF_qd hD, qd, ← List.map_take]
set_option maxHeartbeats 2000000 in
theorem normal12_ret {x y : List Int} {D : Nat} {k n : Nat} (hD : 0 < D) (cx : Cn x) (cy : Cn y) (hg : gcD D (x ++ y) = 1) (hx : Bd 2 k n x) (hy : Bd 2 k n y) (hd : sz 2 (D : Int) ≤ k) (hk : k ≤ 10000000000) (hk1 : 1 ≤ k) (hn : n < 500000000000) :
  Ret env.P 165 [PP (qd x D), PP (qd y D)] (.ag (CV.doc ⟨x, y, (D : Int)⟩)) := by
 have hY : YY = 137438953472 := rfl
 have hD0 : (D : Int) ≠ 0 := by omega
 have w1 := whole12_ret hD0 cx hx hd (by omega) hk1 (by omega)
 have w2 := whole12_ret hD0 cy hy hd (by omega) hk1 (by omega)
 have t1 := qTo_ret x (fun c hc => Nat.lt_of_le_of_lt (hx.sz c hc) (by omega)) (Nat.lt_of_le_of_lt hx.len (by omega))
 have t2 := qTo_ret y (fun c hc => Nat.lt_of_le_of_lt (hy.sz c hc) (by omega)) (Nat.lt_of_le_of_lt hy.len (by omega))
 have t3 := rTo_ret (D : Int) (Nat.lt_of_le_of_lt hd (by omega))
 have lx := hx.len
 have ly := hy.len
 have e0 : qd x D ++ qd y D = qd (x ++ y) D := by simp [qd]
 have hdn : ∀ i, 0 < dnF ((qd (x ++ y) D).take i) ∧ sz 2 (dnF ((qd (x ++ y) D).take i)) ≤ k := fun i => by
  rw [dnF_take hD]
  have h1 : gcD D ((x ++ y).take i) ∣ D := Nat.gcd_dvd_left _ _
  have h2 : 0 < D / gcD D ((x ++ y).take i) := Nat.div_pos (Nat.le_of_dvd hD h1) (Nat.pos_of_dvd_of_pos h1 hD)
  refine ⟨by omega, Nat.le_trans (sz_mono (by decide) ?_) hd⟩
  rw [Int.natAbs_natCast, Int.natAbs_natCast]
  exact Nat.div_le_self _ _
 have hden : ∀ q ∈ qd (x ++ y) D, sz 2 (q.den : Int) ≤ k := fun q hq => by
  simp only [qd, List.mem_map] at hq
  obtain ⟨v, hv, rfl⟩ := hq
  rw [qmk_pos_den hD]
  refine Nat.le_trans (sz_mono (by decide) ?_) hd
  rw [Int.natAbs_natCast, Int.natAbs_natCast]
  exact Nat.div_le_self _ _
 have hend : dnF (qd (x ++ y) D) = D := by rw [dnF_qd hD, hg, Nat.div_one]
 have hWl : (qd (x ++ y) D).length = x.length + y.length := by simp
 have hl1 : (qd x D).length = x.length := by simp
 have hl2 : (qd y D).length = y.length := by simp
 simp only [CV.doc_def]
 generalize qd (x ++ y) D = ww at *
 generalize qd x D = qx at *
 generalize qd y D = qy at *
 have o1 := rOf_ret 1 (by decide) (by decide)
 refine ret_of_Wf (E := env) (fun _ => 0) [(0, PP qx), (1, PP qy)] Tryz.func165 rfl (by kernel_rfl) (by kernel_rfl) (show 2 ≤ 48 by decide) (by simp) ?_
 refine W.sreg (fun K hK => ?_); simp (disch := omega) [gA, wA]; refine W.lv [0, 1, 4] hK fun J j => ?_; clear hK K; simp; refine j _ ?_; clear j J
 refine W.sreg (fun K hK => ?_)
 simp (disch := omega) [gA, wA]
 refine callR o1 ?_
 simp (disch := omega) [gA, wA]
 refine W.lv [0, 1, 4, 5] hK fun J j => ?_; clear hK K; simp; refine j _ ?_; clear j J
 refine W.sreg (fun K hK => ?_); simp (disch := omega) [gA, wA, e0, hl1, hl2]; refine W.lv [0, 1, 4, 5, 6] hK fun J j => ?_; clear hK K; simp; refine j _ ?_; clear j J
 refine W.seq ?_
 refine W.sreg (fun K hK => ?_); simp (disch := omega) [gA, wA]; refine W.lv [0, 1, 4, 5, 6, 14, 15] hK fun J j => ?_; clear hK K; simp; refine j _ ?_; clear j J
 refine W.block ?_
 refine W.loopG (fun q σ => ∃ (i v4 v10 : Nat) (d : Int) (v5 : Nat) (rows : Pm.Rows) (clk : Nat), σ = ⟨fa [(0, PP qx), (1, PP qy), (4, .ptr 4 v4 0 0), (5, .ptr 5 v5 0 0), (6, .own 10 v10 0 (x.length + y.length)), (14, .int .i64 ((x.length : Int) + (y.length : Int))), (15, .int .i64 i)], rows, clk⟩ ∧
  rows 4 = some ⟨v4, 57, 6, [[.nil, .nil, .nil, .nil, .bool false, .nil]]⟩ ∧ rows 5 = some ⟨v5, 41, 2, [[sls i64e (dig DD d.natAbs), .bool (decide (d < 0))]]⟩ ∧ rows 10 = some ⟨v10, 43, 4, emap re ww⟩ ∧
  q = x.length + y.length - i ∧ i ≤ x.length + y.length ∧ d = dnF (ww.take i)) (x.length + y.length) ?_ ?_
 ·exact ⟨_, .refl, 0, _, _, 1, _, _, _, rfl, by simp, by simp, by simp, by omega, by omega, by simp [dnF]⟩
 rintro q _ ⟨i, v4, v10, d, v5, rows, clk, rfl, hr4, hr5, hr10, hq, hi, hdv⟩
 refine W.sreg (fun K hK => ?_); simp (disch := omega) [gA, wA]; refine W.lv [0, 1, 4, 5, 6, 14, 15, 16] hK fun J j => ?_; clear hK K; simp; refine j _ ?_; clear j J
 refine W.seq ?_
 refine W.cond ⟨_, rfl, fun h => ?_, fun h => ?_⟩
 ·have hi : i < ww.length := by simp at h; omega
  obtain ⟨hdp, hdi⟩ := hdn i
  have hqd := hden _ (nth_mem hi)
  have hs := dnF_succ hi
  rw [← hdv] at hs hdi hdp
  have m1 := rMul_ret d (nth ww i).den (by simp only [Z]; omega) (by simp only [Z]; omega)
  have m2 := rGcd_ret d (nth ww i).den (by simp only [Y]; omega) (by simp only [Y]; omega)
  have zm := sz_mul (b := 2) (by decide) hdi hqd
  have hgp : 0 < Int.gcd d (nth ww i).den := Int.gcd_pos_of_ne_zero_left _ (by omega)
  have zg : Y (Int.gcd d (nth ww i).den : Int) := Ymono (y := d) (by simp only [Y]; omega) (by
   have := Int.le_of_dvd hdp (Int.gcd_dvd_left d ((nth ww i).den : Int)); omega)
  have m3 := rQuo_ret (d * (nth ww i).den) (Int.gcd d (nth ww i).den) (by omega) (by simp only [Y]; omega) zg
  rw [← hs] at m3
  rw [RI_den] at m1 m2
  generalize (Int.gcd d (nth ww i).den : Int) = gg at *
  generalize d * ((nth ww i).den : Int) = dd at *
  generalize hd2 : dnF (ww.take (i + 1)) = d2 at *
  generalize hqe : nth ww i = qe at *
  refine W.skip ?_
  refine W.seq ?_
  refine W.block ?_
  refine W.sreg (fun K hK => ?_); simp (disch := omega) [gA, wA]; refine W.lv [0, 1, 4, 5, 6, 7, 14, 15] hK fun J j => ?_; clear hK K; simp; refine j _ ?_; clear j J
  refine W.drw (fun K hK => ?_)
  simp (disch := omega) [gA, wA, hr5, hr10, hqe]
  refine callR m1 ?_
  simp (disch := omega) [gA, wA, hr5, hr10, hqe]
  refine callR m2 ?_
  simp (disch := omega) [gA, wA, hr5, hr10, hqe]
  refine callR m3 ?_
  simp (disch := omega) [gA, wA, hr5, hr10, hqe]
  refine stepTxt (by refine ⟨?_, ?_⟩ <;> kernel_rfl) ?_
  simp (disch := omega) [gA, wA]
  refine W.lv [0, 1, 4, 5, 6, 14, 15] hK fun J j => ?_; clear hK K; simp; refine j _ ?_; clear j J
  refine W.reg (fun K hK => ?_); simp (disch := omega) [gA, wA]
  refine hK _ ⟨x.length + y.length - (i + 1), _, Gh_fa _ [0, 1, 4, 5, 6, 14, 15], by omega, i + 1, v4, v10, d2, v5, _, _, rfl, by simp [hr4], by simp, by simp [hr10], by omega, by omega, hd2.symm⟩
 have hi : i = ww.length := by simp at h; omega
 rw [hi, List.take_length, hend] at hdv
 subst hdv
 refine W.exit ?_; simp only [pX, if_true, if_false, reduceIte, Nat.reduceEqDiff]
 refine W.sdrw (fun K hK => ?_)
 simp (disch := omega) [gA, wA, hr5]
 refine callR w1 ?_
 simp (disch := omega) [gA, wA, hr5]
 refine callR t1 ?_
 simp (disch := omega) [gA, wA, hr5]
 refine callR w2 ?_
 simp (disch := omega) [gA, wA, hr5]
 refine callR t2 ?_
 simp (disch := omega) [gA, wA, hr5]
 refine callR t3 ?_
 simp (disch := omega) [gA, wA, hr4]
 refine W.lv [4] hK fun J j => ?_; clear hK K; simp; refine j _ ?_; clear j J
 refine W.ret ?_
 simp [go]
end Go.Proofs.YtdiladmkbpnhoaaGreat
