import Derived.Test.YtdiladmkbpnhoaaGreatLcb
import Derived.Test.YtdiladmkbpnhoaaGreatLfc
set_option linter.unusedSimpArgs false
set_option linter.unusedVariables false
namespace Go.Proofs.YtdiladmkbpnhoaaGreat
open Go Pm
def CV.doc (c : CV) : List PV := PP (qd c.x c.d) :: PP (qd c.y c.d) :: c.cells
@[simp] theorem CV.doc_def {c : CV} : c.doc = [PP (qd c.x c.d), PP (qd c.y c.d), Po c.x, Po c.y, .bool (decide (c.d < 0)), sls u32 (dig LL c.d.natAbs)] := rfl
theorem scaleQ_qdD {D : Int} (h : D ≠ 0) {x : List Int} (cx : Cn x) : scaleQ (qd x D) (D : Rat) = qs x := by
 have h0 := cast_ne h
 have : (qd x D).map (fun q => q * (D : Rat)) = qs x := by
  simp only [qd, qs, List.map_map]
  congr 1
  funext v
  simp only [Function.comp_apply]
  rw [qmk_div h]
  exact Rat.div_mul_cancel h0
 rw [scaleQ, this, ← qd_one, cutQ_qd (by decide), show cutR x = x from cx]
theorem whole12_ret {x : List Int} {D : Int} {k n : Nat} (hD : D ≠ 0) (cx : Cn x) (hx : Bd 2 k n x) (hd : sz 2 D ≤ k) (hk : k ≤ YY) (hk1 : 1 ≤ k) (hn : n < 1099511627776) : Ret env.P 212 [PP (qd x D), RI D] (PI x) := by
 have o1 := rOf_ret 1 (by decide) (by decide)
 have m1 := MakeI_ret D (by show sz 2 D < 549755813888; have : YY = 137438953472 := rfl; omega)
 have s1 := qScale_ret (qd x D) (D : Rat) (QOK_qd hD hx hd hk hn) (ZR_int (Nat.le_trans hd hk) (by decide))
 rw [scaleQ_qdD hD cx, RR, re_int, PP_qs] at s1
 generalize qd x D = q at *
 refine ret_of_Wf (E := env) (fun _ => 0) [(0, PP q), (1, RI D)] Tryz.func212 rfl (by kernel_rfl) (by kernel_rfl) (show 2 ≤ 10 by decide) (by simp) ?_
 refine W.sreg (fun K hK => ?_); simp (disch := omega) [gA, wA]; refine W.lv [0, 3, 4] hK fun J j => ?_; clear hK K; simp; refine j _ ?_; clear j J
 refine W.sdrw (fun K hK => ?_)
 simp (disch := omega) [gA, wA]
 refine callR o1 ?_
 simp (disch := omega) [gA, wA]
 refine callR m1 ?_
 simp (disch := omega) [gA, wA]
 refine callR s1 ?_
 simp (disch := omega) [gA, wA]
 refine W.lv [4] hK fun J j => ?_; clear hK K; simp; refine j _ ?_; clear j J
 refine W.ret ?_
 simp [go]
theorem dnF_take {D : Nat} (hD : 0 < D) (x : List Int) (i : Nat) : dnF ((qd x D).take i) = (D / gcD D (x.take i) : Nat) := by
 rw [← dnF_qd hD, qd, ← List.map_take]
set_option maxHeartbeats 2000000 in
theorem normal12_ret {x y : List Int} {D : Nat} {k n : Nat} (hD : 0 < D) (cx : Cn x) (cy : Cn y) (hg : gcD D (x ++ y) = 1) (hx : Bd 2 k n x) (hy : Bd 2 k n y) (hd : sz 2 (D : Int) ≤ k) (hk : k ≤ 10000000000) (hk1 : 1 ≤ k) (hn : n < 500000000000) :
  Ret env.P 165 [PP (qd x D), PP (qd y D)] (.ag (CV.doc ⟨x, y, (D : Int)⟩)) := by
 have hY : YY = 137438953472 := rfl
 have hD0 : (D : Int) ≠ 0 := by omega
 have w1 := whole12_ret hD0 cx hx hd (by omega) hk1 (by omega)
 have w2 := whole12_ret hD0 cy hy hd (by omega) hk1 (by omega)
 have t1 := qTo_ret x (fun c hc => Nat.lt_of_le_of_lt (hx.sz c hc) (by omega)) (Nat.lt_of_le_of_lt hx.len (by omega))
 have t2 := qTo_ret y (fun c hc => Nat.lt_of_le_of_lt (hy.sz c hc) (by omega)) (Nat.lt_of_le_of_lt hy.len (by omega))
 have t3 := rTo_ret (D : Int) (Nat.lt_of_le_of_lt hd (by omega))
 have lx := hx.len
 have ly := hy.len
 have e0 : qd x D ++ qd y D = qd (x ++ y) D := by simp [qd]
 have hdn : ∀ i, 0 < dnF ((qd (x ++ y) D).take i) ∧ sz 2 (dnF ((qd (x ++ y) D).take i)) ≤ k := fun i => by
  rw [dnF_take hD]
  have h1 : gcD D ((x ++ y).take i) ∣ D := Nat.gcd_dvd_left _ _
  have h2 : 0 < D / gcD D ((x ++ y).take i) := Nat.div_pos (Nat.le_of_dvd hD h1) (Nat.pos_of_dvd_of_pos h1 hD)
  refine ⟨by omega, Nat.le_trans (sz_mono (by decide) ?_) hd⟩
  rw [Int.natAbs_natCast, Int.natAbs_natCast]
  exact Nat.div_le_self _ _
 have hden : ∀ q ∈ qd (x ++ y) D, sz 2 (q.den : Int) ≤ k := fun q hq => by
  simp only [qd, List.mem_map] at hq
  obtain ⟨v, hv, rfl⟩ := hq
  rw [qmk_pos_den hD]
  refine Nat.le_trans (sz_mono (by decide) ?_) hd
  rw [Int.natAbs_natCast, Int.natAbs_natCast]
  exact Nat.div_le_self _ _
 have hend : dnF (qd (x ++ y) D) = D := by rw [dnF_qd hD, hg, Nat.div_one]
 have hWl : (qd (x ++ y) D).length = x.length + y.length := by simp
 have hl1 : (qd x D).length = x.length := by simp
 have hl2 : (qd y D).length = y.length := by simp
 simp only [CV.doc_def]
 generalize qd (x ++ y) D = ww at *
 generalize qd x D = qx at *
 generalize qd y D = qy at *
 have o1 := rOf_ret 1 (by decide) (by decide)
 refine ret_of_Wf (E := env) (fun _ => 0) [(0, PP qx), (1, PP qy)] Tryz.func165 rfl (by kernel_rfl) (by kernel_rfl) (show 2 ≤ 48 by decide) (by simp) ?_
 refine W.sreg (fun K hK => ?_); simp (disch := omega) [gA, wA]; refine W.lv [0, 1, 4] hK fun J j => ?_; clear hK K; simp; refine j _ ?_; clear j J
 refine W.sreg (fun K hK => ?_)
 simp (disch := omega) [gA, wA]
 refine callR o1 ?_
 simp (disch := omega) [gA, wA]
 refine W.lv [0, 1, 4, 5] hK fun J j => ?_; clear hK K; simp; refine j _ ?_; clear j J
 refine W.sreg (fun K hK => ?_); simp (disch := omega) [gA, wA, e0, hl1, hl2]; refine W.lv [0, 1, 4, 5, 6] hK fun J j => ?_; clear hK K; simp; refine j _ ?_; clear j J
 refine W.seq ?_
 refine W.sreg (fun K hK => ?_); simp (disch := omega) [gA, wA]; refine W.lv [0, 1, 4, 5, 6, 14, 15] hK fun J j => ?_; clear hK K; simp; refine j _ ?_; clear j J
 refine W.block ?_
 refine W.loopG (fun q σ => ∃ (i v4 v10 : Nat) (d : Int) (v5 : Nat) (rows : Pm.Rows) (clk : Nat), σ = ⟨fa [(0, PP qx), (1, PP qy), (4, .ptr 4 v4 0 0), (5, .ptr 5 v5 0 0), (6, .own 10 v10 0 (x.length + y.length)), (14, .int .i64 ((x.length : Int) + (y.length : Int))), (15, .int .i64 i)], rows, clk⟩ ∧
  rows 4 = some ⟨v4, 57, 6, [[.nil, .nil, .nil, .nil, .bool false, .nil]]⟩ ∧ rows 5 = some ⟨v5, 41, 2, [[sls i64e (dig DD d.natAbs), .bool (decide (d < 0))]]⟩ ∧ rows 10 = some ⟨v10, 43, 4, emap re ww⟩ ∧
  q = x.length + y.length - i ∧ i ≤ x.length + y.length ∧ d = dnF (ww.take i)) (x.length + y.length) ?_ ?_
 ·exact ⟨_, .refl, 0, _, _, 1, _, _, _, rfl, by simp, by simp, by simp, by omega, by omega, by simp [dnF]⟩
 rintro q _ ⟨i, v4, v10, d, v5, rows, clk, rfl, hr4, hr5, hr10, hq, hi, hdv⟩
 refine W.sreg (fun K hK => ?_); simp (disch := omega) [gA, wA]; refine W.lv [0, 1, 4, 5, 6, 14, 15, 16] hK fun J j => ?_; clear hK K; simp; refine j _ ?_; clear j J
 refine W.seq ?_
 refine W.cond ⟨_, rfl, fun h => ?_, fun h => ?_⟩
 ·have hi : i < ww.length := by simp at h; omega
  obtain ⟨hdp, hdi⟩ := hdn i
  have hqd := hden _ (nth_mem hi)
  have hs := dnF_succ hi
  rw [← hdv] at hs hdi hdp
  have m1 := rMul_ret d (nth ww i).den (by simp only [Z]; omega) (by simp only [Z]; omega)
  have m2 := rGcd_ret d (nth ww i).den (by simp only [Y]; omega) (by simp only [Y]; omega)
  have zm := sz_mul (b := 2) (by decide) hdi hqd
  have hgp : 0 < Int.gcd d (nth ww i).den := Int.gcd_pos_of_ne_zero_left _ (by omega)
  have zg : Y (Int.gcd d (nth ww i).den : Int) := Ymono (y := d) (by simp only [Y]; omega) (by
   have := Int.le_of_dvd hdp (Int.gcd_dvd_left d ((nth ww i).den : Int)); omega)
  have m3 := rQuo_ret (d * (nth ww i).den) (Int.gcd d (nth ww i).den) (by omega) (by simp only [Y]; omega) zg
  rw [← hs] at m3
  rw [RI_den] at m1 m2
  generalize (Int.gcd d (nth ww i).den : Int) = gg at *
  generalize d * ((nth ww i).den : Int) = dd at *
  generalize hd2 : dnF (ww.take (i + 1)) = d2 at *
  generalize hqe : nth ww i = qe at *
  refine W.skip ?_
  refine W.seq ?_
  refine W.block ?_
  refine W.sreg (fun K hK => ?_); simp (disch := omega) [gA, wA]; refine W.lv [0, 1, 4, 5, 6, 7, 14, 15] hK fun J j => ?_; clear hK K; simp; refine j _ ?_; clear j J
  refine W.drw (fun K hK => ?_)
  simp (disch := omega) [gA, wA, hr5, hr10, hqe]
  refine callR m1 ?_
  simp (disch := omega) [gA, wA, hr5, hr10, hqe]
  refine callR m2 ?_
  simp (disch := omega) [gA, wA, hr5, hr10, hqe]
  refine callR m3 ?_
  simp (disch := omega) [gA, wA, hr5, hr10, hqe]
  refine stepTxt (by refine ⟨?_, ?_⟩ <;> kernel_rfl) ?_
  simp (disch := omega) [gA, wA]
  refine W.lv [0, 1, 4, 5, 6, 14, 15] hK fun J j => ?_; clear hK K; simp; refine j _ ?_; clear j J
  refine W.reg (fun K hK => ?_); simp (disch := omega) [gA, wA]
  refine hK _ ⟨x.length + y.length - (i + 1), _, Gh_fa _ [0, 1, 4, 5, 6, 14, 15], by omega, i + 1, v4, v10, d2, v5, _, _, rfl, by simp [hr4], by simp, by simp [hr10], by omega, by omega, hd2.symm⟩
 have hi : i = ww.length := by simp at h; omega
 rw [hi, List.take_length, hend] at hdv
 subst hdv
 refine W.exit ?_; simp only [pX, if_true, if_false, reduceIte, Nat.reduceEqDiff]
 refine W.sdrw (fun K hK => ?_)
 simp (disch := omega) [gA, wA, hr5]
 refine callR w1 ?_
 simp (disch := omega) [gA, wA, hr5]
 refine callR t1 ?_
 simp (disch := omega) [gA, wA, hr5]
 refine callR w2 ?_
 simp (disch := omega) [gA, wA, hr5]
 refine callR t2 ?_
 simp (disch := omega) [gA, wA, hr5]
 refine callR t3 ?_
 simp (disch := omega) [gA, wA, hr4]
 refine W.lv [4] hK fun J j => ?_; clear hK K; simp; refine j _ ?_; clear j J
 refine W.ret ?_
 simp [go]
end Go.Proofs.YtdiladmkbpnhoaaGreat
namespace Go.Proofs.YtdiladmkbpnhoaaGreat
open Go Pm
theorem gcdL_cons (a : Int) (l : List Int) : gcdL (a :: l) = Nat.gcd a.natAbs (gcdL l) := by
 refine Nat.dvd_antisymm (Nat.dvd_gcd ?_ (dvd_gcdL fun c hc => ?_)) (dvd_gcdL fun c hc => ?_)
 ·exact Int.ofNat_dvd_left.1 (gcdL_dvd _ a (List.mem_cons_self ..))
 ·exact gcdL_dvd _ c (List.mem_cons_of_mem _ hc)
 ·rcases List.mem_cons.1 hc with rfl | hc
  ·exact Int.ofNat_dvd_left.2 (Nat.gcd_dvd_left _ _)
  ·exact Int.dvd_trans (Int.ofNat_dvd.2 (Nat.gcd_dvd_right _ _)) (gcdL_dvd _ c hc)
theorem exq_back {g : Int} {x : List Int} (hg : g ≠ 0) (cx : Cn x) (h : ∀ v ∈ x, g ∣ v) : (cutR (x.map (exq g))).map (· * g) = x := by
 have e : (x.map (exq g)).map (· * g) = x := by
  rw [List.map_map]
  conv => rhs; rw [← List.map_id x]
  refine List.map_congr_left fun v hv => ?_
  simp only [Function.comp_apply, exq, if_pos (Int.emod_eq_zero_of_dvd (h v hv)), id]
  exact Int.ediv_mul_cancel (h v hv)
 refine Cn.ext (Cn_map_mul (Cn.cut _) hg) cx fun t => ?_
 rw [V_mapmul, V_cutR, ← V_mapmul, e]
structure CV.OK (c : CV) : Prop where
 cx : Cn c.x
 cy : Cn c.y
 pos : 0 < c.d
 gcd : gcdL (c.d :: (c.x ++ c.y)) = 1
theorem nC_back {x y : List Int} (cx : Cn x) (cy : Cn y) (d : Int) : (nC x y d).x.map (· * cg x y d) = x ∧ (nC x y d).y.map (· * cg x y d) = y ∧ (nC x y d).d * cg x y d = dN d := by
 have hg := cg_ne x y d
 exact ⟨exq_back hg cx fun v hv => cg_dvd x y d (by simp [hv]), exq_back hg cy fun v hv => cg_dvd x y d (by simp [hv]), Int.ediv_mul_cancel (cg_dvd x y d (List.mem_cons_self ..))⟩
theorem nC_OK {x y : List Int} (cx : Cn x) (cy : Cn y) (d : Int) : (nC x y d).OK := by
 obtain ⟨h1, h2, h3⟩ := nC_back cx cy d
 have hg := cg_ne x y d
 have hd := dN_ne d
 have hgd : cg x y d = if dN d < 0 then -(gcdL (dN d :: (x ++ y)) : Int) else gcdL (dN d :: (x ++ y)) := rfl
 refine ⟨Cn.cut _, Cn.cut _, ?_, ?_⟩
 ·refine Classical.byContradiction fun h => ?_
  split at hgd
  ·rename_i hneg
   have := Int.mul_nonneg (show 0 ≤ -(nC x y d).d by omega) (show 0 ≤ -cg x y d by omega)
   rw [Int.neg_mul_neg, h3] at this
   omega
  ·rename_i hneg
   have := Int.mul_nonneg (show 0 ≤ -(nC x y d).d by omega) (show 0 ≤ cg x y d by omega)
   rw [Int.neg_mul, h3] at this
   omega
 ·have e : ((nC x y d).d :: ((nC x y d).x ++ (nC x y d).y)).map (· * cg x y d) = dN d :: (x ++ y) := by
   simp only [List.map_cons, List.map_append, h1, h2, h3]
  have h4 := gcdL_scale (cg x y d) ((nC x y d).d :: ((nC x y d).x ++ (nC x y d).y))
  rw [e] at h4
  have h5 : (cg x y d).natAbs = gcdL (dN d :: (x ++ y)) := by
   rw [hgd]; split <;> simp
  rw [← h5] at h4
  have h6 : 0 < (cg x y d).natAbs := by omega
  refine Nat.eq_of_mul_eq_mul_right h6 ?_
  rw [← h4, Nat.one_mul]
structure RC.Small (c : RC) (k n : Nat) : Prop where
 x : Sm k n c.x
 y : Sm k n c.y
 l : Lim 4294967296 c.l
 ll : c.l.length ≤ n
 h1 : 1 ≤ n
 hn : n ≤ 1000
 hk : k ≤ 1000
theorem RC.Small.ok {c : RC} {k n : Nat} (h : c.Small k n) : c.OK n k := by
 have h1 := h.h1; have h2 := h.hn; have h3 := h.hk; have h4 := h.ll
 refine ⟨h.x.pok (by omega) (by omega), h.y.pok (by omega) (by omega), ⟨h.l, by omega⟩, h.x.bd, h.y.bd, ?_, h.h1, by omega, by omega⟩
 have g1 := sz_V hLL h.l
 have g2 : sz LL (iv c.s c.l) = sz LL (V 4294967296 c.l) := by unfold sz; rw [show (iv c.s c.l).natAbs = _ from iv_natAbs (c.s, c.l) h.l]
 rw [g2]; exact Nat.le_trans g1 h.ll
theorem exq_bd2 {s n : Nat} {x : List Int} (c : Int) (h : Bd 2 s n x) : Bd 2 s n (cutR (x.map (exq c))) := Bd.cut ⟨by simpa using h.len, fun v hv => by
 simp only [List.mem_map] at hv
 obtain ⟨w, hw, rfl⟩ := hv
 refine Nat.le_trans (sz_mono (by decide) ?_) (h.sz w hw)
 unfold exq; split
 ·exact Int.natAbs_ediv_le_natAbs _ _
 ·simp⟩
theorem RC.Small.bd2 {c : RC} {k n : Nat} (h : c.Small k n) : Bd 2 (32 * n) k c.nc.x ∧ Bd 2 (32 * n) k c.nc.y ∧ sz 2 c.nc.d ≤ 32 * n ∧ sz 2 (iv c.s c.l) ≤ 32 * n := by
 have h1 := h.h1
 have hd : sz 2 (iv c.s c.l) ≤ 32 * n := by
  have g1 := sz2_V h.l
  have g2 : sz 2 (iv c.s c.l) = sz 2 (V 4294967296 c.l) := by unfold sz; rw [show (iv c.s c.l).natAbs = _ from iv_natAbs (c.s, c.l) h.l]
  have := h.ll
  rw [g2]; omega
 refine ⟨exq_bd2 _ h.x.bd2.cut, exq_bd2 _ h.y.bd2.cut, ?_, hd⟩
 show sz 2 (_ / _) ≤ _
 refine Nat.le_trans (sz_mono (by decide) (Int.natAbs_ediv_le_natAbs _ _)) ?_
 unfold dN; split
 ·exact Nat.le_trans (sz_le (k := 1) (by decide) (by decide)) (by omega)
 ·exact hd
end Go.Proofs.YtdiladmkbpnhoaaGreat
namespace Go.Proofs.YtdiladmkbpnhoaaGreat
open Go Pm
theorem fok_i {x : List Int} (h : ∀ c ∈ x, sz LL c < 4294967296) (hl : x.length < 1099511627776) : FOK (x.map rw') := ⟨fun p hp => by
 simp only [List.mem_map] at hp
 obtain ⟨c, hc, rfl⟩ := hp
 exact ⟨Lim_dig hLL _, h c hc⟩, by simpa using hl⟩
theorem qFromI_ret {s n : Nat} {x : List Int} (cx : Cn x) (b : Bd LL s n x) (hs : s < 4294967296) (hn : n < 1099511627776) : Ret env.P 25 [Po x] (PI x) := by
 have := qFrom_ret (x.map rw') (fok_i (fun c hc => Nat.lt_of_le_of_lt (b.sz c hc) hs) (Nat.lt_of_le_of_lt b.len hn))
 rw [map_gv_rw, ← Po_eq, show cutR x = x from cx] at this
 exact this
theorem rFromI_ret {d : Int} (h : sz LL d < 4294967296) : Ret env.P 40 [I d] (RI d) := by
 have := rFrom_ret (decide (d < 0)) (dig LL d.natAbs) (by have : sz LL d = (dig LL d.natAbs).length := rfl; omega) (Lim_dig hLL _)
 rwa [iv_I] at this
theorem RC.Small.fok {c : RC} {k n : Nat} (h : c.Small k n) : FOK c.x ∧ FOK c.y := by
 have h2 := h.hn; have h3 := h.hk
 exact ⟨h.x.fok (by omega) (by omega), h.y.fok (by omega) (by omega)⟩
theorem RC.nc_OK (c : RC) : c.nc.OK := nC_OK (Cn.cut _) (Cn.cut _) _
theorem doc_scale {x y : List Int} (cx : Cn x) (cy : Cn y) (d : Int) : scaleQ (qs x) (qmk 1 (dN d)) = qd (nC x y d).x (nC x y d).d ∧ scaleQ (qs y) (qmk 1 (dN d)) = qd (nC x y d).y (nC x y d).d := by
 obtain ⟨h1, h2, h3⟩ := nC_back cx cy d
 have hg := cg_ne x y d
 have hp := (nC_OK cx cy d).pos
 have hd0 : (nC x y d).d ≠ 0 := by omega
 refine ⟨?_, ?_⟩
 ·rw [scaleQ_qd (dN_ne d), pscale_one cx]
  have := qd_mul hd0 hg (nC x y d).x
  rw [h1, h3] at this
  exact this
 ·rw [scaleQ_qd (dN_ne d), pscale_one cy]
  have := qd_mul hd0 hg (nC x y d).y
  rw [h2, h3] at this
  exact this
set_option maxHeartbeats 2000000 in
theorem From12_ret {c : RC} {k n : Nat} (h : c.Small k n) : Ret env.P 96 [.ag c.cells] (.ag c.nc.doc) := by
 have hY : YY = 137438953472 := rfl
 have h1 := h.h1; have h2 := h.hn; have h3 := h.hk; have h4 := h.ll
 obtain ⟨fx, fy⟩ := h.fok
 obtain ⟨bx, by_, bd, bi⟩ := h.bd2
 have ok := c.nc_OK
 have r1 := rFrom_ret c.s c.l (by omega) h.l
 have r2 := rZero_ret (iv c.s c.l)
 have o1 := rOf_ret 1 (by decide) (by decide)
 have q1 := qFrom_ret c.x fx
 have q2 := qFrom_ret c.y fy
 rw [show cutR (c.x.map gv) = cfs c.x from rfl] at q1
 rw [show cutR (c.y.map gv) = cfs c.y from rfl] at q2
 have hD := dN_ne (iv c.s c.l)
 have zD : sz 2 (dN (iv c.s c.l)) ≤ 32 * n := by
  unfold dN; split
  ·exact Nat.le_trans (sz_le (k := 1) (by decide) (by decide)) (by omega)
  ·exact bi
 have mk := Make_ret 1 (dN (iv c.s c.l)) (by decide) (by show sz 2 _ < _; omega)
 obtain ⟨q3, q4⟩ : scaleQ (qs (cfs c.x)) (qmk 1 (dN (iv c.s c.l))) = qd c.nc.x c.nc.d ∧ scaleQ (qs (cfs c.y)) (qmk 1 (dN (iv c.s c.l))) = qd c.nc.y c.nc.d := doc_scale (Cn.cut _) (Cn.cut _) _
 have z1 : ZR YY (qmk 1 (dN (iv c.s c.l))) := ZR_qmk hD (Nat.le_trans (sz_le (k := 1) (by decide) (by decide)) (by decide)) (by omega)
 have Qx : QOK (qs (cfs c.x)) := by rw [← qd_one]; exact QOK_qd (k := 32 * n) (n := k) (by decide) h.x.bd2.cut (Nat.le_trans (sz_le (k := 1) (by decide) (by decide)) (by omega)) (by omega) (by omega)
 have Qy : QOK (qs (cfs c.y)) := by rw [← qd_one]; exact QOK_qd (k := 32 * n) (n := k) (by decide) h.y.bd2.cut (Nat.le_trans (sz_le (k := 1) (by decide) (by decide)) (by omega)) (by omega) (by omega)
 have s1 := qScale_ret _ _ Qx z1
 have s2 := qScale_ret _ _ Qy z1
 rw [q3, PP_qs] at s1
 rw [q4, PP_qs] at s2
 have hnn : ((c.nc.d.toNat : Nat) : Int) = c.nc.d := by have := ok.pos; omega
 have nm := normal12_ret (x := c.nc.x) (y := c.nc.y) (D := c.nc.d.toNat) (k := 32 * n) (n := k) (by have := ok.pos; omega) ok.cx ok.cy (by
  have := ok.gcd
  rw [gcdL_cons] at this
  rw [gcD]
  have e : c.nc.d.toNat = c.nc.d.natAbs := by have := ok.pos; omega
  rw [e]; exact this) bx by_ (by rw [hnn]; exact bd) (by omega) (by omega) (by omega)
 rw [hnn] at nm
 have hdN : dN (iv c.s c.l) = if iv c.s c.l = 0 then 1 else iv c.s c.l := rfl
 clear q3 q4 z1 Qx Qy ok fx fy bx by_ bd bi zD hD hnn
 generalize dN (iv c.s c.l) = D at *
 generalize iv c.s c.l = d at *
 generalize qmk 1 D = qr at *
 generalize c.nc = r at *
 generalize cfs c.x = X at *
 generalize cfs c.y = Y0 at *
 simp only [RC.cells_def, CV.doc_def] at *
 generalize qd r.x r.d = ux at *
 generalize qd r.y r.d = uy at *
 refine ret_of_Wf (E := env) (fun _ => 0) [(0, .ag [Pg c.x, Pg c.y, .bool c.s, sls u32 c.l])] Tryz.func96 rfl (by kernel_rfl) (by kernel_rfl) (show 1 ≤ 25 by decide) (by simp) ?_
 refine W.sreg (fun K hK => ?_); simp (disch := omega) [gA, wA]; refine W.lv [1, 2] hK fun J j => ?_; clear hK K; simp; refine j _ ?_; clear j J
 refine W.sreg (fun K hK => ?_)
 simp (disch := omega) [gA, wA]
 refine callR r1 ?_
 simp (disch := omega) [gA, wA]
 refine W.lv [1, 2, 3] hK fun J j => ?_; clear hK K; simp; refine j _ ?_; clear j J
 refine W.seqJ (fun σ => ∃ (v1 v2 v3 : Nat) (rows : Pm.Rows) (clk : Nat), σ = ⟨fa [(1, .ptr 1 v1 0 0), (2, .ptr 2 v2 0 0), (3, .ptr 3 v3 0 0)], rows, clk⟩ ∧ rows 1 = some ⟨v1, 29, 4, [[Pg c.x, Pg c.y, .bool c.s, sls u32 c.l]]⟩ ∧ rows 2 = some ⟨v2, 57, 6, [[.nil, .nil, .nil, .nil, .bool false, .nil]]⟩ ∧
  rows 3 = some ⟨v3, 41, 2, [[sls i64e (dig DD D.natAbs), .bool (decide (D < 0))]]⟩) ?_ ?_
 ·refine W.sreg (fun K hK => ?_)
  simp (disch := omega) [gA, wA]
  refine callR r2 ?_
  simp (disch := omega) [gA, wA]
  refine W.lv [1, 2, 3, 9] hK fun J j => ?_; clear hK K; simp; refine j _ ?_; clear j J
  refine W.cond ⟨_, rfl, fun h => ?_, fun h => ?_⟩
  ·simp at h
   rw [if_pos h] at hdN
   subst hdN
   refine W.reg (fun K hK => ?_)
   simp (disch := omega) [gA, wA]
   refine callR o1 ?_
   simp (disch := omega) [gA, wA]
   exact hK _ ⟨_, Gh_fa _ [1, 2, 3], _, _, _, _, _, rfl, by simp, by simp, by simp⟩
  ·simp at h
   rw [if_neg h] at hdN
   subst hdN
   refine W.skip ?_
   exact ⟨_, Gh_fa _ [1, 2, 3], _, _, _, _, _, rfl, by simp, by simp, by simp⟩
 rintro _ ⟨v1, v2, v3, rows, clk, rfl, hr1, hr2, hr3⟩
 refine W.sdrw (fun K hK => ?_)
 simp (disch := omega) [gA, wA]
 refine callR o1 ?_
 simp (disch := omega) [gA, wA, hr3]
 refine callR mk ?_
 simp (disch := omega) [gA, wA]
 rw [if_pos (by kernel_rfl)]
 simp (disch := omega) [gA, wA]
 refine W.lv [1, 2, 4] hK fun J j => ?_; clear hK K; simp; refine j _ ?_; clear j J
 refine W.sdrw (fun K hK => ?_)
 simp (disch := omega) [gA, wA, hr1]
 refine callR q1 ?_
 simp (disch := omega) [gA, wA]
 refine callR s1 ?_
 simp (disch := omega) [gA, wA, hr1]
 refine callR q2 ?_
 simp (disch := omega) [gA, wA]
 refine callR s2 ?_
 simp (disch := omega) [gA, wA]
 refine callR nm ?_
 simp (disch := omega) [gA, wA, hr2]
 refine W.lv [2] hK fun J j => ?_; clear hK K; simp; refine j _ ?_; clear j J
 refine W.ret ?_
 simp [go]
end Go.Proofs.YtdiladmkbpnhoaaGreat
