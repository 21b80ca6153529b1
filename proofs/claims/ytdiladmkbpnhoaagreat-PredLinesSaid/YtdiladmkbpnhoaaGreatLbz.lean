import Derived.Test.YtdiladmkbpnhoaaGreatLbk
set_option linter.unusedSimpArgs false
set_option linter.unusedVariables false
namespace Go.Proofs.YtdiladmkbpnhoaaGreat
open Go Pm
theorem qDivMod_ret (x y : List Int) {s s' N : Nat} (hx : Bd 2 s N x) (hy : Bd 2 s' N y) (cx : Cn x) (cy : Cn y) (hy0 : 0 < y.length) (hs : 1 ≤ s) (hB : s + (N + 1) * (s' + N + 2) + s' + N + N + 10 < 137438953472) :
  Ret env.P 204 [PP (qs x), PP (qs y)] (.tup [PP (qd (cutR (dmd x y).Q) (dmd x y).D), PP (qd (dmd x y).r (dmd x y).D)]) := by
 have hNx := hx.len
 have hNy := hy.len
 have hl := lead_ne cy hy0
 have hls := lead_bd hy
 have hM : x.length + 1 ≤ N + 1 := by omega
 refine ret_of_Wf (E := env) (fun id => if id = 17 then 2 else 0) [(0, PP (qs x)), (1, PP (qs y))] Tryz.func204 rfl (by kernel_rfl) (by kernel_rfl) (show 2 ≤ 84 by decide) (by simp) ?_
 obtain ⟨R0, hR0⟩ : ∃ R0, R0 = dms y (x.length + 1) ⟨List.replicate (psk x y) 0, x, 1⟩ := ⟨_, rfl⟩
 rw [show dmd x y = R0 from hR0.symm]
 have hkN : psk x y ≤ N := by unfold psk; omega
 have hkk : (if (x.length : Int) - (y.length : Int) + 1 < 0 then 0 else (x.length : Int) - (y.length : Int) + 1) = (psk x y : Int) := by unfold psk; split <;> omega
 have hI0 : DInv x y ⟨List.replicate (psk x y) 0, x, 1⟩ := DInv.start cx
 generalize hk0 : psk x y = k0 at *
 obtain ⟨a0, ha0⟩ : ∃ a0, a0 = qs x := ⟨_, rfl⟩
 obtain ⟨yq, hyq⟩ : ∃ yq, yq = qs y := ⟨_, rfl⟩
 have la0 : a0.length = x.length := by rw [ha0]; simp
 have lyq : yq.length = y.length := by rw [hyq]; simp
 rw [← ha0, ← hyq]
 refine W.sreg (fun K hK => ?_); simp (disch := omega) [gA, wA]; refine W.lv [0, 1] hK fun J j => ?_; clear hK K; simp; refine j _ ?_; clear j J
 refine W.sreg (fun K hK => ?_)
 simp (disch := omega) [gA, wA, la0, lyq, hkk]
 refine W.lv [0, 1, 6] hK fun J j => ?_; clear hK K; simp; refine j _ ?_; clear j J
 refine W.seq ?_
 refine W.sreg (fun K hK => ?_); simp (disch := omega) [gA, wA]; refine W.lv [0, 1, 6, 21, 22] hK fun J j => ?_; clear hK K; simp; refine j _ ?_; clear j J
 refine W.block ?_
 refine W.loopG (fun k σ => ∃ (i ver : Nat) (els : List (List PV)) (rows : Pm.Rows) (clk : Nat), σ = ⟨fa [(0, PP a0), (1, PP yq), (6, .own 19 ver 0 k0), (21, .int .i64 k0), (22, .int .i64 i)], rows, clk⟩ ∧
  rows 19 = some ⟨ver, 43, 4, els⟩ ∧ els.length = k0 ∧ (∀ e ∈ els, e.length = 4) ∧ els.take i = emap ri (List.replicate i 0) ∧ k = k0 - i ∧ i ≤ k0) k0 ?_ ?_
 ·exact ⟨_, .refl, 0, _, List.replicate k0 [.nil, .bool false, .nil, .bool false], _, _, rfl, by simp, by simp, by simp, by simp [emap], by omega, by omega⟩
 rintro k _ ⟨i, ver, els, rows, clk, rfl, hr, hel, he4, hpre, hk, hi⟩
 have hla : lenAll 4 els = True := by simp only [lenAll, eq_iff_iff, iff_true]; exact he4
 refine W.sreg (fun K hK => ?_); simp (disch := omega) [gA, wA]; refine W.lv [0, 1, 6, 21, 22, 23] hK fun J j => ?_; clear hK K; simp; refine j _ ?_; clear j J
 refine W.seq ?_
 refine W.cond ⟨_, rfl, fun h => ?_, fun h => ?_⟩
 ·have h : i < k0 := by simp at h; omega
  refine W.skip ?_
  refine W.seq ?_
  refine W.block ?_
  refine W.sreg (fun K hK => ?_); simp (disch := omega) [gA, wA]; refine W.lv [0, 1, 6, 7, 21, 22] hK fun J j => ?_; clear hK K; simp; refine j _ ?_; clear j J
  refine W.reg (fun K hK => ?_)
  simp (disch := omega) [gA, wA]
  refine callR zeroI_ret ?_
  have hil : i < els.length := by omega
  have hE : elLen els i 4 = True := by
   simp only [eq_iff_iff, iff_true]
   exact ⟨els[i], List.getElem?_eq_getElem hil, by rw [he4 _ (List.getElem_mem hil)]; omega⟩
  have hS : setEl els i 0 [sls i64e (dig DD 0), .bool false, sls i64e (dig DD 1), .bool false] = els.set i (ri 0) := by
   have h4 := he4 _ (List.getElem_mem hil)
   rw [setEl, List.getElem?_eq_getElem hil]
   simp [List.drop_of_length_le, h4]
  simp (disch := omega) [gA, wA, hr, hE, hS]
  refine W.lv [0, 1, 6, 21, 22] hK fun J j => ?_; clear hK K; simp; refine j _ ?_; clear j J
  refine W.reg (fun K hK => ?_); simp (disch := omega) [gA, wA]
  refine hK _ ⟨k0 - (i + 1), _, Gh_fa _ [0, 1, 6, 21, 22], by omega, i + 1, ver, els.set i (ri 0), _, _, rfl, by simp, by simpa using hel, fun e he => ?_, ?_, by omega, by omega⟩
  ·rcases List.mem_or_eq_of_mem_set he with h1 | h1
   ·exact he4 e h1
   ·rw [h1]; rfl
  ·rw [set_take hpre (by omega), List.replicate_succ']
   simp [emap]
 have h : i = k0 := by simp at h; omega
 subst h
 have hz0 : els = emap re (qd (List.replicate i 0) 1) := by rw [qd_one, emap_re_qs, ← hpre, take_all hel]
 subst hz0
 rw [show a0 = qd x 1 by rw [ha0, qd_one]]
 clear hpre he4 hel hla hk hi hkk ha0 la0 a0
 refine W.exit ?_; simp only [pX, if_true, if_false, reduceIte, Nat.reduceEqDiff]
 refine W.seq ?_
 refine W.block ?_
 generalize hdd : s' + N + 2 = d at *
 have hNN : ∀ j, (x.length + 1 - j) * d ≤ (N + 1) * d := fun j => Nat.mul_le_mul_right _ (by omega)
 refine W.loopG (fun n σ => ∃ (Q r : List Int) (D : Int) (v6 : Nat) (rows : Pm.Rows) (clk : Nat), σ = ⟨fa [(0, PP (qd r D)), (1, PP yq), (6, .own 19 v6 0 i)], rows, clk⟩ ∧
  rows 19 = some ⟨v6, 43, 4, emap re (qd Q D)⟩ ∧ Q.length = i ∧ DInv x y ⟨Q, r, D⟩ ∧ r.length < n ∧ n ≤ x.length + 1 ∧ dms y n ⟨Q, r, D⟩ = R0 ∧ Bd 2 (s + (x.length + 1 - n) * d) N r ∧ sz 2 D ≤ s + (x.length + 1 - n) * d) (x.length + 1) ?_ ?_
 ·exact ⟨_, Gh_fa _ [0, 1, 6], _, x, 1, _, _, _, rfl, hr, by simp, hI0, by omega, by omega, hR0.symm, hx.mono (by omega) (by omega), Nat.le_trans (sz_le (k := 1) (by decide) (by decide)) (by omega)⟩
 clear hr rows clk ver
 rintro n _ ⟨Q, r, D, v6, rows, clk, rfl, hr, hQ, hI, hrn, hnM, hd, br, bD⟩
 have hD : D ≠ 0 := hI.d
 have hnn := hNN n
 obtain ⟨a, ha⟩ : ∃ a, a = qd r D := ⟨_, rfl⟩
 have la : a.length = r.length := by rw [ha]; simp
 rw [← ha]
 refine W.seq ?_
 refine W.sreg (fun K hK => ?_)
 simp (disch := omega) [gA, wA, la, lyq]
 refine W.lv [0, 1, 6, 34] hK fun J j => ?_; clear hK K; simp; refine j _ ?_; clear j J
 refine W.cond ⟨_, rfl, fun h => ?_, fun h => ?_⟩
 ·have h : y.length ≤ r.length := by simp at h; omega
  obtain ⟨n, rfl⟩ : ∃ m, n = m + 1 := ⟨n - 1, by omega⟩
  obtain ⟨k, hk⟩ : ∃ k, k = r.length - y.length := ⟨_, rfl⟩
  have hkI : (r.length : Int) - (y.length : Int) = k := by omega
  have hki : k < i := by have := hI.q.resolve_right (show ¬ r.length < y.length by omega); simp only at this; omega
  have hI2 := hI.step cy hy0 h
  have hl2 := dst_len (σ := ⟨Q, r, D⟩) hy0 h
  rw [dms, if_neg (show ¬ r.length < y.length by omega)] at hd
  simp only [dst, ← hk] at hI2 hl2 hd
  have hT : s + (x.length + 1 - n) * d = s + (x.length + 1 - (n + 1)) * d + d := by
   rw [show x.length + 1 - n = (x.length + 1 - (n + 1)) + 1 by omega, Nat.add_mul, Nat.one_mul]; omega
  have hn3 := hNN n
  generalize hU : s + (x.length + 1 - (n + 1)) * d = U at *
  have hlr := lead_bd br
  have hNr := br.len
  have hD2 : D * lead y ≠ 0 := Int.mul_ne_zero hD hl
  have zD2 : sz 2 (D * lead y) ≤ U + s' := sz_mul (by decide) bD hls
  have hp : nth a (r.length - 1) = qmk (lead r) D := by rw [ha, nth_qd hD]; rfl
  have hyl : nth yq (y.length - 1) = (lead y : Rat) := by rw [hyq, nth_qs]; rfl
  have hQuo := QuoR_ret (qmk (lead r) D) (lead y : Rat) (ZR_qmk hD (Nat.le_trans hlr (by show U ≤ 137438953472; omega)) (Nat.le_trans bD (by show U ≤ 137438953472; omega))) (ZR_int (Nat.le_trans hls (by show s' ≤ 137438953472; omega)) (by decide)) (cast_ne hl)
  rw [qmk_quo hD hl] at hQuo
  have hSc := qScale_ret yq (qmk (lead r) (D * lead y)) (by rw [hyq]; exact QOK.qs (fun c hc => Nat.le_trans (hy.sz c hc) (by show s' ≤ 137438953472; omega)) (by omega)) (ZR_qmk hD2 (Nat.le_trans hlr (by show U ≤ 137438953472; omega)) (Nat.le_trans zD2 (by show U + s' ≤ 137438953472; omega)))
  rw [hyq, scaleQ_qd hD2, ← hyq] at hSc
  have bsc : Bd 2 (U + s') N (pscale y (lead r)) := (hy.pscale (by decide) hlr).mono (by omega) (by omega)
  have bw : Bd 2 (U + s') N (List.replicate k 0 ++ pscale y (lead r)) := ⟨by have := pscale_len y (lead r); simp; omega, fun c hc => by
   rcases List.mem_append.1 hc with h1 | h1
   ·rw [(List.mem_replicate.1 h1).2, sz_zero]; omega
   ·exact bsc.sz c h1⟩
  have brl : Bd 2 (U + s') N (r.map (· * lead y)) := ⟨by simpa using br.len, fun c hc => by
   simp only [List.mem_map] at hc
   obtain ⟨v, hv, rfl⟩ := hc
   exact sz_mul (by decide) (br.sz v hv) hls⟩
  have hSu := qSub_ret (qd (r.map (· * lead y)) (D * lead y)) (qd (List.replicate k 0 ++ pscale y (lead r)) (D * lead y)) _
   (QOK_qd hD2 brl zD2 (by show U + s' ≤ 137438953472; omega) (by omega)) (QOK_qd hD2 bw zD2 (by show U + s' ≤ 137438953472; omega) (by omega)) (negQ_qd hD2 _) (QOK_qd hD2 bw.pneg zD2 (by show U + s' ≤ 137438953472; omega) (by omega))
  rw [addQ_qd hD2, qd_mul hD hl, ← ha] at hSu
  have er : padd (r.map (· * lead y)) (pneg (List.replicate k 0 ++ pscale y (lead r))) = psr y (lead y) (lead r) k r := Cn.ext (Cn.padd _ _) (Cn.psub _ _) fun t => by
   rw [V_padd, V_mapmul, V_pneg, V_append, V_rep, V_pscale, psr, V_psub, V_pscale, V_pmul, V_stp, List.length_replicate]; grind
  have br2 : Bd 2 (U + d) N (psr y (lead y) (lead r) k r) := by
   rw [← er]
   exact (Bd.padd (by decide) brl bw.pneg).mono (by omega) (by omega)
  rw [er] at hSu
  have ew : qd (List.replicate k 0 ++ pscale y (lead r)) (D * lead y) = List.replicate k 0 ++ qd (pscale y (lead r)) (D * lead y) := by
   simp only [qd, List.map_append, List.map_replicate, qmk_zero hD2]
  rw [ew] at hSu
  have lb : (qd (pscale y (lead r)) (D * lead y)).length ≤ N := by have := bsc.len; simpa using this
  have hset : (qd Q D).set k (qmk (lead r) (D * lead y)) = qd ((Q.map (· * lead y)).set k (lead r)) (D * lead y) := by
   rw [← qd_mul hD hl Q, qd, qd, List.map_set]
  have hQl : (qd Q D).length = i := by simpa using hQ
  refine W.skip ?_
  refine W.block ?_
  generalize hz : qd Q D = z at *
  generalize qd (pscale y (lead r)) (D * lead y) = b at *
  generalize hcc : qmk (lead r) (D * lead y) = c at *
  generalize hp2 : qmk (lead r) D = p at *
  generalize hlq : (lead y : Rat) = lq at *
  generalize ha2 : qd (psr y (lead y) (lead r) k r) (D * lead y) = a2 at *
  refine W.sreg (fun K hK => ?_); simp (disch := omega) [gA, wA, la, lyq, hkI]; refine W.lv [0, 1, 6, 8] hK fun J j => ?_; clear hK K; simp; refine j _ ?_; clear j J
  have hrl0 : 0 < r.length := by omega
  have e1 : ((r.length : Int) - 1).toNat = r.length - 1 := by omega
  have e2 : ((y.length : Int) - 1).toNat = y.length - 1 := by omega
  refine W.sdrw (fun K hK => ?_)
  simp (disch := omega) [gA, wA, la, lyq, e1, e2, hp, hyl]
  refine callR hQuo ?_
  simp (disch := omega) [gA, wA]
  rw [if_pos (by kernel_rfl)]
  simp (disch := omega) [gA, wA]
  refine W.lv [0, 1, 6, 8, 9] hK fun J j => ?_; clear hK K; simp; refine j _ ?_; clear j J
  have hkl : k < z.length := by omega
  refine W.sreg (fun K hK => ?_); simp (disch := omega) [gA, wA, hr, hkl]; refine W.lv [0, 1, 6, 8, 9] hK fun J j => ?_; clear hK K; simp; refine j _ ?_; clear j J
  refine W.sreg (fun K hK => ?_); simp (disch := omega) [gA, wA]; refine W.lv [0, 1, 6, 8, 9, 10] hK fun J j => ?_; clear hK K; simp; refine j _ ?_; clear j J
  refine W.seq ?_
  refine W.sreg (fun K hK => ?_); simp (disch := omega) [gA, wA]; refine W.lv [0, 1, 6, 8, 9, 10, 60, 61] hK fun J j => ?_; clear hK K; simp; refine j _ ?_; clear j J
  refine W.block ?_
  refine W.loopG (fun m σ => ∃ (j v9 v10 v6 : Nat) (els : List (List PV)) (rows : Pm.Rows) (clk : Nat), σ = ⟨fa [(0, PP a), (1, PP yq), (6, .own 19 v6 0 i), (9, .ptr 9 v9 0 0), (10, .own 58 v10 0 k), (60, .int .i64 k), (61, .int .i64 j)], rows, clk⟩ ∧
   rows 19 = some ⟨v6, 43, 4, emap re (z.set k c)⟩ ∧ rows 9 = some ⟨v9, 43, 4, [[sls i64e (dig DD c.num.natAbs), .bool (decide (c.num < 0)), sls i64e (dig DD c.den), .bool false]]⟩ ∧
   rows 58 = some ⟨v10, 43, 4, els⟩ ∧ els.length = k ∧ (∀ e ∈ els, e.length = 4) ∧ els.take j = emap ri (List.replicate j 0) ∧ m = k - j ∧ j ≤ k) k ?_ ?_
  ·exact ⟨_, Gh_fa _ [0, 1, 6, 9, 10, 60, 61], 0, _, _, _, List.replicate k [.nil, .bool false, .nil, .bool false], _, _, rfl, by simp [hr], by simp, by simp, by simp, by simp, by simp [emap], by omega, by omega⟩
  clear hr rows clk v6
  rintro m _ ⟨j, v9, v10, v6, els, rows, clk, rfl, hr, hr9, hr10, hel, he4, hpre, hm, hj⟩
  have hla : lenAll 4 els = True := by simp only [lenAll, eq_iff_iff, iff_true]; exact he4
  refine W.sreg (fun K hK => ?_); simp (disch := omega) [gA, wA]; refine W.lv [0, 1, 6, 9, 10, 60, 61, 62] hK fun J j => ?_; clear hK K; simp; refine j _ ?_; clear j J
  refine W.seq ?_
  refine W.cond ⟨_, rfl, fun h => ?_, fun h => ?_⟩
  ·have h : j < k := by simp at h; omega
   refine W.skip ?_
   refine W.seq ?_
   refine W.block ?_
   refine W.sreg (fun K hK => ?_); simp (disch := omega) [gA, wA]; refine W.lv [0, 1, 6, 9, 10, 11, 60, 61] hK fun J j => ?_; clear hK K; simp; refine j _ ?_; clear j J
   refine W.reg (fun K hK => ?_)
   simp (disch := omega) [gA, wA]
   refine callR zeroI_ret ?_
   have hil : j < els.length := by omega
   have hE : elLen els j 4 = True := by
    simp only [eq_iff_iff, iff_true]
    exact ⟨els[j], List.getElem?_eq_getElem hil, by rw [he4 _ (List.getElem_mem hil)]; omega⟩
   have hS : setEl els j 0 [sls i64e (dig DD 0), .bool false, sls i64e (dig DD 1), .bool false] = els.set j (ri 0) := by
    have h4 := he4 _ (List.getElem_mem hil)
    rw [setEl, List.getElem?_eq_getElem hil]
    simp [List.drop_of_length_le, h4]
   simp (disch := omega) [gA, wA, hr10, hE, hS]
   refine W.lv [0, 1, 6, 9, 10, 60, 61] hK fun J j => ?_; clear hK K; simp; refine j _ ?_; clear j J
   refine W.reg (fun K hK => ?_); simp (disch := omega) [gA, wA]
   refine hK _ ⟨k - (j + 1), _, Gh_fa _ [0, 1, 6, 9, 10, 60, 61], by omega, j + 1, v9, v10, v6, els.set j (ri 0), _, _, rfl, by simp [hr], by simp [hr9], by simp, by simpa using hel, fun e he => ?_, ?_, by omega, by omega⟩
   ·rcases List.mem_or_eq_of_mem_set he with h1 | h1
    ·exact he4 e h1
    ·rw [h1]; rfl
   ·rw [set_take hpre (by omega), List.replicate_succ']
    simp [emap]
  have h : j = k := by simp at h; omega
  subst h
  have hz0 : els = emap re (List.replicate j 0) := by
   have h1 : emap ri (List.replicate j 0) = emap re (List.replicate j 0) := by simp [emap, re_int]
   rw [← h1, ← hpre, take_all hel]
  subst hz0
  clear hpre he4 hel hla
  refine W.exit ?_; simp only [pX, if_true, if_false, reduceIte, Nat.reduceEqDiff]
  refine W.drw (fun K hK => ?_)
  rw [if_pos rfl, pregion_tail]
  have hsl : ((List.take r.length a).drop 0) = a := by rw [List.drop_zero, List.take_of_length_le (by omega)]
  simp (disch := omega) [gA, wA, la, lyq, hr9, ysliceK_slsx, hsl]
  refine callR hSc ?_
  have htk : List.take (j + b.length) (List.replicate j 0 ++ b) = List.replicate j 0 ++ b := List.take_of_length_le (by simp)
  simp (disch := omega) [gA, wA, hr10, htk]
  refine callR hSu ?_
  simp (disch := omega) [gA, wA]
  subst ha2
  have hr2 : rows 19 = some ⟨v6, 43, 4, emap re (qd ((Q.map (· * lead y)).set j (lead r)) (D * lead y))⟩ := by rw [hr, hset]
  refine hK _ ⟨n, _, Gh_fa _ [0, 1, 6], by omega, (Q.map (· * lead y)).set j (lead r), psr y (lead y) (lead r) j r, D * lead y, v6, _, _, rfl, by simp [hr2], by simpa using hQ, hI2, by omega, by omega, hd, ?_, ?_⟩
  ·rw [hT]; exact br2
  ·rw [hT]; exact Nat.le_trans zD2 (by omega)
 ·have h : r.length < y.length := by simp at h; omega
  rw [dms_end h] at hd
  subst hd
  refine W.exit ?_; simp only [pX, if_true, if_false, reduceIte, Nat.reduceEqDiff]
  have hcq := qcut_ret (qd Q D) (by simp; omega)
  rw [cutQ_qd hD] at hcq
  have hQl : (qd Q D).length = i := by simpa using hQ
  have hz2 := take_all hQl
  rw [← ha]
  generalize qd Q D = z at *
  generalize qd (cutR Q) D = z2 at *
  refine W.sreg (fun K hK => ?_)
  simp (disch := omega) [gA, wA, hr, hz2]
  refine callR hcq ?_
  simp (disch := omega) [gA, wA]
  refine W.lv [4, 5] hK fun J j => ?_; clear hK K; simp; refine j _ ?_; clear j J
  refine W.ret ?_
  simp [go]
end Go.Proofs.YtdiladmkbpnhoaaGreat
