import Derived.Test.YtbbjgncblhfegaaGreatPaf
import Derived.Test.YtbbjgncblhfegaaGreatPal
set_option linter.unusedSimpArgs false
set_option linter.unusedVariables false
namespace Go.Proofs.YtbbjgncblhfegaaGreat
open Go Pm
theorem JS (x y : List Int) {s s' N : Nat} (hx : Bd 2 s N x) (hy : Bd 2 s' N y) (cx : Cn x) (cy : Cn y) (M5 : 0 < y.length) (hs : 1 ≤ s) (hB : s + (N + 1) * (s' + N + 2) + s' + N + N + 10 < 137438953472) :
  aK env.P 172 [PP (qs x), PP (qs y)] (.eA [PP (qd (aM (ZY x y).Q) (ZY x y).D), PP (qd (ZY x y).r (ZY x y).D)]) := by
 have hNx := hx.len
 have hNy := hy.len
 have hl := cD cy M5
 have hls := eQ hy
 have hM : x.length + 1 ≤ N + 1 := by omega
 refine aB (E := env) (fun id => if id = 17 then 2 else 0) [(0, PP (qs x)), (1, PP (qs y))] Tryz.func172 rfl (by kernel_rfl) (by kernel_rfl) (show 2 ≤ 84 by decide) (by simp) ?_
 obtain ⟨R0, HM⟩ : ∃ R0, R0 = UG y (x.length + 1) ⟨List.replicate (iD x y) 0, x, 1⟩ := ⟨_, rfl⟩
 rw [show ZY x y = R0 from HM.symm]
 have hkN : iD x y ≤ N := by unfold iD; omega
 have hkk : (if (x.length : Int) - (y.length : Int) + 1 < 0 then 0 else (x.length : Int) - (y.length : Int) + 1) = (iD x y : Int) := by unfold iD; split <;> omega
 have hI0 : rV x y ⟨List.replicate (iD x y) 0, x, 1⟩ := rV.start cx
 generalize wE : iD x y = k0 at *
 obtain ⟨a0, ha0⟩ : ∃ a0, a0 = qs x := ⟨_, rfl⟩
 obtain ⟨yq, hyq⟩ : ∃ yq, yq = qs y := ⟨_, rfl⟩
 have la0 : a0.length = x.length := by rw [ha0]; simp
 have lyq : yq.length = y.length := by rw [hyq]; simp
 rw [← ha0, ← hyq]
 refine W.sr ?_; simp (disch := omega) [gw]; refine W.lx [0, 1] ?_; simp
 refine W.sr ?_
 simp (disch := omega) [gw, la0, lyq, hkk]
 refine W.lx [0, 1, 6] ?_; simp
 refine W.seq ?_
 refine W.sr ?_; simp (disch := omega) [gw]; refine W.lx [0, 1, 6, 21, 22] ?_; simp
 refine W.block ?_
 refine W.bB (fun k σ => ∃ (i ver : Nat) (els : List (List PV)) (rows : Pm.Rows) (clk : Nat), σ = ⟨fa [(0, PP a0), (1, PP yq), (6, .own 19 ver 0 k0), (21, .int .i64 k0), (22, .int .i64 i)], rows, clk⟩ ∧
  rows 19 = some ⟨ver, 50, 4, els⟩ ∧ els.length = k0 ∧ (∀ e ∈ els, e.length = 4) ∧ els.take i = emap ri (List.replicate i 0) ∧ k = k0 - i ∧ i ≤ k0) k0 ?_ ?_
 ·exact ⟨_, .refl, 0, _, List.replicate k0 [.nil, .bool false, .nil, .bool false], _, _, rfl, by simp, by simp, by simp, by simp [emap], by omega, by omega⟩
 rintro k _ ⟨i, ver, els, rows, clk, rfl, hr, nE, JH, z0, hk, hi⟩
 have M3 : bF 4 els = True := by simp only [bF, eq_iff_iff, iff_true]; exact JH
 refine W.sr ?_; simp (disch := omega) [gw]; refine W.lx [0, 1, 6, 21, 22, 23] ?_; simp
 refine W.seq ?_
 refine W.cond ⟨_, rfl, fun h => ?_, fun h => ?_⟩
 ·have h : i < k0 := by simp at h; omega
  refine W.skip ?_
  refine W.seq ?_
  refine W.block ?_
  refine W.sr ?_; simp (disch := omega) [gw]; refine W.lx [0, 1, 6, 7, 21, 22] ?_; simp
  refine W.cA (fun K hK => ?_)
  simp (disch := omega) [gw]
  refine aA m9 ?_
  have uH : i < els.length := by omega
  have hE : sV els i 4 = True := by
   simp only [eq_iff_iff, iff_true]
   exact ⟨els[i], List.getElem?_eq_getElem uH, by rw [JH _ (List.getElem_mem uH)]; omega⟩
  have hS : iK els i 0 [aJ aF (aQ DD 0), .bool false, aJ aF (aQ DD 1), .bool false] = els.set i (ri 0) := by
   have h4 := JH _ (List.getElem_mem uH)
   rw [iK, List.getElem?_eq_getElem uH]
   simp [List.drop_of_length_le, h4]
  simp (disch := omega) [gw, hr, hE, hS]
  refine W.lw [0, 1, 6, 21, 22] hK ?_; clear hK K; simp
  refine W.cA (fun K hK => ?_); simp (disch := omega) [gw]
  refine hK _ ⟨k0 - (i + 1), _, aC _ [0, 1, 6, 21, 22], by omega, i + 1, ver, els.set i (ri 0), _, _, rfl, by simp, by simpa using nE, fun e he => ?_, ?_, by omega, by omega⟩
  ·rcases List.mem_or_eq_of_mem_set he with h1 | h1
   ·exact JH e h1
   ·rw [h1]; rfl
  ·rw [kW z0 (by omega), List.replicate_succ']
   simp [emap]
 have h : i = k0 := by simp at h; omega
 subst h
 have qT : els = emap re (qd (List.replicate i 0) 1) := by rw [FK, z7, ← z0, bH nE]
 subst qT
 rw [show a0 = qd x 1 by rw [ha0, FK]]
 clear z0 JH nE M3 hk hi hkk ha0 la0 a0
 refine W.exit ?_; simp only [pX, if_true, if_false, reduceIte, Nat.reduceEqDiff]
 refine W.seq ?_
 refine W.block ?_
 generalize hdd : s' + N + 2 = d at *
 have ZM : ∀ j, (x.length + 1 - j) * d ≤ (N + 1) * d := fun j => Nat.mul_le_mul_right _ (by omega)
 refine W.bB (fun n σ => ∃ (Q r : List Int) (D : Int) (v6 : Nat) (rows : Pm.Rows) (clk : Nat), σ = ⟨fa [(0, PP (qd r D)), (1, PP yq), (6, .own 19 v6 0 i)], rows, clk⟩ ∧
  rows 19 = some ⟨v6, 50, 4, emap re (qd Q D)⟩ ∧ Q.length = i ∧ rV x y ⟨Q, r, D⟩ ∧ r.length < n ∧ n ≤ x.length + 1 ∧ UG y n ⟨Q, r, D⟩ = R0 ∧ Bd 2 (s + (x.length + 1 - n) * d) N r ∧ sz 2 D ≤ s + (x.length + 1 - n) * d) (x.length + 1) ?_ ?_
 ·exact ⟨_, aC _ [0, 1, 6], _, x, 1, _, _, _, rfl, hr, by simp, hI0, by omega, by omega, HM.symm, hx.mono (by omega) (by omega), Nat.le_trans (cG (k := 1) (by decide) (by decide)) (by omega)⟩
 clear hr rows clk ver
 rintro n _ ⟨Q, r, D, v6, rows, clk, rfl, hr, hQ, hI, hrn, hnM, hd, br, bD⟩
 have hD : D ≠ 0 := hI.d
 have TS := ZM n
 obtain ⟨a, ha⟩ : ∃ a, a = qd r D := ⟨_, rfl⟩
 have la : a.length = r.length := by rw [ha]; simp
 rw [← ha]
 refine W.seq ?_
 refine W.sr ?_
 simp (disch := omega) [gw, la, lyq]
 refine W.lx [0, 1, 6, 34] ?_; simp
 refine W.cond ⟨_, rfl, fun h => ?_, fun h => ?_⟩
 ·have h : y.length ≤ r.length := by simp at h; omega
  obtain ⟨n, rfl⟩ : ∃ m, n = m + 1 := ⟨n - 1, by omega⟩
  obtain ⟨k, hk⟩ : ∃ k, k = r.length - y.length := ⟨_, rfl⟩
  have hkI : (r.length : Int) - (y.length : Int) = k := by omega
  have hki : k < i := by have := hI.q.resolve_right (show ¬ r.length < y.length by omega); simp only at this; omega
  have hI2 := hI.step cy M5 h
  have YW := FL (σ := ⟨Q, r, D⟩) M5 h
  rw [UG, if_neg (show ¬ r.length < y.length by omega)] at hd
  simp only [dst, ← hk] at hI2 YW hd
  have hT : s + (x.length + 1 - n) * d = s + (x.length + 1 - (n + 1)) * d + d := by
   rw [show x.length + 1 - n = (x.length + 1 - (n + 1)) + 1 by omega, Nat.add_mul, Nat.one_mul]; omega
  have hn3 := ZM n
  generalize hU : s + (x.length + 1 - (n + 1)) * d = U at *
  have hlr := eQ br
  have hNr := br.len
  have G2 : D * lead y ≠ 0 := Int.mul_ne_zero hD hl
  have zD2 : sz 2 (D * lead y) ≤ U + s' := bR (by decide) bD hls
  have hp : nth a (r.length - 1) = cS (lead r) D := by rw [ha, FJ hD]; rfl
  have K5 : nth yq (y.length - 1) = (lead y : Rat) := by rw [hyq, ZJ]; rfl
  have aoV := zZ (cS (lead r) D) (lead y : Rat) (rU hD (Nat.le_trans hlr (by show U ≤ 137438953472; omega)) (Nat.le_trans bD (by show U ≤ 137438953472; omega))) (mL (Nat.le_trans hls (by show s' ≤ 137438953472; omega)) (by decide)) (fD hl)
  rw [adU hD hl] at aoV
  have hSc := nX yq (cS (lead r) (D * lead y)) (by rw [hyq]; exact T9.qs (fun c hc => Nat.le_trans (hy.sz c hc) (by show s' ≤ 137438953472; omega)) (by omega)) (rU G2 (Nat.le_trans hlr (by show U ≤ 137438953472; omega)) (Nat.le_trans zD2 (by show U + s' ≤ 137438953472; omega)))
  rw [hyq, UF G2, ← hyq] at hSc
  have bsc : Bd 2 (U + s') N (aV y (lead r)) := (hy.aV (by decide) hlr).mono (by omega) (by omega)
  have bw : Bd 2 (U + s') N (List.replicate k 0 ++ aV y (lead r)) := ⟨by have := nR y (lead r); simp; omega, fun c hc => by
   rcases List.mem_append.1 hc with h1 | h1
   ·rw [(List.mem_replicate.1 h1).2, i7]; omega
   ·exact bsc.sz c h1⟩
  have brl : Bd 2 (U + s') N (r.map (· * lead y)) := ⟨by simpa using br.len, fun c hc => by
   simp only [List.mem_map] at hc
   obtain ⟨v, hv, rfl⟩ := hc
   exact bR (by decide) (br.sz v hv) hls⟩
  have hSu := ZZ (qd (r.map (· * lead y)) (D * lead y)) (qd (List.replicate k 0 ++ aV y (lead r)) (D * lead y)) _
   (NO G2 brl zD2 (by show U + s' ≤ 137438953472; omega) (by omega)) (NO G2 bw zD2 (by show U + s' ≤ 137438953472; omega) (by omega)) (adW G2 _) (NO G2 bw.fG zD2 (by show U + s' ≤ 137438953472; omega) (by omega))
  rw [adV G2, NN hD hl, ← ha] at hSu
  have er : fX (r.map (· * lead y)) (fG (List.replicate k 0 ++ aV y (lead r))) = uF y (lead y) (lead r) k r := Cn.ext (Cn.fX _ _) (Cn.dX _ _) fun t => by
   rw [pD, dC, y9, dG, oE, bT, uF, gP, bT, cP, lV, List.length_replicate]; grind
  have br2 : Bd 2 (U + d) N (uF y (lead y) (lead r) k r) := by
   rw [← er]
   exact (Bd.fX (by decide) brl bw.fG).mono (by omega) (by omega)
  rw [er] at hSu
  have ew : qd (List.replicate k 0 ++ aV y (lead r)) (D * lead y) = List.replicate k 0 ++ qd (aV y (lead r)) (D * lead y) := by
   simp only [qd, List.map_append, List.map_replicate, tJ G2]
  rw [ew] at hSu
  have lb : (qd (aV y (lead r)) (D * lead y)).length ≤ N := by have := bsc.len; simpa using this
  have ZN : (qd Q D).set k (cS (lead r) (D * lead y)) = qd ((Q.map (· * lead y)).set k (lead r)) (D * lead y) := by
   rw [← NN hD hl Q, qd, qd, List.map_set]
  have hQl : (qd Q D).length = i := by simpa using hQ
  refine W.skip ?_
  refine W.block ?_
  generalize hz : qd Q D = z at *
  generalize qd (aV y (lead r)) (D * lead y) = b at *
  generalize NS : cS (lead r) (D * lead y) = c at *
  generalize hp2 : cS (lead r) D = p at *
  generalize hlq : (lead y : Rat) = lq at *
  generalize ha2 : qd (uF y (lead y) (lead r) k r) (D * lead y) = a2 at *
  refine W.sr ?_; simp (disch := omega) [gw, la, lyq, hkI]; refine W.lx [0, 1, 6, 8] ?_; simp
  have ayq : 0 < r.length := by omega
  have e1 : ((r.length : Int) - 1).toNat = r.length - 1 := by omega
  have e2 : ((y.length : Int) - 1).toNat = y.length - 1 := by omega
  refine W.sd ?_
  simp (disch := omega) [gw, la, lyq, e1, e2, hp, K5]
  refine aA aoV ?_
  simp (disch := omega) [gw]
  rw [if_pos (by kernel_rfl)]
  simp (disch := omega) [gw]
  refine W.lx [0, 1, 6, 8, 9] ?_; simp
  have hkl : k < z.length := by omega
  refine W.sr ?_; simp (disch := omega) [gw, hr, hkl]; refine W.lx [0, 1, 6, 8, 9] ?_; simp
  refine W.sr ?_; simp (disch := omega) [gw]; refine W.lx [0, 1, 6, 8, 9, 10] ?_; simp
  refine W.seq ?_
  refine W.sr ?_; simp (disch := omega) [gw]; refine W.lx [0, 1, 6, 8, 9, 10, 60, 61] ?_; simp
  refine W.block ?_
  refine W.bB (fun m σ => ∃ (j v9 v10 v6 : Nat) (els : List (List PV)) (rows : Pm.Rows) (clk : Nat), σ = ⟨fa [(0, PP a), (1, PP yq), (6, .own 19 v6 0 i), (9, .ptr 9 v9 0 0), (10, .own 58 v10 0 k), (60, .int .i64 k), (61, .int .i64 j)], rows, clk⟩ ∧
   rows 19 = some ⟨v6, 50, 4, emap re (z.set k c)⟩ ∧ rows 9 = some ⟨v9, 50, 4, [[aJ aF (aQ DD c.num.natAbs), .bool (decide (c.num < 0)), aJ aF (aQ DD c.den), .bool false]]⟩ ∧
   rows 58 = some ⟨v10, 50, 4, els⟩ ∧ els.length = k ∧ (∀ e ∈ els, e.length = 4) ∧ els.take j = emap ri (List.replicate j 0) ∧ m = k - j ∧ j ≤ k) k ?_ ?_
  ·exact ⟨_, aC _ [0, 1, 6, 9, 10, 60, 61], 0, _, _, _, List.replicate k [.nil, .bool false, .nil, .bool false], _, _, rfl, by simp [hr], by simp, by simp, by simp, by simp, by simp [emap], by omega, by omega⟩
  clear hr rows clk v6
  rintro m _ ⟨j, v9, v10, v6, els, rows, clk, rfl, hr, hr9, JK, nE, JH, z0, hm, hj⟩
  have M3 : bF 4 els = True := by simp only [bF, eq_iff_iff, iff_true]; exact JH
  refine W.sr ?_; simp (disch := omega) [gw]; refine W.lx [0, 1, 6, 9, 10, 60, 61, 62] ?_; simp
  refine W.seq ?_
  refine W.cond ⟨_, rfl, fun h => ?_, fun h => ?_⟩
  ·have h : j < k := by simp at h; omega
   refine W.skip ?_
   refine W.seq ?_
   refine W.block ?_
   refine W.sr ?_; simp (disch := omega) [gw]; refine W.lx [0, 1, 6, 9, 10, 11, 60, 61] ?_; simp
   refine W.cA (fun K hK => ?_)
   simp (disch := omega) [gw]
   refine aA m9 ?_
   have uH : j < els.length := by omega
   have hE : sV els j 4 = True := by
    simp only [eq_iff_iff, iff_true]
    exact ⟨els[j], List.getElem?_eq_getElem uH, by rw [JH _ (List.getElem_mem uH)]; omega⟩
   have hS : iK els j 0 [aJ aF (aQ DD 0), .bool false, aJ aF (aQ DD 1), .bool false] = els.set j (ri 0) := by
    have h4 := JH _ (List.getElem_mem uH)
    rw [iK, List.getElem?_eq_getElem uH]
    simp [List.drop_of_length_le, h4]
   simp (disch := omega) [gw, JK, hE, hS]
   refine W.lw [0, 1, 6, 9, 10, 60, 61] hK ?_; clear hK K; simp
   refine W.cA (fun K hK => ?_); simp (disch := omega) [gw]
   refine hK _ ⟨k - (j + 1), _, aC _ [0, 1, 6, 9, 10, 60, 61], by omega, j + 1, v9, v10, v6, els.set j (ri 0), _, _, rfl, by simp [hr], by simp [hr9], by simp, by simpa using nE, fun e he => ?_, ?_, by omega, by omega⟩
   ·rcases List.mem_or_eq_of_mem_set he with h1 | h1
    ·exact JH e h1
    ·rw [h1]; rfl
   ·rw [kW z0 (by omega), List.replicate_succ']
    simp [emap]
  have h : j = k := by simp at h; omega
  subst h
  have qT : els = emap re (List.replicate j 0) := by
   have h1 : emap ri (List.replicate j 0) = emap re (List.replicate j 0) := by simp [emap, fL]
   rw [← h1, ← z0, bH nE]
  subst qT
  clear z0 JH nE M3
  refine W.exit ?_; simp only [pX, if_true, if_false, reduceIte, Nat.reduceEqDiff]
  refine W.MV (fun K hK => ?_)
  rw [if_pos rfl, dP]
  have hsl : ((List.take r.length a).drop 0) = a := by rw [List.drop_zero, List.take_of_length_le (by omega)]
  simp (disch := omega) [gw, la, lyq, hr9, ES, hsl]
  refine aA hSc ?_
  have BJ : List.take (j + b.length) (List.replicate j 0 ++ b) = List.replicate j 0 ++ b := List.take_of_length_le (by simp)
  simp (disch := omega) [gw, JK, BJ]
  refine aA hSu ?_
  simp (disch := omega) [gw]
  subst ha2
  have cM : rows 19 = some ⟨v6, 50, 4, emap re (qd ((Q.map (· * lead y)).set j (lead r)) (D * lead y))⟩ := by rw [hr, ZN]
  refine hK _ ⟨n, _, aC _ [0, 1, 6], by omega, (Q.map (· * lead y)).set j (lead r), uF y (lead y) (lead r) j r, D * lead y, v6, _, _, rfl, by simp [cM], by simpa using hQ, hI2, by omega, by omega, hd, ?_, ?_⟩
  ·rw [hT]; exact br2
  ·rw [hT]; exact Nat.le_trans zD2 (by omega)
 ·have h : r.length < y.length := by simp at h; omega
  rw [adX h] at hd
  subst hd
  refine W.exit ?_; simp only [pX, if_true, if_false, reduceIte, Nat.reduceEqDiff]
  have hcq := tH (qd Q D) (by simp; omega)
  rw [tK hD] at hcq
  have hQl : (qd Q D).length = i := by simpa using hQ
  have sJ := bH hQl
  rw [← ha]
  generalize qd Q D = z at *
  generalize qd (aM Q) D = z2 at *
  refine W.sr ?_
  simp (disch := omega) [gw, hr, sJ]
  refine aA hcq ?_
  simp (disch := omega) [gw]
  refine W.lx [4, 5] ?_; simp
  refine W.ret ?_
  simp [go]
theorem JT {x y : List Int} (cy : Cn y) (hy : 0 < y.length) : ∀ (j : Nat), j ≤ x.length → ZS y j (List.replicate j 0 ++ x.drop j) (bJ (aM (x.take j)) y) = some (x, [])
 | 0, _ => by
  have : bJ (aM (x.take 0)) y = [] := Cn.ext (Cn.bJ _ _) Cn.nil fun t => by rw [cP, cB]; simp [V]
  rw [ZS, this]; rfl
 | j + 1, h => by
  have ih := JT (x := x) cy hy j (by omega)
  have hly := cD cy hy
  have ht := aX (l := x) (i := j) (by omega)
  have hdr : x.drop j = nth x j :: x.drop (j + 1) := by
   rw [List.drop_eq_getElem_cons (l := x) (i := j) (by omega), show nth x j = x[j] from cL (by omega)]
  rw [ZS]
  by_cases hv : nth x j = 0
  ·have hw : aM (x.take (j + 1)) = aM (x.take j) := by rw [ht, hv, iM]
   rw [hw]
   have h1 := pF (x := aM (x.take j)) hy
   have h2 := bO (x.take j)
   rw [List.length_take] at h2
   rw [if_pos (by omega), ← ih]
   rw [hdr, hv, List.replicate_succ', List.append_assoc]; rfl
  ·have hw : aM (x.take (j + 1)) = x.take j ++ [nth x j] := by rw [ht]; exact i4 hv _
   have cw : Cn (x.take j ++ [nth x j]) := i4 hv _
   have hwl : (x.take j ++ [nth x j]).length = j + 1 := by simp; omega
   have hlw : lead (x.take j ++ [nth x j]) = nth x j := by
    rw [lead, hwl, Nat.add_sub_cancel, cL (by omega)]
    have : (x.take j).length = j := by simp; omega
    simp [List.getElem_append_right, this]
   rw [hw]
   have hl := iP cw cy (by omega) hy
   have hd := uT cw cy (by omega) hy
   rw [hwl] at hl
   rw [hlw] at hd
   rw [if_neg (by omega), hd, if_pos (Int.mul_emod_left _ _), Int.mul_ediv_cancel _ hly]
   have e1 : dX (bJ (x.take j ++ [nth x j]) y) (bJ (oK j (nth x j)) y) = bJ (aM (x.take j)) y := Cn.ext (Cn.dX _ _) (Cn.bJ _ _) fun t => by
    rw [gP, cP, cP, cP, cB, dG, lP, lV, show (x.take j).length = j by simp; omega]
    grind
   have e2 : (List.replicate (j + 1) 0 ++ x.drop (j + 1)).set j (nth x j) = List.replicate j 0 ++ x.drop j := by
    rw [hdr, List.replicate_succ', List.append_assoc, List.set_append_right _ _ (by simp)]
    simp
   rw [e1, e2]
   exact ih
theorem NT {x y : List Int} (cx : Cn x) (cy : Cn y) (hy : 0 < y.length) : exact (bJ x y) y = some x := by
 have hk : iD (bJ x y) y = x.length := by
  rcases Nat.eq_zero_or_pos x.length with h | h
  ·have : x = [] := List.eq_nil_of_length_eq_zero h
   have e : bJ x y = [] := Cn.ext (Cn.bJ _ _) Cn.nil fun t => by rw [cP, this]; simp [V]
   rw [e, this]; simp [iD]; omega
  ·have := iP cx cy h hy
   unfold iD; omega
 have h1 := JT (x := x) cy hy x.length (Nat.le_refl _)
 rw [List.take_length, show aM x = x from cx, List.drop_length, List.append_nil] at h1
 rw [exact, hk, h1, exF, show aM x = x from cx]
theorem FP {y h : List Int} (cy : Cn y) (hy : 0 < y.length) (e : ∀ t, V t y * V t h = 0) : aM h = [] := by
 by_cases hh : aM h = []
 ·exact hh
 ·exfalso
  have h1 : bJ y (aM h) = [] := Cn.ext (Cn.bJ _ _) Cn.nil fun t => by rw [cP, cB, e]; rfl
  have h2 := iP cy (Cn.cut h) hy (List.length_pos_iff.2 hh)
  rw [h1] at h2
  have := List.length_pos_iff.2 hh
  simp at h2; omega
theorem JU {a b : List Int} (h : aM (dX a b) = []) (t : Int) : V t a = V t b := by
 have h1 := gP (t := t) a b
 rw [← cB, h] at h1
 have : V t ([] : List Int) = 0 := rfl
 omega
theorem UJ {D : Int} (h : D ≠ 0) (x : List Int) : qd (x.map (· * D)) D = qs x := by
 have := NN (D := 1) (l := D) (by decide) h x
 rw [Int.one_mul, FK] at this
 exact this
theorem Z9 {x y q : List Int} (cx : Cn x) (cy : Cn y) (hy : 0 < y.length) (cq : Cn q) (h : ∀ t, V t x = V t q * V t y) : qd (aM (ZY x y).Q) (ZY x y).D = qs q ∧ (ZY x y).r = [] := by
 obtain ⟨hI, hr⟩ := adY cx cy hy
 generalize ZY x y = σ at *
 have hv := hI.v
 have e : ∀ t, V t σ.r = V t y * V t (dX (q.map (· * σ.D)) σ.Q) := fun t => by
  have h1 := hv t
  rw [h] at h1
  rw [gP, dC]
  grind
 have h1 := C0 hI.c cy hy e hr
 have h2 : aM (dX (q.map (· * σ.D)) σ.Q) = [] := FP cy hy fun t => by rw [← e, h1]; rfl
 have e2 : aM σ.Q = q.map (· * σ.D) := Cn.ext (Cn.cut _) (jR cq hI.d) fun t => by rw [cB]; exact (JU h2 t).symm
 rw [e2]
 exact ⟨UJ hI.d q, h1⟩
end Go.Proofs.YtbbjgncblhfegaaGreat
namespace Pm
structure ZX where
 l : List Int
 c : Cn l
namespace ZX
theorem ext {x y : ZX} (h : ∀ t, V t x.l = V t y.l) : x = y := by
 obtain ⟨x, hx⟩ := x
 obtain ⟨y, hy⟩ := y
 have := Cn.ext hx hy h
 subst this
 rfl
def of (x : List Int) : ZX := ⟨aM x, Cn.cut x⟩
def K (c : Int) : ZX := of [c]
instance : Zero ZX := ⟨⟨[], Cn.nil⟩⟩
instance : One ZX := ⟨K 1⟩
instance : Add ZX := ⟨fun x y => ⟨fX x.l y.l, Cn.fX _ _⟩⟩
instance : Mul ZX := ⟨fun x y => ⟨bJ x.l y.l, Cn.bJ _ _⟩⟩
instance : Neg ZX := ⟨fun x => ⟨fG x.l, Cn.fG _⟩⟩
instance : Sub ZX := ⟨fun x y => ⟨dX x.l y.l, Cn.dX _ _⟩⟩
def pow (x : ZX) : Nat → ZX
 | 0 => 1
 | n + 1 => pow x n * x
instance : HPow ZX Nat ZX := ⟨pow⟩
instance : NatCast ZX := ⟨fun n => K n⟩
instance (n : Nat) : OfNat ZX n := ⟨K n⟩
instance : IntCast ZX := ⟨fun n => K n⟩
instance : SMul Nat ZX := ⟨fun n x => K n * x⟩
instance : SMul Int ZX := ⟨fun n x => K n * x⟩
variable {t : Int}
theorem NU (x : List Int) : V t (of x).l = V t x := cB x
theorem rW (c : Int) : V t (K c).l = c := by rw [K, NU]; simp [V]
theorem rX : V t (0 : ZX).l = 0 := rW 0
theorem DK : V t (1 : ZX).l = 1 := rW 1
theorem j6 (x y : ZX) : V t (x + y).l = V t x.l + V t y.l := pD _ _
theorem cY (x y : ZX) : V t (x * y).l = V t x.l * V t y.l := cP _ _
theorem DL (x : ZX) : V t (-x).l = -V t x.l := y9 _
theorem aoX (x y : ZX) : V t (x - y).l = V t x.l - V t y.l := gP _ _
theorem QQ (x : ZX) : ∀ n : Nat, V t (x ^ n).l = V t x.l ^ n
 | 0 => by show V t (1 : ZX).l = _; rw [DK, Int.pow_zero]
 | n + 1 => by show V t ((x ^ n) * x).l = _; rw [cY, QQ x n, Int.pow_succ]
theorem QR (n : Nat) : V t (OfNat.ofNat n : ZX).l = n := rW n
theorem agj (n : Int) : V t (n : ZX).l = n := rW n
theorem QS (n : Int) (x : ZX) : V t (n • x).l = n * V t x.l := by show V t (K n * x).l = _; rw [cY, rW]
instance : Lean.Grind.CommRing ZX where
 add_zero x := ext fun t => by rw [j6, rX]; omega
 add_comm x y := ext fun t => by rw [j6, j6]; omega
 add_assoc x y z := ext fun t => by simp only [j6]; omega
 mul_assoc x y z := ext fun t => by simp only [cY]; grind
 mul_one x := ext fun t => by rw [cY, DK]; omega
 one_mul x := ext fun t => by rw [cY, DK]; omega
 left_distrib x y z := ext fun t => by simp only [cY, j6]; grind
 right_distrib x y z := ext fun t => by simp only [cY, j6]; grind
 zero_mul x := ext fun t => by rw [cY, rX]; omega
 mul_zero x := ext fun t => by rw [cY, rX]; omega
 pow_zero x := ext fun t => by rw [QQ, DK, Int.pow_zero]
 pow_succ x n := ext fun t => by rw [cY, QQ, QQ, Int.pow_succ]
 ofNat_succ n := ext fun t => by rw [j6, QR, QR, DK]; omega
 ofNat_eq_natCast n := rfl
 nsmul_eq_natCast_mul n x := rfl
 neg_add_cancel x := ext fun t => by rw [j6, DL, rX]; omega
 sub_eq_add_neg x y := ext fun t => by rw [aoX, j6, DL]; omega
 neg_zsmul n x := ext fun t => by rw [QS, DL, QS]; grind
 zsmul_natCast_eq_nsmul n x := rfl
 intCast_ofNat n := rfl
 intCast_neg n := ext fun t => by rw [agj, DL, agj]
 mul_comm x y := ext fun t => by rw [cY, cY, Int.mul_comm]
def N (x : ZX) : Nat := x.l.length
theorem aG {x : ZX} : x ≠ 0 ↔ 0 < N x := by
 constructor
 ·intro h
  rcases Nat.eq_zero_or_pos (N x) with h1 | h1
  ·exfalso
   apply h
   have : x.l = [] := List.eq_nil_of_length_eq_zero h1
   exact ext fun t => by rw [this, rX]; rfl
  ·exact h1
 ·rintro h rfl
  have : N (0 : ZX) = 0 := by decide
  omega
theorem Y9 : N (0 : ZX) = 0 := by decide
theorem lA {x y : ZX} (hx : x ≠ 0) (hy : y ≠ 0) : N (x * y) = N x + N y - 1 := iP x.c y.c (aG.1 hx) (aG.1 hy)
theorem mN {x y : ZX} (hx : x ≠ 0) (hy : y ≠ 0) : x * y ≠ 0 := by
 rw [aG, lA hx hy]
 have := aG.1 hx
 have := aG.1 hy
 omega
theorem pO {x y : ZX} (h : x * y = 0) : x = 0 ∨ y = 0 := by
 by_cases hx : x = 0
 ·exact .inl hx
 ·by_cases hy : y = 0
  ·exact .inr hy
  ·exact absurd h (mN hx hy)
theorem DM (x y : ZX) : x * y = y * x := by grind
theorem cancel {x y z : ZX} (hz : z ≠ 0) (h : z * x = z * y) : x = y := by
 have h1 : z * (x - y) = 0 := by grind
 rcases pO h1 with h2 | h2
 ·exact absurd h2 hz
 ·grind
theorem rY {c : Int} (h : c ≠ 0) : K c ≠ 0 := fun e => h (by
 have := rW (t := 0) c
 rw [e, rX] at this; omega)
theorem N_K {c : Int} (h : c ≠ 0) : N (K c) = 1 := by
 show (aM [c]).length = 1
 rw [show aM [c] = [c] from i4 h []]; rfl
theorem nB (c d : Int) : K c * K d = K (c * d) := ext fun t => by rw [cY, rW, rW, rW]
theorem nC {x : ZX} (h : N x = 1) : ∃ c, c ≠ 0 ∧ x = K c := by
 obtain ⟨l, hl⟩ := x
 match l, hl, h with
 | [c], hl, _ =>
  have hc : c ≠ 0 := by
   have := cD hl (by simp)
   simpa [lead, qD] using this
  exact ⟨c, hc, ext fun t => by rw [rW]; simp [V]⟩
theorem kM {c : Int} {x y q : ZX} (hc : c ≠ 0) (hx : x ≠ 0) (h : K c * x = q * y) : q ≠ 0 ∧ y ≠ 0 := by
 have h1 := mN (rY hc) hx
 rw [h] at h1
 constructor
 ·rintro rfl; apply h1; grind
 ·rintro rfl; apply h1; grind
theorem pP : (1 : ZX) ≠ 0 := rY (by decide)
theorem tN : N (1 : ZX) = 1 := N_K (by decide)
def dv (y x : ZX) : Prop := ∃ c : Int, c ≠ 0 ∧ ∃ q, K c * x = q * y
theorem dv.refl (x : ZX) : dv x x := ⟨1, by decide, K 1, rfl⟩
theorem dv.zero (x : ZX) : dv x 0 := ⟨1, by decide, 0, by grind⟩
theorem dv.trans {x y z : ZX} (h1 : dv x y) (h2 : dv y z) : dv x z := by
 obtain ⟨c, hc, q, h1⟩ := h1
 obtain ⟨d, hd, r, h2⟩ := h2
 exact ⟨c * d, Int.mul_ne_zero hc hd, q * r, by rw [← nB]; grind⟩
theorem dv.mul_right {x y : ZX} (h : dv x y) (z : ZX) : dv x (y * z) := by
 obtain ⟨c, hc, q, h⟩ := h
 exact ⟨c, hc, q * z, by grind⟩
theorem dv.mul_left {x y : ZX} (h : dv x y) (z : ZX) : dv x (z * y) := by
 obtain ⟨c, hc, q, h⟩ := h
 exact ⟨c, hc, q * z, by grind⟩
theorem dv.mul {x y z w : ZX} (h1 : dv x y) (h2 : dv z w) : dv (x * z) (y * w) := by
 obtain ⟨c, hc, q, h1⟩ := h1
 obtain ⟨d, hd, r, h2⟩ := h2
 exact ⟨c * d, Int.mul_ne_zero hc hd, q * r, by rw [← nB]; grind⟩
theorem dv.add {x y z : ZX} (h1 : dv x y) (h2 : dv x z) : dv x (y + z) := by
 obtain ⟨c, hc, q, h1⟩ := h1
 obtain ⟨d, hd, r, h2⟩ := h2
 exact ⟨c * d, Int.mul_ne_zero hc hd, K d * q + K c * r, by rw [← nB]; grind⟩
theorem dv.JV {x y : ZX} {c : Int} (hc : c ≠ 0) (h : dv x (K c * y)) : dv x y := by
 obtain ⟨d, hd, q, h⟩ := h
 exact ⟨d * c, Int.mul_ne_zero hd hc, q, by rw [← nB]; grind⟩
theorem dv.pQ {x y : ZX} (h : dv x y) (hy : y ≠ 0) : N x ≤ N y := by
 obtain ⟨c, hc, q, h⟩ := h
 obtain ⟨h1, h2⟩ := kM hc hy h
 have h3 : N (K c * y) = N y := by rw [lA (rY hc) hy, N_K hc]; have := aG.1 hy; omega
 rw [h, lA h1 h2] at h3
 have := aG.1 h1
 omega
theorem dv.ne {x y : ZX} (h : dv x y) (hy : y ≠ 0) : x ≠ 0 := by
 obtain ⟨c, hc, q, h⟩ := h
 exact (kM hc hy h).2
theorem xR {x : ZX} (h : dv 0 x) : x = 0 := by
 obtain ⟨c, hc, q, h⟩ := h
 have h2 : K c * x = 0 := by grind
 exact (pO h2).resolve_left (rY hc)
theorem aoY {c : Int} (hc : c ≠ 0) (x : ZX) : dv (K c) x := ⟨c, hc, x, by grind⟩
theorem ad2 {x y : ZX} (h : dv x y) (hy : y ≠ 0) (hN : N x = N y) : dv y x := by
 obtain ⟨c, hc, q, h⟩ := h
 obtain ⟨h1, h2⟩ := kM hc hy h
 have h3 : N (K c * y) = N y := by rw [lA (rY hc) hy, N_K hc]; have := aG.1 hy; omega
 rw [h, lA h1 h2] at h3
 have h4 := aG.1 h1
 have h5 := aG.1 h2
 obtain ⟨d, hd, rfl⟩ := nC (x := q) (by omega)
 exact ⟨d, hd, K c, by rw [h]⟩
theorem ajm (a : ZX) {b : ZX} (hb : b ≠ 0) : ∃ c : Int, c ≠ 0 ∧ ∃ q r, K c * a = q * b + r ∧ N r < N b := by
 have h0 := aG.1 hb
 obtain ⟨c1, c2⟩ := zC (b := b.l) a.c
 refine ⟨lead b.l ^ iD a.l b.l, Int.pow_ne_zero (cD b.c h0), ⟨_, c1⟩, ⟨_, c2⟩, ext fun t => ?_, ?_⟩
 ·rw [cY, rW, j6, cY]
  exact (YJ t a.l b.l).symm
 ·have := E7 (a := a.l) h0
  show (wC a.l b.l).2.length < b.l.length
  have : 0 < b.l.length := h0
  omega
structure oM (g a b : ZX) : Prop where
 l : dv g a
 r : dv g b
 uv : ∃ c : Int, c ≠ 0 ∧ ∃ u v, K c * g = u * a + v * b
theorem oM.least {g a b d : ZX} (h : oM g a b) (ha : dv d a) (hb : dv d b) : dv d g := by
 obtain ⟨c, hc, u, v, e⟩ := h.uv
 refine dv.JV hc ?_
 rw [e]
 exact (ha.mul_left u).add (hb.mul_left v)
theorem oM.ne {g a b : ZX} (h : oM g a b) (ha : a ≠ 0 ∨ b ≠ 0) : g ≠ 0 := by
 rintro rfl
 rcases ha with h1 | h1
 ·exact h1 (xR h.l)
 ·exact h1 (xR h.r)
theorem oM.zero (a : ZX) : oM a a 0 := ⟨dv.refl a, dv.zero a, 1, by decide, 1, 0, by show (1 : ZX) * a = _; grind⟩
theorem oM.symm {g a b : ZX} (h : oM g a b) : oM g b a := by
 obtain ⟨c, hc, u, v, e⟩ := h.uv
 exact ⟨h.r, h.l, c, hc, v, u, by grind⟩
theorem oM.step {g a b q r : ZX} {c : Int} (hc : c ≠ 0) (e : K c * a = q * b + r) (h : oM g b r) : oM g a b := by
 obtain ⟨d, hd, u, v, e2⟩ := h.uv
 refine ⟨dv.JV hc ?_, h.l, d, hd, v * K c, u - v * q, by grind⟩
 rw [e]
 exact (h.l.mul_left q).add h.r
theorem iG : ∀ (n : Nat) (a b : ZX), N b ≤ n → ∃ g, oM g a b
 | 0, a, b, h => by
  have : b = 0 := Classical.byContradiction fun hb => by have := aG.1 hb; omega
  subst this
  exact ⟨a, oM.zero a⟩
 | n + 1, a, b, h => by
  by_cases hb : b = 0
  ·subst hb; exact ⟨a, oM.zero a⟩
  ·obtain ⟨c, hc, q, r, e, hr⟩ := ajm a hb
   obtain ⟨g, hg⟩ := iG n b r (by omega)
   exact ⟨g, hg.step hc e⟩
structure pR (p : ZX) : Prop where
 deg : 2 ≤ N p
 irr : ∀ d, dv d p → N d = 1 ∨ N d = N p
theorem pR.ne {p : ZX} (h : pR p) : p ≠ 0 := aG.2 (by have := h.deg; omega)
theorem pR.agk {p a b : ZX} (hp : pR p) (h : dv p (a * b)) : dv p a ∨ dv p b := by
 obtain ⟨g, hg⟩ := iG _ p a (Nat.le_refl _)
 rcases hp.irr g hg.l with h1 | h1
 ·right
  obtain ⟨k, hk, rfl⟩ := nC h1
  obtain ⟨c, hc, u, v, e⟩ := hg.uv
  refine dv.JV (c := c * k) (Int.mul_ne_zero hc hk) ?_
  have e2 : K (c * k) * b = (u * b) * p + v * (a * b) := by rw [← nB]; grind
  rw [e2]
  exact ((dv.refl p).mul_left _).add (h.mul_left v)
 ·left
  exact (ad2 hg.l hp.ne h1).trans hg.r
theorem AA : ∀ (n : Nat) (a : ZX), N a ≤ n → 2 ≤ N a → ∃ p, pR p ∧ dv p a
 | 0, a, h, h2 => by omega
 | n + 1, a, h, h2 => by
  by_cases hi : ∃ d, dv d a ∧ N d ≠ 1 ∧ N d ≠ N a
  ·obtain ⟨d, hd, h3, h4⟩ := hi
   have h5 := hd.pQ (aG.2 (by omega))
   have h6 := aG.1 (hd.ne (aG.2 (by omega)))
   obtain ⟨p, hp, hpd⟩ := AA n d (by omega) (by omega)
   exact ⟨p, hp, hpd.trans hd⟩
  ·refine ⟨a, ⟨h2, fun d hd => ?_⟩, dv.refl a⟩
   by_cases h3 : N d = 1
   ·exact .inl h3
   ·by_cases h4 : N d = N a
    ·exact .inr h4
    ·exact absurd ⟨d, hd, h3, h4⟩ hi
theorem pow_succ' (p : ZX) (k : Nat) : p ^ (k + 1) = p ^ k * p := rfl
theorem gI (p : ZX) : p ^ 0 = 1 := rfl
theorem pow_add' (p : ZX) (j : Nat) : ∀ k, p ^ (j + k) = p ^ j * p ^ k
 | 0 => by rw [Nat.add_zero, gI]; grind
 | k + 1 => by rw [← Nat.add_assoc, pow_succ', pow_succ', pow_add' p j k]; grind
theorem FQ {p : ZX} (hp : p ≠ 0) : ∀ k : Nat, p ^ k ≠ 0
 | 0 => pP
 | k + 1 => mN (FQ hp k) hp
theorem agl {p : ZX} (hp : pR p) : ∀ k : Nat, k < N (p ^ k)
 | 0 => by rw [gI, tN]; omega
 | k + 1 => by
  rw [pow_succ', lA (FQ hp.ne k) hp.ne]
  have := agl hp k
  have := hp.deg
  omega
theorem aaa {p : ZX} {j k : Nat} (h : j ≤ k) : dv (p ^ j) (p ^ k) := by
 obtain ⟨d, rfl⟩ := Nat.exists_eq_add_of_le h
 rw [pow_add']
 exact (dv.refl _).mul_right _
theorem UK {p a : ZX} (hp : pR p) (ha : a ≠ 0) : ∃ k, dv (p ^ k) a ∧ ¬ dv (p ^ (k + 1)) a := by
 have key : ∀ n, (∃ k, k ≤ n ∧ dv (p ^ k) a ∧ ¬ dv (p ^ (k + 1)) a) ∨ dv (p ^ (n + 1)) a := by
  intro n
  induction n with
  | zero =>
   by_cases h : dv (p ^ 1) a
   ·exact .inr h
   ·exact .inl ⟨0, Nat.le_refl _, aoY (by decide) a, h⟩
  | succ n ih =>
   rcases ih with ⟨k, h1, h2⟩ | ih
   ·exact .inl ⟨k, by omega, h2⟩
   ·by_cases h : dv (p ^ (n + 2)) a
    ·exact .inr h
    ·exact .inl ⟨n + 1, Nat.le_refl _, ih, h⟩
 rcases key (N a) with ⟨k, _, h⟩ | h
 ·exact ⟨k, h⟩
 ·have h1 := h.pQ ha
  have h2 := agl hp (N a + 1)
  omega
open Classical in
noncomputable def mu (p a : ZX) : Nat := if h : ∃ k, dv (p ^ k) a ∧ ¬ dv (p ^ (k + 1)) a then h.choose else 0
theorem QT {p a : ZX} (hp : pR p) (ha : a ≠ 0) : dv (p ^ mu p a) a ∧ ¬ dv (p ^ (mu p a + 1)) a := by
 have h := UK hp ha
 unfold mu
 rw [dif_pos h]
 exact h.choose_spec
theorem pS {p a : ZX} (hp : pR p) (ha : a ≠ 0) {k : Nat} : k ≤ mu p a ↔ dv (p ^ k) a := by
 obtain ⟨h1, h2⟩ := QT hp ha
 constructor
 ·intro h; exact (aaa h).trans h1
 ·intro h
  rcases Nat.lt_or_ge (mu p a) k with h3 | h3
  ·exact absurd ((aaa h3).trans h) h2
  ·exact h3
theorem AB {p a : ZX} (hp : pR p) (ha : a ≠ 0) : ∃ c : Int, c ≠ 0 ∧ ∃ b, b ≠ 0 ∧ K c * a = b * p ^ mu p a ∧ ¬ dv p b := by
 obtain ⟨⟨c, hc, b, e⟩, h2⟩ := QT hp ha
 refine ⟨c, hc, b, (kM hc ha e).1, e, fun h => h2 (dv.JV hc ?_)⟩
 rw [e, pow_succ']
 have := h.mul (dv.refl (p ^ mu p a))
 rw [show p ^ mu p a * p = p * p ^ mu p a by grind]
 exact this
theorem uZ {p a b : ZX} (hp : pR p) (ha : a ≠ 0) {c : Int} (hc : c ≠ 0) {k : Nat} (e : K c * a = b * p ^ k) (h : ¬ dv p b) : mu p a = k := by
 have h1 : k ≤ mu p a := (pS hp ha).2 ⟨c, hc, b, e⟩
 rcases Nat.lt_or_ge k (mu p a) with h2 | h2
 ·exfalso
  obtain ⟨d, hd, r, e2⟩ := (pS hp ha).1 h2
  apply h
  refine ⟨d, hd, K c * r, ZX.cancel (FQ hp.ne k) ?_⟩
  rw [pow_succ'] at e2
  grind
 ·omega
theorem AD {p a b : ZX} (hp : pR p) (ha : a ≠ 0) (hb : b ≠ 0) : mu p (a * b) = mu p a + mu p b := by
 obtain ⟨c, hc, x, _, e1, h1⟩ := AB hp ha
 obtain ⟨d, hd, y, _, e2, h2⟩ := AB hp hb
 refine uZ (b := x * y) hp (mN ha hb) (Int.mul_ne_zero hc hd) ?_ fun h => ?_
 ·rw [pow_add', ← nB]; grind
 ·rcases hp.agk h with h3 | h3
  ·exact h1 h3
  ·exact h2 h3
theorem aab {p : ZX} (hp : pR p) {c : Int} (hc : c ≠ 0) : mu p (K c) = 0 := by
 refine uZ (b := K c) (c := 1) hp (rY hc) (by decide) (by rw [gI]; show (1 : ZX) * K c = _; grind) fun h => ?_
 have := h.pQ (rY hc)
 rw [N_K hc] at this
 have := hp.deg
 omega
theorem QU {p a b : ZX} (hp : pR p) (hb : b ≠ 0) (h : dv a b) : mu p a ≤ mu p b := (pS hp hb).2 (((pS hp (h.ne hb)).1 (Nat.le_refl _)).trans h)
theorem agm {p a b q : ZX} (hp : pR p) {c : Int} (hc : c ≠ 0) (ha : a ≠ 0) (e : K c * a = q * b) : mu p a = mu p q + mu p b := by
 obtain ⟨h1, h2⟩ := kM hc ha e
 rw [← AD hp h1 h2, ← e, AD hp (rY hc) ha, aab hp hc]; omega
theorem JW : ∀ (n : Nat) (a b : ZX), N a ≤ n → a ≠ 0 → b ≠ 0 → (∀ p, pR p → mu p a ≤ mu p b) → dv a b
 | 0, a, b, hn, ha, _, _ => by have := aG.1 ha; omega
 | n + 1, a, b, hn, ha, hb, h => by
  rcases Nat.lt_or_ge (N a) 2 with h1 | h1
  ·obtain ⟨c, hc, rfl⟩ := nC (x := a) (by have := aG.1 ha; omega)
   exact aoY hc b
  ·obtain ⟨p, hp, hpa⟩ := AA _ a (Nat.le_refl _) h1
   have h2 : 1 ≤ mu p a := (pS hp ha).2 (by rw [show p ^ 1 = p by rw [pow_succ', gI]; grind]; exact hpa)
   have h3 : dv p b := by
    have := (pS hp hb).1 (Nat.le_trans h2 (h p hp))
    rwa [show p ^ 1 = p by rw [pow_succ', gI]; grind] at this
   obtain ⟨c, hc, a', ea⟩ := hpa
   obtain ⟨d, hd, b', eb⟩ := h3
   obtain ⟨GW, _⟩ := kM hc ha ea
   obtain ⟨x9, _⟩ := kM hd hb eb
   have h4 : N (K c * a) = N a := by rw [lA (rY hc) ha, N_K hc]; have := aG.1 ha; omega
   have h5 : dv a' b' := JW n a' b' (by
    rw [ea, lA GW hp.ne] at h4
    have := hp.deg
    omega) GW x9 fun r hr => by
    have h6 := h r hr
    rw [agm hr hc ha ea, agm hr hd hb eb] at h6
    omega
   refine dv.JV hd ?_
   rw [eb]
   have h7 := h5.mul (dv.refl p)
   rw [← ea] at h7
   obtain ⟨e, he, q, e3⟩ := h7
   exact ⟨e, he, q * K c, by grind⟩
theorem qI {a b : ZX} (ha : a ≠ 0) (hb : b ≠ 0) : dv a b ↔ ∀ p, pR p → mu p a ≤ mu p b := ⟨fun h p hp => QU hp hb h, JW _ a b (Nat.le_refl _) ha hb⟩
theorem oM.mu {g a b p : ZX} (h : oM g a b) (ha : a ≠ 0) (hb : b ≠ 0) (hp : pR p) : mu p g = min (ZX.mu p a) (ZX.mu p b) := by
 have hg := h.ne (.inl ha)
 have h1 := QU hp ha h.l
 have h2 := QU hp hb h.r
 have h3 : min (ZX.mu p a) (ZX.mu p b) ≤ ZX.mu p g := (pS hp hg).2 (h.least ((pS hp ha).1 (Nat.min_le_left _ _)) ((pS hp hb).1 (Nat.min_le_right _ _)))
 omega
def u0 (x : List Int) : List Int := (List.range (x.length - 1)).map fun i => nth x (i + 1) * ((i + 1 : Nat) : Int)
def oN : Nat → List Int → List Int
 | _, [] => []
 | k, a :: l => a * (k : Int) :: oN (k + 1) l
def W (t : Int) : List Int → Int
 | [] => 0
 | _ :: l => V t l + t * W t l
theorem QV : ∀ (l : List Int) (k : Nat), oN k l = (List.range l.length).map fun i => nth l i * ((k + i : Nat) : Int)
 | [], k => rfl
 | a :: l, k => by
  rw [oN, QV l (k + 1), List.length_cons, List.range_succ_eq_map, List.map_cons, List.map_map]
  congr 1
  refine List.map_congr_left fun i _ => ?_
  simp only [Function.comp_apply, iQ]
  rw [show k + 1 + i = k + (i + 1) by omega]
theorem DN (a : Int) (l : List Int) : u0 (a :: l) = oN 1 l := by
 rw [QV, u0, List.length_cons, Nat.add_sub_cancel]
 refine List.map_congr_left fun i _ => ?_
 rw [iQ, show i + 1 = 1 + i by omega]
theorem wN (t : Int) : ∀ (l : List Int) (k : Nat), V t (oN (k + 1) l) = V t (oN k l) + V t l
 | [], k => by simp [oN, V]
 | a :: l, k => by
  simp only [oN, V]
  rw [wN t l (k + 1)]
  have : ((k + 1 : Nat) : Int) = (k : Int) + 1 := by omega
  rw [this]; grind
theorem AE (t : Int) : ∀ l : List Int, V t (oN 1 l) = V t l + t * W t l
 | [] => by simp [oN, V, W]
 | b :: m => by
  rw [oN]
  simp only [V, W]
  rw [wN, AE t m]
  rw [show ((1 : Nat) : Int) = 1 from rfl]
  grind
theorem ajo (t : Int) : ∀ x : List Int, V t (u0 x) = W t x
 | [] => rfl
 | a :: l => by rw [DN, AE]; rfl
def bM (x : ZX) : ZX := of (u0 x.l)
theorem QW (x : ZX) : V t (bM x).l = W t x.l := by rw [bM, NU, ajo]
theorem FR (t h : Int) : ∀ x : List Int, ∃ R : Int, V (t + h) x = V t x + h * W t x + h * h * R
 | [] => ⟨0, by simp [V, W]⟩
 | a :: l => by
  obtain ⟨R, hR⟩ := FR t h l
  refine ⟨W t l + (t + h) * R, ?_⟩
  simp only [V, W]
  rw [hR]; grind
theorem aac {t A : Int} {z : List Int} (hA : ∀ h, ∃ R : Int, V (t + h) z = V t z + h * A + h * h * R) : W t z = A := by
 have key : ∀ h : Int, h ≠ 0 → h ∣ W t z - A := fun h hh => by
  obtain ⟨R, hR⟩ := hA h
  obtain ⟨S, hS⟩ := FR t h z
  refine ⟨R - S, Int.eq_of_mul_eq_mul_left hh ?_⟩
  grind
 have h1 := key (((W t z - A).natAbs : Int) + 1) (by omega)
 have h2 := Int.natAbs_dvd_natAbs.2 h1
 rcases Nat.eq_zero_or_pos (W t z - A).natAbs with h3 | h3
 ·omega
 ·have := Nat.le_of_dvd h3 h2
  omega
theorem tO (x y : ZX) : bM (x * y) = bM x * y + x * bM y := ext fun t => by
 rw [QW, j6, cY, cY, QW, QW]
 refine aac fun h => ?_
 obtain ⟨R, hR⟩ := FR t h x.l
 obtain ⟨S, hS⟩ := FR t h y.l
 refine ⟨V t x.l * S + R * V t y.l + W t x.l * W t y.l + h * (W t x.l * S + R * W t y.l) + h * h * R * S, ?_⟩
 rw [cY, cY, hR, hS]; grind
theorem agn (c : Int) : bM (K c) = 0 := ext fun t => by
 rw [QW, rX]
 refine aac fun h => ⟨0, ?_⟩
 rw [rW, rW]; grind
theorem JX (c : Int) (x : ZX) : bM (K c * x) = K c * bM x := by rw [tO, agn]; grind
theorem QX : bM (1 : ZX) = 0 := agn 1
theorem QY (p : ZX) : ∀ m : Nat, bM (p ^ (m + 1)) = K ((m + 1 : Nat) : Int) * p ^ m * bM p
 | 0 => by
  rw [pow_succ', tO, gI, QX]
  show _ = (1 : ZX) * 1 * bM p
  grind
 | m + 1 => by
  rw [pow_succ', tO, QY p m]
  have : K ((m + 1 + 1 : Nat) : Int) = K ((m + 1 : Nat) : Int) + 1 := ext fun t => by rw [j6, rW, rW, DK]; omega
  rw [this, pow_succ']; grind
theorem l5 (a : ZX) : N (bM a) ≤ N a - 1 := Nat.le_trans (bO _) (by simp [u0, N])
theorem FT {a : ZX} (h : 2 ≤ N a) : bM a ≠ 0 := by
 have h1 : a.l.length = N a := rfl
 have hl := cD a.c (by omega)
 intro h0
 have h2 : nth (bM a).l (N a - 2) = nth a.l (N a - 1) * ((N a - 1 : Nat) : Int) := by
  show nth (aM (u0 a.l)) _ = _
  rw [gU, u0, cL (by simp; omega)]
  simp only [List.getElem_map, List.getElem_range]
  rw [show N a - 2 + 1 = N a - 1 by omega]
 rw [h0] at h2
 have h3 : nth (0 : ZX).l (N a - 2) = 0 := fV (by show (0 : ZX).l.length ≤ _; exact Nat.zero_le _)
 rw [h3] at h2
 have h4 : nth a.l (N a - 1) = lead a.l := by rw [lead, h1]
 rw [h4] at h2
 exact Int.mul_ne_zero hl (by omega) h2.symm
theorem pR.NV {p : ZX} (hp : pR p) : ¬ dv p (bM p) := fun h => by
 have h1 := h.pQ (FT hp.deg)
 have h2 := l5 p
 have := hp.deg
 omega
theorem AF {p a : ZX} (hp : pR p) (ha : a ≠ 0) {m : Nat} (h : mu p a = m + 1) : bM a ≠ 0 ∧ mu p (bM a) = m := by
 obtain ⟨c, hc, b, hb, e, hn⟩ := AB hp ha
 rw [h] at e
 have e2 : K c * bM a = (bM b * p + K ((m + 1 : Nat) : Int) * (b * bM p)) * p ^ m := by
  rw [← JX, e, tO, QY, pow_succ']; grind
 have HL : ¬ dv p (bM b * p + K ((m + 1 : Nat) : Int) * (b * bM p)) := fun h1 => by
  have h2 : dv p (K ((m + 1 : Nat) : Int) * (b * bM p)) := by
   have h3 := h1.add ((dv.refl p).mul_left (-bM b))
   rwa [show bM b * p + K ((m + 1 : Nat) : Int) * (b * bM p) + -bM b * p = K ((m + 1 : Nat) : Int) * (b * bM p) by grind] at h3
  have h4 := dv.JV (by omega) h2
  rcases hp.agk h4 with h5 | h5
  ·exact hn h5
  ·exact hp.NV h5
 have h6 : bM a ≠ 0 := fun h0 => by
  rw [h0] at e2
  have h7 : (bM b * p + K ((m + 1 : Nat) : Int) * (b * bM p)) * p ^ m = 0 := by rw [← e2]; grind
  rcases pO h7 with h8 | h8
  ·rw [h8] at HL; exact HL (dv.zero p)
  ·exact FQ hp.ne m h8
 exact ⟨h6, uZ hp h6 hc e2 HL⟩
theorem oM.AF {g a p : ZX} (h : oM g a (bM a)) (ha : a ≠ 0) (hp : pR p) : ZX.mu p g = ZX.mu p a - 1 := by
 rcases Nat.eq_zero_or_pos (ZX.mu p a) with h1 | h1
 ·have := QU hp ha h.l
  omega
 ·obtain ⟨m, hm⟩ : ∃ m, ZX.mu p a = m + 1 := ⟨ZX.mu p a - 1, by omega⟩
  obtain ⟨h2, h3⟩ := ZX.AF hp ha hm
  rw [h.mu ha h2 hp, h3, hm]; omega
theorem aad {p : ZX} (hp : pR p) : mu p 1 = 0 := aab hp (by decide)
theorem oM.aoZ {g a b q r : ZX} {c k : Int} (hc : c ≠ 0) (hk : k ≠ 0) (e : K c * a = q * b + K k * r) (h : oM g b r) : oM g a b := by
 obtain ⟨d, hd, u, v, e2⟩ := h.uv
 refine ⟨dv.JV hc ?_, h.l, k * d, Int.mul_ne_zero hk hd, v * K c, K k * u - v * q, by rw [← nB]; grind⟩
 rw [e]
 exact (h.l.mul_left q).add (h.r.mul_left _)
theorem oM.assoc {g g' a b : ZX} (h : oM g a b) (h' : oM g' a b) : dv g g' ∧ dv g' g := ⟨h'.least h.l h.r, h.least h'.l h'.r⟩
theorem oM.congr {g a b a' b' : ZX} (h : oM g a b) (h1 : dv a a') (h2 : dv a' a) (h3 : dv b b') (h4 : dv b' b) : oM g a' b' := by
 obtain ⟨g', hg'⟩ := iG _ a' b' (Nat.le_refl _)
 obtain ⟨c, hc, u, v, e⟩ := hg'.uv
 have h5 : dv g g' := hg'.least (h.l.trans h1) (h.r.trans h3)
 have h6 : dv g' g := h.least (hg'.l.trans h2) (hg'.r.trans h4)
 obtain ⟨d, hd, w, e2⟩ := h6
 refine ⟨h.l.trans h1, h.r.trans h3, c * d, Int.mul_ne_zero hc hd, w * u, w * v, by rw [← nB]; grind⟩
end ZX
theorem JY {H t : Int} (ht : H + 1 ≤ t) (hH : 0 ≤ H) : ∀ {x : List Int}, (∀ c ∈ x, -H ≤ c ∧ c ≤ H) → aM x ≠ [] → V t x ≠ 0
 | [], _, h => absurd rfl h
 | a :: l, hb, h => by
  have ha := hb a (by simp)
  by_cases hl : aM l = []
  ·have h1 : V t l = 0 := by rw [← cB, hl]; rfl
   have h2 : a ≠ 0 := fun h0 => h (by rw [aM, if_pos ⟨hl, h0⟩])
   simp only [V]
   rw [h1]
   intro h3
   apply h2
   have : t * 0 = 0 := Int.mul_zero t
   omega
  ·have ih := JY ht hH (x := l) (fun c hc => hb c (by simp [hc])) hl
   simp only [V]
   intro h3
   rcases Int.lt_or_gt_of_ne ih with h4 | h4
   ·have : t * V t l ≤ t * (-1) := Int.mul_le_mul_of_nonneg_left (by omega) (by omega)
    omega
   ·have : t * 1 ≤ t * V t l := Int.mul_le_mul_of_nonneg_left (by omega) (by omega)
    omega
theorem JZ {H t : Nat} : ∀ {x : List Int}, (∀ c ∈ x, c.natAbs ≤ H) → (V (t : Int) x).natAbs ≤ H * (1 + t) ^ x.length
 | [], _ => by simp [V]
 | a :: l, h => by
  have h1 := JZ (t := t) (x := l) fun c hc => h c (by simp [hc])
  have h2 := h a (by simp)
  simp only [V]
  have h3 : (a + (t : Int) * V t l).natAbs ≤ a.natAbs + t * (V (t : Int) l).natAbs := by
   have := Int.natAbs_add_le a ((t : Int) * V t l)
   rwa [Int.natAbs_mul, Int.natAbs_natCast] at this
  have h4 : t * (V (t : Int) l).natAbs ≤ t * (H * (1 + t) ^ l.length) := Nat.mul_le_mul_left _ h1
  have h5 : H * 1 ≤ H * (1 + t) ^ l.length := Nat.mul_le_mul_left _ (Nat.one_le_pow _ _ (by omega))
  rw [List.length_cons, Nat.pow_succ]
  have h6 : H * ((1 + t) ^ l.length * (1 + t)) = H * (1 + t) ^ l.length + t * (H * (1 + t) ^ l.length) := by grind
  omega
def UL (s : Int) : List Int → List Int
 | [] => []
 | _ :: l => V s l :: UL s l
theorem ago (s t : Int) : ∀ x : List Int, V t x = V s x + (t - s) * V t (UL s x)
 | [] => by simp [V, UL]
 | a :: l => by
  have := ago s t l
  simp only [V, UL]
  have h2 : t * V t l = t * (V s l + (t - s) * V t (UL s l)) := by rw [← this]
  grind
theorem J0 (s : Int) : ∀ x : List Int, x ≠ [] → ∃ y, UL s x = y ++ [0] ∧ y.length = x.length - 1
 | [], h => absurd rfl h
 | [a], _ => ⟨[], by simp [UL, V], rfl⟩
 | a :: b :: l, _ => by
  obtain ⟨y, h1, h2⟩ := J0 s (b :: l) (by simp)
  refine ⟨V s (b :: l) :: y, by rw [UL, h1]; rfl, by simp at h2 ⊢; omega⟩
theorem AG {s : Nat} {M : Nat} : ∀ {x : List Int}, (V (s : Int) x).natAbs ≤ M → (∀ c ∈ UL s x, c.natAbs ≤ M) → ∀ c ∈ x, c.natAbs ≤ M * (1 + s)
 | [], _, _, c, hc => by cases hc
 | a :: l, h0, h, c, hc => by
  have h1 : (V (s : Int) l).natAbs ≤ M := h _ (by simp [UL])
  have h2 : ∀ c ∈ UL s l, c.natAbs ≤ M := fun c hc => h c (by simp [UL, hc])
  rcases List.mem_cons.1 hc with rfl | hc
  ·simp only [V] at h0
   have h3 : c.natAbs ≤ (c + (s : Int) * V s l).natAbs + s * (V (s : Int) l).natAbs := by
    have h4 : c = (c + (s : Int) * V s l) + (-((s : Int) * V s l)) := by omega
    have h5 := Int.natAbs_add_le (c + (s : Int) * V s l) (-((s : Int) * V s l))
    rw [← h4, Int.natAbs_neg, Int.natAbs_mul, Int.natAbs_natCast] at h5
    exact h5
   have h4 : s * (V (s : Int) l).natAbs ≤ s * M := Nat.mul_le_mul_left _ h1
   rw [Nat.mul_add, Nat.mul_one, Nat.mul_comm M s]; omega
  ·exact AG h1 h2 c hc
theorem QZ : ∀ (n s A : Nat) (x : List Int), x.length ≤ n → (∀ j : Nat, j < n → (V ((s + j : Nat) : Int) x).natAbs ≤ A) → ∀ c ∈ x, c.natAbs ≤ A * (2 * (s + n + 1)) ^ n
 | 0, s, A, x, hl, _, c, hc => by
  have : x = [] := List.eq_nil_of_length_eq_zero (by omega)
  rw [this] at hc; cases hc
 | n + 1, s, A, x, hl, hv, c, hc => by
  have hx : x ≠ [] := fun h => by rw [h] at hc; cases hc
  have h0 := hv 0 (by omega)
  obtain ⟨y, h1, h2⟩ := J0 s x hx
  have hy : ∀ t : Int, V t (UL s x) = V t y := fun t => by rw [h1, dG]; simp [V]
  have h3 : ∀ j : Nat, j < n → (V ((s + 1 + j : Nat) : Int) y).natAbs ≤ 2 * A := fun j hj => by
   have h4 := ago s ((s + 1 + j : Nat) : Int) x
   rw [hy] at h4
   have h5 := hv (j + 1) (by omega)
   rw [show s + (j + 1) = s + 1 + j by omega] at h5
   have e : ((s + 1 + j : Nat) : Int) - (s : Int) = ((j + 1 : Nat) : Int) := by omega
   rw [e] at h4
   have h6 : (((j + 1 : Nat) : Int) * V ((s + 1 + j : Nat) : Int) y).natAbs ≤ 2 * A := by
    have : ((j + 1 : Nat) : Int) * V ((s + 1 + j : Nat) : Int) y = V ((s + 1 + j : Nat) : Int) x - V (s : Int) x := by omega
    rw [this]
    rw [Nat.add_zero] at h0
    omega
   rw [Int.natAbs_mul, Int.natAbs_natCast] at h6
   exact Nat.le_trans (Nat.le_mul_of_pos_left _ (by omega)) h6
  have h4 := QZ n (s + 1) (2 * A) y (by omega) h3
  have hP : 1 ≤ (2 * (s + 1 + n + 1)) ^ n := Nat.one_le_pow _ _ (by omega)
  rw [Nat.add_zero] at h0
  have h5 := AG (s := s) (M := 2 * A * (2 * (s + 1 + n + 1)) ^ n) (x := x) (by
   have : A * 1 ≤ 2 * A * (2 * (s + 1 + n + 1)) ^ n := Nat.mul_le_mul (by omega) hP
   omega) (fun d hd => by
   rw [h1] at hd
   rcases List.mem_append.1 hd with hd | hd
   ·exact h4 d hd
   ·simp at hd; subst hd; simp) c hc
  refine Nat.le_trans h5 ?_
  rw [Nat.pow_succ, show s + (n + 1) + 1 = s + 1 + n + 1 by omega]
  have h6 : A * ((2 * (s + 1 + n + 1)) ^ n * (2 * (s + 1 + n + 1))) = (2 * A * (2 * (s + 1 + n + 1)) ^ n) * (s + 1 + n + 1) := by grind
  rw [h6]
  exact Nat.mul_le_mul_left _ (by omega)
namespace ZX
theorem aae {a w g : ZX} {h n : Nat} (ha : a ≠ 0) (e : a = w * g) (hb : Bd 2 h n a.l) (hn : n + 1 ≤ 2 ^ h) : Bd 2 (h + n * (2 * h + 5) + 1) n g.l := by
 have hw : w ≠ 0 ∧ g ≠ 0 := ⟨fun h0 => ha (by rw [e, h0]; grind), fun h0 => ha (by rw [e, h0]; grind)⟩
 have hlen : g.l.length ≤ n := by
  have h1 : N a = N w + N g - 1 := by rw [e, lA hw.1 hw.2]
  have h2 := aG.1 hw.1
  have h3 : N a ≤ n := hb.len
  show N g ≤ n
  omega
 refine ⟨hlen, fun c hc => ?_⟩
 have hH : ∀ d ∈ a.l, d.natAbs ≤ 2 ^ h := fun d hd => by
  have h1 := kG (b := 2) (by decide) d
  have h2 := s0 (b := 2) (by decide) (hb.sz d hd)
  omega
 have hv : ∀ j : Nat, j < n → (V ((2 ^ h + 1 + j : Nat) : Int) g.l).natAbs ≤ 2 ^ h * (2 ^ (h + 2)) ^ n := fun j hj => by
  have h1 : V ((2 ^ h + 1 + j : Nat) : Int) a.l = V ((2 ^ h + 1 + j : Nat) : Int) w.l * V ((2 ^ h + 1 + j : Nat) : Int) g.l := by
   conv => lhs; rw [e]
   rw [cY]
  have h2 : V ((2 ^ h + 1 + j : Nat) : Int) a.l ≠ 0 := JY (H := ((2 ^ h : Nat) : Int)) (by omega) (by omega) (fun d hd => by have := hH d hd; omega) (by
   rw [show aM a.l = a.l from a.c]
   have := aG.1 ha
   intro h0
   have h3 : N a = a.l.length := rfl
   rw [h3, h0] at this; simp at this)
  have h3 : (V ((2 ^ h + 1 + j : Nat) : Int) g.l).natAbs ≤ (V ((2 ^ h + 1 + j : Nat) : Int) a.l).natAbs := by
   rw [h1, Int.natAbs_mul]
   have : V ((2 ^ h + 1 + j : Nat) : Int) w.l ≠ 0 := fun h0 => h2 (by rw [h1, h0, Int.zero_mul])
   exact Nat.le_mul_of_pos_left _ (by omega)
  refine Nat.le_trans h3 (Nat.le_trans (JZ hH) (Nat.mul_le_mul_left _ ?_))
  have h4 : 1 + (2 ^ h + 1 + j) ≤ 2 ^ (h + 2) := by rw [Nat.pow_add]; omega
  refine Nat.le_trans (Nat.pow_le_pow_left h4 _) (Nat.pow_le_pow_right (Nat.two_pow_pos _) hb.len)
 have h5 := QZ n (2 ^ h + 1) _ g.l hlen hv c hc
 have h6 : 2 ^ h * (2 ^ (h + 2)) ^ n * (2 * (2 ^ h + 1 + n + 1)) ^ n < 2 ^ (h + n * (2 * h + 5) + 1) := by
  have h7 : 2 * (2 ^ h + 1 + n + 1) ≤ 2 ^ (h + 3) := by rw [Nat.pow_add]; omega
  have h8 : (2 * (2 ^ h + 1 + n + 1)) ^ n ≤ (2 ^ (h + 3)) ^ n := Nat.pow_le_pow_left h7 _
  have h9 : 2 ^ h * (2 ^ (h + 2)) ^ n * (2 ^ (h + 3)) ^ n = 2 ^ (h + (h + 2) * n + (h + 3) * n) := by rw [← Nat.pow_mul, ← Nat.pow_mul, ← Nat.pow_add, ← Nat.pow_add]
  refine Nat.lt_of_le_of_lt (Nat.mul_le_mul_left _ h8) ?_
  rw [h9]
  refine Nat.pow_lt_pow_right (by decide) ?_
  have : (h + 2) * n + (h + 3) * n = n * (2 * h + 5) := by grind
  omega
 exact cG (by decide) (Nat.lt_of_le_of_lt h5 h6)
end ZX
end Pm
namespace Go.Proofs.YtbbjgncblhfegaaGreat
open Go Pm
open ZX hiding N W
structure Nf (a : ZX) : Prop where
 ne : a ≠ 0
 g : bI a.l = 1
 l : 0 < lead a.l
theorem tP {a : ZX} (h : a ≠ 0) : a.l ≠ [] := fun e => by
 have := aG.1 h
 have h2 : ZX.N a = a.l.length := rfl
 rw [h2, e] at this; simp at this
theorem ajp (x : List Int) : Cn (pM x) := Cn.cut _
def nf (a : ZX) : ZX := ⟨pM a.l, ajp _⟩
theorem jY : nf 0 = 0 := ZX.ext fun t => rfl
theorem FU {a : ZX} (ha : a ≠ 0) : K (jE a.l) * nf a = a := ZX.ext fun t => by
 rw [cY, rW]
 conv => rhs; rw [← UE a.c (tP ha)]
 rw [bT, Int.mul_comm]; rfl
theorem l6 {a : ZX} (ha : a ≠ 0) : jE a.l ≠ 0 := NQ a.c (tP ha)
theorem agp {a : ZX} (ha : a ≠ 0) : nf a ≠ 0 := fun h => ha (by rw [← FU ha, h]; grind)
theorem l7 {a : ZX} (ha : a ≠ 0) : Nf (nf a) := ⟨agp ha, adS a.c (tP ha), ZV a.c (tP ha)⟩
theorem Nf.VT {a : ZX} (h : Nf a) : nf a = a := by
 have h1 : jE a.l = 1 := by
  unfold jE
  rw [if_neg (by have := h.l; omega), h.g]; rfl
 have := FU h.ne
 rw [h1] at this
 rw [← this]
 conv => lhs; rw [this]
 show _ = (1 : ZX) * _
 grind
theorem aaf {c : Int} (hc : c ≠ 0) (a : ZX) : ZX.N (K c * a) = ZX.N a := by
 by_cases ha : a = 0
 ·rw [ha, show K c * (0 : ZX) = 0 by grind]
 ·rw [lA (rY hc) ha, N_K hc]; have := aG.1 ha; omega
theorem pT (a : ZX) : ZX.N (nf a) = ZX.N a := by
 by_cases ha : a = 0
 ·rw [ha, jY]
 ·have := aaf (l6 ha) (nf a)
  rw [FU ha] at this
  exact this.symm
theorem K_l {c : Int} (hc : c ≠ 0) (a : ZX) : (K c * a).l = a.l.map (· * c) := by
 refine Cn.ext (K c * a).c (jR a.c hc) fun t => ?_
 rw [cY, rW, dC, Int.mul_comm]
theorem aag {c : Int} (hc : c ≠ 0) {a : ZX} (ha : a ≠ 0) : lead (K c * a).l = c * lead a.l := by
 have h : (K c * a).l = bJ (K c).l a.l := rfl
 have hK : (K c).l = [c] := by show aM [c] = [c]; exact i4 hc []
 rw [h, uT (K c).c a.c (by rw [hK]; simp) (aG.1 ha), hK]
 rfl
theorem Nf.FV {a b : ZX} (ha : Nf a) (hb : Nf b) {c d : Int} (hc : c ≠ 0) (hd : d ≠ 0) (e : K c * a = K d * b) : a = b := by
 have h1 : c.natAbs = d.natAbs := by
  have h2 : bI (K c * a).l = bI (K d * b).l := by rw [e]
  rw [K_l hc, K_l hd, jS, jS, ha.g, hb.g] at h2
  omega
 have h3 : c * lead a.l = d * lead b.l := by rw [← aag hc ha.ne, ← aag hd hb.ne, e]
 have h4 : c = d := by
  rcases Int.natAbs_eq_natAbs_iff.1 h1 with h5 | h5
  ·exact h5
  ·exfalso
   subst h5
   have hl := ha.l
   have YW := hb.l
   rcases Int.lt_or_gt_of_ne hd with h6 | h6
   ·have := Int.mul_pos (show 0 < -d by omega) hl
    have := Int.mul_neg_of_neg_of_pos h6 YW
    omega
   ·have := Int.mul_neg_of_neg_of_pos (show -d < 0 by omega) hl
    have := Int.mul_pos h6 YW
    omega
 subst h4
 exact ZX.cancel (rY hc) e
theorem ad3 {a b : ZX} {c d : Int} (ha : a ≠ 0) (hc : c ≠ 0) (hd : d ≠ 0) (e : K c * a = K d * b) : nf a = nf b := by
 have hb : b ≠ 0 := fun h => by
  rw [h, show K d * (0 : ZX) = 0 by grind] at e
  exact mN (rY hc) ha e
 refine Nf.FV (l7 ha) (l7 hb) (c := c * jE a.l) (d := d * jE b.l) (Int.mul_ne_zero hc (l6 ha)) (Int.mul_ne_zero hd (l6 hb)) ?_
 rw [← nB, ← nB]
 have h1 := FU ha
 have h2 := FU hb
 grind
theorem Q0 (a : ZX) : nf (nf a) = nf a := by
 by_cases ha : a = 0
 ·rw [ha, jY, jY]
 ·exact (l7 ha).VT
theorem DO (a : ZX) : dv a (nf a) ∧ dv (nf a) a := by
 by_cases ha : a = 0
 ·rw [ha, jY]; exact ⟨dv.refl 0, dv.refl 0⟩
 ·have h := FU ha
  exact ⟨⟨jE a.l, l6 ha, 1, by rw [h]; grind⟩, ⟨1, by decide, K (jE a.l), by rw [h]; show (1 : ZX) * a = a; grind⟩⟩
theorem wO {a b : ZX} (h1 : dv a b) (h2 : dv b a) : nf a = nf b := by
 by_cases ha : a = 0
 ·subst ha; rw [xR h1]
 ·obtain ⟨c, hc, q, e⟩ := h2
  have h3 := h1.pQ (fun hb => ha (by subst hb; exact xR ⟨c, hc, q, e⟩))
  have h4 := dv.pQ ⟨c, hc, q, e⟩ ha
  obtain ⟨hq, hb⟩ := kM hc ha e
  have h5 := aaf hc a
  rw [e, lA hq hb] at h5
  have := aG.1 hq
  have := aG.1 hb
  obtain ⟨d, hd, rfl⟩ := nC (x := q) (by omega)
  exact ad3 ha hc hd e
theorem Nf.one : Nf 1 := ⟨pP, by decide, by decide⟩
theorem Nf.mul {a b : ZX} (ha : Nf a) (hb : Nf b) : Nf (a * b) := by
 refine ⟨mN ha.ne hb.ne, ?_, ?_⟩
 ·show bI (bJ a.l b.l) = 1
  rw [ZU a.c b.c (tP ha.ne) (tP hb.ne), ha.g, hb.g]
 ·show 0 < lead (bJ a.l b.l)
  rw [uT a.c b.c (aG.1 ha.ne) (aG.1 hb.ne)]
  exact Int.mul_pos ha.l hb.l
theorem aah {p a : ZX} (hp : pR p) (ha : a ≠ 0) : mu p (nf a) = mu p a := by
 conv => rhs; rw [← FU ha]
 rw [AD hp (rY (l6 ha)) (agp ha), aab hp (l6 ha)]; omega
theorem Nf.AH {a b : ZX} (ha : Nf a) (hb : Nf b) (h : ∀ p, pR p → mu p a = mu p b) : a = b := by
 rw [← ha.VT, ← hb.VT]
 exact wO ((qI ha.ne hb.ne).2 fun p hp => by have := h p hp; omega) ((qI hb.ne ha.ne).2 fun p hp => by have := h p hp; omega)
theorem Nf.quo {a b : ZX} (ha : Nf a) (hb : Nf b) (h : dv b a) : ∃ w, Nf w ∧ a = w * b := by
 obtain ⟨c, hc, q, e⟩ := h
 obtain ⟨hq, _⟩ := kM hc ha.ne e
 refine ⟨nf q, l7 hq, Nf.FV ha ((l7 hq).mul hb) hc (l6 hq) ?_⟩
 have := FU hq
 grind
theorem Nf.exact {a b w : ZX} (hb : Nf b) (e : a = w * b) : exact a.l b.l = some w.l := by
 subst e
 exact NT w.c b.c (aG.1 hb.ne)
theorem Nf.N1 {a : ZX} (ha : Nf a) (h : ZX.N a ≤ 1) : a = 1 := by
 obtain ⟨c, hc, rfl⟩ := nC (x := a) (by have := aG.1 ha.ne; omega)
 exact Nf.FV ha Nf.one (show (1 : Int) ≠ 0 by decide) hc (by show (1 : ZX) * _ = K c * 1; grind)
noncomputable def gz (a b : ZX) : ZX := nf (Classical.choose (iG _ a b (Nat.le_refl _)))
theorem qJ (a b : ZX) : ∃ g, oM g a b ∧ gz a b = nf g := ⟨_, Classical.choose_spec (iG _ a b (Nat.le_refl _)), rfl⟩
theorem DP {g a b : ZX} (h : oM g a b) : gz a b = nf g := by
 obtain ⟨g', h', e⟩ := qJ a b
 rw [e]
 obtain ⟨h1, h2⟩ := h'.assoc h
 exact wO h1 h2
theorem oM.ao0 {g g' a b : ZX} (h : oM g a b) (h1 : dv g g') (h2 : dv g' g) : oM g' a b := by
 obtain ⟨c, hc, u, v, e⟩ := h.uv
 obtain ⟨d, hd, w, e2⟩ := h1
 exact ⟨h2.trans h.l, h2.trans h.r, c * d, Int.mul_ne_zero hc hd, w * u, w * v, by rw [← nB]; grind⟩
theorem fE (a b : ZX) : oM (gz a b) a b := by
 obtain ⟨g, h, e⟩ := qJ a b
 rw [e]
 obtain ⟨h1, h2⟩ := DO g
 exact oM.ao0 h h1 h2
theorem aai {a b : ZX} (h : a ≠ 0 ∨ b ≠ 0) : gz a b ≠ 0 := (fE a b).ne h
theorem J1 {a b : ZX} (h : a ≠ 0 ∨ b ≠ 0) : Nf (gz a b) := by
 have h0 := aai h
 obtain ⟨g, h, e⟩ := qJ a b
 rw [e] at h0 ⊢
 exact l7 (fun hg => h0 (by rw [hg, jY]))
theorem tQ (a b : ZX) : gz a b = gz b a := by
 have h := fE a b
 rw [DP h.symm]
 obtain ⟨g, _, e⟩ := qJ a b
 rw [e, Q0]
theorem qK (a : ZX) : gz a 0 = nf a := DP (oM.zero a)
theorem aaj (a : ZX) : gz 0 a = nf a := by rw [tQ, qK]
theorem AJ {a b a' b' : ZX} (h1 : dv a a') (h2 : dv a' a) (h3 : dv b b') (h4 : dv b' b) : gz a b = gz a' b' := by
 obtain ⟨g, hg, e⟩ := qJ a b
 rw [e, DP (hg.congr h1 h2 h3 h4)]
theorem agq (a b : ZX) : gz (nf a) b = gz a b := AJ (DO a).2 (DO a).1 (dv.refl b) (dv.refl b)
theorem NW (a b : ZX) : gz a (nf b) = gz a b := AJ (dv.refl a) (dv.refl a) (DO b).2 (DO b).1
theorem FW {a b q r : ZX} {c k : Int} (hc : c ≠ 0) (hk : k ≠ 0) (e : K c * a = q * b + K k * r) : gz a b = gz b r := by
 obtain ⟨g, hg, e2⟩ := qJ b r
 rw [e2, DP (hg.aoZ hc hk e)]
end Go.Proofs.YtbbjgncblhfegaaGreat
namespace Go.Proofs.YtbbjgncblhfegaaGreat
open Go Pm
open ZX hiding N W
open Classical in
noncomputable def qz (a b : ZX) : ZX := if h : ∃ w, Nf w ∧ a = w * b then h.choose else 0
theorem l8 {a b : ZX} (ha : Nf a) (hb : Nf b) (h : dv b a) : Nf (qz a b) ∧ a = qz a b * b := by
 have h := ha.quo hb h
 unfold qz
 rw [dif_pos h]
 exact h.choose_spec
theorem ao1 {a b w : ZX} (hb : Nf b) (hw : Nf w) (e : a = w * b) : qz a b = w := by
 have ha : Nf a := by rw [e]; exact hw.mul hb
 obtain ⟨h1, h2⟩ := l8 ha hb ⟨1, by decide, w, by rw [e]; show (1 : ZX) * _ = _; grind⟩
 refine ZX.cancel hb.ne ?_
 have : qz a b * b = w * b := by rw [← h2, e]
 grind
theorem aak {a b : ZX} (ha : Nf a) (hb : Nf b) (h : dv b a) : exact a.l b.l = some (qz a b).l := Nf.exact hb (l8 ha hb h).2
theorem agr {a b p : ZX} (ha : Nf a) (hb : Nf b) (h : dv b a) (hp : pR p) : mu p (qz a b) = mu p a - mu p b := by
 obtain ⟨h1, h2⟩ := l8 ha hb h
 have h3 : mu p a = mu p (qz a b) + mu p b := by
  conv => lhs; rw [h2]
  exact AD hp h1.ne hb.ne
 omega
theorem Nf.self {a : ZX} (ha : Nf a) : qz a a = 1 := ao1 ha Nf.one (by grind)
noncomputable def gd (a : ZX) : ZX := gz a (bM a)
theorem Q3 {a : ZX} (ha : a ≠ 0) : Nf (gd a) := J1 (.inl ha)
theorem wP (a : ZX) : dv (gd a) a := (fE a (bM a)).l
theorem ags {a p : ZX} (ha : a ≠ 0) (hp : pR p) : mu p (gd a) = mu p a - 1 := (fE a (bM a)).AF ha hp
theorem at1 {a : ZX} (h : 2 ≤ ZX.N a) : ZX.N (gd a) < ZX.N a := by
 have h1 := (fE a (bM a)).r.pQ (FT h)
 have h2 := l5 a
 have : ZX.N (gd a) = ZX.N (gz a (bM a)) := rfl
 omega
theorem aal : gd 1 = 1 := by
 unfold gd
 rw [QX, qK, Nf.one.VT]
noncomputable def gs (a : ZX) : Nat → ZX
 | 0 => a
 | k + 1 => gd (gs a k)
theorem l9 {a : ZX} (ha : Nf a) : ∀ k, Nf (gs a k)
 | 0 => ha
 | k + 1 => Q3 (l9 ha k).ne
theorem J2 (a : ZX) : ∀ k, dv (gs a k) a
 | 0 => dv.refl a
 | k + 1 => (wP _).trans (J2 a k)
theorem Q4 {a p : ZX} (ha : Nf a) (hp : pR p) : ∀ k, mu p (gs a k) = mu p a - k
 | 0 => rfl
 | k + 1 => by
  show mu p (gd (gs a k)) = _
  rw [ags (l9 ha k).ne hp, Q4 ha hp k]; omega
theorem ajq {a : ZX} : ∀ k, ZX.N (gs a k) ≤ 1 ∨ ZX.N (gs a k) + k ≤ ZX.N a
 | 0 => .inr (Nat.le_refl _)
 | k + 1 => by
  rcases ajq (a := a) k with h | h
  ·left
   show ZX.N (gz (gs a k) (bM (gs a k))) ≤ 1
   by_cases h0 : gs a k = 0
   ·rw [h0, show bM (0 : ZX) = 0 from ZX.ext fun t => rfl, qK, jY]; decide
   ·exact Nat.le_trans ((fE _ _).l.pQ h0) h
  ·rcases Nat.lt_or_ge (ZX.N (gs a k)) 2 with h2 | h2
   ·left
    show ZX.N (gz (gs a k) (bM (gs a k))) ≤ 1
    by_cases h0 : gs a k = 0
    ·rw [h0, show bM (0 : ZX) = 0 from ZX.ext fun t => rfl, qK, jY]; decide
    ·exact Nat.le_trans ((fE _ _).l.pQ h0) (by omega)
   ·right
    have := at1 h2
    show ZX.N (gd (gs a k)) + (k + 1) ≤ _
    omega
open Classical in
noncomputable def nl (a : ZX) : Nat := if h : ∃ m, ZX.N (gs a m) ≤ 1 ∧ ∀ k, k < m → 2 ≤ ZX.N (gs a k) then h.choose else 0
theorem nY (a : ZX) : ZX.N (gs a (nl a)) ≤ 1 ∧ ∀ k, k < nl a → 2 ≤ ZX.N (gs a k) := by
 have h : ∃ m, ZX.N (gs a m) ≤ 1 ∧ ∀ k, k < m → 2 ≤ ZX.N (gs a k) := by
  have key : ∀ n, (∃ m, m ≤ n ∧ ZX.N (gs a m) ≤ 1 ∧ ∀ k, k < m → 2 ≤ ZX.N (gs a k)) ∨ ∀ k, k ≤ n → 2 ≤ ZX.N (gs a k) := by
   intro n
   induction n with
   | zero =>
    rcases Nat.lt_or_ge (ZX.N (gs a 0)) 2 with h | h
    ·exact .inl ⟨0, Nat.le_refl _, by omega, fun k hk => by omega⟩
    ·exact .inr fun k hk => by rw [show k = 0 by omega]; exact h
   | succ n ih =>
    rcases ih with ⟨m, h1, h2⟩ | ih
    ·exact .inl ⟨m, by omega, h2⟩
    ·rcases Nat.lt_or_ge (ZX.N (gs a (n + 1))) 2 with h | h
     ·exact .inl ⟨n + 1, Nat.le_refl _, by omega, fun k hk => ih k (by omega)⟩
     ·refine .inr fun k hk => ?_
      rcases Nat.lt_or_ge k (n + 1) with h3 | h3
      ·exact ih k (by omega)
      ·rw [show k = n + 1 by omega]; exact h
  rcases key (ZX.N a) with ⟨m, _, h⟩ | h
  ·exact ⟨m, h⟩
  ·have h1 := h (ZX.N a) (Nat.le_refl _)
   rcases ajq (a := a) (ZX.N a) with h2 | h2 <;> omega
 unfold nl
 rw [dif_pos h]
 exact h.choose_spec
theorem agt (a : ZX) : nl a ≤ ZX.N a := by
 rcases Nat.eq_zero_or_pos (nl a) with h | h
 ·omega
 ·have h1 := (nY a).2 (nl a - 1) (by omega)
  rcases ajq (a := a) (nl a - 1) with h2 | h2 <;> omega
theorem ao2 {a : ZX} {k : Nat} (h : ∀ j, j ≤ k → 2 ≤ ZX.N (gs a j)) : k < nl a := by
 rcases Nat.lt_or_ge k (nl a) with h1 | h1
 ·exact h1
 ·have := h _ h1
  have := (nY a).1
  omega
theorem aam {a : ZX} (ha : Nf a) : ∀ j, gs a (nl a + j) = 1
 | 0 => (l9 ha _).N1 (nY a).1
 | j + 1 => by
  show gd (gs a (nl a + j)) = 1
  rw [aam ha j, aal]
noncomputable def wz (a : ZX) (k : Nat) : ZX := qz (gs a k) (gs a (k + 1))
theorem gX {a : ZX} (ha : Nf a) (k : Nat) : Nf (wz a k) ∧ gs a k = wz a k * gs a (k + 1) := l8 (l9 ha k) (l9 ha (k + 1)) (wP _)
theorem J3 {a p : ZX} (ha : Nf a) (hp : pR p) (k : Nat) : mu p (wz a k) = if k < mu p a then 1 else 0 := by
 rw [wz, agr (l9 ha k) (l9 ha (k + 1)) (wP _) hp, Q4 ha hp, Q4 ha hp]
 split <;> omega
theorem Q5 {a : ZX} (ha : Nf a) (k : Nat) : dv (wz a (k + 1)) (wz a k) := (qI (gX ha _).1.ne (gX ha _).1.ne).2 fun p hp => by
 rw [J3 ha hp, J3 ha hp]
 split <;> split <;> omega
noncomputable def AK (a : ZX) (k : Nat) : ZX := qz (wz a k) (wz a (k + 1))
theorem FX {a : ZX} (ha : Nf a) (k : Nat) : Nf (AK a k) ∧ wz a k = AK a k * wz a (k + 1) := l8 (gX ha k).1 (gX ha (k + 1)).1 (Q5 ha k)
theorem ao3 {a p : ZX} (ha : Nf a) (hp : pR p) (k : Nat) : mu p (AK a k) = if mu p a = k + 1 then 1 else 0 := by
 rw [AK, agr (gX ha k).1 (gX ha (k + 1)).1 (Q5 ha k) hp, J3 ha hp, J3 ha hp]
 split <;> split <;> split <;> omega
noncomputable def fl (a : ZX) : List ZX := (List.range (nl a)).map (AK a)
theorem aan (a : ZX) : (fl a).length = nl a := by simp [fl]
theorem aao {a p : ZX} (ha : Nf a) (hp : pR p) : mu p a ≤ nl a := by
 have h := Q4 ha hp (nl a)
 have h1 := aam ha 0
 rw [Nat.add_zero] at h1
 rw [h1, aad hp] at h
 omega
noncomputable def pf (a : ZX) (c : Nat → Bool) : Nat → ZX
 | 0 => 1
 | k + 1 => if c k then pf a c k * AK a k else pf a c k
theorem DQ {a : ZX} (ha : Nf a) (c : Nat → Bool) : ∀ k, Nf (pf a c k)
 | 0 => Nf.one
 | k + 1 => by
  rw [pf]
  split
  ·exact (DQ ha c k).mul (FX ha k).1
  ·exact DQ ha c k
theorem aap {a p : ZX} (ha : Nf a) (hp : pR p) (c : Nat → Bool) : ∀ k, mu p (pf a c k) = if 1 ≤ mu p a ∧ mu p a ≤ k ∧ c (mu p a - 1) = true then 1 else 0
 | 0 => by
  rw [pf, aad hp, if_neg (by omega)]
 | k + 1 => by
  have ih := aap ha hp c k
  have hf := ao3 ha hp k
  rw [pf]
  by_cases hc : c k = true
  ·rw [if_pos hc, AD hp (DQ ha c k).ne (FX ha k).1.ne, ih, hf]
   by_cases h1 : mu p a = k + 1
   ·rw [if_pos h1, h1, Nat.add_sub_cancel, if_neg (by omega), if_pos ⟨by omega, Nat.le_refl _, hc⟩]
   ·rw [if_neg h1]
    by_cases h2 : 1 ≤ mu p a ∧ mu p a ≤ k ∧ c (mu p a - 1) = true
    ·rw [if_pos h2, if_pos ⟨h2.1, by omega, h2.2.2⟩]
    ·rw [if_neg h2, if_neg (fun h3 => h2 ⟨h3.1, by omega, h3.2.2⟩)]
  ·rw [if_neg hc, ih]
   by_cases h1 : mu p a = k + 1
   ·rw [h1, Nat.add_sub_cancel, if_neg (by omega), if_neg (fun h3 => hc h3.2.2)]
   ·by_cases h2 : 1 ≤ mu p a ∧ mu p a ≤ k ∧ c (mu p a - 1) = true
    ·rw [if_pos h2, if_pos ⟨h2.1, by omega, h2.2.2⟩]
    ·rw [if_neg h2, if_neg (fun h3 => h2 ⟨h3.1, by omega, h3.2.2⟩)]
noncomputable def sz' (a : ZX) : ZX := wz a 0
theorem aaq {a : ZX} (ha : Nf a) : Nf (sz' a) := (gX ha 0).1
theorem aar {a p : ZX} (ha : Nf a) (hp : pR p) : mu p (sz' a) = min (mu p a) 1 := by
 rw [sz', J3 ha hp]
 split <;> omega
theorem ajr {a : ZX} (ha : Nf a) : pf a (fun _ => true) (nl a) = sz' a := Nf.AH (DQ ha _ _) (aaq ha) fun p hp => by
 have h := aao ha hp
 rw [aap ha hp, aar ha hp]
 by_cases h1 : 1 ≤ mu p a
 ·rw [if_pos ⟨h1, h, rfl⟩]; omega
 ·rw [if_neg (fun h2 => h1 h2.1)]; omega
theorem J4 {a : ZX} (h : ZX.N a ≤ 1) : nl a = 0 := by
 rcases Nat.eq_zero_or_pos (nl a) with h1 | h1
 ·exact h1
 ·have := (nY a).2 0 h1
  have : ZX.N (gs a 0) = ZX.N a := rfl
  omega
def qb (h n : Nat) : Nat := h + n * (2 * h + 5) + 1
theorem ao4 {a b : ZX} (ha : Nf a) (hb : Nf b) (hd : dv b a) {h n : Nat} (hx : Bd 2 h n a.l) (hn : n + 1 ≤ 2 ^ h) : Bd 2 (qb h n) n b.l := by
 obtain ⟨w, _, e⟩ := ha.quo hb hd
 exact aae ha.ne e hx hn
theorem aas {a b : ZX} (ha : Nf a) (hb : Nf b) (h : dv b a) : dv (qz a b) a := by
 obtain ⟨_, h2⟩ := l8 ha hb h
 exact ⟨1, by decide, b, by rw [ZX.DM b, ← h2]; show (1 : ZX) * _ = _; grind⟩
theorem FY {a : ZX} (ha : Nf a) (k : Nat) : dv (wz a k) a := (aas (l9 ha k) (l9 ha (k + 1)) (wP _)).trans (J2 a k)
theorem ad4 {a : ZX} (ha : Nf a) (k : Nat) : dv (AK a k) a := (aas (gX ha k).1 (gX ha (k + 1)).1 (Q5 ha k)).trans (FY ha k)
theorem ad5 {a : ZX} (ha : Nf a) (c : Nat → Bool) (k : Nat) : dv (pf a c k) a := (qI (DQ ha c k).ne ha.ne).2 fun p hp => by
 rw [aap ha hp]
 split <;> omega
end Go.Proofs.YtbbjgncblhfegaaGreat
namespace Go.Proofs.YtbbjgncblhfegaaGreat
open Go Pm
theorem AL (v : Int) : sz LL v ≤ sz 2 v := cG eX (Nat.lt_of_lt_of_le (kG (b := 2) (by decide) v) (Nat.pow_le_pow_left (by decide) _))
theorem J5 {h n : Nat} {x : List Int} (hx : Bd 2 h n x) : Bd LL h n x := ⟨hx.len, fun c hc => Nat.le_trans (AL c) (hx.sz c hc)⟩
instance : Inhabited ZX := ⟨0⟩
abbrev BZ (h n : Nat) (a : ZX) : Prop := Bd 2 h n a.l
theorem BZ.pb {h n : Nat} {a : ZX} (b : BZ h n a) (hh : h < 1099511627775) (hn : n < 1099511627775) : PB a.l := PB.of (J5 b) hh hn
theorem BZ.z5 {h n : Nat} {a : ZX} (b : BZ h n a) (hh : h < 1099511627775) (hn : n < 1099511627775) : qF (a.l.map oL) := (b.pb hh hn).z5
theorem wQ (a : ZX) : kQ (a.l.map oL) = a.l := by rw [adQ]; exact a.c
theorem BZ.mono {h h' n n' : Nat} {a : ZX} (b : BZ h n a) (hh : h ≤ h') (hn : n ≤ n') : BZ h' n' a := Bd.mono b hh hn
theorem BZ.nf {h n : Nat} {a : ZX} (b : BZ h n a) : BZ h n (nf a) := Z8 b
theorem BZ.N {h n : Nat} {a : ZX} (b : BZ h n a) : ZX.N a ≤ n := Bd.len b
theorem aat {h n : Nat} {a : ZX} (b : BZ h n a) (hh : h < 1099511627774) (hn : n < 1099511627774) (k : Nat) (hk : k + 1 < a.l.length) : aK env.P 181 [.int .i64 (k : Int), .rd [Po a.l]] (I (nth a.l (k + 1) * ((k + 1 : Nat) : Int))) := by
 have hlen := b.len
 have hz := (J5 b).nth (k + 1)
 have o1 := zG ((k + 1 : Nat) : Int) (by omega) (by omega)
 have hk1 : Sz ((k + 1 : Nat) : Int) := Nat.lt_of_le_of_lt (cG (k := 2) eX (by rw [Int.natAbs_natCast]; show k + 1 < 4294967296 ^ 2; omega)) (by decide)
 have m1 := tA (x := nth a.l (k + 1)) (y := ((k + 1 : Nat) : Int)) (by show Pm.sz LL _ < _; omega) hk1
 have e : ((k : Int) + 1).toNat = k + 1 := by omega
 rw [Int.natCast_add, Int.natCast_one] at o1 m1
 refine aB (E := env) (fun _ => 0) [(0, .int .i64 (k : Int)), (1, .rd [Po a.l])] Tryz.func181 rfl (by kernel_rfl) (by kernel_rfl) (show 2 ≤ 13 by decide) (by simp) ?_
 generalize a.l = x at *
 refine W.sr ?_; simp (disch := omega) [gw]; refine W.lx [0, 1, 3] ?_; simp
 refine W.sd ?_
 simp (disch := omega) [gw, e]
 refine aA o1 ?_
 simp (disch := omega) [gw]
 refine aA m1 ?_
 simp (disch := omega) [gw]
 refine W.lx [3] ?_; simp
 refine W.ret ?_
 simp [go]
theorem nZ {h n : Nat} {a : ZX} (b : BZ h n a) (hh : h < 1099511627774) (hn : n < 1099511627774) : aK env.P 104 [Po a.l] (Po (ZX.bM a).l) := by
 have hlen := b.len
 have hc := fun k hk => aat b hh hn k hk
 have hE := pI 181 rfl [.rd [Po a.l]] rfl (a.l.length - 1) (by omega) (fun k => nth a.l (k + 1) * ((k + 1 : Nat) : Int)) (fun k hk => hc k (by omega))
 have e0 : aM ((List.range (a.l.length - 1)).map fun k => nth a.l (k + 1) * ((k + 1 : Nat) : Int)) = (ZX.bM a).l := rfl
 rw [e0] at hE
 generalize (ZX.bM a).l = d at *
 generalize a.l = x at *
 have e1 : (if (1 : Int) < (x.length : Int) then (x.length : Int) - 1 else 0) = ((x.length - 1 : Nat) : Int) := by split <;> omega
 refine aB (E := env) (fun _ => 0) [(0, Po x)] Tryz.func104 rfl (by kernel_rfl) (by kernel_rfl) (show 1 ≤ 9 by decide) (by simp) ?_
 refine W.sr ?_; simp (disch := omega) [gw]; refine W.lx [1] ?_; simp
 refine W.sr ?_
 simp (disch := omega) [gw, e1]
 refine aA hE ?_
 simp (disch := omega) [gw]
 refine W.lx [2] ?_; simp
 refine W.ret ?_
 simp [go]
theorem AM {α : Type} {g : α → List PV} {l : List α} {c : Int} {d : List Int} (h1 : aK env.P 157 [aJ g l] (.eA [I c, Po d])) : aK env.P 159 [aJ g l] (Po d) := by
 refine aB (E := env) (fun _ => 0) [(0, aJ g l)] Tryz.func159 rfl (by kernel_rfl) (by kernel_rfl) (show 1 ≤ 11 by decide) (by simp) ?_
 refine W.sr ?_; simp (disch := omega) [gw]; refine W.lx [0] ?_; simp
 refine W.sr ?_
 simp (disch := omega) [gw]
 refine aA h1 ?_
 simp (disch := omega) [gw]
 refine W.lx [4] ?_; simp
 refine W.sr ?_; simp (disch := omega) [gw]; refine W.lx [2] ?_; simp
 refine W.ret ?_
 simp [go]
theorem qL {h n : Nat} {a : ZX} (b : BZ h n a) (hh : h < 1099511627774) (hn : n < 1099511627774) : aK env.P 159 [Po a.l] (Po (nf a).l) := by
 have h1 := mM (a.l.map oL) (b.z5 (by omega) (by omega)) (s := h) (n := n) (by rw [bP]; exact J5 b) hh hn
 rw [wQ, ← fY] at h1
 exact AM h1
theorem ad6 {h h' n : Nat} {a c : ZX} (b : BZ h n a) (b' : BZ h' n c) (ha : Nf a) (hc : Nf c) (hd : ZX.dv c a) (hB : h + n * (h' + n + 1) + h' + n + n + 10 < 1099511627774) : aK env.P 160 [Po a.l, Po c.l] (Po (qz a c).l) := by
 have h0 : ¬ c.l = [] := tP hc.ne
 have h1 := UD (a.l.map oL) (c.l.map oL) (b.z5 (by omega) (by omega)) (b'.z5 (by omega) (by omega)) (s := h) (s' := h') (N := n) (by rw [bP]; exact J5 b) (by rw [bP]; exact J5 b') hB
 rw [wQ, wQ, if_neg h0, aak ha hc hd, ← fY, ← fY, exR] at h1
 generalize (qz a c).l = d at *
 generalize a.l = x at *
 generalize c.l = y at *
 refine aB (E := env) (fun _ => 0) [(0, Po x), (1, Po y)] Tryz.func160 rfl (by kernel_rfl) (by kernel_rfl) (show 2 ≤ 14 by decide) (by simp) ?_
 refine W.sr ?_; simp (disch := omega) [gw]; refine W.lx [0, 1] ?_; simp
 refine W.sr ?_
 simp (disch := omega) [gw]
 refine aA h1 ?_
 simp (disch := omega) [gw]
 refine W.lx [5] ?_; simp
 refine W.sr ?_; simp (disch := omega) [gw]; refine W.lx [4] ?_; simp
 refine W.ret ?_
 simp [go]
def rs (a c : ZX) : ZX := ⟨JM a.l c.l, ajf _ _⟩
theorem AN {x : List Int} (cx : Cn x) (hx : x ≠ []) : (iT x).map (· * (bI x : Int)) = x := by
 have hg := bU cx hx
 have h1 := xQ (g := (bI x : Int)) (fun c hc => gB x c hc)
 have h2 : Cn (x.map (oQ (bI x))) := by
  have h3 : x.map (oQ (bI x)) = aM (x.map (oQ (bI x))) := by
   refine (List.map_inj_right (f := fun v : Int => v * (bI x : Int)) (fun u v e => Int.eq_of_mul_eq_mul_right (by omega) e)).1 ?_
   rw [h1]
   refine Cn.ext cx (jR (Cn.cut _) (by omega)) fun t => ?_
   rw [dC, cB, ← dC, h1]
  exact h3.symm
 rw [iT, show aM (x.map (oQ (bI x))) = _ from h2, h1]
theorem ad7 {a c : ZX} (hc : c ≠ 0) : ∃ (m k : Int) (q : ZX), m ≠ 0 ∧ k ≠ 0 ∧ ZX.K m * a = q * c + ZX.K k * rs a c := by
 have h0 := ZX.aG.1 hc
 obtain ⟨c1, c2⟩ := zC (b := c.l) a.c
 have hm : lead c.l ^ iD a.l c.l ≠ 0 := Int.pow_ne_zero (cD c.c h0)
 have hsg := ZP (lead c.l) (iD a.l c.l)
 have hr := ZQ (b := c.l) a.c
 have hV := fun t => YJ t a.l c.l
 have hg : sg (lead c.l) (iD a.l c.l) ≠ 0 := fun h => by rw [h] at hsg; simp at hsg
 generalize sg (lead c.l) (iD a.l c.l) = g at *
 generalize lead c.l ^ iD a.l c.l = m at *
 have hl : (rs a c).l = iT (aV (wC a.l c.l).2 g) := hr
 generalize rs a c = R at *
 generalize (wC a.l c.l).1 = q at *
 generalize (wC a.l c.l).2 = r at *
 have hcp : Cn (aV r g) := Cn.aV _ _
 by_cases hz : aV r g = []
 ·refine ⟨m, 1, ⟨q, c1⟩, hm, by decide, ZX.ext fun t => ?_⟩
  rw [hz] at hl
  have h1 : V t R.l = 0 := by rw [hl]; rfl
  have h2 : V t r = 0 := by
   have h3 : V t (aV r g) = 0 := by rw [hz]; rfl
   rw [bT] at h3
   rcases Int.mul_eq_zero.1 h3 with h4 | h4
   ·exact h4
   ·exact absurd h4 hg
  rw [ZX.cY, ZX.rW, ZX.j6, ZX.cY, ZX.cY, ZX.rW, h1]
  have := hV t
  rw [h2] at this
  show m * V t a.l = V t q * V t c.l + 1 * 0
  omega
 ·have hgp := bU hcp hz
  refine ⟨m, g * (bI (aV r g) : Int), ⟨q, c1⟩, hm, Int.mul_ne_zero hg (by omega), ZX.ext fun t => ?_⟩
  have h1 := AN hcp hz
  have h2 : V t (aV r g) = V t R.l * (bI (aV r g) : Int) := by
   rw [hl, ← dC, h1]
  rw [bT] at h2
  rw [ZX.cY, ZX.rW, ZX.j6, ZX.cY, ZX.cY, ZX.rW]
  have := hV t
  show m * V t a.l = V t q * V t c.l + g * (bI (aV r g) : Int) * V t R.l
  rw [← this]
  have h3 : V t r = g * (V t r * g) := by
   have : g * (V t r * g) = V t r * (g * g) := by grind
   rw [this, hsg]; omega
  rw [h3, h2]; grind
theorem ao5 {a c : ZX} (hc : c ≠ 0) : ZX.N (rs a c) < ZX.N c := adR (ZX.aG.1 hc)
theorem gV {s n : Nat} {x : List Int} (hx : Bd 2 s n x) : Bd 2 s n (iT x) := Bd.cut ⟨by simpa using hx.len, fun c hc => by
 simp only [List.mem_map] at hc
 obtain ⟨v, hv, rfl⟩ := hc
 refine Nat.le_trans (cC (by decide) ?_) (hx.sz v hv)
 unfold oQ
 split
 ·exact Int.natAbs_ediv_le_natAbs _ _
 ·simp⟩
theorem ao6 {s s' n : Nat} {a c : ZX} (ha : BZ s n a) (hb : BZ s' n c) (hc : c ≠ 0) : BZ (s + (ZX.N a + 1 - ZX.N c) * (s' + n + 1)) n (rs a c) := by
 have h0 := ZX.aG.1 hc
 have hl := ao5 (a := a) hc
 have hk : iD a.l c.l ≤ n := by
  have h1 := ha.N
  have h2 : iD a.l c.l = ZX.N a + 1 - ZX.N c := rfl
  omega
 obtain ⟨_, h2⟩ := YI (B := 2) (by decide) hb (iD a.l c.l) s [] a.l hk ⟨by simp, fun c hc => by cases hc⟩ (ha.mono (Nat.le_refl _) (by omega))
 have h3 : Bd 2 (s + iD a.l c.l * (s' + n + 1)) (n + n) (JM a.l c.l) := by
  unfold JM
  split
  ·exact gV (Bd.fG h2)
  ·exact gV h2
 have h4 := hb.N
 have h5 : ZX.N (rs a c) = (JM a.l c.l).length := rfl
 exact ⟨by show (JM a.l c.l).length ≤ n; omega, fun d hd => h3.sz d hd⟩
theorem aau {d : Nat} (h : 1 ≤ d) : d + 2 ≤ 4 ^ d := by
 obtain ⟨k, rfl⟩ : ∃ k, d = k + 1 := ⟨d - 1, by omega⟩
 clear h
 induction k with
 | zero => decide
 | succ k ih => rw [Nat.pow_succ]; omega
def uJ (C n s : Nat) (a c : ZX) : Prop := if ZX.N c < ZX.N a then (s + n + 1) * 4 ^ ZX.N a ≤ C else (s + n + 1) * 2 * 4 ^ ZX.N c ≤ C
theorem uJ.le {C n s : Nat} {a c : ZX} (h : uJ C n s a c) : s + n + 1 ≤ C := by
 unfold uJ at h
 split at h
 ·exact Nat.le_trans (Nat.le_mul_of_pos_right _ (Nat.pow_pos (by decide))) h
 ·refine Nat.le_trans ?_ h
  rw [Nat.mul_assoc]
  exact Nat.le_mul_of_pos_right _ (Nat.mul_pos (by decide) (Nat.pow_pos (by decide)))
theorem uJ.step {C n s : Nat} {a c r : ZX} (h : uJ C n s a c) (hr : ZX.N r < ZX.N c) : uJ C n (s + (ZX.N a + 1 - ZX.N c) * (s + n + 1)) c r := by
 unfold uJ at h ⊢
 rw [if_pos hr]
 generalize hT : s + n + 1 = T at *
 have e : s + (ZX.N a + 1 - ZX.N c) * T + n + 1 = (ZX.N a + 1 - ZX.N c + 1) * T := by
  rw [Nat.add_mul, Nat.one_mul]; omega
 rw [e]
 split at h
 ·rename_i h1
  obtain ⟨d, hd⟩ : ∃ d, ZX.N a = ZX.N c + d := ⟨ZX.N a - ZX.N c, by omega⟩
  have h2 := aau (d := d) (by omega)
  rw [hd, Nat.pow_add] at h
  have h3 : (ZX.N a + 1 - ZX.N c + 1) * T ≤ 4 ^ d * T := Nat.mul_le_mul_right _ (by omega)
  refine Nat.le_trans (Nat.mul_le_mul_right _ h3) ?_
  have : 4 ^ d * T * 4 ^ ZX.N c = T * (4 ^ ZX.N c * 4 ^ d) := by grind
  omega
 ·rename_i h1
  refine Nat.le_trans (Nat.mul_le_mul_right _ (Nat.mul_le_mul_right T (show ZX.N a + 1 - ZX.N c + 1 ≤ 2 by omega))) ?_
  rw [Nat.mul_comm 2 T]; exact h
theorem J6 {s n C : Nat} {a c : ZX} (b : BZ s n a) (b' : BZ s n c) (hP : uJ C n s (nf a) (nf c)) (hB : (n + 1) * C ≤ 99000000000) : aK env.P 161 [Po a.l, Po c.l] (Po (gz a c).l) := by
 have hC : C ≤ 99000000000 := Nat.le_trans (Nat.le_mul_of_pos_left C (by omega)) hB
 rw [Nat.succ_mul] at hB
 have hs := hP.le
 have p1 := qL b (by omega) (by omega)
 have p2 := qL b' (by omega) (by omega)
 have b1 := b.nf
 have b2 := b'.nf
 have hg : gz (nf a) (nf c) = gz a c := by rw [agq, NW]
 rw [← hg]
 generalize mR : nf a = x0 at *
 generalize M5 : nf c = y0 at *
 generalize hG : gz x0 y0 = G at *
 refine aB (E := env) (fun _ => 0) [(0, Po a.l), (1, Po c.l)] Tryz.func161 rfl (by kernel_rfl) (by kernel_rfl) (show 2 ≤ 24 by decide) (by simp) ?_
 generalize a.l = al at *
 generalize c.l = cl at *
 refine W.sr ?_; simp (disch := omega) [gw]; refine W.lx [0, 1] ?_; simp
 refine W.sr ?_
 simp (disch := omega) [gw]
 refine aA p1 ?_
 simp (disch := omega) [gw]
 refine aA p2 ?_
 simp (disch := omega) [gw]
 refine W.lx [0, 1] ?_; simp
 refine W.seq ?_
 refine W.block ?_
 refine W.bB (fun k σ => ∃ (x y : ZX) (s : Nat) (rows : Pm.Rows) (clk : Nat), σ = ⟨fa [(0, Po x.l), (1, Po y.l)], rows, clk⟩ ∧ BZ s n x ∧ BZ s n y ∧ uJ C n s x y ∧ gz x y = G ∧ k = ZX.N y) (ZX.N y0) ?_ ?_
 ·exact ⟨_, .refl, x0, y0, s, _, _, rfl, b1, b2, hP, hG, rfl⟩
 rintro k _ ⟨x, y, s, rows, clk, rfl, bx, qM, hp, hgz, rfl⟩
 have hs := hp.le
 have K4 := bx.len
 have hly := qM.len
 refine W.seq ?_
 refine W.sr ?_; simp (disch := omega) [gw]; refine W.lx [0, 1, 13] ?_; simp
 refine W.cond ⟨_, rfl, fun h => ?_, fun h => ?_⟩
 ·have hy : y ≠ 0 := ZX.aG.2 (by show 0 < y.l.length; simp at h; omega)
  obtain ⟨m, k, q, hm, hk, e⟩ := ad7 (a := x) hy
  have hR := JO (x.l.map oL) (y.l.map oL) (bx.z5 (by omega) (by omega)) (qM.z5 (by omega) (by omega)) (s := s) (s' := s) (N := n) (by rw [bP]; exact J5 bx) (by rw [bP]; exact J5 qM) (by
   have : n * (s + n + 1) ≤ n * C := Nat.mul_le_mul_left n hs
   omega)
  rw [wQ, wQ, if_neg (tP hy), ← fY, ← fY, show JM x.l y.l = (rs x y).l from rfl] at hR
  have br := ao6 bx qM hy
  have hN := ao5 (a := x) hy
  have hp2 := hp.step hN
  have oX := FW hm hk e
  refine W.skip ?_
  refine W.block ?_
  refine W.sr ?_
  simp (disch := omega) [gw]
  refine aA hR ?_
  simp (disch := omega) [gw]
  refine W.lx [1, 5] ?_; simp
  refine W.cA (fun K hK => ?_)
  simp (disch := omega) [gw]
  refine hK _ ⟨ZX.N (rs x y), _, aC _ [0, 1], hN, y, rs x y, _, _, _, rfl, qM.mono (by omega) (Nat.le_refl _), br, hp2, by rw [← oX, hgz], rfl⟩
 ·have hy : y = 0 := by
   refine Classical.byContradiction fun h0 => ?_
   have h1 := ZX.aG.1 h0
   have h2 : ZX.N y = y.l.length := rfl
   simp at h; rw [h2, h] at h1; simp at h1
  subst hy
  rw [qK] at hgz
  have p3 := qL bx (by omega) (by omega)
  rw [hgz] at p3
  refine W.exit ?_; simp only [pX, if_true, if_false, reduceIte, Nat.reduceEqDiff]
  refine W.sr ?_
  simp (disch := omega) [gw]
  refine aA p3 ?_
  simp (disch := omega) [gw]
  refine W.lx [4] ?_; simp
  refine W.ret ?_
  simp [go]
theorem ad8 {s n C : Nat} {a c : ZX} (b : BZ s n a) (b' : BZ s n c) (hP : uJ C n s (nf a) (nf c)) (hn : n ≤ 20) (hC : C ≤ 4500000000) : aK env.P 161 [Po a.l, Po c.l] (Po (gz a c).l) :=
 J6 b b' hP (Nat.le_trans (Nat.mul_le_mul (show n + 1 ≤ 21 by omega) hC) (by decide))
def zp (a : ZX) : List PV := [Po a.l]
@[simp] theorem at2 {a : ZX} : zp a = [Po a.l] := rfl
@[simp] theorem alI {l : List ZX} : bF 1 (emap zp l) = True := c8 fun _ => rfl
@[simp] theorem at3 {l : List ZX} {a : ZX} : emap zp l ++ [[aJ ie a.l]] = emap zp (l ++ [a]) := by simp [emap]
@[simp] theorem aju {v e n : Nat} {l : List ZX} : cT (some ⟨v, e, n, emap zp l⟩) = True := cQ fun _ => rfl
theorem BZ.bM {h n : Nat} {a : ZX} (b : BZ h n a) (hn : n ≤ 31) : BZ (h + 5) n (ZX.bM a) := Bd.cut ⟨by have := b.len; simp [ZX.u0]; omega, fun c hc => by
 simp only [ZX.u0, List.mem_map, List.mem_range] at hc
 obtain ⟨i, hi, rfl⟩ := hc
 have := b.len
 exact bR (by decide) (b.nth _) (cG (k := 5) (by decide) (by rw [Int.natAbs_natCast]; show i + 1 < 32; omega))⟩
theorem ad9 {h n : Nat} {a : ZX} (b : BZ h n a) (hn : n < 1099511627776) : aK env.P 102 [Po a.l] (.int .i64 ((ZX.N a : Int) - 1)) := jB a.l (by have := b.len; omega)
structure rZ (s n : Nat) (a : ZX) : Prop where
 bz : BZ s n a
 hn : n ≤ 20
 hs : n + 1 ≤ 2 ^ s
 hC : (qb s n + n + 6) * 4 ^ n ≤ 4500000000
theorem rZ.wR {s n : Nat} {a : ZX} (h : rZ s n a) : qb s n + n + 6 ≤ 4500000000 := Nat.le_trans (Nat.le_mul_of_pos_right _ (Nat.pow_pos (by decide))) h.hC
theorem rZ.dv {s n : Nat} {a c : ZX} (h : rZ s n a) (ha : Nf a) (hc : Nf c) (hd : ZX.dv c a) : BZ (qb s n) n c := ao4 ha hc hd h.bz h.hs
theorem rZ.nfz {s n : Nat} {a : ZX} (h : rZ s n a) : rZ s n (nf a) := ⟨h.bz.nf, h.hn, h.hs, h.hC⟩
theorem rZ.gdz {s n : Nat} {a c : ZX} (h : rZ s n a) (ha : Nf a) (hc : Nf c) (hd : ZX.dv c a) : aK env.P 161 [Po c.l, Po (ZX.bM c).l] (Po (gd c).l) ∧ aK env.P 104 [Po c.l] (Po (ZX.bM c).l) ∧ aK env.P 160 [Po c.l, Po (gd c).l] (Po (qz c (gd c)).l) := by
 have b := h.dv ha hc hd
 have b2 := b.bM (by have := h.hn; omega)
 have hq := h.wR
 have hn := h.hn
 have bg := h.dv ha (Q3 hc.ne) ((wP c).trans hd)
 refine ⟨ad8 (s := qb s n + 5) (b.mono (by omega) (Nat.le_refl _)) b2 ?_ h.hn (C := 4500000000) (Nat.le_refl _), nZ b (by omega) (by omega), ad6 b bg hc (Q3 hc.ne) (wP c) (by
  have : n * (qb s n + n + 1) ≤ 20 * 4500000000 := Nat.mul_le_mul hn (by omega)
  omega)⟩
 have hN := ZX.l5 c
 have h1 : ZX.N c ≤ n := b.N
 have h2 := ZX.aG.1 hc.ne
 unfold uJ
 rw [pT, pT, if_pos (by omega)]
 refine Nat.le_trans (Nat.mul_le_mul (show qb s n + 5 + n + 1 ≤ qb s n + n + 6 by omega) (Nat.pow_le_pow_right (by decide) h1)) h.hC
theorem mO (f : Nat → ZX) {m i : Nat} (h : i < m) : nth ((List.range m).map f) i = f i := by
 rw [cL (by simpa using h)]; simp
theorem FZ {s n C : Nat} {a c : ZX} (b : BZ s n a) (b' : BZ s n c) (hP : uJ C n s (nf a) (nf c)) (hn : n ≤ 20) (hB : (n + 1) * C ≤ 99000000000) : aK env.P 103 [Po a.l, Po c.l] (.bool (decide (ZX.N (gz a c) = 1))) := by
 have h1 := J6 b b' hP hB
 have hl : ZX.N (gz a c) ≤ 20 := by
  by_cases ha : a = 0
  ·subst ha
   rw [aaj, pT]
   exact Nat.le_trans b'.N hn
  ·exact Nat.le_trans ((fE a c).l.pQ ha) (Nat.le_trans b.N hn)
 have h2 := jB (gz a c).l (by show ZX.N (gz a c) < _; omega)
 have e : (((gz a c).l.length : Int) - 1 == 0) = decide (ZX.N (gz a c) = 1) := by
  rw [Bool.eq_iff_iff, beq_iff_eq, decide_eq_true_iff]
  have : ZX.N (gz a c) = (gz a c).l.length := rfl
  omega
 generalize gz a c = g at *
 refine aB (E := env) (fun _ => 0) [(0, Po a.l), (1, Po c.l)] Tryz.func103 rfl (by kernel_rfl) (by kernel_rfl) (show 2 ≤ 10 by decide) (by simp) ?_
 generalize a.l = x at *
 generalize c.l = y at *
 refine W.sr ?_; simp (disch := omega) [gw]; refine W.lx [0, 1] ?_; simp
 refine W.sr ?_
 simp (disch := omega) [gw]
 refine aA h1 ?_
 simp (disch := omega) [gw]
 refine aA h2 ?_
 simp (disch := omega) [gw, e]
 refine W.lx [4] ?_; simp
 refine W.ret ?_
 simp [go]
theorem wS {s n C : Nat} {a c : ZX} (b : BZ s n a) (b' : BZ s n c) (hP : uJ C n s (nf a) (nf c)) (hn : n ≤ 20) (hC : C ≤ 4500000000) : aK env.P 103 [Po a.l, Po c.l] (.bool (decide (ZX.N (gz a c) = 1))) :=
 FZ b b' hP hn (Nat.le_trans (Nat.mul_le_mul (show n + 1 ≤ 21 by omega) hC) (by decide))
noncomputable def sq (a : ZX) : ZX := if ZX.N a ≤ 1 then nf a else sz' (nf a)
theorem wT {α : Type} {g : α → List PV} {l : List α} {s n : Nat} {a : ZX} (h : rZ s n a) (p1 : aK env.P 159 [aJ g l] (Po (nf a).l)) : aK env.P 83 [aJ g l] (Po (sq a).l) := by
 have hqb := h.wR
 have hn := h.hn
 have hA := h.nfz
 have at4 := ad9 hA.bz (by omega)
 have hsq : sq a = if ZX.N (nf a) ≤ 1 then nf a else sz' (nf a) := by rw [pT]; rfl
 have nA : 2 ≤ ZX.N (nf a) → Nf (nf a) := fun h2 => l7 fun h0 => by rw [h0, jY] at h2; revert h2; decide
 rw [hsq]
 generalize nf a = A at *
 refine aB (E := env) (fun _ => 0) [(0, aJ g l)] Tryz.func83 rfl (by kernel_rfl) (by kernel_rfl) (show 1 ≤ 15 by decide) (by simp) ?_
 refine W.sr ?_; simp (disch := omega) [gw]; refine W.lx [0] ?_; simp
 refine W.sr ?_
 simp (disch := omega) [gw]
 refine aA p1 ?_
 simp (disch := omega) [gw]
 refine W.lx [0] ?_; simp
 refine W.seq ?_
 refine W.sr ?_
 simp (disch := omega) [gw]
 refine aA at4 ?_
 simp (disch := omega) [gw]
 refine W.lx [0, 7] ?_; simp
 refine W.cond ⟨_, rfl, fun h3 => ?_, fun h3 => ?_⟩
 ·have h2 : ZX.N A ≤ 1 := by simp at h3; omega
  rw [if_pos h2]
  refine W.sr ?_; simp (disch := omega) [gw]; refine W.lx [2] ?_; simp
  refine W.ret ?_
  simp [go]
 ·have h2 : 2 ≤ ZX.N A := by simp at h3; omega
  obtain ⟨t1, t2, t3⟩ := hA.gdz (nA h2) (nA h2) (ZX.dv.refl A)
  rw [if_neg (by omega), show sz' A = qz A (gd A) from rfl]
  generalize (gd A).l = g1 at *
  refine W.skip ?_
  refine W.sr ?_
  simp (disch := omega) [gw]
  refine aA t2 ?_
  simp (disch := omega) [gw]
  refine aA t1 ?_
  simp (disch := omega) [gw]
  refine aA t3 ?_
  simp (disch := omega) [gw]
  refine W.lx [2] ?_; simp
  refine W.ret ?_
  simp [go]
theorem lB {s n : Nat} {a : ZX} (h : rZ s n a) : aK env.P 83 [Po a.l] (Po (sq a).l) := by
 have hqb := h.wR
 have hn := h.hn
 exact wT h (qL h.bz (by unfold qb at hqb; omega) (by omega))
end Go.Proofs.YtbbjgncblhfegaaGreat
