import Derived.Test.YtdiladmkbpnhoaaGreatLeg
import Derived.Test.YtdiladmkbpnhoaaGreatMq
set_option linter.unusedSimpArgs false
set_option linter.unusedVariables false
namespace Go.Proofs.YtdiladmkbpnhoaaGreat
open Go Pm
def rz (a c : ZX) : ZX := ZX.of (rq c.l (a.l.length + 1) a.l)
theorem rz_spec {a c : ZX} (hc : c ≠ 0) : (rz a c).l = rq c.l (a.l.length + 1) a.l ∧ ZX.N (rz a c) < ZX.N c ∧ ∃ (m : Int) (q : ZX), m ≠ 0 ∧ ZX.K m * a = q * c + ZX.K 1 * rz a c := by
 obtain ⟨h1, h2, m, q, hm, h3⟩ := rq_spec c.c (ZX.ne_zero.1 hc) (a.l.length + 1) a.l a.c (by omega)
 have e : (rz a c).l = rq c.l (a.l.length + 1) a.l := h1
 refine ⟨e, by show (rz a c).l.length < c.l.length; rw [e]; exact h2, m, ZX.of q, hm, ZX.ext fun t => ?_⟩
 rw [ZX.v_mul, ZX.v_K, ZX.v_add, ZX.v_mul, ZX.v_mul, ZX.v_K, ZX.v_of, e, h3 t]; omega
theorem rz_bd {s n : Nat} {a c : ZX} (ha : BZ s n a) (hb : BZ s n c) (hc : c ≠ 0) : BZ (s + (ZX.N a + 1 - ZX.N c) * (s + n + 1)) n (rz a c) := by
 have h := rq_bd hb (ZX.ne_zero.1 hc) (a.l.length + 1) (ZX.N a + 1 - ZX.N c) s a.l ha (by show ZX.N a + 1 ≤ ZX.N c + _; omega)
 rw [← (rz_spec hc).1] at h
 exact h
theorem qGcdZ_ret {s n C : Nat} {a c : ZX} (b : BZ s n a) (b' : BZ s n c) (hP : Pot C n s (nf a) (nf c)) (hn : n ≤ 20) (hC : C ≤ 4500000000) (h1 : 1 ≤ s) : Ret env.P 203 [PI a.l, PI c.l] (PI (gz a c).l) := by
 have hs := hP.le
 have p1 := qPrimZ_ret b h1 (by show s ≤ 137438953472; omega) (by omega)
 have p2 := qPrimZ_ret b' h1 (by show s ≤ 137438953472; omega) (by omega)
 have b1 := b.nf
 have b2 := b'.nf
 have hg : gz (nf a) (nf c) = gz a c := by rw [gz_nf, gz_nf']
 have hx1 := nf_nf a
 rw [← hg]
 generalize hx0 : nf a = x0 at *
 generalize hy0 : nf c = y0 at *
 generalize hG : gz x0 y0 = G at *
 refine ret_of_Wf (E := env) (fun _ => 0) [(0, PI a.l), (1, PI c.l)] Tryz.func203 rfl (by kernel_rfl) (by kernel_rfl) (show 2 ≤ 18 by decide) (by simp) ?_
 generalize a.l = al at *
 generalize c.l = cl at *
 refine W.sreg (fun K hK => ?_); simp (disch := omega) [gA, wA]; refine W.lv [0, 1] hK fun J j => ?_; clear hK K; simp; refine j _ ?_; clear j J
 refine W.sreg (fun K hK => ?_)
 simp (disch := omega) [gA, wA]
 refine callR p1 ?_
 simp (disch := omega) [gA, wA]
 refine callR p2 ?_
 simp (disch := omega) [gA, wA]
 refine W.lv [0, 1] hK fun J j => ?_; clear hK K; simp; refine j _ ?_; clear j J
 refine W.seq ?_
 refine W.block ?_
 refine W.loopG (fun k σ => ∃ (x y : ZX) (s : Nat) (rows : Pm.Rows) (clk : Nat), σ = ⟨fa [(0, PI x.l), (1, PI y.l)], rows, clk⟩ ∧ BZ s n x ∧ BZ s n y ∧ 1 ≤ s ∧ Pot C n s x y ∧ gz x y = G ∧ nf x = x ∧ nf y = y ∧ k = ZX.N y) (ZX.N y0) ?_ ?_
 ·exact ⟨_, .refl, x0, y0, s, _, _, rfl, b1, b2, h1, hP, hG, hx1, by rw [← hy0, nf_nf], rfl⟩
 rintro k _ ⟨x, y, s, rows, clk, rfl, bx, by_, h1, hp, hgz, hnx, hny, rfl⟩
 have hs := hp.le
 have hlx := bx.len
 have hly := by_.len
 refine W.seq ?_
 refine W.sreg (fun K hK => ?_); simp (disch := omega) [gA, wA]; refine W.lv [0, 1, 11] hK fun J j => ?_; clear hK K; simp; refine j _ ?_; clear j J
 refine W.cond ⟨_, rfl, fun h => ?_, fun h => ?_⟩
 ·have hy : y ≠ 0 := ZX.ne_zero.2 (by show 0 < y.l.length; simp at h; omega)
  obtain ⟨hrl, hN, m, q, hm, e⟩ := rz_spec (a := x) hy
  have br := rz_bd bx by_ hy
  have hmul : (x.l.length + 1 - y.l.length + 1) * (s + n + 1) ≤ 22 * 4500000000 := Nat.mul_le_mul (by omega) (by omega)
  have hmul2 : (ZX.N x + 1 - ZX.N y) * (s + n + 1) ≤ 22 * 4500000000 := Nat.mul_le_mul (by have : ZX.N x = x.l.length := rfl; omega) (by omega)
  have hR := qrest_ret (s := s) (s' := s) (N := n) bx by_ x.c y.c (ZX.ne_zero.1 hy) (by omega) (by show _ < 137438953472; omega)
  rw [← hrl] at hR
  have pr := qPrimZ_ret br (by omega) (by show _ ≤ 137438953472; omega) (by omega)
  have hN2 : ZX.N (nf (rz x y)) < ZX.N y := by rw [N_nf]; exact hN
  have hp2 := hp.step hN2
  have hg2 := gz_step hm (show (1 : Int) ≠ 0 by decide) e
  rw [← gz_nf' y (rz x y)] at hg2
  have br2 := br.nf
  have hnn := nf_nf (rz x y)
  generalize (rz x y).l = rl at *
  generalize nf (rz x y) = r2 at *
  refine W.skip ?_
  refine W.block ?_
  refine W.reg (fun K hK => ?_)
  simp (disch := omega) [gA, wA]
  refine callR hR ?_
  simp (disch := omega) [gA, wA]
  refine callR pr ?_
  simp (disch := omega) [gA, wA]
  refine hK _ ⟨ZX.N r2, _, Gh_fa _ [0, 1], hN2, y, r2, _, _, _, rfl, by_.mono (by omega) (Nat.le_refl _), br2, by omega, hp2, by rw [← hg2, hgz], hny, hnn, rfl⟩
 ·have hy : y = 0 := by
   refine Classical.byContradiction fun h0 => ?_
   have h1 := ZX.ne_zero.1 h0
   have h2 : ZX.N y = y.l.length := rfl
   simp at h; rw [h2, h] at h1; simp at h1
  subst hy
  rw [gz_zero, hnx] at hgz
  subst hgz
  refine W.exit ?_; simp only [pX, if_true, if_false, reduceIte, Nat.reduceEqDiff]
  refine W.sreg (fun K hK => ?_); simp (disch := omega) [gA, wA]; refine W.lv [4] hK fun J j => ?_; clear hK K; simp; refine j _ ?_; clear j J
  refine W.ret ?_
  simp [go]
theorem qDivZ_ret {h h' n : Nat} {a c : ZX} (b : BZ h n a) (b' : BZ h' n c) (h1 : 1 ≤ h) (ha : Nf a) (hc : Nf c) (hd : ZX.dv c a) (hB : h + (n + 1) * (h' + n + 2) + h' + n + n + 10 < 137438953472) : Ret env.P 204 [PI a.l, PI c.l] (.tup [PI (qz a c).l, PI []]) := by
 obtain ⟨hw, e⟩ := qz_spec ha hc hd
 have hD := qDivMod_ret a.l c.l b b' a.c c.c (ZX.ne_zero.1 hc.ne) h1 hB
 obtain ⟨e1, e2⟩ := dmd_some (q := (qz a c).l) a.c c.c (ZX.ne_zero.1 hc.ne) (qz a c).c fun t => by
  conv => lhs; rw [e]
  rw [ZX.v_mul]
 rw [e1, e2, PP_qs, PP_qs, PP_qs] at hD
 exact hD
def zq (a : ZX) : List PV := [PI a.l]
@[simp] theorem zq_def {a : ZX} : zq a = [PI a.l] := rfl
@[simp] theorem lenAll_zq {l : List ZX} : lenAll 1 (emap zq l) = True := lenAll_emap fun _ => rfl
@[simp] theorem rowPers_zq {v e n : Nat} {l : List ZX} : rowPers (some ⟨v, e, n, emap zq l⟩) = True := rowPers_emap fun _ => rfl
@[simp] theorem app_zq {l : List ZX} {a : ZX} : emap zq l ++ [[sls ri a.l]] = emap zq (l ++ [a]) := by simp [emap]
theorem Lay.qd {s n : Nat} {a c d : ZX} (h : Lay s n a) (h1 : 1 ≤ s) (ha : Nf a) (hc : Nf c) (hd : Nf d) (hca : ZX.dv c a) (hdc : ZX.dv d c) : Ret env.P 204 [PI c.l, PI d.l] (.tup [PI (qz c d).l, PI []]) ∧ Ret env.P 144 [PI (qz c d).l] (PI (qz c d).l) := by
 have b := h.dv ha hc hca
 have b2 := h.dv ha hd (hdc.trans hca)
 have hq := h.qb_le
 have hn := h.hn
 obtain ⟨hw, e⟩ := qz_spec hc hd hdc
 have bq := h.dv ha hw ((qz_dv hc hd hdc).trans hca)
 have hm : (n + 1) * (qb s n + n + 2) ≤ 21 * 4500000000 := Nat.mul_le_mul (by omega) (by omega)
 have hqb1 : 1 ≤ qb s n := by unfold qb; omega
 refine ⟨qDivZ_ret b b2 hqb1 hc hd hdc (by omega), ?_⟩
 have := qPrimZ_ret bq hqb1 (by show _ ≤ 137438953472; omega) (by omega)
 rwa [hw.nfe] at this
theorem Lay.qgd {s n : Nat} {a c : ZX} (h : Lay s n a) (ha : Nf a) (hc : Nf c) (hd : ZX.dv c a) : Ret env.P 91 [PI c.l] (PI (ZX.der c).l) ∧ Ret env.P 203 [PI c.l, PI (ZX.der c).l] (PI (gd c).l) := by
 have b := h.dv ha hc hd
 have b2 := b.der (by have := h.hn; omega)
 have hq := h.qb_le
 have hn := h.hn
 have hqb1 : 1 ≤ qb s n := by unfold qb; omega
 refine ⟨qDeriveZ_ret b (by show _ ≤ 137438953472; omega) (by omega), qGcdZ_ret (s := qb s n + 5) (b.mono (by omega) (Nat.le_refl _)) b2 ?_ h.hn (C := 4500000000) (Nat.le_refl _) (by omega)⟩
 have hN := ZX.N_der c
 have h1 : ZX.N c ≤ n := b.N
 have h2 := ZX.ne_zero.1 hc.ne
 unfold Pot
 rw [N_nf, N_nf, if_pos (by omega)]
 refine Nat.le_trans (Nat.mul_le_mul (show qb s n + 5 + n + 1 ≤ qb s n + n + 6 by omega) (Nat.pow_le_pow_right (by decide) h1)) h.hC
theorem qFactors_ret {s n : Nat} {a : ZX} (h : Lay s n a) (h1 : 1 ≤ s) : Ret env.P 139 [PI a.l] (sls zq (fl (nf a))) := by
 have hqb := h.qb_le
 have hn := h.hn
 have hs1 : s ≤ 4500000000 := by unfold qb at hqb; omega
 have p1 := qPrimZ_ret h.bz h1 (by show s ≤ 137438953472; omega) (by omega)
 have hA := h.nfz
 have hNa : ZX.N a = a.l.length := rfl
 have hNN := N_nf a
 have hle := nl_le (nf a)
 have hNA : ZX.N (nf a) ≤ n := hA.bz.N
 refine ret_of_Wf (E := env) (fun _ => 0) [(0, PI a.l)] Tryz.func139 rfl (by kernel_rfl) (by kernel_rfl) (show 1 ≤ 94 by decide) (by simp) ?_
 refine W.sreg (fun K hK => ?_); simp (disch := omega) [gA, wA]; refine W.lv [0] hK fun J j => ?_; clear hK K; simp; refine j _ ?_; clear j J
 refine W.seq ?_
 refine W.sreg (fun K hK => ?_); simp (disch := omega) [gA, wA]; refine W.lv [0, 2, 15] hK fun J j => ?_; clear hK K; simp; refine j _ ?_; clear j J
 refine W.cond ⟨_, rfl, fun h => ?_, fun h => ?_⟩
 ·have h2 : ZX.N a ≤ 1 := by simp at h; omega
  have h3 : fl (nf a) = [] := by unfold fl; rw [nl_small (by rw [hNN]; exact h2)]; rfl
  rw [h3]
  refine W.sreg (fun K hK => ?_); simp (disch := omega) [gA, wA]; refine W.lv [2] hK fun J j => ?_; clear hK K; simp; refine j _ ?_; clear j J
  refine W.nils 2 (sls zq []) (by simp) rfl (fun K hK => ?_)
  refine W.lv [2] hK fun J j => ?_; clear hK K; simp; refine j _ ?_; clear j J
  refine W.ret ?_
  simp [go]
 have h2 : 2 ≤ ZX.N a := by simp at h; omega
 have nA : Nf (nf a) := nf_Nf (ZX.ne_zero.2 (by omega))
 clear h
 generalize nf a = A at *
 obtain ⟨m, hm⟩ : ∃ m, m = nl A := ⟨_, rfl⟩
 have hfl : fl A = (List.range m).map (fz' A) := by rw [hm]; rfl
 rw [hfl]
 refine W.skip ?_
 refine W.sreg (fun K hK => ?_)
 simp (disch := omega) [gA, wA]
 refine callR p1 ?_
 simp (disch := omega) [gA, wA]
 refine W.lv [0] hK fun J j => ?_; clear hK K; simp; refine j _ ?_; clear j J
 refine W.sreg (fun K hK => ?_); simp (disch := omega) [gA, wA]; refine W.lv [0, 3] hK fun J j => ?_; clear hK K; simp; refine j _ ?_; clear j J
 refine W.sregL 1 rfl rfl (fun K hK => ?_)
 simp (disch := omega) [gA, wA]
 refine W.lv [3, 4] hK fun J j => ?_; clear hK K; simp; refine j _ ?_; clear j J
 refine W.seq ?_
 refine W.block ?_
 refine W.loopG (fun k σ => ∃ (i ver : Nat) (rows : Pm.Rows) (clk : Nat), σ = ⟨fa [(3, .nil), (4, .own 19 ver 0 (i + 1))], rows, clk⟩ ∧ rows 19 = some ⟨ver, 36, 1, emap zq ((List.range (i + 1)).map (gs A))⟩ ∧ i + k = m) m ?_ ?_
 ·exact ⟨_, .refl, 0, _, _, _, rfl, by simp [emap, gs], by omega⟩
 rintro k _ ⟨i, ver, rows, clk, rfl, hr, hik⟩
 have hil : ((List.range (i + 1)).map (gs A)).length = i + 1 := by simp
 have hnth : nth ((List.range (i + 1)).map (gs A)) i = gs A i := nth_map_range _ (by omega)
 have er : (List.range (i + 1 + 1)).map (gs A) = (List.range (i + 1)).map (gs A) ++ [gs A (i + 1)] := by rw [List.range_succ, List.map_append]; rfl
 have e1 : ((i : Int) + 1 - 1).toNat = i := by omega
 generalize hL : (List.range (i + 1)).map (gs A) = L at *
 refine W.seq ?_
 refine W.sreg (fun K hK => ?_); simp (disch := omega) [gA, wA, hr, hil, hnth]; refine W.lv [3, 4, 27] hK fun J j => ?_; clear hK K; simp; refine j _ ?_; clear j J
 refine W.cond ⟨_, rfl, fun h => ?_, fun h => ?_⟩
 ·have h3 : 2 ≤ ZX.N (gs A i) := by
   have h4 : ZX.N (gs A i) = (gs A i).l.length := rfl
   simp at h; omega
  clear h
  have hi : i < nl A := by
   rcases Nat.lt_or_ge i (nl A) with h4 | h4
   ·exact h4
   ·have h5 := (nl_spec A).1
    rw [show nl A = i by omega] at h5; omega
  obtain ⟨t1, t2⟩ := hA.qgd nA (gs_Nf nA i) (gs_dv A i)
  rw [show gd (gs A i) = gs A (i + 1) from rfl] at t2
  generalize hg : (gs A i).l = g at *
  generalize hg2 : gs A (i + 1) = g2 at *
  refine W.skip ?_
  refine W.block ?_
  refine W.sreg (fun K hK => ?_); simp (disch := omega) [gA, wA, hr, hil, hnth, hg]; refine W.lv [3, 4, 5] hK fun J j => ?_; clear hK K; simp; refine j _ ?_; clear j J
  refine W.reg (fun K hK => ?_)
  simp (disch := omega) [gA, wA]
  refine callR t1 ?_
  simp (disch := omega) [gA, wA]
  refine callR t2 ?_
  simp (disch := omega) [gA, wA, hr, hil]
  refine hK _ ⟨k - 1, _, Gh_fa _ [3, 4], by omega, i + 1, _, _, _, rfl, by rw [er]; simp, by omega⟩
 have h3 : ZX.N (gs A i) ≤ 1 := by
  have h4 : ZX.N (gs A i) = (gs A i).l.length := rfl
  simp at h; omega
 clear h
 have hi : i = m := by
  rcases Nat.lt_or_ge i (nl A) with h4 | h4
  ·have := (nl_spec A).2 i h4; omega
  ·omega
 subst hi
 have hR : L ++ [(1 : ZX)] = (List.range (i + 2)).map (gs A) := by
  rw [show (1 : ZX) = gs A (i + 1) by rw [hm, gs_nl nA 1]]
  exact er.symm
 have hone := qOne_ret
 generalize hz : (1 : ZX) = z1 at *
 refine W.exit ?_; simp only [pX, if_true, if_false, reduceIte, Nat.reduceEqDiff]
 refine W.sreg (fun K hK => ?_)
 simp (disch := omega) [gA, wA]
 refine callR hone ?_
 simp (disch := omega) [gA, wA, hr, hil]
 refine W.lv [3, 4] hK fun J j => ?_; clear hK K; simp; refine j _ ?_; clear j J
 clear hr hnth e1 er hL hil
 have hRl : (L ++ [z1]).length = i + 2 := by rw [hR]; simp
 have hnth : ∀ j, j < i + 2 → nth (L ++ [z1]) j = gs A j := fun j hj => by rw [hR]; exact nth_map_range _ hj
 generalize L ++ [z1] = R at *
 have hRt : List.take (i + 2) R = R := List.take_of_length_le (by omega)
 refine W.freeze 19 (by simp) (fun K hK => ?_)
 simp [hRt]
 refine hK _ ?_; clear hK K
 refine W.nil 3 3 36 1 (by simp) (by decide) (fun K hK => ?_)
 refine W.lv [3, 4] hK fun J j => ?_; clear hK K; simp; refine j _ ?_; clear j J
 refine W.seq ?_
 refine W.sreg (fun K hK => ?_); simp (disch := omega) [gA, wA]; refine W.lv [3, 4, 6] hK fun J j => ?_; clear hK K; simp; refine j _ ?_; clear j J
 refine W.block ?_
 refine W.loopG (fun k σ => ∃ (j ver : Nat) (rows : Pm.Rows) (clk : Nat), σ = ⟨fa [(3, .own 3 ver 0 j), (4, sls zq R), (6, .int .i64 j)], rows, clk⟩ ∧ rows 3 = some ⟨ver, 36, 1, emap zq ((List.range j).map (fz' A))⟩ ∧ j + k = i) i ?_ ?_
 ·exact ⟨_, .refl, 0, _, _, _, rfl, by simp [emap], by omega⟩
 clear rows clk ver hik k
 rintro k _ ⟨j, ver, rows, clk, rfl, hr, hjk⟩
 have hjl : ((List.range j).map (fz' A)).length = j := by simp
 refine W.seq ?_
 refine W.sreg (fun K hK => ?_); simp (disch := omega) [gA, wA, hRl]; refine W.lv [3, 4, 6, 50] hK fun J j => ?_; clear hK K; simp; refine j _ ?_; clear j J
 refine W.cond ⟨_, rfl, fun h => ?_, fun h => ?_⟩
 ·have hj : j < i := by simp at h; omega
  clear h
  have er : (List.range (j + 1)).map (fz' A) = (List.range j).map (fz' A) ++ [fz' A j] := by rw [List.range_succ, List.map_append]; rfl
  have n0 := hnth j (by omega)
  have n1 := hnth (j + 1) (by omega)
  have n2 := hnth (j + 2) (by omega)
  have l0 : j < R.length := by omega
  have l1 : j + 1 < R.length := by omega
  have l2 : j + 2 < R.length := by omega
  have e1 : ((j : Int) + 1).toNat = j + 1 := by omega
  have e2 : ((j : Int) + 2).toNat = j + 2 := by omega
  obtain ⟨d1, q1⟩ := hA.qd h1 nA (gs_Nf nA j) (gs_Nf nA (j + 1)) (gs_dv A j) (gd_dv _)
  obtain ⟨d2, q2⟩ := hA.qd h1 nA (gs_Nf nA (j + 1)) (gs_Nf nA (j + 2)) (gs_dv A (j + 1)) (gd_dv _)
  obtain ⟨d3, q3⟩ := hA.qd h1 nA (wz_spec nA j).1 (wz_spec nA (j + 1)).1 (wz_dv_a nA j) (wz_dv nA j)
  rw [show qz (gs A j) (gs A (j + 1)) = wz A j from rfl] at d1 q1
  rw [show qz (gs A (j + 1)) (gs A (j + 2)) = wz A (j + 1) from rfl] at d2 q2
  rw [show qz (wz A j) (wz A (j + 1)) = fz' A j from rfl] at d3 q3
  have h0 : (nth R j).l = (gs A j).l := by rw [n0]
  have h1' : (nth R (j + 1)).l = (gs A (j + 1)).l := by rw [n1]
  have h2' : (nth R (j + 2)).l = (gs A (j + 2)).l := by rw [n2]
  generalize (gs A j).l = g0 at *
  generalize (gs A (j + 1)).l = g1 at *
  generalize (gs A (j + 2)).l = g2 at *
  generalize (wz A j).l = w0 at *
  generalize (wz A (j + 1)).l = w1 at *
  generalize hF : fz' A j = F at *
  generalize hac : (List.range j).map (fz' A) = acc at *
  refine W.skip ?_
  refine W.seq ?_
  refine W.block ?_
  refine W.sdrw (fun K hK => ?_)
  simp (disch := omega) [gA, wA, h0, h1', e1]
  refine callR d1 ?_
  simp (disch := omega) [gA, wA]
  refine W.lv [3, 4, 6, 7] hK fun J j => ?_; clear hK K; simp; refine j _ ?_; clear j J
  refine W.sdrw (fun K hK => ?_)
  simp (disch := omega) [gA, wA, h1', h2', e1, e2]
  refine callR d2 ?_
  simp (disch := omega) [gA, wA]
  refine W.lv [3, 4, 6, 7, 9] hK fun J j => ?_; clear hK K; simp; refine j _ ?_; clear j J
  refine W.sreg (fun K hK => ?_)
  simp (disch := omega) [gA, wA]
  refine callR q1 ?_
  simp (disch := omega) [gA, wA]
  refine callR q2 ?_
  simp (disch := omega) [gA, wA]
  refine callR d3 ?_
  simp (disch := omega) [gA, wA]
  refine W.lv [3, 4, 6, 11] hK fun J j => ?_; clear hK K; simp; refine j _ ?_; clear j J
  refine W.reg (fun K hK => ?_)
  simp (disch := omega) [gA, wA]
  refine callR q3 ?_
  simp (disch := omega) [gA, wA, hr, hjl]
  refine W.lv [3, 4, 6] hK fun J j => ?_; clear hK K; simp; refine j _ ?_; clear j J
  refine W.reg (fun K hK => ?_); simp (disch := omega) [gA, wA]
  refine hK _ ⟨k - 1, _, Gh_fa _ [3, 4, 6], by omega, j + 1, _, _, _, rfl, by rw [er]; simp, by omega⟩
 ·have hj : j = i := by simp at h; omega
  subst hj
  generalize (List.range j).map (fz' A) = acc at *
  have htk : List.take j acc = acc := List.take_of_length_le (by omega)
  refine W.exit ?_; simp only [pX, if_true, if_false, reduceIte, Nat.reduceEqDiff]
  refine W.sreg (fun K hK => ?_)
  simp (disch := omega) [gA, wA, hr, htk]
  refine W.lv [2] hK fun J j => ?_; clear hK K; simp; refine j _ ?_; clear j J
  refine W.ret ?_
  simp [go, hr, htk]
theorem qSquareZ_ret {s n : Nat} {a : ZX} (h : Lay s n a) (h1 : 1 ≤ s) : Ret env.P 68 [PI a.l] (PI (sq a).l) := by
 have hqb := h.qb_le
 have hn := h.hn
 have hF := qFactors_ret h h1
 have hA := h.nfz
 have hNa : ZX.N a = a.l.length := rfl
 have hsq : ZX.N a ≠ 0 → sq a = pf (nf a) (fun _ => true) (nl (nf a)) := fun h0 => by
  have nA := nf_Nf (ZX.ne_zero.2 (Nat.pos_of_ne_zero h0))
  unfold sq
  split
  ·rename_i h2
   rw [nl_small (by rw [N_nf]; exact h2), nA.N1 (by rw [N_nf]; exact h2)]; rfl
  ·rw [pf_all nA]
 have hNf : ZX.N a ≠ 0 → Nf (nf a) := fun h0 => nf_Nf (ZX.ne_zero.2 (Nat.pos_of_ne_zero h0))
 have hle := nl_le (nf a)
 have hNA : ZX.N (nf a) ≤ n := hA.bz.N
 have hsq0 : ZX.N a = 0 → (sq a).l = [] := fun h0 => by
  have h2 : a = 0 := Classical.byContradiction fun h3 => by have := ZX.ne_zero.1 h3; omega
  unfold sq
  rw [if_pos (by omega), h2, nf_zero]; rfl
 generalize nf a = A at *
 refine ret_of_Wf (E := env) (fun _ => 0) [(0, PI a.l)] Tryz.func68 rfl (by kernel_rfl) (by kernel_rfl) (show 1 ≤ 26 by decide) (by simp) ?_
 refine W.sreg (fun K hK => ?_); simp (disch := omega) [gA, wA]; refine W.lv [0] hK fun J j => ?_; clear hK K; simp; refine j _ ?_; clear j J
 refine W.seq ?_
 refine W.sreg (fun K hK => ?_); simp (disch := omega) [gA, wA]; refine W.lv [0, 2, 8] hK fun J j => ?_; clear hK K; simp; refine j _ ?_; clear j J
 refine W.cond ⟨_, rfl, fun h3 => ?_, fun h3 => ?_⟩
 ·have h0 : ZX.N a = 0 := by rw [hNa]; simp at h3; rw [h3]; rfl
  rw [hsq0 h0]
  refine W.sreg (fun K hK => ?_); simp (disch := omega) [gA, wA]; refine W.lv [2] hK fun J j => ?_; clear hK K; simp; refine j _ ?_; clear j J
  refine W.nils 2 (PI []) (by simp) rfl (fun K hK => ?_)
  refine W.lv [2] hK fun J j => ?_; clear hK K; simp; refine j _ ?_; clear j J
  refine W.ret ?_
  simp [go]
 have h0 : ZX.N a ≠ 0 := by rw [hNa]; simp at h3; intro h4; exact h3 (List.eq_nil_of_length_eq_zero h4)
 have nA := hNf h0
 rw [hsq h0]
 clear h3 hsq hsq0 hNf
 have hmul : ∀ i, Ret env.P 122 [PI (pf A (fun _ => true) i).l, PI (fz' A i).l] (PI (pf A (fun _ => true) (i + 1)).l) := fun i => by
  have b1 := hA.dv nA (pf_Nf nA (fun _ => true) i) (pf_dv_a nA _ i)
  have b2 := hA.dv nA (fz_spec nA i).1 (fz_dv_a nA i)
  exact qMulI_ret _ _ _ _ _ _ b1 b2 (by show _ < 137438953472; omega)
 obtain ⟨m, hm⟩ : ∃ m, m = nl A := ⟨_, rfl⟩
 have hfl : fl A = (List.range m).map (fz' A) := by rw [hm]; rfl
 rw [← hm] at hle ⊢
 rw [hfl] at hF
 have hll : ((List.range m).map (fz' A)).length = m := by simp
 have hnth : ∀ i, i < m → (nth ((List.range m).map (fz' A)) i).l = (fz' A i).l := fun i hi => by rw [nth_map_range _ hi]
 generalize (List.range m).map (fz' A) = L at *
 have h1 := qOne_ret
 rw [show (1 : ZX) = pf A (fun _ => true) 0 from rfl] at h1
 generalize hg : pf A (fun _ => true) 0 = g0 at *
 refine W.skip ?_
 refine W.sreg (fun K hK => ?_)
 simp (disch := omega) [gA, wA]
 refine callR h1 ?_
 simp (disch := omega) [gA, wA]
 refine W.lv [0, 3] hK fun J j => ?_; clear hK K; simp; refine j _ ?_; clear j J
 refine W.sreg (fun K hK => ?_)
 simp (disch := omega) [gA, wA]
 refine callR hF ?_
 simp (disch := omega) [gA, wA]
 refine W.lv [3, 4] hK fun J j => ?_; clear hK K; simp; refine j _ ?_; clear j J
 refine W.seq ?_
 refine W.sreg (fun K hK => ?_); simp (disch := omega) [gA, wA, hll]; refine W.lv [3, 4, 14, 15] hK fun J j => ?_; clear hK K; simp; refine j _ ?_; clear j J
 subst hg
 refine W.block ?_
 refine W.loopG (fun k σ => ∃ (i : Nat) (rows : Pm.Rows) (clk : Nat), σ = ⟨fa [(3, PI (pf A (fun _ => true) i).l), (4, sls zq L), (14, .int .i64 m), (15, .int .i64 i)], rows, clk⟩ ∧ i + k = m) m ?_ ?_
 ·exact ⟨_, .refl, 0, _, _, rfl, by omega⟩
 rintro k _ ⟨i, rows, clk, rfl, hik⟩
 refine W.sreg (fun K hK => ?_); simp (disch := omega) [gA, wA]; refine W.lv [3, 4, 14, 15, 16] hK fun J j => ?_; clear hK K; simp; refine j _ ?_; clear j J
 refine W.seq ?_
 refine W.cond ⟨_, rfl, fun h => ?_, fun h => ?_⟩
 ·have hi : i < m := by simp at h; omega
  have hiL : i < L.length := by omega
  have ht := hmul i
  have hn1 := hnth i hi
  generalize hg2 : pf A (fun _ => true) (i + 1) = g2 at *
  generalize pf A (fun _ => true) i = g at *
  refine W.skip ?_
  refine W.seq ?_
  refine W.block ?_
  refine W.sreg (fun K hK => ?_); simp (disch := omega) [gA, wA]; refine W.lv [3, 4, 5, 14, 15] hK fun J j => ?_; clear hK K; simp; refine j _ ?_; clear j J
  refine W.reg (fun K hK => ?_)
  simp (disch := omega) [gA, wA, hn1]
  refine callR ht ?_
  simp (disch := omega) [gA, wA]
  refine W.lv [3, 4, 14, 15] hK fun J j => ?_; clear hK K; simp; refine j _ ?_; clear j J
  subst hg2
  refine W.reg (fun K hK => ?_); simp (disch := omega) [gA, wA]
  refine hK _ ⟨k - 1, _, Gh_fa _ [3, 4, 14, 15], by omega, i + 1, _, _, rfl, by omega⟩
 ·have hi : i = m := by simp at h; omega
  subst hi
  refine W.exit ?_; simp only [pX, if_true, if_false, reduceIte, Nat.reduceEqDiff]
  refine W.sreg (fun K hK => ?_); simp (disch := omega) [gA, wA]; refine W.lv [2] hK fun J j => ?_; clear hK K; simp; refine j _ ?_; clear j J
  refine W.ret ?_
  simp [go]
end Go.Proofs.YtdiladmkbpnhoaaGreat
