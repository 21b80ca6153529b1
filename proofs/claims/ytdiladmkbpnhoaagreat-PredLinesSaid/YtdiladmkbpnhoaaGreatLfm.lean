import Derived.Test.YtdiladmkbpnhoaaGreatLfk
set_option linter.unusedSimpArgs false
set_option linter.unusedVariables false
namespace Go.Proofs.YtdiladmkbpnhoaaGreat
open Go Pm
def rowC (v : CV) : List (List Int) := [pscale v.x v.d, pscale v.y v.d, padd (pmul v.x v.x) (pmul v.y v.y), [v.d * v.d]]
def rowR (v : CV) : List RP := (rowC v).map fun x => x.map rw'
theorem rowC_bd {c : RC} {s n : Nat} (h : c.OK s n) (hn1 : 1 ≤ n) : ∀ x ∈ rowC c.nc, Bd LL (2 * s + n + 1) (2 * n) x ∧ Cn x := fun x hx => by
 obtain ⟨x1, y1, d1⟩ := h.bd_nc
 have hd := nc_pos c
 simp only [rowC, List.mem_cons, List.not_mem_nil, or_false] at hx
 rcases hx with rfl | rfl | rfl | rfl
 ·exact ⟨(Bd.pscale hLL x1 d1).mono (by omega) (by omega), Cn.pscale _ _⟩
 ·exact ⟨(Bd.pscale hLL y1 d1).mono (by omega) (by omega), Cn.pscale _ _⟩
 ·have p1 : Bd LL (2 * s + n) (2 * n) (pmul c.nc.x c.nc.x) := (Bd.pmul hLL x1 x1).mono (by omega) (by omega)
  have p2 : Bd LL (2 * s + n) (2 * n) (pmul c.nc.y c.nc.y) := (Bd.pmul hLL y1 y1).mono (by omega) (by omega)
  exact ⟨Bd.padd hLL p1 p2, Cn.padd _ _⟩
 ·refine ⟨⟨by simp; omega, fun v hv => ?_⟩, Cn_sing (Int.mul_ne_zero hd hd)⟩
  simp only [List.mem_cons, List.not_mem_nil, or_false] at hv
  subst hv
  exact Nat.le_trans (sz_mul (b := LL) hLL d1 d1) (show s + s ≤ 2 * s + n + 1 by omega)
theorem rowR_ret {c : RC} {s n : Nat} (h : c.OK s n) (hn1 : 1 ≤ n) (hs : s ≤ 1000000) (hn : n ≤ 1000000) : Ret env.P 81 [.ag c.cells] (sls pe (rowR c.nc)) := by
 have n1 := pnorm_ret h
 obtain ⟨x1, y1, d1⟩ := h.bd_nc
 have bC := rowC_bd h hn1
 have hP : ∀ x ∈ rowC c.nc, POK (x.map rw') := fun x hx => (PB.of (bC x hx).1 (by omega) (by omega)).pok
 have r1 := Row_ret (rowR c.nc) (by simp [rowR, rowC]) (fun p hp => by
  simp only [rowR, List.mem_map] at hp
  obtain ⟨x, hx, rfl⟩ := hp
  exact hP x hx)
 have e1 : (rowR c.nc).map nrm = rowR c.nc := by
  conv => rhs; rw [← List.map_id (rowR c.nc)]
  refine List.map_congr_left fun p hp => ?_
  simp only [rowR, List.mem_map] at hp
  obtain ⟨x, hx, rfl⟩ := hp
  exact nrm_rwC (bC x hx).2
 rw [e1] at r1
 have hd : Sz c.nc.d := Nat.lt_of_le_of_lt d1 (by omega)
 have s1 := pScaleI_ret (x := c.nc.x) (c := c.nc.d) (PB.of x1 (by omega) (by omega)) hd
 have s2 := pScaleI_ret (x := c.nc.y) (c := c.nc.d) (PB.of y1 (by omega) (by omega)) hd
 have m1 := pMulI_ret x1 x1 (by omega)
 have m2 := pMulI_ret y1 y1 (by omega)
 have a1 := pAddI_ret (PB.of (Bd.pmul hLL x1 x1) (by omega) (by omega)) (PB.of (Bd.pmul hLL y1 y1) (by omega) (by omega))
 have w1 := wMulI hd hd
 have e3 : sls pe (rowR c.nc) = .sl [[Po (pscale c.nc.x c.nc.d)], [Po (pscale c.nc.y c.nc.d)], [Po (padd (pmul c.nc.x c.nc.x) (pmul c.nc.y c.nc.y))], [.sl [[.bool (decide (c.nc.d * c.nc.d < 0)), sls u32 (dig LL (c.nc.d * c.nc.d).natAbs)]]]] := by
  rw [Po_eq, Po_eq, Po_eq]; rfl
 rw [e3] at r1 ⊢
 clear e1 e3 x1 y1 d1 bC hP hd
 generalize c.nc = v at *
 generalize pscale v.x v.d = k1 at *
 generalize pscale v.y v.d = k2 at *
 generalize padd (pmul v.x v.x) (pmul v.y v.y) = k3 at *
 generalize pmul v.x v.x = k4 at *
 generalize pmul v.y v.y = k5 at *
 generalize v.d * v.d = k6 at *
 simp only [RC.cells_def, CV.cells_def] at n1 ⊢
 refine ret_of_Wf (E := env) (fun _ => 0) [(0, .ag [Pg c.x, Pg c.y, .bool c.s, sls u32 c.l])] Tryz.func81 rfl (by kernel_rfl) (by kernel_rfl) (show 1 ≤ 34 by decide) (by simp) ?_
 refine W.sreg (fun K hK => ?_); simp (disch := omega) [gA, wA]; refine W.lv [1] hK fun J j => ?_; clear hK K; simp; refine j _ ?_; clear j J
 refine W.sreg (fun K hK => ?_)
 simp (disch := omega) [gA, wA]
 refine callR n1 ?_
 simp (disch := omega) [gA, wA]
 refine W.lv [1] hK fun J j => ?_; clear hK K; simp; refine j _ ?_; clear j J
 refine W.sdrw (fun K hK => ?_)
 simp (disch := omega) [gA, wA]
 refine callR s1 ?_
 simp (disch := omega) [gA, wA]
 refine callR s2 ?_
 simp (disch := omega) [gA, wA]
 refine callR m1 ?_
 simp (disch := omega) [gA, wA]
 refine callR m2 ?_
 simp (disch := omega) [gA, wA]
 refine callR a1 ?_
 simp (disch := omega) [gA, wA]
 refine callR w1 ?_
 simp (disch := omega) [gA, wA]
 refine callR r1 ?_
 simp (disch := omega) [gA, wA]
 refine W.lv [2] hK fun J j => ?_; clear hK K; simp; refine j _ ?_; clear j J
 refine W.ret ?_
 simp [go]
theorem rowR_mok {s n : Nat} (hn1 : 1 ≤ n) (hs : s ≤ 1000000) (hn : n ≤ 1000000) {l : List RC} (h : ∀ c ∈ l, c.OK s n) (hl : l.length = 4) : MOK (2 * s + n + 1) (2 * n) (l.map fun c => rowR c.nc) := ⟨fun r hr => by
 simp only [List.mem_map] at hr
 obtain ⟨c, hc, rfl⟩ := hr
 simp [rowR, rowC, hl], fun r hr p hp => by
 simp only [List.mem_map] at hr
 obtain ⟨c, hc, rfl⟩ := hr
 simp only [rowR, List.mem_map] at hp
 obtain ⟨x, hx, rfl⟩ := hp
 have := (rowC_bd (h c hc) hn1 x hx).1
 exact ⟨(PB.of this (by omega) (by omega)).pok, by rw [map_gv_rw]; exact this⟩⟩
theorem rowR_cfs {c : RC} {s n : Nat} (h : c.OK s n) (hn1 : 1 ≤ n) : (rowR c.nc).map cfs = rowC c.nc := by
 rw [rowR, List.map_map]
 conv => rhs; rw [← List.map_id (rowC c.nc)]
 refine List.map_congr_left fun x hx => ?_
 simp only [Function.comp_apply, cfs_rwC, id]
 exact (rowC_bd h hn1 x hx).2
theorem pInCircle_ret {a b c e : RC} {s n : Nat} (ha : a.OK s n) (hb : b.OK s n) (hc : c.OK s n) (he : e.OK s n) (hs : s ≤ 1000000) (hn : n ≤ 1000000) (hn1 : 1 ≤ n) : Ret env.P 20 [.ag a.cells, .ag b.cells, .ag c.cells, .ag e.cells] (Po (dcol 4 [rowC a.nc, rowC b.nc, rowC c.nc, rowC e.nc])) := by
 have r1 := rowR_ret ha hn1 hs hn
 have r2 := rowR_ret hb hn1 hs hn
 have r3 := rowR_ret hc hn1 hs hn
 have r4 := rowR_ret he hn1 hs hn
 have d := (rowR_mok hn1 hs hn (l := [a, b, c, e]) (fun q hq => by
  simp only [List.mem_cons, List.not_mem_nil, or_false] at hq
  rcases hq with rfl | rfl | rfl | rfl
  ·exact ha
  ·exact hb
  ·exact hc
  ·exact he) rfl).det rfl (by simp) (by omega) (by omega)
 rw [show mv ([a, b, c, e].map fun c => rowR c.nc) = [rowC a.nc, rowC b.nc, rowC c.nc, rowC e.nc] by simp only [mv, List.map_cons, List.map_nil, rowR_cfs ha hn1, rowR_cfs hb hn1, rowR_cfs hc hn1, rowR_cfs he hn1]] at d
 replace d : Ret env.P 87 [.sl [[sls pe (rowR a.nc)], [sls pe (rowR b.nc)], [sls pe (rowR c.nc)], [sls pe (rowR e.nc)]]] (.tup [Po (dcol [a, b, c, e].length [rowC a.nc, rowC b.nc, rowC c.nc, rowC e.nc]), .int .i64 0]) := d
 rw [show [a, b, c, e].length = 4 from rfl] at d
 generalize dcol 4 [rowC a.nc, rowC b.nc, rowC c.nc, rowC e.nc] = r at *
 generalize rowR a.nc = ra at *
 generalize rowR b.nc = rb at *
 generalize rowR c.nc = rc at *
 generalize rowR e.nc = re' at *
 simp only [RC.cells_def] at *
 refine ret_of_Wf (E := env) (fun _ => 0) [(0, .ag [Pg a.x, Pg a.y, .bool a.s, sls u32 a.l]), (1, .ag [Pg b.x, Pg b.y, .bool b.s, sls u32 b.l]), (2, .ag [Pg c.x, Pg c.y, .bool c.s, sls u32 c.l]), (3, .ag [Pg e.x, Pg e.y, .bool e.s, sls u32 e.l])] Tryz.func20 rfl (by kernel_rfl) (by kernel_rfl) (show 4 ≤ 30 by decide) (by simp) ?_
 refine W.sreg (fun K hK => ?_); simp (disch := omega) [gA, wA]; refine W.lv [4, 5, 6, 7] hK fun J j => ?_; clear hK K; simp; refine j _ ?_; clear j J
 refine W.sreg (fun K hK => ?_); simp (disch := omega) [gA, wA]; refine W.lv [4, 5, 6, 7, 9] hK fun J j => ?_; clear hK K; simp; refine j _ ?_; clear j J
 refine W.sdrw (fun K hK => ?_)
 simp (disch := omega) [gA, wA]
 refine callR r1 ?_
 simp (disch := omega) [gA, wA]
 refine callR r2 ?_
 simp (disch := omega) [gA, wA]
 refine callR r3 ?_
 simp (disch := omega) [gA, wA]
 refine callR r4 ?_
 simp (disch := omega) [gA, wA]
 refine callR d ?_
 simp (disch := omega) [gA, wA]
 refine W.lv [10] hK fun J j => ?_; clear hK K; simp; refine j _ ?_; clear j J
 refine W.sreg (fun K hK => ?_); simp (disch := omega) [gA, wA]; refine W.lv [8] hK fun J j => ?_; clear hK K; simp; refine j _ ?_; clear j J
 refine W.ret ?_
 simp [go]
end Go.Proofs.YtdiladmkbpnhoaaGreat
