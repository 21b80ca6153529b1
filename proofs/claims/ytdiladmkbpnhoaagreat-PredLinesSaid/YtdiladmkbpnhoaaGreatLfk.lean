import Derived.Test.YtdiladmkbpnhoaaGreatLfc
import Derived.Test.YtdiladmkbpnhoaaGreatLae
set_option linter.unusedSimpArgs false
set_option linter.unusedVariables false
namespace Go.Proofs.YtdiladmkbpnhoaaGreat
open Go Pm
def rowO (v : CV) : List RP := [v.x.map rw', v.y.map rw', [rw' v.d]]
theorem cfs_rwC (x : List Int) : cfs (x.map rw') = cutR x := by simp only [cfs, map_gv_rw]
theorem nrm_rwC {x : List Int} (h : Cn x) : nrm (x.map rw') = x.map rw' := by
 unfold nrm cfs
 rw [map_gv_rw, show cutR x = x from h]
theorem Cn_sing {d : Int} (h : d ≠ 0) : Cn [d] := cutR_ne h []
theorem nc_pos (c : RC) : c.nc.d ≠ 0 := fun h => by
 have h1 := Int.ediv_mul_cancel (cg_dvd (cfs c.x) (cfs c.y) (iv c.s c.l) (List.mem_cons_self ..))
 rw [show dN (iv c.s c.l) / cg (cfs c.x) (cfs c.y) (iv c.s c.l) = c.nc.d from rfl, h, Int.zero_mul] at h1
 exact dN_ne _ h1.symm
theorem rowO_ret {c : RC} {s n : Nat} (h : c.OK s n) : Ret env.P 93 [.ag c.cells] (sls pe (rowO c.nc)) := by
 have n1 := pnorm_ret h
 obtain ⟨x1, y1, d1⟩ := h.bd_nc
 have hn := h.hn
 have hs := h.hs
 have hd := nc_pos c
 have r1 := Row_ret (rowO c.nc) (by simp [rowO]) (fun p hp => by
  simp only [rowO, List.mem_cons, List.not_mem_nil, or_false] at hp
  rcases hp with rfl | rfl | rfl
  ·exact (PB.of x1 (by omega) (by omega)).pok
  ·exact (PB.of y1 (by omega) (by omega)).pok
  ·exact POK.of_norm (l := [c.nc.d]) (fun x hx => by simp at hx; subst hx; exact Nat.lt_of_le_of_lt d1 (by omega)) (by simp))
 have e1 : (rowO c.nc).map nrm = rowO c.nc := by
  have e2 : nrm [rw' c.nc.d] = [rw' c.nc.d] := nrm_rwC (Cn_sing hd)
  simp only [rowO, List.map_cons, List.map_nil, nrm_rwC (show Cn c.nc.x from Cn.cut _), nrm_rwC (show Cn c.nc.y from Cn.cut _), e2]
 rw [e1] at r1
 have e3 : sls pe (rowO c.nc) = .sl [[Po c.nc.x], [Po c.nc.y], [.sl [[.bool (decide (c.nc.d < 0)), sls u32 (dig LL c.nc.d.natAbs)]]]] := by
  rw [Po_eq, Po_eq]; rfl
 rw [e3] at r1 ⊢
 clear e1 e3 x1 y1 d1
 generalize c.nc = v at *
 simp only [RC.cells_def, CV.cells_def] at n1 ⊢
 refine ret_of_Wf (E := env) (fun _ => 0) [(0, .ag [Pg c.x, Pg c.y, .bool c.s, sls u32 c.l])] Tryz.func93 rfl (by kernel_rfl) (by kernel_rfl) (show 1 ≤ 14 by decide) (by simp) ?_
 refine W.sreg (fun K hK => ?_); simp (disch := omega) [gA, wA]; refine W.lv [1] hK fun J j => ?_; clear hK K; simp; refine j _ ?_; clear j J
 refine W.sreg (fun K hK => ?_)
 simp (disch := omega) [gA, wA]
 refine callR n1 ?_
 simp (disch := omega) [gA, wA]
 refine W.lv [1] hK fun J j => ?_; clear hK K; simp; refine j _ ?_; clear j J
 refine W.sreg (fun K hK => ?_)
 simp (disch := omega) [gA, wA]
 refine callR r1 ?_
 simp (disch := omega) [gA, wA]
 refine W.lv [2] hK fun J j => ?_; clear hK K; simp; refine j _ ?_; clear j J
 refine W.ret ?_
 simp [go]
theorem rowO_mok {s n : Nat} (hn1 : 1 ≤ n) {l : List RC} (h : ∀ c ∈ l, c.OK s n) (hl : l.length = 3) : MOK s n (l.map fun c => rowO c.nc) := ⟨fun r hr => by
 simp only [List.mem_map] at hr
 obtain ⟨c, hc, rfl⟩ := hr
 simp [rowO, hl], fun r hr p hp => by
 simp only [List.mem_map] at hr
 obtain ⟨c, hc, rfl⟩ := hr
 have h1 := h c hc
 have hn := h1.hn
 have hs := h1.hs
 obtain ⟨x1, y1, d1⟩ := h1.bd_nc
 simp only [rowO, List.mem_cons, List.not_mem_nil, or_false] at hp
 rcases hp with rfl | rfl | rfl
 ·exact ⟨(PB.of x1 (by omega) (by omega)).pok, by rw [map_gv_rw]; exact x1⟩
 ·exact ⟨(PB.of y1 (by omega) (by omega)).pok, by rw [map_gv_rw]; exact y1⟩
 ·refine ⟨POK.of_norm (l := [c.nc.d]) (fun x hx => by simp at hx; subst hx; exact Nat.lt_of_le_of_lt d1 (by omega)) (by simp), ?_⟩
  rw [show [rw' c.nc.d] = [c.nc.d].map rw' from rfl, map_gv_rw]
  exact ⟨hn1, fun x hx => by simp at hx; subst hx; exact d1⟩⟩
def rowI (v : CV) : List (List Int) := [v.x, v.y, [v.d]]
theorem pOrient_ret {a b c : RC} {s n : Nat} (ha : a.OK s n) (hb : b.OK s n) (hc : c.OK s n) (hs : s < 1073741824) (hn : n < 1073741824) (hn1 : 1 ≤ n) : Ret env.P 26 [.ag a.cells, .ag b.cells, .ag c.cells] (Po (dcol 3 [rowI a.nc, rowI b.nc, rowI c.nc])) := by
 have r1 := rowO_ret ha
 have r2 := rowO_ret hb
 have r3 := rowO_ret hc
 have d := (rowO_mok hn1 (l := [a, b, c]) (fun q hq => by
  simp only [List.mem_cons, List.not_mem_nil, or_false] at hq
  rcases hq with rfl | rfl | rfl
  ·exact ha
  ·exact hb
  ·exact hc) rfl).det rfl (by simp) hs hn
 have e : ∀ q : RC, (rowO q.nc).map cfs = rowI q.nc := fun q => by
  have e2 : cfs [rw' q.nc.d] = [q.nc.d] := by
   rw [show [rw' q.nc.d] = [q.nc.d].map rw' from rfl, cfs_rwC]; exact Cn_sing (nc_pos q)
  simp only [rowO, rowI, List.map_cons, List.map_nil, cfs_rwC, show cutR q.nc.x = q.nc.x from Cn.cut _, show cutR q.nc.y = q.nc.y from Cn.cut _, e2]
 rw [show mv ([a, b, c].map fun c => rowO c.nc) = [rowI a.nc, rowI b.nc, rowI c.nc] by simp only [mv, List.map_cons, List.map_nil, e]] at d
 replace d : Ret env.P 87 [.sl [[sls pe (rowO a.nc)], [sls pe (rowO b.nc)], [sls pe (rowO c.nc)]]] (.tup [Po (dcol [a, b, c].length [rowI a.nc, rowI b.nc, rowI c.nc]), .int .i64 0]) := d
 rw [show [a, b, c].length = 3 from rfl] at d
 generalize dcol 3 [rowI a.nc, rowI b.nc, rowI c.nc] = r at *
 generalize rowO a.nc = ra at *
 generalize rowO b.nc = rb at *
 generalize rowO c.nc = rc at *
 simp only [RC.cells_def] at *
 refine ret_of_Wf (E := env) (fun _ => 0) [(0, .ag [Pg a.x, Pg a.y, .bool a.s, sls u32 a.l]), (1, .ag [Pg b.x, Pg b.y, .bool b.s, sls u32 b.l]), (2, .ag [Pg c.x, Pg c.y, .bool c.s, sls u32 c.l])] Tryz.func26 rfl (by kernel_rfl) (by kernel_rfl) (show 3 ≤ 25 by decide) (by simp) ?_
 refine W.sreg (fun K hK => ?_); simp (disch := omega) [gA, wA]; refine W.lv [3, 4, 5] hK fun J j => ?_; clear hK K; simp; refine j _ ?_; clear j J
 refine W.sreg (fun K hK => ?_); simp (disch := omega) [gA, wA]; refine W.lv [3, 4, 5, 7] hK fun J j => ?_; clear hK K; simp; refine j _ ?_; clear j J
 refine W.sdrw (fun K hK => ?_)
 simp (disch := omega) [gA, wA]
 refine callR r1 ?_
 simp (disch := omega) [gA, wA]
 refine callR r2 ?_
 simp (disch := omega) [gA, wA]
 refine callR r3 ?_
 simp (disch := omega) [gA, wA]
 refine callR d ?_
 simp (disch := omega) [gA, wA]
 refine W.lv [8] hK fun J j => ?_; clear hK K; simp; refine j _ ?_; clear j J
 refine W.sreg (fun K hK => ?_); simp (disch := omega) [gA, wA]; refine W.lv [6] hK fun J j => ?_; clear hK K; simp; refine j _ ?_; clear j J
 refine W.ret ?_
 simp [go]
end Go.Proofs.YtdiladmkbpnhoaaGreat
