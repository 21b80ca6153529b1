import Derived.Test.YtdiladmkbpnhoaaGreatLfb
set_option linter.unusedSimpArgs false
set_option linter.unusedVariables false
namespace Go.Proofs.YtdiladmkbpnhoaaGreat
open Go Pm
theorem sz_exq (c v : Int) : sz LL (exq c v) ≤ sz LL v := sz_mono hLL (by
 unfold exq; split
 ·exact Int.natAbs_ediv_le_natAbs _ _
 ·simp)
theorem bd_exq {s n : Nat} {x : List Int} (c : Int) (h : Bd LL s n x) : Bd LL s n (cutR (x.map (exq c))) := Bd.cut ⟨by simpa using h.len, fun v hv => by
 simp only [List.mem_map] at hv
 obtain ⟨w, hw, rfl⟩ := hv
 exact Nat.le_trans (sz_exq c w) (h.sz w hw)⟩
theorem RC.OK.bd_nc {c : RC} {s n : Nat} (h : c.OK s n) : Bd LL s n c.nc.x ∧ Bd LL s n c.nc.y ∧ sz LL c.nc.d ≤ s := by
 refine ⟨bd_exq _ h.bx.cut, bd_exq _ h.by_.cut, ?_⟩
 show sz LL (_ / _) ≤ s
 refine Nat.le_trans (sz_mono hLL (Int.natAbs_ediv_le_natAbs _ _)) ?_
 unfold dN; split
 ·exact Nat.le_trans sz_one h.h1
 ·exact h.bd
theorem pRight_ret {a b : RC} {s n : Nat} (ha : a.OK s n) (hb : b.OK s n) (hs : s < 500000000000) : Ret env.P 33 [.ag a.cells, .ag b.cells] (Po (psub (pscale b.nc.x a.nc.d) (pscale a.nc.x b.nc.d))) := by
 have n1 := pnorm_ret ha
 have n2 := pnorm_ret hb
 obtain ⟨x1, y1, d1⟩ := ha.bd_nc
 obtain ⟨x2, y2, d2⟩ := hb.bd_nc
 have hn := ha.hn
 have s1 := pScaleI_ret (x := b.nc.x) (c := a.nc.d) (PB.of x2 (by omega) (by omega)) (Nat.lt_of_le_of_lt d1 (by omega))
 have s2 := pScaleI_ret (x := a.nc.x) (c := b.nc.d) (PB.of x1 (by omega) (by omega)) (Nat.lt_of_le_of_lt d2 (by omega))
 have s3 := pSubI_ret (PB.of (Bd.pscale hLL x2 d1) (by omega) (by omega)) (PB.of (Bd.pscale hLL x1 d2) (by omega) (by omega))
 generalize psub (pscale b.nc.x a.nc.d) (pscale a.nc.x b.nc.d) = r at *
 generalize pscale b.nc.x a.nc.d = k1 at *
 generalize pscale a.nc.x b.nc.d = k2 at *
 clear ha hb x1 y1 d1 x2 y2 d2 hn hs
 generalize a.nc = na at *
 generalize b.nc = nb at *
 simp only [RC.cells_def, CV.cells_def] at *
 refine ret_of_Wf (E := env) (fun _ => 0) [(0, .ag [Pg a.x, Pg a.y, .bool a.s, sls u32 a.l]), (1, .ag [Pg b.x, Pg b.y, .bool b.s, sls u32 b.l])] Tryz.func33 rfl (by kernel_rfl) (by kernel_rfl) (show 2 ≤ 20 by decide) (by simp) ?_
 refine W.sreg (fun K hK => ?_); simp (disch := omega) [gA, wA]; refine W.lv [2, 3] hK fun J j => ?_; clear hK K; simp; refine j _ ?_; clear j J
 refine W.sdrw (fun K hK => ?_)
 simp (disch := omega) [gA, wA]
 refine callR n1 ?_
 simp (disch := omega) [gA, wA]
 refine callR n2 ?_
 simp (disch := omega) [gA, wA]
 refine stepTxt (by kernel_rfl) ?_
 simp (disch := omega) [gA, wA]
 rw [if_pos (by kernel_rfl)]
 simp (disch := omega) [gA, wA]
 refine stepTxt (by kernel_rfl) ?_
 simp (disch := omega) [gA, wA]
 refine W.lv [2, 3] hK fun J j => ?_; clear hK K; simp; refine j _ ?_; clear j J
 refine W.sdrw (fun K hK => ?_)
 simp (disch := omega) [gA, wA]
 refine callR s1 ?_
 simp (disch := omega) [gA, wA]
 refine callR s2 ?_
 simp (disch := omega) [gA, wA]
 refine callR s3 ?_
 simp (disch := omega) [gA, wA]
 refine W.lv [4] hK fun J j => ?_; clear hK K; simp; refine j _ ?_; clear j J
 refine W.ret ?_
 simp [go]
theorem pAbove_ret {a b : RC} {s n : Nat} (ha : a.OK s n) (hb : b.OK s n) (hs : s < 500000000000) : Ret env.P 34 [.ag a.cells, .ag b.cells] (Po (psub (pscale b.nc.y a.nc.d) (pscale a.nc.y b.nc.d))) := by
 have n1 := pnorm_ret ha
 have n2 := pnorm_ret hb
 obtain ⟨x1, y1, d1⟩ := ha.bd_nc
 obtain ⟨x2, y2, d2⟩ := hb.bd_nc
 have hn := ha.hn
 have s1 := pScaleI_ret (x := b.nc.y) (c := a.nc.d) (PB.of y2 (by omega) (by omega)) (Nat.lt_of_le_of_lt d1 (by omega))
 have s2 := pScaleI_ret (x := a.nc.y) (c := b.nc.d) (PB.of y1 (by omega) (by omega)) (Nat.lt_of_le_of_lt d2 (by omega))
 have s3 := pSubI_ret (PB.of (Bd.pscale hLL y2 d1) (by omega) (by omega)) (PB.of (Bd.pscale hLL y1 d2) (by omega) (by omega))
 generalize psub (pscale b.nc.y a.nc.d) (pscale a.nc.y b.nc.d) = r at *
 generalize pscale b.nc.y a.nc.d = k1 at *
 generalize pscale a.nc.y b.nc.d = k2 at *
 clear ha hb y1 x1 d1 y2 x2 d2 hn hs
 generalize a.nc = na at *
 generalize b.nc = nb at *
 simp only [RC.cells_def, CV.cells_def] at *
 refine ret_of_Wf (E := env) (fun _ => 0) [(0, .ag [Pg a.x, Pg a.y, .bool a.s, sls u32 a.l]), (1, .ag [Pg b.x, Pg b.y, .bool b.s, sls u32 b.l])] Tryz.func34 rfl (by kernel_rfl) (by kernel_rfl) (show 2 ≤ 20 by decide) (by simp) ?_
 refine W.sreg (fun K hK => ?_); simp (disch := omega) [gA, wA]; refine W.lv [2, 3] hK fun J j => ?_; clear hK K; simp; refine j _ ?_; clear j J
 refine W.sdrw (fun K hK => ?_)
 simp (disch := omega) [gA, wA]
 refine callR n1 ?_
 simp (disch := omega) [gA, wA]
 refine callR n2 ?_
 simp (disch := omega) [gA, wA]
 refine stepTxt (by kernel_rfl) ?_
 simp (disch := omega) [gA, wA]
 rw [if_pos (by kernel_rfl)]
 simp (disch := omega) [gA, wA]
 refine stepTxt (by kernel_rfl) ?_
 simp (disch := omega) [gA, wA]
 refine W.lv [2, 3] hK fun J j => ?_; clear hK K; simp; refine j _ ?_; clear j J
 refine W.sdrw (fun K hK => ?_)
 simp (disch := omega) [gA, wA]
 refine callR s1 ?_
 simp (disch := omega) [gA, wA]
 refine callR s2 ?_
 simp (disch := omega) [gA, wA]
 refine callR s3 ?_
 simp (disch := omega) [gA, wA]
 refine W.lv [4] hK fun J j => ?_; clear hK K; simp; refine j _ ?_; clear j J
 refine W.ret ?_
 simp [go]
theorem cSame_ret {a b : RC} {s n : Nat} (ha : a.OK s n) (hb : b.OK s n) : Ret env.P 107 [.ag a.cells, .ag b.cells] (.bool (decide (a.nc.x = b.nc.x ∧ a.nc.y = b.nc.y ∧ a.nc.d = b.nc.d))) := by
 have n1 := ha.norm
 have n2 := hb.norm
 obtain ⟨x1, y1, d1⟩ := ha.bd_nc
 obtain ⟨x2, y2, d2⟩ := hb.bd_nc
 have hn := ha.hn
 have hs := ha.hs
 have s1 := pSameI_ret (PB.of x1 (by omega) (by omega)) (PB.of x2 (by omega) (by omega))
 have s2 := pSameI_ret (PB.of y1 (by omega) (by omega)) (PB.of y2 (by omega) (by omega))
 have s3 := wCmpI (x := a.nc.d) (y := b.nc.d) (Nat.lt_of_le_of_lt d1 (by omega)) (Nat.lt_of_le_of_lt d2 (by omega))
 have e1 : cutR a.nc.x = a.nc.x := Cn.cut _
 have e2 : cutR b.nc.x = b.nc.x := Cn.cut _
 have e3 : cutR a.nc.y = a.nc.y := Cn.cut _
 have e4 : cutR b.nc.y = b.nc.y := Cn.cut _
 rw [e1, e2] at s1
 rw [e3, e4] at s2
 clear ha hb x1 y1 d1 x2 y2 d2 hn hs e1 e2 e3 e4
 have e5 : (cmp3 a.nc.d b.nc.d == 0) = decide (a.nc.d = b.nc.d) := by
  unfold cmp3
  by_cases h : a.nc.d = b.nc.d
  ·simp [h]
  ·by_cases h2 : a.nc.d < b.nc.d
   ·simp [h, h2]
   ·simp [h, h2]; omega
 generalize a.nc = na at *
 generalize b.nc = nb at *
 simp only [RC.cells_def, CV.cells_def] at *
 generalize cmp3 na.d nb.d = c3 at *
 refine ret_of_Wf (E := env) (fun _ => 0) [(0, .ag [Pg a.x, Pg a.y, .bool a.s, sls u32 a.l]), (1, .ag [Pg b.x, Pg b.y, .bool b.s, sls u32 b.l])] Tryz.func107 rfl (by kernel_rfl) (by kernel_rfl) (show 2 ≤ 29 by decide) (by simp) ?_
 refine W.sreg (fun K hK => ?_); simp (disch := omega) [gA, wA]; refine W.lv [2, 3] hK fun J j => ?_; clear hK K; simp; refine j _ ?_; clear j J
 refine W.sdrw (fun K hK => ?_)
 simp (disch := omega) [gA, wA]
 refine callR n1 ?_
 simp (disch := omega) [gA, wA]
 refine callR n2 ?_
 simp (disch := omega) [gA, wA]
 refine stepTxt (by kernel_rfl) ?_
 simp (disch := omega) [gA, wA]
 rw [if_pos (by kernel_rfl)]
 simp (disch := omega) [gA, wA]
 refine stepTxt (by kernel_rfl) ?_
 simp (disch := omega) [gA, wA]
 refine W.lv [2, 3] hK fun J j => ?_; clear hK K; simp; refine j _ ?_; clear j J
 by_cases hx : na.x = nb.x
 ·rw [decide_eq_true hx] at s1
  by_cases hy : na.y = nb.y
  ·rw [decide_eq_true hy] at s2
   refine W.sreg (fun K hK => ?_)
   simp (disch := omega) [gA, wA]
   refine callR s1 ?_
   simp (disch := omega) [gA, wA]
   refine callR s2 ?_
   simp (disch := omega) [gA, wA]
   refine callR s3 ?_
   simp (disch := omega) [gA, wA, e5]
   refine W.lv [4] hK fun J j => ?_; clear hK K; simp; refine j _ ?_; clear j J
   refine W.ret ?_
   simp [go]
   simp [hx, hy]
  ·rw [decide_eq_false hy] at s2
   refine W.sreg (fun K hK => ?_)
   simp (disch := omega) [gA, wA]
   refine callR s1 ?_
   simp (disch := omega) [gA, wA]
   refine callR s2 ?_
   simp (disch := omega) [gA, wA]
   refine W.lv [4] hK fun J j => ?_; clear hK K; simp; refine j _ ?_; clear j J
   refine W.ret ?_
   simp [go]
   exact fun _ h => absurd h hy
 ·rw [decide_eq_false hx] at s1
  refine W.sreg (fun K hK => ?_)
  simp (disch := omega) [gA, wA]
  refine callR s1 ?_
  simp (disch := omega) [gA, wA]
  refine W.lv [4] hK fun J j => ?_; clear hK K; simp; refine j _ ?_; clear j J
  refine W.ret ?_
  simp [go]
  exact fun h => absurd h hx
theorem pEqual_ret {a b : RC} {s n : Nat} (ha : a.OK s n) (hb : b.OK s n) : Ret env.P 42 [.ag a.cells, .ag b.cells] (.bool (decide (a.nc.x = b.nc.x ∧ a.nc.y = b.nc.y ∧ a.nc.d = b.nc.d))) := by
 have h1 := cSame_ret ha hb
 generalize decide (a.nc.x = b.nc.x ∧ a.nc.y = b.nc.y ∧ a.nc.d = b.nc.d) = r at *
 simp only [RC.cells_def] at *
 refine ret_of_Wf (E := env) (fun _ => 0) [(0, .ag [Pg a.x, Pg a.y, .bool a.s, sls u32 a.l]), (1, .ag [Pg b.x, Pg b.y, .bool b.s, sls u32 b.l])] Tryz.func42 rfl (by kernel_rfl) (by kernel_rfl) (show 2 ≤ 8 by decide) (by simp) ?_
 refine W.sreg (fun K hK => ?_); simp (disch := omega) [gA, wA]; refine W.lv [2, 3] hK fun J j => ?_; clear hK K; simp; refine j _ ?_; clear j J
 refine W.sreg (fun K hK => ?_)
 simp (disch := omega) [gA, wA]
 refine callR h1 ?_
 simp (disch := omega) [gA, wA]
 refine W.lv [4] hK fun J j => ?_; clear hK K; simp; refine j _ ?_; clear j J
 refine W.ret ?_
 simp [go]
end Go.Proofs.YtdiladmkbpnhoaaGreat
