import Derived.Test.YtdiladmkbpnhoaaGreatLfa
set_option linter.unusedSimpArgs false
set_option linter.unusedVariables false
namespace Go.Proofs.YtdiladmkbpnhoaaGreat
open Go Pm
structure RC.OK (c : RC) (s n : Nat) : Prop where
 hx : POK c.x
 hy : POK c.y
 hl : LOK c.l
 bx : Bd LL s n (c.x.map gv)
 by_ : Bd LL s n (c.y.map gv)
 bd : sz LL (iv c.s c.l) ≤ s
 h1 : 1 ≤ s
 hs : s < 1099511627774
 hn : n < 500000000000
def RC.nc (c : RC) : CV := nC (cfs c.x) (cfs c.y) (iv c.s c.l)
theorem RC.OK.norm {c : RC} {s n : Nat} (h : c.OK s n) : Ret env.P 98 [.ag c.cells] (.ag c.nc.cells) := cnorm_ret c h.hx h.hy h.hl h.bx h.by_ h.bd h.h1 h.hs h.hn
theorem cMake_ret {c : RC} {s n : Nat} (h : c.OK s n) (h0 : iv c.s c.l ≠ 0) : Ret env.P 29 [Pg c.x, Pg c.y, IV c.s c.l] (.tup [.ag c.nc.cells, .int .i64 0]) := by
 have p1 := wNorm_ret c.s c.l h.hl
 have z0 := ZeroI_ret (iv c.s c.l)
 rw [decide_eq_false h0] at z0
 have hn := h.norm
 generalize iv c.s c.l = d at *
 generalize c.nc = r at *
 obtain ⟨x, y, sg, l⟩ := c
 simp only [RC.cells_def, CV.cells_def] at *
 refine ret_of_Wf (E := env) (fun _ => 0) [(0, Pg x), (1, Pg y), (2, IV sg l)] Tryz.func29 rfl (by kernel_rfl) (by kernel_rfl) (show 3 ≤ 17 by decide) (by simp) ?_
 refine W.sreg (fun K hK => ?_); simp (disch := omega) [gA, wA]; refine W.lv [0, 1, 5, 6, 7] hK fun J j => ?_; clear hK K; simp; refine j _ ?_; clear j J
 refine W.seq ?_
 refine W.sreg (fun K hK => ?_)
 simp (disch := omega) [gA, wA]
 refine callR p1 ?_
 simp (disch := omega) [gA, wA]
 refine callR z0 ?_
 simp (disch := omega) [gA, wA]
 refine W.lv [0, 1, 5, 6, 10] hK fun J j => ?_; clear hK K; simp; refine j _ ?_; clear j J
 refine W.cond ⟨_, rfl, fun h => ?_, fun h => ?_⟩
 ·cases h
 refine W.skip ?_
 refine W.sreg (fun K hK => ?_)
 simp (disch := omega) [gA, wA]
 refine callR hn ?_
 simp (disch := omega) [gA, wA]
 refine W.lv [6, 7] hK fun J j => ?_; clear hK K; simp; refine j _ ?_; clear j J
 refine W.ret ?_
 simp [go]
theorem RC.OK.dNc {c : RC} {s n : Nat} (h : c.OK s n) {sg : Bool} {l : List Int} (hl : LOK l) (e : iv sg l = dN (iv c.s c.l)) : (RC.mk c.x c.y sg l).OK s n ∧ (RC.mk c.x c.y sg l).nc = c.nc := by
 refine ⟨⟨h.hx, h.hy, hl, h.bx, h.by_, ?_, h.h1, h.hs, h.hn⟩, ?_⟩
 ·show sz LL (iv sg l) ≤ s
  rw [e]
  unfold dN; split
  ·exact Nat.le_trans sz_one h.h1
  ·exact h.bd
 ·show nC (cfs c.x) (cfs c.y) (iv sg l) = nC (cfs c.x) (cfs c.y) (iv c.s c.l)
  rw [e]
  generalize iv c.s c.l = d
  have hd : dN (dN d) = dN d := by
   show (if _ = 0 then _ else _) = _
   rw [if_neg (dN_ne d)]
  unfold nC cg
  rw [hd]
theorem pnorm_ret {c : RC} {s n : Nat} (h : c.OK s n) : Ret env.P 82 [.ag c.cells] (.ag c.nc.cells) := by
 have p1 := wNorm_ret c.s c.l h.hl
 have z0 := ZeroI_ret (iv c.s c.l)
 have o1 := Of_ret 1 (by decide) (by decide)
 have hM : ∀ (sg : Bool) (l : List Int), LOK l → iv sg l = dN (iv c.s c.l) → Ret env.P 29 [Pg c.x, Pg c.y, IV sg l] (.tup [.ag c.nc.cells, .int .i64 0]) := fun sg l hl e => by
  obtain ⟨h1, h2⟩ := h.dNc hl e
  have := cMake_ret h1 (by show iv sg l ≠ 0; rw [e]; exact dN_ne _)
  rw [h2] at this
  exact this
 have hl := h.hl
 have i1 : iv false (dig LL 1) = 1 := iv_I 1
 have L1 : LOK (dig LL 1) := Sz.lok (x := 1) (Nat.lt_of_le_of_lt sz_one (by decide))
 have hdN : dN (iv c.s c.l) = if iv c.s c.l = 0 then 1 else iv c.s c.l := rfl
 generalize dN (iv c.s c.l) = D at *
 generalize hd : iv c.s c.l = d at *
 generalize c.nc = r at *
 obtain ⟨x, y, sg, l⟩ := c
 simp only [RC.cells_def, CV.cells_def] at *
 refine ret_of_Wf (E := env) (fun _ => 0) [(0, .ag [Pg x, Pg y, .bool sg, sls u32 l])] Tryz.func82 rfl (by kernel_rfl) (by kernel_rfl) (show 1 ≤ 22 by decide) (by simp) ?_
 refine W.sreg (fun K hK => ?_); simp (disch := omega) [gA, wA]; refine W.lv [1, 2] hK fun J j => ?_; clear hK K; simp; refine j _ ?_; clear j J
 refine W.sreg (fun K hK => ?_); simp (disch := omega) [gA, wA]; refine W.lv [1, 2, 3] hK fun J j => ?_; clear hK K; simp; refine j _ ?_; clear j J
 refine W.seqJ (fun σ => ∃ (s' : Bool) (l' : List Int) (v1 v2 v3 : Nat) (rows : Pm.Rows) (clk : Nat), σ = ⟨fa [(1, .ptr 1 v1 0 0), (2, .ptr 2 v2 0 0), (3, .ptr 3 v3 0 0)], rows, clk⟩ ∧ rows 1 = some ⟨v1, 29, 4, [[Pg x, Pg y, .bool sg, sls u32 l]]⟩ ∧ rows 2 = some ⟨v2, 29, 4, [[.nil, .nil, .bool false, .nil]]⟩ ∧
  rows 3 = some ⟨v3, 27, 2, [[.bool s', us l']]⟩ ∧ LOK l' ∧ iv s' l' = D) ?_ ?_
 ·refine W.sreg (fun K hK => ?_)
  simp (disch := omega) [gA, wA]
  refine callR p1 ?_
  simp (disch := omega) [gA, wA]
  refine callR z0 ?_
  simp (disch := omega) [gA, wA]
  refine W.lv [1, 2, 3, 10] hK fun J j => ?_; clear hK K; simp; refine j _ ?_; clear j J
  refine W.cond ⟨_, rfl, fun h => ?_, fun h => ?_⟩
  ·simp at h
   rw [if_pos h] at hdN
   refine W.reg (fun K hK => ?_)
   simp (disch := omega) [gA, wA]
   refine callR o1 ?_
   simp (disch := omega) [gA, wA]
   exact hK _ ⟨_, Gh_fa _ [1, 2, 3], false, dig LL 1, _, _, _, _, _, rfl, by simp, by simp, by simp, L1, by omega⟩
  ·simp at h
   rw [if_neg h] at hdN
   refine W.skip ?_
   exact ⟨_, Gh_fa _ [1, 2, 3], sg, l, _, _, _, _, _, rfl, by simp, by simp, by simp, hl, by omega⟩
 rintro _ ⟨s', l', v1, v2, v3, rows, clk, rfl, hr1, hr2, hr3, hl', he⟩
 have hM := hM s' l' hl' he
 refine W.sreg (fun K hK => ?_)
 simp (disch := omega) [gA, wA, hr1, hr3]
 refine callR hM ?_
 simp (disch := omega) [gA, wA]
 refine W.lv [2, 4] hK fun J j => ?_; clear hK K; simp; refine j _ ?_; clear j J
 refine W.sreg (fun K hK => ?_)
 simp (disch := omega) [gA, wA, hr2]
 refine W.lv [2] hK fun J j => ?_; clear hK K; simp; refine j _ ?_; clear j J
 refine W.ret ?_
 simp [go]
end Go.Proofs.YtdiladmkbpnhoaaGreat
