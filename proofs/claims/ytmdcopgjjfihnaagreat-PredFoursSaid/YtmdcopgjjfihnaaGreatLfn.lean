import Derived.Test.YtmdcopgjjfihnaaGreatLfm
import Derived.Test.YtmdcopgjjfihnaaGreatLfl
set_option linter.unusedSimpArgs false
set_option linter.unusedVariables false
namespace Go.Proofs.YtmdcopgjjfihnaaGreat
open Go Pm

/-! CURVES THAT STAND; THE EXAMPLES OF CHAPTER 14. -/
def still (x y : Int) : RC := ⟨(cutR [x]).map rw', (cutR [y]).map rw', false, []⟩
theorem still_nc (x y : Int) : (still x y).nc = nC (cutR [x]) (cutR [y]) 0 := by
  show nC (cfs ((cutR [x]).map rw')) (cfs ((cutR [y]).map rw')) (iv false []) = _
  rw [cfs_rwC, cfs_rwC, cutR_cutR, cutR_cutR]; rfl
theorem still_OK {x y : Int} (hx : -9223372036854775808 ≤ x ∧ x < 9223372036854775808) (hy : -9223372036854775808 ≤ y ∧ y < 9223372036854775808) : (still x y).OK 2 1 := by
  have hz : ∀ v : Int, -9223372036854775808 ≤ v ∧ v < 9223372036854775808 → Bd LL 2 1 (cutR [v]) := fun v hv => Bd.cut ⟨by simp, fun c hc => by
    simp only [List.mem_cons, List.not_mem_nil, or_false] at hc
    subst hc
    exact sz_le hLL (by show c.natAbs < 4294967296 ^ 2; omega)⟩
  refine ⟨(PB.of (hz x hx) (by decide) (by decide)).pok, (PB.of (hz y hy) (by decide) (by decide)).pok, ⟨Lim.nil, by show 0 < 1099511627776; decide⟩, ?_, ?_, ?_, by decide, by decide, by decide⟩
  · show Bd LL 2 1 (((cutR [x]).map rw').map gv)
    rw [map_gv_rw]; exact hz x hx
  · show Bd LL 2 1 (((cutR [y]).map rw').map gv)
    rw [map_gv_rw]; exact hz y hy
  · show sz LL 0 ≤ 2
    rw [sz_zero]; omega
theorem cOf_ret {x y : RP} {s n : Nat} (h : (RC.mk x y false []).OK s n) : Ret env.P 72 [Pg x, Pg y] (.ag (RC.mk x y false []).nc.cells) := by
  have n1 := h.norm
  generalize (RC.mk x y false []).nc = v at *
  simp only [RC.cells_def, CV.cells_def] at *
  replace n1 : Ret env.P 99 [.ag [Pg x, Pg y, .bool false, .sl []]] (.ag [Po v.x, Po v.y, .bool (decide (v.d < 0)), sls u32 (dig LL v.d.natAbs)]) := n1
  refine ret_of_Wf (E := env) (fun _ => 0) [(0, Pg x), (1, Pg y)] Tryz.func72 rfl (by kernel_rfl) (by kernel_rfl) (show 2 ≤ 9 by decide) (by simp) ?_
  refine W.sreg (fun K hK => ?_); simp (disch := omega) [gA, wrap_i64, wrap_u64, wrap_u32, Int.tdiv_eq_ediv_of_nonneg, Int.tmod_eq_emod_of_nonneg]; refine hK _ (W.liveK [0, 1, 4] fun K2 hK2 => ?_); clear hK K; simp; refine hK2 _ ?_; clear hK2 K2
  refine W.sreg (fun K hK => ?_)
  simp (disch := omega) [gA, wrap_i64, wrap_u64, wrap_u32, Int.tdiv_eq_ediv_of_nonneg, Int.tmod_eq_emod_of_nonneg]
  refine callR n1 ?_
  simp (disch := omega) [gA, wrap_i64, wrap_u64, wrap_u32, Int.tdiv_eq_ediv_of_nonneg, Int.tmod_eq_emod_of_nonneg]
  refine hK _ (W.liveK [4] fun K2 hK2 => ?_); clear hK K; simp; refine hK2 _ ?_; clear hK2 K2
  refine W.ret ?_
  simp [go]
theorem Still_ret {x y : Int} (hx : -9223372036854775808 ≤ x ∧ x < 9223372036854775808) (hy : -9223372036854775808 ≤ y ∧ y < 9223372036854775808) : Ret env.P 16 [.int .i64 x, .int .i64 y] (.ag (still x y).nc.cells) := by
  have o1 : Ret env.P 57 [.sl [[.int .i64 x]]] (Po (cutR [x])) := pOf_ret [x] (by simp) (by simpa using hx)
  have o2 : Ret env.P 57 [.sl [[.int .i64 y]]] (Po (cutR [y])) := pOf_ret [y] (by simp) (by simpa using hy)
  have c1 := cOf_ret (still_OK hx hy)
  rw [← Po_eq, ← Po_eq] at c1
  rw [show (RC.mk ((cutR [x]).map rw') ((cutR [y]).map rw') false []) = still x y from rfl] at c1
  generalize (still x y).nc = v at *
  generalize cutR [x] = px at *
  generalize cutR [y] = py at *
  simp only [CV.cells_def] at *
  refine ret_of_Wf (E := env) (fun _ => 0) [(0, .int .i64 x), (1, .int .i64 y)] Tryz.func16 rfl (by kernel_rfl) (by kernel_rfl) (show 2 ≤ 12 by decide) (by simp) ?_
  refine W.sreg (fun K hK => ?_); simp (disch := omega) [gA, wrap_i64, wrap_u64, wrap_u32, Int.tdiv_eq_ediv_of_nonneg, Int.tmod_eq_emod_of_nonneg]; refine hK _ (W.liveK [0, 1, 4] fun K2 hK2 => ?_); clear hK K; simp; refine hK2 _ ?_; clear hK2 K2
  refine W.sreg (fun K hK => ?_)
  simp (disch := omega) [gA, wrap_i64, wrap_u64, wrap_u32, Int.tdiv_eq_ediv_of_nonneg, Int.tmod_eq_emod_of_nonneg]
  refine callR o1 ?_
  simp (disch := omega) [gA, wrap_i64, wrap_u64, wrap_u32, Int.tdiv_eq_ediv_of_nonneg, Int.tmod_eq_emod_of_nonneg]
  refine callR o2 ?_
  simp (disch := omega) [gA, wrap_i64, wrap_u64, wrap_u32, Int.tdiv_eq_ediv_of_nonneg, Int.tmod_eq_emod_of_nonneg]
  refine callR c1 ?_
  simp (disch := omega) [gA, wrap_i64, wrap_u64, wrap_u32, Int.tdiv_eq_ediv_of_nonneg, Int.tmod_eq_emod_of_nonneg]
  refine hK _ (W.liveK [4] fun K2 hK2 => ?_); clear hK K; simp; refine hK2 _ ?_; clear hK2 K2
  refine W.ret ?_
  simp [go]
/-- A normal curve as one that is handed in. -/
def CV.rc (v : CV) : RC := ⟨v.x.map rw', v.y.map rw', decide (v.d < 0), dig LL v.d.natAbs⟩
theorem CV.rc_cells (v : CV) : v.rc.cells = v.cells := by
  simp only [RC.cells_def, CV.cells_def, CV.rc, ← Po_eq]
theorem CV.ext' {a b : CV} (h1 : a.x = b.x) (h2 : a.y = b.y) (h3 : a.d = b.d) : a = b := by
  cases a; cases b; simp only at h1 h2 h3; subst h1 h2 h3; rfl
theorem CV.rc_nc (v : CV) : v.rc.nc = nC (cutR v.x) (cutR v.y) v.d := by
  show nC (cfs (v.x.map rw')) (cfs (v.y.map rw')) (iv (decide (v.d < 0)) (dig LL v.d.natAbs)) = _
  rw [cfs_rwC, cfs_rwC, iv_I]
theorem CV.rc_OK {v : CV} (hx : Bd LL 2 1 v.x) (hy : Bd LL 2 1 v.y) (hd : sz LL v.d ≤ 2) : v.rc.OK 2 1 := by
  refine ⟨(PB.of hx (by decide) (by decide)).pok, (PB.of hy (by decide) (by decide)).pok, Sz.lok (Nat.lt_of_le_of_lt hd (by decide)), ?_, ?_, ?_, by decide, by decide, by decide⟩
  · show Bd LL 2 1 ((v.x.map rw').map gv)
    rw [map_gv_rw]; exact hx
  · show Bd LL 2 1 ((v.y.map rw').map gv)
    rw [map_gv_rw]; exact hy
  · show sz LL (iv (decide (v.d < 0)) (dig LL v.d.natAbs)) ≤ 2
    rw [iv_I]; exact hd
end Go.Proofs.YtmdcopgjjfihnaaGreat
