import Derived.Test.YtdiladmkbpnhoaaGreatLfm
import Derived.Test.YtdiladmkbpnhoaaGreatLfl
set_option linter.unusedSimpArgs false
set_option linter.unusedVariables false
namespace Go.Proofs.YtdiladmkbpnhoaaGreat
open Go Pm
def still (x y : Int) : RC := ⟨(cutR [x]).map rw', (cutR [y]).map rw', false, []⟩
theorem still_nc (x y : Int) : (still x y).nc = nC (cutR [x]) (cutR [y]) 0 := by
 show nC (cfs ((cutR [x]).map rw')) (cfs ((cutR [y]).map rw')) (iv false []) = _
 rw [cfs_rwC, cfs_rwC, cutR_cutR, cutR_cutR]; rfl
theorem still_OK {x y : Int} (hx : -9223372036854775808 ≤ x ∧ x < 9223372036854775808) (hy : -9223372036854775808 ≤ y ∧ y < 9223372036854775808) : (still x y).OK 2 1 := by
 have hz : ∀ v : Int, -9223372036854775808 ≤ v ∧ v < 9223372036854775808 → Bd LL 2 1 (cutR [v]) := fun v hv => Bd.cut ⟨by simp, fun c hc => by
  simp only [List.mem_cons, List.not_mem_nil, or_false] at hc
  subst hc
  exact sz_le hLL (by show c.natAbs < 4294967296 ^ 2; omega)⟩
 refine ⟨(PB.of (hz x hx) (by decide) (by decide)).pok, (PB.of (hz y hy) (by decide) (by decide)).pok, ⟨Lim.nil, by show 0 < 1099511627776; decide⟩, ?_, ?_, ?_, by decide, by decide, by decide⟩
 ·show Bd LL 2 1 (((cutR [x]).map rw').map gv)
  rw [map_gv_rw]; exact hz x hx
 ·show Bd LL 2 1 (((cutR [y]).map rw').map gv)
  rw [map_gv_rw]; exact hz y hy
 ·show sz LL 0 ≤ 2
  rw [sz_zero]; omega
theorem cOf_ret {x y : RP} {s n : Nat} (h : (RC.mk x y false []).OK s n) : Ret env.P 80 [Pg x, Pg y] (.ag (RC.mk x y false []).nc.cells) := by
 have n1 := h.norm
 generalize (RC.mk x y false []).nc = v at *
 simp only [RC.cells_def, CV.cells_def] at *
 replace n1 : Ret env.P 98 [.ag [Pg x, Pg y, .bool false, .sl []]] (.ag [Po v.x, Po v.y, .bool (decide (v.d < 0)), sls u32 (dig LL v.d.natAbs)]) := n1
 refine ret_of_Wf (E := env) (fun _ => 0) [(0, Pg x), (1, Pg y)] Tryz.func80 rfl (by kernel_rfl) (by kernel_rfl) (show 2 ≤ 9 by decide) (by simp) ?_
 refine W.sreg (fun K hK => ?_); simp (disch := omega) [gA, wA]; refine W.lv [0, 1, 4] hK fun J j => ?_; clear hK K; simp; refine j _ ?_; clear j J
 refine W.sreg (fun K hK => ?_)
 simp (disch := omega) [gA, wA]
 refine callR n1 ?_
 simp (disch := omega) [gA, wA]
 refine W.lv [4] hK fun J j => ?_; clear hK K; simp; refine j _ ?_; clear j J
 refine W.ret ?_
 simp [go]
theorem Still_ret {x y : Int} (hx : -9223372036854775808 ≤ x ∧ x < 9223372036854775808) (hy : -9223372036854775808 ≤ y ∧ y < 9223372036854775808) : Ret env.P 18 [.int .i64 x, .int .i64 y] (.ag (still x y).nc.cells) := by
 have o1 : Ret env.P 43 [.sl [[.int .i64 x]]] (Po (cutR [x])) := pOf_ret [x] (by simp) (by simpa using hx)
 have o2 : Ret env.P 43 [.sl [[.int .i64 y]]] (Po (cutR [y])) := pOf_ret [y] (by simp) (by simpa using hy)
 have c1 := cOf_ret (still_OK hx hy)
 rw [← Po_eq, ← Po_eq] at c1
 rw [show (RC.mk ((cutR [x]).map rw') ((cutR [y]).map rw') false []) = still x y from rfl] at c1
 generalize (still x y).nc = v at *
 generalize cutR [x] = px at *
 generalize cutR [y] = py at *
 simp only [CV.cells_def] at *
 refine ret_of_Wf (E := env) (fun _ => 0) [(0, .int .i64 x), (1, .int .i64 y)] Tryz.func18 rfl (by kernel_rfl) (by kernel_rfl) (show 2 ≤ 12 by decide) (by simp) ?_
 refine W.sreg (fun K hK => ?_); simp (disch := omega) [gA, wA]; refine W.lv [0, 1, 4] hK fun J j => ?_; clear hK K; simp; refine j _ ?_; clear j J
 refine W.sreg (fun K hK => ?_)
 simp (disch := omega) [gA, wA]
 refine callR o1 ?_
 simp (disch := omega) [gA, wA]
 refine callR o2 ?_
 simp (disch := omega) [gA, wA]
 refine callR c1 ?_
 simp (disch := omega) [gA, wA]
 refine W.lv [4] hK fun J j => ?_; clear hK K; simp; refine j _ ?_; clear j J
 refine W.ret ?_
 simp [go]
def CV.rc (v : CV) : RC := ⟨v.x.map rw', v.y.map rw', decide (v.d < 0), dig LL v.d.natAbs⟩
theorem CV.rc_cells (v : CV) : v.rc.cells = v.cells := by
 simp only [RC.cells_def, CV.cells_def, CV.rc, ← Po_eq]
theorem CV.ext' {a b : CV} (h1 : a.x = b.x) (h2 : a.y = b.y) (h3 : a.d = b.d) : a = b := by
 cases a; cases b; simp only at h1 h2 h3; subst h1 h2 h3; rfl
theorem CV.rc_nc (v : CV) : v.rc.nc = nC (cutR v.x) (cutR v.y) v.d := by
 show nC (cfs (v.x.map rw')) (cfs (v.y.map rw')) (iv (decide (v.d < 0)) (dig LL v.d.natAbs)) = _
 rw [cfs_rwC, cfs_rwC, iv_I]
theorem CV.rc_OK {v : CV} (hx : Bd LL 2 1 v.x) (hy : Bd LL 2 1 v.y) (hd : sz LL v.d ≤ 2) : v.rc.OK 2 1 := by
 refine ⟨(PB.of hx (by decide) (by decide)).pok, (PB.of hy (by decide) (by decide)).pok, Sz.lok (Nat.lt_of_le_of_lt hd (by decide)), ?_, ?_, ?_, by decide, by decide, by decide⟩
 ·show Bd LL 2 1 ((v.x.map rw').map gv)
  rw [map_gv_rw]; exact hx
 ·show Bd LL 2 1 ((v.y.map rw').map gv)
  rw [map_gv_rw]; exact hy
 ·show sz LL (iv (decide (v.d < 0)) (dig LL v.d.natAbs)) ≤ 2
  rw [iv_I]; exact hd
end Go.Proofs.YtdiladmkbpnhoaaGreat
namespace Go.Proofs.YtdiladmkbpnhoaaGreat
open Go Pm
theorem nC00 : nC [] [] 0 = ⟨[], [], 1⟩ := CV.ext' (by decide +kernel) (by decide +kernel) (by decide +kernel)
theorem nC10 : nC [1] [] 0 = ⟨[1], [], 1⟩ := CV.ext' (by decide +kernel) (by decide +kernel) (by decide +kernel)
theorem nC01 : nC [] [1] 0 = ⟨[], [1], 1⟩ := CV.ext' (by decide +kernel) (by decide +kernel) (by decide +kernel)
theorem nC11 : nC [1] [1] 0 = ⟨[1], [1], 1⟩ := CV.ext' (by decide +kernel) (by decide +kernel) (by decide +kernel)
theorem mC00 : nC [] [] 1 = ⟨[], [], 1⟩ := CV.ext' (by decide +kernel) (by decide +kernel) (by decide +kernel)
theorem mC10 : nC [1] [] 1 = ⟨[1], [], 1⟩ := CV.ext' (by decide +kernel) (by decide +kernel) (by decide +kernel)
theorem mC01 : nC [] [1] 1 = ⟨[], [1], 1⟩ := CV.ext' (by decide +kernel) (by decide +kernel) (by decide +kernel)
theorem mC11 : nC [1] [1] 1 = ⟨[1], [1], 1⟩ := CV.ext' (by decide +kernel) (by decide +kernel) (by decide +kernel)
theorem bd01 : Bd LL 2 1 [] ∧ Bd LL 2 1 [1] := ⟨⟨by decide, fun c hc => by cases hc⟩, ⟨by decide, fun c hc => by
 simp only [List.mem_cons, List.not_mem_nil, or_false] at hc
 subst hc; exact sz_le hLL (by decide)⟩⟩
theorem Bd1 : sz LL 1 ≤ 2 := sz_le hLL (by decide)
set_option maxHeartbeats 2000000 in
theorem wakes14_ret : Ret env.P 27 [] (.bool true) := by
 have s1 := Still_ret (x := 0) (y := 0) (by decide) (by decide)
 have s2 := Still_ret (x := 1) (y := 0) (by decide) (by decide)
 have s3 := Still_ret (x := 0) (y := 1) (by decide) (by decide)
 have s4 := Still_ret (x := 1) (y := 1) (by decide) (by decide)
 rw [still_nc, show cutR [0] = ([] : List Int) from rfl, nC00] at s1
 rw [still_nc, show cutR [0] = ([] : List Int) from rfl, show cutR [1] = ([1] : List Int) from rfl, nC10] at s2
 rw [still_nc, show cutR [0] = ([] : List Int) from rfl, show cutR [1] = ([1] : List Int) from rfl, nC01] at s3
 rw [still_nc, show cutR [1] = ([1] : List Int) from rfl, nC11] at s4
 have k1 : (CV.mk [] [] 1).rc.OK 2 1 := CV.rc_OK bd01.1 bd01.1 Bd1
 have k2 : (CV.mk [1] [] 1).rc.OK 2 1 := CV.rc_OK bd01.2 bd01.1 Bd1
 have k3 : (CV.mk [] [1] 1).rc.OK 2 1 := CV.rc_OK bd01.1 bd01.2 Bd1
 have k4 : (CV.mk [1] [1] 1).rc.OK 2 1 := CV.rc_OK bd01.2 bd01.2 Bd1
 have e1 : (CV.mk [] [] 1).rc.nc = ⟨[], [], 1⟩ := (CV.rc_nc _).trans mC00
 have e2 : (CV.mk [1] [] 1).rc.nc = ⟨[1], [], 1⟩ := (CV.rc_nc _).trans mC10
 have e3 : (CV.mk [] [1] 1).rc.nc = ⟨[], [1], 1⟩ := (CV.rc_nc _).trans mC01
 have e4 : (CV.mk [1] [1] 1).rc.nc = ⟨[1], [1], 1⟩ := (CV.rc_nc _).trans mC11
 have o := pOrient_ret k1 k2 k3 (by decide) (by decide) (by decide)
 have i := pInCircle_ret k1 k2 k3 k4 (by decide) (by decide) (by decide)
 rw [e1, e2, e3, CV.rc_cells, CV.rc_cells, CV.rc_cells, show dcol 3 [rowI ⟨[], [], 1⟩, rowI ⟨[1], [], 1⟩, rowI ⟨[], [1], 1⟩] = [1] by decide +kernel] at o
 rw [e1, e2, e3, e4, CV.rc_cells, CV.rc_cells, CV.rc_cells, CV.rc_cells, show dcol 4 [rowC ⟨[], [], 1⟩, rowC ⟨[1], [], 1⟩, rowC ⟨[], [1], 1⟩, rowC ⟨[1], [1], 1⟩] = [] by decide +kernel] at i
 have o1 : Ret env.P 94 [.sl [[.int .i64 1]]] (PI [1]) := qOf_ret [1] (by decide) (by decide)
 have q1 := qSame_ret [1] [1] (by decide) (by decide) (fun c hc => by
  simp only [List.mem_cons, List.not_mem_nil, or_false] at hc
  subst hc; exact Nat.lt_of_le_of_lt (sz_le (k := 1) (by decide) (by decide)) (by decide)) (fun c hc => by
  simp only [List.mem_cons, List.not_mem_nil, or_false] at hc
  subst hc; exact Nat.lt_of_le_of_lt (sz_le (k := 1) (by decide) (by decide)) (by decide))
 simp only [decide_true] at q1
 clear k1 k2 k3 k4 e1 e2 e3 e4
 generalize CV.mk [] [] 1 = v1 at *
 generalize CV.mk [1] [] 1 = v2 at *
 generalize CV.mk [] [1] 1 = v3 at *
 generalize CV.mk [1] [1] 1 = v4 at *
 generalize ([1] : List Int) = L1 at *
 simp only [CV.cells_def] at *
 refine ret_of_Wf (E := env) (fun _ => 0) [] Tryz.func27 rfl (by kernel_rfl) (by kernel_rfl) (show 0 ≤ 25 by decide) (by simp) ?_
 refine W.sreg (fun K hK => ?_)
 simp (disch := omega) [gA, wA]
 refine W.lv [] hK fun J j => ?_; clear hK K; simp; refine j _ ?_; clear j J
 refine W.sreg (fun K hK => ?_)
 simp (disch := omega) [gA, wA]
 refine callR s1 ?_
 simp (disch := omega) [gA, wA]
 refine callR s2 ?_
 simp (disch := omega) [gA, wA]
 refine callR s3 ?_
 simp (disch := omega) [gA, wA]
 refine callR s4 ?_
 simp (disch := omega) [gA, wA]
 refine W.lv [1, 2, 3, 4] hK fun J j => ?_; clear hK K; simp; refine j _ ?_; clear j J
 refine W.sdrw (fun K hK => ?_)
 simp (disch := omega) [gA, wA]
 refine callR o1 ?_
 simp (disch := omega) [gA, wA]
 refine callR o ?_
 simp (disch := omega) [gA, wA]
 refine callR q1 ?_
 simp (disch := omega) [gA, wA]
 refine callR i ?_
 simp (disch := omega) [gA, wA]
 refine W.lv [0] hK fun J j => ?_; clear hK K; simp; refine j _ ?_; clear j J
 refine W.ret ?_
 simp [go]
end Go.Proofs.YtdiladmkbpnhoaaGreat
