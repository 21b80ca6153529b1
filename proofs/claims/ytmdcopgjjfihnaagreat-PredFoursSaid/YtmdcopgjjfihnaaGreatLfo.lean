import Derived.Test.YtmdcopgjjfihnaaGreatLfn
set_option linter.unusedSimpArgs false
set_option linter.unusedVariables false
namespace Go.Proofs.YtmdcopgjjfihnaaGreat
open Go Pm

theorem nC00 : nC [] [] 0 = ⟨[], [], 1⟩ := CV.ext' (by decide +kernel) (by decide +kernel) (by decide +kernel)
theorem nC10 : nC [1] [] 0 = ⟨[1], [], 1⟩ := CV.ext' (by decide +kernel) (by decide +kernel) (by decide +kernel)
theorem nC01 : nC [] [1] 0 = ⟨[], [1], 1⟩ := CV.ext' (by decide +kernel) (by decide +kernel) (by decide +kernel)
theorem nC11 : nC [1] [1] 0 = ⟨[1], [1], 1⟩ := CV.ext' (by decide +kernel) (by decide +kernel) (by decide +kernel)
theorem mC00 : nC [] [] 1 = ⟨[], [], 1⟩ := CV.ext' (by decide +kernel) (by decide +kernel) (by decide +kernel)
theorem mC10 : nC [1] [] 1 = ⟨[1], [], 1⟩ := CV.ext' (by decide +kernel) (by decide +kernel) (by decide +kernel)
theorem mC01 : nC [] [1] 1 = ⟨[], [1], 1⟩ := CV.ext' (by decide +kernel) (by decide +kernel) (by decide +kernel)
theorem mC11 : nC [1] [1] 1 = ⟨[1], [1], 1⟩ := CV.ext' (by decide +kernel) (by decide +kernel) (by decide +kernel)
theorem bd01 : Bd LL 2 1 [] ∧ Bd LL 2 1 [1] := ⟨⟨by decide, fun c hc => by cases hc⟩, ⟨by decide, fun c hc => by
  simp only [List.mem_cons, List.not_mem_nil, or_false] at hc
  subst hc; exact sz_le hLL (by decide)⟩⟩
theorem Bd1 : sz LL 1 ≤ 2 := sz_le hLL (by decide)
set_option maxHeartbeats 2000000 in
theorem wakes14_ret : Ret env.P 25 [] (.bool true) := by
  have s1 := Still_ret (x := 0) (y := 0) (by decide) (by decide)
  have s2 := Still_ret (x := 1) (y := 0) (by decide) (by decide)
  have s3 := Still_ret (x := 0) (y := 1) (by decide) (by decide)
  have s4 := Still_ret (x := 1) (y := 1) (by decide) (by decide)
  rw [still_nc, show cutR [0] = ([] : List Int) from rfl, nC00] at s1
  rw [still_nc, show cutR [0] = ([] : List Int) from rfl, show cutR [1] = ([1] : List Int) from rfl, nC10] at s2
  rw [still_nc, show cutR [0] = ([] : List Int) from rfl, show cutR [1] = ([1] : List Int) from rfl, nC01] at s3
  rw [still_nc, show cutR [1] = ([1] : List Int) from rfl, nC11] at s4
  have k1 : (CV.mk [] [] 1).rc.OK 2 1 := CV.rc_OK bd01.1 bd01.1 Bd1
  have k2 : (CV.mk [1] [] 1).rc.OK 2 1 := CV.rc_OK bd01.2 bd01.1 Bd1
  have k3 : (CV.mk [] [1] 1).rc.OK 2 1 := CV.rc_OK bd01.1 bd01.2 Bd1
  have k4 : (CV.mk [1] [1] 1).rc.OK 2 1 := CV.rc_OK bd01.2 bd01.2 Bd1
  have e1 : (CV.mk [] [] 1).rc.nc = ⟨[], [], 1⟩ := (CV.rc_nc _).trans mC00
  have e2 : (CV.mk [1] [] 1).rc.nc = ⟨[1], [], 1⟩ := (CV.rc_nc _).trans mC10
  have e3 : (CV.mk [] [1] 1).rc.nc = ⟨[], [1], 1⟩ := (CV.rc_nc _).trans mC01
  have e4 : (CV.mk [1] [1] 1).rc.nc = ⟨[1], [1], 1⟩ := (CV.rc_nc _).trans mC11
  have o := pOrient_ret k1 k2 k3 (by decide) (by decide) (by decide)
  have i := pInCircle_ret k1 k2 k3 k4 (by decide) (by decide) (by decide)
  rw [e1, e2, e3, CV.rc_cells, CV.rc_cells, CV.rc_cells, show dcol 3 [rowI ⟨[], [], 1⟩, rowI ⟨[1], [], 1⟩, rowI ⟨[], [1], 1⟩] = [1] by decide +kernel] at o
  rw [e1, e2, e3, e4, CV.rc_cells, CV.rc_cells, CV.rc_cells, CV.rc_cells, show dcol 4 [rowC ⟨[], [], 1⟩, rowC ⟨[1], [], 1⟩, rowC ⟨[], [1], 1⟩, rowC ⟨[1], [1], 1⟩] = [] by decide +kernel] at i
  have o1 : Ret env.P 85 [.sl [[.int .i64 1]]] (PI [1]) := qOf_ret [1] (by decide) (by decide)
  have q1 := qSame_ret [1] [1] (by decide) (by decide) (fun c hc => by
    simp only [List.mem_cons, List.not_mem_nil, or_false] at hc
    subst hc; exact Nat.lt_of_le_of_lt (sz_le (k := 1) (by decide) (by decide)) (by decide)) (fun c hc => by
    simp only [List.mem_cons, List.not_mem_nil, or_false] at hc
    subst hc; exact Nat.lt_of_le_of_lt (sz_le (k := 1) (by decide) (by decide)) (by decide))
  simp only [decide_true] at q1
  clear k1 k2 k3 k4 e1 e2 e3 e4
  generalize CV.mk [] [] 1 = v1 at *
  generalize CV.mk [1] [] 1 = v2 at *
  generalize CV.mk [] [1] 1 = v3 at *
  generalize CV.mk [1] [1] 1 = v4 at *
  generalize ([1] : List Int) = L1 at *
  simp only [CV.cells_def] at *
  refine ret_of_Wf (E := env) (fun _ => 0) [] Tryz.func25 rfl (by kernel_rfl) (by kernel_rfl) (show 0 ≤ 25 by decide) (by simp) ?_
  refine W.sreg (fun K hK => ?_)
  simp (disch := omega) [gA, wrap_i64, wrap_u64, wrap_u32, Int.tdiv_eq_ediv_of_nonneg, Int.tmod_eq_emod_of_nonneg]
  refine hK _ (W.liveK [] fun K2 hK2 => ?_); clear hK K; simp; refine hK2 _ ?_; clear hK2 K2
  refine W.sreg (fun K hK => ?_)
  simp (disch := omega) [gA, wrap_i64, wrap_u64, wrap_u32, Int.tdiv_eq_ediv_of_nonneg, Int.tmod_eq_emod_of_nonneg]
  refine callR s1 ?_
  simp (disch := omega) [gA, wrap_i64, wrap_u64, wrap_u32, Int.tdiv_eq_ediv_of_nonneg, Int.tmod_eq_emod_of_nonneg]
  refine callR s2 ?_
  simp (disch := omega) [gA, wrap_i64, wrap_u64, wrap_u32, Int.tdiv_eq_ediv_of_nonneg, Int.tmod_eq_emod_of_nonneg]
  refine callR s3 ?_
  simp (disch := omega) [gA, wrap_i64, wrap_u64, wrap_u32, Int.tdiv_eq_ediv_of_nonneg, Int.tmod_eq_emod_of_nonneg]
  refine callR s4 ?_
  simp (disch := omega) [gA, wrap_i64, wrap_u64, wrap_u32, Int.tdiv_eq_ediv_of_nonneg, Int.tmod_eq_emod_of_nonneg]
  refine hK _ (W.liveK [1, 2, 3, 4] fun K2 hK2 => ?_); clear hK K; simp; refine hK2 _ ?_; clear hK2 K2
  refine W.sdrw (fun K hK => ?_)
  simp (disch := omega) [gA, wrap_i64, wrap_u64, wrap_u32, Int.tdiv_eq_ediv_of_nonneg, Int.tmod_eq_emod_of_nonneg]
  refine callR o1 ?_
  simp (disch := omega) [gA, wrap_i64, wrap_u64, wrap_u32, Int.tdiv_eq_ediv_of_nonneg, Int.tmod_eq_emod_of_nonneg]
  refine callR o ?_
  simp (disch := omega) [gA, wrap_i64, wrap_u64, wrap_u32, Int.tdiv_eq_ediv_of_nonneg, Int.tmod_eq_emod_of_nonneg]
  refine callR q1 ?_
  simp (disch := omega) [gA, wrap_i64, wrap_u64, wrap_u32, Int.tdiv_eq_ediv_of_nonneg, Int.tmod_eq_emod_of_nonneg]
  refine callR i ?_
  simp (disch := omega) [gA, wrap_i64, wrap_u64, wrap_u32, Int.tdiv_eq_ediv_of_nonneg, Int.tmod_eq_emod_of_nonneg]
  refine hK _ (W.liveK [0] fun K2 hK2 => ?_); clear hK K; simp; refine hK2 _ ?_; clear hK2 K2
  refine W.ret ?_
  simp [go]
end Go.Proofs.YtmdcopgjjfihnaaGreat
