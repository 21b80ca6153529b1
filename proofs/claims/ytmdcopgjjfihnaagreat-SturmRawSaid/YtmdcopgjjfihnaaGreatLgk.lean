import Derived.Test.YtmdcopgjjfihnaaGreatLgj
set_option linter.unusedSimpArgs false
set_option linter.unusedVariables false
namespace Go.Proofs.YtmdcopgjjfihnaaGreat
open Go Pm
open ZX hiding N W

/-! CHAPTER 08's EXAMPLE. -/
def a8 : ZX := ZX.of [-2, 0, 1]
theorem a8_sq : sq a8 = a8 := by
  have nA : Nf a8 := ⟨ZX.ne_zero.2 (by decide), by decide, by decide⟩
  refine sq_free (u := K (-2)) (v := ZX.of [0, 1]) (c := 4) nA (by decide) (ZX.ext fun t => ?_)
  have hd : der a8 = ZX.of [0, 2] := rfl
  rw [hd, ZX.v_add, ZX.v_mul, ZX.v_mul, ZX.v_K, ZX.v_K, a8, ZX.v_of, ZX.v_of, ZX.v_of]
  simp only [V]; grind
theorem a8_facts : vr (sgL (chn a8)) = 2 ∧ vr (sgR (chn a8)) = 0 ∧ vr (sgs (chn a8) 0 1) = 1 ∧ vr (sgs (chn a8) 2 1) = 0 := ⟨by kernel_rfl, by kernel_rfl, by kernel_rfl, by kernel_rfl⟩
theorem T2_zero : (PV.ag [.bool false, .sl [], .bool false, .sl []]) = T2 0 0 := rfl
theorem wakes8_ret : Ret env.P 46 [] (.bool true) := by
  have o1 : Ret env.P 57 [.sl [[.int .i64 (-2)], [.int .i64 0], [.int .i64 1]]] (Po [-2, 0, 1]) := pOf_ret [-2, 0, 1] (by decide) (by decide)
  have hL : Lay 3 3 a8 := ⟨small_bz (by decide) (by decide), by decide, by decide, by decide⟩
  have nA : Nf a8 := ⟨ZX.ne_zero.2 (by decide), by decide, by decide⟩
  have hC := hL.ch nA.ne (by decide)
  have hS := Square_ret hL
  have hN := New_ret hS hC (by rw [a8_sq]; exact nA)
  obtain ⟨hb, hl⟩ := hC.all
  rw [a8_sq] at hN hb hl
  replace hN : Ret env.P 45 [Po [-2, 0, 1]] (.tup [CH (chn a8), .int .i64 0]) := hN
  have hpb := pbs hb (by decide)
  have c1 := cCount_ret (c := chn a8) (by omega) hpb
  have s2 : SQ 5 (2 : Rat) := ⟨by decide, by decide, by decide⟩
  have t2 := CT_ret hb (by decide) hl s2 (by decide)
  have t0 : Ret env.P 65 [CH (chn a8), T2 0 0] (.int .i64 (vr (sgs (chn a8) (0 : Rat).num (0 : Rat).den))) := cTurns_ret (by omega) fun p hp => pSign_ret (n := 0) (d := 0) (u := 5) (bdL (hb p hp)) p.c (by decide) (by decide) (by decide) (by decide) (by decide) (by decide) (q := 0) (by decide) ⟨by decide, by decide⟩
  have z1 := rCmpT_ret (n := 2) (d := 1) (m := 0) (e := 0) (k := 5) (by decide) (by decide) (by decide) (by decide) (by decide) (p := 2) (q := 0) (by decide) (by decide) ⟨by decide, by decide⟩ ⟨by decide, by decide⟩
  have b1 := cBetween_ret (c := chn a8) (by omega) (n := 0) (d := 0) (m := 2) (e := 1) (p := 0) (q := 2) z1 t0 t2
  obtain ⟨f1, f2, f3, f4⟩ := a8_facts
  have e1 : (vr (sgs (chn a8) (0 : Rat).num ((0 : Rat).den : Int))) = 1 := f3
  have e2 : (vr (sgs (chn a8) (2 : Rat).num ((2 : Rat).den : Int))) = 0 := f4
  rw [f1, f2] at c1
  rw [e1, e2] at b1
  rw [if_neg (by decide)] at b1
  have o2 := OfR_ret 2 1 (by decide) (by decide)
  rw [RR_R2, show qmk 2 1 = 2 from by decide] at o2
  have o3 := ToR_ret (n := (2 : Rat).num) (d := ((2 : Rat).den : Int)) (by decide) (by decide)
  rw [show (2 : Rat).num = 2 from rfl, show (((2 : Rat).den : Nat) : Int) = 1 from rfl] at o2 o3
  rw [← T2_zero] at b1
  generalize chn a8 = C at *
  generalize sls zp C = X at *
  refine ret_of_Wf (E := env) (fun _ => 0) [] Tryz.func46 rfl (by kernel_rfl) (by kernel_rfl) (show 0 ≤ 28 by decide) (by simp) ?_
  refine W.sreg (fun K hK => ?_)
  simp (disch := omega) [gA, wA]
  refine W.lv [] hK fun J j => ?_; clear hK K; simp; refine j _ ?_; clear j J
  refine W.sreg (fun K hK => ?_)
  simp (disch := omega) [gA, wA]
  refine callR o1 ?_
  simp (disch := omega) [gA, wA]
  refine callR hN ?_
  simp (disch := omega) [gA, wA]
  refine W.lv [1, 2] hK fun J j => ?_; clear hK K; simp; refine j _ ?_; clear j J
  refine W.sreg (fun K hK => ?_)
  simp (disch := omega) [gA, wA]
  refine callR c1 ?_
  simp (disch := omega) [gA, wA]
  refine callR o2 ?_
  simp (disch := omega) [gA, wA]
  refine callR o3 ?_
  simp (disch := omega) [gA, wA]
  refine callR b1 ?_
  simp (disch := omega) [gA, wA]
  refine W.lv [0] hK fun J j => ?_; clear hK K; simp; refine j _ ?_; clear j J
  refine W.ret ?_
  simp [go]
end Go.Proofs.YtmdcopgjjfihnaaGreat
