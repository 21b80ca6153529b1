import Derived.Test.YtdiladmkbpnhoaaLha
import Derived.Test.YtdiladmkbpnhoaaLfw
set_option linter.unusedSimpArgs false
set_option linter.unusedVariables false
namespace Go.Proofs.Ytdiladmkbpnhoaa
open Go Pm
theorem sv_right (x0 y0 x1 y1 : Int) : psub (pscale (sv x1 y1).x (sv x0 y0).d) (pscale (sv x0 y0).x (sv x1 y1).d) = cutR [x1 - x0] := by
 refine (Cn.psub _ _).ext (Cn.cut _) fun t => ?_
 simp only [V_psub, V_pscale, V_cut1, sv, Int.mul_one]
theorem sv_above (x0 y0 x1 y1 : Int) : psub (pscale (sv x1 y1).y (sv x0 y0).d) (pscale (sv x0 y0).y (sv x1 y1).d) = cutR [y1 - y0] := by
 refine (Cn.psub _ _).ext (Cn.cut _) fun t => ?_
 simp only [V_psub, V_pscale, V_cut1, sv, Int.mul_one]
def fI (x0 y0 x1 y1 x2 y2 x3 y3 : Int) : Int := (x3 - x2) * (x3 - x2) + (y3 - y2) * (y3 - y2) - (x1 - x0) * (x1 - x0) - (y1 - y0) * (y1 - y0)
theorem sv_far (x0 y0 x1 y1 x2 y2 x3 y3 : Int) : farD (sv x0 y0) (sv x1 y1) (sv x2 y2) (sv x3 y3) = cutR [fI x0 y0 x1 y1 x2 y2 x3 y3] := by
 unfold farD apt apR apA
 refine (Cn.psub _ _).ext (Cn.cut _) fun t => ?_
 simp only [V_psub, V_pscale, V_padd, V_pmul, V_cut1, sv, Int.mul_one]
 unfold fI; omega
section
variable {x0 y0 x1 y1 x2 y2 x3 y3 : Int} (h0 : -1000 ≤ x0 ∧ x0 ≤ 1000) (k0 : -1000 ≤ y0 ∧ y0 ≤ 1000) (h1 : -1000 ≤ x1 ∧ x1 ≤ 1000) (k1 : -1000 ≤ y1 ∧ y1 ≤ 1000) (h2 : -1000 ≤ x2 ∧ x2 ≤ 1000) (k2 : -1000 ≤ y2 ∧ y2 ≤ 1000) (h3 : -1000 ≤ x3 ∧ x3 ≤ 1000) (k3 : -1000 ≤ y3 ∧ y3 ≤ 1000)
include h0 k0 h1 k1
theorem sRight : Ret env.P 12 [.ag (sv x0 y0).cells, .ag (sv x1 y1).cells] (Po (cutR [x1 - x0])) := by
 have o := pRight_ret (sv_OK (x := x0) (y := y0) (by omega) (by omega)) (sv_OK (x := x1) (y := y1) (by omega) (by omega)) (by decide)
 rwa [sv_nc, sv_nc, CV.rc_cells, CV.rc_cells, sv_right] at o
theorem sAbove : Ret env.P 13 [.ag (sv x0 y0).cells, .ag (sv x1 y1).cells] (Po (cutR [y1 - y0])) := by
 have o := pAbove_ret (sv_OK (x := x0) (y := y0) (by omega) (by omega)) (sv_OK (x := x1) (y := y1) (by omega) (by omega)) (by decide)
 rwa [sv_nc, sv_nc, CV.rc_cells, CV.rc_cells, sv_above] at o
include h2 k2 h3 k3
theorem sFarther : Ret env.P 11 [.ag (sv x0 y0).cells, .ag (sv x1 y1).cells, .ag (sv x2 y2).cells, .ag (sv x3 y3).cells] (Po (cutR [fI x0 y0 x1 y1 x2 y2 x3 y3])) := by
 have o := pFarther_ret (sv_OK (x := x0) (y := y0) (by omega) (by omega)) (sv_OK (x := x1) (y := y1) (by omega) (by omega)) (sv_OK (x := x2) (y := y2) (by omega) (by omega)) (sv_OK (x := x3) (y := y3) (by omega) (by omega)) (by decide) (by decide)
 rwa [sv_nc, sv_nc, sv_nc, sv_nc, CV.rc_cells, CV.rc_cells, CV.rc_cells, CV.rc_cells, sv_far] at o
end
theorem bz_cut1 {n : Int} (hn : -9223372036854775808 ≤ n ∧ n < 9223372036854775808) : Bd 2 64 1 (cutR [n]) := Bd.cut ⟨by simp, fun c hc => by
 simp only [List.mem_cons, List.not_mem_nil, or_false] at hc
 subst hc
 exact sz_le (by decide) (by show c.natAbs < 2 ^ 64; omega)⟩
theorem pis_ret {n : Int} (hn : -9223372036854775808 ≤ n ∧ n < 9223372036854775808) : Ret env.P 6 [.int .i64 n, Po (cutR [n])] (.bool true) := by
 have f1 := qOf_ret [n] (by simp) (fun x hx => by
  simp only [List.mem_cons, List.not_mem_nil, or_false] at hx
  subst hx; exact hn)
 have b := bz_cut1 hn
 have f2 := qSame_ret (cutR [n]) (cutR [n]) (Nat.lt_of_le_of_lt b.len (by decide)) (Nat.lt_of_le_of_lt b.len (by decide)) (fun c hc => Nat.lt_of_le_of_lt (b.sz c hc) (by decide)) (fun c hc => Nat.lt_of_le_of_lt (b.sz c hc) (by decide))
 rw [decide_eq_true rfl] at f2
 replace f1 : Ret env.P 8 [.sl [[.int .i64 n]]] (PI (cutR [n])) := f1
 clear b
 generalize cutR [n] = p at *
 refine ret_of_Wf (E := env) (fun _ => 0) [(0, .int .i64 n), (1, Po p)] Try.func6 rfl (by kernel_rfl) (by kernel_rfl) (show 2 ≤ 10 by decide) (by simp) ?_
 refine W.sreg (fun K hK => ?_); simp (disch := omega) [gA, wA]; refine W.lv [0, 1] hK fun J j => ?_; clear hK K; simp; refine j _ ?_; clear j J
 refine W.sreg (fun K hK => ?_)
 simp (disch := omega) [gA, wA]
 refine callR f1 ?_
 simp (disch := omega) [gA, wA]
 refine callR f2 ?_
 simp (disch := omega) [gA, wA]
 refine W.lv [4] hK fun J j => ?_; clear hK K; simp; refine j _ ?_; clear j J
 refine W.ret ?_
 simp [go]
end Go.Proofs.Ytdiladmkbpnhoaa
