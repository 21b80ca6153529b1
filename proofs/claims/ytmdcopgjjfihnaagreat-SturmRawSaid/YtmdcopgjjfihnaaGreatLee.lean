import Derived.Test.YtmdcopgjjfihnaaGreatLed
set_option linter.unusedSimpArgs false
set_option linter.unusedVariables false
namespace Go.Proofs.YtmdcopgjjfihnaaGreat
open Go Pm

noncomputable def gcdl (L : List ZX) : ZX := L.foldl gz 0
theorem gcdl_succ {L : List ZX} {i : Nat} (h : i < L.length) : gcdl (L.take (i + 1)) = gz (gcdl (L.take i)) (nth L i) := by
  unfold gcdl; rw [take_succ_nth h, List.foldl_append]; rfl
def prodl (L : List ZX) : ZX := L.foldl (· * ·) 1
theorem prodl_succ {L : List ZX} {i : Nat} (h : i < L.length) : prodl (L.take (i + 1)) = prodl (L.take i) * nth L i := by
  unfold prodl; rw [take_succ_nth h, List.foldl_append]; rfl
theorem pOne_ret : Ret env.P 57 [.sl [[.int .i64 1]]] (Po (1 : ZX).l) := by
  have := pOf_ret [1] (by decide) (by decide)
  exact this
noncomputable def sq (a : ZX) : ZX := if ZX.N a ≤ 1 then nf a else sz' (nf a)
theorem Square_retG {α : Type} {g : α → List PV} {l : List α} {s n : Nat} {a : ZX} (h : Lay s n a) (p1 : Ret env.P 176 [sls g l] (Po (nf a).l)) : Ret env.P 108 [sls g l] (Po (sq a).l) := by
  have hqb := h.qb_le
  have hn := h.hn
  have hA := h.nfz
  have hdeg := deg_ret hA.bz (by omega)
  have hsq : sq a = if ZX.N (nf a) ≤ 1 then nf a else sz' (nf a) := by rw [N_nf]; rfl
  have nA : 2 ≤ ZX.N (nf a) → Nf (nf a) := fun h2 => nf_Nf fun h0 => by rw [h0, nf_zero] at h2; revert h2; decide
  rw [hsq]
  generalize nf a = A at *
  refine ret_of_Wf (E := env) (fun _ => 0) [(0, sls g l)] Tryz.func108 rfl (by kernel_rfl) (by kernel_rfl) (show 1 ≤ 15 by decide) (by simp) ?_
  refine W.sreg (fun K hK => ?_); simp (disch := omega) [gA, wA]; refine W.lv [0] hK fun J j => ?_; clear hK K; simp; refine j _ ?_; clear j J
  refine W.sreg (fun K hK => ?_)
  simp (disch := omega) [gA, wA]
  refine callR p1 ?_
  simp (disch := omega) [gA, wA]
  refine W.lv [0] hK fun J j => ?_; clear hK K; simp; refine j _ ?_; clear j J
  refine W.seq ?_
  refine W.sreg (fun K hK => ?_)
  simp (disch := omega) [gA, wA]
  refine callR hdeg ?_
  simp (disch := omega) [gA, wA]
  refine W.lv [0, 7] hK fun J j => ?_; clear hK K; simp; refine j _ ?_; clear j J
  refine W.cond ⟨_, rfl, fun h3 => ?_, fun h3 => ?_⟩
  · have h2 : ZX.N A ≤ 1 := by simp at h3; omega
    rw [if_pos h2]
    refine W.sreg (fun K hK => ?_); simp (disch := omega) [gA, wA]; refine W.lv [2] hK fun J j => ?_; clear hK K; simp; refine j _ ?_; clear j J
    refine W.ret ?_
    simp [go]
  · have h2 : 2 ≤ ZX.N A := by simp at h3; omega
    obtain ⟨t1, t2, t3⟩ := hA.gdz (nA h2) (nA h2) (ZX.dv.refl A)
    rw [if_neg (by omega), show sz' A = qz A (gd A) from rfl]
    generalize (gd A).l = g1 at *
    refine W.skip ?_
    refine W.sreg (fun K hK => ?_)
    simp (disch := omega) [gA, wA]
    refine callR t2 ?_
    simp (disch := omega) [gA, wA]
    refine callR t1 ?_
    simp (disch := omega) [gA, wA]
    refine callR t3 ?_
    simp (disch := omega) [gA, wA]
    refine W.lv [2] hK fun J j => ?_; clear hK K; simp; refine j _ ?_; clear j J
    refine W.ret ?_
    simp [go]
theorem Square_ret {s n : Nat} {a : ZX} (h : Lay s n a) : Ret env.P 108 [Po a.l] (Po (sq a).l) := by
  have hqb := h.qb_le
  have hn := h.hn
  exact Square_retG h (prime_ret h.bz (by unfold qb at hqb; omega) (by omega))
end Go.Proofs.YtmdcopgjjfihnaaGreat
