import Derived.Test.YtmdcopgjjfihnaaGreatLgl
set_option linter.unusedSimpArgs false
set_option linter.unusedVariables false
namespace Go.Proofs.YtmdcopgjjfihnaaGreat
open Go Pm
open ZX hiding N W

/-! LAW 8, ANY COEFFICIENTS. -/
theorem raw8 (p : RP) (h : InP p) (k : Nat) (hk : k ≤ 7) (w : Nat) (hw : w ≤ 2) (hw1 : 1 ≤ w) : Ret env.P 44 [Pg p, .int .i64 (k : Int), .int .i64 (w : Int)] (Pg (keepP k w p)) ∧ Ret env.P 23 [Pg (keepP k w p)] (PI (ZX.of ((keepP k w p).map gv)).l) ∧ Lay (32 * w) (k + 1) (ZX.of ((keepP k w p).map gv)) ∧
    Ret env.P 176 [Pg (keepP k w p)] (Po (nf (ZX.of ((keepP k w p).map gv))).l) := by
  have s := Sm.keep h k w
  have hP := Primitive_ret (keepP k w p) (s.pok (by omega) (by omega)) (s := w) (n := k) s.bd (by omega) (by omega)
  have hL : Lay (32 * w) (k + 1) (ZX.of ((keepP k w p).map gv)) := by
    refine ⟨s.bd2.cut.mono (Nat.le_refl _) (by omega), by omega, ?_, ?_⟩
    · have : 2 ^ 5 ≤ 2 ^ (32 * w) := Nat.pow_le_pow_right (by decide) (by omega)
      omega
    · have h1 : qb (32 * w) (k + 1) ≤ 64 + 8 * 133 + 1 := by
        unfold qb
        have : (k + 1) * (2 * (32 * w) + 5) ≤ 8 * 133 := Nat.mul_le_mul (by omega) (by omega)
        omega
      refine Nat.le_trans (Nat.mul_le_mul (show qb (32 * w) (k + 1) + (k + 1) + 6 ≤ 2000 by omega) (Nat.pow_le_pow_right (by decide) (show k + 1 ≤ 8 by omega))) (by decide)
  exact ⟨kPoly_ret p k w h.len (fun c hc => (h.ok c hc).2) (by omega) (by omega), qFrom_ret _ (s.fok (by omega) (by omega)), hL, prime_retG hP⟩
theorem SturmRaw_ret (p0 : RP) (n d : Int) (hp0 : InP p0) (hn : -9223372036854775808 ≤ n ∧ n < 9223372036854775808) (hd : -9223372036854775808 ≤ d ∧ d < 9223372036854775808) :
    Ret env.P 7 [Pg p0, .int .i64 n, .int .i64 d] (.bool true) := by
  obtain ⟨k1, f1, hL, pr⟩ := raw8 p0 hp0 6 (by decide) 1 (by decide) (by decide)
  have hSq := Square_retG hL pr
  have hS := Small_ret n d hn hd
  have hq := sml_sq n d
  have hw := wakes8_ret
  have zz : ∀ {v : Int}, sz 2 v ≤ 5 → Z v := fun h => by simp only [Z]; omega
  have r1 := ToR_ret (zz hq.n2) (zz hq.d2)
  rw [RR_R2] at hS
  have hx : (ZX.of ((keepP 6 1 p0).map gv)).l.length ≤ 7 := hL.bz.len
  by_cases h0 : ZX.of ((keepP 6 1 p0).map gv) = 0
  · rw [h0, sq_zero] at hSq
    have hN := New_nilG (g := ge) hSq
    rw [h0] at f1
    replace f1 : Ret env.P 23 [Pg (keepP 6 1 p0)] (PI []) := f1
    clear hSq pr hL h0 hx
    generalize keepP 6 1 p0 = kp at *
    refine ret_of_Wf (E := env) (fun _ => 0) [(0, Pg p0), (1, .int .i64 n), (2, .int .i64 d)] Tryz.func7 rfl (by kernel_rfl) (by kernel_rfl) (show 3 ≤ 62 by decide) (by simp) ?_
    refine W.sreg (fun K hK => ?_); simp (disch := omega) [gA, wA]; refine W.lv [0, 1, 2] hK fun J j => ?_; clear hK K; simp; refine j _ ?_; clear j J
    refine W.sreg (fun K hK => ?_)
    simp (disch := omega) [gA, wA]
    refine callR k1 ?_
    simp (disch := omega) [gA, wA]
    refine W.lv [0, 1, 2] hK fun J j => ?_; clear hK K; simp; refine j _ ?_; clear j J
    refine W.sreg (fun K hK => ?_)
    simp (disch := omega) [gA, wA]
    refine callR f1 ?_
    simp (disch := omega) [gA, wA]
    refine W.lv [0, 1, 2, 7] hK fun J j => ?_; clear hK K; simp; refine j _ ?_; clear j J
    refine W.sreg (fun K hK => ?_)
    simp (disch := omega) [gA, wA]
    refine callR hN ?_
    simp (disch := omega) [gA, wA]
    refine W.lv [1, 2, 7, 8, 9] hK fun J j => ?_; clear hK K; simp; refine j _ ?_; clear j J
    refine W.seq ?_
    refine W.sreg (fun K hK => ?_); simp (disch := omega) [gA, wA]; refine W.lv [1, 2, 7, 8, 9, 23] hK fun J j => ?_; clear hK K; simp; refine j _ ?_; clear j J
    refine W.cond ⟨_, rfl, fun h => ?_, fun h => ?_⟩
    · refine W.sreg (fun K hK => ?_)
      simp (disch := omega) [gA, wA]
      refine callR hw ?_
      simp (disch := omega) [gA, wA]
      refine W.lv [6] hK fun J j => ?_; clear hK K; simp; refine j _ ?_; clear j J
      refine W.ret ?_
      simp [go]
    · simp at h
  · have hC := hL.ch h0 (by decide)
    obtain ⟨hcb, hcl⟩ := hC.all
    have hN := New_ret hSq hC (sq_dv h0).1
    have hCh := qChain_ret hL h0 (by decide) (by decide)
    have hx0 : (ZX.of ((keepP 6 1 p0).map gv)).l ≠ [] := fun h => h0 (Classical.byContradiction fun h2 => by have := ZX.ne_zero.1 h2; rw [show ZX.N (ZX.of ((keepP 6 1 p0).map gv)) = (ZX.of ((keepP 6 1 p0).map gv)).l.length from rfl, h] at this; simp at this)
    have hpb := pbs hcb (by decide)
    have t1 := TA_ret hcb (by decide) hcl hq (by decide)
    have t2 := CT_ret hcb (by decide) hcl hq (by decide)
    have A1 := Above_ret (by omega) (fun p hp => Nat.lt_of_le_of_lt (hcb p hp).len (by decide)) t1
    have A2 := cAbove_ret (by omega) hpb t2
    have C1 := Count_ret (by omega) (fun p hp => Nat.lt_of_le_of_lt (hcb p hp).len (by decide))
    have C2 := cCount_ret (by omega) hpb
    clear hSq pr hL h0 hC t1 t2 hcb hpb
    generalize chn (sq (ZX.of ((keepP 6 1 p0).map gv))) = C at *
    generalize (ZX.of ((keepP 6 1 p0).map gv)).l = al at *
    generalize keepP 6 1 p0 = kp at *
    generalize (vr (sgs C (sml n d).num (sml n d).den) : Int) - vr (sgR C) = w2 at *
    generalize (vr (sgL C) : Int) - vr (sgR C) = w3 at *
    generalize (sml n d).num = qn at *
    generalize ((sml n d).den : Int) = qd at *
    refine ret_of_Wf (E := env) (fun _ => 0) [(0, Pg p0), (1, .int .i64 n), (2, .int .i64 d)] Tryz.func7 rfl (by kernel_rfl) (by kernel_rfl) (show 3 ≤ 62 by decide) (by simp) ?_
    refine W.sreg (fun K hK => ?_); simp (disch := omega) [gA, wA]; refine W.lv [0, 1, 2] hK fun J j => ?_; clear hK K; simp; refine j _ ?_; clear j J
    refine W.sreg (fun K hK => ?_)
    simp (disch := omega) [gA, wA]
    refine callR k1 ?_
    simp (disch := omega) [gA, wA]
    refine W.lv [0, 1, 2] hK fun J j => ?_; clear hK K; simp; refine j _ ?_; clear j J
    refine W.sreg (fun K hK => ?_)
    simp (disch := omega) [gA, wA]
    refine callR f1 ?_
    simp (disch := omega) [gA, wA]
    refine W.lv [0, 1, 2, 7] hK fun J j => ?_; clear hK K; simp; refine j _ ?_; clear j J
    refine W.sreg (fun K hK => ?_)
    simp (disch := omega) [gA, wA]
    refine callR hN ?_
    simp (disch := omega) [gA, wA]
    refine W.lv [1, 2, 7, 8, 9] hK fun J j => ?_; clear hK K; simp; refine j _ ?_; clear j J
    refine W.seq ?_
    refine W.sreg (fun K hK => ?_); simp (disch := omega) [gA, wA]; refine W.lv [1, 2, 7, 8, 9, 23] hK fun J j => ?_; clear hK K; simp; refine j _ ?_; clear j J
    refine W.cond ⟨_, rfl, fun h => ?_, fun h => ?_⟩
    · simp at h; exact absurd h hx0
    refine W.skip ?_
    refine W.seq ?_
    refine W.sreg (fun K hK => ?_)
    simp (disch := omega) [gA, wA]
    refine W.lv [1, 2, 7, 8, 38] hK fun J j => ?_; clear hK K; simp; refine j _ ?_; clear j J
    refine W.cond ⟨_, rfl, fun h => ?_, fun h => ?_⟩
    · simp at h
    refine W.skip ?_
    refine W.sreg (fun K hK => ?_)
    simp (disch := omega) [gA, wA]
    refine callR hCh ?_
    simp (disch := omega) [gA, wA]
    refine W.lv [1, 2, 8, 10] hK fun J j => ?_; clear hK K; simp; refine j _ ?_; clear j J
    refine W.sreg (fun K hK => ?_)
    simp (disch := omega) [gA, wA]
    refine callR hS ?_
    simp (disch := omega) [gA, wA]
    refine W.lv [8, 10, 11] hK fun J j => ?_; clear hK K; simp; refine j _ ?_; clear j J
    refine W.sdrw (fun K hK => ?_)
    simp (maxSteps := 4000000) (disch := omega) [gA, wA]
    refine callR C2 ?_
    simp (maxSteps := 4000000) (disch := omega) [gA, wA]
    refine callR C1 ?_
    simp (maxSteps := 4000000) (disch := omega) [gA, wA]
    refine callR r1 ?_
    simp (maxSteps := 4000000) (disch := omega) [gA, wA]
    refine callR A2 ?_
    simp (maxSteps := 4000000) (disch := omega) [gA, wA]
    refine callR A1 ?_
    simp (maxSteps := 4000000) (disch := omega) [gA, wA]
    refine callR hw ?_
    simp (maxSteps := 4000000) (disch := omega) [gA, wA]
    refine W.lv [6] hK fun J j => ?_; clear hK K; simp; refine j _ ?_; clear j J
    refine W.ret ?_
    simp [go]
end Go.Proofs.YtmdcopgjjfihnaaGreat
