import Derived.Test.YtmdcopgjjfihnaaGreatLgk
set_option linter.unusedSimpArgs false
set_option linter.unusedVariables false
namespace Go.Proofs.YtmdcopgjjfihnaaGreat
open Go Pm
open ZX hiding N W

/-! CHAINS. -/
theorem made_lay7 (l : List Int) : Lay 153 8 (made l 7) := ⟨(made_ok l 7).2, by decide, by decide, by decide⟩
/-- What the laws ask for of a polynomial that is made. -/
structure MK (a : ZX) (c : List ZX) : Prop where
  to : Ret env.P 54 [PI a.l] (Po a.l)
  new : Ret env.P 45 [Po a.l] (.tup [CH c, .int .i64 0])
  chain : Ret env.P 47 [PI a.l] (sls zq c)
  bd : ∀ p ∈ c, BZ 4500000000 20 p
  len : c.length ≤ 21
theorem MK.of {s n : Nat} {a : ZX} (h : Lay s n a) (h0 : a ≠ 0) (hn1 : 1 ≤ n) (h1 : 1 ≤ s) : MK a (chn (sq a)) := by
  have hC := h.ch h0 hn1
  obtain ⟨hb, hl⟩ := hC.all
  have hqb := h.qb_le
  have hs : s < 1099511627776 := by unfold qb at hqb; omega
  have hn := h.hn
  exact ⟨toZ_ret h.bz hs (by omega), New_ret (Square_ret h) hC (sq_dv h0).1, qChain_ret h h0 hn1 h1, fun p hp => (hb p hp).mono (Nat.le_refl _) hn, hl⟩
theorem mk7 (l : List Int) : MK (made l 7) (chn (sq (made l 7))) := MK.of (made_lay7 l) (made_ok l 7).1 (by decide) (by decide)
theorem SturmChains_ret (l : List Int) (n d : Int) (hb : ∀ x ∈ l, -9223372036854775808 ≤ x ∧ x < 9223372036854775808) (hl : l.length < 9223372036854775808) (hn : -9223372036854775808 ≤ n ∧ n < 9223372036854775808) (hd : -9223372036854775808 ≤ d ∧ d < 9223372036854775808) :
    Ret env.P 12 [sls i64e l, .int .i64 n, .int .i64 d] (.bool true) := by
  have hM := Made_ret l hl hb 7 (by decide)
  have mk := mk7 l
  have hm1 := mk.to
  have hm2 := mk.new
  have hm3 := mk.chain
  have hcb := mk.bd
  have hcl := mk.len
  generalize chn (sq (made l 7)) = C at *
  generalize (made l 7).l = al at *
  have hS := Small_ret n d hn hd
  have hq := sml_sq n d
  have t1 := TA_ret hcb (by decide) hcl hq (by decide)
  have t2 := CT_ret hcb (by decide) hcl hq (by decide)
  have a1 := cAll_ret (c := C) (by omega) (pbs hcb (by decide))
  have zz : ∀ {v : Int}, sz 2 v ≤ 5 → Z v := fun h => by simp only [Z]; omega
  have r1 := ToR_ret (zz hq.n2) (zz hq.d2)
  have hN := New_nil
  have hw := wakes8_ret
  have i1 : ∀ i, i < C.length → Ret env.P 27 [PI (nth C i).l, Po (nth C i).l] (.bool true) := fun i hi => by
    have hb := hcb _ (nth_mem hi)
    have hz := hb.z (show 4500000000 < 1099511627776 by decide)
    have := qSame_ret (nth C i).l (nth C i).l (Nat.lt_of_le_of_lt hb.len (by decide)) (Nat.lt_of_le_of_lt hb.len (by decide)) hz hz
    simpa using this
  rw [RR_R2] at hS
  generalize vr (sgs C (sml n d).num (sml n d).den) = v at *
  generalize (sml n d).num = qn at *
  generalize ((sml n d).den : Int) = qd at *
  refine ret_of_Wf (E := env) (fun _ => 0) [(0, sls i64e l), (1, .int .i64 n), (2, .int .i64 d)] Tryz.func12 rfl (by kernel_rfl) (by kernel_rfl) (show 3 ≤ 81 by decide) (by simp) ?_
  refine W.sreg (fun K hK => ?_); simp (disch := omega) [gA, wA]; refine W.lv [0, 1, 2] hK fun J j => ?_; clear hK K; simp; refine j _ ?_; clear j J
  refine W.sreg (fun K hK => ?_)
  simp (disch := omega) [gA, wA]
  refine callR hM ?_
  simp (disch := omega) [gA, wA]
  refine W.lv [1, 2, 7] hK fun J j => ?_; clear hK K; simp; refine j _ ?_; clear j J
  refine W.sreg (fun K hK => ?_)
  simp (disch := omega) [gA, wA]
  refine callR hm1 ?_
  simp (disch := omega) [gA, wA]
  refine callR hm2 ?_
  simp (disch := omega) [gA, wA]
  refine W.lv [1, 2, 7, 8, 9] hK fun J j => ?_; clear hK K; simp; refine j _ ?_; clear j J
  refine W.seq ?_
  refine W.sreg (fun K hK => ?_)
  simp (disch := omega) [gA, wA]
  refine W.lv [1, 2, 7, 8, 29] hK fun J j => ?_; clear hK K; simp; refine j _ ?_; clear j J
  refine W.cond ⟨_, rfl, fun h => ?_, fun h => ?_⟩
  · simp at h
  refine W.skip ?_
  refine W.sreg (fun K hK => ?_)
  simp (disch := omega) [gA, wA]
  refine callR hm3 ?_
  simp (disch := omega) [gA, wA]
  refine W.lv [1, 2, 8, 10] hK fun J j => ?_; clear hK K; simp; refine j _ ?_; clear j J
  refine W.sreg (fun K hK => ?_)
  simp (disch := omega) [gA, wA]
  refine callR a1 ?_
  simp (disch := omega) [gA, wA]
  refine W.lv [1, 2, 8, 10, 11] hK fun J j => ?_; clear hK K; simp; refine j _ ?_; clear j J
  refine W.seq ?_
  refine W.sreg (fun K hK => ?_); simp (disch := omega) [gA, wA]; refine W.lv [1, 2, 8, 10, 11, 38] hK fun J j => ?_; clear hK K; simp; refine j _ ?_; clear j J
  refine W.cond ⟨_, rfl, fun h => ?_, fun h => ?_⟩
  · simp at h
  refine W.skip ?_
  refine W.seq ?_
  refine W.sreg (fun K hK => ?_); simp (disch := omega) [gA, wA]; refine W.lv [1, 2, 8, 10, 11, 40, 41] hK fun J j => ?_; clear hK K; simp; refine j _ ?_; clear j J
  refine W.block ?_
  refine W.loopG (fun k σ => ∃ (i : Nat) (rows : Pm.Rows) (clk : Nat), σ = ⟨fa [(1, .int .i64 n), (2, .int .i64 d), (8, CH C), (10, sls zq C), (11, sls zp C), (40, .int .i64 C.length), (41, .int .i64 i)], rows, clk⟩ ∧ i + k = C.length) C.length ?_ ?_
  · exact ⟨_, .refl, 0, _, _, rfl, by omega⟩
  rintro k _ ⟨i, rows, clk, rfl, hik⟩
  refine W.sreg (fun K hK => ?_); simp (disch := omega) [gA, wA]; refine W.lv [1, 2, 8, 10, 11, 40, 41, 42] hK fun J j => ?_; clear hK K; simp; refine j _ ?_; clear j J
  refine W.seq ?_
  refine W.cond ⟨_, rfl, fun h => ?_, fun h => ?_⟩
  · have hi : i < C.length := by simp at h; omega
    have hii := i1 i hi
    refine W.skip ?_
    refine W.seq ?_
    refine W.block ?_
    refine W.sreg (fun K hK => ?_); simp (disch := omega) [gA, wA]; refine W.lv [1, 2, 8, 10, 11, 12, 40, 41] hK fun J j => ?_; clear hK K; simp; refine j _ ?_; clear j J
    refine W.sdrw (fun K hK => ?_)
    simp (disch := omega) [gA, wA, hi]
    refine callR hii ?_
    simp (disch := omega) [gA, wA]
    refine W.lv [1, 2, 8, 10, 11, 40, 41, 53] hK fun J j => ?_; clear hK K; simp; refine j _ ?_; clear j J
    refine W.cond ⟨_, rfl, fun h => ?_, fun h => ?_⟩
    · simp at h
    · refine W.skip ?_
      refine W.reg (fun K hK => ?_); simp (disch := omega) [gA, wA]
      refine hK _ ⟨k - 1, _, Gh_fa _ [1, 2, 8, 10, 11, 40, 41], by omega, i + 1, _, _, rfl, by omega⟩
  · refine W.exit ?_; simp only [pX, if_true, if_false, reduceIte, Nat.reduceEqDiff]
    refine W.sreg (fun K hK => ?_)
    simp (disch := omega) [gA, wA]
    refine callR hS ?_
    simp (disch := omega) [gA, wA]
    refine W.lv [8, 10, 13] hK fun J j => ?_; clear hK K; simp; refine j _ ?_; clear j J
    refine W.sreg (fun K hK => ?_)
    simp (disch := omega) [gA, wA]
    refine callR hN ?_
    simp (disch := omega) [gA, wA]
    refine W.lv [8, 10, 13, 14, 15] hK fun J j => ?_; clear hK K; simp; refine j _ ?_; clear j J
    refine W.sdrw (fun K hK => ?_)
    simp (maxSteps := 4000000) (disch := omega) [gA, wA]
    refine callR r1 ?_
    simp (maxSteps := 4000000) (disch := omega) [gA, wA]
    refine callR t2 ?_
    simp (maxSteps := 4000000) (disch := omega) [gA, wA]
    refine callR t1 ?_
    simp (maxSteps := 4000000) (disch := omega) [gA, wA]
    refine callR hw ?_
    simp (maxSteps := 4000000) (disch := omega) [gA, wA]
    refine W.lv [6] hK fun J j => ?_; clear hK K; simp; refine j _ ?_; clear j J
    refine W.ret ?_
    simp [go]
theorem SturmCounts_ret (l : List Int) (n d m k : Int) (hb : ∀ x ∈ l, -9223372036854775808 ≤ x ∧ x < 9223372036854775808) (hl : l.length < 9223372036854775808) (hn : -9223372036854775808 ≤ n ∧ n < 9223372036854775808) (hd : -9223372036854775808 ≤ d ∧ d < 9223372036854775808)
    (hm : -9223372036854775808 ≤ m ∧ m < 9223372036854775808) (hk : -9223372036854775808 ≤ k ∧ k < 9223372036854775808) :
    Ret env.P 8 [sls i64e l, .int .i64 n, .int .i64 d, .int .i64 m, .int .i64 k] (.bool true) := by
  have hM := Made_ret l hl hb 7 (by decide)
  have mk := mk7 l
  have hm1 := mk.to
  have hm2 := mk.new
  have hm3 := mk.chain
  have hcb := mk.bd
  have hcl := mk.len
  generalize chn (sq (made l 7)) = C at *
  generalize (made l 7).l = al at *
  have hS := Small_ret n d hn hd
  have hS' := Small_ret m k hm hk
  have hq := sml_sq n d
  have hq' := sml_sq m k
  have hpb := pbs hcb (by decide)
  have t1 := TA_ret hcb (by decide) hcl hq (by decide)
  have t2 := CT_ret hcb (by decide) hcl hq (by decide)
  have t1' := TA_ret hcb (by decide) hcl hq' (by decide)
  have t2' := CT_ret hcb (by decide) hcl hq' (by decide)
  have yy : ∀ {v : Int}, sz 2 v ≤ 5 → sz 2 v ≤ YY := fun h => by simp only [YY]; omega
  have zz : ∀ {v : Int}, sz 2 v ≤ 5 → Z v := fun h => by simp only [Z]; omega
  have r1 := ToR_ret (zz hq.n2) (zz hq.d2)
  have r1' := ToR_ret (zz hq'.n2) (zz hq'.d2)
  have B1 := Between_ret (yy hq.n2) (yy hq.d2) (yy hq'.n2) (yy hq'.d2) (by omega) t1 t1'
  have z1 := rCmpT_ret (k := 5) hq'.nL hq'.dL hq.nL hq.dL (by decide) (qmk_self _) (qmk_self _) ⟨hq'.nL, hq'.dL⟩ ⟨hq.nL, hq.dL⟩
  have B2 := cBetween_ret (by omega) z1 t2 t2'
  have A1 := Above_ret (by omega) (fun p hp => Nat.lt_of_le_of_lt (hcb p hp).len (by decide)) t1
  have A2 := cAbove_ret (by omega) hpb t2
  have C1 := Count_ret (c := C) (by omega) (fun p hp => Nat.lt_of_le_of_lt (hcb p hp).len (by decide))
  have C2 := cCount_ret (c := C) (by omega) hpb
  have hcm : (cmp3 ((sml m k).num * (sml n d).den) ((sml n d).num * (sml m k).den) < 0) = ((sml m k).num * ((sml n d).den : Int) < (sml n d).num * ((sml m k).den : Int)) := propext cmp3_neg
  simp only [hcm] at B2
  have hw := wakes8_ret
  rw [RR_R2] at hS hS'
  generalize (if (sml m k).num * ((sml n d).den : Int) < (sml n d).num * ((sml m k).den : Int) then (0 : Int) else (vr (sgs C (sml n d).num (sml n d).den) : Int) - vr (sgs C (sml m k).num (sml m k).den)) = w at *
  generalize (vr (sgs C (sml n d).num (sml n d).den) : Int) - vr (sgR C) = w2 at *
  generalize (vr (sgL C) : Int) - vr (sgR C) = w3 at *
  generalize (sml n d).num = qn at *
  generalize ((sml n d).den : Int) = qd at *
  generalize (sml m k).num = qn' at *
  generalize ((sml m k).den : Int) = qd' at *
  refine ret_of_Wf (E := env) (fun _ => 0) [(0, sls i64e l), (1, .int .i64 n), (2, .int .i64 d), (3, .int .i64 m), (4, .int .i64 k)] Tryz.func8 rfl (by kernel_rfl) (by kernel_rfl) (show 5 ≤ 70 by decide) (by simp) ?_
  refine W.sreg (fun K hK => ?_); simp (disch := omega) [gA, wA]; refine W.lv [0, 1, 2, 3, 4] hK fun J j => ?_; clear hK K; simp; refine j _ ?_; clear j J
  refine W.sreg (fun K hK => ?_)
  simp (disch := omega) [gA, wA]
  refine callR hM ?_
  simp (disch := omega) [gA, wA]
  refine W.lv [1, 2, 3, 4, 11] hK fun J j => ?_; clear hK K; simp; refine j _ ?_; clear j J
  refine W.sreg (fun K hK => ?_)
  simp (disch := omega) [gA, wA]
  refine callR hm1 ?_
  simp (disch := omega) [gA, wA]
  refine callR hm2 ?_
  simp (disch := omega) [gA, wA]
  refine W.lv [1, 2, 3, 4, 11, 12, 13] hK fun J j => ?_; clear hK K; simp; refine j _ ?_; clear j J
  refine W.seq ?_
  refine W.sreg (fun K hK => ?_)
  simp (disch := omega) [gA, wA]
  refine W.lv [1, 2, 3, 4, 11, 12, 30] hK fun J j => ?_; clear hK K; simp; refine j _ ?_; clear j J
  refine W.cond ⟨_, rfl, fun h => ?_, fun h => ?_⟩
  · simp at h
  refine W.skip ?_
  refine W.sreg (fun K hK => ?_)
  simp (disch := omega) [gA, wA]
  refine callR hm3 ?_
  simp (disch := omega) [gA, wA]
  refine W.lv [1, 2, 3, 4, 12, 14] hK fun J j => ?_; clear hK K; simp; refine j _ ?_; clear j J
  refine W.sreg (fun K hK => ?_)
  simp (disch := omega) [gA, wA]
  refine callR hS ?_
  simp (disch := omega) [gA, wA]
  refine callR hS' ?_
  simp (disch := omega) [gA, wA]
  refine W.lv [12, 14, 15, 16] hK fun J j => ?_; clear hK K; simp; refine j _ ?_; clear j J
  refine W.sdrw (fun K hK => ?_)
  simp (maxSteps := 4000000) (disch := omega) [gA, wA]
  refine callR r1 ?_
  simp (maxSteps := 4000000) (disch := omega) [gA, wA]
  refine callR r1' ?_
  simp (maxSteps := 4000000) (disch := omega) [gA, wA]
  refine callR B2 ?_
  simp (maxSteps := 4000000) (disch := omega) [gA, wA]
  refine callR B1 ?_
  simp (maxSteps := 4000000) (disch := omega) [gA, wA]
  refine callR r1 ?_
  simp (maxSteps := 4000000) (disch := omega) [gA, wA]
  refine callR A2 ?_
  simp (maxSteps := 4000000) (disch := omega) [gA, wA]
  refine callR A1 ?_
  simp (maxSteps := 4000000) (disch := omega) [gA, wA]
  refine callR C2 ?_
  simp (maxSteps := 4000000) (disch := omega) [gA, wA]
  refine callR C1 ?_
  simp (maxSteps := 4000000) (disch := omega) [gA, wA]
  refine callR hw ?_
  simp (maxSteps := 4000000) (disch := omega) [gA, wA]
  refine W.lv [10] hK fun J j => ?_; clear hK K; simp; refine j _ ?_; clear j J
  refine W.ret ?_
  simp [go]
end Go.Proofs.YtmdcopgjjfihnaaGreat
