import Derived.Test.YtdiladmkbpnhoaaGreatLgn
set_option linter.unusedSimpArgs false
set_option linter.unusedVariables false
namespace Go.Proofs.YtdiladmkbpnhoaaGreat
open Go Pm
open ZX hiding N W
section
variable {C : List ZX} {u : Nat} (hb : ∀ p ∈ C, BZ 4500000000 20 p) (hl : C.length ≤ 21) {p q : Rat} (hp : SQ u p) (hq : SQ u q) (hu : u ≤ 1000000000)
include hb hl hp hu
theorem turns_at : Ret env.P 120 [CH C, RT p] (.int .i64 (vt C p)) := by
 have := CT_ret hb (by decide) hl hp hu
 rwa [vr_sgs] at this
theorem abov : Ret env.P 51 [CH C, RT p] (.int .i64 ((vt C p : Int) - vr (sgR C))) := by
 have := cAbove_ret (by omega) (pbs hb (by decide)) (CT_ret hb (by decide) hl hp hu)
 rwa [vr_sgs] at this
include hq
theorem betw0 : Ret env.P 52 [CH C, RT p, RT q] (.int .i64 (if q < p then 0 else (vt C p : Int) - vt C q)) := by
 have z1 := rCmpT_ret (k := u) hq.nL hq.dL hp.nL hp.dL (by omega) (qmk_self _) (qmk_self _) ⟨hq.nL, hq.dL⟩ ⟨hp.nL, hp.dL⟩
 have := cBetween_ret (by omega) z1 (CT_ret hb (by decide) hl hp hu) (CT_ret hb (by decide) hl hq hu)
 rw [vr_sgs, vr_sgs] at this
 have hc : (cmp3 (q.num * p.den) (p.num * q.den) < 0) = (q < p) := propext (cmp3_lt_rat q p)
 simp only [hc] at this
 exact this
theorem betw (hpq : p ≤ q) : Ret env.P 52 [CH C, RT p, RT q] (.int .i64 ((vt C p : Int) - vt C q)) := by
 have := betw0 hb hl hp hq hu
 rwa [if_neg (by grind)] at this
end
theorem SQ.cmp {u : Nat} {p q : Rat} (hp : SQ u p) (hq : SQ u q) (hu : u ≤ YY) : Ret env.P 47 [RR p, RR q] (.int .i64 (cmp3 (p.num * q.den) (q.num * p.den))) := by
 rw [RR_R2, RR_R2]
 exact CmpR2_ret _ _ _ _ (Nat.le_trans hp.n2 hu) (Nat.le_trans hp.d2 hu) (Nat.le_trans hq.n2 hu) (Nat.le_trans hq.d2 hu)
theorem SQ.tor {u : Nat} {p : Rat} (hp : SQ u p) (hu : u ≤ YY) : Ret env.P 49 [RR p] (RT p) := by
 rw [RR_R2]
 have h1 := hp.n2; have h2 := hp.d2
 exact ToR_ret (by simp only [Z, YY] at *; omega) (by simp only [Z, YY] at *; omega)
theorem T2_ag (n d : Int) : T2 n d = .ag [.bool (decide (n < 0)), us (dig LL n.natAbs), .bool (decide (d < 0)), us (dig LL d.natAbs)] := rfl
set_option maxHeartbeats 4000000 in
theorem SturmAdds_ret (l : List Int) (n d m k i j : Int) (hb : ∀ x ∈ l, -9223372036854775808 ≤ x ∧ x < 9223372036854775808) (hl : l.length < 9223372036854775808) (hn : -9223372036854775808 ≤ n ∧ n < 9223372036854775808) (hd : -9223372036854775808 ≤ d ∧ d < 9223372036854775808)
  (hm : -9223372036854775808 ≤ m ∧ m < 9223372036854775808) (hk : -9223372036854775808 ≤ k ∧ k < 9223372036854775808) (hi : -9223372036854775808 ≤ i ∧ i < 9223372036854775808) (hj : -9223372036854775808 ≤ j ∧ j < 9223372036854775808) :
  Ret env.P 7 [sls i64e l, .int .i64 n, .int .i64 d, .int .i64 m, .int .i64 k, .int .i64 i, .int .i64 j] (.bool true) := by
 have hM := Made_ret l hl hb 7 (by decide)
 have mk := mk7 l
 have hm1 := mk.to
 have hm2 := mk.new
 have hcb := mk.bd
 have hcl := mk.len
 have hG := (made_lay7 l).glob (made_ok l 7).1 (by decide)
 have hL := made_left l 7 hG
 generalize chn (sq (made l 7)) = C at *
 generalize (made l 7).l = al at *
 have S1 := Small_ret n d hn hd
 have S2 := Small_ret m k hm hk
 have S3 := Small_ret i j hi hj
 have hall : ∀ x ∈ [sml n d, sml m k, sml i j], SQ 10 x ∧ -30 ≤ x := fun x hx => by
  have e : ∀ a b : Int, SQ 10 (sml a b) := fun a b => ⟨Nat.le_trans (sml_sq a b).n2 (by decide), Nat.le_trans (sml_sq a b).d2 (by decide), by decide⟩
  simp only [List.mem_cons, List.not_mem_nil, or_false] at hx
  rcases hx with rfl | rfl | rfl
  ·exact ⟨e _ _, (sml_range _ _).1⟩
  ·exact ⟨e _ _, (sml_range _ _).1⟩
  ·exact ⟨e _ _, (sml_range _ _).1⟩
 generalize sml n d = s1 at *
 generalize sml m k = s2 at *
 generalize sml i j = s3 at *
 have hA := fun a ha => swpss_all hall a ha
 obtain ⟨x, y, z, hT, hxy, hyz⟩ := swpss_three s1 s2 s3
 have h3 := (hA 3 (by simp)).1
 rw [hT] at h3
 obtain ⟨qx, _⟩ := h3 x (by simp)
 obtain ⟨qy, ry⟩ := h3 y (by simp)
 obtain ⟨qz, _⟩ := h3 z (by simp)
 have qf : SQ 10 (-1000 : Rat) := ⟨by decide, by decide, by decide⟩
 have b1 := betw hcb hcl qx qz (by decide) (by grind)
 have b2 := betw hcb hcl qx qy (by decide) hxy
 have b3 := betw hcb hcl qy qz (by decide) hyz
 have b4 := betw hcb hcl qf qy (by decide) (by grind)
 have a1 := abov hcb hcl qy (by decide)
 have c1 := cCount_ret (c := C) (by omega) (pbs hcb (by decide))
 have of1 := OfR_ret (-1000) 1 (by decide) (by decide)
 rw [show qmk (-1000) 1 = -1000 from by decide] at of1
 have tx := qx.tor (by decide)
 have ty := qy.tor (by decide)
 have tz := qz.tor (by decide)
 have tf := qf.tor (by decide)
 have hw := wakes8_ret
 rw [hL] at c1
 have v1 := vt_le C x
 have v2 := vt_le C y
 have v3 := vt_le C z
 have v4 := vt_le C (-1000)
 have v5 := vr_le (sgR C)
 have l5 : (sgR C).length = C.length := by simp [sgR]
 have hel : ∀ T : List Rat, emap re T = emap re T := fun _ => rfl
 have q1 : ((vt C x : Int) - vt C z) = ((vt C x : Int) - vt C y) + ((vt C y : Int) - vt C z) := by omega
 have q2 : ((vt C (-1000) : Int) - vr (sgR C)) = ((vt C (-1000) : Int) - vt C y) + ((vt C y : Int) - vr (sgR C)) := by omega
 rw [q1] at b1
 rw [q2] at c1
 clear hG hL h3 ry
 generalize vt C x = vx at *
 generalize vt C y = vy at *
 generalize vt C z = vz at *
 generalize vt C (-1000) = vf at *
 generalize vr (sgR C) = vR at *
 refine ret_of_Wf (E := env) (fun _ => 0) [(0, sls i64e l), (1, .int .i64 n), (2, .int .i64 d), (3, .int .i64 m), (4, .int .i64 k), (5, .int .i64 i), (6, .int .i64 j)] Tryz.func7 rfl (by kernel_rfl) (by kernel_rfl) (show 7 ≤ 126 by decide) (by simp) ?_
 refine W.sreg (fun K hK => ?_); simp (disch := omega) [gA, wA]; refine W.lv [0, 1, 2, 3, 4, 5, 6] hK fun J j => ?_; clear hK K; simp; refine j _ ?_; clear j J
 refine W.sreg (fun K hK => ?_)
 simp (disch := omega) [gA, wA]
 refine callR hM ?_
 simp (disch := omega) [gA, wA]
 refine callR hm1 ?_
 simp (disch := omega) [gA, wA]
 refine callR hm2 ?_
 simp (disch := omega) [gA, wA]
 refine W.lv [1, 2, 3, 4, 5, 6, 15, 16] hK fun J j => ?_; clear hK K; simp; refine j _ ?_; clear j J
 refine W.seq ?_
 refine W.sreg (fun K hK => ?_)
 simp (disch := omega) [gA, wA]
 refine W.lv [1, 2, 3, 4, 5, 6, 15, 36] hK fun J j => ?_; clear hK K; simp; refine j _ ?_; clear j J
 refine W.cond ⟨_, rfl, fun h => ?_, fun h => ?_⟩
 ·simp at h
 refine W.skip ?_
 refine W.sregL 9 rfl rfl (fun K hK => ?_)
 simp (disch := omega) [gA, wA]
 refine callR S1 ?_
 simp (disch := omega) [gA, wA]
 refine callR S2 ?_
 simp (disch := omega) [gA, wA]
 refine callR S3 ?_
 simp (disch := omega) [gA, wA]
 refine W.lv [15, 17] hK fun J j => ?_; clear hK K; simp; refine j _ ?_; clear j J
 refine W.seq ?_
 refine W.sreg (fun K hK => ?_); simp (disch := omega) [gA, wA]; refine W.lv [15, 17, 48, 49] hK fun J j => ?_; clear hK K; simp; refine j _ ?_; clear j J
 refine W.block ?_
 refine W.loopG (fun k σ => ∃ (a ver : Nat) (rows : Pm.Rows) (clk : Nat), σ = ⟨fa [(15, CH C), (17, .own 46 ver 0 3), (48, .int .i64 3), (49, .int .i64 a)], rows, clk⟩ ∧ a + k = 3 ∧ rows 46 = some ⟨ver, 43, 4, emap re (swpss [s1, s2, s3] a)⟩) 3 ?_ ?_
 ·exact ⟨_, .refl, 0, _, _, _, rfl, rfl, by simp; rfl⟩
 rintro k _ ⟨a, ver, rows, clk, rfl, hak, hr⟩
 refine W.sreg (fun K hK => ?_); simp (disch := omega) [gA, wA]; refine W.lv [15, 17, 48, 49, 50] hK fun J j => ?_; clear hK K; simp; refine j _ ?_; clear j J
 refine W.seq ?_
 refine W.cond ⟨_, rfl, fun h => ?_, fun h => ?_⟩
 ·have ha : a < 3 := by simp at h; omega
  refine W.skip ?_
  refine W.seq ?_
  refine W.block ?_
  refine W.sreg (fun K hK => ?_); simp (disch := omega) [gA, wA]; refine W.lv [15, 17, 18, 48, 49] hK fun J j => ?_; clear hK K; simp; refine j _ ?_; clear j J
  refine W.sreg (fun K hK => ?_); simp (disch := omega) [gA, wA]; refine W.lv [15, 17, 18, 19, 48, 49] hK fun J j => ?_; clear hK K; simp; refine j _ ?_; clear j J
  refine W.block ?_
  refine W.loopG (fun k' σ => ∃ (b ver : Nat) (rows : Pm.Rows) (clk : Nat), σ = ⟨fa [(15, CH C), (17, .own 46 ver 0 3), (18, .int .i64 a), (19, .int .i64 b), (48, .int .i64 3), (49, .int .i64 a)], rows, clk⟩ ∧ b + k' = a ∧ rows 46 = some ⟨ver, 43, 4, emap re (swps (swpss [s1, s2, s3] a) a b)⟩) a ?_ ?_
  ·exact ⟨_, .refl, 0, _, _, _, rfl, by omega, by simpa [swps] using hr⟩
  clear hr rows clk ver
  rintro k' _ ⟨b, ver, rows, clk, rfl, hbk, hr⟩
  obtain ⟨hA1, hA2⟩ := hA a (by simp; omega)
  simp only [List.length_cons, List.length_nil] at hA2
  obtain ⟨hB1, hB2⟩ := swps_all (a := a) (by omega) hA1 b (by omega)
  have hS : swps (swpss [s1, s2, s3] a) a (b + 1) = swp (swps (swpss [s1, s2, s3] a) a b) a b := rfl
  generalize hTT : swps (swpss [s1, s2, s3] a) a b = TT at *
  have hTl : TT.length = 3 := by omega
  refine W.seq ?_
  refine W.sreg (fun K hK => ?_); simp (disch := omega) [gA, wA]; refine W.lv [15, 17, 18, 19, 48, 49, 54] hK fun J j => ?_; clear hK K; simp; refine j _ ?_; clear j J
  refine W.cond ⟨_, rfl, fun h => ?_, fun h => ?_⟩
  ·have hba : b < a := by simp at h; omega
   have haT : a < TT.length := by omega
   have hbT : b < TT.length := by omega
   have cab := (hB1 _ (nth_mem haT)).1.cmp (hB1 _ (nth_mem hbT)).1 (by decide)
   have hlt := cmp3_lt_rat (nth TT a) (nth TT b)
   generalize cmp3 ((nth TT a).num * (nth TT b).den) ((nth TT b).num * (nth TT a).den) = cv at *
   refine W.skip ?_
   refine W.seq_blockJ (fun σ => ∃ (ver : Nat) (rows : Pm.Rows) (clk : Nat), σ = ⟨fa [(15, CH C), (17, .own 46 ver 0 3), (18, .int .i64 a), (19, .int .i64 b), (48, .int .i64 3), (49, .int .i64 a)], rows, clk⟩ ∧ rows 46 = some ⟨ver, 43, 4, emap re (swp TT a b)⟩) ?_ ?_
   ·refine W.sdrw (fun K hK => ?_)
    simp (disch := omega) [gA, wA, hr, haT, hbT]
    refine callR cab ?_
    simp (disch := omega) [gA, wA]
    refine W.lv [15, 17, 18, 19, 48, 49, 66] hK fun J j => ?_; clear hK K; simp; refine j _ ?_; clear j J
    refine W.cond ⟨_, rfl, fun h => ?_, fun h => ?_⟩
    ·have h : cv < 0 := by simpa using h
     have hsw : swp TT a b = (TT.set a (nth TT b)).set b (nth TT a) := if_pos (hlt.1 h)
     refine W.drw (fun K hK => ?_)
     simp (disch := omega) [gA, wA, hr, haT, hbT]
     (try (refine stepTxt (of_decide_eq_true (by kernel_rfl)) ?_)); (try simp (maxSteps := 4000000) (disch := omega) [gA, wA, hr, haT, hbT]); (repeat rw [if_pos (by kernel_rfl)]); (try simp (maxSteps := 4000000) (disch := omega) [gA, wA, hr, haT, hbT])
     (try (refine stepTxt (of_decide_eq_true (by kernel_rfl)) ?_)); (try simp (maxSteps := 4000000) (disch := omega) [gA, wA, hr, haT, hbT]); (repeat rw [if_pos (by kernel_rfl)]); (try simp (maxSteps := 4000000) (disch := omega) [gA, wA, hr, haT, hbT])
     (try (refine stepTxt (of_decide_eq_true (by kernel_rfl)) ?_)); (try simp (maxSteps := 4000000) (disch := omega) [gA, wA, hr, haT, hbT]); (repeat rw [if_pos (by kernel_rfl)]); (try simp (maxSteps := 4000000) (disch := omega) [gA, wA, hr, haT, hbT])
     exact hK _ ⟨_, Gh_fa _ [15, 17, 18, 19, 48, 49], _, _, _, rfl, by simp [hsw]⟩
    ·have h : ¬ cv < 0 := by simpa using h
     have hsw : swp TT a b = TT := if_neg fun q => h (hlt.2 q)
     refine W.skip ?_
     exact ⟨_, Gh_fa _ [15, 17, 18, 19, 48, 49], _, _, _, rfl, by simp [hsw, hr]⟩
   rintro _ ⟨ver, rows, clk, rfl, hr⟩
   refine W.reg (fun K hK => ?_); simp (disch := omega) [gA, wA]
   refine hK _ ⟨k' - 1, _, Gh_fa _ [15, 17, 18, 19, 48, 49], by omega, b + 1, _, _, _, rfl, by omega, by simp [hS, hr]⟩
  ·have hba : b = a := by simp at h; omega
   subst hba
   refine W.exit ?_; simp only [pX, if_true, if_false, reduceIte, Nat.reduceEqDiff]
   refine W.reg (fun K hK => ?_); simp (disch := omega) [gA, wA]
   refine hK _ ⟨k - 1, _, Gh_fa _ [15, 17, 48, 49], by omega, b + 1, _, _, _, rfl, by omega, by simp [hr, ← hTT, swpss]⟩
 ·have ha : a = 3 := by simp at h; omega
  subst ha
  rw [hT] at hr
  refine W.exit ?_; simp only [pX, if_true, if_false, reduceIte, Nat.reduceEqDiff]
  refine W.sdrw (fun K hK => ?_)
  simp (disch := omega) [gA, wA, hr]
  refine callR tx ?_
  simp (disch := omega) [gA, wA, hr]
  refine callR ty ?_
  simp (disch := omega) [gA, wA, hr]
  refine callR tz ?_
  simp (maxSteps := 4000000) (disch := omega) [gA, wA]
  (try (refine stepTxt (of_decide_eq_true (by kernel_rfl)) ?_)); (try simp (maxSteps := 4000000) (disch := omega) [gA, wA]); (repeat rw [if_pos (by kernel_rfl)]); (try simp (maxSteps := 4000000) (disch := omega) [gA, wA])
  (try (refine stepTxt (of_decide_eq_true (by kernel_rfl)) ?_)); (try simp (maxSteps := 4000000) (disch := omega) [gA, wA]); (repeat rw [if_pos (by kernel_rfl)]); (try simp (maxSteps := 4000000) (disch := omega) [gA, wA])
  (try (refine stepTxt (of_decide_eq_true (by kernel_rfl)) ?_)); (try simp (maxSteps := 4000000) (disch := omega) [gA, wA]); (repeat rw [if_pos (by kernel_rfl)]); (try simp (maxSteps := 4000000) (disch := omega) [gA, wA])
  refine W.lv [15, 20, 21, 22] hK fun J j => ?_; clear hK K; simp; refine j _ ?_; clear j J
  refine W.sreg (fun K hK => ?_)
  simp (disch := omega) [gA, wA]
  refine callR of1 ?_
  simp (disch := omega) [gA, wA]
  refine callR tf ?_
  simp (disch := omega) [gA, wA]
  refine W.lv [15, 20, 21, 22, 23] hK fun J j => ?_; clear hK K; simp; refine j _ ?_; clear j J
  refine W.sdrw (fun K hK => ?_)
  simp (maxSteps := 4000000) (disch := omega) [gA, wA]
  refine callR b1 ?_
  simp (maxSteps := 4000000) (disch := omega) [gA, wA]
  refine callR b2 ?_
  simp (maxSteps := 4000000) (disch := omega) [gA, wA]
  refine callR b3 ?_
  simp (maxSteps := 4000000) (disch := omega) [gA, wA]
  refine callR c1 ?_
  simp (maxSteps := 4000000) (disch := omega) [gA, wA]
  refine callR b4 ?_
  simp (maxSteps := 4000000) (disch := omega) [gA, wA]
  refine callR a1 ?_
  simp (maxSteps := 4000000) (disch := omega) [gA, wA]
  refine callR hw ?_
  simp (maxSteps := 4000000) (disch := omega) [gA, wA]
  refine W.lv [14] hK fun J j => ?_; clear hK K; simp; refine j _ ?_; clear j J
  refine W.ret ?_
  simp [go]
end Go.Proofs.YtdiladmkbpnhoaaGreat
