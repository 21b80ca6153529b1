import Derived.Test.YtdiladmkbpnhoaaGreatLgb
set_option linter.unusedSimpArgs false
set_option linter.unusedVariables false
namespace Go.Proofs.YtdiladmkbpnhoaaGreat
open Go Pm
open ZX hiding N W
theorem sq_dv {a : ZX} (ha : a ≠ 0) : Nf (sq a) ∧ dv (sq a) (nf a) := by
 have nA := nf_Nf ha
 unfold sq
 split
 ·exact ⟨nA, dv.refl _⟩
 ·exact ⟨(wz_spec nA 0).1, wz_dv_a nA 0⟩
theorem Lay.sqb {s n : Nat} {a : ZX} (h : Lay s n a) (ha : a ≠ 0) : BZ (qb s n) n (sq a) := h.nfz.dv (nf_Nf ha) (sq_dv ha).1 (sq_dv ha).2
theorem Lay.ch {s n : Nat} {a : ZX} (h : Lay s n a) (ha : a ≠ 0) (hn1 : 1 ≤ n) : Ch (qb s n) n (sq a) := ⟨h.sqb ha, h.hn, hn1, Nat.le_trans (Nat.mul_le_mul_right _ (by omega)) h.hC⟩
theorem qChain_ret {s n : Nat} {a : ZX} (h : Lay s n a) (ha : a ≠ 0) (hn1 : 1 ≤ n) (h1 : 1 ≤ s) : Ret env.P 89 [PI a.l] (sls zq (chn (sq a))) :=
 qChain_retC (qSquareZ_ret h h1) (h.ch ha hn1) (by unfold qb; omega)
abbrev AP (x : List Int) (c : List ZX) (n d : Int) : PV := .ag [PI x, sls zq c, sls i64e (dig DD n.natAbs), .bool (decide (n < 0)), sls i64e (dig DD d.natAbs), .bool (decide (d < 0)), sls i64e (dig DD n.natAbs), .bool (decide (n < 0)), sls i64e (dig DD d.natAbs), .bool (decide (d < 0))]
theorem sz_small {v : Int} {k : Nat} (h : v.natAbs < 2 ^ k) : sz 2 v ≤ k := sz_le (by decide) h
theorem Rational_ret {n d : Int} (hn : n.natAbs < 65536) (hd : d.natAbs < 65536) (h0 : d ≠ 0) : ∃ C : List ZX, Ret env.P 21 [R2 n d] (AP [-n, d] C n d) := by
 have cn : Cn [-n, d] := by
  show cutR [-n, d] = [-n, d]
  exact cutR_ne h0 [-n]
 have bz : BZ 16 2 ⟨[-n, d], cn⟩ := ⟨by simp, fun c hc => by
  simp only [List.mem_cons, List.not_mem_nil, or_false] at hc
  rcases hc with rfl | rfl
  ·exact sz_small (by rw [Int.natAbs_neg]; exact hn)
  ·exact sz_small hd⟩
 have hL : Lay 16 2 ⟨[-n, d], cn⟩ := ⟨bz, by decide, by decide, by decide⟩
 have hc := qChain_ret hL (ZX.ne_zero.2 (by show 0 < [-n, d].length; simp)) (by decide) (by decide)
 generalize chn (sq ⟨[-n, d], cn⟩) = C at *
 refine ⟨C, ?_⟩
 have zs : ∀ {v : Int}, v.natAbs < 65536 → sz 2 v ≤ 16 := fun h => sz_small h
 have hO := rOf_ret 1 (by decide) (by decide)
 have m1 := Make_ret n 1 (by have := zs hn; simp only [Y]; omega) (by decide)
 have m2 := Make_ret d 1 (by have := zs hd; simp only [Y]; omega) (by decide)
 have hng := NegR_ret (n : Rat)
 rw [qmk_one] at m1 m2
 rw [show -((n : Int) : Rat) = ((-n : Int) : Rat) by simp] at hng
 rw [show RR ((n : Int) : Rat) = .ag (ri n) from congrArg PV.ag (re_int n)] at m1 hng
 rw [show RR ((d : Int) : Rat) = .ag (ri d) from congrArg PV.ag (re_int d)] at m2
 rw [show RR ((-n : Int) : Rat) = .ag (ri (-n)) from congrArg PV.ag (re_int (-n))] at hng
 have e1 : PI [-n, d] = .sl [ri (-n), ri d] := rfl
 replace hc : Ret env.P 89 [PI [-n, d]] (sls zq C) := hc
 rw [e1] at hc
 unfold AP
 rw [e1]
 clear e1 hL bz cn
 generalize -n = m at *
 simp only [ri_def, dig_one] at *
 refine ret_of_Wf (E := env) (fun _ => 0) [(0, R2 n d)] Tryz.func21 rfl (by kernel_rfl) (by kernel_rfl) (show 1 ≤ 20 by decide) (by simp) ?_
 refine W.sreg (fun K hK => ?_); simp (disch := omega) [gA, wA]; refine W.lv [1, 2] hK fun J j => ?_; clear hK K; simp; refine j _ ?_; clear j J
 refine W.sdrw (fun K hK => ?_)
 simp (maxSteps := 4000000) (disch := omega) [gA, wA]
 refine callR hO ?_
 simp (maxSteps := 4000000) (disch := omega) [gA, wA]
 refine callR m1 ?_
 simp (maxSteps := 4000000) (disch := omega) [gA, wA]
 refine callR hng ?_
 simp (maxSteps := 4000000) (disch := omega) [gA, wA]
 refine callR hO ?_
 simp (maxSteps := 4000000) (disch := omega) [gA, wA]
 refine callR m2 ?_
 simp (maxSteps := 4000000) (disch := omega) [gA, wA]
 refine W.lv [1, 2, 3] hK fun J j => ?_; clear hK K; simp; refine j _ ?_; clear j J
 refine W.sdrw (fun K hK => ?_)
 simp (maxSteps := 4000000) (disch := omega) [gA, wA]
 refine callR hc ?_
 simp (maxSteps := 4000000) (disch := omega) [gA, wA]
 try (refine stepTxt (by kernel_rfl) ?_)
 try simp (maxSteps := 4000000) (disch := omega) [gA, wA]
 refine W.lv [2] hK fun J j => ?_; clear hK K; simp; refine j _ ?_; clear j J
 refine W.ret ?_
 simp [go]
section
variable {x : List Int} {C : List ZX} {n d : Int}
theorem cmp3_self (z : Int) : cmp3 z z = 0 := by unfold cmp3; simp
theorem point_pt (hn : sz 2 n ≤ YY) (hd : sz 2 d ≤ YY) : Ret env.P 146 [AP x C n d] (.bool true) := by
 have c1 := CmpR2_ret n d n d hn hd hn hd
 rw [cmp3_self] at c1
 refine ret_of_Wf (E := env) (fun _ => 0) [(0, AP x C n d)] Tryz.func146 rfl (by kernel_rfl) (by kernel_rfl) (show 1 ≤ 9 by decide) (by simp) ?_
 refine W.sreg (fun K hK => ?_); simp (disch := omega) [gA, wA]; refine W.lv [1] hK fun J j => ?_; clear hK K; simp; refine j _ ?_; clear j J
 refine W.sreg (fun K hK => ?_)
 simp (disch := omega) [gA, wA]
 refine callR c1 ?_
 simp (disch := omega) [gA, wA]
 refine W.lv [2] hK fun J j => ?_; clear hK K; simp; refine j _ ?_; clear j J
 refine W.ret ?_
 simp [go]
theorem Zero_pt {y : List Int} {v : Int} (hn : sz 2 n ≤ YY) (hd : sz 2 d ≤ YY) (hl : y.length < 9223372036854775808) (hS : Ret env.P 57 [PI y, R2 n d] (.int .i64 v)) (hv : y = [] → v = 0) : Ret env.P 147 [PI y, AP x C n d] (.bool (decide (v = 0))) := by
 have c1 := point_pt (x := x) (C := C) hn hd
 refine ret_of_Wf (E := env) (fun _ => 0) [(0, PI y), (1, AP x C n d)] Tryz.func147 rfl (by kernel_rfl) (by kernel_rfl) (show 2 ≤ 31 by decide) (by simp) ?_
 refine W.sreg (fun K hK => ?_); simp (disch := omega) [gA, wA]; refine W.lv [0, 3] hK fun J j => ?_; clear hK K; simp; refine j _ ?_; clear j J
 refine W.seq ?_
 refine W.sreg (fun K hK => ?_); simp (disch := omega) [gA, wA]; refine W.lv [0, 3, 8] hK fun J j => ?_; clear hK K; simp; refine j _ ?_; clear j J
 refine W.cond ⟨_, rfl, fun h => ?_, fun h => ?_⟩
 ·have hy : y = [] := by simp at h; exact h
  have hv0 := hv hy
  subst hv0
  refine W.sreg (fun K hK => ?_); simp (disch := omega) [gA, wA]; refine W.lv [4] hK fun J j => ?_; clear hK K; simp; refine j _ ?_; clear j J
  refine W.ret ?_
  simp [go]
 ·refine W.skip ?_
  refine W.seq ?_
  refine W.sreg (fun K hK => ?_)
  simp (disch := omega) [gA, wA]
  refine callR c1 ?_
  simp (disch := omega) [gA, wA]
  refine W.lv [0, 3, 10] hK fun J j => ?_; clear hK K; simp; refine j _ ?_; clear j J
  refine W.cond ⟨_, rfl, fun h => ?_, fun h => ?_⟩
  ·refine W.sreg (fun K hK => ?_)
   simp (disch := omega) [gA, wA]
   refine callR hS ?_
   simp (disch := omega) [gA, wA]
   refine W.lv [4] hK fun J j => ?_; clear hK K; simp; refine j _ ?_; clear j J
   refine W.ret ?_
   simp [go]
   try rfl
  ·simp at h
theorem SignAt_pt {y : List Int} {v : Int} (hn : sz 2 n ≤ YY) (hd : sz 2 d ≤ YY) (hl : y.length < 9223372036854775808) (hS : Ret env.P 57 [PI y, R2 n d] (.int .i64 v)) (hv : y = [] → v = 0) : Ret env.P 90 [PI y, AP x C n d] (.int .i64 v) := by
 have c1 := point_pt (x := x) (C := C) hn hd
 have z1 := Zero_pt (x := x) (C := C) hn hd hl hS hv
 refine ret_of_Wf (E := env) (fun _ => 0) [(0, PI y), (1, AP x C n d)] Tryz.func90 rfl (by kernel_rfl) (by kernel_rfl) (show 2 ≤ 40 by decide) (by simp) ?_
 refine W.sreg (fun K hK => ?_); simp (disch := omega) [gA, wA]; refine W.lv [0, 3] hK fun J j => ?_; clear hK K; simp; refine j _ ?_; clear j J
 refine W.seq ?_
 refine W.sreg (fun K hK => ?_)
 simp (disch := omega) [gA, wA]
 refine callR z1 ?_
 simp (disch := omega) [gA, wA]
 refine W.lv [0, 3, 8] hK fun J j => ?_; clear hK K; simp; refine j _ ?_; clear j J
 refine W.cond ⟨_, rfl, fun h => ?_, fun h => ?_⟩
 ·have hv0 : v = 0 := by simp at h; exact h
  subst hv0
  refine W.sreg (fun K hK => ?_); simp (disch := omega) [gA, wA]; refine W.lv [4] hK fun J j => ?_; clear hK K; simp; refine j _ ?_; clear j J
  refine W.ret ?_
  simp [go]
 ·refine W.skip ?_
  refine W.seq ?_
  refine W.sreg (fun K hK => ?_)
  simp (disch := omega) [gA, wA]
  refine callR c1 ?_
  simp (disch := omega) [gA, wA]
  refine W.lv [0, 3, 15] hK fun J j => ?_; clear hK K; simp; refine j _ ?_; clear j J
  refine W.cond ⟨_, rfl, fun h => ?_, fun h => ?_⟩
  ·refine W.sreg (fun K hK => ?_)
   simp (disch := omega) [gA, wA]
   refine callR hS ?_
   simp (disch := omega) [gA, wA]
   refine W.lv [4] hK fun J j => ?_; clear hK K; simp; refine j _ ?_; clear j J
   refine W.ret ?_
   simp [go]
  ·simp at h
end
def aftF (n d : Int) : Nat → ZX → Int
 | 0, _ => 0
 | k + 1, p => if sgA p.l n d = 0 then aftF n d k (der p) else sgA p.l n d
def aft (n d : Int) (p : ZX) : Int := aftF n d (ZX.N p) p
theorem aftF_zero (n d : Int) : ∀ k, aftF n d k 0 = 0
 | 0 => rfl
 | k + 1 => by
  have h1 : der 0 = 0 := rfl
  have h2 : sgA (0 : ZX).l n d = 0 := by show sgA [] n d = 0; rfl
  rw [aftF, if_pos h2, h1, aftF_zero n d k]
theorem aftF_ge {n d : Int} : ∀ {k j : Nat} {p : ZX}, ZX.N p ≤ k → ZX.N p ≤ j → aftF n d k p = aftF n d j p
 | 0, j, p, h, _ => by
  have : p = 0 := Classical.byContradiction fun h0 => by have := ZX.ne_zero.1 h0; omega
  rw [this, aftF_zero, aftF_zero]
 | k + 1, 0, p, _, h => by
  have : p = 0 := Classical.byContradiction fun h0 => by have := ZX.ne_zero.1 h0; omega
  rw [this, aftF_zero, aftF_zero]
 | k + 1, j + 1, p, h1, h2 => by
  rw [aftF, aftF]
  have := N_der p
  rw [aftF_ge (k := k) (j := j) (p := der p) (by omega) (by omega)]
theorem After_pt {x : List Int} {C : List ZX} {n d : Int} {s k : Nat} {p : ZX} (hp : BZ s k p) (hk : k ≤ 31) (hs : s ≤ 1000000) (hn : sz 2 n ≤ 16) (hd : sz 2 d ≤ 16) : Ret env.P 24 [PI p.l, AP x C n d] (.int .i64 (aft n d p)) := by
 have hN := hp.N
 have hY : YY = 137438953472 := rfl
 have hn' : sz 2 n ≤ YY := by omega
 have hd' : sz 2 d ≤ YY := by omega
 obtain ⟨r, hr⟩ : ∃ r, r = aft n d p := ⟨_, rfl⟩
 rw [← hr]
 unfold aft at hr
 refine ret_of_Wf (E := env) (fun _ => 0) [(0, PI p.l), (1, AP x C n d)] Tryz.func24 rfl (by kernel_rfl) (by kernel_rfl) (show 2 ≤ 17 by decide) (by simp) ?_
 refine W.sreg (fun K hK => ?_); simp (disch := omega) [gA, wA]; refine W.lv [0, 3] hK fun J j => ?_; clear hK K; simp; refine j _ ?_; clear j J
 refine W.seq ?_
 refine W.block ?_
 refine W.loopG (fun m σ => ∃ (q : ZX) (s' v e : Nat) (rows : Pm.Rows) (clk : Nat), σ = ⟨fa [(0, PI q.l), (3, .ptr 3 v 0 0)], rows, clk⟩ ∧
  rows 3 = some ⟨v, e, 10, [[PI x, sls zq C, sls i64e (dig DD n.natAbs), .bool (decide (n < 0)), sls i64e (dig DD d.natAbs), .bool (decide (d < 0)), sls i64e (dig DD n.natAbs), .bool (decide (n < 0)), sls i64e (dig DD d.natAbs), .bool (decide (d < 0))]]⟩ ∧ m = ZX.N q ∧ BZ s' k q ∧ s' + 5 * ZX.N q ≤ s + 5 * k ∧ aftF n d m q = r) (ZX.N p) ?_ ?_
 ·exact ⟨_, .refl, p, s, _, _, _, _, rfl, by simp; first | exact ⟨rfl, rfl⟩ | exact rfl, rfl, hp, by omega, hr.symm⟩
 rintro m _ ⟨q, s', v, e, rows, clk, rfl, hr3, rfl, bq, hsq, hq⟩
 have hlq := bq.len
 have hNq := bq.N
 have hNl : ZX.N q = q.l.length := rfl
 refine W.seq ?_
 refine W.sreg (fun K hK => ?_); simp (disch := omega) [gA, wA]; refine W.lv [0, 3, 8] hK fun J j => ?_; clear hK K; simp; refine j _ ?_; clear j J
 refine W.cond ⟨_, rfl, fun h => ?_, fun h => ?_⟩
 ·have hq0 : q ≠ 0 := ZX.ne_zero.2 (by show 0 < q.l.length; simp at h; omega)
  have hmul : k * (16 + 1) ≤ 31 * 17 := Nat.mul_le_mul hk (Nat.le_refl _)
  have hS := qSign_ret (x := q.l) (n := n) (d := d) (u := 16) bq hn hd (by decide) (by omega) (by omega)
  have hSA := SignAt_pt (x := x) (C := C) hn' hd' (by omega) hS (fun h0 => by rw [h0]; rfl)
  have hD := qDeriveZ_ret bq (by omega) (by omega)
  have hder : ZX.N (der q) < ZX.N q := by have := N_der q; have := ZX.ne_zero.1 hq0; omega
  have bd := bq.der hk
  obtain ⟨j, hj⟩ : ∃ j, ZX.N q = j + 1 := ⟨ZX.N q - 1, by have := ZX.ne_zero.1 hq0; omega⟩
  rw [hj, aftF] at hq
  generalize hv : sgA q.l n d = w at *
  refine W.skip ?_
  refine W.block ?_
  refine W.seq ?_
  refine W.sreg (fun K hK => ?_)
  simp (disch := omega) [gA, wA, hr3]
  refine callR hSA ?_
  simp (disch := omega) [gA, wA]
  refine W.lv [0, 3, 5] hK fun J j => ?_; clear hK K; simp; refine j _ ?_; clear j J
  refine W.sreg (fun K hK => ?_); simp (disch := omega) [gA, wA]; refine W.lv [0, 3, 5, 13] hK fun J j => ?_; clear hK K; simp; refine j _ ?_; clear j J
  refine W.cond ⟨_, rfl, fun h => ?_, fun h => ?_⟩
  ·have hw : w ≠ 0 := by simpa using h
   rw [if_neg hw] at hq
   subst hq
   refine W.sreg (fun K hK => ?_); simp (disch := omega) [gA, wA]; refine W.lv [4] hK fun J j => ?_; clear hK K; simp; refine j _ ?_; clear j J
   refine W.ret ?_
   simp [go]
  ·have hw : w = 0 := by simpa using h
   rw [if_pos hw] at hq
   refine W.skip ?_
   refine W.reg (fun K hK => ?_)
   simp (disch := omega) [gA, wA]
   refine callR hD ?_
   simp (disch := omega) [gA, wA]
   refine hK _ ⟨ZX.N (der q), _, Gh_fa _ [0, 3], hder, der q, s' + 5, v, e, _, _, rfl, by simp [hr3], rfl, bd, by omega, ?_⟩
   rw [← hq]
   exact aftF_ge (Nat.le_refl _) (by omega)
 ·have hq0 : q = 0 := by
   refine Classical.byContradiction fun h0 => ?_
   have h1 := ZX.ne_zero.1 h0
   simp at h; rw [hNl, h] at h1; simp at h1
  subst hq0
  rw [aftF_zero] at hq
  subst hq
  refine W.exit ?_; simp only [pX, if_true, if_false, reduceIte, Nat.reduceEqDiff]
  refine W.sreg (fun K hK => ?_); simp (disch := omega) [gA, wA]; refine W.lv [4] hK fun J j => ?_; clear hK K; simp; refine j _ ?_; clear j J
  refine W.ret ?_
  simp [go]
def sml (n d : Int) : Rat := qmk (n % 61 - 30) (1 + d % 6)
theorem Small_ret (n d : Int) (hn : -9223372036854775808 ≤ n ∧ n < 9223372036854775808) (hd : -9223372036854775808 ≤ d ∧ d < 9223372036854775808) : Ret env.P 22 [.int .i64 n, .int .i64 d] (RR (sml n d)) := by
 have w1 := Within_ret n 61 hn (by decide) (by decide)
 have w2 := Within_ret d 6 hd (by decide) (by decide)
 have h1 := Int.emod_nonneg n (show (61 : Int) ≠ 0 by decide)
 have h2 := Int.emod_lt_of_pos n (show (0 : Int) < 61 by decide)
 have h3 := Int.emod_nonneg d (show (6 : Int) ≠ 0 by decide)
 have h4 := Int.emod_lt_of_pos d (show (0 : Int) < 6 by decide)
 have o1 := OfR_ret (n % 61 - 30) (1 + d % 6) (by omega) (by omega)
 have e : qmk (n % 61 - 30) (1 + d % 6) = sml n d := rfl
 rw [e] at o1
 generalize sml n d = q at *
 generalize n % 61 = a at *
 generalize d % 6 = b at *
 rw [RR_R2] at *
 generalize q.num = qn at *
 generalize (q.den : Int) = qd at *
 refine ret_of_Wf (E := env) (fun _ => 0) [(0, .int .i64 n), (1, .int .i64 d)] Tryz.func22 rfl (by kernel_rfl) (by kernel_rfl) (show 2 ≤ 12 by decide) (by simp) ?_
 refine W.sreg (fun K hK => ?_); simp (disch := omega) [gA, wA]; refine W.lv [0, 1, 4] hK fun J j => ?_; clear hK K; simp; refine j _ ?_; clear j J
 refine W.sreg (fun K hK => ?_)
 simp (disch := omega) [gA, wA]
 refine callR w1 ?_
 simp (disch := omega) [gA, wA]
 refine callR w2 ?_
 simp (disch := omega) [gA, wA]
 refine callR o1 ?_
 simp (disch := omega) [gA, wA]
 refine W.lv [4] hK fun J j => ?_; clear hK K; simp; refine j _ ?_; clear j J
 refine W.ret ?_
 simp [go]
end Go.Proofs.YtdiladmkbpnhoaaGreat
