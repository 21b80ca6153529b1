import Derived.Test.YtmdcopgjjfihnaaGreatLgg
set_option linter.unusedSimpArgs false
set_option linter.unusedVariables false
namespace Go.Proofs.YtmdcopgjjfihnaaGreat
open Go Pm
open ZX hiding N W

/-! A CHAIN's METHODS. -/
@[simp] theorem pers_rd {l : List PV} : pers (.rd l) = true := rfl
@[simp] theorem pers1_rd {l : List PV} : pers1 (.rd l) = true := rfl
@[simp] theorem ids1_rd {l : List PV} : ids1 (.rd l) = [] := rfl
@[simp] theorem idsV_rd {l : List PV} : idsV (.rd l) = [] := rfl
@[simp] theorem fz_rd {rows : Pm.Rows} {l : List PV} : fz rows (.rd l) = .rd l := rfl
@[simp] theorem pz_rd {rows : Pm.Rows} {l : List PV} : pz rows (.rd l) = .rd l := rfl
theorem SignK_ret (v : Int) : Ret env.P 210 [I v] (.int .i64 v.sign) := by
  have h1 := Sign_ret (decide (v < 0)) (dig LL v.natAbs)
  have e : (if (dig LL v.natAbs).length = 0 then 0 else if decide (v < 0) = true then -1 else 1 : Int) = v.sign := by
    by_cases h : v = 0
    · subst h; decide
    · have : dig LL v.natAbs ≠ [] := fun h2 => h (by have := V_dig hLL v.natAbs; rw [h2] at this; simp [V] at this; omega)
      have h3 := List.length_pos_iff.2 this
      rw [if_neg (by omega)]
      rcases Int.lt_trichotomy v 0 with h4 | h4 | h4
      · rw [if_pos (by simpa using h4), Int.sign_eq_neg_one_of_neg h4]
      · exact absurd h4 h
      · rw [if_neg (by simp; omega), Int.sign_eq_one_of_pos h4]
  rw [e] at h1; exact h1
theorem pEnds_ret {x : List Int} (hx : PB x) (cx : Cn x) : Ret env.P 188 [Po x] (.tup [.int .i64 (eL x), .int .i64 (eR x)]) := by
  have n1 := pNormI_ret hx
  rw [show cutR x = x from cx] at n1
  have l1 := LeadI_ret hx cx
  have hS := SignK_ret (lead x)
  have hl : x.length < 1099511627776 := by have := hx.pok.len; simpa using this
  have hL : eL x = if x.length % 2 = 0 then -(lead x).sign else (lead x).sign := rfl
  have hR : eR x = (lead x).sign := rfl
  have hs : -1 ≤ (lead x).sign ∧ (lead x).sign ≤ 1 := by
    rcases Int.lt_trichotomy (lead x) 0 with h | h | h
    · rw [Int.sign_eq_neg_one_of_neg h]; decide
    · rw [h]; decide
    · rw [Int.sign_eq_one_of_pos h]; decide
  generalize (lead x).sign = s at *
  generalize lead x = lx at *
  generalize eL x = a at *
  generalize eR x = b at *
  refine ret_of_Wf (E := env) (fun _ => 0) [(0, Po x)] Tryz.func188 rfl (by kernel_rfl) (by kernel_rfl) (show 1 ≤ 18 by decide) (by simp) ?_
  refine W.sreg (fun K hK => ?_); simp (disch := omega) [gA, wA]; refine W.lv [0] hK fun J j => ?_; clear hK K; simp; refine j _ ?_; clear j J
  refine W.sreg (fun K hK => ?_)
  simp (disch := omega) [gA, wA]
  refine callR n1 ?_
  simp (disch := omega) [gA, wA]
  refine W.lv [0] hK fun J j => ?_; clear hK K; simp; refine j _ ?_; clear j J
  refine W.sreg (fun K hK => ?_)
  simp (disch := omega) [gA, wA]
  refine callR l1 ?_
  simp (disch := omega) [gA, wA]
  refine callR hS ?_
  simp (disch := omega) [gA, wA]
  refine W.lv [0, 3] hK fun J j => ?_; clear hK K; simp; refine j _ ?_; clear j J
  refine W.seq ?_
  refine W.sregJ (fun σ => ∃ (q : Bool) (rows : Pm.Rows) (clk : Nat), σ = ⟨fa [(3, .int .i64 s), (12, .bool q)], rows, clk⟩ ∧ q = decide (x.length % 2 = 0)) (fun K hK => ?_) ?_
  · simp (disch := omega) [gA, wA]
    exact hK _ _ (Gh_fa _ [3, 12]) ⟨_, _, _, rfl, by rw [Bool.eq_iff_iff]; simp; omega⟩
  rintro _ ⟨q, rows, clk, rfl, rfl⟩
  refine W.cond ⟨_, rfl, fun h => ?_, fun h => ?_⟩
  · rw [if_pos (of_decide_eq_true h)] at hL
    subst hL hR
    refine W.sreg (fun K hK => ?_); simp (disch := omega) [gA, wA]; refine W.lv [2, 3] hK fun J j => ?_; clear hK K; simp; refine j _ ?_; clear j J
    refine W.ret ?_
    simp [go]
  · rw [if_neg (of_decide_eq_false h)] at hL
    subst hL hR
    refine W.skip ?_
    refine W.sreg (fun K hK => ?_); simp (disch := omega) [gA, wA]; refine W.lv [2, 3] hK fun J j => ?_; clear hK K; simp; refine j _ ?_; clear j J
    refine W.ret ?_
    simp [go]
theorem minus1_ret {x : List Int} (hx : PB x) (cx : Cn x) : Ret env.P 187 [Po x] (.int .i64 (eL x)) := by
  have h1 := pEnds_ret hx cx
  generalize eL x = a at *
  generalize eR x = b at *
  refine ret_of_Wf (E := env) (fun _ => 0) [(0, Po x)] Tryz.func187 rfl (by kernel_rfl) (by kernel_rfl) (show 1 ≤ 11 by decide) (by simp) ?_
  refine W.sreg (fun K hK => ?_); simp (disch := omega) [gA, wA]; refine W.lv [0] hK fun J j => ?_; clear hK K; simp; refine j _ ?_; clear j J
  refine W.sreg (fun K hK => ?_)
  simp (disch := omega) [gA, wA]
  refine callR h1 ?_
  simp (disch := omega) [gA, wA]
  refine W.lv [3] hK fun J j => ?_; clear hK K; simp; refine j _ ?_; clear j J
  refine W.sreg (fun K hK => ?_); simp (disch := omega) [gA, wA]; refine W.lv [2] hK fun J j => ?_; clear hK K; simp; refine j _ ?_; clear j J
  refine W.ret ?_
  simp [go]
theorem plus1_ret {x : List Int} (hx : PB x) (cx : Cn x) : Ret env.P 189 [Po x] (.int .i64 (eR x)) := by
  have h1 := pEnds_ret hx cx
  generalize eL x = a at *
  generalize eR x = b at *
  refine ret_of_Wf (E := env) (fun _ => 0) [(0, Po x)] Tryz.func189 rfl (by kernel_rfl) (by kernel_rfl) (show 1 ≤ 11 by decide) (by simp) ?_
  refine W.sreg (fun K hK => ?_); simp (disch := omega) [gA, wA]; refine W.lv [0] hK fun J j => ?_; clear hK K; simp; refine j _ ?_; clear j J
  refine W.sreg (fun K hK => ?_)
  simp (disch := omega) [gA, wA]
  refine callR h1 ?_
  simp (disch := omega) [gA, wA]
  refine W.lv [4] hK fun J j => ?_; clear hK K; simp; refine j _ ?_; clear j J
  refine W.sreg (fun K hK => ?_); simp (disch := omega) [gA, wA]; refine W.lv [2] hK fun J j => ?_; clear hK K; simp; refine j _ ?_; clear j J
  refine W.ret ?_
  simp [go]
theorem sgn3 (v : Int) : v.sign = -1 ∨ v.sign = 0 ∨ v.sign = 1 := by
  rcases Int.lt_trichotomy v 0 with h | h | h
  · exact .inl (Int.sign_eq_neg_one_of_neg h)
  · rw [h]; exact .inr (.inl rfl)
  · exact .inr (.inr (Int.sign_eq_one_of_pos h))
theorem eL3 (x : List Int) : eL x = -1 ∨ eL x = 0 ∨ eL x = 1 := by
  have := sgn3 (lead x)
  unfold eL; split <;> omega
theorem cTurns_ret {c : List ZX} (hl : c.length < 1000000) {n d : Int} {q : Rat} (hS : ∀ p ∈ c, Ret env.P 133 [Po p.l, T2 n d] (.int .i64 (sgA p.l q.num q.den))) : Ret env.P 65 [CH c, T2 n d] (.int .i64 (vr (sgs c q.num q.den))) := by
  have hT1 : ∀ p ∈ c, Ret env.P 132 [Po p.l, .rd [.bool (decide (n < 0)), us (dig LL n.natAbs), .bool (decide (d < 0)), us (dig LL d.natAbs)]] (.int .i64 (sgA p.l q.num q.den)) := fun p hp => by
    have h1 := hS p hp
    generalize sgA p.l q.num q.den = r at *
    generalize p.l = x at *
    refine ret_of_Wf (E := env) (fun _ => 0) [(0, Po x), (1, .rd [.bool (decide (n < 0)), us (dig LL n.natAbs), .bool (decide (d < 0)), us (dig LL d.natAbs)])] Tryz.func132 rfl (by kernel_rfl) (by kernel_rfl) (show 2 ≤ 7 by decide) (by simp) ?_
    refine W.sreg (fun K hK => ?_); simp (disch := omega) [gA, wA]; refine W.lv [0, 1] hK fun J j => ?_; clear hK K; simp; refine j _ ?_; clear j J
    refine W.sreg (fun K hK => ?_)
    simp (disch := omega) [gA, wA]
    refine callR h1 ?_
    simp (disch := omega) [gA, wA]
    refine W.lv [3] hK fun J j => ?_; clear hK K; simp; refine j _ ?_; clear j J
    refine W.ret ?_
    simp [go]
  have h1 := cturns_ret 132 rfl [.rd [.bool (decide (n < 0)), us (dig LL n.natAbs), .bool (decide (d < 0)), us (dig LL d.natAbs)]] rfl c (fun p => sgA p.l q.num q.den) hl (fun p hp => sgn3 _) hT1
  rw [show c.map (fun p => sgA p.l q.num q.den) = sgs c q.num q.den from rfl] at h1
  generalize vr (sgs c q.num q.den) = r at *
  refine ret_of_Wf (E := env) (fun _ => 0) [(0, CH c), (1, T2 n d)] Tryz.func65 rfl (by kernel_rfl) (by kernel_rfl) (show 2 ≤ 8 by decide) (by simp) ?_
  refine W.sreg (fun K hK => ?_); simp (disch := omega) [gA, wA]; refine W.lv [0, 3] hK fun J j => ?_; clear hK K; simp; refine j _ ?_; clear j J
  refine W.sreg (fun K hK => ?_)
  simp (disch := omega) [gA, wA]
  refine callR h1 ?_
  simp (disch := omega) [gA, wA]
  refine W.lv [4] hK fun J j => ?_; clear hK K; simp; refine j _ ?_; clear j J
  refine W.ret ?_
  simp [go]
theorem cBetween_ret {c : List ZX} (hl : c.length < 1000000) {n d m e : Int} {p q : Rat} {z : Int} (hz : Ret env.P 123 [T2 m e, T2 n d] (.int .i64 z)) (h1 : Ret env.P 65 [CH c, T2 n d] (.int .i64 (vr (sgs c p.num p.den)))) (h2 : Ret env.P 65 [CH c, T2 m e] (.int .i64 (vr (sgs c q.num q.den)))) :
    Ret env.P 55 [CH c, T2 n d, T2 m e] (.int .i64 (if z < 0 then 0 else (vr (sgs c p.num p.den) : Int) - vr (sgs c q.num q.den))) := by
  have v1 := vr_le (sgs c p.num p.den)
  have v2 := vr_le (sgs c q.num q.den)
  have l1 : (sgs c p.num p.den).length = c.length := by simp [sgs]
  have l2 : (sgs c q.num q.den).length = c.length := by simp [sgs]
  generalize vr (sgs c p.num p.den) = a at *
  generalize vr (sgs c q.num q.den) = b at *
  refine ret_of_Wf (E := env) (fun _ => 0) [(0, CH c), (1, T2 n d), (2, T2 m e)] Tryz.func55 rfl (by kernel_rfl) (by kernel_rfl) (show 3 ≤ 18 by decide) (by simp) ?_
  refine W.sreg (fun K hK => ?_); simp (disch := omega) [gA, wA]; refine W.lv [0, 4, 5] hK fun J j => ?_; clear hK K; simp; refine j _ ?_; clear j J
  refine W.seq ?_
  refine W.sreg (fun K hK => ?_)
  simp (disch := omega) [gA, wA]
  refine callR hz ?_
  simp (disch := omega) [gA, wA]
  refine W.lv [0, 4, 5, 10] hK fun J j => ?_; clear hK K; simp; refine j _ ?_; clear j J
  refine W.cond ⟨_, rfl, fun h => ?_, fun h => ?_⟩
  · have h : z < 0 := by simpa using h
    rw [if_pos h]
    refine W.sreg (fun K hK => ?_); simp (disch := omega) [gA, wA]; refine W.lv [6] hK fun J j => ?_; clear hK K; simp; refine j _ ?_; clear j J
    refine W.ret ?_
    simp [go]
  · have h : ¬ z < 0 := by simpa using h
    rw [if_neg h]
    refine W.skip ?_
    refine W.sdrw (fun K hK => ?_)
    simp (disch := omega) [gA, wA]
    refine callR h1 ?_
    simp (disch := omega) [gA, wA]
    refine callR h2 ?_
    simp (disch := omega) [gA, wA]
    refine W.lv [6] hK fun J j => ?_; clear hK K; simp; refine j _ ?_; clear j J
    refine W.ret ?_
    simp [go]
section
variable {c : List ZX} (hl : c.length < 1000000) (hb : ∀ p ∈ c, PB p.l)
include hl hb
theorem minus_ret : Ret env.P 117 [CH c] (.int .i64 (vr (sgL c))) := by
  have h1 := cturns_ret 187 rfl [] rfl c (fun p => eL p.l) hl (fun p hp => eL3 p.l) (fun p hp => minus1_ret (hb p hp) p.c)
  rw [show c.map (fun p => eL p.l) = sgL c from rfl] at h1
  generalize vr (sgL c) = r at *
  refine ret_of_Wf (E := env) (fun _ => 0) [(0, CH c)] Tryz.func117 rfl (by kernel_rfl) (by kernel_rfl) (show 1 ≤ 5 by decide) (by simp) ?_
  refine W.sreg (fun K hK => ?_); simp (disch := omega) [gA, wA]; refine W.lv [0] hK fun J j => ?_; clear hK K; simp; refine j _ ?_; clear j J
  refine W.sreg (fun K hK => ?_)
  simp (disch := omega) [gA, wA]
  refine callR h1 ?_
  simp (disch := omega) [gA, wA]
  refine W.lv [2] hK fun J j => ?_; clear hK K; simp; refine j _ ?_; clear j J
  refine W.ret ?_
  simp [go]
theorem plus_ret : Ret env.P 118 [CH c] (.int .i64 (vr (sgR c))) := by
  have h1 := cturns_ret 189 rfl [] rfl c (fun p => eR p.l) hl (fun p hp => sgn3 _) (fun p hp => plus1_ret (hb p hp) p.c)
  rw [show c.map (fun p => eR p.l) = sgR c from rfl] at h1
  generalize vr (sgR c) = r at *
  refine ret_of_Wf (E := env) (fun _ => 0) [(0, CH c)] Tryz.func118 rfl (by kernel_rfl) (by kernel_rfl) (show 1 ≤ 5 by decide) (by simp) ?_
  refine W.sreg (fun K hK => ?_); simp (disch := omega) [gA, wA]; refine W.lv [0] hK fun J j => ?_; clear hK K; simp; refine j _ ?_; clear j J
  refine W.sreg (fun K hK => ?_)
  simp (disch := omega) [gA, wA]
  refine callR h1 ?_
  simp (disch := omega) [gA, wA]
  refine W.lv [2] hK fun J j => ?_; clear hK K; simp; refine j _ ?_; clear j J
  refine W.ret ?_
  simp [go]
theorem cCount_ret : Ret env.P 48 [CH c] (.int .i64 ((vr (sgL c) : Int) - vr (sgR c))) := by
  have h1 := minus_ret hl hb
  have h2 := plus_ret hl hb
  have v1 := vr_le (sgL c)
  have v2 := vr_le (sgR c)
  have l1 : (sgL c).length = c.length := by simp [sgL]
  have l2 : (sgR c).length = c.length := by simp [sgR]
  generalize vr (sgL c) = a at *
  generalize vr (sgR c) = b at *
  refine ret_of_Wf (E := env) (fun _ => 0) [(0, CH c)] Tryz.func48 rfl (by kernel_rfl) (by kernel_rfl) (show 1 ≤ 8 by decide) (by simp) ?_
  refine W.sreg (fun K hK => ?_); simp (disch := omega) [gA, wA]; refine W.lv [0] hK fun J j => ?_; clear hK K; simp; refine j _ ?_; clear j J
  refine W.sreg (fun K hK => ?_)
  simp (disch := omega) [gA, wA]
  refine callR h1 ?_
  simp (disch := omega) [gA, wA]
  refine callR h2 ?_
  simp (disch := omega) [gA, wA]
  refine W.lv [2] hK fun J j => ?_; clear hK K; simp; refine j _ ?_; clear j J
  refine W.ret ?_
  simp [go]
theorem cAbove_ret {n d : Int} {q : Rat} (h1 : Ret env.P 65 [CH c, T2 n d] (.int .i64 (vr (sgs c q.num q.den)))) : Ret env.P 50 [CH c, T2 n d] (.int .i64 ((vr (sgs c q.num q.den) : Int) - vr (sgR c))) := by
  have h2 := plus_ret hl hb
  have v1 := vr_le (sgs c q.num q.den)
  have v2 := vr_le (sgR c)
  have l1 : (sgs c q.num q.den).length = c.length := by simp [sgs]
  have l2 : (sgR c).length = c.length := by simp [sgR]
  generalize vr (sgs c q.num q.den) = a at *
  generalize vr (sgR c) = b at *
  refine ret_of_Wf (E := env) (fun _ => 0) [(0, CH c), (1, T2 n d)] Tryz.func50 rfl (by kernel_rfl) (by kernel_rfl) (show 2 ≤ 11 by decide) (by simp) ?_
  refine W.sreg (fun K hK => ?_); simp (disch := omega) [gA, wA]; refine W.lv [0, 3] hK fun J j => ?_; clear hK K; simp; refine j _ ?_; clear j J
  refine W.sreg (fun K hK => ?_)
  simp (disch := omega) [gA, wA]
  refine callR h1 ?_
  simp (disch := omega) [gA, wA]
  refine callR h2 ?_
  simp (disch := omega) [gA, wA]
  refine W.lv [4] hK fun J j => ?_; clear hK K; simp; refine j _ ?_; clear j J
  refine W.ret ?_
  simp [go]
theorem cAll_ret : Ret env.P 64 [CH c] (sls zp c) := by
  refine ret_of_Wf (E := env) (fun _ => 0) [(0, CH c)] Tryz.func64 rfl (by kernel_rfl) (by kernel_rfl) (show 1 ≤ 22 by decide) (by simp) ?_
  refine W.sreg (fun K hK => ?_); simp (disch := omega) [gA, wA]; refine W.lv [0] hK fun J j => ?_; clear hK K; simp; refine j _ ?_; clear j J
  refine W.sreg (fun K hK => ?_); simp (disch := omega) [gA, wA]; refine W.lv [0, 3] hK fun J j => ?_; clear hK K; simp; refine j _ ?_; clear j J
  refine W.nil 3 3 24 1 (by simp) (by decide) (fun K hK => ?_)
  refine W.lv [0, 3] hK fun J j => ?_; clear hK K; simp; refine j _ ?_; clear j J
  refine W.seq ?_
  refine W.sreg (fun K hK => ?_); simp (disch := omega) [gA, wA]; refine W.lv [3, 9, 10, 11] hK fun J j => ?_; clear hK K; simp; refine j _ ?_; clear j J
  refine W.block ?_
  refine W.loopG (fun k σ => ∃ (i ver : Nat) (rows : Pm.Rows) (clk : Nat), σ = ⟨fa [(3, .own 3 ver 0 i), (9, sls zp c), (10, .int .i64 c.length), (11, .int .i64 i)], rows, clk⟩ ∧ i + k = c.length ∧ rows 3 = some ⟨ver, 24, 1, emap zp (c.take i)⟩) c.length ?_ ?_
  · exact ⟨_, .refl, 0, _, _, _, rfl, by omega, by simp [emap]⟩
  rintro k _ ⟨i, ver, rows, clk, rfl, hik, hr⟩
  have hil : (emap zp (c.take i)).length = i := by simp [emap]; omega
  refine W.sreg (fun K hK => ?_); simp (disch := omega) [gA, wA]; refine W.lv [3, 9, 10, 11, 12] hK fun J j => ?_; clear hK K; simp; refine j _ ?_; clear j J
  refine W.seq ?_
  refine W.cond ⟨_, rfl, fun h => ?_, fun h => ?_⟩
  · have hi : i < c.length := by simp at h; omega
    have n1 := pNormI_ret (hb _ (nth_mem hi))
    rw [show cutR (nth c i).l = (nth c i).l from (nth c i).c] at n1
    have hap : emap zp (c.take i) ++ [[sls ie (nth c i).l]] = emap zp (c.take (i + 1)) := by
      rw [app_zp, List.take_add_one, List.getElem?_eq_getElem hi, nth_eq hi]; rfl
    generalize hpr : emap zp (c.take i) = pr at *
    refine W.skip ?_
    refine W.seq ?_
    refine W.block ?_
    refine W.sreg (fun K hK => ?_); simp (disch := omega) [gA, wA, hi]; refine W.lv [3, 5, 9, 10, 11] hK fun J j => ?_; clear hK K; simp; refine j _ ?_; clear j J
    refine W.reg (fun K hK => ?_)
    simp (disch := omega) [gA, wA]
    refine callR n1 ?_
    simp (disch := omega) [gA, wA, hr, hil, hap]
    refine W.lv [3, 9, 10, 11] hK fun J j => ?_; clear hK K; simp; refine j _ ?_; clear j J
    refine W.reg (fun K hK => ?_); simp (disch := omega) [gA, wA]
    refine hK _ ⟨k - 1, _, Gh_fa _ [3, 9, 10, 11], by omega, i + 1, _, _, _, rfl, by omega, by simp [hap]⟩
  · have hi : i = c.length := by simp at h; omega
    subst hi
    rw [List.take_length] at hr hil
    have htk : c.take c.length = c := List.take_length
    refine W.exit ?_; simp only [pX, if_true, if_false, reduceIte, Nat.reduceEqDiff]
    refine W.sreg (fun K hK => ?_); simp (disch := omega) [gA, wA]; refine W.lv [2] hK fun J j => ?_; clear hK K; simp; refine j _ ?_; clear j J
    refine W.ret ?_
    simp [go, hr, hil, htk]
end
end Go.Proofs.YtmdcopgjjfihnaaGreat
