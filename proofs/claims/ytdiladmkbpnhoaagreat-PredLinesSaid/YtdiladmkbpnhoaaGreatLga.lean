import Derived.Test.YtdiladmkbpnhoaaGreatLw
set_option linter.unusedSimpArgs false
set_option linter.unusedVariables false
namespace Go.Proofs.YtdiladmkbpnhoaaGreat
open Go Pm
abbrev R2 (n d : Int) : PV := .ag [sls i64e (dig DD n.natAbs), .bool (decide (n < 0)), sls i64e (dig DD d.natAbs), .bool (decide (d < 0))]
theorem RR_R2 (q : Rat) : RR q = R2 q.num q.den := by
 have : decide ((q.den : Int) < 0) = false := decide_eq_false (by omega)
 show PV.ag (re q) = PV.ag _
 rw [this]; rfl
def hm (n d : Int) : List Int → Int × Int
 | [] => (0, 1)
 | a :: l => ((hm n d l).1 * n + a * (hm n d l).2, (hm n d l).2 * d)
def sgA (x : List Int) (n d : Int) : Int := (hm n d x).1.sign
theorem hm_bd {s k u : Nat} {n d : Int} (hn : sz 2 n ≤ u) (hd : sz 2 d ≤ u) (hu : 1 ≤ u) : ∀ {x : List Int}, Bd 2 s k x → sz 2 (hm n d x).1 ≤ s + x.length * (u + 1) ∧ sz 2 (hm n d x).2 ≤ x.length * u + 1
 | [], _ => ⟨by show sz 2 0 ≤ _; rw [show sz 2 0 = 0 by decide]; omega, by show sz 2 1 ≤ _; exact Nat.le_trans (sz_le (k := 1) (by decide) (by decide)) (by omega)⟩
 | a :: l, h => by
  obtain ⟨h1, h2⟩ := hm_bd hn hd hu (x := l) ⟨Nat.le_trans (by simp) h.len, fun c hc => h.sz c (by simp [hc])⟩
  have ha := h.sz a (by simp)
  have e : (a :: l).length * u = l.length * u + u := by rw [List.length_cons, Nat.add_mul]; omega
  have e' : (a :: l).length * (u + 1) = l.length * u + l.length + u + 1 := by rw [List.length_cons, Nat.add_mul, Nat.mul_add]; omega
  have e'' : l.length * (u + 1) = l.length * u + l.length := by rw [Nat.mul_add]; omega
  refine ⟨?_, ?_⟩
  ·have g1 := sz_mul (b := 2) (by decide) h1 hn
   have g2 := sz_mul (b := 2) (by decide) ha h2
   have := sz_add (b := 2) (by decide) (Nat.le_trans g1 (Nat.le_max_left _ (s + (l.length * u + 1)))) (Nat.le_trans g2 (Nat.le_max_right (s + l.length * (u + 1) + u) _))
   refine Nat.le_trans this ?_
   rw [e', e'']
   omega
  ·have := sz_mul (b := 2) (by decide) h2 hd
   rw [e]
   exact Nat.le_trans this (by omega)
theorem CmpR2_ret (p q p' q' : Int) (hp : sz 2 p ≤ YY) (hq : sz 2 q ≤ YY) (hp' : sz 2 p' ≤ YY) (hq' : sz 2 q' ≤ YY) : Ret env.P 47 [R2 p q, R2 p' q'] (.int .i64 (cmp3 (p * q') (p' * q))) := by
 have zz : ∀ {x : Int}, sz 2 x ≤ YY → Z x := fun h => by simp only [Z, YY] at *; omega
 have s1 := sz_mul (b := 2) (by decide) hp hq'
 have s2 := sz_mul (b := 2) (by decide) hp' hq
 have m1 := rMul_ret p q' (zz hp) (zz hq')
 have m2 := rMul_ret p' q (zz hp') (zz hq)
 have c1 := rCmp_ret (p * q') (p' * q) (by simp only [Z, YY] at *; omega) (by simp only [Z, YY] at *; omega)
 generalize cmp3 (p * q') (p' * q) = r at *
 generalize p * q' = x1 at *
 generalize p' * q = x2 at *
 refine ret_of_Wf (E := env) (fun _ => 0) [(0, R2 p q), (1, R2 p' q')] Tryz.func47 rfl (by kernel_rfl) (by kernel_rfl) (show 2 ≤ 16 by decide) (by simp) ?_
 refine W.sreg (fun K hK => ?_); simp (disch := omega) [gA, wA]; refine W.lv [2, 3] hK fun J j => ?_; clear hK K; simp; refine j _ ?_; clear j J
 refine W.sdrw (fun K hK => ?_)
 simp (disch := omega) [gA, wA]
 refine callR m1 ?_
 simp (disch := omega) [gA, wA]
 refine callR m2 ?_
 simp (disch := omega) [gA, wA]
 refine callR c1 ?_
 simp (disch := omega) [gA, wA]
 refine W.lv [4] hK fun J j => ?_; clear hK K; simp; refine j _ ?_; clear j J
 refine W.ret ?_
 simp [go]
theorem CmpR_ret (p q : Rat) (hp : ZR YY p) (hq : ZR YY q) : Ret env.P 47 [RR p, RR q] (.int .i64 (cmp3 (p.num * q.den) (q.num * p.den))) := by
 rw [RR_R2, RR_R2]; exact CmpR2_ret _ _ _ _ hp.n hp.d hq.n hq.d
@[simp] theorem dig_one : dig DD 1 = [1] := by decide
theorem Whole_ret (x : List Int) (hl : x.length < 9223372036854775808) : Ret env.P 125 [PI x] (.bool true) := by
 refine ret_of_Wf (E := env) (fun _ => 0) [(0, PI x)] Tryz.func125 rfl (by kernel_rfl) (by kernel_rfl) (show 1 ≤ 29 by decide) (by simp) ?_
 refine W.sreg (fun K hK => ?_); simp (disch := omega) [gA, wA]; refine W.lv [0] hK fun J j => ?_; clear hK K; simp; refine j _ ?_; clear j J
 refine W.seq ?_
 refine W.sreg (fun K hK => ?_); simp (disch := omega) [gA, wA]; refine W.lv [0, 5, 6] hK fun J j => ?_; clear hK K; simp; refine j _ ?_; clear j J
 refine W.block ?_
 refine W.loopG (fun k σ => ∃ (i : Nat) (rows : Pm.Rows) (clk : Nat), σ = ⟨fa [(0, PI x), (5, .int .i64 x.length), (6, .int .i64 i)], rows, clk⟩ ∧ i + k = x.length) x.length ?_ ?_
 ·exact ⟨_, .refl, 0, _, _, rfl, by omega⟩
 rintro k _ ⟨i, rows, clk, rfl, hI⟩
 refine W.sreg (fun K hK => ?_); simp (disch := omega) [gA, wA]; refine W.lv [0, 5, 6, 7] hK fun J j => ?_; clear hK K; simp; refine j _ ?_; clear j J
 refine W.seq ?_
 refine W.cond ⟨_, rfl, fun h => ?_, fun h => ?_⟩
 ·have hi : i < x.length := by simp at h; omega
  refine W.skip ?_
  refine W.seq ?_
  refine W.block ?_
  refine W.sreg (fun K hK => ?_); simp (disch := omega) [gA, wA]; refine W.lv [0, 3, 5, 6] hK fun J j => ?_; clear hK K; simp; refine j _ ?_; clear j J
  refine W.sreg (fun K hK => ?_); simp (disch := omega) [gA, wA, hi]; refine W.lv [0, 5, 6, 27] hK fun J j => ?_; clear hK K; simp; refine j _ ?_; clear j J
  refine W.cond ⟨_, rfl, fun h => ?_, fun h => ?_⟩
  ·simp at h
   exact absurd rfl h
  ·refine W.skip ?_
   refine W.reg (fun K hK => ?_); simp (disch := omega) [gA, wA]
   refine hK _ ⟨k - 1, _, Gh_fa _ [0, 5, 6], by omega, i + 1, _, _, rfl, by omega⟩
 ·refine W.exit ?_; simp only [pX, if_true, if_false, reduceIte, Nat.reduceEqDiff]
  refine W.sreg (fun K hK => ?_); simp (disch := omega) [gA, wA]; refine W.lv [2] hK fun J j => ?_; clear hK K; simp; refine j _ ?_; clear j J
  refine W.ret ?_
  simp [go]
theorem qSign_ret {x : List Int} {n d : Int} {s k u : Nat} (hx : Bd 2 s k x) (hn : sz 2 n ≤ u) (hd : sz 2 d ≤ u) (hu : 1 ≤ u) (hk : k < 1099511627776) (hB : s + k * (u + 1) + u < YY) : Ret env.P 57 [PI x, R2 n d] (.int .i64 (sgA x n d)) := by
 have hl := hx.len
 have hW := Whole_ret x (by omega)
 have hO := rOf_ret 1 (by decide) (by decide)
 have zz : ∀ {x : Int}, sz 2 x ≤ YY → Z x := fun h => by simp only [Z, YY] at *; omega
 have hY : YY = 137438953472 := rfl
 have bd := fun i => hm_bd (s := s) (k := k) (x := x.drop i) hn hd hu ⟨by simp; omega, fun c hc => hx.sz c (List.mem_of_mem_drop hc)⟩
 have hle : ∀ i, (x.drop i).length * (u + 1) ≤ k * (u + 1) := fun i => Nat.mul_le_mul_right _ (by simp; omega)
 have hle2 : ∀ i, (x.drop i).length * u ≤ (x.drop i).length * (u + 1) := fun i => Nat.mul_le_mul_left _ (by omega)
 have step : ∀ i, i < x.length → hm n d (x.drop i) = ((hm n d (x.drop (i + 1))).1 * n + nth x i * (hm n d (x.drop (i + 1))).2, (hm n d (x.drop (i + 1))).2 * d) := fun i hi => by
  rw [List.drop_eq_getElem_cons hi, nth_eq hi]; rfl
 have hend : hm n d (x.drop x.length) = (0, 1) := by rw [List.drop_length]; rfl
 have hS := rSign_ret (hm n d x).1
 have h0 : hm n d (x.drop 0) = hm n d x := rfl
 have hs : sgA x n d = (hm n d x).1.sign := rfl
 rw [hs]
 have M : ∀ i, i < x.length → Ret env.P 39 [RI (hm n d (x.drop (i + 1))).1, RI n] (RI ((hm n d (x.drop (i + 1))).1 * n)) ∧ Ret env.P 39 [RI (nth x i), RI (hm n d (x.drop (i + 1))).2] (RI (nth x i * (hm n d (x.drop (i + 1))).2)) ∧
   Ret env.P 99 [RI ((hm n d (x.drop (i + 1))).1 * n), RI (nth x i * (hm n d (x.drop (i + 1))).2)] (RI (hm n d (x.drop i)).1) ∧ Ret env.P 39 [RI (hm n d (x.drop (i + 1))).2, RI d] (RI (hm n d (x.drop i)).2) := fun i hi => by
  obtain ⟨b1, b2⟩ := bd (i + 1)
  have l1 := hle (i + 1)
  have l2 := hle2 (i + 1)
  have ha := hx.sz _ (nth_mem hi)
  have g1 := sz_mul (b := 2) (by decide) b1 hn
  have g2 := sz_mul (b := 2) (by decide) ha b2
  have e := step i hi
  rw [e]
  exact ⟨rMul_ret _ _ (zz (by omega)) (zz (by omega)), rMul_ret _ _ (zz (by omega)) (zz (by omega)), rAdd_ret _ _ (by simp only [Z]; omega) (by simp only [Z]; omega), rMul_ret _ _ (zz (by omega)) (zz (by omega))⟩
 clear bd hle hle2 step
 generalize hm n d x = r0 at *
 refine ret_of_Wf (E := env) (fun _ => 0) [(0, PI x), (1, R2 n d)] Tryz.func57 rfl (by kernel_rfl) (by kernel_rfl) (show 2 ≤ 42 by decide) (by simp) ?_
 refine W.sreg (fun K hK => ?_); simp (disch := omega) [gA, wA]; refine W.lv [0, 3] hK fun J j => ?_; clear hK K; simp; refine j _ ?_; clear j J
 refine W.seq ?_
 refine W.sreg (fun K hK => ?_)
 simp (disch := omega) [gA, wA]
 refine callR hW ?_
 simp (disch := omega) [gA, wA]
 refine W.lv [0, 3, 10] hK fun J j => ?_; clear hK K; simp; refine j _ ?_; clear j J
 refine W.cond ⟨_, rfl, fun h => ?_, fun h => ?_⟩
 ·simp at h
 refine W.skip ?_
 refine W.sreg (fun K hK => ?_); simp (disch := omega) [gA, wA]; refine W.lv [0, 3, 5] hK fun J j => ?_; clear hK K; simp; refine j _ ?_; clear j J
 refine W.sreg (fun K hK => ?_)
 simp (disch := omega) [gA, wA]
 refine callR hO ?_
 simp (disch := omega) [gA, wA]
 refine W.lv [0, 3, 5, 6] hK fun J j => ?_; clear hK K; simp; refine j _ ?_; clear j J
 refine W.seq ?_
 refine W.sreg (fun K hK => ?_); simp (disch := omega) [gA, wA]; refine W.lv [0, 3, 5, 6, 7] hK fun J j => ?_; clear hK K; simp; refine j _ ?_; clear j J
 refine W.row (id := 5) (els := [[.nil, .bool false]]) [[sls i64e (dig DD (0 : Int).natAbs), .bool (decide ((0 : Int) < 0))]] (by simp; first | exact ⟨rfl, rfl, rfl⟩ | exact ⟨rfl, rfl⟩ | rfl) ⟨⟨.inr ⟨rfl, rfl⟩, .inl rfl, trivial⟩, trivial⟩ ?_
 refine W.block ?_
 refine W.loopG (fun k σ => ∃ (v3 v5 v6 e3 e5 e6 : Nat) (rows : Pm.Rows) (clk : Nat), σ = ⟨fa [(0, PI x), (3, .ptr 3 v3 0 0), (5, .ptr 5 v5 0 0), (6, .ptr 6 v6 0 0), (7, .int .i64 ((k : Int) - 1))], rows, clk⟩ ∧ k ≤ x.length ∧
  rows 3 = some ⟨v3, e3, 4, [[sls i64e (dig DD n.natAbs), .bool (decide (n < 0)), sls i64e (dig DD d.natAbs), .bool (decide (d < 0))]]⟩ ∧
  rows 5 = some ⟨v5, e5, 2, [[sls i64e (dig DD (hm n d (x.drop k)).1.natAbs), .bool (decide ((hm n d (x.drop k)).1 < 0))]]⟩ ∧
  rows 6 = some ⟨v6, e6, 2, [[sls i64e (dig DD (hm n d (x.drop k)).2.natAbs), .bool (decide ((hm n d (x.drop k)).2 < 0))]]⟩) x.length ?_ ?_
 ·exact ⟨_, .refl, _, _, _, _, _, _, _, _, rfl, Nat.le_refl _, by simp; (first | exact ⟨rfl, rfl, rfl⟩ | exact ⟨rfl, rfl⟩ | rfl), by rw [hend]; simp; (first | exact ⟨rfl, rfl, rfl⟩ | exact ⟨rfl, rfl⟩ | rfl), by rw [hend]; simp; (first | exact ⟨rfl, rfl, rfl⟩ | exact ⟨rfl, rfl⟩ | rfl)⟩
 rintro k _ ⟨v3, v5, v6, e3, e5, e6, rows, clk, rfl, hkl, hr3, hr5, hr6⟩
 refine W.seq ?_
 refine W.sreg (fun K hK => ?_); simp (disch := omega) [gA, wA]; refine W.lv [0, 3, 5, 6, 7, 21] hK fun J j => ?_; clear hK K; simp; refine j _ ?_; clear j J
 refine W.cond ⟨_, rfl, fun h => ?_, fun h => ?_⟩
 ·have hk0 : 0 < k := by simp at h; omega
  obtain ⟨k, rfl⟩ : ∃ j, k = j + 1 := ⟨k - 1, by omega⟩
  obtain ⟨m1, m2, m3, m4⟩ := M k (by omega)
  generalize hm n d (x.drop (k + 1)) = A at *
  have e1 : (((k + 1 : Nat) : Int) - 1).toNat = k := by omega
  refine W.skip ?_
  refine W.seq ?_
  refine W.block ?_
  refine W.sdrw (fun K hK => ?_)
  simp (disch := omega) [gA, wA, hr3, hr5, hr6]
  refine callR m1 ?_
  simp (disch := omega) [gA, wA, e1]
  try simp (disch := omega) [gA, wA, e1, hr6]
  refine callR m2 ?_
  simp (disch := omega) [gA, wA]
  refine callR m3 ?_
  simp (disch := omega) [gA, wA, hr5]
  try (refine stepTxt (by kernel_rfl) ?_)
  try simp (disch := omega) [gA, wA, hr5]
  refine W.lv [0, 3, 5, 6, 7] hK fun J j => ?_; clear hK K; simp; refine j _ ?_; clear j J
  refine W.reg (fun K hK => ?_)
  simp (disch := omega) [gA, wA, hr3, hr6]
  refine callR m4 ?_
  simp (disch := omega) [gA, wA, hr6]
  refine W.lv [0, 3, 5, 6, 7] hK fun J j => ?_; clear hK K; simp; refine j _ ?_; clear j J
  refine W.reg (fun K hK => ?_); simp (disch := omega) [gA, wA]
  refine hK _ ⟨k, _, Gh_fa _ [0, 3, 5, 6, 7], by omega, v3, v5, v6, _, _, _, _, _, rfl, by omega, by simp [hr3]; exact rfl, by simp; exact rfl, by simp; exact rfl⟩
 ·have hk0 : k = 0 := by simp at h; omega
  subst hk0
  rw [h0] at hr5
  refine W.exit ?_; simp only [pX, if_true, if_false, reduceIte, Nat.reduceEqDiff]
  refine W.sreg (fun K hK => ?_)
  simp (disch := omega) [gA, wA, hr5]
  refine callR hS ?_
  simp (disch := omega) [gA, wA]
  refine W.lv [4] hK fun J j => ?_; clear hK K; simp; refine j _ ?_; clear j J
  refine W.ret ?_
  simp [go]
end Go.Proofs.YtdiladmkbpnhoaaGreat
