import Derived.Test.YtdiladmkbpnhoaaGreatLga
import Derived.Test.YtdiladmkbpnhoaaGreatLbk
set_option linter.unusedSimpArgs false
set_option linter.unusedVariables false
namespace Go.Proofs.YtdiladmkbpnhoaaGreat
open Go Pm
abbrev T2 (n d : Int) : PV := .ag [.bool (decide (n < 0)), us (dig LL n.natAbs), .bool (decide (d < 0)), us (dig LL d.natAbs)]
abbrev RT (q : Rat) : PV := T2 q.num q.den
theorem I_of (x : Int) : I x = .ag [.bool (decide (x < 0)), us (dig LL x.natAbs)] := rfl
theorem gcd2 (n d : Int) : ((gcdL [n, d] : Nat) : Int) = Int.gcd n d := by
 simp only [gcdL, List.foldl_cons, List.foldl_nil, Nat.gcd_zero_left]
 rfl
theorem low_eq {n d : Int} (h : d ≠ 0) : (qmk n d).num = (if d < 0 then -n else n) / (gcdL [n, d] : Nat) ∧ ((qmk n d).den : Int) = (if d < 0 then -d else d) / (gcdL [n, d] : Nat) := by
 have e : ∀ m k : Int, (m = n ∨ m = -n) → (k = d ∨ k = -d) → ((Int.gcd m k : Nat) : Int) = (gcdL [n, d] : Nat) := fun m k hm hk => by
  rw [gcd2]
  rcases hm with rfl | rfl <;> rcases hk with rfl | rfl <;> simp
 rw [qmk_num n d h, qmk_den n d h]
 constructor
 ·rw [e _ _ (by split <;> simp) (by split <;> simp)]
 ·rw [e _ _ (by split <;> simp) (by split <;> simp)]
theorem Szle {x y : Int} (h : Sz y) (hl : x.natAbs ≤ y.natAbs) : Sz x := Nat.lt_of_le_of_lt (sz_mono hLL hl) h
theorem lowest_ret {n d : Int} (hn : sz LL n < 1099511627770) (hd : sz LL d < 1099511627770) (h0 : d ≠ 0) : Ret env.P 200 [I n, I d] (RT (qmk n d)) := by
 have sn : Sz n := by show _ < _; omega
 have sd : Sz d := by show _ < _; omega
 have g0 := wGcd_ret [rw' n, rw' d] 1099511627770 (by decide) (fun c hc => by
  simp only [List.mem_cons, List.not_mem_nil, or_false] at hc
  rcases hc with rfl | rfl
  ·exact ⟨Lim_dig hLL _, by unfold sz at hn; show (dig LL n.natAbs).length ≤ _; omega⟩
  ·exact ⟨Lim_dig hLL _, by unfold sz at hd; show (dig LL d.natAbs).length ≤ _; omega⟩) (by simp)
 rw [show [rw' n, rw' d].map gv = [n, d] by simp [gv_rw]] at g0
 obtain ⟨q1, q2⟩ := low_eq (n := n) h0
 have gd1 : ((gcdL [n, d] : Nat) : Int) ∣ n := gcdL_dvd _ n (by simp)
 have gd2 : ((gcdL [n, d] : Nat) : Int) ∣ d := gcdL_dvd _ d (by simp)
 have gne : ((gcdL [n, d] : Nat) : Int) ≠ 0 := by
  have := gcdL_pos (x := [n, d]) (c := d) (by simp) h0; omega
 have gle : ((gcdL [n, d] : Nat) : Int).natAbs ≤ d.natAbs := Nat.le_of_dvd (by omega) (Int.natAbs_dvd_natAbs.2 gd2)
 have gsz : sz LL ((gcdL [n, d] : Nat) : Int) < 1099511627774 := Nat.lt_of_le_of_lt (sz_mono hLL gle) (by omega)
 have nn : ∀ v, LOK (dig LL v) ↔ LOK (dig LL v) := fun _ => Iff.rfl
 have neg : ∀ v : Int, Sz v → Ret env.P 168 [I v] (I (-v)) := fun v hv => by
  have := wNeg_ret (decide (v < 0)) (dig LL v.natAbs) hv.lok
  rw [show iv (decide (v < 0)) (dig LL v.natAbs) = v from gv_rw v] at this
  exact this
 generalize hg : ((gcdL [n, d] : Nat) : Int) = g at *
 have ex : ∀ v : Int, g ∣ v → sz LL v < 1099511627774 → Ret env.P 169 [I v, I g] (.tup [I (v / g), .int .i64 0]) := fun v hv hs => by
  have := wExactI hs gsz gne
  rw [if_pos (Int.emod_eq_zero_of_dvd hv)] at this
  exact this
 have n1 := neg n sn
 have n2 := neg d sd
 have sneg : ∀ v : Int, sz LL (-v) = sz LL v := fun v => by unfold sz; rw [Int.natAbs_neg]
 have e1 := ex (if d < 0 then -n else n) (by split; exact (Int.dvd_neg.2 gd1); exact gd1) (by split; rw [sneg]; omega; omega)
 have e2 := ex (if d < 0 then -d else d) (by split; exact (Int.dvd_neg.2 gd2); exact gd2) (by split; rw [sneg]; omega; omega)
 rw [← q1] at e1
 rw [← q2] at e2
 have eg : Pg [rw' n, rw' d] = .sl [[.bool (decide (n < 0)), us (dig LL n.natAbs)], [.bool (decide (d < 0)), us (dig LL d.natAbs)]] := rfl
 rw [eg] at g0
 show Ret env.P _ _ (T2 (qmk n d).num (qmk n d).den)
 generalize (qmk n d).num = rn at *
 generalize ((qmk n d).den : Int) = rd at *
 refine ret_of_Wf (E := env) (fun _ => 0) [(0, I n), (1, I d)] Tryz.func200 rfl (by kernel_rfl) (by kernel_rfl) (show 2 ≤ 31 by decide) (by simp) ?_
 refine W.sreg (fun K hK => ?_); simp (disch := omega) [gA, wA]; refine W.lv [2, 3, 4] hK fun J j => ?_; clear hK K; simp; refine j _ ?_; clear j J
 refine W.sreg (fun K hK => ?_)
 simp (disch := omega) [gA, wA]
 refine callR g0 ?_
 simp (disch := omega) [gA, wA]
 refine W.lv [2, 3, 4, 5] hK fun J j => ?_; clear hK K; simp; refine j _ ?_; clear j J
 generalize hn' : (if d < 0 then -n else n) = n' at *
 generalize hd' : (if d < 0 then -d else d) = d' at *
 refine W.seqJ (fun σ => ∃ (rows : Pm.Rows) (clk : Nat), σ = ⟨fa [(2, .ptr 2 0 0 0), (3, .ptr 3 1 0 0), (4, .ptr 4 2 0 0), (5, .ptr 5 3 0 0)], rows, clk⟩ ∧ rows 2 = some ⟨0, 27, 2, [ie n']⟩ ∧ rows 3 = some ⟨1, 27, 2, [ie d']⟩ ∧ rows 4 = some ⟨2, 81, 4, [[.bool false, .nil, .bool false, .nil]]⟩ ∧ rows 5 = some ⟨3, 27, 2, [ie g]⟩) ?_ ?_
 ·refine W.sreg (fun K hK => ?_); simp (disch := omega) [gA, wA]; refine W.lv [2, 3, 4, 5, 11] hK fun J j => ?_; clear hK K; simp; refine j _ ?_; clear j J
  refine W.cond ⟨_, rfl, fun h => ?_, fun h => ?_⟩
  ·have h : d < 0 := by simpa using h
   rw [if_pos h] at hn' hd'
   subst hn' hd'
   refine W.drw (fun K hK => ?_)
   simp (disch := omega) [gA, wA]
   refine callR n1 ?_
   simp (disch := omega) [gA, wA]
   refine callR n2 ?_
   simp (disch := omega) [gA, wA]
   (try (refine stepTxt (of_decide_eq_true (by kernel_rfl)) ?_)); (try simp (maxSteps := 4000000) (disch := omega) [gA, wA]); (repeat rw [if_pos (by kernel_rfl)]); (try simp (maxSteps := 4000000) (disch := omega) [gA, wA])
   (try (refine stepTxt (of_decide_eq_true (by kernel_rfl)) ?_)); (try simp (maxSteps := 4000000) (disch := omega) [gA, wA]); (repeat rw [if_pos (by kernel_rfl)]); (try simp (maxSteps := 4000000) (disch := omega) [gA, wA])
   exact hK _ ⟨_, Gh_fa _ [2, 3, 4, 5], _, _, rfl, by simp, by simp, by simp, by simp⟩
  ·have h : ¬ d < 0 := by simpa using h
   rw [if_neg h] at hn' hd'
   subst hn' hd'
   refine W.skip ?_
   exact ⟨_, Gh_fa _ [2, 3, 4, 5], _, _, rfl, by simp, by simp, by simp, by simp⟩
 rintro _ ⟨rows, clk, rfl, hr2, hr3, hr4, hr5⟩
 simp only [ie] at hr2 hr3 hr5
 refine W.sreg (fun K hK => ?_)
 simp (disch := omega) [gA, wA, hr2, hr5]
 refine callR e1 ?_
 simp (disch := omega) [gA, wA, hr2]
 refine W.lv [2, 3, 4, 5] hK fun J j => ?_; clear hK K; simp; refine j _ ?_; clear j J
 refine W.sreg (fun K hK => ?_)
 simp (disch := omega) [gA, wA, hr3, hr5]
 refine callR e2 ?_
 simp (disch := omega) [gA, wA, hr3]
 refine W.lv [2, 3, 4] hK fun J j => ?_; clear hK K; simp; refine j _ ?_; clear j J
 refine W.sreg (fun K hK => ?_); simp (disch := omega) [gA, wA, hr4]; refine W.lv [4] hK fun J j => ?_; clear hK K; simp; refine j _ ?_; clear j J
 refine W.ret ?_
 simp [go]
theorem ZeroJ_ret (d : Int) : Ret env.P 60 [I d] (.bool (decide (d = 0))) := by
 have := Zero_ret (decide (d < 0)) (dig LL d.natAbs)
 rw [show decide ((dig LL d.natAbs).length = 0) = decide (d = 0) from by
  by_cases h : d = 0
  ·subst h; rfl
  ·have : dig LL d.natAbs ≠ [] := fun h2 => h (by have := V_dig hLL d.natAbs; rw [h2] at this; simp [V] at this; omega)
   have h3 := List.length_pos_iff.2 this
   simp [h]; omega] at this
 exact this
theorem qmk_zero_d (n : Int) : qmk n 0 = qmk n 1 := by rw [qmk_one, qmk, if_pos rfl]
theorem rnorm_ret {n d : Int} (hn : sz LL n < 1099511627770) (hd : sz LL d < 1099511627770) : Ret env.P 201 [T2 n d] (RT (qmk n d)) := by
 have sn : Sz n := by show _ < _; omega
 have sd : Sz d := by show _ < _; omega
 have n1 := wNormI sn
 have n2 := wNormI sd
 have z1 := ZeroJ_ret d
 have o1 := Of_ret 1 (by decide) (by decide)
 obtain ⟨e, he, hed⟩ : ∃ e, e = (if d = 0 then 1 else d) ∧ qmk n e = qmk n d := by
  refine ⟨_, rfl, ?_⟩
  split
  ·rename_i h; rw [h, qmk_zero_d]
  ·rfl
 have he1 : sz LL e < 1099511627770 := by
  rw [he]
  split
  ·exact Nat.lt_of_le_of_lt (sz_le (k := 1) hLL (by decide)) (by decide)
  ·exact hd
 have he2 : e ≠ 0 := by
  rw [he]
  split
  ·decide
  ·assumption
 have l1 := lowest_ret (n := n) (d := e) hn he1 he2
 rw [hed] at l1
 show Ret env.P _ _ (T2 (qmk n d).num (qmk n d).den)
 replace l1 : Ret env.P 200 [I n, I e] (T2 (qmk n d).num (qmk n d).den) := l1
 clear hed he1 he2
 generalize (qmk n d).num = rn at *
 generalize ((qmk n d).den : Int) = rd at *
 refine ret_of_Wf (E := env) (fun _ => 0) [(0, T2 n d)] Tryz.func201 rfl (by kernel_rfl) (by kernel_rfl) (show 1 ≤ 15 by decide) (by simp) ?_
 refine W.sreg (fun K hK => ?_); simp (disch := omega) [gA, wA]; refine W.lv [1, 2] hK fun J j => ?_; clear hK K; simp; refine j _ ?_; clear j J
 refine W.sreg (fun K hK => ?_)
 simp (disch := omega) [gA, wA]
 refine callR n2 ?_
 simp (disch := omega) [gA, wA]
 refine W.lv [1, 2, 3] hK fun J j => ?_; clear hK K; simp; refine j _ ?_; clear j J
 refine W.seqJ (fun σ => ∃ (rows : Pm.Rows) (clk : Nat), σ = ⟨fa [(1, .ptr 1 0 0 0), (2, .ptr 2 1 0 0), (3, .ptr 3 2 0 0)], rows, clk⟩ ∧ rows 1 = some ⟨0, 81, 4, [[.bool (decide (n < 0)), us (dig LL n.natAbs), .bool (decide (d < 0)), us (dig LL d.natAbs)]]⟩ ∧ rows 2 = some ⟨1, 81, 4, [[.bool false, .nil, .bool false, .nil]]⟩ ∧ rows 3 = some ⟨2, 27, 2, [[.bool (decide (e < 0)), us (dig LL e.natAbs)]]⟩) ?_ ?_
 ·refine W.sreg (fun K hK => ?_)
  simp (disch := omega) [gA, wA]
  refine callR z1 ?_
  simp (disch := omega) [gA, wA]
  refine W.lv [1, 2, 3, 8] hK fun J j => ?_; clear hK K; simp; refine j _ ?_; clear j J
  refine W.cond ⟨_, rfl, fun h => ?_, fun h => ?_⟩
  ·have h : d = 0 := by simpa using h
   rw [if_pos h] at he
   subst he
   refine W.reg (fun K hK => ?_)
   simp (disch := omega) [gA, wA]
   refine callR o1 ?_
   simp (disch := omega) [gA, wA]
   exact hK _ ⟨_, Gh_fa _ [1, 2, 3], _, _, rfl, by simp, by simp, by simp⟩
  ·have h : ¬ d = 0 := by simpa using h
   rw [if_neg h] at he
   subst he
   refine W.skip ?_
   exact ⟨_, Gh_fa _ [1, 2, 3], _, _, rfl, by simp, by simp, by simp⟩
 rintro _ ⟨rows, clk, rfl, hr1, hr2, hr3⟩
 refine W.sdrw (fun K hK => ?_)
 simp (disch := omega) [gA, wA, hr1]
 refine callR n1 ?_
 simp (disch := omega) [gA, wA, hr3]
 refine callR l1 ?_
 simp (disch := omega) [gA, wA, hr2]
 (try (refine stepTxt (of_decide_eq_true (by kernel_rfl)) ?_)); (try simp (maxSteps := 4000000) (disch := omega) [gA, wA, hr2]); (repeat rw [if_pos (by kernel_rfl)]); (try simp (maxSteps := 4000000) (disch := omega) [gA, wA, hr2])
 refine W.lv [2] hK fun J j => ?_; clear hK K; simp; refine j _ ?_; clear j J
 refine W.ret ?_
 simp [go]
theorem cross_ret {n d m e : Int} {k : Nat} (hn : sz LL n ≤ k) (hd : sz LL d ≤ k) (hm : sz LL m ≤ k) (he : sz LL e ≤ k) (hk : k ≤ 500000000000) {p q : Rat} (hp : qmk n d = p) (hq : qmk m e = q) (sp : sz LL p.num ≤ k ∧ sz LL (p.den : Int) ≤ k) (sq : sz LL q.num ≤ k ∧ sz LL (q.den : Int) ≤ k) :
  Ret env.P 196 [T2 n d, T2 m e] (.tup [I (p.num * q.den), I (q.num * p.den), I ((p.den : Int) * q.den)]) := by
 have n1 := rnorm_ret (n := n) (d := d) (by omega) (by omega)
 have n2 := rnorm_ret (n := m) (d := e) (by omega) (by omega)
 rw [hp] at n1
 rw [hq] at n2
 have z : ∀ {v : Int}, sz LL v ≤ k → Sz v := fun h => by show _ < _; omega
 have m1 := wMulI (z sp.1) (z sq.2)
 have m2 := wMulI (z sq.1) (z sp.2)
 have m3 := wMulI (z sp.2) (z sq.2)
 replace n1 : Ret env.P 201 [T2 n d] (T2 p.num p.den) := n1
 replace n2 : Ret env.P 201 [T2 m e] (T2 q.num q.den) := n2
 clear sp sq hp hq
 generalize p.num * (q.den : Int) = x1 at *
 generalize q.num * (p.den : Int) = x2 at *
 generalize (p.den : Int) * (q.den : Int) = x3 at *
 generalize p.num = pn at *
 generalize (p.den : Int) = pd at *
 generalize q.num = qn at *
 generalize (q.den : Int) = qd at *
 refine ret_of_Wf (E := env) (fun _ => 0) [(0, T2 n d), (1, T2 m e)] Tryz.func196 rfl (by kernel_rfl) (by kernel_rfl) (show 2 ≤ 26 by decide) (by simp) ?_
 refine W.sreg (fun K hK => ?_); simp (disch := omega) [gA, wA]; refine W.lv [2, 3, 4, 5, 6] hK fun J j => ?_; clear hK K; simp; refine j _ ?_; clear j J
 refine W.sdrw (fun K hK => ?_)
 simp (disch := omega) [gA, wA]
 refine callR n1 ?_
 simp (disch := omega) [gA, wA]
 refine callR n2 ?_
 simp (disch := omega) [gA, wA]
 (try (refine stepTxt (of_decide_eq_true (by kernel_rfl)) ?_)); (try simp (maxSteps := 4000000) (disch := omega) [gA, wA]); (repeat rw [if_pos (by kernel_rfl)]); (try simp (maxSteps := 4000000) (disch := omega) [gA, wA])
 (try (refine stepTxt (of_decide_eq_true (by kernel_rfl)) ?_)); (try simp (maxSteps := 4000000) (disch := omega) [gA, wA]); (repeat rw [if_pos (by kernel_rfl)]); (try simp (maxSteps := 4000000) (disch := omega) [gA, wA])
 refine W.lv [2, 3, 4, 5, 6] hK fun J j => ?_; clear hK K; simp; refine j _ ?_; clear j J
 refine W.sdrw (fun K hK => ?_)
 simp (maxSteps := 4000000) (disch := omega) [gA, wA]
 refine callR m1 ?_
 simp (maxSteps := 4000000) (disch := omega) [gA, wA]
 refine callR m2 ?_
 simp (maxSteps := 4000000) (disch := omega) [gA, wA]
 refine callR m3 ?_
 simp (maxSteps := 4000000) (disch := omega) [gA, wA]
 (try (refine stepTxt (of_decide_eq_true (by kernel_rfl)) ?_)); (try simp (maxSteps := 4000000) (disch := omega) [gA, wA]); (repeat rw [if_pos (by kernel_rfl)]); (try simp (maxSteps := 4000000) (disch := omega) [gA, wA])
 (try (refine stepTxt (of_decide_eq_true (by kernel_rfl)) ?_)); (try simp (maxSteps := 4000000) (disch := omega) [gA, wA]); (repeat rw [if_pos (by kernel_rfl)]); (try simp (maxSteps := 4000000) (disch := omega) [gA, wA])
 (try (refine stepTxt (of_decide_eq_true (by kernel_rfl)) ?_)); (try simp (maxSteps := 4000000) (disch := omega) [gA, wA]); (repeat rw [if_pos (by kernel_rfl)]); (try simp (maxSteps := 4000000) (disch := omega) [gA, wA])
 refine W.lv [4, 5, 6] hK fun J j => ?_; clear hK K; simp; refine j _ ?_; clear j J
 refine W.ret ?_
 simp [go]
theorem rCmpT_ret {n d m e : Int} {k : Nat} (hn : sz LL n ≤ k) (hd : sz LL d ≤ k) (hm : sz LL m ≤ k) (he : sz LL e ≤ k) (hk : k ≤ 500000000000) {p q : Rat} (hp : qmk n d = p) (hq : qmk m e = q) (sp : sz LL p.num ≤ k ∧ sz LL (p.den : Int) ≤ k) (sq : sz LL q.num ≤ k ∧ sz LL (q.den : Int) ≤ k) :
  Ret env.P 121 [T2 n d, T2 m e] (.int .i64 (cmp3 (p.num * q.den) (q.num * p.den))) := by
 have c1 := cross_ret hn hd hm he hk hp hq sp sq
 have g1 := sz_mul (b := LL) hLL sp.1 sq.2
 have g2 := sz_mul (b := LL) hLL sq.1 sp.2
 have w1 := wCmpI (x := p.num * q.den) (y := q.num * p.den) (by show _ < _; omega) (by show _ < _; omega)
 clear sp sq hp hq g1 g2
 generalize cmp3 (p.num * (q.den : Int)) (q.num * (p.den : Int)) = r at *
 generalize p.num * (q.den : Int) = x1 at *
 generalize q.num * (p.den : Int) = x2 at *
 generalize (p.den : Int) * (q.den : Int) = x3 at *
 refine ret_of_Wf (E := env) (fun _ => 0) [(0, T2 n d), (1, T2 m e)] Tryz.func121 rfl (by kernel_rfl) (by kernel_rfl) (show 2 ≤ 18 by decide) (by simp) ?_
 refine W.sreg (fun K hK => ?_); simp (disch := omega) [gA, wA]; refine W.lv [2, 3] hK fun J j => ?_; clear hK K; simp; refine j _ ?_; clear j J
 refine W.sreg (fun K hK => ?_)
 simp (disch := omega) [gA, wA]
 refine callR c1 ?_
 simp (disch := omega) [gA, wA]
 refine W.lv [5, 6] hK fun J j => ?_; clear hK K; simp; refine j _ ?_; clear j J
 refine W.sreg (fun K hK => ?_)
 simp (disch := omega) [gA, wA]
 refine callR w1 ?_
 simp (disch := omega) [gA, wA]
 refine W.lv [4] hK fun J j => ?_; clear hK K; simp; refine j _ ?_; clear j J
 refine W.ret ?_
 simp [go]
theorem rMax_ret {n d : Int} (hn : sz LL n < 1099511627770) (hd : sz LL d < 1099511627770) : Ret env.P 149 [T2 n d, .sl []] (RT (qmk n d)) := by
 have n1 := rnorm_ret hn hd
 show Ret env.P _ _ (T2 (qmk n d).num (qmk n d).den)
 replace n1 : Ret env.P 201 [T2 n d] (T2 (qmk n d).num (qmk n d).den) := n1
 generalize (qmk n d).num = rn at *
 generalize ((qmk n d).den : Int) = rd at *
 refine ret_of_Wf (E := env) (fun _ => 0) [(0, T2 n d), (1, .sl [])] Tryz.func149 rfl (by kernel_rfl) (by kernel_rfl) (show 2 ≤ 24 by decide) (by simp) ?_
 refine W.sreg (fun K hK => ?_); simp (disch := omega) [gA, wA]; refine W.lv [1, 2, 4] hK fun J j => ?_; clear hK K; simp; refine j _ ?_; clear j J
 refine W.sreg (fun K hK => ?_)
 simp (disch := omega) [gA, wA]
 refine callR n1 ?_
 simp (disch := omega) [gA, wA]
 refine W.lv [1, 4, 5] hK fun J j => ?_; clear hK K; simp; refine j _ ?_; clear j J
 refine W.seq ?_
 refine W.sreg (fun K hK => ?_); simp (disch := omega) [gA, wA]; refine W.lv [4, 5, 10, 11, 12] hK fun J j => ?_; clear hK K; simp; refine j _ ?_; clear j J
 refine W.block ?_
 refine W.loopG (fun k σ => ∃ (rows : Pm.Rows) (clk : Nat), σ = ⟨fa [(4, .ptr 4 1 0 0), (5, .ptr 5 2 0 0), (11, .int .i64 0), (12, .int .i64 0)], rows, clk⟩ ∧ rows 4 = some ⟨1, 81, 4, [[.bool false, .nil, .bool false, .nil]]⟩ ∧ rows 5 = some ⟨2, 81, 4, [[.bool (decide (rn < 0)), us (dig LL rn.natAbs), .bool (decide (rd < 0)), us (dig LL rd.natAbs)]]⟩) 0 ?_ ?_
 ·exact ⟨_, Gh_fa _ [4, 5, 11, 12], _, _, rfl, by simp, by simp⟩
 rintro k _ ⟨rows, clk, rfl, hr4, hr5⟩
 refine W.sreg (fun K hK => ?_); simp (disch := omega) [gA, wA]; refine W.lv [4, 5, 11, 12, 13] hK fun J j => ?_; clear hK K; simp; refine j _ ?_; clear j J
 refine W.seq ?_
 refine W.cond ⟨_, rfl, fun h => ?_, fun h => ?_⟩
 ·simp at h
 ·refine W.exit ?_; simp only [pX, if_true, if_false, reduceIte, Nat.reduceEqDiff]
  refine W.sreg (fun K hK => ?_)
  simp (disch := omega) [gA, wA, hr4, hr5]
  refine W.lv [4] hK fun J j => ?_; clear hK K; simp; refine j _ ?_; clear j J
  refine W.ret ?_
  simp [go]
theorem plain_ret {n d : Int} (hn : sz LL n < 1099511627770) (hd : sz LL d < 1099511627770) : Ret env.P 205 [T2 n d] (RT (qmk n d)) := by
 have n1 := rMax_ret hn hd
 show Ret env.P _ _ (T2 (qmk n d).num (qmk n d).den)
 replace n1 : Ret env.P 149 [T2 n d, .sl []] (T2 (qmk n d).num (qmk n d).den) := n1
 generalize (qmk n d).num = rn at *
 generalize ((qmk n d).den : Int) = rd at *
 refine ret_of_Wf (E := env) (fun _ => 0) [(0, T2 n d)] Tryz.func205 rfl (by kernel_rfl) (by kernel_rfl) (show 1 ≤ 5 by decide) (by simp) ?_
 refine W.sreg (fun K hK => ?_); simp (disch := omega) [gA, wA]; refine W.lv [1, 2] hK fun J j => ?_; clear hK K; simp; refine j _ ?_; clear j J
 refine W.sreg (fun K hK => ?_)
 simp (disch := omega) [gA, wA]
 refine callR n1 ?_
 simp (disch := omega) [gA, wA]
 refine W.lv [2] hK fun J j => ?_; clear hK K; simp; refine j _ ?_; clear j J
 refine W.ret ?_
 simp [go]
end Go.Proofs.YtdiladmkbpnhoaaGreat
