import Derived.Test.YtdiladmkbpnhoaaGreatLbk
set_option linter.unusedSimpArgs false
set_option linter.unusedVariables false
namespace Go.Proofs.YtdiladmkbpnhoaaGreat
open Go Pm
def dnF (l : List Rat) : Int := l.foldl (fun d q => (d * q.den).tdiv (Int.gcd d q.den)) 1
def gnF (d : Int) (l : List Rat) : Int := l.foldl (fun (g : Int) q => (Int.gcd g ((q.num * d).tdiv q.den) : Int)) 0
theorem dnF_succ {l : List Rat} {i : Nat} (h : i < l.length) : dnF (l.take (i + 1)) = (dnF (l.take i) * (nth l i).den).tdiv (Int.gcd (dnF (l.take i)) (nth l i).den) := by
 unfold dnF; rw [take_succ_nth h, List.foldl_append]; rfl
theorem gnF_succ {l : List Rat} {d : Int} {i : Nat} (h : i < l.length) : gnF d (l.take (i + 1)) = (Int.gcd (gnF d (l.take i)) (((nth l i).num * d).tdiv (nth l i).den) : Int) := by
 unfold gnF; rw [take_succ_nth h, List.foldl_append]; rfl
theorem RI_den (q : Rat) : RI (q.den : Int) = .ag [sls i64e (dig DD q.den), .bool false] := by
 simp [show ¬ ((q.den : Int) < 0) by omega]
def qct (l : List Rat) : Rat := if (nth l (l.length - 1)).num < 0 then -(qmk (gnF (dnF l) l) (dnF l)) else qmk (gnF (dnF l) l) (dnF l)
def qpr (l : List Rat) : List Rat := scaleQ l (1 / qct l)
theorem qPrimitive_ret (l : List Rat) {k : Nat} (hk : k ≤ YY) (hk1 : 1 ≤ k) (hl : ∀ q ∈ l, ZR k q) (hll : l.length < 1099511627776) (h0 : l ≠ [])
  (hd : ∀ i, sz 2 (dnF (l.take i)) ≤ k) (hd1 : ∀ i, 0 < dnF (l.take i)) (hg : ∀ i, sz 2 (gnF (dnF l) (l.take i)) ≤ k)
  (hc : ZR YY (qct l)) (hc0 : qct l ≠ 0) (hc1 : ZR YY (1 / qct l)) :
  Ret env.P 208 [PP l] (.tup [RR (qct l), PP (qpr l)]) := by
 have hkY : k ≤ 137438953472 := hk
 have hl0 : 0 < l.length := List.length_pos_iff.2 h0
 refine ret_of_Wf (E := env) (fun _ => 0) [(0, PP l)] Tryz.func208 rfl (by kernel_rfl) (by kernel_rfl) (show 1 ≤ 75 by decide) (by simp) ?_
 refine W.sreg (fun K hK => ?_); simp (disch := omega) [gA, wA]; refine W.lv [0, 2] hK fun J j => ?_; clear hK K; simp; refine j _ ?_; clear j J
 refine W.seq ?_
 refine W.sreg (fun K hK => ?_); simp (disch := omega) [gA, wA]; refine W.lv [0, 2, 11] hK fun J j => ?_; clear hK K; simp; refine j _ ?_; clear j J
 refine W.cond ⟨_, rfl, fun h => ?_, fun h => ?_⟩
 ·exfalso; simp at h; exact h0 h
 refine W.skip ?_
 refine W.sreg (fun K hK => ?_)
 simp (disch := omega) [gA, wA]
 refine callR (rOf_ret 1 (by decide) (by decide)) ?_
 simp (disch := omega) [gA, wA]
 refine W.lv [0, 2, 4] hK fun J j => ?_; clear hK K; simp; refine j _ ?_; clear j J
 refine W.seq ?_
 refine W.sreg (fun K hK => ?_); simp (disch := omega) [gA, wA]; refine W.lv [0, 2, 4, 15, 16] hK fun J j => ?_; clear hK K; simp; refine j _ ?_; clear j J
 refine W.block ?_
 refine W.loopG (fun n σ => ∃ (i : Nat) (d : Int) (rows : Pm.Rows) (clk : Nat), σ = ⟨fa [(0, PP l), (2, .ptr 2 0 0 0), (4, .ptr 4 1 0 0), (15, .int .i64 l.length), (16, .int .i64 i)], rows, clk⟩ ∧
  rows 2 = some ⟨0, 43, 4, [[.nil, .bool false, .nil, .bool false]]⟩ ∧ rows 4 = some ⟨1, 41, 2, [[sls i64e (dig DD d.natAbs), .bool (decide (d < 0))]]⟩ ∧ n = l.length - i ∧ i ≤ l.length ∧ d = dnF (l.take i)) l.length ?_ ?_
 ·exact ⟨_, .refl, 0, 1, _, _, rfl, by simp, by simp, by omega, by omega, by simp [dnF]⟩
 rintro n _ ⟨i, d, rows, clk, rfl, hr2, hr4, hn, hi, hdv⟩
 refine W.sreg (fun K hK => ?_); simp (disch := omega) [gA, wA]; refine W.lv [0, 2, 4, 15, 16, 17] hK fun J j => ?_; clear hK K; simp; refine j _ ?_; clear j J
 refine W.seq ?_
 refine W.cond ⟨_, rfl, fun h => ?_, fun h => ?_⟩
 ·have hi : i < l.length := by simp at h; omega
  have hq := hl _ (nth_mem hi)
  have hdi := hd i
  have hdp := hd1 i
  have hs := dnF_succ hi
  rw [← hdv] at hs hdi hdp
  have hsn := hd (i + 1)
  have m1 := rMul_ret d (nth l i).den (by simp only [Z]; omega) (by have := hq.d; simp only [Z]; omega)
  have m2 := rGcd_ret d (nth l i).den (by simp only [Y]; omega) (by have := hq.d; simp only [Y]; omega)
  have zm := sz_mul (b := 2) (by decide) hdi hq.d
  have hgp : 0 < Int.gcd d (nth l i).den := Int.gcd_pos_of_ne_zero_left _ (by omega)
  have zg : Y (Int.gcd d (nth l i).den : Int) := Ymono (y := d) (by simp only [Y]; omega) (by
   have := Int.le_of_dvd hdp (Int.gcd_dvd_left d ((nth l i).den : Int)); omega)
  have m3 := rQuo_ret (d * (nth l i).den) (Int.gcd d (nth l i).den) (by omega) (by simp only [Y]; omega) zg
  rw [← hs] at m3
  rw [RI_den] at m1 m2
  generalize (Int.gcd d (nth l i).den : Int) = gg at *
  generalize d * ((nth l i).den : Int) = dd at *
  generalize hd2 : dnF (l.take (i + 1)) = d2 at *
  generalize hqe : nth l i = q at *
  refine W.skip ?_
  refine W.seq ?_
  refine W.block ?_
  refine W.sreg (fun K hK => ?_); simp (disch := omega) [gA, wA, hqe]; refine W.lv [0, 2, 4, 5, 15, 16] hK fun J j => ?_; clear hK K; simp; refine j _ ?_; clear j J
  refine W.drw (fun K hK => ?_)
  simp (disch := omega) [gA, wA, hr4, hqe]
  refine callR m1 ?_
  simp (disch := omega) [gA, wA, hr4, hqe]
  refine callR m2 ?_
  simp (disch := omega) [gA, wA, hr4, hqe]
  refine callR m3 ?_
  simp (disch := omega) [gA, wA, hr4, hqe]
  refine stepTxt (by refine ⟨?_, ?_⟩ <;> kernel_rfl) ?_
  simp (disch := omega) [gA, wA]
  refine W.lv [0, 2, 4, 15, 16] hK fun J j => ?_; clear hK K; simp; refine j _ ?_; clear j J
  refine W.reg (fun K hK => ?_); simp (disch := omega) [gA, wA]
  refine hK _ ⟨l.length - (i + 1), _, Gh_fa _ [0, 2, 4, 15, 16], by omega, i + 1, d2, _, _, rfl, by simp [hr2], by simp, by omega, by omega, hd2.symm⟩
 have hi : i = l.length := by simp at h; omega
 subst hi
 rw [List.take_length] at hdv
 have hdl := hd l.length
 have hdp := hd1 l.length
 rw [List.take_length, ← hdv] at hdl hdp
 rw [← hdv] at hg
 have hqc : qct l = if (nth l (l.length - 1)).num < 0 then -(qmk (gnF d l) d) else qmk (gnF d l) d := by rw [hdv]; rfl
 refine W.exit ?_; simp only [pX, if_true, if_false, reduceIte, Nat.reduceEqDiff]
 refine W.sreg (fun K hK => ?_); simp (disch := omega) [gA, wA]; refine W.lv [0, 2, 4, 6] hK fun J j => ?_; clear hK K; simp; refine j _ ?_; clear j J
 refine W.row (id := 6) (els := [[.nil, .bool false]]) [[sls i64e (dig DD 0), .bool false]] (by simp; first | exact ⟨rfl, rfl, rfl⟩ | exact ⟨rfl, rfl, rfl, rfl⟩) ⟨⟨.inr ⟨rfl, rfl⟩, .inl rfl, trivial⟩, trivial⟩ ?_
 refine W.seq ?_
 refine W.sreg (fun K hK => ?_); simp (disch := omega) [gA, wA]; refine W.lv [0, 2, 4, 6, 36, 37] hK fun J j => ?_; clear hK K; simp; refine j _ ?_; clear j J
 refine W.block ?_
 clear hdv
 refine W.loopG (fun n σ => ∃ (i v6 : Nat) (g : Int) (rows : Pm.Rows) (clk : Nat), σ = ⟨fa [(0, PP l), (2, .ptr 2 0 0 0), (4, .ptr 4 1 0 0), (6, .ptr 6 v6 0 0), (36, .int .i64 l.length), (37, .int .i64 i)], rows, clk⟩ ∧
  rows 2 = some ⟨0, 43, 4, [[.nil, .bool false, .nil, .bool false]]⟩ ∧ rows 4 = some ⟨1, 41, 2, [[sls i64e (dig DD d.natAbs), .bool (decide (d < 0))]]⟩ ∧
  rows 6 = some ⟨v6, 41, 2, [[sls i64e (dig DD g.natAbs), .bool (decide (g < 0))]]⟩ ∧ n = l.length - i ∧ i ≤ l.length ∧ g = gnF d (l.take i)) l.length ?_ ?_
 ·exact ⟨_, .refl, 0, _, 0, _, _, rfl, by simp [hr2], by simp [hr4], by simp, by omega, by omega, by simp [gnF]⟩
 clear hr2 hr4 rows clk
 rintro n _ ⟨i, v6, g, rows, clk, rfl, hr2, hr4, hr6, hn, hi, hgv⟩
 refine W.sreg (fun K hK => ?_); simp (disch := omega) [gA, wA]; refine W.lv [0, 2, 4, 6, 36, 37, 38] hK fun J j => ?_; clear hK K; simp; refine j _ ?_; clear j J
 refine W.seq ?_
 refine W.cond ⟨_, rfl, fun h => ?_, fun h => ?_⟩
 ·have hi : i < l.length := by simp at h; omega
  have hq := hl _ (nth_mem hi)
  have hgi := hg i
  have hs := gnF_succ (d := d) hi
  rw [← hgv] at hs hgi
  have m1 := rMul_ret (nth l i).num d (by have := hq.n; simp only [Z]; omega) (by simp only [Z]; omega)
  have zm := sz_mul (b := 2) (by decide) hq.n hdl
  have m2 := rQuo_ret ((nth l i).num * d) (nth l i).den (by have := (nth l i).den_nz; omega) (by simp only [Y]; omega) (by have := hq.d; simp only [Y]; omega)
  have zq : Y (((nth l i).num * d).tdiv (nth l i).den) := Ymono (y := (nth l i).num * d) (by simp only [Y]; omega) (by rw [Int.natAbs_tdiv]; exact Nat.div_le_self _ _)
  have m3 := rGcd_ret g (((nth l i).num * d).tdiv (nth l i).den) (by simp only [Y]; omega) zq
  rw [← hs] at m3
  rw [RI_den] at m2
  generalize ((nth l i).num * d).tdiv (nth l i).den = nq at *
  generalize (nth l i).num * d = nd at *
  generalize hg2 : gnF d (l.take (i + 1)) = g2 at *
  generalize hqe : nth l i = q at *
  refine W.skip ?_
  refine W.seq ?_
  refine W.block ?_
  refine W.sreg (fun K hK => ?_); simp (disch := omega) [gA, wA, hqe]; refine W.lv [0, 2, 4, 6, 7, 36, 37] hK fun J j => ?_; clear hK K; simp; refine j _ ?_; clear j J
  refine W.drw (fun K hK => ?_)
  simp (disch := omega) [gA, wA, hr4, hr6, hqe]
  refine callR m1 ?_
  simp (disch := omega) [gA, wA, hr4, hr6, hqe]
  refine callR m2 ?_
  simp (disch := omega) [gA, wA, hr4, hr6, hqe]
  refine callR m3 ?_
  simp (disch := omega) [gA, wA, hr4, hr6, hqe]
  refine stepTxt (by kernel_rfl) ?_
  simp (disch := omega) [gA, wA]
  refine W.lv [0, 2, 4, 6, 36, 37] hK fun J j => ?_; clear hK K; simp; refine j _ ?_; clear j J
  refine W.reg (fun K hK => ?_); simp (disch := omega) [gA, wA]
  refine hK _ ⟨l.length - (i + 1), _, Gh_fa _ [0, 2, 4, 6, 36, 37], by omega, i + 1, v6, g2, _, _, rfl, by simp [hr2], by simp [hr4], by simp, by omega, by omega, hg2.symm⟩
 have hi : i = l.length := by simp at h; omega
 subst hi
 rw [List.take_length] at hgv
 have hgl := hg l.length
 rw [List.take_length] at hgl
 rw [← hgv] at hgl hqc
 have hMk := Make_ret g d (by simp only [Y]; omega) (by simp only [Y]; omega)
 have hNg := NegR_ret (qmk g d)
 have hQ := QuoR_ret 1 (qct l) ⟨by show sz 2 1 ≤ YY; exact Nat.le_trans (sz_le (k := 1) (by decide) (by decide)) (by decide), by show sz 2 1 ≤ YY; exact Nat.le_trans (sz_le (k := 1) (by decide) (by decide)) (by decide)⟩ hc hc0
 have hOf := OfR_ret 1 1 (by decide) (by decide)
 rw [qmk_one, show (((1 : Int)) : Rat) = 1 by simp] at hOf
 have hSc := qScale_ret l (1 / qct l) ⟨fun q hq => ⟨Nat.le_trans (hl q hq).n hk, Nat.le_trans (hl q hq).d hk⟩, hll⟩ hc1
 rw [show scaleQ l (1 / qct l) = qpr l from rfl] at hSc
 have e1 : ((l.length : Int) - 1).toNat = l.length - 1 := by omega
 generalize qpr l = pr at *
 generalize hone : (1 : Rat) = one at *
 generalize one / qct l = ic at *
 generalize qct l = cc at *
 generalize hqm : qmk g d = c0 at *
 generalize hqe : nth l (l.length - 1) = q at *
 refine W.exit ?_; simp only [pX, if_true, if_false, reduceIte, Nat.reduceEqDiff]
 refine W.sreg (fun K hK => ?_)
 simp (disch := omega) [gA, wA, hr4, hr6]
 refine callR hMk ?_
 simp (disch := omega) [gA, wA]
 refine W.lv [0, 2, 8] hK fun J j => ?_; clear hK K; simp; refine j _ ?_; clear j J
 refine W.seqJ (fun σ => ∃ (v8 : Nat) (rows : Pm.Rows) (clk : Nat), σ = ⟨fa [(0, PP l), (2, .ptr 2 0 0 0), (8, .ptr 8 v8 0 0)], rows, clk⟩ ∧ rows 2 = some ⟨0, 43, 4, [[.nil, .bool false, .nil, .bool false]]⟩ ∧ rows 8 = some ⟨v8, 43, 4, [re cc]⟩) ?_ ?_
 ·refine W.sreg (fun K hK => ?_); simp (disch := omega) [gA, wA, e1, hqe]; refine W.lv [0, 2, 8, 66] hK fun J j => ?_; clear hK K; simp; refine j _ ?_; clear j J
  refine W.condB (q.num < 0) rfl (fun h => ?_) (fun h => ?_)
  ·rw [if_pos h] at hqc
   rw [← hqc] at hNg
   refine W.reg (fun K hK => ?_)
   simp (disch := omega) [gA, wA]
   refine callR hNg ?_
   simp (disch := omega) [gA, wA]
   exact hK _ ⟨_, Gh_fa _ [0, 2, 8], _, _, _, rfl, by simp [hr2], by simp⟩
  ·rw [if_neg h] at hqc
   refine W.skip ?_
   exact ⟨_, Gh_fa _ [0, 2, 8], _, _, _, rfl, by simp [hr2], by simp [hqc]⟩
 clear hr2 hr4 hr6 rows clk
 rintro _ ⟨v8, rows, clk, rfl, hr2, hr8⟩
 refine W.sdrw (fun K hK => ?_)
 simp (disch := omega) [gA, wA, hr8]
 refine callR hOf ?_
 simp (disch := omega) [gA, wA, hr8]
 refine callR hQ ?_
 simp (disch := omega) [gA, wA, hr8]
 refine callR hSc ?_
 simp (disch := omega) [gA, wA, hr2, hr8]
 refine W.lv [2, 3] hK fun J j => ?_; clear hK K; simp; refine j _ ?_; clear j J
 refine W.ret ?_
 simp [go]
end Go.Proofs.YtdiladmkbpnhoaaGreat
namespace Go.Proofs.YtdiladmkbpnhoaaGreat
open Go Pm
theorem qTo_ret (x : List Int) (hx : ∀ c ∈ x, Z c) (hl : x.length < 1099511627776) : Ret env.P 54 [PI x] (Po x) := by
 refine ret_of_Wf (E := env) (fun _ => 0) [(0, PI x)] Tryz.func54 rfl (by kernel_rfl) (by kernel_rfl) (show 1 ≤ 21 by decide) (by simp) ?_
 refine W.sreg (fun K hK => ?_); simp (disch := omega) [gA, wA]; refine W.lv [0] hK fun J j => ?_; clear hK K; simp; refine j _ ?_; clear j J
 refine W.sreg (fun K hK => ?_); simp (disch := omega) [gA, wA]; refine W.lv [0, 3] hK fun J j => ?_; clear hK K; simp; refine j _ ?_; clear j J
 refine W.nil 3 3 27 2 (by simp) (by decide) (fun K hK => ?_)
 refine W.lv [0, 3] hK fun J j => ?_; clear hK K; simp; refine j _ ?_; clear j J
 refine W.seq ?_
 refine W.sreg (fun K hK => ?_); simp (disch := omega) [gA, wA]; refine W.lv [0, 3, 6, 7] hK fun J j => ?_; clear hK K; simp; refine j _ ?_; clear j J
 refine W.block ?_
 refine W.loopG (fun k σ => ∃ (i ver : Nat) (rows : Pm.Rows) (clk : Nat), σ = ⟨fa [(0, PI x), (3, .own 3 ver 0 i), (6, .int .i64 x.length), (7, .int .i64 i)], rows, clk⟩ ∧ rows 3 = some ⟨ver, 27, 2, emap ie (x.take i)⟩ ∧ k = x.length - i ∧ i ≤ x.length) x.length ?_ ?_
 ·exact ⟨_, .refl, 0, _, _, _, rfl, by simp [emap], by omega, by omega⟩
 rintro k _ ⟨i, ver, rows, clk, rfl, hr, hk, hi⟩
 refine W.sreg (fun K hK => ?_); simp (disch := omega) [gA, wA]; refine W.lv [0, 3, 6, 7, 8] hK fun J j => ?_; clear hK K; simp; refine j _ ?_; clear j J
 refine W.seq ?_
 refine W.cond ⟨_, rfl, fun h0 => ?_, fun h0 => ?_⟩
 ·have h0 : i < x.length := by simp at h0; omega
  have hcl : (x.take i).length = i := by simp; omega
  have hT := rTo_ret (nth x i) (hx _ (nth_mem h0))
  refine W.skip ?_
  refine W.seq ?_
  refine W.block ?_
  refine W.sreg (fun K hK => ?_); simp (disch := omega) [gA, wA]; refine W.lv [0, 3, 4, 6, 7] hK fun J j => ?_; clear hK K; simp; refine j _ ?_; clear j J
  refine W.reg (fun K hK => ?_)
  simp (disch := omega) [gA, wA]
  refine callR hT ?_
  simp (disch := omega) [gA, wA, hr, hcl]
  refine W.lv [0, 3, 6, 7] hK fun J j => ?_; clear hK K; simp; refine j _ ?_; clear j J
  refine W.reg (fun K hK => ?_); simp (disch := omega) [gA, wA]
  refine hK _ ⟨x.length - (i + 1), _, Gh_fa _ [0, 3, 6, 7], by omega, i + 1, _, _, _, rfl, ?_, by omega, by omega⟩
  rw [take_succ_nth h0]
  simp
 ·have hi' : i = x.length := by simp at h0; omega
  subst hi'
  rw [List.take_length] at hr
  refine W.exit ?_; simp only [pX, if_true, if_false, reduceIte, Nat.reduceEqDiff]
  refine W.sreg (fun K hK => ?_)
  simp (disch := omega) [gA, wA, hr]
  refine W.lv [2] hK fun J j => ?_; clear hK K; simp; refine j _ ?_; clear j J
  refine W.ret ?_
  simp [go, hr]
theorem dnF_qs (x : List Int) : dnF (qs x) = 1 := by
 have key : ∀ l : List Int, (qs l).foldl (fun (d : Int) q => (d * q.den).tdiv (Int.gcd d q.den)) 1 = 1 := by
  intro l
  induction l with
  | nil => rfl
  | cons a l ih =>
   simp only [qs, List.map_cons, List.foldl_cons, Rat.den_intCast] at ih ⊢
   exact ih
 exact key x
theorem gnF_qs (x : List Int) : gnF 1 (qs x) = gcdL x := by
 have key : ∀ (l : List Int) (g : Nat), (qs l).foldl (fun (g : Int) q => (Int.gcd g ((q.num * 1).tdiv q.den) : Int)) g = (l.foldl (fun g c => Nat.gcd g c.natAbs) g : Nat) := by
  intro l
  induction l with
  | nil => intro g; rfl
  | cons a l ih =>
   intro g
   have := ih (Nat.gcd g a.natAbs)
   simp only [qs, List.map_cons, List.foldl_cons, Rat.den_intCast, Rat.num_intCast] at this ⊢
   rw [← this]
   congr 1
   simp [Int.gcd]
 exact key x 0
theorem take_qs (x : List Int) (i : Nat) : (qs x).take i = qs (x.take i) := by simp [qs, List.map_take]
theorem qct_qs {x : List Int} (hx : 0 < x.length) : qct (qs x) = (pcn x : Rat) := by
 have e : (nth (qs x) ((qs x).length - 1)).num = lead x := by rw [nth_qs]; simp [lead]
 unfold qct pcn
 rw [dnF_qs, gnF_qs, qmk_one, e]
 split
 ·rw [Rat.intCast_neg]
 ·rfl
theorem qpr_qs {x : List Int} (cx : Cn x) (hx : x ≠ []) : qpr (qs x) = qs (prv x) := by
 have hx0 := List.length_pos_iff.2 hx
 have h0 := pcn_abs x
 have gx := gcdL_Cn_pos cx hx
 have hp : pcn x ≠ 0 := by omega
 have hc := cast_ne hp
 rw [qpr, qct_qs hx0, scaleQ, prv, ← cutQ_qs]
 congr 1
 simp only [qs, List.map_map]
 refine List.map_congr_left fun v hv => ?_
 simp only [Function.comp_apply]
 have hd := pcn_dvd x v hv
 obtain ⟨w, rfl⟩ := hd
 have : exq (pcn x) (pcn x * w) = w := by
  unfold exq
  rw [if_pos (Int.mul_emod_right _ _)]
  exact Int.mul_ediv_cancel_left _ hp
 rw [this, Rat.intCast_mul]
 grind
theorem gcdL_take_sz {x : List Int} {s : Nat} (hs : ∀ c ∈ x, sz 2 c ≤ s) : sz 2 (gcdL x : Int) ≤ s := by
 by_cases h : ∃ c ∈ x, c ≠ 0
 ·obtain ⟨c, hc, h0⟩ := h
  refine Nat.le_trans (sz_mono (by decide) ?_) (hs c hc)
  have := Int.le_of_dvd (a := (gcdL x : Int)) (b := (c.natAbs : Int)) (by omega) (Int.dvd_natAbs.2 (gcdL_dvd x _ hc))
  omega
 ·have h1 : gcdL x = 0 := by
   have h2 : (0 : Nat) ∣ gcdL x := dvd_gcdL fun c hc => by
    have : c = 0 := Classical.byContradiction fun h3 => h ⟨c, hc, h3⟩
    rw [this]; exact Int.dvd_refl _
   exact Nat.eq_zero_of_zero_dvd h2
  rw [h1]; show sz 2 0 ≤ s; rw [sz_zero]; omega
theorem qPrimI_ret (x : List Int) {s n : Nat} (hx : Bd 2 s n x) (cx : Cn x) (hs1 : 1 ≤ s) (hs : s ≤ YY) (hn : n < 1099511627776) : Ret env.P 208 [PI x] (.tup [.ag (ri (pcn x)), PI (prv x)]) := by
 have hlx := hx.len
 by_cases h0 : x = []
 ·subst h0
  have hz := zeroI_ret
  rw [show pcn ([] : List Int) = 0 by decide, show prv ([] : List Int) = [] from rfl]
  refine ret_of_Wf (E := env) (fun _ => 0) [(0, PI [])] Tryz.func208 rfl (by kernel_rfl) (by kernel_rfl) (show 1 ≤ 75 by decide) (by simp) ?_
  refine W.sreg (fun K hK => ?_); simp (disch := omega) [gA, wA]; refine W.lv [0, 2] hK fun J j => ?_; clear hK K; simp; refine j _ ?_; clear j J
  refine W.seq ?_
  refine W.sreg (fun K hK => ?_); simp (disch := omega) [gA, wA]; refine W.lv [0, 2, 11] hK fun J j => ?_; clear hK K; simp; refine j _ ?_; clear j J
  refine W.cond ⟨_, rfl, fun h => ?_, fun h => ?_⟩
  ·refine W.sreg (fun K hK => ?_)
   simp (disch := omega) [gA, wA]
   refine callR hz ?_
   simp (disch := omega) [gA, wA]
   refine W.lv [2, 3] hK fun J j => ?_; clear hK K; simp; refine j _ ?_; clear j J
   refine W.ret ?_
   simp [go]
   all_goals rfl
  ·simp at h
 ·have hx0 := List.length_pos_iff.2 h0
  have hp := pcn_abs x
  have gx := gcdL_Cn_pos cx h0
  have hp0 : pcn x ≠ 0 := by omega
  have hgs : ∀ i, sz 2 (gcdL (x.take i) : Int) ≤ s := fun i => gcdL_take_sz fun c hc => hx.sz c (List.mem_of_mem_take hc)
  have hps : sz 2 (pcn x) ≤ s := by
   have := gcdL_take_sz hx.sz
   unfold pcn; split
   ·rw [sz_neg]; exact this
   ·exact this
  have s1 : sz 2 1 ≤ 1 := sz_le (by decide) (by decide)
  have zc : ZR YY (pcn x : Rat) := ZR_int (Nat.le_trans hps hs) (by decide)
  have e1 : (1 : Rat) / (pcn x : Rat) = qmk 1 (pcn x) := by rw [qmk_div hp0]; simp
  have := qPrimitive_ret (qs x) hs hs1 (fun q hq => by
   simp only [qs, List.mem_map] at hq
   obtain ⟨c, hc, rfl⟩ := hq
   exact ZR_int (hx.sz c hc) hs1) (by simp; omega) (by simpa [qs] using h0)
   (fun i => by rw [take_qs, dnF_qs]; omega) (fun i => by rw [take_qs, dnF_qs]; decide) (fun i => by rw [dnF_qs, take_qs, gnF_qs]; exact hgs i)
   (by rw [qct_qs hx0]; exact zc) (by rw [qct_qs hx0]; exact cast_ne hp0) (by rw [qct_qs hx0, e1]; exact ZR_qmk hp0 (by show sz 2 1 ≤ 137438953472; omega) (Nat.le_trans hps hs))
  rw [qct_qs hx0, qpr_qs cx h0, PP_qs, PP_qs, RR, re_int] at this
  exact this
theorem rSameI {x : Int} (zx : Z x) : Ret env.P 71 [RI x, I x] (.bool true) := by
 have := rSame_ret x (decide (x < 0)) (dig LL x.natAbs) zx (Nat.lt_of_le_of_lt (sz_base hLL x) zx)
 rw [show (decide (decide (x < 0) = decide (x < 0) ∧ dig LL x.natAbs = dig LL x.natAbs)) = true from decide_eq_true ⟨rfl, rfl⟩] at this
 exact this
end Go.Proofs.YtdiladmkbpnhoaaGreat
