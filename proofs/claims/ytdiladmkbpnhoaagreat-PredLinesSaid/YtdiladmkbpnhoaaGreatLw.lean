import Derived.Test.YtdiladmkbpnhoaaGreatLt
import Derived.Test.YtdiladmkbpnhoaaGreatLm
import Derived.Test.YtdiladmkbpnhoaaGreatMh
set_option linter.unusedSimpArgs false
set_option linter.unusedVariables false
namespace Go.Proofs.YtdiladmkbpnhoaaGreat
open Go Pm
def ri (x : Int) : List PV := [sls i64e (dig DD x.natAbs), .bool (decide (x < 0)), sls i64e (dig DD 1), .bool false]
@[simp] theorem ri_def {x : Int} : ri x = [sls i64e (dig DD x.natAbs), .bool (decide (x < 0)), sls i64e (dig DD 1), .bool false] := rfl
theorem re_int (x : Int) : re (x : Rat) = ri x := by
 simp only [re, ri, Rat.num_intCast, Rat.den_intCast]
 congr
theorem PP_qs (x : List Int) : PP (qs x) = sls ri x := by simp only [PP, sls, emap, qs, List.map_map, Function.comp_def, re_int]
abbrev PI (x : List Int) : PV := sls ri x
@[simp] theorem lenAll_ri {l : List Int} : lenAll 4 (emap ri l) = True := lenAll_emap fun _ => rfl
@[simp] theorem rowPers_ri {v e n : Nat} {l : List Int} : rowPers (some ⟨v, e, n, emap ri l⟩) = True := rowPers_emap fun _ => rfl
@[simp] theorem app_ri {l : List Int} {x : Int} : emap ri l ++ [[sls i64e (dig DD x.natAbs), .bool (decide (x < 0)), sls i64e (dig DD 1), .bool false]] = emap ri (l ++ [x]) := by simp [emap]
@[simp] theorem app_re {l : List Rat} {q : Rat} : emap re l ++ [[sls i64e (dig DD q.num.natAbs), .bool (decide (q.num < 0)), sls i64e (dig DD q.den), .bool false]] = emap re (l ++ [q]) := by simp [emap]
@[simp] theorem setEl_ri {l : List Int} {i : Nat} {x : Int} : setEl (emap ri l) i 0 [sls i64e (dig DD x.natAbs), .bool (decide (x < 0)), sls i64e (dig DD 1), .bool false] = emap ri (l.set i x) := setEl_g (n := 4) (fun _ => rfl)
theorem qcutI_ret (l : List Int) (hl : l.length < 17592186044416) : Ret env.P 92 [PI l] (PI (cutR l)) := by
 have := qcut_ret (qs l) (by simpa using hl)
 rwa [cutQ_qs, PP_qs, PP_qs] at this
theorem MakeI_ret (n : Int) (zn : Y n) : Ret env.P 88 [RI n, RI 1] (.ag (ri n)) := by
 have := Make_ret n 1 zn (by have : sz 2 1 ≤ 1 := sz_le (by decide) (by decide); simp only [Y]; omega)
 rwa [qmk_one, RR, re_int] at this
theorem zeroI_ret : Ret env.P 133 [] (.ag (ri 0)) := by
 have := zero_ret
 rwa [RR, show (0 : Rat) = ((0 : Int) : Rat) by simp, re_int] at this
theorem OfRI_ret (n : Int) (h1 : -9223372036854775808 ≤ n ∧ n < 9223372036854775808) : Ret env.P 44 [.int .i64 n, .int .i64 1] (.ag (ri n)) := by
 have := OfR_ret n 1 h1 (by decide)
 rwa [qmk_one, RR, re_int] at this
theorem ZR_int {x : Int} {k : Nat} (h : sz 2 x ≤ k) (h1 : 1 ≤ k) : ZR k (x : Rat) := ⟨by simpa using h, by simp; exact Nat.le_trans (sz_le (by decide) (by decide)) h1⟩
theorem AddRI_ret (x y : Int) (hx : sz 2 x ≤ YY) (hy : sz 2 y ≤ YY) : Ret env.P 134 [.ag (ri x), .ag (ri y)] (.ag (ri (x + y))) := by
 have := AddR_ret x y (ZR_int hx (by decide)) (ZR_int hy (by decide))
 rwa [← Rat.intCast_add, RR, RR, RR, re_int, re_int, re_int] at this
theorem MulRI_ret (x y : Int) (hx : sz 2 x ≤ YY) (hy : sz 2 y ≤ YY) : Ret env.P 164 [.ag (ri x), .ag (ri y)] (.ag (ri (x * y))) := by
 have := MulR_ret x y (ZR_int hx (by decide)) (ZR_int hy (by decide))
 rwa [← Rat.intCast_mul, RR, RR, RR, re_int, re_int, re_int] at this
structure FOK (p : RP) : Prop where
 ok : ∀ c ∈ p, Lim 4294967296 c.2 ∧ c.2.length < 4294967296
 len : p.length < 1099511627776
theorem qFrom_ret (p : RP) (h : FOK p) : Ret env.P 25 [Pg p] (PI (cutR (p.map gv))) := by
 refine ret_of_Wf (E := env) (fun _ => 0) [(0, Pg p)] Tryz.func25 rfl (by kernel_rfl) (by kernel_rfl) (show 1 ≤ 23 by decide) (by simp) ?_
 have hl := h.len
 refine W.sreg (fun K hK => ?_); simp (disch := omega) [gA, wA]; refine W.lv [0] hK fun J j => ?_; clear hK K; simp; refine j _ ?_; clear j J
 refine W.sreg (fun K hK => ?_); simp (disch := omega) [gA, wA]; refine W.lv [0, 3] hK fun J j => ?_; clear hK K; simp; refine j _ ?_; clear j J
 refine W.nil 3 3 43 4 (by simp) (by decide) (fun K hK => ?_)
 refine W.lv [0, 3] hK fun J j => ?_; clear hK K; simp; refine j _ ?_; clear j J
 refine W.seq ?_
 refine W.sreg (fun K hK => ?_); simp (disch := omega) [gA, wA]; refine W.lv [0, 3, 6, 7] hK fun J j => ?_; clear hK K; simp; refine j _ ?_; clear j J
 refine W.block ?_
 refine W.loopG (fun k σ => ∃ (i ver : Nat) (rows : Pm.Rows) (clk : Nat), σ = ⟨fa [(0, Pg p), (3, .own 3 ver 0 i), (6, .int .i64 p.length), (7, .int .i64 i)], rows, clk⟩ ∧ rows 3 = some ⟨ver, 43, 4, emap ri ((p.take i).map gv)⟩ ∧ k = p.length - i ∧ i ≤ p.length) p.length ?_ ?_
 ·exact ⟨_, .refl, 0, _, _, _, rfl, by simp [emap], by omega, by omega⟩
 rintro k _ ⟨i, ver, rows, clk, rfl, hr, hk, hi⟩
 refine W.sreg (fun K hK => ?_); simp (disch := omega) [gA, wA]; refine W.lv [0, 3, 6, 7, 8] hK fun J j => ?_; clear hK K; simp; refine j _ ?_; clear j J
 refine W.seq ?_
 refine W.cond ⟨_, rfl, fun h0 => ?_, fun h0 => ?_⟩
 ·simp at h0
  obtain ⟨hc1, hc2⟩ := h.ok _ (nth_mem h0)
  have hcl : ((p.take i).map gv).length = i := by simp; omega
  have hz : Y (iv (nth p i).1 (nth p i).2) := by
   have h1 := sz2_V hc1
   have h2 : sz 2 (iv (nth p i).1 (nth p i).2) = sz 2 (V 4294967296 (nth p i).2) := by unfold iv; split <;> simp [sz_neg]
   simp only [Y]; omega
  have hF := rFrom_ret (nth p i).1 (nth p i).2 (by omega) hc1
  have hM := MakeI_ret _ hz
  obtain ⟨v, hv⟩ : ∃ v, v = iv (nth p i).1 (nth p i).2 := ⟨_, rfl⟩
  rw [← hv] at hF hM
  refine W.skip ?_
  refine W.seq ?_
  refine W.block ?_
  refine W.sreg (fun K hK => ?_); simp (disch := omega) [gA, wA]; refine W.lv [0, 3, 4, 6, 7] hK fun J j => ?_; clear hK K; simp; refine j _ ?_; clear j J
  refine W.reg (fun K hK => ?_)
  simp (disch := omega) [gA, wA]
  refine callR hF ?_
  simp (disch := omega) [gA, wA]
  refine callR (rOf_ret 1 (by decide) (by decide)) ?_
  simp (disch := omega) [gA, wA]
  refine callR hM ?_
  simp (disch := omega) [gA, wA, hr, hcl]
  refine W.lv [0, 3, 6, 7] hK fun J j => ?_; clear hK K; simp; refine j _ ?_; clear j J
  refine W.reg (fun K hK => ?_); simp (disch := omega) [gA, wA]
  refine hK _ ⟨p.length - (i + 1), _, Gh_fa _ [0, 3, 6, 7], by omega, i + 1, _, _, _, rfl, ?_, by omega, by omega⟩
  rw [map_take_succ h0, show gv (nth p i) = v from hv.symm]
  simp
 ·simp at h0
  have hi' : i = p.length := by omega
  subst hi'
  refine W.exit ?_; simp only [pX, if_true, if_false, reduceIte, Nat.reduceEqDiff]
  refine W.sreg (fun K hK => ?_)
  have ez : (p.map gv).take p.length = p.map gv := take_all (by simp)
  simp (disch := omega) [gA, wA, hr, ez]
  refine callR (qcutI_ret (p.map gv) (by simp; omega)) ?_
  simp (disch := omega) [gA, wA]
  refine W.lv [2] hK fun J j => ?_; clear hK K; simp; refine j _ ?_; clear j J
  refine W.ret ?_
  simp [go]
theorem qOf_ret (l : List Int) (hl : l.length < 1099511627776) (hb : ∀ x ∈ l, -9223372036854775808 ≤ x ∧ x < 9223372036854775808) : Ret env.P 94 [sls i64e l] (PI (cutR l)) := by
 refine ret_of_Wf (E := env) (fun _ => 0) [(0, sls i64e l)] Tryz.func94 rfl (by kernel_rfl) (by kernel_rfl) (show 1 ≤ 21 by decide) (by simp) ?_
 refine W.sreg (fun K hK => ?_); simp (disch := omega) [gA, wA]; refine W.lv [0] hK fun J j => ?_; clear hK K; simp; refine j _ ?_; clear j J
 refine W.sreg (fun K hK => ?_); simp (disch := omega) [gA, wA]; refine W.lv [0, 3] hK fun J j => ?_; clear hK K; simp; refine j _ ?_; clear j J
 refine W.nil 3 3 43 4 (by simp) (by decide) (fun K hK => ?_)
 refine W.lv [0, 3] hK fun J j => ?_; clear hK K; simp; refine j _ ?_; clear j J
 refine W.seq ?_
 refine W.sreg (fun K hK => ?_); simp (disch := omega) [gA, wA]; refine W.lv [0, 3, 6, 7] hK fun J j => ?_; clear hK K; simp; refine j _ ?_; clear j J
 refine W.block ?_
 refine W.loopG (fun k σ => ∃ (i ver : Nat) (rows : Pm.Rows) (clk : Nat), σ = ⟨fa [(0, sls i64e l), (3, .own 3 ver 0 i), (6, .int .i64 l.length), (7, .int .i64 i)], rows, clk⟩ ∧ rows 3 = some ⟨ver, 43, 4, emap ri (l.take i)⟩ ∧ k = l.length - i ∧ i ≤ l.length) l.length ?_ ?_
 ·exact ⟨_, .refl, 0, _, _, _, rfl, by simp [emap], by omega, by omega⟩
 rintro k _ ⟨i, ver, rows, clk, rfl, hr, hk, hi⟩
 refine W.sreg (fun K hK => ?_); simp (disch := omega) [gA, wA]; refine W.lv [0, 3, 6, 7, 8] hK fun J j => ?_; clear hK K; simp; refine j _ ?_; clear j J
 refine W.seq ?_
 refine W.cond ⟨_, rfl, fun h0 => ?_, fun h0 => ?_⟩
 ·simp at h0
  have hcl : (l.take i).length = i := by simp; omega
  refine W.skip ?_
  refine W.seq ?_
  refine W.block ?_
  refine W.sreg (fun K hK => ?_); simp (disch := omega) [gA, wA]; refine W.lv [0, 3, 4, 6, 7] hK fun J j => ?_; clear hK K; simp; refine j _ ?_; clear j J
  refine W.reg (fun K hK => ?_)
  simp (disch := omega) [gA, wA]
  refine callR (OfRI_ret (nth l i) (hb _ (nth_mem h0))) ?_
  simp (disch := omega) [gA, wA, hr, hcl]
  refine W.lv [0, 3, 6, 7] hK fun J j => ?_; clear hK K; simp; refine j _ ?_; clear j J
  refine W.reg (fun K hK => ?_); simp (disch := omega) [gA, wA]
  refine hK _ ⟨l.length - (i + 1), _, Gh_fa _ [0, 3, 6, 7], by omega, i + 1, _, _, _, rfl, ?_, by omega, by omega⟩
  rw [take_succ_nth h0]
  simp
 ·simp at h0
  have hi' : i = l.length := by omega
  subst hi'
  refine W.exit ?_; simp only [pX, if_true, if_false, reduceIte, Nat.reduceEqDiff]
  refine W.sreg (fun K hK => ?_)
  simp (disch := omega) [gA, wA, hr]
  refine callR (qcutI_ret l (by omega)) ?_
  simp (disch := omega) [gA, wA]
  refine W.lv [2] hK fun J j => ?_; clear hK K; simp; refine j _ ?_; clear j J
  refine W.ret ?_
  simp [go]
theorem qSame_ret (x y : List Int) (hx : x.length < 1099511627776) (hy : y.length < 1099511627776) (zx : ∀ c ∈ x, Z c) (zy : ∀ c ∈ y, Z c) : Ret env.P 67 [PI x, Po y] (.bool (decide (x = y))) := by
 refine ret_of_Wf (E := env) (fun _ => 0) [(0, PI x), (1, Po y)] Tryz.func67 rfl (by kernel_rfl) (by kernel_rfl) (show 2 ≤ 38 by decide) (by simp) ?_
 refine W.sreg (fun K hK => ?_); simp (disch := omega) [gA, wA]; refine W.lv [0, 1] hK fun J j => ?_; clear hK K; simp; refine j _ ?_; clear j J
 refine W.seq ?_
 refine W.sreg (fun K hK => ?_); simp (disch := omega) [gA, wA]; refine W.lv [0, 1, 10] hK fun J j => ?_; clear hK K; simp; refine j _ ?_; clear j J
 refine W.cond ⟨_, rfl, fun h => ?_, fun h => ?_⟩
 ·have hne : x ≠ y := fun h1 => by simp [h1] at h
  refine W.sreg (fun K hK => ?_); simp (disch := omega) [gA, wA]; refine W.lv [4] hK fun J j => ?_; clear hK K; simp; refine j _ ?_; clear j J
  refine W.ret ?_
  simp [go, hne]
 ·have hlen : x.length = y.length := by simp at h; omega
  refine W.skip ?_
  refine W.seq ?_
  refine W.sreg (fun K hK => ?_); simp (disch := omega) [gA, wA]; refine W.lv [0, 1, 12, 13] hK fun J j => ?_; clear hK K; simp; refine j _ ?_; clear j J
  refine W.block ?_
  refine W.loopG (fun k σ => ∃ (i : Nat) (rows : Pm.Rows) (clk : Nat), σ = ⟨fa [(0, PI x), (1, Po y), (12, .int .i64 x.length), (13, .int .i64 i)], rows, clk⟩ ∧ k = x.length - i ∧ i ≤ x.length ∧ x.take i = y.take i) x.length ?_ ?_
  ·exact ⟨_, .refl, 0, _, _, rfl, by omega, by omega, by simp⟩
  rintro k _ ⟨i, rows, clk, rfl, hk, hi, hI⟩
  refine W.sreg (fun K hK => ?_); simp (disch := omega) [gA, wA]; refine W.lv [0, 1, 12, 13, 14] hK fun J j => ?_; clear hK K; simp; refine j _ ?_; clear j J
  refine W.seq ?_
  refine W.cond ⟨_, rfl, fun h => ?_, fun h => ?_⟩
  ·simp at h
   refine W.skip ?_
   refine W.seq ?_
   refine W.block ?_
   refine W.sreg (fun K hK => ?_); simp (disch := omega) [gA, wA]; refine W.lv [0, 1, 5, 12, 13] hK fun J j => ?_; clear hK K; simp; refine j _ ?_; clear j J
   have hyi : i < y.length := by omega
   have hs := rSame_ret (nth x i) (decide (nth y i < 0)) (dig LL (nth y i).natAbs) (zx _ (nth_mem h)) (Nat.lt_of_le_of_lt (sz_base hLL _) (zy _ (nth_mem hyi)))
   have he : (decide (nth y i < 0) = decide (nth x i < 0) ∧ dig LL (nth y i).natAbs = dig LL (nth x i).natAbs) ↔ nth x i = nth y i := by
    constructor
    ·rintro ⟨h1, h2⟩
     have h3 := V_ll (nth x i).natAbs
     have h4 := V_ll (nth y i).natAbs
     rw [h2] at h4
     simp only [decide_eq_decide] at h1
     omega
    ·intro h1; rw [h1]; exact ⟨rfl, rfl⟩
   simp only [he] at hs
   refine W.sdrwJ (fun σ => ∃ (b : Bool), σ = ⟨fa [(0, PI x), (1, Po y), (12, .int .i64 x.length), (13, .int .i64 i), (36, .bool b)], rows, clk⟩ ∧ (b = true ↔ nth x i ≠ nth y i)) (fun K hK => ?_) ?_
   ·by_cases hxy : nth x i = nth y i
    ·rw [decide_eq_true hxy] at hs
     simp (disch := omega) [gA, wA]
     refine callR hs ?_
     simp (disch := omega) [gA, wA]
     refine callR (rOf_ret 1 (by decide) (by decide)) ?_
     simp (disch := omega) [gA, wA]
     refine callR (rCmp_ret 1 1 (by simp only [Z]; exact Nat.lt_of_le_of_lt (sz_le (k := 1) (by decide) (by decide)) (by decide)) (by simp only [Z]; exact Nat.lt_of_le_of_lt (sz_le (k := 1) (by decide) (by decide)) (by decide))) ?_
     rw [cmp3_eq]
     simp (disch := omega) [gA, wA]
     exact hK _ _ (Gh_fa _ [0, 1, 12, 13, 36]) ⟨_, rfl, by simp [hxy]⟩
    ·rw [decide_eq_false hxy] at hs
     simp (disch := omega) [gA, wA]
     refine callR hs ?_
     simp (disch := omega) [gA, wA]
     exact hK _ _ (Gh_fa _ [0, 1, 12, 13, 36]) ⟨_, rfl, by simp [hxy]⟩
   rintro _ ⟨b, rfl, hb⟩
   refine W.cond ⟨_, rfl, fun h2 => ?_, fun h2 => ?_⟩
   ·have hne : x ≠ y := fun h1 => hb.1 h2 (by rw [h1])
    refine W.sreg (fun K hK => ?_); simp (disch := omega) [gA, wA]; refine W.lv [4] hK fun J j => ?_; clear hK K; simp; refine j _ ?_; clear j J
    refine W.ret ?_
    simp [go, hne]
   ·have he2 : nth x i = nth y i := Classical.byContradiction fun h3 => by simp [hb.2 h3] at h2
    refine W.skip ?_
    refine W.reg (fun K hK => ?_); simp (disch := omega) [gA, wA]
    refine hK _ ⟨x.length - (i + 1), _, Gh_fa _ [0, 1, 12, 13], by omega, i + 1, _, _, rfl, by omega, by omega, ?_⟩
    rw [take_succ_nth h, take_succ_nth hyi, hI, he2]
  ·simp at h
   rw [List.take_of_length_le (by omega), List.take_of_length_le (by omega)] at hI
   refine W.exit ?_; simp only [pX, if_true, if_false, reduceIte, Nat.reduceEqDiff]
   refine W.sreg (fun K hK => ?_); simp (disch := omega) [gA, wA]; refine W.lv [4] hK fun J j => ?_; clear hK K; simp; refine j _ ?_; clear j J
   refine W.ret ?_
   simp [go, hI]
end Go.Proofs.YtdiladmkbpnhoaaGreat
namespace Go.Proofs.YtdiladmkbpnhoaaGreat
open Go Pm
structure QOK (l : List Rat) : Prop where
 ok : ∀ q ∈ l, ZR YY q
 len : l.length < 1099511627776
theorem ZR_zero (k : Nat) (hk : 1 ≤ k) : ZR k 0 := ⟨by show sz 2 0 ≤ k; rw [sz_zero]; omega, by show sz 2 1 ≤ k; exact Nat.le_trans (sz_le (by decide) (by decide)) hk⟩
theorem QOK.nth {l : List Rat} (h : QOK l) (i : Nat) : ZR YY (nth l i) := by
 by_cases hi : i < l.length
 ·exact h.ok _ (nth_mem hi)
 ·rw [nth_ge (by omega)]; exact ZR_zero _ (by decide)
theorem QOK.qs {x : List Int} (h : ∀ c ∈ x, sz 2 c ≤ YY) (hl : x.length < 1099511627776) : QOK (qs x) := ⟨fun q hq => by
 simp only [List.mem_map] at hq
 obtain ⟨c, hc, rfl⟩ := hq
 exact ZR_int (h c hc) (by decide), by simpa using hl⟩
@[simp] theorem persAll_re {l : List Rat} : (∀ e ∈ emap re l, ∀ p ∈ e, pers1 p = true) = True := by simp [emap]
theorem qat_ret (l : List Rat) (i : Nat) (hi : i < 9223372036854775808) : Ret env.P 228 [PP l, .int .i64 i] (RR (nth l i)) := by
 have hzero := zero_ret
 refine ret_of_Wf (E := env) (fun _ => 0) [(0, PP l), (1, .int .i64 i)] Tryz.func228 rfl (by kernel_rfl) (by kernel_rfl) (show 2 ≤ 18 by decide) (by simp) ?_
 refine W.sreg (fun K hK => ?_); simp (disch := omega) [gA, wA]; refine W.lv [0, 1, 4] hK fun J j => ?_; clear hK K; simp; refine j _ ?_; clear j J
 refine W.seq ?_
 refine W.sregJ (fun σ => ∃ (b : Bool) (rows : Pm.Rows) (clk : Nat), σ = ⟨fa [(0, PP l), (1, .int .i64 i), (4, .ptr 4 0 0 0), (12, .bool b)], rows, clk⟩ ∧ (b = true ↔ l.length ≤ i) ∧ rows 4 = some ⟨0, 43, 4, [[.nil, .bool false, .nil, .bool false]]⟩) (fun K hK => ?_) ?_
 ·have hn : ¬ ((i : Int) < 0) := by omega
  simp (disch := omega) [gA, wA, hn]
  exact hK _ _ (Gh_fa _ [0, 1, 4, 12]) ⟨_, _, _, rfl, by simp, by simp⟩
 rintro _ ⟨b, rows, clk, rfl, hb, hr4⟩
 refine W.cond ⟨_, rfl, fun h => ?_, fun h => ?_⟩
 ·have hb := hb.1 h
  have e : nth l i = 0 := nth_ge hb
  rw [e]
  generalize (0 : Rat) = z at *
  refine W.sreg (fun K hK => ?_)
  simp (disch := omega) [gA, wA]
  refine callR hzero ?_
  simp (disch := omega) [gA, wA, hr4]
  refine W.lv [4] hK fun J j => ?_; clear hK K; simp; refine j _ ?_; clear j J
  refine W.ret ?_
  simp [go]
 ·have hb : i < l.length := Nat.lt_of_not_le fun h2 => by simp [hb.2 h2] at h
  refine W.skip ?_
  refine W.sreg (fun K hK => ?_); simp (disch := omega) [gA, wA, hr4]
  refine W.lv [4] hK fun J j => ?_; clear hK K; simp; refine j _ ?_; clear j J
  refine W.ret ?_
  simp [go]
def addQ (a b : List Rat) : List Rat := cutQ ((List.range (max a.length b.length)).map fun k => nth a k + nth b k)
theorem qAdd_ret (a b : List Rat) (ha : QOK a) (hb : QOK b) : Ret env.P 226 [PP a, PP b] (PP (addQ a b)) := by
 have hal := ha.len; have hbl := hb.len
 refine ret_of_Wf (E := env) (fun _ => 0) [(0, PP a), (1, PP b)] Tryz.func226 rfl (by kernel_rfl) (by kernel_rfl) (show 2 ≤ 28 by decide) (by simp) ?_
 obtain ⟨M, hM⟩ : ∃ M, M = max a.length b.length := ⟨_, rfl⟩
 refine W.sreg (fun K hK => ?_); simp (disch := omega) [gA, wA]; refine W.lv [0, 1] hK fun J j => ?_; clear hK K; simp; refine j _ ?_; clear j J
 refine W.sreg (fun K hK => ?_); simp (disch := omega) [gA, wA]; refine W.lv [0, 1, 5] hK fun J j => ?_; clear hK K; simp; refine j _ ?_; clear j J
 refine W.nil 5 5 43 4 (by simp) (by decide) (fun K hK => ?_)
 refine W.lv [0, 1, 5] hK fun J j => ?_; clear hK K; simp; refine j _ ?_; clear j J
 refine W.seq ?_
 refine W.sreg (fun K hK => ?_); simp (disch := omega) [gA, wA]; refine W.lv [0, 1, 5, 6] hK fun J j => ?_; clear hK K; simp; refine j _ ?_; clear j J
 refine W.block ?_
 refine W.loopG (fun k σ => ∃ (i ver : Nat) (rows : Pm.Rows) (clk : Nat), σ = ⟨fa [(0, PP a), (1, PP b), (5, .own 5 ver 0 i), (6, .int .i64 i)], rows, clk⟩ ∧ rows 5 = some ⟨ver, 43, 4, emap re ((List.range i).map fun k => nth a k + nth b k)⟩ ∧ k = M - i ∧ i ≤ M) M ?_ ?_
 ·exact ⟨_, .refl, 0, _, _, _, rfl, by simp [emap], by omega, by omega⟩
 rintro k _ ⟨i, ver, rows, clk, rfl, hr, hk, hi⟩
 have em : (if a.length < b.length then (b.length : Int) else (a.length : Int)) = M := by split <;> omega
 have em2 : (if b.length < a.length then (a.length : Int) else (b.length : Int)) = M := by split <;> omega
 refine W.seq ?_
 refine W.sreg (fun K hK => ?_); simp (disch := omega) [gA, wA, em, em2]
 refine W.lv [0, 1, 5, 6, 13] hK fun J j => ?_; clear hK K; simp; refine j _ ?_; clear j J
 refine W.cond ⟨_, rfl, fun h => ?_, fun h => ?_⟩
 ·have h : i < M := by simp at h; omega
  refine W.skip ?_
  refine W.seq ?_
  refine W.block ?_
  have h1 := qat_ret a i (by omega)
  have h2 := qat_ret b i (by omega)
  have h3 := AddR_ret _ _ (ha.nth i) (hb.nth i)
  have er : (List.range (i + 1)).map (fun k => nth a k + nth b k) = (List.range i).map (fun k => nth a k + nth b k) ++ [nth a i + nth b i] := by rw [List.range_succ]; simp
  have hcl : ((List.range i).map fun k => nth a k + nth b k).length = i := by simp
  generalize ((List.range i).map fun k => nth a k + nth b k) = acc at *
  generalize nth a i + nth b i = q at *
  generalize nth a i = u at *
  generalize nth b i = v at *
  refine W.reg (fun K hK => ?_)
  simp (disch := omega) [gA, wA]
  refine callR h1 ?_
  simp (disch := omega) [gA, wA]
  refine callR h2 ?_
  simp (disch := omega) [gA, wA]
  refine callR h3 ?_
  simp (disch := omega) [gA, wA, hr, hcl]
  refine W.lv [0, 1, 5, 6] hK fun J j => ?_; clear hK K; simp; refine j _ ?_; clear j J
  refine W.reg (fun K hK => ?_); simp (disch := omega) [gA, wA]
  refine hK _ ⟨M - (i + 1), _, Gh_fa _ [0, 1, 5, 6], by omega, i + 1, _, _, _, rfl, by rw [er]; simp, by omega, by omega⟩
 ·have h : i = M := by simp at h; omega
  subst h
  refine W.exit ?_; simp only [pX, if_true, if_false, reduceIte, Nat.reduceEqDiff]
  have hcl : ((List.range i).map fun k => nth a k + nth b k).length = i := by simp
  rw [addQ, ← hM]
  generalize ((List.range i).map fun k => nth a k + nth b k) = acc at *
  have ez := take_all hcl
  refine W.sreg (fun K hK => ?_)
  simp (disch := omega) [gA, wA, hr, ez]
  refine callR (qcut_ret acc (by omega)) ?_
  simp (disch := omega) [gA, wA]
  refine W.lv [4] hK fun J j => ?_; clear hK K; simp; refine j _ ?_; clear j J
  refine W.ret ?_
  simp [go]
def scaleQ (a : List Rat) (c : Rat) : List Rat := cutQ (a.map fun x => x * c)
theorem qScale_ret (a : List Rat) (c : Rat) (ha : QOK a) (hc : ZR YY c) : Ret env.P 124 [PP a, RR c] (PP (scaleQ a c)) := by
 have hal := ha.len
 refine ret_of_Wf (E := env) (fun id => if id = 5 then 2 else 0) [(0, PP a), (1, RR c)] Tryz.func124 rfl (by kernel_rfl) (by kernel_rfl) (show 2 ≤ 24 by decide) (by simp) ?_
 refine W.sreg (fun K hK => ?_); simp (disch := omega) [gA, wA]; refine W.lv [0, 3] hK fun J j => ?_; clear hK K; simp; refine j _ ?_; clear j J
 refine W.sreg (fun K hK => ?_); simp (disch := omega) [gA, wA]; refine W.lv [0, 3, 5] hK fun J j => ?_; clear hK K; simp; refine j _ ?_; clear j J
 refine W.nil 5 5 43 4 (by simp) (by decide) (fun K hK => ?_)
 refine W.lv [0, 3, 5] hK fun J j => ?_; clear hK K; simp; refine j _ ?_; clear j J
 refine W.seq ?_
 refine W.sreg (fun K hK => ?_); simp (disch := omega) [gA, wA]; refine W.lv [0, 3, 5, 8, 9] hK fun J j => ?_; clear hK K; simp; refine j _ ?_; clear j J
 refine W.block ?_
 refine W.loopG (fun k σ => ∃ (i ver : Nat) (rows : Pm.Rows) (clk : Nat), σ = ⟨fa [(0, PP a), (3, .ptr 3 0 0 0), (5, .own 5 ver 0 i), (8, .int .i64 a.length), (9, .int .i64 i)], rows, clk⟩ ∧ rows 5 = some ⟨ver, 43, 4, emap re ((a.take i).map fun x => x * c)⟩ ∧ rows 3 = some ⟨0, 43, 4, [re c]⟩ ∧ k = a.length - i ∧ i ≤ a.length) a.length ?_ ?_
 ·exact ⟨_, .refl, 0, _, _, _, rfl, by simp [emap], by simp, by omega, by omega⟩
 rintro k _ ⟨i, ver, rows, clk, rfl, hr, hr3, hk, hi⟩
 refine W.sreg (fun K hK => ?_); simp (disch := omega) [gA, wA]; refine W.lv [0, 3, 5, 8, 9, 10] hK fun J j => ?_; clear hK K; simp; refine j _ ?_; clear j J
 refine W.seq ?_
 refine W.cond ⟨_, rfl, fun h => ?_, fun h => ?_⟩
 ·simp at h
  refine W.skip ?_
  refine W.seq ?_
  refine W.block ?_
  refine W.sreg (fun K hK => ?_); simp (disch := omega) [gA, wA]; refine W.lv [0, 3, 5, 6, 8, 9] hK fun J j => ?_; clear hK K; simp; refine j _ ?_; clear j J
  have h3 := MulR_ret _ _ (ha.nth i) hc
  have er := map_take_succ (f := fun x => x * c) h
  have hcl : ((a.take i).map fun x => x * c).length = i := by simp; omega
  generalize (a.take i).map (fun x => x * c) = acc at *
  generalize hq : nth a i * c = q at *
  refine W.drw (fun K hK => ?_)
  rw [if_pos rfl, pregion_tail]
  simp (disch := omega) [gA, wA, hr3]
  refine callR h3 ?_
  simp (disch := omega) [gA, wA, hr, hr3, hcl]
  refine W.lv [0, 3, 5, 8, 9] hK fun J j => ?_; clear hK K; simp; refine j _ ?_; clear j J
  refine W.reg (fun K hK => ?_); simp (disch := omega) [gA, wA]
  refine hK _ ⟨a.length - (i + 1), _, Gh_fa _ [0, 3, 5, 8, 9], by omega, i + 1, _, _, _, rfl, by rw [er]; simp, by simp [hr3], by omega, by omega⟩
 ·simp at h
  have hi' : i = a.length := by omega
  subst hi'
  refine W.exit ?_; simp only [pX, if_true, if_false, reduceIte, Nat.reduceEqDiff]
  rw [List.take_length] at hr
  rw [scaleQ]
  have hcl : (a.map fun x => x * c).length = a.length := by simp
  generalize a.map (fun x => x * c) = acc at *
  have ez := take_all hcl
  refine W.sreg (fun K hK => ?_)
  simp (disch := omega) [gA, wA, hr, ez]
  refine callR (qcut_ret acc (by omega)) ?_
  simp (disch := omega) [gA, wA]
  refine W.lv [4] hK fun J j => ?_; clear hK K; simp; refine j _ ?_; clear j J
  refine W.ret ?_
  simp [go]
theorem qNeg_ret (a : List Rat) (ha : QOK a) : Ret env.P 162 [PP a] (PP (scaleQ a (-1))) := by
 have h1 := OfR_ret (-1) 1 (by decide) (by decide)
 rw [qmk_one, show (((-1 : Int)) : Rat) = -1 by simp] at h1
 have h2 := qScale_ret a (-1) ha ⟨by show sz 2 (-1) ≤ YY; exact Nat.le_trans (sz_le (k := 1) (by decide) (by decide)) (by decide), by show sz 2 1 ≤ YY; exact Nat.le_trans (sz_le (k := 1) (by decide) (by decide)) (by decide)⟩
 generalize (-1 : Rat) = c at *
 refine ret_of_Wf (E := env) (fun _ => 0) [(0, PP a)] Tryz.func162 rfl (by kernel_rfl) (by kernel_rfl) (show 1 ≤ 6 by decide) (by simp) ?_
 refine W.sreg (fun K hK => ?_); simp (disch := omega) [gA, wA]; refine W.lv [0] hK fun J j => ?_; clear hK K; simp; refine j _ ?_; clear j J
 refine W.sreg (fun K hK => ?_)
 simp (disch := omega) [gA, wA]
 refine callR h1 ?_
 simp (disch := omega) [gA, wA]
 refine callR h2 ?_
 simp (disch := omega) [gA, wA]
 refine W.lv [2] hK fun J j => ?_; clear hK K; simp; refine j _ ?_; clear j J
 refine W.ret ?_
 simp [go]
theorem nth_qs (x : List Int) (k : Nat) : nth (qs x) k = ((nth x k : Int) : Rat) := nth_map (f := fun (c : Int) => (c : Rat)) rfl x k
theorem addQ_qs (x y : List Int) : addQ (qs x) (qs y) = qs (padd x y) := by
 rw [addQ, padd, ← cutQ_qs]
 congr 1
 simp only [qs, List.length_map, List.map_map]
 congr 1
 funext k
 simp only [Function.comp_apply]
 rw [show nth (List.map (fun (c : Int) => (c : Rat)) x) k = _ from nth_qs x k, show nth (List.map (fun (c : Int) => (c : Rat)) y) k = _ from nth_qs y k, Rat.intCast_add]
theorem scaleQ_qs (x : List Int) (c : Int) : scaleQ (qs x) (c : Rat) = qs (pscale x c) := by
 rw [scaleQ, pscale, ← cutQ_qs]
 congr 1
 simp [qs, Function.comp_def]
theorem qAddI_ret (x y : List Int) (hx : Bd 2 YY 1099511627775 x) (hy : Bd 2 YY 1099511627775 y) : Ret env.P 226 [PI x, PI y] (PI (padd x y)) := by
 have := qAdd_ret (qs x) (qs y) (.qs hx.sz (by have := hx.len; omega)) (.qs hy.sz (by have := hy.len; omega))
 rwa [addQ_qs, PP_qs, PP_qs, PP_qs] at this
theorem pscale_neg (x : List Int) : pscale x (-1) = pneg x := by simp [pscale, pneg]
theorem qNegI_ret (x : List Int) (hx : Bd 2 YY 1099511627775 x) : Ret env.P 162 [PI x] (PI (pneg x)) := by
 have := qNeg_ret (qs x) (.qs hx.sz (by have := hx.len; omega))
 rwa [show (-1 : Rat) = ((-1 : Int) : Rat) by simp, scaleQ_qs, pscale_neg, PP_qs, PP_qs] at this
theorem qScaleI_ret (x : List Int) (c : Int) (hx : Bd 2 YY 1099511627775 x) (hc : sz 2 c ≤ YY) : Ret env.P 124 [PI x, .ag (ri c)] (PI (pscale x c)) := by
 have := qScale_ret (qs x) c (.qs hx.sz (by have := hx.len; omega)) (ZR_int hc (by decide))
 rwa [scaleQ_qs, PP_qs, PP_qs, RR, re_int] at this
theorem qMulI_ret (x y : List Int) (s s' n n' : Nat) (hs : Bd 2 s n x) (hs' : Bd 2 s' n' y) (hB : s + s' + n + n' < YY) : Ret env.P 122 [PI x, PI y] (PI (pmul x y)) := by
 have hlx := hs.len; have hly := hs'.len
 have hB2 : s + s' + n + n' < 137438953472 := hB
 refine ret_of_Wf (E := env) (fun id => if id = 15 then 1 else 0) [(0, PI x), (1, PI y)] Tryz.func122 rfl (by kernel_rfl) (by kernel_rfl) (show 2 ≤ 69 by decide) (by simp) ?_
 refine W.sreg (fun K hK => ?_); simp (disch := omega) [gA, wA]; refine W.lv [0, 1] hK fun J j => ?_; clear hK K; simp; refine j _ ?_; clear j J
 refine W.seq ?_
 refine W.sregJ (fun σ => ∃ (b : Bool), σ = ⟨fa [(0, PI x), (1, PI y), (16, .bool b)], fun _ => none, 0⟩ ∧ (b = true ↔ x = [] ∨ y = [])) (fun K hK => ?_) ?_
 ·simp
  have e1 : ((x.length : Int) == 0) = decide (x = []) := by
   cases x <;> simp <;> omega
  have e2 : ((y.length : Int) == 0) = decide (y = []) := by
   cases y <;> simp <;> omega
  rw [e1]
  by_cases h0 : x = []
  ·have e3 : decide (x = []) = true := by simp [h0]
   rw [e3]
   simp
   exact hK _ _ (Gh_fa _ [0, 1, 16]) ⟨_, rfl, by simp [h0]⟩
  ·have e3 : decide (x = []) = false := by simp [h0]
   rw [e3]
   simp
   exact hK _ _ (Gh_fa _ [0, 1, 16]) ⟨_, rfl, by rw [e2]; simp [h0]⟩
 rintro _ ⟨b, rfl, hb⟩
 refine W.cond ⟨_, rfl, fun h => ?_, fun h => ?_⟩
 ·have e : pmul x y = [] := by
   have h1 := hb.1 h
   refine Cn.ext (Cn.pmul _ _) Cn.nil fun t => ?_
   rw [V_pmul]
   rcases h1 with rfl | rfl <;> simp [V]
  refine W.sreg (fun K hK => ?_); simp (disch := omega) [gA, wA]; refine W.lv [4] hK fun J j => ?_; clear hK K; simp; refine j _ ?_; clear j J
  refine W.ret ?_
  simp [go, e]
  rfl
 ·have h1 : ¬ (x = [] ∨ y = []) := fun h2 => by simp [hb.2 h2] at h
  have hx0 : 0 < x.length := List.length_pos_iff.2 fun h2 => h1 (.inl h2)
  have hy0 : 0 < y.length := List.length_pos_iff.2 fun h2 => h1 (.inr h2)
  clear h hb h1
  have e0 : ((x.length : Int) + (y.length : Int) - 1).toNat = x.length + y.length - 1 := by omega
  have e9 : ((x.length + y.length - 1 : Nat) : Int) = (x.length : Int) + (y.length : Int) - 1 := by omega
  refine W.skip ?_
  refine W.sreg (fun K hK => ?_); simp (disch := omega) [gA, wA, e0]
  refine W.lv [0, 1, 5] hK fun J j => ?_; clear hK K; simp; refine j _ ?_; clear j J
  refine W.seq ?_
  refine W.sreg (fun K hK => ?_); simp (disch := omega) [gA, wA]; refine W.lv [0, 1, 5, 25, 26] hK fun J j => ?_; clear hK K; simp; refine j _ ?_; clear j J
  refine W.block ?_
  refine W.loopG (fun k σ => ∃ (i ver : Nat) (els : List (List PV)) (rows : Pm.Rows) (clk : Nat), σ = ⟨fa [(0, PI x), (1, PI y), (5, .own 23 ver 0 (x.length + y.length - 1)), (25, .int .i64 ((x.length + y.length - 1 : Nat) : Int)), (26, .int .i64 i)], rows, clk⟩ ∧
   rows 23 = some ⟨ver, 43, 4, els⟩ ∧ els.length = x.length + y.length - 1 ∧ (∀ e ∈ els, e.length = 4) ∧ els.take i = emap ri (List.replicate i 0) ∧ k = x.length + y.length - 1 - i ∧ i ≤ x.length + y.length - 1) (x.length + y.length - 1) ?_ ?_
  ·exact ⟨_, Gh.fr [(0, PI x), (1, PI y), (5, .own 23 0 0 (x.length + y.length - 1)), (25, .int .i64 ((x.length + y.length - 1 : Nat) : Int)), (26, .int .i64 (0 : Nat))] (by simp), 0, _, List.replicate (x.length + y.length - 1) [.nil, .bool false, .nil, .bool false], _, _, rfl, by simp [e0], by simp, by simp, by simp [emap], by omega, by omega⟩
  rintro k _ ⟨i, ver, els, rows, clk, rfl, hr, hel, he4, hpre, hk, hi⟩
  have hla : lenAll 4 els = True := by simp only [lenAll, eq_iff_iff, iff_true]; exact he4
  refine W.sreg (fun K hK => ?_); simp (disch := omega) [gA, wA]; refine W.lv [0, 1, 5, 25, 26, 27] hK fun J j => ?_; clear hK K; simp; refine j _ ?_; clear j J
  refine W.seq ?_
  refine W.cond ⟨_, rfl, fun h => ?_, fun h => ?_⟩
  ·have h : i < x.length + y.length - 1 := by simp at h; omega
   refine W.skip ?_
   refine W.seq ?_
   refine W.block ?_
   refine W.sreg (fun K hK => ?_); simp (disch := omega) [gA, wA]; refine W.lv [0, 1, 5, 6, 25, 26] hK fun J j => ?_; clear hK K; simp; refine j _ ?_; clear j J
   refine W.reg (fun K hK => ?_)
   simp (disch := omega) [gA, wA]
   refine callR zeroI_ret ?_
   have hil : i < els.length := by omega
   have hE : elLen els i 4 = True := by
    simp only [eq_iff_iff, iff_true]
    exact ⟨els[i], List.getElem?_eq_getElem hil, by rw [he4 _ (List.getElem_mem hil)]; omega⟩
   have hS : setEl els i 0 [sls i64e (dig DD 0), .bool false, sls i64e (dig DD 1), .bool false] = els.set i (ri 0) := by
    have h4 := he4 _ (List.getElem_mem hil)
    rw [setEl, List.getElem?_eq_getElem hil]
    simp [List.drop_of_length_le, h4]
   simp (disch := omega) [gA, wA, hr, hE, hS]
   refine W.lv [0, 1, 5, 25, 26] hK fun J j => ?_; clear hK K; simp; refine j _ ?_; clear j J
   refine W.reg (fun K hK => ?_); simp (disch := omega) [gA, wA]
   refine hK _ ⟨x.length + y.length - 1 - (i + 1), _, Gh_fa _ [0, 1, 5, 25, 26], by omega, i + 1, ver, els.set i (ri 0), _, _, rfl, by simp, by simpa using hel, fun e he => ?_, ?_, by omega, by omega⟩
   ·rcases List.mem_or_eq_of_mem_set he with h1 | h1
    ·exact he4 e h1
    ·rw [h1]; rfl
   ·rw [set_take hpre (by omega), List.replicate_succ']
    simp [emap]
  ·have h : i = x.length + y.length - 1 := by simp at h; omega
   subst h
   have hz0 : els = emap ri (List.replicate (x.length + y.length - 1) 0) := by rw [← hpre, take_all hel]
   subst hz0
   clear hpre he4 hel hla hk hi
   refine W.exit ?_; simp only [pX, if_true, if_false, reduceIte, Nat.reduceEqDiff]
   refine W.seq ?_
   refine W.sreg (fun K hK => ?_); simp (disch := omega) [gA, wA]; refine W.lv [0, 1, 5, 35, 36] hK fun J j => ?_; clear hK K; simp; refine j _ ?_; clear j J
   refine W.block ?_
   refine W.loopG (fun k σ => ∃ (i : Nat) (z : List Int) (ver : Nat) (rows : Pm.Rows) (clk : Nat), σ = ⟨fa [(0, PI x), (1, PI y), (5, .own 23 ver 0 (x.length + y.length - 1)), (35, .int .i64 x.length), (36, .int .i64 i)], rows, clk⟩ ∧
    rows 23 = some ⟨ver, 43, 4, emap ri z⟩ ∧ k = x.length - i ∧ i ≤ x.length ∧ z.length = x.length + y.length - 1 ∧ (∀ j, sz 2 (nth z j) ≤ s + s' + i) ∧
    ∀ t, V t z = V t (x.take i) * V t y) x.length ?_ ?_
   ·refine ⟨_, .refl, 0, List.replicate (x.length + y.length - 1) 0, _, _, _, rfl, hr, by omega, by omega, by simp, fun j => ?_, fun t => by simp [V, V_rep]⟩
    have : Bd 2 0 (x.length + y.length - 1) (List.replicate (x.length + y.length - 1) 0) := ⟨by simp, fun c hc => by rw [(List.mem_replicate.1 hc).2, sz_zero]; omega⟩
    have := this.nth j
    omega
   clear hr rows clk
   rintro k _ ⟨i, z, ver, rows, clk, rfl, hr, hk, hi, hz, hzs, hV⟩
   refine W.sreg (fun K hK => ?_); simp (disch := omega) [gA, wA]; refine W.lv [0, 1, 5, 35, 36, 37] hK fun J j => ?_; clear hK K; simp; refine j _ ?_; clear j J
   refine W.seq ?_
   refine W.cond ⟨_, rfl, fun h => ?_, fun h => ?_⟩
   ·simp at h
    refine W.skip ?_
    refine W.seq ?_
    refine W.block ?_
    refine W.sreg (fun K hK => ?_); simp (disch := omega) [gA, wA]; refine W.lv [0, 1, 5, 7, 35, 36] hK fun J j => ?_; clear hK K; simp; refine j _ ?_; clear j J
    refine W.sreg (fun K hK => ?_); simp (disch := omega) [gA, wA]; refine W.lv [0, 1, 5, 7, 35, 36, 40, 41] hK fun J j => ?_; clear hK K; simp; refine j _ ?_; clear j J
    refine W.block ?_
    refine W.loopG (fun m σ => ∃ (k : Nat) (z : List Int) (ver : Nat) (rows : Pm.Rows) (clk : Nat), σ = ⟨fa [(0, PI x), (1, PI y), (5, .own 23 ver 0 (x.length + y.length - 1)), (7, .int .i64 i), (35, .int .i64 x.length), (36, .int .i64 i), (40, .int .i64 y.length), (41, .int .i64 k)], rows, clk⟩ ∧
     rows 23 = some ⟨ver, 43, 4, emap ri z⟩ ∧ m = y.length - k ∧ k ≤ y.length ∧ z.length = x.length + y.length - 1 ∧ (∀ j, sz 2 (nth z j) ≤ s + s' + i + 1) ∧ (∀ j, i + k ≤ j → sz 2 (nth z j) ≤ s + s' + i) ∧
     ∀ t, V t z = V t (x.take i) * V t y + t ^ i * nth x i * V t (y.take k)) y.length ?_ ?_
    ·refine ⟨_, .refl, 0, z, ver, _, _, rfl, by simpa using hr, by omega, by omega, hz, fun j => by have := hzs j; omega, fun j _ => hzs j, fun t => by simp [V, hV]⟩
    clear hV hzs hz hr z ver rows clk
    rintro m _ ⟨k, z, ver, rows, clk, rfl, hr, hm, hky, hz, hzs, hzs2, hV⟩
    refine W.sreg (fun K hK => ?_); simp (disch := omega) [gA, wA]; refine W.lv [0, 1, 5, 7, 35, 36, 40, 41, 42] hK fun J j => ?_; clear hK K; simp; refine j _ ?_; clear j J
    refine W.seq ?_
    refine W.cond ⟨_, rfl, fun h2 => ?_, fun h2 => ?_⟩
    ·simp at h2
     refine W.skip ?_
     refine W.seq ?_
     refine W.block ?_
     refine W.sreg (fun K hK => ?_); simp (disch := omega) [gA, wA]; refine W.lv [0, 1, 5, 7, 8, 35, 36, 40, 41] hK fun J j => ?_; clear hK K; simp; refine j _ ?_; clear j J
     have e1 : ((i : Int) + (k : Int)).toNat = i + k := by omega
     have hm1 : sz 2 (nth x i * nth y k) ≤ s + s' + i := Nat.le_trans (sz_mul (by decide) (hs.nth i) (hs'.nth k)) (by omega)
     have hm2 := sz_add (b := 2) (by decide) (hzs2 (i + k) (Nat.le_refl _)) hm1
     have hlz : i + k < z.length := by omega
     have c1 := MulRI_ret (nth x i) (nth y k) (Nat.le_trans (hs.nth i) (by show _ ≤ 137438953472; omega)) (Nat.le_trans (hs'.nth k) (by show _ ≤ 137438953472; omega))
     have c2 := AddRI_ret (nth z (i + k)) (nth x i * nth y k) (Nat.le_trans (hzs2 (i + k) (Nat.le_refl _)) (by show _ ≤ 137438953472; omega)) (Nat.le_trans hm1 (by show _ ≤ 137438953472; omega))
     have hV2 := fun t => V_set (b := t) (x := nth z (i + k) + nth x i * nth y k) hlz
     generalize hu : nth z (i + k) + nth x i * nth y k = u at *
     generalize hpq : nth x i * nth y k = pq at *
     refine W.drw (fun K hK => ?_)
     rw [if_pos rfl, pregion_tail]
     simp (disch := omega) [gA, wA, hr, e1]
     refine callR c1 ?_
     simp (disch := omega) [gA, wA, hr, e1]
     refine callR c2 ?_
     simp (disch := omega) [gA, wA, hr, e1]
     refine W.lv [0, 1, 5, 7, 35, 36, 40, 41] hK fun J j => ?_; clear hK K; simp; refine j _ ?_; clear j J
     refine W.reg (fun K hK => ?_); simp (disch := omega) [gA, wA]
     refine hK _ ⟨y.length - (k + 1), _, Gh_fa _ [0, 1, 5, 7, 35, 36, 40, 41], by omega, k + 1, z.set (i + k) u, ver, _, _, rfl, by simp, by omega, by omega, by simpa using hz, fun j => ?_, fun j hj => ?_, fun t => ?_⟩
     ·by_cases hj : i + k = j
      ·subst hj; rw [nth_set_self hlz]; exact hm2
      ·rw [nth_set_ne hj]; exact hzs j
     ·rw [nth_set_ne (by omega)]; exact hzs2 j (by omega)
     ·rw [hV2, V_take_succ h2, hV, Int.pow_add, ← hu, ← hpq]; clear hV hV2; grind
    ·simp at h2
     have hk' : k = y.length := by omega
     subst hk'
     refine W.exit ?_; simp only [pX, if_true, if_false, reduceIte, Nat.reduceEqDiff]
     refine W.reg (fun K hK => ?_); simp (disch := omega) [gA, wA]
     refine hK _ ⟨x.length - (i + 1), _, Gh_fa _ [0, 1, 5, 35, 36], by omega, i + 1, z, ver, _, _, rfl, hr, by omega, by omega, hz, fun j => by have := hzs j; omega, fun t => ?_⟩
     rw [hV, V_take_all (Nat.le_refl _), V_take_succ h]; grind
   ·simp at h
    have hi' : i = x.length := by omega
    subst hi'
    have hz2 := take_all hz
    refine W.exit ?_; simp only [pX, if_true, if_false, reduceIte, Nat.reduceEqDiff]
    refine W.sreg (fun K hK => ?_)
    simp (disch := omega) [gA, wA, hr, hz2]
    refine callR (qcutI_ret z (by omega)) ?_
    simp (disch := omega) [gA, wA]
    refine W.lv [4] hK fun J j => ?_; clear hK K; simp; refine j _ ?_; clear j J
    refine W.ret ?_
    have e : cutR z = pmul x y := by
     refine Cn.ext (Cn.cut _) (Cn.pmul _ _) fun t => ?_
     rw [V_cutR, hV, V_pmul, V_take_all (Nat.le_refl _)]
    simp [go, e]
end Go.Proofs.YtdiladmkbpnhoaaGreat
namespace Go.Proofs.YtdiladmkbpnhoaaGreat
open Go Pm
theorem Within_ret (v n : Int) (hv : -9223372036854775808 ≤ v ∧ v < 9223372036854775808) (hn : 0 < n) (hn2 : n < 4611686018427387904) : Ret env.P 16 [.int .i64 v, .int .i64 n] (.int .i64 (v % n)) := by
 have hn0 : n ≠ 0 := by omega
 have h12 : (v.tmod n = v % n ∨ (v.tmod n < 0 ∧ v.tmod n + n = v % n)) ∧ -n < v.tmod n ∧ v.tmod n < n := by
  have h2 := Int.emod_nonneg v hn0
  have h3 := Int.emod_lt_of_pos v hn
  rcases (show v < 0 ∨ 0 ≤ v by omega) with h | h
  ·have h4 := Int.tmod_eq_emod (a := v) (b := n)
   have h5 : (n.natAbs : Int) = n := by omega
   split at h4
   ·simp at h4; omega
   ·rename_i h6
    rw [h5] at h4
    have h7 : v % n ≠ 0 := fun h8 => h6 (.inr (Int.dvd_of_emod_eq_zero h8))
    omega
  ·rw [Int.tmod_eq_emod_of_nonneg h]; omega
 obtain ⟨h1, h2⟩ := h12
 have h5 := Int.emod_nonneg v hn0
 have h6 := Int.emod_lt_of_pos v hn
 have hnn : ¬ n < 1 := by omega
 refine ret_of_Wf (E := env) (fun _ => 0) [(0, .int .i64 v), (1, .int .i64 n)] Tryz.func16 rfl (by kernel_rfl) (by kernel_rfl) (show 2 ≤ 17 by decide) (by simp) ?_
 refine W.sreg (fun K hK => ?_); simp (disch := omega) [gA, wA]; refine W.lv [0, 1] hK fun J j => ?_; clear hK K; simp; refine j _ ?_; clear j J
 refine W.seq ?_
 refine W.sreg (fun K hK => ?_); simp (disch := omega) [gA, wA]; refine W.lv [0, 1, 7] hK fun J j => ?_; clear hK K; simp; refine j _ ?_; clear j J
 refine W.cond ⟨_, rfl, fun h => ?_, fun h => ?_⟩
 ·exfalso; simp at h; omega
 ·refine W.skip ?_
  generalize hm : v.tmod n = m at *
  generalize v % n = r at *
  refine W.sreg (fun K hK => ?_); simp (disch := omega) [gA, hn0, hm]
  refine W.lv [1, 5] hK fun J j => ?_; clear hK K; simp; refine j _ ?_; clear j J
  refine W.seqJ (fun σ => ∃ (rows : Pm.Rows) (clk : Nat), σ = ⟨fa [(5, .int .i64 r)], rows, clk⟩) ?_ ?_
  ·
   refine W.sreg (fun K hK => ?_); simp (disch := omega) [gA, wA]; refine W.lv [1, 5, 12] hK fun J j => ?_; clear hK K; simp; refine j _ ?_; clear j J
   refine W.cond ⟨_, rfl, fun h => ?_, fun h => ?_⟩
   ·simp at h
    refine W.reg (fun K hK => ?_); simp (disch := omega) [gA, wA]
    exact hK _ ⟨_, Gh.fr [(5, .int .i64 r)] (by simp; omega), _, _, rfl⟩
   ·simp at h
    refine W.skip ?_
    exact ⟨_, Gh.fr [(5, .int .i64 r)] (by simp; omega), _, _, rfl⟩
  rintro _ ⟨rows, clk, rfl⟩
  refine W.sreg (fun K hK => ?_); simp (disch := omega) [gA, wA]; refine W.lv [4] hK fun J j => ?_; clear hK K; simp; refine j _ ?_; clear j J
  refine W.ret ?_
  simp [go]
structure PB (x : List Int) : Prop where
 sz : ∀ c ∈ x, Sz c
 len : x.length < 1099511627775
theorem PB.pok {x : List Int} (h : PB x) : POK (x.map rw') := POK.of_norm h.sz (by have := h.len; omega)
theorem PB.of {s n : Nat} {x : List Int} (h : Bd LL s n x) (hs : s < 1099511627775) (hn : n < 1099511627775) : PB x := ⟨fun c hc => Nat.lt_of_le_of_lt (h.sz c hc) (by omega), Nat.lt_of_le_of_lt h.len hn⟩
theorem pAddI_ret {x y : List Int} (hx : PB x) (hy : PB y) : Ret env.P 85 [Po x, Po y] (Po (padd x y)) := by
 have := pAdd_ret _ _ hx.pok hy.pok
 rwa [map_gv_rw, map_gv_rw, ← Po_eq, ← Po_eq] at this
theorem pSubI_ret {x y : List Int} (hx : PB x) (hy : PB y) : Ret env.P 100 [Po x, Po y] (Po (psub x y)) := by
 have := pSub_ret _ _ hx.pok hy.pok
 rwa [map_gv_rw, map_gv_rw, ← Po_eq, ← Po_eq] at this
theorem pNegI_ret {x : List Int} (hx : PB x) : Ret env.P 117 [Po x] (Po (pneg x)) := by
 have := pNeg_ret _ hx.pok
 rwa [map_gv_rw, ← Po_eq] at this
theorem pNormI_ret {x : List Int} (hx : PB x) : Ret env.P 110 [Po x] (Po (cutR x)) := by
 have := pNorm_ret _ hx.pok
 rwa [map_gv_rw, ← Po_eq] at this
theorem pSameI_ret {x y : List Int} (hx : PB x) (hy : PB y) : Ret env.P 179 [Po x, Po y] (.bool (decide (cutR x = cutR y))) := by
 have := pSame_ret _ _ hx.pok hy.pok
 rwa [map_gv_rw, map_gv_rw, ← Po_eq, ← Po_eq] at this
theorem pMulG_ret {a : RP} {y : List Int} {s s' n n' : Nat} (ha : POK a) (hs : Bd LL s n (a.map gv)) (hs' : Bd LL s' n' y) (hB : s + s' + n + n' < 1099511627775) : Ret env.P 46 [Pg a, Po y] (Po (pmul (a.map gv) y)) := by
 have := pMul_ret a (y.map rw') ha (PB.of hs' (by omega) (by omega)).pok s s' n n' hs (by rwa [map_gv_rw]) hB
 rwa [map_gv_rw, ← Po_eq] at this
theorem pMulI_ret {x y : List Int} {s s' n n' : Nat} (hs : Bd LL s n x) (hs' : Bd LL s' n' y) (hB : s + s' + n + n' < 1099511627775) : Ret env.P 46 [Po x, Po y] (Po (pmul x y)) := by
 have := pMulG_ret (PB.of hs (by omega) (by omega)).pok (by rwa [map_gv_rw]) hs' hB
 rwa [map_gv_rw, ← Po_eq] at this
theorem cfs_len_zero {p : RP} : cfs p = [] ↔ (cfs p).length = 0 := by rw [List.length_eq_zero_iff]
theorem pmul_cfs (p : RP) (y : List Int) : pmul (p.map gv) y = pmul (cfs p) y := Cn.ext (Cn.pmul _ _) (Cn.pmul _ _) fun t => by simp [V_pmul, cfs, V_cutR]
end Go.Proofs.YtdiladmkbpnhoaaGreat
