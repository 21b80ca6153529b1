import Derived.Test.YtdiladmkbpnhoaaLt
import Derived.Test.YtdiladmkbpnhoaaLm
import Derived.Test.YtdiladmkbpnhoaaMh
set_option linter.unusedSimpArgs false
set_option linter.unusedVariables false
namespace Go.Proofs.Ytdiladmkbpnhoaa
open Go Pm
def ri (x : Int) : List PV := [sls i64e (dig DD x.natAbs), .bool (decide (x < 0)), sls i64e (dig DD 1), .bool false]
@[simp] theorem ri_def {x : Int} : ri x = [sls i64e (dig DD x.natAbs), .bool (decide (x < 0)), sls i64e (dig DD 1), .bool false] := rfl
theorem re_int (x : Int) : re (x : Rat) = ri x := by
 simp only [re, ri, Rat.num_intCast, Rat.den_intCast]
 congr
theorem PP_qs (x : List Int) : PP (qs x) = sls ri x := by simp only [PP, sls, emap, qs, List.map_map, Function.comp_def, re_int]
abbrev PI (x : List Int) : PV := sls ri x
@[simp] theorem lenAll_ri {l : List Int} : lenAll 4 (emap ri l) = True := lenAll_emap fun _ => rfl
@[simp] theorem rowPers_ri {v e n : Nat} {l : List Int} : rowPers (some ⟨v, e, n, emap ri l⟩) = True := rowPers_emap fun _ => rfl
@[simp] theorem app_ri {l : List Int} {x : Int} : emap ri l ++ [[sls i64e (dig DD x.natAbs), .bool (decide (x < 0)), sls i64e (dig DD 1), .bool false]] = emap ri (l ++ [x]) := by simp [emap]
@[simp] theorem app_re {l : List Rat} {q : Rat} : emap re l ++ [[sls i64e (dig DD q.num.natAbs), .bool (decide (q.num < 0)), sls i64e (dig DD q.den), .bool false]] = emap re (l ++ [q]) := by simp [emap]
@[simp] theorem setEl_ri {l : List Int} {i : Nat} {x : Int} : setEl (emap ri l) i 0 [sls i64e (dig DD x.natAbs), .bool (decide (x < 0)), sls i64e (dig DD 1), .bool false] = emap ri (l.set i x) := setEl_g (n := 4) (fun _ => rfl)
theorem qcutI_ret (l : List Int) (hl : l.length < 17592186044416) : Ret env.P 21 [PI l] (PI (cutR l)) := by
 have := qcut_ret (qs l) (by simpa using hl)
 rwa [cutQ_qs, PP_qs, PP_qs] at this
theorem MakeI_ret (n : Int) (zn : Y n) : Ret env.P 41 [RI n, RI 1] (.ag (ri n)) := by
 have := Make_ret n 1 zn (by have : sz 2 1 ≤ 1 := sz_le (by decide) (by decide); simp only [Y]; omega)
 rwa [qmk_one, RR, re_int] at this
theorem OfRI_ret (n : Int) (h1 : -9223372036854775808 ≤ n ∧ n < 9223372036854775808) : Ret env.P 20 [.int .i64 n, .int .i64 1] (.ag (ri n)) := by
 have := OfR_ret n 1 h1 (by decide)
 rwa [qmk_one, RR, re_int] at this
theorem ZR_int {x : Int} {k : Nat} (h : sz 2 x ≤ k) (h1 : 1 ≤ k) : ZR k (x : Rat) := ⟨by simpa using h, by simp; exact Nat.le_trans (sz_le (by decide) (by decide)) h1⟩
structure FOK (p : RP) : Prop where
 ok : ∀ c ∈ p, Lim 4294967296 c.2 ∧ c.2.length < 4294967296
 len : p.length < 1099511627776
theorem qOf_ret (l : List Int) (hl : l.length < 1099511627776) (hb : ∀ x ∈ l, -9223372036854775808 ≤ x ∧ x < 9223372036854775808) : Ret env.P 8 [sls i64e l] (PI (cutR l)) := by
 refine ret_of_Wf (E := env) (fun _ => 0) [(0, sls i64e l)] Try.func8 rfl (by kernel_rfl) (by kernel_rfl) (show 1 ≤ 21 by decide) (by simp) ?_
 refine W.sreg (fun K hK => ?_); simp (disch := omega) [gA, wA]; refine W.lv [0] hK fun J j => ?_; clear hK K; simp; refine j _ ?_; clear j J
 refine W.sreg (fun K hK => ?_); simp (disch := omega) [gA, wA]; refine W.lv [0, 3] hK fun J j => ?_; clear hK K; simp; refine j _ ?_; clear j J
 refine W.nil 3 3 53 4 (by simp) (by decide) (fun K hK => ?_)
 refine W.lv [0, 3] hK fun J j => ?_; clear hK K; simp; refine j _ ?_; clear j J
 refine W.seq ?_
 refine W.sreg (fun K hK => ?_); simp (disch := omega) [gA, wA]; refine W.lv [0, 3, 6, 7] hK fun J j => ?_; clear hK K; simp; refine j _ ?_; clear j J
 refine W.block ?_
 refine W.loopG (fun k σ => ∃ (i ver : Nat) (rows : Pm.Rows) (clk : Nat), σ = ⟨fa [(0, sls i64e l), (3, .own 3 ver 0 i), (6, .int .i64 l.length), (7, .int .i64 i)], rows, clk⟩ ∧ rows 3 = some ⟨ver, 53, 4, emap ri (l.take i)⟩ ∧ k = l.length - i ∧ i ≤ l.length) l.length ?_ ?_
 ·exact ⟨_, .refl, 0, _, _, _, rfl, by simp [emap], by omega, by omega⟩
 rintro k _ ⟨i, ver, rows, clk, rfl, hr, hk, hi⟩
 refine W.sreg (fun K hK => ?_); simp (disch := omega) [gA, wA]; refine W.lv [0, 3, 6, 7, 8] hK fun J j => ?_; clear hK K; simp; refine j _ ?_; clear j J
 refine W.seq ?_
 refine W.cond ⟨_, rfl, fun h0 => ?_, fun h0 => ?_⟩
 ·simp at h0
  have hcl : (l.take i).length = i := by simp; omega
  refine W.skip ?_
  refine W.seq ?_
  refine W.block ?_
  refine W.sreg (fun K hK => ?_); simp (disch := omega) [gA, wA]; refine W.lv [0, 3, 4, 6, 7] hK fun J j => ?_; clear hK K; simp; refine j _ ?_; clear j J
  refine W.reg (fun K hK => ?_)
  simp (disch := omega) [gA, wA]
  refine callR (OfRI_ret (nth l i) (hb _ (nth_mem h0))) ?_
  simp (disch := omega) [gA, wA, hr, hcl]
  refine W.lv [0, 3, 6, 7] hK fun J j => ?_; clear hK K; simp; refine j _ ?_; clear j J
  refine W.reg (fun K hK => ?_); simp (disch := omega) [gA, wA]
  refine hK _ ⟨l.length - (i + 1), _, Gh_fa _ [0, 3, 6, 7], by omega, i + 1, _, _, _, rfl, ?_, by omega, by omega⟩
  rw [take_succ_nth h0]
  simp
 ·simp at h0
  have hi' : i = l.length := by omega
  subst hi'
  refine W.exit ?_; simp only [pX, if_true, if_false, reduceIte, Nat.reduceEqDiff]
  refine W.sreg (fun K hK => ?_)
  simp (disch := omega) [gA, wA, hr]
  refine callR (qcutI_ret l (by omega)) ?_
  simp (disch := omega) [gA, wA]
  refine W.lv [2] hK fun J j => ?_; clear hK K; simp; refine j _ ?_; clear j J
  refine W.ret ?_
  simp [go]
theorem qSame_ret (x y : List Int) (hx : x.length < 1099511627776) (hy : y.length < 1099511627776) (zx : ∀ c ∈ x, Z c) (zy : ∀ c ∈ y, Z c) : Ret env.P 7 [PI x, Po y] (.bool (decide (x = y))) := by
 refine ret_of_Wf (E := env) (fun _ => 0) [(0, PI x), (1, Po y)] Try.func7 rfl (by kernel_rfl) (by kernel_rfl) (show 2 ≤ 38 by decide) (by simp) ?_
 refine W.sreg (fun K hK => ?_); simp (disch := omega) [gA, wA]; refine W.lv [0, 1] hK fun J j => ?_; clear hK K; simp; refine j _ ?_; clear j J
 refine W.seq ?_
 refine W.sreg (fun K hK => ?_); simp (disch := omega) [gA, wA]; refine W.lv [0, 1, 10] hK fun J j => ?_; clear hK K; simp; refine j _ ?_; clear j J
 refine W.cond ⟨_, rfl, fun h => ?_, fun h => ?_⟩
 ·have hne : x ≠ y := fun h1 => by simp [h1] at h
  refine W.sreg (fun K hK => ?_); simp (disch := omega) [gA, wA]; refine W.lv [4] hK fun J j => ?_; clear hK K; simp; refine j _ ?_; clear j J
  refine W.ret ?_
  simp [go, hne]
 ·have hlen : x.length = y.length := by simp at h; omega
  refine W.skip ?_
  refine W.seq ?_
  refine W.sreg (fun K hK => ?_); simp (disch := omega) [gA, wA]; refine W.lv [0, 1, 12, 13] hK fun J j => ?_; clear hK K; simp; refine j _ ?_; clear j J
  refine W.block ?_
  refine W.loopG (fun k σ => ∃ (i : Nat) (rows : Pm.Rows) (clk : Nat), σ = ⟨fa [(0, PI x), (1, Po y), (12, .int .i64 x.length), (13, .int .i64 i)], rows, clk⟩ ∧ k = x.length - i ∧ i ≤ x.length ∧ x.take i = y.take i) x.length ?_ ?_
  ·exact ⟨_, .refl, 0, _, _, rfl, by omega, by omega, by simp⟩
  rintro k _ ⟨i, rows, clk, rfl, hk, hi, hI⟩
  refine W.sreg (fun K hK => ?_); simp (disch := omega) [gA, wA]; refine W.lv [0, 1, 12, 13, 14] hK fun J j => ?_; clear hK K; simp; refine j _ ?_; clear j J
  refine W.seq ?_
  refine W.cond ⟨_, rfl, fun h => ?_, fun h => ?_⟩
  ·simp at h
   refine W.skip ?_
   refine W.seq ?_
   refine W.block ?_
   refine W.sreg (fun K hK => ?_); simp (disch := omega) [gA, wA]; refine W.lv [0, 1, 5, 12, 13] hK fun J j => ?_; clear hK K; simp; refine j _ ?_; clear j J
   have hyi : i < y.length := by omega
   have hs := rSame_ret (nth x i) (decide (nth y i < 0)) (dig LL (nth y i).natAbs) (zx _ (nth_mem h)) (Nat.lt_of_le_of_lt (sz_base hLL _) (zy _ (nth_mem hyi)))
   have he : (decide (nth y i < 0) = decide (nth x i < 0) ∧ dig LL (nth y i).natAbs = dig LL (nth x i).natAbs) ↔ nth x i = nth y i := by
    constructor
    ·rintro ⟨h1, h2⟩
     have h3 := V_ll (nth x i).natAbs
     have h4 := V_ll (nth y i).natAbs
     rw [h2] at h4
     simp only [decide_eq_decide] at h1
     omega
    ·intro h1; rw [h1]; exact ⟨rfl, rfl⟩
   simp only [he] at hs
   refine W.sdrwJ (fun σ => ∃ (b : Bool), σ = ⟨fa [(0, PI x), (1, Po y), (12, .int .i64 x.length), (13, .int .i64 i), (36, .bool b)], rows, clk⟩ ∧ (b = true ↔ nth x i ≠ nth y i)) (fun K hK => ?_) ?_
   ·by_cases hxy : nth x i = nth y i
    ·rw [decide_eq_true hxy] at hs
     simp (disch := omega) [gA, wA]
     refine callR hs ?_
     simp (disch := omega) [gA, wA]
     refine callR (rOf_ret 1 (by decide) (by decide)) ?_
     simp (disch := omega) [gA, wA]
     refine callR (rCmp_ret 1 1 (by simp only [Z]; exact Nat.lt_of_le_of_lt (sz_le (k := 1) (by decide) (by decide)) (by decide)) (by simp only [Z]; exact Nat.lt_of_le_of_lt (sz_le (k := 1) (by decide) (by decide)) (by decide))) ?_
     rw [cmp3_eq]
     simp (disch := omega) [gA, wA]
     exact hK _ _ (Gh_fa _ [0, 1, 12, 13, 36]) ⟨_, rfl, by simp [hxy]⟩
    ·rw [decide_eq_false hxy] at hs
     simp (disch := omega) [gA, wA]
     refine callR hs ?_
     simp (disch := omega) [gA, wA]
     exact hK _ _ (Gh_fa _ [0, 1, 12, 13, 36]) ⟨_, rfl, by simp [hxy]⟩
   rintro _ ⟨b, rfl, hb⟩
   refine W.cond ⟨_, rfl, fun h2 => ?_, fun h2 => ?_⟩
   ·have hne : x ≠ y := fun h1 => hb.1 h2 (by rw [h1])
    refine W.sreg (fun K hK => ?_); simp (disch := omega) [gA, wA]; refine W.lv [4] hK fun J j => ?_; clear hK K; simp; refine j _ ?_; clear j J
    refine W.ret ?_
    simp [go, hne]
   ·have he2 : nth x i = nth y i := Classical.byContradiction fun h3 => by simp [hb.2 h3] at h2
    refine W.skip ?_
    refine W.reg (fun K hK => ?_); simp (disch := omega) [gA, wA]
    refine hK _ ⟨x.length - (i + 1), _, Gh_fa _ [0, 1, 12, 13], by omega, i + 1, _, _, rfl, by omega, by omega, ?_⟩
    rw [take_succ_nth h, take_succ_nth hyi, hI, he2]
  ·simp at h
   rw [List.take_of_length_le (by omega), List.take_of_length_le (by omega)] at hI
   refine W.exit ?_; simp only [pX, if_true, if_false, reduceIte, Nat.reduceEqDiff]
   refine W.sreg (fun K hK => ?_); simp (disch := omega) [gA, wA]; refine W.lv [4] hK fun J j => ?_; clear hK K; simp; refine j _ ?_; clear j J
   refine W.ret ?_
   simp [go, hI]
end Go.Proofs.Ytdiladmkbpnhoaa
namespace Go.Proofs.Ytdiladmkbpnhoaa
open Go Pm
structure QOK (l : List Rat) : Prop where
 ok : ∀ q ∈ l, ZR YY q
 len : l.length < 1099511627776
theorem ZR_zero (k : Nat) (hk : 1 ≤ k) : ZR k 0 := ⟨by show sz 2 0 ≤ k; rw [sz_zero]; omega, by show sz 2 1 ≤ k; exact Nat.le_trans (sz_le (by decide) (by decide)) hk⟩
theorem QOK.nth {l : List Rat} (h : QOK l) (i : Nat) : ZR YY (nth l i) := by
 by_cases hi : i < l.length
 ·exact h.ok _ (nth_mem hi)
 ·rw [nth_ge (by omega)]; exact ZR_zero _ (by decide)
theorem QOK.qs {x : List Int} (h : ∀ c ∈ x, sz 2 c ≤ YY) (hl : x.length < 1099511627776) : QOK (qs x) := ⟨fun q hq => by
 simp only [List.mem_map] at hq
 obtain ⟨c, hc, rfl⟩ := hq
 exact ZR_int (h c hc) (by decide), by simpa using hl⟩
@[simp] theorem persAll_re {l : List Rat} : (∀ e ∈ emap re l, ∀ p ∈ e, pers1 p = true) = True := by simp [emap]
def addQ (a b : List Rat) : List Rat := cutQ ((List.range (max a.length b.length)).map fun k => nth a k + nth b k)
def scaleQ (a : List Rat) (c : Rat) : List Rat := cutQ (a.map fun x => x * c)
theorem nth_qs (x : List Int) (k : Nat) : nth (qs x) k = ((nth x k : Int) : Rat) := nth_map (f := fun (c : Int) => (c : Rat)) rfl x k
theorem addQ_qs (x y : List Int) : addQ (qs x) (qs y) = qs (padd x y) := by
 rw [addQ, padd, ← cutQ_qs]
 congr 1
 simp only [qs, List.length_map, List.map_map]
 congr 1
 funext k
 simp only [Function.comp_apply]
 rw [show nth (List.map (fun (c : Int) => (c : Rat)) x) k = _ from nth_qs x k, show nth (List.map (fun (c : Int) => (c : Rat)) y) k = _ from nth_qs y k, Rat.intCast_add]
theorem scaleQ_qs (x : List Int) (c : Int) : scaleQ (qs x) (c : Rat) = qs (pscale x c) := by
 rw [scaleQ, pscale, ← cutQ_qs]
 congr 1
 simp [qs, Function.comp_def]
theorem pscale_neg (x : List Int) : pscale x (-1) = pneg x := by simp [pscale, pneg]
end Go.Proofs.Ytdiladmkbpnhoaa
namespace Go.Proofs.Ytdiladmkbpnhoaa
open Go Pm
theorem Within_ret (v n : Int) (hv : -9223372036854775808 ≤ v ∧ v < 9223372036854775808) (hn : 0 < n) (hn2 : n < 4611686018427387904) : Ret env.P 4 [.int .i64 v, .int .i64 n] (.int .i64 (v % n)) := by
 have hn0 : n ≠ 0 := by omega
 have h12 : (v.tmod n = v % n ∨ (v.tmod n < 0 ∧ v.tmod n + n = v % n)) ∧ -n < v.tmod n ∧ v.tmod n < n := by
  have h2 := Int.emod_nonneg v hn0
  have h3 := Int.emod_lt_of_pos v hn
  rcases (show v < 0 ∨ 0 ≤ v by omega) with h | h
  ·have h4 := Int.tmod_eq_emod (a := v) (b := n)
   have h5 : (n.natAbs : Int) = n := by omega
   split at h4
   ·simp at h4; omega
   ·rename_i h6
    rw [h5] at h4
    have h7 : v % n ≠ 0 := fun h8 => h6 (.inr (Int.dvd_of_emod_eq_zero h8))
    omega
  ·rw [Int.tmod_eq_emod_of_nonneg h]; omega
 obtain ⟨h1, h2⟩ := h12
 have h5 := Int.emod_nonneg v hn0
 have h6 := Int.emod_lt_of_pos v hn
 have hnn : ¬ n < 1 := by omega
 refine ret_of_Wf (E := env) (fun _ => 0) [(0, .int .i64 v), (1, .int .i64 n)] Try.func4 rfl (by kernel_rfl) (by kernel_rfl) (show 2 ≤ 17 by decide) (by simp) ?_
 refine W.sreg (fun K hK => ?_); simp (disch := omega) [gA, wA]; refine W.lv [0, 1] hK fun J j => ?_; clear hK K; simp; refine j _ ?_; clear j J
 refine W.seq ?_
 refine W.sreg (fun K hK => ?_); simp (disch := omega) [gA, wA]; refine W.lv [0, 1, 7] hK fun J j => ?_; clear hK K; simp; refine j _ ?_; clear j J
 refine W.cond ⟨_, rfl, fun h => ?_, fun h => ?_⟩
 ·exfalso; simp at h; omega
 ·refine W.skip ?_
  generalize hm : v.tmod n = m at *
  generalize v % n = r at *
  refine W.sreg (fun K hK => ?_); simp (disch := omega) [gA, hn0, hm]
  refine W.lv [1, 5] hK fun J j => ?_; clear hK K; simp; refine j _ ?_; clear j J
  refine W.seqJ (fun σ => ∃ (rows : Pm.Rows) (clk : Nat), σ = ⟨fa [(5, .int .i64 r)], rows, clk⟩) ?_ ?_
  ·
   refine W.sreg (fun K hK => ?_); simp (disch := omega) [gA, wA]; refine W.lv [1, 5, 12] hK fun J j => ?_; clear hK K; simp; refine j _ ?_; clear j J
   refine W.cond ⟨_, rfl, fun h => ?_, fun h => ?_⟩
   ·simp at h
    refine W.reg (fun K hK => ?_); simp (disch := omega) [gA, wA]
    exact hK _ ⟨_, Gh.fr [(5, .int .i64 r)] (by simp; omega), _, _, rfl⟩
   ·simp at h
    refine W.skip ?_
    exact ⟨_, Gh.fr [(5, .int .i64 r)] (by simp; omega), _, _, rfl⟩
  rintro _ ⟨rows, clk, rfl⟩
  refine W.sreg (fun K hK => ?_); simp (disch := omega) [gA, wA]; refine W.lv [4] hK fun J j => ?_; clear hK K; simp; refine j _ ?_; clear j J
  refine W.ret ?_
  simp [go]
structure PB (x : List Int) : Prop where
 sz : ∀ c ∈ x, Sz c
 len : x.length < 1099511627775
theorem PB.pok {x : List Int} (h : PB x) : POK (x.map rw') := POK.of_norm h.sz (by have := h.len; omega)
theorem PB.of {s n : Nat} {x : List Int} (h : Bd LL s n x) (hs : s < 1099511627775) (hn : n < 1099511627775) : PB x := ⟨fun c hc => Nat.lt_of_le_of_lt (h.sz c hc) (by omega), Nat.lt_of_le_of_lt h.len hn⟩
theorem pAddI_ret {x y : List Int} (hx : PB x) (hy : PB y) : Ret env.P 28 [Po x, Po y] (Po (padd x y)) := by
 have := pAdd_ret _ _ hx.pok hy.pok
 rwa [map_gv_rw, map_gv_rw, ← Po_eq, ← Po_eq] at this
theorem pSubI_ret {x y : List Int} (hx : PB x) (hy : PB y) : Ret env.P 31 [Po x, Po y] (Po (psub x y)) := by
 have := pSub_ret _ _ hx.pok hy.pok
 rwa [map_gv_rw, map_gv_rw, ← Po_eq, ← Po_eq] at this
theorem pNormI_ret {x : List Int} (hx : PB x) : Ret env.P 46 [Po x] (Po (cutR x)) := by
 have := pNorm_ret _ hx.pok
 rwa [map_gv_rw, ← Po_eq] at this
theorem pMulG_ret {a : RP} {y : List Int} {s s' n n' : Nat} (ha : POK a) (hs : Bd LL s n (a.map gv)) (hs' : Bd LL s' n' y) (hB : s + s' + n + n' < 1099511627775) : Ret env.P 29 [Pg a, Po y] (Po (pmul (a.map gv) y)) := by
 have := pMul_ret a (y.map rw') ha (PB.of hs' (by omega) (by omega)).pok s s' n n' hs (by rwa [map_gv_rw]) hB
 rwa [map_gv_rw, ← Po_eq] at this
theorem pMulI_ret {x y : List Int} {s s' n n' : Nat} (hs : Bd LL s n x) (hs' : Bd LL s' n' y) (hB : s + s' + n + n' < 1099511627775) : Ret env.P 29 [Po x, Po y] (Po (pmul x y)) := by
 have := pMulG_ret (PB.of hs (by omega) (by omega)).pok (by rwa [map_gv_rw]) hs' hB
 rwa [map_gv_rw, ← Po_eq] at this
theorem cfs_len_zero {p : RP} : cfs p = [] ↔ (cfs p).length = 0 := by rw [List.length_eq_zero_iff]
theorem pmul_cfs (p : RP) (y : List Int) : pmul (p.map gv) y = pmul (cfs p) y := Cn.ext (Cn.pmul _ _) (Cn.pmul _ _) fun t => by simp [V_pmul, cfs, V_cutR]
end Go.Proofs.Ytdiladmkbpnhoaa
