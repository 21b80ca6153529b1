import Derived.Test.YtgebobdieekjaaaLt
import Derived.Test.YtgebobdieekjaaaLm
import Derived.Test.YtgebobdieekjaaaMh
set_option linter.unusedSimpArgs false
set_option linter.unusedVariables false
namespace Go.Proofs.Ytgebobdieekjaaa
open Go Pm

/-- A whole number as a rational one. -/
def ri (x : Int) : List PV := [sls i64e (dig DD x.natAbs), .bool (decide (x < 0)), sls i64e (dig DD 1), .bool false]
@[simp] theorem ri_def {x : Int} : ri x = [sls i64e (dig DD x.natAbs), .bool (decide (x < 0)), sls i64e (dig DD 1), .bool false] := rfl
theorem re_int (x : Int) : re (x : Rat) = ri x := by
  simp only [re, ri, Rat.num_intCast, Rat.den_intCast]
  congr
theorem PP_qs (x : List Int) : PP (qs x) = sls ri x := by simp only [PP, sls, emap, qs, List.map_map, Function.comp_def, re_int]
abbrev PI (x : List Int) : PV := sls ri x
@[simp] theorem lenAll_ri {l : List Int} : lenAll 4 (emap ri l) = True := lenAll_emap fun _ => rfl
@[simp] theorem rowPers_ri {v e n : Nat} {l : List Int} : rowPers (some ⟨v, e, n, emap ri l⟩) = True := rowPers_emap fun _ => rfl
@[simp] theorem app_ri {l : List Int} {x : Int} : emap ri l ++ [[sls i64e (dig DD x.natAbs), .bool (decide (x < 0)), sls i64e (dig DD 1), .bool false]] = emap ri (l ++ [x]) := by simp [emap]
@[simp] theorem app_re {l : List Rat} {q : Rat} : emap re l ++ [[sls i64e (dig DD q.num.natAbs), .bool (decide (q.num < 0)), sls i64e (dig DD q.den), .bool false]] = emap re (l ++ [q]) := by simp [emap]
@[simp] theorem setEl_ri {l : List Int} {i : Nat} {x : Int} : setEl (emap ri l) i 0 [sls i64e (dig DD x.natAbs), .bool (decide (x < 0)), sls i64e (dig DD 1), .bool false] = emap ri (l.set i x) := setEl_g (n := 4) (fun _ => rfl)
theorem qcutI_ret (l : List Int) (hl : l.length < 17592186044416) : Ret env.P 35 [PI l] (PI (cutR l)) := by
  have := qcut_ret (qs l) (by simpa using hl)
  rwa [cutQ_qs, PP_qs, PP_qs] at this
theorem MakeI_ret (n : Int) (zn : Y n) : Ret env.P 60 [RI n, RI 1] (.ag (ri n)) := by
  have := Make_ret n 1 zn (by have : sz 2 1 ≤ 1 := sz_le (by decide) (by decide); simp only [Y]; omega)
  rwa [qmk_one, RR, re_int] at this
theorem OfRI_ret (n : Int) (h1 : -9223372036854775808 ≤ n ∧ n < 9223372036854775808) : Ret env.P 34 [.int .i64 n, .int .i64 1] (.ag (ri n)) := by
  have := OfR_ret n 1 h1 (by decide)
  rwa [qmk_one, RR, re_int] at this
theorem ZR_int {x : Int} {k : Nat} (h : sz 2 x ≤ k) (h1 : 1 ≤ k) : ZR k (x : Rat) := ⟨by simpa using h, by simp; exact Nat.le_trans (sz_le (by decide) (by decide)) h1⟩
structure FOK (p : RP) : Prop where
  ok : ∀ c ∈ p, Lim 4294967296 c.2 ∧ c.2.length < 4294967296
  len : p.length < 1099511627776
theorem qOf_ret (l : List Int) (hl : l.length < 1099511627776) (hb : ∀ x ∈ l, -9223372036854775808 ≤ x ∧ x < 9223372036854775808) : Ret env.P 12 [sls i64e l] (PI (cutR l)) := by
  refine ret_of_Wf (E := env) (fun _ => 0) [(0, sls i64e l)] Try.func12 rfl (by kernel_rfl) (by kernel_rfl) (show 1 ≤ 21 by decide) (by simp) ?_
  refine W.sreg (fun K hK => ?_); simp (disch := omega) [gA, wrap_i64, wrap_u64, wrap_u32, Int.tdiv_eq_ediv_of_nonneg, Int.tmod_eq_emod_of_nonneg]; refine hK _ (W.liveK [0] fun K2 hK2 => ?_); clear hK K; simp; refine hK2 _ ?_; clear hK2 K2
  refine W.sreg (fun K hK => ?_); simp (disch := omega) [gA, wrap_i64, wrap_u64, wrap_u32, Int.tdiv_eq_ediv_of_nonneg, Int.tmod_eq_emod_of_nonneg]; refine hK _ (W.liveK [0, 3] fun K2 hK2 => ?_); clear hK K; simp; refine hK2 _ ?_; clear hK2 K2
  refine W.nil 3 3 60 4 (by simp) (by decide) (fun K hK => ?_)
  refine hK _ (W.liveK [0, 3] fun K2 hK2 => ?_); clear hK K; simp; refine hK2 _ ?_; clear hK2 K2
  refine W.seq ?_
  refine W.sreg (fun K hK => ?_); simp (disch := omega) [gA, wrap_i64, wrap_u64, wrap_u32, Int.tdiv_eq_ediv_of_nonneg, Int.tmod_eq_emod_of_nonneg]; refine hK _ (W.liveK [0, 3, 6, 7] fun K2 hK2 => ?_); clear hK K; simp; refine hK2 _ ?_; clear hK2 K2
  refine W.block ?_   -- block 0
  refine W.loopG (fun k σ => ∃ (i ver : Nat) (rows : Pm.Rows) (clk : Nat), σ = ⟨fa [(0, sls i64e l), (3, .own 3 ver 0 i), (6, .int .i64 l.length), (7, .int .i64 i)], rows, clk⟩ ∧ rows 3 = some ⟨ver, 60, 4, emap ri (l.take i)⟩ ∧ k = l.length - i ∧ i ≤ l.length) l.length ?_ ?_
  · exact ⟨_, .refl, 0, _, _, _, rfl, by simp [emap], by omega, by omega⟩
  rintro k _ ⟨i, ver, rows, clk, rfl, hr, hk, hi⟩
  refine W.sreg (fun K hK => ?_); simp (disch := omega) [gA, wrap_i64, wrap_u64, wrap_u32, Int.tdiv_eq_ediv_of_nonneg, Int.tmod_eq_emod_of_nonneg]; refine hK _ (W.liveK [0, 3, 6, 7, 8] fun K2 hK2 => ?_); clear hK K; simp; refine hK2 _ ?_; clear hK2 K2
  refine W.seq ?_
  refine W.cond ⟨_, rfl, fun h0 => ?_, fun h0 => ?_⟩   -- t8
  · simp at h0
    have hcl : (l.take i).length = i := by simp; omega
    refine W.skip ?_
    refine W.seq ?_
    refine W.block ?_   -- block 1
    refine W.sreg (fun K hK => ?_); simp (disch := omega) [gA, wrap_i64, wrap_u64, wrap_u32, Int.tdiv_eq_ediv_of_nonneg, Int.tmod_eq_emod_of_nonneg]; refine hK _ (W.liveK [0, 3, 4, 6, 7] fun K2 hK2 => ?_); clear hK K; simp; refine hK2 _ ?_; clear hK2 K2
    refine W.reg (fun K hK => ?_)
    simp (disch := omega) [gA, wrap_i64, wrap_u64, wrap_u32, Int.tdiv_eq_ediv_of_nonneg, Int.tmod_eq_emod_of_nonneg]
    refine callR (OfRI_ret (nth l i) (hb _ (nth_mem h0))) ?_
    simp (disch := omega) [gA, wrap_i64, wrap_u64, wrap_u32, Int.tdiv_eq_ediv_of_nonneg, Int.tmod_eq_emod_of_nonneg, hr, hcl]
    refine hK _ (W.liveK [0, 3, 6, 7] fun K2 hK2 => ?_); clear hK K; simp; refine hK2 _ ?_; clear hK2 K2
    refine W.reg (fun K hK => ?_); simp (disch := omega) [gA, wrap_i64, wrap_u64, wrap_u32, Int.tdiv_eq_ediv_of_nonneg, Int.tmod_eq_emod_of_nonneg]
    refine hK _ ⟨l.length - (i + 1), _, Gh_fa _ [0, 3, 6, 7], by omega, i + 1, _, _, _, rfl, ?_, by omega, by omega⟩
    rw [take_succ_nth h0]
    simp
  · simp at h0
    have hi' : i = l.length := by omega
    subst hi'
    refine W.exit ?_; simp only [pblk_exit, pblk_normal, pblk_ret, pseq_exit, pseq_normal, pseq_ret, pnor_exit, pnor_normal, pnor_ret, if_true, if_false, reduceIte, Nat.reduceEqDiff]
    refine W.sreg (fun K hK => ?_)
    simp (disch := omega) [gA, wrap_i64, wrap_u64, wrap_u32, Int.tdiv_eq_ediv_of_nonneg, Int.tmod_eq_emod_of_nonneg, hr]
    refine callR (qcutI_ret l (by omega)) ?_
    simp (disch := omega) [gA, wrap_i64, wrap_u64, wrap_u32, Int.tdiv_eq_ediv_of_nonneg, Int.tmod_eq_emod_of_nonneg]
    refine hK _ (W.liveK [2] fun K2 hK2 => ?_); clear hK K; simp; refine hK2 _ ?_; clear hK2 K2
    refine W.ret ?_
    simp [go]

theorem qSame_ret (x y : List Int) (hx : x.length < 1099511627776) (hy : y.length < 1099511627776) (zx : ∀ c ∈ x, Z c) (zy : ∀ c ∈ y, Z c) : Ret env.P 17 [PI x, Po y] (.bool (decide (x = y))) := by
  refine ret_of_Wf (E := env) (fun _ => 0) [(0, PI x), (1, Po y)] Try.func17 rfl (by kernel_rfl) (by kernel_rfl) (show 2 ≤ 38 by decide) (by simp) ?_
  refine W.sreg (fun K hK => ?_); simp (disch := omega) [gA, wrap_i64, wrap_u64, wrap_u32, Int.tdiv_eq_ediv_of_nonneg, Int.tmod_eq_emod_of_nonneg]; refine hK _ (W.liveK [0, 1] fun K2 hK2 => ?_); clear hK K; simp; refine hK2 _ ?_; clear hK2 K2
  refine W.seq ?_
  refine W.sreg (fun K hK => ?_); simp (disch := omega) [gA, wrap_i64, wrap_u64, wrap_u32, Int.tdiv_eq_ediv_of_nonneg, Int.tmod_eq_emod_of_nonneg]; refine hK _ (W.liveK [0, 1, 10] fun K2 hK2 => ?_); clear hK K; simp; refine hK2 _ ?_; clear hK2 K2
  refine W.cond ⟨_, rfl, fun h => ?_, fun h => ?_⟩   -- t10
  · have hne : x ≠ y := fun h1 => by simp [h1] at h
    refine W.sreg (fun K hK => ?_); simp (disch := omega) [gA, wrap_i64, wrap_u64, wrap_u32, Int.tdiv_eq_ediv_of_nonneg, Int.tmod_eq_emod_of_nonneg]; refine hK _ (W.liveK [4] fun K2 hK2 => ?_); clear hK K; simp; refine hK2 _ ?_; clear hK2 K2
    refine W.ret ?_
    simp [go, hne]
  · have hlen : x.length = y.length := by simp at h; omega
    refine W.skip ?_
    refine W.seq ?_
    refine W.sreg (fun K hK => ?_); simp (disch := omega) [gA, wrap_i64, wrap_u64, wrap_u32, Int.tdiv_eq_ediv_of_nonneg, Int.tmod_eq_emod_of_nonneg]; refine hK _ (W.liveK [0, 1, 12, 13] fun K2 hK2 => ?_); clear hK K; simp; refine hK2 _ ?_; clear hK2 K2
    refine W.block ?_   -- block 0
    refine W.loopG (fun k σ => ∃ (i : Nat) (rows : Pm.Rows) (clk : Nat), σ = ⟨fa [(0, PI x), (1, Po y), (12, .int .i64 x.length), (13, .int .i64 i)], rows, clk⟩ ∧ k = x.length - i ∧ i ≤ x.length ∧ x.take i = y.take i) x.length ?_ ?_
    · exact ⟨_, .refl, 0, _, _, rfl, by omega, by omega, by simp⟩
    rintro k _ ⟨i, rows, clk, rfl, hk, hi, hI⟩
    refine W.sreg (fun K hK => ?_); simp (disch := omega) [gA, wrap_i64, wrap_u64, wrap_u32, Int.tdiv_eq_ediv_of_nonneg, Int.tmod_eq_emod_of_nonneg]; refine hK _ (W.liveK [0, 1, 12, 13, 14] fun K2 hK2 => ?_); clear hK K; simp; refine hK2 _ ?_; clear hK2 K2
    refine W.seq ?_
    refine W.cond ⟨_, rfl, fun h => ?_, fun h => ?_⟩   -- t14
    · simp at h
      refine W.skip ?_
      refine W.seq ?_
      refine W.block ?_   -- block 1
      refine W.sreg (fun K hK => ?_); simp (disch := omega) [gA, wrap_i64, wrap_u64, wrap_u32, Int.tdiv_eq_ediv_of_nonneg, Int.tmod_eq_emod_of_nonneg]; refine hK _ (W.liveK [0, 1, 5, 12, 13] fun K2 hK2 => ?_); clear hK K; simp; refine hK2 _ ?_; clear hK2 K2
      have hyi : i < y.length := by omega
      have hs := rSame_ret (nth x i) (decide (nth y i < 0)) (dig LL (nth y i).natAbs) (zx _ (nth_mem h)) (Nat.lt_of_le_of_lt (sz_base hLL _) (zy _ (nth_mem hyi)))
      have he : (decide (nth y i < 0) = decide (nth x i < 0) ∧ dig LL (nth y i).natAbs = dig LL (nth x i).natAbs) ↔ nth x i = nth y i := by
        constructor
        · rintro ⟨h1, h2⟩
          have h3 := V_ll (nth x i).natAbs
          have h4 := V_ll (nth y i).natAbs
          rw [h2] at h4
          simp only [decide_eq_decide] at h1
          omega
        · intro h1; rw [h1]; exact ⟨rfl, rfl⟩
      simp only [he] at hs
      refine W.sdrwJ (fun σ => ∃ (b : Bool), σ = ⟨fa [(0, PI x), (1, Po y), (12, .int .i64 x.length), (13, .int .i64 i), (36, .bool b)], rows, clk⟩ ∧ (b = true ↔ nth x i ≠ nth y i)) (fun K hK => ?_) ?_
      · by_cases hxy : nth x i = nth y i
        · rw [decide_eq_true hxy] at hs
          simp (disch := omega) [gA, wrap_i64, wrap_u64, wrap_u32, Int.tdiv_eq_ediv_of_nonneg, Int.tmod_eq_emod_of_nonneg]
          refine callR hs ?_
          simp (disch := omega) [gA, wrap_i64, wrap_u64, wrap_u32, Int.tdiv_eq_ediv_of_nonneg, Int.tmod_eq_emod_of_nonneg]
          refine callR (rOf_ret 1 (by decide) (by decide)) ?_
          simp (disch := omega) [gA, wrap_i64, wrap_u64, wrap_u32, Int.tdiv_eq_ediv_of_nonneg, Int.tmod_eq_emod_of_nonneg]
          refine callR (rCmp_ret 1 1 (by simp only [Z]; exact Nat.lt_of_le_of_lt (sz_le (k := 1) (by decide) (by decide)) (by decide)) (by simp only [Z]; exact Nat.lt_of_le_of_lt (sz_le (k := 1) (by decide) (by decide)) (by decide))) ?_
          rw [cmp3_eq]
          simp (disch := omega) [gA, wrap_i64, wrap_u64, wrap_u32, Int.tdiv_eq_ediv_of_nonneg, Int.tmod_eq_emod_of_nonneg]
          exact hK _ _ (Gh_fa _ [0, 1, 12, 13, 36]) ⟨_, rfl, by simp [hxy]⟩
        · rw [decide_eq_false hxy] at hs
          simp (disch := omega) [gA, wrap_i64, wrap_u64, wrap_u32, Int.tdiv_eq_ediv_of_nonneg, Int.tmod_eq_emod_of_nonneg]
          refine callR hs ?_
          simp (disch := omega) [gA, wrap_i64, wrap_u64, wrap_u32, Int.tdiv_eq_ediv_of_nonneg, Int.tmod_eq_emod_of_nonneg]
          exact hK _ _ (Gh_fa _ [0, 1, 12, 13, 36]) ⟨_, rfl, by simp [hxy]⟩
      rintro _ ⟨b, rfl, hb⟩
      refine W.cond ⟨_, rfl, fun h2 => ?_, fun h2 => ?_⟩   -- t36
      · have hne : x ≠ y := fun h1 => hb.1 h2 (by rw [h1])
        refine W.sreg (fun K hK => ?_); simp (disch := omega) [gA, wrap_i64, wrap_u64, wrap_u32, Int.tdiv_eq_ediv_of_nonneg, Int.tmod_eq_emod_of_nonneg]; refine hK _ (W.liveK [4] fun K2 hK2 => ?_); clear hK K; simp; refine hK2 _ ?_; clear hK2 K2
        refine W.ret ?_
        simp [go, hne]
      · have he2 : nth x i = nth y i := Classical.byContradiction fun h3 => by simp [hb.2 h3] at h2
        refine W.skip ?_
        refine W.reg (fun K hK => ?_); simp (disch := omega) [gA, wrap_i64, wrap_u64, wrap_u32, Int.tdiv_eq_ediv_of_nonneg, Int.tmod_eq_emod_of_nonneg]
        refine hK _ ⟨x.length - (i + 1), _, Gh_fa _ [0, 1, 12, 13], by omega, i + 1, _, _, rfl, by omega, by omega, ?_⟩
        rw [take_succ_nth h, take_succ_nth hyi, hI, he2]
    · simp at h
      rw [List.take_of_length_le (by omega), List.take_of_length_le (by omega)] at hI
      refine W.exit ?_; simp only [pblk_exit, pblk_normal, pblk_ret, pseq_exit, pseq_normal, pseq_ret, pnor_exit, pnor_normal, pnor_ret, if_true, if_false, reduceIte, Nat.reduceEqDiff]
      refine W.sreg (fun K hK => ?_); simp (disch := omega) [gA, wrap_i64, wrap_u64, wrap_u32, Int.tdiv_eq_ediv_of_nonneg, Int.tmod_eq_emod_of_nonneg]; refine hK _ (W.liveK [4] fun K2 hK2 => ?_); clear hK K; simp; refine hK2 _ ?_; clear hK2 K2
      refine W.ret ?_
      simp [go, hI]
end Go.Proofs.Ytgebobdieekjaaa

namespace Go.Proofs.Ytgebobdieekjaaa
open Go Pm

/-- Rational polynomials that are not too great. -/
structure QOK (l : List Rat) : Prop where
  ok : ∀ q ∈ l, ZR YY q
  len : l.length < 1099511627776
theorem ZR_zero (k : Nat) (hk : 1 ≤ k) : ZR k 0 := ⟨by show sz 2 0 ≤ k; rw [sz_zero]; omega, by show sz 2 1 ≤ k; exact Nat.le_trans (sz_le (by decide) (by decide)) hk⟩
theorem QOK.nth {l : List Rat} (h : QOK l) (i : Nat) : ZR YY (nth l i) := by
  by_cases hi : i < l.length
  · exact h.ok _ (nth_mem hi)
  · rw [nth_ge (by omega)]; exact ZR_zero _ (by decide)
theorem QOK.qs {x : List Int} (h : ∀ c ∈ x, sz 2 c ≤ YY) (hl : x.length < 1099511627776) : QOK (qs x) := ⟨fun q hq => by
  simp only [List.mem_map] at hq
  obtain ⟨c, hc, rfl⟩ := hq
  exact ZR_int (h c hc) (by decide), by simpa using hl⟩
@[simp] theorem persAll_re {l : List Rat} : (∀ e ∈ emap re l, ∀ p ∈ e, pers1 p = true) = True := by simp [emap]

def addQ (a b : List Rat) : List Rat := cutQ ((List.range (max a.length b.length)).map fun k => nth a k + nth b k)
def scaleQ (a : List Rat) (c : Rat) : List Rat := cutQ (a.map fun x => x * c)
theorem nth_qs (x : List Int) (k : Nat) : nth (qs x) k = ((nth x k : Int) : Rat) := nth_map (f := fun (c : Int) => (c : Rat)) rfl x k
theorem addQ_qs (x y : List Int) : addQ (qs x) (qs y) = qs (padd x y) := by
  rw [addQ, padd, ← cutQ_qs]
  congr 1
  simp only [qs, List.length_map, List.map_map]
  congr 1
  funext k
  simp only [Function.comp_apply]
  rw [show nth (List.map (fun (c : Int) => (c : Rat)) x) k = _ from nth_qs x k, show nth (List.map (fun (c : Int) => (c : Rat)) y) k = _ from nth_qs y k, Rat.intCast_add]
theorem scaleQ_qs (x : List Int) (c : Int) : scaleQ (qs x) (c : Rat) = qs (pscale x c) := by
  rw [scaleQ, pscale, ← cutQ_qs]
  congr 1
  simp [qs, Function.comp_def]
theorem pscale_neg (x : List Int) : pscale x (-1) = pneg x := by simp [pscale, pneg]
end Go.Proofs.Ytgebobdieekjaaa

namespace Go.Proofs.Ytgebobdieekjaaa
open Go Pm

theorem Within_ret (v n : Int) (hv : -9223372036854775808 ≤ v ∧ v < 9223372036854775808) (hn : 0 < n) (hn2 : n < 4611686018427387904) : Ret env.P 14 [.int .i64 v, .int .i64 n] (.int .i64 (v % n)) := by
  have hn0 : n ≠ 0 := by omega
  have h12 : (v.tmod n = v % n ∨ (v.tmod n < 0 ∧ v.tmod n + n = v % n)) ∧ -n < v.tmod n ∧ v.tmod n < n := by
    have h2 := Int.emod_nonneg v hn0
    have h3 := Int.emod_lt_of_pos v hn
    rcases (show v < 0 ∨ 0 ≤ v by omega) with h | h
    · have h4 := Int.tmod_eq_emod (a := v) (b := n)
      have h5 : (n.natAbs : Int) = n := by omega
      split at h4
      · simp at h4; omega
      · rename_i h6
        rw [h5] at h4
        have h7 : v % n ≠ 0 := fun h8 => h6 (.inr (Int.dvd_of_emod_eq_zero h8))
        omega
    · rw [Int.tmod_eq_emod_of_nonneg h]; omega
  obtain ⟨h1, h2⟩ := h12
  have h5 := Int.emod_nonneg v hn0
  have h6 := Int.emod_lt_of_pos v hn
  have hnn : ¬ n < 1 := by omega
  refine ret_of_Wf (E := env) (fun _ => 0) [(0, .int .i64 v), (1, .int .i64 n)] Try.func14 rfl (by kernel_rfl) (by kernel_rfl) (show 2 ≤ 17 by decide) (by simp) ?_
  refine W.sreg (fun K hK => ?_); simp (disch := omega) [gA, wrap_i64, wrap_u64, wrap_u32, Int.tdiv_eq_ediv_of_nonneg, Int.tmod_eq_emod_of_nonneg]; refine hK _ (W.liveK [0, 1] fun K2 hK2 => ?_); clear hK K; simp; refine hK2 _ ?_; clear hK2 K2
  refine W.seq ?_
  refine W.sreg (fun K hK => ?_); simp (disch := omega) [gA, wrap_i64, wrap_u64, wrap_u32, Int.tdiv_eq_ediv_of_nonneg, Int.tmod_eq_emod_of_nonneg]; refine hK _ (W.liveK [0, 1, 7] fun K2 hK2 => ?_); clear hK K; simp; refine hK2 _ ?_; clear hK2 K2
  refine W.cond ⟨_, rfl, fun h => ?_, fun h => ?_⟩   -- t7
  · exfalso; simp at h; omega
  · refine W.skip ?_
    generalize hm : v.tmod n = m at *
    generalize v % n = r at *
    refine W.sreg (fun K hK => ?_); simp (disch := omega) [gA, hn0, hm]
    refine hK _ (W.liveK [1, 5] fun K2 hK2 => ?_); clear hK K; simp; refine hK2 _ ?_; clear hK2 K2
    refine W.seqJ (fun σ => ∃ (rows : Pm.Rows) (clk : Nat), σ = ⟨fa [(5, .int .i64 r)], rows, clk⟩) ?_ ?_
    ·
      refine W.sreg (fun K hK => ?_); simp (disch := omega) [gA, wrap_i64, wrap_u64, wrap_u32, Int.tdiv_eq_ediv_of_nonneg, Int.tmod_eq_emod_of_nonneg]; refine hK _ (W.liveK [1, 5, 12] fun K2 hK2 => ?_); clear hK K; simp; refine hK2 _ ?_; clear hK2 K2
      refine W.cond ⟨_, rfl, fun h => ?_, fun h => ?_⟩   -- t12
      · simp at h
        refine W.reg (fun K hK => ?_); simp (disch := omega) [gA, wrap_i64, wrap_u64, wrap_u32, Int.tdiv_eq_ediv_of_nonneg, Int.tmod_eq_emod_of_nonneg]
        exact hK _ ⟨_, Gh.fr [(5, .int .i64 r)] (by simp; omega), _, _, rfl⟩
      · simp at h
        refine W.skip ?_
        exact ⟨_, Gh.fr [(5, .int .i64 r)] (by simp; omega), _, _, rfl⟩
    rintro _ ⟨rows, clk, rfl⟩
    refine W.sreg (fun K hK => ?_); simp (disch := omega) [gA, wrap_i64, wrap_u64, wrap_u32, Int.tdiv_eq_ediv_of_nonneg, Int.tmod_eq_emod_of_nonneg]; refine hK _ (W.liveK [4] fun K2 hK2 => ?_); clear hK K; simp; refine hK2 _ ?_; clear hK2 K2
    refine W.ret ?_
    simp [go]

/-! What the operations on polynomials answer, of normal ones. -/
structure PB (x : List Int) : Prop where
  sz : ∀ c ∈ x, Sz c
  len : x.length < 1099511627775
theorem PB.pok {x : List Int} (h : PB x) : POK (x.map rw') := POK.of_norm h.sz (by have := h.len; omega)
theorem PB.of {s n : Nat} {x : List Int} (h : Bd LL s n x) (hs : s < 1099511627775) (hn : n < 1099511627775) : PB x := ⟨fun c hc => Nat.lt_of_le_of_lt (h.sz c hc) (by omega), Nat.lt_of_le_of_lt h.len hn⟩
theorem pAddI_ret {x y : List Int} (hx : PB x) (hy : PB y) : Ret env.P 46 [Po x, Po y] (Po (padd x y)) := by
  have := pAdd_ret _ _ hx.pok hy.pok
  rwa [map_gv_rw, map_gv_rw, ← Po_eq, ← Po_eq] at this
theorem pSubI_ret {x y : List Int} (hx : PB x) (hy : PB y) : Ret env.P 48 [Po x, Po y] (Po (psub x y)) := by
  have := pSub_ret _ _ hx.pok hy.pok
  rwa [map_gv_rw, map_gv_rw, ← Po_eq, ← Po_eq] at this
theorem pNegI_ret {x : List Int} (hx : PB x) : Ret env.P 81 [Po x] (Po (pneg x)) := by
  have := pNeg_ret _ hx.pok
  rwa [map_gv_rw, ← Po_eq] at this
theorem pNormI_ret {x : List Int} (hx : PB x) : Ret env.P 58 [Po x] (Po (cutR x)) := by
  have := pNorm_ret _ hx.pok
  rwa [map_gv_rw, ← Po_eq] at this
theorem pMulG_ret {a : RP} {y : List Int} {s s' n n' : Nat} (ha : POK a) (hs : Bd LL s n (a.map gv)) (hs' : Bd LL s' n' y) (hB : s + s' + n + n' < 1099511627775) : Ret env.P 31 [Pg a, Po y] (Po (pmul (a.map gv) y)) := by
  have := pMul_ret a (y.map rw') ha (PB.of hs' (by omega) (by omega)).pok s s' n n' hs (by rwa [map_gv_rw]) hB
  rwa [map_gv_rw, ← Po_eq] at this
theorem pMulI_ret {x y : List Int} {s s' n n' : Nat} (hs : Bd LL s n x) (hs' : Bd LL s' n' y) (hB : s + s' + n + n' < 1099511627775) : Ret env.P 31 [Po x, Po y] (Po (pmul x y)) := by
  have := pMulG_ret (PB.of hs (by omega) (by omega)).pok (by rwa [map_gv_rw]) hs' hB
  rwa [map_gv_rw, ← Po_eq] at this

/-- Rows of polynomials, square, not too great. -/
structure MOK (s n : Nat) (m : List (List RP)) : Prop where
  sq : ∀ r ∈ m, r.length = m.length
  ok : ∀ r ∈ m, ∀ p ∈ r, POK p ∧ Bd LL s n (p.map gv)
/-- What the rows say, normal. -/
def mv (m : List (List RP)) : List (List (List Int)) := m.map fun r => r.map cfs
theorem nth_mv (m : List (List RP)) (i k : Nat) : nth (nth (mv m) i) k = cfs (nth (nth m i) k) := by
  have h1 : nth (mv m) i = (nth m i).map cfs := nth_map (f := fun r : List RP => r.map cfs) rfl m i
  rw [h1]
  exact nth_map (f := cfs) rfl _ _
theorem eraseIdx_map {α β : Type} (f : α → β) (l : List α) (i : Nat) : (l.map f).eraseIdx i = (l.eraseIdx i).map f := by
  induction l generalizing i with
  | nil => simp
  | cons x l ih => cases i <;> simp [ih]
theorem mv_mnr (i k : Nat) (m : List (List RP)) : mv (mnr i k m) = mnrI i k (mv m) := by
  simp only [mv, mnr, mnrI, eraseIdx_map, List.map_map]
  congr 1
  funext r
  simp only [Function.comp_apply, eraseIdx_map, List.map_map]
  congr 1
  funext p
  exact cfs_nrm p
theorem MOK.mnr {s n : Nat} {m : List (List RP)} (h : MOK s n m) (hs : s < 1099511627775) (hn : n < 1099511627775) {i k : Nat} (hi : i < m.length) (hk : k < m.length) : MOK s n (mnr i k m) := by
  refine ⟨fun r hr => ?_, fun r hr p hp => ?_⟩
  · simp only [Pm.nth, Go.Proofs.Ytgebobdieekjaaa.mnr, List.mem_map] at hr ⊢
    obtain ⟨r', hr', rfl⟩ := hr
    have := h.sq r' (List.mem_of_mem_eraseIdx hr')
    rw [List.length_map, List.length_eraseIdx_of_lt (by omega), List.length_map, List.length_eraseIdx_of_lt hi]
    omega
  · simp only [Go.Proofs.Ytgebobdieekjaaa.mnr, List.mem_map] at hr
    obtain ⟨r', hr', rfl⟩ := hr
    simp only [List.mem_map] at hp
    obtain ⟨p', hp', rfl⟩ := hp
    obtain ⟨h1, h2⟩ := h.ok r' (List.mem_of_mem_eraseIdx hr') p' (List.mem_of_mem_eraseIdx hp')
    rw [gv_nrm]
    exact ⟨(PB.of h2.cut hs hn).pok, h2.cut⟩

/-- By the first column. -/
def dcol : Nat → List (List (List Int)) → List Int
  | 0, _ => [1]
  | n + 1, m => (List.range m.length).foldl (fun d i => if nth (nth m i) 0 = [] then d else if i % 2 = 0 then padd d (pmul (nth (nth m i) 0) (dcol n (mnrI i 0 m))) else psub d (pmul (nth (nth m i) 0) (dcol n (mnrI i 0 m)))) []
structure EB (s n : Nat) (M : List (List (List Int))) : Prop where
  ok : ∀ r ∈ M, ∀ x ∈ r, Bd LL s n x
theorem EB.nth {s n : Nat} {M : List (List (List Int))} (h : EB s n M) (i k : Nat) : Bd LL s n (nth (nth M i) k) := by
  by_cases hi : i < M.length
  · by_cases hk : k < (Pm.nth M i).length
    · exact h.ok _ (nth_mem hi) _ (nth_mem hk)
    · rw [nth_ge (l := Pm.nth M i) (by omega)]; exact ⟨by show 0 ≤ n; omega, fun c hc => by cases hc⟩
  · rw [nth_ge (l := M) (by omega)]; exact ⟨by show 0 ≤ n; omega, fun c hc => by cases hc⟩
theorem EB.mnr {s n : Nat} {M : List (List (List Int))} (h : EB s n M) (i k : Nat) : EB s n (mnrI i k M) := ⟨fun r hr x hx => by
  simp only [mnrI, List.mem_map] at hr
  obtain ⟨r', hr', rfl⟩ := hr
  exact h.ok r' (List.mem_of_mem_eraseIdx hr') x (List.mem_of_mem_eraseIdx hx)⟩
theorem EB.mv {s n : Nat} {m : List (List RP)} (h : ∀ r ∈ m, ∀ p ∈ r, Bd LL s n (p.map gv)) : EB s n (mv m) := ⟨fun r hr x hx => by
  simp only [Go.Proofs.Ytgebobdieekjaaa.mv, List.mem_map] at hr
  obtain ⟨r', hr', rfl⟩ := hr
  simp only [List.mem_map] at hx
  obtain ⟨p, hp, rfl⟩ := hx
  exact (h r' hr' p hp).cut⟩
theorem dcol_step_bd {s n S N : Nat} {M : List (List (List Int))} (e : Nat → List Int) (f : Nat → List Int) (he : ∀ i, Bd LL s n (e i)) (hf : ∀ i, Bd LL S N (f i)) : ∀ j, Bd LL (s + S + n + j) (n + N) ((List.range j).foldl (fun d i => if e i = [] then d else if i % 2 = 0 then padd d (pmul (e i) (f i)) else psub d (pmul (e i) (f i))) [])
  | 0 => ⟨by simp, fun c hc => by cases hc⟩
  | j + 1 => by
    have ih := dcol_step_bd (M := M) e f he hf j
    have hp := (he j).pmul hLL (hf j)
    rw [List.range_succ, List.foldl_append]
    simp only [List.foldl_cons, List.foldl_nil]
    split
    · exact ih.mono (by omega) (by omega)
    · split
      · exact (Bd.padd hLL ih (hp.mono (by omega) (by omega))).mono (by omega) (by omega)
      · exact (Bd.psub hLL ih (hp.mono (by omega) (by omega))).mono (by omega) (by omega)
theorem dcol_bd {s n : Nat} : ∀ (k : Nat) (M : List (List (List Int))), EB s n M → M.length ≤ 4 → Bd LL (k * (s + n + 4) + 1) (k * n + 1) (dcol k M)
  | 0, M, _, _ => ⟨by simp [dcol], fun c hc => by simp [dcol] at hc; subst hc; exact Nat.le_trans (sz_le (k := 1) hLL (by decide)) (by omega)⟩
  | k + 1, M, h, h4 => by
    have := dcol_step_bd (M := M) (fun i => nth (nth M i) 0) (fun i => dcol k (mnrI i 0 M)) (fun i => h.nth i 0) (fun i => dcol_bd k (mnrI i 0 M) (h.mnr i 0) (by have := List.length_eraseIdx_le M i; simp; omega)) M.length
    rw [dcol]
    refine this.mono ?_ ?_
    · rw [Nat.add_mul k 1]; omega
    · rw [Nat.add_mul k 1]; omega

theorem cfs_len_zero {p : RP} : cfs p = [] ↔ (cfs p).length = 0 := by rw [List.length_eq_zero_iff]
theorem pmul_cfs (p : RP) (y : List Int) : pmul (p.map gv) y = pmul (cfs p) y := Cn.ext (Cn.pmul _ _) (Cn.pmul _ _) fun t => by simp [V_pmul, cfs, V_cutR]
theorem sum_ret {s n : Nat} (hs : s < 1073741824) (hn : n < 1073741824) : ∀ (k : Nat) (m : List (List RP)), m.length = k → k ≤ 4 → MOK s n m → Ret env.P 71 [sls me m] (Po (dcol k (mv m))) := by
  intro k
  induction k with
  | zero =>
    intro m hm _ _
    have hO := pOf_ret [1] (by simp) (by simp)
    refine ret_of_Wf (E := env) (fun _ => 0) [(0, sls me m)] Try.func71 rfl (by kernel_rfl) (by kernel_rfl) (show 1 ≤ 44 by decide) (by simp) ?_
    refine W.sreg (fun K hK => ?_); simp (disch := omega) [gA, wrap_i64, wrap_u64, wrap_u32, Int.tdiv_eq_ediv_of_nonneg, Int.tmod_eq_emod_of_nonneg]; refine hK _ (W.liveK [0] fun K2 hK2 => ?_); clear hK K; simp; refine hK2 _ ?_; clear hK2 K2
    refine W.seq ?_
    refine W.sreg (fun K hK => ?_); simp (disch := omega) [gA, wrap_i64, wrap_u64, wrap_u32, Int.tdiv_eq_ediv_of_nonneg, Int.tmod_eq_emod_of_nonneg, hm]; refine hK _ (W.liveK [0, 9] fun K2 hK2 => ?_); clear hK K; simp; refine hK2 _ ?_; clear hK2 K2
    refine W.cond ⟨_, rfl, fun h => ?_, fun h => ?_⟩   -- t9
    · refine W.sreg (fun K hK => ?_)
      simp (disch := omega) [gA, wrap_i64, wrap_u64, wrap_u32, Int.tdiv_eq_ediv_of_nonneg, Int.tmod_eq_emod_of_nonneg]
      refine callR hO ?_
      simp (disch := omega) [gA, wrap_i64, wrap_u64, wrap_u32, Int.tdiv_eq_ediv_of_nonneg, Int.tmod_eq_emod_of_nonneg]
      refine hK _ (W.liveK [2] fun K2 hK2 => ?_); clear hK K; simp; refine hK2 _ ?_; clear hK2 K2
      refine W.ret ?_
      have e : cutR [1] = [1] := by decide
      simp [go, dcol, e]
    · exfalso; simp [hm] at h
  | succ k ih =>
    intro m hm hk4 h
    have hM : EB s n (mv m) := EB.mv fun r hr p hp => (h.ok r hr p hp).2
    have hml : (mv m).length = k + 1 := by simp [mv, hm]
    have hstep := dcol_step_bd (M := mv m) (fun i => nth (nth (mv m) i) 0) (fun i => dcol k (mnrI i 0 (mv m))) (fun i => hM.nth i 0) (fun i => dcol_bd k (mnrI i 0 (mv m)) (hM.mnr i 0) (by have := List.length_eraseIdx_le (mv m) i; simp; omega))
    have hkb : k * (s + n + 4) ≤ 4 * (s + n + 4) := Nat.mul_le_mul_right _ (by omega)
    have hkn : k * n ≤ 4 * n := Nat.mul_le_mul_right _ (by omega)
    rw [dcol, hml]
    refine ret_of_Wf (E := env) (fun _ => 0) [(0, sls me m)] Try.func71 rfl (by kernel_rfl) (by kernel_rfl) (show 1 ≤ 44 by decide) (by simp) ?_
    refine W.sreg (fun K hK => ?_); simp (disch := omega) [gA, wrap_i64, wrap_u64, wrap_u32, Int.tdiv_eq_ediv_of_nonneg, Int.tmod_eq_emod_of_nonneg]; refine hK _ (W.liveK [0] fun K2 hK2 => ?_); clear hK K; simp; refine hK2 _ ?_; clear hK2 K2
    refine W.seq ?_
    have hk0 : ¬ ((k : Int) + 1 = 0) := by omega
    refine W.sreg (fun K hK => ?_); simp (disch := omega) [gA, wrap_i64, wrap_u64, wrap_u32, Int.tdiv_eq_ediv_of_nonneg, Int.tmod_eq_emod_of_nonneg, hm, hk0]; refine hK _ (W.liveK [0, 9] fun K2 hK2 => ?_); clear hK K; simp; refine hK2 _ ?_; clear hK2 K2
    refine W.cond ⟨_, rfl, fun hb => ?_, fun hb => ?_⟩   -- t9
    · exfalso; simp at hb; omega
    refine W.skip ?_
    refine W.sreg (fun K hK => ?_); simp (disch := omega) [gA, wrap_i64, wrap_u64, wrap_u32, Int.tdiv_eq_ediv_of_nonneg, Int.tmod_eq_emod_of_nonneg]; refine hK _ (W.liveK [0, 3] fun K2 hK2 => ?_); clear hK K; simp; refine hK2 _ ?_; clear hK2 K2
    refine W.nils 3 (Po []) (by simp) rfl (fun K hK => ?_)
    refine hK _ (W.liveK [0, 3] fun K2 hK2 => ?_); clear hK K; simp; refine hK2 _ ?_; clear hK2 K2
    refine W.seq ?_
    refine W.sreg (fun K hK => ?_); simp (disch := omega) [gA, wrap_i64, wrap_u64, wrap_u32, Int.tdiv_eq_ediv_of_nonneg, Int.tmod_eq_emod_of_nonneg, hm]; refine hK _ (W.liveK [0, 3, 12, 13, 14] fun K2 hK2 => ?_); clear hK K; simp; refine hK2 _ ?_; clear hK2 K2
    refine W.block ?_   -- block 0
    obtain ⟨D, hD⟩ : ∃ D : Nat → List Int, D = fun j => (List.range j).foldl (fun d i => if nth (nth (mv m) i) 0 = [] then d else if i % 2 = 0 then padd d (pmul (nth (nth (mv m) i) 0) (dcol k (mnrI i 0 (mv m)))) else psub d (pmul (nth (nth (mv m) i) 0) (dcol k (mnrI i 0 (mv m))))) [] := ⟨_, rfl⟩
    have hDs : ∀ j, D (j + 1) = if nth (nth (mv m) j) 0 = [] then D j else if j % 2 = 0 then padd (D j) (pmul (nth (nth (mv m) j) 0) (dcol k (mnrI j 0 (mv m)))) else psub (D j) (pmul (nth (nth (mv m) j) 0) (dcol k (mnrI j 0 (mv m)))) := fun j => by
      rw [hD]; simp only [List.range_succ, List.foldl_append, List.foldl_cons, List.foldl_nil]
    have hDb : ∀ j, j ≤ 4 → PB (D j) := fun j hj => by
      have h1 := hstep j
      rw [hD]
      exact PB.of h1 (by omega) (by omega)
    have hDf : (List.range (k + 1)).foldl (fun d i => if nth (nth (mv m) i) 0 = [] then d else if i % 2 = 0 then padd d (pmul (nth (nth (mv m) i) 0) (dcol k (mnrI i 0 (mv m)))) else psub d (pmul (nth (nth (mv m) i) 0) (dcol k (mnrI i 0 (mv m))))) [] = D (k + 1) := by rw [hD]
    rw [hDf]
    have hD0 : D 0 = [] := by rw [hD]; rfl
    clear hDf hD hstep
    refine W.loopG (fun q σ => ∃ (i : Nat) (rows : Pm.Rows) (clk : Nat), σ = ⟨fa [(0, sls me m), (3, Po (D i)), (12, sls me m), (13, .int .i64 ((k : Int) + 1)), (14, .int .i64 i)], rows, clk⟩ ∧ q = k + 1 - i ∧ i ≤ k + 1) (k + 1) ?_ ?_
    · exact ⟨_, Gh.fr [(0, sls me m), (3, Po (D 0)), (12, sls me m), (13, .int .i64 ((k : Int) + 1)), (14, .int .i64 (0 : Nat))] (by simp [hD0]), 0, _, _, rfl, by omega, by omega⟩
    rintro q _ ⟨i, rows, clk, rfl, hq, hi⟩
    have hlt : (i : Int) < (k : Int) + 1 ↔ i < m.length := by omega
    refine W.sreg (fun K hK => ?_); simp (disch := omega) [gA, wrap_i64, wrap_u64, wrap_u32, Int.tdiv_eq_ediv_of_nonneg, Int.tmod_eq_emod_of_nonneg]; refine hK _ (W.liveK [0, 3, 12, 13, 14, 15] fun K2 hK2 => ?_); clear hK K; simp; refine hK2 _ ?_; clear hK2 K2
    refine W.seq ?_
    refine W.cond ⟨_, rfl, fun h2 => ?_, fun h2 => ?_⟩   -- t15
    · have h2 : i < m.length := by simp at h2; omega
      have hrow := nth_mem h2
      have hrl := h.sq _ hrow
      have hr0 : 0 < (nth m i).length := by omega
      obtain ⟨hp1, hp2⟩ := h.ok _ hrow _ (nth_mem hr0)
      have hN := pNorm_ret _ hp1
      have hmn := minor_ret i 0 m (by omega) (by omega) (by omega) (fun r hr => ⟨by have := h.sq r hr; omega, fun p hp => (h.ok r hr p hp).1⟩)
      have hmk := h.mnr (by omega) (by omega) h2 (show 0 < m.length by omega)
      have hml2 : (mnr i 0 m).length = k := by simp only [mnr, List.length_map, List.length_eraseIdx_of_lt h2]; omega
      have hsum := ih (mnr i 0 m) hml2 (by omega) hmk
      have hdb := dcol_bd k (mnrI i 0 (mv m)) (hM.mnr i 0) (by simp only [mnrI, List.length_map]; rw [List.length_eraseIdx_of_lt (by omega)]; omega)
      rw [mv_mnr] at hsum
      have hmul := pMulG_ret hp1 hp2 hdb (by omega)
      have hpb : PB (pmul (cfs (nth (nth m i) 0)) (dcol k (mnrI i 0 (mv m)))) := by
        have h5 := (hp2.cut).pmul hLL hdb
        exact PB.of h5 (by omega) (by omega)
      rw [pmul_cfs] at hmul
      have hmv := nth_mv m i 0
      have hD1 := hDs i
      rw [hmv] at hD1
      have ha := pAddI_ret (hDb i (by omega)) hpb
      have hs2 := pSubI_ret (hDb i (by omega)) hpb
      generalize pmul (cfs (nth (nth m i) 0)) (dcol k (mnrI i 0 (mv m))) = pr at *
      generalize dcol k (mnrI i 0 (mv m)) = dd at *
      replace hN : Ret env.P 58 [Pg (nth (nth m i) 0)] (Po (cfs (nth (nth m i) 0))) := hN
      have hlz : ((cfs (nth (nth m i) 0)).length : Int) = 0 ↔ cfs (nth (nth m i) 0) = [] := by rw [cfs_len_zero]; omega
      generalize cfs (nth (nth m i) 0) = c0 at *
      refine W.skip ?_
      refine W.seq_blockJ (fun σ => ∃ (rows : Pm.Rows) (clk : Nat), σ = ⟨fa [(0, sls me m), (3, Po (D (i + 1))), (12, sls me m), (13, .int .i64 ((k : Int) + 1)), (14, .int .i64 i)], rows, clk⟩) ?_ ?_   -- block 1
      ·
        refine W.sreg (fun K hK => ?_); simp (disch := omega) [gA, wrap_i64, wrap_u64, wrap_u32, Int.tdiv_eq_ediv_of_nonneg, Int.tmod_eq_emod_of_nonneg]; refine hK _ (W.liveK [0, 3, 4, 5, 12, 13, 14] fun K2 hK2 => ?_); clear hK K; simp; refine hK2 _ ?_; clear hK2 K2
        refine W.seq ?_
        refine W.sreg (fun K hK => ?_)
        simp (disch := omega) [gA, wrap_i64, wrap_u64, wrap_u32, Int.tdiv_eq_ediv_of_nonneg, Int.tmod_eq_emod_of_nonneg]
        refine callR hN ?_
        simp (disch := omega) [gA, wrap_i64, wrap_u64, wrap_u32, Int.tdiv_eq_ediv_of_nonneg, Int.tmod_eq_emod_of_nonneg]
        refine hK _ (W.liveK [0, 3, 4, 5, 12, 13, 14, 24] fun K2 hK2 => ?_); clear hK K; simp; refine hK2 _ ?_; clear hK2 K2
        refine W.cond ⟨_, rfl, fun h3 => ?_, fun h3 => ?_⟩   -- t24
        · have h3 : c0 = [] := by rw [← hlz]; simpa using h3
          refine W.exit ?_; simp only [pblk_exit, pblk_normal, pblk_ret, pseq_exit, pseq_normal, pseq_ret, pnor_exit, pnor_normal, pnor_ret, if_true, if_false, reduceIte, Nat.reduceEqDiff]
          refine ⟨_, Gh.fr [(0, sls me m), (3, Po (D (i + 1))), (12, sls me m), (13, .int .i64 ((k : Int) + 1)), (14, .int .i64 i)] (by simp [hD1, h3]), _, _, rfl⟩
        · have h3 : c0 ≠ [] := fun h4 => by rw [← hlz] at h4; simp [h4] at h3
          rw [if_neg h3] at hD1
          refine W.skip ?_
          refine W.sdrw (fun K hK => ?_)
          simp (disch := omega) [gA, wrap_i64, wrap_u64, wrap_u32, Int.tdiv_eq_ediv_of_nonneg, Int.tmod_eq_emod_of_nonneg]
          refine callR hmn ?_
          simp (disch := omega) [gA, wrap_i64, wrap_u64, wrap_u32, Int.tdiv_eq_ediv_of_nonneg, Int.tmod_eq_emod_of_nonneg]
          refine callR hsum ?_
          simp (disch := omega) [gA, wrap_i64, wrap_u64, wrap_u32, Int.tdiv_eq_ediv_of_nonneg, Int.tmod_eq_emod_of_nonneg]
          refine callR hmul ?_
          simp (disch := omega) [gA, wrap_i64, wrap_u64, wrap_u32, Int.tdiv_eq_ediv_of_nonneg, Int.tmod_eq_emod_of_nonneg]
          refine hK _ (W.liveK [0, 3, 4, 6, 12, 13, 14] fun K2 hK2 => ?_); clear hK K; simp; refine hK2 _ ?_; clear hK2 K2
          refine W.sreg (fun K hK => ?_); simp (disch := omega) [gA, wrap_i64, wrap_u64, wrap_u32, Int.tdiv_eq_ediv_of_nonneg, Int.tmod_eq_emod_of_nonneg]; refine hK _ (W.liveK [0, 3, 6, 12, 13, 14, 35] fun K2 hK2 => ?_); clear hK K; simp; refine hK2 _ ?_; clear hK2 K2
          refine W.cond ⟨_, rfl, fun h4 => ?_, fun h4 => ?_⟩   -- t35
          · have h4 : i % 2 = 0 := by simp at h4; omega
            rw [if_pos h4] at hD1
            refine W.reg (fun K hK => ?_)
            simp (disch := omega) [gA, wrap_i64, wrap_u64, wrap_u32, Int.tdiv_eq_ediv_of_nonneg, Int.tmod_eq_emod_of_nonneg]
            refine callR ha ?_
            simp (disch := omega) [gA, wrap_i64, wrap_u64, wrap_u32, Int.tdiv_eq_ediv_of_nonneg, Int.tmod_eq_emod_of_nonneg]
            exact hK _ ⟨_, Gh.fr [(0, sls me m), (3, Po (D (i + 1))), (12, sls me m), (13, .int .i64 ((k : Int) + 1)), (14, .int .i64 i)] (by simp [hD1]), _, _, rfl⟩
          · have h4 : ¬ i % 2 = 0 := by simp at h4; omega
            rw [if_neg h4] at hD1
            refine W.reg (fun K hK => ?_)
            simp (disch := omega) [gA, wrap_i64, wrap_u64, wrap_u32, Int.tdiv_eq_ediv_of_nonneg, Int.tmod_eq_emod_of_nonneg]
            refine callR hs2 ?_
            simp (disch := omega) [gA, wrap_i64, wrap_u64, wrap_u32, Int.tdiv_eq_ediv_of_nonneg, Int.tmod_eq_emod_of_nonneg]
            exact hK _ ⟨_, Gh.fr [(0, sls me m), (3, Po (D (i + 1))), (12, sls me m), (13, .int .i64 ((k : Int) + 1)), (14, .int .i64 i)] (by simp [hD1]), _, _, rfl⟩
      rintro _ ⟨rows, clk, rfl⟩
      refine W.reg (fun K hK => ?_); simp (disch := omega) [gA, wrap_i64, wrap_u64, wrap_u32, Int.tdiv_eq_ediv_of_nonneg, Int.tmod_eq_emod_of_nonneg]
      refine hK _ ⟨k + 1 - (i + 1), _, Gh_fa _ [0, 3, 12, 13, 14], by omega, i + 1, _, _, rfl, by omega, by omega⟩
    · have h2 : i = k + 1 := by simp at h2; omega
      subst h2
      refine W.exit ?_; simp only [pblk_exit, pblk_normal, pblk_ret, pseq_exit, pseq_normal, pseq_ret, pnor_exit, pnor_normal, pnor_ret, if_true, if_false, reduceIte, Nat.reduceEqDiff]
      refine W.sreg (fun K hK => ?_); simp (disch := omega) [gA, wrap_i64, wrap_u64, wrap_u32, Int.tdiv_eq_ediv_of_nonneg, Int.tmod_eq_emod_of_nonneg]; refine hK _ (W.liveK [2] fun K2 hK2 => ?_); clear hK K; simp; refine hK2 _ ?_; clear hK2 K2
      refine W.ret ?_
      simp [go]
end Go.Proofs.Ytgebobdieekjaaa
