import Derived.Test.YtjnkpfknmncdmaaLv
import Derived.Test.YtjnkpfknmncdmaaLn
set_option linter.unusedSimpArgs false
set_option linter.unusedVariables false
namespace Go.Proofs.Ytjnkpfknmncdmaa
open Go Pm

/-- A whole number as a rational one. -/
def ri (x : Int) : List PV := [sls i64e (dig DD x.natAbs), .bool (decide (x < 0)), sls i64e (dig DD 1), .bool false]
@[simp] theorem ri_def {x : Int} : ri x = [sls i64e (dig DD x.natAbs), .bool (decide (x < 0)), sls i64e (dig DD 1), .bool false] := rfl
theorem re_int (x : Int) : re (x : Rat) = ri x := by
  simp only [re, ri, Rat.num_intCast, Rat.den_intCast]
  congr
theorem PP_qs (x : List Int) : PP (qs x) = sls ri x := by simp only [PP, sls, emap, qs, List.map_map, Function.comp_def, re_int]
abbrev PI (x : List Int) : PV := sls ri x
@[simp] theorem lenAll_ri {l : List Int} : lenAll 4 (emap ri l) = True := lenAll_emap fun _ => rfl
@[simp] theorem rowPers_ri {v e n : Nat} {l : List Int} : rowPers (some ⟨v, e, n, emap ri l⟩) = True := rowPers_emap fun _ => rfl
@[simp] theorem app_ri {l : List Int} {x : Int} : emap ri l ++ [[sls i64e (dig DD x.natAbs), .bool (decide (x < 0)), sls i64e (dig DD 1), .bool false]] = emap ri (l ++ [x]) := by simp [emap]
@[simp] theorem app_re {l : List Rat} {q : Rat} : emap re l ++ [[sls i64e (dig DD q.num.natAbs), .bool (decide (q.num < 0)), sls i64e (dig DD q.den), .bool false]] = emap re (l ++ [q]) := by simp [emap]
@[simp] theorem setEl_ri {l : List Int} {i : Nat} {x : Int} : setEl (emap ri l) i 0 [sls i64e (dig DD x.natAbs), .bool (decide (x < 0)), sls i64e (dig DD 1), .bool false] = emap ri (l.set i x) := setEl_g (n := 4) (fun _ => rfl)
theorem qcutI_ret (l : List Int) (hl : l.length < 17592186044416) : Ret env.P 79 [PI l] (PI (cutR l)) := by
  have := qcut_ret (qs l) (by simpa using hl)
  rwa [cutQ_qs, PP_qs, PP_qs] at this
theorem MakeI_ret (n : Int) (zn : Y n) : Ret env.P 38 [RI n, RI 1] (.ag (ri n)) := by
  have := Make_ret n 1 zn (by have : sz 2 1 ≤ 1 := sz_le (by decide) (by decide); simp only [Y]; omega)
  rwa [qmk_one, RR, re_int] at this
theorem zeroI_ret : Ret env.P 80 [] (.ag (ri 0)) := by
  have := zero_ret
  rwa [RR, show (0 : Rat) = ((0 : Int) : Rat) by simp, re_int] at this
theorem OfRI_ret (n : Int) (h1 : -9223372036854775808 ≤ n ∧ n < 9223372036854775808) : Ret env.P 94 [.int .i64 n, .int .i64 1] (.ag (ri n)) := by
  have := OfR_ret n 1 h1 (by decide)
  rwa [qmk_one, RR, re_int] at this
theorem ZR_int {x : Int} {k : Nat} (h : sz 2 x ≤ k) (h1 : 1 ≤ k) : ZR k (x : Rat) := ⟨by simpa using h, by simp; exact Nat.le_trans (sz_le (by decide) (by decide)) h1⟩
theorem AddRI_ret (x y : Int) (hx : sz 2 x ≤ YY) (hy : sz 2 y ≤ YY) : Ret env.P 97 [.ag (ri x), .ag (ri y)] (.ag (ri (x + y))) := by
  have := AddR_ret x y (ZR_int hx (by decide)) (ZR_int hy (by decide))
  rwa [← Rat.intCast_add, RR, RR, RR, re_int, re_int, re_int] at this
theorem MulRI_ret (x y : Int) (hx : sz 2 x ≤ YY) (hy : sz 2 y ≤ YY) : Ret env.P 78 [.ag (ri x), .ag (ri y)] (.ag (ri (x * y))) := by
  have := MulR_ret x y (ZR_int hx (by decide)) (ZR_int hy (by decide))
  rwa [← Rat.intCast_mul, RR, RR, RR, re_int, re_int, re_int] at this

/-- A polynomial that is handed in, not too great. -/
structure FOK (p : RP) : Prop where
  ok : ∀ c ∈ p, Lim 4294967296 c.2 ∧ c.2.length < 4294967296
  len : p.length < 1099511627776
theorem qFrom_ret (p : RP) (h : FOK p) : Ret env.P 58 [Pg p] (PI (cutR (p.map gv))) := by
  refine ret_of_Wf (E := env) (fun _ => 0) [(0, Pg p)] Try.func58 rfl (by kernel_rfl) (by kernel_rfl) (show 1 ≤ 23 by decide) (by simp) ?_
  have hl := h.len
  refine W.sreg (fun K hK => ?_); simp (disch := omega) [gA, wrap_i64, wrap_u64, wrap_u32, Int.tdiv_eq_ediv_of_nonneg, Int.tmod_eq_emod_of_nonneg]; refine hK _ (W.liveK [0] fun K2 hK2 => ?_); clear hK K; simp; refine hK2 _ ?_; clear hK2 K2
  refine W.sreg (fun K hK => ?_); simp (disch := omega) [gA, wrap_i64, wrap_u64, wrap_u32, Int.tdiv_eq_ediv_of_nonneg, Int.tmod_eq_emod_of_nonneg]; refine hK _ (W.liveK [0, 3] fun K2 hK2 => ?_); clear hK K; simp; refine hK2 _ ?_; clear hK2 K2
  refine W.nil 3 3 61 4 (by simp) (by decide) (fun K hK => ?_)
  refine hK _ (W.liveK [0, 3] fun K2 hK2 => ?_); clear hK K; simp; refine hK2 _ ?_; clear hK2 K2
  refine W.seq ?_
  refine W.sreg (fun K hK => ?_); simp (disch := omega) [gA, wrap_i64, wrap_u64, wrap_u32, Int.tdiv_eq_ediv_of_nonneg, Int.tmod_eq_emod_of_nonneg]; refine hK _ (W.liveK [0, 3, 6, 7] fun K2 hK2 => ?_); clear hK K; simp; refine hK2 _ ?_; clear hK2 K2
  refine W.block ?_   -- block 0
  refine W.loopG (fun k σ => ∃ (i ver : Nat) (rows : Pm.Rows) (clk : Nat), σ = ⟨fa [(0, Pg p), (3, .own 3 ver 0 i), (6, .int .i64 p.length), (7, .int .i64 i)], rows, clk⟩ ∧ rows 3 = some ⟨ver, 61, 4, emap ri ((p.take i).map gv)⟩ ∧ k = p.length - i ∧ i ≤ p.length) p.length ?_ ?_
  · exact ⟨_, .refl, 0, _, _, _, rfl, by simp [emap], by omega, by omega⟩
  rintro k _ ⟨i, ver, rows, clk, rfl, hr, hk, hi⟩
  refine W.sreg (fun K hK => ?_); simp (disch := omega) [gA, wrap_i64, wrap_u64, wrap_u32, Int.tdiv_eq_ediv_of_nonneg, Int.tmod_eq_emod_of_nonneg]; refine hK _ (W.liveK [0, 3, 6, 7, 8] fun K2 hK2 => ?_); clear hK K; simp; refine hK2 _ ?_; clear hK2 K2
  refine W.seq ?_
  refine W.cond ⟨_, rfl, fun h0 => ?_, fun h0 => ?_⟩   -- t8
  · simp at h0
    obtain ⟨hc1, hc2⟩ := h.ok _ (nth_mem h0)
    have hcl : ((p.take i).map gv).length = i := by simp; omega
    have hz : Y (iv (nth p i).1 (nth p i).2) := by
      have h1 := sz2_V hc1
      have h2 : sz 2 (iv (nth p i).1 (nth p i).2) = sz 2 (V 4294967296 (nth p i).2) := by unfold iv; split <;> simp [sz_neg]
      simp only [Y]; omega
    have hF := rFrom_ret (nth p i).1 (nth p i).2 (by omega) hc1
    have hM := MakeI_ret _ hz
    obtain ⟨v, hv⟩ : ∃ v, v = iv (nth p i).1 (nth p i).2 := ⟨_, rfl⟩
    rw [← hv] at hF hM
    refine W.skip ?_
    refine W.seq ?_
    refine W.block ?_   -- block 1
    refine W.sreg (fun K hK => ?_); simp (disch := omega) [gA, wrap_i64, wrap_u64, wrap_u32, Int.tdiv_eq_ediv_of_nonneg, Int.tmod_eq_emod_of_nonneg]; refine hK _ (W.liveK [0, 3, 4, 6, 7] fun K2 hK2 => ?_); clear hK K; simp; refine hK2 _ ?_; clear hK2 K2
    refine W.reg (fun K hK => ?_)
    simp (disch := omega) [gA, wrap_i64, wrap_u64, wrap_u32, Int.tdiv_eq_ediv_of_nonneg, Int.tmod_eq_emod_of_nonneg]
    refine callR hF ?_
    simp (disch := omega) [gA, wrap_i64, wrap_u64, wrap_u32, Int.tdiv_eq_ediv_of_nonneg, Int.tmod_eq_emod_of_nonneg]
    refine callR (rOf_ret 1 (by decide) (by decide)) ?_
    simp (disch := omega) [gA, wrap_i64, wrap_u64, wrap_u32, Int.tdiv_eq_ediv_of_nonneg, Int.tmod_eq_emod_of_nonneg]
    refine callR hM ?_
    simp (disch := omega) [gA, wrap_i64, wrap_u64, wrap_u32, Int.tdiv_eq_ediv_of_nonneg, Int.tmod_eq_emod_of_nonneg, hr, hcl]
    refine hK _ (W.liveK [0, 3, 6, 7] fun K2 hK2 => ?_); clear hK K; simp; refine hK2 _ ?_; clear hK2 K2
    refine W.reg (fun K hK => ?_); simp (disch := omega) [gA, wrap_i64, wrap_u64, wrap_u32, Int.tdiv_eq_ediv_of_nonneg, Int.tmod_eq_emod_of_nonneg]
    refine hK _ ⟨p.length - (i + 1), _, Gh_fa _ [0, 3, 6, 7], by omega, i + 1, _, _, _, rfl, ?_, by omega, by omega⟩
    rw [map_take_succ h0, show gv (nth p i) = v from hv.symm]
    simp
  · simp at h0
    have hi' : i = p.length := by omega
    subst hi'
    refine W.exit ?_; simp only [pblk_exit, pblk_normal, pblk_ret, pseq_exit, pseq_normal, pseq_ret, pnor_exit, pnor_normal, pnor_ret, if_true, if_false, reduceIte, Nat.reduceEqDiff]
    refine W.sreg (fun K hK => ?_)
    have ez : (p.map gv).take p.length = p.map gv := take_all (by simp)
    simp (disch := omega) [gA, wrap_i64, wrap_u64, wrap_u32, Int.tdiv_eq_ediv_of_nonneg, Int.tmod_eq_emod_of_nonneg, hr, ez]
    refine callR (qcutI_ret (p.map gv) (by simp; omega)) ?_
    simp (disch := omega) [gA, wrap_i64, wrap_u64, wrap_u32, Int.tdiv_eq_ediv_of_nonneg, Int.tmod_eq_emod_of_nonneg]
    refine hK _ (W.liveK [2] fun K2 hK2 => ?_); clear hK K; simp; refine hK2 _ ?_; clear hK2 K2
    refine W.ret ?_
    simp [go]

theorem qOf_ret (l : List Int) (hl : l.length < 1099511627776) (hb : ∀ x ∈ l, -9223372036854775808 ≤ x ∧ x < 9223372036854775808) : Ret env.P 63 [sls i64e l] (PI (cutR l)) := by
  refine ret_of_Wf (E := env) (fun _ => 0) [(0, sls i64e l)] Try.func63 rfl (by kernel_rfl) (by kernel_rfl) (show 1 ≤ 21 by decide) (by simp) ?_
  refine W.sreg (fun K hK => ?_); simp (disch := omega) [gA, wrap_i64, wrap_u64, wrap_u32, Int.tdiv_eq_ediv_of_nonneg, Int.tmod_eq_emod_of_nonneg]; refine hK _ (W.liveK [0] fun K2 hK2 => ?_); clear hK K; simp; refine hK2 _ ?_; clear hK2 K2
  refine W.sreg (fun K hK => ?_); simp (disch := omega) [gA, wrap_i64, wrap_u64, wrap_u32, Int.tdiv_eq_ediv_of_nonneg, Int.tmod_eq_emod_of_nonneg]; refine hK _ (W.liveK [0, 3] fun K2 hK2 => ?_); clear hK K; simp; refine hK2 _ ?_; clear hK2 K2
  refine W.nil 3 3 61 4 (by simp) (by decide) (fun K hK => ?_)
  refine hK _ (W.liveK [0, 3] fun K2 hK2 => ?_); clear hK K; simp; refine hK2 _ ?_; clear hK2 K2
  refine W.seq ?_
  refine W.sreg (fun K hK => ?_); simp (disch := omega) [gA, wrap_i64, wrap_u64, wrap_u32, Int.tdiv_eq_ediv_of_nonneg, Int.tmod_eq_emod_of_nonneg]; refine hK _ (W.liveK [0, 3, 6, 7] fun K2 hK2 => ?_); clear hK K; simp; refine hK2 _ ?_; clear hK2 K2
  refine W.block ?_   -- block 0
  refine W.loopG (fun k σ => ∃ (i ver : Nat) (rows : Pm.Rows) (clk : Nat), σ = ⟨fa [(0, sls i64e l), (3, .own 3 ver 0 i), (6, .int .i64 l.length), (7, .int .i64 i)], rows, clk⟩ ∧ rows 3 = some ⟨ver, 61, 4, emap ri (l.take i)⟩ ∧ k = l.length - i ∧ i ≤ l.length) l.length ?_ ?_
  · exact ⟨_, .refl, 0, _, _, _, rfl, by simp [emap], by omega, by omega⟩
  rintro k _ ⟨i, ver, rows, clk, rfl, hr, hk, hi⟩
  refine W.sreg (fun K hK => ?_); simp (disch := omega) [gA, wrap_i64, wrap_u64, wrap_u32, Int.tdiv_eq_ediv_of_nonneg, Int.tmod_eq_emod_of_nonneg]; refine hK _ (W.liveK [0, 3, 6, 7, 8] fun K2 hK2 => ?_); clear hK K; simp; refine hK2 _ ?_; clear hK2 K2
  refine W.seq ?_
  refine W.cond ⟨_, rfl, fun h0 => ?_, fun h0 => ?_⟩   -- t8
  · simp at h0
    have hcl : (l.take i).length = i := by simp; omega
    refine W.skip ?_
    refine W.seq ?_
    refine W.block ?_   -- block 1
    refine W.sreg (fun K hK => ?_); simp (disch := omega) [gA, wrap_i64, wrap_u64, wrap_u32, Int.tdiv_eq_ediv_of_nonneg, Int.tmod_eq_emod_of_nonneg]; refine hK _ (W.liveK [0, 3, 4, 6, 7] fun K2 hK2 => ?_); clear hK K; simp; refine hK2 _ ?_; clear hK2 K2
    refine W.reg (fun K hK => ?_)
    simp (disch := omega) [gA, wrap_i64, wrap_u64, wrap_u32, Int.tdiv_eq_ediv_of_nonneg, Int.tmod_eq_emod_of_nonneg]
    refine callR (OfRI_ret (nth l i) (hb _ (nth_mem h0))) ?_
    simp (disch := omega) [gA, wrap_i64, wrap_u64, wrap_u32, Int.tdiv_eq_ediv_of_nonneg, Int.tmod_eq_emod_of_nonneg, hr, hcl]
    refine hK _ (W.liveK [0, 3, 6, 7] fun K2 hK2 => ?_); clear hK K; simp; refine hK2 _ ?_; clear hK2 K2
    refine W.reg (fun K hK => ?_); simp (disch := omega) [gA, wrap_i64, wrap_u64, wrap_u32, Int.tdiv_eq_ediv_of_nonneg, Int.tmod_eq_emod_of_nonneg]
    refine hK _ ⟨l.length - (i + 1), _, Gh_fa _ [0, 3, 6, 7], by omega, i + 1, _, _, _, rfl, ?_, by omega, by omega⟩
    rw [take_succ_nth h0]
    simp
  · simp at h0
    have hi' : i = l.length := by omega
    subst hi'
    refine W.exit ?_; simp only [pblk_exit, pblk_normal, pblk_ret, pseq_exit, pseq_normal, pseq_ret, pnor_exit, pnor_normal, pnor_ret, if_true, if_false, reduceIte, Nat.reduceEqDiff]
    refine W.sreg (fun K hK => ?_)
    simp (disch := omega) [gA, wrap_i64, wrap_u64, wrap_u32, Int.tdiv_eq_ediv_of_nonneg, Int.tmod_eq_emod_of_nonneg, hr]
    refine callR (qcutI_ret l (by omega)) ?_
    simp (disch := omega) [gA, wrap_i64, wrap_u64, wrap_u32, Int.tdiv_eq_ediv_of_nonneg, Int.tmod_eq_emod_of_nonneg]
    refine hK _ (W.liveK [2] fun K2 hK2 => ?_); clear hK K; simp; refine hK2 _ ?_; clear hK2 K2
    refine W.ret ?_
    simp [go]

theorem qSame_ret (x y : List Int) (hx : x.length < 1099511627776) (hy : y.length < 1099511627776) (zx : ∀ c ∈ x, Z c) (zy : ∀ c ∈ y, Z c) : Ret env.P 19 [PI x, Po y] (.bool (decide (x = y))) := by
  refine ret_of_Wf (E := env) (fun _ => 0) [(0, PI x), (1, Po y)] Try.func19 rfl (by kernel_rfl) (by kernel_rfl) (show 2 ≤ 38 by decide) (by simp) ?_
  refine W.sreg (fun K hK => ?_); simp (disch := omega) [gA, wrap_i64, wrap_u64, wrap_u32, Int.tdiv_eq_ediv_of_nonneg, Int.tmod_eq_emod_of_nonneg]; refine hK _ (W.liveK [0, 1] fun K2 hK2 => ?_); clear hK K; simp; refine hK2 _ ?_; clear hK2 K2
  refine W.seq ?_
  refine W.sreg (fun K hK => ?_); simp (disch := omega) [gA, wrap_i64, wrap_u64, wrap_u32, Int.tdiv_eq_ediv_of_nonneg, Int.tmod_eq_emod_of_nonneg]; refine hK _ (W.liveK [0, 1, 10] fun K2 hK2 => ?_); clear hK K; simp; refine hK2 _ ?_; clear hK2 K2
  refine W.cond ⟨_, rfl, fun h => ?_, fun h => ?_⟩   -- t10
  · have hne : x ≠ y := fun h1 => by simp [h1] at h
    refine W.sreg (fun K hK => ?_); simp (disch := omega) [gA, wrap_i64, wrap_u64, wrap_u32, Int.tdiv_eq_ediv_of_nonneg, Int.tmod_eq_emod_of_nonneg]; refine hK _ (W.liveK [4] fun K2 hK2 => ?_); clear hK K; simp; refine hK2 _ ?_; clear hK2 K2
    refine W.ret ?_
    simp [go, hne]
  · have hlen : x.length = y.length := by simp at h; omega
    refine W.skip ?_
    refine W.seq ?_
    refine W.sreg (fun K hK => ?_); simp (disch := omega) [gA, wrap_i64, wrap_u64, wrap_u32, Int.tdiv_eq_ediv_of_nonneg, Int.tmod_eq_emod_of_nonneg]; refine hK _ (W.liveK [0, 1, 12, 13] fun K2 hK2 => ?_); clear hK K; simp; refine hK2 _ ?_; clear hK2 K2
    refine W.block ?_   -- block 0
    refine W.loopG (fun k σ => ∃ (i : Nat) (rows : Pm.Rows) (clk : Nat), σ = ⟨fa [(0, PI x), (1, Po y), (12, .int .i64 x.length), (13, .int .i64 i)], rows, clk⟩ ∧ k = x.length - i ∧ i ≤ x.length ∧ x.take i = y.take i) x.length ?_ ?_
    · exact ⟨_, .refl, 0, _, _, rfl, by omega, by omega, by simp⟩
    rintro k _ ⟨i, rows, clk, rfl, hk, hi, hI⟩
    refine W.sreg (fun K hK => ?_); simp (disch := omega) [gA, wrap_i64, wrap_u64, wrap_u32, Int.tdiv_eq_ediv_of_nonneg, Int.tmod_eq_emod_of_nonneg]; refine hK _ (W.liveK [0, 1, 12, 13, 14] fun K2 hK2 => ?_); clear hK K; simp; refine hK2 _ ?_; clear hK2 K2
    refine W.seq ?_
    refine W.cond ⟨_, rfl, fun h => ?_, fun h => ?_⟩   -- t14
    · simp at h
      refine W.skip ?_
      refine W.seq ?_
      refine W.block ?_   -- block 1
      refine W.sreg (fun K hK => ?_); simp (disch := omega) [gA, wrap_i64, wrap_u64, wrap_u32, Int.tdiv_eq_ediv_of_nonneg, Int.tmod_eq_emod_of_nonneg]; refine hK _ (W.liveK [0, 1, 5, 12, 13] fun K2 hK2 => ?_); clear hK K; simp; refine hK2 _ ?_; clear hK2 K2
      have hyi : i < y.length := by omega
      have hs := rSame_ret (nth x i) (decide (nth y i < 0)) (dig LL (nth y i).natAbs) (zx _ (nth_mem h)) (Nat.lt_of_le_of_lt (sz_base hLL _) (zy _ (nth_mem hyi)))
      have he : (decide (nth y i < 0) = decide (nth x i < 0) ∧ dig LL (nth y i).natAbs = dig LL (nth x i).natAbs) ↔ nth x i = nth y i := by
        constructor
        · rintro ⟨h1, h2⟩
          have h3 := V_ll (nth x i).natAbs
          have h4 := V_ll (nth y i).natAbs
          rw [h2] at h4
          simp only [decide_eq_decide] at h1
          omega
        · intro h1; rw [h1]; exact ⟨rfl, rfl⟩
      simp only [he] at hs
      refine W.sdrwJ (fun σ => ∃ (b : Bool), σ = ⟨fa [(0, PI x), (1, Po y), (12, .int .i64 x.length), (13, .int .i64 i), (36, .bool b)], rows, clk⟩ ∧ (b = true ↔ nth x i ≠ nth y i)) (fun K hK => ?_) ?_
      · by_cases hxy : nth x i = nth y i
        · rw [decide_eq_true hxy] at hs
          simp (disch := omega) [gA, wrap_i64, wrap_u64, wrap_u32, Int.tdiv_eq_ediv_of_nonneg, Int.tmod_eq_emod_of_nonneg]
          refine callR hs ?_
          simp (disch := omega) [gA, wrap_i64, wrap_u64, wrap_u32, Int.tdiv_eq_ediv_of_nonneg, Int.tmod_eq_emod_of_nonneg]
          refine callR (rOf_ret 1 (by decide) (by decide)) ?_
          simp (disch := omega) [gA, wrap_i64, wrap_u64, wrap_u32, Int.tdiv_eq_ediv_of_nonneg, Int.tmod_eq_emod_of_nonneg]
          refine callR (rCmp_ret 1 1 (by simp only [Z]; exact Nat.lt_of_le_of_lt (sz_le (k := 1) (by decide) (by decide)) (by decide)) (by simp only [Z]; exact Nat.lt_of_le_of_lt (sz_le (k := 1) (by decide) (by decide)) (by decide))) ?_
          rw [cmp3_eq]
          simp (disch := omega) [gA, wrap_i64, wrap_u64, wrap_u32, Int.tdiv_eq_ediv_of_nonneg, Int.tmod_eq_emod_of_nonneg]
          exact hK _ _ (Gh_fa _ [0, 1, 12, 13, 36]) ⟨_, rfl, by simp [hxy]⟩
        · rw [decide_eq_false hxy] at hs
          simp (disch := omega) [gA, wrap_i64, wrap_u64, wrap_u32, Int.tdiv_eq_ediv_of_nonneg, Int.tmod_eq_emod_of_nonneg]
          refine callR hs ?_
          simp (disch := omega) [gA, wrap_i64, wrap_u64, wrap_u32, Int.tdiv_eq_ediv_of_nonneg, Int.tmod_eq_emod_of_nonneg]
          exact hK _ _ (Gh_fa _ [0, 1, 12, 13, 36]) ⟨_, rfl, by simp [hxy]⟩
      rintro _ ⟨b, rfl, hb⟩
      refine W.cond ⟨_, rfl, fun h2 => ?_, fun h2 => ?_⟩   -- t36
      · have hne : x ≠ y := fun h1 => hb.1 h2 (by rw [h1])
        refine W.sreg (fun K hK => ?_); simp (disch := omega) [gA, wrap_i64, wrap_u64, wrap_u32, Int.tdiv_eq_ediv_of_nonneg, Int.tmod_eq_emod_of_nonneg]; refine hK _ (W.liveK [4] fun K2 hK2 => ?_); clear hK K; simp; refine hK2 _ ?_; clear hK2 K2
        refine W.ret ?_
        simp [go, hne]
      · have he2 : nth x i = nth y i := Classical.byContradiction fun h3 => by simp [hb.2 h3] at h2
        refine W.skip ?_
        refine W.reg (fun K hK => ?_); simp (disch := omega) [gA, wrap_i64, wrap_u64, wrap_u32, Int.tdiv_eq_ediv_of_nonneg, Int.tmod_eq_emod_of_nonneg]
        refine hK _ ⟨x.length - (i + 1), _, Gh_fa _ [0, 1, 12, 13], by omega, i + 1, _, _, rfl, by omega, by omega, ?_⟩
        rw [take_succ_nth h, take_succ_nth hyi, hI, he2]
    · simp at h
      rw [List.take_of_length_le (by omega), List.take_of_length_le (by omega)] at hI
      refine W.exit ?_; simp only [pblk_exit, pblk_normal, pblk_ret, pseq_exit, pseq_normal, pseq_ret, pnor_exit, pnor_normal, pnor_ret, if_true, if_false, reduceIte, Nat.reduceEqDiff]
      refine W.sreg (fun K hK => ?_); simp (disch := omega) [gA, wrap_i64, wrap_u64, wrap_u32, Int.tdiv_eq_ediv_of_nonneg, Int.tmod_eq_emod_of_nonneg]; refine hK _ (W.liveK [4] fun K2 hK2 => ?_); clear hK K; simp; refine hK2 _ ?_; clear hK2 K2
      refine W.ret ?_
      simp [go, hI]
end Go.Proofs.Ytjnkpfknmncdmaa
