import Derived.Test.YtjnkpfknmncdmaaLt
set_option linter.unusedSimpArgs false
set_option linter.unusedVariables false
namespace Go.Proofs.Ytjnkpfknmncdmaa
open Go Pm

/-- A rational number, as it is reckoned with. -/
def re (q : Rat) : List PV := [sls i64e (dig DD q.num.natAbs), .bool (decide (q.num < 0)), sls i64e (dig DD q.den), .bool false]
@[simp] theorem re_def {q : Rat} : re q = [sls i64e (dig DD q.num.natAbs), .bool (decide (q.num < 0)), sls i64e (dig DD q.den), .bool false] := rfl
abbrev RR (q : Rat) : PV := .ag (re q)
/-- n over d; d 0: over 1. -/
def qmk (n d : Int) : Rat := if d = 0 then n else Rat.divInt n d
theorem qmk_one (n : Int) : qmk n 1 = n := by
  rw [qmk, if_neg (by decide), Rat.divInt_eq_div]
  grind
structure ZR (k : Nat) (q : Rat) : Prop where
  n : sz 2 q.num ≤ k
  d : sz 2 (q.den : Int) ≤ k
abbrev YY : Nat := 137438953472

theorem qmk_num (n d : Int) (hd : d ≠ 0) : (qmk n d).num = (if d < 0 then -n else n) / (Int.gcd (if d < 0 then -n else n) (if d < 0 then -d else d)) := by
  rw [qmk, if_neg hd, Rat.num_divInt]
  by_cases h : d < 0
  · simp only [h, if_true]
    rw [Int.sign_eq_neg_one_of_neg h, Int.gcd_comm d n, Int.neg_gcd, Int.gcd_neg]; simp
  · simp only [h, if_false]
    rw [Int.sign_eq_one_of_pos (by omega), Int.gcd_comm d n]; simp
theorem qmk_den (n d : Int) (hd : d ≠ 0) : ((qmk n d).den : Int) = (if d < 0 then -d else d) / (Int.gcd (if d < 0 then -n else n) (if d < 0 then -d else d)) := by
  rw [qmk, if_neg hd, Rat.den_divInt, if_neg hd]
  by_cases h : d < 0
  · simp only [h, if_true]
    rw [Int.gcd_comm d n, Int.neg_gcd, Int.gcd_neg]
    rw [Int.natCast_ediv]; congr 1; omega
  · simp only [h, if_false]
    rw [Int.gcd_comm d n, Int.natCast_ediv]; congr 1; omega

theorem RR_of {q : Rat} {n d : Int} (h1 : q.num = n) (h2 : (q.den : Int) = d) : RR q = .ag [sls i64e (dig DD n.natAbs), .bool (decide (n < 0)), sls i64e (dig DD d.natAbs), .bool (decide (d < 0))] := by
  subst h1; subst h2
  have : ¬ ((q.den : Int) < 0) := by omega
  simp [this]

theorem Make_ret (n d : Int) (zn : Y n) (zd : Y d) : Ret env.P 38 [RI n, RI d] (RR (qmk n d)) := by
  refine ret_of_Wf (E := env) (fun id => if id = 4 then 2 else 0) [(0, RI n), (1, RI d)] Try.func38 rfl (by kernel_rfl) (by kernel_rfl) (show 2 ≤ 39 by decide) (by simp) ?_
  refine W.sreg (fun K hK => ?_); simp (disch := omega) [gA, wrap_i64, wrap_u64, wrap_u32, Int.tdiv_eq_ediv_of_nonneg, Int.tmod_eq_emod_of_nonneg]; refine hK _ (W.liveK [2, 3, 4] fun K2 hK2 => ?_); clear hK K; simp; refine hK2 _ ?_; clear hK2 K2
  refine W.seqJ (fun σ => ∃ (d1 : Int) (rows : Pm.Rows) (clk : Nat), σ = ⟨fa [(2, .ptr 2 0 0 0), (3, .ptr 3 1 0 0), (4, .ptr 4 2 0 0)], rows, clk⟩ ∧ rows 2 = some ⟨0, 59, 2, [[sls i64e (dig DD n.natAbs), .bool (decide (n < 0))]]⟩ ∧
    rows 3 = some ⟨1, 59, 2, [[sls i64e (dig DD d1.natAbs), .bool (decide (d1 < 0))]]⟩ ∧ rows 4 = some ⟨2, 61, 4, [[.nil, .bool false, .nil, .bool false]]⟩ ∧ d1 ≠ 0 ∧ qmk n d = qmk n d1 ∧ Y d1) ?_ ?_
  ·
    refine W.sreg (fun K hK => ?_)
    simp (disch := omega) [gA, wrap_i64, wrap_u64, wrap_u32, Int.tdiv_eq_ediv_of_nonneg, Int.tmod_eq_emod_of_nonneg]
    refine callR (rZero_ret d) ?_
    simp (disch := omega) [gA, wrap_i64, wrap_u64, wrap_u32, Int.tdiv_eq_ediv_of_nonneg, Int.tmod_eq_emod_of_nonneg]
    refine hK _ (W.liveK [2, 3, 4, 7] fun K2 hK2 => ?_); clear hK K; simp; refine hK2 _ ?_; clear hK2 K2
    refine W.cond ⟨_, rfl, fun h => ?_, fun h => ?_⟩   -- t7
    · have h := of_decide_eq_true h
      subst h
      refine W.reg (fun K hK => ?_)
      simp (disch := omega) [gA, wrap_i64, wrap_u64, wrap_u32, Int.tdiv_eq_ediv_of_nonneg, Int.tmod_eq_emod_of_nonneg]
      refine callR (rOf_ret 1 (by decide) (by decide)) ?_
      simp (disch := omega) [gA, wrap_i64, wrap_u64, wrap_u32, Int.tdiv_eq_ediv_of_nonneg, Int.tmod_eq_emod_of_nonneg]
      refine hK _ ⟨_, Gh_fa _ [2, 3, 4], 1, _, _, rfl, by simp, by simp, by simp, by decide, by rw [qmk_one]; simp [qmk], ?_⟩
      have : sz 2 1 ≤ 1 := sz_le (by decide) (by decide)
      simp only [Y]; omega
    · have h := of_decide_eq_false h
      refine W.skip ?_
      exact ⟨_, Gh_fa _ [2, 3, 4], d, _, _, rfl, by simp, by simp, by simp, h, rfl, zd⟩
  rintro _ ⟨d1, rows, clk, rfl, hr2, hr3, hr4, hd1, hq, zd1⟩
  rw [hq]
  have q1 := qmk_num n d1 hd1
  have q2 := qmk_den n d1 hd1
  generalize qmk n d1 = q at *
  clear hq zd d
  refine W.seqJ (fun σ => ∃ (n2 d2 : Int) (rows : Pm.Rows) (clk : Nat), σ = ⟨fa [(2, .ptr 2 0 0 0), (3, .ptr 3 1 0 0), (4, .ptr 4 2 0 0)], rows, clk⟩ ∧ rows 2 = some ⟨0, 59, 2, [[sls i64e (dig DD n2.natAbs), .bool (decide (n2 < 0))]]⟩ ∧
    rows 3 = some ⟨1, 59, 2, [[sls i64e (dig DD d2.natAbs), .bool (decide (d2 < 0))]]⟩ ∧ rows 4 = some ⟨2, 61, 4, [[.nil, .bool false, .nil, .bool false]]⟩ ∧ 0 < d2 ∧ q.num = n2 / Int.gcd n2 d2 ∧ (q.den : Int) = d2 / Int.gcd n2 d2 ∧ Y n2 ∧ Y d2) ?_ ?_
  ·
    refine W.sreg (fun K hK => ?_); simp (disch := omega) [gA, wrap_i64, wrap_u64, wrap_u32, Int.tdiv_eq_ediv_of_nonneg, Int.tmod_eq_emod_of_nonneg, hr3]
    refine hK _ (W.liveK [2, 3, 4, 10] fun K2 hK2 => ?_); clear hK K; simp; refine hK2 _ ?_; clear hK2 K2
    refine W.cond ⟨_, rfl, fun h => ?_, fun h => ?_⟩   -- t10
    · have h := of_decide_eq_true h
      simp only [h, if_true] at q1 q2
      have hn := rNeg_ret n
      have hd := rNeg_ret d1
      have zn2 : Y (-n) := by simpa [Y, sz_neg] using zn
      have zd2 : Y (-d1) := by simpa [Y, sz_neg] using zd1
      obtain ⟨n2, hn2⟩ : ∃ m, m = -n := ⟨_, rfl⟩
      obtain ⟨d2, hd2⟩ : ∃ m, m = -d1 := ⟨_, rfl⟩
      rw [← hn2] at hn zn2 q1 q2
      rw [← hd2] at hd zd2 q1 q2
      refine W.drw (fun K hK => ?_)
      rw [if_pos rfl, pregion_tail]
      simp (disch := omega) [gA, wrap_i64, wrap_u64, wrap_u32, Int.tdiv_eq_ediv_of_nonneg, Int.tmod_eq_emod_of_nonneg, hr2]
      refine callR hn ?_
      simp (disch := omega) [gA, wrap_i64, wrap_u64, wrap_u32, Int.tdiv_eq_ediv_of_nonneg, Int.tmod_eq_emod_of_nonneg, hr2, hr3]
      refine callR hd ?_
      simp (disch := omega) [gA, wrap_i64, wrap_u64, wrap_u32, Int.tdiv_eq_ediv_of_nonneg, Int.tmod_eq_emod_of_nonneg, hr2, hr3]
      exact hK _ ⟨_, Gh_fa _ [2, 3, 4], n2, d2, _, _, rfl, by simp, by simp, by simp [hr4], by omega, q1, q2, zn2, zd2⟩
    · have h := of_decide_eq_false h
      simp only [h, if_false] at q1 q2
      refine W.skip ?_
      exact ⟨_, Gh_fa _ [2, 3, 4], n, d1, _, _, rfl, hr2, hr3, hr4, by omega, q1, q2, zn, zd1⟩
  clear hr2 hr3 hr4 q1 q2
  rintro _ ⟨n2, d2, rows, clk, rfl, hr2, hr3, hr4, h0, q1, q2, zn2, zd2⟩
  refine W.seq ?_
  refine W.sregJ (fun σ => ∃ (b : Bool), σ = ⟨fa [(2, .ptr 2 0 0 0), (3, .ptr 3 1 0 0), (4, .ptr 4 2 0 0), (25, .bool b)], rows, clk⟩ ∧ (b = true ↔ (dig DD d2.natAbs).length = 1 ∧ nth (dig DD d2.natAbs) 0 = 1)) (fun K hK => ?_) ?_
  · by_cases h1 : (dig DD d2.natAbs).length = 1
    · have h2 : ((dig DD d2.natAbs).length : Int) = 1 := by omega
      simp (disch := omega) [gA, wrap_i64, wrap_u64, wrap_u32, Int.tdiv_eq_ediv_of_nonneg, Int.tmod_eq_emod_of_nonneg, hr3, h1, h2]
      exact hK _ _ (Gh_fa _ [2, 3, 4, 25]) ⟨_, rfl, by simp [h1]⟩
    · have h2 : ¬ ((dig DD d2.natAbs).length : Int) = 1 := by omega
      have h3 : (((dig DD d2.natAbs).length : Int) == 1) = false := by simpa using h2
      simp (disch := omega) [gA, wrap_i64, wrap_u64, wrap_u32, Int.tdiv_eq_ediv_of_nonneg, Int.tmod_eq_emod_of_nonneg, hr3, h3]
      exact hK _ _ (Gh_fa _ [2, 3, 4, 25]) ⟨_, rfl, by simp [h1, h2]⟩
  rintro _ ⟨b, rfl, hb⟩
  refine W.cond ⟨_, rfl, fun h => ?_, fun h => ?_⟩   -- t25
  · have hb := hb.1 h
    have hd2 : d2 = 1 := by
      have hv := V_dda d2
      obtain ⟨h1, h2⟩ := hb
      match hl : dig DD d2.natAbs, h1 with
      | [x], _ =>
        rw [hl] at h2 hv
        simp [nth, V] at h2 hv
        omega
    subst hd2
    rw [Int.gcd_one] at q1 q2
    rw [RR_of (n := n2) (d := 1) (by simpa using q1) (by simpa using q2)]
    refine W.sreg (fun K hK => ?_); simp (disch := omega) [gA, wrap_i64, wrap_u64, wrap_u32, Int.tdiv_eq_ediv_of_nonneg, Int.tmod_eq_emod_of_nonneg, hr2, hr3, hr4]
    refine hK _ (W.liveK [4] fun K2 hK2 => ?_); clear hK K; simp; refine hK2 _ ?_; clear hK2 K2
    refine W.ret ?_
    simp [go]
  · refine W.skip ?_
    have hgp : 0 < Int.gcd n2 d2 := Int.gcd_pos_of_ne_zero_right _ (by omega)
    have e1 : n2.tdiv (Int.gcd n2 d2) = q.num := by rw [q1]; exact Int.tdiv_eq_ediv_of_dvd (Int.gcd_dvd_left ..)
    have e2 : d2.tdiv (Int.gcd n2 d2) = q.den := by rw [q2]; exact Int.tdiv_eq_ediv_of_dvd (Int.gcd_dvd_right ..)
    have zg : Y (Int.gcd n2 d2 : Int) := Ymono zd2 (by
      have := Int.le_of_dvd h0 (Int.gcd_dvd_right n2 d2); omega)
    have hq1 := rQuo_ret n2 (Int.gcd n2 d2) (by omega) zn2 zg
    have hq2 := rQuo_ret d2 (Int.gcd n2 d2) (by omega) zd2 zg
    rw [e1] at hq1
    rw [e2] at hq2
    have hg := rGcd_ret n2 d2 zn2 zd2
    obtain ⟨g, hgd⟩ : ∃ g : Int, g = Int.gcd n2 d2 := ⟨_, rfl⟩
    rw [← hgd] at hg hq1 hq2
    have hnn : ¬ ((q.den : Int) < 0) := by omega
    refine W.sreg (fun K hK => ?_)
    simp (disch := omega) [gA, wrap_i64, wrap_u64, wrap_u32, Int.tdiv_eq_ediv_of_nonneg, Int.tmod_eq_emod_of_nonneg, hr2, hr3]
    refine callR hg ?_
    simp (disch := omega) [gA, wrap_i64, wrap_u64, wrap_u32, Int.tdiv_eq_ediv_of_nonneg, Int.tmod_eq_emod_of_nonneg, hr2, hr3]
    refine hK _ (W.liveK [2, 3, 4, 5] fun K2 hK2 => ?_); clear hK K; simp; refine hK2 _ ?_; clear hK2 K2
    refine W.sdrw (fun K hK => ?_)
    simp (disch := omega) [gA, wrap_i64, wrap_u64, wrap_u32, Int.tdiv_eq_ediv_of_nonneg, Int.tmod_eq_emod_of_nonneg, hr2, hr3]
    refine callR hq1 ?_
    simp (disch := omega) [gA, wrap_i64, wrap_u64, wrap_u32, Int.tdiv_eq_ediv_of_nonneg, Int.tmod_eq_emod_of_nonneg, hr2, hr3]
    refine callR hq2 ?_
    simp (disch := omega) [gA, wrap_i64, wrap_u64, wrap_u32, Int.tdiv_eq_ediv_of_nonneg, Int.tmod_eq_emod_of_nonneg, hr2, hr3, hr4]
    refine hK _ (W.liveK [4] fun K2 hK2 => ?_); clear hK K; simp; refine hK2 _ ?_; clear hK2 K2
    refine W.ret ?_
    simp [go, hnn]

theorem OfR_ret (n d : Int) (h1 : -9223372036854775808 ≤ n ∧ n < 9223372036854775808) (h2 : -9223372036854775808 ≤ d ∧ d < 9223372036854775808) : Ret env.P 94 [.int .i64 n, .int .i64 d] (RR (qmk n d)) := by
  have z : ∀ x : Int, -9223372036854775808 ≤ x ∧ x < 9223372036854775808 → Y x := fun x hx => by
    have : sz 2 x ≤ 64 := sz_le (by decide) (by omega)
    simp only [Y]; omega
  have hm := Make_ret n d (z n h1) (z d h2)
  generalize qmk n d = q at *
  refine ret_of_Wf (E := env) (fun _ => 0) [(0, .int .i64 n), (1, .int .i64 d)] Try.func94 rfl (by kernel_rfl) (by kernel_rfl) (show 2 ≤ 10 by decide) (by simp) ?_
  refine W.sreg (fun K hK => ?_); simp (disch := omega) [gA, wrap_i64, wrap_u64, wrap_u32, Int.tdiv_eq_ediv_of_nonneg, Int.tmod_eq_emod_of_nonneg]; refine hK _ (W.liveK [0, 1, 4] fun K2 hK2 => ?_); clear hK K; simp; refine hK2 _ ?_; clear hK2 K2
  refine W.sreg (fun K hK => ?_)
  simp (disch := omega) [gA, wrap_i64, wrap_u64, wrap_u32, Int.tdiv_eq_ediv_of_nonneg, Int.tmod_eq_emod_of_nonneg]
  refine callR (rOf_ret n h1.1 h1.2) ?_
  simp (disch := omega) [gA, wrap_i64, wrap_u64, wrap_u32, Int.tdiv_eq_ediv_of_nonneg, Int.tmod_eq_emod_of_nonneg]
  refine callR (rOf_ret d h2.1 h2.2) ?_
  simp (disch := omega) [gA, wrap_i64, wrap_u64, wrap_u32, Int.tdiv_eq_ediv_of_nonneg, Int.tmod_eq_emod_of_nonneg]
  refine callR hm ?_
  simp (disch := omega) [gA, wrap_i64, wrap_u64, wrap_u32, Int.tdiv_eq_ediv_of_nonneg, Int.tmod_eq_emod_of_nonneg]
  refine hK _ (W.liveK [4] fun K2 hK2 => ?_); clear hK K; simp; refine hK2 _ ?_; clear hK2 K2
  refine W.ret ?_
  simp [go]

theorem NegR_ret (q : Rat) : Ret env.P 93 [RR q] (RR (-q)) := by
  have hn := rNeg_ret q.num
  have e : RR (-q) = .ag [sls i64e (dig DD (-q.num).natAbs), .bool (decide (-q.num < 0)), sls i64e (dig DD q.den), .bool false] := rfl
  rw [e]
  generalize -q.num = m at *
  refine ret_of_Wf (E := env) (fun _ => 0) [(0, RR q)] Try.func93 rfl (by kernel_rfl) (by kernel_rfl) (show 1 ≤ 9 by decide) (by simp) ?_
  refine W.sreg (fun K hK => ?_); simp (disch := omega) [gA, wrap_i64, wrap_u64, wrap_u32, Int.tdiv_eq_ediv_of_nonneg, Int.tmod_eq_emod_of_nonneg]; refine hK _ (W.liveK [1, 2] fun K2 hK2 => ?_); clear hK K; simp; refine hK2 _ ?_; clear hK2 K2
  refine W.sdrw (fun K hK => ?_)
  simp (disch := omega) [gA, wrap_i64, wrap_u64, wrap_u32, Int.tdiv_eq_ediv_of_nonneg, Int.tmod_eq_emod_of_nonneg]
  refine callR hn ?_
  simp (disch := omega) [gA, wrap_i64, wrap_u64, wrap_u32, Int.tdiv_eq_ediv_of_nonneg, Int.tmod_eq_emod_of_nonneg]
  refine hK _ (W.liveK [2] fun K2 hK2 => ?_); clear hK K; simp; refine hK2 _ ?_; clear hK2 K2
  refine W.ret ?_
  simp [go]

theorem add_qmk (p q : Rat) : qmk (p.num * q.den + q.num * p.den) ((p.den : Int) * q.den) = p + q := by
  have h : ((p.den : Int) * q.den) ≠ 0 := by have := p.den_nz; have := q.den_nz; simp [Int.mul_eq_zero]; omega
  rw [qmk, if_neg h, Rat.add_def', ← Int.natCast_mul, Rat.divInt_ofNat]
theorem mul_qmk (p q : Rat) : qmk (p.num * q.num) ((p.den : Int) * q.den) = p * q := by
  have h : ((p.den : Int) * q.den) ≠ 0 := by have := p.den_nz; have := q.den_nz; simp [Int.mul_eq_zero]; omega
  rw [qmk, if_neg h, Rat.mul_def', ← Int.natCast_mul, Rat.divInt_ofNat]
theorem div_qmk (p q : Rat) (hq : q ≠ 0) : qmk (p.num * q.den) ((p.den : Int) * q.num) = p / q := by
  have hn : q.num ≠ 0 := fun h => hq (Rat.num_eq_zero.1 h)
  have h : ((p.den : Int) * q.num) ≠ 0 := by have := p.den_nz; exact Int.mul_ne_zero (by omega) hn
  rw [qmk, if_neg h, Rat.div_def, Rat.inv_def, ← Rat.divInt_mul_divInt, Rat.num_divInt_den]
theorem AddR_ret (p q : Rat) (hp : ZR YY p) (hq : ZR YY q) : Ret env.P 97 [RR p, RR q] (RR (p + q)) := by
  have s1 := sz_mul (b := 2) (by decide) hp.n hq.d
  have s2 := sz_mul (b := 2) (by decide) hq.n hp.d
  have s3 := sz_mul (b := 2) (by decide) hp.d hq.d
  have s4 := sz_add (b := 2) (by decide) s1 s2
  have zz : ∀ {x : Int}, sz 2 x ≤ YY → Z x := fun h => by simp only [Z, YY] at *; omega
  have m1 := rMul_ret p.num q.den (zz hp.n) (zz hq.d)
  have m2 := rMul_ret q.num p.den (zz hq.n) (zz hp.d)
  have m3 := rMul_ret p.den q.den (zz hp.d) (zz hq.d)
  have m4 := rAdd_ret (p.num * q.den) (q.num * p.den) (by simp only [Z, YY] at *; omega) (by simp only [Z, YY] at *; omega)
  have m5 := Make_ret (p.num * q.den + q.num * p.den) ((p.den : Int) * q.den) (by simp only [Y, YY] at *; omega) (by simp only [Y, YY] at *; omega)
  rw [add_qmk] at m5
  generalize p.num * q.den + q.num * p.den = x5 at *
  generalize p.num * q.den = x1 at *
  generalize q.num * (p.den : Int) = x2 at *
  generalize (p.den : Int) * q.den = x3 at *
  generalize hr : p + q = r at *
  have d1 : RR p = .ag [sls i64e (dig DD p.num.natAbs), .bool (decide (p.num < 0)), sls i64e (dig DD (p.den : Int).natAbs), .bool (decide ((p.den : Int) < 0))] := RR_of rfl rfl
  have d2 : RR q = .ag [sls i64e (dig DD q.num.natAbs), .bool (decide (q.num < 0)), sls i64e (dig DD (q.den : Int).natAbs), .bool (decide ((q.den : Int) < 0))] := RR_of rfl rfl
  rw [d1, d2]
  generalize (p.den : Int) = pd at *
  generalize (q.den : Int) = qd at *
  generalize p.num = pn at *
  generalize q.num = qn at *
  refine ret_of_Wf (E := env) (fun _ => 0) [(0, .ag [sls i64e (dig DD pn.natAbs), .bool (decide (pn < 0)), sls i64e (dig DD pd.natAbs), .bool (decide (pd < 0))]), (1, .ag [sls i64e (dig DD qn.natAbs), .bool (decide (qn < 0)), sls i64e (dig DD qd.natAbs), .bool (decide (qd < 0))])] Try.func97 rfl (by kernel_rfl) (by kernel_rfl) (show 2 ≤ 22 by decide) (by simp) ?_
  refine W.sreg (fun K hK => ?_); simp (disch := omega) [gA, wrap_i64, wrap_u64, wrap_u32, Int.tdiv_eq_ediv_of_nonneg, Int.tmod_eq_emod_of_nonneg]; refine hK _ (W.liveK [2, 3, 4] fun K2 hK2 => ?_); clear hK K; simp; refine hK2 _ ?_; clear hK2 K2
  refine W.sdrw (fun K hK => ?_)
  simp (disch := omega) [gA, wrap_i64, wrap_u64, wrap_u32, Int.tdiv_eq_ediv_of_nonneg, Int.tmod_eq_emod_of_nonneg]
  refine callR m1 ?_
  simp (disch := omega) [gA, wrap_i64, wrap_u64, wrap_u32, Int.tdiv_eq_ediv_of_nonneg, Int.tmod_eq_emod_of_nonneg]
  refine callR m2 ?_
  simp (disch := omega) [gA, wrap_i64, wrap_u64, wrap_u32, Int.tdiv_eq_ediv_of_nonneg, Int.tmod_eq_emod_of_nonneg]
  refine callR m4 ?_
  simp (disch := omega) [gA, wrap_i64, wrap_u64, wrap_u32, Int.tdiv_eq_ediv_of_nonneg, Int.tmod_eq_emod_of_nonneg]
  refine callR m3 ?_
  simp (disch := omega) [gA, wrap_i64, wrap_u64, wrap_u32, Int.tdiv_eq_ediv_of_nonneg, Int.tmod_eq_emod_of_nonneg]
  refine callR m5 ?_
  simp (disch := omega) [gA, wrap_i64, wrap_u64, wrap_u32, Int.tdiv_eq_ediv_of_nonneg, Int.tmod_eq_emod_of_nonneg]
  refine hK _ (W.liveK [4] fun K2 hK2 => ?_); clear hK K; simp; refine hK2 _ ?_; clear hK2 K2
  refine W.ret ?_
  simp [go]
end Go.Proofs.Ytjnkpfknmncdmaa
