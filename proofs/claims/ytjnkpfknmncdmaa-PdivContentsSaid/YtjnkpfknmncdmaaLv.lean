import Derived.Test.YtjnkpfknmncdmaaLu
set_option linter.unusedSimpArgs false
set_option linter.unusedVariables false
namespace Go.Proofs.Ytjnkpfknmncdmaa
open Go Pm

theorem MulR_ret (p q : Rat) (hp : ZR YY p) (hq : ZR YY q) : Ret env.P 78 [RR p, RR q] (RR (p * q)) := by
  have s1 := sz_mul (b := 2) (by decide) hp.n hq.n
  have s2 := sz_mul (b := 2) (by decide) hp.d hq.d
  have zz : ∀ {x : Int}, sz 2 x ≤ YY → Z x := fun h => by simp only [Z, YY] at *; omega
  have m1 := rMul_ret p.num q.num (zz hp.n) (zz hq.n)
  have m2 := rMul_ret p.den q.den (zz hp.d) (zz hq.d)
  have m5 := Make_ret (p.num * q.num) ((p.den : Int) * q.den) (by simp only [Y, YY] at *; omega) (by simp only [Y, YY] at *; omega)
  rw [mul_qmk] at m5
  generalize p.num * (q.num : Int) = x1 at *
  generalize (p.den : Int) * q.den = x2 at *
  generalize hr : p * q = r at *
  have d1 : RR p = .ag [sls i64e (dig DD p.num.natAbs), .bool (decide (p.num < 0)), sls i64e (dig DD (p.den : Int).natAbs), .bool (decide ((p.den : Int) < 0))] := RR_of rfl rfl
  have d2 : RR q = .ag [sls i64e (dig DD q.num.natAbs), .bool (decide (q.num < 0)), sls i64e (dig DD (q.den : Int).natAbs), .bool (decide ((q.den : Int) < 0))] := RR_of rfl rfl
  rw [d1, d2]
  generalize (p.den : Int) = pd at *
  generalize (q.den : Int) = qd at *
  generalize p.num = pn at *
  generalize q.num = qn at *
  refine ret_of_Wf (E := env) (fun _ => 0) [(0, .ag [sls i64e (dig DD pn.natAbs), .bool (decide (pn < 0)), sls i64e (dig DD pd.natAbs), .bool (decide (pd < 0))]), (1, .ag [sls i64e (dig DD qn.natAbs), .bool (decide (qn < 0)), sls i64e (dig DD qd.natAbs), .bool (decide (qd < 0))])] Try.func78 rfl (by kernel_rfl) (by kernel_rfl) (show 2 ≤ 16 by decide) (by simp) ?_
  refine W.sreg (fun K hK => ?_); simp (disch := omega) [gA, wrap_i64, wrap_u64, wrap_u32, Int.tdiv_eq_ediv_of_nonneg, Int.tmod_eq_emod_of_nonneg]; refine hK _ (W.liveK [2, 3, 4] fun K2 hK2 => ?_); clear hK K; simp; refine hK2 _ ?_; clear hK2 K2
  refine W.sdrw (fun K hK => ?_)
  simp (disch := omega) [gA, wrap_i64, wrap_u64, wrap_u32, Int.tdiv_eq_ediv_of_nonneg, Int.tmod_eq_emod_of_nonneg]
  refine callR m1 ?_
  simp (disch := omega) [gA, wrap_i64, wrap_u64, wrap_u32, Int.tdiv_eq_ediv_of_nonneg, Int.tmod_eq_emod_of_nonneg]
  refine callR m2 ?_
  simp (disch := omega) [gA, wrap_i64, wrap_u64, wrap_u32, Int.tdiv_eq_ediv_of_nonneg, Int.tmod_eq_emod_of_nonneg]
  refine callR m5 ?_
  simp (disch := omega) [gA, wrap_i64, wrap_u64, wrap_u32, Int.tdiv_eq_ediv_of_nonneg, Int.tmod_eq_emod_of_nonneg]
  refine hK _ (W.liveK [4] fun K2 hK2 => ?_); clear hK K; simp; refine hK2 _ ?_; clear hK2 K2
  refine W.ret ?_
  simp [go]
theorem QuoR_ret (p q : Rat) (hp : ZR YY p) (hq : ZR YY q) (h0 : q ≠ 0) : Ret env.P 81 [RR p, RR q] (RR (p / q)) := by
  have s1 := sz_mul (b := 2) (by decide) hp.n hq.d
  have s2 := sz_mul (b := 2) (by decide) hp.d hq.n
  have zz : ∀ {x : Int}, sz 2 x ≤ YY → Z x := fun h => by simp only [Z, YY] at *; omega
  have m1 := rMul_ret p.num q.den (zz hp.n) (zz hq.d)
  have m2 := rMul_ret p.den q.num (zz hp.d) (zz hq.n)
  have m5 := Make_ret (p.num * q.den) ((p.den : Int) * q.num) (by simp only [Y, YY] at *; omega) (by simp only [Y, YY] at *; omega)
  rw [div_qmk p q h0] at m5
  generalize p.num * (q.den : Int) = x1 at *
  generalize (p.den : Int) * q.num = x2 at *
  generalize hr : p / q = r at *
  have d1 : RR p = .ag [sls i64e (dig DD p.num.natAbs), .bool (decide (p.num < 0)), sls i64e (dig DD (p.den : Int).natAbs), .bool (decide ((p.den : Int) < 0))] := RR_of rfl rfl
  have d2 : RR q = .ag [sls i64e (dig DD q.num.natAbs), .bool (decide (q.num < 0)), sls i64e (dig DD (q.den : Int).natAbs), .bool (decide ((q.den : Int) < 0))] := RR_of rfl rfl
  rw [d1, d2]
  generalize (p.den : Int) = pd at *
  generalize (q.den : Int) = qd at *
  generalize p.num = pn at *
  generalize q.num = qn at *
  refine ret_of_Wf (E := env) (fun _ => 0) [(0, .ag [sls i64e (dig DD pn.natAbs), .bool (decide (pn < 0)), sls i64e (dig DD pd.natAbs), .bool (decide (pd < 0))]), (1, .ag [sls i64e (dig DD qn.natAbs), .bool (decide (qn < 0)), sls i64e (dig DD qd.natAbs), .bool (decide (qd < 0))])] Try.func81 rfl (by kernel_rfl) (by kernel_rfl) (show 2 ≤ 16 by decide) (by simp) ?_
  refine W.sreg (fun K hK => ?_); simp (disch := omega) [gA, wrap_i64, wrap_u64, wrap_u32, Int.tdiv_eq_ediv_of_nonneg, Int.tmod_eq_emod_of_nonneg]; refine hK _ (W.liveK [2, 3, 4] fun K2 hK2 => ?_); clear hK K; simp; refine hK2 _ ?_; clear hK2 K2
  refine W.sdrw (fun K hK => ?_)
  simp (disch := omega) [gA, wrap_i64, wrap_u64, wrap_u32, Int.tdiv_eq_ediv_of_nonneg, Int.tmod_eq_emod_of_nonneg]
  refine callR m1 ?_
  simp (disch := omega) [gA, wrap_i64, wrap_u64, wrap_u32, Int.tdiv_eq_ediv_of_nonneg, Int.tmod_eq_emod_of_nonneg]
  refine callR m2 ?_
  simp (disch := omega) [gA, wrap_i64, wrap_u64, wrap_u32, Int.tdiv_eq_ediv_of_nonneg, Int.tmod_eq_emod_of_nonneg]
  refine callR m5 ?_
  simp (disch := omega) [gA, wrap_i64, wrap_u64, wrap_u32, Int.tdiv_eq_ediv_of_nonneg, Int.tmod_eq_emod_of_nonneg]
  refine hK _ (W.liveK [4] fun K2 hK2 => ?_); clear hK K; simp; refine hK2 _ ?_; clear hK2 K2
  refine W.ret ?_
  simp [go]

theorem zero_ret : Ret env.P 80 [] (RR 0) := by
  have h := OfR_ret 0 1 (by decide) (by decide)
  rw [qmk_one] at h
  refine ret_of_Wf (E := env) (fun _ => 0) [] Try.func80 rfl (by kernel_rfl) (by kernel_rfl) (show 0 ≤ 2 by decide) (by simp) ?_
  refine W.sreg (fun K hK => ?_); simp (disch := omega) [gA, wrap_i64, wrap_u64, wrap_u32, Int.tdiv_eq_ediv_of_nonneg, Int.tmod_eq_emod_of_nonneg]; refine hK _ (W.liveK [0] fun K2 hK2 => ?_); clear hK K; simp; refine hK2 _ ?_; clear hK2 K2
  refine W.sreg (fun K hK => ?_)
  simp (disch := omega) [gA, wrap_i64, wrap_u64, wrap_u32, Int.tdiv_eq_ediv_of_nonneg, Int.tmod_eq_emod_of_nonneg]
  refine callR h ?_
  simp (disch := omega) [gA, wrap_i64, wrap_u64, wrap_u32, Int.tdiv_eq_ediv_of_nonneg, Int.tmod_eq_emod_of_nonneg]
  refine hK _ (W.liveK [0] fun K2 hK2 => ?_); clear hK K; simp; refine hK2 _ ?_; clear hK2 K2
  refine W.ret ?_
  simp [go]

/-- Without zeros on top. -/
def cutQ : List Rat → List Rat
  | [] => []
  | x :: l => if cutQ l = [] ∧ x = 0 then [] else x :: cutQ l
theorem cutQ_zero : ∀ l : List Rat, cutQ (l ++ [0]) = cutQ l
  | [] => by simp [cutQ]
  | x :: l => by simp [cutQ, cutQ_zero l]
theorem cutQ_ne {x : Rat} (h : x ≠ 0) : ∀ l : List Rat, cutQ (l ++ [x]) = l ++ [x]
  | [] => by
    show cutQ [x] = [x]
    rw [cutQ, if_neg (fun hh => h hh.2)]; rfl
  | y :: l => by
    have ih := cutQ_ne h l
    have hn : ¬ (l ++ [x] = [] ∧ y = 0) := by simp
    show cutQ (y :: (l ++ [x])) = y :: (l ++ [x])
    rw [cutQ, ih, if_neg hn]
theorem cutQ_len : ∀ l : List Rat, (cutQ l).length ≤ l.length
  | [] => by simp [cutQ]
  | x :: l => by
    have := cutQ_len l
    simp only [cutQ]
    split
    · simp
    · simpa using this
theorem cutQ_sub : ∀ (x : List Rat) (c : Rat), c ∈ cutQ x → c ∈ x
  | [], c, h => h
  | a :: x, c, h => by
    rw [cutQ] at h
    split at h
    · cases h
    · rcases List.mem_cons.1 h with h1 | h1
      · simp [h1]
      · exact List.mem_cons_of_mem _ (cutQ_sub x c h1)
/-- Whole numbers as rational ones. -/
abbrev qs (x : List Int) : List Rat := x.map fun (c : Int) => (c : Rat)
theorem cutQ_qs : ∀ x : List Int, cutQ (qs x) = qs (cutR x)
  | [] => rfl
  | a :: x => by
    have ih := cutQ_qs x
    simp only [qs, List.map_cons] at ih ⊢
    rw [cutQ, ih, cutR]
    by_cases h : cutR x = [] ∧ a = 0
    · simp [h]
    · rw [if_neg h, if_neg (by simpa using h)]; simp

@[simp] theorem lenAll_re {l : List Rat} : lenAll 4 (emap re l) = True := lenAll_emap fun _ => rfl
@[simp] theorem rowPers_re {v e n : Nat} {l : List Rat} : rowPers (some ⟨v, e, n, emap re l⟩) = True := rowPers_emap fun _ => rfl
abbrev PP (l : List Rat) : PV := sls re l

theorem qcut_ret (l : List Rat) (hl : l.length < 17592186044416) : Ret env.P 79 [PP l] (PP (cutQ l)) := by
  refine ret_of_Wf (E := env) (fun _ => 0) [(0, PP l)] Try.func79 rfl (by kernel_rfl) (by kernel_rfl) (show 1 ≤ 22 by decide) (by simp) ?_
  refine W.sreg (fun K hK => ?_); simp (disch := omega) [gA, wrap_i64, wrap_u64, wrap_u32, Int.tdiv_eq_ediv_of_nonneg, Int.tmod_eq_emod_of_nonneg]; refine hK _ (W.liveK [0] fun K2 hK2 => ?_); clear hK K; simp; refine hK2 _ ?_; clear hK2 K2
  refine W.sreg (fun K hK => ?_); simp (disch := omega) [gA, wrap_i64, wrap_u64, wrap_u32, Int.tdiv_eq_ediv_of_nonneg, Int.tmod_eq_emod_of_nonneg]; refine hK _ (W.liveK [0, 3] fun K2 hK2 => ?_); clear hK K; simp; refine hK2 _ ?_; clear hK2 K2
  refine W.seq (W.block ?_)
  refine W.loopG (fun k σ => ∃ (rows : Pm.Rows) (clk : Nat), σ = ⟨fa [(0, PP l), (3, .int .i64 (k : Int))], rows, clk⟩ ∧ k ≤ l.length ∧ cutQ l = cutQ (l.take k)) l.length ?_ ?_
  · exact ⟨_, .refl, _, _, rfl, by omega, by simp⟩
  rintro k _ ⟨rows, clk, rfl, hk, hc⟩
  refine W.seq ?_
  refine W.sregJ (fun σ => ∃ (b : Bool), σ = ⟨fa [(0, PP l), (3, .int .i64 (k : Int)), (16, .bool b)], rows, clk⟩ ∧ (b = true ↔ 0 < k ∧ nth l (k - 1) = 0)) (fun K hK => ?_) ?_
  · simp
    by_cases h0 : 0 < k
    · simp (disch := omega) [gA, wrap_i64, wrap_u64, wrap_u32, Int.tdiv_eq_ediv_of_nonneg, Int.tmod_eq_emod_of_nonneg, h0]
      refine callR (rZero_ret (nth l (k - 1)).num) ?_
      simp (disch := omega) [gA, wrap_i64, wrap_u64, wrap_u32, Int.tdiv_eq_ediv_of_nonneg, Int.tmod_eq_emod_of_nonneg, h0]
      refine hK _ _ (Gh_fa _ [0, 3, 16]) ⟨_, rfl, ?_⟩
      simp [h0, Rat.num_eq_zero]
    · simp (disch := omega) [gA, wrap_i64, wrap_u64, wrap_u32, Int.tdiv_eq_ediv_of_nonneg, Int.tmod_eq_emod_of_nonneg, h0]
      exact hK _ _ (Gh_fa _ [0, 3, 16]) ⟨_, rfl, by simp [h0]⟩
  rintro _ ⟨b, rfl, hb⟩
  refine W.cond ⟨_, rfl, fun h => ?_, fun h => ?_⟩
  · obtain ⟨h0, h1⟩ := hb.1 h
    refine W.skip (W.block ?_)
    refine W.reg (fun K hK => ?_)
    simp (disch := omega) [gA, wrap_i64, wrap_u64, wrap_u32, Int.tdiv_eq_ediv_of_nonneg, Int.tmod_eq_emod_of_nonneg]
    refine hK _ ⟨k - 1, _, Gh.fr [(0, _), (3, .int .i64 ((k - 1 : Nat) : Int))] (by simp; omega), by omega, _, _, rfl, by omega, ?_⟩
    rw [hc, show k = (k - 1) + 1 by omega, take_succ_nth (by omega), h1, cutQ_zero]
    simp
  · have h2 : cutQ l = l.take k := by
      rw [hc]
      by_cases h0 : 0 < k
      · have h1 : nth l (k - 1) ≠ 0 := fun h1 => by simp [hb.2 ⟨h0, h1⟩] at h
        rw [show k = (k - 1) + 1 by omega, take_succ_nth (by omega)]
        exact cutQ_ne h1 _
      · have : k = 0 := by omega
        subst this; simp [cutQ]
    refine W.exit ?_
    simp only [pblk_exit, pblk_normal, pblk_ret, pseq_exit, pseq_normal, pseq_ret, pnor_exit, pnor_normal, pnor_ret, if_true, if_false, reduceIte, Nat.reduceEqDiff]
    refine W.sreg (fun K hK => ?_); simp (disch := omega) [gA, wrap_i64, wrap_u64, wrap_u32, Int.tdiv_eq_ediv_of_nonneg, Int.tmod_eq_emod_of_nonneg]; refine hK _ (W.liveK [2] fun K2 hK2 => ?_); clear hK K; simp; refine hK2 _ ?_; clear hK2 K2
    refine W.ret ?_
    simp [h2]
end Go.Proofs.Ytjnkpfknmncdmaa
