import Derived.Test.YtjnkpfknmncdmaaLw
set_option linter.unusedSimpArgs false
set_option linter.unusedVariables false
namespace Go.Proofs.Ytjnkpfknmncdmaa
open Go Pm

/-- Rational polynomials that are not too great. -/
structure QOK (l : List Rat) : Prop where
  ok : ∀ q ∈ l, ZR YY q
  len : l.length < 1099511627776
theorem ZR_zero (k : Nat) (hk : 1 ≤ k) : ZR k 0 := ⟨by show sz 2 0 ≤ k; rw [sz_zero]; omega, by show sz 2 1 ≤ k; exact Nat.le_trans (sz_le (by decide) (by decide)) hk⟩
theorem QOK.nth {l : List Rat} (h : QOK l) (i : Nat) : ZR YY (nth l i) := by
  by_cases hi : i < l.length
  · exact h.ok _ (nth_mem hi)
  · rw [nth_ge (by omega)]; exact ZR_zero _ (by decide)
theorem QOK.qs {x : List Int} (h : ∀ c ∈ x, sz 2 c ≤ YY) (hl : x.length < 1099511627776) : QOK (qs x) := ⟨fun q hq => by
  simp only [List.mem_map] at hq
  obtain ⟨c, hc, rfl⟩ := hq
  exact ZR_int (h c hc) (by decide), by simpa using hl⟩
@[simp] theorem persAll_re {l : List Rat} : (∀ e ∈ emap re l, ∀ p ∈ e, pers1 p = true) = True := by simp [emap]

theorem qat_ret (l : List Rat) (i : Nat) (hi : i < 9223372036854775808) : Ret env.P 107 [PP l, .int .i64 i] (RR (nth l i)) := by
  have hzero := zero_ret
  refine ret_of_Wf (E := env) (fun _ => 0) [(0, PP l), (1, .int .i64 i)] Try.func107 rfl (by kernel_rfl) (by kernel_rfl) (show 2 ≤ 18 by decide) (by simp) ?_
  refine W.sreg (fun K hK => ?_); simp (disch := omega) [gA, wrap_i64, wrap_u64, wrap_u32, Int.tdiv_eq_ediv_of_nonneg, Int.tmod_eq_emod_of_nonneg]; refine hK _ (W.liveK [0, 1, 4] fun K2 hK2 => ?_); clear hK K; simp; refine hK2 _ ?_; clear hK2 K2
  refine W.seq ?_
  refine W.sregJ (fun σ => ∃ (b : Bool) (rows : Pm.Rows) (clk : Nat), σ = ⟨fa [(0, PP l), (1, .int .i64 i), (4, .ptr 4 0 0 0), (12, .bool b)], rows, clk⟩ ∧ (b = true ↔ l.length ≤ i) ∧ rows 4 = some ⟨0, 61, 4, [[.nil, .bool false, .nil, .bool false]]⟩) (fun K hK => ?_) ?_
  · have hn : ¬ ((i : Int) < 0) := by omega
    simp (disch := omega) [gA, wrap_i64, wrap_u64, wrap_u32, Int.tdiv_eq_ediv_of_nonneg, Int.tmod_eq_emod_of_nonneg, hn]
    exact hK _ _ (Gh_fa _ [0, 1, 4, 12]) ⟨_, _, _, rfl, by simp, by simp⟩
  rintro _ ⟨b, rows, clk, rfl, hb, hr4⟩
  refine W.cond ⟨_, rfl, fun h => ?_, fun h => ?_⟩   -- t12
  · have hb := hb.1 h
    have e : nth l i = 0 := nth_ge hb
    rw [e]
    generalize (0 : Rat) = z at *
    refine W.sreg (fun K hK => ?_)
    simp (disch := omega) [gA, wrap_i64, wrap_u64, wrap_u32, Int.tdiv_eq_ediv_of_nonneg, Int.tmod_eq_emod_of_nonneg]
    refine callR hzero ?_
    simp (disch := omega) [gA, wrap_i64, wrap_u64, wrap_u32, Int.tdiv_eq_ediv_of_nonneg, Int.tmod_eq_emod_of_nonneg, hr4]
    refine hK _ (W.liveK [4] fun K2 hK2 => ?_); clear hK K; simp; refine hK2 _ ?_; clear hK2 K2
    refine W.ret ?_
    simp [go]
  · have hb : i < l.length := Nat.lt_of_not_le fun h2 => by simp [hb.2 h2] at h
    refine W.skip ?_
    refine W.sreg (fun K hK => ?_); simp (disch := omega) [gA, wrap_i64, wrap_u64, wrap_u32, Int.tdiv_eq_ediv_of_nonneg, Int.tmod_eq_emod_of_nonneg, hr4]
    refine hK _ (W.liveK [4] fun K2 hK2 => ?_); clear hK K; simp; refine hK2 _ ?_; clear hK2 K2
    refine W.ret ?_
    simp [go]

def addQ (a b : List Rat) : List Rat := cutQ ((List.range (max a.length b.length)).map fun k => nth a k + nth b k)
theorem qAdd_ret (a b : List Rat) (ha : QOK a) (hb : QOK b) : Ret env.P 65 [PP a, PP b] (PP (addQ a b)) := by
  have hal := ha.len; have hbl := hb.len
  refine ret_of_Wf (E := env) (fun _ => 0) [(0, PP a), (1, PP b)] Try.func65 rfl (by kernel_rfl) (by kernel_rfl) (show 2 ≤ 28 by decide) (by simp) ?_
  obtain ⟨M, hM⟩ : ∃ M, M = max a.length b.length := ⟨_, rfl⟩
  refine W.sreg (fun K hK => ?_); simp (disch := omega) [gA, wrap_i64, wrap_u64, wrap_u32, Int.tdiv_eq_ediv_of_nonneg, Int.tmod_eq_emod_of_nonneg]; refine hK _ (W.liveK [0, 1] fun K2 hK2 => ?_); clear hK K; simp; refine hK2 _ ?_; clear hK2 K2
  refine W.sreg (fun K hK => ?_); simp (disch := omega) [gA, wrap_i64, wrap_u64, wrap_u32, Int.tdiv_eq_ediv_of_nonneg, Int.tmod_eq_emod_of_nonneg]; refine hK _ (W.liveK [0, 1, 5] fun K2 hK2 => ?_); clear hK K; simp; refine hK2 _ ?_; clear hK2 K2
  refine W.nil 5 5 61 4 (by simp) (by decide) (fun K hK => ?_)
  refine hK _ (W.liveK [0, 1, 5] fun K2 hK2 => ?_); clear hK K; simp; refine hK2 _ ?_; clear hK2 K2
  refine W.seq ?_
  refine W.sreg (fun K hK => ?_); simp (disch := omega) [gA, wrap_i64, wrap_u64, wrap_u32, Int.tdiv_eq_ediv_of_nonneg, Int.tmod_eq_emod_of_nonneg]; refine hK _ (W.liveK [0, 1, 5, 6] fun K2 hK2 => ?_); clear hK K; simp; refine hK2 _ ?_; clear hK2 K2
  refine W.block ?_   -- block 0
  refine W.loopG (fun k σ => ∃ (i ver : Nat) (rows : Pm.Rows) (clk : Nat), σ = ⟨fa [(0, PP a), (1, PP b), (5, .own 5 ver 0 i), (6, .int .i64 i)], rows, clk⟩ ∧ rows 5 = some ⟨ver, 61, 4, emap re ((List.range i).map fun k => nth a k + nth b k)⟩ ∧ k = M - i ∧ i ≤ M) M ?_ ?_
  · exact ⟨_, .refl, 0, _, _, _, rfl, by simp [emap], by omega, by omega⟩
  rintro k _ ⟨i, ver, rows, clk, rfl, hr, hk, hi⟩
  have em : (if a.length < b.length then (b.length : Int) else (a.length : Int)) = M := by split <;> omega
  have em2 : (if b.length < a.length then (a.length : Int) else (b.length : Int)) = M := by split <;> omega
  refine W.seq ?_
  refine W.sreg (fun K hK => ?_); simp (disch := omega) [gA, wrap_i64, wrap_u64, wrap_u32, Int.tdiv_eq_ediv_of_nonneg, Int.tmod_eq_emod_of_nonneg, em, em2]
  refine hK _ (W.liveK [0, 1, 5, 6, 13] fun K2 hK2 => ?_); clear hK K; simp; refine hK2 _ ?_; clear hK2 K2
  refine W.cond ⟨_, rfl, fun h => ?_, fun h => ?_⟩   -- t13
  · have h : i < M := by simp at h; omega
    refine W.skip ?_
    refine W.seq ?_
    refine W.block ?_   -- block 1
    have h1 := qat_ret a i (by omega)
    have h2 := qat_ret b i (by omega)
    have h3 := AddR_ret _ _ (ha.nth i) (hb.nth i)
    have er : (List.range (i + 1)).map (fun k => nth a k + nth b k) = (List.range i).map (fun k => nth a k + nth b k) ++ [nth a i + nth b i] := by rw [List.range_succ]; simp
    have hcl : ((List.range i).map fun k => nth a k + nth b k).length = i := by simp
    generalize ((List.range i).map fun k => nth a k + nth b k) = acc at *
    generalize nth a i + nth b i = q at *
    generalize nth a i = u at *
    generalize nth b i = v at *
    refine W.reg (fun K hK => ?_)
    simp (disch := omega) [gA, wrap_i64, wrap_u64, wrap_u32, Int.tdiv_eq_ediv_of_nonneg, Int.tmod_eq_emod_of_nonneg]
    refine callR h1 ?_
    simp (disch := omega) [gA, wrap_i64, wrap_u64, wrap_u32, Int.tdiv_eq_ediv_of_nonneg, Int.tmod_eq_emod_of_nonneg]
    refine callR h2 ?_
    simp (disch := omega) [gA, wrap_i64, wrap_u64, wrap_u32, Int.tdiv_eq_ediv_of_nonneg, Int.tmod_eq_emod_of_nonneg]
    refine callR h3 ?_
    simp (disch := omega) [gA, wrap_i64, wrap_u64, wrap_u32, Int.tdiv_eq_ediv_of_nonneg, Int.tmod_eq_emod_of_nonneg, hr, hcl]
    refine hK _ (W.liveK [0, 1, 5, 6] fun K2 hK2 => ?_); clear hK K; simp; refine hK2 _ ?_; clear hK2 K2
    refine W.reg (fun K hK => ?_); simp (disch := omega) [gA, wrap_i64, wrap_u64, wrap_u32, Int.tdiv_eq_ediv_of_nonneg, Int.tmod_eq_emod_of_nonneg]
    refine hK _ ⟨M - (i + 1), _, Gh_fa _ [0, 1, 5, 6], by omega, i + 1, _, _, _, rfl, by rw [er]; simp, by omega, by omega⟩
  · have h : i = M := by simp at h; omega
    subst h
    refine W.exit ?_; simp only [pblk_exit, pblk_normal, pblk_ret, pseq_exit, pseq_normal, pseq_ret, pnor_exit, pnor_normal, pnor_ret, if_true, if_false, reduceIte, Nat.reduceEqDiff]
    have hcl : ((List.range i).map fun k => nth a k + nth b k).length = i := by simp
    rw [addQ, ← hM]
    generalize ((List.range i).map fun k => nth a k + nth b k) = acc at *
    have ez := take_all hcl
    refine W.sreg (fun K hK => ?_)
    simp (disch := omega) [gA, wrap_i64, wrap_u64, wrap_u32, Int.tdiv_eq_ediv_of_nonneg, Int.tmod_eq_emod_of_nonneg, hr, ez]
    refine callR (qcut_ret acc (by omega)) ?_
    simp (disch := omega) [gA, wrap_i64, wrap_u64, wrap_u32, Int.tdiv_eq_ediv_of_nonneg, Int.tmod_eq_emod_of_nonneg]
    refine hK _ (W.liveK [4] fun K2 hK2 => ?_); clear hK K; simp; refine hK2 _ ?_; clear hK2 K2
    refine W.ret ?_
    simp [go]

def scaleQ (a : List Rat) (c : Rat) : List Rat := cutQ (a.map fun x => x * c)
theorem qScale_ret (a : List Rat) (c : Rat) (ha : QOK a) (hc : ZR YY c) : Ret env.P 33 [PP a, RR c] (PP (scaleQ a c)) := by
  have hal := ha.len
  refine ret_of_Wf (E := env) (fun id => if id = 5 then 2 else 0) [(0, PP a), (1, RR c)] Try.func33 rfl (by kernel_rfl) (by kernel_rfl) (show 2 ≤ 24 by decide) (by simp) ?_
  refine W.sreg (fun K hK => ?_); simp (disch := omega) [gA, wrap_i64, wrap_u64, wrap_u32, Int.tdiv_eq_ediv_of_nonneg, Int.tmod_eq_emod_of_nonneg]; refine hK _ (W.liveK [0, 3] fun K2 hK2 => ?_); clear hK K; simp; refine hK2 _ ?_; clear hK2 K2
  refine W.sreg (fun K hK => ?_); simp (disch := omega) [gA, wrap_i64, wrap_u64, wrap_u32, Int.tdiv_eq_ediv_of_nonneg, Int.tmod_eq_emod_of_nonneg]; refine hK _ (W.liveK [0, 3, 5] fun K2 hK2 => ?_); clear hK K; simp; refine hK2 _ ?_; clear hK2 K2
  refine W.nil 5 5 61 4 (by simp) (by decide) (fun K hK => ?_)
  refine hK _ (W.liveK [0, 3, 5] fun K2 hK2 => ?_); clear hK K; simp; refine hK2 _ ?_; clear hK2 K2
  refine W.seq ?_
  refine W.sreg (fun K hK => ?_); simp (disch := omega) [gA, wrap_i64, wrap_u64, wrap_u32, Int.tdiv_eq_ediv_of_nonneg, Int.tmod_eq_emod_of_nonneg]; refine hK _ (W.liveK [0, 3, 5, 8, 9] fun K2 hK2 => ?_); clear hK K; simp; refine hK2 _ ?_; clear hK2 K2
  refine W.block ?_   -- block 0
  refine W.loopG (fun k σ => ∃ (i ver : Nat) (rows : Pm.Rows) (clk : Nat), σ = ⟨fa [(0, PP a), (3, .ptr 3 0 0 0), (5, .own 5 ver 0 i), (8, .int .i64 a.length), (9, .int .i64 i)], rows, clk⟩ ∧ rows 5 = some ⟨ver, 61, 4, emap re ((a.take i).map fun x => x * c)⟩ ∧ rows 3 = some ⟨0, 61, 4, [re c]⟩ ∧ k = a.length - i ∧ i ≤ a.length) a.length ?_ ?_
  · exact ⟨_, .refl, 0, _, _, _, rfl, by simp [emap], by simp, by omega, by omega⟩
  rintro k _ ⟨i, ver, rows, clk, rfl, hr, hr3, hk, hi⟩
  refine W.sreg (fun K hK => ?_); simp (disch := omega) [gA, wrap_i64, wrap_u64, wrap_u32, Int.tdiv_eq_ediv_of_nonneg, Int.tmod_eq_emod_of_nonneg]; refine hK _ (W.liveK [0, 3, 5, 8, 9, 10] fun K2 hK2 => ?_); clear hK K; simp; refine hK2 _ ?_; clear hK2 K2
  refine W.seq ?_
  refine W.cond ⟨_, rfl, fun h => ?_, fun h => ?_⟩   -- t10
  · simp at h
    refine W.skip ?_
    refine W.seq ?_
    refine W.block ?_   -- block 1
    refine W.sreg (fun K hK => ?_); simp (disch := omega) [gA, wrap_i64, wrap_u64, wrap_u32, Int.tdiv_eq_ediv_of_nonneg, Int.tmod_eq_emod_of_nonneg]; refine hK _ (W.liveK [0, 3, 5, 6, 8, 9] fun K2 hK2 => ?_); clear hK K; simp; refine hK2 _ ?_; clear hK2 K2
    have h3 := MulR_ret _ _ (ha.nth i) hc
    have er := map_take_succ (f := fun x => x * c) h
    have hcl : ((a.take i).map fun x => x * c).length = i := by simp; omega
    generalize (a.take i).map (fun x => x * c) = acc at *
    generalize hq : nth a i * c = q at *
    refine W.drw (fun K hK => ?_)
    rw [if_pos rfl, pregion_tail]
    simp (disch := omega) [gA, wrap_i64, wrap_u64, wrap_u32, Int.tdiv_eq_ediv_of_nonneg, Int.tmod_eq_emod_of_nonneg, hr3]
    refine callR h3 ?_
    simp (disch := omega) [gA, wrap_i64, wrap_u64, wrap_u32, Int.tdiv_eq_ediv_of_nonneg, Int.tmod_eq_emod_of_nonneg, hr, hr3, hcl]
    refine hK _ (W.liveK [0, 3, 5, 8, 9] fun K2 hK2 => ?_); clear hK K; simp; refine hK2 _ ?_; clear hK2 K2
    refine W.reg (fun K hK => ?_); simp (disch := omega) [gA, wrap_i64, wrap_u64, wrap_u32, Int.tdiv_eq_ediv_of_nonneg, Int.tmod_eq_emod_of_nonneg]
    refine hK _ ⟨a.length - (i + 1), _, Gh_fa _ [0, 3, 5, 8, 9], by omega, i + 1, _, _, _, rfl, by rw [er]; simp, by simp [hr3], by omega, by omega⟩
  · simp at h
    have hi' : i = a.length := by omega
    subst hi'
    refine W.exit ?_; simp only [pblk_exit, pblk_normal, pblk_ret, pseq_exit, pseq_normal, pseq_ret, pnor_exit, pnor_normal, pnor_ret, if_true, if_false, reduceIte, Nat.reduceEqDiff]
    rw [List.take_length] at hr
    rw [scaleQ]
    have hcl : (a.map fun x => x * c).length = a.length := by simp
    generalize a.map (fun x => x * c) = acc at *
    have ez := take_all hcl
    refine W.sreg (fun K hK => ?_)
    simp (disch := omega) [gA, wrap_i64, wrap_u64, wrap_u32, Int.tdiv_eq_ediv_of_nonneg, Int.tmod_eq_emod_of_nonneg, hr, ez]
    refine callR (qcut_ret acc (by omega)) ?_
    simp (disch := omega) [gA, wrap_i64, wrap_u64, wrap_u32, Int.tdiv_eq_ediv_of_nonneg, Int.tmod_eq_emod_of_nonneg]
    refine hK _ (W.liveK [4] fun K2 hK2 => ?_); clear hK K; simp; refine hK2 _ ?_; clear hK2 K2
    refine W.ret ?_
    simp [go]
theorem qNeg_ret (a : List Rat) (ha : QOK a) : Ret env.P 64 [PP a] (PP (scaleQ a (-1))) := by
  have h1 := OfR_ret (-1) 1 (by decide) (by decide)
  rw [qmk_one, show (((-1 : Int)) : Rat) = -1 by simp] at h1
  have h2 := qScale_ret a (-1) ha ⟨by show sz 2 (-1) ≤ YY; exact Nat.le_trans (sz_le (k := 1) (by decide) (by decide)) (by decide), by show sz 2 1 ≤ YY; exact Nat.le_trans (sz_le (k := 1) (by decide) (by decide)) (by decide)⟩
  generalize (-1 : Rat) = c at *
  refine ret_of_Wf (E := env) (fun _ => 0) [(0, PP a)] Try.func64 rfl (by kernel_rfl) (by kernel_rfl) (show 1 ≤ 6 by decide) (by simp) ?_
  refine W.sreg (fun K hK => ?_); simp (disch := omega) [gA, wrap_i64, wrap_u64, wrap_u32, Int.tdiv_eq_ediv_of_nonneg, Int.tmod_eq_emod_of_nonneg]; refine hK _ (W.liveK [0] fun K2 hK2 => ?_); clear hK K; simp; refine hK2 _ ?_; clear hK2 K2
  refine W.sreg (fun K hK => ?_)
  simp (disch := omega) [gA, wrap_i64, wrap_u64, wrap_u32, Int.tdiv_eq_ediv_of_nonneg, Int.tmod_eq_emod_of_nonneg]
  refine callR h1 ?_
  simp (disch := omega) [gA, wrap_i64, wrap_u64, wrap_u32, Int.tdiv_eq_ediv_of_nonneg, Int.tmod_eq_emod_of_nonneg]
  refine callR h2 ?_
  simp (disch := omega) [gA, wrap_i64, wrap_u64, wrap_u32, Int.tdiv_eq_ediv_of_nonneg, Int.tmod_eq_emod_of_nonneg]
  refine hK _ (W.liveK [2] fun K2 hK2 => ?_); clear hK K; simp; refine hK2 _ ?_; clear hK2 K2
  refine W.ret ?_
  simp [go]

theorem nth_qs (x : List Int) (k : Nat) : nth (qs x) k = ((nth x k : Int) : Rat) := nth_map (f := fun (c : Int) => (c : Rat)) rfl x k
theorem addQ_qs (x y : List Int) : addQ (qs x) (qs y) = qs (padd x y) := by
  rw [addQ, padd, ← cutQ_qs]
  congr 1
  simp only [qs, List.length_map, List.map_map]
  congr 1
  funext k
  simp only [Function.comp_apply]
  rw [show nth (List.map (fun (c : Int) => (c : Rat)) x) k = _ from nth_qs x k, show nth (List.map (fun (c : Int) => (c : Rat)) y) k = _ from nth_qs y k, Rat.intCast_add]
theorem scaleQ_qs (x : List Int) (c : Int) : scaleQ (qs x) (c : Rat) = qs (pscale x c) := by
  rw [scaleQ, pscale, ← cutQ_qs]
  congr 1
  simp [qs, Function.comp_def]
theorem qAddI_ret (x y : List Int) (hx : Bd 2 YY 1099511627775 x) (hy : Bd 2 YY 1099511627775 y) : Ret env.P 65 [PI x, PI y] (PI (padd x y)) := by
  have := qAdd_ret (qs x) (qs y) (.qs hx.sz (by have := hx.len; omega)) (.qs hy.sz (by have := hy.len; omega))
  rwa [addQ_qs, PP_qs, PP_qs, PP_qs] at this
theorem pscale_neg (x : List Int) : pscale x (-1) = pneg x := by simp [pscale, pneg]
theorem qNegI_ret (x : List Int) (hx : Bd 2 YY 1099511627775 x) : Ret env.P 64 [PI x] (PI (pneg x)) := by
  have := qNeg_ret (qs x) (.qs hx.sz (by have := hx.len; omega))
  rwa [show (-1 : Rat) = ((-1 : Int) : Rat) by simp, scaleQ_qs, pscale_neg, PP_qs, PP_qs] at this
theorem qScaleI_ret (x : List Int) (c : Int) (hx : Bd 2 YY 1099511627775 x) (hc : sz 2 c ≤ YY) : Ret env.P 33 [PI x, .ag (ri c)] (PI (pscale x c)) := by
  have := qScale_ret (qs x) c (.qs hx.sz (by have := hx.len; omega)) (ZR_int hc (by decide))
  rwa [scaleQ_qs, PP_qs, PP_qs, RR, re_int] at this

theorem qMulI_ret (x y : List Int) (s s' n n' : Nat) (hs : Bd 2 s n x) (hs' : Bd 2 s' n' y) (hB : s + s' + n + n' < YY) : Ret env.P 48 [PI x, PI y] (PI (pmul x y)) := by
  have hlx := hs.len; have hly := hs'.len
  have hB2 : s + s' + n + n' < 137438953472 := hB
  refine ret_of_Wf (E := env) (fun id => if id = 15 then 1 else 0) [(0, PI x), (1, PI y)] Try.func48 rfl (by kernel_rfl) (by kernel_rfl) (show 2 ≤ 69 by decide) (by simp) ?_
  refine W.sreg (fun K hK => ?_); simp (disch := omega) [gA, wrap_i64, wrap_u64, wrap_u32, Int.tdiv_eq_ediv_of_nonneg, Int.tmod_eq_emod_of_nonneg]; refine hK _ (W.liveK [0, 1] fun K2 hK2 => ?_); clear hK K; simp; refine hK2 _ ?_; clear hK2 K2
  refine W.seq ?_
  refine W.sregJ (fun σ => ∃ (b : Bool), σ = ⟨fa [(0, PI x), (1, PI y), (16, .bool b)], fun _ => none, 0⟩ ∧ (b = true ↔ x = [] ∨ y = [])) (fun K hK => ?_) ?_
  · simp
    have e1 : ((x.length : Int) == 0) = decide (x = []) := by
      cases x <;> simp <;> omega
    have e2 : ((y.length : Int) == 0) = decide (y = []) := by
      cases y <;> simp <;> omega
    rw [e1]
    by_cases h0 : x = []
    · have e3 : decide (x = []) = true := by simp [h0]
      rw [e3]
      simp
      exact hK _ _ (Gh_fa _ [0, 1, 16]) ⟨_, rfl, by simp [h0]⟩
    · have e3 : decide (x = []) = false := by simp [h0]
      rw [e3]
      simp
      exact hK _ _ (Gh_fa _ [0, 1, 16]) ⟨_, rfl, by rw [e2]; simp [h0]⟩
  rintro _ ⟨b, rfl, hb⟩
  refine W.cond ⟨_, rfl, fun h => ?_, fun h => ?_⟩   -- t16
  · have e : pmul x y = [] := by
      have h1 := hb.1 h
      refine Cn.ext (Cn.pmul _ _) Cn.nil fun t => ?_
      rw [V_pmul]
      rcases h1 with rfl | rfl <;> simp [V]
    refine W.sreg (fun K hK => ?_); simp (disch := omega) [gA, wrap_i64, wrap_u64, wrap_u32, Int.tdiv_eq_ediv_of_nonneg, Int.tmod_eq_emod_of_nonneg]; refine hK _ (W.liveK [4] fun K2 hK2 => ?_); clear hK K; simp; refine hK2 _ ?_; clear hK2 K2
    refine W.ret ?_
    simp [go, e]
    rfl
  · have h1 : ¬ (x = [] ∨ y = []) := fun h2 => by simp [hb.2 h2] at h
    have hx0 : 0 < x.length := List.length_pos_iff.2 fun h2 => h1 (.inl h2)
    have hy0 : 0 < y.length := List.length_pos_iff.2 fun h2 => h1 (.inr h2)
    clear h hb h1
    have e0 : ((x.length : Int) + (y.length : Int) - 1).toNat = x.length + y.length - 1 := by omega
    have e9 : ((x.length + y.length - 1 : Nat) : Int) = (x.length : Int) + (y.length : Int) - 1 := by omega
    refine W.skip ?_
    refine W.sreg (fun K hK => ?_); simp (disch := omega) [gA, wrap_i64, wrap_u64, wrap_u32, Int.tdiv_eq_ediv_of_nonneg, Int.tmod_eq_emod_of_nonneg, e0]
    refine hK _ (W.liveK [0, 1, 5] fun K2 hK2 => ?_); clear hK K; simp; refine hK2 _ ?_; clear hK2 K2
    refine W.seq ?_
    refine W.sreg (fun K hK => ?_); simp (disch := omega) [gA, wrap_i64, wrap_u64, wrap_u32, Int.tdiv_eq_ediv_of_nonneg, Int.tmod_eq_emod_of_nonneg]; refine hK _ (W.liveK [0, 1, 5, 25, 26] fun K2 hK2 => ?_); clear hK K; simp; refine hK2 _ ?_; clear hK2 K2
    refine W.block ?_   -- block 0
    refine W.loopG (fun k σ => ∃ (i ver : Nat) (els : List (List PV)) (rows : Pm.Rows) (clk : Nat), σ = ⟨fa [(0, PI x), (1, PI y), (5, .own 23 ver 0 (x.length + y.length - 1)), (25, .int .i64 ((x.length + y.length - 1 : Nat) : Int)), (26, .int .i64 i)], rows, clk⟩ ∧
      rows 23 = some ⟨ver, 61, 4, els⟩ ∧ els.length = x.length + y.length - 1 ∧ (∀ e ∈ els, e.length = 4) ∧ els.take i = emap ri (List.replicate i 0) ∧ k = x.length + y.length - 1 - i ∧ i ≤ x.length + y.length - 1) (x.length + y.length - 1) ?_ ?_
    · exact ⟨_, Gh.fr [(0, PI x), (1, PI y), (5, .own 23 0 0 (x.length + y.length - 1)), (25, .int .i64 ((x.length + y.length - 1 : Nat) : Int)), (26, .int .i64 (0 : Nat))] (by simp), 0, _, List.replicate (x.length + y.length - 1) [.nil, .bool false, .nil, .bool false], _, _, rfl, by simp [e0], by simp, by simp, by simp [emap], by omega, by omega⟩
    rintro k _ ⟨i, ver, els, rows, clk, rfl, hr, hel, he4, hpre, hk, hi⟩
    have hla : lenAll 4 els = True := by simp only [lenAll, eq_iff_iff, iff_true]; exact he4
    refine W.sreg (fun K hK => ?_); simp (disch := omega) [gA, wrap_i64, wrap_u64, wrap_u32, Int.tdiv_eq_ediv_of_nonneg, Int.tmod_eq_emod_of_nonneg]; refine hK _ (W.liveK [0, 1, 5, 25, 26, 27] fun K2 hK2 => ?_); clear hK K; simp; refine hK2 _ ?_; clear hK2 K2
    refine W.seq ?_
    refine W.cond ⟨_, rfl, fun h => ?_, fun h => ?_⟩   -- t27
    · have h : i < x.length + y.length - 1 := by simp at h; omega
      refine W.skip ?_
      refine W.seq ?_
      refine W.block ?_   -- block 1
      refine W.sreg (fun K hK => ?_); simp (disch := omega) [gA, wrap_i64, wrap_u64, wrap_u32, Int.tdiv_eq_ediv_of_nonneg, Int.tmod_eq_emod_of_nonneg]; refine hK _ (W.liveK [0, 1, 5, 6, 25, 26] fun K2 hK2 => ?_); clear hK K; simp; refine hK2 _ ?_; clear hK2 K2
      refine W.reg (fun K hK => ?_)
      simp (disch := omega) [gA, wrap_i64, wrap_u64, wrap_u32, Int.tdiv_eq_ediv_of_nonneg, Int.tmod_eq_emod_of_nonneg]
      refine callR zeroI_ret ?_
      have hil : i < els.length := by omega
      have hE : elLen els i 4 = True := by
        simp only [eq_iff_iff, iff_true]
        exact ⟨els[i], List.getElem?_eq_getElem hil, by rw [he4 _ (List.getElem_mem hil)]; omega⟩
      have hS : setEl els i 0 [sls i64e (dig DD 0), .bool false, sls i64e (dig DD 1), .bool false] = els.set i (ri 0) := by
        have h4 := he4 _ (List.getElem_mem hil)
        rw [setEl, List.getElem?_eq_getElem hil]
        simp [List.drop_of_length_le, h4]
      simp (disch := omega) [gA, wrap_i64, wrap_u64, wrap_u32, Int.tdiv_eq_ediv_of_nonneg, Int.tmod_eq_emod_of_nonneg, hr, hE, hS]
      refine hK _ (W.liveK [0, 1, 5, 25, 26] fun K2 hK2 => ?_); clear hK K; simp; refine hK2 _ ?_; clear hK2 K2
      refine W.reg (fun K hK => ?_); simp (disch := omega) [gA, wrap_i64, wrap_u64, wrap_u32, Int.tdiv_eq_ediv_of_nonneg, Int.tmod_eq_emod_of_nonneg]
      refine hK _ ⟨x.length + y.length - 1 - (i + 1), _, Gh_fa _ [0, 1, 5, 25, 26], by omega, i + 1, ver, els.set i (ri 0), _, _, rfl, by simp, by simpa using hel, fun e he => ?_, ?_, by omega, by omega⟩
      · rcases List.mem_or_eq_of_mem_set he with h1 | h1
        · exact he4 e h1
        · rw [h1]; rfl
      · rw [set_take hpre (by omega), List.replicate_succ']
        simp [emap]
    · have h : i = x.length + y.length - 1 := by simp at h; omega
      subst h
      have hz0 : els = emap ri (List.replicate (x.length + y.length - 1) 0) := by rw [← hpre, take_all hel]
      subst hz0
      clear hpre he4 hel hla hk hi
      refine W.exit ?_; simp only [pblk_exit, pblk_normal, pblk_ret, pseq_exit, pseq_normal, pseq_ret, pnor_exit, pnor_normal, pnor_ret, if_true, if_false, reduceIte, Nat.reduceEqDiff]
      refine W.seq ?_
      refine W.sreg (fun K hK => ?_); simp (disch := omega) [gA, wrap_i64, wrap_u64, wrap_u32, Int.tdiv_eq_ediv_of_nonneg, Int.tmod_eq_emod_of_nonneg]; refine hK _ (W.liveK [0, 1, 5, 35, 36] fun K2 hK2 => ?_); clear hK K; simp; refine hK2 _ ?_; clear hK2 K2
      refine W.block ?_   -- block 2
      refine W.loopG (fun k σ => ∃ (i : Nat) (z : List Int) (ver : Nat) (rows : Pm.Rows) (clk : Nat), σ = ⟨fa [(0, PI x), (1, PI y), (5, .own 23 ver 0 (x.length + y.length - 1)), (35, .int .i64 x.length), (36, .int .i64 i)], rows, clk⟩ ∧
        rows 23 = some ⟨ver, 61, 4, emap ri z⟩ ∧ k = x.length - i ∧ i ≤ x.length ∧ z.length = x.length + y.length - 1 ∧ (∀ j, sz 2 (nth z j) ≤ s + s' + i) ∧
        ∀ t, V t z = V t (x.take i) * V t y) x.length ?_ ?_
      · refine ⟨_, .refl, 0, List.replicate (x.length + y.length - 1) 0, _, _, _, rfl, hr, by omega, by omega, by simp, fun j => ?_, fun t => by simp [V, V_rep]⟩
        have : Bd 2 0 (x.length + y.length - 1) (List.replicate (x.length + y.length - 1) 0) := ⟨by simp, fun c hc => by rw [(List.mem_replicate.1 hc).2, sz_zero]; omega⟩
        have := this.nth j
        omega
      clear hr rows clk
      rintro k _ ⟨i, z, ver, rows, clk, rfl, hr, hk, hi, hz, hzs, hV⟩
      refine W.sreg (fun K hK => ?_); simp (disch := omega) [gA, wrap_i64, wrap_u64, wrap_u32, Int.tdiv_eq_ediv_of_nonneg, Int.tmod_eq_emod_of_nonneg]; refine hK _ (W.liveK [0, 1, 5, 35, 36, 37] fun K2 hK2 => ?_); clear hK K; simp; refine hK2 _ ?_; clear hK2 K2
      refine W.seq ?_
      refine W.cond ⟨_, rfl, fun h => ?_, fun h => ?_⟩   -- t37
      · simp at h
        refine W.skip ?_
        refine W.seq ?_
        refine W.block ?_   -- block 3
        refine W.sreg (fun K hK => ?_); simp (disch := omega) [gA, wrap_i64, wrap_u64, wrap_u32, Int.tdiv_eq_ediv_of_nonneg, Int.tmod_eq_emod_of_nonneg]; refine hK _ (W.liveK [0, 1, 5, 7, 35, 36] fun K2 hK2 => ?_); clear hK K; simp; refine hK2 _ ?_; clear hK2 K2
        refine W.sreg (fun K hK => ?_); simp (disch := omega) [gA, wrap_i64, wrap_u64, wrap_u32, Int.tdiv_eq_ediv_of_nonneg, Int.tmod_eq_emod_of_nonneg]; refine hK _ (W.liveK [0, 1, 5, 7, 35, 36, 40, 41] fun K2 hK2 => ?_); clear hK K; simp; refine hK2 _ ?_; clear hK2 K2
        refine W.block ?_   -- block 4
        refine W.loopG (fun m σ => ∃ (k : Nat) (z : List Int) (ver : Nat) (rows : Pm.Rows) (clk : Nat), σ = ⟨fa [(0, PI x), (1, PI y), (5, .own 23 ver 0 (x.length + y.length - 1)), (7, .int .i64 i), (35, .int .i64 x.length), (36, .int .i64 i), (40, .int .i64 y.length), (41, .int .i64 k)], rows, clk⟩ ∧
          rows 23 = some ⟨ver, 61, 4, emap ri z⟩ ∧ m = y.length - k ∧ k ≤ y.length ∧ z.length = x.length + y.length - 1 ∧ (∀ j, sz 2 (nth z j) ≤ s + s' + i + 1) ∧ (∀ j, i + k ≤ j → sz 2 (nth z j) ≤ s + s' + i) ∧
          ∀ t, V t z = V t (x.take i) * V t y + t ^ i * nth x i * V t (y.take k)) y.length ?_ ?_
        · refine ⟨_, .refl, 0, z, ver, _, _, rfl, by simpa using hr, by omega, by omega, hz, fun j => by have := hzs j; omega, fun j _ => hzs j, fun t => by simp [V, hV]⟩
        clear hV hzs hz hr z ver rows clk
        rintro m _ ⟨k, z, ver, rows, clk, rfl, hr, hm, hky, hz, hzs, hzs2, hV⟩
        refine W.sreg (fun K hK => ?_); simp (disch := omega) [gA, wrap_i64, wrap_u64, wrap_u32, Int.tdiv_eq_ediv_of_nonneg, Int.tmod_eq_emod_of_nonneg]; refine hK _ (W.liveK [0, 1, 5, 7, 35, 36, 40, 41, 42] fun K2 hK2 => ?_); clear hK K; simp; refine hK2 _ ?_; clear hK2 K2
        refine W.seq ?_
        refine W.cond ⟨_, rfl, fun h2 => ?_, fun h2 => ?_⟩   -- t42
        · simp at h2
          refine W.skip ?_
          refine W.seq ?_
          refine W.block ?_   -- block 5
          refine W.sreg (fun K hK => ?_); simp (disch := omega) [gA, wrap_i64, wrap_u64, wrap_u32, Int.tdiv_eq_ediv_of_nonneg, Int.tmod_eq_emod_of_nonneg]; refine hK _ (W.liveK [0, 1, 5, 7, 8, 35, 36, 40, 41] fun K2 hK2 => ?_); clear hK K; simp; refine hK2 _ ?_; clear hK2 K2
          have e1 : ((i : Int) + (k : Int)).toNat = i + k := by omega
          have hm1 : sz 2 (nth x i * nth y k) ≤ s + s' + i := Nat.le_trans (sz_mul (by decide) (hs.nth i) (hs'.nth k)) (by omega)
          have hm2 := sz_add (b := 2) (by decide) (hzs2 (i + k) (Nat.le_refl _)) hm1
          have hlz : i + k < z.length := by omega
          have c1 := MulRI_ret (nth x i) (nth y k) (Nat.le_trans (hs.nth i) (by show _ ≤ 137438953472; omega)) (Nat.le_trans (hs'.nth k) (by show _ ≤ 137438953472; omega))
          have c2 := AddRI_ret (nth z (i + k)) (nth x i * nth y k) (Nat.le_trans (hzs2 (i + k) (Nat.le_refl _)) (by show _ ≤ 137438953472; omega)) (Nat.le_trans hm1 (by show _ ≤ 137438953472; omega))
          have hV2 := fun t => V_set (b := t) (x := nth z (i + k) + nth x i * nth y k) hlz
          generalize hu : nth z (i + k) + nth x i * nth y k = u at *
          generalize hpq : nth x i * nth y k = pq at *
          refine W.drw (fun K hK => ?_)
          rw [if_pos rfl, pregion_tail]
          simp (disch := omega) [gA, wrap_i64, wrap_u64, wrap_u32, Int.tdiv_eq_ediv_of_nonneg, Int.tmod_eq_emod_of_nonneg, hr, e1]
          refine callR c1 ?_
          simp (disch := omega) [gA, wrap_i64, wrap_u64, wrap_u32, Int.tdiv_eq_ediv_of_nonneg, Int.tmod_eq_emod_of_nonneg, hr, e1]
          refine callR c2 ?_
          simp (disch := omega) [gA, wrap_i64, wrap_u64, wrap_u32, Int.tdiv_eq_ediv_of_nonneg, Int.tmod_eq_emod_of_nonneg, hr, e1]
          refine hK _ (W.liveK [0, 1, 5, 7, 35, 36, 40, 41] fun K2 hK2 => ?_); clear hK K; simp; refine hK2 _ ?_; clear hK2 K2
          refine W.reg (fun K hK => ?_); simp (disch := omega) [gA, wrap_i64, wrap_u64, wrap_u32, Int.tdiv_eq_ediv_of_nonneg, Int.tmod_eq_emod_of_nonneg]
          refine hK _ ⟨y.length - (k + 1), _, Gh_fa _ [0, 1, 5, 7, 35, 36, 40, 41], by omega, k + 1, z.set (i + k) u, ver, _, _, rfl, by simp, by omega, by omega, by simpa using hz, fun j => ?_, fun j hj => ?_, fun t => ?_⟩
          · by_cases hj : i + k = j
            · subst hj; rw [nth_set_self hlz]; exact hm2
            · rw [nth_set_ne hj]; exact hzs j
          · rw [nth_set_ne (by omega)]; exact hzs2 j (by omega)
          · rw [hV2, V_take_succ h2, hV, Int.pow_add, ← hu, ← hpq]; clear hV hV2; grind
        · simp at h2
          have hk' : k = y.length := by omega
          subst hk'
          refine W.exit ?_; simp only [pblk_exit, pblk_normal, pblk_ret, pseq_exit, pseq_normal, pseq_ret, pnor_exit, pnor_normal, pnor_ret, if_true, if_false, reduceIte, Nat.reduceEqDiff]
          refine W.reg (fun K hK => ?_); simp (disch := omega) [gA, wrap_i64, wrap_u64, wrap_u32, Int.tdiv_eq_ediv_of_nonneg, Int.tmod_eq_emod_of_nonneg]
          refine hK _ ⟨x.length - (i + 1), _, Gh_fa _ [0, 1, 5, 35, 36], by omega, i + 1, z, ver, _, _, rfl, hr, by omega, by omega, hz, fun j => by have := hzs j; omega, fun t => ?_⟩
          rw [hV, V_take_all (Nat.le_refl _), V_take_succ h]; grind
      · simp at h
        have hi' : i = x.length := by omega
        subst hi'
        have hz2 := take_all hz
        refine W.exit ?_; simp only [pblk_exit, pblk_normal, pblk_ret, pseq_exit, pseq_normal, pseq_ret, pnor_exit, pnor_normal, pnor_ret, if_true, if_false, reduceIte, Nat.reduceEqDiff]
        refine W.sreg (fun K hK => ?_)
        simp (disch := omega) [gA, wrap_i64, wrap_u64, wrap_u32, Int.tdiv_eq_ediv_of_nonneg, Int.tmod_eq_emod_of_nonneg, hr, hz2]
        refine callR (qcutI_ret z (by omega)) ?_
        simp (disch := omega) [gA, wrap_i64, wrap_u64, wrap_u32, Int.tdiv_eq_ediv_of_nonneg, Int.tmod_eq_emod_of_nonneg]
        refine hK _ (W.liveK [4] fun K2 hK2 => ?_); clear hK K; simp; refine hK2 _ ?_; clear hK2 K2
        refine W.ret ?_
        have e : cutR z = pmul x y := by
          refine Cn.ext (Cn.cut _) (Cn.pmul _ _) fun t => ?_
          rw [V_cutR, hV, V_pmul, V_take_all (Nat.le_refl _)]
        simp [go, e]
end Go.Proofs.Ytjnkpfknmncdmaa
