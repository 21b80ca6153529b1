import Derived.Test.YtjnkpfknmncdmaaLf
import Derived.Test.YtjnkpfknmncdmaaMd
set_option linter.unusedSimpArgs false
set_option linter.unusedVariables false
namespace Go.Proofs.Ytjnkpfknmncdmaa
open Go Pm

/-- A coefficient in any form. -/
def ge (p : Bool × List Int) : List PV := [.bool p.1, us p.2]
/-- A coefficient, normal. -/
def ie (x : Int) : List PV := [.bool (decide (x < 0)), us (dig LL x.natAbs)]
@[simp] theorem ge_def {p : Bool × List Int} : ge p = [.bool p.1, us p.2] := rfl
@[simp] theorem ie_def {x : Int} : ie x = [.bool (decide (x < 0)), us (dig LL x.natAbs)] := rfl
@[simp] theorem lenAll_ge {l : List (Bool × List Int)} : lenAll 2 (emap ge l) = True := lenAll_emap fun _ => rfl
@[simp] theorem lenAll_ie {l : List Int} : lenAll 2 (emap ie l) = True := lenAll_emap fun _ => rfl
@[simp] theorem rowPers_ie {v e n : Nat} {l : List Int} : rowPers (some ⟨v, e, n, emap ie l⟩) = True := rowPers_emap fun _ => rfl
@[simp] theorem rowPers_ge {v e n : Nat} {l : List (Bool × List Int)} : rowPers (some ⟨v, e, n, emap ge l⟩) = True := rowPers_emap fun _ => rfl
theorem setEl_g {α : Type} {g : α → List PV} {n : Nat} (hg : Enc g n) {l : List α} {i : Nat} {x : α} : setEl (emap g l) i 0 (g x) = emap g (l.set i x) := by
  simp only [setEl, emap, List.map_set]
  by_cases h : i < l.length
  · have : (g l[i]).length = n := hg _
    have h2 : (g x).length = n := hg _
    simp [h, List.drop_of_length_le, this, h2]
  · rw [List.set_eq_of_length_le (by simp; omega), List.set_eq_of_length_le (by simp; omega)]
@[simp] theorem setEl_ie {l : List Int} {i : Nat} {x : Int} : setEl (emap ie l) i 0 [.bool (decide (x < 0)), us (dig LL x.natAbs)] = emap ie (l.set i x) := setEl_g (n := 2) (fun _ => rfl)
@[simp] theorem emap_append {α : Type} {g : α → List PV} {l k : List α} : emap g l ++ emap g k = emap g (l ++ k) := by simp [emap]
abbrev Po (l : List Int) : PV := sls ie l
abbrev Pg (l : List (Bool × List Int)) : PV := sls ge l
def gv (p : Bool × List Int) : Int := iv p.1 p.2
/-- The normal form of a coefficient. -/
def rw' (x : Int) : Bool × List Int := (decide (x < 0), dig LL x.natAbs)
theorem Po_eq (l : List Int) : Po l = Pg (l.map rw') := by simp [sls, emap, rw']
theorem gv_rw (x : Int) : gv (rw' x) = x := by
  simp only [gv, rw', iv, V_dig hLL]
  have := V_dig hLL x.natAbs
  simp only [show ((LL : Nat) : Int) = 4294967296 from rfl] at this
  rw [this]
  by_cases h : x < 0 <;> simp [h] <;> omega
theorem map_gv_rw (l : List Int) : (l.map rw').map gv = l := by simp [Function.comp_def, gv_rw]
theorem row_ie (k : Nat) : All2 (All2 fun q p => Wk p q) (emap ie (List.replicate k 0)) (List.replicate k [.bool false, .nil]) := by
  have : emap ie (List.replicate k 0) = List.replicate k (ie 0) := by simp [emap]
  rw [this]
  exact All2_rep ⟨.inl rfl, .inr ⟨rfl, rfl⟩, trivial⟩ k

/-- The sizes that are let. -/
structure POK (l : List (Bool × List Int)) : Prop where
  ok : ∀ p ∈ l, LOK p.2
  len : l.length < 1099511627776
theorem POK.nth {l : List (Bool × List Int)} (h : POK l) {i : Nat} (hi : i < l.length) : LOK (nth l i).2 := h.ok _ (nth_mem hi)
def Sz (x : Int) : Prop := sz LL x < 1099511627776
theorem Sz.lok {x : Int} (h : Sz x) : LOK (dig LL x.natAbs) := ⟨Lim_dig hLL _, h⟩
theorem POK.of_norm {l : List Int} (h : ∀ x ∈ l, Sz x) (hl : l.length < 1099511627776) : POK (l.map rw') := ⟨fun p hp => by
  simp only [List.mem_map] at hp
  obtain ⟨x, hx, rfl⟩ := hp
  exact (h x hx).lok, by simpa using hl⟩

theorem Zero_ret (n : Bool) (l : List Int) : Ret env.P 47 [IV n l] (.bool (decide (l.length = 0))) := by
  refine ret_of_Wf (E := env) (fun _ => 0) [(0, IV n l)] Try.func47 rfl (by kernel_rfl) (by kernel_rfl) (show 1 ≤ 7 by decide) (by simp) ?_
  refine W.sreg (fun K hK => ?_)
  simp (disch := omega) [gA, wrap_i64, wrap_u64, wrap_u32, Int.tdiv_eq_ediv_of_nonneg, Int.tmod_eq_emod_of_nonneg]
  refine hK _ (W.liveK [1] fun K2 hK2 => ?_); clear hK K; simp; refine hK2 _ ?_; clear hK2 K2
  refine W.sreg (fun K hK => ?_)
  simp (disch := omega) [gA, wrap_i64, wrap_u64, wrap_u32, Int.tdiv_eq_ediv_of_nonneg, Int.tmod_eq_emod_of_nonneg]
  refine hK _ (W.liveK [2] fun K2 hK2 => ?_); clear hK K; simp; refine hK2 _ ?_; clear hK2 K2
  refine W.ret ?_
  simp [go]
  cases l <;> simp <;> omega

theorem pcut_ret (l : List Int) (hl : l.length < 17592186044416) : Ret env.P 68 [Po l] (Po (cutR l)) := by
  refine ret_of_Wf (E := env) (fun _ => 0) [(0, Po l)] Try.func68 rfl (by kernel_rfl) (by kernel_rfl) (show 1 ≤ 21 by decide) (by simp) ?_
  refine W.sreg (fun K hK => ?_)
  simp (disch := omega) [gA, wrap_i64, wrap_u64, wrap_u32, Int.tdiv_eq_ediv_of_nonneg, Int.tmod_eq_emod_of_nonneg]
  refine hK _ (W.liveK [0] fun K2 hK2 => ?_); clear hK K; simp; refine hK2 _ ?_; clear hK2 K2
  refine W.sreg (fun K hK => ?_)
  simp (disch := omega) [gA, wrap_i64, wrap_u64, wrap_u32, Int.tdiv_eq_ediv_of_nonneg, Int.tmod_eq_emod_of_nonneg]
  refine hK _ (W.liveK [0, 3] fun K2 hK2 => ?_); clear hK K; simp; refine hK2 _ ?_; clear hK2 K2
  refine W.seq (W.block ?_)
  refine W.loopG (fun k σ => ∃ (rows : Pm.Rows) (clk : Nat), σ = ⟨fa [(0, Po l), (3, .int .i64 (k : Int))], rows, clk⟩ ∧ k ≤ l.length ∧ cutR l = cutR (l.take k)) l.length ?_ ?_
  · exact ⟨_, .refl, _, _, rfl, by omega, by simp⟩
  rintro k _ ⟨rows, clk, rfl, hk, hc⟩
  refine W.seq ?_
  refine W.sregJ (fun σ => ∃ (b : Bool), σ = ⟨fa [(0, Po l), (3, .int .i64 (k : Int)), (15, .bool b)], rows, clk⟩ ∧ (b = true ↔ 0 < k ∧ nth l (k - 1) = 0)) (fun K hK => ?_) ?_
  · simp
    by_cases h0 : 0 < k
    · simp (disch := omega) [gA, wrap_i64, wrap_u64, wrap_u32, Int.tdiv_eq_ediv_of_nonneg, Int.tmod_eq_emod_of_nonneg, h0]
      refine callR (Zero_ret _ (dig LL (nth l (k - 1)).natAbs)) ?_
      simp (disch := omega) [gA, wrap_i64, wrap_u64, wrap_u32, Int.tdiv_eq_ediv_of_nonneg, Int.tmod_eq_emod_of_nonneg, h0]
      have e : (dig LL (nth l (k - 1)).natAbs).length = 0 ↔ nth l (k - 1) = 0 := by
        rw [List.length_eq_zero_iff, dig_eq_nil hLL]; omega
      refine hK _ _ (Gh_fa _ [0, 3, 15]) ⟨_, rfl, ?_⟩
      simp [h0, ← e]
    · simp (disch := omega) [gA, wrap_i64, wrap_u64, wrap_u32, Int.tdiv_eq_ediv_of_nonneg, Int.tmod_eq_emod_of_nonneg, h0]
      exact hK _ _ (Gh_fa _ [0, 3, 15]) ⟨_, rfl, by simp [h0]⟩
  rintro _ ⟨b, rfl, hb⟩
  refine W.cond ⟨_, rfl, fun h => ?_, fun h => ?_⟩
  · obtain ⟨h0, h1⟩ := hb.1 h
    refine W.skip (W.block ?_)
    refine W.reg (fun K hK => ?_)
    simp (disch := omega) [gA, wrap_i64, wrap_u64, wrap_u32, Int.tdiv_eq_ediv_of_nonneg, Int.tmod_eq_emod_of_nonneg]
    refine hK _ ⟨k - 1, _, Gh.fr [(0, _), (3, .int .i64 ((k - 1 : Nat) : Int))] (by simp; omega), by omega, _, _, rfl, by omega, ?_⟩
    rw [hc, show k = (k - 1) + 1 by omega, take_succ_nth (by omega), h1, cutR_zero]
    simp
  · have h2 : cutR l = l.take k := by
      rw [hc]
      by_cases h0 : 0 < k
      · have h1 : nth l (k - 1) ≠ 0 := fun h1 => by simp [hb.2 ⟨h0, h1⟩] at h
        rw [show k = (k - 1) + 1 by omega, take_succ_nth (by omega)]
        exact cutR_ne h1 _
      · have : k = 0 := by omega
        subst this; simp [cutR]
    refine W.exit ?_
    simp only [pblk_exit, pblk_normal, pblk_ret, pseq_exit, pseq_normal, pseq_ret, pnor_exit, pnor_normal, pnor_ret, if_true, if_false, reduceIte, Nat.reduceEqDiff]
    refine W.sreg (fun K hK => ?_)
    simp (disch := omega) [gA, wrap_i64, wrap_u64, wrap_u32, Int.tdiv_eq_ediv_of_nonneg, Int.tmod_eq_emod_of_nonneg]
    refine hK _ (W.liveK [2] fun K2 hK2 => ?_); clear hK K; simp; refine hK2 _ ?_; clear hK2 K2
    refine W.ret ?_
    simp [go, h2]

theorem pNorm_ret (l : List (Bool × List Int)) (h : POK l) : Ret env.P 23 [Pg l] (Po (cutR (l.map gv))) := by
  refine ret_of_Wf (E := env) (fun _ => 0) [(0, Pg l)] Try.func23 rfl (by kernel_rfl) (by kernel_rfl) (show 1 ≤ 24 by decide) (by simp) ?_
  have hl := h.len
  refine W.sreg (fun K hK => ?_)
  simp (disch := omega) [gA, wrap_i64, wrap_u64, wrap_u32, Int.tdiv_eq_ediv_of_nonneg, Int.tmod_eq_emod_of_nonneg]
  refine hK _ (W.liveK [0] fun K2 hK2 => ?_); clear hK K; simp; refine hK2 _ ?_; clear hK2 K2
  refine W.sreg (fun K hK => ?_)
  simp (disch := omega) [gA, wrap_i64, wrap_u64, wrap_u32, Int.tdiv_eq_ediv_of_nonneg, Int.tmod_eq_emod_of_nonneg]
  refine hK _ (W.liveK [0, 3] fun K2 hK2 => ?_); clear hK K; simp; refine hK2 _ ?_; clear hK2 K2
  refine W.row (id := 8) (emap ie (List.replicate l.length 0)) (by simp; exact ⟨rfl, rfl, rfl⟩) (row_ie _) ?_
  refine W.seq ?_
  refine W.sreg (fun K hK => ?_)
  simp (disch := omega) [gA, wrap_i64, wrap_u64, wrap_u32, Int.tdiv_eq_ediv_of_nonneg, Int.tmod_eq_emod_of_nonneg]
  refine hK _ (W.liveK [3, 9, 10, 11] fun K2 hK2 => ?_); clear hK K; simp; refine hK2 _ ?_; clear hK2 K2
  refine W.block ?_   -- block 0
  refine W.loopG (fun k σ => ∃ (i : Nat) (z : List Int) (ver : Nat) (rows : Pm.Rows) (clk : Nat), σ = ⟨fa [(3, .own 8 ver 0 l.length), (9, Pg l), (10, .int .i64 l.length), (11, .int .i64 i)], rows, clk⟩ ∧
    rows 8 = some ⟨ver, 68, 2, emap ie z⟩ ∧ k = l.length - i ∧ i ≤ l.length ∧ z.length = l.length ∧ z.take i = (l.take i).map gv) l.length ?_ ?_
  · exact ⟨_, .refl, 0, List.replicate l.length 0, _, _, _, rfl, by simp, by omega, by omega, by simp, by simp⟩
  rintro k _ ⟨i, z, ver, rows, clk, rfl, hr, hk, hi, hz, hv⟩
  refine W.sreg (fun K hK => ?_)
  simp (disch := omega) [gA, wrap_i64, wrap_u64, wrap_u32, Int.tdiv_eq_ediv_of_nonneg, Int.tmod_eq_emod_of_nonneg]
  refine hK _ (W.liveK [3, 9, 10, 11, 12] fun K2 hK2 => ?_); clear hK K; simp; refine hK2 _ ?_; clear hK2 K2
  refine W.seq ?_
  refine W.cond ⟨_, rfl, fun hlt => ?_, fun hlt => ?_⟩   -- t12
  · simp at hlt
    refine W.skip ?_
    refine W.seq ?_
    refine W.block ?_   -- block 1
    refine W.sreg (fun K hK => ?_)
    simp (disch := omega) [gA, wrap_i64, wrap_u64, wrap_u32, Int.tdiv_eq_ediv_of_nonneg, Int.tmod_eq_emod_of_nonneg, hr]
    refine hK _ (W.liveK [3, 4, 5, 9, 10, 11] fun K2 hK2 => ?_); clear hK K; simp; refine hK2 _ ?_; clear hK2 K2
    refine W.reg (fun K hK => ?_)
    simp (disch := omega) [gA, wrap_i64, wrap_u64, wrap_u32, Int.tdiv_eq_ediv_of_nonneg, Int.tmod_eq_emod_of_nonneg, hr]
    refine callR (wNorm_ret _ _ (h.nth hlt)) ?_
    simp (disch := omega) [gA, wrap_i64, wrap_u64, wrap_u32, Int.tdiv_eq_ediv_of_nonneg, Int.tmod_eq_emod_of_nonneg, hr]
    refine hK _ (W.liveK [3, 9, 10, 11] fun K2 hK2 => ?_); clear hK K; simp; refine hK2 _ ?_; clear hK2 K2
    refine W.reg (fun K hK => ?_)
    simp (disch := omega) [gA, wrap_i64, wrap_u64, wrap_u32, Int.tdiv_eq_ediv_of_nonneg, Int.tmod_eq_emod_of_nonneg]
    refine hK _ ⟨l.length - (i + 1), _, Gh_fa _ [3, 9, 10, 11], by omega, i + 1, z.set i (iv (nth l i).1 (nth l i).2), ver, _, _, rfl, by simp, by omega, by omega, by simpa using hz, ?_⟩
    rw [set_take hv (by omega), map_take_succ hlt]; rfl
  · simp at hlt
    have hi' : i = l.length := by omega
    subst hi'
    refine W.exit ?_; simp only [pblk_exit, pblk_normal, pblk_ret, pseq_exit, pseq_normal, pseq_ret, pnor_exit, pnor_normal, pnor_ret, if_true, if_false, reduceIte, Nat.reduceEqDiff]
    rw [take_all hz] at hv
    have hz2 := take_all hz
    refine W.sreg (fun K hK => ?_)
    simp (disch := omega) [gA, wrap_i64, wrap_u64, wrap_u32, Int.tdiv_eq_ediv_of_nonneg, Int.tmod_eq_emod_of_nonneg, hr, hz2]
    refine callR (pcut_ret z (by omega)) ?_
    simp (disch := omega) [gA, wrap_i64, wrap_u64, wrap_u32, Int.tdiv_eq_ediv_of_nonneg, Int.tmod_eq_emod_of_nonneg]
    refine hK _ (W.liveK [2] fun K2 hK2 => ?_); clear hK K; simp; refine hK2 _ ?_; clear hK2 K2
    refine W.ret ?_
    simp at hv
    simp [go, hv]

theorem at_ret (l : List (Bool × List Int)) (k : Nat) (hl : l.length < 1099511627776) (hk : k < 9223372036854775808) : Ret env.P 73 [Pg l, .int .i64 k] (.ag (ge (nth l k))) := by
  refine ret_of_Wf (E := env) (fun _ => 0) [(0, Pg l), (1, .int .i64 k)] Try.func73 rfl (by kernel_rfl) (by kernel_rfl) (show 2 ≤ 14 by decide) (by simp) ?_
  refine W.sreg (fun K hK => ?_)
  simp (disch := omega) [gA, wrap_i64, wrap_u64, wrap_u32, Int.tdiv_eq_ediv_of_nonneg, Int.tmod_eq_emod_of_nonneg]
  refine hK _ (W.liveK [0, 1, 4] fun K2 hK2 => ?_); clear hK K; simp; refine hK2 _ ?_; clear hK2 K2
  refine W.seq ?_
  refine W.sreg (fun K hK => ?_)
  simp (disch := omega) [gA, wrap_i64, wrap_u64, wrap_u32, Int.tdiv_eq_ediv_of_nonneg, Int.tmod_eq_emod_of_nonneg]
  refine hK _ (W.liveK [0, 1, 4, 8] fun K2 hK2 => ?_); clear hK K; simp; refine hK2 _ ?_; clear hK2 K2
  refine W.cond ⟨_, rfl, fun h => ?_, fun h => ?_⟩   -- t8
  · simp at h
    refine W.sreg (fun K hK => ?_)
    simp (disch := omega) [gA, wrap_i64, wrap_u64, wrap_u32, Int.tdiv_eq_ediv_of_nonneg, Int.tmod_eq_emod_of_nonneg]
    refine hK _ (W.liveK [4] fun K2 hK2 => ?_); clear hK K; simp; refine hK2 _ ?_; clear hK2 K2
    refine W.ret ?_
    simp [go]
  · simp at h
    refine W.skip ?_
    refine W.sreg (fun K hK => ?_)
    simp (disch := omega) [gA, wrap_i64, wrap_u64, wrap_u32, Int.tdiv_eq_ediv_of_nonneg, Int.tmod_eq_emod_of_nonneg]
    refine hK _ (W.liveK [4] fun K2 hK2 => ?_); clear hK K; simp; refine hK2 _ ?_; clear hK2 K2
    refine W.ret ?_
    rw [nth_ge h]
    simp [go]
    exact ⟨rfl, rfl⟩

theorem each_ret (g : FuncId) (hw : mutF g = false) (caps : List PV) (hc : caps.all pers = true) (n : Nat) (hn : n < 1099511627776) (val : Nat → Int) (hg : ∀ k, k < n → Ret env.P g (.int .i64 (k : Int) :: caps) (I (val k))) :
    Ret env.P 71 [.int .i64 n, .fn g caps] (Po (cutR ((List.range n).map val))) := by
  refine ret_of_Wf (E := env) (fun _ => 0) [(0, .int .i64 n), (1, .fn g caps)] Try.func71 rfl (by kernel_rfl) (by kernel_rfl) (show 2 ≤ 23 by decide) (by simp) ?_
  refine W.sreg (fun K hK => ?_)
  simp (disch := omega) [gA, wrap_i64, wrap_u64, wrap_u32, Int.tdiv_eq_ediv_of_nonneg, Int.tmod_eq_emod_of_nonneg]
  refine hK _ (W.liveK [0, 1] fun K2 hK2 => ?_); clear hK K; simp; refine hK2 _ ?_; clear hK2 K2
  refine W.sreg (fun K hK => ?_)
  simp (disch := omega) [gA, wrap_i64, wrap_u64, wrap_u32, Int.tdiv_eq_ediv_of_nonneg, Int.tmod_eq_emod_of_nonneg]
  refine hK _ (W.liveK [1, 5] fun K2 hK2 => ?_); clear hK K; simp; refine hK2 _ ?_; clear hK2 K2
  refine W.row (id := 8) (emap ie (List.replicate n 0)) (by simp; exact ⟨rfl, rfl, rfl⟩) (row_ie _) ?_
  refine W.seq ?_
  refine W.sreg (fun K hK => ?_)
  simp (disch := omega) [gA, wrap_i64, wrap_u64, wrap_u32, Int.tdiv_eq_ediv_of_nonneg, Int.tmod_eq_emod_of_nonneg]
  refine hK _ (W.liveK [1, 5, 10, 11] fun K2 hK2 => ?_); clear hK K; simp; refine hK2 _ ?_; clear hK2 K2
  refine W.block ?_   -- block 0
  refine W.loopG (fun k σ => ∃ (i : Nat) (z : List Int) (ver : Nat) (rows : Pm.Rows) (clk : Nat), σ = ⟨fa [(1, .fn g caps), (5, .own 8 ver 0 n), (10, .int .i64 n), (11, .int .i64 i)], rows, clk⟩ ∧
    rows 8 = some ⟨ver, 68, 2, emap ie z⟩ ∧ k = n - i ∧ i ≤ n ∧ z.length = n ∧ z.take i = (List.range i).map val) n ?_ ?_
  · exact ⟨_, .refl, 0, List.replicate n 0, _, _, _, rfl, by simp, by omega, by omega, by simp, by simp⟩
  rintro k _ ⟨i, z, ver, rows, clk, rfl, hr, hk, hi, hz, hv⟩
  refine W.sreg (fun K hK => ?_)
  simp (disch := omega) [gA, wrap_i64, wrap_u64, wrap_u32, Int.tdiv_eq_ediv_of_nonneg, Int.tmod_eq_emod_of_nonneg]
  refine hK _ (W.liveK [1, 5, 10, 11, 12] fun K2 hK2 => ?_); clear hK K; simp; refine hK2 _ ?_; clear hK2 K2
  refine W.seq ?_
  refine W.cond ⟨_, rfl, fun h => ?_, fun h => ?_⟩   -- t12
  · simp at h
    refine W.skip ?_
    refine W.seq ?_
    refine W.block ?_   -- block 1
    refine W.sreg (fun K hK => ?_)
    simp (disch := omega) [gA, wrap_i64, wrap_u64, wrap_u32, Int.tdiv_eq_ediv_of_nonneg, Int.tmod_eq_emod_of_nonneg]
    refine hK _ (W.liveK [1, 5, 6, 10, 11] fun K2 hK2 => ?_); clear hK K; simp; refine hK2 _ ?_; clear hK2 K2
    refine W.reg (fun K hK => ?_)
    simp (disch := omega) [gA, wrap_i64, wrap_u64, wrap_u32, Int.tdiv_eq_ediv_of_nonneg, Int.tmod_eq_emod_of_nonneg, hr, -mutF, hw]
    refine callR (hg i h) ?_
    simp (disch := omega) [gA, wrap_i64, wrap_u64, wrap_u32, Int.tdiv_eq_ediv_of_nonneg, Int.tmod_eq_emod_of_nonneg, hr]
    refine hK _ (W.liveK [1, 5, 10, 11] fun K2 hK2 => ?_); clear hK K; simp; refine hK2 _ ?_; clear hK2 K2
    refine W.reg (fun K hK => ?_)
    simp (disch := omega) [gA, wrap_i64, wrap_u64, wrap_u32, Int.tdiv_eq_ediv_of_nonneg, Int.tmod_eq_emod_of_nonneg]
    refine hK _ ⟨n - (i + 1), _, Gh_fa _ [1, 5, 10, 11], by omega, i + 1, z.set i (val i), ver, _, _, rfl, by simp, by omega, by omega, by simpa using hz, ?_⟩
    rw [set_take hv (by omega), List.range_succ]; simp
  · simp at h
    have hi' : i = n := by omega
    subst hi'
    refine W.exit ?_; simp only [pblk_exit, pblk_normal, pblk_ret, pseq_exit, pseq_normal, pseq_ret, pnor_exit, pnor_normal, pnor_ret, if_true, if_false, reduceIte, Nat.reduceEqDiff]
    rw [take_all hz] at hv
    have hz2 := take_all hz
    refine W.sreg (fun K hK => ?_)
    simp (disch := omega) [gA, wrap_i64, wrap_u64, wrap_u32, Int.tdiv_eq_ediv_of_nonneg, Int.tmod_eq_emod_of_nonneg, hr, hz2]
    refine callR (pcut_ret z (by omega)) ?_
    simp (disch := omega) [gA, wrap_i64, wrap_u64, wrap_u32, Int.tdiv_eq_ediv_of_nonneg, Int.tmod_eq_emod_of_nonneg]
    refine hK _ (W.liveK [4] fun K2 hK2 => ?_); clear hK K; simp; refine hK2 _ ?_; clear hK2 K2
    refine W.ret ?_
    simp [go, hv]
end Go.Proofs.Ytjnkpfknmncdmaa
