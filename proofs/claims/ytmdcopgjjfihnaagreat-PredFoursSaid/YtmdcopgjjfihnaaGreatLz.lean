import Derived.Test.YtmdcopgjjfihnaaGreatLw
set_option linter.unusedSimpArgs false
set_option linter.unusedVariables false
namespace Go.Proofs.YtmdcopgjjfihnaaGreat
open Go Pm

/-- Rows that det takes. -/
def okM (m : List (List RP)) : Prop := (∀ r ∈ m, r.length = m.length) ∧ m.length ≤ 4
instance (m : List (List RP)) : Decidable (okM m) := by unfold okM; infer_instance
theorem Det_ret {s n : Nat} (hs : s < 1073741824) (hn : n < 1073741824) (m : List (List RP)) (hm : m.length < 1099511627776) (hr : ∀ r ∈ m, r.length < 1099511627776 ∧ ∀ p ∈ r, POK p ∧ Bd LL s n (p.map gv)) :
    Ret env.P 79 [sls me m] (if okM m then .tup [Po (dcol m.length (mv m)), .int .i64 0] else .tup [Po [], .int .i64 1]) := by
  have hmay := may_ret m hm fun r h => (hr r h).1
  by_cases h : okM m
  · rw [decide_eq_true (show (∀ r ∈ m, r.length = m.length) ∧ m.length ≤ 4 from h)] at hmay
    have hsum := sum_ret hs hn m.length m rfl h.2 ⟨h.1, fun r hh => (hr r hh).2⟩
    rw [if_pos h]
    generalize dcol m.length (mv m) = d at *
    refine ret_of_Wf (E := env) (fun _ => 0) [(0, sls me m)] Tryz.func79 rfl (by kernel_rfl) (by kernel_rfl) (show 1 ≤ 9 by decide) (by simp) ?_
    refine W.sreg (fun K hK => ?_); simp (disch := omega) [gA, wrap_i64, wrap_u64, wrap_u32, Int.tdiv_eq_ediv_of_nonneg, Int.tmod_eq_emod_of_nonneg]; refine hK _ (W.liveK [0] fun K2 hK2 => ?_); clear hK K; simp; refine hK2 _ ?_; clear hK2 K2
    refine W.seq ?_
    refine W.sreg (fun K hK => ?_)
    simp (disch := omega) [gA, wrap_i64, wrap_u64, wrap_u32, Int.tdiv_eq_ediv_of_nonneg, Int.tmod_eq_emod_of_nonneg]
    refine callR hmay ?_
    simp (disch := omega) [gA, wrap_i64, wrap_u64, wrap_u32, Int.tdiv_eq_ediv_of_nonneg, Int.tmod_eq_emod_of_nonneg]
    refine hK _ (W.liveK [0, 6] fun K2 hK2 => ?_); clear hK K; simp; refine hK2 _ ?_; clear hK2 K2
    refine W.cond ⟨_, rfl, fun h2 => ?_, fun h2 => ?_⟩   -- t6
    · cases h2
    · refine W.skip ?_
      refine W.sreg (fun K hK => ?_)
      simp (disch := omega) [gA, wrap_i64, wrap_u64, wrap_u32, Int.tdiv_eq_ediv_of_nonneg, Int.tmod_eq_emod_of_nonneg]
      refine callR hsum ?_
      simp (disch := omega) [gA, wrap_i64, wrap_u64, wrap_u32, Int.tdiv_eq_ediv_of_nonneg, Int.tmod_eq_emod_of_nonneg]
      refine hK _ (W.liveK [2, 3] fun K2 hK2 => ?_); clear hK K; simp; refine hK2 _ ?_; clear hK2 K2
      refine W.ret ?_
      simp [go]
  · rw [decide_eq_false (show ¬ ((∀ r ∈ m, r.length = m.length) ∧ m.length ≤ 4) from h)] at hmay
    rw [if_neg h]
    refine ret_of_Wf (E := env) (fun _ => 0) [(0, sls me m)] Tryz.func79 rfl (by kernel_rfl) (by kernel_rfl) (show 1 ≤ 9 by decide) (by simp) ?_
    refine W.sreg (fun K hK => ?_); simp (disch := omega) [gA, wrap_i64, wrap_u64, wrap_u32, Int.tdiv_eq_ediv_of_nonneg, Int.tmod_eq_emod_of_nonneg]; refine hK _ (W.liveK [0] fun K2 hK2 => ?_); clear hK K; simp; refine hK2 _ ?_; clear hK2 K2
    refine W.seq ?_
    refine W.sreg (fun K hK => ?_)
    simp (disch := omega) [gA, wrap_i64, wrap_u64, wrap_u32, Int.tdiv_eq_ediv_of_nonneg, Int.tmod_eq_emod_of_nonneg]
    refine callR hmay ?_
    simp (disch := omega) [gA, wrap_i64, wrap_u64, wrap_u32, Int.tdiv_eq_ediv_of_nonneg, Int.tmod_eq_emod_of_nonneg]
    refine hK _ (W.liveK [0, 6] fun K2 hK2 => ?_); clear hK K; simp; refine hK2 _ ?_; clear hK2 K2
    refine W.cond ⟨_, rfl, fun h2 => ?_, fun h2 => ?_⟩   -- t6
    · refine W.sreg (fun K hK => ?_); simp (disch := omega) [gA, wrap_i64, wrap_u64, wrap_u32, Int.tdiv_eq_ediv_of_nonneg, Int.tmod_eq_emod_of_nonneg]; refine hK _ (W.liveK [2, 3] fun K2 hK2 => ?_); clear hK K; simp; refine hK2 _ ?_; clear hK2 K2
      refine W.ret ?_
      simp [go]
      rfl
    · cases h2

theorem Row_ret (l : List RP) (hl : l.length < 1099511627776) (h : ∀ p ∈ l, POK p) : Ret env.P 75 [sls pe l] (sls pe (l.map nrm)) := by
  refine ret_of_Wf (E := env) (fun _ => 0) [(0, sls pe l)] Tryz.func75 rfl (by kernel_rfl) (by kernel_rfl) (show 1 ≤ 19 by decide) (by simp) ?_
  refine W.sreg (fun K hK => ?_); simp (disch := omega) [gA, wrap_i64, wrap_u64, wrap_u32, Int.tdiv_eq_ediv_of_nonneg, Int.tmod_eq_emod_of_nonneg]; refine hK _ (W.liveK [0] fun K2 hK2 => ?_); clear hK K; simp; refine hK2 _ ?_; clear hK2 K2
  refine W.sreg (fun K hK => ?_); simp (disch := omega) [gA, wrap_i64, wrap_u64, wrap_u32, Int.tdiv_eq_ediv_of_nonneg, Int.tmod_eq_emod_of_nonneg]; refine hK _ (W.liveK [0, 3] fun K2 hK2 => ?_); clear hK K; simp; refine hK2 _ ?_; clear hK2 K2
  refine W.nil 3 3 24 1 (by simp) (by decide) (fun K hK => ?_)
  refine hK _ (W.liveK [0, 3] fun K2 hK2 => ?_); clear hK K; simp; refine hK2 _ ?_; clear hK2 K2
  refine W.seq ?_
  refine W.sreg (fun K hK => ?_); simp (disch := omega) [gA, wrap_i64, wrap_u64, wrap_u32, Int.tdiv_eq_ediv_of_nonneg, Int.tmod_eq_emod_of_nonneg]; refine hK _ (W.liveK [3, 6, 7, 8] fun K2 hK2 => ?_); clear hK K; simp; refine hK2 _ ?_; clear hK2 K2
  refine W.block ?_   -- block 0
  refine W.loopG (fun k σ => ∃ (i ver : Nat) (rows : Pm.Rows) (clk : Nat), σ = ⟨fa [(3, .own 3 ver 0 i), (6, sls pe l), (7, .int .i64 l.length), (8, .int .i64 i)], rows, clk⟩ ∧ rows 3 = some ⟨ver, 24, 1, emap pe ((l.take i).map nrm)⟩ ∧ k = l.length - i ∧ i ≤ l.length) l.length ?_ ?_
  · exact ⟨_, .refl, 0, _, _, _, rfl, by simp [emap], by omega, by omega⟩
  rintro k _ ⟨i, ver, rows, clk, rfl, hr, hk, hi⟩
  refine W.sreg (fun K hK => ?_); simp (disch := omega) [gA, wrap_i64, wrap_u64, wrap_u32, Int.tdiv_eq_ediv_of_nonneg, Int.tmod_eq_emod_of_nonneg]; refine hK _ (W.liveK [3, 6, 7, 8, 9] fun K2 hK2 => ?_); clear hK K; simp; refine hK2 _ ?_; clear hK2 K2
  refine W.seq ?_
  refine W.cond ⟨_, rfl, fun h2 => ?_, fun h2 => ?_⟩   -- t9
  · simp at h2
    have hN := pNorm_ret _ (h _ (nth_mem h2))
    rw [show Po (cutR ((nth l i).map gv)) = Pg (nrm (nth l i)) from Po_cfs _] at hN
    have er := map_take_succ (f := nrm) h2
    have hcl : ((l.take i).map nrm).length = i := by simp; omega
    generalize (l.take i).map nrm = acc at *
    refine W.skip ?_
    refine W.seq ?_
    refine W.block ?_   -- block 1
    refine W.sreg (fun K hK => ?_); simp (disch := omega) [gA, wrap_i64, wrap_u64, wrap_u32, Int.tdiv_eq_ediv_of_nonneg, Int.tmod_eq_emod_of_nonneg]; refine hK _ (W.liveK [3, 5, 6, 7, 8] fun K2 hK2 => ?_); clear hK K; simp; refine hK2 _ ?_; clear hK2 K2
    refine W.reg (fun K hK => ?_)
    simp (disch := omega) [gA, wrap_i64, wrap_u64, wrap_u32, Int.tdiv_eq_ediv_of_nonneg, Int.tmod_eq_emod_of_nonneg]
    refine callR hN ?_
    simp (disch := omega) [gA, wrap_i64, wrap_u64, wrap_u32, Int.tdiv_eq_ediv_of_nonneg, Int.tmod_eq_emod_of_nonneg, hr, hcl]
    refine hK _ (W.liveK [3, 6, 7, 8] fun K2 hK2 => ?_); clear hK K; simp; refine hK2 _ ?_; clear hK2 K2
    refine W.reg (fun K hK => ?_); simp (disch := omega) [gA, wrap_i64, wrap_u64, wrap_u32, Int.tdiv_eq_ediv_of_nonneg, Int.tmod_eq_emod_of_nonneg]
    refine hK _ ⟨l.length - (i + 1), _, Gh_fa _ [3, 6, 7, 8], by omega, i + 1, _, _, _, rfl, by rw [er]; simp, by omega, by omega⟩
  · simp at h2
    have hi' : i = l.length := by omega
    subst hi'
    rw [List.take_length] at hr
    have ez : (l.map nrm).take l.length = l.map nrm := take_all (by simp)
    refine W.exit ?_; simp only [pblk_exit, pblk_normal, pblk_ret, pseq_exit, pseq_normal, pseq_ret, pnor_exit, pnor_normal, pnor_ret, if_true, if_false, reduceIte, Nat.reduceEqDiff]
    refine W.sreg (fun K hK => ?_); simp (disch := omega) [gA, wrap_i64, wrap_u64, wrap_u32, Int.tdiv_eq_ediv_of_nonneg, Int.tmod_eq_emod_of_nonneg]; refine hK _ (W.liveK [2] fun K2 hK2 => ?_); clear hK K; simp; refine hK2 _ ?_; clear hK2 K2
    refine W.ret ?_
    simp [go, hr, ez]

/-! The document's own rows. -/
def ql (x : List Int) : List PV := [PI x]
def qm (r : List (List Int)) : List PV := [sls ql r]
@[simp] theorem ql_def {x : List Int} : ql x = [sls ri x] := rfl
@[simp] theorem qm_def {r : List (List Int)} : qm r = [sls ql r] := rfl
@[simp] theorem lenAll_ql {l : List (List Int)} : lenAll 1 (emap ql l) = True := lenAll_emap fun _ => rfl
@[simp] theorem lenAll_qm {l : List (List (List Int))} : lenAll 1 (emap qm l) = True := lenAll_emap fun _ => rfl
@[simp] theorem rowPers_ql {v e n : Nat} {l : List (List Int)} : rowPers (some ⟨v, e, n, emap ql l⟩) = True := rowPers_emap fun _ => rfl
@[simp] theorem rowPers_qm {v e n : Nat} {l : List (List (List Int))} : rowPers (some ⟨v, e, n, emap qm l⟩) = True := rowPers_emap fun _ => rfl
@[simp] theorem app_ql {l : List (List Int)} {x : List Int} : emap ql l ++ [[sls ri x]] = emap ql (l ++ [x]) := by simp [emap]
@[simp] theorem app_qm {l : List (List (List Int))} {x : List (List Int)} : emap qm l ++ [[sls ql x]] = emap qm (l ++ [x]) := by simp [emap]

theorem qMinor_ret (M : List (List (List Int))) (i k : Nat) (hM : M.length < 1099511627776) (hr : ∀ r ∈ M, r.length < 1099511627776) (hi : i < 9223372036854775808) (hk : k < 9223372036854775808) : Ret env.P 158 [sls qm M, .int .i64 i, .int .i64 k] (sls qm (mnrI i k M)) := by
  refine ret_of_Wf (E := env) (fun _ => 0) [(0, sls qm M), (1, .int .i64 i), (2, .int .i64 k)] Tryz.func158 rfl (by kernel_rfl) (by kernel_rfl) (show 3 ≤ 47 by decide) (by simp) ?_
  refine W.sreg (fun K hK => ?_); simp (disch := omega) [gA, wrap_i64, wrap_u64, wrap_u32, Int.tdiv_eq_ediv_of_nonneg, Int.tmod_eq_emod_of_nonneg]; refine hK _ (W.liveK [0, 1, 2] fun K2 hK2 => ?_); clear hK K; simp; refine hK2 _ ?_; clear hK2 K2
  refine W.sreg (fun K hK => ?_); simp (disch := omega) [gA, wrap_i64, wrap_u64, wrap_u32, Int.tdiv_eq_ediv_of_nonneg, Int.tmod_eq_emod_of_nonneg]; refine hK _ (W.liveK [0, 1, 2, 7] fun K2 hK2 => ?_); clear hK K; simp; refine hK2 _ ?_; clear hK2 K2
  refine W.nil 7 7 37 1 (by simp) (by decide) (fun K hK => ?_)
  refine hK _ (W.liveK [0, 1, 2, 7] fun K2 hK2 => ?_); clear hK K; simp; refine hK2 _ ?_; clear hK2 K2
  refine W.seq ?_
  refine W.sreg (fun K hK => ?_); simp (disch := omega) [gA, wrap_i64, wrap_u64, wrap_u32, Int.tdiv_eq_ediv_of_nonneg, Int.tmod_eq_emod_of_nonneg]; refine hK _ (W.liveK [0, 1, 2, 7, 12, 13] fun K2 hK2 => ?_); clear hK K; simp; refine hK2 _ ?_; clear hK2 K2
  refine W.block ?_   -- block 0
  refine W.loopG (fun d σ => ∃ (r ver n : Nat) (rows : Pm.Rows) (clk : Nat), σ = ⟨fa [(0, sls qm M), (1, .int .i64 i), (2, .int .i64 k), (7, .own 7 ver 0 n), (12, .int .i64 M.length), (13, .int .i64 r)], rows, clk⟩ ∧
    rows 7 = some ⟨ver, 37, 1, emap qm (mnrI i k (M.take r))⟩ ∧ n = (mnrI i k (M.take r)).length ∧ d = M.length - r ∧ r ≤ M.length) M.length ?_ ?_
  · exact ⟨_, .refl, 0, _, _, _, _, rfl, by simp [emap], by simp, by omega, by omega⟩
  rintro d _ ⟨r, ver, n, rows, clk, rfl, hr7, hn, hd, hrm⟩
  have hml : (mnrI i k (M.take r)).length ≤ M.length := by
    have := List.length_eraseIdx_le (M.take r) i
    simp at *; omega
  refine W.sreg (fun K hK => ?_); simp (disch := omega) [gA, wrap_i64, wrap_u64, wrap_u32, Int.tdiv_eq_ediv_of_nonneg, Int.tmod_eq_emod_of_nonneg]; refine hK _ (W.liveK [0, 1, 2, 7, 12, 13, 14] fun K2 hK2 => ?_); clear hK K; simp; refine hK2 _ ?_; clear hK2 K2
  refine W.seq ?_
  refine W.cond ⟨_, rfl, fun h => ?_, fun h => ?_⟩   -- t14
  · simp at h
    have hrl := hr _ (nth_mem h)
    refine W.skip ?_
    refine W.seq_blockJ (fun σ => ∃ (ver n : Nat) (rows : Pm.Rows) (clk : Nat), σ = ⟨fa [(0, sls qm M), (1, .int .i64 i), (2, .int .i64 k), (7, .own 7 ver 0 n), (12, .int .i64 M.length), (13, .int .i64 r)], rows, clk⟩ ∧
      rows 7 = some ⟨ver, 37, 1, emap qm (mnrI i k (M.take (r + 1)))⟩ ∧ n = (mnrI i k (M.take (r + 1))).length) ?_ ?_   -- block 1
    ·
      refine W.sreg (fun K hK => ?_); simp (disch := omega) [gA, wrap_i64, wrap_u64, wrap_u32, Int.tdiv_eq_ediv_of_nonneg, Int.tmod_eq_emod_of_nonneg]; refine hK _ (W.liveK [0, 1, 2, 7, 8, 12, 13] fun K2 hK2 => ?_); clear hK K; simp; refine hK2 _ ?_; clear hK2 K2
      refine W.seq ?_
      refine W.sreg (fun K hK => ?_); simp (disch := omega) [gA, wrap_i64, wrap_u64, wrap_u32, Int.tdiv_eq_ediv_of_nonneg, Int.tmod_eq_emod_of_nonneg]; refine hK _ (W.liveK [0, 1, 2, 7, 8, 12, 13, 18] fun K2 hK2 => ?_); clear hK K; simp; refine hK2 _ ?_; clear hK2 K2
      refine W.cond ⟨_, rfl, fun h2 => ?_, fun h2 => ?_⟩   -- t18
      · have h2 : r = i := by simp at h2; omega
        have e : mnrI i k (M.take (r + 1)) = mnrI i k (M.take r) := by simp only [mnrI]; rw [erase_take h, if_pos h2]
        refine W.exit ?_; simp only [pblk_exit, pblk_normal, pblk_ret, pseq_exit, pseq_normal, pseq_ret, pnor_exit, pnor_normal, pnor_ret, if_true, if_false, reduceIte, Nat.reduceEqDiff]
        rw [e]
        exact ⟨_, Gh_fa _ [0, 1, 2, 7, 12, 13], _, _, _, _, rfl, hr7, hn⟩
      · have h2 : r ≠ i := by simp at h2; omega
        have e : mnrI i k (M.take (r + 1)) = mnrI i k (M.take r) ++ [(nth M r).eraseIdx k] := by simp only [mnrI]; rw [erase_take h, if_neg h2]; simp
        rw [e]
        generalize mnrI i k (M.take r) = acc at *
        refine W.skip ?_
        refine W.sreg (fun K hK => ?_); simp (disch := omega) [gA, wrap_i64, wrap_u64, wrap_u32, Int.tdiv_eq_ediv_of_nonneg, Int.tmod_eq_emod_of_nonneg]; refine hK _ (W.liveK [0, 1, 2, 7, 8, 9, 12, 13] fun K2 hK2 => ?_); clear hK K; simp; refine hK2 _ ?_; clear hK2 K2
        refine W.nil 9 9 36 1 (by simp) (by decide) (fun K hK => ?_)
        refine hK _ (W.liveK [0, 1, 2, 7, 8, 9, 12, 13] fun K2 hK2 => ?_); clear hK K; simp; refine hK2 _ ?_; clear hK2 K2
        refine W.seq ?_
        refine W.sreg (fun K hK => ?_); simp (disch := omega) [gA, wrap_i64, wrap_u64, wrap_u32, Int.tdiv_eq_ediv_of_nonneg, Int.tmod_eq_emod_of_nonneg]; refine hK _ (W.liveK [0, 1, 2, 7, 8, 9, 12, 13, 23, 24] fun K2 hK2 => ?_); clear hK K; simp; refine hK2 _ ?_; clear hK2 K2
        refine W.block ?_   -- block 2
        refine W.loopG (fun d σ => ∃ (c v9 n9 : Nat) (rows : Pm.Rows) (clk : Nat), σ = ⟨fa [(0, sls qm M), (1, .int .i64 i), (2, .int .i64 k), (7, .own 7 ver 0 n), (8, .int .i64 r), (9, .own 9 v9 0 n9), (12, .int .i64 M.length), (13, .int .i64 r), (23, .int .i64 (nth M r).length), (24, .int .i64 c)], rows, clk⟩ ∧
          rows 7 = some ⟨ver, 37, 1, emap qm acc⟩ ∧ rows 9 = some ⟨v9, 36, 1, emap ql (((nth M r).take c).eraseIdx k)⟩ ∧ n9 = (((nth M r).take c).eraseIdx k).length ∧ d = (nth M r).length - c ∧ c ≤ (nth M r).length) (nth M r).length ?_ ?_
        · exact ⟨_, .refl, 0, _, _, _, _, rfl, by simp [hr7], by simp [emap], by simp, by omega, by omega⟩
        clear hr7 rows clk
        rintro d _ ⟨c, v9, n9, rows, clk, rfl, hr7, hr9, hn9, hd, hc⟩
        have hcl : (((nth M r).take c).eraseIdx k).length ≤ (nth M r).length := by
          have := List.length_eraseIdx_le ((nth M r).take c) k
          simp at *; omega
        refine W.sreg (fun K hK => ?_); simp (disch := omega) [gA, wrap_i64, wrap_u64, wrap_u32, Int.tdiv_eq_ediv_of_nonneg, Int.tmod_eq_emod_of_nonneg]; refine hK _ (W.liveK [0, 1, 2, 7, 8, 9, 12, 13, 23, 24, 25] fun K2 hK2 => ?_); clear hK K; simp; refine hK2 _ ?_; clear hK2 K2
        refine W.seq ?_
        refine W.cond ⟨_, rfl, fun h3 => ?_, fun h3 => ?_⟩   -- t25
        · simp at h3
          refine W.skip ?_
          refine W.seq_blockJ (fun σ => ∃ (v9 n9 : Nat) (rows : Pm.Rows) (clk : Nat), σ = ⟨fa [(0, sls qm M), (1, .int .i64 i), (2, .int .i64 k), (7, .own 7 ver 0 n), (8, .int .i64 r), (9, .own 9 v9 0 n9), (12, .int .i64 M.length), (13, .int .i64 r), (23, .int .i64 (nth M r).length), (24, .int .i64 c)], rows, clk⟩ ∧
            rows 7 = some ⟨ver, 37, 1, emap qm acc⟩ ∧ rows 9 = some ⟨v9, 36, 1, emap ql (((nth M r).take (c + 1)).eraseIdx k)⟩ ∧ n9 = (((nth M r).take (c + 1)).eraseIdx k).length) ?_ ?_   -- block 3
          ·
            refine W.sreg (fun K hK => ?_); simp (disch := omega) [gA, wrap_i64, wrap_u64, wrap_u32, Int.tdiv_eq_ediv_of_nonneg, Int.tmod_eq_emod_of_nonneg]; refine hK _ (W.liveK [0, 1, 2, 7, 8, 9, 10, 12, 13, 23, 24] fun K2 hK2 => ?_); clear hK K; simp; refine hK2 _ ?_; clear hK2 K2
            refine W.sreg (fun K hK => ?_); simp (disch := omega) [gA, wrap_i64, wrap_u64, wrap_u32, Int.tdiv_eq_ediv_of_nonneg, Int.tmod_eq_emod_of_nonneg]; refine hK _ (W.liveK [0, 1, 2, 7, 8, 9, 10, 12, 13, 23, 24, 29] fun K2 hK2 => ?_); clear hK K; simp; refine hK2 _ ?_; clear hK2 K2
            refine W.cond ⟨_, rfl, fun h4 => ?_, fun h4 => ?_⟩   -- t29
            · have h4 : c ≠ k := by simp at h4; omega
              have e2 : ((nth M r).take (c + 1)).eraseIdx k = ((nth M r).take c).eraseIdx k ++ [nth (nth M r) c] := by rw [erase_take h3, if_neg h4]
              rw [e2]
              generalize ((nth M r).take c).eraseIdx k = q at *
              refine W.reg (fun K hK => ?_); simp (disch := omega) [gA, wrap_i64, wrap_u64, wrap_u32, Int.tdiv_eq_ediv_of_nonneg, Int.tmod_eq_emod_of_nonneg, hr9]
              exact hK _ ⟨_, Gh_fa _ [0, 1, 2, 7, 8, 9, 12, 13, 23, 24], _, _, _, _, rfl, by simp [hr7], by simp, by simp; omega⟩
            · have h4 : c = k := by simp at h4; omega
              have e2 : ((nth M r).take (c + 1)).eraseIdx k = ((nth M r).take c).eraseIdx k := by rw [erase_take h3, if_pos h4]
              rw [e2]
              refine W.skip ?_
              exact ⟨_, Gh_fa _ [0, 1, 2, 7, 8, 9, 12, 13, 23, 24], _, _, _, _, rfl, hr7, hr9, hn9⟩
          clear hr7 hr9 hn9 rows clk v9 n9
          rintro _ ⟨v9, n9, rows, clk, rfl, hr7, hr9, hn9⟩
          refine W.reg (fun K hK => ?_); simp (disch := omega) [gA, wrap_i64, wrap_u64, wrap_u32, Int.tdiv_eq_ediv_of_nonneg, Int.tmod_eq_emod_of_nonneg]
          exact hK _ ⟨(nth M r).length - (c + 1), _, Gh_fa _ [0, 1, 2, 7, 8, 9, 12, 13, 23, 24], by omega, c + 1, v9, n9, _, _, rfl, hr7, hr9, hn9, by omega, by omega⟩
        · simp at h3
          rw [List.take_of_length_le (by omega)] at hr9 hn9 hcl
          generalize (nth M r).eraseIdx k = q at *
          have ez := take_all (l := q) hn9.symm
          refine W.exit ?_; simp only [pblk_exit, pblk_normal, pblk_ret, pseq_exit, pseq_normal, pseq_ret, pnor_exit, pnor_normal, pnor_ret, if_true, if_false, reduceIte, Nat.reduceEqDiff]
          refine W.freeze 9 (by simp [hr9]) (fun K hK => ?_)
          simp [hr9, ez]
          refine hK _ ?_; clear hK K
          refine W.reg (fun K hK => ?_); simp (disch := omega) [gA, wrap_i64, wrap_u64, wrap_u32, Int.tdiv_eq_ediv_of_nonneg, Int.tmod_eq_emod_of_nonneg, hr7]
          exact hK _ ⟨_, Gh_fa _ [0, 1, 2, 7, 12, 13], _, _, _, _, rfl, by simp, by simp; omega⟩
    clear hr7 hn hml rows clk ver n
    rintro _ ⟨ver, n, rows, clk, rfl, hr7, hn⟩
    refine W.reg (fun K hK => ?_); simp (disch := omega) [gA, wrap_i64, wrap_u64, wrap_u32, Int.tdiv_eq_ediv_of_nonneg, Int.tmod_eq_emod_of_nonneg]
    exact hK _ ⟨M.length - (r + 1), _, Gh_fa _ [0, 1, 2, 7, 12, 13], by omega, r + 1, ver, n, _, _, rfl, hr7, hn, by omega, by omega⟩
  · simp at h
    rw [List.take_of_length_le (by omega)] at hr7 hn
    have ez := take_all (l := mnrI i k M) hn.symm
    refine W.exit ?_; simp only [pblk_exit, pblk_normal, pblk_ret, pseq_exit, pseq_normal, pseq_ret, pnor_exit, pnor_normal, pnor_ret, if_true, if_false, reduceIte, Nat.reduceEqDiff]
    refine W.sreg (fun K hK => ?_); simp (disch := omega) [gA, wrap_i64, wrap_u64, wrap_u32, Int.tdiv_eq_ediv_of_nonneg, Int.tmod_eq_emod_of_nonneg]; refine hK _ (W.liveK [6] fun K2 hK2 => ?_); clear hK K; simp; refine hK2 _ ?_; clear hK2 K2
    refine W.ret ?_
    simp [go, hr7, ez]
end Go.Proofs.YtmdcopgjjfihnaaGreat
