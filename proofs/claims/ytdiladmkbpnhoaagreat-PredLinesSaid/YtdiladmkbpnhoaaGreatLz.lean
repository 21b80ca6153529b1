import Derived.Test.YtdiladmkbpnhoaaGreatLy
set_option linter.unusedSimpArgs false
set_option linter.unusedVariables false
namespace Go.Proofs.YtdiladmkbpnhoaaGreat
open Go Pm
def okM (m : List (List RP)) : Prop := (∀ r ∈ m, r.length = m.length) ∧ m.length ≤ 4
instance (m : List (List RP)) : Decidable (okM m) := by unfold okM; infer_instance
theorem Det_ret {s n : Nat} (hs : s < 1073741824) (hn : n < 1073741824) (m : List (List RP)) (hm : m.length < 1099511627776) (hr : ∀ r ∈ m, r.length < 1099511627776 ∧ ∀ p ∈ r, POK p ∧ Bd LL s n (p.map gv)) :
  Ret env.P 87 [sls me m] (if okM m then .tup [Po (dcol m.length (mv m)), .int .i64 0] else .tup [Po [], .int .i64 1]) := by
 have hmay := may_ret m hm fun r h => (hr r h).1
 by_cases h : okM m
 ·rw [decide_eq_true (show (∀ r ∈ m, r.length = m.length) ∧ m.length ≤ 4 from h)] at hmay
  have hsum := sum_ret hs hn m.length m rfl h.2 ⟨h.1, fun r hh => (hr r hh).2⟩
  rw [if_pos h]
  generalize dcol m.length (mv m) = d at *
  refine ret_of_Wf (E := env) (fun _ => 0) [(0, sls me m)] Tryz.func87 rfl (by kernel_rfl) (by kernel_rfl) (show 1 ≤ 9 by decide) (by simp) ?_
  refine W.sreg (fun K hK => ?_); simp (disch := omega) [gA, wA]; refine W.lv [0] hK fun J j => ?_; clear hK K; simp; refine j _ ?_; clear j J
  refine W.seq ?_
  refine W.sreg (fun K hK => ?_)
  simp (disch := omega) [gA, wA]
  refine callR hmay ?_
  simp (disch := omega) [gA, wA]
  refine W.lv [0, 6] hK fun J j => ?_; clear hK K; simp; refine j _ ?_; clear j J
  refine W.cond ⟨_, rfl, fun h2 => ?_, fun h2 => ?_⟩
  ·cases h2
  ·refine W.skip ?_
   refine W.sreg (fun K hK => ?_)
   simp (disch := omega) [gA, wA]
   refine callR hsum ?_
   simp (disch := omega) [gA, wA]
   refine W.lv [2, 3] hK fun J j => ?_; clear hK K; simp; refine j _ ?_; clear j J
   refine W.ret ?_
   simp [go]
 ·rw [decide_eq_false (show ¬ ((∀ r ∈ m, r.length = m.length) ∧ m.length ≤ 4) from h)] at hmay
  rw [if_neg h]
  refine ret_of_Wf (E := env) (fun _ => 0) [(0, sls me m)] Tryz.func87 rfl (by kernel_rfl) (by kernel_rfl) (show 1 ≤ 9 by decide) (by simp) ?_
  refine W.sreg (fun K hK => ?_); simp (disch := omega) [gA, wA]; refine W.lv [0] hK fun J j => ?_; clear hK K; simp; refine j _ ?_; clear j J
  refine W.seq ?_
  refine W.sreg (fun K hK => ?_)
  simp (disch := omega) [gA, wA]
  refine callR hmay ?_
  simp (disch := omega) [gA, wA]
  refine W.lv [0, 6] hK fun J j => ?_; clear hK K; simp; refine j _ ?_; clear j J
  refine W.cond ⟨_, rfl, fun h2 => ?_, fun h2 => ?_⟩
  ·refine W.sreg (fun K hK => ?_); simp (disch := omega) [gA, wA]; refine W.lv [2, 3] hK fun J j => ?_; clear hK K; simp; refine j _ ?_; clear j J
   refine W.ret ?_
   simp [go]
   rfl
  ·cases h2
theorem Row_ret (l : List RP) (hl : l.length < 1099511627776) (h : ∀ p ∈ l, POK p) : Ret env.P 83 [sls pe l] (sls pe (l.map nrm)) := by
 refine ret_of_Wf (E := env) (fun _ => 0) [(0, sls pe l)] Tryz.func83 rfl (by kernel_rfl) (by kernel_rfl) (show 1 ≤ 19 by decide) (by simp) ?_
 refine W.sreg (fun K hK => ?_); simp (disch := omega) [gA, wA]; refine W.lv [0] hK fun J j => ?_; clear hK K; simp; refine j _ ?_; clear j J
 refine W.sreg (fun K hK => ?_); simp (disch := omega) [gA, wA]; refine W.lv [0, 3] hK fun J j => ?_; clear hK K; simp; refine j _ ?_; clear j J
 refine W.nil 3 3 24 1 (by simp) (by decide) (fun K hK => ?_)
 refine W.lv [0, 3] hK fun J j => ?_; clear hK K; simp; refine j _ ?_; clear j J
 refine W.seq ?_
 refine W.sreg (fun K hK => ?_); simp (disch := omega) [gA, wA]; refine W.lv [3, 6, 7, 8] hK fun J j => ?_; clear hK K; simp; refine j _ ?_; clear j J
 refine W.block ?_
 refine W.loopG (fun k σ => ∃ (i ver : Nat) (rows : Pm.Rows) (clk : Nat), σ = ⟨fa [(3, .own 3 ver 0 i), (6, sls pe l), (7, .int .i64 l.length), (8, .int .i64 i)], rows, clk⟩ ∧ rows 3 = some ⟨ver, 24, 1, emap pe ((l.take i).map nrm)⟩ ∧ k = l.length - i ∧ i ≤ l.length) l.length ?_ ?_
 ·exact ⟨_, .refl, 0, _, _, _, rfl, by simp [emap], by omega, by omega⟩
 rintro k _ ⟨i, ver, rows, clk, rfl, hr, hk, hi⟩
 refine W.sreg (fun K hK => ?_); simp (disch := omega) [gA, wA]; refine W.lv [3, 6, 7, 8, 9] hK fun J j => ?_; clear hK K; simp; refine j _ ?_; clear j J
 refine W.seq ?_
 refine W.cond ⟨_, rfl, fun h2 => ?_, fun h2 => ?_⟩
 ·simp at h2
  have hN := pNorm_ret _ (h _ (nth_mem h2))
  rw [show Po (cutR ((nth l i).map gv)) = Pg (nrm (nth l i)) from Po_cfs _] at hN
  have er := map_take_succ (f := nrm) h2
  have hcl : ((l.take i).map nrm).length = i := by simp; omega
  generalize (l.take i).map nrm = acc at *
  refine W.skip ?_
  refine W.seq ?_
  refine W.block ?_
  refine W.sreg (fun K hK => ?_); simp (disch := omega) [gA, wA]; refine W.lv [3, 5, 6, 7, 8] hK fun J j => ?_; clear hK K; simp; refine j _ ?_; clear j J
  refine W.reg (fun K hK => ?_)
  simp (disch := omega) [gA, wA]
  refine callR hN ?_
  simp (disch := omega) [gA, wA, hr, hcl]
  refine W.lv [3, 6, 7, 8] hK fun J j => ?_; clear hK K; simp; refine j _ ?_; clear j J
  refine W.reg (fun K hK => ?_); simp (disch := omega) [gA, wA]
  refine hK _ ⟨l.length - (i + 1), _, Gh_fa _ [3, 6, 7, 8], by omega, i + 1, _, _, _, rfl, by rw [er]; simp, by omega, by omega⟩
 ·simp at h2
  have hi' : i = l.length := by omega
  subst hi'
  rw [List.take_length] at hr
  have ez : (l.map nrm).take l.length = l.map nrm := take_all (by simp)
  refine W.exit ?_; simp only [pX, if_true, if_false, reduceIte, Nat.reduceEqDiff]
  refine W.sreg (fun K hK => ?_); simp (disch := omega) [gA, wA]; refine W.lv [2] hK fun J j => ?_; clear hK K; simp; refine j _ ?_; clear j J
  refine W.ret ?_
  simp [go, hr, ez]
def ql (x : List Int) : List PV := [PI x]
def qm (r : List (List Int)) : List PV := [sls ql r]
@[simp] theorem ql_def {x : List Int} : ql x = [sls ri x] := rfl
@[simp] theorem qm_def {r : List (List Int)} : qm r = [sls ql r] := rfl
@[simp] theorem lenAll_ql {l : List (List Int)} : lenAll 1 (emap ql l) = True := lenAll_emap fun _ => rfl
@[simp] theorem lenAll_qm {l : List (List (List Int))} : lenAll 1 (emap qm l) = True := lenAll_emap fun _ => rfl
@[simp] theorem rowPers_ql {v e n : Nat} {l : List (List Int)} : rowPers (some ⟨v, e, n, emap ql l⟩) = True := rowPers_emap fun _ => rfl
@[simp] theorem rowPers_qm {v e n : Nat} {l : List (List (List Int))} : rowPers (some ⟨v, e, n, emap qm l⟩) = True := rowPers_emap fun _ => rfl
@[simp] theorem app_ql {l : List (List Int)} {x : List Int} : emap ql l ++ [[sls ri x]] = emap ql (l ++ [x]) := by simp [emap]
@[simp] theorem app_qm {l : List (List (List Int))} {x : List (List Int)} : emap qm l ++ [[sls ql x]] = emap qm (l ++ [x]) := by simp [emap]
end Go.Proofs.YtdiladmkbpnhoaaGreat
