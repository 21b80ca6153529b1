import Derived.Test.YtmdcopgjjfihnaaGreatLgb
import Derived.Test.YtmdcopgjjfihnaaGreatLgd
set_option linter.unusedSimpArgs false
set_option linter.unusedVariables false
namespace Go.Proofs.YtmdcopgjjfihnaaGreat
open Go Pm
open ZX hiding N W

/-! HOW OFTEN SIGNS TURN. -/
def vst (st : Nat × Int) (s : Int) : Nat × Int := if s = 0 then st else (if st.2 ≠ 0 ∧ s ≠ st.2 then st.1 + 1 else st.1, s)
def vr (l : List Int) : Nat := (l.foldl vst (0, 0)).1
theorem vst_le (l : List Int) : ∀ st : Nat × Int, (l.foldl vst st).1 ≤ st.1 + l.length := by
  induction l with
  | nil => intro st; simp
  | cons s l ih =>
    intro st
    have h := ih (vst st s)
    have : (vst st s).1 ≤ st.1 + 1 := by
      unfold vst
      split
      · omega
      · simp only; split <;> omega
    simp only [List.foldl_cons, List.length_cons]
    omega
theorem vr_le (l : List Int) : vr l ≤ l.length := by have := vst_le l (0, 0); simpa [vr] using this
theorem fold_step {l : List Int} {i : Nat} (h : i < l.length) : (l.take (i + 1)).foldl vst (0, 0) = vst ((l.take i).foldl vst (0, 0)) (nth l i) := by
  rw [List.take_add_one, List.getElem?_eq_getElem h, nth_eq h, List.foldl_append]
  rfl
theorem i64_nth (l : List Int) (i : Nat) : i64e (nth l i) = [.int .i64 (nth l i)] := rfl
theorem qturns_ret (l : List Int) (hl : l.length < 1099511627776) : Ret env.P 120 [sls i64e l] (.int .i64 (vr l)) := by
  have hv : vr l = ((l.take l.length).foldl vst (0, 0)).1 := by rw [List.take_length]; rfl
  rw [hv]
  have hb : ∀ i, ((l.take i).foldl vst (0, 0)).1 ≤ i := fun i => by have := vst_le (l.take i) (0, 0); simp at this; omega
  have hst := fun i (h : i < l.length) => fold_step h
  generalize (fun i => (l.take i).foldl vst (0, 0)) = F at *
  refine ret_of_Wf (E := env) (fun _ => 0) [(0, sls i64e l)] Tryz.func120 rfl (by kernel_rfl) (by kernel_rfl) (show 1 ≤ 34 by decide) (by simp) ?_
  refine W.sreg (fun K hK => ?_); simp (disch := omega) [gA, wA]; refine W.lv [0] hK fun J j => ?_; clear hK K; simp; refine j _ ?_; clear j J
  refine W.sreg (fun K hK => ?_); simp (disch := omega) [gA, wA]; refine W.lv [0, 3, 4] hK fun J j => ?_; clear hK K; simp; refine j _ ?_; clear j J
  refine W.seq ?_
  refine W.sreg (fun K hK => ?_); simp (disch := omega) [gA, wA]; refine W.lv [0, 3, 4, 7, 8] hK fun J j => ?_; clear hK K; simp; refine j _ ?_; clear j J
  refine W.block ?_
  refine W.loopG (fun k σ => ∃ (i : Nat) (n : Nat) (s : Int) (rows : Pm.Rows) (clk : Nat), σ = ⟨fa [(0, sls i64e l), (3, .int .i64 n), (4, .int .i64 s), (7, .int .i64 l.length), (8, .int .i64 i)], rows, clk⟩ ∧ i + k = l.length ∧ (l.take i).foldl vst (0, 0) = (n, s)) l.length ?_ ?_
  · exact ⟨_, .refl, 0, 0, 0, _, _, rfl, by omega, by simp⟩
  rintro k _ ⟨i, n, s, rows, clk, rfl, hik, hF⟩
  have hni : n ≤ i := by have := hb i; rw [hF] at this; exact this
  refine W.sreg (fun K hK => ?_); simp (disch := omega) [gA, wA]; refine W.lv [0, 3, 4, 7, 8, 9] hK fun J j => ?_; clear hK K; simp; refine j _ ?_; clear j J
  refine W.seq ?_
  refine W.cond ⟨_, rfl, fun h => ?_, fun h => ?_⟩
  · have hi : i < l.length := by simp at h; omega
    have hs1 := hst i hi
    rw [hF] at hs1
    generalize hx : nth l i = x at *
    refine W.skip ?_
    refine W.seq_blockJ (fun σ => ∃ (n' : Nat) (s' : Int) (rows : Pm.Rows) (clk : Nat), σ = ⟨fa [(0, sls i64e l), (3, .int .i64 n'), (4, .int .i64 s'), (7, .int .i64 l.length), (8, .int .i64 i)], rows, clk⟩ ∧ vst (n, s) x = (n', s')) ?_ ?_
    · refine W.sreg (fun K hK => ?_); simp (disch := omega) [gA, wA]; refine W.lv [0, 3, 4, 5, 7, 8] hK fun J j => ?_; clear hK K; simp; refine j _ ?_; clear j J
      refine W.sreg (fun K hK => ?_); simp (disch := omega) [gA, wA, hi, hx, i64_nth]; refine W.lv [0, 3, 4, 5, 7, 8, 15] hK fun J j => ?_; clear hK K; simp; refine j _ ?_; clear j J
      refine W.cond ⟨_, rfl, fun h => ?_, fun h => ?_⟩
      · have hx0 : x ≠ 0 := by simpa using h
        refine W.seqJ (fun σ => ∃ (n' : Nat) (rows : Pm.Rows) (clk : Nat), σ = ⟨fa [(0, sls i64e l), (3, .int .i64 n'), (5, .int .i64 i), (7, .int .i64 l.length), (8, .int .i64 i)], rows, clk⟩ ∧ vst (n, s) x = (n', x)) ?_ ?_
        · refine W.sregJ (fun σ => ∃ (b : Bool) (rows : Pm.Rows) (clk : Nat), σ = ⟨fa [(0, sls i64e l), (3, .int .i64 n), (5, .int .i64 i), (7, .int .i64 l.length), (8, .int .i64 i), (25, .bool b)], rows, clk⟩ ∧ b = decide (s ≠ 0 ∧ x ≠ s)) (fun K hK => ?_) ?_
          · by_cases hs0 : s = 0
            · subst hs0
              simp (disch := omega) [gA, wA, hi, hx, i64_nth]
              exact hK _ _ (Gh_fa _ [0, 3, 5, 7, 8, 25]) ⟨_, _, _, rfl, by simp⟩
            · have hb1 : (s != 0) = true := by simpa using hs0
              simp (disch := omega) [gA, wA, hi, hx, i64_nth, hb1]
              exact hK _ _ (Gh_fa _ [0, 3, 5, 7, 8, 25]) ⟨_, _, _, rfl, by simp [hs0]; rfl⟩
          rintro _ ⟨b, rows, clk, rfl, rfl⟩
          refine W.cond ⟨_, rfl, fun h => ?_, fun h => ?_⟩
          · have h := of_decide_eq_true h
            refine W.reg (fun K hK => ?_); simp (disch := omega) [gA, wA]
            exact hK _ ⟨_, Gh_fa _ [0, 3, 5, 7, 8], n + 1, _, _, rfl, by unfold vst; rw [if_neg hx0]; simp only; rw [if_pos h]⟩
          · have h := of_decide_eq_false h
            refine W.skip ?_
            exact ⟨_, Gh_fa _ [0, 3, 5, 7, 8], n, _, _, rfl, by unfold vst; rw [if_neg hx0]; simp only; rw [if_neg h]⟩
        rintro _ ⟨n', rows, clk, rfl, hn'⟩
        refine W.reg (fun K hK => ?_); simp (disch := omega) [gA, wA, hi, hx, i64_nth]
        exact hK _ ⟨_, Gh_fa _ [0, 3, 4, 7, 8], n', x, _, _, rfl, hn'⟩
      · have hx0 : x = 0 := by simpa using h
        refine W.skip ?_
        exact ⟨_, Gh_fa _ [0, 3, 4, 7, 8], n, s, _, _, rfl, by unfold vst; rw [if_pos hx0]⟩
    rintro _ ⟨n', s', rows, clk, rfl, hn'⟩
    refine W.reg (fun K hK => ?_); simp (disch := omega) [gA, wA]
    refine hK _ ⟨k - 1, _, Gh_fa _ [0, 3, 4, 7, 8], by omega, i + 1, n', s', _, _, rfl, by omega, by rw [hs1, hn']⟩
  · have hi : i = l.length := by simp at h; omega
    subst hi
    refine W.exit ?_; simp only [pX, if_true, if_false, reduceIte, Nat.reduceEqDiff]
    refine W.sreg (fun K hK => ?_); simp (disch := omega) [gA, wA]; refine W.lv [2] hK fun J j => ?_; clear hK K; simp; refine j _ ?_; clear j J
    rw [hF]
    refine W.ret ?_
    simp [go]
end Go.Proofs.YtmdcopgjjfihnaaGreat
