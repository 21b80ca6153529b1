import Derived.Test.YtdiladmkbpnhoaaGreatLgb
import Derived.Test.YtdiladmkbpnhoaaGreatLgd
set_option linter.unusedSimpArgs false
set_option linter.unusedVariables false
namespace Go.Proofs.YtdiladmkbpnhoaaGreat
open Go Pm
open ZX hiding N W
def vst (st : Nat × Int) (s : Int) : Nat × Int := if s = 0 then st else (if st.2 ≠ 0 ∧ s ≠ st.2 then st.1 + 1 else st.1, s)
def vr (l : List Int) : Nat := (l.foldl vst (0, 0)).1
theorem vst_le (l : List Int) : ∀ st : Nat × Int, (l.foldl vst st).1 ≤ st.1 + l.length := by
 induction l with
 | nil => intro st; simp
 | cons s l ih =>
  intro st
  have h := ih (vst st s)
  have : (vst st s).1 ≤ st.1 + 1 := by
   unfold vst
   split
   ·omega
   ·simp only; split <;> omega
  simp only [List.foldl_cons, List.length_cons]
  omega
theorem vr_le (l : List Int) : vr l ≤ l.length := by have := vst_le l (0, 0); simpa [vr] using this
theorem fold_step {l : List Int} {i : Nat} (h : i < l.length) : (l.take (i + 1)).foldl vst (0, 0) = vst ((l.take i).foldl vst (0, 0)) (nth l i) := by
 rw [List.take_add_one, List.getElem?_eq_getElem h, nth_eq h, List.foldl_append]
 rfl
theorem i64_nth (l : List Int) (i : Nat) : i64e (nth l i) = [.int .i64 (nth l i)] := rfl
theorem qturns_ret (l : List Int) (hl : l.length < 1099511627776) : Ret env.P 219 [sls i64e l] (.int .i64 (vr l)) := by
 have hv : vr l = ((l.take l.length).foldl vst (0, 0)).1 := by rw [List.take_length]; rfl
 rw [hv]
 have hb : ∀ i, ((l.take i).foldl vst (0, 0)).1 ≤ i := fun i => by have := vst_le (l.take i) (0, 0); simp at this; omega
 have hst := fun i (h : i < l.length) => fold_step h
 generalize (fun i => (l.take i).foldl vst (0, 0)) = F at *
 refine ret_of_Wf (E := env) (fun _ => 0) [(0, sls i64e l)] Tryz.func219 rfl (by kernel_rfl) (by kernel_rfl) (show 1 ≤ 34 by decide) (by simp) ?_
 refine W.sreg (fun K hK => ?_); simp (disch := omega) [gA, wA]; refine W.lv [0] hK fun J j => ?_; clear hK K; simp; refine j _ ?_; clear j J
 refine W.sreg (fun K hK => ?_); simp (disch := omega) [gA, wA]; refine W.lv [0, 3, 4] hK fun J j => ?_; clear hK K; simp; refine j _ ?_; clear j J
 refine W.seq ?_
 refine W.sreg (fun K hK => ?_); simp (disch := omega) [gA, wA]; refine W.lv [0, 3, 4, 7, 8] hK fun J j => ?_; clear hK K; simp; refine j _ ?_; clear j J
 refine W.block ?_
 refine W.loopG (fun k σ => ∃ (i : Nat) (n : Nat) (s : Int) (rows : Pm.Rows) (clk : Nat), σ = ⟨fa [(0, sls i64e l), (3, .int .i64 n), (4, .int .i64 s), (7, .int .i64 l.length), (8, .int .i64 i)], rows, clk⟩ ∧ i + k = l.length ∧ (l.take i).foldl vst (0, 0) = (n, s)) l.length ?_ ?_
 ·exact ⟨_, .refl, 0, 0, 0, _, _, rfl, by omega, by simp⟩
 rintro k _ ⟨i, n, s, rows, clk, rfl, hik, hF⟩
 have hni : n ≤ i := by have := hb i; rw [hF] at this; exact this
 refine W.sreg (fun K hK => ?_); simp (disch := omega) [gA, wA]; refine W.lv [0, 3, 4, 7, 8, 9] hK fun J j => ?_; clear hK K; simp; refine j _ ?_; clear j J
 refine W.seq ?_
 refine W.cond ⟨_, rfl, fun h => ?_, fun h => ?_⟩
 ·have hi : i < l.length := by simp at h; omega
  have hs1 := hst i hi
  rw [hF] at hs1
  generalize hx : nth l i = x at *
  refine W.skip ?_
  refine W.seq_blockJ (fun σ => ∃ (n' : Nat) (s' : Int) (rows : Pm.Rows) (clk : Nat), σ = ⟨fa [(0, sls i64e l), (3, .int .i64 n'), (4, .int .i64 s'), (7, .int .i64 l.length), (8, .int .i64 i)], rows, clk⟩ ∧ vst (n, s) x = (n', s')) ?_ ?_
  ·refine W.sreg (fun K hK => ?_); simp (disch := omega) [gA, wA]; refine W.lv [0, 3, 4, 5, 7, 8] hK fun J j => ?_; clear hK K; simp; refine j _ ?_; clear j J
   refine W.sreg (fun K hK => ?_); simp (disch := omega) [gA, wA, hi, hx, i64_nth]; refine W.lv [0, 3, 4, 5, 7, 8, 15] hK fun J j => ?_; clear hK K; simp; refine j _ ?_; clear j J
   refine W.cond ⟨_, rfl, fun h => ?_, fun h => ?_⟩
   ·have hx0 : x ≠ 0 := by simpa using h
    refine W.seqJ (fun σ => ∃ (n' : Nat) (rows : Pm.Rows) (clk : Nat), σ = ⟨fa [(0, sls i64e l), (3, .int .i64 n'), (5, .int .i64 i), (7, .int .i64 l.length), (8, .int .i64 i)], rows, clk⟩ ∧ vst (n, s) x = (n', x)) ?_ ?_
    ·refine W.sregJ (fun σ => ∃ (b : Bool) (rows : Pm.Rows) (clk : Nat), σ = ⟨fa [(0, sls i64e l), (3, .int .i64 n), (5, .int .i64 i), (7, .int .i64 l.length), (8, .int .i64 i), (25, .bool b)], rows, clk⟩ ∧ b = decide (s ≠ 0 ∧ x ≠ s)) (fun K hK => ?_) ?_
     ·by_cases hs0 : s = 0
      ·subst hs0
       simp (disch := omega) [gA, wA, hi, hx, i64_nth]
       exact hK _ _ (Gh_fa _ [0, 3, 5, 7, 8, 25]) ⟨_, _, _, rfl, by simp⟩
      ·have hb1 : (s != 0) = true := by simpa using hs0
       simp (disch := omega) [gA, wA, hi, hx, i64_nth, hb1]
       exact hK _ _ (Gh_fa _ [0, 3, 5, 7, 8, 25]) ⟨_, _, _, rfl, by simp [hs0]; rfl⟩
     rintro _ ⟨b, rows, clk, rfl, rfl⟩
     refine W.cond ⟨_, rfl, fun h => ?_, fun h => ?_⟩
     ·have h := of_decide_eq_true h
      refine W.reg (fun K hK => ?_); simp (disch := omega) [gA, wA]
      exact hK _ ⟨_, Gh_fa _ [0, 3, 5, 7, 8], n + 1, _, _, rfl, by unfold vst; rw [if_neg hx0]; simp only; rw [if_pos h]⟩
     ·have h := of_decide_eq_false h
      refine W.skip ?_
      exact ⟨_, Gh_fa _ [0, 3, 5, 7, 8], n, _, _, rfl, by unfold vst; rw [if_neg hx0]; simp only; rw [if_neg h]⟩
    rintro _ ⟨n', rows, clk, rfl, hn'⟩
    refine W.reg (fun K hK => ?_); simp (disch := omega) [gA, wA, hi, hx, i64_nth]
    exact hK _ ⟨_, Gh_fa _ [0, 3, 4, 7, 8], n', x, _, _, rfl, hn'⟩
   ·have hx0 : x = 0 := by simpa using h
    refine W.skip ?_
    exact ⟨_, Gh_fa _ [0, 3, 4, 7, 8], n, s, _, _, rfl, by unfold vst; rw [if_pos hx0]⟩
  rintro _ ⟨n', s', rows, clk, rfl, hn'⟩
  refine W.reg (fun K hK => ?_); simp (disch := omega) [gA, wA]
  refine hK _ ⟨k - 1, _, Gh_fa _ [0, 3, 4, 7, 8], by omega, i + 1, n', s', _, _, rfl, by omega, by rw [hs1, hn']⟩
 ·have hi : i = l.length := by simp at h; omega
  subst hi
  refine W.exit ?_; simp only [pX, if_true, if_false, reduceIte, Nat.reduceEqDiff]
  refine W.sreg (fun K hK => ?_); simp (disch := omega) [gA, wA]; refine W.lv [2] hK fun J j => ?_; clear hK K; simp; refine j _ ?_; clear j J
  rw [hF]
  refine W.ret ?_
  simp [go]
end Go.Proofs.YtdiladmkbpnhoaaGreat
namespace Go.Proofs.YtdiladmkbpnhoaaGreat
open Go Pm
open ZX hiding N W
def eL (x : List Int) : Int := if x.length % 2 = 0 then -(lead x).sign else (lead x).sign
def eR (x : List Int) : Int := (lead x).sign
def sgs (c : List ZX) (n d : Int) : List Int := c.map fun p => sgA p.l n d
def sgL (c : List ZX) : List Int := c.map fun p => eL p.l
def sgR (c : List ZX) : List Int := c.map fun p => eR p.l
theorem app_i64 {l : List Int} {v : Int} : emap i64e l ++ [[.int .i64 v]] = emap i64e (l ++ [v]) := by simp [emap, i64e]
theorem take_map_succ {α : Type} [Inhabited α] (f : α → Int) {c : List α} {i : Nat} (h : i < c.length) : (c.take i).map f ++ [f (nth c i)] = (c.take (i + 1)).map f := by
 rw [List.take_add_one, List.getElem?_eq_getElem h, nth_eq h, List.map_append]; rfl
theorem TurnsAt_ret {c : List ZX} {n d : Int} (hl : c.length < 1000000) (hS : ∀ p ∈ c, Ret env.P 57 [PI p.l, R2 n d] (.int .i64 (sgA p.l n d))) : Ret env.P 207 [sls zq c, R2 n d] (.int .i64 (vr (sgs c n d))) := by
 have hT := qturns_ret (sgs c n d) (by simp [sgs]; omega)
 have hcl : (emap i64e (sgs c n d)).length = c.length := by simp [sgs, emap]
 have htk : (sgs c n d) = (c.take c.length).map fun p => sgA p.l n d := by rw [List.take_length]; rfl
 have htG : (sgs c n d).take c.length = sgs c n d := List.take_of_length_le (by simp [sgs])
 generalize vr (sgs c n d) = r at *
 generalize hg : sgs c n d = G at *
 refine ret_of_Wf (E := env) (fun _ => 0) [(0, sls zq c), (1, R2 n d)] Tryz.func207 rfl (by kernel_rfl) (by kernel_rfl) (show 2 ≤ 24 by decide) (by simp) ?_
 refine W.sreg (fun K hK => ?_); simp (disch := omega) [gA, wA]; refine W.lv [0, 3] hK fun J j => ?_; clear hK K; simp; refine j _ ?_; clear j J
 refine W.sreg (fun K hK => ?_); simp (disch := omega) [gA, wA]; refine W.lv [0, 3, 5] hK fun J j => ?_; clear hK K; simp; refine j _ ?_; clear j J
 refine W.nil 5 5 3 1 (by simp) (by decide) (fun K hK => ?_)
 refine W.lv [0, 3, 5] hK fun J j => ?_; clear hK K; simp; refine j _ ?_; clear j J
 refine W.seq ?_
 refine W.sreg (fun K hK => ?_); simp (disch := omega) [gA, wA]; refine W.lv [0, 3, 5, 8, 9] hK fun J j => ?_; clear hK K; simp; refine j _ ?_; clear j J
 refine W.block ?_
 refine W.loopG (fun k σ => ∃ (i ver v3 e3 : Nat) (rows : Pm.Rows) (clk : Nat), σ = ⟨fa [(0, sls zq c), (3, .ptr 3 v3 0 0), (5, .own 5 ver 0 i), (8, .int .i64 c.length), (9, .int .i64 i)], rows, clk⟩ ∧ i + k = c.length ∧
  rows 3 = some ⟨v3, e3, 4, [[sls i64e (dig DD n.natAbs), .bool (decide (n < 0)), sls i64e (dig DD d.natAbs), .bool (decide (d < 0))]]⟩ ∧ rows 5 = some ⟨ver, 3, 1, emap i64e ((c.take i).map fun p => sgA p.l n d)⟩) c.length ?_ ?_
 ·exact ⟨_, .refl, 0, _, _, _, _, _, rfl, by omega, by simp; first | exact ⟨rfl, rfl⟩ | exact rfl, by simp [emap]⟩
 rintro k _ ⟨i, ver, v3, e3, rows, clk, rfl, hik, hr3, hr5⟩
 have hil : ((c.take i).map fun p => sgA p.l n d).length = i := by simp; omega
 refine W.sreg (fun K hK => ?_); simp (disch := omega) [gA, wA]; refine W.lv [0, 3, 5, 8, 9, 10] hK fun J j => ?_; clear hK K; simp; refine j _ ?_; clear j J
 refine W.seq ?_
 refine W.cond ⟨_, rfl, fun h => ?_, fun h => ?_⟩
 ·have hi : i < c.length := by simp at h; omega
  have hSi := hS _ (nth_mem hi)
  have hap := take_map_succ (fun p : ZX => sgA p.l n d) hi
  generalize hpr : (c.take i).map (fun p => sgA p.l n d) = pr at *
  generalize hv : sgA (nth c i).l n d = v at *
  have hel : (emap i64e pr).length = i := by simp [emap, hil]
  refine W.skip ?_
  refine W.seq ?_
  refine W.block ?_
  refine W.sreg (fun K hK => ?_); simp (disch := omega) [gA, wA]; refine W.lv [0, 3, 5, 6, 8, 9] hK fun J j => ?_; clear hK K; simp; refine j _ ?_; clear j J
  refine W.drw (fun K hK => ?_)
  simp (disch := omega) [gA, wA, hi, hr3, hr5]
  refine callR hSi ?_
  simp (disch := omega) [gA, wA, hr5, hel, app_i64]
  (try (refine stepTxt (of_decide_eq_true (by kernel_rfl)) ?_)); (try simp (maxSteps := 4000000) (disch := omega) [gA, wA, hr5, hel, app_i64]); (repeat rw [if_pos (by kernel_rfl)]); (try simp (maxSteps := 4000000) (disch := omega) [gA, wA, hr5, hel, app_i64])
  refine W.lv [0, 3, 5, 8, 9] hK fun J j => ?_; clear hK K; simp; refine j _ ?_; clear j J
  refine W.reg (fun K hK => ?_); simp (disch := omega) [gA, wA]
  refine hK _ ⟨k - 1, _, Gh_fa _ [0, 3, 5, 8, 9], by omega, i + 1, _, v3, e3, _, _, rfl, by omega, by simp [hr3], by simp [app_i64, hap]⟩
 ·have hi : i = c.length := by simp at h; omega
  subst hi
  rw [← htk] at hr5
  refine W.exit ?_; simp only [pX, if_true, if_false, reduceIte, Nat.reduceEqDiff]
  refine W.sreg (fun K hK => ?_)
  simp (disch := omega) [gA, wA, hr5, hcl, htG]
  refine callR hT ?_
  simp (disch := omega) [gA, wA]
  refine W.lv [4] hK fun J j => ?_; clear hK K; simp; refine j _ ?_; clear j J
  refine W.ret ?_
  simp [go]
theorem Between_ret {c : List ZX} {n d m e : Int} (hn : sz 2 n ≤ YY) (hd : sz 2 d ≤ YY) (hm : sz 2 m ≤ YY) (he : sz 2 e ≤ YY) (hl : c.length < 1000000) (h1 : Ret env.P 207 [sls zq c, R2 n d] (.int .i64 (vr (sgs c n d)))) (h2 : Ret env.P 207 [sls zq c, R2 m e] (.int .i64 (vr (sgs c m e)))) :
  Ret env.P 143 [sls zq c, R2 n d, R2 m e] (.int .i64 (if m * d < n * e then 0 else (vr (sgs c n d) : Int) - vr (sgs c m e))) := by
 have c1 := CmpR2_ret m e n d hm he hn hd
 have v1 := vr_le (sgs c n d)
 have v2 := vr_le (sgs c m e)
 have l1 : (sgs c n d).length = c.length := by simp [sgs]
 have l2 : (sgs c m e).length = c.length := by simp [sgs]
 generalize vr (sgs c n d) = a at *
 generalize vr (sgs c m e) = b at *
 have hc : (cmp3 (m * d) (n * e) < 0) ↔ m * d < n * e := by
  unfold cmp3; split
  ·omega
  ·split <;> omega
 generalize m * d = xx at *
 generalize n * e = yy at *
 generalize cmp3 xx yy = z at *
 refine ret_of_Wf (E := env) (fun _ => 0) [(0, sls zq c), (1, R2 n d), (2, R2 m e)] Tryz.func143 rfl (by kernel_rfl) (by kernel_rfl) (show 3 ≤ 18 by decide) (by simp) ?_
 refine W.sreg (fun K hK => ?_); simp (disch := omega) [gA, wA]; refine W.lv [0, 4, 5] hK fun J j => ?_; clear hK K; simp; refine j _ ?_; clear j J
 refine W.seq ?_
 refine W.sreg (fun K hK => ?_)
 simp (disch := omega) [gA, wA]
 refine callR c1 ?_
 simp (disch := omega) [gA, wA]
 refine W.lv [0, 4, 5, 10] hK fun J j => ?_; clear hK K; simp; refine j _ ?_; clear j J
 refine W.cond ⟨_, rfl, fun h => ?_, fun h => ?_⟩
 ·have h : z < 0 := by simpa using h
  rw [if_pos (hc.1 h)]
  refine W.sreg (fun K hK => ?_); simp (disch := omega) [gA, wA]; refine W.lv [6] hK fun J j => ?_; clear hK K; simp; refine j _ ?_; clear j J
  refine W.ret ?_
  simp [go]
 ·have h : ¬ z < 0 := by simpa using h
  rw [if_neg (fun hh => h (hc.2 hh))]
  refine W.skip ?_
  refine W.sdrw (fun K hK => ?_)
  simp (disch := omega) [gA, wA]
  refine callR h1 ?_
  simp (disch := omega) [gA, wA]
  refine callR h2 ?_
  simp (disch := omega) [gA, wA]
  refine W.lv [6] hK fun J j => ?_; clear hK K; simp; refine j _ ?_; clear j J
  refine W.ret ?_
  simp [go]
theorem ToR_ret {n d : Int} (hn : Z n) (hd : Z d) : Ret env.P 49 [R2 n d] (T2 n d) := by
 have t1 := rTo_ret n hn
 have t2 := rTo_ret d hd
 refine ret_of_Wf (E := env) (fun _ => 0) [(0, R2 n d)] Tryz.func49 rfl (by kernel_rfl) (by kernel_rfl) (show 1 ≤ 10 by decide) (by simp) ?_
 refine W.sreg (fun K hK => ?_); simp (disch := omega) [gA, wA]; refine W.lv [1, 2] hK fun J j => ?_; clear hK K; simp; refine j _ ?_; clear j J
 refine W.sdrw (fun K hK => ?_)
 simp (disch := omega) [gA, wA]
 refine callR t1 ?_
 simp (disch := omega) [gA, wA]
 refine callR t2 ?_
 simp (disch := omega) [gA, wA]
 (try (refine stepTxt (of_decide_eq_true (by kernel_rfl)) ?_)); (try simp (maxSteps := 4000000) (disch := omega) [gA, wA]); (repeat rw [if_pos (by kernel_rfl)]); (try simp (maxSteps := 4000000) (disch := omega) [gA, wA])
 refine W.lv [2] hK fun J j => ?_; clear hK K; simp; refine j _ ?_; clear j J
 refine W.ret ?_
 simp [go]
end Go.Proofs.YtdiladmkbpnhoaaGreat
namespace Go.Proofs.YtdiladmkbpnhoaaGreat
open Go Pm
open ZX hiding N W
abbrev CH (c : List ZX) : PV := .rd [sls zp c]
theorem fold_sgs {l : List Int} (hs : ∀ s ∈ l, s = -1 ∨ s = 0 ∨ s = 1) : ∀ i, i ≤ l.length → ((l.take i).foldl vst (0, 0)).2 = -1 ∨ ((l.take i).foldl vst (0, 0)).2 = 0 ∨ ((l.take i).foldl vst (0, 0)).2 = 1
 | 0, _ => .inr (.inl (by simp))
 | i + 1, h => by
  rw [fold_step (by omega)]
  have ih := fold_sgs hs i (by omega)
  have := hs _ (nth_mem (show i < l.length by omega))
  unfold vst
  split
  ·exact ih
  ·exact this
theorem cturns_ret (g : FuncId) (hw : mutF g = false) (caps : List PV) (hc : caps.all pers = true) (c : List ZX) (sg : ZX → Int) (hl : c.length < 1000000) (hs : ∀ p ∈ c, sg p = -1 ∨ sg p = 0 ∨ sg p = 1) (hg : ∀ p ∈ c, Ret env.P g (Po p.l :: caps) (.int .i64 (sg p))) :
  Ret env.P 191 [CH c, .fn g caps] (.int .i64 (vr (c.map sg))) := by
 have hv : vr (c.map sg) = (((c.map sg).take c.length).foldl vst (0, 0)).1 := by rw [List.take_of_length_le (by simp)]; rfl
 rw [hv]
 have hb : ∀ i, (((c.map sg).take i).foldl vst (0, 0)).1 ≤ i := fun i => by have := vst_le ((c.map sg).take i) (0, 0); simp at this; omega
 have hst := fun i (h : i < (c.map sg).length) => fold_step h
 have hsg := fold_sgs (l := c.map sg) (fun s h => by
  simp only [List.mem_map] at h
  obtain ⟨p, hp, rfl⟩ := h
  exact hs p hp)
 have hln : (c.map sg).length = c.length := by simp
 have hnth : ∀ i, i < c.length → nth (c.map sg) i = sg (nth c i) := fun i hi => by rw [nth_eq (by simpa using hi), nth_eq hi]; simp
 refine ret_of_Wf (E := env) (fun _ => 0) [(0, CH c), (1, .fn g caps)] Tryz.func191 rfl (by kernel_rfl) (by kernel_rfl) (show 2 ≤ 33 by decide) (by simp) ?_
 refine W.sreg (fun K hK => ?_); simp (disch := omega) [gA, wA]; refine W.lv [0, 1] hK fun J j => ?_; clear hK K; simp; refine j _ ?_; clear j J
 refine W.sreg (fun K hK => ?_); simp (disch := omega) [gA, wA]; refine W.lv [0, 1, 5, 6] hK fun J j => ?_; clear hK K; simp; refine j _ ?_; clear j J
 refine W.seq ?_
 refine W.sreg (fun K hK => ?_); simp (disch := omega) [gA, wA]; refine W.lv [1, 5, 6, 13, 14, 15] hK fun J j => ?_; clear hK K; simp; refine j _ ?_; clear j J
 refine W.block ?_
 refine W.loopG (fun k σ => ∃ (i : Nat) (n : Nat) (s : Int) (rows : Pm.Rows) (clk : Nat), σ = ⟨fa [(1, .fn g caps), (5, .int .i64 n), (6, .int .i64 s), (13, sls zp c), (14, .int .i64 c.length), (15, .int .i64 i)], rows, clk⟩ ∧ i + k = c.length ∧ ((c.map sg).take i).foldl vst (0, 0) = (n, s)) c.length ?_ ?_
 ·exact ⟨_, .refl, 0, 0, 0, _, _, rfl, by omega, by simp⟩
 rintro k _ ⟨i, n, s, rows, clk, rfl, hik, hF⟩
 have hni : n ≤ i := by have := hb i; rw [hF] at this; exact this
 have hsv := hsg i (by omega)
 rw [hF] at hsv
 simp only at hsv
 refine W.sreg (fun K hK => ?_); simp (disch := omega) [gA, wA]; refine W.lv [1, 5, 6, 13, 14, 15, 16] hK fun J j => ?_; clear hK K; simp; refine j _ ?_; clear j J
 refine W.seq ?_
 refine W.cond ⟨_, rfl, fun h => ?_, fun h => ?_⟩
 ·have hi : i < c.length := by simp at h; omega
  have hs1 := hst i (by omega)
  have hgi := hg _ (nth_mem hi)
  have hxv := hs _ (nth_mem hi)
  rw [hF, hnth i hi] at hs1
  generalize hx : sg (nth c i) = x at *
  refine W.skip ?_
  refine W.seq_blockJ (fun σ => ∃ (n' : Nat) (s' : Int) (rows : Pm.Rows) (clk : Nat), σ = ⟨fa [(1, .fn g caps), (5, .int .i64 n'), (6, .int .i64 s'), (13, sls zp c), (14, .int .i64 c.length), (15, .int .i64 i)], rows, clk⟩ ∧ vst (n, s) x = (n', s')) ?_ ?_
  ·refine W.sreg (fun K hK => ?_); simp (disch := omega) [gA, wA, hi]; refine W.lv [1, 5, 6, 8, 13, 14, 15] hK fun J j => ?_; clear hK K; simp; refine j _ ?_; clear j J
   refine W.sreg (fun K hK => ?_)
   simp only [mutF] at hw
   simp (disch := omega) [gA, wA, hw, hc]
   refine callR hgi ?_
   simp (disch := omega) [gA, wA]
   refine W.lv [1, 5, 6, 9, 13, 14, 15] hK fun J j => ?_; clear hK K; simp; refine j _ ?_; clear j J
   refine W.seq ?_
   refine W.sreg (fun K hK => ?_); simp (disch := omega) [gA, wA]; refine W.lv [1, 5, 6, 9, 13, 14, 15, 23] hK fun J j => ?_; clear hK K; simp; refine j _ ?_; clear j J
   refine W.cond ⟨_, rfl, fun h => ?_, fun h => ?_⟩
   ·have hx0 : x = 0 := by simpa using h
    refine W.exit ?_; simp only [pX, if_true, if_false, reduceIte, Nat.reduceEqDiff]
    exact ⟨_, Gh_fa _ [1, 5, 6, 13, 14, 15], n, s, _, _, rfl, by unfold vst; rw [if_pos hx0]⟩
   ·have hx0 : x ≠ 0 := by simpa using h
    refine W.skip ?_
    refine W.seqJ (fun σ => ∃ (n' : Nat) (rows : Pm.Rows) (clk : Nat), σ = ⟨fa [(1, .fn g caps), (5, .int .i64 n'), (9, .int .i64 x), (13, sls zp c), (14, .int .i64 c.length), (15, .int .i64 i)], rows, clk⟩ ∧ vst (n, s) x = (n', x)) ?_ ?_
    ·refine W.sreg (fun K hK => ?_); simp (disch := omega) [gA, wA]; refine W.lv [1, 5, 9, 13, 14, 15, 27] hK fun J j => ?_; clear hK K; simp; refine j _ ?_; clear j J
     refine W.cond ⟨_, rfl, fun h => ?_, fun h => ?_⟩
     ·have h : s = -x := by simpa using h
      refine W.reg (fun K hK => ?_); simp (disch := omega) [gA, wA]
      exact hK _ ⟨_, Gh_fa _ [1, 5, 9, 13, 14, 15], n + 1, _, _, rfl, by unfold vst; rw [if_neg hx0]; simp only; rw [if_pos ⟨by omega, by omega⟩]⟩
     ·have h : ¬ s = -x := by simpa using h
      refine W.skip ?_
      exact ⟨_, Gh_fa _ [1, 5, 9, 13, 14, 15], n, _, _, rfl, by unfold vst; rw [if_neg hx0]; simp only; rw [if_neg (fun hh => by obtain ⟨h1, h2⟩ := hh; omega)]⟩
    rintro _ ⟨n', rows, clk, rfl, hn'⟩
    refine W.reg (fun K hK => ?_); simp (disch := omega) [gA, wA]
    exact hK _ ⟨_, Gh_fa _ [1, 5, 6, 13, 14, 15], n', x, _, _, rfl, hn'⟩
  rintro _ ⟨n', s', rows, clk, rfl, hn'⟩
  refine W.reg (fun K hK => ?_); simp (disch := omega) [gA, wA]
  refine hK _ ⟨k - 1, _, Gh_fa _ [1, 5, 6, 13, 14, 15], by omega, i + 1, n', s', _, _, rfl, by omega, by rw [hs1, hn']⟩
 ·have hi : i = c.length := by simp at h; omega
  subst hi
  refine W.exit ?_; simp only [pX, if_true, if_false, reduceIte, Nat.reduceEqDiff]
  refine W.sreg (fun K hK => ?_); simp (disch := omega) [gA, wA]; refine W.lv [4] hK fun J j => ?_; clear hK K; simp; refine j _ ?_; clear j J
  rw [hF]
  refine W.ret ?_
  simp [go]
theorem hm_bdL {s k u : Nat} {n d : Int} (hn : sz LL n ≤ u) (hd : sz LL d ≤ u) (hu : 1 ≤ u) : ∀ {x : List Int}, Bd LL s k x → sz LL (hm n d x).1 ≤ s + x.length * (u + 1) ∧ sz LL (hm n d x).2 ≤ x.length * u + 1
 | [], _ => ⟨by show sz LL 0 ≤ _; rw [show sz LL 0 = 0 by decide]; omega, by show sz LL 1 ≤ _; exact Nat.le_trans (sz_le (k := 1) hLL (by decide)) (by omega)⟩
 | a :: l, h => by
  obtain ⟨h1, h2⟩ := hm_bdL hn hd hu (x := l) ⟨Nat.le_trans (by simp) h.len, fun c hc => h.sz c (by simp [hc])⟩
  have ha := h.sz a (by simp)
  have e : (a :: l).length * u = l.length * u + u := by rw [List.length_cons, Nat.add_mul]; omega
  have e' : (a :: l).length * (u + 1) = l.length * u + l.length + u + 1 := by rw [List.length_cons, Nat.add_mul, Nat.mul_add]; omega
  have e'' : l.length * (u + 1) = l.length * u + l.length := by rw [Nat.mul_add]; omega
  refine ⟨?_, ?_⟩
  ·have g1 := sz_mul (b := LL) hLL h1 hn
   have g2 := sz_mul (b := LL) hLL ha h2
   have := sz_add (b := LL) hLL (Nat.le_trans g1 (Nat.le_max_left _ (s + (l.length * u + 1)))) (Nat.le_trans g2 (Nat.le_max_right (s + l.length * (u + 1) + u) _))
   refine Nat.le_trans this ?_
   rw [e', e'']
   omega
  ·have := sz_mul (b := LL) hLL h2 hd
   rw [e]
   exact Nat.le_trans this (by omega)
theorem value_ret {x : List Int} {n d : Int} {s k u : Nat} (hx : Bd LL s k x) (hn : sz LL n ≤ u) (hd : sz LL d ≤ u) (hu : 1 ≤ u) (hk : k < 1099511627776) (hB : s + k * (u + 1) + u < 500000000000) : Ret env.P 206 [Po x, I n, I d] (I (hm n d x).1) ∧ Sz (hm n d x).1 := by
 have hl := hx.len
 have hO := Of_ret 1 (by decide) (by decide)
 have bd := fun i => hm_bdL (s := s) (k := k) (x := x.drop i) hn hd hu ⟨by simp; omega, fun c hc => hx.sz c (List.mem_of_mem_drop hc)⟩
 have hle : ∀ i, (x.drop i).length * (u + 1) ≤ k * (u + 1) := fun i => Nat.mul_le_mul_right _ (by simp; omega)
 have hle2 : ∀ i, (x.drop i).length * u ≤ (x.drop i).length * (u + 1) := fun i => Nat.mul_le_mul_left _ (by omega)
 have step : ∀ i, i < x.length → hm n d (x.drop i) = ((hm n d (x.drop (i + 1))).1 * n + nth x i * (hm n d (x.drop (i + 1))).2, (hm n d (x.drop (i + 1))).2 * d) := fun i hi => by
  rw [List.drop_eq_getElem_cons hi, nth_eq hi]; rfl
 have hend : hm n d (x.drop x.length) = (0, 1) := by rw [List.drop_length]; rfl
 have h0 : hm n d (x.drop 0) = hm n d x := rfl
 have hz : Sz (hm n d x).1 := by have := (bd 0).1; have := hle 0; rw [h0] at *; show _ < _; omega
 refine ⟨?_, hz⟩
 have M : ∀ i, i < x.length → Ret env.P 86 [I (hm n d (x.drop (i + 1))).1, I n] (I ((hm n d (x.drop (i + 1))).1 * n)) ∧ Ret env.P 86 [I (nth x i), I (hm n d (x.drop (i + 1))).2] (I (nth x i * (hm n d (x.drop (i + 1))).2)) ∧
   Ret env.P 111 [I ((hm n d (x.drop (i + 1))).1 * n), I (nth x i * (hm n d (x.drop (i + 1))).2)] (I (hm n d (x.drop i)).1) ∧ Ret env.P 86 [I (hm n d (x.drop (i + 1))).2, I d] (I (hm n d (x.drop i)).2) := fun i hi => by
  obtain ⟨b1, b2⟩ := bd (i + 1)
  have l1 := hle (i + 1)
  have l2 := hle2 (i + 1)
  have ha := hx.sz _ (nth_mem hi)
  have g1 := sz_mul (b := LL) hLL b1 hn
  have g2 := sz_mul (b := LL) hLL ha b2
  have zz : ∀ {v : Int}, sz LL v < 1099511627776 → Sz v := fun h => h
  have e := step i hi
  rw [e]
  exact ⟨wMulI (zz (by omega)) (zz (by omega)), wMulI (zz (by omega)) (zz (by omega)), wAddI (zz (by omega)) (zz (by omega)), wMulI (zz (by omega)) (zz (by omega))⟩
 clear bd hle hle2 step hz
 generalize hm n d x = r0 at *
 refine ret_of_Wf (E := env) (fun _ => 0) [(0, Po x), (1, I n), (2, I d)] Tryz.func206 rfl (by kernel_rfl) (by kernel_rfl) (show 3 ≤ 32 by decide) (by simp) ?_
 refine W.sreg (fun K hK => ?_); simp (disch := omega) [gA, wA]; refine W.lv [0, 4, 5, 6] hK fun J j => ?_; clear hK K; simp; refine j _ ?_; clear j J
 refine W.sreg (fun K hK => ?_); simp (disch := omega) [gA, wA]; refine W.lv [0, 4, 5, 6, 7] hK fun J j => ?_; clear hK K; simp; refine j _ ?_; clear j J
 refine W.sreg (fun K hK => ?_)
 simp (disch := omega) [gA, wA]
 refine callR hO ?_
 simp (disch := omega) [gA, wA]
 refine W.lv [0, 4, 5, 6, 7, 8] hK fun J j => ?_; clear hK K; simp; refine j _ ?_; clear j J
 refine W.seq ?_
 refine W.sreg (fun K hK => ?_); simp (disch := omega) [gA, wA]; refine W.lv [0, 4, 5, 6, 7, 8, 9] hK fun J j => ?_; clear hK K; simp; refine j _ ?_; clear j J
 refine W.row (id := 7) (els := [[.bool false, .nil]]) [[.bool (decide ((0 : Int) < 0)), us (dig LL (0 : Int).natAbs)]] (by simp; first | exact ⟨rfl, rfl, rfl⟩ | exact ⟨rfl, rfl⟩ | rfl) ⟨⟨.inl rfl, .inr ⟨rfl, rfl⟩, trivial⟩, trivial⟩ ?_
 refine W.block ?_
 refine W.loopG (fun k σ => ∃ (v4 v5 v6 v7 v8 e4 e5 e6 e7 e8 : Nat) (rows : Pm.Rows) (clk : Nat), σ = ⟨fa [(0, Po x), (4, .ptr 4 v4 0 0), (5, .ptr 5 v5 0 0), (6, .ptr 6 v6 0 0), (7, .ptr 7 v7 0 0), (8, .ptr 8 v8 0 0), (9, .int .i64 ((k : Int) - 1))], rows, clk⟩ ∧ k ≤ x.length ∧
  rows 4 = some ⟨v4, e4, 2, [[.bool (decide (n < 0)), us (dig LL n.natAbs)]]⟩ ∧ rows 5 = some ⟨v5, e5, 2, [[.bool (decide (d < 0)), us (dig LL d.natAbs)]]⟩ ∧ rows 6 = some ⟨v6, e6, 2, [[.bool false, .nil]]⟩ ∧
  rows 7 = some ⟨v7, e7, 2, [[.bool (decide ((hm n d (x.drop k)).1 < 0)), us (dig LL (hm n d (x.drop k)).1.natAbs)]]⟩ ∧
  rows 8 = some ⟨v8, e8, 2, [[.bool (decide ((hm n d (x.drop k)).2 < 0)), us (dig LL (hm n d (x.drop k)).2.natAbs)]]⟩) x.length ?_ ?_
 ·exact ⟨_, .refl, _, _, _, _, _, _, _, _, _, _, _, _, rfl, Nat.le_refl _, by simp; (first | exact ⟨rfl, rfl⟩ | rfl), by simp; (first | exact ⟨rfl, rfl⟩ | rfl), by simp; (first | exact ⟨rfl, rfl⟩ | rfl), by rw [hend]; simp; (first | exact ⟨rfl, rfl⟩ | rfl), by rw [hend]; simp; (first | exact ⟨rfl, rfl⟩ | rfl)⟩
 rintro k _ ⟨v4, v5, v6, v7, v8, e4, e5, e6, e7, e8, rows, clk, rfl, hkl, hr4, hr5, hr6, hr7, hr8⟩
 refine W.seq ?_
 refine W.sreg (fun K hK => ?_); simp (disch := omega) [gA, wA]; refine W.lv [0, 4, 5, 6, 7, 8, 9, 15] hK fun J j => ?_; clear hK K; simp; refine j _ ?_; clear j J
 refine W.cond ⟨_, rfl, fun h => ?_, fun h => ?_⟩
 ·have hk0 : 0 < k := by simp at h; omega
  obtain ⟨k, rfl⟩ : ∃ j, k = j + 1 := ⟨k - 1, by omega⟩
  obtain ⟨m1, m2, m3, m4⟩ := M k (by omega)
  generalize hm n d (x.drop (k + 1)) = A at *
  have e1 : (((k + 1 : Nat) : Int) - 1).toNat = k := by omega
  refine W.skip ?_
  refine W.seq ?_
  refine W.block ?_
  refine W.sdrw (fun K hK => ?_)
  simp (disch := omega) [gA, wA, hr4, hr7]
  refine callR m1 ?_
  simp (disch := omega) [gA, wA, hr8]
  refine callR m2 ?_
  simp (disch := omega) [gA, wA]
  refine callR m3 ?_
  simp (disch := omega) [gA, wA, hr7]
  (try (refine stepTxt (of_decide_eq_true (by kernel_rfl)) ?_)); (try simp (maxSteps := 4000000) (disch := omega) [gA, wA, hr7]); (repeat rw [if_pos (by kernel_rfl)]); (try simp (maxSteps := 4000000) (disch := omega) [gA, wA, hr7])
  refine W.lv [0, 4, 5, 6, 7, 8, 9] hK fun J j => ?_; clear hK K; simp; refine j _ ?_; clear j J
  refine W.reg (fun K hK => ?_)
  simp (disch := omega) [gA, wA, hr8, hr5]
  refine callR m4 ?_
  simp (disch := omega) [gA, wA, hr8]
  refine W.lv [0, 4, 5, 6, 7, 8, 9] hK fun J j => ?_; clear hK K; simp; refine j _ ?_; clear j J
  refine W.reg (fun K hK => ?_); simp (disch := omega) [gA, wA]
  refine hK _ ⟨k, _, Gh_fa _ [0, 4, 5, 6, 7, 8, 9], by omega, v4, v5, v6, v7, v8, _, _, _, _, _, _, _, rfl, by omega, by simp [hr4]; exact rfl, by simp [hr5]; exact rfl, by simp [hr6]; exact rfl, by simp; exact rfl, by simp; exact rfl⟩
 ·have hk0 : k = 0 := by simp at h; omega
  subst hk0
  rw [h0] at hr7
  refine W.exit ?_; simp only [pX, if_true, if_false, reduceIte, Nat.reduceEqDiff]
  refine W.sreg (fun K hK => ?_); simp (disch := omega) [gA, wA, hr7, hr6]; refine W.lv [6] hK fun J j => ?_; clear hK K; simp; refine j _ ?_; clear j J
  refine W.ret ?_
  simp [go]
theorem cmp3_zero (v : Int) : cmp3 v 0 = v.sign := by
 rcases Int.lt_trichotomy v 0 with h | h | h
 ·rw [Int.sign_eq_neg_one_of_neg h, cmp3_lt h]
 ·subst h; decide
 ·rw [Int.sign_eq_one_of_pos h, cmp3_gt h]
theorem pSign_ret {x : List Int} {n d : Int} {s k u : Nat} (hx : Bd LL s k x) (cx : Cn x) (hn : sz LL n ≤ u) (hd : sz LL d ≤ u) (hu : 1 ≤ u) (hk : k < 1099511627774) (hu2 : u < 500000000000) (hB : s + k * (u + 1) + u < 500000000000) {q : Rat} (hq : qmk n d = q) (sq : sz LL q.num ≤ u ∧ sz LL (q.den : Int) ≤ u) : Ret env.P 142 [Po x, T2 n d] (.int .i64 (sgA x q.num q.den)) := by
 have p1 := plain_ret (n := n) (d := d) (Nat.lt_of_le_of_lt hn (by omega)) (Nat.lt_of_le_of_lt hd (by omega))
 rw [hq] at p1
 have n1 := pNormI_ret (x := x) (PB.of hx (by omega) (by omega))
 rw [show cutR x = x from cx] at n1
 obtain ⟨hV, hz⟩ := value_ret hx sq.1 sq.2 hu (by omega) hB
 have c1 := wCmpI (x := (hm q.num q.den x).1) (y := 0) hz (show sz LL 0 < _ by decide)
 rw [cmp3_zero, show (hm q.num q.den x).1.sign = sgA x q.num q.den from rfl] at c1
 replace p1 : Ret env.P 205 [T2 n d] (T2 q.num q.den) := p1
 generalize sgA x q.num q.den = r at *
 generalize (hm q.num q.den x).1 = v at *
 generalize q.num = qn at *
 generalize (q.den : Int) = qd at *
 refine ret_of_Wf (E := env) (fun _ => 0) [(0, Po x), (1, T2 n d)] Tryz.func142 rfl (by kernel_rfl) (by kernel_rfl) (show 2 ≤ 16 by decide) (by simp) ?_
 refine W.sreg (fun K hK => ?_); simp (disch := omega) [gA, wA]; refine W.lv [0, 3] hK fun J j => ?_; clear hK K; simp; refine j _ ?_; clear j J
 refine W.sreg (fun K hK => ?_)
 simp (disch := omega) [gA, wA]
 refine callR p1 ?_
 simp (disch := omega) [gA, wA]
 refine W.lv [0, 3] hK fun J j => ?_; clear hK K; simp; refine j _ ?_; clear j J
 refine W.sdrw (fun K hK => ?_)
 simp (disch := omega) [gA, wA]
 refine callR n1 ?_
 simp (disch := omega) [gA, wA]
 refine callR hV ?_
 simp (disch := omega) [gA, wA]
 refine callR c1 ?_
 simp (disch := omega) [gA, wA]
 refine W.lv [4] hK fun J j => ?_; clear hK K; simp; refine j _ ?_; clear j J
 refine W.ret ?_
 simp [go]
end Go.Proofs.YtdiladmkbpnhoaaGreat
namespace Go.Proofs.YtdiladmkbpnhoaaGreat
open Go Pm
open ZX hiding N W
@[simp] theorem pers_rd {l : List PV} : pers (.rd l) = true := rfl
@[simp] theorem pers1_rd {l : List PV} : pers1 (.rd l) = true := rfl
@[simp] theorem ids1_rd {l : List PV} : ids1 (.rd l) = [] := rfl
@[simp] theorem idsV_rd {l : List PV} : idsV (.rd l) = [] := rfl
@[simp] theorem fz_rd {rows : Pm.Rows} {l : List PV} : fz rows (.rd l) = .rd l := rfl
@[simp] theorem pz_rd {rows : Pm.Rows} {l : List PV} : pz rows (.rd l) = .rd l := rfl
theorem SignK_ret (v : Int) : Ret env.P 216 [I v] (.int .i64 v.sign) := by
 have h1 := Sign_ret (decide (v < 0)) (dig LL v.natAbs)
 have e : (if (dig LL v.natAbs).length = 0 then 0 else if decide (v < 0) = true then -1 else 1 : Int) = v.sign := by
  by_cases h : v = 0
  ·subst h; decide
  ·have : dig LL v.natAbs ≠ [] := fun h2 => h (by have := V_dig hLL v.natAbs; rw [h2] at this; simp [V] at this; omega)
   have h3 := List.length_pos_iff.2 this
   rw [if_neg (by omega)]
   rcases Int.lt_trichotomy v 0 with h4 | h4 | h4
   ·rw [if_pos (by simpa using h4), Int.sign_eq_neg_one_of_neg h4]
   ·exact absurd h4 h
   ·rw [if_neg (by simp; omega), Int.sign_eq_one_of_pos h4]
 rw [e] at h1; exact h1
theorem pEnds_ret {x : List Int} (hx : PB x) (cx : Cn x) : Ret env.P 193 [Po x] (.tup [.int .i64 (eL x), .int .i64 (eR x)]) := by
 have n1 := pNormI_ret hx
 rw [show cutR x = x from cx] at n1
 have l1 := LeadI_ret hx cx
 have hS := SignK_ret (lead x)
 have hl : x.length < 1099511627776 := by have := hx.pok.len; simpa using this
 have hL : eL x = if x.length % 2 = 0 then -(lead x).sign else (lead x).sign := rfl
 have hR : eR x = (lead x).sign := rfl
 have hs : -1 ≤ (lead x).sign ∧ (lead x).sign ≤ 1 := by
  rcases Int.lt_trichotomy (lead x) 0 with h | h | h
  ·rw [Int.sign_eq_neg_one_of_neg h]; decide
  ·rw [h]; decide
  ·rw [Int.sign_eq_one_of_pos h]; decide
 generalize (lead x).sign = s at *
 generalize lead x = lx at *
 generalize eL x = a at *
 generalize eR x = b at *
 refine ret_of_Wf (E := env) (fun _ => 0) [(0, Po x)] Tryz.func193 rfl (by kernel_rfl) (by kernel_rfl) (show 1 ≤ 18 by decide) (by simp) ?_
 refine W.sreg (fun K hK => ?_); simp (disch := omega) [gA, wA]; refine W.lv [0] hK fun J j => ?_; clear hK K; simp; refine j _ ?_; clear j J
 refine W.sreg (fun K hK => ?_)
 simp (disch := omega) [gA, wA]
 refine callR n1 ?_
 simp (disch := omega) [gA, wA]
 refine W.lv [0] hK fun J j => ?_; clear hK K; simp; refine j _ ?_; clear j J
 refine W.sreg (fun K hK => ?_)
 simp (disch := omega) [gA, wA]
 refine callR l1 ?_
 simp (disch := omega) [gA, wA]
 refine callR hS ?_
 simp (disch := omega) [gA, wA]
 refine W.lv [0, 3] hK fun J j => ?_; clear hK K; simp; refine j _ ?_; clear j J
 refine W.seq ?_
 refine W.sregJ (fun σ => ∃ (q : Bool) (rows : Pm.Rows) (clk : Nat), σ = ⟨fa [(3, .int .i64 s), (12, .bool q)], rows, clk⟩ ∧ q = decide (x.length % 2 = 0)) (fun K hK => ?_) ?_
 ·simp (disch := omega) [gA, wA]
  exact hK _ _ (Gh_fa _ [3, 12]) ⟨_, _, _, rfl, by rw [Bool.eq_iff_iff]; simp; omega⟩
 rintro _ ⟨q, rows, clk, rfl, rfl⟩
 refine W.cond ⟨_, rfl, fun h => ?_, fun h => ?_⟩
 ·rw [if_pos (of_decide_eq_true h)] at hL
  subst hL hR
  refine W.sreg (fun K hK => ?_); simp (disch := omega) [gA, wA]; refine W.lv [2, 3] hK fun J j => ?_; clear hK K; simp; refine j _ ?_; clear j J
  refine W.ret ?_
  simp [go]
 ·rw [if_neg (of_decide_eq_false h)] at hL
  subst hL hR
  refine W.skip ?_
  refine W.sreg (fun K hK => ?_); simp (disch := omega) [gA, wA]; refine W.lv [2, 3] hK fun J j => ?_; clear hK K; simp; refine j _ ?_; clear j J
  refine W.ret ?_
  simp [go]
theorem minus1_ret {x : List Int} (hx : PB x) (cx : Cn x) : Ret env.P 192 [Po x] (.int .i64 (eL x)) := by
 have h1 := pEnds_ret hx cx
 generalize eL x = a at *
 generalize eR x = b at *
 refine ret_of_Wf (E := env) (fun _ => 0) [(0, Po x)] Tryz.func192 rfl (by kernel_rfl) (by kernel_rfl) (show 1 ≤ 11 by decide) (by simp) ?_
 refine W.sreg (fun K hK => ?_); simp (disch := omega) [gA, wA]; refine W.lv [0] hK fun J j => ?_; clear hK K; simp; refine j _ ?_; clear j J
 refine W.sreg (fun K hK => ?_)
 simp (disch := omega) [gA, wA]
 refine callR h1 ?_
 simp (disch := omega) [gA, wA]
 refine W.lv [3] hK fun J j => ?_; clear hK K; simp; refine j _ ?_; clear j J
 refine W.sreg (fun K hK => ?_); simp (disch := omega) [gA, wA]; refine W.lv [2] hK fun J j => ?_; clear hK K; simp; refine j _ ?_; clear j J
 refine W.ret ?_
 simp [go]
theorem plus1_ret {x : List Int} (hx : PB x) (cx : Cn x) : Ret env.P 194 [Po x] (.int .i64 (eR x)) := by
 have h1 := pEnds_ret hx cx
 generalize eL x = a at *
 generalize eR x = b at *
 refine ret_of_Wf (E := env) (fun _ => 0) [(0, Po x)] Tryz.func194 rfl (by kernel_rfl) (by kernel_rfl) (show 1 ≤ 11 by decide) (by simp) ?_
 refine W.sreg (fun K hK => ?_); simp (disch := omega) [gA, wA]; refine W.lv [0] hK fun J j => ?_; clear hK K; simp; refine j _ ?_; clear j J
 refine W.sreg (fun K hK => ?_)
 simp (disch := omega) [gA, wA]
 refine callR h1 ?_
 simp (disch := omega) [gA, wA]
 refine W.lv [4] hK fun J j => ?_; clear hK K; simp; refine j _ ?_; clear j J
 refine W.sreg (fun K hK => ?_); simp (disch := omega) [gA, wA]; refine W.lv [2] hK fun J j => ?_; clear hK K; simp; refine j _ ?_; clear j J
 refine W.ret ?_
 simp [go]
theorem sgn3 (v : Int) : v.sign = -1 ∨ v.sign = 0 ∨ v.sign = 1 := by
 rcases Int.lt_trichotomy v 0 with h | h | h
 ·exact .inl (Int.sign_eq_neg_one_of_neg h)
 ·rw [h]; exact .inr (.inl rfl)
 ·exact .inr (.inr (Int.sign_eq_one_of_pos h))
theorem eL3 (x : List Int) : eL x = -1 ∨ eL x = 0 ∨ eL x = 1 := by
 have := sgn3 (lead x)
 unfold eL; split <;> omega
theorem cTurns_ret {c : List ZX} (hl : c.length < 1000000) {n d : Int} {q : Rat} (hS : ∀ p ∈ c, Ret env.P 142 [Po p.l, T2 n d] (.int .i64 (sgA p.l q.num q.den))) : Ret env.P 120 [CH c, T2 n d] (.int .i64 (vr (sgs c q.num q.den))) := by
 have hT1 : ∀ p ∈ c, Ret env.P 195 [Po p.l, .rd [.bool (decide (n < 0)), us (dig LL n.natAbs), .bool (decide (d < 0)), us (dig LL d.natAbs)]] (.int .i64 (sgA p.l q.num q.den)) := fun p hp => by
  have h1 := hS p hp
  generalize sgA p.l q.num q.den = r at *
  generalize p.l = x at *
  refine ret_of_Wf (E := env) (fun _ => 0) [(0, Po x), (1, .rd [.bool (decide (n < 0)), us (dig LL n.natAbs), .bool (decide (d < 0)), us (dig LL d.natAbs)])] Tryz.func195 rfl (by kernel_rfl) (by kernel_rfl) (show 2 ≤ 7 by decide) (by simp) ?_
  refine W.sreg (fun K hK => ?_); simp (disch := omega) [gA, wA]; refine W.lv [0, 1] hK fun J j => ?_; clear hK K; simp; refine j _ ?_; clear j J
  refine W.sreg (fun K hK => ?_)
  simp (disch := omega) [gA, wA]
  refine callR h1 ?_
  simp (disch := omega) [gA, wA]
  refine W.lv [3] hK fun J j => ?_; clear hK K; simp; refine j _ ?_; clear j J
  refine W.ret ?_
  simp [go]
 have h1 := cturns_ret 195 rfl [.rd [.bool (decide (n < 0)), us (dig LL n.natAbs), .bool (decide (d < 0)), us (dig LL d.natAbs)]] rfl c (fun p => sgA p.l q.num q.den) hl (fun p hp => sgn3 _) hT1
 rw [show c.map (fun p => sgA p.l q.num q.den) = sgs c q.num q.den from rfl] at h1
 generalize vr (sgs c q.num q.den) = r at *
 refine ret_of_Wf (E := env) (fun _ => 0) [(0, CH c), (1, T2 n d)] Tryz.func120 rfl (by kernel_rfl) (by kernel_rfl) (show 2 ≤ 8 by decide) (by simp) ?_
 refine W.sreg (fun K hK => ?_); simp (disch := omega) [gA, wA]; refine W.lv [0, 3] hK fun J j => ?_; clear hK K; simp; refine j _ ?_; clear j J
 refine W.sreg (fun K hK => ?_)
 simp (disch := omega) [gA, wA]
 refine callR h1 ?_
 simp (disch := omega) [gA, wA]
 refine W.lv [4] hK fun J j => ?_; clear hK K; simp; refine j _ ?_; clear j J
 refine W.ret ?_
 simp [go]
theorem cBetween_ret {c : List ZX} (hl : c.length < 1000000) {n d m e : Int} {p q : Rat} {z : Int} (hz : Ret env.P 121 [T2 m e, T2 n d] (.int .i64 z)) (h1 : Ret env.P 120 [CH c, T2 n d] (.int .i64 (vr (sgs c p.num p.den)))) (h2 : Ret env.P 120 [CH c, T2 m e] (.int .i64 (vr (sgs c q.num q.den)))) :
  Ret env.P 52 [CH c, T2 n d, T2 m e] (.int .i64 (if z < 0 then 0 else (vr (sgs c p.num p.den) : Int) - vr (sgs c q.num q.den))) := by
 have v1 := vr_le (sgs c p.num p.den)
 have v2 := vr_le (sgs c q.num q.den)
 have l1 : (sgs c p.num p.den).length = c.length := by simp [sgs]
 have l2 : (sgs c q.num q.den).length = c.length := by simp [sgs]
 generalize vr (sgs c p.num p.den) = a at *
 generalize vr (sgs c q.num q.den) = b at *
 refine ret_of_Wf (E := env) (fun _ => 0) [(0, CH c), (1, T2 n d), (2, T2 m e)] Tryz.func52 rfl (by kernel_rfl) (by kernel_rfl) (show 3 ≤ 18 by decide) (by simp) ?_
 refine W.sreg (fun K hK => ?_); simp (disch := omega) [gA, wA]; refine W.lv [0, 4, 5] hK fun J j => ?_; clear hK K; simp; refine j _ ?_; clear j J
 refine W.seq ?_
 refine W.sreg (fun K hK => ?_)
 simp (disch := omega) [gA, wA]
 refine callR hz ?_
 simp (disch := omega) [gA, wA]
 refine W.lv [0, 4, 5, 10] hK fun J j => ?_; clear hK K; simp; refine j _ ?_; clear j J
 refine W.cond ⟨_, rfl, fun h => ?_, fun h => ?_⟩
 ·have h : z < 0 := by simpa using h
  rw [if_pos h]
  refine W.sreg (fun K hK => ?_); simp (disch := omega) [gA, wA]; refine W.lv [6] hK fun J j => ?_; clear hK K; simp; refine j _ ?_; clear j J
  refine W.ret ?_
  simp [go]
 ·have h : ¬ z < 0 := by simpa using h
  rw [if_neg h]
  refine W.skip ?_
  refine W.sdrw (fun K hK => ?_)
  simp (disch := omega) [gA, wA]
  refine callR h1 ?_
  simp (disch := omega) [gA, wA]
  refine callR h2 ?_
  simp (disch := omega) [gA, wA]
  refine W.lv [6] hK fun J j => ?_; clear hK K; simp; refine j _ ?_; clear j J
  refine W.ret ?_
  simp [go]
section
variable {c : List ZX} (hl : c.length < 1000000) (hb : ∀ p ∈ c, PB p.l)
include hl hb
theorem minus_ret : Ret env.P 118 [CH c] (.int .i64 (vr (sgL c))) := by
 have h1 := cturns_ret 192 rfl [] rfl c (fun p => eL p.l) hl (fun p hp => eL3 p.l) (fun p hp => minus1_ret (hb p hp) p.c)
 rw [show c.map (fun p => eL p.l) = sgL c from rfl] at h1
 generalize vr (sgL c) = r at *
 refine ret_of_Wf (E := env) (fun _ => 0) [(0, CH c)] Tryz.func118 rfl (by kernel_rfl) (by kernel_rfl) (show 1 ≤ 5 by decide) (by simp) ?_
 refine W.sreg (fun K hK => ?_); simp (disch := omega) [gA, wA]; refine W.lv [0] hK fun J j => ?_; clear hK K; simp; refine j _ ?_; clear j J
 refine W.sreg (fun K hK => ?_)
 simp (disch := omega) [gA, wA]
 refine callR h1 ?_
 simp (disch := omega) [gA, wA]
 refine W.lv [2] hK fun J j => ?_; clear hK K; simp; refine j _ ?_; clear j J
 refine W.ret ?_
 simp [go]
theorem plus_ret : Ret env.P 119 [CH c] (.int .i64 (vr (sgR c))) := by
 have h1 := cturns_ret 194 rfl [] rfl c (fun p => eR p.l) hl (fun p hp => sgn3 _) (fun p hp => plus1_ret (hb p hp) p.c)
 rw [show c.map (fun p => eR p.l) = sgR c from rfl] at h1
 generalize vr (sgR c) = r at *
 refine ret_of_Wf (E := env) (fun _ => 0) [(0, CH c)] Tryz.func119 rfl (by kernel_rfl) (by kernel_rfl) (show 1 ≤ 5 by decide) (by simp) ?_
 refine W.sreg (fun K hK => ?_); simp (disch := omega) [gA, wA]; refine W.lv [0] hK fun J j => ?_; clear hK K; simp; refine j _ ?_; clear j J
 refine W.sreg (fun K hK => ?_)
 simp (disch := omega) [gA, wA]
 refine callR h1 ?_
 simp (disch := omega) [gA, wA]
 refine W.lv [2] hK fun J j => ?_; clear hK K; simp; refine j _ ?_; clear j J
 refine W.ret ?_
 simp [go]
theorem cCount_ret : Ret env.P 50 [CH c] (.int .i64 ((vr (sgL c) : Int) - vr (sgR c))) := by
 have h1 := minus_ret hl hb
 have h2 := plus_ret hl hb
 have v1 := vr_le (sgL c)
 have v2 := vr_le (sgR c)
 have l1 : (sgL c).length = c.length := by simp [sgL]
 have l2 : (sgR c).length = c.length := by simp [sgR]
 generalize vr (sgL c) = a at *
 generalize vr (sgR c) = b at *
 refine ret_of_Wf (E := env) (fun _ => 0) [(0, CH c)] Tryz.func50 rfl (by kernel_rfl) (by kernel_rfl) (show 1 ≤ 8 by decide) (by simp) ?_
 refine W.sreg (fun K hK => ?_); simp (disch := omega) [gA, wA]; refine W.lv [0] hK fun J j => ?_; clear hK K; simp; refine j _ ?_; clear j J
 refine W.sreg (fun K hK => ?_)
 simp (disch := omega) [gA, wA]
 refine callR h1 ?_
 simp (disch := omega) [gA, wA]
 refine callR h2 ?_
 simp (disch := omega) [gA, wA]
 refine W.lv [2] hK fun J j => ?_; clear hK K; simp; refine j _ ?_; clear j J
 refine W.ret ?_
 simp [go]
theorem cAbove_ret {n d : Int} {q : Rat} (h1 : Ret env.P 120 [CH c, T2 n d] (.int .i64 (vr (sgs c q.num q.den)))) : Ret env.P 51 [CH c, T2 n d] (.int .i64 ((vr (sgs c q.num q.den) : Int) - vr (sgR c))) := by
 have h2 := plus_ret hl hb
 have v1 := vr_le (sgs c q.num q.den)
 have v2 := vr_le (sgR c)
 have l1 : (sgs c q.num q.den).length = c.length := by simp [sgs]
 have l2 : (sgR c).length = c.length := by simp [sgR]
 generalize vr (sgs c q.num q.den) = a at *
 generalize vr (sgR c) = b at *
 refine ret_of_Wf (E := env) (fun _ => 0) [(0, CH c), (1, T2 n d)] Tryz.func51 rfl (by kernel_rfl) (by kernel_rfl) (show 2 ≤ 11 by decide) (by simp) ?_
 refine W.sreg (fun K hK => ?_); simp (disch := omega) [gA, wA]; refine W.lv [0, 3] hK fun J j => ?_; clear hK K; simp; refine j _ ?_; clear j J
 refine W.sreg (fun K hK => ?_)
 simp (disch := omega) [gA, wA]
 refine callR h1 ?_
 simp (disch := omega) [gA, wA]
 refine callR h2 ?_
 simp (disch := omega) [gA, wA]
 refine W.lv [4] hK fun J j => ?_; clear hK K; simp; refine j _ ?_; clear j J
 refine W.ret ?_
 simp [go]
end
end Go.Proofs.YtdiladmkbpnhoaaGreat
