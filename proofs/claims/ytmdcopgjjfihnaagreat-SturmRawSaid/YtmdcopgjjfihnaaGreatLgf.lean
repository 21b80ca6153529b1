import Derived.Test.YtmdcopgjjfihnaaGreatLge
set_option linter.unusedSimpArgs false
set_option linter.unusedVariables false
namespace Go.Proofs.YtmdcopgjjfihnaaGreat
open Go Pm
open ZX hiding N W

/-! ROOTS COUNTED, BY THE DOCUMENT. -/
def eL (x : List Int) : Int := if x.length % 2 = 0 then -(lead x).sign else (lead x).sign
def eR (x : List Int) : Int := (lead x).sign
/-- The signs of a chain somewhere, far below, far above 0. -/
def sgs (c : List ZX) (n d : Int) : List Int := c.map fun p => sgA p.l n d
def sgL (c : List ZX) : List Int := c.map fun p => eL p.l
def sgR (c : List ZX) : List Int := c.map fun p => eR p.l
theorem app_i64 {l : List Int} {v : Int} : emap i64e l ++ [[.int .i64 v]] = emap i64e (l ++ [v]) := by simp [emap, i64e]
theorem take_map_succ {α : Type} [Inhabited α] (f : α → Int) {c : List α} {i : Nat} (h : i < c.length) : (c.take i).map f ++ [f (nth c i)] = (c.take (i + 1)).map f := by
  rw [List.take_add_one, List.getElem?_eq_getElem h, nth_eq h, List.map_append]; rfl
theorem TurnsAt_ret {c : List ZX} {n d : Int} (hl : c.length < 1000000) (hS : ∀ p ∈ c, Ret env.P 63 [PI p.l, R2 n d] (.int .i64 (sgA p.l n d))) : Ret env.P 66 [sls zq c, R2 n d] (.int .i64 (vr (sgs c n d))) := by
  have hT := qturns_ret (sgs c n d) (by simp [sgs]; omega)
  have hcl : (emap i64e (sgs c n d)).length = c.length := by simp [sgs, emap]
  have htk : (sgs c n d) = (c.take c.length).map fun p => sgA p.l n d := by rw [List.take_length]; rfl
  have htG : (sgs c n d).take c.length = sgs c n d := List.take_of_length_le (by simp [sgs])
  generalize vr (sgs c n d) = r at *
  generalize hg : sgs c n d = G at *
  refine ret_of_Wf (E := env) (fun _ => 0) [(0, sls zq c), (1, R2 n d)] Tryz.func66 rfl (by kernel_rfl) (by kernel_rfl) (show 2 ≤ 24 by decide) (by simp) ?_
  refine W.sreg (fun K hK => ?_); simp (disch := omega) [gA, wA]; refine W.lv [0, 3] hK fun J j => ?_; clear hK K; simp; refine j _ ?_; clear j J
  refine W.sreg (fun K hK => ?_); simp (disch := omega) [gA, wA]; refine W.lv [0, 3, 5] hK fun J j => ?_; clear hK K; simp; refine j _ ?_; clear j J
  refine W.nil 5 5 3 1 (by simp) (by decide) (fun K hK => ?_)
  refine W.lv [0, 3, 5] hK fun J j => ?_; clear hK K; simp; refine j _ ?_; clear j J
  refine W.seq ?_
  refine W.sreg (fun K hK => ?_); simp (disch := omega) [gA, wA]; refine W.lv [0, 3, 5, 8, 9] hK fun J j => ?_; clear hK K; simp; refine j _ ?_; clear j J
  refine W.block ?_
  refine W.loopG (fun k σ => ∃ (i ver v3 e3 : Nat) (rows : Pm.Rows) (clk : Nat), σ = ⟨fa [(0, sls zq c), (3, .ptr 3 v3 0 0), (5, .own 5 ver 0 i), (8, .int .i64 c.length), (9, .int .i64 i)], rows, clk⟩ ∧ i + k = c.length ∧
    rows 3 = some ⟨v3, e3, 4, [[sls i64e (dig DD n.natAbs), .bool (decide (n < 0)), sls i64e (dig DD d.natAbs), .bool (decide (d < 0))]]⟩ ∧ rows 5 = some ⟨ver, 3, 1, emap i64e ((c.take i).map fun p => sgA p.l n d)⟩) c.length ?_ ?_
  · exact ⟨_, .refl, 0, _, _, _, _, _, rfl, by omega, by simp; first | exact ⟨rfl, rfl⟩ | exact rfl, by simp [emap]⟩
  rintro k _ ⟨i, ver, v3, e3, rows, clk, rfl, hik, hr3, hr5⟩
  have hil : ((c.take i).map fun p => sgA p.l n d).length = i := by simp; omega
  refine W.sreg (fun K hK => ?_); simp (disch := omega) [gA, wA]; refine W.lv [0, 3, 5, 8, 9, 10] hK fun J j => ?_; clear hK K; simp; refine j _ ?_; clear j J
  refine W.seq ?_
  refine W.cond ⟨_, rfl, fun h => ?_, fun h => ?_⟩
  · have hi : i < c.length := by simp at h; omega
    have hSi := hS _ (nth_mem hi)
    have hap := take_map_succ (fun p : ZX => sgA p.l n d) hi
    generalize hpr : (c.take i).map (fun p => sgA p.l n d) = pr at *
    generalize hv : sgA (nth c i).l n d = v at *
    have hel : (emap i64e pr).length = i := by simp [emap, hil]
    refine W.skip ?_
    refine W.seq ?_
    refine W.block ?_
    refine W.sreg (fun K hK => ?_); simp (disch := omega) [gA, wA]; refine W.lv [0, 3, 5, 6, 8, 9] hK fun J j => ?_; clear hK K; simp; refine j _ ?_; clear j J
    refine W.drw (fun K hK => ?_)
    simp (disch := omega) [gA, wA, hi, hr3, hr5]
    refine callR hSi ?_
    simp (disch := omega) [gA, wA, hr5, hel, app_i64]
    (try (refine stepTxt (by first | kernel_rfl | (refine ⟨?_, ?_⟩ <;> kernel_rfl) | (refine ⟨?_, ?_, ?_⟩ <;> kernel_rfl) | (refine ⟨?_, ?_, ?_, ?_⟩ <;> kernel_rfl) | (refine ⟨?_, ?_, ?_, ?_, ?_⟩ <;> kernel_rfl)) ?_)); (try simp (maxSteps := 4000000) (disch := omega) [gA, wA, hr5, hel, app_i64]); (repeat rw [if_pos (by kernel_rfl)]); (try simp (maxSteps := 4000000) (disch := omega) [gA, wA, hr5, hel, app_i64])
    refine W.lv [0, 3, 5, 8, 9] hK fun J j => ?_; clear hK K; simp; refine j _ ?_; clear j J
    refine W.reg (fun K hK => ?_); simp (disch := omega) [gA, wA]
    refine hK _ ⟨k - 1, _, Gh_fa _ [0, 3, 5, 8, 9], by omega, i + 1, _, v3, e3, _, _, rfl, by omega, by simp [hr3], by simp [app_i64, hap]⟩
  · have hi : i = c.length := by simp at h; omega
    subst hi
    rw [← htk] at hr5
    refine W.exit ?_; simp only [pX, if_true, if_false, reduceIte, Nat.reduceEqDiff]
    refine W.sreg (fun K hK => ?_)
    simp (disch := omega) [gA, wA, hr5, hcl, htG]
    refine callR hT ?_
    simp (disch := omega) [gA, wA]
    refine W.lv [4] hK fun J j => ?_; clear hK K; simp; refine j _ ?_; clear j J
    refine W.ret ?_
    simp [go]
theorem Ends_ret (x : List Int) (hl : x.length < 1099511627776) (cx : Cn x) : Ret env.P 119 [PI x] (.tup [.int .i64 (eL x), .int .i64 (eR x)]) := by
  have hS := rSign_ret (lead x)
  have e0 : x = [] → eL x = 0 ∧ eR x = 0 := fun h => by subst h; exact ⟨by decide, by decide⟩
  have e1 : ((x.length : Int) - 1).toNat = x.length - 1 := by omega
  have hyl : nth x (x.length - 1) = lead x := rfl
  have hL : eL x = if x.length % 2 = 0 then -(lead x).sign else (lead x).sign := rfl
  have hR : eR x = (lead x).sign := rfl
  have hs : -1 ≤ (lead x).sign ∧ (lead x).sign ≤ 1 := by
    rcases Int.lt_trichotomy (lead x) 0 with h | h | h
    · rw [Int.sign_eq_neg_one_of_neg h]; decide
    · rw [h]; decide
    · rw [Int.sign_eq_one_of_pos h]; decide
  generalize (lead x).sign = s at *
  generalize eL x = a at *
  generalize eR x = b at *
  refine ret_of_Wf (E := env) (fun _ => 0) [(0, PI x)] Tryz.func119 rfl (by kernel_rfl) (by kernel_rfl) (show 1 ≤ 25 by decide) (by simp) ?_
  refine W.sreg (fun K hK => ?_); simp (disch := omega) [gA, wA]; refine W.lv [0] hK fun J j => ?_; clear hK K; simp; refine j _ ?_; clear j J
  refine W.seq ?_
  refine W.sreg (fun K hK => ?_); simp (disch := omega) [gA, wA]; refine W.lv [0, 7] hK fun J j => ?_; clear hK K; simp; refine j _ ?_; clear j J
  refine W.cond ⟨_, rfl, fun h => ?_, fun h => ?_⟩
  · have h : x = [] := by simpa using h
    obtain ⟨h1, h2⟩ := e0 h
    subst h1 h2
    refine W.sreg (fun K hK => ?_); simp (disch := omega) [gA, wA]; refine W.lv [2, 3] hK fun J j => ?_; clear hK K; simp; refine j _ ?_; clear j J
    refine W.ret ?_
    simp [go]
  · have h : x ≠ [] := by simpa using h
    have hx : 0 < x.length := List.length_pos_iff.2 h
    have hx1 : x.length - 1 < x.length := by omega
    refine W.skip ?_
    refine W.sreg (fun K hK => ?_)
    simp (disch := omega) [gA, wA, e1, hyl, hx1, h]
    refine callR hS ?_
    simp (disch := omega) [gA, wA]
    refine W.lv [0, 4] hK fun J j => ?_; clear hK K; simp; refine j _ ?_; clear j J
    refine W.seq ?_
    refine W.sregJ (fun σ => ∃ (q : Bool) (rows : Pm.Rows) (clk : Nat), σ = ⟨fa [(4, .int .i64 s), (19, .bool q)], rows, clk⟩ ∧ q = decide (x.length % 2 = 0)) (fun K hK => ?_) ?_
    · simp (disch := omega) [gA, wA]
      exact hK _ _ (Gh_fa _ [4, 19]) ⟨_, _, _, rfl, by rw [Bool.eq_iff_iff]; simp; omega⟩
    rintro _ ⟨q, rows, clk, rfl, rfl⟩
    refine W.cond ⟨_, rfl, fun h => ?_, fun h => ?_⟩
    · rw [if_pos (of_decide_eq_true h)] at hL
      subst hL hR
      refine W.sreg (fun K hK => ?_); simp (disch := omega) [gA, wA]; refine W.lv [2, 3] hK fun J j => ?_; clear hK K; simp; refine j _ ?_; clear j J
      refine W.ret ?_
      simp [go]
    · rw [if_neg (of_decide_eq_false h)] at hL
      subst hL hR
      refine W.skip ?_
      refine W.sreg (fun K hK => ?_); simp (disch := omega) [gA, wA]; refine W.lv [2, 3] hK fun J j => ?_; clear hK K; simp; refine j _ ?_; clear j J
      refine W.ret ?_
      simp [go]

theorem Between_ret {c : List ZX} {n d m e : Int} (hn : sz 2 n ≤ YY) (hd : sz 2 d ≤ YY) (hm : sz 2 m ≤ YY) (he : sz 2 e ≤ YY) (hl : c.length < 1000000) (h1 : Ret env.P 66 [sls zq c, R2 n d] (.int .i64 (vr (sgs c n d)))) (h2 : Ret env.P 66 [sls zq c, R2 m e] (.int .i64 (vr (sgs c m e)))) :
    Ret env.P 56 [sls zq c, R2 n d, R2 m e] (.int .i64 (if m * d < n * e then 0 else (vr (sgs c n d) : Int) - vr (sgs c m e))) := by
  have c1 := CmpR2_ret m e n d hm he hn hd
  have v1 := vr_le (sgs c n d)
  have v2 := vr_le (sgs c m e)
  have l1 : (sgs c n d).length = c.length := by simp [sgs]
  have l2 : (sgs c m e).length = c.length := by simp [sgs]
  generalize vr (sgs c n d) = a at *
  generalize vr (sgs c m e) = b at *
  have hc : (cmp3 (m * d) (n * e) < 0) ↔ m * d < n * e := by
    unfold cmp3; split
    · omega
    · split <;> omega
  generalize m * d = xx at *
  generalize n * e = yy at *
  generalize cmp3 xx yy = z at *
  refine ret_of_Wf (E := env) (fun _ => 0) [(0, sls zq c), (1, R2 n d), (2, R2 m e)] Tryz.func56 rfl (by kernel_rfl) (by kernel_rfl) (show 3 ≤ 18 by decide) (by simp) ?_
  refine W.sreg (fun K hK => ?_); simp (disch := omega) [gA, wA]; refine W.lv [0, 4, 5] hK fun J j => ?_; clear hK K; simp; refine j _ ?_; clear j J
  refine W.seq ?_
  refine W.sreg (fun K hK => ?_)
  simp (disch := omega) [gA, wA]
  refine callR c1 ?_
  simp (disch := omega) [gA, wA]
  refine W.lv [0, 4, 5, 10] hK fun J j => ?_; clear hK K; simp; refine j _ ?_; clear j J
  refine W.cond ⟨_, rfl, fun h => ?_, fun h => ?_⟩
  · have h : z < 0 := by simpa using h
    rw [if_pos (hc.1 h)]
    refine W.sreg (fun K hK => ?_); simp (disch := omega) [gA, wA]; refine W.lv [6] hK fun J j => ?_; clear hK K; simp; refine j _ ?_; clear j J
    refine W.ret ?_
    simp [go]
  · have h : ¬ z < 0 := by simpa using h
    rw [if_neg (fun hh => h (hc.2 hh))]
    refine W.skip ?_
    refine W.sdrw (fun K hK => ?_)
    simp (disch := omega) [gA, wA]
    refine callR h1 ?_
    simp (disch := omega) [gA, wA]
    refine callR h2 ?_
    simp (disch := omega) [gA, wA]
    refine W.lv [6] hK fun J j => ?_; clear hK K; simp; refine j _ ?_; clear j J
    refine W.ret ?_
    simp [go]
theorem Above_ret {c : List ZX} {n d : Int} (hl : c.length < 1000000) (hb : ∀ p ∈ c, p.l.length < 1099511627776) (h1 : Ret env.P 66 [sls zq c, R2 n d] (.int .i64 (vr (sgs c n d)))) :
    Ret env.P 52 [sls zq c, R2 n d] (.int .i64 ((vr (sgs c n d) : Int) - vr (sgR c))) := by
  have hT := qturns_ret (sgR c) (by simp [sgR]; omega)
  have hcl : (emap i64e (sgR c)).length = c.length := by simp [sgR, emap]
  have htk : (sgR c) = (c.take c.length).map fun p => eR p.l := by rw [List.take_length]; rfl
  have htG : (sgR c).take c.length = sgR c := List.take_of_length_le (by simp [sgR])
  have v1 := vr_le (sgs c n d)
  have v2 := vr_le (sgR c)
  have l1 : (sgs c n d).length = c.length := by simp [sgs]
  have l2 : (sgR c).length = c.length := by simp [sgR]
  generalize vr (sgs c n d) = a at *
  generalize vr (sgR c) = r at *
  generalize hg : sgR c = G at *
  refine ret_of_Wf (E := env) (fun _ => 0) [(0, sls zq c), (1, R2 n d)] Tryz.func52 rfl (by kernel_rfl) (by kernel_rfl) (show 2 ≤ 33 by decide) (by simp) ?_
  refine W.sreg (fun K hK => ?_); simp (disch := omega) [gA, wA]; refine W.lv [0, 3] hK fun J j => ?_; clear hK K; simp; refine j _ ?_; clear j J
  refine W.sreg (fun K hK => ?_); simp (disch := omega) [gA, wA]; refine W.lv [0, 3, 5] hK fun J j => ?_; clear hK K; simp; refine j _ ?_; clear j J
  refine W.nil 5 5 3 1 (by simp) (by decide) (fun K hK => ?_)
  refine W.lv [0, 3, 5] hK fun J j => ?_; clear hK K; simp; refine j _ ?_; clear j J
  refine W.seq ?_
  refine W.sreg (fun K hK => ?_); simp (disch := omega) [gA, wA]; refine W.lv [0, 3, 5, 10, 11] hK fun J j => ?_; clear hK K; simp; refine j _ ?_; clear j J
  refine W.block ?_
  refine W.loopG (fun k σ => ∃ (i ver v3 e3 : Nat) (rows : Pm.Rows) (clk : Nat), σ = ⟨fa [(0, sls zq c), (3, .ptr 3 v3 0 0), (5, .own 5 ver 0 i), (10, .int .i64 c.length), (11, .int .i64 i)], rows, clk⟩ ∧ i + k = c.length ∧
    rows 3 = some ⟨v3, e3, 4, [[sls i64e (dig DD n.natAbs), .bool (decide (n < 0)), sls i64e (dig DD d.natAbs), .bool (decide (d < 0))]]⟩ ∧ rows 5 = some ⟨ver, 3, 1, emap i64e ((c.take i).map fun p => eR p.l)⟩) c.length ?_ ?_
  · exact ⟨_, .refl, 0, _, _, _, _, _, rfl, by omega, by simp; first | exact ⟨rfl, rfl⟩ | exact rfl, by simp [emap]⟩
  rintro k _ ⟨i, ver, v3, e3, rows, clk, rfl, hik, hr3, hr5⟩
  have hil : ((c.take i).map fun p => eR p.l).length = i := by simp; omega
  refine W.sreg (fun K hK => ?_); simp (disch := omega) [gA, wA]; refine W.lv [0, 3, 5, 10, 11, 12] hK fun J j => ?_; clear hK K; simp; refine j _ ?_; clear j J
  refine W.seq ?_
  refine W.cond ⟨_, rfl, fun h => ?_, fun h => ?_⟩
  · have hi : i < c.length := by simp at h; omega
    have hE := Ends_ret (nth c i).l (hb _ (nth_mem hi)) (nth c i).c
    have hap := take_map_succ (fun p : ZX => eR p.l) hi
    generalize hpr : (c.take i).map (fun p => eR p.l) = pr at *
    generalize hv : eR (nth c i).l = v at *
    generalize hv2 : eL (nth c i).l = v2 at *
    have hel : (emap i64e pr).length = i := by simp [emap, hil]
    refine W.skip ?_
    refine W.seq ?_
    refine W.block ?_
    refine W.sreg (fun K hK => ?_); simp (disch := omega) [gA, wA]; refine W.lv [0, 3, 5, 6, 10, 11] hK fun J j => ?_; clear hK K; simp; refine j _ ?_; clear j J
    refine W.sreg (fun K hK => ?_)
    simp (disch := omega) [gA, wA, hi]
    refine callR hE ?_
    simp (disch := omega) [gA, wA]
    refine W.lv [0, 3, 5, 8, 10, 11] hK fun J j => ?_; clear hK K; simp; refine j _ ?_; clear j J
    refine W.reg (fun K hK => ?_)
    simp (disch := omega) [gA, wA, hr5, hel, app_i64]
    refine W.lv [0, 3, 5, 10, 11] hK fun J j => ?_; clear hK K; simp; refine j _ ?_; clear j J
    refine W.reg (fun K hK => ?_); simp (disch := omega) [gA, wA]
    refine hK _ ⟨k - 1, _, Gh_fa _ [0, 3, 5, 10, 11], by omega, i + 1, _, v3, e3, _, _, rfl, by omega, by simp [hr3], by simp [app_i64, hap]⟩
  · have hi : i = c.length := by simp at h; omega
    subst hi
    rw [← htk] at hr5
    refine W.exit ?_; simp only [pX, if_true, if_false, reduceIte, Nat.reduceEqDiff]
    refine W.sreg (fun K hK => ?_)
    simp (disch := omega) [gA, wA, hr3]
    refine callR h1 ?_
    simp (disch := omega) [gA, wA, hr5, hcl, htG]
    refine callR hT ?_
    simp (disch := omega) [gA, wA]
    refine W.lv [4] hK fun J j => ?_; clear hK K; simp; refine j _ ?_; clear j J
    refine W.ret ?_
    simp [go]
theorem Count_ret {c : List ZX} (hl : c.length < 1000000) (hb : ∀ p ∈ c, p.l.length < 1099511627776) :
    Ret env.P 49 [sls zq c] (.int .i64 ((vr (sgL c) : Int) - vr (sgR c))) := by
  have hT := qturns_ret (sgR c) (by simp [sgR]; omega)
  have hcl : (emap i64e (sgR c)).length = c.length := by simp [sgR, emap]
  have htk : (sgR c) = (c.take c.length).map fun p => eR p.l := by rw [List.take_length]; rfl
  have htG : (sgR c).take c.length = sgR c := List.take_of_length_le (by simp [sgR])
  have hT' := qturns_ret (sgL c) (by simp [sgL]; omega)
  have hcl' : (emap i64e (sgL c)).length = c.length := by simp [sgL, emap]
  have htk' : (sgL c) = (c.take c.length).map fun p => eL p.l := by rw [List.take_length]; rfl
  have htG' : (sgL c).take c.length = sgL c := List.take_of_length_le (by simp [sgL])
  have v1 := vr_le (sgL c)
  have v2 := vr_le (sgR c)
  have l1 : (sgL c).length = c.length := by simp [sgL]
  have l2 : (sgR c).length = c.length := by simp [sgR]
  generalize vr (sgL c) = a at *
  generalize vr (sgR c) = r at *
  generalize hg : sgR c = G at *
  generalize hg' : sgL c = G' at *
  refine ret_of_Wf (E := env) (fun _ => 0) [(0, sls zq c)] Tryz.func49 rfl (by kernel_rfl) (by kernel_rfl) (show 1 ≤ 35 by decide) (by simp) ?_
  refine W.sreg (fun K hK => ?_); simp (disch := omega) [gA, wA]; refine W.lv [0] hK fun J j => ?_; clear hK K; simp; refine j _ ?_; clear j J
  refine W.sreg (fun K hK => ?_); simp (disch := omega) [gA, wA]; refine W.lv [0, 3, 4] hK fun J j => ?_; clear hK K; simp; refine j _ ?_; clear j J
  refine W.nil 3 3 3 1 (by simp) (by decide) (fun K hK => ?_)
  refine W.lv [0, 3, 4] hK fun J j => ?_; clear hK K; simp; refine j _ ?_; clear j J
  refine W.nil 4 4 3 1 (by simp) (by decide) (fun K hK => ?_)
  refine W.lv [0, 3, 4] hK fun J j => ?_; clear hK K; simp; refine j _ ?_; clear j J
  refine W.seq ?_
  refine W.sreg (fun K hK => ?_); simp (disch := omega) [gA, wA]; refine W.lv [0, 3, 4, 9, 10] hK fun J j => ?_; clear hK K; simp; refine j _ ?_; clear j J
  refine W.block ?_
  refine W.loopG (fun k σ => ∃ (i v3 v4 : Nat) (rows : Pm.Rows) (clk : Nat), σ = ⟨fa [(0, sls zq c), (3, .own 3 v3 0 i), (4, .own 4 v4 0 i), (9, .int .i64 c.length), (10, .int .i64 i)], rows, clk⟩ ∧ i + k = c.length ∧
    rows 3 = some ⟨v3, 3, 1, emap i64e ((c.take i).map fun p => eL p.l)⟩ ∧ rows 4 = some ⟨v4, 3, 1, emap i64e ((c.take i).map fun p => eR p.l)⟩) c.length ?_ ?_
  · exact ⟨_, .refl, 0, _, _, _, _, rfl, by omega, by simp [emap], by simp [emap]⟩
  rintro k _ ⟨i, v3, v4, rows, clk, rfl, hik, hr3, hr4⟩
  have hil : ((c.take i).map fun p => eR p.l).length = i := by simp; omega
  have hil' : ((c.take i).map fun p => eL p.l).length = i := by simp; omega
  refine W.sreg (fun K hK => ?_); simp (disch := omega) [gA, wA]; refine W.lv [0, 3, 4, 9, 10, 11] hK fun J j => ?_; clear hK K; simp; refine j _ ?_; clear j J
  refine W.seq ?_
  refine W.cond ⟨_, rfl, fun h => ?_, fun h => ?_⟩
  · have hi : i < c.length := by simp at h; omega
    have hE := Ends_ret (nth c i).l (hb _ (nth_mem hi)) (nth c i).c
    have hap := take_map_succ (fun p : ZX => eR p.l) hi
    have hap' := take_map_succ (fun p : ZX => eL p.l) hi
    generalize hpr : (c.take i).map (fun p => eR p.l) = pr at *
    generalize hpr' : (c.take i).map (fun p => eL p.l) = pr' at *
    generalize hv : eR (nth c i).l = v at *
    generalize hv2 : eL (nth c i).l = v2 at *
    have hel : (emap i64e pr).length = i := by simp [emap, hil]
    have hel' : (emap i64e pr').length = i := by simp [emap, hil']
    refine W.skip ?_
    refine W.seq ?_
    refine W.block ?_
    refine W.sreg (fun K hK => ?_); simp (disch := omega) [gA, wA]; refine W.lv [0, 3, 4, 5, 9, 10] hK fun J j => ?_; clear hK K; simp; refine j _ ?_; clear j J
    refine W.sreg (fun K hK => ?_)
    simp (disch := omega) [gA, wA, hi]
    refine callR hE ?_
    simp (disch := omega) [gA, wA]
    refine W.lv [0, 3, 4, 6, 7, 9, 10] hK fun J j => ?_; clear hK K; simp; refine j _ ?_; clear j J
    refine W.reg (fun K hK => ?_)
    simp (disch := omega) [gA, wA, hr3, hr4, hel, hel', app_i64]
    refine W.lv [0, 3, 4, 9, 10] hK fun J j => ?_; clear hK K; simp; refine j _ ?_; clear j J
    refine W.reg (fun K hK => ?_); simp (disch := omega) [gA, wA]
    refine hK _ ⟨k - 1, _, Gh_fa _ [0, 3, 4, 9, 10], by omega, i + 1, _, _, _, _, rfl, by omega, by simp [app_i64, hap'], by simp [app_i64, hap]⟩
  · have hi : i = c.length := by simp at h; omega
    subst hi
    rw [← htk'] at hr3
    rw [← htk] at hr4
    refine W.exit ?_; simp only [pX, if_true, if_false, reduceIte, Nat.reduceEqDiff]
    refine W.sreg (fun K hK => ?_)
    simp (disch := omega) [gA, wA, hr3, hcl', htG']
    refine callR hT' ?_
    simp (disch := omega) [gA, wA, hr4, hcl, htG]
    refine callR hT ?_
    simp (disch := omega) [gA, wA]
    refine W.lv [2] hK fun J j => ?_; clear hK K; simp; refine j _ ?_; clear j J
    refine W.ret ?_
    simp [go]
theorem ToR_ret {n d : Int} (hn : Z n) (hd : Z d) : Ret env.P 51 [R2 n d] (T2 n d) := by
  have t1 := rTo_ret n hn
  have t2 := rTo_ret d hd
  refine ret_of_Wf (E := env) (fun _ => 0) [(0, R2 n d)] Tryz.func51 rfl (by kernel_rfl) (by kernel_rfl) (show 1 ≤ 10 by decide) (by simp) ?_
  refine W.sreg (fun K hK => ?_); simp (disch := omega) [gA, wA]; refine W.lv [1, 2] hK fun J j => ?_; clear hK K; simp; refine j _ ?_; clear j J
  refine W.sdrw (fun K hK => ?_)
  simp (disch := omega) [gA, wA]
  refine callR t1 ?_
  simp (disch := omega) [gA, wA]
  refine callR t2 ?_
  simp (disch := omega) [gA, wA]
  (try (refine stepTxt (by first | kernel_rfl | (refine ⟨?_, ?_⟩ <;> kernel_rfl) | (refine ⟨?_, ?_, ?_⟩ <;> kernel_rfl) | (refine ⟨?_, ?_, ?_, ?_⟩ <;> kernel_rfl) | (refine ⟨?_, ?_, ?_, ?_, ?_⟩ <;> kernel_rfl)) ?_)); (try simp (maxSteps := 4000000) (disch := omega) [gA, wA]); (repeat rw [if_pos (by kernel_rfl)]); (try simp (maxSteps := 4000000) (disch := omega) [gA, wA])
  refine W.lv [2] hK fun J j => ?_; clear hK K; simp; refine j _ ?_; clear j J
  refine W.ret ?_
  simp [go]
end Go.Proofs.YtmdcopgjjfihnaaGreat
