import Derived.Test.YtdiladmkbpnhoaaGreatLw
set_option linter.unusedSimpArgs false
set_option linter.unusedVariables false
namespace Go.Proofs.YtdiladmkbpnhoaaGreat
open Go Pm
theorem may_ret (m : List (List RP)) (hm : m.length < 1099511627776) (hr : ∀ r ∈ m, r.length < 1099511627776) : Ret env.P 157 [sls me m] (.bool (decide ((∀ r ∈ m, r.length = m.length) ∧ m.length ≤ 4))) := by
 refine ret_of_Wf (E := env) (fun _ => 0) [(0, sls me m)] Tryz.func157 rfl (by kernel_rfl) (by kernel_rfl) (show 1 ≤ 20 by decide) (by simp) ?_
 refine W.sreg (fun K hK => ?_)
 simp (disch := omega) [gA, wA]
 refine W.lv [0] hK fun J j => ?_; clear hK K; simp; refine j _ ?_; clear j J
 refine W.seq ?_
 refine W.sreg (fun K hK => ?_)
 simp (disch := omega) [gA, wA]
 refine W.lv [0, 5, 6, 7] hK fun J j => ?_; clear hK K; simp; refine j _ ?_; clear j J
 refine W.block ?_
 refine W.loopG (fun k σ => ∃ (i : Nat) (rows : Pm.Rows) (clk : Nat), σ = ⟨fa [(0, sls me m), (5, sls me m), (6, .int .i64 m.length), (7, .int .i64 i)], rows, clk⟩ ∧ k = m.length - i ∧ i ≤ m.length ∧ ∀ r ∈ m.take i, r.length = m.length) m.length ?_ ?_
 ·exact ⟨_, .refl, 0, _, _, rfl, by omega, by omega, by simp⟩
 rintro k _ ⟨i, rows, clk, rfl, hk, hi, hI⟩
 refine W.sreg (fun K hK => ?_)
 simp (disch := omega) [gA, wA]
 refine W.lv [0, 5, 6, 7, 8] hK fun J j => ?_; clear hK K; simp; refine j _ ?_; clear j J
 refine W.seq ?_
 refine W.cond ⟨_, rfl, fun h => ?_, fun h => ?_⟩
 ·simp at h
  have hrl := hr _ (nth_mem h)
  refine W.skip ?_
  refine W.seq ?_
  refine W.block ?_
  refine W.sreg (fun K hK => ?_)
  simp (disch := omega) [gA, wA]
  refine W.lv [0, 4, 5, 6, 7] hK fun J j => ?_; clear hK K; simp; refine j _ ?_; clear j J
  refine W.sreg (fun K hK => ?_)
  simp (disch := omega) [gA, wA]
  refine W.lv [0, 5, 6, 7, 15] hK fun J j => ?_; clear hK K; simp; refine j _ ?_; clear j J
  refine W.cond ⟨_, rfl, fun h2 => ?_, fun h2 => ?_⟩
  ·have h3 : ¬ (∀ r ∈ m, r.length = m.length) := fun h3 => by
    have := h3 _ (nth_mem h)
    simp [this] at h2
   refine W.sreg (fun K hK => ?_)
   simp (disch := omega) [gA, wA]
   refine W.lv [2] hK fun J j => ?_; clear hK K; simp; refine j _ ?_; clear j J
   refine W.ret ?_
   simp [go, h3]
  ·have h3 : (nth m i).length = m.length := by simp at h2; omega
   refine W.skip ?_
   refine W.reg (fun K hK => ?_)
   simp (disch := omega) [gA, wA]
   refine hK _ ⟨m.length - (i + 1), _, Gh_fa _ [0, 5, 6, 7], by omega, i + 1, _, _, rfl, by omega, by omega, fun r hr => ?_⟩
   rw [take_succ_nth h] at hr
   rcases List.mem_append.1 hr with h4 | h4
   ·exact hI r h4
   ·simp at h4; rw [h4]; exact h3
 ·simp at h
  rw [List.take_of_length_le (by omega)] at hI
  refine W.exit ?_; simp only [pX, if_true, if_false, reduceIte, Nat.reduceEqDiff]
  refine W.sreg (fun K hK => ?_)
  simp (disch := omega) [gA, wA]
  refine W.lv [2] hK fun J j => ?_; clear hK K; simp; refine j _ ?_; clear j J
  refine W.ret ?_
  have e : decide ((∀ r ∈ m, r.length = m.length) ∧ m.length ≤ 4) = decide ((m.length : Int) ≤ 4) := decide_eq_decide.2 ⟨fun h => by omega, fun h => ⟨hI, by omega⟩⟩
  rw [e]
  simp [go]
def mnr (i k : Nat) (m : List (List RP)) : List (List RP) := (m.eraseIdx i).map fun r => (r.eraseIdx k).map nrm
theorem minor_ret (i k : Nat) (m : List (List RP)) (hi : i < 1099511627776) (hk : k < 1099511627776) (hm : m.length < 1099511627776) (hr : ∀ r ∈ m, r.length < 1099511627776 ∧ ∀ p ∈ r, POK p) : Ret env.P 210 [.int .i64 i, .int .i64 k, sls me m] (sls me (mnr i k m)) := by
 refine ret_of_Wf (E := env) (fun _ => 0) [(0, .int .i64 i), (1, .int .i64 k), (2, sls me m)] Tryz.func210 rfl (by kernel_rfl) (by kernel_rfl) (show 3 ≤ 45 by decide) (by simp) ?_
 refine W.sreg (fun K hK => ?_)
 simp (disch := omega) [gA, wA]
 refine W.lv [0, 1, 2] hK fun J j => ?_; clear hK K; simp; refine j _ ?_; clear j J
 refine W.sreg (fun K hK => ?_)
 simp (disch := omega) [gA, wA]
 refine W.lv [0, 1, 2, 7] hK fun J j => ?_; clear hK K; simp; refine j _ ?_; clear j J
 refine W.nil 7 7 125 1 (by simp) (by decide) (fun K hK => ?_)
 refine W.lv [0, 1, 2, 7] hK fun J j => ?_; clear hK K; simp; refine j _ ?_; clear j J
 refine W.seq ?_
 refine W.sreg (fun K hK => ?_)
 simp (disch := omega) [gA, wA]
 refine W.lv [0, 1, 7, 13, 14, 15] hK fun J j => ?_; clear hK K; simp; refine j _ ?_; clear j J
 refine W.block ?_
 refine W.loopG (fun d σ => ∃ (r ver n : Nat) (rows : Pm.Rows) (clk : Nat), σ = ⟨fa [(0, .int .i64 i), (1, .int .i64 k), (7, .own 7 ver 0 n), (13, sls me m), (14, .int .i64 m.length), (15, .int .i64 r)], rows, clk⟩ ∧
  rows 7 = some ⟨ver, 125, 1, emap me (mnr i k (m.take r))⟩ ∧ n = (mnr i k (m.take r)).length ∧ d = m.length - r ∧ r ≤ m.length) m.length ?_ ?_
 ·exact ⟨_, .refl, 0, _, _, _, _, rfl, by simp [mnr, emap], by simp [mnr], by omega, by omega⟩
 rintro d _ ⟨r, ver, n, rows, clk, rfl, hr7, hn, hd, hrm⟩
 have hml : (mnr i k (m.take r)).length ≤ m.length := by
  have := List.length_eraseIdx_le (m.take r) i
  simp [mnr] at *; omega
 refine W.sreg (fun K hK => ?_)
 simp (disch := omega) [gA, wA]
 refine W.lv [0, 1, 7, 13, 14, 15, 16] hK fun J j => ?_; clear hK K; simp; refine j _ ?_; clear j J
 refine W.seq ?_
 refine W.cond ⟨_, rfl, fun h => ?_, fun h => ?_⟩
 ·simp at h
  obtain ⟨hrl, hrp⟩ := hr _ (nth_mem h)
  refine W.skip ?_
  refine W.seq_blockJ (fun σ => ∃ (ver n : Nat) (rows : Pm.Rows) (clk : Nat), σ = ⟨fa [(0, .int .i64 i), (1, .int .i64 k), (7, .own 7 ver 0 n), (13, sls me m), (14, .int .i64 m.length), (15, .int .i64 r)], rows, clk⟩ ∧
   rows 7 = some ⟨ver, 125, 1, emap me (mnr i k (m.take (r + 1)))⟩ ∧ n = (mnr i k (m.take (r + 1))).length) ?_ ?_
  ·
   refine W.sreg (fun K hK => ?_)
   simp (disch := omega) [gA, wA]
   refine W.lv [0, 1, 7, 8, 9, 13, 14, 15] hK fun J j => ?_; clear hK K; simp; refine j _ ?_; clear j J
   refine W.seq ?_
   refine W.sreg (fun K hK => ?_)
   simp (disch := omega) [gA, wA]
   refine W.lv [0, 1, 7, 9, 13, 14, 15, 22] hK fun J j => ?_; clear hK K; simp; refine j _ ?_; clear j J
   refine W.cond ⟨_, rfl, fun h2 => ?_, fun h2 => ?_⟩
   ·have h2 : r = i := by simp at h2; omega
    have e : mnr i k (m.take (r + 1)) = mnr i k (m.take r) := by simp only [mnr]; rw [erase_take h, if_pos h2]
    refine W.exit ?_; simp only [pX, if_true, if_false, reduceIte, Nat.reduceEqDiff]
    rw [e]
    exact ⟨_, Gh_fa _ [0, 1, 7, 13, 14, 15], _, _, _, _, rfl, hr7, hn⟩
   ·have h2 : r ≠ i := by simp at h2; omega
    have e : mnr i k (m.take (r + 1)) = mnr i k (m.take r) ++ [((nth m r).eraseIdx k).map nrm] := by simp only [mnr]; rw [erase_take h, if_neg h2]; simp
    rw [e]
    generalize hrow : nth m r = row at *
    refine W.skip ?_
    refine W.sreg (fun K hK => ?_)
    simp (disch := omega) [gA, wA]
    refine W.lv [0, 1, 7, 9, 10, 13, 14, 15] hK fun J j => ?_; clear hK K; simp; refine j _ ?_; clear j J
    refine W.nil 10 10 24 1 (by simp) (by decide) (fun K hK => ?_)
    refine W.lv [0, 1, 7, 9, 10, 13, 14, 15] hK fun J j => ?_; clear hK K; simp; refine j _ ?_; clear j J
    refine W.seq ?_
    refine W.sreg (fun K hK => ?_)
    simp (disch := omega) [gA, wA]
    refine W.lv [0, 1, 7, 10, 13, 14, 15, 23, 24, 25] hK fun J j => ?_; clear hK K; simp; refine j _ ?_; clear j J
    refine W.block ?_
    refine W.loopG (fun d σ => ∃ (c v10 n10 : Nat) (rows : Pm.Rows) (clk : Nat), σ = ⟨fa [(0, .int .i64 i), (1, .int .i64 k), (7, .own 7 ver 0 n), (10, .own 10 v10 0 n10), (13, sls me m), (14, .int .i64 m.length), (15, .int .i64 r), (23, sls pe row), (24, .int .i64 row.length), (25, .int .i64 c)], rows, clk⟩ ∧
     rows 7 = some ⟨ver, 125, 1, emap me (mnr i k (m.take r))⟩ ∧ rows 10 = some ⟨v10, 24, 1, emap pe (((row.take c).eraseIdx k).map nrm)⟩ ∧ n10 = (((row.take c).eraseIdx k).map nrm).length ∧ d = row.length - c ∧ c ≤ row.length) row.length ?_ ?_
    ·exact ⟨_, .refl, 0, _, _, _, _, rfl, by simp [hr7], by simp [emap], by simp, by omega, by omega⟩
    clear hr7 rows clk
    rintro d _ ⟨c, v10, n10, rows, clk, rfl, hr7, hr10, hn10, hd2, hcr⟩
    have hcl : (((row.take c).eraseIdx k).map nrm).length ≤ row.length := by
     have := List.length_eraseIdx_le (row.take c) k
     simp at *; omega
    refine W.sreg (fun K hK => ?_)
    simp (disch := omega) [gA, wA]
    refine W.lv [0, 1, 7, 10, 13, 14, 15, 23, 24, 25, 26] hK fun J j => ?_; clear hK K; simp; refine j _ ?_; clear j J
    refine W.seq ?_
    refine W.cond ⟨_, rfl, fun h3 => ?_, fun h3 => ?_⟩
    ·simp at h3
     refine W.skip ?_
     refine W.seq_blockJ (fun σ => ∃ (v10 n10 : Nat) (rows : Pm.Rows) (clk : Nat), σ = ⟨fa [(0, .int .i64 i), (1, .int .i64 k), (7, .own 7 ver 0 n), (10, .own 10 v10 0 n10), (13, sls me m), (14, .int .i64 m.length), (15, .int .i64 r), (23, sls pe row), (24, .int .i64 row.length), (25, .int .i64 c)], rows, clk⟩ ∧
      rows 7 = some ⟨ver, 125, 1, emap me (mnr i k (m.take r))⟩ ∧ rows 10 = some ⟨v10, 24, 1, emap pe (((row.take (c + 1)).eraseIdx k).map nrm)⟩ ∧ n10 = (((row.take (c + 1)).eraseIdx k).map nrm).length) ?_ ?_
     ·
      refine W.sreg (fun K hK => ?_)
      simp (disch := omega) [gA, wA]
      refine W.lv [0, 1, 7, 10, 11, 12, 13, 14, 15, 23, 24, 25] hK fun J j => ?_; clear hK K; simp; refine j _ ?_; clear j J
      refine W.sreg (fun K hK => ?_)
      simp (disch := omega) [gA, wA]
      refine W.lv [0, 1, 7, 10, 12, 13, 14, 15, 23, 24, 25, 32] hK fun J j => ?_; clear hK K; simp; refine j _ ?_; clear j J
      refine W.cond ⟨_, rfl, fun h4 => ?_, fun h4 => ?_⟩
      ·have h4 : c ≠ k := by simp at h4; omega
       have e2 : ((row.take (c + 1)).eraseIdx k).map nrm = ((row.take c).eraseIdx k).map nrm ++ [nrm (nth row c)] := by rw [erase_take h3, if_neg h4]; simp
       rw [e2]
       generalize hq : ((row.take c).eraseIdx k).map nrm = q at *
       refine W.reg (fun K hK => ?_)
       simp (disch := omega) [gA, wA, hr10]
       refine callR (pNorm_ret _ (hrp _ (nth_mem h3))) ?_
       rw [show Po (cutR ((nth row c).map gv)) = Pg (nrm (nth row c)) from Po_cfs _]
       simp (disch := omega) [gA, wA, hr10]
       exact hK _ ⟨_, Gh_fa _ [0, 1, 7, 10, 13, 14, 15, 23, 24, 25], _, _, _, _, rfl, by simp [hr7], by simp, by simp; omega⟩
      ·have h4 : c = k := by simp at h4; omega
       have e2 : ((row.take (c + 1)).eraseIdx k).map nrm = ((row.take c).eraseIdx k).map nrm := by rw [erase_take h3, if_pos h4]
       rw [e2]
       refine W.skip ?_
       exact ⟨_, Gh_fa _ [0, 1, 7, 10, 13, 14, 15, 23, 24, 25], _, _, _, _, rfl, hr7, hr10, hn10⟩
     clear hr7 hr10 hn10 rows clk v10 n10
     rintro _ ⟨v10, n10, rows, clk, rfl, hr7, hr10, hn10⟩
     refine W.reg (fun K hK => ?_)
     simp (disch := omega) [gA, wA]
     exact hK _ ⟨row.length - (c + 1), _, Gh_fa _ [0, 1, 7, 10, 13, 14, 15, 23, 24, 25], by omega, c + 1, _, _, _, _, rfl, hr7, hr10, hn10, by omega, by omega⟩
    ·simp at h3
     have hc' : c = row.length := by omega
     subst hc'
     rw [List.take_of_length_le (Nat.le_refl _)] at hr10 hcl hn10
     refine W.exit ?_; simp only [pX, if_true, if_false, reduceIte, Nat.reduceEqDiff]
     refine W.freeze 10 (by simp [hr10]) (fun K hK => ?_)
     have e3 := take_all hn10.symm
     generalize hq : (row.eraseIdx k).map nrm = q at *
     simp [hr10, e3]
     refine hK _ ?_; clear hK K
     refine W.reg (fun K hK => ?_)
     simp (disch := omega) [gA, wA, hr7]
     exact hK _ ⟨_, Gh_fa _ [0, 1, 7, 13, 14, 15], _, _, _, _, rfl, by simp, by simp; omega⟩
  clear hr7 hn rows clk ver n
  rintro _ ⟨ver, n, rows, clk, rfl, hr7, hn⟩
  refine W.reg (fun K hK => ?_)
  simp (disch := omega) [gA, wA]
  exact hK _ ⟨m.length - (r + 1), _, Gh_fa _ [0, 1, 7, 13, 14, 15], by omega, r + 1, _, _, _, _, rfl, hr7, hn, by omega, by omega⟩
 ·simp at h
  have e : m.take r = m := List.take_of_length_le (by omega)
  rw [e] at hr7 hn
  refine W.exit ?_; simp only [pX, if_true, if_false, reduceIte, Nat.reduceEqDiff]
  refine W.sreg (fun K hK => ?_)
  simp (disch := omega) [gA, wA]
  refine W.lv [6] hK fun J j => ?_; clear hK K; simp; refine j _ ?_; clear j J
  refine W.ret ?_
  simp [go, hr7, hn, take_all]
structure MOK (s n : Nat) (m : List (List RP)) : Prop where
 sq : ∀ r ∈ m, r.length = m.length
 ok : ∀ r ∈ m, ∀ p ∈ r, POK p ∧ Bd LL s n (p.map gv)
def mv (m : List (List RP)) : List (List (List Int)) := m.map fun r => r.map cfs
theorem nth_mv (m : List (List RP)) (i k : Nat) : nth (nth (mv m) i) k = cfs (nth (nth m i) k) := by
 have h1 : nth (mv m) i = (nth m i).map cfs := nth_map (f := fun r : List RP => r.map cfs) rfl m i
 rw [h1]
 exact nth_map (f := cfs) rfl _ _
theorem eraseIdx_map {α β : Type} (f : α → β) (l : List α) (i : Nat) : (l.map f).eraseIdx i = (l.eraseIdx i).map f := by
 induction l generalizing i with
 | nil => simp
 | cons x l ih => cases i <;> simp [ih]
theorem mv_mnr (i k : Nat) (m : List (List RP)) : mv (mnr i k m) = mnrI i k (mv m) := by
 simp only [mv, mnr, mnrI, eraseIdx_map, List.map_map]
 congr 1
 funext r
 simp only [Function.comp_apply, eraseIdx_map, List.map_map]
 congr 1
 funext p
 exact cfs_nrm p
theorem MOK.mnr {s n : Nat} {m : List (List RP)} (h : MOK s n m) (hs : s < 1099511627775) (hn : n < 1099511627775) {i k : Nat} (hi : i < m.length) (hk : k < m.length) : MOK s n (mnr i k m) := by
 refine ⟨fun r hr => ?_, fun r hr p hp => ?_⟩
 ·simp only [Pm.nth, Go.Proofs.YtdiladmkbpnhoaaGreat.mnr, List.mem_map] at hr ⊢
  obtain ⟨r', hr', rfl⟩ := hr
  have := h.sq r' (List.mem_of_mem_eraseIdx hr')
  rw [List.length_map, List.length_eraseIdx_of_lt (by omega), List.length_map, List.length_eraseIdx_of_lt hi]
  omega
 ·simp only [Go.Proofs.YtdiladmkbpnhoaaGreat.mnr, List.mem_map] at hr
  obtain ⟨r', hr', rfl⟩ := hr
  simp only [List.mem_map] at hp
  obtain ⟨p', hp', rfl⟩ := hp
  obtain ⟨h1, h2⟩ := h.ok r' (List.mem_of_mem_eraseIdx hr') p' (List.mem_of_mem_eraseIdx hp')
  rw [gv_nrm]
  exact ⟨(PB.of h2.cut hs hn).pok, h2.cut⟩
def dcol : Nat → List (List (List Int)) → List Int
 | 0, _ => [1]
 | n + 1, m => (List.range m.length).foldl (fun d i => if nth (nth m i) 0 = [] then d else if i % 2 = 0 then padd d (pmul (nth (nth m i) 0) (dcol n (mnrI i 0 m))) else psub d (pmul (nth (nth m i) 0) (dcol n (mnrI i 0 m)))) []
structure EB (s n : Nat) (M : List (List (List Int))) : Prop where
 ok : ∀ r ∈ M, ∀ x ∈ r, Bd LL s n x
theorem EB.nth {s n : Nat} {M : List (List (List Int))} (h : EB s n M) (i k : Nat) : Bd LL s n (nth (nth M i) k) := by
 by_cases hi : i < M.length
 ·by_cases hk : k < (Pm.nth M i).length
  ·exact h.ok _ (nth_mem hi) _ (nth_mem hk)
  ·rw [nth_ge (l := Pm.nth M i) (by omega)]; exact ⟨by show 0 ≤ n; omega, fun c hc => by cases hc⟩
 ·rw [nth_ge (l := M) (by omega)]; exact ⟨by show 0 ≤ n; omega, fun c hc => by cases hc⟩
theorem EB.mnr {s n : Nat} {M : List (List (List Int))} (h : EB s n M) (i k : Nat) : EB s n (mnrI i k M) := ⟨fun r hr x hx => by
 simp only [mnrI, List.mem_map] at hr
 obtain ⟨r', hr', rfl⟩ := hr
 exact h.ok r' (List.mem_of_mem_eraseIdx hr') x (List.mem_of_mem_eraseIdx hx)⟩
theorem EB.mv {s n : Nat} {m : List (List RP)} (h : ∀ r ∈ m, ∀ p ∈ r, Bd LL s n (p.map gv)) : EB s n (mv m) := ⟨fun r hr x hx => by
 simp only [Go.Proofs.YtdiladmkbpnhoaaGreat.mv, List.mem_map] at hr
 obtain ⟨r', hr', rfl⟩ := hr
 simp only [List.mem_map] at hx
 obtain ⟨p, hp, rfl⟩ := hx
 exact (h r' hr' p hp).cut⟩
theorem dcol_step_bd {s n S N : Nat} {M : List (List (List Int))} (e : Nat → List Int) (f : Nat → List Int) (he : ∀ i, Bd LL s n (e i)) (hf : ∀ i, Bd LL S N (f i)) : ∀ j, Bd LL (s + S + n + j) (n + N) ((List.range j).foldl (fun d i => if e i = [] then d else if i % 2 = 0 then padd d (pmul (e i) (f i)) else psub d (pmul (e i) (f i))) [])
 | 0 => ⟨by simp, fun c hc => by cases hc⟩
 | j + 1 => by
  have ih := dcol_step_bd (M := M) e f he hf j
  have hp := (he j).pmul hLL (hf j)
  rw [List.range_succ, List.foldl_append]
  simp only [List.foldl_cons, List.foldl_nil]
  split
  ·exact ih.mono (by omega) (by omega)
  ·split
   ·exact (Bd.padd hLL ih (hp.mono (by omega) (by omega))).mono (by omega) (by omega)
   ·exact (Bd.psub hLL ih (hp.mono (by omega) (by omega))).mono (by omega) (by omega)
theorem dcol_bd {s n : Nat} : ∀ (k : Nat) (M : List (List (List Int))), EB s n M → M.length ≤ 4 → Bd LL (k * (s + n + 4) + 1) (k * n + 1) (dcol k M)
 | 0, M, _, _ => ⟨by simp [dcol], fun c hc => by simp [dcol] at hc; subst hc; exact Nat.le_trans (sz_le (k := 1) hLL (by decide)) (by omega)⟩
 | k + 1, M, h, h4 => by
  have := dcol_step_bd (M := M) (fun i => nth (nth M i) 0) (fun i => dcol k (mnrI i 0 M)) (fun i => h.nth i 0) (fun i => dcol_bd k (mnrI i 0 M) (h.mnr i 0) (by have := List.length_eraseIdx_le M i; simp; omega)) M.length
  rw [dcol]
  refine this.mono ?_ ?_
  ·rw [Nat.add_mul k 1]; omega
  ·rw [Nat.add_mul k 1]; omega
theorem sum_ret {s n : Nat} (hs : s < 1073741824) (hn : n < 1073741824) : ∀ (k : Nat) (m : List (List RP)), m.length = k → k ≤ 4 → MOK s n m → Ret env.P 158 [sls me m] (Po (dcol k (mv m))) := by
 intro k
 induction k with
 | zero =>
  intro m hm _ _
  have hO := pOf_ret [1] (by simp) (by simp)
  refine ret_of_Wf (E := env) (fun _ => 0) [(0, sls me m)] Tryz.func158 rfl (by kernel_rfl) (by kernel_rfl) (show 1 ≤ 44 by decide) (by simp) ?_
  refine W.sreg (fun K hK => ?_); simp (disch := omega) [gA, wA]; refine W.lv [0] hK fun J j => ?_; clear hK K; simp; refine j _ ?_; clear j J
  refine W.seq ?_
  refine W.sreg (fun K hK => ?_); simp (disch := omega) [gA, wA, hm]; refine W.lv [0, 9] hK fun J j => ?_; clear hK K; simp; refine j _ ?_; clear j J
  refine W.cond ⟨_, rfl, fun h => ?_, fun h => ?_⟩
  ·refine W.sreg (fun K hK => ?_)
   simp (disch := omega) [gA, wA]
   refine callR hO ?_
   simp (disch := omega) [gA, wA]
   refine W.lv [2] hK fun J j => ?_; clear hK K; simp; refine j _ ?_; clear j J
   refine W.ret ?_
   have e : cutR [1] = [1] := by decide
   simp [go, dcol, e]
  ·exfalso; simp [hm] at h
 | succ k ih =>
  intro m hm hk4 h
  have hM : EB s n (mv m) := EB.mv fun r hr p hp => (h.ok r hr p hp).2
  have hml : (mv m).length = k + 1 := by simp [mv, hm]
  have hstep := dcol_step_bd (M := mv m) (fun i => nth (nth (mv m) i) 0) (fun i => dcol k (mnrI i 0 (mv m))) (fun i => hM.nth i 0) (fun i => dcol_bd k (mnrI i 0 (mv m)) (hM.mnr i 0) (by have := List.length_eraseIdx_le (mv m) i; simp; omega))
  have hkb : k * (s + n + 4) ≤ 4 * (s + n + 4) := Nat.mul_le_mul_right _ (by omega)
  have hkn : k * n ≤ 4 * n := Nat.mul_le_mul_right _ (by omega)
  rw [dcol, hml]
  refine ret_of_Wf (E := env) (fun _ => 0) [(0, sls me m)] Tryz.func158 rfl (by kernel_rfl) (by kernel_rfl) (show 1 ≤ 44 by decide) (by simp) ?_
  refine W.sreg (fun K hK => ?_); simp (disch := omega) [gA, wA]; refine W.lv [0] hK fun J j => ?_; clear hK K; simp; refine j _ ?_; clear j J
  refine W.seq ?_
  have hk0 : ¬ ((k : Int) + 1 = 0) := by omega
  refine W.sreg (fun K hK => ?_); simp (disch := omega) [gA, wA, hm, hk0]; refine W.lv [0, 9] hK fun J j => ?_; clear hK K; simp; refine j _ ?_; clear j J
  refine W.cond ⟨_, rfl, fun hb => ?_, fun hb => ?_⟩
  ·exfalso; simp at hb; omega
  refine W.skip ?_
  refine W.sreg (fun K hK => ?_); simp (disch := omega) [gA, wA]; refine W.lv [0, 3] hK fun J j => ?_; clear hK K; simp; refine j _ ?_; clear j J
  refine W.nils 3 (Po []) (by simp) rfl (fun K hK => ?_)
  refine W.lv [0, 3] hK fun J j => ?_; clear hK K; simp; refine j _ ?_; clear j J
  refine W.seq ?_
  refine W.sreg (fun K hK => ?_); simp (disch := omega) [gA, wA, hm]; refine W.lv [0, 3, 12, 13, 14] hK fun J j => ?_; clear hK K; simp; refine j _ ?_; clear j J
  refine W.block ?_
  obtain ⟨D, hD⟩ : ∃ D : Nat → List Int, D = fun j => (List.range j).foldl (fun d i => if nth (nth (mv m) i) 0 = [] then d else if i % 2 = 0 then padd d (pmul (nth (nth (mv m) i) 0) (dcol k (mnrI i 0 (mv m)))) else psub d (pmul (nth (nth (mv m) i) 0) (dcol k (mnrI i 0 (mv m))))) [] := ⟨_, rfl⟩
  have hDs : ∀ j, D (j + 1) = if nth (nth (mv m) j) 0 = [] then D j else if j % 2 = 0 then padd (D j) (pmul (nth (nth (mv m) j) 0) (dcol k (mnrI j 0 (mv m)))) else psub (D j) (pmul (nth (nth (mv m) j) 0) (dcol k (mnrI j 0 (mv m)))) := fun j => by
   rw [hD]; simp only [List.range_succ, List.foldl_append, List.foldl_cons, List.foldl_nil]
  have hDb : ∀ j, j ≤ 4 → PB (D j) := fun j hj => by
   have h1 := hstep j
   rw [hD]
   exact PB.of h1 (by omega) (by omega)
  have hDf : (List.range (k + 1)).foldl (fun d i => if nth (nth (mv m) i) 0 = [] then d else if i % 2 = 0 then padd d (pmul (nth (nth (mv m) i) 0) (dcol k (mnrI i 0 (mv m)))) else psub d (pmul (nth (nth (mv m) i) 0) (dcol k (mnrI i 0 (mv m))))) [] = D (k + 1) := by rw [hD]
  rw [hDf]
  have hD0 : D 0 = [] := by rw [hD]; rfl
  clear hDf hD hstep
  refine W.loopG (fun q σ => ∃ (i : Nat) (rows : Pm.Rows) (clk : Nat), σ = ⟨fa [(0, sls me m), (3, Po (D i)), (12, sls me m), (13, .int .i64 ((k : Int) + 1)), (14, .int .i64 i)], rows, clk⟩ ∧ q = k + 1 - i ∧ i ≤ k + 1) (k + 1) ?_ ?_
  ·exact ⟨_, Gh.fr [(0, sls me m), (3, Po (D 0)), (12, sls me m), (13, .int .i64 ((k : Int) + 1)), (14, .int .i64 (0 : Nat))] (by simp [hD0]), 0, _, _, rfl, by omega, by omega⟩
  rintro q _ ⟨i, rows, clk, rfl, hq, hi⟩
  have hlt : (i : Int) < (k : Int) + 1 ↔ i < m.length := by omega
  refine W.sreg (fun K hK => ?_); simp (disch := omega) [gA, wA]; refine W.lv [0, 3, 12, 13, 14, 15] hK fun J j => ?_; clear hK K; simp; refine j _ ?_; clear j J
  refine W.seq ?_
  refine W.cond ⟨_, rfl, fun h2 => ?_, fun h2 => ?_⟩
  ·have h2 : i < m.length := by simp at h2; omega
   have hrow := nth_mem h2
   have hrl := h.sq _ hrow
   have hr0 : 0 < (nth m i).length := by omega
   obtain ⟨hp1, hp2⟩ := h.ok _ hrow _ (nth_mem hr0)
   have hN := pNorm_ret _ hp1
   have hmn := minor_ret i 0 m (by omega) (by omega) (by omega) (fun r hr => ⟨by have := h.sq r hr; omega, fun p hp => (h.ok r hr p hp).1⟩)
   have hmk := h.mnr (by omega) (by omega) h2 (show 0 < m.length by omega)
   have hml2 : (mnr i 0 m).length = k := by simp only [mnr, List.length_map, List.length_eraseIdx_of_lt h2]; omega
   have hsum := ih (mnr i 0 m) hml2 (by omega) hmk
   have hdb := dcol_bd k (mnrI i 0 (mv m)) (hM.mnr i 0) (by simp only [mnrI, List.length_map]; rw [List.length_eraseIdx_of_lt (by omega)]; omega)
   rw [mv_mnr] at hsum
   have hmul := pMulG_ret hp1 hp2 hdb (by omega)
   have hpb : PB (pmul (cfs (nth (nth m i) 0)) (dcol k (mnrI i 0 (mv m)))) := by
    have h5 := (hp2.cut).pmul hLL hdb
    exact PB.of h5 (by omega) (by omega)
   rw [pmul_cfs] at hmul
   have hmv := nth_mv m i 0
   have hD1 := hDs i
   rw [hmv] at hD1
   have ha := pAddI_ret (hDb i (by omega)) hpb
   have hs2 := pSubI_ret (hDb i (by omega)) hpb
   generalize pmul (cfs (nth (nth m i) 0)) (dcol k (mnrI i 0 (mv m))) = pr at *
   generalize dcol k (mnrI i 0 (mv m)) = dd at *
   replace hN : Ret env.P 110 [Pg (nth (nth m i) 0)] (Po (cfs (nth (nth m i) 0))) := hN
   have hlz : ((cfs (nth (nth m i) 0)).length : Int) = 0 ↔ cfs (nth (nth m i) 0) = [] := by rw [cfs_len_zero]; omega
   generalize cfs (nth (nth m i) 0) = c0 at *
   refine W.skip ?_
   refine W.seq_blockJ (fun σ => ∃ (rows : Pm.Rows) (clk : Nat), σ = ⟨fa [(0, sls me m), (3, Po (D (i + 1))), (12, sls me m), (13, .int .i64 ((k : Int) + 1)), (14, .int .i64 i)], rows, clk⟩) ?_ ?_
   ·
    refine W.sreg (fun K hK => ?_); simp (disch := omega) [gA, wA]; refine W.lv [0, 3, 4, 5, 12, 13, 14] hK fun J j => ?_; clear hK K; simp; refine j _ ?_; clear j J
    refine W.seq ?_
    refine W.sreg (fun K hK => ?_)
    simp (disch := omega) [gA, wA]
    refine callR hN ?_
    simp (disch := omega) [gA, wA]
    refine W.lv [0, 3, 4, 5, 12, 13, 14, 24] hK fun J j => ?_; clear hK K; simp; refine j _ ?_; clear j J
    refine W.cond ⟨_, rfl, fun h3 => ?_, fun h3 => ?_⟩
    ·have h3 : c0 = [] := by rw [← hlz]; simpa using h3
     refine W.exit ?_; simp only [pX, if_true, if_false, reduceIte, Nat.reduceEqDiff]
     refine ⟨_, Gh.fr [(0, sls me m), (3, Po (D (i + 1))), (12, sls me m), (13, .int .i64 ((k : Int) + 1)), (14, .int .i64 i)] (by simp [hD1, h3]), _, _, rfl⟩
    ·have h3 : c0 ≠ [] := fun h4 => by rw [← hlz] at h4; simp [h4] at h3
     rw [if_neg h3] at hD1
     refine W.skip ?_
     refine W.sdrw (fun K hK => ?_)
     simp (disch := omega) [gA, wA]
     refine callR hmn ?_
     simp (disch := omega) [gA, wA]
     refine callR hsum ?_
     simp (disch := omega) [gA, wA]
     refine callR hmul ?_
     simp (disch := omega) [gA, wA]
     refine W.lv [0, 3, 4, 6, 12, 13, 14] hK fun J j => ?_; clear hK K; simp; refine j _ ?_; clear j J
     refine W.sreg (fun K hK => ?_); simp (disch := omega) [gA, wA]; refine W.lv [0, 3, 6, 12, 13, 14, 35] hK fun J j => ?_; clear hK K; simp; refine j _ ?_; clear j J
     refine W.cond ⟨_, rfl, fun h4 => ?_, fun h4 => ?_⟩
     ·have h4 : i % 2 = 0 := by simp at h4; omega
      rw [if_pos h4] at hD1
      refine W.reg (fun K hK => ?_)
      simp (disch := omega) [gA, wA]
      refine callR ha ?_
      simp (disch := omega) [gA, wA]
      exact hK _ ⟨_, Gh.fr [(0, sls me m), (3, Po (D (i + 1))), (12, sls me m), (13, .int .i64 ((k : Int) + 1)), (14, .int .i64 i)] (by simp [hD1]), _, _, rfl⟩
     ·have h4 : ¬ i % 2 = 0 := by simp at h4; omega
      rw [if_neg h4] at hD1
      refine W.reg (fun K hK => ?_)
      simp (disch := omega) [gA, wA]
      refine callR hs2 ?_
      simp (disch := omega) [gA, wA]
      exact hK _ ⟨_, Gh.fr [(0, sls me m), (3, Po (D (i + 1))), (12, sls me m), (13, .int .i64 ((k : Int) + 1)), (14, .int .i64 i)] (by simp [hD1]), _, _, rfl⟩
   rintro _ ⟨rows, clk, rfl⟩
   refine W.reg (fun K hK => ?_); simp (disch := omega) [gA, wA]
   refine hK _ ⟨k + 1 - (i + 1), _, Gh_fa _ [0, 3, 12, 13, 14], by omega, i + 1, _, _, rfl, by omega, by omega⟩
  ·have h2 : i = k + 1 := by simp at h2; omega
   subst h2
   refine W.exit ?_; simp only [pX, if_true, if_false, reduceIte, Nat.reduceEqDiff]
   refine W.sreg (fun K hK => ?_); simp (disch := omega) [gA, wA]; refine W.lv [2] hK fun J j => ?_; clear hK K; simp; refine j _ ?_; clear j J
   refine W.ret ?_
   simp [go]
end Go.Proofs.YtdiladmkbpnhoaaGreat
