import Derived.Test.YtdiladmkbpnhoaaGreatLh
set_option linter.unusedSimpArgs false
set_option linter.unusedVariables false
namespace Go.Proofs.YtdiladmkbpnhoaaGreat
open Go Pm
abbrev RP := List (Bool × List Int)
def i64e (n : Int) : List PV := [.int .i64 n]
def pe (p : RP) : List PV := [Pg p]
def me (r : List RP) : List PV := [sls pe r]
@[simp] theorem i64e_def {n : Int} : i64e n = [.int .i64 n] := rfl
@[simp] theorem pe_def {p : RP} : pe p = [Pg p] := rfl
@[simp] theorem me_def {p : List RP} : me p = [sls pe p] := rfl
@[simp] theorem lenAll_i64e {l : List Int} : lenAll 1 (emap i64e l) = True := lenAll_emap fun _ => rfl
@[simp] theorem lenAll_pe {l : List RP} : lenAll 1 (emap pe l) = True := lenAll_emap fun _ => rfl
@[simp] theorem lenAll_me {l : List (List RP)} : lenAll 1 (emap me l) = True := lenAll_emap fun _ => rfl
@[simp] theorem rowPers_i64e {v e n : Nat} {l : List Int} : rowPers (some ⟨v, e, n, emap i64e l⟩) = True := rowPers_emap fun _ => rfl
@[simp] theorem rowPers_pe {v e n : Nat} {l : List RP} : rowPers (some ⟨v, e, n, emap pe l⟩) = True := rowPers_emap fun _ => rfl
@[simp] theorem rowPers_me {v e n : Nat} {l : List (List RP)} : rowPers (some ⟨v, e, n, emap me l⟩) = True := rowPers_emap fun _ => rfl
@[simp] theorem app_ge {l : RP} {n : Bool} {m : List Int} : emap ge l ++ [[.bool n, us m]] = emap ge (l ++ [(n, m)]) := by simp [emap]
@[simp] theorem app_ie {l : List Int} {x : Int} : emap ie l ++ [[.bool (decide (x < 0)), us (dig LL x.natAbs)]] = emap ie (l ++ [x]) := by simp [emap]
@[simp] theorem app_pe {l : List RP} {p : RP} : emap pe l ++ [[sls ge p]] = emap pe (l ++ [p]) := by simp [emap]
@[simp] theorem app_me {l : List (List RP)} {p : List RP} : emap me l ++ [[sls pe p]] = emap me (l ++ [p]) := by simp [emap]
theorem kRow_ret (l : List Int) (n : Nat) (hl : l.length < 9223372036854775808) (hn : n < 9223372036854775808) : Ret env.P 197 [us l, .int .i64 n] (us (l.take n)) := by
 refine ret_of_Wf (E := env) (fun _ => 0) [(0, us l), (1, .int .i64 n)] Tryz.func197 rfl (by kernel_rfl) (by kernel_rfl) (show 2 ≤ 11 by decide) (by simp) ?_
 refine W.sreg (fun K hK => ?_)
 simp (disch := omega) [gA, wA]
 refine W.lv [0, 1] hK fun J j => ?_; clear hK K; simp; refine j _ ?_; clear j J
 have e : (if n < l.length then (n : Int) else (l.length : Int)) = ((min l.length n : Nat) : Int) := by split <;> omega
 refine W.sreg (fun K hK => ?_)
 simp (disch := omega) [gA, wA, e]
 refine W.lv [4] hK fun J j => ?_; clear hK K; simp; refine j _ ?_; clear j J
 refine W.ret ?_
 have e2 : l.take n = l.take (min l.length n) := by
  rcases Nat.le_total l.length n with h | h
  ·rw [List.take_of_length_le h, Nat.min_eq_left h, List.take_of_length_le (Nat.le_refl _)]
  ·rw [Nat.min_eq_right h]
 rw [e2]
 simp [go]
theorem kInt_ret (s : Bool) (l : List Int) (n : Nat) (hl : l.length < 9223372036854775808) (hn : n < 9223372036854775808) : Ret env.P 128 [IV s l, .int .i64 n] (IV s (l.take n)) := by
 refine ret_of_Wf (E := env) (fun _ => 0) [(0, IV s l), (1, .int .i64 n)] Tryz.func128 rfl (by kernel_rfl) (by kernel_rfl) (show 2 ≤ 12 by decide) (by simp) ?_
 refine W.sreg (fun K hK => ?_)
 simp (disch := omega) [gA, wA]
 refine W.lv [1, 2, 4] hK fun J j => ?_; clear hK K; simp; refine j _ ?_; clear j J
 refine W.sdrw (fun K hK => ?_)
 simp (disch := omega) [gA, wA]
 refine callR (kRow_ret l n hl hn) ?_
 simp (disch := omega) [gA, wA]
 refine W.lv [4] hK fun J j => ?_; clear hK K; simp; refine j _ ?_; clear j J
 refine W.ret ?_
 simp [go]
def keepP (k n : Nat) (p : RP) : RP := (p.take k).map fun c => (c.1, c.2.take n)
theorem kPoly_ret (p : RP) (k n : Nat) (hp : p.length < 9223372036854775808) (hc : ∀ c ∈ p, c.2.length < 9223372036854775808) (hk : k < 1099511627776) (hn : n < 9223372036854775808) : Ret env.P 58 [Pg p, .int .i64 k, .int .i64 n] (Pg (keepP k n p)) := by
 refine ret_of_Wf (E := env) (fun _ => 0) [(0, Pg p), (1, .int .i64 k), (2, .int .i64 n)] Tryz.func58 rfl (by kernel_rfl) (by kernel_rfl) (show 3 ≤ 30 by decide) (by simp) ?_
 refine W.sreg (fun K hK => ?_)
 simp (disch := omega) [gA, wA]
 refine W.lv [0, 1, 2] hK fun J j => ?_; clear hK K; simp; refine j _ ?_; clear j J
 refine W.sreg (fun K hK => ?_)
 simp (disch := omega) [gA, wA]
 refine W.lv [0, 1, 2, 7] hK fun J j => ?_; clear hK K; simp; refine j _ ?_; clear j J
 refine W.nil 7 7 27 2 (by simp) (by decide) (fun K hK => ?_)
 refine W.lv [0, 1, 2, 7] hK fun J j => ?_; clear hK K; simp; refine j _ ?_; clear j J
 refine W.seq ?_
 refine W.sreg (fun K hK => ?_)
 simp (disch := omega) [gA, wA]
 refine W.lv [0, 1, 2, 7, 8] hK fun J j => ?_; clear hK K; simp; refine j _ ?_; clear j J
 refine W.block ?_
 refine W.loopG (fun m σ => ∃ (i ver : Nat) (rows : Pm.Rows) (clk : Nat), σ = ⟨fa [(0, Pg p), (1, .int .i64 k), (2, .int .i64 n), (7, .own 7 ver 0 i), (8, .int .i64 i)], rows, clk⟩ ∧
  rows 7 = some ⟨ver, 27, 2, emap ge (keepP i n p)⟩ ∧ m = k - i ∧ i ≤ k ∧ i ≤ p.length) k ?_ ?_
 ·exact ⟨_, .refl, 0, _, _, _, rfl, by simp [keepP, emap], by omega, by omega, by omega⟩
 rintro m _ ⟨i, ver, rows, clk, rfl, hr, hm, hik, hip⟩
 have hkl : (keepP i n p).length = i := by simp [keepP]; omega
 refine W.seq ?_
 refine W.sregJ (fun σ => ∃ (b : Bool), σ = ⟨fa [(0, Pg p), (1, .int .i64 k), (2, .int .i64 n), (7, .own 7 ver 0 i), (8, .int .i64 i), (17, .bool b)], rows, clk⟩ ∧ (b = true ↔ i < p.length ∧ i < k)) (fun K hK => ?_) ?_
 ·simp
  by_cases h0 : i < p.length
  ·simp [h0]
   exact hK _ _ (Gh_fa _ [0, 1, 2, 7, 8, 17]) ⟨_, rfl, by simp [h0]⟩
  ·simp [h0]
   exact hK _ _ (Gh_fa _ [0, 1, 2, 7, 8, 17]) ⟨_, rfl, by simp [h0]⟩
 rintro _ ⟨b, rfl, hb⟩
 refine W.cond ⟨_, rfl, fun h => ?_, fun h => ?_⟩
 ·obtain ⟨h1, h2⟩ := hb.1 h
  refine W.skip ?_
  refine W.seq ?_
  refine W.block ?_
  refine W.reg (fun K hK => ?_)
  simp (disch := omega) [gA, wA, hr]
  refine callR (kInt_ret _ _ n (hc _ (nth_mem h1)) hn) ?_
  simp (disch := omega) [gA, wA, hr, hkl]
  refine W.lv [0, 1, 2, 7, 8] hK fun J j => ?_; clear hK K; simp; refine j _ ?_; clear j J
  refine W.reg (fun K hK => ?_)
  simp (disch := omega) [gA, wA]
  refine hK _ ⟨k - (i + 1), _, Gh_fa _ [0, 1, 2, 7, 8], by omega, i + 1, _, _, _, rfl, ?_, by omega, by omega, by omega⟩
  have e : keepP (i + 1) n p = keepP i n p ++ [((nth p i).1, (nth p i).2.take n)] := map_take_succ h1
  rw [e]
  simp
 ·have h1 : i = k ∨ i = p.length := by
   have : ¬ (i < p.length ∧ i < k) := fun h2 => by simp [hb.2 h2] at h
   omega
  have e : keepP k n p = keepP i n p := by
   rcases h1 with h1 | h1
   ·rw [h1]
   ·unfold keepP; rw [List.take_of_length_le (show p.length ≤ k by omega), List.take_of_length_le (by omega)]
  refine W.exit ?_; simp only [pX, if_true, if_false, reduceIte, Nat.reduceEqDiff]
  refine W.sreg (fun K hK => ?_)
  simp (disch := omega) [gA, wA]
  refine W.lv [6] hK fun J j => ?_; clear hK K; simp; refine j _ ?_; clear j J
  refine W.ret ?_
  rw [e]
  simp [go, hr, hkl, take_all hkl]
end Go.Proofs.YtdiladmkbpnhoaaGreat
namespace Go.Proofs.YtdiladmkbpnhoaaGreat
open Go Pm
def cfs (p : RP) : List Int := cutR (p.map gv)
def nrm (p : RP) : RP := (cfs p).map rw'
theorem Po_cfs (p : RP) : Po (cfs p) = Pg (nrm p) := Po_eq _
theorem gv_nrm (p : RP) : (nrm p).map gv = cfs p := map_gv_rw _
theorem cfs_nrm (p : RP) : cfs (nrm p) = cfs p := by rw [cfs, gv_nrm]; exact cutR_cutR _
theorem pOf_ret (l : List Int) (hl : l.length < 1099511627776) (hb : ∀ x ∈ l, -9223372036854775808 ≤ x ∧ x < 9223372036854775808) : Ret env.P 43 [sls i64e l] (Po (cutR l)) := by
 refine ret_of_Wf (E := env) (fun _ => 0) [(0, sls i64e l)] Tryz.func43 rfl (by kernel_rfl) (by kernel_rfl) (show 1 ≤ 24 by decide) (by simp) ?_
 refine W.sreg (fun K hK => ?_)
 simp (disch := omega) [gA, wA]
 refine W.lv [0] hK fun J j => ?_; clear hK K; simp; refine j _ ?_; clear j J
 refine W.sreg (fun K hK => ?_)
 simp (disch := omega) [gA, wA]
 refine W.lv [0, 3] hK fun J j => ?_; clear hK K; simp; refine j _ ?_; clear j J
 refine W.row (id := 8) (emap ie (List.replicate l.length 0)) (by simp; exact ⟨rfl, rfl, rfl⟩) (row_ie _) ?_
 refine W.seq ?_
 refine W.sreg (fun K hK => ?_)
 simp (disch := omega) [gA, wA]
 refine W.lv [3, 9, 10, 11] hK fun J j => ?_; clear hK K; simp; refine j _ ?_; clear j J
 refine W.block ?_
 refine W.loopG (fun k σ => ∃ (i : Nat) (z : List Int) (ver : Nat) (rows : Pm.Rows) (clk : Nat), σ = ⟨fa [(3, .own 8 ver 0 l.length), (9, sls i64e l), (10, .int .i64 l.length), (11, .int .i64 i)], rows, clk⟩ ∧
  rows 8 = some ⟨ver, 27, 2, emap ie z⟩ ∧ k = l.length - i ∧ i ≤ l.length ∧ z.length = l.length ∧ z.take i = l.take i) l.length ?_ ?_
 ·exact ⟨_, .refl, 0, List.replicate l.length 0, _, _, _, rfl, by simp, by omega, by omega, by simp, by simp⟩
 rintro k _ ⟨i, z, ver, rows, clk, rfl, hr, hk, hi, hz, hv⟩
 refine W.sreg (fun K hK => ?_)
 simp (disch := omega) [gA, wA]
 refine W.lv [3, 9, 10, 11, 12] hK fun J j => ?_; clear hK K; simp; refine j _ ?_; clear j J
 refine W.seq ?_
 refine W.cond ⟨_, rfl, fun hlt => ?_, fun hlt => ?_⟩
 ·simp at hlt
  refine W.skip ?_
  refine W.seq ?_
  refine W.block ?_
  refine W.sreg (fun K hK => ?_)
  simp (disch := omega) [gA, wA, hr]
  refine W.lv [3, 4, 5, 9, 10, 11] hK fun J j => ?_; clear hK K; simp; refine j _ ?_; clear j J
  refine W.reg (fun K hK => ?_)
  simp (disch := omega) [gA, wA, hr]
  refine callR (Of_ret _ (hb _ (nth_mem hlt)).1 (hb _ (nth_mem hlt)).2) ?_
  simp (disch := omega) [gA, wA, hr]
  refine W.lv [3, 9, 10, 11] hK fun J j => ?_; clear hK K; simp; refine j _ ?_; clear j J
  refine W.reg (fun K hK => ?_)
  simp (disch := omega) [gA, wA]
  refine hK _ ⟨l.length - (i + 1), _, Gh_fa _ [3, 9, 10, 11], by omega, i + 1, z.set i (nth l i), ver, _, _, rfl, by simp, by omega, by omega, by simpa using hz, ?_⟩
  rw [set_take hv (by omega), take_succ_nth hlt]
 ·simp at hlt
  have hi' : i = l.length := by omega
  subst hi'
  refine W.exit ?_; simp only [pX, if_true, if_false, reduceIte, Nat.reduceEqDiff]
  rw [take_all hz, take_all rfl] at hv
  have hz2 := take_all hz
  refine W.sreg (fun K hK => ?_)
  simp (disch := omega) [gA, wA, hr, hz2]
  refine callR (pcut_ret z (by omega)) ?_
  simp (disch := omega) [gA, wA]
  refine W.lv [2] hK fun J j => ?_; clear hK K; simp; refine j _ ?_; clear j J
  refine W.ret ?_
  simp [go, hv]
end Go.Proofs.YtdiladmkbpnhoaaGreat
namespace Go.Proofs.YtdiladmkbpnhoaaGreat
open Go Pm
abbrev DD : Nat := 10000
theorem hDD : 2 ≤ DD := by decide
abbrev Dn (x : Int) : PV := sls i64e (dig DD x.toNat)
theorem Dn_cut {l : List Int} (h : Lim 10000 l) : sls i64e (cutR l) = Dn (V 10000 l) := by rw [cutR_dig hDD h]; rfl
@[simp] theorem rep_i64 {n : Nat} : List.replicate n [PV.int .i64 0] = emap i64e (List.replicate n 0) := by simp [emap]
@[simp] theorem setEl_i64e {l : List Int} {i : Nat} {x : Int} : setEl (emap i64e l) i 0 [.int .i64 x] = emap i64e (l.set i x) := setEl_g (n := 1) (fun _ => rfl)
@[simp] theorem app_i64e {l : List Int} {x : Int} : emap i64e l ++ [[.int .i64 x]] = emap i64e (l ++ [x]) := by simp [emap]
theorem rcut_ret (l : List Int) (hl : l.length < 17592186044416) : Ret env.P 178 [sls i64e l] (sls i64e (cutR l)) := by
 refine ret_of_Wf (E := env) (fun _ => 0) [(0, sls i64e l)] Tryz.func178 rfl (by kernel_rfl) (by kernel_rfl) (show 1 ≤ 21 by decide) (by simp) ?_
 refine W.sreg (fun K hK => ?_); simp (disch := omega) [gA, wA]; refine W.lv [0] hK fun J j => ?_; clear hK K; simp; refine j _ ?_; clear j J
 refine W.sreg (fun K hK => ?_); simp (disch := omega) [gA, wA]; refine W.lv [0, 3] hK fun J j => ?_; clear hK K; simp; refine j _ ?_; clear j J
 refine W.seq (W.block ?_)
 refine W.loopG (fun k σ => ∃ (rows : Pm.Rows) (clk : Nat), σ = ⟨fa [(0, sls i64e l), (3, .int .i64 (k : Int))], rows, clk⟩ ∧ k ≤ l.length ∧ cutR l = cutR (l.take k)) l.length ?_ ?_
 ·exact ⟨_, .refl, _, _, rfl, by omega, by simp⟩
 rintro k _ ⟨rows, clk, rfl, hk, hc⟩
 refine W.seq ?_
 refine W.sregJ (fun σ => ∃ (b : Bool), σ = ⟨fa [(0, sls i64e l), (3, .int .i64 (k : Int)), (15, .bool b)], rows, clk⟩ ∧ (b = true ↔ 0 < k ∧ nth l (k - 1) = 0)) (fun K hK => ?_) ?_
 ·simp
  by_cases h0 : 0 < k
  ·simp (disch := omega) [gA, wA, h0]
   exact hK _ _ (Gh_fa _ [0, 3, 15]) ⟨_, rfl, by simp [h0]⟩
  ·simp (disch := omega) [gA, wA, h0]
   exact hK _ _ (Gh_fa _ [0, 3, 15]) ⟨_, rfl, by simp [h0]⟩
 rintro _ ⟨b, rfl, hb⟩
 refine W.cond ⟨_, rfl, fun h => ?_, fun h => ?_⟩
 ·obtain ⟨h0, h1⟩ := hb.1 h
  refine W.skip (W.block ?_)
  refine W.reg (fun K hK => ?_)
  simp (disch := omega) [gA, wA]
  refine hK _ ⟨k - 1, _, Gh.fr [(0, _), (3, .int .i64 ((k - 1 : Nat) : Int))] (by simp; omega), by omega, _, _, rfl, by omega, ?_⟩
  rw [hc, show k = (k - 1) + 1 by omega, take_succ_nth (by omega), h1, cutR_zero]
  simp
 ·have h2 : cutR l = l.take k := by
   rw [hc]
   by_cases h0 : 0 < k
   ·have h1 : nth l (k - 1) ≠ 0 := fun h1 => by simp [hb.2 ⟨h0, h1⟩] at h
    rw [show k = (k - 1) + 1 by omega, take_succ_nth (by omega)]
    exact cutR_ne h1 _
   ·have : k = 0 := by omega
    subst this; simp [cutR]
  refine W.exit ?_
  simp only [pX, if_true, if_false, reduceIte, Nat.reduceEqDiff]
  refine W.sreg (fun K hK => ?_); simp (disch := omega) [gA, wA]; refine W.lv [2] hK fun J j => ?_; clear hK K; simp; refine j _ ?_; clear j J
  refine W.ret ?_
  simp [h2]
theorem mulAdd_ret (a : List Int) (m c0 : Int) (ha : a.length < 1099511627776) (la : Lim 10000 a) (hm0 : 0 ≤ m) (hm1 : m ≤ 65536) (hc0 : 0 ≤ c0) (hc1 : c0 ≤ 65536) :
  Ret env.P 176 [sls i64e a, .int .i64 m, .int .i64 c0] (Dn (V 10000 a * m + c0)) := by
 refine ret_of_Wf (E := env) (fun _ => 0) [(0, sls i64e a), (1, .int .i64 m), (2, .int .i64 c0)] Tryz.func176 rfl (by kernel_rfl) (by kernel_rfl) (show 3 ≤ 44 by decide) (by simp) ?_
 refine W.sreg (fun K hK => ?_); simp (disch := omega) [gA, wA]; refine W.lv [0, 1, 2] hK fun J j => ?_; clear hK K; simp; refine j _ ?_; clear j J
 refine W.sreg (fun K hK => ?_); simp (disch := omega) [gA, wA]; refine W.lv [0, 1, 2, 7] hK fun J j => ?_; clear hK K; simp; refine j _ ?_; clear j J
 refine W.seq ?_
 refine W.sreg (fun K hK => ?_); simp (disch := omega) [gA, wA]; refine W.lv [0, 1, 2, 7, 8] hK fun J j => ?_; clear hK K; simp; refine j _ ?_; clear j J
 refine W.block ?_
 refine W.loopG (fun k σ => ∃ (i : Nat) (c : Int) (z : List Int) (ver : Nat) (rows : Pm.Rows) (clk : Nat), σ = ⟨fa [(0, sls i64e a), (1, .int .i64 m), (2, .int .i64 c), (7, .own 12 ver 0 i), (8, .int .i64 i)], rows, clk⟩ ∧
  rows 12 = some ⟨ver, 3, 1, emap i64e z⟩ ∧ k = (a.length - i) * 1000000 + c.toNat ∧ z.length = i ∧ (i ≤ a.length ∨ i + c ≤ a.length + 65536) ∧ Lim 10000 z ∧ 0 ≤ c ∧ c ≤ 65536 ∧
  V 10000 z + 10000 ^ i * c = V 10000 (a.take i) * m + c0) (a.length * 1000000 + c0.toNat) ?_ ?_
 ·exact ⟨_, .refl, 0, c0, [], _, _, _, rfl, by simp [emap], by simp, rfl, by omega, Lim.nil, hc0, hc1, by simp [V]⟩
 rintro k _ ⟨i, c, z, ver, rows, clk, rfl, hr, hk, hz, hi, lz, h0, h1, hV⟩
 refine W.seq ?_
 refine W.sregJ (fun σ => ∃ (b : Bool), σ = ⟨fa [(0, sls i64e a), (1, .int .i64 m), (2, .int .i64 c), (7, .own 12 ver 0 i), (8, .int .i64 i), (20, .bool b)], rows, clk⟩ ∧ (b = true ↔ i < a.length ∨ 0 < c)) (fun K hK => ?_) ?_
 ·simp
  by_cases h2 : i < a.length
  ·simp (disch := omega) [gA, wA, h2]
   exact hK _ _ (Gh_fa _ [0, 1, 2, 7, 8, 20]) ⟨_, rfl, by simp [h2]⟩
  ·simp (disch := omega) [gA, wA, h2]
   exact hK _ _ (Gh_fa _ [0, 1, 2, 7, 8, 20]) ⟨_, rfl, by simp [h2]⟩
 rintro _ ⟨b, rfl, hb⟩
 refine W.cond ⟨_, rfl, fun h => ?_, fun h => ?_⟩
 ·have hb := hb.1 h
  refine W.skip ?_
  refine W.seq ?_
  refine W.block ?_
  refine W.seqJ (fun σ => ∃ (s : Int), σ = ⟨fa [(0, sls i64e a), (1, .int .i64 m), (2, .int .i64 s), (7, .own 12 ver 0 i), (8, .int .i64 i)], rows, clk⟩ ∧ 0 ≤ s ∧ s ≤ 655360000 ∧ (a.length ≤ i → s = c) ∧
   V 10000 z + 10000 ^ i * s = V 10000 (a.take (i + 1)) * m + c0) ?_ ?_
  ·
   refine W.sreg (fun K hK => ?_); simp (disch := omega) [gA, wA]; refine W.lv [0, 1, 2, 7, 8, 26] hK fun J j => ?_; clear hK K; simp; refine j _ ?_; clear j J
   refine W.cond ⟨_, rfl, fun h => ?_, fun h => ?_⟩
   ·simp at h
    have hn := la.nth h
    have h2 : 0 ≤ nth a i * m := Int.mul_nonneg hn.1 hm0
    have h3 : nth a i * m ≤ 9999 * 65536 := Int.mul_le_mul (by omega) hm1 hm0 (by omega)
    refine W.reg (fun K hK => ?_); simp (disch := omega) [gA, wA]
    refine hK _ ⟨_, Gh_fa _ [0, 1, 2, 7, 8], _, rfl, by omega, by omega, by omega, ?_⟩
    rw [V_take_succ h, Int.mul_add, Int.add_mul]
    grind
   ·simp at h
    refine W.skip ?_
    refine ⟨_, Gh_fa _ [0, 1, 2, 7, 8], _, rfl, by omega, by omega, fun _ => rfl, ?_⟩
    rw [V_take_all (by omega)]
    rw [V_take_all (by omega)] at hV
    exact hV
  rintro _ ⟨s, rfl, hs0, hs1, hsc, hsV⟩
  refine W.sreg (fun K hK => ?_); simp (disch := omega) [gA, wA, hr, hz]
  refine W.lv [0, 1, 2, 7, 8] hK fun J j => ?_; clear hK K; simp; refine j _ ?_; clear j J
  refine W.reg (fun K hK => ?_); simp (disch := omega) [gA, wA]; refine W.lv [0, 1, 2, 7, 8] hK fun J j => ?_; clear hK K; simp; refine j _ ?_; clear j J
  refine W.reg (fun K hK => ?_); simp (disch := omega) [gA, wA]
  refine hK _ ⟨(a.length - (i + 1)) * 1000000 + (s / 10000).toNat, _, Gh_fa _ [0, 1, 2, 7, 8], by omega, i + 1, s / 10000, z ++ [s % 10000], _, _, _, rfl, by simp, rfl, by simp [hz], by omega, Lim.append.2 ⟨lz, Lim.cons.2 ⟨by omega, Lim.nil⟩⟩, by omega, by omega, ?_⟩
  rw [V_append, V_one, hz, ← hsV, Int.pow_succ]
  have := Int.emod_add_mul_ediv s 10000
  grind
 ·have hb : ¬ (i < a.length ∨ 0 < c) := fun h2 => by simp [hb.2 h2] at h
  have hc : c = 0 := by omega
  subst hc
  refine W.exit ?_; simp only [pX, if_true, if_false, reduceIte, Nat.reduceEqDiff]
  have ez : z.take i = z := take_all hz
  refine W.sreg (fun K hK => ?_)
  simp (disch := omega) [gA, wA, hr, hz, ez]
  refine callR (rcut_ret z (by omega)) ?_
  simp (disch := omega) [gA, wA]
  refine W.lv [6] hK fun J j => ?_; clear hK K; simp; refine j _ ?_; clear j J
  refine W.ret ?_
  rw [V_take_all (by omega)] at hV
  have e : V 10000 z = V 10000 a * m + c0 := by simpa using hV
  rw [← e, ← Dn_cut lz]
  simp
end Go.Proofs.YtdiladmkbpnhoaaGreat
namespace Go.Proofs.YtdiladmkbpnhoaaGreat
open Go Pm
abbrev Z (x : Int) : Prop := sz 2 x < 1099511627776
theorem sz_base {b : Nat} (hb : 2 ≤ b) (x : Int) : sz b x ≤ sz 2 x := by
 refine sz_le hb (Nat.lt_of_lt_of_le (sz_lt (b := 2) (by decide) x) ?_)
 exact Nat.pow_le_pow_left hb _
theorem dd_len (y : Int) : (dig DD y.natAbs).length ≤ sz 2 y := sz_base hDD y
theorem dd_len' {y : Int} (h : 0 ≤ y) : (dig DD y.toNat).length ≤ sz 2 y := by
 have := dd_len y
 rwa [show y.natAbs = y.toNat by omega] at this
theorem V_dd {y : Int} (h : 0 ≤ y) : V 10000 (dig DD y.toNat) = y := by
 have := V_dig hDD y.toNat
 simp only [show ((DD : Nat) : Int) = 10000 from rfl] at this
 rw [this]; omega
theorem V_dda (y : Int) : V 10000 (dig DD y.natAbs) = y.natAbs := by
 have := V_dig hDD y.natAbs
 simpa only [show ((DD : Nat) : Int) = 10000 from rfl] using this
theorem Lim_dd (n : Nat) : Lim 10000 (dig DD n) := Lim_dig hDD n
theorem V_ll (n : Nat) : V 4294967296 (dig LL n) = n := by
 have := V_dig hLL n
 simpa only [show ((LL : Nat) : Int) = 4294967296 from rfl] using this
theorem sz2_V {l : List Int} (h : Lim 4294967296 l) : sz 2 (V 4294967296 l) ≤ 32 * l.length := by
 refine sz_le (by decide) ?_
 have h1 := V_lt (b := (4294967296 : Int)) (by decide) h
 have h2 := V_nonneg (b := (4294967296 : Int)) (by decide) h
 have h3 : ((4294967296 : Int) ^ l.length) = ((2 ^ (32 * l.length) : Nat) : Int) := by rw [Nat.pow_mul]; simp
 rw [h3] at h1
 omega
theorem mulAdd_ret' (y m c : Int) (hy : 0 ≤ y) (hz : Z y) (hm0 : 0 ≤ m) (hm1 : m ≤ 65536) (hc0 : 0 ≤ c) (hc1 : c ≤ 65536) : Ret env.P 176 [Dn y, .int .i64 m, .int .i64 c] (Dn (y * m + c)) := by
 have := mulAdd_ret (dig DD y.toNat) m c (by have := dd_len' hy; omega) (Lim_dd _) hm0 hm1 hc0 hc1
 rwa [V_dd hy] at this
theorem FromN_ret (l : List Int) (hl : l.length ≤ 17179869184) (hm : Lim 4294967296 l) : Ret env.P 106 [us l] (Dn (V 4294967296 l)) := by
 refine ret_of_Wf (E := env) (fun _ => 0) [(0, us l)] Tryz.func106 rfl (by kernel_rfl) (by kernel_rfl) (show 1 ≤ 29 by decide) (by simp) ?_
 refine W.sreg (fun K hK => ?_); simp (disch := omega) [gA, wA]; refine W.lv [0] hK fun J j => ?_; clear hK K; simp; refine j _ ?_; clear j J
 refine W.sreg (fun K hK => ?_); simp (disch := omega) [gA, wA]; refine W.lv [0, 3] hK fun J j => ?_; clear hK K; simp; refine j _ ?_; clear j J
 refine W.nils 3 (Dn 0) (by simp) rfl (fun K hK => ?_)
 refine W.lv [0, 3] hK fun J j => ?_; clear hK K; simp; refine j _ ?_; clear j J
 refine W.seq ?_
 refine W.sreg (fun K hK => ?_); simp (disch := omega) [gA, wA]; refine W.lv [0, 3, 4] hK fun J j => ?_; clear hK K; simp; refine j _ ?_; clear j J
 refine W.block ?_
 refine W.loopG (fun k σ => ∃ (rows : Pm.Rows) (clk : Nat), σ = ⟨fa [(0, us l), (3, Dn (V 4294967296 (l.drop k))), (4, .int .i64 ((k : Int) - 1))], rows, clk⟩ ∧ k ≤ l.length) l.length ?_ ?_
 ·exact ⟨_, Gh.fr [(0, us l), (3, Dn (V 4294967296 (l.drop l.length))), (4, .int .i64 ((l.length : Int) - 1))] (by simp [V]), _, _, rfl, by omega⟩
 rintro k _ ⟨rows, clk, rfl, hk⟩
 have h0 := V_nonneg (b := 4294967296) (by decide) (hm.drop k)
 have hs : sz 2 (V 4294967296 (l.drop k)) ≤ 32 * (l.length - k) := by have := sz2_V (hm.drop k); simpa using this
 refine W.seq ?_
 refine W.sreg (fun K hK => ?_); simp (disch := omega) [gA, wA]; refine W.lv [0, 3, 4, 9] hK fun J j => ?_; clear hK K; simp; refine j _ ?_; clear j J
 refine W.cond ⟨_, rfl, fun h => ?_, fun h => ?_⟩
 ·simp at h
  have hx := hm.nth (i := k - 1) (by omega)
  have hd : V 4294967296 (l.drop (k - 1)) = nth l (k - 1) + 4294967296 * V 4294967296 (l.drop k) := by
   rw [drop_nth (i := k - 1) (by omega), show k - 1 + 1 = k by omega]; rfl
  refine W.skip ?_
  refine W.seq ?_
  refine W.block ?_
  refine W.sreg (fun K hK => ?_)
  have hk1 : ((k : Int) - 1).toNat = k - 1 := by omega
  simp (disch := omega) [gA, wA, hk1]
  refine callR (mulAdd_ret' _ 65536 _ h0 (by omega) (by decide) (by decide) (by omega) (by omega)) ?_
  simp (disch := omega) [gA, wA]
  refine W.lv [0, 3, 4] hK fun J j => ?_; clear hK K; simp; refine j _ ?_; clear j J
  have h1 : 0 ≤ V 4294967296 (l.drop k) * 65536 + nth l (k - 1) / 65536 := by omega
  have h2 : sz 2 (V 4294967296 (l.drop k) * 65536 + nth l (k - 1) / 65536) ≤ 32 * l.length := by
   have h3 := sz2_V (hm.drop (k - 1))
   refine Nat.le_trans (sz_mono (by decide) (y := V 4294967296 (l.drop (k - 1))) (by omega)) ?_
   simp at h3; omega
  refine W.reg (fun K hK => ?_)
  simp (disch := omega) [gA, wA, hk1]
  refine callR (mulAdd_ret' _ 65536 _ h1 (by omega) (by decide) (by decide) (by omega) (by omega)) ?_
  simp (disch := omega) [gA, wA]
  refine W.lv [0, 3, 4] hK fun J j => ?_; clear hK K; simp; refine j _ ?_; clear j J
  refine W.reg (fun K hK => ?_); simp (disch := omega) [gA, wA]
  refine hK _ ⟨k - 1, _, Gh.fr [(0, us l), (3, Dn (V 4294967296 (l.drop (k - 1)))), (4, .int .i64 (((k - 1 : Nat) : Int) - 1))] ?_, by omega, _, _, rfl, by omega⟩
  have e : (V 4294967296 (l.drop k) * 65536 + nth l (k - 1) / 65536) * 65536 + nth l (k - 1) % 65536 = V 4294967296 (l.drop (k - 1)) := by omega
  simp [e]; omega
 ·simp at h
  have hk0 : k = 0 := by omega
  subst hk0
  refine W.exit ?_; simp only [pX, if_true, if_false, reduceIte, Nat.reduceEqDiff]
  refine W.sreg (fun K hK => ?_); simp (disch := omega) [gA, wA]; refine W.lv [2] hK fun J j => ?_; clear hK K; simp; refine j _ ?_; clear j J
  refine W.ret ?_
  simp
abbrev RI (x : Int) : PV := .ag [sls i64e (dig DD x.natAbs), .bool (decide (x < 0))]
theorem rmade_ret (y : Int) (hy : 0 ≤ y) (neg : Bool) : Ret env.P 102 [Dn y, .bool neg] (RI (if neg = true then -y else y)) := by
 refine ret_of_Wf (E := env) (fun _ => 0) [(0, Dn y), (1, .bool neg)] Tryz.func102 rfl (by kernel_rfl) (by kernel_rfl) (show 2 ≤ 13 by decide) (by simp) ?_
 refine W.sreg (fun K hK => ?_); simp (disch := omega) [gA, wA]; refine W.lv [0, 1, 4] hK fun J j => ?_; clear hK K; simp; refine j _ ?_; clear j J
 have e0 : (dig DD y.toNat = []) ↔ y = 0 := by rw [dig_eq_nil hDD]; omega
 have e : RI (if neg = true then -y else y) = .ag [Dn y, .bool (neg && decide (0 < (dig DD y.toNat).length))] := by
  have h1 : 0 < (dig DD y.toNat).length ↔ y ≠ 0 := by
   rw [List.length_pos_iff]; simp [e0]
  have e2 : (if neg = true then -y else y).natAbs = y.toNat := by split <;> omega
  have e3 : (decide ((if neg = true then -y else y) < 0)) = (neg && decide (0 < (dig DD y.toNat).length)) := by
   cases neg
   ·simp only [Bool.false_and, Bool.false_eq_true, if_false, decide_eq_false_iff_not]; omega
   ·simp only [Bool.true_and, if_true, h1]; congr 1; apply propext; omega
  rw [RI, e2, e3]
 rw [e]
 refine W.sreg (fun K hK => ?_)
 cases neg
 ·simp (disch := omega) [gA, wA]
  refine W.lv [4] hK fun J j => ?_; clear hK K; simp; refine j _ ?_; clear j J
  refine W.ret ?_
  simp [go]
 ·simp (disch := omega) [gA, wA]
  refine W.lv [4] hK fun J j => ?_; clear hK K; simp; refine j _ ?_; clear j J
  refine W.ret ?_
  simp [go]
theorem rFrom_ret (n : Bool) (l : List Int) (hl : l.length ≤ 17179869184) (hm : Lim 4294967296 l) : Ret env.P 40 [IV n l] (RI (iv n l)) := by
 refine ret_of_Wf (E := env) (fun _ => 0) [(0, IV n l)] Tryz.func40 rfl (by kernel_rfl) (by kernel_rfl) (show 1 ≤ 9 by decide) (by simp) ?_
 refine W.sreg (fun K hK => ?_); simp (disch := omega) [gA, wA]; refine W.lv [1, 2] hK fun J j => ?_; clear hK K; simp; refine j _ ?_; clear j J
 refine W.sdrw (fun K hK => ?_)
 simp (disch := omega) [gA, wA]
 refine callR (FromN_ret l hl hm) ?_
 simp (disch := omega) [gA, wA]
 refine callR (rmade_ret _ (V_nonneg (by decide) hm) n) ?_
 simp (disch := omega) [gA, wA]
 refine W.lv [2] hK fun J j => ?_; clear hK K; simp; refine j _ ?_; clear j J
 refine W.ret ?_
 simp [go, iv]
theorem PowN_ret (n : Nat) (hn : n < 1099511627776) : Ret env.P 103 [.int .i64 n] (Dn (2 ^ n)) := by
 refine ret_of_Wf (E := env) (fun _ => 0) [(0, .int .i64 n)] Tryz.func103 rfl (by kernel_rfl) (by kernel_rfl) (show 1 ≤ 14 by decide) (by simp) ?_
 refine W.sreg (fun K hK => ?_); simp (disch := omega) [gA, wA]; refine W.lv [0] hK fun J j => ?_; clear hK K; simp; refine j _ ?_; clear j J
 refine W.sreg (fun K hK => ?_); simp (disch := omega) [gA, wA]; refine W.lv [0, 3] hK fun J j => ?_; clear hK K; simp; refine j _ ?_; clear j J
 refine W.slxs 3 [[.int .i64 1]] (Dn 1) (by simp) rfl (fun K hK => ?_)
 refine W.lv [0, 3] hK fun J j => ?_; clear hK K; simp; refine j _ ?_; clear j J
 refine W.seq ?_
 refine W.sreg (fun K hK => ?_); simp (disch := omega) [gA, wA]; refine W.lv [0, 3, 4] hK fun J j => ?_; clear hK K; simp; refine j _ ?_; clear j J
 refine W.block ?_
 refine W.loopG (fun k σ => ∃ (i : Nat) (rows : Pm.Rows) (clk : Nat), σ = ⟨fa [(0, .int .i64 n), (3, Dn (2 ^ i)), (4, .int .i64 i)], rows, clk⟩ ∧ k = n - i ∧ i ≤ n) n ?_ ?_
 ·exact ⟨_, .refl, 0, _, _, rfl, by omega, by omega⟩
 rintro k _ ⟨i, rows, clk, rfl, hk, hi⟩
 refine W.seq ?_
 refine W.sreg (fun K hK => ?_); simp (disch := omega) [gA, wA]; refine W.lv [0, 3, 4, 8] hK fun J j => ?_; clear hK K; simp; refine j _ ?_; clear j J
 refine W.cond ⟨_, rfl, fun h => ?_, fun h => ?_⟩
 ·simp at h
  have hs : sz 2 (2 ^ i) ≤ i + 1 := by
   refine sz_le (by decide) ?_
   rw [show ((2 : Int) ^ i) = ((2 ^ i : Nat) : Int) by simp, Int.natAbs_natCast, Nat.pow_succ]
   have := Nat.pow_pos (n := i) (show 0 < 2 by decide)
   omega
  refine W.skip ?_
  refine W.seq ?_
  refine W.block ?_
  refine W.reg (fun K hK => ?_)
  simp (disch := omega) [gA, wA]
  refine callR (mulAdd_ret' (2 ^ i) 2 0 (Int.le_of_lt (Int.pow_pos (by decide))) (by omega) (by decide) (by decide) (by decide) (by decide)) ?_
  simp (disch := omega) [gA, wA]
  refine W.lv [0, 3, 4] hK fun J j => ?_; clear hK K; simp; refine j _ ?_; clear j J
  refine W.reg (fun K hK => ?_); simp (disch := omega) [gA, wA]
  refine hK _ ⟨n - (i + 1), _, Gh.fr [(0, .int .i64 n), (3, Dn (2 ^ (i + 1))), (4, .int .i64 ((i + 1 : Nat) : Int))] ?_, by omega, i + 1, _, _, rfl, rfl, by omega⟩
  simp [Int.pow_succ]
 ·simp at h
  have : i = n := by omega
  subst this
  refine W.exit ?_; simp only [pX, if_true, if_false, reduceIte, Nat.reduceEqDiff]
  refine W.sreg (fun K hK => ?_); simp (disch := omega) [gA, wA]; refine W.lv [2] hK fun J j => ?_; clear hK K; simp; refine j _ ?_; clear j J
  refine W.ret ?_
  simp
theorem rOf_ret (n : Int) (h1 : -9223372036854775808 ≤ n) (h2 : n < 9223372036854775808) : Ret env.P 37 [.int .i64 n] (RI n) := by
 refine ret_of_Wf (E := env) (fun _ => 0) [(0, .int .i64 n)] Tryz.func37 rfl (by kernel_rfl) (by kernel_rfl) (show 1 ≤ 26 by decide) (by simp) ?_
 refine W.sreg (fun K hK => ?_); simp (disch := omega) [gA, wA]; refine W.lv [0, 2] hK fun J j => ?_; clear hK K; simp; refine j _ ?_; clear j J
 refine W.seq ?_
 refine W.sreg (fun K hK => ?_); simp (disch := omega) [gA, wA]; refine W.lv [0, 2, 6] hK fun J j => ?_; clear hK K; simp; refine j _ ?_; clear j J
 refine W.cond ⟨_, rfl, fun h => ?_, fun h => ?_⟩
 ·simp at h
  subst h
  refine W.sreg (fun K hK => ?_)
  simp (disch := omega) [gA, wA]
  refine callR (PowN_ret 63 (by decide)) ?_
  simp (disch := omega) [gA, wA]
  have hp := rmade_ret 9223372036854775808 (by decide) true
  simp at hp
  refine callR hp ?_
  simp (disch := omega) [gA, wA]
  refine W.lv [2] hK fun J j => ?_; clear hK K; simp; refine j _ ?_; clear j J
  refine W.ret ?_
  simp [go]
 ·simp at h
  refine W.skip ?_
  refine W.sreg (fun K hK => ?_); simp (disch := omega) [gA, wA]; refine W.lv [0, 2, 3] hK fun J j => ?_; clear hK K; simp; refine j _ ?_; clear j J
  refine W.seqJ (fun σ => ∃ (rows : Pm.Rows) (clk : Nat), σ = ⟨fa [(0, .int .i64 n.natAbs), (2, .ptr 2 0 0 0), (3, .bool (decide (n < 0)))], rows, clk⟩ ∧ rows 2 = some ⟨0, 41, 2, [[.nil, .bool false]]⟩) ?_ ?_
  ·
   refine W.sreg (fun K hK => ?_); simp (disch := omega) [gA, wA]; refine W.lv [0, 2, 3, 11] hK fun J j => ?_; clear hK K; simp; refine j _ ?_; clear j J
   refine W.cond ⟨_, rfl, fun h => ?_, fun h => ?_⟩
   ·simp at h
    refine W.reg (fun K hK => ?_); simp (disch := omega) [gA, wA]
    refine hK _ ⟨_, Gh.fr [(0, .int .i64 n.natAbs), (2, .ptr 2 0 0 0), (3, .bool (decide (n < 0)))] (by simp; omega), _, _, rfl, by simp⟩
   ·simp at h
    refine W.skip ?_
    refine ⟨_, Gh.fr [(0, .int .i64 n.natAbs), (2, .ptr 2 0 0 0), (3, .bool (decide (n < 0)))] (by simp; omega), _, _, rfl, by simp⟩
  rintro _ ⟨rows, clk, rfl, hr2⟩
  refine W.sreg (fun K hK => ?_); simp (disch := omega) [gA, wA]; refine W.lv [0, 2, 3, 4] hK fun J j => ?_; clear hK K; simp; refine j _ ?_; clear j J
  refine W.nil 4 4 3 1 (by simp) (by decide) (fun K hK => ?_)
  refine W.lv [0, 2, 3, 4] hK fun J j => ?_; clear hK K; simp; refine j _ ?_; clear j J
  refine W.seq ?_
  refine W.block ?_
  refine W.loopG (fun k σ => ∃ (z : List Int) (i ver : Nat) (rows : Pm.Rows) (clk : Nat), σ = ⟨fa [(0, .int .i64 k), (2, .ptr 2 0 0 0), (3, .bool (decide (n < 0))), (4, .own 4 ver 0 i)], rows, clk⟩ ∧ rows 2 = some ⟨0, 41, 2, [[.nil, .bool false]]⟩ ∧
   rows 4 = some ⟨ver, 3, 1, emap i64e z⟩ ∧ z.length = i ∧ k * 2 ^ i ≤ 9223372036854775808 ∧ Lim 10000 z ∧ V 10000 z + 10000 ^ i * k = n.natAbs ∧ dig DD n.natAbs = z ++ dig DD k) n.natAbs ?_ ?_
  ·exact ⟨_, .refl, [], 0, _, _, _, rfl, by simp [hr2], by simp [emap], rfl, by simp; omega, Lim.nil, by simp [V], by simp⟩
  rintro k _ ⟨z, i, ver, rows, clk, rfl, hr2, hr, hz, hik, lz, hV, hd⟩
  refine W.seq ?_
  refine W.sreg (fun K hK => ?_); simp (disch := omega) [gA, wA]; refine W.lv [0, 2, 3, 4, 15] hK fun J j => ?_; clear hK K; simp; refine j _ ?_; clear j J
  refine W.cond ⟨_, rfl, fun h => ?_, fun h => ?_⟩
  ·simp at h
   have hi64 : i ≤ 63 := by
    have h3 : 1 * 2 ^ i ≤ k * 2 ^ i := Nat.mul_le_mul_right _ (by omega)
    have h4 : 2 ^ i ≤ 2 ^ 63 := by omega
    exact (Nat.pow_le_pow_iff_right (by decide)).1 h4
   have hk63 : k ≤ 9223372036854775808 := Nat.le_trans (by have := Nat.mul_le_mul_left k (Nat.pow_pos (n := i) (show 0 < 2 by decide)); omega) hik
   refine W.skip ?_
   refine W.block ?_
   refine W.sreg (fun K hK => ?_); simp (disch := omega) [gA, wA, hr, hz]
   refine W.lv [0, 2, 3, 4] hK fun J j => ?_; clear hK K; simp; refine j _ ?_; clear j J
   refine W.reg (fun K hK => ?_); simp (disch := omega) [gA, wA]
   refine hK _ ⟨k / 10000, _, Gh.fr [(0, .int .i64 ((k / 10000 : Nat) : Int)), (2, .ptr 2 0 0 0), (3, .bool (decide (n < 0))), (4, .own 4 _ 0 (i + 1))] (by simp; rfl), by omega, z ++ [((k % 10000 : Nat) : Int)], i + 1, _, _, _, rfl, by simp [hr2], by simp, by simp [hz], ?_, Lim.append.2 ⟨lz, Lim.cons.2 ⟨by omega, Lim.nil⟩⟩, ?_, ?_⟩
   ·rw [Nat.pow_succ]
    have h3 : k / 10000 * (2 ^ i * 2) = k / 10000 * 2 * 2 ^ i := by rw [Nat.mul_comm (2 ^ i), Nat.mul_assoc]
    rw [h3]
    exact Nat.le_trans (Nat.mul_le_mul_right _ (by omega)) hik
   ·rw [V_append, V_one, hz, ← hV, Int.pow_succ]
    have : (k : Int) = (k % 10000 : Nat) + 10000 * (k / 10000 : Nat) := by omega
    grind
   ·rw [hd, dig_step hDD (by omega)]; simp
  ·simp at h
   have hk0 : k = 0 := by omega
   subst hk0
   have e : z = dig DD n.natAbs := by rw [hd]; simp [dig_zero]
   refine W.exit ?_; simp only [pX, if_true, if_false, reduceIte, Nat.reduceEqDiff]
   refine W.sreg (fun K hK => ?_)
   have ez : z.take i = dig DD n.natAbs := by rw [take_all hz, e]
   simp (disch := omega) [gA, wA, hr, hz, ez]
   refine callR (rmade_ret n.natAbs (by omega) (decide (n < 0))) ?_
   simp (disch := omega) [gA, wA, hr2]
   refine W.lv [2] hK fun J j => ?_; clear hK K; simp; refine j _ ?_; clear j J
   refine W.ret ?_
   have e2 : (if n < 0 then -(n.natAbs : Int) else n.natAbs) = n := by split <;> omega
   rw [e2]
   simp [go]
end Go.Proofs.YtdiladmkbpnhoaaGreat
