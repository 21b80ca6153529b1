import Derived.Test.YtdiladmkbpnhoaaGreatLbh
import Derived.Test.YtdiladmkbpnhoaaGreatMq
set_option linter.unusedSimpArgs false
set_option linter.unusedVariables false
namespace Go.Proofs.YtdiladmkbpnhoaaGreat
open Go Pm
theorem cover_ret (x : List Int) (c : Int) (hx : PD x) (hc : sz LL c < 1099511627774) (h0 : c ≠ 0) : Ret env.P 170 [Po x, I c] (Po (cutR (x.map (exq c)))) := by
 have hxl := hx.len
 refine ret_of_Wf (E := env) (fun _ => 0) [(0, Po x), (1, I c)] Tryz.func170 rfl (by kernel_rfl) (by kernel_rfl) (show 2 ≤ 30 by decide) (by simp) ?_
 refine W.sreg (fun K hK => ?_); simp (disch := omega) [gA, wA]; refine W.lv [0, 3] hK fun J j => ?_; clear hK K; simp; refine j _ ?_; clear j J
 refine W.sreg (fun K hK => ?_); simp (disch := omega) [gA, wA]; refine W.lv [0, 3, 5] hK fun J j => ?_; clear hK K; simp; refine j _ ?_; clear j J
 refine W.row (id := 10) (emap ie (List.replicate x.length 0)) (by simp; exact ⟨rfl, rfl, rfl⟩) (row_ie _) ?_
 refine W.seq ?_
 refine W.sreg (fun K hK => ?_); simp (disch := omega) [gA, wA]; refine W.lv [3, 5, 11, 12, 13] hK fun J j => ?_; clear hK K; simp; refine j _ ?_; clear j J
 refine W.block ?_
 refine W.loopG (fun q σ => ∃ (i : Nat) (z : List Int) (v10 : Nat) (rows : Pm.Rows) (clk : Nat), σ = ⟨fa [(3, .ptr 3 0 0 0), (5, .own 10 v10 0 x.length), (11, Po x), (12, .int .i64 x.length), (13, .int .i64 i)], rows, clk⟩ ∧
  rows 3 = some ⟨0, 27, 2, [ie c]⟩ ∧ rows 10 = some ⟨v10, 27, 2, emap ie z⟩ ∧ q = x.length - i ∧ i ≤ x.length ∧ z.length = x.length ∧ z.take i = (x.take i).map (exq c)) x.length ?_ ?_
 ·exact ⟨_, .refl, 0, List.replicate x.length 0, _, _, _, rfl, by simp, by simp, by omega, by omega, by simp, by simp⟩
 rintro q _ ⟨i, z, v10, rows, clk, rfl, hr3, hr10, hq, hi, hz, hv⟩
 refine W.sreg (fun K hK => ?_); simp (disch := omega) [gA, wA]; refine W.lv [3, 5, 11, 12, 13, 14] hK fun J j => ?_; clear hK K; simp; refine j _ ?_; clear j J
 refine W.seq ?_
 refine W.cond ⟨_, rfl, fun h => ?_, fun h => ?_⟩
 ·have hi : i < x.length := by simp at h; omega
  have hE := wExactI (hx.sz _ (nth_mem hi)) hc h0
  have hE2 : Ret env.P 169 [I (nth x i), I c] (.tup [I (exq c (nth x i)), .int .i64 (if nth x i % c = 0 then 0 else 3)]) := by
   unfold exq
   split at hE
   ·rename_i h1; rw [if_pos h1, if_pos h1]; exact hE
   ·rename_i h1; rw [if_neg h1, if_neg h1]; exact hE
  have hts : (x.take (i + 1)).map (exq c) = (x.take i).map (exq c) ++ [exq c (nth x i)] := by rw [take_succ_nth hi]; simp
  generalize (if nth x i % c = 0 then (0 : Int) else 3) = er at *
  generalize exq c (nth x i) = ev at *
  generalize hxe : nth x i = xi at *
  refine W.skip ?_
  refine W.seq ?_
  refine W.block ?_
  refine W.sreg (fun K hK => ?_); simp (disch := omega) [gA, wA, hxe]; refine W.lv [3, 5, 6, 7, 11, 12, 13] hK fun J j => ?_; clear hK K; simp; refine j _ ?_; clear j J
  refine W.reg (fun K hK => ?_)
  simp (disch := omega) [gA, wA, hr3]
  refine callR hE2 ?_
  simp (disch := omega) [gA, wA, hr10, hz]
  refine W.lv [3, 5, 11, 12, 13] hK fun J j => ?_; clear hK K; simp; refine j _ ?_; clear j J
  refine W.reg (fun K hK => ?_); simp (disch := omega) [gA, wA]
  refine hK _ ⟨x.length - (i + 1), _, Gh_fa _ [3, 5, 11, 12, 13], by omega, i + 1, z.set i ev, v10, _, _, rfl, by simp [hr3], by simp, by omega, by omega, by simp [hz], ?_⟩
  rw [set_take hv (by omega), hts]
 ·have hi : i = x.length := by simp at h; omega
  subst hi
  rw [take_all hz, List.take_length] at hv
  have hz2 := take_all hz
  refine W.exit ?_; simp only [pX, if_true, if_false, reduceIte, Nat.reduceEqDiff]
  have hzb : PB z := by
   rw [hv]
   refine ⟨fun v hv => ?_, by simpa using by omega⟩
   simp only [List.mem_map] at hv
   obtain ⟨w, hw, rfl⟩ := hv
   have h1 := hx.sz w hw
   show sz LL (exq c w) < 1099511627776
   refine Nat.lt_of_le_of_lt (sz_mono hLL (y := w) ?_) (by omega)
   unfold exq; split
   ·exact Int.natAbs_ediv_le_natAbs _ _
   ·simp
  have hN := pNormI_ret hzb
  rw [hv] at hN hr10 hz2
  generalize x.map (exq c) = y at *
  have hyl : y.length = x.length := by rw [← hv]; exact hz
  refine W.sreg (fun K hK => ?_)
  simp (disch := omega) [gA, wA, hr10, hz2]
  refine callR hN ?_
  simp (disch := omega) [gA, wA]
  refine W.lv [4] hK fun J j => ?_; clear hK K; simp; refine j _ ?_; clear j J
  refine W.ret ?_
  simp [go]
structure CV where
 x : List Int
 y : List Int
 d : Int
def CV.cells (c : CV) : List PV := [Po c.x, Po c.y, .bool (decide (c.d < 0)), sls u32 (dig LL c.d.natAbs)]
@[simp] theorem CV.cells_def {c : CV} : c.cells = [Po c.x, Po c.y, .bool (decide (c.d < 0)), sls u32 (dig LL c.d.natAbs)] := rfl
structure RC where
 x : RP
 y : RP
 s : Bool
 l : List Int
def RC.cells (c : RC) : List PV := [Pg c.x, Pg c.y, .bool c.s, sls u32 c.l]
@[simp] theorem RC.cells_def {c : RC} : c.cells = [Pg c.x, Pg c.y, .bool c.s, sls u32 c.l] := rfl
def RC.cut (c : RC) (k n : Nat) : RC := ⟨keepP k n c.x, keepP k n c.y, c.s, c.l.take n⟩
theorem Cut12_ret (c : RC) (k n : Nat) (hx : c.x.length < 9223372036854775808) (hxc : ∀ e ∈ c.x, e.2.length < 9223372036854775808) (hy : c.y.length < 9223372036854775808) (hyc : ∀ e ∈ c.y, e.2.length < 9223372036854775808) (hl : c.l.length < 9223372036854775808) (hk : k < 1099511627776) (hn : n < 9223372036854775808) :
  Ret env.P 95 [.ag c.cells, .int .i64 k, .int .i64 n] (.ag (c.cut k n).cells) := by
 have h1 := kPoly_ret c.x k n hx hxc hk hn
 have h2 := kPoly_ret c.y k n hy hyc hk hn
 have h3 := kInt_ret c.s c.l n hl hn
 obtain ⟨x, y, s, l⟩ := c
 simp only [RC.cut, RC.cells_def] at *
 generalize keepP k n x = x' at *
 generalize keepP k n y = y' at *
 generalize l.take n = l' at *
 refine ret_of_Wf (E := env) (fun _ => 0) [(0, .ag [Pg x, Pg y, .bool s, sls u32 l]), (1, .int .i64 k), (2, .int .i64 n)] Tryz.func95 rfl (by kernel_rfl) (by kernel_rfl) (show 3 ≤ 22 by decide) (by simp) ?_
 refine W.sreg (fun K hK => ?_); simp (disch := omega) [gA, wA]; refine W.lv [1, 2, 3, 6] hK fun J j => ?_; clear hK K; simp; refine j _ ?_; clear j J
 refine W.sdrw (fun K hK => ?_)
 simp (disch := omega) [gA, wA]
 refine callR h1 ?_
 simp (disch := omega) [gA, wA]
 refine callR h2 ?_
 simp (disch := omega) [gA, wA]
 refine callR h3 ?_
 simp (disch := omega) [gA, wA]
 refine W.lv [6] hK fun J j => ?_; clear hK K; simp; refine j _ ?_; clear j J
 refine W.ret ?_
 simp [go]
def dN (d : Int) : Int := if d = 0 then 1 else d
theorem dN_ne (d : Int) : dN d ≠ 0 := by unfold dN; split <;> omega
def cg (x y : List Int) (d : Int) : Int := if dN d < 0 then -(gcdL (dN d :: (x ++ y)) : Int) else gcdL (dN d :: (x ++ y))
def nC (x y : List Int) (d : Int) : CV := ⟨cutR (x.map (exq (cg x y d))), cutR (y.map (exq (cg x y d))), dN d / cg x y d⟩
theorem cg_dvd (x y : List Int) (d : Int) {v : Int} (h : v ∈ dN d :: (x ++ y)) : cg x y d ∣ v := by
 have := gcdL_dvd _ v h
 unfold cg
 split
 ·exact Int.neg_dvd.2 this
 ·exact this
theorem cg_ne (x y : List Int) (d : Int) : cg x y d ≠ 0 := fun h => by
 have := cg_dvd x y d (List.mem_cons_self ..)
 rw [h] at this
 exact dN_ne d (Int.zero_dvd.1 this)
theorem sz_one : sz LL 1 ≤ 1 := sz_le hLL (by decide)
theorem sz_dvd {a b : Int} (h : a ∣ b) (hb : b ≠ 0) : sz LL a ≤ sz LL b := sz_mono hLL (Nat.le_of_dvd (by omega) (Int.natAbs_dvd_natAbs.2 h))
theorem ZeroI_ret (d : Int) : Ret env.P 60 [I d] (.bool (decide (d = 0))) := by
 have := Zero_ret (decide (d < 0)) (dig LL d.natAbs)
 rw [show decide ((dig LL d.natAbs).length = 0) = decide (d = 0) from by
  by_cases h : d = 0
  ·subst h; rfl
  ·have : dig LL d.natAbs ≠ [] := fun h2 => h (by have := V_dig hLL d.natAbs; rw [h2] at this; simp [V] at this; omega)
   have h3 := List.length_pos_iff.2 this
   simp [h]; omega] at this
 exact this
theorem cnorm_ret (c : RC) {s n : Nat} (hx : POK c.x) (hy : POK c.y) (hl : LOK c.l) (bx : Bd LL s n (c.x.map gv)) (by_ : Bd LL s n (c.y.map gv)) (bd : sz LL (iv c.s c.l) ≤ s) (h1 : 1 ≤ s) (hs : s < 1099511627774) (hn : n < 500000000000) :
  Ret env.P 98 [.ag c.cells] (.ag (nC (cfs c.x) (cfs c.y) (iv c.s c.l)).cells) := by
 have p1 := pNorm_ret c.x hx
 have p2 := pNorm_ret c.y hy
 have p3 := wNorm_ret c.s c.l hl
 have bX : Bd LL s n (cfs c.x) := bx.cut
 have bY : Bd LL s n (cfs c.y) := by_.cut
 obtain ⟨x, y, sg, l⟩ := c
 simp only [RC.cells_def] at *
 rw [show cutR (x.map gv) = cfs x from rfl] at p1
 rw [show cutR (y.map gv) = cfs y from rfl] at p2
 generalize cfs x = X at *
 generalize cfs y = Y at *
 generalize iv sg l = d at *
 have z0 := ZeroI_ret d
 have o1 := Of_ret 1 (by decide) (by decide)
 have bD : sz LL (dN d) ≤ s := by
  unfold dN; split
  ·exact Nat.le_trans sz_one h1
  ·exact bd
 have hne := dN_ne d
 have hcg := cg_ne X Y d
 have hcd := cg_dvd X Y d (List.mem_cons_self ..)
 have bG : sz LL (cg X Y d) ≤ s := Nat.le_trans (sz_dvd hcd hne) bD
 have lX := bX.len
 have lY := bY.len
 have g1 := wGcd_ret ((dN d :: (X ++ Y)).map rw') s hs (fun e he => by
  simp only [List.mem_map] at he
  obtain ⟨v, hv, rfl⟩ := he
  refine ⟨Lim_dig hLL _, ?_⟩
  rcases List.mem_cons.1 hv with rfl | hv
  ·exact bD
  ·rcases List.mem_append.1 hv with hv | hv
   ·exact bX.sz v hv
   ·exact bY.sz v hv) (by simp; omega)
 rw [map_gv_rw, ← Po_eq] at g1
 have n1 := wNegI (x := (gcdL (dN d :: (X ++ Y)) : Int)) (by
  refine Nat.lt_of_le_of_lt ?_ (show s < _ by omega)
  exact Nat.le_trans (sz_dvd (gcdL_dvd _ _ (List.mem_cons_self ..)) hne) bD)
 have e1 := wExactI (v := dN d) (c := cg X Y d) (by omega) (by omega) hcg
 rw [if_pos (Int.emod_eq_zero_of_dvd hcd)] at e1
 have v1 := cover_ret X (cg X Y d) (PD.of bX (by omega) (by omega)) (by omega) hcg
 have v2' := cover_ret Y (cg X Y d) (PD.of bY (by omega) (by omega)) (by omega) hcg
 unfold nC
 simp only [CV.cells_def]
 generalize cutR (X.map (exq (cg X Y d))) = X' at *
 generalize cutR (Y.map (exq (cg X Y d))) = Y' at *
 have hgd : cg X Y d = if dN d < 0 then -(gcdL (dN d :: (X ++ Y)) : Int) else gcdL (dN d :: (X ++ Y)) := rfl
 generalize (gcdL (dN d :: (X ++ Y)) : Int) = G at *
 generalize cg X Y d = g at *
 have hdN : dN d = if d = 0 then 1 else d := rfl
 generalize dN d = D at *
 generalize hD' : D / g = D' at *
 refine ret_of_Wf (E := env) (fun _ => 0) [(0, .ag [Pg x, Pg y, .bool sg, sls u32 l])] Tryz.func98 rfl (by kernel_rfl) (by kernel_rfl) (show 1 ≤ 44 by decide) (by simp) ?_
 refine W.sreg (fun K hK => ?_); simp (disch := omega) [gA, wA]; refine W.lv [1, 2] hK fun J j => ?_; clear hK K; simp; refine j _ ?_; clear j J
 refine W.sdrw (fun K hK => ?_)
 simp (disch := omega) [gA, wA]
 refine callR p1 ?_
 simp (disch := omega) [gA, wA]
 refine callR p2 ?_
 simp (disch := omega) [gA, wA]
 refine callR p3 ?_
 simp (disch := omega) [gA, wA]
 rw [if_pos (by kernel_rfl)]
 simp (disch := omega) [gA, wA]
 refine W.lv [2, 3, 4, 5] hK fun J j => ?_; clear hK K; simp; refine j _ ?_; clear j J
 refine W.seqJ (fun σ => ∃ (v2 v5 : Nat) (rows : Pm.Rows) (clk : Nat), σ = ⟨fa [(2, .ptr 2 v2 0 0), (3, Po X), (4, Po Y), (5, .ptr 5 v5 0 0)], rows, clk⟩ ∧ rows 2 = some ⟨v2, 29, 4, [[.nil, .nil, .bool false, .nil]]⟩ ∧ rows 5 = some ⟨v5, 27, 2, [ie D]⟩) ?_ ?_
 ·refine W.sreg (fun K hK => ?_)
  simp (disch := omega) [gA, wA]
  refine callR z0 ?_
  simp (disch := omega) [gA, wA]
  refine W.lv [2, 3, 4, 5, 17] hK fun J j => ?_; clear hK K; simp; refine j _ ?_; clear j J
  refine W.cond ⟨_, rfl, fun h => ?_, fun h => ?_⟩
  ·simp at h
   rw [if_pos h] at hdN
   subst hdN
   refine W.reg (fun K hK => ?_)
   simp (disch := omega) [gA, wA]
   refine callR o1 ?_
   simp (disch := omega) [gA, wA]
   exact hK _ ⟨_, Gh_fa _ [2, 3, 4, 5], _, _, _, _, rfl, by simp, by simp⟩
  ·simp at h
   rw [if_neg h] at hdN
   subst hdN
   refine W.skip ?_
   exact ⟨_, Gh_fa _ [2, 3, 4, 5], _, _, _, _, rfl, by simp, by simp⟩
 rintro _ ⟨v2, v5, rows, clk, rfl, hr2, hr5⟩
 obtain ⟨W0, hW⟩ : ∃ W0, W0 = D :: (X ++ Y) := ⟨_, rfl⟩
 rw [← hW] at g1
 have hE : [PV.bool (decide (D < 0)), us (dig LL D.natAbs)] :: emap ie (X ++ Y) = emap ie W0 := by rw [hW]; rfl
 have hlW : 1 + X.length + Y.length = W0.length := by rw [hW]; simp; omega
 refine W.sregL 1 rfl rfl (fun K hK => ?_)
 simp (disch := omega) [gA, wA, hr5]
 simp only [hE, hlW]
 simp (disch := omega) [gA, wA]
 refine callR g1 ?_
 simp (disch := omega) [gA, wA]
 refine W.lv [2, 3, 4, 5, 6] hK fun J j => ?_; clear hK K; simp; refine j _ ?_; clear j J
 refine W.seqJ (fun σ => ∃ (v2 v5 v6 : Nat) (rows : Pm.Rows) (clk : Nat), σ = ⟨fa [(2, .ptr 2 v2 0 0), (3, Po X), (4, Po Y), (5, .ptr 5 v5 0 0), (6, .ptr 6 v6 0 0)], rows, clk⟩ ∧ rows 2 = some ⟨v2, 29, 4, [[.nil, .nil, .bool false, .nil]]⟩ ∧ rows 5 = some ⟨v5, 27, 2, [ie D]⟩ ∧ rows 6 = some ⟨v6, 27, 2, [ie g]⟩) ?_ ?_
 ·refine W.sreg (fun K hK => ?_)
  simp (disch := omega) [gA, wA, hr5]
  refine W.lv [2, 3, 4, 5, 6, 27] hK fun J j => ?_; clear hK K; simp; refine j _ ?_; clear j J
  refine W.cond ⟨_, rfl, fun h => ?_, fun h => ?_⟩
  ·simp at h
   rw [if_pos h] at hgd
   subst hgd
   refine W.reg (fun K hK => ?_)
   simp (disch := omega) [gA, wA]
   refine callR n1 ?_
   simp (disch := omega) [gA, wA]
   exact hK _ ⟨_, Gh_fa _ [2, 3, 4, 5, 6], _, _, _, _, _, rfl, by simp [hr2], by simp [hr5], by simp⟩
  ·simp at h
   rw [if_neg (by omega)] at hgd
   subst hgd
   refine W.skip ?_
   exact ⟨_, Gh_fa _ [2, 3, 4, 5, 6], _, _, _, _, _, rfl, by simp [hr2], by simp [hr5], by simp⟩
 rintro _ ⟨v2, v5, v6, rows, clk, rfl, hr2, hr5, hr6⟩
 refine W.sreg (fun K hK => ?_)
 simp (disch := omega) [gA, wA, hr5, hr6]
 refine callR e1 ?_
 simp (disch := omega) [gA, wA, hr5]
 refine W.lv [2, 3, 4, 5, 6] hK fun J j => ?_; clear hK K; simp; refine j _ ?_; clear j J
 refine W.sdrw (fun K hK => ?_)
 simp (disch := omega) [gA, wA, hr6]
 refine callR v1 ?_
 simp (disch := omega) [gA, wA, hr6]
 refine callR v2' ?_
 simp (disch := omega) [gA, wA, hr2]
 refine W.lv [2] hK fun J j => ?_; clear hK K; simp; refine j _ ?_; clear j J
 refine W.ret ?_
 simp [go]
end Go.Proofs.YtdiladmkbpnhoaaGreat
