import Derived.Test.YtdiladmkbpnhoaaGreatLa
import Derived.Test.YtdiladmkbpnhoaaGreatMe
set_option linter.unusedSimpArgs false
set_option linter.unusedVariables false
namespace Go.Proofs.YtdiladmkbpnhoaaGreat
open Go Pm
theorem LOK.nil : LOK [] := ⟨Lim.nil, by simp⟩
theorem POK.nth' {l : List (Bool × List Int)} (h : POK l) (i : Nat) : LOK (Pm.nth l i).2 := by
 by_cases hi : i < l.length
 ·exact h.nth hi
 ·rw [nth_ge (by omega)]; exact LOK.nil
theorem nth_gv (l : List (Bool × List Int)) (k : Nat) : nth (l.map gv) k = gv (nth l k) := Pm.nth_map (f := gv) rfl l k
theorem iv_I (x : Int) : iv (decide (x < 0)) (dig LL x.natAbs) = x := gv_rw x
theorem wMulI {x y : Int} (hx : Sz x) (hy : Sz y) : Ret env.P 86 [I x, I y] (I (x * y)) := by
 have := wMul_ret (decide (x < 0)) (decide (y < 0)) (dig LL x.natAbs) (dig LL y.natAbs) hx.lok hy.lok
 rwa [iv_I, iv_I] at this
theorem wAddI {x y : Int} (hx : Sz x) (hy : Sz y) : Ret env.P 111 [I x, I y] (I (x + y)) := by
 have := wAdd_ret (decide (x < 0)) (decide (y < 0)) (dig LL x.natAbs) (dig LL y.natAbs) hx.lok hy.lok
 rwa [iv_I, iv_I] at this
theorem wNegI {x : Int} (hx : Sz x) : Ret env.P 168 [I x] (I (-x)) := by
 have := wNeg_ret (decide (x < 0)) (dig LL x.natAbs) hx.lok
 rwa [iv_I] at this
theorem wNormI {x : Int} (hx : Sz x) : Ret env.P 97 [I x] (I x) := by
 have := wNorm_ret (decide (x < 0)) (dig LL x.natAbs) hx.lok
 rwa [iv_I] at this
theorem addc_ret (a b : List (Bool × List Int)) (ha : POK a) (hb : POK b) (k : Nat) (hk : k < 9223372036854775808) : Ret env.P 153 [.int .i64 (k : Int), .rd [Pg a], .rd [Pg b]] (I (nth (a.map gv) k + nth (b.map gv) k)) := by
 refine ret_of_Wf (E := env) (fun _ => 0) [(0, .int .i64 (k : Int)), (1, .rd [Pg a]), (2, .rd [Pg b])] Tryz.func153 rfl (by kernel_rfl) (by kernel_rfl) (show 3 ≤ 12 by decide) (by simp) ?_
 have := ha.len; have := hb.len
 refine W.sreg (fun K hK => ?_)
 simp (disch := omega) [gA, wA]
 refine W.lv [0, 1, 2, 4] hK fun J j => ?_; clear hK K; simp; refine j _ ?_; clear j J
 refine W.sdrw (fun K hK => ?_)
 simp (disch := omega) [gA, wA]
 refine callR (at_ret a k ha.len hk) ?_
 simp (disch := omega) [gA, wA]
 refine callR (at_ret b k hb.len hk) ?_
 simp (disch := omega) [gA, wA]
 refine callR (wAdd_ret _ _ _ _ (ha.nth' k) (hb.nth' k)) ?_
 simp (disch := omega) [gA, wA]
 refine W.lv [4] hK fun J j => ?_; clear hK K; simp; refine j _ ?_; clear j J
 refine W.ret ?_
 rw [nth_gv, nth_gv]
 simp [go, gv]
theorem subc_ret (a b : List (Bool × List Int)) (ha : POK a) (hb : POK b) (k : Nat) (hk : k < 9223372036854775808) : Ret env.P 174 [.int .i64 (k : Int), .rd [Pg a], .rd [Pg b]] (I (nth (a.map gv) k - nth (b.map gv) k)) := by
 refine ret_of_Wf (E := env) (fun _ => 0) [(0, .int .i64 (k : Int)), (1, .rd [Pg a]), (2, .rd [Pg b])] Tryz.func174 rfl (by kernel_rfl) (by kernel_rfl) (show 3 ≤ 12 by decide) (by simp) ?_
 have := ha.len; have := hb.len
 refine W.sreg (fun K hK => ?_)
 simp (disch := omega) [gA, wA]
 refine W.lv [0, 1, 2, 4] hK fun J j => ?_; clear hK K; simp; refine j _ ?_; clear j J
 refine W.sdrw (fun K hK => ?_)
 simp (disch := omega) [gA, wA]
 refine callR (at_ret a k ha.len hk) ?_
 simp (disch := omega) [gA, wA]
 refine callR (at_ret b k hb.len hk) ?_
 simp (disch := omega) [gA, wA]
 refine callR (wSub_ret _ _ _ _ (ha.nth' k) (hb.nth' k)) ?_
 simp (disch := omega) [gA, wA]
 refine W.lv [4] hK fun J j => ?_; clear hK K; simp; refine j _ ?_; clear j J
 refine W.ret ?_
 rw [nth_gv, nth_gv]
 simp [go, gv]
theorem negc_ret (a : List (Bool × List Int)) (ha : POK a) (k : Nat) (hk : k < a.length) : Ret env.P 190 [.int .i64 (k : Int), .rd [Pg a]] (I (- nth (a.map gv) k)) := by
 refine ret_of_Wf (E := env) (fun _ => 0) [(0, .int .i64 (k : Int)), (1, .rd [Pg a])] Tryz.func190 rfl (by kernel_rfl) (by kernel_rfl) (show 2 ≤ 9 by decide) (by simp) ?_
 have := ha.len
 refine W.sreg (fun K hK => ?_)
 simp (disch := omega) [gA, wA]
 refine W.lv [0, 1, 3] hK fun J j => ?_; clear hK K; simp; refine j _ ?_; clear j J
 refine W.sreg (fun K hK => ?_)
 simp (disch := omega) [gA, wA]
 refine callR (wNeg_ret _ _ (ha.nth' k)) ?_
 simp (disch := omega) [gA, wA]
 refine W.lv [3] hK fun J j => ?_; clear hK K; simp; refine j _ ?_; clear j J
 refine W.ret ?_
 rw [nth_gv]
 simp [go, gv]
theorem scac_ret (a : List (Bool × List Int)) (ha : POK a) (n : Bool) (c : List Int) (hc : LOK c) (k : Nat) (hk : k < a.length) : Ret env.P 152 [.int .i64 (k : Int), .rd [Pg a], .rd [.bool n, us c]] (I (nth (a.map gv) k * iv n c)) := by
 refine ret_of_Wf (E := env) (fun _ => 0) [(0, .int .i64 (k : Int)), (1, .rd [Pg a]), (2, .rd [.bool n, us c])] Tryz.func152 rfl (by kernel_rfl) (by kernel_rfl) (show 3 ≤ 11 by decide) (by simp) ?_
 have := ha.len
 refine W.sreg (fun K hK => ?_)
 simp (disch := omega) [gA, wA]
 refine W.lv [0, 1, 2, 4] hK fun J j => ?_; clear hK K; simp; refine j _ ?_; clear j J
 refine W.sdrw (fun K hK => ?_)
 simp (disch := omega) [gA, wA]
 refine callR (wMul_ret _ _ _ _ (ha.nth' k) hc) ?_
 simp (disch := omega) [gA, wA]
 refine W.lv [4] hK fun J j => ?_; clear hK K; simp; refine j _ ?_; clear j J
 refine W.ret ?_
 rw [nth_gv]
 simp [go, gv]
theorem pAdd_ret (a b : List (Bool × List Int)) (ha : POK a) (hb : POK b) : Ret env.P 85 [Pg a, Pg b] (Po (padd (a.map gv) (b.map gv))) := by
 refine ret_of_Wf (E := env) (fun _ => 0) [(0, Pg a), (1, Pg b)] Tryz.func85 rfl (by kernel_rfl) (by kernel_rfl) (show 2 ≤ 12 by decide) (by simp) ?_
 have hla := ha.len; have hlb := hb.len
 refine W.sreg (fun K hK => ?_)
 simp (disch := omega) [gA, wA]
 refine W.lv [2, 3] hK fun J j => ?_; clear hK K; simp; refine j _ ?_; clear j J
 refine W.sreg (fun K hK => ?_)
 have e : (if a.length < b.length then (b.length : Int) else (a.length : Int)) = ((max a.length b.length : Nat) : Int) := by split <;> omega
 simp (disch := omega) [gA, wA, e]
 refine callR (each_ret 153 rfl [.rd [Pg a], .rd [Pg b]] rfl (max a.length b.length) (by omega) (fun k => nth (a.map gv) k + nth (b.map gv) k) (fun k hk => addc_ret a b ha hb k (by omega))) ?_
 simp (disch := omega) [gA, wA]
 refine W.lv [4] hK fun J j => ?_; clear hK K; simp; refine j _ ?_; clear j J
 refine W.ret ?_
 simp [go, padd]
theorem pSub_ret (a b : List (Bool × List Int)) (ha : POK a) (hb : POK b) : Ret env.P 100 [Pg a, Pg b] (Po (psub (a.map gv) (b.map gv))) := by
 refine ret_of_Wf (E := env) (fun _ => 0) [(0, Pg a), (1, Pg b)] Tryz.func100 rfl (by kernel_rfl) (by kernel_rfl) (show 2 ≤ 12 by decide) (by simp) ?_
 have hla := ha.len; have hlb := hb.len
 refine W.sreg (fun K hK => ?_)
 simp (disch := omega) [gA, wA]
 refine W.lv [2, 3] hK fun J j => ?_; clear hK K; simp; refine j _ ?_; clear j J
 refine W.sreg (fun K hK => ?_)
 have e : (if a.length < b.length then (b.length : Int) else (a.length : Int)) = ((max a.length b.length : Nat) : Int) := by split <;> omega
 simp (disch := omega) [gA, wA, e]
 refine callR (each_ret 174 rfl [.rd [Pg a], .rd [Pg b]] rfl (max a.length b.length) (by omega) (fun k => nth (a.map gv) k - nth (b.map gv) k) (fun k hk => subc_ret a b ha hb k (by omega))) ?_
 simp (disch := omega) [gA, wA]
 refine W.lv [4] hK fun J j => ?_; clear hK K; simp; refine j _ ?_; clear j J
 refine W.ret ?_
 simp [go, psub]
theorem map_range {α β : Type} [Inhabited α] (l : List α) (f : α → β) : (List.range l.length).map (fun k => f (nth l k)) = l.map f := by
 apply List.ext_getElem
 ·simp
 ·intro i h1 h2
  simp at h1
  simp [nth_eq h1]
theorem pNeg_ret (a : List (Bool × List Int)) (ha : POK a) : Ret env.P 117 [Pg a] (Po (pneg (a.map gv))) := by
 refine ret_of_Wf (E := env) (fun _ => 0) [(0, Pg a)] Tryz.func117 rfl (by kernel_rfl) (by kernel_rfl) (show 1 ≤ 7 by decide) (by simp) ?_
 have hla := ha.len
 refine W.sreg (fun K hK => ?_)
 simp (disch := omega) [gA, wA]
 refine W.lv [1] hK fun J j => ?_; clear hK K; simp; refine j _ ?_; clear j J
 refine W.sreg (fun K hK => ?_)
 simp (disch := omega) [gA, wA]
 refine callR (each_ret 190 rfl [.rd [Pg a]] rfl a.length (by omega) (fun k => - nth (a.map gv) k) (fun k hk => negc_ret a ha k hk)) ?_
 simp (disch := omega) [gA, wA]
 refine W.lv [2] hK fun J j => ?_; clear hK K; simp; refine j _ ?_; clear j J
 refine W.ret ?_
 have e := map_range (a.map gv) (fun c => -c)
 rw [List.length_map] at e
 rw [e]
 simp [go, pneg]
theorem pScale_ret (a : List (Bool × List Int)) (ha : POK a) (n : Bool) (c : List Int) (hc : LOK c) : Ret env.P 84 [Pg a, IV n c] (Po (pscale (a.map gv) (iv n c))) := by
 refine ret_of_Wf (E := env) (fun _ => 0) [(0, Pg a), (1, IV n c)] Tryz.func84 rfl (by kernel_rfl) (by kernel_rfl) (show 2 ≤ 9 by decide) (by simp) ?_
 have hla := ha.len
 refine W.sreg (fun K hK => ?_)
 simp (disch := omega) [gA, wA]
 refine W.lv [2, 3] hK fun J j => ?_; clear hK K; simp; refine j _ ?_; clear j J
 refine W.sreg (fun K hK => ?_)
 simp (disch := omega) [gA, wA]
 refine callR (each_ret 152 rfl [.rd [Pg a], .rd [.bool n, us c]] rfl a.length (by omega) (fun k => nth (a.map gv) k * iv n c) (fun k hk => scac_ret a ha n c hc k hk)) ?_
 simp (disch := omega) [gA, wA]
 refine W.lv [4] hK fun J j => ?_; clear hK K; simp; refine j _ ?_; clear j J
 refine W.ret ?_
 have e := map_range (a.map gv) (fun a => a * iv n c)
 rw [List.length_map] at e
 rw [e]
 simp [go, pscale]
end Go.Proofs.YtdiladmkbpnhoaaGreat
namespace Go.Proofs.YtdiladmkbpnhoaaGreat
open Go Pm
theorem pMul_ret (a b : List (Bool × List Int)) (ha : POK a) (hb : POK b) (s s' n n' : Nat) (hs : Bd LL s n (a.map gv)) (hs' : Bd LL s' n' (b.map gv)) (hB : s + s' + n + n' < 1099511627775) :
  Ret env.P 46 [Pg a, Pg b] (Po (pmul (a.map gv) (b.map gv))) := by
 refine ret_of_Wf (E := env) (fun id => if id = 11 then 1 else 0) [(0, Pg a), (1, Pg b)] Tryz.func46 rfl (by kernel_rfl) (by kernel_rfl) (show 2 ≤ 62 by decide) (by simp) ?_
 refine W.sreg (fun K hK => ?_)
 simp (disch := omega) [gA, wA]
 refine W.lv [0, 1] hK fun J j => ?_; clear hK K; simp; refine j _ ?_; clear j J
 refine W.sreg (fun K hK => ?_)
 simp (disch := omega) [gA, wA]
 refine callR (pNorm_ret a ha) ?_
 simp (disch := omega) [gA, wA]
 refine callR (pNorm_ret b hb) ?_
 simp (disch := omega) [gA, wA]
 refine W.lv [0, 1] hK fun J j => ?_; clear hK K; simp; refine j _ ?_; clear j J
 have e : pmul (a.map gv) (b.map gv) = pmul (cutR (a.map gv)) (cutR (b.map gv)) := Cn.ext (Cn.pmul _ _) (Cn.pmul _ _) fun t => by simp [V_pmul, V_cutR]
 rw [e]
 replace hs := hs.cut
 replace hs' := hs'.cut
 clear e ha hb
 generalize cutR (a.map gv) = x at *
 generalize cutR (b.map gv) = y at *
 have hlx := hs.len; have hly := hs'.len
 refine W.seq ?_
 refine W.sregJ (fun σ => ∃ (b : Bool), σ = ⟨fa [(0, Po x), (1, Po y), (21, .bool b)], fun _ => none, 0⟩ ∧ (b = true ↔ x = [] ∨ y = [])) (fun K hK => ?_) ?_
 ·simp
  have e1 : ((x.length : Int) == 0) = decide (x = []) := by
   cases x <;> simp <;> omega
  have e2 : ((y.length : Int) == 0) = decide (y = []) := by
   cases y <;> simp <;> omega
  rw [e1]
  by_cases h0 : x = []
  ·have e3 : decide (x = []) = true := by simp [h0]
   rw [e3]
   simp
   exact hK _ _ (Gh_fa _ [0, 1, 21]) ⟨_, rfl, by simp [h0]⟩
  ·have e3 : decide (x = []) = false := by simp [h0]
   rw [e3]
   simp
   exact hK _ _ (Gh_fa _ [0, 1, 21]) ⟨_, rfl, by rw [e2]; simp [h0]⟩
 rintro _ ⟨b, rfl, hb⟩
 refine W.cond ⟨_, rfl, fun h => ?_, fun h => ?_⟩
 ·have e : pmul x y = [] := by
   have h1 := hb.1 h
   refine Cn.ext (Cn.pmul _ _) Cn.nil fun t => ?_
   rw [V_pmul]
   rcases h1 with rfl | rfl <;> simp [V]
  refine W.sreg (fun K hK => ?_)
  simp (disch := omega) [gA, wA]
  refine W.lv [4] hK fun J j => ?_; clear hK K; simp; refine j _ ?_; clear j J
  refine W.ret ?_
  simp [go, e]
  rfl
 ·have h1 : ¬ (x = [] ∨ y = []) := fun h2 => by simp [hb.2 h2] at h
  have hx0 : 0 < x.length := List.length_pos_iff.2 fun h2 => h1 (.inl h2)
  have hy0 : 0 < y.length := List.length_pos_iff.2 fun h2 => h1 (.inr h2)
  clear h hb h1
  refine W.skip ?_
  refine W.sreg (fun K hK => ?_)
  simp (disch := omega) [gA, wA]
  refine W.lv [0, 1, 5] hK fun J j => ?_; clear hK K; simp; refine j _ ?_; clear j J
  have e0 : ((x.length : Int) + (y.length : Int) - 1).toNat = x.length + y.length - 1 := by omega
  refine W.row (id := 28) (emap ie (List.replicate (x.length + y.length - 1) 0)) (by simp; exact ⟨rfl, rfl, rfl, by omega⟩) (row_ie _) ?_
  refine W.seq ?_
  refine W.sreg (fun K hK => ?_)
  simp (disch := omega) [gA, wA]
  refine W.lv [1, 5, 29, 30, 31] hK fun J j => ?_; clear hK K; simp; refine j _ ?_; clear j J
  refine W.block ?_
  refine W.loopG (fun k σ => ∃ (i : Nat) (z : List Int) (ver : Nat) (rows : Pm.Rows) (clk : Nat), σ = ⟨fa [(1, Po y), (5, .own 28 ver 0 (x.length + y.length - 1)), (29, Po x), (30, .int .i64 x.length), (31, .int .i64 i)], rows, clk⟩ ∧
   rows 28 = some ⟨ver, 27, 2, emap ie z⟩ ∧ k = x.length - i ∧ i ≤ x.length ∧ z.length = x.length + y.length - 1 ∧ (∀ j, sz LL (nth z j) ≤ s + s' + i) ∧
   ∀ t, V t z = V t (x.take i) * V t y) x.length ?_ ?_
  ·refine ⟨_, .refl, 0, List.replicate (x.length + y.length - 1) 0, _, _, _, rfl, by simp, by omega, by omega, by simp, fun j => ?_, fun t => by simp [V, V_rep]⟩
   ·have : Bd LL 0 (x.length + y.length - 1) (List.replicate (x.length + y.length - 1) 0) := ⟨by simp, fun c hc => by rw [(List.mem_replicate.1 hc).2, sz_zero]; omega⟩
    have := this.nth j
    omega
  rintro k _ ⟨i, z, ver, rows, clk, rfl, hr, hk, hi, hz, hzs, hV⟩
  refine W.sreg (fun K hK => ?_)
  simp (disch := omega) [gA, wA]
  refine W.lv [1, 5, 29, 30, 31, 32] hK fun J j => ?_; clear hK K; simp; refine j _ ?_; clear j J
  refine W.seq ?_
  refine W.cond ⟨_, rfl, fun h => ?_, fun h => ?_⟩
  ·simp at h
   refine W.skip ?_
   refine W.seq ?_
   refine W.block ?_
   refine W.sreg (fun K hK => ?_)
   simp (disch := omega) [gA, wA]
   refine W.lv [1, 5, 6, 7, 29, 30, 31] hK fun J j => ?_; clear hK K; simp; refine j _ ?_; clear j J
   refine W.sreg (fun K hK => ?_)
   simp (disch := omega) [gA, wA]
   refine W.lv [1, 5, 6, 7, 29, 30, 31, 36, 37, 38] hK fun J j => ?_; clear hK K; simp; refine j _ ?_; clear j J
   refine W.block ?_
   refine W.loopG (fun m σ => ∃ (k : Nat) (z : List Int) (ver v7 : Nat) (rows : Pm.Rows) (clk : Nat), σ = ⟨fa [(1, Po y), (5, .own 28 ver 0 (x.length + y.length - 1)), (6, .int .i64 i), (7, .ptr 7 v7 0 0), (29, Po x), (30, .int .i64 x.length), (31, .int .i64 i), (36, Po y), (37, .int .i64 y.length), (38, .int .i64 k)], rows, clk⟩ ∧
    rows 28 = some ⟨ver, 27, 2, emap ie z⟩ ∧ rows 7 = some ⟨v7, 27, 2, [ie (nth x i)]⟩ ∧ m = y.length - k ∧ k ≤ y.length ∧ z.length = x.length + y.length - 1 ∧ (∀ j, sz LL (nth z j) ≤ s + s' + i + 1) ∧ (∀ j, i + k ≤ j → sz LL (nth z j) ≤ s + s' + i) ∧
    ∀ t, V t z = V t (x.take i) * V t y + t ^ i * nth x i * V t (y.take k)) y.length ?_ ?_
   ·refine ⟨_, .refl, 0, z, ver, _, _, _, rfl, by simpa using hr, by simp, by omega, by omega, hz, fun j => by have := hzs j; omega, fun j _ => hzs j, fun t => by simp [V, hV]⟩
   clear hV hzs hz hr z ver rows clk
   rintro m _ ⟨k, z, ver, v7, rows, clk, rfl, hr, hr7, hm, hky, hz, hzs, hzs2, hV⟩
   refine W.sreg (fun K hK => ?_)
   simp (disch := omega) [gA, wA]
   refine W.lv [1, 5, 6, 7, 29, 30, 31, 36, 37, 38, 39] hK fun J j => ?_; clear hK K; simp; refine j _ ?_; clear j J
   refine W.seq ?_
   refine W.cond ⟨_, rfl, fun h2 => ?_, fun h2 => ?_⟩
   ·simp at h2
    refine W.skip ?_
    refine W.seq ?_
    refine W.block ?_
    refine W.sreg (fun K hK => ?_)
    simp (disch := omega) [gA, wA]
    refine W.lv [1, 5, 6, 7, 8, 9, 29, 30, 31, 36, 37, 38] hK fun J j => ?_; clear hK K; simp; refine j _ ?_; clear j J
    have e1 : ((i : Int) + (k : Int)).toNat = i + k := by omega
    refine W.drw (fun K hK => ?_)
    simp only [if_true]
    rw [pregion_tail]
    simp (disch := omega) [gA, wA, hr, hr7, e1]
    refine callR (wMulI (Nat.lt_of_le_of_lt (hs.nth i) (by omega)) (Nat.lt_of_le_of_lt (hs'.nth k) (by omega))) ?_
    simp (disch := omega) [gA, wA, hr, hr7, e1]
    have hm1 : sz LL (nth x i * nth y k) ≤ s + s' + i := Nat.le_trans (sz_mul hLL (hs.nth i) (hs'.nth k)) (by omega)
    have hm2 := sz_add hLL (hzs2 (i + k) (Nat.le_refl _)) hm1
    have hlz : i + k < z.length := by omega
    refine callR (wAddI (Nat.lt_of_le_of_lt (hzs2 (i + k) (Nat.le_refl _)) (by omega)) (Nat.lt_of_le_of_lt hm1 (by omega))) ?_
    simp (disch := omega) [gA, wA, hr, hr7, e1]
    refine W.lv [1, 5, 6, 7, 29, 30, 31, 36, 37, 38] hK fun J j => ?_; clear hK K; simp; refine j _ ?_; clear j J
    refine W.reg (fun K hK => ?_)
    simp (disch := omega) [gA, wA]
    refine hK _ ⟨y.length - (k + 1), _, Gh_fa _ [1, 5, 6, 7, 29, 30, 31, 36, 37, 38], by omega, k + 1, z.set (i + k) (nth z (i + k) + nth x i * nth y k), ver, v7, _, _, rfl, by simp, by simp [hr7], by omega, by omega, by simpa using hz, fun j => ?_, fun j hj => ?_, fun t => ?_⟩
    ·by_cases hj : i + k = j
     ·subst hj; rw [nth_set_self hlz]; exact hm2
     ·rw [nth_set_ne hj]; exact hzs j
    ·rw [nth_set_ne (by omega)]; exact hzs2 j (by omega)
    ·rw [V_set hlz, V_take_succ h2, hV, Int.pow_add]; grind
   ·simp at h2
    have hk' : k = y.length := by omega
    subst hk'
    refine W.exit ?_; simp only [pX, if_true, if_false, reduceIte, Nat.reduceEqDiff]
    refine W.reg (fun K hK => ?_)
    simp (disch := omega) [gA, wA]
    refine hK _ ⟨x.length - (i + 1), _, Gh_fa _ [1, 5, 29, 30, 31], by omega, i + 1, z, ver, _, _, rfl, hr, by omega, by omega, hz, fun j => by have := hzs j; omega, fun t => ?_⟩
    rw [hV, V_take_all (Nat.le_refl _), V_take_succ h]; grind
  ·simp at h
   have hi' : i = x.length := by omega
   subst hi'
   refine W.exit ?_; simp only [pX, if_true, if_false, reduceIte, Nat.reduceEqDiff]
   have hz2 := take_all hz
   refine W.sreg (fun K hK => ?_)
   simp (disch := omega) [gA, wA, hr, hz2]
   refine callR (pcut_ret z (by omega)) ?_
   simp (disch := omega) [gA, wA]
   refine W.lv [4] hK fun J j => ?_; clear hK K; simp; refine j _ ?_; clear j J
   refine W.ret ?_
   have e : cutR z = pmul x y := by
    refine Cn.ext (Cn.cut _) (Cn.pmul _ _) fun t => ?_
    rw [V_cutR, hV, V_pmul, V_take_all (Nat.le_refl _)]
   simp [go, e]
end Go.Proofs.YtdiladmkbpnhoaaGreat
namespace Go.Proofs.YtdiladmkbpnhoaaGreat
open Go Pm
theorem idxT {S : ByteArray} {kk : IntKind} {k : Nat} {K : PV → Prop} (h : (List.range 256).all (fun x => decide ((S[x]?).map (fun b => b.toNat) = some (nb x))) = true) (hk : k < 256) (hK : go (K (.int .u8 (nb k)))) : stepV (fun v => yindex .str (.str S) (.int kk (k : Int)) v) K := by
 have h1 := List.all_eq_true.1 h k (by simpa using hk)
 simp only [decide_eq_true_eq] at h1
 obtain ⟨b, hb, h2⟩ := Option.map_eq_some_iff.1 h1
 refine ⟨_, ⟨by omega, b, by simpa using hb, rfl⟩, ?_⟩
 rw [h2]; exact hK
theorem Len32_ret (n : Int) (h0 : 0 ≤ n) (h1 : n < 4294967296) : Ret env.P 225 [.int .u32 n] (.int .i64 (nb n.toNat)) := by
 refine ret_of_Wf (E := env) (fun _ => 0) [(0, .int .u32 n)] Tryz.func225 rfl (by kernel_rfl) (by kernel_rfl) (show 1 ≤ 19 by decide) (by simp) ?_
 refine W.sreg (fun K hK => ?_)
 simp (disch := omega) [gA, wA]
 refine W.lv [0, 2] hK fun J j => ?_; clear hK K; simp; refine j _ ?_; clear j J
 refine W.seqJ (fun σ => ∃ (k : Nat) (x : Nat) (rows : Pm.Rows) (clk : Nat), σ = ⟨fa [(0, .int .u32 x), (2, .int .i64 k)], rows, clk⟩ ∧ nb n.toNat = k + nb x ∧ x < 65536 ∧ k ≤ 16) ?_ ?_
 ·
  refine W.sreg (fun K hK => ?_)
  simp (disch := omega) [gA, wA]
  refine W.lv [0, 2, 4] hK fun J j => ?_; clear hK K; simp; refine j _ ?_; clear j J
  refine W.cond ⟨_, rfl, fun h => ?_, fun h => ?_⟩
  ·simp at h
   refine W.sreg (fun K hK => ?_)
   simp (disch := omega) [gA, wA]
   refine W.lv [0] hK fun J j => ?_; clear hK K; simp; refine j _ ?_; clear j J
   refine W.reg (fun K hK => ?_)
   simp (disch := omega) [gA, wA]
   refine hK _ ⟨_, Gh.fr [(0, .int .u32 ((n.toNat / 65536 : Nat) : Int)), (2, .int .i64 16)] (by simp; rw [Int.fdiv_eq_ediv_of_nonneg _ (by decide)]; omega), 16, n.toNat / 65536, _, _, rfl, ?_, by omega, by omega⟩
   exact nb_shift (k := 16) (by simp; omega)
  ·simp at h
   refine W.skip ?_
   refine ⟨_, Gh.fr [(0, .int .u32 (n.toNat : Int)), (2, .int .i64 0)] (by simp; omega), 0, n.toNat, _, _, rfl, by simp, by omega, by omega⟩
 rintro _ ⟨k, x, rows, clk, rfl, hn, hx, hk⟩
 refine W.seqJ (fun σ => ∃ (k : Nat) (x : Nat) (rows : Pm.Rows) (clk : Nat), σ = ⟨fa [(0, .int .u32 x), (2, .int .i64 k)], rows, clk⟩ ∧ nb n.toNat = k + nb x ∧ x < 256 ∧ k ≤ 24) ?_ ?_
 ·
  refine W.sreg (fun K hK => ?_)
  simp (disch := omega) [gA, wA]
  refine W.lv [0, 2, 8] hK fun J j => ?_; clear hK K; simp; refine j _ ?_; clear j J
  refine W.cond ⟨_, rfl, fun h => ?_, fun h => ?_⟩
  ·simp at h
   refine W.sreg (fun K hK => ?_)
   simp (disch := omega) [gA, wA]
   refine W.lv [0, 2] hK fun J j => ?_; clear hK K; simp; refine j _ ?_; clear j J
   refine W.reg (fun K hK => ?_)
   simp (disch := omega) [gA, wA]
   refine hK _ ⟨_, Gh.fr [(0, .int .u32 ((x / 256 : Nat) : Int)), (2, .int .i64 ((k + 8 : Nat) : Int))] (by simp; exact Int.fdiv_eq_ediv_of_nonneg _ (by decide)), k + 8, x / 256, _, _, rfl, ?_, by omega, by omega⟩
   have := nb_shift (n := x) (k := 8) (by simp; omega)
   simp at this
   omega
  ·simp at h
   refine W.skip ?_
   refine ⟨_, Gh_fa _ [0, 2], k, x, _, _, rfl, hn, by omega, by omega⟩
 rintro _ ⟨k, x, rows, clk, rfl, hn, hx, hk⟩
 refine W.sreg (fun K hK => ?_)
 have hw : IntKind.u8.wrap (x : Int) = x := wrap_u8 (by omega) (by omega)
 have hz : nb x ≤ 8 := nb_lt.2 hx
 simp only [go_move, go_conv, evf_tmp, evf_const, constV_str, put_some, fa_cons, fa_nil, if_true, if_false, reduceIte, Nat.reduceEqDiff, ety169, ety5, yconv, gV_eq, hw, go_index, reduceCtorEq]
 refine idxT (by kernel_rfl) hx ?_
 simp (disch := omega) only [go_conv, go_bin, go_assign, go_nil, evf_tmp, put_some, fa_cons, fa_nil, if_true, if_false, reduceIte, Nat.reduceEqDiff, ety3, ety5, yconv, gV_eq, wrap_i64, ybin, stepV_and, gA_true, reduceCtorEq, true_and]
 refine W.lv [2] hK fun J j => ?_; clear hK K; simp; refine j _ ?_; clear j J
 refine W.ret ?_
 rw [hn]
 simp [go]
def bl (l : List Int) : Int := if l = [] then 0 else 32 * ((l.length : Int) - 1) + nb (nth l (l.length - 1)).toNat
theorem Bits_ret (l : List Int) (h : LOK l) : Ret env.P 217 [us l] (.int .i64 (bl (cutR l))) := by
 refine ret_of_Wf (E := env) (fun _ => 0) [(0, us l)] Tryz.func217 rfl (by kernel_rfl) (by kernel_rfl) (show 1 ≤ 20 by decide) (by simp) ?_
 have hl := h.len
 have hl2 := cutR_len l
 have hL := Lim_cutR h.lim
 refine W.sreg (fun K hK => ?_)
 simp (disch := omega) [gA, wA]
 refine W.lv [0] hK fun J j => ?_; clear hK K; simp; refine j _ ?_; clear j J
 refine W.sreg (fun K hK => ?_)
 simp (disch := omega) [gA, wA]
 refine callR (cut_ret l (by omega)) ?_
 simp (disch := omega) [gA, wA]
 refine W.lv [0] hK fun J j => ?_; clear hK K; simp; refine j _ ?_; clear j J
 generalize cutR l = x at *
 refine W.seq ?_
 refine W.sreg (fun K hK => ?_)
 simp (disch := omega) [gA, wA]
 refine W.lv [0, 7] hK fun J j => ?_; clear hK K; simp; refine j _ ?_; clear j J
 refine W.cond ⟨_, rfl, fun h => ?_, fun h => ?_⟩
 ·have h0 : x = [] := by simpa using h
  refine W.sreg (fun K hK => ?_)
  simp (disch := omega) [gA, wA]
  refine W.lv [2] hK fun J j => ?_; clear hK K; simp; refine j _ ?_; clear j J
  refine W.ret ?_
  simp [go, bl, h0]
 ·have h0 : 0 < x.length := List.length_pos_iff.2 (by simpa using h)
  have hx := hL.nth (i := x.length - 1) (by omega)
  have e : ((x.length : Int) - 1).toNat = x.length - 1 := by omega
  have hz : nb (nth x (x.length - 1)).toNat ≤ 32 := nb_lt.2 (by omega)
  refine W.skip ?_
  refine W.sreg (fun K hK => ?_)
  simp (disch := omega) [gA, wA, e]
  refine callR (Len32_ret _ hx.1 hx.2) ?_
  simp (disch := omega) [gA, wA]
  refine W.lv [2] hK fun J j => ?_; clear hK K; simp; refine j _ ?_; clear j J
  refine W.ret ?_
  have h1 : x ≠ [] := fun h2 => by simp [h2] at h0
  simp [go, bl, h1]
theorem bl_zero {l : List Int} (h : Lim 4294967296 l) (hc : cutR l = l) : bl l = 0 ↔ V 4294967296 l = 0 := by
 unfold bl
 split
 ·rename_i h0; subst h0; simp [V]
 ·rename_i h0
  have h1 := V_canon_ge (by decide) h hc h0
  have h2 : 0 < (4294967296 : Int) ^ (l.length - 1) := Int.pow_pos (by decide)
  have h3 : 0 < l.length := List.length_pos_iff.2 h0
  have h4 := h.nth (i := l.length - 1) (by omega)
  have h5 : nth l (l.length - 1) ≠ 0 := by
   intro h6
   have e : l = l.take (l.length - 1) ++ [0] := by
    conv => lhs; rw [← List.take_length (l := l)]
    rw [← h6, ← take_succ_nth (by omega), show l.length - 1 + 1 = l.length by omega]
   rw [e, cutR_zero] at hc
   have := congrArg List.length hc
   have := cutR_len (l.take (l.length - 1))
   simp at *
   omega
  have h6 : nb (nth l (l.length - 1)).toNat ≠ 0 := by
   intro h7
   have := nb_lt.1 (Nat.le_of_eq h7)
   simp at this; omega
  omega
theorem sign_ret (n : Bool) (l : List Int) (h : LOK l) : Ret env.P 198 [IV n l] (.int .i64 (iv n l).sign) := by
 refine ret_of_Wf (E := env) (fun _ => 0) [(0, IV n l)] Tryz.func198 rfl (by kernel_rfl) (by kernel_rfl) (show 1 ≤ 11 by decide) (by simp) ?_
 have hz := bl_zero (Lim_cutR h.lim) (cutR_cutR l)
 have hp := V_pos h
 rw [V_cutR] at hz
 refine W.sreg (fun K hK => ?_)
 simp (disch := omega) [gA, wA]
 refine W.lv [1] hK fun J j => ?_; clear hK K; simp; refine j _ ?_; clear j J
 refine W.seq ?_
 refine W.block ?_
 refine W.sreg (fun K hK => ?_)
 simp (disch := omega) [gA, wA]
 refine callR (Bits_ret l h) ?_
 simp (disch := omega) [gA, wA]
 refine W.lv [1, 3] hK fun J j => ?_; clear hK K; simp; refine j _ ?_; clear j J
 refine W.cond ⟨_, rfl, fun hb => ?_, fun hb => ?_⟩
 ·have h0 : V 4294967296 l = 0 := hz.1 (by simpa using hb)
  refine W.sreg (fun K hK => ?_)
  simp (disch := omega) [gA, wA]
  refine W.lv [2] hK fun J j => ?_; clear hK K; simp; refine j _ ?_; clear j J
  refine W.ret ?_
  simp [go, iv, h0]
 ·have h0 : 0 < V 4294967296 l := by
   have : V 4294967296 l ≠ 0 := fun h1 => by simp [hz.2 h1] at hb
   omega
  refine W.sreg (fun K hK => ?_)
  simp (disch := omega) [gA, wA]
  refine W.lv [8] hK fun J j => ?_; clear hK K; simp; refine j _ ?_; clear j J
  refine W.cond ⟨_, rfl, fun hn => ?_, fun hn => ?_⟩
  ·subst hn
   refine W.sreg (fun K hK => ?_)
   simp (disch := omega) [gA, wA]
   refine W.lv [2] hK fun J j => ?_; clear hK K; simp; refine j _ ?_; clear j J
   refine W.ret ?_
   have : (- V 4294967296 l).sign = -1 := Int.sign_eq_neg_one_of_neg (by omega)
   simp [go, iv, this]
  ·subst hn
   refine W.skip ?_
   refine W.sreg (fun K hK => ?_)
   simp (disch := omega) [gA, wA]
   refine W.lv [2] hK fun J j => ?_; clear hK K; simp; refine j _ ?_; clear j J
   refine W.ret ?_
   have : (V 4294967296 l).sign = 1 := Int.sign_eq_one_of_pos h0
   simp [go, iv, this]
end Go.Proofs.YtdiladmkbpnhoaaGreat
namespace Go.Proofs.YtdiladmkbpnhoaaGreat
open Go Pm
theorem cmp3_sign {x y : Int} (h : x.sign < y.sign) : cmp3 x y = -1 := by
 apply cmp3_lt
 rcases Int.lt_trichotomy x 0 with h1 | h1 | h1 <;> rcases Int.lt_trichotomy y 0 with h2 | h2 | h2 <;> first | omega | (simp [Int.sign_eq_neg_one_of_neg, Int.sign_eq_one_of_pos, h1, h2] at h)
theorem cmp3_sign' {x y : Int} (h : y.sign < x.sign) : cmp3 x y = 1 := by
 apply cmp3_gt
 rcases Int.lt_trichotomy x 0 with h1 | h1 | h1 <;> rcases Int.lt_trichotomy y 0 with h2 | h2 | h2 <;> first | omega | (simp [Int.sign_eq_neg_one_of_neg, Int.sign_eq_one_of_pos, h1, h2] at h)
theorem cmp3_neg_neg (x y : Int) : cmp3 (-x) (-y) = cmp3 y x := by simp only [cmp3]; split <;> split <;> (try split) <;> (try split) <;> omega
theorem wCmp_ret (n m : Bool) (l k : List Int) (h : LOK l) (h' : LOK k) : Ret env.P 130 [IV n l, IV m k] (.int .i64 (cmp3 (iv n l) (iv m k))) := by
 refine ret_of_Wf (E := env) (fun _ => 0) [(0, IV n l), (1, IV m k)] Tryz.func130 rfl (by kernel_rfl) (by kernel_rfl) (show 2 ≤ 32 by decide) (by simp) ?_
 have p1 := V_pos h; have p2 := V_pos h'
 refine W.sreg (fun K hK => ?_)
 simp (disch := omega) [gA, wA]
 refine W.lv [2, 3] hK fun J j => ?_; clear hK K; simp; refine j _ ?_; clear j J
 refine W.sdrw (fun K hK => ?_)
 simp (disch := omega) [gA, wA]
 refine callR (sign_ret n l h) ?_
 simp (disch := omega) [gA, wA]
 refine callR (sign_ret m k h') ?_
 simp (disch := omega) [gA, wA]
 refine W.lv [2, 3, 5, 6] hK fun J j => ?_; clear hK K; simp; refine j _ ?_; clear j J
 refine W.seq ?_
 refine W.block ?_
 refine W.sreg (fun K hK => ?_)
 simp (disch := omega) [gA, wA]
 refine W.lv [2, 3, 5, 6, 11] hK fun J j => ?_; clear hK K; simp; refine j _ ?_; clear j J
 refine W.cond ⟨_, rfl, fun h1 => ?_, fun h1 => ?_⟩
 ·refine W.sreg (fun K hK => ?_)
  simp (disch := omega) [gA, wA]
  refine W.lv [4] hK fun J j => ?_; clear hK K; simp; refine j _ ?_; clear j J
  refine W.ret ?_
  simp [go, cmp3_sign (of_decide_eq_true h1)]
 ·have h1 := of_decide_eq_false h1
  refine W.sreg (fun K hK => ?_)
  simp (disch := omega) [gA, wA]
  refine W.lv [2, 3, 5, 15] hK fun J j => ?_; clear hK K; simp; refine j _ ?_; clear j J
  refine W.cond ⟨_, rfl, fun h2 => ?_, fun h2 => ?_⟩
  ·refine W.sreg (fun K hK => ?_)
   simp (disch := omega) [gA, wA]
   refine W.lv [4] hK fun J j => ?_; clear hK K; simp; refine j _ ?_; clear j J
   refine W.ret ?_
   simp [go, cmp3_sign' (of_decide_eq_true h2)]
  ·have h2 := of_decide_eq_false h2
   have h3 : (iv n l).sign = (iv m k).sign := by omega
   refine W.sreg (fun K hK => ?_)
   simp (disch := omega) [gA, wA]
   refine W.lv [2, 3, 19] hK fun J j => ?_; clear hK K; simp; refine j _ ?_; clear j J
   refine W.cond ⟨_, rfl, fun h4 => ?_, fun h4 => ?_⟩
   ·have h4 : iv n l < 0 := by simpa using of_decide_eq_true h4
    have h5 : iv m k < 0 := by
     rw [Int.sign_eq_neg_one_of_neg h4] at h3
     exact Int.sign_eq_neg_one_iff_neg.1 h3.symm
    have en : n = true := by cases n; (· simp [iv] at h4; omega); rfl
    have em : m = true := by cases m; (· simp [iv] at h5; omega); rfl
    subst en; subst em
    refine W.sreg (fun K hK => ?_)
    simp (disch := omega) [gA, wA]
    refine callR (Cmp_ret k l h'.len h.len h'.lim h.lim) ?_
    simp (disch := omega) [gA, wA]
    refine W.lv [4] hK fun J j => ?_; clear hK K; simp; refine j _ ?_; clear j J
    refine W.ret ?_
    simp [go, iv, cmp3_neg_neg]
   ·have h4 : 0 ≤ iv n l := by simpa using of_decide_eq_false h4
    have e1 : iv n l = V 4294967296 l := by
     cases n
     ·simp [iv]
     ·simp [iv] at h4 ⊢; omega
    have h5 : 0 ≤ iv m k := by
     have : 0 ≤ (iv n l).sign := Int.sign_nonneg_iff.2 h4
     rw [h3] at this
     exact Int.sign_nonneg_iff.1 this
    have e2 : iv m k = V 4294967296 k := by
     cases m
     ·simp [iv]
     ·simp [iv] at h5 ⊢; omega
    refine W.skip ?_
    refine W.sreg (fun K hK => ?_)
    simp (disch := omega) [gA, wA]
    refine callR (Cmp_ret l k h.len h'.len h.lim h'.lim) ?_
    simp (disch := omega) [gA, wA]
    refine W.lv [4] hK fun J j => ?_; clear hK K; simp; refine j _ ?_; clear j J
    refine W.ret ?_
    simp [go, e1, e2]
theorem wCmpI {x y : Int} (hx : Sz x) (hy : Sz y) : Ret env.P 130 [I x, I y] (.int .i64 (cmp3 x y)) := by
 have := wCmp_ret (decide (x < 0)) (decide (y < 0)) (dig LL x.natAbs) (dig LL y.natAbs) hx.lok hy.lok
 rwa [iv_I, iv_I] at this
theorem sz_gv {p : Bool × List Int} (h : LOK p.2) : Sz (gv p) := by
 have h1 := sz_V hLL h.lim
 have h2 := h.len
 have e : sz LL (gv p) = sz LL (V 4294967296 p.2) := by
  unfold gv iv sz
  split <;> simp
 show sz LL (gv p) < _
 rw [e]
 exact Nat.lt_of_le_of_lt h1 h2
theorem POK.sz {l : List (Bool × List Int)} (h : POK l) : ∀ c ∈ cutR (l.map gv), Sz c := fun c hc => by
 have := cutR_sub _ _ hc
 simp only [List.mem_map] at this
 obtain ⟨p, hp, rfl⟩ := this
 exact sz_gv (h.ok p hp)
theorem pSame_ret (a b : List (Bool × List Int)) (ha : POK a) (hb : POK b) : Ret env.P 179 [Pg a, Pg b] (.bool (decide (cutR (a.map gv) = cutR (b.map gv)))) := by
 refine ret_of_Wf (E := env) (fun _ => 0) [(0, Pg a), (1, Pg b)] Tryz.func179 rfl (by kernel_rfl) (by kernel_rfl) (show 2 ≤ 31 by decide) (by simp) ?_
 refine W.sreg (fun K hK => ?_)
 simp (disch := omega) [gA, wA]
 refine W.lv [0, 1] hK fun J j => ?_; clear hK K; simp; refine j _ ?_; clear j J
 refine W.sreg (fun K hK => ?_)
 simp (disch := omega) [gA, wA]
 refine callR (pNorm_ret a ha) ?_
 simp (disch := omega) [gA, wA]
 refine callR (pNorm_ret b hb) ?_
 simp (disch := omega) [gA, wA]
 refine W.lv [0, 1] hK fun J j => ?_; clear hK K; simp; refine j _ ?_; clear j J
 have sa := ha.sz; have sb := hb.sz
 have la : (cutR (a.map gv)).length < 1099511627776 := by have := cutR_len (a.map gv); have := ha.len; simp at *; omega
 have lb : (cutR (b.map gv)).length < 1099511627776 := by have := cutR_len (b.map gv); have := hb.len; simp at *; omega
 generalize cutR (a.map gv) = x at *
 generalize cutR (b.map gv) = y at *
 refine W.seq ?_
 refine W.sreg (fun K hK => ?_)
 simp (disch := omega) [gA, wA]
 refine W.lv [0, 1, 15] hK fun J j => ?_; clear hK K; simp; refine j _ ?_; clear j J
 refine W.cond ⟨_, rfl, fun h => ?_, fun h => ?_⟩
 ·have h0 : x ≠ y := fun h1 => by subst h1; simp at h
  refine W.sreg (fun K hK => ?_)
  simp (disch := omega) [gA, wA]
  refine W.lv [4] hK fun J j => ?_; clear hK K; simp; refine j _ ?_; clear j J
  refine W.ret ?_
  simp [go, h0]
 ·have h0 : x.length = y.length := by simp at h; omega
  clear h
  refine W.skip ?_
  refine W.seq ?_
  refine W.sreg (fun K hK => ?_)
  simp (disch := omega) [gA, wA]
  refine W.lv [1, 16, 17, 18] hK fun J j => ?_; clear hK K; simp; refine j _ ?_; clear j J
  refine W.block ?_
  refine W.loopG (fun k σ => ∃ (i : Nat) (rows : Pm.Rows) (clk : Nat), σ = ⟨fa [(1, Po y), (16, Po x), (17, .int .i64 x.length), (18, .int .i64 i)], rows, clk⟩ ∧ k = x.length - i ∧ i ≤ x.length ∧ x.take i = y.take i) x.length ?_ ?_
  ·exact ⟨_, .refl, 0, _, _, rfl, by omega, by omega, by simp⟩
  rintro k _ ⟨i, rows, clk, rfl, hk, hi, hxy⟩
  refine W.sreg (fun K hK => ?_)
  simp (disch := omega) [gA, wA]
  refine W.lv [1, 16, 17, 18, 19] hK fun J j => ?_; clear hK K; simp; refine j _ ?_; clear j J
  refine W.seq ?_
  refine W.cond ⟨_, rfl, fun h => ?_, fun h => ?_⟩
  ·simp at h
   refine W.skip ?_
   refine W.seq ?_
   refine W.block ?_
   refine W.sreg (fun K hK => ?_)
   simp (disch := omega) [gA, wA]
   refine W.lv [1, 5, 6, 16, 17, 18] hK fun J j => ?_; clear hK K; simp; refine j _ ?_; clear j J
   refine W.sdrw (fun K hK => ?_)
   simp (disch := omega) [gA, wA]
   refine callR (wCmpI (sa _ (nth_mem h)) (sb _ (nth_mem (by omega)))) ?_
   simp (disch := omega) [gA, wA]
   refine W.lv [1, 16, 17, 18, 29] hK fun J j => ?_; clear hK K; simp; refine j _ ?_; clear j J
   refine W.cond ⟨_, rfl, fun h2 => ?_, fun h2 => ?_⟩
   ·have h3 : x ≠ y := fun h1 => by subst h1; simp [cmp3_eq] at h2
    refine W.sreg (fun K hK => ?_)
    simp (disch := omega) [gA, wA]
    refine W.lv [4] hK fun J j => ?_; clear hK K; simp; refine j _ ?_; clear j J
    refine W.ret ?_
    simp [go, h3]
   ·have h3 : nth x i = nth y i := by
     have : cmp3 (nth x i) (nth y i) = 0 := by simpa using h2
     exact cmp3_zero.1 this
    refine W.skip ?_
    refine W.reg (fun K hK => ?_)
    simp (disch := omega) [gA, wA]
    refine hK _ ⟨x.length - (i + 1), _, Gh_fa _ [1, 16, 17, 18], by omega, i + 1, _, _, rfl, by omega, by omega, ?_⟩
    rw [take_succ_nth h, take_succ_nth (by omega), hxy, h3]
  ·simp at h
   have h3 : x = y := by
    rw [take_all (show x.length = i by omega), take_all (show y.length = i by omega)] at hxy
    exact hxy
   refine W.exit ?_; simp only [pX, if_true, if_false, reduceIte, Nat.reduceEqDiff]
   refine W.sreg (fun K hK => ?_)
   simp (disch := omega) [gA, wA]
   refine W.lv [4] hK fun J j => ?_; clear hK K; simp; refine j _ ?_; clear j J
   refine W.ret ?_
   simp [go, h3]
end Go.Proofs.YtdiladmkbpnhoaaGreat
