import Derived.Test.YtjnkpfknmncdmaaLg
import Derived.Test.YtjnkpfknmncdmaaMe
set_option linter.unusedSimpArgs false
set_option linter.unusedVariables false
namespace Go.Proofs.Ytjnkpfknmncdmaa
open Go Pm

theorem LOK.nil : LOK [] := ⟨Lim.nil, by simp⟩
theorem POK.nth' {l : List (Bool × List Int)} (h : POK l) (i : Nat) : LOK (Pm.nth l i).2 := by
  by_cases hi : i < l.length
  · exact h.nth hi
  · rw [nth_ge (by omega)]; exact LOK.nil
theorem nth_gv (l : List (Bool × List Int)) (k : Nat) : nth (l.map gv) k = gv (nth l k) := Pm.nth_map (f := gv) rfl l k

theorem iv_I (x : Int) : iv (decide (x < 0)) (dig LL x.natAbs) = x := gv_rw x
theorem wMulI {x y : Int} (hx : Sz x) (hy : Sz y) : Ret env.P 56 [I x, I y] (I (x * y)) := by
  have := wMul_ret (decide (x < 0)) (decide (y < 0)) (dig LL x.natAbs) (dig LL y.natAbs) hx.lok hy.lok
  rwa [iv_I, iv_I] at this
theorem wAddI {x y : Int} (hx : Sz x) (hy : Sz y) : Ret env.P 70 [I x, I y] (I (x + y)) := by
  have := wAdd_ret (decide (x < 0)) (decide (y < 0)) (dig LL x.natAbs) (dig LL y.natAbs) hx.lok hy.lok
  rwa [iv_I, iv_I] at this
theorem wSubI {x y : Int} (hx : Sz x) (hy : Sz y) : Ret env.P 112 [I x, I y] (I (x - y)) := by
  have := wSub_ret (decide (x < 0)) (decide (y < 0)) (dig LL x.natAbs) (dig LL y.natAbs) hx.lok hy.lok
  rwa [iv_I, iv_I] at this
theorem wNegI {x : Int} (hx : Sz x) : Ret env.P 75 [I x] (I (-x)) := by
  have := wNeg_ret (decide (x < 0)) (dig LL x.natAbs) hx.lok
  rwa [iv_I] at this
theorem wNormI {x : Int} (hx : Sz x) : Ret env.P 67 [I x] (I x) := by
  have := wNorm_ret (decide (x < 0)) (dig LL x.natAbs) hx.lok
  rwa [iv_I] at this

theorem addc_ret (a b : List (Bool × List Int)) (ha : POK a) (hb : POK b) (k : Nat) (hk : k < 9223372036854775808) : Ret env.P 72 [.int .i64 (k : Int), .rd [Pg a], .rd [Pg b]] (I (nth (a.map gv) k + nth (b.map gv) k)) := by
  refine ret_of_Wf (E := env) (fun _ => 0) [(0, .int .i64 (k : Int)), (1, .rd [Pg a]), (2, .rd [Pg b])] Try.func72 rfl (by kernel_rfl) (by kernel_rfl) (show 3 ≤ 12 by decide) (by simp) ?_
  have := ha.len; have := hb.len
  refine W.sreg (fun K hK => ?_)
  simp (disch := omega) [gA, wrap_i64, wrap_u64, wrap_u32, Int.tdiv_eq_ediv_of_nonneg, Int.tmod_eq_emod_of_nonneg]
  refine hK _ (W.liveK [0, 1, 2, 4] fun K2 hK2 => ?_); clear hK K; simp; refine hK2 _ ?_; clear hK2 K2
  refine W.sdrw (fun K hK => ?_)
  simp (disch := omega) [gA, wrap_i64, wrap_u64, wrap_u32, Int.tdiv_eq_ediv_of_nonneg, Int.tmod_eq_emod_of_nonneg]
  refine callR (at_ret a k ha.len hk) ?_
  simp (disch := omega) [gA, wrap_i64, wrap_u64, wrap_u32, Int.tdiv_eq_ediv_of_nonneg, Int.tmod_eq_emod_of_nonneg]
  refine callR (at_ret b k hb.len hk) ?_
  simp (disch := omega) [gA, wrap_i64, wrap_u64, wrap_u32, Int.tdiv_eq_ediv_of_nonneg, Int.tmod_eq_emod_of_nonneg]
  refine callR (wAdd_ret _ _ _ _ (ha.nth' k) (hb.nth' k)) ?_
  simp (disch := omega) [gA, wrap_i64, wrap_u64, wrap_u32, Int.tdiv_eq_ediv_of_nonneg, Int.tmod_eq_emod_of_nonneg]
  refine hK _ (W.liveK [4] fun K2 hK2 => ?_); clear hK K; simp; refine hK2 _ ?_; clear hK2 K2
  refine W.ret ?_
  rw [nth_gv, nth_gv]
  simp [go, gv]

theorem subc_ret (a b : List (Bool × List Int)) (ha : POK a) (hb : POK b) (k : Nat) (hk : k < 9223372036854775808) : Ret env.P 111 [.int .i64 (k : Int), .rd [Pg a], .rd [Pg b]] (I (nth (a.map gv) k - nth (b.map gv) k)) := by
  refine ret_of_Wf (E := env) (fun _ => 0) [(0, .int .i64 (k : Int)), (1, .rd [Pg a]), (2, .rd [Pg b])] Try.func111 rfl (by kernel_rfl) (by kernel_rfl) (show 3 ≤ 12 by decide) (by simp) ?_
  have := ha.len; have := hb.len
  refine W.sreg (fun K hK => ?_)
  simp (disch := omega) [gA, wrap_i64, wrap_u64, wrap_u32, Int.tdiv_eq_ediv_of_nonneg, Int.tmod_eq_emod_of_nonneg]
  refine hK _ (W.liveK [0, 1, 2, 4] fun K2 hK2 => ?_); clear hK K; simp; refine hK2 _ ?_; clear hK2 K2
  refine W.sdrw (fun K hK => ?_)
  simp (disch := omega) [gA, wrap_i64, wrap_u64, wrap_u32, Int.tdiv_eq_ediv_of_nonneg, Int.tmod_eq_emod_of_nonneg]
  refine callR (at_ret a k ha.len hk) ?_
  simp (disch := omega) [gA, wrap_i64, wrap_u64, wrap_u32, Int.tdiv_eq_ediv_of_nonneg, Int.tmod_eq_emod_of_nonneg]
  refine callR (at_ret b k hb.len hk) ?_
  simp (disch := omega) [gA, wrap_i64, wrap_u64, wrap_u32, Int.tdiv_eq_ediv_of_nonneg, Int.tmod_eq_emod_of_nonneg]
  refine callR (wSub_ret _ _ _ _ (ha.nth' k) (hb.nth' k)) ?_
  simp (disch := omega) [gA, wrap_i64, wrap_u64, wrap_u32, Int.tdiv_eq_ediv_of_nonneg, Int.tmod_eq_emod_of_nonneg]
  refine hK _ (W.liveK [4] fun K2 hK2 => ?_); clear hK K; simp; refine hK2 _ ?_; clear hK2 K2
  refine W.ret ?_
  rw [nth_gv, nth_gv]
  simp [go, gv]

theorem negc_ret (a : List (Bool × List Int)) (ha : POK a) (k : Nat) (hk : k < a.length) : Ret env.P 74 [.int .i64 (k : Int), .rd [Pg a]] (I (- nth (a.map gv) k)) := by
  refine ret_of_Wf (E := env) (fun _ => 0) [(0, .int .i64 (k : Int)), (1, .rd [Pg a])] Try.func74 rfl (by kernel_rfl) (by kernel_rfl) (show 2 ≤ 9 by decide) (by simp) ?_
  have := ha.len
  refine W.sreg (fun K hK => ?_)
  simp (disch := omega) [gA, wrap_i64, wrap_u64, wrap_u32, Int.tdiv_eq_ediv_of_nonneg, Int.tmod_eq_emod_of_nonneg]
  refine hK _ (W.liveK [0, 1, 3] fun K2 hK2 => ?_); clear hK K; simp; refine hK2 _ ?_; clear hK2 K2
  refine W.sreg (fun K hK => ?_)
  simp (disch := omega) [gA, wrap_i64, wrap_u64, wrap_u32, Int.tdiv_eq_ediv_of_nonneg, Int.tmod_eq_emod_of_nonneg]
  refine callR (wNeg_ret _ _ (ha.nth' k)) ?_
  simp (disch := omega) [gA, wrap_i64, wrap_u64, wrap_u32, Int.tdiv_eq_ediv_of_nonneg, Int.tmod_eq_emod_of_nonneg]
  refine hK _ (W.liveK [3] fun K2 hK2 => ?_); clear hK K; simp; refine hK2 _ ?_; clear hK2 K2
  refine W.ret ?_
  rw [nth_gv]
  simp [go, gv]

theorem scac_ret (a : List (Bool × List Int)) (ha : POK a) (n : Bool) (c : List Int) (hc : LOK c) (k : Nat) (hk : k < a.length) : Ret env.P 101 [.int .i64 (k : Int), .rd [Pg a], .rd [.bool n, us c]] (I (nth (a.map gv) k * iv n c)) := by
  refine ret_of_Wf (E := env) (fun _ => 0) [(0, .int .i64 (k : Int)), (1, .rd [Pg a]), (2, .rd [.bool n, us c])] Try.func101 rfl (by kernel_rfl) (by kernel_rfl) (show 3 ≤ 11 by decide) (by simp) ?_
  have := ha.len
  refine W.sreg (fun K hK => ?_)
  simp (disch := omega) [gA, wrap_i64, wrap_u64, wrap_u32, Int.tdiv_eq_ediv_of_nonneg, Int.tmod_eq_emod_of_nonneg]
  refine hK _ (W.liveK [0, 1, 2, 4] fun K2 hK2 => ?_); clear hK K; simp; refine hK2 _ ?_; clear hK2 K2
  refine W.sdrw (fun K hK => ?_)
  simp (disch := omega) [gA, wrap_i64, wrap_u64, wrap_u32, Int.tdiv_eq_ediv_of_nonneg, Int.tmod_eq_emod_of_nonneg]
  refine callR (wMul_ret _ _ _ _ (ha.nth' k) hc) ?_
  simp (disch := omega) [gA, wrap_i64, wrap_u64, wrap_u32, Int.tdiv_eq_ediv_of_nonneg, Int.tmod_eq_emod_of_nonneg]
  refine hK _ (W.liveK [4] fun K2 hK2 => ?_); clear hK K; simp; refine hK2 _ ?_; clear hK2 K2
  refine W.ret ?_
  rw [nth_gv]
  simp [go, gv]

theorem pAdd_ret (a b : List (Bool × List Int)) (ha : POK a) (hb : POK b) : Ret env.P 28 [Pg a, Pg b] (Po (padd (a.map gv) (b.map gv))) := by
  refine ret_of_Wf (E := env) (fun _ => 0) [(0, Pg a), (1, Pg b)] Try.func28 rfl (by kernel_rfl) (by kernel_rfl) (show 2 ≤ 12 by decide) (by simp) ?_
  have hla := ha.len; have hlb := hb.len
  refine W.sreg (fun K hK => ?_)
  simp (disch := omega) [gA, wrap_i64, wrap_u64, wrap_u32, Int.tdiv_eq_ediv_of_nonneg, Int.tmod_eq_emod_of_nonneg]
  refine hK _ (W.liveK [2, 3] fun K2 hK2 => ?_); clear hK K; simp; refine hK2 _ ?_; clear hK2 K2
  refine W.sreg (fun K hK => ?_)
  have e : (if a.length < b.length then (b.length : Int) else (a.length : Int)) = ((max a.length b.length : Nat) : Int) := by split <;> omega
  simp (disch := omega) [gA, wrap_i64, wrap_u64, wrap_u32, Int.tdiv_eq_ediv_of_nonneg, Int.tmod_eq_emod_of_nonneg, e]
  refine callR (each_ret 72 rfl [.rd [Pg a], .rd [Pg b]] rfl (max a.length b.length) (by omega) (fun k => nth (a.map gv) k + nth (b.map gv) k) (fun k hk => addc_ret a b ha hb k (by omega))) ?_
  simp (disch := omega) [gA, wrap_i64, wrap_u64, wrap_u32, Int.tdiv_eq_ediv_of_nonneg, Int.tmod_eq_emod_of_nonneg]
  refine hK _ (W.liveK [4] fun K2 hK2 => ?_); clear hK K; simp; refine hK2 _ ?_; clear hK2 K2
  refine W.ret ?_
  simp [go, padd]

theorem pSub_ret (a b : List (Bool × List Int)) (ha : POK a) (hb : POK b) : Ret env.P 77 [Pg a, Pg b] (Po (psub (a.map gv) (b.map gv))) := by
  refine ret_of_Wf (E := env) (fun _ => 0) [(0, Pg a), (1, Pg b)] Try.func77 rfl (by kernel_rfl) (by kernel_rfl) (show 2 ≤ 12 by decide) (by simp) ?_
  have hla := ha.len; have hlb := hb.len
  refine W.sreg (fun K hK => ?_)
  simp (disch := omega) [gA, wrap_i64, wrap_u64, wrap_u32, Int.tdiv_eq_ediv_of_nonneg, Int.tmod_eq_emod_of_nonneg]
  refine hK _ (W.liveK [2, 3] fun K2 hK2 => ?_); clear hK K; simp; refine hK2 _ ?_; clear hK2 K2
  refine W.sreg (fun K hK => ?_)
  have e : (if a.length < b.length then (b.length : Int) else (a.length : Int)) = ((max a.length b.length : Nat) : Int) := by split <;> omega
  simp (disch := omega) [gA, wrap_i64, wrap_u64, wrap_u32, Int.tdiv_eq_ediv_of_nonneg, Int.tmod_eq_emod_of_nonneg, e]
  refine callR (each_ret 111 rfl [.rd [Pg a], .rd [Pg b]] rfl (max a.length b.length) (by omega) (fun k => nth (a.map gv) k - nth (b.map gv) k) (fun k hk => subc_ret a b ha hb k (by omega))) ?_
  simp (disch := omega) [gA, wrap_i64, wrap_u64, wrap_u32, Int.tdiv_eq_ediv_of_nonneg, Int.tmod_eq_emod_of_nonneg]
  refine hK _ (W.liveK [4] fun K2 hK2 => ?_); clear hK K; simp; refine hK2 _ ?_; clear hK2 K2
  refine W.ret ?_
  simp [go, psub]

theorem map_range {α β : Type} [Inhabited α] (l : List α) (f : α → β) : (List.range l.length).map (fun k => f (nth l k)) = l.map f := by
  apply List.ext_getElem
  · simp
  · intro i h1 h2
    simp at h1
    simp [nth_eq h1]

theorem pNeg_ret (a : List (Bool × List Int)) (ha : POK a) : Ret env.P 29 [Pg a] (Po (pneg (a.map gv))) := by
  refine ret_of_Wf (E := env) (fun _ => 0) [(0, Pg a)] Try.func29 rfl (by kernel_rfl) (by kernel_rfl) (show 1 ≤ 7 by decide) (by simp) ?_
  have hla := ha.len
  refine W.sreg (fun K hK => ?_)
  simp (disch := omega) [gA, wrap_i64, wrap_u64, wrap_u32, Int.tdiv_eq_ediv_of_nonneg, Int.tmod_eq_emod_of_nonneg]
  refine hK _ (W.liveK [1] fun K2 hK2 => ?_); clear hK K; simp; refine hK2 _ ?_; clear hK2 K2
  refine W.sreg (fun K hK => ?_)
  simp (disch := omega) [gA, wrap_i64, wrap_u64, wrap_u32, Int.tdiv_eq_ediv_of_nonneg, Int.tmod_eq_emod_of_nonneg]
  refine callR (each_ret 74 rfl [.rd [Pg a]] rfl a.length (by omega) (fun k => - nth (a.map gv) k) (fun k hk => negc_ret a ha k hk)) ?_
  simp (disch := omega) [gA, wrap_i64, wrap_u64, wrap_u32, Int.tdiv_eq_ediv_of_nonneg, Int.tmod_eq_emod_of_nonneg]
  refine hK _ (W.liveK [2] fun K2 hK2 => ?_); clear hK K; simp; refine hK2 _ ?_; clear hK2 K2
  refine W.ret ?_
  have e := map_range (a.map gv) (fun c => -c)
  rw [List.length_map] at e
  rw [e]
  simp [go, pneg]

theorem pScale_ret (a : List (Bool × List Int)) (ha : POK a) (n : Bool) (c : List Int) (hc : LOK c) : Ret env.P 51 [Pg a, IV n c] (Po (pscale (a.map gv) (iv n c))) := by
  refine ret_of_Wf (E := env) (fun _ => 0) [(0, Pg a), (1, IV n c)] Try.func51 rfl (by kernel_rfl) (by kernel_rfl) (show 2 ≤ 9 by decide) (by simp) ?_
  have hla := ha.len
  refine W.sreg (fun K hK => ?_)
  simp (disch := omega) [gA, wrap_i64, wrap_u64, wrap_u32, Int.tdiv_eq_ediv_of_nonneg, Int.tmod_eq_emod_of_nonneg]
  refine hK _ (W.liveK [2, 3] fun K2 hK2 => ?_); clear hK K; simp; refine hK2 _ ?_; clear hK2 K2
  refine W.sreg (fun K hK => ?_)
  simp (disch := omega) [gA, wrap_i64, wrap_u64, wrap_u32, Int.tdiv_eq_ediv_of_nonneg, Int.tmod_eq_emod_of_nonneg]
  refine callR (each_ret 101 rfl [.rd [Pg a], .rd [.bool n, us c]] rfl a.length (by omega) (fun k => nth (a.map gv) k * iv n c) (fun k hk => scac_ret a ha n c hc k hk)) ?_
  simp (disch := omega) [gA, wrap_i64, wrap_u64, wrap_u32, Int.tdiv_eq_ediv_of_nonneg, Int.tmod_eq_emod_of_nonneg]
  refine hK _ (W.liveK [4] fun K2 hK2 => ?_); clear hK K; simp; refine hK2 _ ?_; clear hK2 K2
  refine W.ret ?_
  have e := map_range (a.map gv) (fun a => a * iv n c)
  rw [List.length_map] at e
  rw [e]
  simp [go, pscale]
end Go.Proofs.Ytjnkpfknmncdmaa
