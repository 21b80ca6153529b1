import Derived.ProofKit
import Derived.JoinedOf
import Derived.SizedLaws
import Derived.Carry
import Derived.Deep.Slices
import Derived.Test.YtelhfbikiccfkaaGreatBad
import Derived.Test.YtelhfbikiccfkaaGreatBaf
import Derived.Test.YtelhfbikiccfkaaGreatBag
set_option linter.unusedSimpArgs false
set_option linter.unusedVariables false
namespace Go.Proofs.YtelhfbikiccfkaaGreat
open Go Pm
theorem rX.nil : rX [] := ⟨cR.nil, by simp⟩
theorem sO.WT {l : List (Bool × List Int)} (h : sO l) (i : Nat) : rX (Pm.nth l i).2 := by
 by_cases hi : i < l.length
 ·exact h.nth hi
 ·rw [gX (by omega)]; exact rX.nil
theorem tT (l : List (Bool × List Int)) (k : Nat) : nth (l.map gv) k = gv (nth l k) := Pm.zP (f := gv) rfl l k
theorem BT (x : Int) : iv (decide (x < 0)) (aS LL x.natAbs) = x := TH x
theorem vI {x y : Int} (hx : Sz x) (hy : Sz y) : aG env.P 70 [I x, I y] (I (x * y)) := by
 have := LA (decide (x < 0)) (decide (y < 0)) (aS LL x.natAbs) (aS LL y.natAbs) hx.Y8 hy.Y8
 rwa [BT, BT] at this
theorem TJ {x y : Int} (hx : Sz x) (hy : Sz y) : aG env.P 69 [I x, I y] (I (x + y)) := by
 have := BR (decide (x < 0)) (decide (y < 0)) (aS LL x.natAbs) (aS LL y.natAbs) hx.Y8 hy.Y8
 rwa [BT, BT] at this
theorem aic {x : Int} (hx : Sz x) : aG env.P 115 [I x] (I (-x)) := by
 have := BQ (decide (x < 0)) (aS LL x.natAbs) hx.Y8
 rwa [BT] at this
theorem HX {x : Int} (hx : Sz x) : aG env.P 148 [I x] (I x) := by
 have := FM (decide (x < 0)) (aS LL x.natAbs) hx.Y8
 rwa [BT] at this
theorem abd (a b : List (Bool × List Int)) (ha : sO a) (hb : sO b) (k : Nat) (hk : k < 9223372036854775808) : aG env.P 248 [.int .i64 (k : Int), .rd [Pg a], .rd [Pg b]] (I (nth (a.map gv) k + nth (b.map gv) k)) := by
 refine cT (E := env) (fun _ => 0) [(0, .int .i64 (k : Int)), (1, .rd [Pg a]), (2, .rd [Pg b])] Tryz.func248 rfl (by kernel_rfl) (by kernel_rfl) (show 3 ≤ 12 by decide) (by simp) ?_
 have := ha.len; have := hb.len
 refine W.dY (fun K hK => ?_)
 simp (disch := omega) [gA, wA]
 refine W.lv [0, 1, 2, 4] hK fun J j => ?_; clear hK K; simp; refine j _ ?_; clear j J
 refine W.aeR (fun K hK => ?_)
 simp (disch := omega) [gA, wA]
 refine aD (HW a k ha.len hk) ?_
 simp (disch := omega) [gA, wA]
 refine aD (HW b k hb.len hk) ?_
 simp (disch := omega) [gA, wA]
 refine aD (BR _ _ _ _ (ha.WT k) (hb.WT k)) ?_
 simp (disch := omega) [gA, wA]
 refine W.lv [4] hK fun J j => ?_; clear hK K; simp; refine j _ ?_; clear j J
 refine W.ret ?_
 rw [tT, tT]
 simp [go, gv]
theorem abe (a b : List (Bool × List Int)) (ha : sO a) (hb : sO b) (k : Nat) (hk : k < 9223372036854775808) : aG env.P 251 [.int .i64 (k : Int), .rd [Pg a], .rd [Pg b]] (I (nth (a.map gv) k - nth (b.map gv) k)) := by
 refine cT (E := env) (fun _ => 0) [(0, .int .i64 (k : Int)), (1, .rd [Pg a]), (2, .rd [Pg b])] Tryz.func251 rfl (by kernel_rfl) (by kernel_rfl) (show 3 ≤ 12 by decide) (by simp) ?_
 have := ha.len; have := hb.len
 refine W.dY (fun K hK => ?_)
 simp (disch := omega) [gA, wA]
 refine W.lv [0, 1, 2, 4] hK fun J j => ?_; clear hK K; simp; refine j _ ?_; clear j J
 refine W.aeR (fun K hK => ?_)
 simp (disch := omega) [gA, wA]
 refine aD (HW a k ha.len hk) ?_
 simp (disch := omega) [gA, wA]
 refine aD (HW b k hb.len hk) ?_
 simp (disch := omega) [gA, wA]
 refine aD (abc _ _ _ _ (ha.WT k) (hb.WT k)) ?_
 simp (disch := omega) [gA, wA]
 refine W.lv [4] hK fun J j => ?_; clear hK K; simp; refine j _ ?_; clear j J
 refine W.ret ?_
 rw [tT, tT]
 simp [go, gv]
theorem abf (a : List (Bool × List Int)) (ha : sO a) (k : Nat) (hk : k < a.length) : aG env.P 114 [.int .i64 (k : Int), .rd [Pg a]] (I (- nth (a.map gv) k)) := by
 refine cT (E := env) (fun _ => 0) [(0, .int .i64 (k : Int)), (1, .rd [Pg a])] Tryz.func114 rfl (by kernel_rfl) (by kernel_rfl) (show 2 ≤ 9 by decide) (by simp) ?_
 have := ha.len
 refine W.dY (fun K hK => ?_)
 simp (disch := omega) [gA, wA]
 refine W.lv [0, 1, 3] hK fun J j => ?_; clear hK K; simp; refine j _ ?_; clear j J
 refine W.dY (fun K hK => ?_)
 simp (disch := omega) [gA, wA]
 refine aD (BQ _ _ (ha.WT k)) ?_
 simp (disch := omega) [gA, wA]
 refine W.lv [3] hK fun J j => ?_; clear hK K; simp; refine j _ ?_; clear j J
 refine W.ret ?_
 rw [tT]
 simp [go, gv]
theorem abg (a : List (Bool × List Int)) (ha : sO a) (n : Bool) (c : List Int) (hc : rX c) (k : Nat) (hk : k < a.length) : aG env.P 247 [.int .i64 (k : Int), .rd [Pg a], .rd [.bool n, us c]] (I (nth (a.map gv) k * iv n c)) := by
 refine cT (E := env) (fun _ => 0) [(0, .int .i64 (k : Int)), (1, .rd [Pg a]), (2, .rd [.bool n, us c])] Tryz.func247 rfl (by kernel_rfl) (by kernel_rfl) (show 3 ≤ 11 by decide) (by simp) ?_
 have := ha.len
 refine W.dY (fun K hK => ?_)
 simp (disch := omega) [gA, wA]
 refine W.lv [0, 1, 2, 4] hK fun J j => ?_; clear hK K; simp; refine j _ ?_; clear j J
 refine W.aeR (fun K hK => ?_)
 simp (disch := omega) [gA, wA]
 refine aD (LA _ _ _ _ (ha.WT k) hc) ?_
 simp (disch := omega) [gA, wA]
 refine W.lv [4] hK fun J j => ?_; clear hK K; simp; refine j _ ?_; clear j J
 refine W.ret ?_
 rw [tT]
 simp [go, gv]
theorem abh (a b : List (Bool × List Int)) (ha : sO a) (hb : sO b) : aG env.P 202 [Pg a, Pg b] (Po (gY (a.map gv) (b.map gv))) := by
 refine cT (E := env) (fun _ => 0) [(0, Pg a), (1, Pg b)] Tryz.func202 rfl (by kernel_rfl) (by kernel_rfl) (show 2 ≤ 12 by decide) (by simp) ?_
 have P7 := ha.len; have hlb := hb.len
 refine W.dY (fun K hK => ?_)
 simp (disch := omega) [gA, wA]
 refine W.lv [2, 3] hK fun J j => ?_; clear hK K; simp; refine j _ ?_; clear j J
 refine W.dY (fun K hK => ?_)
 have e : (if a.length < b.length then (b.length : Int) else (a.length : Int)) = ((max a.length b.length : Nat) : Int) := by split <;> omega
 simp (disch := omega) [gA, wA, e]
 refine aD (qU 248 rfl [.rd [Pg a], .rd [Pg b]] rfl (max a.length b.length) (by omega) (fun k => nth (a.map gv) k + nth (b.map gv) k) (fun k hk => abd a b ha hb k (by omega))) ?_
 simp (disch := omega) [gA, wA]
 refine W.lv [4] hK fun J j => ?_; clear hK K; simp; refine j _ ?_; clear j J
 refine W.ret ?_
 simp [go, gY]
theorem abi (a b : List (Bool × List Int)) (ha : sO a) (hb : sO b) : aG env.P 204 [Pg a, Pg b] (Po (eZ (a.map gv) (b.map gv))) := by
 refine cT (E := env) (fun _ => 0) [(0, Pg a), (1, Pg b)] Tryz.func204 rfl (by kernel_rfl) (by kernel_rfl) (show 2 ≤ 12 by decide) (by simp) ?_
 have P7 := ha.len; have hlb := hb.len
 refine W.dY (fun K hK => ?_)
 simp (disch := omega) [gA, wA]
 refine W.lv [2, 3] hK fun J j => ?_; clear hK K; simp; refine j _ ?_; clear j J
 refine W.dY (fun K hK => ?_)
 have e : (if a.length < b.length then (b.length : Int) else (a.length : Int)) = ((max a.length b.length : Nat) : Int) := by split <;> omega
 simp (disch := omega) [gA, wA, e]
 refine aD (qU 251 rfl [.rd [Pg a], .rd [Pg b]] rfl (max a.length b.length) (by omega) (fun k => nth (a.map gv) k - nth (b.map gv) k) (fun k hk => abe a b ha hb k (by omega))) ?_
 simp (disch := omega) [gA, wA]
 refine W.lv [4] hK fun J j => ?_; clear hK K; simp; refine j _ ?_; clear j J
 refine W.ret ?_
 simp [go, eZ]
theorem FN {α β : Type} [Inhabited α] (l : List α) (f : α → β) : (List.range l.length).map (fun k => f (nth l k)) = l.map f := by
 apply List.ext_getElem
 ·simp
 ·intro i h1 h2
  simp at h1
  simp [cQ h1]
theorem abj (a : List (Bool × List Int)) (ha : sO a) : aG env.P 41 [Pg a] (Po (gH (a.map gv))) := by
 refine cT (E := env) (fun _ => 0) [(0, Pg a)] Tryz.func41 rfl (by kernel_rfl) (by kernel_rfl) (show 1 ≤ 7 by decide) (by simp) ?_
 have P7 := ha.len
 refine W.dY (fun K hK => ?_)
 simp (disch := omega) [gA, wA]
 refine W.lv [1] hK fun J j => ?_; clear hK K; simp; refine j _ ?_; clear j J
 refine W.dY (fun K hK => ?_)
 simp (disch := omega) [gA, wA]
 refine aD (qU 114 rfl [.rd [Pg a]] rfl a.length (by omega) (fun k => - nth (a.map gv) k) (fun k hk => abf a ha k hk)) ?_
 simp (disch := omega) [gA, wA]
 refine W.lv [2] hK fun J j => ?_; clear hK K; simp; refine j _ ?_; clear j J
 refine W.ret ?_
 have e := FN (a.map gv) (fun c => -c)
 rw [List.length_map] at e
 rw [e]
 simp [go, gH]
theorem P8 (a : List (Bool × List Int)) (ha : sO a) (n : Bool) (c : List Int) (hc : rX c) : aG env.P 201 [Pg a, IV n c] (Po (aX (a.map gv) (iv n c))) := by
 refine cT (E := env) (fun _ => 0) [(0, Pg a), (1, IV n c)] Tryz.func201 rfl (by kernel_rfl) (by kernel_rfl) (show 2 ≤ 9 by decide) (by simp) ?_
 have P7 := ha.len
 refine W.dY (fun K hK => ?_)
 simp (disch := omega) [gA, wA]
 refine W.lv [2, 3] hK fun J j => ?_; clear hK K; simp; refine j _ ?_; clear j J
 refine W.dY (fun K hK => ?_)
 simp (disch := omega) [gA, wA]
 refine aD (qU 247 rfl [.rd [Pg a], .rd [.bool n, us c]] rfl a.length (by omega) (fun k => nth (a.map gv) k * iv n c) (fun k hk => abg a ha n c hc k hk)) ?_
 simp (disch := omega) [gA, wA]
 refine W.lv [4] hK fun J j => ?_; clear hK K; simp; refine j _ ?_; clear j J
 refine W.ret ?_
 have e := FN (a.map gv) (fun a => a * iv n c)
 rw [List.length_map] at e
 rw [e]
 simp [go, aX]
theorem abk (a b : List (Bool × List Int)) (ha : sO a) (hb : sO b) (s s' n n' : Nat) (hs : Bd LL s n (a.map gv)) (uY : Bd LL s' n' (b.map gv)) (hB : s + s' + n + n' < 1099511627775) :
  aG env.P 16 [Pg a, Pg b] (Po (bL (a.map gv) (b.map gv))) := by
 refine cT (E := env) (fun id => if id = 11 then 1 else 0) [(0, Pg a), (1, Pg b)] Tryz.func16 rfl (by kernel_rfl) (by kernel_rfl) (show 2 ≤ 62 by decide) (by simp) ?_
 refine W.dY (fun K hK => ?_)
 simp (disch := omega) [gA, wA]
 refine W.lv [0, 1] hK fun J j => ?_; clear hK K; simp; refine j _ ?_; clear j J
 refine W.dY (fun K hK => ?_)
 simp (disch := omega) [gA, wA]
 refine aD (iG a ha) ?_
 simp (disch := omega) [gA, wA]
 refine aD (iG b hb) ?_
 simp (disch := omega) [gA, wA]
 refine W.lv [0, 1] hK fun J j => ?_; clear hK K; simp; refine j _ ?_; clear j J
 have e : bL (a.map gv) (b.map gv) = bL (aN (a.map gv)) (aN (b.map gv)) := Cn.ext (Cn.bL _ _) (Cn.bL _ _) fun t => by simp [dB, cV]
 rw [e]
 replace hs := hs.cut
 replace uY := uY.cut
 clear e ha hb
 generalize aN (a.map gv) = x at *
 generalize aN (b.map gv) = y at *
 have hlx := hs.len; have hly := uY.len
 refine W.seq ?_
 refine W.gM (fun σ => ∃ (b : Bool), σ = ⟨fa [(0, Po x), (1, Po y), (21, .bool b)], fun _ => none, 0⟩ ∧ (b = true ↔ x = [] ∨ y = [])) (fun K hK => ?_) ?_
 ·simp
  have e1 : ((x.length : Int) == 0) = decide (x = []) := by
   cases x <;> simp <;> omega
  have e2 : ((y.length : Int) == 0) = decide (y = []) := by
   cases y <;> simp <;> omega
  rw [e1]
  by_cases h0 : x = []
  ·have e3 : decide (x = []) = true := by simp [h0]
   rw [e3]
   simp
   exact hK _ _ (aB _ [0, 1, 21]) ⟨_, rfl, by simp [h0]⟩
  ·have e3 : decide (x = []) = false := by simp [h0]
   rw [e3]
   simp
   exact hK _ _ (aB _ [0, 1, 21]) ⟨_, rfl, by rw [e2]; simp [h0]⟩
 rintro _ ⟨b, rfl, hb⟩
 refine W.cond ⟨_, rfl, fun h => ?_, fun h => ?_⟩
 ·have e : bL x y = [] := by
   have h1 := hb.1 h
   refine Cn.ext (Cn.bL _ _) Cn.nil fun t => ?_
   rw [dB]
   rcases h1 with rfl | rfl <;> simp [V]
  refine W.dY (fun K hK => ?_)
  simp (disch := omega) [gA, wA]
  refine W.lv [4] hK fun J j => ?_; clear hK K; simp; refine j _ ?_; clear j J
  refine W.ret ?_
  simp [go, e]
  rfl
 ·have h1 : ¬ (x = [] ∨ y = []) := fun h2 => by simp [hb.2 h2] at h
  have n9 : 0 < x.length := List.length_pos_iff.2 fun h2 => h1 (.inl h2)
  have P9 : 0 < y.length := List.length_pos_iff.2 fun h2 => h1 (.inr h2)
  clear h hb h1
  refine W.skip ?_
  refine W.dY (fun K hK => ?_)
  simp (disch := omega) [gA, wA]
  refine W.lv [0, 1, 5] hK fun J j => ?_; clear hK K; simp; refine j _ ?_; clear j J
  have e0 : ((x.length : Int) + (y.length : Int) - 1).toNat = x.length + y.length - 1 := by omega
  refine W.row (id := 28) (emap ie (List.replicate (x.length + y.length - 1) 0)) (by simp; exact ⟨rfl, rfl, rfl, by omega⟩) (qT _) ?_
  refine W.seq ?_
  refine W.dY (fun K hK => ?_)
  simp (disch := omega) [gA, wA]
  refine W.lv [1, 5, 29, 30, 31] hK fun J j => ?_; clear hK K; simp; refine j _ ?_; clear j J
  refine W.block ?_
  refine W.bC (fun k σ => ∃ (i : Nat) (z : List Int) (ver : Nat) (rows : Pm.Rows) (clk : Nat), σ = ⟨fa [(1, Po y), (5, .own 28 ver 0 (x.length + y.length - 1)), (29, Po x), (30, .int .i64 x.length), (31, .int .i64 i)], rows, clk⟩ ∧
   rows 28 = some ⟨ver, 38, 2, emap ie z⟩ ∧ k = x.length - i ∧ i ≤ x.length ∧ z.length = x.length + y.length - 1 ∧ (∀ j, sz LL (nth z j) ≤ s + s' + i) ∧
   ∀ t, V t z = V t (x.take i) * V t y) x.length ?_ ?_
  ·refine ⟨_, .refl, 0, List.replicate (x.length + y.length - 1) 0, _, _, _, rfl, by simp, by omega, by omega, by simp, fun j => ?_, fun t => by simp [V, pQ]⟩
   ·have : Bd LL 0 (x.length + y.length - 1) (List.replicate (x.length + y.length - 1) 0) := ⟨by simp, fun c hc => by rw [(List.mem_replicate.1 hc).2, jW]; omega⟩
    have := this.nth j
    omega
  rintro k _ ⟨i, z, ver, rows, clk, rfl, hr, hk, hi, hz, DW, hV⟩
  refine W.dY (fun K hK => ?_)
  simp (disch := omega) [gA, wA]
  refine W.lv [1, 5, 29, 30, 31, 32] hK fun J j => ?_; clear hK K; simp; refine j _ ?_; clear j J
  refine W.seq ?_
  refine W.cond ⟨_, rfl, fun h => ?_, fun h => ?_⟩
  ·simp at h
   refine W.skip ?_
   refine W.seq ?_
   refine W.block ?_
   refine W.dY (fun K hK => ?_)
   simp (disch := omega) [gA, wA]
   refine W.lv [1, 5, 6, 7, 29, 30, 31] hK fun J j => ?_; clear hK K; simp; refine j _ ?_; clear j J
   refine W.dY (fun K hK => ?_)
   simp (disch := omega) [gA, wA]
   refine W.lv [1, 5, 6, 7, 29, 30, 31, 36, 37, 38] hK fun J j => ?_; clear hK K; simp; refine j _ ?_; clear j J
   refine W.block ?_
   refine W.bC (fun m σ => ∃ (k : Nat) (z : List Int) (ver v7 : Nat) (rows : Pm.Rows) (clk : Nat), σ = ⟨fa [(1, Po y), (5, .own 28 ver 0 (x.length + y.length - 1)), (6, .int .i64 i), (7, .ptr 7 v7 0 0), (29, Po x), (30, .int .i64 x.length), (31, .int .i64 i), (36, Po y), (37, .int .i64 y.length), (38, .int .i64 k)], rows, clk⟩ ∧
    rows 28 = some ⟨ver, 38, 2, emap ie z⟩ ∧ rows 7 = some ⟨v7, 38, 2, [ie (nth x i)]⟩ ∧ m = y.length - k ∧ k ≤ y.length ∧ z.length = x.length + y.length - 1 ∧ (∀ j, sz LL (nth z j) ≤ s + s' + i + 1) ∧ (∀ j, i + k ≤ j → sz LL (nth z j) ≤ s + s' + i) ∧
    ∀ t, V t z = V t (x.take i) * V t y + t ^ i * nth x i * V t (y.take k)) y.length ?_ ?_
   ·refine ⟨_, .refl, 0, z, ver, _, _, _, rfl, by simpa using hr, by simp, by omega, by omega, hz, fun j => by have := DW j; omega, fun j _ => DW j, fun t => by simp [V, hV]⟩
   clear hV DW hz hr z ver rows clk
   rintro m _ ⟨k, z, ver, v7, rows, clk, rfl, hr, hr7, hm, hky, hz, DW, QB, hV⟩
   refine W.dY (fun K hK => ?_)
   simp (disch := omega) [gA, wA]
   refine W.lv [1, 5, 6, 7, 29, 30, 31, 36, 37, 38, 39] hK fun J j => ?_; clear hK K; simp; refine j _ ?_; clear j J
   refine W.seq ?_
   refine W.cond ⟨_, rfl, fun h2 => ?_, fun h2 => ?_⟩
   ·simp at h2
    refine W.skip ?_
    refine W.seq ?_
    refine W.block ?_
    refine W.dY (fun K hK => ?_)
    simp (disch := omega) [gA, wA]
    refine W.lv [1, 5, 6, 7, 8, 9, 29, 30, 31, 36, 37, 38] hK fun J j => ?_; clear hK K; simp; refine j _ ?_; clear j J
    have e1 : ((i : Int) + (k : Int)).toNat = i + k := by omega
    refine W.N7 (fun K hK => ?_)
    simp only [if_true]
    rw [eJ]
    simp (disch := omega) [gA, wA, hr, hr7, e1]
    refine aD (vI (Nat.lt_of_le_of_lt (hs.nth i) (by omega)) (Nat.lt_of_le_of_lt (uY.nth k) (by omega))) ?_
    simp (disch := omega) [gA, wA, hr, hr7, e1]
    have FO : sz LL (nth x i * nth y k) ≤ s + s' + i := Nat.le_trans (b9 fY (hs.nth i) (uY.nth k)) (by omega)
    have hm2 := n7 fY (QB (i + k) (Nat.le_refl _)) FO
    have hlz : i + k < z.length := by omega
    refine aD (TJ (Nat.lt_of_le_of_lt (QB (i + k) (Nat.le_refl _)) (by omega)) (Nat.lt_of_le_of_lt FO (by omega))) ?_
    simp (disch := omega) [gA, wA, hr, hr7, e1]
    refine W.lv [1, 5, 6, 7, 29, 30, 31, 36, 37, 38] hK fun J j => ?_; clear hK K; simp; refine j _ ?_; clear j J
    refine W.b8 (fun K hK => ?_)
    simp (disch := omega) [gA, wA]
    refine hK _ ⟨y.length - (k + 1), _, aB _ [1, 5, 6, 7, 29, 30, 31, 36, 37, 38], by omega, k + 1, z.set (i + k) (nth z (i + k) + nth x i * nth y k), ver, v7, _, _, rfl, by simp, by simp [hr7], by omega, by omega, by simpa using hz, fun j => ?_, fun j hj => ?_, fun t => ?_⟩
    ·by_cases hj : i + k = j
     ·subst hj; rw [eK hlz]; exact hm2
     ·rw [gG hj]; exact DW j
    ·rw [gG (by omega)]; exact QB j (by omega)
    ·rw [FJ hlz, aT h2, hV, Int.pow_add]; grind
   ·simp at h2
    have wO : k = y.length := by omega
    subst wO
    refine W.exit ?_; simp only [pX, if_true, if_false, reduceIte, Nat.reduceEqDiff]
    refine W.b8 (fun K hK => ?_)
    simp (disch := omega) [gA, wA]
    refine hK _ ⟨x.length - (i + 1), _, aB _ [1, 5, 29, 30, 31], by omega, i + 1, z, ver, _, _, rfl, hr, by omega, by omega, hz, fun j => by have := DW j; omega, fun t => ?_⟩
    rw [hV, aZ (Nat.le_refl _), aT h]; grind
  ·simp at h
   have l6 : i = x.length := by omega
   subst l6
   refine W.exit ?_; simp only [pX, if_true, if_false, reduceIte, Nat.reduceEqDiff]
   have wT := bJ hz
   refine W.dY (fun K hK => ?_)
   simp (disch := omega) [gA, wA, hr, wT]
   refine aD (vH z (by omega)) ?_
   simp (disch := omega) [gA, wA]
   refine W.lv [4] hK fun J j => ?_; clear hK K; simp; refine j _ ?_; clear j J
   refine W.ret ?_
   have e : aN z = bL x y := by
    refine Cn.ext (Cn.cut _) (Cn.bL _ _) fun t => ?_
    rw [cV, hV, dB, aZ (Nat.le_refl _)]
   simp [go, e]
theorem avL {S : ByteArray} {kk : IntKind} {k : Nat} {K : PV → Prop} (h : (List.range 256).all (fun x => decide ((S[x]?).map (fun b => b.toNat) = some (nb x))) = true) (hk : k < 256) (hK : go (K (.int .u8 (nb k)))) : aV (fun v => tI .str (.str S) (.int kk (k : Int)) v) K := by
 have h1 := List.all_eq_true.1 h k (by simpa using hk)
 simp only [decide_eq_true_eq] at h1
 obtain ⟨b, hb, h2⟩ := Option.map_eq_some_iff.1 h1
 refine ⟨_, ⟨by omega, b, by simpa using hb, rfl⟩, ?_⟩
 rw [h2]; exact hK
theorem FP (n : Int) (h0 : 0 ≤ n) (h1 : n < 4294967296) : aG env.P 258 [.int .u32 n] (.int .i64 (nb n.toNat)) := by
 refine cT (E := env) (fun _ => 0) [(0, .int .u32 n)] Tryz.func258 rfl (by kernel_rfl) (by kernel_rfl) (show 1 ≤ 19 by decide) (by simp) ?_
 refine W.dY (fun K hK => ?_)
 simp (disch := omega) [gA, wA]
 refine W.lv [0, 2] hK fun J j => ?_; clear hK K; simp; refine j _ ?_; clear j J
 refine W.gS (fun σ => ∃ (k : Nat) (x : Nat) (rows : Pm.Rows) (clk : Nat), σ = ⟨fa [(0, .int .u32 x), (2, .int .i64 k)], rows, clk⟩ ∧ nb n.toNat = k + nb x ∧ x < 65536 ∧ k ≤ 16) ?_ ?_
 ·
  refine W.dY (fun K hK => ?_)
  simp (disch := omega) [gA, wA]
  refine W.lv [0, 2, 4] hK fun J j => ?_; clear hK K; simp; refine j _ ?_; clear j J
  refine W.cond ⟨_, rfl, fun h => ?_, fun h => ?_⟩
  ·simp at h
   refine W.dY (fun K hK => ?_)
   simp (disch := omega) [gA, wA]
   refine W.lv [0] hK fun J j => ?_; clear hK K; simp; refine j _ ?_; clear j J
   refine W.b8 (fun K hK => ?_)
   simp (disch := omega) [gA, wA]
   refine hK _ ⟨_, Gh.fr [(0, .int .u32 ((n.toNat / 65536 : Nat) : Int)), (2, .int .i64 16)] (by simp; rw [Int.fdiv_eq_ediv_of_nonneg _ (by decide)]; omega), 16, n.toNat / 65536, _, _, rfl, ?_, by omega, by omega⟩
   exact K7 (k := 16) (by simp; omega)
  ·simp at h
   refine W.skip ?_
   refine ⟨_, Gh.fr [(0, .int .u32 (n.toNat : Int)), (2, .int .i64 0)] (by simp; omega), 0, n.toNat, _, _, rfl, by simp, by omega, by omega⟩
 rintro _ ⟨k, x, rows, clk, rfl, hn, hx, hk⟩
 refine W.gS (fun σ => ∃ (k : Nat) (x : Nat) (rows : Pm.Rows) (clk : Nat), σ = ⟨fa [(0, .int .u32 x), (2, .int .i64 k)], rows, clk⟩ ∧ nb n.toNat = k + nb x ∧ x < 256 ∧ k ≤ 24) ?_ ?_
 ·
  refine W.dY (fun K hK => ?_)
  simp (disch := omega) [gA, wA]
  refine W.lv [0, 2, 8] hK fun J j => ?_; clear hK K; simp; refine j _ ?_; clear j J
  refine W.cond ⟨_, rfl, fun h => ?_, fun h => ?_⟩
  ·simp at h
   refine W.dY (fun K hK => ?_)
   simp (disch := omega) [gA, wA]
   refine W.lv [0, 2] hK fun J j => ?_; clear hK K; simp; refine j _ ?_; clear j J
   refine W.b8 (fun K hK => ?_)
   simp (disch := omega) [gA, wA]
   refine hK _ ⟨_, Gh.fr [(0, .int .u32 ((x / 256 : Nat) : Int)), (2, .int .i64 ((k + 8 : Nat) : Int))] (by simp; exact Int.fdiv_eq_ediv_of_nonneg _ (by decide)), k + 8, x / 256, _, _, rfl, ?_, by omega, by omega⟩
   have := K7 (n := x) (k := 8) (by simp; omega)
   simp at this
   omega
  ·simp at h
   refine W.skip ?_
   refine ⟨_, aB _ [0, 2], k, x, _, _, rfl, hn, by omega, by omega⟩
 rintro _ ⟨k, x, rows, clk, rfl, hn, hx, hk⟩
 refine W.dY (fun K hK => ?_)
 have hw : IntKind.u8.wrap (x : Int) = x := wrap_u8 (by omega) (by omega)
 have hz : nb x ≤ 8 := nG.2 hx
 simp only [TA, HH, TB, WM, PW, BA, HA, O6, if_true, if_false, reduceIte, Nat.reduceEqDiff, akY, aqN, sU, ahC, hw, KY, reduceCtorEq]
 refine avL (by kernel_rfl) hx ?_
 simp (disch := omega) only [HH, aaE, FG, aaU, TB, BA, HA, O6, if_true, if_false, reduceIte, Nat.reduceEqDiff, avk, aqN, sU, ahC, wrap_i64, GR, i9, aeN, reduceCtorEq, true_and]
 refine W.lv [2] hK fun J j => ?_; clear hK K; simp; refine j _ ?_; clear j J
 refine W.ret ?_
 rw [hn]
 simp [go]
def bl (l : List Int) : Int := if l = [] then 0 else 32 * ((l.length : Int) - 1) + nb (nth l (l.length - 1)).toNat
theorem LC (l : List Int) (h : rX l) : aG env.P 237 [us l] (.int .i64 (bl (aN l))) := by
 refine cT (E := env) (fun _ => 0) [(0, us l)] Tryz.func237 rfl (by kernel_rfl) (by kernel_rfl) (show 1 ≤ 20 by decide) (by simp) ?_
 have hl := h.len
 have JV := bP l
 have hL := eA h.yP
 refine W.dY (fun K hK => ?_)
 simp (disch := omega) [gA, wA]
 refine W.lv [0] hK fun J j => ?_; clear hK K; simp; refine j _ ?_; clear j J
 refine W.dY (fun K hK => ?_)
 simp (disch := omega) [gA, wA]
 refine aD (dI l (by omega)) ?_
 simp (disch := omega) [gA, wA]
 refine W.lv [0] hK fun J j => ?_; clear hK K; simp; refine j _ ?_; clear j J
 generalize aN l = x at *
 refine W.seq ?_
 refine W.dY (fun K hK => ?_)
 simp (disch := omega) [gA, wA]
 refine W.lv [0, 7] hK fun J j => ?_; clear hK K; simp; refine j _ ?_; clear j J
 refine W.cond ⟨_, rfl, fun h => ?_, fun h => ?_⟩
 ·have h0 : x = [] := by simpa using h
  refine W.dY (fun K hK => ?_)
  simp (disch := omega) [gA, wA]
  refine W.lv [2] hK fun J j => ?_; clear hK K; simp; refine j _ ?_; clear j J
  refine W.ret ?_
  simp [go, bl, h0]
 ·have h0 : 0 < x.length := List.length_pos_iff.2 (by simpa using h)
  have hx := hL.nth (i := x.length - 1) (by omega)
  have e : ((x.length : Int) - 1).toNat = x.length - 1 := by omega
  have hz : nb (nth x (x.length - 1)).toNat ≤ 32 := nG.2 (by omega)
  refine W.skip ?_
  refine W.dY (fun K hK => ?_)
  simp (disch := omega) [gA, wA, e]
  refine aD (FP _ hx.1 hx.2) ?_
  simp (disch := omega) [gA, wA]
  refine W.lv [2] hK fun J j => ?_; clear hK K; simp; refine j _ ?_; clear j J
  refine W.ret ?_
  have h1 : x ≠ [] := fun h2 => by simp [h2] at h0
  simp [go, bl, h1]
theorem afp {l : List Int} (h : cR 4294967296 l) (hc : aN l = l) : bl l = 0 ↔ V 4294967296 l = 0 := by
 unfold bl
 split
 ·rename_i h0; subst h0; simp [V]
 ·rename_i h0
  have h1 := kJ (by decide) h hc h0
  have h2 : 0 < (4294967296 : Int) ^ (l.length - 1) := Int.pow_pos (by decide)
  have h3 : 0 < l.length := List.length_pos_iff.2 h0
  have h4 := h.nth (i := l.length - 1) (by omega)
  have h5 : nth l (l.length - 1) ≠ 0 := by
   intro h6
   have e : l = l.take (l.length - 1) ++ [0] := by
    conv => lhs; rw [← List.take_length (l := l)]
    rw [← h6, ← bA (by omega), show l.length - 1 + 1 = l.length by omega]
   rw [e, jB] at hc
   have := congrArg List.length hc
   have := bP (l.take (l.length - 1))
   simp at *
   omega
  have h6 : nb (nth l (l.length - 1)).toNat ≠ 0 := by
   intro h7
   have := nG.1 (Nat.le_of_eq h7)
   simp at this; omega
  omega
theorem LD (n : Bool) (l : List Int) (h : rX l) : aG env.P 223 [IV n l] (.int .i64 (iv n l).sign) := by
 refine cT (E := env) (fun _ => 0) [(0, IV n l)] Tryz.func223 rfl (by kernel_rfl) (by kernel_rfl) (show 1 ≤ 11 by decide) (by simp) ?_
 have hz := afp (eA h.yP) (eC l)
 have hp := pR h
 rw [cV] at hz
 refine W.dY (fun K hK => ?_)
 simp (disch := omega) [gA, wA]
 refine W.lv [1] hK fun J j => ?_; clear hK K; simp; refine j _ ?_; clear j J
 refine W.seq ?_
 refine W.block ?_
 refine W.dY (fun K hK => ?_)
 simp (disch := omega) [gA, wA]
 refine aD (LC l h) ?_
 simp (disch := omega) [gA, wA]
 refine W.lv [1, 3] hK fun J j => ?_; clear hK K; simp; refine j _ ?_; clear j J
 refine W.cond ⟨_, rfl, fun hb => ?_, fun hb => ?_⟩
 ·have h0 : V 4294967296 l = 0 := hz.1 (by simpa using hb)
  refine W.dY (fun K hK => ?_)
  simp (disch := omega) [gA, wA]
  refine W.lv [2] hK fun J j => ?_; clear hK K; simp; refine j _ ?_; clear j J
  refine W.ret ?_
  simp [go, iv, h0]
 ·have h0 : 0 < V 4294967296 l := by
   have : V 4294967296 l ≠ 0 := fun h1 => by simp [hz.2 h1] at hb
   omega
  refine W.dY (fun K hK => ?_)
  simp (disch := omega) [gA, wA]
  refine W.lv [8] hK fun J j => ?_; clear hK K; simp; refine j _ ?_; clear j J
  refine W.cond ⟨_, rfl, fun hn => ?_, fun hn => ?_⟩
  ·subst hn
   refine W.dY (fun K hK => ?_)
   simp (disch := omega) [gA, wA]
   refine W.lv [2] hK fun J j => ?_; clear hK K; simp; refine j _ ?_; clear j J
   refine W.ret ?_
   have : (- V 4294967296 l).sign = -1 := Int.sign_eq_neg_one_of_neg (by omega)
   simp [go, iv, this]
  ·subst hn
   refine W.skip ?_
   refine W.dY (fun K hK => ?_)
   simp (disch := omega) [gA, wA]
   refine W.lv [2] hK fun J j => ?_; clear hK K; simp; refine j _ ?_; clear j J
   refine W.ret ?_
   have : (V 4294967296 l).sign = 1 := Int.sign_eq_one_of_pos h0
   simp [go, iv, this]
theorem WU {x y : Int} (h : x.sign < y.sign) : dQ x y = -1 := by
 apply nD
 rcases Int.lt_trichotomy x 0 with h1 | h1 | h1 <;> rcases Int.lt_trichotomy y 0 with h2 | h2 | h2 <;> first | omega | (simp [Int.sign_eq_neg_one_of_neg, Int.sign_eq_one_of_pos, h1, h2] at h)
theorem QC {x y : Int} (h : y.sign < x.sign) : dQ x y = 1 := by
 apply nE
 rcases Int.lt_trichotomy x 0 with h1 | h1 | h1 <;> rcases Int.lt_trichotomy y 0 with h2 | h2 | h2 <;> first | omega | (simp [Int.sign_eq_neg_one_of_neg, Int.sign_eq_one_of_pos, h1, h2] at h)
theorem HY (x y : Int) : dQ (-x) (-y) = dQ y x := by simp only [dQ]; split <;> split <;> (try split) <;> (try split) <;> omega
theorem abm (n m : Bool) (l k : List Int) (h : rX l) (h' : rX k) : aG env.P 159 [IV n l, IV m k] (.int .i64 (dQ (iv n l) (iv m k))) := by
 refine cT (E := env) (fun _ => 0) [(0, IV n l), (1, IV m k)] Tryz.func159 rfl (by kernel_rfl) (by kernel_rfl) (show 2 ≤ 32 by decide) (by simp) ?_
 have p1 := pR h; have p2 := pR h'
 refine W.dY (fun K hK => ?_)
 simp (disch := omega) [gA, wA]
 refine W.lv [2, 3] hK fun J j => ?_; clear hK K; simp; refine j _ ?_; clear j J
 refine W.aeR (fun K hK => ?_)
 simp (disch := omega) [gA, wA]
 refine aD (LD n l h) ?_
 simp (disch := omega) [gA, wA]
 refine aD (LD m k h') ?_
 simp (disch := omega) [gA, wA]
 refine W.lv [2, 3, 5, 6] hK fun J j => ?_; clear hK K; simp; refine j _ ?_; clear j J
 refine W.seq ?_
 refine W.block ?_
 refine W.dY (fun K hK => ?_)
 simp (disch := omega) [gA, wA]
 refine W.lv [2, 3, 5, 6, 11] hK fun J j => ?_; clear hK K; simp; refine j _ ?_; clear j J
 refine W.cond ⟨_, rfl, fun h1 => ?_, fun h1 => ?_⟩
 ·refine W.dY (fun K hK => ?_)
  simp (disch := omega) [gA, wA]
  refine W.lv [4] hK fun J j => ?_; clear hK K; simp; refine j _ ?_; clear j J
  refine W.ret ?_
  simp [go, WU (of_decide_eq_true h1)]
 ·have h1 := of_decide_eq_false h1
  refine W.dY (fun K hK => ?_)
  simp (disch := omega) [gA, wA]
  refine W.lv [2, 3, 5, 15] hK fun J j => ?_; clear hK K; simp; refine j _ ?_; clear j J
  refine W.cond ⟨_, rfl, fun h2 => ?_, fun h2 => ?_⟩
  ·refine W.dY (fun K hK => ?_)
   simp (disch := omega) [gA, wA]
   refine W.lv [4] hK fun J j => ?_; clear hK K; simp; refine j _ ?_; clear j J
   refine W.ret ?_
   simp [go, QC (of_decide_eq_true h2)]
  ·have h2 := of_decide_eq_false h2
   have h3 : (iv n l).sign = (iv m k).sign := by omega
   refine W.dY (fun K hK => ?_)
   simp (disch := omega) [gA, wA]
   refine W.lv [2, 3, 19] hK fun J j => ?_; clear hK K; simp; refine j _ ?_; clear j J
   refine W.cond ⟨_, rfl, fun h4 => ?_, fun h4 => ?_⟩
   ·have h4 : iv n l < 0 := by simpa using of_decide_eq_true h4
    have h5 : iv m k < 0 := by
     rw [Int.sign_eq_neg_one_of_neg h4] at h3
     exact Int.sign_eq_neg_one_iff_neg.1 h3.symm
    have en : n = true := by cases n; (· simp [iv] at h4; omega); rfl
    have em : m = true := by cases m; (· simp [iv] at h5; omega); rfl
    subst en; subst em
    refine W.dY (fun K hK => ?_)
    simp (disch := omega) [gA, wA]
    refine aD (HU k l h'.len h.len h'.yP h.yP) ?_
    simp (disch := omega) [gA, wA]
    refine W.lv [4] hK fun J j => ?_; clear hK K; simp; refine j _ ?_; clear j J
    refine W.ret ?_
    simp [go, iv, HY]
   ·have h4 : 0 ≤ iv n l := by simpa using of_decide_eq_false h4
    have e1 : iv n l = V 4294967296 l := by
     cases n
     ·simp [iv]
     ·simp [iv] at h4 ⊢; omega
    have h5 : 0 ≤ iv m k := by
     have : 0 ≤ (iv n l).sign := Int.sign_nonneg_iff.2 h4
     rw [h3] at this
     exact Int.sign_nonneg_iff.1 this
    have e2 : iv m k = V 4294967296 k := by
     cases m
     ·simp [iv]
     ·simp [iv] at h5 ⊢; omega
    refine W.skip ?_
    refine W.dY (fun K hK => ?_)
    simp (disch := omega) [gA, wA]
    refine aD (HU l k h.len h'.len h.yP h'.yP) ?_
    simp (disch := omega) [gA, wA]
    refine W.lv [4] hK fun J j => ?_; clear hK K; simp; refine j _ ?_; clear j J
    refine W.ret ?_
    simp [go, e1, e2]
theorem abn {x y : Int} (hx : Sz x) (hy : Sz y) : aG env.P 159 [I x, I y] (.int .i64 (dQ x y)) := by
 have := abm (decide (x < 0)) (decide (y < 0)) (aS LL x.natAbs) (aS LL y.natAbs) hx.Y8 hy.Y8
 rwa [BT, BT] at this
end Go.Proofs.YtelhfbikiccfkaaGreat
namespace Pm
open Go Go.RowKit Go.ChangeShapes Go.WideShapes Go.Deep
def Low (w : World) : dW := fun b _ => b < w.heap.size
theorem LF {w : World} {a : Addr} {v : Value} (h : w.cell? a = some v) : a.block < w.heap.size ∧ a.spot = none := by
 unfold World.cell? at h
 split at h
 ·rename_i hb
  refine ⟨?_, ?_⟩
  ·exact (Array.getElem?_eq_some_iff.1 hb).1
  ·split at h
   ·cases h
   ·rename_i hs; simpa using hs
 ·cases h
def DX (P : Program) (t : TypeId) (R : List PV → Prop) : Prop :=
 ∀ (H : Type) (enc : TypeId × Value → H) (w : World) (fuel : Nat) (cs : List Value) (x : DataW H × List MemPlace),
  DataW.trod enc P w 0 (fun _ => true) true fuel t cs = some x → ∃ ps, R ps ∧ bM (Low w) w ps cs ∧ ∀ v ∈ cs, v.oneCell' = true
theorem bM.length {S : dW} {w : World} : ∀ {ps : List PV} {vs : List Value}, bM S w ps vs → ps.length = vs.length
 | [], vs, h => by simp only [bM] at h; simp [h]
 | p :: ps, vs, h => by
  simp only [bM] at h
  obtain ⟨v, VN, rfl, _, h2⟩ := h
  simp [bM.length h2]
theorem DX.int {P : Program} {t : TypeId} (k : IntKind) (ht : P.underlying t = some (.int k)) : DX P t (fun ps => ∃ n, ps = [.int k n] ∧ k.min ≤ n ∧ n ≤ k.max) := by
 intro H enc w fuel cs x h
 obtain ⟨n, rfl, _, hw⟩ := DataW.trod_int ht h
 simp only [Lit.wf, Bool.and_eq_true, decide_eq_true_eq] at hw
 exact ⟨[.int k n], ⟨n, rfl, hw⟩, ⟨_, _, rfl, by simp [c9], rfl⟩, by simp [Value.oneCell']⟩
theorem DX.bool {P : Program} {t : TypeId} (ht : P.underlying t = some .bool) : DX P t (fun ps => ∃ b, ps = [.bool b]) := by
 intro H enc w fuel cs x h
 obtain ⟨n, rfl, _⟩ := DataW.trod_bool ht h
 exact ⟨[.bool n], ⟨n, rfl⟩, ⟨_, _, rfl, by simp [c9], rfl⟩, by simp [Value.oneCell']⟩
theorem vJ {w : World} {b : Nat} : ∀ {ps : List PV} {vs : List Value} {o : Nat}, bM (Low w) w ps vs → (∀ v ∈ vs, v.oneCell' = true) → (∀ i, i < vs.length → w.cell? ⟨b, o + i, none⟩ = vs[i]?) → dA (Low w) w b o ps
 | [], _, _, _, _, _ => by simp [dA]
 | p :: ps, vs, o, h, h1, h2 => by
  simp only [bM] at h
  obtain ⟨v, VN, rfl, h3, h4⟩ := h
  have hc : w.cell? ⟨b, o, none⟩ = some v := by simpa using h2 0 (by simp)
  simp only [dA]
  refine ⟨⟨v, hc, (LF hc).1, h1 v (by simp), h3⟩, vJ h4 (fun u hu => h1 u (by simp [hu])) fun i hi => ?_⟩
  have := h2 (i + 1) (by simpa using hi)
  simpa [Nat.add_assoc, Nat.add_comm 1] using this
theorem BU {w : World} {b c : Nat} {f : Nat → List PV} : ∀ (n o k : Nat), (∀ i, k ≤ i → i < k + n → dA (Low w) w b (o + (i - k) * c) (f i) ∧ (f i).length = c) → fI (Low w) w b o ((List.range' k n).map f)
 | 0, o, k, _ => by simp [fI]
 | n + 1, o, k, h => by
  obtain ⟨h1, h2⟩ := h k (Nat.le_refl _) (by omega)
  simp only [List.range'_succ, List.map_cons, fI]
  refine ⟨by simpa using h1, BU (c := c) n _ _ fun i hi GS => ?_⟩
  obtain ⟨h3, h4⟩ := h i (by omega) (by omega)
  refine ⟨?_, h4⟩
  rw [h2]
  have e : o + c + (i - (k + 1)) * c = o + (i - k) * c := by
   have : i - k = (i - (k + 1)) + 1 := by omega
   rw [this, Nat.add_mul]; omega
  rw [e]; exact h3
theorem DX.slice {P : Program} {t e : TypeId} {R : List PV → Prop} (ht : P.underlying t = some (.slice e)) (xC : 0 < P.cellsOf e) (he : DX P e R) : DX P t (fun ps => ∃ l : List (List PV), ps = [.sl l] ∧ (∀ x ∈ l, R x) ∧ l.length ≤ maxLen) := by
 intro H enc w fuel cs x h
 rcases open_slice ht h with ⟨rfl, _⟩ | ⟨a, len, cap, m, n, D, Pl, rfl, _, hl, hm, hmm, _, hx⟩
 ·refine ⟨[.sl []], ⟨[], rfl, by simp, by simp⟩, ⟨_, _, rfl, ?_, rfl⟩, by simp [Value.oneCell']⟩
  simp only [c9]
  exact ⟨none, 0, rfl, by simp, by simp, .inl trivial⟩
 ·have hlm : len ≤ m := by rw [hmm]; split <;> omega
  have each : ∀ i, i < len → ∃ ps : List PV, R ps ∧ ps.length = P.cellsOf e ∧ ∃ cs', w.cells? 0 (a.add (i * P.cellsOf e)) (P.cellsOf e) = some cs' ∧ bM (Low w) w ps cs' ∧ ∀ v ∈ cs', v.oneCell' = true := by
   intro i hi
   obtain ⟨cs', h1, h2⟩ := hx i (by omega)
   obtain ⟨ps, h3, h4, h5⟩ := he H enc w _ _ _ h2
   refine ⟨ps, h3, ?_, cs', h1, h4, h5⟩
   rw [h4.length]; exact (World.cells?_some h1).2.1
  obtain ⟨f, hf⟩ := choose_lt each
  refine ⟨[.sl ((List.range' 0 len).map f)], ⟨_, rfl, ?_, by simp; omega⟩, ⟨_, _, rfl, ?_, rfl⟩, by simp [Value.oneCell']⟩
  ·intro y hy
   simp only [List.mem_map, List.mem_range'_1] at hy
   obtain ⟨i, hi, rfl⟩ := hy
   exact (hf i (by omega)).1
  ·simp only [c9]
   refine ⟨some a, cap, by simp, by simpa using hl, hm, ?_⟩
   by_cases h0 : len = 0
   ·left; simp [h0]
   right
   have hsp : a.spot = none := by
    obtain ⟨_, _, cs', h3, _, _⟩ := hf 0 (by omega)
    obtain ⟨_, h4, h5⟩ := World.cells?_some h3
    have h6 := h5 0 (by omega)
    rw [List.getElem?_eq_getElem (by omega)] at h6
    have h7 := (LF h6).2
    simpa [Addr.add] using h7
   obtain ⟨b, o, sp⟩ := a
   simp only at hsp
   subst hsp
   refine ⟨b, o, rfl, BU (c := P.cellsOf e) len o 0 fun i _ hi => ?_⟩
   obtain ⟨_, h2, cs', h3, h4, h5⟩ := hf i (by omega)
   obtain ⟨_, h6, h7⟩ := World.cells?_some h3
   refine ⟨vJ h4 h5 fun j hj => ?_, h2⟩
   rw [← h7 j (by omega), add_plain, add_plain]
   simp
theorem DX.mono {P : Program} {t : TypeId} {R R' : List PV → Prop} (h : DX P t R) (hR : ∀ ps, R ps → R' ps) : DX P t R' := fun H enc w fuel cs x hx => by
 obtain ⟨ps, h1, h2⟩ := h H enc w fuel cs x hx
 exact ⟨ps, hR _ h1, h2⟩
def pA (P : Program) (t : TypeId) (Q : PV → Prop) : Prop :=
 ∀ (H : Type) (enc : TypeId × Value → H) (w : World) (base : Nat) (v : Value) (d : DataW H) (p : List MemPlace),
  Value.okWide P w .any base t v → DataW.Trod enc P w 0 (fun _ => true) true t v d p → ∃ q, Q q ∧ c9 (Low w) w q v
theorem DX.one {P : Program} {t : TypeId} {R : List PV → Prop} (h : DX P t R) (hs : ∀ w base v, Value.okWide P w .any base t v → v.cells = #[v]) : pA P t (fun q => R [q]) := by
 intro H enc w base v d p gK ⟨fuel, hf⟩
 obtain ⟨ps, h1, h2, _⟩ := h _ _ _ _ _ _ hf
 rw [hs _ _ _ gK] at h2
 have hl := h2.length
 match ps, hl with
 | [q], _ =>
  simp only [bM] at h2
  obtain ⟨v', VN, h3, h4, _⟩ := h2
  cases h3
  exact ⟨q, h1, h4⟩
theorem pA.int {P : Program} {t : TypeId} (k : IntKind) (ht : P.underlying t = some (.int k)) : pA P t (fun q => ∃ n, q = .int k n ∧ k.min ≤ n ∧ n ≤ k.max) := by
 have := (DX.int k ht).one fun w base v h => by obtain ⟨n, rfl⟩ := okWide_int ht h; rfl
 intro H enc w base v d p h1 h2
 obtain ⟨q, ⟨n, h3, h4⟩, h5⟩ := this H enc w base v d p h1 h2
 exact ⟨q, ⟨n, by simpa using h3, h4⟩, h5⟩
theorem pA.bool {P : Program} {t : TypeId} (ht : P.underlying t = some .bool) : pA P t (fun q => ∃ b, q = .bool b) := by
 have := (DX.bool ht).one fun w base v h => by obtain ⟨n, rfl⟩ := okWide_bool ht h; rfl
 intro H enc w base v d p h1 h2
 obtain ⟨q, ⟨n, h3⟩, h5⟩ := this H enc w base v d p h1 h2
 exact ⟨q, ⟨n, by simpa using h3⟩, h5⟩
theorem pA.slice {P : Program} {t e : TypeId} {R : List PV → Prop} (ht : P.underlying t = some (.slice e)) (xC : 0 < P.cellsOf e) (he : DX P e R) : pA P t (fun q => ∃ l : List (List PV), q = .sl l ∧ (∀ x ∈ l, R x) ∧ l.length ≤ maxLen) := by
 have := (DX.slice ht xC he).one fun w base v h => by obtain ⟨a, len, cap, rfl⟩ := okWide_slice ht h; rfl
 intro H enc w base v d p h1 h2
 obtain ⟨q, ⟨n, h3, h4⟩, h5⟩ := this H enc w base v d p h1 h2
 exact ⟨q, ⟨n, by simpa using h3, h4⟩, h5⟩
theorem pA.mono {P : Program} {t : TypeId} {Q Q' : PV → Prop} (h : pA P t Q) (hQ : ∀ q, Q q → Q' q) : pA P t Q' := fun H enc w base v d p h1 h2 => by
 obtain ⟨q, h3, h4⟩ := h H enc w base v d p h1 h2
 exact ⟨q, hQ _ h3, h4⟩
def LG (P : Program) : List TypeId → List (PV → Prop) → Prop
 | [], [] => True
 | t :: ts, Q :: Qs => pA P t Q ∧ P.readableRec t = true ∧ t < P.types.size ∧ LG P ts Qs
 | _, _ => False
def ak7 : List (PV → Prop) → List PV → Prop
 | [], ps => ps = []
 | Q :: Qs, ps => ∃ q qs, ps = q :: qs ∧ Q q ∧ ak7 Qs qs
theorem LH {P : Program} {H : Type} {enc : TypeId × Value → H} {w : World} {base : Nat} : ∀ {ts : List TypeId} {Qs : List (PV → Prop)} {vs : List Value} {ds : List (DataW H)} {p : List MemPlace}, LG P ts Qs →
  (∀ (j : Nat) t v, ts[j]? = some t → vs[j]? = some v → Value.okWide P w .any base t v) → DataW.TrodAll enc P w 0 (fun _ => true) true ts vs ds p → ∃ ps, ak7 Qs ps ∧ bM (Low w) w ps vs
 | [], [], vs, ds, p, _, _, h => by
  obtain ⟨rfl, _⟩ := trodAll_nil h
  exact ⟨[], rfl, rfl⟩
 | t :: ts, Q :: Qs, vs, ds, p, hA, gK, h => by
  obtain ⟨v, VN, d, ds', p1, q1, rfl, rfl, rfl, h1, h2⟩ := trodAll_cons h
  obtain ⟨hO, _, _, hA'⟩ := hA
  obtain ⟨q, h3, h4⟩ := hO _ _ _ base _ _ _ (gK 0 t v rfl rfl) h1
  obtain ⟨ps, h5, h6⟩ := LH hA' (fun j t' v' hj hv => gK (j + 1) t' v' (by simpa using hj) (by simpa using hv)) h2
  exact ⟨q :: ps, ⟨q, ps, rfl, h3, h5⟩, ⟨v, VN, rfl, h4, h6⟩⟩
 | [], _ :: _, _, _, _, h, _, _ => by simp [LG] at h
 | _ :: _, [], _, _, _, h, _, _ => by simp [LG] at h
theorem FQ {P : Program} (hl : laidOutB P = true) {H : Type} {enc : TypeId × Value → H} {w w' : World} (hb : Below w.heap.size w w') : ∀ {ts : List TypeId} {Qs : List (PV → Prop)} {vs : List Value} {ds : List (DataW H)} {p : List MemPlace}, LG P ts Qs → (∀ x ∈ p, x.block < w.heap.size) →
  DataW.TrodAll enc P w 0 (fun _ => true) true ts vs ds p → DataW.TrodAll enc P w' 0 (fun b => decide (b < w.heap.size)) true ts vs ds p
 | [], [], vs, ds, p, _, _, h => by
  obtain ⟨rfl, rfl, rfl⟩ := trodAll_nil h
  exact trodAll_mk0
 | t :: ts, Q :: Qs, vs, ds, p, hA, cW, h => by
  obtain ⟨v, VN, d, ds', p1, q1, rfl, rfl, rfl, h1, h2⟩ := trodAll_cons h
  obtain ⟨_, h3, h4, hA'⟩ := hA
  exact ⟨p1, q1, Below.trod hl h3 h4 h1 hb (fun x hx => cW x (by simp [hx])), FQ hl hb hA' (fun x hx => cW x (by simp [hx])) h2, rfl⟩
 | [], _ :: _, _, _, _, h, _, _ => by simp [LG] at h
 | _ :: _, [], _, _, _, h, _, _ => by simp [LG] at h
theorem BV {C : Checked} {f : FuncId} {fn : Func} {s : ChangeSpec} {Qs : List (PV → Prop)} {os : Os} {H : Type} {enc : TypeId × Value → H} {tb : TypeId}
  (own : ownKnob C.prog.godebug = none) (hl : laidOutB C.prog = true) (started : os.Started) (ak8 : C.prog.inits.idxOf? f = none) (hfn : C.prog.funcs[f]? = some fn)
  (witness : ∃ (w : World) (tape : Tape) (i : Input), w.os = os ∧ (w.forCall tape i).Shaped C.prog ∧ i.vars = [] ∧ Input.okWide C.prog (w.forCall tape i) .any w.heap.size f i ∧
   s.pre6 enc C.prog fn [] false (w.forCall tape i).memory i.args ∧ ({} : Assume).holds C.prog (lone (Frame.enter C.prog f i.args .normal) [] (w.forCall tape i)))
  (hv : s.vars = []) (hs : ∀ ds : List (DataW H), ds.length = fn.params.size → s.fn H ds = { results := [.lit (.bool true)], args := ds })
  (BW : fn.resultTypes = #[tb]) (htb : C.prog.underlying tb = some .bool)
  (hA : LG C.prog fn.params.toList Qs) (h : ∀ ps, ak7 Qs ps → aG C.prog f ps (.bool true)) :
  ReturnsInHanded {} C os f .any (s.pre6 enc C.prog fn [] false) (s.post enc C.prog fn false true false false) := by
 refine returnsInHanded_of_change own started ak8 hfn witness ?_
 intro W base args ds gs before avM hW _ _
 have hW' := hW
 obtain ⟨p, q, hT, hV, rfl, _, _⟩ := hW
 rw [hv] at hV
 obtain ⟨rfl, rfl⟩ := trodVars_none hV
 obtain ⟨ps, h1, h2⟩ := LH (base := base) hA (fun j t v hj hv => avM j t v (by simpa using hj) (by simpa using hv)) hT
 obtain ⟨_, qH⟩ := h ps h1
 have h3 := qH W (Low W) args.toList (fun b o hb => hb) h2
 refine Calls.mono h3 fun e w' hw => ?_
 obtain ⟨v, rfl, VS, S', _, _, gE⟩ := hw
 simp only [c9] at gE
 subst gE
 refine ⟨_, rfl, ?_⟩
 have hlen : ds.length = fn.params.size := by
  have : ∀ {ts : List TypeId} {vs : List Value} {ds : List (DataW H)} {p : List MemPlace}, DataW.TrodAll enc C.prog W 0 (fun _ => true) true ts vs ds p → ds.length = ts.length := by
   intro ts
   induction ts with
   | nil => intro vs ds p h; obtain ⟨_, rfl, _⟩ := trodAll_nil h; rfl
   | cons t ts ih =>
    intro vs ds p h
    obtain ⟨v, VN, d, ds', p1, q1, rfl, rfl, rfl, h1, h2⟩ := trodAll_cons h
    simp [ih h2]
  rw [this hT]; simp
 have cW : ∀ x ∈ p, x.block < W.heap.size := fun x hx => hW'.lt x (by simpa using hx)
 have hold : ∀ x ∈ p, (fun b => decide (b < W.heap.size)) x.block = true := fun x hx => by simpa using cW x hx
 have ak9 : s.fn H (ds ++ []) = { results := [.lit (.bool true)], args := ds } := by rw [List.append_nil, hs ds hlen]
 refine ⟨ds, [], p ++ [], [], p, [], hW', ?_, ?_, ?_, World.keptBut_mono (fun x hx => ⟨hx, .inr (.inl (by simpa using hx))⟩) (VS.frame (· ∈ p ++ [])), ?_⟩
 ·rw [ak9, BW]
  exact trodAll_mk1 (shut_bool htb true)
 ·rw [ak9]
  exact FQ hl VS hA cW hT
 ·rw [ak9, hv]; rfl
 ·intro h0; cases h0
end Pm
namespace Pm
end Pm
namespace Pm
open Go Go.RowKit
section
variable {E : Env} {w0 : World} {S0 : dW} {c : Cx}
theorem LI (hI : Inv w0 S0 c) {clk : Nat} {fn : Func} {a : Act} {f : Nat → PV} (hf : ∀ s, aJ c (f s) (a.tmps.getD s undef)) {K : List PV → Prop} (hp : pN E ⟨f, c.rows, clk⟩ fn.results.toList K) :
  ∃ vs us, K vs ∧ bB (aJ c) vs us ∧ (results fn a.tmps).run E.P c.w = .ok (if h : us.toArray.size = 1 then us.toArray[0] else .tuple us.toArray) c.w := by
 have key : ∀ g : ResultVar → Sem Value, (∀ t, g (.tmp t) = pure (a.tmps.getD t undef)) → (∀ x t, g (.cell x t) = do loadVar t (← asAddr (a.tmps.getD x undef))) →
   ∃ vs us, K vs ∧ bB (aJ c) vs us ∧ (do let vs ← fn.results.mapM g; pure (if h : vs.size = 1 then vs[0] else .tuple vs) : Sem Value).run E.P c.w = .ok (if h : us.toArray.size = 1 then us.toArray[0] else .tuple us.toArray) c.w := by
  intro g hg1 n4
  obtain ⟨vs, us, g1, g4, g5⟩ := rR hI hf hg1 n4 _ _ hp
  refine ⟨vs, us, g1, g4, ?_⟩
  have : (fn.results.mapM g).run E.P c.w = .ok us.toArray c.w := by
   rw [Array.mapM_eq_mapM_toList]
   simp [g5]
  rw [Sem.run_bind, this, Result.andThen_ok, Sem.run_pure]
 unfold results
 exact key _ (fun _ => rfl) (fun _ _ => rfl)
theorem BX (hI : Inv w0 S0 c) {fn : Func} {t : Tmp} (BW : fn.results.toList = [.tmp t]) {a : Act} {f : Nat → PV} (hf : ∀ s, aJ c (f s) (a.tmps.getD s undef)) :
  ∃ u, aJ c (f t) u ∧ (results fn a.tmps).run E.P c.w = .ok u c.w := by
 obtain ⟨vs, us, h1, h2, h3⟩ := LI (E := E) (K := fun vs => vs = [f t]) (clk := 0) hI (fn := fn) hf (by rw [BW]; rfl)
 subst h1
 match us, h2 with
 | [u], h2 => exact ⟨u, h2.1, by simpa using h3⟩
 | [], h2 => exact h2.elim
 | _ :: _ :: _, h2 => exact h2.2.elim
def aif (t : Tmp) (R : PV → Rows → Nat → Prop) : PX → PS → Prop
 | .normal, σ => R (σ.f t) σ.rows σ.clock
 | .ret, σ => R (σ.f t) σ.rows σ.clock
 | .exit _, _ => False
def abo (args : List PV) (rows : Rows) (clk : Nat) : PS := ⟨fun s => args.getD s .undef, rows, clk⟩
theorem LJ {args : List PV} {vs : List Value} {m : Nat} (h : bB (aJ c) args vs) (s : Nat) : aJ c (args.getD s .undef) ((vs.toArray ++ Array.replicate m undef).getD s undef) := by
 have OH := h.length
 by_cases hs : s < args.length
 ·obtain ⟨u, hu, hr⟩ := h.get (List.getElem?_eq_getElem hs)
  have e1 : args.getD s .undef = args[s] := by simp [List.getD, List.getElem?_eq_getElem hs]
  have e2 : (vs.toArray ++ Array.replicate m undef).getD s undef = u := by
   have : s < vs.length := by omega
   simp [this] at hu ⊢
   simp [Array.getElem?_append, this, hu]
  rw [e1, e2]; exact hr
 ·have e1 : args.getD s .undef = .undef := by simp [List.getD, List.getElem?_eq_none (show args.length ≤ s by omega)]
  rw [e1]
  simp [aJ, aQ]
theorem WV {A8 : FuncId} {fn : Func} {code : Code} (tl : Nat → Nat) {args : List PV} {rows : Rows} {clk : Nat} {R : PV → Rows → Nat → Prop} {t : Tmp} (h1 : E.P.funcs[A8]? = some fn) (h2 : fn.body = some code) (h3 : (fn.name == "runtime.NumGoroutine") = false)
  (gK : eS E fn.ntmps tl code = true) (gB : args.length ≤ fn.ntmps) (BW : fn.results.toList = [.tmp t]) (h : W E fn.ntmps tl code (aif t R) (abo args rows clk)) : VT E.P A8 args rows clk R := by
 refine ⟨⟨fn, code, h1, h2, h3⟩, fun w0 S0 c vs G hI hr fX gE hG => ?_⟩
 refine calls_of_wp h1 h2 ?_
 have OH := gE.length
 have KF : Rel w0 S0 fn.ntmps G (abo args rows clk) { tmps := vs.toArray ++ Array.replicate (fn.ntmps - vs.toArray.size) undef, defers := [] } c.w :=
  ⟨⟨c, rfl, hr, fX, hI, fun s => LJ gE s, hG⟩, by simp; omega, rfl⟩
 refine h gK w0 S0 G _ _ _ KF ?_
 have fin : ∀ σ' a' w', R (σ'.f t) σ'.rows σ'.clock → Rel w0 S0 fn.ntmps G σ' a' w' → a'.defers = [] ∧ ∃ v, (results fn a'.tmps).run E.P w' = .ok v w' ∧
   ∃ v' c' r kF, Ending.returned v = .returned v' ∧ c'.w = w' ∧ Inv w0 S0 c' ∧ (∀ p ∈ G, aJ c' p.1 p.2) ∧ R r c'.rows kF ∧ (∀ v, c'.used v → v < kF) ∧ aJ c' r v' := by
  rintro σ' a' w' hx ⟨⟨c', rfl, lA, ai8, wQ, hf', hG'⟩, hn, fM⟩
  obtain ⟨u, hu, jP⟩ := BX (E := E) wQ BW hf'
  exact ⟨fM, u, jP, u, c', _, σ'.clock, rfl, rfl, wQ, hG', by rw [lA]; exact hx, ai8, hu⟩
 intro x σ' a' w' hx lE
 cases x with
 | normal => exact fin σ' a' w' hx lE
 | ret => exact fin σ' a' w' hx lE
 | exit id => exact hx.elim
def aih (t : Tmp) (e : TypeId) (n : Nat) (els : List (List PV)) : PX → PS → Prop
 | .normal, σ => ∃ id ver, σ.f t = .own id ver 0 els.length ∧ σ.rows id = some ⟨ver, e, n, els⟩ ∧ ∀ x ∈ els, ∀ p ∈ x, cM p = true
 | .ret, σ => ∃ id ver, σ.f t = .own id ver 0 els.length ∧ σ.rows id = some ⟨ver, e, n, els⟩ ∧ ∀ x ∈ els, ∀ p ∈ x, cM p = true
 | .exit _, _ => False
theorem WW {A8 : FuncId} {fn : Func} {code : Code} (tl : Nat → Nat) {args : List PV} {e : TypeId} {n : Nat} {els : List (List PV)} {t : Tmp} (h1 : E.P.funcs[A8]? = some fn) (h2 : fn.body = some code) (h3 : (fn.name == "runtime.NumGoroutine") = false)
  (gK : eS E fn.ntmps tl code = true) (gB : args.length ≤ fn.ntmps) (BW : fn.results.toList = [.tmp t]) (h : W E fn.ntmps tl code (aih t e n els) (E7 args)) : iD E.P A8 args e n els := by
 refine ⟨⟨fn, code, h1, h2, h3⟩, fun w S vs hS gE => ?_⟩
 refine calls_of_wp h1 h2 ?_
 have AS := cU.1 gE
 have OH := AS.length
 let c0 : Cx := ⟨S, w, fun _ => .slice none 0 0, fun _ => none, fun _ => False⟩
 have hI0 : Inv w S c0 := ⟨Below.refl _ _, fun _ _ h => h, fun _ _ h => .inl h, hS, fun _ _ h => by simp [c0] at h, fun _ _ h => by simp [c0] at h, fun _ _ _ _ _ h => by simp [c0] at h⟩
 have KF : Rel w S fn.ntmps Gs.none (E7 args) { tmps := vs.toArray ++ Array.replicate (fn.ntmps - vs.toArray.size) undef, defers := [] } w :=
  ⟨⟨c0, rfl, rfl, fun _ h => h.elim, hI0, fun s => LJ (c := c0) (AS.mono fun _ _ h => aJ.jO h) s, fun p hp => (Gs.J3 hp).elim⟩, by simp; omega, rfl⟩
 refine h gK w S Gs.none _ _ _ KF ?_
 have fin : ∀ (σ' : PS) a' w', (∃ id ver, σ'.f t = .own id ver 0 els.length ∧ σ'.rows id = some ⟨ver, e, n, els⟩ ∧ ∀ x ∈ els, ∀ p ∈ x, cM p = true) → Rel w S fn.ntmps Gs.none σ' a' w' → a'.defers = [] ∧ ∃ v, (results fn a'.tmps).run E.P w' = .ok v w' ∧
   ∃ (v' : Value) (xs : List Value) (S' : dW), Ending.returned v = .returned v' ∧ Below w.heap.size w w' ∧ (∀ b o, S b o → S' b o) ∧ (∀ b o, S' b o → S b o ∨ (w.heap.size ≤ b ∧ b < w'.heap.size)) ∧
   w'.ownsRow w.heap.size e n v' els.length xs ∧ bB (c9 S' w') els.flatten xs ∧ (∀ y ∈ xs, y.oneCell' = true) ∧ (∀ x ∈ els, x.length = n) ∧ 0 < n ∧ (∀ g o, v'.ownBlock = some g → ¬ S' g o) := by
  rintro σ' a' w' ⟨id, ver, e1, e2, e3⟩ ⟨⟨c, rfl, hr, fX, hI, hf, _⟩, hn, fM⟩
  obtain ⟨u, hu, jP⟩ := BX (E := E) hI BW hf
  rw [e1] at hu
  rw [← hr] at e2
  obtain ⟨⟨xs, g1, g2, g3⟩, g4, g5, g6⟩ := hI.row id _ e2
  simp only [aJ, aQ] at hu
  obtain ⟨_, hu⟩ := hu
  obtain ⟨_, hu⟩ := hu _ e2 rfl
  have hub : u = c.β id := by
   rcases hu with ⟨_, A, m, cap, h5, h6⟩ | ⟨h5, _⟩
   ·rcases g1.2 with ⟨h7, h8⟩ | ⟨g, kD, cur, h7, _⟩
    ·rw [h7] at h5; cases h5
     simp only at h8
     rw [h6, h7, h8]
    ·rw [h7] at h5; cases h5
     rw [h6, h7]
   ·omega
  refine ⟨fM, u, jP, u, xs, c.S, rfl, hI.below, hI.ext, hI.new, by rw [hub]; exact g1, ?_, g3, g4, g6, fun g o hg => g5 g o (by rw [← hub]; exact hg)⟩
  refine bB.dN g2.length fun k p y hp hy => ?_
  obtain ⟨y', N5, lA⟩ := g2.get hp
  rw [hy] at N5; cases N5
  have tL := List.mem_of_getElem? hp
  obtain ⟨x, hx, hpx⟩ := List.mem_flatten.1 tL
  exact lA.rep (e3 x hx p hpx)
 intro x σ' a' w' hx lE
 cases x with
 | normal => exact fin σ' a' w' hx lE
 | ret => exact fin σ' a' w' hx lE
 | exit id => exact hx.elim
theorem iD.ret {P : Program} {f : FuncId} {args : List PV} {e : TypeId} {n : Nat} {els : List (List PV)} (h : iD P f args e n els) {gL : List PV} {rows : Rows} {clk : Nat} (d : Nat) (ha : gL.map (pz rows) = args) (sX : (gL.map (pz rows)).all fW = true) (hp : eF rows (gL.flatMap dX)) :
  VT P f gL rows clk (fun r rows' kF => r = .own d clk 0 els.length ∧ rows' = dZ (E3 rows (gL.flatMap dX)) d (some ⟨clk, e, n, els⟩) ∧ kF = clk + 1) := by
 obtain ⟨h0, OU⟩ := h
 refine ⟨h0, fun w0 S0 c vs G hI vA fX gB hG => ?_⟩
 subst vA
 generalize tJ : gL.flatMap dX = ids at *
 have J5 := hI.freeze ids
 have cW : ∀ b o, OQ c ids b o → b < c.w.heap.size := fun b o hb => J5.lt (c := DU c ids) hb
 have gE : bM (OQ c ids) c.w args vs := by
  rw [← ha]
  refine cU.2 (bB.dN (by simp [gB.length]) fun k p u wP hu => ?_)
  simp at wP
  obtain ⟨q, hq, rfl⟩ := wP
  obtain ⟨u', g1, g2⟩ := gB.get hq
  rw [hu] at g1; cases g1
  exact G0 hI hp g2 (fun id iI => by rw [← tJ]; simp only [List.mem_flatMap]; exact ⟨q, List.mem_of_getElem? hq, iI⟩) (List.all_eq_true.1 sX _ (by simp; exact ⟨q, List.mem_of_getElem? hq, rfl⟩))
 refine (OU c.w (OQ c ids) vs cW gE).mono ?_
 rintro x w' ⟨v, xs, S', rfl, hb, g1, g2, g3, g4, g5, g6, g7, g8⟩
 obtain ⟨hI2, hA2⟩ := J5.grow (c := DU c ids) hb g1 g2
 have hA1 := l9 c ids
 obtain ⟨hI3, hA3⟩ := hI2.set (w' := w') (ob := v.ownBlock) (id := d) (r' := ⟨clk, e, n, els⟩) (v' := v) (xs := xs) (World.grownBy.refl _ _)
  (fun g hg => by
   have SJ := (g3.lt g hg).1
   refine ⟨by have := hI.below.size; omega, fun o => g8 g o hg, fun jL r hr _ D3 => ?_⟩
   obtain ⟨⟨ys, q1, _, _⟩, _⟩ := J5.row jL r hr
   have := (q1.lt g D3).2
   simp only [DU] at this
   omega) ⟨g3.1, g3.2.imp id fun ⟨g, cap, cur, q1, q2, q3⟩ => ⟨g, cap, cur, q1, Nat.le_trans hI.below.size q2, q3⟩⟩ (g4.mono fun _ _ h => aQ.jO h) g5 g6 g7 (fun g hg => .inl hg) (fun hu => Nat.lt_irrefl _ (fX _ hu))
 refine ⟨v, _, .own d clk 0 els.length, clk + 1, rfl, rfl, hI3, fun p wP => ?_, ⟨rfl, rfl, rfl⟩, fun v hv => ?_, ?_⟩
 ·exact aJ.tG hA3 _ _ (aJ.tG hA2 _ _ (aJ.tG hA1 _ _ (hG p wP)))
 ·rcases hv with hv | hv
  ·have : v = clk := hv
   omega
  ·have := fX v hv; omega
 ·rcases g3.2 with ⟨rfl, h8⟩ | ⟨g, kD, cur, rfl, _⟩
  ·have : els.length = 0 := h8
   rw [this]
   exact lC (r := ⟨clk, e, n, els⟩) (A := none) (cap := 0) (by simp [dZ]) (by simpa using h8) (Or.inl rfl) (by simp [dZ])
  ·exact lC (r := ⟨clk, e, n, els⟩) (by simp [dZ]) rfl (Or.inl rfl) (by simp [dZ])
end
theorem aii {P : Program} {g : FuncId} {gL : List PV} {rows : Rows} {clk : Nat} {K : PV → Rows → Nat → Prop} {args : List PV} {e : TypeId} {n : Nat} {els : List (List PV)} (h : iD P g args e n els) (d : Nat) (ha : gL.map (pz rows) = args) (sX : (gL.map (pz rows)).all fW = true)
  (hp : eF rows (gL.flatMap dX)) (hK : go (K (.own d clk 0 els.length) (dZ (E3 rows (gL.flatMap dX)) d (some ⟨clk, e, n, els⟩)) (clk + 1))) : yC P g gL rows clk K :=
 ⟨_, h.ret d ha sX hp, by rintro r rows' kF ⟨rfl, rfl, rfl⟩; exact hK⟩
theorem i4 {E : Env} {A8 : FuncId} {fn : Func} {code : Code} (tl : Nat → Nat) {args : List PV} {e : TypeId} {n : Nat} {els : List (List PV)} {t : Tmp} (l : List (Nat × PV)) (h1 : E.P.funcs[A8]? = some fn) (h2 : fn.body = some code) (h3 : (fn.name == "runtime.NumGoroutine") = false)
  (gK : eS E fn.ntmps tl code = true) (gB : args.length ≤ fn.ntmps) (BW : fn.results.toList = [.tmp t]) (hl : ∀ p ∈ l, args.getD p.1 .undef = p.2) (h : W E fn.ntmps tl code (aih t e n els) ⟨fa l, fun _ => none, 0⟩) : iD E.P A8 args e n els :=
 WW tl h1 h2 h3 gK gB BW (W.ghf l (by simpa using hl) h)
theorem QD {E : Env} {A8 : FuncId} {fn : Func} {code : Code} (tl : Nat → Nat) {args : List PV} {rows : Rows} {clk : Nat} {R : PV → Rows → Nat → Prop} {t : Tmp} (l : List (Nat × PV)) (h1 : E.P.funcs[A8]? = some fn) (h2 : fn.body = some code) (h3 : (fn.name == "runtime.NumGoroutine") = false)
  (gK : eS E fn.ntmps tl code = true) (gB : args.length ≤ fn.ntmps) (BW : fn.results.toList = [.tmp t]) (hl : ∀ p ∈ l, args.getD p.1 .undef = p.2) (h : W E fn.ntmps tl code (aif t R) ⟨fa l, rows, clk⟩) : VT E.P A8 args rows clk R :=
 WV tl h1 h2 h3 gK gB BW (W.ghf l (by simpa using hl) h)
def B0 (t : TI) (rows : Rows) (x y : PV) (K : PV → Rows → Prop) : Prop :=
 match t, x with
 | .slice _ n _ _, .own id ver off len => n = 1 ∧ ∃ r, rows id = some r ∧ r.ver = ver ∧ r.size = n ∧ off + len ≤ r.els.length ∧ 0 < len ∧ ∃ l, u2 rows y l ∧ (∀ e ∈ l, e.length = n) ∧
   K (.int .i64 (min l.length len)) (dZ rows id (some { r with els := r.els.take off ++ l.take len ++ r.els.drop (off + min l.length len) }))
 | _, _ => False
@[simp] theorem atA {E : Env} {ops os : List Oper} {K : PS → Prop} {f : Nat → PV} {rows : Rows} {clk : Nat} {d : Option Tmp} {ty : TypeId} {pos : String} {af : Array Edge} {x y : Operand} {t t2 : TypeId} :
  go (aM E ops (⟨d, .call { callee := .builtin .copy, args := ⟨[x, y]⟩, argTypes := ⟨[t, t2]⟩ }, ty, pos, af, none⟩ :: os) K ⟨f, rows, clk⟩) = B0 (E.ty t) rows (aR f x) (aR f y) fun v rows => aM E ops os K ⟨put f d v, rows, clk⟩ := by
 simp only [go, aM, eQ, B0]
 generalize E.ty t = T
 generalize aR f x = X
 cases T <;> cases X <;> rfl
@[congr] theorem afr {t t' : TI} {rows rows' : Rows} {x x' y y' : PV} {K : PV → Rows → Prop} (h1 : t = t') (h2 : rows = rows') (h3 : x = x') (h4 : y = y') : B0 t rows x y K = B0 t' rows' x' y' K := by rw [h1, h2, h3, h4]
theorem aqX {e e' : TypeId} {b : Nat} {z : List PV} {rows : Rows} {id ver off len : Nat} {y : PV} {K : PV → Rows → Prop} {els l : List (List PV)} (hr : rows id = some ⟨ver, e', 1, els⟩) (hl : off + len ≤ els.length) (h0 : 0 < len) (hy : u2 rows y l) (h1 : ∀ e ∈ l, e.length = 1)
  (hK : go (K (.int .i64 (min l.length len)) (dZ rows id (some ⟨ver, e', 1, els.take off ++ l.take len ++ els.drop (off + min l.length len)⟩)))) : B0 (.slice e 1 b z) rows (.own id ver off len) y K :=
 ⟨rfl, _, hr, rfl, rfl, hl, h0, l, hy, h1, hK⟩
theorem bR {c B : Prop} (h : c) (hB : go B) : aH c B := ⟨h, hB⟩
end Pm
