import Derived.Test.YtdiladmkbpnhoaaGreatLgr
import Derived.Test.YtdiladmkbpnhoaaGreatLgn
set_option linter.unusedSimpArgs false
set_option linter.unusedVariables false
namespace Go.Proofs.YtdiladmkbpnhoaaGreat
open Go Pm
open ZX hiding N W
theorem wAbsJ {x : Int} (hx : Sz x) : Ret env.P 129 [I x] (I (x.natAbs : Int)) := by
 have h1 := wAbs_ret (decide (x < 0)) (dig LL x.natAbs) hx.lok
 rw [show V 4294967296 (dig LL x.natAbs) = (x.natAbs : Int) from V_dig hLL _] at h1
 exact h1
def mxa (x : List Int) : Nat → Int
 | 0 => 0
 | i + 1 => if mxa x i < ((nth x i).natAbs : Int) then ((nth x i).natAbs : Int) else mxa x i
theorem mxa_nn (x : List Int) : ∀ i, 0 ≤ mxa x i
 | 0 => Int.le_refl _
 | i + 1 => by
  have := mxa_nn x i
  rw [mxa]; split <;> omega
theorem mxa_ge (x : List Int) : ∀ i k, k < i → ((nth x k).natAbs : Int) ≤ mxa x i
 | 0, k, h => by omega
 | i + 1, k, h => by
  rw [mxa]
  by_cases hk : k = i
  ·subst hk; split <;> omega
  ·have := mxa_ge x i k (by omega)
   split <;> omega
theorem mxa_sz {b s n : Nat} {x : List Int} (h : Bd b s n x) : ∀ i, Pm.sz b (mxa x i) ≤ s
 | 0 => by show Pm.sz b 0 ≤ s; rw [sz_zero]; omega
 | i + 1 => by
  have ih := mxa_sz h i
  have h1 := h.nth i
  have h2 : Pm.sz b ((nth x i).natAbs : Int) = Pm.sz b (nth x i) := by unfold Pm.sz; rw [Int.natAbs_natCast]
  rw [mxa]; split
  ·rw [h2]; exact h1
  ·exact ih
def bnd (x : List Int) : Rat := qmk (((lead x).natAbs : Int) + mxa x (x.length - 1)) ((lead x).natAbs : Int)
theorem pBound_nil {α : Type} {g : α → List PV} {l : List α} (hN : Ret env.P 110 [sls g l] (.sl [])) : Ret env.P 59 [sls g l] (.tup [T2 0 0, .int .i64 2]) := by
 rw [← T2_zero]
 refine ret_of_Wf (E := env) (fun _ => 0) [(0, sls g l)] Tryz.func59 rfl (by kernel_rfl) (by kernel_rfl) (show 1 ≤ 43 by decide) (by simp) ?_
 refine W.sreg (fun K hK => ?_); simp (disch := omega) [gA, wA]; refine W.lv [0, 2] hK fun J j => ?_; clear hK K; simp; refine j _ ?_; clear j J
 refine W.sreg (fun K hK => ?_)
 simp (disch := omega) [gA, wA]
 refine callR hN ?_
 simp (disch := omega) [gA, wA]
 refine W.lv [0, 2] hK fun J j => ?_; clear hK K; simp; refine j _ ?_; clear j J
 refine W.seq ?_
 refine W.sreg (fun K hK => ?_); simp (disch := omega) [gA, wA]; refine W.lv [0, 2, 13] hK fun J j => ?_; clear hK K; simp; refine j _ ?_; clear j J
 refine W.cond ⟨_, rfl, fun h => ?_, fun h => ?_⟩
 ·refine W.sreg (fun K hK => ?_); simp (disch := omega) [gA, wA]; refine W.lv [2, 3] hK fun J j => ?_; clear hK K; simp; refine j _ ?_; clear j J
  refine W.ret ?_
  simp [go]
 ·simp at h
theorem pBound_ret {α : Type} {g : α → List PV} {l : List α} {s n : Nat} {x : List Int} (hN : Ret env.P 110 [sls g l] (Po x)) (cx : Cn x) (hx : x ≠ []) (b : Bd LL s n x) (hs : s < 500000000000) (hn : n < 500000000000) : Ret env.P 59 [sls g l] (.tup [RT (bnd x), .int .i64 0]) := by
 have hx0 : 0 < x.length := List.length_pos_iff.2 hx
 have hlen := b.len
 have hl0 := lead_ne cx hx0
 have L1 := LeadI_ret (PB.of b (by omega) (by omega)) cx
 have hld := lead_bd b
 have A1 := wAbsJ (x := lead x) (Nat.lt_of_le_of_lt hld (by omega))
 have hldn : sz LL ((lead x).natAbs : Int) ≤ s := Nat.le_trans (sz_mono hLL (by simp)) hld
 have hm := mxa_sz b (x.length - 1)
 have S1 := wAddI (x := ((lead x).natAbs : Int)) (y := mxa x (x.length - 1)) (Nat.lt_of_le_of_lt hldn (by omega)) (Nat.lt_of_le_of_lt hm (by omega))
 have hsum := sz_add (b := LL) hLL hldn hm
 have M1 := rMk_ret (n := ((lead x).natAbs : Int) + mxa x (x.length - 1)) (d := ((lead x).natAbs : Int)) (by omega) (by omega) (by omega)
 replace M1 : Ret env.P 132 [I (((lead x).natAbs : Int) + mxa x (x.length - 1)), I ((lead x).natAbs : Int)] (.tup [T2 (bnd x).num (bnd x).den, .int .i64 0]) := M1
 show Ret env.P _ _ (.tup [T2 (bnd x).num (bnd x).den, _])
 have C1 : ∀ i, i < x.length → Ret env.P 129 [I (nth x i)] (I ((nth x i).natAbs : Int)) ∧ Ret env.P 130 [I ((nth x i).natAbs : Int), I (mxa x i)] (.int .i64 (cmp3 ((nth x i).natAbs : Int) (mxa x i))) := fun i hi => by
  have h1 := b.nth i
  have h2 : sz LL ((nth x i).natAbs : Int) ≤ s := Nat.le_trans (sz_mono hLL (by simp)) h1
  exact ⟨wAbsJ (Nat.lt_of_le_of_lt h1 (by omega)), wCmpI (Nat.lt_of_le_of_lt h2 (by omega)) (Nat.lt_of_le_of_lt (mxa_sz b i) (by omega))⟩
 have hmx : ∀ i, mxa x (i + 1) = if 0 < cmp3 ((nth x i).natAbs : Int) (mxa x i) then ((nth x i).natAbs : Int) else mxa x i := fun i => by
  rw [mxa]
  by_cases h : mxa x i < ((nth x i).natAbs : Int)
  ·rw [if_pos h, if_pos (cmp3_pos.2 h)]
  ·rw [if_neg h, if_neg (fun q => h (cmp3_pos.1 q))]
 have h0 : mxa x 0 = 0 := rfl
 clear hm hsum hldn hld
 generalize (bnd x).num = rn at *
 generalize ((bnd x).den : Int) = rd at *
 generalize ((lead x).natAbs : Int) + mxa x (x.length - 1) = sm at *
 generalize ((lead x).natAbs : Int) = la at *
 generalize mxa x = mf at *
 have e1 : ((x.length : Int) - 1).toNat = x.length - 1 := by omega
 have e2 : (x.length : Int) - 1 = ((x.length - 1 : Nat) : Int) := by omega
 refine ret_of_Wf (E := env) (fun _ => 0) [(0, sls g l)] Tryz.func59 rfl (by kernel_rfl) (by kernel_rfl) (show 1 ≤ 43 by decide) (by simp) ?_
 refine W.sreg (fun K hK => ?_); simp (disch := omega) [gA, wA]; refine W.lv [0, 2] hK fun J j => ?_; clear hK K; simp; refine j _ ?_; clear j J
 refine W.sreg (fun K hK => ?_)
 simp (disch := omega) [gA, wA]
 refine callR hN ?_
 simp (disch := omega) [gA, wA]
 refine W.lv [0, 2] hK fun J j => ?_; clear hK K; simp; refine j _ ?_; clear j J
 refine W.seq ?_
 refine W.sreg (fun K hK => ?_); simp (disch := omega) [gA, wA]; refine W.lv [0, 2, 13] hK fun J j => ?_; clear hK K; simp; refine j _ ?_; clear j J
 refine W.cond ⟨_, rfl, fun h => ?_, fun h => ?_⟩
 ·simp at h; exact absurd h hx
 refine W.skip ?_
 refine W.sreg (fun K hK => ?_); simp (disch := omega) [gA, wA]; refine W.lv [0, 2, 4] hK fun J j => ?_; clear hK K; simp; refine j _ ?_; clear j J
 refine W.row (id := 4) (els := [[.bool false, .nil]]) [[.bool (decide ((0 : Int) < 0)), us (dig LL (0 : Int).natAbs)]] (by simp; first | exact ⟨rfl, rfl, rfl⟩ | exact ⟨rfl, rfl⟩ | rfl) ⟨⟨.inl rfl, .inr ⟨rfl, rfl⟩, trivial⟩, trivial⟩ ?_
 refine W.seq ?_
 refine W.sreg (fun K hK => ?_)
 simp (disch := omega) [gA, wA, e1, e2]
 refine W.lv [0, 2, 4, 19, 20, 21] hK fun J j => ?_; clear hK K; simp; refine j _ ?_; clear j J
 refine W.block ?_
 refine W.loopG (fun k σ => ∃ (v2 e2 v4 e4 i : Nat) (rows : Pm.Rows) (clk : Nat), σ = ⟨fa [(0, Po x), (2, .ptr 2 v2 0 0), (4, .ptr 4 v4 0 0), (19, sls ie (x.take (x.length - 1))), (20, .int .i64 ((x.length - 1 : Nat) : Int)), (21, .int .i64 i)], rows, clk⟩ ∧ i + k = x.length - 1 ∧
  rows 2 = some ⟨v2, e2, 4, [[.bool false, .nil, .bool false, .nil]]⟩ ∧ rows 4 = some ⟨v4, e4, 2, [[.bool (decide (mf i < 0)), us (dig LL (mf i).natAbs)]]⟩) (x.length - 1) ?_ ?_
 ·exact ⟨_, .refl, _, _, _, _, 0, _, _, rfl, by omega, by simp; (first | exact ⟨rfl, rfl⟩ | rfl), by rw [h0]; simp; (first | exact ⟨rfl, rfl⟩ | rfl)⟩
 rintro k _ ⟨v2, e2, v4, e4, i, rows, clk, rfl, hik, hr2, hr4⟩
 refine W.sreg (fun K hK => ?_); simp (disch := omega) [gA, wA]; refine W.lv [0, 2, 4, 19, 20, 21, 22] hK fun J j => ?_; clear hK K; simp; refine j _ ?_; clear j J
 refine W.seq ?_
 refine W.cond ⟨_, rfl, fun h => ?_, fun h => ?_⟩
 ·have hi : i < x.length - 1 := by simp at h; omega
  have hi2 : i < x.length := by omega
  have htk : nth (x.take (x.length - 1)) i = nth x i := by unfold nth; rw [List.getElem?_take_of_lt hi]
  obtain ⟨c1, c2⟩ := C1 i hi2
  have hm := hmx i
  generalize cmp3 ((nth x i).natAbs : Int) (mf i) = cv at *
  generalize ((nth x i).natAbs : Int) = ab at *
  generalize nth x i = xi at *
  refine W.skip ?_
  refine W.seq_blockJ (fun σ => ∃ (v2 e2 v4 e4 : Nat) (rows : Pm.Rows) (clk : Nat), σ = ⟨fa [(0, Po x), (2, .ptr 2 v2 0 0), (4, .ptr 4 v4 0 0), (19, sls ie (x.take (x.length - 1))), (20, .int .i64 ((x.length - 1 : Nat) : Int)), (21, .int .i64 i)], rows, clk⟩ ∧
   rows 2 = some ⟨v2, e2, 4, [[.bool false, .nil, .bool false, .nil]]⟩ ∧ rows 4 = some ⟨v4, e4, 2, [[.bool (decide (mf (i + 1) < 0)), us (dig LL (mf (i + 1)).natAbs)]]⟩) ?_ ?_
  ·refine W.sreg (fun K hK => ?_); simp (disch := omega) [gA, wA, hi, htk]; refine W.lv [0, 2, 4, 6, 19, 20, 21] hK fun J j => ?_; clear hK K; simp; refine j _ ?_; clear j J
   refine W.sreg (fun K hK => ?_)
   simp (disch := omega) [gA, wA]
   refine callR c1 ?_
   simp (disch := omega) [gA, wA]
   refine W.lv [0, 2, 4, 7, 19, 20, 21] hK fun J j => ?_; clear hK K; simp; refine j _ ?_; clear j J
   refine W.sreg (fun K hK => ?_)
   simp (disch := omega) [gA, wA, hr4]
   refine callR c2 ?_
   simp (disch := omega) [gA, wA]
   refine W.lv [0, 2, 4, 7, 19, 20, 21, 30] hK fun J j => ?_; clear hK K; simp; refine j _ ?_; clear j J
   refine W.cond ⟨_, rfl, fun h => ?_, fun h => ?_⟩
   ·have h : 0 < cv := by simpa using h
    rw [if_pos h] at hm
    refine W.reg (fun K hK => ?_); simp (disch := omega) [gA, wA, hr4]
    exact hK _ ⟨_, Gh_fa _ [0, 2, 4, 19, 20, 21], _, _, _, _, _, _, rfl, by simp [hr2]; exact rfl, by simp [hm]; exact rfl⟩
   ·have h : ¬ 0 < cv := by simpa using h
    rw [if_neg h] at hm
    refine W.skip ?_
    exact ⟨_, Gh_fa _ [0, 2, 4, 19, 20, 21], _, _, _, _, _, _, rfl, by simp [hr2]; exact rfl, by simp [hm, hr4]; exact rfl⟩
  rintro _ ⟨v2, e2, v4, e4, rows, clk, rfl, hr2, hr4⟩
  refine W.reg (fun K hK => ?_); simp (disch := omega) [gA, wA]
  refine hK _ ⟨k - 1, _, Gh_fa _ [0, 2, 4, 19, 20, 21], by omega, _, _, _, _, i + 1, _, _, rfl, by omega, hr2, hr4⟩
 ·have hi : i = x.length - 1 := by simp at h; omega
  subst hi
  refine W.exit ?_; simp only [pX, if_true, if_false, reduceIte, Nat.reduceEqDiff]
  refine W.sreg (fun K hK => ?_)
  simp (disch := omega) [gA, wA]
  refine callR L1 ?_
  simp (disch := omega) [gA, wA]
  refine callR A1 ?_
  simp (disch := omega) [gA, wA]
  refine W.lv [2, 4, 8] hK fun J j => ?_; clear hK K; simp; refine j _ ?_; clear j J
  refine W.sdrw (fun K hK => ?_)
  simp (disch := omega) [gA, wA, hr4]
  refine callR S1 ?_
  simp (maxSteps := 4000000) (disch := omega) [gA, wA]
  refine callR M1 ?_
  simp (disch := omega) [gA, wA, hr2]
  (try (refine stepTxt (of_decide_eq_true (by kernel_rfl)) ?_)); (try simp (maxSteps := 4000000) (disch := omega) [gA, wA, hr2]); (repeat rw [if_pos (by kernel_rfl)]); (try simp (maxSteps := 4000000) (disch := omega) [gA, wA, hr2])
  refine W.lv [2, 3] hK fun J j => ?_; clear hK K; simp; refine j _ ?_; clear j J
  refine W.ret ?_
  simp [go]
theorem bnd_eq {x : List Int} (cx : Cn x) (hx : x ≠ []) : bnd x = 1 + ((mxa x (x.length - 1) : Int) : Rat) / (((lead x).natAbs : Int) : Rat) := by
 have hl0 := lead_ne cx (List.length_pos_iff.2 hx)
 have h1 : ((lead x).natAbs : Int) ≠ 0 := by omega
 have h2 : (((lead x).natAbs : Int) : Rat) ≠ 0 := fun h => h1 (Rat.intCast_eq_zero_iff.1 h)
 refine qmk_eq h1 ?_
 rw [Rat.intCast_add]
 have h3 := Rat.div_mul_cancel (a := ((mxa x (x.length - 1) : Int) : Rat)) h2
 generalize ((mxa x (x.length - 1) : Int) : Rat) / (((lead x).natAbs : Int) : Rat) = w at *
 grind
theorem ZR_div {u v : Int} {k : Nat} (hu : sz 2 u ≤ k) (hv : sz 2 v ≤ k) (h0 : v ≠ 0) : ZR k ((u : Rat) / (v : Rat)) := by
 rw [← qmk_quot h0]
 have e : ∀ w : Int, sz 2 (-w) = sz 2 w := fun w => by unfold sz; rw [Int.natAbs_neg]
 constructor
 ·rw [qmk_num u v h0]
  refine Nat.le_trans (sz_mono (b := 2) (by decide) (Int.natAbs_ediv_le_natAbs _ _)) ?_
  split
  ·rw [e]; exact hu
  ·exact hu
 ·rw [qmk_den u v h0]
  refine Nat.le_trans (sz_mono (b := 2) (by decide) (Int.natAbs_ediv_le_natAbs _ _)) ?_
  split
  ·rw [e]; exact hv
  ·exact hv
theorem qBound_ret {s n : Nat} {x : List Int} (cx : Cn x) (hx : x ≠ []) (b : Bd 2 s n x) (hs1 : 1 ≤ s) (hs : s ≤ 1000000000) (hn : n < 1099511627776) : Ret env.P 62 [PI x] (RR (bnd x)) := by
 have hx0 : 0 < x.length := List.length_pos_iff.2 hx
 have hlen := b.len
 have hl0 := lead_ne cx hx0
 have hY : YY = 137438953472 := rfl
 have hO := OfR_ret 1 1 (by decide) (by decide)
 rw [show qmk 1 1 = 1 from by decide] at hO
 have hb1 : x.length < 2 → bnd x = 1 := fun h => by
  rw [bnd_eq cx hx, show x.length - 1 = 0 by omega]
  show 1 + ((0 : Int) : Rat) / _ = 1
  rw [Rat.intCast_zero, Rat.div_def, Rat.zero_mul, Rat.add_zero]
 have hld := lead_bd b
 have hldn : sz 2 ((lead x).natAbs : Int) ≤ s := Nat.le_trans (sz_mono (b := 2) (by decide) (by simp)) hld
 have hm := mxa_sz b (x.length - 1)
 have Z1 : ∀ {v : Int}, sz 2 v ≤ s → ZR YY ((v : Int) : Rat) := fun h => ZR_int (by omega) (by decide)
 have Q1 := QuoR_ret ((mxa x (x.length - 1) : Int) : Rat) (((lead x).natAbs : Int) : Rat) (Z1 hm) (Z1 hldn) (fun h => by have := Rat.intCast_eq_zero_iff.1 h; omega)
 have hz := ZR_div (k := YY) (Nat.le_trans hm (by omega)) (Nat.le_trans hldn (by omega)) (by omega : ((lead x).natAbs : Int) ≠ 0)
 have A1 := AddR_ret 1 (((mxa x (x.length - 1) : Int) : Rat) / (((lead x).natAbs : Int) : Rat)) ⟨by decide, by decide⟩ hz
 rw [← bnd_eq cx hx] at A1
 have C1 : ∀ i, i < x.length → Ret env.P 47 [R2 ((nth x i).natAbs : Int) 1, R2 (mxa x i) 1] (.int .i64 (cmp3 ((nth x i).natAbs : Int) (mxa x i))) := fun i hi => by
  have h1 := b.nth i
  have h2 : sz 2 ((nth x i).natAbs : Int) ≤ s := Nat.le_trans (sz_mono (b := 2) (by decide) (by simp)) h1
  have h3 := mxa_sz b i
  have := CmpR2_ret ((nth x i).natAbs : Int) 1 (mxa x i) 1 (by omega) (by decide) (by omega) (by decide)
  rwa [Int.mul_one, Int.mul_one] at this
 have hmx : ∀ i, mxa x (i + 1) = if 0 < cmp3 ((nth x i).natAbs : Int) (mxa x i) then ((nth x i).natAbs : Int) else mxa x i := fun i => by
  rw [mxa]
  by_cases h : mxa x i < ((nth x i).natAbs : Int)
  ·rw [if_pos h, if_pos (cmp3_pos.2 h)]
  ·rw [if_neg h, if_neg (fun q => h (cmp3_pos.1 q))]
 have h0 : mxa x 0 = 0 := rfl
 have hz0 := zeroI_ret
 have hlead : nth x (x.length - 1) = lead x := rfl
 have hd : ∀ v : Int, decide (((v.natAbs : Int)) < 0) = false := fun v => decide_eq_false (by omega)
 have hna : ∀ v : Int, ((v.natAbs : Int)).natAbs = v.natAbs := fun v => Int.natAbs_natCast _
 clear hm hld hldn hz Z1
 rw [show RR ((mxa x (x.length - 1) : Int) : Rat) = .ag (ri (mxa x (x.length - 1))) from congrArg PV.ag (re_int _), show RR (((lead x).natAbs : Int) : Rat) = .ag (ri ((lead x).natAbs : Int)) from congrArg PV.ag (re_int _)] at Q1
 rw [show RR (1 : Rat) = .ag (ri 1) from congrArg PV.ag (re_int 1)] at A1 hO
 generalize ((mxa x (x.length - 1) : Int) : Rat) / (((lead x).natAbs : Int) : Rat) = qq at *
 generalize hbd : bnd x = B at *
 simp only [RR_R2] at Q1 A1 ⊢
 have hb2 : x.length < 2 → R2 B.num (B.den : Int) = .ag (ri 1) := fun h => by rw [hb1 h]; rfl
 generalize B.num = bn at *
 generalize (B.den : Int) = bd at *
 generalize qq.num = qn at *
 generalize (qq.den : Int) = qd at *
 generalize hmf : mxa x = mf at *
 have e1 : ((x.length : Int) - 1).toNat = x.length - 1 := by omega
 refine ret_of_Wf (E := env) (fun _ => 0) [(0, PI x)] Tryz.func62 rfl (by kernel_rfl) (by kernel_rfl) (show 1 ≤ 43 by decide) (by simp) ?_
 refine W.sreg (fun K hK => ?_); simp (disch := omega) [gA, wA]; refine W.lv [0, 2] hK fun J j => ?_; clear hK K; simp; refine j _ ?_; clear j J
 refine W.sreg (fun K hK => ?_)
 simp (disch := omega) [gA, wA]
 refine callR hz0 ?_
 simp (disch := omega) [gA, wA]
 refine W.lv [0, 2, 3] hK fun J j => ?_; clear hK K; simp; refine j _ ?_; clear j J
 refine W.seq ?_
 refine W.sreg (fun K hK => ?_); simp (disch := omega) [gA, wA]; refine W.lv [0, 2, 3, 4] hK fun J j => ?_; clear hK K; simp; refine j _ ?_; clear j J
 refine W.block ?_
 refine W.loopG (fun k σ => ∃ (v2 e2 v3 e3 i : Nat) (rows : Pm.Rows) (clk : Nat), σ = ⟨fa [(0, PI x), (2, .ptr 2 v2 0 0), (3, .ptr 3 v3 0 0), (4, .int .i64 i)], rows, clk⟩ ∧ i + k = x.length - 1 ∧
  rows 2 = some ⟨v2, e2, 4, [[.nil, .bool false, .nil, .bool false]]⟩ ∧ rows 3 = some ⟨v3, e3, 4, [[sls i64e (dig DD (mf i).natAbs), .bool (decide (mf i < 0)), sls i64e (dig DD 1), .bool false]]⟩) (x.length - 1) ?_ ?_
 ·exact ⟨_, .refl, _, _, _, _, 0, _, _, rfl, by omega, by simp; (first | exact ⟨rfl, rfl⟩ | rfl), by rw [h0]; simp; (first | exact ⟨rfl, rfl⟩ | rfl)⟩
 rintro k _ ⟨v2, e2, v3, e3, i, rows, clk, rfl, hik, hr2, hr3⟩
 refine W.seq ?_
 refine W.sreg (fun K hK => ?_); simp (disch := omega) [gA, wA]; refine W.lv [0, 2, 3, 4, 12] hK fun J j => ?_; clear hK K; simp; refine j _ ?_; clear j J
 refine W.cond ⟨_, rfl, fun h => ?_, fun h => ?_⟩
 ·have hi : i < x.length - 1 := by simp at h; omega
  have hi2 : i < x.length := by omega
  have c1 := C1 i hi2
  have hm := hmx i
  have hd1 := hd (nth x i)
  have hn1 := hna (nth x i)
  simp only [hd1, hn1, dig_one, R2] at c1
  generalize cmp3 ((nth x i).natAbs : Int) (mf i) = cv at *
  refine W.skip ?_
  refine W.seq_blockJ (fun σ => ∃ (v2 e2 v3 e3 : Nat) (rows : Pm.Rows) (clk : Nat), σ = ⟨fa [(0, PI x), (2, .ptr 2 v2 0 0), (3, .ptr 3 v3 0 0), (4, .int .i64 i)], rows, clk⟩ ∧
   rows 2 = some ⟨v2, e2, 4, [[.nil, .bool false, .nil, .bool false]]⟩ ∧ rows 3 = some ⟨v3, e3, 4, [[sls i64e (dig DD (mf (i + 1)).natAbs), .bool (decide (mf (i + 1) < 0)), sls i64e (dig DD 1), .bool false]]⟩) ?_ ?_
  ·refine W.sreg (fun K hK => ?_); simp (disch := omega) [gA, wA, hi2]; refine W.lv [0, 2, 3, 4, 5] hK fun J j => ?_; clear hK K; simp; refine j _ ?_; clear j J
   refine W.sreg (fun K hK => ?_); simp (disch := omega) [gA, wA]; refine W.lv [0, 2, 3, 4, 5] hK fun J j => ?_; clear hK K; simp; refine j _ ?_; clear j J
   refine W.sreg (fun K hK => ?_)
   simp (disch := omega) [gA, wA, hr3]
   refine callR c1 ?_
   simp (disch := omega) [gA, wA]
   refine W.lv [0, 2, 3, 4, 5, 24] hK fun J j => ?_; clear hK K; simp; refine j _ ?_; clear j J
   refine W.cond ⟨_, rfl, fun h => ?_, fun h => ?_⟩
   ·have h : 0 < cv := by simpa using h
    rw [if_pos h] at hm
    refine W.reg (fun K hK => ?_); simp (disch := omega) [gA, wA, hr3]
    exact hK _ ⟨_, Gh_fa _ [0, 2, 3, 4], _, _, _, _, _, _, rfl, by simp [hr2]; exact rfl, by simp [hm, hd1, hn1]; exact rfl⟩
   ·have h : ¬ 0 < cv := by simpa using h
    rw [if_neg h] at hm
    refine W.skip ?_
    exact ⟨_, Gh_fa _ [0, 2, 3, 4], _, _, _, _, _, _, rfl, by simp [hr2]; exact rfl, by simp [hm, hr3]; exact rfl⟩
  rintro _ ⟨v2, e2, v3, e3, rows, clk, rfl, hr2, hr3⟩
  refine W.reg (fun K hK => ?_); simp (disch := omega) [gA, wA]
  refine hK _ ⟨k - 1, _, Gh_fa _ [0, 2, 3, 4], by omega, _, _, _, _, i + 1, _, _, rfl, by omega, hr2, hr3⟩
 ·have hi : i = x.length - 1 := by simp at h; omega
  subst hi
  refine W.exit ?_; simp only [pX, if_true, if_false, reduceIte, Nat.reduceEqDiff]
  refine W.seq ?_
  refine W.sreg (fun K hK => ?_); simp (disch := omega) [gA, wA]; refine W.lv [0, 2, 3, 28] hK fun J j => ?_; clear hK K; simp; refine j _ ?_; clear j J
  refine W.cond ⟨_, rfl, fun h => ?_, fun h => ?_⟩
  ·have h : x.length < 2 := by simp at h; omega
   rw [hb2 h]
   refine W.sreg (fun K hK => ?_)
   simp (disch := omega) [gA, wA]
   refine callR hO ?_
   simp (disch := omega) [gA, wA, hr2]
   refine W.lv [2] hK fun J j => ?_; clear hK K; simp; refine j _ ?_; clear j J
   refine W.ret ?_
   simp [go]
  ·have h : ¬ x.length < 2 := by simp at h; omega
   have hi2 : x.length - 1 < x.length := by omega
   have hd1 := hd (lead x)
   have hn1 := hna (lead x)
   simp only [R2, ri_def, dig_one, hd1, hn1] at Q1 A1
   refine W.skip ?_
   refine W.sreg (fun K hK => ?_); simp (disch := omega) [gA, wA, hi2, e1, hlead]; refine W.lv [2, 3, 6] hK fun J j => ?_; clear hK K; simp; refine j _ ?_; clear j J
   refine W.sreg (fun K hK => ?_); simp (disch := omega) [gA, wA]; refine W.lv [2, 3, 6] hK fun J j => ?_; clear hK K; simp; refine j _ ?_; clear j J
   refine W.sdrw (fun K hK => ?_)
   simp (disch := omega) [gA, wA]
   refine callR hO ?_
   simp (disch := omega) [gA, wA, hr3]
   refine callR Q1 ?_
   simp (disch := omega) [gA, wA]
   refine callR A1 ?_
   simp (disch := omega) [gA, wA, hr2]
   (try (refine stepTxt (of_decide_eq_true (by kernel_rfl)) ?_)); (try simp (maxSteps := 4000000) (disch := omega) [gA, wA, hr2]); (repeat rw [if_pos (by kernel_rfl)]); (try simp (maxSteps := 4000000) (disch := omega) [gA, wA, hr2])
   refine W.lv [2] hK fun J j => ?_; clear hK K; simp; refine j _ ?_; clear j J
   refine W.ret ?_
   simp [go]
end Go.Proofs.YtdiladmkbpnhoaaGreat
