import Derived.Test.YtdiladmkbpnhoaaGreatEnv
import Derived.Test.YtdiladmkbpnhoaaGreatMe
import Derived.KernelRfl
import Derived.Test.YtdiladmkbpnhoaaGreatMd
set_option linter.unusedSimpArgs false
set_option linter.unusedVariables false
namespace Go.Proofs.YtdiladmkbpnhoaaGreat
open Go Pm
def u32 (n : Int) : List PV := [.int .u32 n]
@[simp] theorem u32_def {n : Int} : u32 n = [.int .u32 n] := rfl
theorem enc_u32 : Enc u32 1 := fun _ => rfl
theorem penc_u32 : PEnc u32 := fun _ => rfl
@[simp] theorem lenAll_u32 {l : List Int} : lenAll 1 (emap u32 l) = True := lenAll_emap enc_u32
@[simp] theorem rowPers_u32 {v e n : Nat} {l : List Int} : rowPers (some ⟨v, e, n, emap u32 l⟩) = True := rowPers_emap penc_u32
@[simp] theorem rep_u32 {n : Nat} : List.replicate n [PV.int .u32 0] = emap u32 (List.replicate n 0) := by simp [emap]
@[simp] theorem setEl_u32 {l : List Int} {i : Nat} {x : Int} : setEl (emap u32 l) i 0 [.int .u32 x] = emap u32 (l.set i x) := by
 simp only [setEl, emap, List.map_set]
 by_cases h : i < l.length
 ·simp [h]
 ·rw [List.set_eq_of_length_le (by simp; omega), List.set_eq_of_length_le (by simp; omega)]
@[simp] theorem len_emap {α : Type} {g : α → List PV} {l : List α} : (emap g l).length = l.length := by simp [emap]
abbrev us (l : List Int) : PV := sls u32 l
abbrev LL : Nat := 4294967296
abbrev N (x : Int) : PV := us (dig LL x.toNat)
theorem hLL : 2 ≤ LL := by decide
theorem N_cut {l : List Int} (h : Lim 4294967296 l) : us (cutR l) = N (V 4294967296 l) := by rw [cutR_dig hLL h]; rfl
theorem cut_ret (l : List Int) (hl : l.length < 17592186044416) : Ret env.P 209 [us l] (us (cutR l)) := by
 refine ret_of_Wf (E := env) (fun _ => 0) [(0, us l)] Tryz.func209 rfl (by kernel_rfl) (by kernel_rfl) (show 1 ≤ 21 by decide) (by simp) ?_
 refine W.sreg (fun K hK => ?_)
 simp (disch := omega) [gA, wA]
 refine W.lv [0] hK fun J j => ?_; clear hK K; simp; refine j _ ?_; clear j J
 refine W.sreg (fun K hK => ?_)
 simp (disch := omega) [gA, wA]
 refine W.lv [0, 3] hK fun J j => ?_; clear hK K; simp; refine j _ ?_; clear j J
 refine W.seq (W.block ?_)
 refine W.loopG (fun k σ => ∃ (rows : Pm.Rows) (clk : Nat), σ = ⟨fa [(0, us l), (3, .int .i64 (k : Int))], rows, clk⟩ ∧ k ≤ l.length ∧ cutR l = cutR (l.take k)) l.length ?_ ?_
 ·exact ⟨_, .refl, _, _, rfl, by omega, by simp⟩
 rintro k _ ⟨rows, clk, rfl, hk, hc⟩
 refine W.seq ?_
 refine W.sregJ (fun σ => ∃ (b : Bool), σ = ⟨fa [(0, us l), (3, .int .i64 (k : Int)), (15, .bool b)], rows, clk⟩ ∧ (b = true ↔ 0 < k ∧ nth l (k - 1) = 0)) (fun K hK => ?_) ?_
 ·simp
  by_cases h0 : 0 < k
  ·simp (disch := omega) [gA, wA, h0]
   exact hK _ _ (Gh_fa _ [0, 3, 15]) ⟨_, rfl, by simp [h0]⟩
  ·simp (disch := omega) [gA, wA, h0]
   exact hK _ _ (Gh_fa _ [0, 3, 15]) ⟨_, rfl, by simp [h0]⟩
 rintro _ ⟨b, rfl, hb⟩
 refine W.cond ⟨_, rfl, fun h => ?_, fun h => ?_⟩
 ·obtain ⟨h0, h1⟩ := hb.1 h
  refine W.skip (W.block ?_)
  refine W.reg (fun K hK => ?_)
  simp (disch := omega) [gA, wA]
  refine hK _ ⟨k - 1, _, Gh.fr [(0, _), (3, .int .i64 ((k - 1 : Nat) : Int))] (by simp; omega), by omega, _, _, rfl, by omega, ?_⟩
  rw [hc, show k = (k - 1) + 1 by omega, take_succ_nth (by omega), h1, cutR_zero]
  simp
 ·have h2 : cutR l = l.take k := by
   rw [hc]
   by_cases h0 : 0 < k
   ·have h1 : nth l (k - 1) ≠ 0 := fun h1 => by simp [hb.2 ⟨h0, h1⟩] at h
    rw [show k = (k - 1) + 1 by omega, take_succ_nth (by omega)]
    exact cutR_ne h1 _
   ·have : k = 0 := by omega
    subst this; simp [cutR]
  refine W.exit ?_
  simp only [pX, if_true, if_false, reduceIte, Nat.reduceEqDiff]
  refine W.sreg (fun K hK => ?_)
  simp (disch := omega) [gA, wA]
  refine W.lv [2] hK fun J j => ?_; clear hK K; simp; refine j _ ?_; clear j J
  refine W.ret ?_
  simp [h2]
end Go.Proofs.YtdiladmkbpnhoaaGreat
namespace Go.Proofs.YtdiladmkbpnhoaaGreat
open Go Pm
theorem Norm_ret (l : List Int) (hl : l.length < 1099511627776) (hm : Lim 4294967296 l) : Ret env.P 166 [us l] (N (V 4294967296 l)) := by
 rw [← N_cut hm]
 refine ret_of_Wf (E := env) (fun _ => 0) [(0, us l)] Tryz.func166 rfl (by kernel_rfl) (by kernel_rfl) (show 1 ≤ 6 by decide) (by simp) ?_
 refine W.sreg (fun K hK => ?_)
 simp (disch := omega) [gA, wA]
 refine W.lv [0] hK fun J j => ?_; clear hK K; simp; refine j _ ?_; clear j J
 refine W.sreg (fun K hK => ?_)
 simp
 refine callR (cut_ret l (by omega)) ?_
 have := cutR_len l
 simp (disch := omega) [gA, wA]
 refine W.lv [2] hK fun J j => ?_; clear hK K; simp; refine j _ ?_; clear j J
 refine W.ret ?_
 simp
theorem Add_ret (a b : List Int) (ha : a.length < 1099511627776) (hb : b.length < 1099511627776) (la : Lim 4294967296 a) (lb : Lim 4294967296 b) : Ret env.P 180 [us a, us b] (N (V 4294967296 a + V 4294967296 b)) := by
 refine ret_of_Wf (E := env) (fun _ => 0) [(0, us a), (1, us b)] Tryz.func180 rfl (by kernel_rfl) (by kernel_rfl) (show 2 ≤ 63 by decide) (by simp) ?_
 refine W.sreg (fun K hK => ?_)
 simp (disch := omega) [gA, wA]
 refine W.lv [0, 1] hK fun J j => ?_; clear hK K; simp; refine j _ ?_; clear j J
 refine W.sreg (fun K hK => ?_)
 simp
 refine callR (cut_ret a (by omega)) ?_
 simp
 refine callR (cut_ret b (by omega)) ?_
 simp
 refine W.lv [0, 1] hK fun J j => ?_; clear hK K; simp; refine j _ ?_; clear j J
 refine W.seqJ (fun σ => ∃ (x y : List Int) (rows : Pm.Rows) (clk : Nat), σ = ⟨fa [(0, us x), (1, us y)], rows, clk⟩ ∧ Lim 4294967296 x ∧ Lim 4294967296 y ∧ y.length ≤ x.length ∧ x.length < 1099511627776 ∧
  V 4294967296 a + V 4294967296 b = V 4294967296 x + V 4294967296 y) ?_ ?_
 ·have h1 := cutR_len a
  have h2 := cutR_len b
  refine W.sreg (fun K hK => ?_)
  simp (disch := omega) [gA, wA]
  refine W.lv [0, 1, 18] hK fun J j => ?_; clear hK K; simp; refine j _ ?_; clear j J
  refine W.cond ⟨_, rfl, fun h => ?_, fun h => ?_⟩
  ·simp at h
   refine W.reg (fun K hK => ?_)
   simp (disch := omega) [gA, wA]
   exact hK _ ⟨_, Gh_fa _ [0, 1], _, _, _, _, rfl, Lim_cutR lb, Lim_cutR la, by omega, by omega, by simp [V_cutR]; omega⟩
  ·simp at h
   refine W.skip ?_
   exact ⟨_, Gh_fa _ [0, 1], _, _, _, _, rfl, Lim_cutR la, Lim_cutR lb, by omega, by omega, by simp [V_cutR]⟩
 rintro _ ⟨x, y, rows, clk, rfl, lx, ly, hxy, hx, hV⟩
 rw [hV]
 clear hV la lb ha hb a b
 refine W.sreg (fun K hK => ?_)
 simp (disch := omega) [gA, wA]
 refine W.lv [0, 1, 5] hK fun J j => ?_; clear hK K; simp; refine j _ ?_; clear j J
 refine W.sreg (fun K hK => ?_)
 simp (disch := omega) [gA, wA]
 refine W.lv [0, 1, 5, 6] hK fun J j => ?_; clear hK K; simp; refine j _ ?_; clear j J
 refine W.seq ?_
 refine W.sreg (fun K hK => ?_)
 simp (disch := omega) [gA, wA]
 refine W.lv [0, 1, 5, 6, 25, 26, 27] hK fun J j => ?_; clear hK K; simp; refine j _ ?_; clear j J
 refine W.block ?_
 refine W.loopG (fun k σ => ∃ (i : Nat) (c : Int) (z : List Int) (ver : Nat) (rows : Pm.Rows) (clk : Nat), σ = ⟨fa [(0, us x), (1, us y), (5, .own 24 ver 0 (x.length + 1)), (6, .int .u64 c), (25, us x), (26, .int .i64 x.length), (27, .int .i64 i)], rows, clk⟩ ∧
   rows 24 = some ⟨ver, 169, 1, emap u32 z⟩ ∧ k = x.length - i ∧ i ≤ x.length ∧ z.length = x.length + 1 ∧ Lim 4294967296 z ∧ 0 ≤ c ∧ c ≤ 1 ∧
   V 4294967296 (z.take i) + 4294967296 ^ i * c = V 4294967296 (x.take i) + V 4294967296 (y.take i)) x.length ?_ ?_
 ·exact ⟨_, .refl, 0, 0, List.replicate (x.length + 1) 0, _, _, _, rfl, by simp, by omega, by omega, by simp, Lim.rep (by decide) _, by omega, by omega, by simp [V]⟩
 rintro k _ ⟨i, c, z, ver, rows, clk, rfl, hr, hk, hi, hz, lz, hc0, hc1, hV⟩
 refine W.sreg (fun K hK => ?_)
 simp (disch := omega) [gA, wA]
 refine W.lv [0, 1, 5, 6, 25, 26, 27, 28] hK fun J j => ?_; clear hK K; simp; refine j _ ?_; clear j J
 refine W.seq ?_
 refine W.cond ⟨_, rfl, fun h => ?_, fun h => ?_⟩
 ·simp at h
  have hxi := lx.nth h
  refine W.skip ?_
  refine W.seq ?_
  refine W.block ?_
  refine W.sreg (fun K hK => ?_)
  simp (disch := omega) [gA, wA]
  refine W.lv [0, 1, 5, 6, 7, 8, 25, 26, 27] hK fun J j => ?_; clear hK K; simp; refine j _ ?_; clear j J
  refine W.sreg (fun K hK => ?_)
  simp (disch := omega) [gA, wA]
  refine W.lv [0, 1, 5, 7, 9, 25, 26, 27] hK fun J j => ?_; clear hK K; simp; refine j _ ?_; clear j J
  refine W.seqJ (fun σ => ∃ (s : Int), σ = ⟨fa [(0, us x), (1, us y), (5, .own 24 ver 0 (x.length + 1)), (7, .int .i64 i), (9, .int .u64 s), (25, us x), (26, .int .i64 x.length), (27, .int .i64 i)], rows, clk⟩ ∧ 0 ≤ s ∧ s < 8589934592 ∧
   V 4294967296 (x.take (i + 1)) + V 4294967296 (y.take (i + 1)) = V 4294967296 (z.take i) + 4294967296 ^ i * s) ?_ ?_
  ·
   refine W.sreg (fun K hK => ?_)
   simp (disch := omega) [gA, wA]
   refine W.lv [0, 1, 5, 7, 9, 25, 26, 27, 39] hK fun J j => ?_; clear hK K; simp; refine j _ ?_; clear j J
   refine W.cond ⟨_, rfl, fun h => ?_, fun h => ?_⟩
   ·simp at h
    have hyi := ly.nth h
    refine W.reg (fun K hK => ?_)
    simp (disch := omega) [gA, wA]
    refine hK _ ⟨_, Gh_fa _ [0, 1, 5, 7, 9, 25, 26, 27], _, rfl, by omega, by omega, ?_⟩
    rw [V_take_succ (by omega), V_take_succ (by omega)]
    grind
   ·simp at h
    refine W.skip ?_
    refine ⟨_, Gh_fa _ [0, 1, 5, 7, 9, 25, 26, 27], _, rfl, by omega, by omega, ?_⟩
    rw [V_take_succ (by omega), V_take_all (l := y) (by omega)]
    rw [V_take_all (l := y) (by omega)] at hV
    grind
  rintro _ ⟨s, rfl, hs0, hs1, hV2⟩
  refine W.reg (fun K hK => ?_)
  simp (disch := omega) [gA, wA, hr, wrap_u32']
  refine W.lv [0, 1, 5, 6, 25, 26, 27] hK fun J j => ?_; clear hK K; simp; refine j _ ?_; clear j J
  refine W.reg (fun K hK => ?_)
  simp (disch := omega) [gA, wA]
  refine hK _ ⟨x.length - (i + 1), _, Gh_fa _ [0, 1, 5, 6, 25, 26, 27], by omega, i + 1, s / 4294967296, z.set i (s % 4294967296), ver, _, _, rfl, by simp, by omega, by omega, by simpa using hz, lz.set (by omega), by omega, by omega, ?_⟩
  rw [V_take_set (by omega), hV2, Int.pow_succ]
  have := Int.emod_add_mul_ediv s 4294967296
  grind
 ·simp at h
  have hi' : i = x.length := by omega
  subst hi'
  refine W.exit ?_; simp only [pX, if_true, if_false, reduceIte, Nat.reduceEqDiff]
  refine W.sreg (fun K hK => ?_)
  simp (disch := omega) [gA, wA, hr]
  refine W.lv [5] hK fun J j => ?_; clear hK K; simp; refine j _ ?_; clear j J
  have hz2 : List.take (x.length + 1) (z.set x.length c) = z.set x.length c := List.take_of_length_le (by simp; omega)
  refine W.sreg (fun K hK => ?_)
  simp (disch := omega) [gA, wA, hz2]
  refine callR (cut_ret (z.set x.length c) (by simp; omega)) ?_
  simp (disch := omega) [gA, wA]
  refine W.lv [4] hK fun J j => ?_; clear hK K; simp; refine j _ ?_; clear j J
  refine W.ret ?_
  have e : V 4294967296 (z.set x.length c) = V 4294967296 x + V 4294967296 y := by
   rw [← V_take_all (l := z.set x.length c) (i := x.length + 1) (by simp; omega), V_take_set (by omega), hV, V_take_all (l := y) (by omega)]
   simp
  rw [← e, N_cut (lz.set (by omega))]
  simp
end Go.Proofs.YtdiladmkbpnhoaaGreat
namespace Go.Proofs.YtdiladmkbpnhoaaGreat
open Go Pm
theorem Cmp_ret (a b : List Int) (ha : a.length < 1099511627776) (hb : b.length < 1099511627776) (la : Lim 4294967296 a) (lb : Lim 4294967296 b) : Ret env.P 199 [us a, us b] (.int .i64 (cmp3 (V 4294967296 a) (V 4294967296 b))) := by
 refine ret_of_Wf (E := env) (fun _ => 0) [(0, us a), (1, us b)] Tryz.func199 rfl (by kernel_rfl) (by kernel_rfl) (show 2 ≤ 45 by decide) (by simp) ?_
 refine W.sreg (fun K hK => ?_)
 simp (disch := omega) [gA, wA]
 refine W.lv [0, 1] hK fun J j => ?_; clear hK K; simp; refine j _ ?_; clear j J
 refine W.sreg (fun K hK => ?_)
 simp
 refine callR (cut_ret a (by omega)) ?_
 simp
 refine callR (cut_ret b (by omega)) ?_
 simp
 refine W.lv [0, 1] hK fun J j => ?_; clear hK K; simp; refine j _ ?_; clear j J
 have cx := cutR_cutR a; have lx := Lim_cutR la; have hx := cutR_len a
 have cy := cutR_cutR b; have ly := Lim_cutR lb; have hy := cutR_len b
 rw [← V_cutR a, ← V_cutR b]
 generalize cutR a = x at *
 generalize cutR b = y at *
 refine W.seq ?_
 refine W.sreg (fun K hK => ?_)
 simp (disch := omega) [gA, wA]
 refine W.lv [0, 1, 14] hK fun J j => ?_; clear hK K; simp; refine j _ ?_; clear j J
 refine W.cond ⟨_, rfl, fun h => ?_, fun h => ?_⟩
 ·simp at h
  refine W.seq ?_
  refine W.sreg (fun K hK => ?_)
  simp (disch := omega) [gA, wA]
  refine W.lv [19] hK fun J j => ?_; clear hK K; simp; refine j _ ?_; clear j J
  refine W.cond ⟨_, rfl, fun h => ?_, fun h => ?_⟩
  ·simp at h
   refine W.sreg (fun K hK => ?_)
   simp (disch := omega) [gA, wA]
   refine W.lv [4] hK fun J j => ?_; clear hK K; simp; refine j _ ?_; clear j J
   refine W.ret ?_
   simp [cmp3_lt (V_lt_of_len (by decide) lx ly cy h)]
  ·simp at h
   refine W.skip ?_
   refine W.sreg (fun K hK => ?_)
   simp (disch := omega) [gA, wA]
   refine W.lv [4] hK fun J j => ?_; clear hK K; simp; refine j _ ?_; clear j J
   refine W.ret ?_
   simp [cmp3_gt (V_lt_of_len (by decide) ly lx cx (by omega))]
 ·simp at h
  have hlen : x.length = y.length := by omega
  clear h
  refine W.skip ?_
  refine W.seq ?_
  refine W.sreg (fun K hK => ?_)
  simp (disch := omega) [gA, wA]
  refine W.lv [0, 1, 5] hK fun J j => ?_; clear hK K; simp; refine j _ ?_; clear j J
  refine W.block ?_
  refine W.loopG (fun k σ => ∃ (rows : Pm.Rows) (clk : Nat), σ = ⟨fa [(0, us x), (1, us y), (5, .int .i64 ((k : Int) - 1))], rows, clk⟩ ∧ k ≤ x.length ∧ x.drop k = y.drop k) x.length ?_ ?_
  ·exact ⟨_, .refl, _, _, rfl, by omega, by rw [List.drop_of_length_le (by omega), List.drop_of_length_le (by omega)]⟩
  rintro k _ ⟨rows, clk, rfl, hk, hd⟩
  refine W.seq ?_
  refine W.sreg (fun K hK => ?_)
  simp (disch := omega) [gA, wA]
  refine W.lv [0, 1, 5, 24] hK fun J j => ?_; clear hK K; simp; refine j _ ?_; clear j J
  refine W.cond ⟨_, rfl, fun h => ?_, fun h => ?_⟩
  ·have h0 : 0 < k := by simp at h; omega
   obtain ⟨j, rfl⟩ : ∃ j, k = j + 1 := ⟨k - 1, by omega⟩
   clear h
   refine W.skip ?_
   refine W.seq ?_
   refine W.block ?_
   refine W.seq ?_
   refine W.sdrw (fun K hK => ?_)
   simp (disch := omega) [gA, wA]
   refine W.lv [0, 1, 5, 35] hK fun J j => ?_; clear hK K; simp; refine j _ ?_; clear j J
   refine W.cond ⟨_, rfl, fun h => ?_, fun h => ?_⟩
   ·simp at h
    refine W.sreg (fun K hK => ?_)
    simp (disch := omega) [gA, wA]
    refine W.lv [4] hK fun J j => ?_; clear hK K; simp; refine j _ ?_; clear j J
    refine W.ret ?_
    simp [cmp3_lt (V_lt_of_top (by decide) lx ly hlen (by omega) hd h)]
   ·simp at h
    refine W.skip ?_
    refine W.sdrw (fun K hK => ?_)
    simp (disch := omega) [gA, wA]
    refine W.lv [0, 1, 5, 44] hK fun J j => ?_; clear hK K; simp; refine j _ ?_; clear j J
    refine W.cond ⟨_, rfl, fun h2 => ?_, fun h2 => ?_⟩
    ·simp at h2
     refine W.sreg (fun K hK => ?_)
     simp (disch := omega) [gA, wA]
     refine W.lv [4] hK fun J j => ?_; clear hK K; simp; refine j _ ?_; clear j J
     refine W.ret ?_
     simp [cmp3_gt (V_lt_of_top (by decide) ly lx hlen.symm (by omega) hd.symm h2)]
    ·simp at h2
     refine W.skip ?_
     refine W.reg (fun K hK => ?_)
     simp (disch := omega) [gA, wA]
     refine hK _ ⟨j, _, Gh_fa _ [0, 1, 5], by omega, _, _, rfl, by omega, ?_⟩
     rw [drop_nth (l := x) (i := j) (by omega), drop_nth (l := y) (i := j) (by omega), hd, show nth x j = nth y j by omega]
  ·have h0 : k = 0 := by simp at h; omega
   subst h0
   simp at hd
   subst hd
   refine W.exit ?_; simp only [pX, if_true, if_false, reduceIte, Nat.reduceEqDiff]
   refine W.sreg (fun K hK => ?_)
   simp (disch := omega) [gA, wA]
   refine W.lv [4] hK fun J j => ?_; clear hK K; simp; refine j _ ?_; clear j J
   refine W.ret ?_
   simp [cmp3_eq]
end Go.Proofs.YtdiladmkbpnhoaaGreat
namespace Go.Proofs.YtdiladmkbpnhoaaGreat
open Go Pm
def subR (x y : Int) : PV := if x < y then .tup [us [], .bool false] else .tup [N (x - y), .bool true]
theorem Sub_ret (a b : List Int) (ha : a.length < 1099511627776) (hb : b.length < 1099511627776) (la : Lim 4294967296 a) (lb : Lim 4294967296 b) : Ret env.P 181 [us a, us b] (subR (V 4294967296 a) (V 4294967296 b)) := by
 refine ret_of_Wf (E := env) (fun _ => 0) [(0, us a), (1, us b)] Tryz.func181 rfl (by kernel_rfl) (by kernel_rfl) (show 2 ≤ 54 by decide) (by simp) ?_
 refine W.sreg (fun K hK => ?_)
 simp (disch := omega) [gA, wA]
 refine W.lv [0, 1] hK fun J j => ?_; clear hK K; simp; refine j _ ?_; clear j J
 refine W.sreg (fun K hK => ?_)
 simp
 refine callR (cut_ret a (by omega)) ?_
 simp
 refine callR (cut_ret b (by omega)) ?_
 simp
 refine W.lv [0, 1] hK fun J j => ?_; clear hK K; simp; refine j _ ?_; clear j J
 have cx := cutR_cutR a; have lx := Lim_cutR la; have hx := cutR_len a
 have cy := cutR_cutR b; have ly := Lim_cutR lb; have hy := cutR_len b
 rw [← V_cutR a, ← V_cutR b]
 generalize cutR a = x at *
 generalize cutR b = y at *
 refine W.seq ?_
 refine W.sreg (fun K hK => ?_)
 simp
 refine callR (Cmp_ret x y (by omega) (by omega) lx ly) ?_
 simp (disch := omega) [gA, wA]
 refine W.lv [0, 1, 18] hK fun J j => ?_; clear hK K; simp; refine j _ ?_; clear j J
 refine W.cond ⟨_, rfl, fun h => ?_, fun h => ?_⟩
 ·have h : V 4294967296 x < V 4294967296 y := cmp3_neg.1 (by simpa using h)
  refine W.sreg (fun K hK => ?_)
  simp (disch := omega) [gA, wA]
  refine W.lv [4, 5] hK fun J j => ?_; clear hK K; simp; refine j _ ?_; clear j J
  refine W.ret ?_
  simp [subR, h]
  rfl
 ·have h : V 4294967296 y ≤ V 4294967296 x := cmp3_nonneg.1 (by simpa using h)
  have hyx : y.length ≤ x.length := by
   rcases Nat.lt_or_ge x.length y.length with h2 | h2
   ·have := V_lt_of_len (by decide) lx ly cy h2; omega
   ·exact h2
  refine W.skip ?_
  refine W.sreg (fun K hK => ?_)
  simp (disch := omega) [gA, wA]
  refine W.lv [0, 1, 6] hK fun J j => ?_; clear hK K; simp; refine j _ ?_; clear j J
  refine W.sreg (fun K hK => ?_)
  simp (disch := omega) [gA, wA]
  refine W.lv [0, 1, 6, 7] hK fun J j => ?_; clear hK K; simp; refine j _ ?_; clear j J
  refine W.seq ?_
  refine W.sreg (fun K hK => ?_)
  simp (disch := omega) [gA, wA]
  refine W.lv [1, 6, 7, 22, 23, 24] hK fun J j => ?_; clear hK K; simp; refine j _ ?_; clear j J
  refine W.block ?_
  refine W.loopG (fun k σ => ∃ (i : Nat) (c : Int) (z : List Int) (ver : Nat) (rows : Pm.Rows) (clk : Nat), σ = ⟨fa [(1, us y), (6, .own 21 ver 0 x.length), (7, .int .u64 c), (22, us x), (23, .int .i64 x.length), (24, .int .i64 i)], rows, clk⟩ ∧
   rows 21 = some ⟨ver, 169, 1, emap u32 z⟩ ∧ k = x.length - i ∧ i ≤ x.length ∧ z.length = x.length ∧ Lim 4294967296 z ∧ 0 ≤ c ∧ c ≤ 1 ∧
   V 4294967296 (z.take i) - 4294967296 ^ i * c = V 4294967296 (x.take i) - V 4294967296 (y.take i)) x.length ?_ ?_
  ·exact ⟨_, .refl, 0, 0, List.replicate x.length 0, _, _, _, rfl, by simp, by omega, by omega, by simp, Lim.rep (by decide) _, by omega, by omega, by simp [V]⟩
  rintro k _ ⟨i, c, z, ver, rows, clk, rfl, hr, hk, hi, hz, lz, hc0, hc1, hV⟩
  refine W.sreg (fun K hK => ?_)
  simp (disch := omega) [gA, wA]
  refine W.lv [1, 6, 7, 22, 23, 24, 25] hK fun J j => ?_; clear hK K; simp; refine j _ ?_; clear j J
  refine W.seq ?_
  refine W.cond ⟨_, rfl, fun h => ?_, fun h => ?_⟩
  ·simp at h
   have hxi := lx.nth h
   refine W.skip ?_
   refine W.seq ?_
   refine W.block ?_
   refine W.sreg (fun K hK => ?_)
   simp (disch := omega) [gA, wA]
   refine W.lv [1, 6, 7, 8, 9, 22, 23, 24] hK fun J j => ?_; clear hK K; simp; refine j _ ?_; clear j J
   refine W.sreg (fun K hK => ?_)
   simp (disch := omega) [gA, wrap_u64 hxi.1]
   refine W.lv [1, 6, 8, 10, 22, 23, 24] hK fun J j => ?_; clear hK K; simp; refine j _ ?_; clear j J
   refine W.seqJ (fun σ => ∃ (d : Int), σ = ⟨fa [(1, us y), (6, .own 21 ver 0 x.length), (8, .int .i64 i), (10, .int .u64 (IntKind.u64.wrap d)), (22, us x), (23, .int .i64 x.length), (24, .int .i64 i)], rows, clk⟩ ∧ -4294967296 ≤ d ∧ d < 4294967296 ∧
    V 4294967296 (x.take (i + 1)) - V 4294967296 (y.take (i + 1)) = V 4294967296 (z.take i) + 4294967296 ^ i * d) ?_ ?_
   ·
    refine W.sreg (fun K hK => ?_)
    simp (disch := omega) [gA, wA]
    refine W.lv [1, 6, 8, 10, 22, 23, 24, 36] hK fun J j => ?_; clear hK K; simp; refine j _ ?_; clear j J
    refine W.cond ⟨_, rfl, fun h => ?_, fun h => ?_⟩
    ·simp at h
     have hyi := ly.nth h
     refine W.reg (fun K hK => ?_)
     simp (disch := omega) [gA, wrap_u64 hyi.1]
     refine hK _ ⟨_, Gh_fa _ [1, 6, 8, 10, 22, 23, 24], nth x i - c - nth y i, ?_, by omega, by omega, ?_⟩
     ·have : IntKind.u64.wrap (IntKind.u64.wrap (nth x i - c) - nth y i) = IntKind.u64.wrap (nth x i - c - nth y i) := by
       simp only [wrap_u64']; omega
      simp [this]
     rw [V_take_succ (by omega), V_take_succ (by omega)]
     grind
    ·simp at h
     refine W.skip ?_
     refine ⟨_, Gh_fa _ [1, 6, 8, 10, 22, 23, 24], _, rfl, by omega, by omega, ?_⟩
     rw [V_take_succ (by omega), V_take_all (l := y) (by omega)]
     rw [V_take_all (l := y) (by omega)] at hV
     grind
   rintro _ ⟨d, rfl, hs0, hs1, hV2⟩
   refine W.reg (fun K hK => ?_)
   simp (disch := omega) [gA, wA, hr, wrap_u32']
   refine W.lv [1, 6, 7, 22, 23, 24] hK fun J j => ?_; clear hK K; simp; refine j _ ?_; clear j J
   refine W.reg (fun K hK => ?_)
   simp (disch := omega) [gA, wA]
   have e1 : d = IntKind.u64.wrap d % 4294967296 - 4294967296 * (IntKind.u64.wrap d / 9223372036854775808) ∧ 0 ≤ IntKind.u64.wrap d / 9223372036854775808 ∧ IntKind.u64.wrap d / 9223372036854775808 ≤ 1 := by
    rw [wrap_u64']; omega
   generalize IntKind.u64.wrap d = s at *
   refine hK _ ⟨x.length - (i + 1), _, Gh_fa _ [1, 6, 7, 22, 23, 24], by omega, i + 1, s / 9223372036854775808, z.set i (s % 4294967296), ver, _, _, rfl, by simp, by omega, by omega, by simpa using hz, lz.set (by omega), by omega, by omega, ?_⟩
   rw [V_take_set (by omega), hV2, Int.pow_succ]
   grind
  ·simp at h
   have hi' : i = x.length := by omega
   subst hi'
   refine W.exit ?_; simp only [pX, if_true, if_false, reduceIte, Nat.reduceEqDiff]
   have hz2 : z.take x.length = z := List.take_of_length_le (by omega)
   have e : V 4294967296 z = V 4294967296 x - V 4294967296 y := by
    rw [hz2, V_take_all (Nat.le_refl _), V_take_all (l := y) (by omega)] at hV
    have h1 := V_lt (by decide) lz
    rw [hz] at h1
    have : c = 0 := by
     rcases Int.lt_or_le c 1 with h2 | h2
     ·omega
     ·have h3 : c = 1 := by omega
      subst h3; omega
    subst this; omega
   refine W.sreg (fun K hK => ?_)
   simp (disch := omega) [gA, wA, hr, hz2]
   refine callR (cut_ret z (by omega)) ?_
   simp (disch := omega) [gA, wA]
   refine W.lv [4, 5] hK fun J j => ?_; clear hK K; simp; refine j _ ?_; clear j J
   refine W.ret ?_
   rw [subR, if_neg (by omega), ← e, ← N_cut lz]
   simp
end Go.Proofs.YtdiladmkbpnhoaaGreat
namespace Go.Proofs.YtdiladmkbpnhoaaGreat
open Go Pm
theorem mul_lim {a b : Int} (ha : 0 ≤ a ∧ a < 4294967296) (hb : 0 ≤ b ∧ b < 4294967296) : 0 ≤ a * b ∧ a * b ≤ 18446744065119617025 := by
 refine ⟨Int.mul_nonneg ha.1 hb.1, ?_⟩
 have := Int.mul_le_mul (show a ≤ 4294967295 by omega) (show b ≤ 4294967295 by omega) hb.1 (by decide)
 simpa using this
theorem Mul_ret (a b : List Int) (ha : a.length < 1099511627776) (hb : b.length < 1099511627776) (la : Lim 4294967296 a) (lb : Lim 4294967296 b) : Ret env.P 156 [us a, us b] (N (V 4294967296 a * V 4294967296 b)) := by
 refine ret_of_Wf (E := env) (fun _ => 0) [(0, us a), (1, us b)] Tryz.func156 rfl (by kernel_rfl) (by kernel_rfl) (show 2 ≤ 75 by decide) (by simp) ?_
 refine W.sreg (fun K hK => ?_)
 simp (disch := omega) [gA, wA]
 refine W.lv [0, 1] hK fun J j => ?_; clear hK K; simp; refine j _ ?_; clear j J
 refine W.sreg (fun K hK => ?_)
 simp
 refine callR (cut_ret a (by omega)) ?_
 simp
 refine callR (cut_ret b (by omega)) ?_
 simp
 refine W.lv [0, 1] hK fun J j => ?_; clear hK K; simp; refine j _ ?_; clear j J
 have lx := Lim_cutR la; have hx := cutR_len a
 have ly := Lim_cutR lb; have hy := cutR_len b
 rw [← V_cutR a, ← V_cutR b]
 generalize cutR a = x at *
 generalize cutR b = y at *
 refine W.sreg (fun K hK => ?_)
 simp (disch := omega) [gA, wA]
 refine W.lv [0, 1, 5] hK fun J j => ?_; clear hK K; simp; refine j _ ?_; clear j J
 refine W.seq ?_
 refine W.sreg (fun K hK => ?_)
 simp (disch := omega) [gA, wA]
 refine W.lv [1, 5, 22, 23, 24] hK fun J j => ?_; clear hK K; simp; refine j _ ?_; clear j J
 refine W.block ?_
 refine W.loopG (fun k σ => ∃ (i : Nat) (z : List Int) (ver : Nat) (rows : Pm.Rows) (clk : Nat), σ = ⟨fa [(1, us y), (5, .own 21 ver 0 (x.length + y.length)), (22, us x), (23, .int .i64 x.length), (24, .int .i64 i)], rows, clk⟩ ∧
   rows 21 = some ⟨ver, 169, 1, emap u32 z⟩ ∧ k = x.length - i ∧ i ≤ x.length ∧ z.length = x.length + y.length ∧ Lim 4294967296 z ∧ (∀ j, i + y.length ≤ j → nth z j = 0) ∧
   V 4294967296 z = V 4294967296 (x.take i) * V 4294967296 y) x.length ?_ ?_
 ·have e : ((x.length : Int) + (y.length : Int)).toNat = x.length + y.length := by omega
  refine ⟨_, .refl, 0, List.replicate (x.length + y.length) 0, _, _, _, rfl, by simp [e], by omega, by omega, by simp, Lim.rep (by decide) _, fun j _ => ?_, by simp [V, V_rep]⟩
  unfold nth
  cases h : (List.replicate (x.length + y.length) (0 : Int))[j]? with
  | none => rfl
  | some v => have := List.mem_of_getElem? h; simp at this; simp [this]
 rintro k _ ⟨i, z, ver, rows, clk, rfl, hr, hk, hi, hz, lz, hz0, hV⟩
 refine W.sreg (fun K hK => ?_)
 simp (disch := omega) [gA, wA]
 refine W.lv [1, 5, 22, 23, 24, 25] hK fun J j => ?_; clear hK K; simp; refine j _ ?_; clear j J
 refine W.seq ?_
 refine W.cond ⟨_, rfl, fun h => ?_, fun h => ?_⟩
 ·simp at h
  have hxi := lx.nth h
  refine W.skip ?_
  refine W.seq_blockJ (fun σ => ∃ (z : List Int) (ver : Nat) (rows : Pm.Rows) (clk : Nat), σ = ⟨fa [(1, us y), (5, .own 21 ver 0 (x.length + y.length)), (22, us x), (23, .int .i64 x.length), (24, .int .i64 i)], rows, clk⟩ ∧
   rows 21 = some ⟨ver, 169, 1, emap u32 z⟩ ∧ z.length = x.length + y.length ∧ Lim 4294967296 z ∧ (∀ j, i + 1 + y.length ≤ j → nth z j = 0) ∧
   V 4294967296 z = V 4294967296 (x.take (i + 1)) * V 4294967296 y) ?_ ?_
  ·
   refine W.sreg (fun K hK => ?_)
   simp (disch := omega) [gA, wA]
   refine W.lv [1, 5, 6, 7, 22, 23, 24] hK fun J j => ?_; clear hK K; simp; refine j _ ?_; clear j J
   refine W.sreg (fun K hK => ?_)
   simp (disch := omega) [gA, wA]
   refine W.lv [1, 5, 6, 7, 8, 22, 23, 24] hK fun J j => ?_; clear hK K; simp; refine j _ ?_; clear j J
   refine W.seq ?_
   refine W.sreg (fun K hK => ?_)
   simp (disch := omega) [gA, wA]
   refine W.lv [1, 5, 6, 7, 8, 22, 23, 24, 29, 30, 31] hK fun J j => ?_; clear hK K; simp; refine j _ ?_; clear j J
   refine W.block ?_
   refine W.loopG (fun m σ => ∃ (k : Nat) (c : Int) (z : List Int) (ver : Nat) (rows : Pm.Rows) (clk : Nat), σ = ⟨fa [(1, us y), (5, .own 21 ver 0 (x.length + y.length)), (6, .int .i64 i), (7, .int .u32 (nth x i)), (8, .int .u64 c), (22, us x), (23, .int .i64 x.length), (24, .int .i64 i), (29, us y), (30, .int .i64 y.length), (31, .int .i64 k)], rows, clk⟩ ∧
    rows 21 = some ⟨ver, 169, 1, emap u32 z⟩ ∧ m = y.length - k ∧ k ≤ y.length ∧ z.length = x.length + y.length ∧ Lim 4294967296 z ∧ (∀ j, i + y.length ≤ j → nth z j = 0) ∧ 0 ≤ c ∧ c < 4294967296 ∧
    V 4294967296 z + 4294967296 ^ (i + k) * c = V 4294967296 (x.take i) * V 4294967296 y + 4294967296 ^ i * nth x i * V 4294967296 (y.take k)) y.length ?_ ?_
   ·exact ⟨_, .refl, 0, 0, z, ver, _, _, rfl, by simpa using hr, by omega, by omega, hz, lz, hz0, by omega, by omega, by simp [V, hV]⟩
   clear hV hz0 lz hz hr z ver rows clk
   rintro m _ ⟨k, c, z, ver, rows, clk, rfl, hr, hm, hky, hz, lz, hz0, hc0, hc1, hV⟩
   refine W.sreg (fun K hK => ?_)
   simp (disch := omega) [gA, wA]
   refine W.lv [1, 5, 6, 7, 8, 22, 23, 24, 29, 30, 31, 32] hK fun J j => ?_; clear hK K; simp; refine j _ ?_; clear j J
   refine W.seq ?_
   refine W.cond ⟨_, rfl, fun h2 => ?_, fun h2 => ?_⟩
   ·simp at h2
    have hyk := ly.nth h2
    have hzk := lz.nth (i := i + k) (by omega)
    have hp := mul_lim hxi hyk
    refine W.skip ?_
    refine W.seq ?_
    refine W.block ?_
    refine W.sreg (fun K hK => ?_)
    simp (disch := omega) [gA, wA]
    refine W.lv [1, 5, 6, 7, 8, 9, 10, 22, 23, 24, 29, 30, 31] hK fun J j => ?_; clear hK K; simp; refine j _ ?_; clear j J
    have e0 : ((i : Int) + (k : Int)).toNat = i + k := by omega
    refine W.sreg (fun K hK => ?_)
    simp (disch := omega) [gA, wA, hr, e0]
    refine W.lv [1, 5, 6, 7, 9, 11, 22, 23, 24, 29, 30, 31] hK fun J j => ?_; clear hK K; simp; refine j _ ?_; clear j J
    refine W.reg (fun K hK => ?_)
    simp (disch := omega) [gA, wA, hr, e0, wrap_u32']
    refine W.lv [1, 5, 6, 7, 8, 22, 23, 24, 29, 30, 31] hK fun J j => ?_; clear hK K; simp; refine j _ ?_; clear j J
    refine W.reg (fun K hK => ?_)
    simp (disch := omega) [gA, wA]
    have e1 := Int.emod_add_mul_ediv (nth x i * nth y k + nth z (i + k) + c) 4294967296
    have hs : 0 ≤ nth x i * nth y k + nth z (i + k) + c ∧ nth x i * nth y k + nth z (i + k) + c < 18446744073709551616 := by omega
    have hV2 := V_set (b := 4294967296) (l := z) (i := i + k) (x := (nth x i * nth y k + nth z (i + k) + c) % 4294967296) (by omega)
    refine hK _ ⟨y.length - (k + 1), _, Gh_fa _ [1, 5, 6, 7, 8, 22, 23, 24, 29, 30, 31], by omega, k + 1, _, z.set (i + k) ((nth x i * nth y k + nth z (i + k) + c) % 4294967296), ver, _, _, rfl, by simp, by omega, by omega, by simpa using hz, lz.set (by omega), fun j hj => ?_, by omega, by omega, ?_⟩
    ·rw [nth_set_ne (by omega)]; exact hz0 j hj
    ·rw [hV2, V_take_succ h2, show i + (k + 1) = (i + k) + 1 by omega, Int.pow_succ, Int.pow_add]
     rw [Int.pow_add] at hV
     grind
   ·simp at h2
    have hk' : k = y.length := by omega
    subst hk'
    refine W.exit ?_; simp only [pX, if_true, if_false, reduceIte, Nat.reduceEqDiff]
    refine W.sreg (fun K hK => ?_)
    simp (disch := omega) [gA, wA]
    refine W.lv [1, 5, 6, 8, 22, 23, 24, 63] hK fun J j => ?_; clear hK K; simp; refine j _ ?_; clear j J
    refine W.cond ⟨_, rfl, fun h3 => ?_, fun h3 => ?_⟩
    ·simp at h3
     have e0 : ((i : Int) + (y.length : Int)).toNat = i + y.length := by omega
     refine W.reg (fun K hK => ?_)
     simp (disch := omega) [gA, wA, hr, e0]
     have hV2 := V_set (b := 4294967296) (l := z) (i := i + y.length) (x := c) (by omega)
     refine hK _ ⟨_, Gh_fa _ [1, 5, 22, 23, 24], z.set (i + y.length) c, ver, _, _, rfl, by simp, by simpa using hz, lz.set (by omega), fun j hj => ?_, ?_⟩
     ·rw [nth_set_ne (by omega)]; exact hz0 j (by omega)
     ·rw [hV2, V_take_succ h, hz0 _ (Nat.le_refl _)]
      rw [V_take_all (Nat.le_refl _)] at hV
      grind
    ·simp at h3
     refine W.skip ?_
     refine ⟨_, Gh_fa _ [1, 5, 22, 23, 24], z, ver, _, _, rfl, hr, hz, lz, fun j hj => hz0 j (by omega), ?_⟩
     subst h3
     simp only [V, List.take_nil, Int.mul_zero, Int.add_zero, List.length_nil] at hV ⊢
     have h4 := V_nonneg (by decide) lz
     have h5 : 0 ≤ (4294967296 : Int) ^ i * c := Int.mul_nonneg (Int.le_of_lt (Int.pow_pos (by decide))) hc0
     simp only [Nat.add_zero] at hV
     omega
  clear hV hz0 lz hz hr z ver rows clk
  rintro _ ⟨z, ver, rows, clk, rfl, hr, hz, lz, hz0, hV⟩
  refine W.reg (fun K hK => ?_)
  simp (disch := omega) [gA, wA]
  exact hK _ ⟨x.length - (i + 1), _, Gh_fa _ [1, 5, 22, 23, 24], by omega, i + 1, z, ver, _, _, rfl, hr, by omega, by omega, hz, lz, hz0, hV⟩
 ·simp at h
  have hi' : i = x.length := by omega
  subst hi'
  have hz2 : List.take (x.length + y.length) z = z := List.take_of_length_le (by omega)
  refine W.exit ?_; simp only [pX, if_true, if_false, reduceIte, Nat.reduceEqDiff]
  refine W.sreg (fun K hK => ?_)
  simp (disch := omega) [gA, wA, hr, hz2]
  refine callR (cut_ret z (by omega)) ?_
  simp (disch := omega) [gA, wA]
  refine W.lv [4] hK fun J j => ?_; clear hK K; simp; refine j _ ?_; clear j J
  refine W.ret ?_
  rw [V_take_all (Nat.le_refl _)] at hV
  rw [← hV, ← N_cut lz]
  simp
end Go.Proofs.YtdiladmkbpnhoaaGreat
namespace Go.Proofs.YtdiladmkbpnhoaaGreat
open Go Pm
abbrev IV (neg : Bool) (l : List Int) : PV := .ag [.bool neg, us l]
def iv (neg : Bool) (l : List Int) : Int := if neg = true then - V 4294967296 l else V 4294967296 l
abbrev I (x : Int) : PV := IV (decide (x < 0)) (dig LL x.natAbs)
structure LOK (l : List Int) : Prop where
 lim : Lim 4294967296 l
 len : l.length < 1099511627776
theorem made_ret (y : Int) (hy : 0 ≤ y) (neg : Bool) : Ret env.P 155 [N y, .bool neg] (I (if neg = true then -y else y)) := by
 refine ret_of_Wf (E := env) (fun _ => 0) [(0, N y), (1, .bool neg)] Tryz.func155 rfl (by kernel_rfl) (by kernel_rfl) (show 2 ≤ 13 by decide) (by simp) ?_
 refine W.sreg (fun K hK => ?_)
 simp (disch := omega) [gA, wA]
 refine W.lv [0, 1, 4] hK fun J j => ?_; clear hK K; simp; refine j _ ?_; clear j J
 have e0 : (dig LL y.toNat = []) ↔ y = 0 := by rw [dig_eq_nil hLL]; omega
 have e : I (if neg = true then -y else y) = .ag [.bool (neg && decide (0 < (dig LL y.toNat).length)), N y] := by
  have h1 : 0 < (dig LL y.toNat).length ↔ y ≠ 0 := by
   rw [List.length_pos_iff]; simp [e0]
  have e2 : (if neg = true then -y else y).natAbs = y.toNat := by split <;> omega
  have e3 : (decide ((if neg = true then -y else y) < 0)) = (neg && decide (0 < (dig LL y.toNat).length)) := by
   cases neg
   ·simp only [Bool.false_and, Bool.false_eq_true, if_false, decide_eq_false_iff_not]; omega
   ·simp only [Bool.true_and, if_true, h1]; congr 1; apply propext; omega
  rw [I, e2, e3]
 rw [e]
 refine W.sreg (fun K hK => ?_)
 cases neg
 ·simp (disch := omega) [gA, wA]
  refine W.lv [4] hK fun J j => ?_; clear hK K; simp; refine j _ ?_; clear j J
  refine W.ret ?_
  simp [go]
 ·simp (disch := omega) [gA, wA]
  refine W.lv [4] hK fun J j => ?_; clear hK K; simp; refine j _ ?_; clear j J
  refine W.ret ?_
  simp [go]
theorem V_pos {l : List Int} (h : LOK l) : 0 ≤ V 4294967296 l := V_nonneg (by decide) h.lim
theorem wNorm_ret (n : Bool) (l : List Int) (h : LOK l) : Ret env.P 97 [IV n l] (I (iv n l)) := by
 refine ret_of_Wf (E := env) (fun _ => 0) [(0, IV n l)] Tryz.func97 rfl (by kernel_rfl) (by kernel_rfl) (show 1 ≤ 9 by decide) (by simp) ?_
 refine W.sreg (fun K hK => ?_)
 simp (disch := omega) [gA, wA]
 refine W.lv [1, 2] hK fun J j => ?_; clear hK K; simp; refine j _ ?_; clear j J
 refine W.sdrw (fun K hK => ?_)
 simp (disch := omega) [gA, wA]
 refine callR (Norm_ret l h.len h.lim) ?_
 simp (disch := omega) [gA, wA]
 refine callR (made_ret _ (V_pos h) n) ?_
 simp (disch := omega) [gA, wA]
 refine W.lv [2] hK fun J j => ?_; clear hK K; simp; refine j _ ?_; clear j J
 refine W.ret ?_
 simp [go, iv]
theorem wNeg_ret (n : Bool) (l : List Int) (h : LOK l) : Ret env.P 168 [IV n l] (I (- iv n l)) := by
 refine ret_of_Wf (E := env) (fun _ => 0) [(0, IV n l)] Tryz.func168 rfl (by kernel_rfl) (by kernel_rfl) (show 1 ≤ 10 by decide) (by simp) ?_
 have e : - iv n l = if (!n) = true then - V 4294967296 l else V 4294967296 l := by cases n <;> simp [iv]
 rw [e]
 refine W.sreg (fun K hK => ?_)
 simp (disch := omega) [gA, wA]
 refine W.lv [1, 2] hK fun J j => ?_; clear hK K; simp; refine j _ ?_; clear j J
 refine W.sdrw (fun K hK => ?_)
 simp (disch := omega) [gA, wA]
 refine callR (Norm_ret l h.len h.lim) ?_
 simp (disch := omega) [gA, wA]
 refine callR (made_ret _ (V_pos h) (!n)) ?_
 simp (disch := omega) [gA, wA]
 refine W.lv [2] hK fun J j => ?_; clear hK K; simp; refine j _ ?_; clear j J
 refine W.ret ?_
 simp [go]
theorem wMul_ret (n m : Bool) (l k : List Int) (h : LOK l) (h' : LOK k) : Ret env.P 86 [IV n l, IV m k] (I (iv n l * iv m k)) := by
 refine ret_of_Wf (E := env) (fun _ => 0) [(0, IV n l), (1, IV m k)] Tryz.func86 rfl (by kernel_rfl) (by kernel_rfl) (show 2 ≤ 16 by decide) (by simp) ?_
 have e : iv n l * iv m k = if (n != m) = true then - (V 4294967296 l * V 4294967296 k) else V 4294967296 l * V 4294967296 k := by cases n <;> cases m <;> simp [iv, Int.neg_mul, Int.mul_neg]
 rw [e]
 refine W.sreg (fun K hK => ?_)
 simp (disch := omega) [gA, wA]
 refine W.lv [2, 3, 4] hK fun J j => ?_; clear hK K; simp; refine j _ ?_; clear j J
 refine W.sdrw (fun K hK => ?_)
 simp (disch := omega) [gA, wA]
 refine callR (Mul_ret l k h.len h'.len h.lim h'.lim) ?_
 simp (disch := omega) [gA, wA]
 refine callR (made_ret _ (Int.mul_nonneg (V_pos h) (V_pos h')) (n != m)) ?_
 simp (disch := omega) [gA, wA]
 refine W.lv [4] hK fun J j => ?_; clear hK K; simp; refine j _ ?_; clear j J
 refine W.ret ?_
 simp [go]
theorem wAdd_ret (n m : Bool) (l k : List Int) (h : LOK l) (h' : LOK k) : Ret env.P 111 [IV n l, IV m k] (I (iv n l + iv m k)) := by
 refine ret_of_Wf (E := env) (fun _ => 0) [(0, IV n l), (1, IV m k)] Tryz.func111 rfl (by kernel_rfl) (by kernel_rfl) (show 2 ≤ 47 by decide) (by simp) ?_
 have p1 := V_pos h
 have p2 := V_pos h'
 refine W.sreg (fun K hK => ?_)
 simp (disch := omega) [gA, wA]
 refine W.lv [2, 3, 4] hK fun J j => ?_; clear hK K; simp; refine j _ ?_; clear j J
 refine W.seq ?_
 refine W.sreg (fun K hK => ?_)
 simp (disch := omega) [gA, wA]
 refine W.lv [2, 3, 4, 13] hK fun J j => ?_; clear hK K; simp; refine j _ ?_; clear j J
 refine W.cond ⟨_, rfl, fun hb => ?_, fun hb => ?_⟩
 ·have hb : n = m := by simpa using hb
  subst hb
  have e : iv n l + iv n k = if n = true then - (V 4294967296 l + V 4294967296 k) else V 4294967296 l + V 4294967296 k := by cases n <;> simp [iv]; omega
  rw [e]
  refine W.sdrw (fun K hK => ?_)
  simp (disch := omega) [gA, wA]
  refine callR (Add_ret l k h.len h'.len h.lim h'.lim) ?_
  simp (disch := omega) [gA, wA]
  refine callR (made_ret _ (by omega) n) ?_
  simp (disch := omega) [gA, wA]
  refine W.lv [4] hK fun J j => ?_; clear hK K; simp; refine j _ ?_; clear j J
  refine W.ret ?_
  simp [go]
 ·have hb : m = !n := by cases n <;> cases m <;> simp_all
  subst hb
  refine W.skip ?_
  refine W.seq ?_
  refine W.sreg (fun K hK => ?_)
  simp (disch := omega) [gA, wA]
  refine callR (Sub_ret l k h.len h'.len h.lim h'.lim) ?_
  by_cases hlt : V 4294967296 l < V 4294967296 k
  ·simp (disch := omega) [gA, wA, subR, hlt]
   refine W.lv [2, 3, 4, 5, 6] hK fun J j => ?_; clear hK K; simp; refine j _ ?_; clear j J
   refine W.sreg (fun K hK => ?_)
   simp (disch := omega) [gA, wA]
   refine W.lv [2, 3, 4, 5, 30] hK fun J j => ?_; clear hK K; simp; refine j _ ?_; clear j J
   refine W.cond ⟨_, rfl, fun hb => ?_, fun hb => ?_⟩
   ·cases hb
   ·refine W.skip ?_
    refine W.sreg (fun K hK => ?_)
    simp (disch := omega) [gA, wA]
    refine callR (Sub_ret k l h'.len h.len h'.lim h.lim) ?_
    rw [subR, if_neg (by omega)]
    simp (disch := omega) [gA, wA]
    refine W.lv [3, 4, 7] hK fun J j => ?_; clear hK K; simp; refine j _ ?_; clear j J
    refine W.sreg (fun K hK => ?_)
    simp (disch := omega) [gA, wA]
    refine callR (made_ret _ (by omega) (!n)) ?_
    simp (disch := omega) [gA, wA]
    refine W.lv [4] hK fun J j => ?_; clear hK K; simp; refine j _ ?_; clear j J
    refine W.ret ?_
    have e : iv n l + iv (!n) k = if (!n) = true then - (V 4294967296 k - V 4294967296 l) else V 4294967296 k - V 4294967296 l := by cases n <;> simp [iv] <;> omega
    rw [e]
    simp [go]
  ·simp (disch := omega) [gA, wA, subR, hlt]
   refine W.lv [2, 3, 4, 5, 6] hK fun J j => ?_; clear hK K; simp; refine j _ ?_; clear j J
   refine W.sreg (fun K hK => ?_)
   simp (disch := omega) [gA, wA]
   refine W.lv [2, 3, 4, 5, 30] hK fun J j => ?_; clear hK K; simp; refine j _ ?_; clear j J
   refine W.cond ⟨_, rfl, fun hb => ?_, fun hb => ?_⟩
   ·refine W.sreg (fun K hK => ?_)
    simp (disch := omega) [gA, wA]
    refine callR (made_ret _ (by omega) n) ?_
    simp (disch := omega) [gA, wA]
    refine W.lv [4] hK fun J j => ?_; clear hK K; simp; refine j _ ?_; clear j J
    refine W.ret ?_
    have e : iv n l + iv (!n) k = if n = true then - (V 4294967296 l - V 4294967296 k) else V 4294967296 l - V 4294967296 k := by cases n <;> simp [iv] <;> omega
    rw [e]
    simp [go]
   ·cases hb
theorem wSub_ret (n m : Bool) (l k : List Int) (h : LOK l) (h' : LOK k) : Ret env.P 175 [IV n l, IV m k] (I (iv n l - iv m k)) := by
 refine ret_of_Wf (E := env) (fun _ => 0) [(0, IV n l), (1, IV m k)] Tryz.func175 rfl (by kernel_rfl) (by kernel_rfl) (show 2 ≤ 12 by decide) (by simp) ?_
 have e : iv n l - iv m k = iv n l + iv (!m) k := by cases m <;> simp [iv] <;> omega
 rw [e]
 refine W.sreg (fun K hK => ?_)
 simp (disch := omega) [gA, wA]
 refine W.lv [2, 3, 4] hK fun J j => ?_; clear hK K; simp; refine j _ ?_; clear j J
 refine W.sreg (fun K hK => ?_)
 simp (disch := omega) [gA, wA]
 refine W.lv [2, 3, 4] hK fun J j => ?_; clear hK K; simp; refine j _ ?_; clear j J
 refine W.sreg (fun K hK => ?_)
 simp (disch := omega) [gA, wA]
 refine callR (wAdd_ret n (!m) l k h h') ?_
 simp (disch := omega) [gA, wA]
 refine W.lv [4] hK fun J j => ?_; clear hK K; simp; refine j _ ?_; clear j J
 refine W.ret ?_
 simp [go]
theorem Of_ret (n : Int) (h1 : -9223372036854775808 ≤ n) (h2 : n < 9223372036854775808) : Ret env.P 108 [.int .i64 n] (I n) := by
 refine ret_of_Wf (E := env) (fun _ => 0) [(0, .int .i64 n)] Tryz.func108 rfl (by kernel_rfl) (by kernel_rfl) (show 1 ≤ 20 by decide) (by simp) ?_
 refine W.sreg (fun K hK => ?_)
 simp (disch := omega) [gA, wA]
 refine W.lv [0, 2] hK fun J j => ?_; clear hK K; simp; refine j _ ?_; clear j J
 refine W.sreg (fun K hK => ?_)
 simp (disch := omega) [gA, wA, wrap_u64']
 refine W.lv [0, 2, 3] hK fun J j => ?_; clear hK K; simp; refine j _ ?_; clear j J
 refine W.seqJ (fun σ => ∃ (w : Int) (rows : Pm.Rows) (clk : Nat), σ = ⟨fa [(0, .int .i64 n), (2, .ptr 2 0 0 0), (3, .int .u64 w)], rows, clk⟩ ∧ rows 2 = some ⟨0, 27, 2, [[.bool false, .nil]]⟩ ∧ w = n.natAbs ∧ 0 ≤ w ∧ w < 18446744073709551616) ?_ ?_
 ·
  refine W.sreg (fun K hK => ?_)
  simp (disch := omega) [gA, wA]
  refine W.lv [0, 2, 3, 7] hK fun J j => ?_; clear hK K; simp; refine j _ ?_; clear j J
  refine W.cond ⟨_, rfl, fun h => ?_, fun h => ?_⟩
  ·simp at h
   refine W.reg (fun K hK => ?_)
   simp [wrap_u64']
   exact hK _ ⟨_, Gh_fa _ [0, 2, 3], _, _, _, rfl, by simp, by omega, by omega, by omega⟩
  ·simp at h
   refine W.skip ?_
   exact ⟨_, Gh_fa _ [0, 2, 3], _, _, _, rfl, by simp, by omega, by omega, by omega⟩
 rintro _ ⟨w, rows, clk, rfl, hr, hw, hw0, hw1⟩
 refine W.sreg (fun K hK => ?_)
 have e1 : V 4294967296 [w % 4294967296, w / 4294967296 % 4294967296] = w := by simp [V]; omega
 have lm : Lim 4294967296 [w % 4294967296, w / 4294967296 % 4294967296] := by
  intro x hx; simp at hx; omega
 simp [wrap_u32', hr]
 refine callR (Norm_ret [w % 4294967296, w / 4294967296 % 4294967296] (by simp) lm) ?_
 rw [e1]
 simp (disch := omega) [gA, wA, hr]
 refine callR (made_ret w hw0 (decide (n < 0))) ?_
 simp (disch := omega) [gA, wA, hr]
 refine W.lv [2] hK fun J j => ?_; clear hK K; simp; refine j _ ?_; clear j J
 refine W.ret ?_
 have e : (if n < 0 then -w else w) = n := by split <;> omega
 rw [e]
 simp [go]
end Go.Proofs.YtdiladmkbpnhoaaGreat
namespace Go.Proofs.YtdiladmkbpnhoaaGreat
open Go Pm
def ge (p : Bool × List Int) : List PV := [.bool p.1, us p.2]
def ie (x : Int) : List PV := [.bool (decide (x < 0)), us (dig LL x.natAbs)]
@[simp] theorem ge_def {p : Bool × List Int} : ge p = [.bool p.1, us p.2] := rfl
@[simp] theorem ie_def {x : Int} : ie x = [.bool (decide (x < 0)), us (dig LL x.natAbs)] := rfl
@[simp] theorem lenAll_ge {l : List (Bool × List Int)} : lenAll 2 (emap ge l) = True := lenAll_emap fun _ => rfl
@[simp] theorem lenAll_ie {l : List Int} : lenAll 2 (emap ie l) = True := lenAll_emap fun _ => rfl
@[simp] theorem rowPers_ie {v e n : Nat} {l : List Int} : rowPers (some ⟨v, e, n, emap ie l⟩) = True := rowPers_emap fun _ => rfl
@[simp] theorem rowPers_ge {v e n : Nat} {l : List (Bool × List Int)} : rowPers (some ⟨v, e, n, emap ge l⟩) = True := rowPers_emap fun _ => rfl
theorem setEl_g {α : Type} {g : α → List PV} {n : Nat} (hg : Enc g n) {l : List α} {i : Nat} {x : α} : setEl (emap g l) i 0 (g x) = emap g (l.set i x) := by
 simp only [setEl, emap, List.map_set]
 by_cases h : i < l.length
 ·have : (g l[i]).length = n := hg _
  have h2 : (g x).length = n := hg _
  simp [h, List.drop_of_length_le, this, h2]
 ·rw [List.set_eq_of_length_le (by simp; omega), List.set_eq_of_length_le (by simp; omega)]
@[simp] theorem setEl_ie {l : List Int} {i : Nat} {x : Int} : setEl (emap ie l) i 0 [.bool (decide (x < 0)), us (dig LL x.natAbs)] = emap ie (l.set i x) := setEl_g (n := 2) (fun _ => rfl)
@[simp] theorem emap_append {α : Type} {g : α → List PV} {l k : List α} : emap g l ++ emap g k = emap g (l ++ k) := by simp [emap]
abbrev Po (l : List Int) : PV := sls ie l
abbrev Pg (l : List (Bool × List Int)) : PV := sls ge l
def gv (p : Bool × List Int) : Int := iv p.1 p.2
def rw' (x : Int) : Bool × List Int := (decide (x < 0), dig LL x.natAbs)
theorem Po_eq (l : List Int) : Po l = Pg (l.map rw') := by simp [sls, emap, rw']
theorem gv_rw (x : Int) : gv (rw' x) = x := by
 simp only [gv, rw', iv, V_dig hLL]
 have := V_dig hLL x.natAbs
 simp only [show ((LL : Nat) : Int) = 4294967296 from rfl] at this
 rw [this]
 by_cases h : x < 0 <;> simp [h] <;> omega
theorem map_gv_rw (l : List Int) : (l.map rw').map gv = l := by simp [Function.comp_def, gv_rw]
theorem row_ie (k : Nat) : All2 (All2 fun q p => Wk p q) (emap ie (List.replicate k 0)) (List.replicate k [.bool false, .nil]) := by
 have : emap ie (List.replicate k 0) = List.replicate k (ie 0) := by simp [emap]
 rw [this]
 exact All2_rep ⟨.inl rfl, .inr ⟨rfl, rfl⟩, trivial⟩ k
structure POK (l : List (Bool × List Int)) : Prop where
 ok : ∀ p ∈ l, LOK p.2
 len : l.length < 1099511627776
theorem POK.nth {l : List (Bool × List Int)} (h : POK l) {i : Nat} (hi : i < l.length) : LOK (nth l i).2 := h.ok _ (nth_mem hi)
def Sz (x : Int) : Prop := sz LL x < 1099511627776
theorem Sz.lok {x : Int} (h : Sz x) : LOK (dig LL x.natAbs) := ⟨Lim_dig hLL _, h⟩
theorem POK.of_norm {l : List Int} (h : ∀ x ∈ l, Sz x) (hl : l.length < 1099511627776) : POK (l.map rw') := ⟨fun p hp => by
 simp only [List.mem_map] at hp
 obtain ⟨x, hx, rfl⟩ := hp
 exact (h x hx).lok, by simpa using hl⟩
theorem Zero_ret (n : Bool) (l : List Int) : Ret env.P 60 [IV n l] (.bool (decide (l.length = 0))) := by
 refine ret_of_Wf (E := env) (fun _ => 0) [(0, IV n l)] Tryz.func60 rfl (by kernel_rfl) (by kernel_rfl) (show 1 ≤ 7 by decide) (by simp) ?_
 refine W.sreg (fun K hK => ?_)
 simp (disch := omega) [gA, wA]
 refine W.lv [1] hK fun J j => ?_; clear hK K; simp; refine j _ ?_; clear j J
 refine W.sreg (fun K hK => ?_)
 simp (disch := omega) [gA, wA]
 refine W.lv [2] hK fun J j => ?_; clear hK K; simp; refine j _ ?_; clear j J
 refine W.ret ?_
 simp [go]
 cases l <;> simp <;> omega
theorem pcut_ret (l : List Int) (hl : l.length < 17592186044416) : Ret env.P 109 [Po l] (Po (cutR l)) := by
 refine ret_of_Wf (E := env) (fun _ => 0) [(0, Po l)] Tryz.func109 rfl (by kernel_rfl) (by kernel_rfl) (show 1 ≤ 21 by decide) (by simp) ?_
 refine W.sreg (fun K hK => ?_)
 simp (disch := omega) [gA, wA]
 refine W.lv [0] hK fun J j => ?_; clear hK K; simp; refine j _ ?_; clear j J
 refine W.sreg (fun K hK => ?_)
 simp (disch := omega) [gA, wA]
 refine W.lv [0, 3] hK fun J j => ?_; clear hK K; simp; refine j _ ?_; clear j J
 refine W.seq (W.block ?_)
 refine W.loopG (fun k σ => ∃ (rows : Pm.Rows) (clk : Nat), σ = ⟨fa [(0, Po l), (3, .int .i64 (k : Int))], rows, clk⟩ ∧ k ≤ l.length ∧ cutR l = cutR (l.take k)) l.length ?_ ?_
 ·exact ⟨_, .refl, _, _, rfl, by omega, by simp⟩
 rintro k _ ⟨rows, clk, rfl, hk, hc⟩
 refine W.seq ?_
 refine W.sregJ (fun σ => ∃ (b : Bool), σ = ⟨fa [(0, Po l), (3, .int .i64 (k : Int)), (15, .bool b)], rows, clk⟩ ∧ (b = true ↔ 0 < k ∧ nth l (k - 1) = 0)) (fun K hK => ?_) ?_
 ·simp
  by_cases h0 : 0 < k
  ·simp (disch := omega) [gA, wA, h0]
   refine callR (Zero_ret _ (dig LL (nth l (k - 1)).natAbs)) ?_
   simp (disch := omega) [gA, wA, h0]
   have e : (dig LL (nth l (k - 1)).natAbs).length = 0 ↔ nth l (k - 1) = 0 := by
    rw [List.length_eq_zero_iff, dig_eq_nil hLL]; omega
   refine hK _ _ (Gh_fa _ [0, 3, 15]) ⟨_, rfl, ?_⟩
   simp [h0, ← e]
  ·simp (disch := omega) [gA, wA, h0]
   exact hK _ _ (Gh_fa _ [0, 3, 15]) ⟨_, rfl, by simp [h0]⟩
 rintro _ ⟨b, rfl, hb⟩
 refine W.cond ⟨_, rfl, fun h => ?_, fun h => ?_⟩
 ·obtain ⟨h0, h1⟩ := hb.1 h
  refine W.skip (W.block ?_)
  refine W.reg (fun K hK => ?_)
  simp (disch := omega) [gA, wA]
  refine hK _ ⟨k - 1, _, Gh.fr [(0, _), (3, .int .i64 ((k - 1 : Nat) : Int))] (by simp; omega), by omega, _, _, rfl, by omega, ?_⟩
  rw [hc, show k = (k - 1) + 1 by omega, take_succ_nth (by omega), h1, cutR_zero]
  simp
 ·have h2 : cutR l = l.take k := by
   rw [hc]
   by_cases h0 : 0 < k
   ·have h1 : nth l (k - 1) ≠ 0 := fun h1 => by simp [hb.2 ⟨h0, h1⟩] at h
    rw [show k = (k - 1) + 1 by omega, take_succ_nth (by omega)]
    exact cutR_ne h1 _
   ·have : k = 0 := by omega
    subst this; simp [cutR]
  refine W.exit ?_
  simp only [pX, if_true, if_false, reduceIte, Nat.reduceEqDiff]
  refine W.sreg (fun K hK => ?_)
  simp (disch := omega) [gA, wA]
  refine W.lv [2] hK fun J j => ?_; clear hK K; simp; refine j _ ?_; clear j J
  refine W.ret ?_
  simp [go, h2]
theorem pNorm_ret (l : List (Bool × List Int)) (h : POK l) : Ret env.P 110 [Pg l] (Po (cutR (l.map gv))) := by
 refine ret_of_Wf (E := env) (fun _ => 0) [(0, Pg l)] Tryz.func110 rfl (by kernel_rfl) (by kernel_rfl) (show 1 ≤ 24 by decide) (by simp) ?_
 have hl := h.len
 refine W.sreg (fun K hK => ?_)
 simp (disch := omega) [gA, wA]
 refine W.lv [0] hK fun J j => ?_; clear hK K; simp; refine j _ ?_; clear j J
 refine W.sreg (fun K hK => ?_)
 simp (disch := omega) [gA, wA]
 refine W.lv [0, 3] hK fun J j => ?_; clear hK K; simp; refine j _ ?_; clear j J
 refine W.row (id := 8) (emap ie (List.replicate l.length 0)) (by simp; exact ⟨rfl, rfl, rfl⟩) (row_ie _) ?_
 refine W.seq ?_
 refine W.sreg (fun K hK => ?_)
 simp (disch := omega) [gA, wA]
 refine W.lv [3, 9, 10, 11] hK fun J j => ?_; clear hK K; simp; refine j _ ?_; clear j J
 refine W.block ?_
 refine W.loopG (fun k σ => ∃ (i : Nat) (z : List Int) (ver : Nat) (rows : Pm.Rows) (clk : Nat), σ = ⟨fa [(3, .own 8 ver 0 l.length), (9, Pg l), (10, .int .i64 l.length), (11, .int .i64 i)], rows, clk⟩ ∧
  rows 8 = some ⟨ver, 27, 2, emap ie z⟩ ∧ k = l.length - i ∧ i ≤ l.length ∧ z.length = l.length ∧ z.take i = (l.take i).map gv) l.length ?_ ?_
 ·exact ⟨_, .refl, 0, List.replicate l.length 0, _, _, _, rfl, by simp, by omega, by omega, by simp, by simp⟩
 rintro k _ ⟨i, z, ver, rows, clk, rfl, hr, hk, hi, hz, hv⟩
 refine W.sreg (fun K hK => ?_)
 simp (disch := omega) [gA, wA]
 refine W.lv [3, 9, 10, 11, 12] hK fun J j => ?_; clear hK K; simp; refine j _ ?_; clear j J
 refine W.seq ?_
 refine W.cond ⟨_, rfl, fun hlt => ?_, fun hlt => ?_⟩
 ·simp at hlt
  refine W.skip ?_
  refine W.seq ?_
  refine W.block ?_
  refine W.sreg (fun K hK => ?_)
  simp (disch := omega) [gA, wA, hr]
  refine W.lv [3, 4, 5, 9, 10, 11] hK fun J j => ?_; clear hK K; simp; refine j _ ?_; clear j J
  refine W.reg (fun K hK => ?_)
  simp (disch := omega) [gA, wA, hr]
  refine callR (wNorm_ret _ _ (h.nth hlt)) ?_
  simp (disch := omega) [gA, wA, hr]
  refine W.lv [3, 9, 10, 11] hK fun J j => ?_; clear hK K; simp; refine j _ ?_; clear j J
  refine W.reg (fun K hK => ?_)
  simp (disch := omega) [gA, wA]
  refine hK _ ⟨l.length - (i + 1), _, Gh_fa _ [3, 9, 10, 11], by omega, i + 1, z.set i (iv (nth l i).1 (nth l i).2), ver, _, _, rfl, by simp, by omega, by omega, by simpa using hz, ?_⟩
  rw [set_take hv (by omega), map_take_succ hlt]; rfl
 ·simp at hlt
  have hi' : i = l.length := by omega
  subst hi'
  refine W.exit ?_; simp only [pX, if_true, if_false, reduceIte, Nat.reduceEqDiff]
  rw [take_all hz] at hv
  have hz2 := take_all hz
  refine W.sreg (fun K hK => ?_)
  simp (disch := omega) [gA, wA, hr, hz2]
  refine callR (pcut_ret z (by omega)) ?_
  simp (disch := omega) [gA, wA]
  refine W.lv [2] hK fun J j => ?_; clear hK K; simp; refine j _ ?_; clear j J
  refine W.ret ?_
  simp at hv
  simp [go, hv]
theorem at_ret (l : List (Bool × List Int)) (k : Nat) (hl : l.length < 1099511627776) (hk : k < 9223372036854775808) : Ret env.P 154 [Pg l, .int .i64 k] (.ag (ge (nth l k))) := by
 refine ret_of_Wf (E := env) (fun _ => 0) [(0, Pg l), (1, .int .i64 k)] Tryz.func154 rfl (by kernel_rfl) (by kernel_rfl) (show 2 ≤ 14 by decide) (by simp) ?_
 refine W.sreg (fun K hK => ?_)
 simp (disch := omega) [gA, wA]
 refine W.lv [0, 1, 4] hK fun J j => ?_; clear hK K; simp; refine j _ ?_; clear j J
 refine W.seq ?_
 refine W.sreg (fun K hK => ?_)
 simp (disch := omega) [gA, wA]
 refine W.lv [0, 1, 4, 8] hK fun J j => ?_; clear hK K; simp; refine j _ ?_; clear j J
 refine W.cond ⟨_, rfl, fun h => ?_, fun h => ?_⟩
 ·simp at h
  refine W.sreg (fun K hK => ?_)
  simp (disch := omega) [gA, wA]
  refine W.lv [4] hK fun J j => ?_; clear hK K; simp; refine j _ ?_; clear j J
  refine W.ret ?_
  simp [go]
 ·simp at h
  refine W.skip ?_
  refine W.sreg (fun K hK => ?_)
  simp (disch := omega) [gA, wA]
  refine W.lv [4] hK fun J j => ?_; clear hK K; simp; refine j _ ?_; clear j J
  refine W.ret ?_
  rw [nth_ge h]
  simp [go]
  exact ⟨rfl, rfl⟩
theorem each_ret (g : FuncId) (hw : mutF g = false) (caps : List PV) (hc : caps.all pers = true) (n : Nat) (hn : n < 1099511627776) (val : Nat → Int) (hg : ∀ k, k < n → Ret env.P g (.int .i64 (k : Int) :: caps) (I (val k))) :
  Ret env.P 151 [.int .i64 n, .fn g caps] (Po (cutR ((List.range n).map val))) := by
 refine ret_of_Wf (E := env) (fun _ => 0) [(0, .int .i64 n), (1, .fn g caps)] Tryz.func151 rfl (by kernel_rfl) (by kernel_rfl) (show 2 ≤ 23 by decide) (by simp) ?_
 refine W.sreg (fun K hK => ?_)
 simp (disch := omega) [gA, wA]
 refine W.lv [0, 1] hK fun J j => ?_; clear hK K; simp; refine j _ ?_; clear j J
 refine W.sreg (fun K hK => ?_)
 simp (disch := omega) [gA, wA]
 refine W.lv [1, 5] hK fun J j => ?_; clear hK K; simp; refine j _ ?_; clear j J
 refine W.row (id := 8) (emap ie (List.replicate n 0)) (by simp; exact ⟨rfl, rfl, rfl⟩) (row_ie _) ?_
 refine W.seq ?_
 refine W.sreg (fun K hK => ?_)
 simp (disch := omega) [gA, wA]
 refine W.lv [1, 5, 10, 11] hK fun J j => ?_; clear hK K; simp; refine j _ ?_; clear j J
 refine W.block ?_
 refine W.loopG (fun k σ => ∃ (i : Nat) (z : List Int) (ver : Nat) (rows : Pm.Rows) (clk : Nat), σ = ⟨fa [(1, .fn g caps), (5, .own 8 ver 0 n), (10, .int .i64 n), (11, .int .i64 i)], rows, clk⟩ ∧
  rows 8 = some ⟨ver, 27, 2, emap ie z⟩ ∧ k = n - i ∧ i ≤ n ∧ z.length = n ∧ z.take i = (List.range i).map val) n ?_ ?_
 ·exact ⟨_, .refl, 0, List.replicate n 0, _, _, _, rfl, by simp, by omega, by omega, by simp, by simp⟩
 rintro k _ ⟨i, z, ver, rows, clk, rfl, hr, hk, hi, hz, hv⟩
 refine W.sreg (fun K hK => ?_)
 simp (disch := omega) [gA, wA]
 refine W.lv [1, 5, 10, 11, 12] hK fun J j => ?_; clear hK K; simp; refine j _ ?_; clear j J
 refine W.seq ?_
 refine W.cond ⟨_, rfl, fun h => ?_, fun h => ?_⟩
 ·simp at h
  refine W.skip ?_
  refine W.seq ?_
  refine W.block ?_
  refine W.sreg (fun K hK => ?_)
  simp (disch := omega) [gA, wA]
  refine W.lv [1, 5, 6, 10, 11] hK fun J j => ?_; clear hK K; simp; refine j _ ?_; clear j J
  refine W.reg (fun K hK => ?_)
  simp (disch := omega) [gA, wA, hr, -mutF, hw]
  refine callR (hg i h) ?_
  simp (disch := omega) [gA, wA, hr]
  refine W.lv [1, 5, 10, 11] hK fun J j => ?_; clear hK K; simp; refine j _ ?_; clear j J
  refine W.reg (fun K hK => ?_)
  simp (disch := omega) [gA, wA]
  refine hK _ ⟨n - (i + 1), _, Gh_fa _ [1, 5, 10, 11], by omega, i + 1, z.set i (val i), ver, _, _, rfl, by simp, by omega, by omega, by simpa using hz, ?_⟩
  rw [set_take hv (by omega), List.range_succ]; simp
 ·simp at h
  have hi' : i = n := by omega
  subst hi'
  refine W.exit ?_; simp only [pX, if_true, if_false, reduceIte, Nat.reduceEqDiff]
  rw [take_all hz] at hv
  have hz2 := take_all hz
  refine W.sreg (fun K hK => ?_)
  simp (disch := omega) [gA, wA, hr, hz2]
  refine callR (pcut_ret z (by omega)) ?_
  simp (disch := omega) [gA, wA]
  refine W.lv [4] hK fun J j => ?_; clear hK K; simp; refine j _ ?_; clear j J
  refine W.ret ?_
  simp [go, hv]
end Go.Proofs.YtdiladmkbpnhoaaGreat
