import Derived.Test.YtdiladmkbpnhoaaGreatLbe
import Derived.Test.YtdiladmkbpnhoaaGreatLw
import Derived.Test.YtdiladmkbpnhoaaGreatLin
set_option linter.unusedSimpArgs false
set_option linter.unusedVariables false
namespace Go.Proofs.YtdiladmkbpnhoaaGreat
open Go Pm
structure PD (x : List Int) : Prop where
 sz : ∀ v ∈ x, sz LL v < 1099511627774
 len : x.length < 1099511627774
theorem PD.pb {x : List Int} (h : PD x) : PB x := ⟨fun v hv => by have := h.sz v hv; show Pm.sz LL v < _; omega, by have := h.len; omega⟩
theorem PD.of {s n : Nat} {x : List Int} (h : Bd LL s n x) (hs : s < 1099511627774) (hn : n < 1099511627774) : PD x := ⟨fun v hv => Nat.lt_of_le_of_lt (h.sz v hv) hs, Nat.lt_of_le_of_lt h.len hn⟩
theorem PD.cut {x : List Int} (h : PD x) : PD (cutR x) := ⟨fun v hv => h.sz v (cutR_sub x v hv), Nat.lt_of_le_of_lt (cutR_len x) h.len⟩
theorem V_digA (v : Int) : V 4294967296 (dig LL v.natAbs) = v.natAbs := V_dig hLL v.natAbs
theorem wExactI {v c : Int} (hv : sz LL v < 1099511627774) (hc : sz LL c < 1099511627774) (h0 : c ≠ 0) : Ret env.P 169 [I v, I c] (if v % c = 0 then .tup [I (v / c), .int .i64 0] else .tup [I 0, .int .i64 3]) := by
 have := wExact_ret (decide (v < 0)) (decide (c < 0)) (dig LL v.natAbs) (dig LL c.natAbs) ⟨Lim_dig hLL _, by unfold sz at hv; omega⟩ ⟨Lim_dig hLL _, by unfold sz at hc; omega⟩ hv hc (by rw [V_digA]; omega)
 rwa [iv_I, iv_I] at this
def exq (c v : Int) : Int := if v % c = 0 then v / c else 0
theorem over_ret (x : List Int) (c : Int) (hx : PD x) (hc : sz LL c < 1099511627774) (h0 : c ≠ 0) : Ret env.P 187 [Po x, I c] (Po (cutR (x.map (exq c)))) := by
 have hxl := hx.len
 refine ret_of_Wf (E := env) (fun _ => 0) [(0, Po x), (1, I c)] Tryz.func187 rfl (by kernel_rfl) (by kernel_rfl) (show 2 ≤ 30 by decide) (by simp) ?_
 refine W.sreg (fun K hK => ?_); simp (disch := omega) [gA, wA]; refine W.lv [0, 3] hK fun J j => ?_; clear hK K; simp; refine j _ ?_; clear j J
 refine W.sreg (fun K hK => ?_); simp (disch := omega) [gA, wA]; refine W.lv [0, 3, 5] hK fun J j => ?_; clear hK K; simp; refine j _ ?_; clear j J
 refine W.row (id := 10) (emap ie (List.replicate x.length 0)) (by simp; exact ⟨rfl, rfl, rfl⟩) (row_ie _) ?_
 refine W.seq ?_
 refine W.sreg (fun K hK => ?_); simp (disch := omega) [gA, wA]; refine W.lv [3, 5, 11, 12, 13] hK fun J j => ?_; clear hK K; simp; refine j _ ?_; clear j J
 refine W.block ?_
 refine W.loopG (fun q σ => ∃ (i : Nat) (z : List Int) (v10 : Nat) (rows : Pm.Rows) (clk : Nat), σ = ⟨fa [(3, .ptr 3 0 0 0), (5, .own 10 v10 0 x.length), (11, Po x), (12, .int .i64 x.length), (13, .int .i64 i)], rows, clk⟩ ∧
  rows 3 = some ⟨0, 27, 2, [ie c]⟩ ∧ rows 10 = some ⟨v10, 27, 2, emap ie z⟩ ∧ q = x.length - i ∧ i ≤ x.length ∧ z.length = x.length ∧ z.take i = (x.take i).map (exq c)) x.length ?_ ?_
 ·exact ⟨_, .refl, 0, List.replicate x.length 0, _, _, _, rfl, by simp, by simp, by omega, by omega, by simp, by simp⟩
 rintro q _ ⟨i, z, v10, rows, clk, rfl, hr3, hr10, hq, hi, hz, hv⟩
 refine W.sreg (fun K hK => ?_); simp (disch := omega) [gA, wA]; refine W.lv [3, 5, 11, 12, 13, 14] hK fun J j => ?_; clear hK K; simp; refine j _ ?_; clear j J
 refine W.seq ?_
 refine W.cond ⟨_, rfl, fun h => ?_, fun h => ?_⟩
 ·have hi : i < x.length := by simp at h; omega
  have hE := wExactI (hx.sz _ (nth_mem hi)) hc h0
  have hE2 : Ret env.P 169 [I (nth x i), I c] (.tup [I (exq c (nth x i)), .int .i64 (if nth x i % c = 0 then 0 else 3)]) := by
   unfold exq
   split at hE
   ·rename_i h1; rw [if_pos h1, if_pos h1]; exact hE
   ·rename_i h1; rw [if_neg h1, if_neg h1]; exact hE
  have hts : (x.take (i + 1)).map (exq c) = (x.take i).map (exq c) ++ [exq c (nth x i)] := by rw [take_succ_nth hi]; simp
  generalize (if nth x i % c = 0 then (0 : Int) else 3) = er at *
  generalize exq c (nth x i) = ev at *
  generalize hxe : nth x i = xi at *
  refine W.skip ?_
  refine W.seq ?_
  refine W.block ?_
  refine W.sreg (fun K hK => ?_); simp (disch := omega) [gA, wA, hxe]; refine W.lv [3, 5, 6, 7, 11, 12, 13] hK fun J j => ?_; clear hK K; simp; refine j _ ?_; clear j J
  refine W.reg (fun K hK => ?_)
  simp (disch := omega) [gA, wA, hr3]
  refine callR hE2 ?_
  simp (disch := omega) [gA, wA, hr10, hz]
  refine W.lv [3, 5, 11, 12, 13] hK fun J j => ?_; clear hK K; simp; refine j _ ?_; clear j J
  refine W.reg (fun K hK => ?_); simp (disch := omega) [gA, wA]
  refine hK _ ⟨x.length - (i + 1), _, Gh_fa _ [3, 5, 11, 12, 13], by omega, i + 1, z.set i ev, v10, _, _, rfl, by simp [hr3], by simp, by omega, by omega, by simp [hz], ?_⟩
  rw [set_take hv (by omega), hts]
 ·have hi : i = x.length := by simp at h; omega
  subst hi
  rw [take_all hz, List.take_length] at hv
  have hz2 := take_all hz
  refine W.exit ?_; simp only [pX, if_true, if_false, reduceIte, Nat.reduceEqDiff]
  have hzb : PB z := by
   rw [hv]
   refine ⟨fun v hv => ?_, by simpa using by omega⟩
   simp only [List.mem_map] at hv
   obtain ⟨w, hw, rfl⟩ := hv
   have h1 := hx.sz w hw
   show sz LL (exq c w) < 1099511627776
   refine Nat.lt_of_le_of_lt (sz_mono hLL (y := w) ?_) (by omega)
   unfold exq; split
   ·exact Int.natAbs_ediv_le_natAbs _ _
   ·simp
  have hN := pNormI_ret hzb
  rw [hv] at hN hr10 hz2
  generalize x.map (exq c) = y at *
  have hyl : y.length = x.length := by rw [← hv]; exact hz
  refine W.sreg (fun K hK => ?_)
  simp (disch := omega) [gA, wA, hr10, hz2]
  refine callR hN ?_
  simp (disch := omega) [gA, wA]
  refine W.lv [4] hK fun J j => ?_; clear hK K; simp; refine j _ ?_; clear j J
  refine W.ret ?_
  simp [go]
theorem Content_ret (l : List RP) (K0 : Nat) (hK0 : K0 < 1099511627774) (hp : ∀ p ∈ l, ∀ c ∈ p, Lim 4294967296 c.2 ∧ c.2.length ≤ K0) (hl : l.length < 1099511627776) (hf : l.flatten.length < 1099511627776) :
  Ret env.P 186 [sls pe l] (I (gcdL (l.flatten.map gv))) := by
 refine ret_of_Wf (E := env) (fun _ => 0) [(0, sls pe l)] Tryz.func186 rfl (by kernel_rfl) (by kernel_rfl) (show 1 ≤ 18 by decide) (by simp) ?_
 refine W.sreg (fun K hK => ?_); simp (disch := omega) [gA, wA]; refine W.lv [0, 2] hK fun J j => ?_; clear hK K; simp; refine j _ ?_; clear j J
 refine W.sreg (fun K hK => ?_); simp (disch := omega) [gA, wA]; refine W.lv [0, 2, 3] hK fun J j => ?_; clear hK K; simp; refine j _ ?_; clear j J
 refine W.nil 3 3 27 2 (by simp) (by decide) (fun K hK => ?_)
 refine W.lv [0, 2, 3] hK fun J j => ?_; clear hK K; simp; refine j _ ?_; clear j J
 refine W.seq ?_
 refine W.sreg (fun K hK => ?_); simp (disch := omega) [gA, wA]; refine W.lv [2, 3, 6, 7, 8] hK fun J j => ?_; clear hK K; simp; refine j _ ?_; clear j J
 refine W.block ?_
 refine W.loopG (fun q σ => ∃ (i v3 : Nat) (A : RP) (rows : Pm.Rows) (clk : Nat), σ = ⟨fa [(2, .ptr 2 0 0 0), (3, .own 3 v3 0 A.length), (6, sls pe l), (7, .int .i64 l.length), (8, .int .i64 i)], rows, clk⟩ ∧
  rows 2 = some ⟨0, 27, 2, [[.bool false, .nil]]⟩ ∧ rows 3 = some ⟨v3, 27, 2, emap ge A⟩ ∧ q = l.length - i ∧ i ≤ l.length ∧ A = (l.take i).flatten) l.length ?_ ?_
 ·exact ⟨_, .refl, 0, _, [], _, _, rfl, by simp, by simp [emap], by omega, by omega, by simp⟩
 rintro q _ ⟨i, v3, A, rows, clk, rfl, hr2, hr3, hq, hi, hA⟩
 refine W.sreg (fun K hK => ?_); simp (disch := omega) [gA, wA]; refine W.lv [2, 3, 6, 7, 8, 9] hK fun J j => ?_; clear hK K; simp; refine j _ ?_; clear j J
 refine W.seq ?_
 refine W.cond ⟨_, rfl, fun h => ?_, fun h => ?_⟩
 ·have hi : i < l.length := by simp at h; omega
  have hfs : (l.take (i + 1)).flatten = (l.take i).flatten ++ nth l i := by rw [take_succ_nth hi]; simp
  have hfl : (l.take (i + 1)).flatten.length ≤ l.flatten.length := by
   have e := List.take_append_drop (i + 1) l
   have e2 : l.flatten = (l.take (i + 1)).flatten ++ (l.drop (i + 1)).flatten := by rw [← List.flatten_append, e]
   rw [e2, List.length_append]; omega
  have hl2 : (l.take i).flatten.length + (nth l i).length < 1099511627776 := by
   rw [hfs, List.length_append] at hfl; omega
  have hls : (l.take (i + 1)).flatten.length = (l.take i).flatten.length + (nth l i).length := by rw [hfs, List.length_append]
  rw [← hA] at hfs hl2 hls
  generalize hpe : nth l i = p at *
  refine W.skip ?_
  refine W.seq ?_
  refine W.block ?_
  refine W.sreg (fun K hK => ?_); simp (disch := omega) [gA, wA, hpe]; refine W.lv [2, 3, 5, 6, 7, 8] hK fun J j => ?_; clear hK K; simp; refine j _ ?_; clear j J
  refine W.reg (fun K hK => ?_)
  simp (disch := omega) [gA, wA, hr3]
  refine W.lv [2, 3, 6, 7, 8] hK fun J j => ?_; clear hK K; simp; refine j _ ?_; clear j J
  refine W.reg (fun K hK => ?_); simp (disch := omega) [gA, wA]
  refine hK _ ⟨l.length - (i + 1), _, Gh.fr [(2, .ptr 2 0 0 0), (3, .own 3 _ 0 (A ++ p).length), (6, sls pe l), (7, .int .i64 l.length), (8, .int .i64 ((i + 1 : Nat) : Int))] (by simp; exact rfl), by omega, i + 1, _, A ++ p, _, _, rfl, by simp [hr2], by simp, by omega, by omega, hfs.symm⟩
 ·have hi : i = l.length := by simp at h; omega
  subst hi
  rw [List.take_length] at hA
  have hG := wGcd_ret l.flatten K0 hK0 (fun c hc => by
   obtain ⟨p, hpl, hcp⟩ := List.mem_flatten.1 hc
   exact hp p hpl c hcp) hf
  rw [← hA] at hG ⊢
  generalize (gcdL (A.map gv) : Int) = g at *
  refine W.exit ?_; simp only [pX, if_true, if_false, reduceIte, Nat.reduceEqDiff]
  refine W.sreg (fun K hK => ?_)
  simp (disch := omega) [gA, wA, hr3]
  refine callR hG ?_
  simp (disch := omega) [gA, wA, hr2]
  refine W.lv [2] hK fun J j => ?_; clear hK K; simp; refine j _ ?_; clear j J
  refine W.ret ?_
  simp [go]
end Go.Proofs.YtdiladmkbpnhoaaGreat
namespace Go.Proofs.YtdiladmkbpnhoaaGreat
open Go Pm
theorem LeadI_ret {x : List Int} (hx : PB x) (hc : Cn x) : Ret env.P 131 [Po x] (I (lead x)) := by
 have := Lead_ret (x.map rw') hx.pok
 rw [show cfs (x.map rw') = cutR x by simp only [cfs, map_gv_rw], show cutR x = x from hc, ← Po_eq] at this
 exact this
theorem DegI_ret (x : List Int) (hx : x.length < 9223372036854775808) : Ret env.P 140 [Po x] (.int .i64 ((x.length : Int) - 1)) := by
 have := Deg_ret (x.map rw') (by simpa using hx)
 rw [List.length_map, ← Po_eq] at this
 exact this
theorem pScaleI_ret {x : List Int} {c : Int} (hx : PB x) (hc : Sz c) : Ret env.P 84 [Po x, I c] (Po (pscale x c)) := by
 have := pScale_ret (x.map rw') hx.pok (decide (c < 0)) (dig LL c.natAbs) hc.lok
 rw [map_gv_rw, iv_I, ← Po_eq] at this
 exact this
theorem rep_append_set (i : Nat) (x : Int) : (List.replicate (i + 1) (0 : Int)).set i x = stp i x := by
 rw [List.replicate_succ', List.set_append]
 simp [stp]
theorem Pseudo_ret (a b : RP) {s s' N : Nat} (ha : POK a) (hb : POK b) (sa : Bd LL s N (a.map gv)) (sb : Bd LL s' N (b.map gv)) (hB : s + N * (s' + N + 1) + s' + N + N + 10 < 1099511627774) :
  Ret env.P 189 [Pg a, Pg b] (if cfs b = [] then .tup [Po [], Po [], .int .i64 0, .int .i64 2] else .tup [Po (pdm (cfs a) (cfs b)).1, Po (pdm (cfs a) (cfs b)).2, .int .i64 (psk (cfs a) (cfs b)), .int .i64 0]) := by
 have hA : Bd LL s N (cfs a) := sa.cut
 have hBb : Bd LL s' N (cfs b) := sb.cut
 have ca : Cn (cfs a) := Cn.cut _
 have cb : Cn (cfs b) := Cn.cut _
 have na := pNorm_ret a ha
 have nb := pNorm_ret b hb
 rw [show cutR (a.map gv) = cfs a from rfl] at na
 rw [show cutR (b.map gv) = cfs b from rfl] at nb
 refine ret_of_Wf (E := env) (fun _ => 0) [(0, Pg a), (1, Pg b)] Tryz.func189 rfl (by kernel_rfl) (by kernel_rfl) (show 2 ≤ 65 by decide) (by simp) ?_
 generalize cfs a = x at *
 generalize cfs b = y at *
 refine W.sreg (fun K hK => ?_); simp (disch := omega) [gA, wA]; refine W.lv [0, 1, 4] hK fun J j => ?_; clear hK K; simp; refine j _ ?_; clear j J
 refine W.nils 4 (Po []) (by simp) rfl (fun K hK => ?_)
 refine W.lv [0, 1, 4] hK fun J j => ?_; clear hK K; simp; refine j _ ?_; clear j J
 refine W.sreg (fun K hK => ?_)
 simp (disch := omega) [gA, wA]
 refine callR na ?_
 simp (disch := omega) [gA, wA]
 refine callR nb ?_
 simp (disch := omega) [gA, wA]
 refine W.lv [1, 4, 5] hK fun J j => ?_; clear hK K; simp; refine j _ ?_; clear j J
 refine W.seq ?_
 refine W.sreg (fun K hK => ?_); simp (disch := omega) [gA, wA]; refine W.lv [1, 4, 5, 18] hK fun J j => ?_; clear hK K; simp; refine j _ ?_; clear j J
 refine W.cond ⟨_, rfl, fun h => ?_, fun h => ?_⟩
 ·have h : y = [] := by simp at h; exact h
  rw [if_pos h]
  refine W.sreg (fun K hK => ?_); simp (disch := omega) [gA, wA]; refine W.lv [4, 5, 6, 7] hK fun J j => ?_; clear hK K; simp; refine j _ ?_; clear j J
  refine W.ret ?_
  simp [go]
  rfl
 have hy : y ≠ [] := by simp at h; exact h
 clear h
 rw [if_neg hy]
 have hy0 : 0 < y.length := List.length_pos_iff.2 hy
 have hNx := hA.len
 have hNy := hBb.len
 have hsy := lead_bd hBb
 have hmN : N * (s' + N + 1) ≥ 0 := Nat.zero_le _
 have hL := LeadI_ret (PB.of hBb (by omega) (by omega)) cb
 have hDx := DegI_ret x (by omega)
 have hDy := DegI_ret y (by omega)
 refine W.skip ?_
 refine W.sreg (fun K hK => ?_)
 simp (disch := omega) [gA, wA]
 refine callR hL ?_
 simp (disch := omega) [gA, wA]
 refine W.lv [1, 4, 5, 8] hK fun J j => ?_; clear hK K; simp; refine j _ ?_; clear j J
 have hkk : (if (0 : Int) < (x.length : Int) - 1 - ((y.length : Int) - 1) + 1 then (x.length : Int) - 1 - ((y.length : Int) - 1) + 1 else 0) = (psk x y : Int) := by unfold psk; split <;> omega
 refine W.sreg (fun K hK => ?_)
 simp (disch := omega) [gA, wA]
 refine callR hDx ?_
 simp (disch := omega) [gA, wA]
 refine callR hDy ?_
 simp (disch := omega) [gA, wA, hkk]
 refine W.lv [1, 4, 5, 6, 8] hK fun J j => ?_; clear hK K; simp; refine j _ ?_; clear j J
 have hkN : psk x y ≤ N := by unfold psk; omega
 have hsl := hsy
 generalize hdd : s' + N + 1 = d at *
 have hNN : ∀ j, j ≤ N → (N - j) * d ≤ N * d := fun j _ => Nat.mul_le_mul_right _ (by omega)
 refine W.seq ?_
 refine W.sreg (fun K hK => ?_); simp (disch := omega) [gA, wA]; refine W.lv [1, 4, 5, 6, 8, 9] hK fun J j => ?_; clear hK K; simp; refine j _ ?_; clear j J
 refine W.block ?_
 refine W.loopG (fun j σ => ∃ (q r : List Int) (rows : Pm.Rows) (clk : Nat), σ = ⟨fa [(1, Po y), (4, Po q), (5, Po r), (6, .int .i64 (psk x y)), (8, .ptr 8 0 0 0), (9, .int .i64 ((j : Int) - 1))], rows, clk⟩ ∧
  rows 8 = some ⟨0, 27, 2, [ie (lead y)]⟩ ∧ j ≤ psk x y ∧ ps y (lead y) j q r = pdm x y ∧ Bd LL (s + (N - j) * d) (N + N) q ∧ Bd LL (s + (N - j) * d) (N + N) r ∧ Cn r) (psk x y) ?_ ?_
 ·exact ⟨_, .refl, [], x, _, _, rfl, by simp, by omega, rfl, ⟨by simp, fun c hc => by cases hc⟩, hA.mono (by omega) (by omega), ca⟩
 rintro j _ ⟨q, r, rows, clk, rfl, hr8, hj, hps, bq, br, cr⟩
 refine W.seq ?_
 refine W.sreg (fun K hK => ?_); simp (disch := omega) [gA, wA]; refine W.lv [1, 4, 5, 6, 8, 9, 31] hK fun J j => ?_; clear hK K; simp; refine j _ ?_; clear j J
 refine W.cond ⟨_, rfl, fun h => ?_, fun h => ?_⟩
 ·have hj0 : 0 < j := by simp at h; omega
  obtain ⟨i, rfl⟩ : ∃ i, j = i + 1 := ⟨j - 1, by omega⟩
  clear h
  have ei : ((i + 1 : Nat) : Int) - 1 = i := by omega
  rw [ei]
  have hN1 := hNN (i + 1) (by omega)
  have hT : s + (N - i) * d = s + (N - (i + 1)) * d + s' + N + 1 := by
   rw [show N - i = (N - (i + 1)) + 1 by omega, Nat.add_mul, Nat.one_mul]; omega
  obtain ⟨b1, b2⟩ := ps_step_bd hLL hBb bq br (show i < N by omega)
  rw [← hT] at b1 b2
  have hN2 := hNN i (by omega)
  have hx := psx_bd (y := y) (i := i) br
  have bs := Bd.stp hx i
  have hLr := LeadI_ret (PB.of br (by omega) (by omega)) cr
  have hDr := DegI_ret r (by have := br.len; omega)
  have bqs := bq.pscale hLL hsy
  have brs := br.pscale hLL hsy
  have bm := bs.pmul hLL hBb
  have f1 := pScaleI_ret (c := lead y) (PB.of bq (by omega) (by omega)) (show sz LL (lead y) < 1099511627776 by omega)
  have f2 := pScaleI_ret (c := lead y) (PB.of br (by omega) (by omega)) (show sz LL (lead y) < 1099511627776 by omega)
  have f3 := pAddI_ret (PB.of bqs (by omega) (by omega)) (PB.of bs (by omega) (by omega))
  have f4 := pMulI_ret bs hBb (by omega)
  have f5 := pSubI_ret (PB.of brs (by omega) (by omega)) (PB.of bm (by omega) (by omega))
  rw [show padd (pscale q (lead y)) (stp i (psx y r i)) = psq (lead y) (psx y r i) i q from rfl] at f3
  rw [show psub (pscale r (lead y)) (pmul (stp i (psx y r i)) y) = psr y (lead y) (psx y r i) i r from rfl] at f5
  have cr2 : Cn (psr y (lead y) (psx y r i) i r) := Cn.psub _ _
  have hpx : psx y r i = if r.length = y.length + i then lead r else 0 := rfl
  rw [ps] at hps
  generalize hq2 : psq (lead y) (psx y r i) i q = q2 at *
  generalize hr2 : psr y (lead y) (psx y r i) i r = r2 at *
  generalize pmul (stp i (psx y r i)) y = pm at *
  generalize pscale q (lead y) = pq at *
  generalize pscale r (lead y) = pr at *
  generalize psx y r i = xx at *
  have hset := rep_append_set i xx
  have hsl2 : (stp i xx).length = i + 1 := by simp [stp]
  generalize lead r = lr at *
  generalize lead y = ly at *
  refine W.skip ?_
  refine W.seq ?_
  refine W.block ?_
  refine W.sreg (fun K hK => ?_); simp (disch := omega) [gA, wA]; refine W.lv [1, 4, 5, 6, 8, 9, 10] hK fun J j => ?_; clear hK K; simp; refine j _ ?_; clear j J
  refine W.row (id := 10) (els := [[.bool false, .nil]]) [ie 0] (by simp; exact ⟨rfl, rfl, rfl⟩) ⟨⟨.inl (by simp), .inr ⟨rfl, rfl⟩, trivial⟩, trivial⟩ ?_
  refine W.seqJ (fun σ => ∃ (v10 : Nat) (rows : Pm.Rows) (clk : Nat), σ = ⟨fa [(1, Po y), (4, Po q), (5, Po r), (6, .int .i64 (psk x y)), (8, .ptr 8 0 0 0), (9, .int .i64 i), (10, .ptr 10 v10 0 0)], rows, clk⟩ ∧ rows 8 = some ⟨0, 27, 2, [ie ly]⟩ ∧ rows 10 = some ⟨v10, 27, 2, [ie xx]⟩) ?_ ?_
  ·
   refine W.sreg (fun K hK => ?_)
   simp (disch := omega) [gA, wA]
   refine callR hDr ?_
   simp (disch := omega) [gA, wA]
   refine callR hDy ?_
   simp (disch := omega) [gA, wA]
   refine W.lv [1, 4, 5, 6, 8, 9, 10, 40] hK fun J j => ?_; clear hK K; simp; refine j _ ?_; clear j J
   by_cases hrl : r.length = y.length + i
   ·rw [if_pos hrl] at hpx
    subst hpx
    refine W.cond ⟨_, rfl, fun h => ?_, fun h => ?_⟩
    ·refine W.reg (fun K hK => ?_)
     simp (disch := omega) [gA, wA]
     refine callR hLr ?_
     simp (disch := omega) [gA, wA]
     exact hK _ ⟨_, Gh_fa _ [1, 4, 5, 6, 8, 9, 10], _, _, _, rfl, by simp [hr8], by simp⟩
    ·exfalso; simp at h; omega
   ·rw [if_neg hrl] at hpx
    subst hpx
    refine W.cond ⟨_, rfl, fun h => ?_, fun h => ?_⟩
    ·exfalso; simp at h; omega
    ·refine W.skip ?_
     exact ⟨_, Gh_fa _ [1, 4, 5, 6, 8, 9, 10], _, _, _, rfl, by simp [hr8], by simp⟩
  rintro _ ⟨v10, rows, clk, rfl, hr8, hr10⟩
  have e9 : ((i : Int) + 1).toNat = i + 1 := by omega
  refine W.sreg (fun K hK => ?_); simp (disch := omega) [gA, wA, e9]; refine W.lv [1, 4, 5, 6, 8, 9, 10, 11] hK fun J j => ?_; clear hK K; simp; refine j _ ?_; clear j J
  refine W.row (id := 45) (emap ie (List.replicate (i + 1) 0)) (by simp; exact ⟨rfl, rfl, rfl⟩) (row_ie _) ?_
  refine W.sreg (fun K hK => ?_)
  simp (disch := omega) [gA, wA, hr10, hset]
  refine W.lv [1, 4, 5, 6, 8, 9, 11] hK fun J j => ?_; clear hK K; simp; refine j _ ?_; clear j J
  have hst := take_all hsl2
  refine W.freeze 45 (by simp) (fun K hK => ?_)
  simp [hst]
  refine hK _ ?_; clear hK K
  refine W.sreg (fun K hK => ?_)
  simp (disch := omega) [gA, wA, hr8]
  refine callR f1 ?_
  simp (disch := omega) [gA, wA]
  refine callR f3 ?_
  simp (disch := omega) [gA, wA]
  refine W.lv [1, 4, 5, 6, 8, 9, 11] hK fun J j => ?_; clear hK K; simp; refine j _ ?_; clear j J
  refine W.reg (fun K hK => ?_)
  simp (disch := omega) [gA, wA, hr8]
  refine callR f2 ?_
  simp (disch := omega) [gA, wA]
  refine callR f4 ?_
  simp (disch := omega) [gA, wA]
  refine callR f5 ?_
  simp (disch := omega) [gA, wA]
  refine W.lv [1, 4, 5, 6, 8, 9] hK fun J j => ?_; clear hK K; simp; refine j _ ?_; clear j J
  refine W.reg (fun K hK => ?_); simp (disch := omega) [gA, wA]
  refine hK _ ⟨i, _, Gh_fa _ [1, 4, 5, 6, 8, 9], by omega, q2, r2, _, _, rfl, by simp [hr8], by omega, hps, b1, b2, cr2⟩
 ·have hj0 : j = 0 := by simp at h; omega
  subst hj0
  simp only [ps] at hps
  rw [← hps]
  refine W.exit ?_; simp only [pX, if_true, if_false, reduceIte, Nat.reduceEqDiff]
  refine W.sreg (fun K hK => ?_); simp (disch := omega) [gA, wA]; refine W.lv [4, 5, 6, 7] hK fun J j => ?_; clear hK K; simp; refine j _ ?_; clear j J
  refine W.ret ?_
  simp [go]
end Go.Proofs.YtdiladmkbpnhoaaGreat
namespace Go.Proofs.YtdiladmkbpnhoaaGreat
open Go Pm
def prim (x : List Int) : List Int := cutR (x.map (exq (gcdL x)))
def rst (a b : List Int) : List Int := if psk a b % 2 = 1 ∧ lead b < 0 then prim (pneg (pdm a b).2) else prim (pdm a b).2
theorem gcdL_dvd (x : List Int) : ∀ c ∈ x, ((gcdL x : Nat) : Int) ∣ c := by
 have key : ∀ (l : List Int) (g : Nat), (∀ c ∈ l, ((l.foldl (fun g c => Nat.gcd g c.natAbs) g : Nat) : Int) ∣ c) ∧ l.foldl (fun g c => Nat.gcd g c.natAbs) g ∣ g := by
  intro l
  induction l with
  | nil => intro g; exact ⟨fun c hc => (by cases hc), Nat.dvd_refl _⟩
  | cons c l ih =>
   intro g
   obtain ⟨h1, h2⟩ := ih (Nat.gcd g c.natAbs)
   simp only [List.foldl_cons]
   refine ⟨fun d hd => ?_, Nat.dvd_trans h2 (Nat.gcd_dvd_left _ _)⟩
   rcases List.mem_cons.1 hd with rfl | hd
   ·exact Int.ofNat_dvd_left.2 (Nat.dvd_trans h2 (Nat.gcd_dvd_right _ _))
   ·exact h1 d hd
 exact (key x 0).1
theorem gcdL_pos {x : List Int} {c : Int} (hc : c ∈ x) (h : c ≠ 0) : gcdL x ≠ 0 := by
 intro h0
 have := gcdL_dvd x c hc
 rw [h0] at this
 obtain ⟨k, hk⟩ := this
 simp at hk
 exact h hk
theorem gcdL_Cn_pos {x : List Int} (hc : Cn x) (h : x ≠ []) : gcdL x ≠ 0 := by
 have hl : 0 < x.length := List.length_pos_iff.2 h
 exact gcdL_pos (c := lead x) (nth_mem (by omega)) (lead_ne hc hl)
theorem gcdL_sz {x : List Int} {s : Nat} (hx : ∀ c ∈ x, sz LL c ≤ s) (hc : Cn x) (h : x ≠ []) : sz LL (gcdL x : Int) ≤ s := by
 have hl : 0 < x.length := List.length_pos_iff.2 h
 have hm : lead x ∈ x := nth_mem (by omega)
 refine Nat.le_trans (sz_mono hLL ?_) (hx _ hm)
 have := Int.le_of_dvd (a := (gcdL x : Int)) (b := ((lead x).natAbs : Int)) (by have := lead_ne hc hl; omega) (Int.dvd_natAbs.2 (gcdL_dvd x _ hm))
 omega
theorem ContentI_ret (x : List Int) (hx : PD x) : Ret env.P 186 [.sl [[Po x]]] (I (gcdL x)) := by
 have hl := hx.len
 have := Content_ret [x.map rw'] 1099511627773 (by decide) (fun p hp c hc => by
  simp only [List.mem_singleton] at hp
  subst hp
  simp only [List.mem_map] at hc
  obtain ⟨v, hv, rfl⟩ := hc
  have h1 := hx.sz v hv
  exact ⟨Lim_dig hLL _, by unfold sz at h1; show (dig LL v.natAbs).length ≤ _; omega⟩) (by simp) (by simp; omega)
 have e : ([x.map rw'].flatten.map gv) = x := by simp only [List.flatten_cons, List.flatten_nil, List.append_nil, map_gv_rw]
 rw [e] at this
 have e2 : sls pe [x.map rw'] = .sl [[Po x]] := by rw [Po_eq]; rfl
 rw [e2] at this
 exact this
theorem Rest_ret (a b : RP) {s s' N : Nat} (ha : POK a) (hb : POK b) (sa : Bd LL s N (a.map gv)) (sb : Bd LL s' N (b.map gv)) (hB : s + N * (s' + N + 1) + s' + N + N + 10 < 1099511627774) :
  Ret env.P 116 [Pg a, Pg b] (if cfs b = [] then .tup [Po [], .int .i64 2] else .tup [Po (rst (cfs a) (cfs b)), .int .i64 0]) := by
 have hP := Pseudo_ret a b ha hb sa sb hB
 have hL := Lead_ret b hb
 have hA : Bd LL s N (cfs a) := sa.cut
 have hBb : Bd LL s' N (cfs b) := sb.cut
 have ca : Cn (cfs a) := Cn.cut _
 refine ret_of_Wf (E := env) (fun _ => 0) [(0, Pg a), (1, Pg b)] Tryz.func116 rfl (by kernel_rfl) (by kernel_rfl) (show 2 ≤ 39 by decide) (by simp) ?_
 generalize cfs a = x at *
 generalize cfs b = y at *
 refine W.sreg (fun K hK => ?_); simp (disch := omega) [gA, wA]; refine W.lv [0, 1] hK fun J j => ?_; clear hK K; simp; refine j _ ?_; clear j J
 by_cases hy : y = []
 ·rw [if_pos hy] at hP ⊢
  refine W.sreg (fun K hK => ?_)
  simp (disch := omega) [gA, wA]
  refine callR hP ?_
  simp (disch := omega) [gA, wA]
  refine W.lv [1, 7, 8, 9] hK fun J j => ?_; clear hK K; simp; refine j _ ?_; clear j J
  refine W.seq ?_
  refine W.sreg (fun K hK => ?_); simp (disch := omega) [gA, wA]; refine W.lv [1, 7, 8, 9, 19] hK fun J j => ?_; clear hK K; simp; refine j _ ?_; clear j J
  refine W.cond ⟨_, rfl, fun h => ?_, fun h => ?_⟩
  ·refine W.sreg (fun K hK => ?_); simp (disch := omega) [gA, wA]; refine W.lv [4, 5] hK fun J j => ?_; clear hK K; simp; refine j _ ?_; clear j J
   refine W.ret ?_
   simp [go]
   rfl
  ·cases h
 rw [if_neg hy] at hP ⊢
 have hy0 : 0 < y.length := List.length_pos_iff.2 hy
 have hkN : psk x y ≤ N := by unfold psk; have := hA.len; omega
 obtain ⟨_, hb2⟩ := ps_bd hLL hBb (psk x y) s [] x hkN ⟨by simp, fun c hc => by cases hc⟩ (hA.mono (by omega) (by omega))
 obtain ⟨_, cr⟩ := pdm_Cn (b := y) ca
 rw [show (ps y (lead y) (psk x y) [] x) = pdm x y from rfl] at hb2
 have hmul := Nat.mul_le_mul_right (s' + N + 1) hkN
 have hneg := pNegI_ret (PB.of hb2 (by omega) (by omega))
 refine W.sreg (fun K hK => ?_)
 simp (disch := omega) [gA, wA]
 refine callR hP ?_
 simp (disch := omega) [gA, wA]
 refine W.lv [1, 7, 8, 9] hK fun J j => ?_; clear hK K; simp; refine j _ ?_; clear j J
 refine W.seq ?_
 refine W.sreg (fun K hK => ?_); simp (disch := omega) [gA, wA]; refine W.lv [1, 7, 8, 9, 19] hK fun J j => ?_; clear hK K; simp; refine j _ ?_; clear j J
 refine W.cond ⟨_, rfl, fun h => ?_, fun h => ?_⟩
 ·cases h
 refine W.skip ?_
 obtain ⟨r2, hr2⟩ : ∃ r2, r2 = if psk x y % 2 = 1 ∧ lead y < 0 then pneg (pdm x y).2 else (pdm x y).2 := ⟨_, rfl⟩
 have hrst : rst x y = prim r2 := by rw [hr2, rst]; split <;> rfl
 have hbr : PD r2 := by
  rw [hr2]; split
  ·exact PD.of hb2.pneg (by omega) (by omega)
  ·exact PD.of hb2 (by omega) (by omega)
 have hcr : Cn r2 := by
  rw [hr2]; split
  ·exact Cn.pneg _
  ·exact cr
 rw [hrst]
 refine W.seqJ (fun σ => ∃ (rows : Pm.Rows) (clk : Nat), σ = ⟨fa [(7, Po r2)], rows, clk⟩) ?_ ?_
 ·
  by_cases hk : psk x y % 2 = 1
  ·refine W.sregJ (fun σ => ∃ (rows : Pm.Rows) (clk : Nat), σ = ⟨fa [(7, Po (pdm x y).2), (28, .bool (decide (lead y < 0)))], rows, clk⟩) (fun K hK => ?_) ?_
   ·have hk' : (psk x y : Int) % 2 = 1 := by omega
    simp (disch := omega) [gA, wA, hk']
    refine callR hL ?_
    simp (disch := omega) [gA, wA]
    exact hK _ _ (Gh_fa _ [7, 28]) ⟨_, _, rfl⟩
   rintro _ ⟨rows, clk, rfl⟩
   refine W.condB (lead y < 0) rfl (fun h => ?_) (fun h => ?_)
   ·rw [if_pos ⟨hk, h⟩] at hr2
    subst hr2
    refine W.reg (fun K hK => ?_)
    simp (disch := omega) [gA, wA]
    refine callR hneg ?_
    simp (disch := omega) [gA, wA]
    exact hK _ ⟨_, Gh_fa _ [7], _, _, rfl⟩
   ·rw [if_neg (fun h2 => h h2.2)] at hr2
    subst hr2
    refine W.skip ?_
    exact ⟨_, Gh_fa _ [7], _, _, rfl⟩
  ·rw [if_neg (fun h2 => hk h2.1)] at hr2
   subst hr2
   refine W.sregJ (fun σ => ∃ (rows : Pm.Rows) (clk : Nat), σ = ⟨fa [(7, Po (pdm x y).2), (28, .bool false)], rows, clk⟩) (fun K hK => ?_) ?_
   ·have hk' : ((psk x y : Int) % 2 == 1) = false := by simp; omega
    simp (disch := omega) [gA, wA, hk']
    exact hK _ _ (Gh_fa _ [7, 28]) ⟨_, _, rfl⟩
   rintro _ ⟨rows, clk, rfl⟩
   refine W.cond ⟨_, rfl, fun h => ?_, fun h => ?_⟩
   ·cases h
   ·refine W.skip ?_
    exact ⟨_, Gh_fa _ [7], _, _, rfl⟩
 rintro _ ⟨rows, clk, rfl⟩
 clear hr2 hrst
 refine W.seq ?_
 refine W.sreg (fun K hK => ?_); simp (disch := omega) [gA, wA]; refine W.lv [7, 33] hK fun J j => ?_; clear hK K; simp; refine j _ ?_; clear j J
 refine W.cond ⟨_, rfl, fun h => ?_, fun h => ?_⟩
 ·have h : r2 = [] := by simp at h; exact h
  subst h
  refine W.sreg (fun K hK => ?_); simp (disch := omega) [gA, wA]; refine W.lv [4, 5] hK fun J j => ?_; clear hK K; simp; refine j _ ?_; clear j J
  refine W.ret ?_
  simp [go]
  rfl
 ·have h : r2 ≠ [] := by simp at h; exact h
  have hC := ContentI_ret r2 hbr
  have hgp := gcdL_Cn_pos hcr h
  have hO := over_ret r2 (gcdL r2) hbr (Nat.lt_of_le_of_lt (gcdL_sz (s := 1099511627773) (fun c hc => by have := hbr.sz c hc; omega) hcr h) (by decide)) (by omega)
  rw [show cutR (r2.map (exq (gcdL r2))) = prim r2 from rfl] at hO
  generalize (gcdL r2 : Int) = g at *
  generalize prim r2 = pr at *
  refine W.skip ?_
  refine W.sreg (fun K hK => ?_)
  simp (disch := omega) [gA, wA]
  refine callR hC ?_
  simp (disch := omega) [gA, wA]
  refine callR hO ?_
  simp (disch := omega) [gA, wA]
  refine W.lv [4, 5] hK fun J j => ?_; clear hK K; simp; refine j _ ?_; clear j J
  refine W.ret ?_
  simp [go]
end Go.Proofs.YtdiladmkbpnhoaaGreat
