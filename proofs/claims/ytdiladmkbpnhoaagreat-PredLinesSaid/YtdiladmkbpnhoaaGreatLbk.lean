import Derived.Test.YtdiladmkbpnhoaaGreatLbh
import Derived.Test.YtdiladmkbpnhoaaGreatMe
set_option linter.unusedSimpArgs false
set_option linter.unusedVariables false
namespace Go.Proofs.YtdiladmkbpnhoaaGreat
open Go Pm
theorem cfs_rwB (x : List Int) : cfs (x.map rw') = cutR x := by simp only [cfs, map_gv_rw]
theorem Cn_map_mul {x : List Int} (hx : Cn x) {m : Int} (hm : m ≠ 0) : Cn (x.map (· * m)) := by
 rcases Nat.eq_zero_or_pos x.length with h | h
 ·have : x = [] := List.eq_nil_of_length_eq_zero h
  subst this; rfl
 ·have e := lead_split h
  have : x.map (· * m) = (x.take (x.length - 1)).map (· * m) ++ [lead x * m] := by
   conv => lhs; rw [e]
   simp
  rw [this]
  exact cutR_ne (Int.mul_ne_zero (lead_ne hx h) hm) _
theorem pscale_Cn {x : List Int} (hx : Cn x) {m : Int} (hm : m ≠ 0) : pscale x m = x.map (· * m) := Cn_map_mul hx hm
theorem pscale_one {x : List Int} (hx : Cn x) : pscale x 1 = x := Cn.ext (Cn.pscale _ _) hx fun t => by rw [V_pscale]; omega
theorem pneg_scale (x : List Int) : pneg x = pscale x (-1) := Cn.ext (Cn.pneg _) (Cn.pscale _ _) fun t => by rw [V_pneg, V_pscale]; omega
theorem gcdL_scale (m : Int) (x : List Int) : gcdL (x.map (· * m)) = gcdL x * m.natAbs := by
 have key : ∀ (l : List Int) (g : Nat), (l.map (· * m)).foldl (fun g c => Nat.gcd g c.natAbs) (g * m.natAbs) = l.foldl (fun g c => Nat.gcd g c.natAbs) g * m.natAbs := by
  intro l
  induction l with
  | nil => intro g; rfl
  | cons c l ih =>
   intro g
   simp only [List.map_cons, List.foldl_cons]
   rw [Int.natAbs_mul, Nat.gcd_mul_right, ih]
 have := key x 0
 rw [Nat.zero_mul] at this
 exact this
theorem exq_scale {m : Int} (hm : 0 < m) (g v : Int) : exq (g * m) (v * m) = exq g v := by
 unfold exq
 rw [Int.mul_comm v, Int.mul_comm g, Int.mul_emod_mul_of_pos _ _ hm, Int.mul_ediv_mul_of_pos _ _ hm]
 have : m * (v % g) = 0 ↔ v % g = 0 := by
  constructor
  ·intro h
   rcases Int.mul_eq_zero.1 h with h | h
   ·omega
   ·exact h
  ·intro h; rw [h]; simp
 simp only [this]
theorem prim_scale {m : Int} (hm : 0 < m) (x : List Int) : prim (x.map (· * m)) = prim x := by
 unfold prim
 rw [gcdL_scale, List.map_map]
 congr 1
 refine List.map_congr_left fun v _ => ?_
 simp only [Function.comp_apply]
 have : ((gcdL x * m.natAbs : Nat) : Int) = (gcdL x : Int) * m := by rw [Int.natCast_mul]; congr 1; omega
 rw [this, exq_scale hm]
theorem prim_pscale {x : List Int} (hx : Cn x) {m : Int} (hm : 0 < m) : prim (pscale x m) = prim x := by rw [pscale_Cn hx (by omega), prim_scale hm]
def sg (c : Int) (k : Nat) : Int := if k % 2 = 1 ∧ c < 0 then -1 else 1
theorem pow_sg (c : Int) : ∀ k : Nat, c ^ k = sg c k * (c.natAbs : Int) ^ k
 | 0 => by simp [sg]
 | k + 1 => by
  have ih := pow_sg c k
  have hc : c = (if c < 0 then -1 else 1) * (c.natAbs : Int) := by split <;> omega
  have hs : sg c (k + 1) = sg c k * (if c < 0 then -1 else 1) := by
   unfold sg
   by_cases h : c < 0
   ·rcases Nat.mod_two_eq_zero_or_one k with h2 | h2
    ·rw [if_pos ⟨by omega, h⟩, if_neg (by omega), if_pos h]; rfl
    ·rw [if_neg (by omega), if_pos ⟨h2, h⟩, if_pos h]; rfl
   ·rw [if_neg (fun h2 => h h2.2), if_neg (fun h2 => h h2.2), if_neg h]; rfl
  rw [Int.pow_succ, Int.pow_succ, ih, hs]
  conv => lhs; rw [hc]
  generalize (if c < 0 then (-1 : Int) else 1) = e at *
  have e3 : ((e * (c.natAbs : Int)).natAbs : Int) = (c.natAbs : Int) := by rw [← hc]
  rw [e3]
  grind
theorem sg_mul (c : Int) (k : Nat) : sg c k * sg c k = 1 := by unfold sg; split <;> rfl
theorem rst_sg {a b : List Int} (ca : Cn a) : rst a b = prim (pscale (pdm a b).2 (sg (lead b) (psk a b))) := by
 have cr := (pdm_Cn (b := b) ca).2
 unfold rst sg
 split
 ·rw [pneg_scale]
 ·rw [pscale_one cr]
theorem prim_len (x : List Int) : (prim x).length ≤ x.length := Nat.le_trans (cutR_len _) (by simp)
theorem pneg_len (x : List Int) : (pneg x).length ≤ x.length := Nat.le_trans (cutR_len _) (by simp)
theorem rst_len {a b : List Int} (hb : 0 < b.length) : (rst a b).length < b.length := by
 have h1 := pdm_len (a := a) hb
 unfold rst
 split
 ·have h2 := prim_len (pneg (pdm a b).2)
  have h3 := pneg_len (pdm a b).2
  omega
 ·have h2 := prim_len (pdm a b).2
  omega
theorem rst_Cn (a b : List Int) : Cn (rst a b) := by unfold rst; split <;> exact Cn.cut _
end Go.Proofs.YtdiladmkbpnhoaaGreat
namespace Go.Proofs.YtdiladmkbpnhoaaGreat
open Go Pm
def exs (b : List Int) : Nat → List Int → List Int → Option (List Int × List Int)
 | 0, q, a => some (q, a)
 | i + 1, q, a => if a.length < b.length + i then exs b i q a else if lead a % lead b = 0 then exs b i (q.set i (lead a / lead b)) (psub a (pmul (stp i (lead a / lead b)) b)) else none
def exF : Option (List Int × List Int) → Option (List Int)
 | some (q, []) => some (cutR q)
 | _ => none
def exact (a b : List Int) : Option (List Int) := exF (exs b (psk a b) (List.replicate (psk a b) 0) a)
def exR (o : Option (List Int)) : PV :=
 match o with
 | some q => .tup [Po q, .int .i64 0]
 | none => .tup [Po [], .int .i64 3]
theorem Bd.set {B s n : Nat} {x : List Int} (h : Bd B s n x) {i : Nat} {v : Int} (hv : Pm.sz B v ≤ s) : Bd B s n (x.set i v) := ⟨by simpa using h.len, fun c hc => by
 rcases List.mem_or_eq_of_mem_set hc with h1 | h1
 ·exact h.sz c h1
 ·rw [h1]; exact hv⟩
theorem Exact_ret (a b : RP) {s s' N : Nat} (ha : POK a) (hb : POK b) (sa : Bd LL s N (a.map gv)) (sb : Bd LL s' N (b.map gv)) (hB : s + N * (s' + N + 1) + s' + N + N + 10 < 1099511627774) :
  Ret env.P 215 [Pg a, Pg b] (if cfs b = [] then .tup [Po [], .int .i64 2] else exR (exact (cfs a) (cfs b))) := by
 have hA : Bd LL s N (cfs a) := sa.cut
 have hBb : Bd LL s' N (cfs b) := sb.cut
 have ca : Cn (cfs a) := Cn.cut _
 have cb : Cn (cfs b) := Cn.cut _
 have na := pNorm_ret a ha
 have nb := pNorm_ret b hb
 rw [show cutR (a.map gv) = cfs a from rfl] at na
 rw [show cutR (b.map gv) = cfs b from rfl] at nb
 refine ret_of_Wf (E := env) (fun _ => 0) [(0, Pg a), (1, Pg b)] Tryz.func215 rfl (by kernel_rfl) (by kernel_rfl) (show 2 ≤ 71 by decide) (by simp) ?_
 generalize cfs a = x at *
 generalize cfs b = y at *
 refine W.sreg (fun K hK => ?_); simp (disch := omega) [gA, wA]; refine W.lv [0, 1] hK fun J j => ?_; clear hK K; simp; refine j _ ?_; clear j J
 refine W.sreg (fun K hK => ?_)
 simp (disch := omega) [gA, wA]
 refine callR na ?_
 simp (disch := omega) [gA, wA]
 refine callR nb ?_
 simp (disch := omega) [gA, wA]
 refine W.lv [0, 1] hK fun J j => ?_; clear hK K; simp; refine j _ ?_; clear j J
 refine W.seq ?_
 refine W.sreg (fun K hK => ?_); simp (disch := omega) [gA, wA]; refine W.lv [0, 1, 17] hK fun J j => ?_; clear hK K; simp; refine j _ ?_; clear j J
 refine W.cond ⟨_, rfl, fun h => ?_, fun h => ?_⟩
 ·have h : y = [] := by simp at h; exact h
  rw [if_pos h]
  refine W.sreg (fun K hK => ?_); simp (disch := omega) [gA, wA]; refine W.lv [4, 5] hK fun J j => ?_; clear hK K; simp; refine j _ ?_; clear j J
  refine W.ret ?_
  simp [go]
  rfl
 have hy : y ≠ [] := by simp at h; exact h
 clear h
 rw [if_neg hy]
 have hy0 : 0 < y.length := List.length_pos_iff.2 hy
 have hNx := hA.len
 have hNy := hBb.len
 have hsy := lead_bd hBb
 have hly := lead_ne cb hy0
 have hL := LeadI_ret (PB.of hBb (by omega) (by omega)) cb
 have hDy := DegI_ret y (by omega)
 have hkN : psk x y ≤ N := by unfold psk; omega
 generalize hdd : s' + N + 1 = d at *
 have hNN : ∀ j, j ≤ N → (N - j) * d ≤ N * d := fun j _ => Nat.mul_le_mul_right _ (by omega)
 have hkk : (if (0 : Int) < (x.length : Int) - (y.length : Int) + 1 then (x.length : Int) - (y.length : Int) + 1 else 0) = (psk x y : Int) := by unfold psk; split <;> omega
 refine W.skip ?_
 refine W.sreg (fun K hK => ?_)
 simp (disch := omega) [gA, wA, hkk]
 refine W.lv [0, 1, 6] hK fun J j => ?_; clear hK K; simp; refine j _ ?_; clear j J
 refine W.row (id := 25) (emap ie (List.replicate (psk x y) 0)) (by simp; exact ⟨rfl, rfl, rfl⟩) (row_ie _) ?_
 refine W.seq ?_
 refine W.sreg (fun K hK => ?_); simp (disch := omega) [gA, wA]; refine W.lv [0, 1, 6, 7] hK fun J j => ?_; clear hK K; simp; refine j _ ?_; clear j J
 refine W.block ?_
 obtain ⟨R0, hR0⟩ : ∃ R0, R0 = exs y (psk x y) (List.replicate (psk x y) 0) x := ⟨_, rfl⟩
 have hex : exact x y = exF R0 := by rw [hR0]; rfl
 rw [hex]
 clear hex
 generalize hk0 : psk x y = k0 at *
 refine W.loopG (fun j σ => ∃ (v6 : Nat) (z r : List Int) (rows : Pm.Rows) (clk : Nat), σ = ⟨fa [(0, Po r), (1, Po y), (6, .own 25 v6 0 k0), (7, .int .i64 ((j : Int) - 1))], rows, clk⟩ ∧
  rows 25 = some ⟨v6, 27, 2, emap ie z⟩ ∧ z.length = k0 ∧ j ≤ k0 ∧ exs y j z r = R0 ∧ Bd LL (s + (N - j) * d) (N + N) z ∧ Bd LL (s + (N - j) * d) (N + N) r ∧ Cn r) k0 ?_ ?_
 ·exact ⟨_, .refl, _, List.replicate k0 0, x, _, _, rfl, by simp, by simp, by omega, hR0.symm, ⟨by simp; omega, fun c hc => by rw [(List.mem_replicate.1 hc).2, sz_zero]; omega⟩, hA.mono (by omega) (by omega), ca⟩
 rintro j _ ⟨v6, z, r, rows, clk, rfl, hr25, hz, hj, hps, bz, br, cr⟩
 refine W.seq ?_
 refine W.sreg (fun K hK => ?_); simp (disch := omega) [gA, wA]; refine W.lv [0, 1, 6, 7, 30] hK fun J j => ?_; clear hK K; simp; refine j _ ?_; clear j J
 refine W.cond ⟨_, rfl, fun h => ?_, fun h => ?_⟩
 ·have hj0 : 0 < j := by simp at h; omega
  obtain ⟨i, rfl⟩ : ∃ i, j = i + 1 := ⟨j - 1, by omega⟩
  clear h
  have ei : ((i + 1 : Nat) : Int) - 1 = i := by omega
  rw [ei]
  have hN1 := hNN (i + 1) (by omega)
  have hN2 := hNN i (by omega)
  have hT : s + (N - i) * d = s + (N - (i + 1)) * d + s' + N + 1 := by
   rw [show N - i = (N - (i + 1)) + 1 by omega, Nat.add_mul, Nat.one_mul]; omega
  have hDr := DegI_ret r (by have := br.len; omega)
  have hLr := LeadI_ret (PB.of br (by omega) (by omega)) cr
  have hlr := lead_bd br
  rw [exs] at hps
  refine W.skip ?_
  refine W.seq_blockJ (fun σ => ∃ (z r : List Int) (rows : Pm.Rows) (clk : Nat), σ = ⟨fa [(0, Po r), (1, Po y), (6, .own 25 v6 0 k0), (7, .int .i64 i)], rows, clk⟩ ∧
   rows 25 = some ⟨v6, 27, 2, emap ie z⟩ ∧ z.length = k0 ∧ exs y i z r = R0 ∧ Bd LL (s + (N - i) * d) (N + N) z ∧ Bd LL (s + (N - i) * d) (N + N) r ∧ Cn r) ?_ ?_
  ·
   refine W.seq ?_
   refine W.sreg (fun K hK => ?_)
   simp (disch := omega) [gA, wA]
   refine callR hDr ?_
   simp (disch := omega) [gA, wA]
   refine callR hDy ?_
   simp (disch := omega) [gA, wA]
   refine W.lv [0, 1, 6, 7, 39] hK fun J j => ?_; clear hK K; simp; refine j _ ?_; clear j J
   by_cases hlen : r.length < y.length + i
   ·rw [if_pos hlen] at hps
    refine W.cond ⟨_, rfl, fun h => ?_, fun h => ?_⟩
    ·refine W.exit ?_; simp only [pX, if_true, if_false, reduceIte, Nat.reduceEqDiff]
     exact ⟨_, Gh_fa _ [0, 1, 6, 7], z, r, _, _, rfl, hr25, hz, hps, bz.mono (by omega) (by omega), br.mono (by omega) (by omega), cr⟩
    ·exfalso; simp at h; omega
   rw [if_neg hlen] at hps
   refine W.cond ⟨_, rfl, fun h => ?_, fun h => ?_⟩
   ·exfalso; simp at h; omega
   clear h
   have hE := wExactI (v := lead r) (c := lead y) (by omega) (by omega) hly
   refine W.skip ?_
   by_cases hdv : lead r % lead y = 0
   ·rw [if_pos hdv] at hE hps
    have hts : sz LL (lead r / lead y) ≤ s + (N - (i + 1)) * d := Nat.le_trans (sz_mono hLL (Int.natAbs_ediv_le_natAbs _ _)) hlr
    have bs := Bd.stp hts i
    have bm := bs.pmul hLL hBb
    have b2 : Bd LL (s + (N - i) * d) (N + N) (psub r (pmul (stp i (lead r / lead y)) y)) := (Bd.psub hLL (br.mono (s' := s + (N - (i + 1)) * d + s' + N) (n' := N + N) (by omega) (by omega)) (bm.mono (by omega) (by omega))).mono (by omega) (by omega)
    have f4 := pMulI_ret bs hBb (by omega)
    have f5 := pSubI_ret (PB.of br (by omega) (by omega)) (PB.of bm (by omega) (by omega))
    have cr2 : Cn (psub r (pmul (stp i (lead r / lead y)) y)) := Cn.psub _ _
    have bz2 := Bd.set (i := i) (bz.mono (s' := s + (N - i) * d) (n' := N + N) (by omega) (by omega)) (Nat.le_trans hts (by omega))
    generalize hr2 : psub r (pmul (stp i (lead r / lead y)) y) = r2 at *
    generalize pmul (stp i (lead r / lead y)) y = pm at *
    generalize lead r / lead y = tt at *
    have hset := rep_append_set i tt
    have hsl2 : (stp i tt).length = i + 1 := by simp [stp]
    have hst := take_all hsl2
    generalize lead r = lr at *
    generalize lead y = ly at *
    refine W.sreg (fun K hK => ?_)
    simp (disch := omega) [gA, wA]
    refine callR hLr ?_
    simp (disch := omega) [gA, wA]
    refine callR hL ?_
    simp (disch := omega) [gA, wA]
    refine callR hE ?_
    simp (disch := omega) [gA, wA]
    refine W.lv [0, 1, 6, 7, 8, 9] hK fun J j => ?_; clear hK K; simp; refine j _ ?_; clear j J
    refine W.seq ?_
    refine W.sreg (fun K hK => ?_); simp (disch := omega) [gA, wA]; refine W.lv [0, 1, 6, 7, 8, 49] hK fun J j => ?_; clear hK K; simp; refine j _ ?_; clear j J
    refine W.cond ⟨_, rfl, fun h => ?_, fun h => ?_⟩
    ·cases h
    refine W.skip ?_
    refine W.sreg (fun K hK => ?_)
    simp (disch := omega) [gA, wA, hr25, hz]
    refine W.lv [0, 1, 6, 7, 8] hK fun J j => ?_; clear hK K; simp; refine j _ ?_; clear j J
    have e9 : ((i : Int) + 1).toNat = i + 1 := by omega
    refine W.sreg (fun K hK => ?_); simp (disch := omega) [gA, wA, e9]; refine W.lv [0, 1, 6, 7, 8, 10] hK fun J j => ?_; clear hK K; simp; refine j _ ?_; clear j J
    refine W.row (id := 56) (emap ie (List.replicate (i + 1) 0)) (by simp; exact ⟨rfl, rfl, rfl⟩) (row_ie _) ?_
    refine W.sreg (fun K hK => ?_)
    simp (disch := omega) [gA, wA, hset]
    refine W.lv [0, 1, 6, 7, 10] hK fun J j => ?_; clear hK K; simp; refine j _ ?_; clear j J
    refine W.freeze 56 (by simp) (fun K hK => ?_)
    simp [hst]
    refine hK _ ?_; clear hK K
    refine W.reg (fun K hK => ?_)
    simp (disch := omega) [gA, wA]
    refine callR f4 ?_
    simp (disch := omega) [gA, wA]
    refine callR f5 ?_
    simp (disch := omega) [gA, wA]
    exact hK _ ⟨_, Gh_fa _ [0, 1, 6, 7], z.set i tt, r2, _, _, rfl, by simp, by simp [hz], hps, bz2, b2, cr2⟩
   ·rw [if_neg hdv] at hE hps
    subst hps
    refine W.sreg (fun K hK => ?_)
    simp (disch := omega) [gA, wA]
    refine callR hLr ?_
    simp (disch := omega) [gA, wA]
    refine callR hL ?_
    simp (disch := omega) [gA, wA]
    refine callR hE ?_
    simp (disch := omega) [gA, wA]
    refine W.lv [0, 1, 6, 7, 8, 9] hK fun J j => ?_; clear hK K; simp; refine j _ ?_; clear j J
    refine W.seq ?_
    refine W.sreg (fun K hK => ?_); simp (disch := omega) [gA, wA]; refine W.lv [0, 1, 6, 7, 8, 49] hK fun J j => ?_; clear hK K; simp; refine j _ ?_; clear j J
    refine W.cond ⟨_, rfl, fun h => ?_, fun h => ?_⟩
    ·refine W.sreg (fun K hK => ?_); simp (disch := omega) [gA, wA]; refine W.lv [4, 5] hK fun J j => ?_; clear hK K; simp; refine j _ ?_; clear j J
     refine W.ret ?_
     simp [go, exR, exF]
     rfl
    ·cases h
  rintro _ ⟨z, r, rows, clk, rfl, hr25, hz, hps, bz, br, cr⟩
  refine W.reg (fun K hK => ?_); simp (disch := omega) [gA, wA]
  refine hK _ ⟨i, _, Gh_fa _ [0, 1, 6, 7], by omega, v6, z, r, _, _, rfl, by simp [hr25], hz, by omega, hps, bz, br, cr⟩
 ·have hj0 : j = 0 := by simp at h; omega
  subst hj0
  simp only [exs] at hps
  rw [← hps]
  have hN0 := hNN 0 (by omega)
  have hzn := pNormI_ret (PB.of bz (by omega) (by omega))
  have hzz := take_all hz
  refine W.exit ?_; simp only [pX, if_true, if_false, reduceIte, Nat.reduceEqDiff]
  refine W.seq ?_
  refine W.sreg (fun K hK => ?_); simp (disch := omega) [gA, wA]; refine W.lv [6, 68] hK fun J j => ?_; clear hK K; simp; refine j _ ?_; clear j J
  cases r with
  | nil =>
   refine W.cond ⟨_, rfl, fun h => ?_, fun h => ?_⟩
   ·exfalso; simp at h
   refine W.skip ?_
   refine W.sreg (fun K hK => ?_)
   simp (disch := omega) [gA, wA, hr25, hzz]
   refine callR hzn ?_
   simp (disch := omega) [gA, wA]
   refine W.lv [4, 5] hK fun J j => ?_; clear hK K; simp; refine j _ ?_; clear j J
   refine W.ret ?_
   simp [go, exR, exF]
  | cons c r =>
   refine W.cond ⟨_, rfl, fun h => ?_, fun h => ?_⟩
   ·refine W.sreg (fun K hK => ?_); simp (disch := omega) [gA, wA]; refine W.lv [4, 5] hK fun J j => ?_; clear hK K; simp; refine j _ ?_; clear j J
    refine W.ret ?_
    simp [go, exR, exF]
    rfl
   ·exfalso; simp at h
end Go.Proofs.YtdiladmkbpnhoaaGreat
namespace Go.Proofs.YtdiladmkbpnhoaaGreat
open Go Pm
theorem dvd_gcdL {d : Nat} {x : List Int} (h : ∀ c ∈ x, (d : Int) ∣ c) : d ∣ gcdL x := by
 have key : ∀ (l : List Int) (g : Nat), d ∣ g → (∀ c ∈ l, (d : Int) ∣ c) → d ∣ l.foldl (fun g c => Nat.gcd g c.natAbs) g := by
  intro l
  induction l with
  | nil => intro g hg _; exact hg
  | cons c l ih =>
   intro g hg hl
   rw [List.foldl_cons]
   exact ih _ (Nat.dvd_gcd hg (Int.ofNat_dvd_left.1 (hl c (by simp)))) fun v hv => hl v (by simp [hv])
 exact key x 0 (Nat.dvd_zero d) h
theorem div_out {x : List Int} {g : Int} (h : ∀ c ∈ x, g ∣ c) : (x.map (exq g)).map (· * g) = x := by
 rw [List.map_map]
 refine (List.map_congr_left fun v hv => ?_).trans (List.map_id _)
 have h1 : v % g = 0 := Int.emod_eq_zero_of_dvd (h v hv)
 simp only [Function.comp_apply, exq, id_eq]
 rw [if_pos h1]
 exact Int.ediv_mul_cancel (h v hv)
theorem gcdL_prim {x y : List Int} {g : Int} (hg : g ≠ 0) (h : y.map (· * g) = x) (e : gcdL x = g.natAbs) : gcdL y = 1 := by
 have := gcdL_scale g y
 rw [h, e] at this
 exact Nat.eq_of_mul_eq_mul_right (show 0 < g.natAbs by omega) (by omega)
theorem V_mapmul (t : Int) (g : Int) (x : List Int) : V t (x.map (· * g)) = V t x * g := by
 have := V_map_mul (t := t) g id x
 simp only [id_eq, List.map_id_fun] at this
 exact this
theorem gcdL_mul {x y : List Int} (cx : Cn x) (cy : Cn y) (hx : x ≠ []) (hy : y ≠ []) : gcdL (pmul x y) = gcdL x * gcdL y := by
 have gx := gcdL_Cn_pos cx hx
 have gy := gcdL_Cn_pos cy hy
 have hp : gcdL (pmul x y) ≠ 0 := gcdL_Cn_pos (Cn.pmul _ _) fun h => by
  have := pmul_len_eq cx cy (List.length_pos_iff.2 hx) (List.length_pos_iff.2 hy)
  rw [h] at this
  have h1 := List.length_pos_iff.2 hx
  have h2 := List.length_pos_iff.2 hy
  simp only [List.length_nil] at this
  omega
 obtain ⟨x', hx'⟩ : ∃ x' : List Int, x'.map (· * (gcdL x : Int)) = x := ⟨_, div_out (gcdL_dvd x)⟩
 obtain ⟨y', hy'⟩ : ∃ y' : List Int, y'.map (· * (gcdL y : Int)) = y := ⟨_, div_out (gcdL_dvd y)⟩
 have px := gcdL_prim (by omega) hx' (by omega)
 have py := gcdL_prim (by omega) hy' (by omega)
 have e : pmul x y = (pmul x' y').map (· * ((gcdL x : Int) * gcdL y)) := by
  rw [← pscale_Cn (Cn.pmul _ _) (Int.mul_ne_zero (by omega) (by omega))]
  refine Cn.ext (Cn.pmul _ _) (Cn.pscale _ _) fun t => ?_
  have h1 := V_mapmul t (gcdL x) x'
  have h2 := V_mapmul t (gcdL y) y'
  rw [hx'] at h1
  rw [hy'] at h2
  rw [V_pmul, V_pscale, V_pmul, h1, h2]
  grind
 rw [e, gcdL_scale] at hp
 rw [e, gcdL_scale, Int.natAbs_mul]
 have hd : 0 < gcdL (pmul x' y') := Nat.pos_of_mul_pos_right (Nat.pos_of_ne_zero hp)
 have hD := gauss _ (gcdL (pmul x' y')) x' y' (Nat.le_refl _) hd (Dv.of (gcdL_dvd _)) (fun d _ hy => Nat.dvd_one.1 (py ▸ dvd_gcdL hy.mem))
 have h1 : gcdL (pmul x' y') = 1 := Nat.dvd_one.1 (px ▸ dvd_gcdL hD.mem)
 rw [h1, Nat.one_mul]
 simp
def pcn (x : List Int) : Int := if lead x < 0 then -(gcdL x : Int) else gcdL x
def prv (x : List Int) : List Int := cutR (x.map (exq (pcn x)))
theorem pcn_abs (x : List Int) : (pcn x).natAbs = gcdL x := by unfold pcn; split <;> omega
theorem pcn_dvd (x : List Int) : ∀ c ∈ x, pcn x ∣ c := fun c hc => by
 have := gcdL_dvd x c hc
 unfold pcn; split
 ·exact Int.neg_dvd.2 this
 ·exact this
theorem prv_map {x : List Int} (cx : Cn x) (hx : x ≠ []) : (prv x).map (· * pcn x) = x := by
 have gx := gcdL_Cn_pos cx hx
 have h0 := pcn_abs x
 rw [← pscale_Cn (show Cn (prv x) from Cn.cut _) (show pcn x ≠ 0 by omega)]
 refine Cn.ext (Cn.pscale _ _) cx fun t => ?_
 rw [V_pscale, prv, V_cutR, ← V_mapmul, div_out (pcn_dvd x)]
theorem prv_scale {x : List Int} (cx : Cn x) (hx : x ≠ []) : pscale (prv x) (pcn x) = x := by
 have gx := gcdL_Cn_pos cx hx
 have h0 := pcn_abs x
 rw [pscale_Cn (show Cn (prv x) from Cn.cut _) (show pcn x ≠ 0 by omega)]
 exact prv_map cx hx
theorem prv_gcd {x : List Int} (cx : Cn x) (hx : x ≠ []) : gcdL (prv x) = 1 := by
 have gx := gcdL_Cn_pos cx hx
 have h0 := pcn_abs x
 exact gcdL_prim (by omega) (prv_map cx hx) h0.symm
theorem prv_lead {x : List Int} (cx : Cn x) (hx : x ≠ []) : 0 < lead (prv x) := by
 have gx := gcdL_Cn_pos cx hx
 have h := prv_map cx hx
 have hl : (prv x).length = x.length := by rw [← congrArg List.length h]; simp
 have hx0 := List.length_pos_iff.2 hx
 have h1 : lead x = lead (prv x) * pcn x := by
  rw [lead, lead, hl, ← nth_mapmul, h]
 have hne := lead_ne (x := prv x) (Cn.cut _) (by omega)
 have hg : (0 : Int) < gcdL x := by omega
 unfold pcn at h1
 rcases Int.lt_trichotomy (lead (prv x)) 0 with h2 | h2 | h2
 ·exfalso
  split at h1
  ·rename_i h3
   have := Int.mul_pos (show (0 : Int) < -lead (prv x) by omega) hg
   rw [Int.mul_neg, ← Int.neg_mul] at h1
   omega
  ·rename_i h3
   have := Int.mul_pos (show (0 : Int) < -lead (prv x) by omega) hg
   rw [Int.neg_mul] at this
   omega
 ·exact absurd h2 hne
 ·exact h2
theorem Primitive_ret (a : RP) {s n : Nat} (ha : POK a) (sa : Bd LL s n (a.map gv)) (hs : s < 1099511627774) (hn : n < 1099511627774) :
  Ret env.P 114 [Pg a] (.tup [I (pcn (cfs a)), Po (prv (cfs a))]) := by
 have hA : Bd LL s n (cfs a) := sa.cut
 have ca : Cn (cfs a) := Cn.cut _
 have na := pNorm_ret a ha
 rw [show cutR (a.map gv) = cfs a from rfl] at na
 refine ret_of_Wf (E := env) (fun _ => 0) [(0, Pg a)] Tryz.func114 rfl (by kernel_rfl) (by kernel_rfl) (show 1 ≤ 23 by decide) (by simp) ?_
 generalize cfs a = x at *
 refine W.sreg (fun K hK => ?_); simp (disch := omega) [gA, wA]; refine W.lv [0, 2] hK fun J j => ?_; clear hK K; simp; refine j _ ?_; clear j J
 refine W.sreg (fun K hK => ?_)
 simp (disch := omega) [gA, wA]
 refine callR na ?_
 simp (disch := omega) [gA, wA]
 refine W.lv [0, 2] hK fun J j => ?_; clear hK K; simp; refine j _ ?_; clear j J
 refine W.seq ?_
 refine W.sreg (fun K hK => ?_); simp (disch := omega) [gA, wA]; refine W.lv [0, 2, 9] hK fun J j => ?_; clear hK K; simp; refine j _ ?_; clear j J
 refine W.cond ⟨_, rfl, fun h => ?_, fun h => ?_⟩
 ·have h : x = [] := by simp at h; exact h
  subst h
  rw [show pcn ([] : List Int) = 0 by decide, show prv ([] : List Int) = [] from rfl]
  refine W.sreg (fun K hK => ?_); simp (disch := omega) [gA, wA]; refine W.lv [2, 3] hK fun J j => ?_; clear hK K; simp; refine j _ ?_; clear j J
  refine W.ret ?_
  simp [go]
  exact ⟨rfl, rfl⟩
 have hx : x ≠ [] := by simp at h; exact h
 clear h
 have hx0 := List.length_pos_iff.2 hx
 have gx := gcdL_Cn_pos ca hx
 have hp0 := pcn_abs x
 have hC := ContentI_ret x (PD.of hA hs hn)
 have hL := LeadI_ret (PB.of hA (by omega) (by omega)) ca
 have hgs := gcdL_sz (s := s) hA.sz ca hx
 have hcs : sz LL (pcn x) ≤ s := by
  unfold pcn; split
  ·rw [sz_neg]; exact hgs
  ·exact hgs
 have hO := over_ret x (pcn x) (PD.of hA hs hn) (by omega) (by omega)
 rw [show cutR (x.map (exq (pcn x))) = prv x from rfl] at hO
 have hN := wNegI (x := (gcdL x : Int)) (by show sz LL _ < _; omega)
 refine W.skip ?_
 refine W.sreg (fun K hK => ?_)
 simp (disch := omega) [gA, wA]
 refine callR hC ?_
 simp (disch := omega) [gA, wA]
 refine W.lv [0, 2, 4] hK fun J j => ?_; clear hK K; simp; refine j _ ?_; clear j J
 refine W.seqJ (fun σ => ∃ (rows : Pm.Rows) (clk : Nat), σ = ⟨fa [(0, Po x), (2, .ptr 2 0 0 0), (4, .ptr 4 1 0 0)], rows, clk⟩ ∧ rows 2 = some ⟨0, 27, 2, [[.bool false, .nil]]⟩ ∧ rows 4 = some ⟨1, 27, 2, [ie (pcn x)]⟩) ?_ ?_
 ·refine W.sregJ (fun σ => ∃ (rows : Pm.Rows) (clk : Nat), σ = ⟨fa [(0, Po x), (2, .ptr 2 0 0 0), (4, .ptr 4 1 0 0), (16, .bool (decide (lead x < 0)))], rows, clk⟩ ∧ rows 2 = some ⟨0, 27, 2, [[.bool false, .nil]]⟩ ∧ rows 4 = some ⟨1, 27, 2, [ie (gcdL x)]⟩) (fun K hK => ?_) ?_
  ·simp (disch := omega) [gA, wA]
   refine callR hL ?_
   simp (disch := omega) [gA, wA]
   refine hK _ _ (Gh_fa _ [0, 2, 4, 16]) ⟨_, _, rfl, ?_, ?_⟩ <;> simp [ie]
  rintro _ ⟨rows, clk, rfl, hr2, hr4⟩
  refine W.condB (lead x < 0) rfl (fun h => ?_) (fun h => ?_)
  ·rw [pcn, if_pos h]
   refine W.reg (fun K hK => ?_)
   simp (disch := omega) [gA, wA, hr4]
   refine callR hN ?_
   simp (disch := omega) [gA, wA, hr4]
   exact hK _ ⟨_, Gh_fa _ [0, 2, 4], _, _, rfl, by simp [hr2], by simp⟩
  ·rw [pcn, if_neg h]
   refine W.skip ?_
   exact ⟨_, Gh_fa _ [0, 2, 4], _, _, rfl, hr2, hr4⟩
 rintro _ ⟨rows, clk, rfl, hr2, hr4⟩
 generalize pcn x = c at *
 generalize prv x = p at *
 refine W.sdrw (fun K hK => ?_)
 simp (disch := omega) [gA, wA, hr4]
 refine callR hO ?_
 simp (disch := omega) [gA, wA, hr2, hr4]
 refine W.lv [2, 3] hK fun J j => ?_; clear hK K; simp; refine j _ ?_; clear j J
 refine W.ret ?_
 simp [go]
end Go.Proofs.YtdiladmkbpnhoaaGreat
namespace Go.Proofs.YtdiladmkbpnhoaaGreat
open Go Pm
abbrev qd (x : List Int) (D : Int) : List Rat := x.map fun v => qmk v D
theorem qmk_div {v D : Int} (h : D ≠ 0) : qmk v D = (v : Rat) / (D : Rat) := by rw [qmk, if_neg h, Rat.divInt_eq_div]
theorem cast_ne {D : Int} (h : D ≠ 0) : (D : Rat) ≠ 0 := fun h2 => h (by exact_mod_cast h2)
theorem qmk_zero {D : Int} (h : D ≠ 0) : qmk 0 D = 0 := by rw [qmk_div h]; simp [Rat.div_def]
theorem qmk_eq_zero {v D : Int} (h : D ≠ 0) : qmk v D = 0 ↔ v = 0 := by
 constructor
 ·intro h2
  rw [qmk_div h] at h2
  have h3 := cast_ne h
  have : (v : Rat) = 0 := by
   have h4 : (v : Rat) / (D : Rat) * D = 0 := by rw [h2]; grind
   rw [Rat.div_mul_cancel h3] at h4
   exact h4
  exact_mod_cast this
 ·rintro rfl; exact qmk_zero h
theorem qmk_mul {v D l : Int} (h : D ≠ 0) (hl : l ≠ 0) : qmk (v * l) (D * l) = qmk v D := by
 rw [qmk_div h, qmk_div (Int.mul_ne_zero h hl), Rat.intCast_mul, Rat.intCast_mul]
 have h1 := cast_ne h
 have h2 := cast_ne hl
 grind
theorem qmk_add {v w D : Int} (h : D ≠ 0) : qmk v D + qmk w D = qmk (v + w) D := by
 rw [qmk_div h, qmk_div h, qmk_div h, Rat.intCast_add]
 have h1 := cast_ne h
 grind
theorem qmk_neg {v D : Int} (h : D ≠ 0) : qmk v D * (-1) = qmk (-v) D := by
 rw [qmk_div h, qmk_div h, Rat.intCast_neg]
 have h1 := cast_ne h
 grind
theorem qmk_cast {v w D : Int} (h : D ≠ 0) : (w : Rat) * qmk v D = qmk (w * v) D := by
 rw [qmk_div h, qmk_div h, Rat.intCast_mul]
 have h1 := cast_ne h
 grind
theorem qmk_quo {v D l : Int} (h : D ≠ 0) (hl : l ≠ 0) : qmk v D / (l : Rat) = qmk v (D * l) := by
 rw [qmk_div h, qmk_div (Int.mul_ne_zero h hl), Rat.intCast_mul]
 have h1 := cast_ne h
 have h2 := cast_ne hl
 grind
theorem cutQ_qd {D : Int} (h : D ≠ 0) : ∀ x : List Int, cutQ (qd x D) = qd (cutR x) D
 | [] => rfl
 | a :: x => by
  have ih := cutQ_qd h x
  simp only [qd, List.map_cons] at ih ⊢
  rw [cutQ, ih, cutR]
  by_cases h1 : cutR x = [] ∧ a = 0
  ·simp [h1, qmk_zero h]
  ·rw [if_neg h1, if_neg (by simpa [qmk_eq_zero h] using h1)]; simp
theorem nth_qd {D : Int} (h : D ≠ 0) (x : List Int) (k : Nat) : nth (qd x D) k = qmk (nth x k) D := nth_map (f := fun v => qmk v D) (qmk_zero h) x k
theorem addQ_qd {D : Int} (h : D ≠ 0) (x y : List Int) : addQ (qd x D) (qd y D) = qd (padd x y) D := by
 rw [addQ, padd, ← cutQ_qd h]
 congr 1
 simp only [qd, List.length_map, List.map_map]
 congr 1
 funext k
 simp only [Function.comp_apply]
 rw [show nth (List.map (fun v => qmk v D) x) k = _ from nth_qd h x k, show nth (List.map (fun v => qmk v D) y) k = _ from nth_qd h y k, qmk_add h]
theorem negQ_qd {D : Int} (h : D ≠ 0) (x : List Int) : scaleQ (qd x D) (-1) = qd (pneg x) D := by
 rw [scaleQ, pneg, ← cutQ_qd h]
 congr 1
 simp only [qd, List.map_map]
 congr 1
 funext k
 simp only [Function.comp_apply]
 exact qmk_neg h
theorem scaleQ_qd {D : Int} (h : D ≠ 0) (y : List Int) (v : Int) : scaleQ (qs y) (qmk v D) = qd (pscale y v) D := by
 rw [scaleQ, pscale, ← cutQ_qd h]
 congr 1
 simp only [qd, qs, List.map_map]
 congr 1
 funext k
 simp only [Function.comp_apply]
 exact qmk_cast h
theorem qd_mul {D l : Int} (h : D ≠ 0) (hl : l ≠ 0) (x : List Int) : qd (x.map (· * l)) (D * l) = qd x D := by
 simp only [qd, List.map_map]
 congr 1
 funext k
 simp only [Function.comp_apply]
 exact qmk_mul h hl
theorem qd_one (x : List Int) : qd x 1 = qs x := by
 simp only [qd, qs, qmk_one]
theorem ZR_qmk {v D : Int} {k : Nat} (h : D ≠ 0) (hv : sz 2 v ≤ k) (hD : sz 2 D ≤ k) : ZR k (qmk v D) := by
 refine ⟨Nat.le_trans (sz_mono (by decide) ?_) hv, Nat.le_trans (sz_mono (by decide) ?_) hD⟩
 ·rw [qmk_num _ _ h]
  refine Nat.le_trans (Int.natAbs_ediv_le_natAbs _ _) ?_
  split <;> simp
 ·rw [qmk_den _ _ h]
  refine Nat.le_trans (Int.natAbs_ediv_le_natAbs _ _) ?_
  split <;> simp
theorem QOK_qd {x : List Int} {D : Int} {k n : Nat} (h : D ≠ 0) (hx : Bd 2 k n x) (hD : sz 2 D ≤ k) (hk : k ≤ YY) (hn : n < 1099511627776) : QOK (qd x D) := ⟨fun q hq => by
 simp only [List.mem_map] at hq
 obtain ⟨v, hv, rfl⟩ := hq
 exact ZR_qmk h (Nat.le_trans (hx.sz v hv) hk) (Nat.le_trans hD hk), by have := hx.len; simp; omega⟩
structure DS where
 Q : List Int
 r : List Int
 D : Int
def dst (y : List Int) (σ : DS) : DS := ⟨(σ.Q.map (· * lead y)).set (σ.r.length - y.length) (lead σ.r), psr y (lead y) (lead σ.r) (σ.r.length - y.length) σ.r, σ.D * lead y⟩
def dms (y : List Int) : Nat → DS → DS
 | 0, σ => σ
 | n + 1, σ => if σ.r.length < y.length then σ else dms y n (dst y σ)
def dmd (x y : List Int) : DS := dms y (x.length + 1) ⟨List.replicate (psk x y) 0, x, 1⟩
theorem dst_len {y : List Int} {σ : DS} (hy : 0 < y.length) (h : y.length ≤ σ.r.length) : (dst y σ).r.length < σ.r.length := by
 have h1 := psr_len (b := y) (r := σ.r) (i := σ.r.length - y.length) hy (by omega)
 rw [show psx y σ.r (σ.r.length - y.length) = lead σ.r from by rw [psx, if_pos (by omega)]] at h1
 show (psr y (lead y) (lead σ.r) (σ.r.length - y.length) σ.r).length < _
 omega
theorem dms_end {y : List Int} {σ : DS} (h : σ.r.length < y.length) : ∀ n, dms y n σ = σ
 | 0 => rfl
 | n + 1 => by rw [dms, if_pos h]
structure DInv (x y : List Int) (σ : DS) : Prop where
 v : ∀ t, σ.D * V t x = V t σ.Q * V t y + V t σ.r
 z : ∀ j, j + y.length ≤ σ.r.length → nth σ.Q j = 0
 c : Cn σ.r
 d : σ.D ≠ 0
 q : σ.r.length + 1 ≤ σ.Q.length + y.length ∨ σ.r.length < y.length
theorem DInv.step {x y : List Int} {σ : DS} (cy : Cn y) (hy : 0 < y.length) (h : y.length ≤ σ.r.length) (hI : DInv x y σ) : DInv x y (dst y σ) := by
 have hl := lead_ne cy hy
 have hlt := dst_len hy h
 have hq := hI.q.resolve_right (by omega)
 have hk : σ.r.length - y.length < (σ.Q.map (· * lead y)).length := by simp; omega
 have h1 := psr_len (b := y) (r := σ.r) (i := σ.r.length - y.length) hy (by omega)
 rw [show psx y σ.r (σ.r.length - y.length) = lead σ.r from by rw [psx, if_pos (by omega)]] at h1
 refine ⟨fun t => ?_, fun j hj => ?_, Cn.psub _ _, Int.mul_ne_zero hI.d hl, ?_⟩
 ·have h2 := hI.v t
  have h3 := V_set (b := t) (x := lead σ.r) hk
  have h4 : nth (σ.Q.map (· * lead y)) (σ.r.length - y.length) = 0 := by
   rw [nth_mapmul, hI.z _ (by omega)]; simp
  show σ.D * lead y * V t x = V t ((σ.Q.map (· * lead y)).set (σ.r.length - y.length) (lead σ.r)) * V t y + V t (psr y (lead y) (lead σ.r) (σ.r.length - y.length) σ.r)
  rw [h3, h4, V_mapmul, psr, V_psub, V_pmul, V_stp, V_pscale]
  have h5 : σ.D * lead y * V t x = lead y * (σ.D * V t x) := by grind
  rw [h5, h2]; grind
 ·have hj : j + y.length ≤ (psr y (lead y) (lead σ.r) (σ.r.length - y.length) σ.r).length := hj
  show nth ((σ.Q.map (· * lead y)).set (σ.r.length - y.length) (lead σ.r)) j = 0
  rw [nth_set_ne (by omega), nth_mapmul, hI.z _ (by omega)]; simp
 ·left
  have : (dst y σ).Q.length = σ.Q.length := by simp [dst]
  omega
theorem DInv.dms {x y : List Int} (cy : Cn y) (hy : 0 < y.length) : ∀ (n : Nat) (σ : DS), σ.r.length < n → DInv x y σ → DInv x y (dms y n σ) ∧ (Proofs.YtdiladmkbpnhoaaGreat.dms y n σ).r.length < y.length
 | 0, σ, h, _ => by omega
 | n + 1, σ, h, hI => by
  rw [Proofs.YtdiladmkbpnhoaaGreat.dms]
  split
  ·rename_i h1; exact ⟨hI, h1⟩
  ·rename_i h1
   exact DInv.dms cy hy n _ (by have := dst_len (σ := σ) hy (by omega); omega) (hI.step cy hy (by omega))
theorem DInv.start {x y : List Int} (cx : Cn x) : DInv x y ⟨List.replicate (psk x y) 0, x, 1⟩ := by
 refine ⟨fun t => ?_, fun j hj => ?_, cx, show (1 : Int) ≠ 0 by decide, ?_⟩
 ·simp [V_rep]
 ·rcases Nat.lt_or_ge j (psk x y) with h | h
  ·rw [nth_eq (by simpa using h)]; simp
  ·rw [nth_ge (by simpa using h)]; rfl
 ·simp only [psk, List.length_replicate]; omega
theorem dmd_inv {x y : List Int} (cx : Cn x) (cy : Cn y) (hy : 0 < y.length) : DInv x y (dmd x y) ∧ (dmd x y).r.length < y.length := DInv.dms cy hy _ _ (Nat.lt_succ_self _) (DInv.start cx)
end Go.Proofs.YtdiladmkbpnhoaaGreat
namespace Go.Proofs.YtdiladmkbpnhoaaGreat
open Go Pm
@[simp] theorem setEl_re {l : List Rat} {i : Nat} {q : Rat} : setEl (emap re l) i 0 [sls i64e (dig DD q.num.natAbs), .bool (decide (q.num < 0)), sls i64e (dig DD q.den), .bool false] = emap re (l.set i q) := setEl_g (n := 4) (fun _ => rfl)
theorem emap_re_qs (x : List Int) : emap re (qs x) = emap ri x := by simp only [emap, qs, List.map_map, Function.comp_def, re_int]
theorem qSub_ret (a b n : List Rat) (ha : QOK a) (hb : QOK b) (hn : scaleQ b (-1) = n) (hn2 : QOK n) : Ret env.P 218 [PP a, PP b] (PP (addQ a n)) := by
 have h1 := qNeg_ret b hb
 rw [hn] at h1
 have h2 := qAdd_ret a n ha hn2
 refine ret_of_Wf (E := env) (fun _ => 0) [(0, PP a), (1, PP b)] Tryz.func218 rfl (by kernel_rfl) (by kernel_rfl) (show 2 ≤ 9 by decide) (by simp) ?_
 refine W.sreg (fun K hK => ?_); simp (disch := omega) [gA, wA]; refine W.lv [0, 1] hK fun J j => ?_; clear hK K; simp; refine j _ ?_; clear j J
 refine W.sreg (fun K hK => ?_)
 simp (disch := omega) [gA, wA]
 refine callR h1 ?_
 simp (disch := omega) [gA, wA]
 refine callR h2 ?_
 simp (disch := omega) [gA, wA]
 refine W.lv [4] hK fun J j => ?_; clear hK K; simp; refine j _ ?_; clear j J
 refine W.ret ?_
 simp [go]
end Go.Proofs.YtdiladmkbpnhoaaGreat
