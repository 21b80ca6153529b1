import Derived.Test.YtbbjgncblhfegaaGreatAaf
import Derived.Test.YtbbjgncblhfegaaGreatAah
set_option linter.unusedSimpArgs false
set_option linter.unusedVariables false
namespace Go.Proofs.YtbbjgncblhfegaaGreat
open Go Pm
theorem ajk (n : Int) (h0 : 0 ≤ n) (h1 : n < 4294967296) : aI env.P 258 [.int .u32 n] (.int .i64 (32 - nb n.toNat)) := by
 refine aB (E := env) (fun _ => 0) [(0, .int .u32 n)] Tryz.func258 rfl (by kernel_rfl) (by kernel_rfl) (show 1 ≤ 6 by decide) (by simp) ?_
 refine W.sr ?_; simp (disch := omega) [gw]; refine W.lx [0] ?_; simp
 refine W.sr ?_
 simp (disch := omega) [gw]
 refine aA (C7 n h0 h1) ?_
 have : nb n.toNat ≤ 32 := oO.2 (by omega)
 simp (disch := omega) [gw]
 refine W.lx [2] ?_; simp
 refine W.ret ?_
 simp [go]
theorem adK (l : List Int) (n : Nat) (hn : n ≤ 31) (hl : l.length < 1099511627775) (lm : b6 4294967296 l) : aI env.P 262 [us l, .int .i64 n] (N (V 4294967296 l * 2 ^ n)) := by
 refine aB (E := env) (fun _ => 0) [(0, us l), (1, .int .i64 n)] Tryz.func262 rfl (by kernel_rfl) (by kernel_rfl) (show 2 ≤ 67 by decide) (by simp) ?_
 refine W.sr ?_; simp (disch := omega) [gw]; refine W.lx [0, 1] ?_; simp
 have fA := bM l
 refine W.sr ?_
 simp (disch := omega) [gw]
 refine aA (cR l (by omega)) ?_
 simp (disch := omega) [gw]
 refine W.lx [0, 1] ?_; simp
 have lx := dG lm
 have hV := cA (b := 4294967296) l
 rw [← hV]
 have hxl : (aM l).length < 1099511627775 := by omega
 clear hV
 generalize aM l = x at *
 have h65 : ¬ (65536 < (n : Int)) := by omega
 have e0 : (if 0 < n then (n : Int) else 0) = n := by split <;> omega
 refine W.sr ?_
 simp (disch := omega) [gw, h65, e0]
 refine W.lx [0, 1] ?_; simp
 refine W.seq ?_
 refine W.sr ?_; simp (disch := omega) [gw]; refine W.lx [0, 1, 18] ?_; simp
 refine W.cond ⟨_, rfl, fun h => ?_, fun h => ?_⟩
 ·have h : x = [] := by simp at h; exact h
  subst h
  refine W.sr ?_; simp (disch := omega) [gw]; refine W.lx [4] ?_; simp
  refine W.ret ?_
  simp [go, V]
  rfl
 have h : x ≠ [] := by simp at h; exact h
 refine W.skip ?_
 have d1 : (n : Int) / 32 = 0 := by omega
 have d2 : (n : Int) % 32 = n := by omega
 refine W.sr ?_; simp (disch := omega) [gw, d1, d2]; refine W.lx [0, 5, 6] ?_; simp
 refine W.sr ?_; simp (disch := omega) [gw]; refine W.lx [0, 5, 6, 7] ?_; simp
 refine W.seq ?_
 refine W.sr ?_; simp (disch := omega) [gw]; refine W.lx [5, 6, 7, 30, 31, 32] ?_; simp
 refine W.block ?_
 have h2n : (2 : Int) ^ n ≤ 2147483648 := by
  have := Int.ofNat_le.2 (Nat.pow_le_pow_right (show 0 < 2 by decide) hn)
  simpa using this
 have h2p : (0 : Int) < 2 ^ n := Int.pow_pos (by decide)
 have h2d : (2 : Int) ^ n ∣ 4294967296 := by
  refine ⟨2 ^ (32 - n), ?_⟩
  rw [← Int.pow_add, show n + (32 - n) = 32 by omega]; rfl
 refine W.a9 (fun q σ => ∃ (i v : Nat) (z : List Int) (rows : Pm.Rows) (clk : Nat), σ = ⟨fa [(5, .int .i64 0), (6, .int .u64 n), (7, .own 29 v 0 (x.length + 1)), (30, us x), (31, .int .i64 x.length), (32, .int .i64 i)], rows, clk⟩ ∧
  rows 29 = some ⟨v, 143, 1, emap u32 z⟩ ∧ q = x.length - i ∧ i ≤ x.length ∧ z.length = x.length + 1 ∧ b6 4294967296 z ∧ V 4294967296 (z.take (i + 1)) = V 4294967296 (x.take i) * 2 ^ n ∧ nth z i < 2 ^ n) x.length ?_ ?_
 ·exact ⟨_, .refl, 0, _, List.replicate (x.length + 1) 0, _, _, rfl, by simp, by omega, by omega, by simp, b6.rep (by decide) _, by simp [V, List.replicate_succ], by rw [cS (by simp)]; simp; exact h2p⟩
 rintro q _ ⟨i, v, z, rows, clk, rfl, hr, hq, hi, hz, lz, hV, hzi⟩
 refine W.sr ?_; simp (disch := omega) [gw]; refine W.lx [5, 6, 7, 30, 31, 32, 33] ?_; simp
 refine W.seq ?_
 refine W.cond ⟨_, rfl, fun h => ?_, fun h => ?_⟩
 ·have hi : i < x.length := by simp at h; omega
  have hw := lx.nth hi
  refine W.skip ?_
  refine W.seq ?_
  refine W.block ?_
  refine W.sr ?_; simp (disch := omega) [gw]; refine W.lx [5, 6, 7, 8, 9, 30, 31, 32] ?_; simp
  have hVx := aT (b := 4294967296) hi
  generalize hwe : nth x i = w at *
  have hv0 : 0 ≤ w * 2 ^ n := Int.mul_nonneg hw.1 (by omega)
  have hv1 : w * 2 ^ n < 4294967296 * 2 ^ n := Int.mul_lt_mul_of_pos_right hw.2 h2p
  have hvd : (2 ^ n : Int) ∣ w * 2 ^ n := ⟨w, Int.mul_comm _ _⟩
  have hwr : IntKind.u64.wrap (w * 2 ^ n) = w * 2 ^ n := wrap_u64 hv0 (by omega)
  have atx := lz.nth (i := i) (by omega)
  refine W.sr ?_
  simp (disch := omega) [gw, hwr]
  refine W.lx [5, 6, 7, 8, 10, 30, 31, 32] ?_; simp
  have aty : V 4294967296 (x.take (i + 1)) * 2 ^ n = V 4294967296 (x.take i) * 2 ^ n + 4294967296 ^ i * (w * 2 ^ n) := by rw [hVx]; grind
  generalize hve : w * 2 ^ n = y at *
  have aoM : (2 ^ n : Int) ∣ y % 4294967296 := by
   rw [Int.emod_def]
   exact Int.dvd_sub hvd (Int.dvd_trans h2d (Int.dvd_mul_right _ _))
  have awA : y % 4294967296 + 2 ^ n ≤ 4294967296 := by
   obtain ⟨c, hc⟩ := aoM
   obtain ⟨d, hd⟩ := h2d
   have h1 : (2 ^ n : Int) * c < 2 ^ n * d := by have := Int.emod_lt_of_pos y (show (0 : Int) < 4294967296 by decide); omega
   have h2 : c < d := Int.lt_of_mul_lt_mul_left h1 (by omega)
   have h3 := Int.mul_le_mul_of_nonneg_left (show c + 1 ≤ d by omega) (show 0 ≤ (2 ^ n : Int) by omega)
   rw [Int.mul_add] at h3
   omega
  have hor := (adB (a := y % 4294967296) (b := nth z i) n (by omega) atx.1 aoM hzi (by omega)).2
  have hwy : IntKind.u32.wrap y = y % 4294967296 := wrap_u32'
  refine W.sr ?_
  simp (disch := omega) [gw, hr, hz, hwy, hor]
  refine W.lx [5, 6, 7, 8, 10, 30, 31, 32] ?_; simp
  refine W.b8 (fun K hK => ?_)
  simp (disch := omega) [gw, hz]
  refine W.lw [5, 6, 7, 30, 31, 32] hK ?_; clear hK K; simp
  refine W.b8 (fun K hK => ?_); simp (disch := omega) [gw]
  refine hK _ ⟨x.length - (i + 1), _, aC _ [5, 6, 7, 30, 31, 32], by omega, i + 1, v, (z.set i (y % 4294967296 + nth z i)).set (i + 1) (y / 4294967296), _, _, rfl, by simp, by omega, by omega, by simp [hz], (lz.set ⟨by omega, by omega⟩).set ⟨by omega, by omega⟩, ?_, ?_⟩
  ·have q1 := dW (b := 4294967296) (l := z.set i (y % 4294967296 + nth z i)) (i := i + 1) (x := y / 4294967296) (by simp; omega)
   have q2 := dW (b := 4294967296) (l := z) (i := i) (x := y % 4294967296 + nth z i) (by omega)
   have q3 := aT (b := 4294967296) (l := z) (i := i) (by omega)
   have q4 := Int.mul_ediv_add_emod y 4294967296
   rw [q1, q2, aty, ← hV, q3, Int.pow_succ]
   generalize y / 4294967296 = yq at *
   generalize y % 4294967296 = yr at *
   rw [← q4]; grind
  ·rw [dR (by simp; omega)]; omega
 ·have hi : i = x.length := by simp at h; omega
  subst hi
  have hVz : V 4294967296 z = V 4294967296 x * 2 ^ n := by
   rw [aX (by omega), aX (Nat.le_refl _)] at hV; exact hV
  have zz := bE hz
  have lS := cR z (by omega)
  rw [tH lz, hVz] at lS
  refine W.exit ?_; simp only [pX, if_true, if_false, reduceIte, Nat.reduceEqDiff]
  refine W.sr ?_
  simp (disch := omega) [gw, hr, zz]
  refine aA lS ?_
  simp (disch := omega) [gw]
  refine W.lx [4] ?_; simp
  refine W.ret ?_
  simp [go]
theorem IZ (l : List Int) (n m : Nat) (hn : n ≤ 31) (hl : l.length < 1099511627775) (lm : b6 4294967296 l) (K8 : 0 < m) (G1 : m < 1099511627776) (hb : V 4294967296 l * 2 ^ n < 4294967296 ^ m) :
  ∃ y : List Int, gG env.P 259 [us l, .int .i64 n, .int .i64 m] 143 1 (emap u32 y) ∧ y.length = m ∧ b6 4294967296 y ∧ V 4294967296 y = V 4294967296 l * 2 ^ n := by
 have hp : 0 ≤ V 4294967296 l * 2 ^ n := Int.mul_nonneg (bF (by decide) lm) (Int.le_of_lt (Int.pow_pos (by decide)))
 obtain ⟨N0, hN⟩ := Int.eq_ofNat_of_zero_le hp
 have hS := adK l n hn hl lm
 rw [hN] at hS hb
 replace hS : aI env.P 262 [us l, .int .i64 n] (us (aQ LL N0)) := hS
 have W4 : (aQ LL N0).length ≤ m := FA fS (by
  have h4 : ((4294967296 ^ m : Nat) : Int) = (4294967296 : Int) ^ m := Int.natCast_pow 4294967296 m
  show N0 < 4294967296 ^ m
  omega)
 have PL := eS fS N0
 have ZH := jM fS N0
 refine ⟨aQ LL N0 ++ List.replicate (m - (aQ LL N0).length) 0, ?_, by simp; omega, b6.append.2 ⟨PL, b6.rep (by decide) _⟩, by rw [dF, oN, hN, ← ZH]; simp⟩
 generalize aQ LL N0 = D at *
 refine iJ (E := env) (fun _ => 0) (t := 6) [(0, us l), (1, .int .i64 n), (2, .int .i64 m)] Tryz.func259 rfl (by kernel_rfl) (by kernel_rfl) (show 3 ≤ 16 by decide) rfl (by simp) ?_
 refine W.sr ?_; simp (disch := omega) [gw]; refine W.lx [0, 1, 2] ?_; simp
 refine W.sr ?_; simp (disch := omega) [gw]; refine W.lx [0, 1, 7] ?_; simp
 refine W.sr ?_
 simp (disch := omega) [gw]
 refine aA hS ?_
 simp (disch := omega) [gw]
 refine aoJ (e' := 143) (els := emap u32 (List.replicate m 0)) (l := emap u32 D) (by simp) (by simp) K8 rfl (fun e he => by simp only [emap, List.mem_map] at he; obtain ⟨x, _, rfl⟩ := he; rfl) ?_
 have e1 : (emap u32 (List.replicate m 0)).take 0 ++ (emap u32 D).take m ++ (emap u32 (List.replicate m 0)).drop (0 + min (emap u32 D).length m) = emap u32 (D ++ List.replicate (m - D.length) 0) := by
  simp only [emap, List.take_zero, List.nil_append, List.length_map, Nat.zero_add, List.map_append, Nat.min_eq_left W4]
  rw [List.take_of_length_le (by simpa using W4), ← List.map_drop, List.drop_replicate]
 rw [e1]
 generalize hy : D ++ List.replicate (m - D.length) 0 = y at *
 have LC : y.length = m := by rw [← hy]; simp; omega
 simp (disch := omega) [gw]
 refine W.lx [7] ?_; simp
 refine W.sr ?_; simp (disch := omega) [gw]; refine W.lx [6] ?_; simp
 refine W.ret ?_
 exact ⟨9, 0, by simp [LC], by simp, fun x hx p hp => by
  simp only [emap, List.mem_map] at hx
  obtain ⟨r, _, rfl⟩ := hx
  simp at hp
  subst hp; rfl⟩
theorem adM (a : List Int) (w : Int) (ha : a.length < 1099511627775) (la : b6 4294967296 a) (hw0 : 0 < w) (LB : w < 4294967296) : aI env.P 257 [us a, .int .u32 w] (.eP [N (V 4294967296 a / w), .int .u32 (V 4294967296 a % w)]) := by
 refine aB (E := env) (fun _ => 0) [(0, us a), (1, .int .u32 w)] Tryz.func257 rfl (by kernel_rfl) (by kernel_rfl) (show 2 ≤ 44 by decide) (by simp) ?_
 refine W.sr ?_; simp (disch := omega) [gw]; refine W.lx [0, 1] ?_; simp
 refine W.sr ?_; simp (disch := omega) [gw]; refine W.lx [0, 1, 6] ?_; simp
 refine W.sr ?_; simp (disch := omega) [gw]; refine W.lx [0, 1, 6, 7] ?_; simp
 refine W.seq ?_
 refine W.sr ?_; simp (disch := omega) [gw]; refine W.lx [0, 1, 6, 7, 8] ?_; simp
 refine W.block ?_
 refine W.a9 (fun q σ => ∃ (v : Nat) (r : Int) (z : List Int) (rows : Pm.Rows) (clk : Nat), σ = ⟨fa [(0, us a), (1, .int .u32 w), (6, .own 12 v 0 a.length), (7, .int .u64 r), (8, .int .i64 ((q : Int) - 1))], rows, clk⟩ ∧
  rows 12 = some ⟨v, 143, 1, emap u32 z⟩ ∧ q ≤ a.length ∧ z.length = a.length ∧ b6 4294967296 z ∧ V 4294967296 (z.drop q) * w + r = V 4294967296 (a.drop q) ∧ 0 ≤ r ∧ r < w) a.length ?_ ?_
 ·exact ⟨_, .refl, 0, 0, List.replicate a.length 0, _, _, rfl, by simp, by omega, by simp, b6.rep (by decide) _, by simp [V], by omega, hw0⟩
 rintro q _ ⟨v, r, z, rows, clk, rfl, hr, hq, hz, lz, hV, CN, BW⟩
 refine W.seq ?_
 refine W.sr ?_; simp (disch := omega) [gw]; refine W.lx [0, 1, 6, 7, 8, 17] ?_; simp
 refine W.cond ⟨_, rfl, fun h => ?_, fun h => ?_⟩
 ·have BX : 0 < q := by simp at h; omega
  obtain ⟨j, rfl⟩ : ∃ j, q = j + 1 := ⟨q - 1, by omega⟩
  clear h
  have hj := la.nth (i := j) (by omega)
  have ej : ((j + 1 : Nat) : Int) - 1 = j := by omega
  rw [ej]
  have hVa : V 4294967296 (a.drop j) = nth a j + 4294967296 * V 4294967296 (a.drop (j + 1)) := by rw [dV (by omega)]; rfl
  generalize hxe : nth a j = x at *
  have hrb : r * 4294967296 < 18446744073709551616 := by omega
  have hor := (xL (a := r * 4294967296) (b := x) 32 (by omega) hj.1 ⟨r, by rw [Int.mul_comm]; rfl⟩ (by simpa using hj.2) (by omega)).1
  refine W.skip ?_
  refine W.seq ?_
  refine W.block ?_
  refine W.sr ?_
  simp (disch := omega) [gw, hxe, hor]
  refine W.lx [0, 1, 6, 8, 9] ?_; simp
  have hs : (r * 4294967296 + x) / w < 4294967296 := Int.ediv_lt_of_lt_mul hw0 (by
   have := Int.mul_le_mul_of_nonneg_right (show r + 1 ≤ w by omega) (show (0 : Int) ≤ 4294967296 by decide)
   rw [Int.mul_comm 4294967296]; omega)
  have TZ : 0 ≤ (r * 4294967296 + x) / w := Int.ediv_nonneg (by omega) (by omega)
  have K8 := Int.emod_nonneg (r * 4294967296 + x) (show w ≠ 0 by omega)
  have G1 := Int.emod_lt_of_pos (r * 4294967296 + x) hw0
  have TX := Int.mul_ediv_add_emod (r * 4294967296 + x) w
  have hw' : ¬ w = 0 := by omega
  refine W.M3 (fun K hK => ?_)
  simp (disch := omega) [gw, hr, hz, hw']
  refine bN (by kernel_rfl) ?_
  simp (disch := omega) [gw, hr, hz, hw']
  refine W.lw [0, 1, 6, 7, 8] hK ?_; clear hK K; simp
  refine W.b8 (fun K hK => ?_); simp (disch := omega) [gw]
  refine hK _ ⟨j, _, aC _ [0, 1, 6, 7, 8], by omega, v, (r * 4294967296 + x) % w, z.set j ((r * 4294967296 + x) / w), _, _, rfl, by simp, by omega, by simp [hz], lz.set ⟨TZ, hs⟩, ?_, K8, G1⟩
  rw [dV (l := z.set j _) (i := j) (by simp; omega), dR (by omega), hVa, ← hV, List.drop_set_of_lt (by omega)]
  simp only [V]
  generalize (r * 4294967296 + x) / w = qq at *
  generalize (r * 4294967296 + x) % w = rr at *
  grind
 ·have BX : q = 0 := by simp at h; omega
  subst BX
  have zz := bE hz
  have lS := cR z (by omega)
  simp only [List.drop_zero] at hV
  have h1 : V 4294967296 z = V 4294967296 a / w ∧ r = V 4294967296 a % w := by
   have h2 : V 4294967296 a / w = V 4294967296 z := by
    have e : (V 4294967296 z + 1) * w = V 4294967296 z * w + w := by grind
    rw [Int.ediv_eq_iff_of_pos hw0]
    constructor <;> omega
   refine ⟨h2.symm, ?_⟩
   have h3 := Int.emod_def (V 4294967296 a) w
   rw [h2, Int.mul_comm] at h3
   omega
  rw [tH lz, h1.1] at lS
  have cI := h1.2
  refine W.exit ?_; simp only [pX, if_true, if_false, reduceIte, Nat.reduceEqDiff]
  refine W.sr ?_
  simp (disch := omega) [gw, hr, zz]
  refine aA lS ?_
  simp (disch := omega) [gw]
  refine W.lx [4, 5] ?_; simp
  refine W.ret ?_
  simp [go, cI]
theorem nZ {x : List Int} {i : Nat} (h : x.length ≤ i) : nth x i = 0 := fY h
theorem adN (l : List Int) (n : Nat) (hn : n ≤ 31) (hl : l.length < 1099511627775) (lm : b6 4294967296 l) : aI env.P 261 [us l, .int .i64 n] (N (V 4294967296 l / 2 ^ n)) := by
 refine aB (E := env) (fun _ => 0) [(0, us l), (1, .int .i64 n)] Tryz.func261 rfl (by kernel_rfl) (by kernel_rfl) (show 2 ≤ 69 by decide) (by simp) ?_
 refine W.sr ?_; simp (disch := omega) [gw]; refine W.lx [0, 1] ?_; simp
 have fA := bM l
 refine W.sr ?_
 simp (disch := omega) [gw]
 refine aA (cR l (by omega)) ?_
 simp (disch := omega) [gw]
 refine W.lx [0, 1] ?_; simp
 have lx := dG lm
 have hV := cA (b := 4294967296) l
 rw [← hV]
 have hxl : (aM l).length < 1099511627775 := by omega
 clear hV
 generalize aM l = x at *
 have h65 : ¬ (65536 < (n : Int)) := by omega
 have e0 : (if 0 < n then (n : Int) else 0) = n := by split <;> omega
 refine W.sr ?_
 simp (disch := omega) [gw, h65, e0]
 refine W.lx [0, 1] ?_; simp
 have d1 : (n : Int) / 32 = 0 := by omega
 have d2 : (n : Int) % 32 = n := by omega
 refine W.sr ?_; simp (disch := omega) [gw, d1, d2]; refine W.lx [0, 5, 6] ?_; simp
 refine W.seq ?_
 refine W.sr ?_; simp (disch := omega) [gw]; refine W.lx [0, 5, 6, 23] ?_; simp
 refine W.cond ⟨_, rfl, fun h => ?_, fun h => ?_⟩
 ·have h : x = [] := by simp at h; exact h
  subst h
  refine W.sr ?_; simp (disch := omega) [gw]; refine W.lx [4] ?_; simp
  refine W.ret ?_
  simp [go, V]
  rfl
 have h : x ≠ [] := by simp at h; exact h
 refine W.skip ?_
 refine W.sr ?_; simp (disch := omega) [gw]; refine W.lx [0, 5, 6, 7] ?_; simp
 refine W.seq ?_
 refine W.sr ?_; simp (disch := omega) [gw]; refine W.lx [0, 5, 6, 7, 30, 31] ?_; simp
 refine W.block ?_
 have h2p : (0 : Int) < 2 ^ n := Int.pow_pos (by decide)
 have h2e : (0 : Int) < 2 ^ (32 - n) := Int.pow_pos (by decide)
 have h2d : (2 : Int) ^ n * 2 ^ (32 - n) = 4294967296 := by
  rw [← Int.pow_add, show n + (32 - n) = 32 by omega]; rfl
 refine W.a9 (fun q σ => ∃ (i v : Nat) (z : List Int) (rows : Pm.Rows) (clk : Nat), σ = ⟨fa [(0, us x), (5, .int .i64 0), (6, .int .u64 n), (7, .own 28 v 0 x.length), (30, .int .i64 x.length), (31, .int .i64 i)], rows, clk⟩ ∧
  rows 28 = some ⟨v, 143, 1, emap u32 z⟩ ∧ q = x.length - i ∧ i ≤ x.length ∧ z.length = x.length ∧ b6 4294967296 z ∧ 2 ^ n * V 4294967296 (z.take i) + nth x 0 % 2 ^ n = V 4294967296 (x.take i) + (nth x i % 2 ^ n) * 4294967296 ^ i) x.length ?_ ?_
 ·exact ⟨_, .refl, 0, _, List.replicate x.length 0, _, _, rfl, by simp, by omega, by omega, by simp, b6.rep (by decide) _, by simp [V]⟩
 rintro q _ ⟨i, v, z, rows, clk, rfl, hr, hq, hi, hz, lz, hV⟩
 refine W.sr ?_; simp (disch := omega) [gw]; refine W.lx [0, 5, 6, 7, 30, 31, 32] ?_; simp
 refine W.seq ?_
 refine W.cond ⟨_, rfl, fun h => ?_, fun h => ?_⟩
 ·have hi : i < x.length := by simp at h; omega
  have hw := lx.nth hi
  have hw2 : 0 ≤ nth x (i + 1) ∧ nth x (i + 1) < 4294967296 := by
   rcases Nat.lt_or_ge (i + 1) x.length with h3 | h3
   ·exact lx.nth h3
   ·rw [nZ h3]; decide
  have hVx := aT (b := 4294967296) hi
  obtain ⟨q1, q2, q3⟩ := YS h2p h2e h2d hw hw2
  generalize hwe : nth x i = w at *
  refine W.skip ?_
  refine W.seq ?_
  refine W.block ?_
  refine W.sr ?_; simp (disch := omega) [gw]; refine W.lx [0, 5, 6, 7, 8, 30, 31] ?_; simp
  refine W.sr ?_; simp (disch := omega) [gw, hwe]; refine W.lx [0, 5, 6, 7, 8, 9, 30, 31] ?_; simp
  refine W.fX (fun σ => ∃ (rows : Pm.Rows) (clk : Nat), σ = ⟨fa [(0, us x), (5, .int .i64 0), (6, .int .u64 n), (7, .own 28 v 0 x.length), (8, .int .i64 i), (9, .int .u64 (w + 4294967296 * nth x (i + 1))), (30, .int .i64 x.length), (31, .int .i64 i)], rows, clk⟩ ∧ rows 28 = some ⟨v, 143, 1, emap u32 z⟩) ?_ ?_
  ·
   refine W.sr ?_; simp (disch := omega) [gw]; refine W.lx [0, 5, 6, 7, 8, 9, 30, 31, 47] ?_; simp
   refine W.cond ⟨_, rfl, fun h => ?_, fun h => ?_⟩
   ·have h : i + 1 < x.length := by simp at h; omega
    have hor := (xL (a := nth x (i + 1) * 4294967296) (b := w) 32 (by omega) hw.1 ⟨nth x (i + 1), by rw [Int.mul_comm]; rfl⟩ (by simpa using hw.2) (by omega)).2
    rw [show nth x (i + 1) * 4294967296 + w = w + 4294967296 * nth x (i + 1) by omega] at hor
    refine W.b8 (fun K hK => ?_); simp (disch := omega) [gw, hor]
    exact hK _ ⟨_, aC _ [0, 5, 6, 7, 8, 9, 30, 31], _, _, rfl, by simp [hr]⟩
   ·have h : x.length ≤ i + 1 := by simp at h; omega
    rw [nZ h]
    refine W.skip ?_
    exact ⟨_, Gh.fr [(0, us x), (5, .int .i64 0), (6, .int .u64 n), (7, .own 28 v 0 x.length), (8, .int .i64 i), (9, .int .u64 (w + 4294967296 * 0)), (30, .int .i64 x.length), (31, .int .i64 i)] (by simp), _, _, rfl, by simp [hr]⟩
  rintro _ ⟨rows, clk, rfl, hr⟩
  have hwr : IntKind.u32.wrap ((w + 4294967296 * nth x (i + 1)) / 2 ^ n) = ((w + 4294967296 * nth x (i + 1)) / 2 ^ n) % 4294967296 := wrap_u32'
  have hfd : (w + 4294967296 * nth x (i + 1)).fdiv (2 ^ n) = (w + 4294967296 * nth x (i + 1)) / 2 ^ n := Int.fdiv_eq_ediv_of_nonneg _ (by omega)
  refine W.b8 (fun K hK => ?_)
  simp (disch := omega) [gw, hr, hz, hfd, hwr]
  refine W.lw [0, 5, 6, 7, 30, 31] hK ?_; clear hK K; simp
  refine W.b8 (fun K hK => ?_); simp (disch := omega) [gw]
  refine hK _ ⟨x.length - (i + 1), _, aC _ [0, 5, 6, 7, 30, 31], by omega, i + 1, v, z.set i (((w + 4294967296 * nth x (i + 1)) / 2 ^ n) % 4294967296), _, _, rfl, by simp, by omega, by omega, by simp [hz], lz.set ⟨q2, q3⟩, ?_⟩
  rw [dW (by omega), hVx, Int.mul_add, Int.pow_succ]
  generalize ((w + 4294967296 * nth x (i + 1)) / 2 ^ n) % 4294967296 = o at *
  generalize nth x (i + 1) % 2 ^ n = lo1 at *
  generalize w % 2 ^ n = lo at *
  have e2 : (2 : Int) ^ n * (4294967296 ^ i * o) = 4294967296 ^ i * (2 ^ n * o) := by grind
  rw [e2, q1]
  grind
 ·have hi : i = x.length := by simp at h; omega
  subst hi
  have zz := bE hz
  have lS := cR z (by omega)
  rw [tH lz] at lS
  rw [zz, List.take_of_length_le (Nat.le_refl _), nZ (Nat.le_refl _)] at hV
  have hVz : V 4294967296 x / 2 ^ n = V 4294967296 z := by
   have h5 := Int.emod_nonneg (nth x 0) (show (2 ^ n : Int) ≠ 0 by omega)
   have h6 := Int.emod_lt_of_pos (nth x 0) h2p
   rw [Int.zero_emod, Int.zero_mul, Int.add_zero] at hV
   have e : (V 4294967296 z + 1) * 2 ^ n = 2 ^ n * V 4294967296 z + 2 ^ n := by grind
   have e' : V 4294967296 z * 2 ^ n = 2 ^ n * V 4294967296 z := Int.mul_comm _ _
   rw [Int.ediv_eq_iff_of_pos h2p]
   constructor <;> omega
  rw [hVz]
  refine W.exit ?_; simp only [pX, if_true, if_false, reduceIte, Nat.reduceEqDiff]
  refine W.sr ?_
  simp (disch := omega) [gw, hr, zz]
  refine aA lS ?_
  simp (disch := omega) [gw]
  refine W.lx [4] ?_; simp
  refine W.ret ?_
  simp [go]
theorem eX (z : List Int) (o k : Nat) : nth (z.drop o) k = nth z (o + k) := by simp [nth, List.getElem?_drop]
theorem kZ (z : List Int) (o k : Nat) (x : Int) : (z.set (o + k) x).drop o = (z.drop o).set k x := by
 rw [List.drop_set]
 rw [if_neg (by omega)]
 congr 1; omega
set_option maxHeartbeats 2000000 in
theorem NF {id ver off m : Nat} (zl y : List Int) (rows : Pm.Rows) (clk : Nat) (hr : rows id = some ⟨ver, 143, 1, emap u32 zl⟩) (LC : y.length = m + 2) (hym : m < 1099511627776) (ly : b6 4294967296 y) (ayf : 2147483648 ≤ nth y (m + 1)) (lz : b6 4294967296 zl)
  (WC : off + m + 3 ≤ zl.length) (EJ : zl.length < 1099511627776) (eZ : V 4294967296 ((zl.drop off).take (m + 3)) < 4294967296 * V 4294967296 y) :
  SP env.P 260 [.own id ver off (m + 3), us y] rows clk (fun r rows' jT => ∃ D : List Int, r = .int .u32 (V 4294967296 ((zl.drop off).take (m + 3)) / V 4294967296 y) ∧ rows' = dE rows id (some ⟨ver, 143, 1, emap u32 (zl.take off ++ D)⟩) ∧ jT = clk ∧
   D.length = (zl.drop off).length ∧ b6 4294967296 D ∧ D.drop (m + 3) = (zl.drop off).drop (m + 3) ∧ V 4294967296 (D.take (m + 3)) = V 4294967296 ((zl.drop off).take (m + 3)) % V 4294967296 y) := by
 obtain ⟨NG, hc⟩ := aoC (D := zl.drop off) (by simp; omega) LC (lz.drop off) ly (by omega) eZ
 have l1 := ly.nth (i := m) (by omega)
 have l2 := ly.nth (i := m + 1) (by omega)
 have k0 := (lz.drop off).nth (i := m) (by simp; omega)
 have k1 := (lz.drop off).nth (i := m + 1) (by simp; omega)
 have k2 := (lz.drop off).nth (i := m + 2) (by simp; omega)
 have n0 := eX zl off m
 have n1 := eX zl off (m + 1)
 have n2 := eX zl off (m + 2)
 have hDl : (zl.drop off).length = zl.length - off := by simp
 have hYb : V 4294967296 y < 4294967296 ^ (m + 2) := by have := nV (by decide) ly; rwa [LC] at this
 have hX : V 4294967296 ((zl.drop off).take (m + 3)) = V 4294967296 ((zl.drop off).take (m + 2)) + 4294967296 ^ (m + 2) * nth (zl.drop off) (m + 2) := aT (by simp; omega)
 refine ND (E := env) (fun _ => 0) (t := 4) [(0, .own id ver off (m + 3)), (1, us y)] Tryz.func260 rfl (by kernel_rfl) (by kernel_rfl) (show 2 ≤ 170 by decide) rfl (by simp) ?_
 refine W.sr ?_; simp (disch := omega) [gw]; refine W.lx [0, 1] ?_; simp
 refine W.sr ?_; simp (disch := omega) [gw, LC]; refine W.lx [0, 1, 5] ?_; simp
 have a1 : ((m : Int) + 2 - 1) = ((m + 1 : Nat) : Int) := by omega
 have a2 : ((m : Int) + 2 - 2) = (m : Int) := by omega
 refine W.sd ?_
 simp (disch := omega) [gw, LC, a1, a2]
 refine W.lx [0, 1, 5, 6, 7] ?_; simp
 rw [n0] at k0 NG
 rw [n1] at k1 NG
 rw [n2] at k2 NG hc hX
 generalize hxa : nth zl (off + m) = xa at *
 generalize hxb : nth zl (off + (m + 1)) = xb at *
 generalize hxc : nth zl (off + (m + 2)) = xc at *
 generalize htt : nth y (m + 1) = top at *
 generalize T7 : nth y m = nx at *
 have hor := (xL (a := xc * 4294967296) (b := xb) 32 (by omega) k1.1 ⟨xc, by rw [Int.mul_comm]; rfl⟩ (by simpa using k1.2) (by omega)).1
 have htp : ¬ top = 0 := by omega
 refine W.sd ?_
 have a3 : ((m : Int) + 2).toNat = m + 2 := by omega
 simp (disch := omega) [gw, hr, a1, a3, hxb, hxc, hor]
 refine W.lx [0, 1, 5, 6, 7, 8] ?_; simp
 generalize hXX : V 4294967296 ((zl.drop off).take (m + 3)) = X at *
 generalize hYY : V 4294967296 y = Y at *
 have hY0 := NG.Y0
 have hX0 : 0 ≤ X := by rw [← hXX]; exact bF (by decide) ((lz.drop off).take _)
 have hhd : xc * 4294967296 + xb ≤ top * 4294967296 + 4294967296 - 1 := by omega
 have hf := NG.first
 have hg0 := Int.ediv_nonneg NG.h0 (show 0 ≤ top by omega)
 have TX := Int.mul_ediv_add_emod (xc * 4294967296 + xb) top
 have CN := Int.emod_nonneg (xc * 4294967296 + xb) htp
 have BW := Int.emod_lt_of_pos (xc * 4294967296 + xb) (show 0 < top by omega)
 have hgu : (xc * 4294967296 + xb) / top ≤ 4294967297 := by
  rcases Int.lt_or_le 4294967297 ((xc * 4294967296 + xb) / top) with h | h
  ·exfalso
   have := Int.mul_le_mul_of_nonneg_left (show 4294967298 ≤ (xc * 4294967296 + xb) / top by omega) (show 0 ≤ top by omega)
   omega
  ·exact h
 rw [Int.mul_comm] at TX
 have hh0 := NG.h0
 generalize hhe : xc * 4294967296 + xb = head at *
 have hwq : IntKind.u64.wrap (head / top) = head / top := wrap_u64 hg0 (by omega)
 refine W.sr ?_; simp (disch := omega) [gw, htp, hwq]; refine W.lx [0, 1, 5, 6, 7, 8, 9] ?_; simp
 refine W.sr ?_; simp (disch := omega) [gw, htp]; refine W.lx [0, 1, 5, 6, 7, 9, 10] ?_; simp
 refine W.eM (fun σ => ∃ (g : Int), σ = ⟨fa [(0, .own id ver off (m + 3)), (1, us y), (5, .int .i64 ((m : Int) + 2)), (9, .int .u64 g)], rows, clk⟩ ∧ 0 ≤ g ∧ g < 4294967296 ∧ X < (g + 1) * Y ∧ g * Y < X + Y) ?_ ?_
 ·
  refine W.a9 (fun k σ => ∃ (g r : Int), σ = ⟨fa [(0, .own id ver off (m + 3)), (1, us y), (5, .int .i64 ((m : Int) + 2)), (6, .int .u64 top), (7, .int .u64 nx), (9, .int .u64 g), (10, .int .u64 r)], rows, clk⟩ ∧ k = g.toNat ∧ 0 ≤ g ∧ g ≤ 4294967297 ∧ 0 ≤ r ∧ r < 4294967296 ∧ g * top + r = head ∧ X < (g + 1) * Y) (head / top).toNat ?_ ?_
  ·exact ⟨_, .refl, head / top, head % top, rfl, rfl, hg0, hgu, CN, by omega, TX, hf⟩
  rintro k _ ⟨g, r, rfl, hk, q1, q2, q3, q4, q5, q6⟩
  refine W.seq ?_
  have atB : 0 ≤ g * nx := Int.mul_nonneg q1 l1.1
  refine W.gY (fun σ => ∃ (b : Bool), σ = ⟨fa [(0, .own id ver off (m + 3)), (1, us y), (5, .int .i64 ((m : Int) + 2)), (6, .int .u64 top), (7, .int .u64 nx), (9, .int .u64 g), (10, .int .u64 r), (71, .bool b)], rows, clk⟩ ∧ (b = true ↔ 4294967296 ≤ g ∨ r * 4294967296 + xa < g * nx)) (fun K hK => ?_) ?_
  ·by_cases hb : 4294967296 ≤ g
   ·simp (disch := omega) [gw, hb]
    exact hK _ _ (aC _ [0, 1, 5, 6, 7, 9, 10, 71]) ⟨_, rfl, by simp [hb]⟩
   ·have aym : g * nx ≤ 4294967295 * 4294967295 := Int.mul_le_mul (by omega) (by omega) l1.1 (by omega)
    have hwr : IntKind.u64.wrap (g * nx) = g * nx := wrap_u64 atB (by omega)
    have atC := (xL (a := r * 4294967296) (b := xa) 32 (by omega) k0.1 ⟨r, by rw [Int.mul_comm]; rfl⟩ (by simpa using k0.2) (by omega)).1
    simp (disch := omega) [gw, hb, hwr, hr, a2, hxa, atC]
    exact hK _ _ (aC _ [0, 1, 5, 6, 7, 9, 10, 71]) ⟨_, rfl, by simp [hb]⟩
  rintro _ ⟨b, rfl, hb⟩
  refine W.cond ⟨_, rfl, fun h => ?_, fun h => ?_⟩
  ·have h := hb.1 h
   have aoP : X < g * Y := by
    rcases h with h | h
    ·exact NG.big h
    ·exact NG.over q1 q5 h
   have hgp : 1 ≤ g := by
    rcases Int.lt_or_le g 1 with h3 | h3
    ·exfalso
     have : g = 0 := by omega
     rw [this, Int.zero_mul] at aoP; omega
    ·exact h3
   have e5 : (g - 1) * top + (r + top) = head := by rw [Int.sub_mul]; omega
   have e6 : X < (g - 1 + 1) * Y := by rw [Int.sub_add_cancel]; exact aoP
   refine W.skip ?_
   refine W.block ?_
   refine W.sr ?_; simp (disch := omega) [gw]; refine W.lx [0, 1, 5, 6, 7, 9, 10] ?_; simp
   refine W.sr ?_; simp (disch := omega) [gw]; refine W.lx [0, 1, 5, 6, 7, 9, 10] ?_; simp
   refine W.sr ?_; simp (disch := omega) [gw]; refine W.lx [0, 1, 5, 6, 7, 9, 10, 78] ?_; simp
   refine W.cond ⟨_, rfl, fun h => ?_, fun h => ?_⟩
   ·have h : 4294967296 ≤ r + top := by simp at h; omega
    have GZ := NG.YR hhd e5 h
    have hnr := NG.rB (by omega) GZ e5 (NG.aoA (by omega) GZ h)
    refine W.exit ?_; simp only [pX, if_true, if_false, reduceIte, Nat.reduceEqDiff]
    exact ⟨_, aC _ [0, 1, 5, 9], g - 1, rfl, by omega, GZ, e6, hnr⟩
   ·have h : r + top < 4294967296 := by simp at h; omega
    refine W.skip ?_
    exact ⟨(g - 1).toNat, _, aC _ [0, 1, 5, 6, 7, 9, 10], by omega, g - 1, r + top, rfl, rfl, by omega, by omega, by omega, h, e5, e6⟩
  ·have h : ¬ (4294967296 ≤ g ∨ r * 4294967296 + xa < g * nx) := fun h2 => by rw [hb.2 h2] at h; cases h
   have hnr := NG.rB q1 (by omega) q5 (by omega)
   refine W.exit ?_; simp only [pX, if_true, if_false, reduceIte, Nat.reduceEqDiff]
   exact ⟨_, aC _ [0, 1, 5, 9], g, rfl, q1, by omega, q6, hnr⟩
 rintro _ ⟨g, rfl, g0, g1, hgX, hgY⟩
 clear hf hg0 TX CN BW hgu hor
 refine W.sr ?_; simp (disch := omega) [gw]; refine W.lx [0, 1, 5, 9, 11, 12] ?_; simp
 refine W.seq ?_
 refine W.sr ?_; simp (disch := omega) [gw, LC]; refine W.lx [0, 1, 5, 9, 11, 12, 79, 80, 81] ?_; simp
 refine W.block ?_
 refine W.a9 (fun q σ => ∃ (i : Nat) (c β : Int) (z : List Int) (tM : Pm.Rows), σ = ⟨fa [(0, .own id ver off (m + 3)), (1, us y), (5, .int .i64 ((m : Int) + 2)), (9, .int .u64 g), (11, .int .u64 c), (12, .int .u64 β), (79, us y), (80, .int .i64 ((m : Int) + 2)), (81, .int .i64 i)], tM, clk⟩ ∧
  tM id = some ⟨ver, 143, 1, emap u32 z⟩ ∧ (∀ j, j ≠ id → tM j = rows j) ∧ q = m + 2 - i ∧ i ≤ m + 2 ∧ z.length = zl.length ∧ b6 4294967296 z ∧ z.take off = zl.take off ∧ (z.drop off).drop i = (zl.drop off).drop i ∧ 0 ≤ c ∧ c < 4294967296 ∧ (β = 0 ∨ β = 1) ∧
  V 4294967296 ((z.drop off).take i) + g * V 4294967296 (y.take i) = V 4294967296 ((zl.drop off).take i) + (c + β) * 4294967296 ^ i) (m + 2) ?_ ?_
 ·exact ⟨_, Gh.fr [(0, .own id ver off (m + 3)), (1, us y), (5, .int .i64 ((m : Int) + 2)), (9, .int .u64 g), (11, .int .u64 0), (12, .int .u64 0), (79, us y), (80, .int .i64 ((m : Int) + 2)), (81, .int .i64 (0 : Nat))] (by simp), 0, 0, 0, zl, rows, rfl, hr, fun _ _ => rfl, by omega, by omega, rfl, lz, rfl, rfl, by omega, by omega, .inl rfl, by simp [V]⟩
 rintro q _ ⟨i, c, β, z, tM, rfl, cI, hro, hq, hi, aoQ, lz2, hP, hD, c0, c1, hβ, hV⟩
 refine W.sr ?_; simp (disch := omega) [gw]; refine W.lx [0, 1, 5, 9, 11, 12, 79, 80, 81, 82] ?_; simp
 refine W.seq ?_
 refine W.cond ⟨_, rfl, fun h => ?_, fun h => ?_⟩
 ·have hi : i < m + 2 := by simp at h; omega
  have hw := ly.nth (i := i) (by omega)
  have hVy := aT (b := 4294967296) (l := y) (i := i) (by omega)
  have hVx := aT (b := 4294967296) (l := zl.drop off) (i := i) (by omega)
  have hxn : nth z (off + i) = nth (zl.drop off) i := by
   rw [← eX]
   have := congrArg (fun l => nth l 0) hD
   simpa [eX] using this
  have hx := (lz.drop off).nth (i := i) (by omega)
  generalize nth (zl.drop off) i = x at *
  generalize hwe : nth y i = w at *
  obtain ⟨s1, s2, β', pA, s3, s4⟩ := YT ⟨g0, g1⟩ hw ⟨c0, c1⟩ hx hβ
  refine W.skip ?_
  refine W.seq ?_
  refine W.block ?_
  refine W.sr ?_; simp (disch := omega) [gw, LC, hwe]; refine W.lx [0, 1, 5, 9, 11, 12, 13, 14, 79, 80, 81] ?_; simp
  have hp1 : IntKind.u64.wrap (g * w) = g * w := wrap_u64 (Int.mul_nonneg g0 hw.1) (by omega)
  have hp2 : IntKind.u64.wrap (g * w + c) = g * w + c := wrap_u64 s1.1 (by omega)
  refine W.sr ?_
  simp (disch := omega) [gw, hp1, hp2]
  refine W.lx [0, 1, 5, 9, 12, 13, 15, 79, 80, 81] ?_; simp
  refine W.sr ?_; simp (disch := omega) [gw]; refine W.lx [0, 1, 5, 9, 11, 12, 13, 15, 79, 80, 81] ?_; simp
  have hp3 : IntKind.u32.wrap (g * w + c) = (g * w + c) % 4294967296 := wrap_u32'
  have hp4 : IntKind.u64.wrap (IntKind.u64.wrap (x - (g * w + c) % 4294967296) - β) = (x - (g * w + c) % 4294967296 - β) % 18446744073709551616 := by rw [iO, iO]; omega
  refine W.sr ?_
  simp (disch := omega) [gw, cI, hxn, hp3, hp4]
  refine W.lx [0, 1, 5, 9, 11, 13, 16, 79, 80, 81] ?_; simp
  have hs3 := s3
  have hs4 := s4
  generalize hss : (x - (g * w + c) % 4294967296 - β) % 18446744073709551616 = s at *
  have hp5 : IntKind.u32.wrap s = s % 4294967296 := wrap_u32'
  have hoi : off + i < z.length := by omega
  refine W.b8 (fun K hK => ?_)
  simp (disch := omega) [gw, cI, hp5, s3, hoi]
  refine W.lw [0, 1, 5, 9, 11, 12, 79, 80, 81] hK ?_; clear hK K; simp
  refine W.b8 (fun K hK => ?_); simp (disch := omega) [gw]
  refine hK _ ⟨m + 2 - (i + 1), _, aC _ [0, 1, 5, 9, 11, 12, 79, 80, 81], by omega, i + 1, (g * w + c) / 4294967296, β', z.set (off + i) (s % 4294967296), _, rfl, by simp, fun j hj => by simp [hj, hro j hj], by omega, by omega, by simp [aoQ], lz2.set ⟨by omega, by omega⟩, by rw [fB (by omega), hP], ?_, s2.1, s2.2, pA, ?_⟩
  ·rw [kZ, List.drop_set_of_lt (by omega)]
   have := congrArg (List.drop 1) hD
   rw [List.drop_drop, List.drop_drop, List.drop_drop, List.drop_drop] at this
   rw [List.drop_drop, List.drop_drop]
   exact this
  ·rw [kZ, dW (by simp; omega), hVy, hVx, s4, Int.pow_succ]
   have h10 := Int.mul_ediv_add_emod (g * w + c) 4294967296
   generalize (g * w + c) / 4294967296 = pq at *
   generalize (g * w + c) % 4294967296 = pr at *
   generalize (4294967296 : Int) ^ i = bi at *
   have e7 : g * (V 4294967296 (y.take i) + bi * w) = g * V 4294967296 (y.take i) + bi * (g * w) := by grind
   rw [e7]
   have e8 : g * w = 4294967296 * pq + pr - c := by omega
   rw [e8]
   have e9 : V 4294967296 ((z.drop off).take i) = V 4294967296 ((zl.drop off).take i) + (c + β) * bi - g * V 4294967296 (y.take i) := by omega
   rw [e9]
   grind
 ·have hi : i = m + 2 := by simp at h; omega
  subst hi
  rw [List.take_of_length_le (show y.length ≤ m + 2 by omega), hYY] at hV
  have hxn : nth z (off + (m + 2)) = xc := by
   rw [← n2, ← eX]
   have := congrArg (fun l => nth l 0) hD
   simpa [eX] using this
  have hV0 := bF (b := 4294967296) (by decide) ((lz2.drop off).take (m + 2))
  have hV1 := nV (b := 4294967296) (by decide) ((lz2.drop off).take (m + 2))
  rw [List.length_take, Nat.min_eq_left (by simp; omega)] at hV1
  have hXg : X - g * Y = V 4294967296 ((z.drop off).take (m + 2)) + 4294967296 ^ (m + 2) * (xc - c - β) := by
   rw [hX]
   have : (c + β) * 4294967296 ^ (m + 2) = 4294967296 ^ (m + 2) * c + 4294967296 ^ (m + 2) * β := by grind
   rw [Int.mul_sub, Int.mul_sub]; omega
  have hoi : off + (m + 2) < z.length := by omega
  generalize hbn : (4294967296 : Int) ^ (m + 2) = bn at *
  have hp4 : IntKind.u64.wrap (IntKind.u64.wrap (xc - c) - β) = (xc - c - β) % 18446744073709551616 := by rw [iO, iO]; omega
  refine W.exit ?_; simp only [pX, if_true, if_false, reduceIte, Nat.reduceEqDiff]
  refine W.sr ?_
  simp (disch := omega) [gw, cI, a3, hxn, hp4]
  refine W.lx [0, 1, 5, 9, 17] ?_; simp
  generalize hss : (xc - c - β) % 18446744073709551616 = s at *
  have hp5 : IntKind.u32.wrap s = s % 4294967296 := wrap_u32'
  refine W.sr ?_
  simp (disch := omega) [gw, cI, a3, hp5, hoi]
  refine W.lx [0, 1, 5, 9, 17] ?_; simp
  have adP : (z.set (off + (m + 2)) (s % 4294967296)).drop off = (z.drop off).set (m + 2) (s % 4294967296) := kZ _ _ _ _
  have ajo : (z.set (off + (m + 2)) (s % 4294967296)).take off = zl.take off := by rw [fB (by omega), hP]
  have adQ : ((z.drop off).set (m + 2) (s % 4294967296)).drop (m + 3) = (zl.drop off).drop (m + 3) := by
   rw [List.drop_set_of_lt (by omega)]
   have := congrArg (List.drop 1) hD
   rw [List.drop_drop, List.drop_drop, List.drop_drop, List.drop_drop] at this
   rw [List.drop_drop, List.drop_drop]
   exact this
  have G3 : b6 4294967296 ((z.drop off).set (m + 2) (s % 4294967296)) := (lz2.drop off).set ⟨by omega, by omega⟩
  refine W.seq ?_
  rcases Int.lt_or_le (xc - c - β) 0 with ZI | kH
  ·-- one too many
   have adR : s / 9223372036854775808 = 1 := by omega
   refine W.sr ?_; simp (disch := omega) [gw, adR]; refine W.lx [0, 1, 5, 9, 129] ?_; simp
   refine W.cond ⟨_, rfl, fun h => ?_, fun h => ?_⟩
   ·cases h
   refine W.skip ?_
   have atG : bn * (xc - c - β) = - bn := by
    rcases Int.lt_or_le (xc - c - β) (-1) with h | h
    ·exfalso
     have := Int.mul_le_mul_of_nonneg_left (show xc - c - β ≤ -2 by omega) (show 0 ≤ bn by omega)
     omega
    ·have : xc - c - β = -1 := by omega
     rw [this]; omega
   have hsv : s % 4294967296 = 4294967295 := by
    rcases Int.lt_or_le (xc - c - β) (-1) with h | h
    ·exfalso
     have := Int.mul_le_mul_of_nonneg_left (show xc - c - β ≤ -2 by omega) (show 0 ≤ bn by omega)
     omega
    ·omega
   rw [atG] at hXg
   obtain ⟨ZJ, hq2⟩ := NG.aoB hgY (by omega)
   have hgp : 0 ≤ g - 1 := by rw [ZJ]; exact Int.ediv_nonneg hX0 (by omega)
   rw [hsv] at adP ajo adQ G3 ⊢
   have aoT : ((z.drop off).set (m + 2) 4294967295).take (m + 2) = (z.drop off).take (m + 2) := fB (Nat.le_refl _)
   rw [← aoT] at hXg hV0 hV1
   have aoU : nth ((z.drop off).set (m + 2) 4294967295) (m + 2) = 4294967295 := dR (by simp; omega)
   generalize uT : z.set (off + (m + 2)) 4294967295 = z2 at *
   have atH : z2.length = zl.length := by rw [← uT]; simp [aoQ]
   rw [← adP] at hXg hV0 hV1 aoU G3 adQ
   have lz3 : b6 4294967296 z2 := by rw [← uT]; exact lz2.set ⟨by omega, by omega⟩
   clear hss hp5 hp4 adR adP aoT hV hxn hD hP G3 lz2
   refine W.sr ?_; simp (disch := omega) [gw]; refine W.lx [0, 1, 5, 9, 18] ?_; simp
   refine W.seq ?_
   refine W.sr ?_; simp (disch := omega) [gw, LC]; refine W.lx [0, 5, 9, 18, 132, 133, 134] ?_; simp
   refine W.block ?_
   refine W.a9 (fun q σ => ∃ (i : Nat) (k : Int) (z : List Int) (tM : Pm.Rows), σ = ⟨fa [(0, .own id ver off (m + 3)), (5, .int .i64 ((m : Int) + 2)), (9, .int .u64 g), (18, .int .u64 k), (132, us y), (133, .int .i64 ((m : Int) + 2)), (134, .int .i64 i)], tM, clk⟩ ∧
    tM id = some ⟨ver, 143, 1, emap u32 z⟩ ∧ (∀ j, j ≠ id → tM j = rows j) ∧ q = m + 2 - i ∧ i ≤ m + 2 ∧ z.length = zl.length ∧ b6 4294967296 z ∧ z.take off = zl.take off ∧ (z.drop off).drop i = (z2.drop off).drop i ∧ (k = 0 ∨ k = 1) ∧
    V 4294967296 ((z.drop off).take i) + k * 4294967296 ^ i = V 4294967296 ((z2.drop off).take i) + V 4294967296 (y.take i)) (m + 2) ?_ ?_
   ·exact ⟨_, Gh.fr [(0, .own id ver off (m + 3)), (5, .int .i64 ((m : Int) + 2)), (9, .int .u64 g), (18, .int .u64 0), (132, us y), (133, .int .i64 ((m : Int) + 2)), (134, .int .i64 (0 : Nat))] (by simp), 0, 0, z2, _, rfl, by simp, fun j hj => by simp [hj, hro j hj], by omega, by omega, atH, lz3, ajo, rfl, .inl rfl, by simp [V]⟩
   rintro q _ ⟨i, k, z, awG, rfl, fQ, aoV, hq, hi, atI, lz4, hP, hD, hk, hV⟩
   refine W.sr ?_; simp (disch := omega) [gw]; refine W.lx [0, 5, 9, 18, 132, 133, 134, 135] ?_; simp
   refine W.seq ?_
   refine W.cond ⟨_, rfl, fun h => ?_, fun h => ?_⟩
   ·have hi : i < m + 2 := by simp at h; omega
    have hw := ly.nth (i := i) (by omega)
    have hVy := aT (b := 4294967296) (l := y) (i := i) (by omega)
    have hVx := aT (b := 4294967296) (l := z2.drop off) (i := i) (by simp; omega)
    have hxn : nth z (off + i) = nth (z2.drop off) i := by
     rw [← eX]
     have := congrArg (fun l => nth l 0) hD
     simpa [eX] using this
    have hx := (lz3.drop off).nth (i := i) (by simp; omega)
    generalize nth (z2.drop off) i = x at *
    generalize hwe : nth y i = w at *
    refine W.skip ?_
    refine W.seq ?_
    refine W.block ?_
    refine W.sr ?_; simp (disch := omega) [gw, LC, hwe]; refine W.lx [0, 5, 9, 18, 19, 20, 132, 133, 134] ?_; simp
    refine W.sr ?_; simp (disch := omega) [gw, fQ, hxn]; refine W.lx [0, 5, 9, 19, 21, 132, 133, 134] ?_; simp
    have hp6 : IntKind.u32.wrap (x + w + k) = (x + w + k) % 4294967296 := wrap_u32'
    have atJ : off + i < z.length := by omega
    refine W.b8 (fun K hK => ?_)
    simp (disch := omega) [gw, fQ, hp6, atJ]
    refine W.lw [0, 5, 9, 18, 132, 133, 134] hK ?_; clear hK K; simp
    refine W.b8 (fun K hK => ?_); simp (disch := omega) [gw]
    refine hK _ ⟨m + 2 - (i + 1), _, aC _ [0, 5, 9, 18, 132, 133, 134], by omega, i + 1, (x + w + k) / 4294967296, z.set (off + i) ((x + w + k) % 4294967296), _, rfl, by simp, fun j hj => by simp [hj, aoV j hj], by omega, by omega, by simp [atI], lz4.set ⟨by omega, by omega⟩, by rw [fB (by omega), hP], ?_, by omega, ?_⟩
    ·rw [kZ, List.drop_set_of_lt (by omega)]
     have := congrArg (List.drop 1) hD
     rw [List.drop_drop, List.drop_drop, List.drop_drop, List.drop_drop] at this
     rw [List.drop_drop, List.drop_drop]
     exact this
    ·rw [kZ, dW (by simp; omega), hVy, hVx, Int.pow_succ]
     have h10 := Int.mul_ediv_add_emod (x + w + k) 4294967296
     generalize (x + w + k) / 4294967296 = pq at *
     generalize (x + w + k) % 4294967296 = pr at *
     generalize (4294967296 : Int) ^ i = bi at *
     have e8 : pr = x + w + k - 4294967296 * pq := by omega
     rw [e8]
     have e9 : V 4294967296 ((z.drop off).take i) = V 4294967296 ((z2.drop off).take i) + V 4294967296 (y.take i) - k * bi := by omega
     rw [e9]
     grind
   ·have hi : i = m + 2 := by simp at h; omega
    subst hi
    rw [List.take_of_length_le (show y.length ≤ m + 2 by omega), hYY, hbn] at hV
    have hxn : nth z (off + (m + 2)) = 4294967295 := by
     rw [← aoU, ← eX]
     have := congrArg (fun l => nth l 0) hD
     simpa [eX] using this
    have T0 := bF (b := 4294967296) (by decide) ((lz4.drop off).take (m + 2))
    have hV3 := nV (b := 4294967296) (by decide) ((lz4.drop off).take (m + 2))
    rw [List.length_take, Nat.min_eq_left (by simp; omega), hbn] at hV3
    have hk1 : k = 1 := by
     rcases hk with rfl | rfl
     ·exfalso; omega
     ·rfl
    subst hk1
    have atK : off + (m + 2) < z.length := by omega
    have hwc : IntKind.u32.wrap 4294967296 = 0 := rfl
    have hwg : IntKind.u32.wrap g = g := wrap_u32 g0 g1
    refine W.exit ?_; simp only [pX, if_true, if_false, reduceIte, Nat.reduceEqDiff]
    refine W.sr ?_
    simp (disch := omega) [gw, fQ, a3, hxn, atK, hwc]
    refine W.lx [9] ?_; simp
    refine W.sr ?_; simp (disch := omega) [gw, hwg]; refine W.lx [4] ?_; simp
    refine W.ret ?_
    refine ⟨(z.drop off).set (m + 2) 0, by simp [ZJ], ?_, rfl, by simp; omega, (lz4.drop off).set ⟨by omega, by omega⟩, ?_, ?_⟩
    ·have hzz : z.set (off + (m + 2)) 0 = zl.take off ++ (z.drop off).set (m + 2) 0 := by
      rw [← kZ, ← hP, ← fB (l := z) (i := off + (m + 2)) (x := 0) (show off ≤ off + (m + 2) by omega), List.take_append_drop]
     rw [hzz]
     funext j
     by_cases hj : j = id
     ·subst hj; simp
     ·simp [hj, aoV j hj, dE]
    ·rw [List.drop_set_of_lt (by omega), ← adQ]
     have := congrArg (List.drop 1) hD
     rw [List.drop_drop, List.drop_drop, List.drop_drop, List.drop_drop] at this
     rw [List.drop_drop, List.drop_drop]
     exact this
    ·rw [show m + 3 = (m + 2) + 1 from rfl, dW (by simp; omega), hbn, ← hq2]
     omega
  ·have adR : s / 9223372036854775808 = 0 := by omega
   have atM : 0 ≤ X - g * Y := by
    rw [hXg]
    have := Int.mul_nonneg (show 0 ≤ bn by omega) kH
    omega
   obtain ⟨ZJ, hq2⟩ := NG.right hgX atM
   refine W.sr ?_; simp (disch := omega) [gw, adR]; refine W.lx [0, 1, 5, 9, 129] ?_; simp
   refine W.cond ⟨_, rfl, fun h => ?_, fun h => ?_⟩
   ·have hwg : IntKind.u32.wrap g = g := wrap_u32 g0 g1
    refine W.sr ?_; simp (disch := omega) [gw, hwg]; refine W.lx [4] ?_; simp
    refine W.ret ?_
    refine ⟨(z.drop off).set (m + 2) (s % 4294967296), by simp [ZJ], ?_, rfl, by simp; omega, G3, adQ, ?_⟩
    ·have hzz : z.set (off + (m + 2)) (s % 4294967296) = zl.take off ++ (z.drop off).set (m + 2) (s % 4294967296) := by
      rw [← ajo, ← adP, List.take_append_drop]
     rw [hzz]
     funext j
     by_cases hj : j = id
     ·subst hj; simp
     ·simp [hj, hro j hj, dE]
    ·rw [show m + 3 = (m + 2) + 1 from rfl, dW (by simp; omega), hbn, ← hq2, hXg]
     have : s % 4294967296 = xc - c - β := by omega
     rw [this]
   ·cases h
abbrev RP := List (Bool × List Int)
def aF (n : Int) : List PV := [.int .i64 n]
def pe (p : RP) : List PV := [Pg p]
def me (r : List RP) : List PV := [aJ pe r]
@[simp] theorem aoX {n : Int} : aF n = [.int .i64 n] := rfl
@[simp] theorem atN {p : RP} : pe p = [Pg p] := rfl
@[simp] theorem atO {p : List RP} : me p = [aJ pe p] := rfl
@[simp] theorem agD {l : List Int} : bB 1 (emap aF l) = True := cZ fun _ => rfl
@[simp] theorem al3 {l : List RP} : bB 1 (emap pe l) = True := cZ fun _ => rfl
@[simp] theorem al4 {l : List (List RP)} : bB 1 (emap me l) = True := cZ fun _ => rfl
@[simp] theorem adS {v e n : Nat} {l : List Int} : cQ (some ⟨v, e, n, emap aF l⟩) = True := cM fun _ => rfl
@[simp] theorem ajp {v e n : Nat} {l : List RP} : cQ (some ⟨v, e, n, emap pe l⟩) = True := cM fun _ => rfl
@[simp] theorem ajq {v e n : Nat} {l : List (List RP)} : cQ (some ⟨v, e, n, emap me l⟩) = True := cM fun _ => rfl
@[simp] theorem atP {l : RP} {n : Bool} {m : List Int} : emap ge l ++ [[.bool n, us m]] = emap ge (l ++ [(n, m)]) := by simp [emap]
@[simp] theorem atQ {l : List Int} {x : Int} : emap ie l ++ [[.bool (decide (x < 0)), us (aQ LL x.natAbs)]] = emap ie (l ++ [x]) := by simp [emap]
@[simp] theorem atS {l : List RP} {p : RP} : emap pe l ++ [[aJ ge p]] = emap pe (l ++ [p]) := by simp [emap]
@[simp] theorem atT {l : List (List RP)} {p : List RP} : emap me l ++ [[aJ pe p]] = emap me (l ++ [p]) := by simp [emap]
def k7 (p : RP) : List Int := aM (p.map gv)
theorem FI (l : List Int) (hl : l.length < 1099511627776) (hb : ∀ x ∈ l, -9223372036854775808 ≤ x ∧ x < 9223372036854775808) : aI env.P 46 [aJ aF l] (Po (aM l)) := by
 refine aB (E := env) (fun _ => 0) [(0, aJ aF l)] Tryz.func46 rfl (by kernel_rfl) (by kernel_rfl) (show 1 ≤ 24 by decide) (by simp) ?_
 refine W.sr ?_
 simp (disch := omega) [gw]
 refine W.lx [0] ?_; simp
 refine W.sr ?_
 simp (disch := omega) [gw]
 refine W.lx [0, 3] ?_; simp
 refine W.row (id := 8) (emap ie (List.replicate l.length 0)) (by simp; exact ⟨rfl, rfl, rfl⟩) (pQ _) ?_
 refine W.seq ?_
 refine W.sr ?_
 simp (disch := omega) [gw]
 refine W.lx [3, 9, 10, 11] ?_; simp
 refine W.block ?_
 refine W.a9 (fun k σ => ∃ (i : Nat) (z : List Int) (ver : Nat) (rows : Pm.Rows) (clk : Nat), σ = ⟨fa [(3, .own 8 ver 0 l.length), (9, aJ aF l), (10, .int .i64 l.length), (11, .int .i64 i)], rows, clk⟩ ∧
  rows 8 = some ⟨ver, 40, 2, emap ie z⟩ ∧ k = l.length - i ∧ i ≤ l.length ∧ z.length = l.length ∧ z.take i = l.take i) l.length ?_ ?_
 ·exact ⟨_, .refl, 0, List.replicate l.length 0, _, _, _, rfl, by simp, by omega, by omega, by simp, by simp⟩
 rintro k _ ⟨i, z, ver, rows, clk, rfl, hr, hk, hi, hz, hv⟩
 refine W.sr ?_
 simp (disch := omega) [gw]
 refine W.lx [3, 9, 10, 11, 12] ?_; simp
 refine W.seq ?_
 refine W.cond ⟨_, rfl, fun eZ => ?_, fun eZ => ?_⟩
 ·simp at eZ
  refine W.skip ?_
  refine W.seq ?_
  refine W.block ?_
  refine W.sr ?_
  simp (disch := omega) [gw, hr]
  refine W.lx [3, 4, 5, 9, 10, 11] ?_; simp
  refine W.b8 (fun K hK => ?_)
  simp (disch := omega) [gw, hr]
  refine aA (zH _ (hb _ (bQ eZ)).1 (hb _ (bQ eZ)).2) ?_
  simp (disch := omega) [gw, hr]
  refine W.lw [3, 9, 10, 11] hK ?_; clear hK K; simp
  refine W.b8 (fun K hK => ?_)
  simp (disch := omega) [gw]
  refine hK _ ⟨l.length - (i + 1), _, aC _ [3, 9, 10, 11], by omega, i + 1, z.set i (nth l i), ver, _, _, rfl, by simp, by omega, by omega, by simpa using hz, ?_⟩
  rw [kC hv (by omega), a8 eZ]
 ·simp at eZ
  have kY : i = l.length := by omega
  subst kY
  refine W.exit ?_; simp only [pX, if_true, if_false, reduceIte, Nat.reduceEqDiff]
  rw [bE hz, bE rfl] at hv
  have uT := bE hz
  refine W.sr ?_
  simp (disch := omega) [gw, hr, uT]
  refine aA (tJ z (by omega)) ?_
  simp (disch := omega) [gw]
  refine W.lx [2] ?_; simp
  refine W.ret ?_
  simp [go, hv]
abbrev DD : Nat := 10000
theorem LD : 2 ≤ DD := by decide
abbrev Dn (x : Int) : PV := aJ aF (aQ DD x.toNat)
theorem sC {l : List Int} (h : b6 10000 l) : aJ aF (aM l) = Dn (V 10000 l) := by rw [pK LD h]; rfl
@[simp] theorem arl {n : Nat} : List.replicate n [PV.int .i64 0] = emap aF (List.replicate n 0) := by simp [emap]
@[simp] theorem ajr {l : List Int} {i : Nat} {x : Int} : gN (emap aF l) i 0 [.int .i64 x] = emap aF (l.set i x) := xN (n := 1) (fun _ => rfl)
@[simp] theorem aoY {l : List Int} {x : Int} : emap aF l ++ [[.int .i64 x]] = emap aF (l ++ [x]) := by simp [emap]
theorem nB (l : List Int) (hl : l.length < 17592186044416) : aI env.P 229 [aJ aF l] (aJ aF (aM l)) := by
 refine aB (E := env) (fun _ => 0) [(0, aJ aF l)] Tryz.func229 rfl (by kernel_rfl) (by kernel_rfl) (show 1 ≤ 21 by decide) (by simp) ?_
 refine W.sr ?_; simp (disch := omega) [gw]; refine W.lx [0] ?_; simp
 refine W.sr ?_; simp (disch := omega) [gw]; refine W.lx [0, 3] ?_; simp
 refine W.seq (W.block ?_)
 refine W.a9 (fun k σ => ∃ (rows : Pm.Rows) (clk : Nat), σ = ⟨fa [(0, aJ aF l), (3, .int .i64 (k : Int))], rows, clk⟩ ∧ k ≤ l.length ∧ aM l = aM (l.take k)) l.length ?_ ?_
 ·exact ⟨_, .refl, _, _, rfl, by omega, by simp⟩
 rintro k _ ⟨rows, clk, rfl, hk, hc⟩
 refine W.seq ?_
 refine W.gY (fun σ => ∃ (b : Bool), σ = ⟨fa [(0, aJ aF l), (3, .int .i64 (k : Int)), (15, .bool b)], rows, clk⟩ ∧ (b = true ↔ 0 < k ∧ nth l (k - 1) = 0)) (fun K hK => ?_) ?_
 ·simp
  by_cases h0 : 0 < k
  ·simp (disch := omega) [gw, h0]
   exact hK _ _ (aC _ [0, 3, 15]) ⟨_, rfl, by simp [h0]⟩
  ·simp (disch := omega) [gw, h0]
   exact hK _ _ (aC _ [0, 3, 15]) ⟨_, rfl, by simp [h0]⟩
 rintro _ ⟨b, rfl, hb⟩
 refine W.cond ⟨_, rfl, fun h => ?_, fun h => ?_⟩
 ·obtain ⟨h0, h1⟩ := hb.1 h
  refine W.skip (W.block ?_)
  refine W.b8 (fun K hK => ?_)
  simp (disch := omega) [gw]
  refine hK _ ⟨k - 1, _, Gh.fr [(0, _), (3, .int .i64 ((k - 1 : Nat) : Int))] (by simp; omega), by omega, _, _, rfl, by omega, ?_⟩
  rw [hc, show k = (k - 1) + 1 by omega, a8 (by omega), h1, iP]
  simp
 ·have h2 : aM l = l.take k := by
   rw [hc]
   by_cases h0 : 0 < k
   ·have h1 : nth l (k - 1) ≠ 0 := fun h1 => by simp [hb.2 ⟨h0, h1⟩] at h
    rw [show k = (k - 1) + 1 by omega, a8 (by omega)]
    exact fP h1 _
   ·have : k = 0 := by omega
    subst this; simp [aM]
  refine W.exit ?_
  simp only [pX, if_true, if_false, reduceIte, Nat.reduceEqDiff]
  refine W.sr ?_; simp (disch := omega) [gw]; refine W.lx [2] ?_; simp
  refine W.ret ?_
  simp [h2]
theorem NH (a : List Int) (m c0 : Int) (ha : a.length < 1099511627776) (la : b6 10000 a) (K8 : 0 ≤ m) (G1 : m ≤ 65536) (tI : 0 ≤ c0) (uM : c0 ≤ 65536) :
  aI env.P 179 [aJ aF a, .int .i64 m, .int .i64 c0] (Dn (V 10000 a * m + c0)) := by
 refine aB (E := env) (fun _ => 0) [(0, aJ aF a), (1, .int .i64 m), (2, .int .i64 c0)] Tryz.func179 rfl (by kernel_rfl) (by kernel_rfl) (show 3 ≤ 44 by decide) (by simp) ?_
 refine W.sr ?_; simp (disch := omega) [gw]; refine W.lx [0, 1, 2] ?_; simp
 refine W.sr ?_; simp (disch := omega) [gw]; refine W.lx [0, 1, 2, 7] ?_; simp
 refine W.seq ?_
 refine W.sr ?_; simp (disch := omega) [gw]; refine W.lx [0, 1, 2, 7, 8] ?_; simp
 refine W.block ?_
 refine W.a9 (fun k σ => ∃ (i : Nat) (c : Int) (z : List Int) (ver : Nat) (rows : Pm.Rows) (clk : Nat), σ = ⟨fa [(0, aJ aF a), (1, .int .i64 m), (2, .int .i64 c), (7, .own 12 ver 0 i), (8, .int .i64 i)], rows, clk⟩ ∧
  rows 12 = some ⟨ver, 3, 1, emap aF z⟩ ∧ k = (a.length - i) * 1000000 + c.toNat ∧ z.length = i ∧ (i ≤ a.length ∨ i + c ≤ a.length + 65536) ∧ b6 10000 z ∧ 0 ≤ c ∧ c ≤ 65536 ∧
  V 10000 z + 10000 ^ i * c = V 10000 (a.take i) * m + c0) (a.length * 1000000 + c0.toNat) ?_ ?_
 ·exact ⟨_, .refl, 0, c0, [], _, _, _, rfl, by simp [emap], by simp, rfl, by omega, b6.nil, tI, uM, by simp [V]⟩
 rintro k _ ⟨i, c, z, ver, rows, clk, rfl, hr, hk, hz, hi, lz, h0, h1, hV⟩
 refine W.seq ?_
 refine W.gY (fun σ => ∃ (b : Bool), σ = ⟨fa [(0, aJ aF a), (1, .int .i64 m), (2, .int .i64 c), (7, .own 12 ver 0 i), (8, .int .i64 i), (20, .bool b)], rows, clk⟩ ∧ (b = true ↔ i < a.length ∨ 0 < c)) (fun K hK => ?_) ?_
 ·simp
  by_cases h2 : i < a.length
  ·simp (disch := omega) [gw, h2]
   exact hK _ _ (aC _ [0, 1, 2, 7, 8, 20]) ⟨_, rfl, by simp [h2]⟩
  ·simp (disch := omega) [gw, h2]
   exact hK _ _ (aC _ [0, 1, 2, 7, 8, 20]) ⟨_, rfl, by simp [h2]⟩
 rintro _ ⟨b, rfl, hb⟩
 refine W.cond ⟨_, rfl, fun h => ?_, fun h => ?_⟩
 ·have hb := hb.1 h
  refine W.skip ?_
  refine W.seq ?_
  refine W.block ?_
  refine W.fX (fun σ => ∃ (s : Int), σ = ⟨fa [(0, aJ aF a), (1, .int .i64 m), (2, .int .i64 s), (7, .own 12 ver 0 i), (8, .int .i64 i)], rows, clk⟩ ∧ 0 ≤ s ∧ s ≤ 655360000 ∧ (a.length ≤ i → s = c) ∧
   V 10000 z + 10000 ^ i * s = V 10000 (a.take (i + 1)) * m + c0) ?_ ?_
  ·
   refine W.sr ?_; simp (disch := omega) [gw]; refine W.lx [0, 1, 2, 7, 8, 26] ?_; simp
   refine W.cond ⟨_, rfl, fun h => ?_, fun h => ?_⟩
   ·simp at h
    have hn := la.nth h
    have h2 : 0 ≤ nth a i * m := Int.mul_nonneg hn.1 K8
    have h3 : nth a i * m ≤ 9999 * 65536 := Int.mul_le_mul (by omega) G1 K8 (by omega)
    refine W.b8 (fun K hK => ?_); simp (disch := omega) [gw]
    refine hK _ ⟨_, aC _ [0, 1, 2, 7, 8], _, rfl, by omega, by omega, by omega, ?_⟩
    rw [aT h, Int.mul_add, Int.add_mul]
    grind
   ·simp at h
    refine W.skip ?_
    refine ⟨_, aC _ [0, 1, 2, 7, 8], _, rfl, by omega, by omega, fun _ => rfl, ?_⟩
    rw [aX (by omega)]
    rw [aX (by omega)] at hV
    exact hV
  rintro _ ⟨s, rfl, TZ, qO, hsc, hsV⟩
  refine W.sr ?_; simp (disch := omega) [gw, hr, hz]
  refine W.lx [0, 1, 2, 7, 8] ?_; simp
  refine W.b8 (fun K hK => ?_); simp (disch := omega) [gw]; refine W.lw [0, 1, 2, 7, 8] hK ?_; clear hK K; simp
  refine W.b8 (fun K hK => ?_); simp (disch := omega) [gw]
  refine hK _ ⟨(a.length - (i + 1)) * 1000000 + (s / 10000).toNat, _, aC _ [0, 1, 2, 7, 8], by omega, i + 1, s / 10000, z ++ [s % 10000], _, _, _, rfl, by simp, rfl, by simp [hz], by omega, b6.append.2 ⟨lz, b6.cons.2 ⟨by omega, b6.nil⟩⟩, by omega, by omega, ?_⟩
  rw [dF, lZ, hz, ← hsV, Int.pow_succ]
  have := Int.emod_add_mul_ediv s 10000
  grind
 ·have hb : ¬ (i < a.length ∨ 0 < c) := fun h2 => by simp [hb.2 h2] at h
  have hc : c = 0 := by omega
  subst hc
  refine W.exit ?_; simp only [pX, if_true, if_false, reduceIte, Nat.reduceEqDiff]
  have ez : z.take i = z := bE hz
  refine W.sr ?_
  simp (disch := omega) [gw, hr, hz, ez]
  refine aA (nB z (by omega)) ?_
  simp (disch := omega) [gw]
  refine W.lx [6] ?_; simp
  refine W.ret ?_
  rw [aX (by omega)] at hV
  have e : V 10000 z = V 10000 a * m + c0 := by simpa using hV
  rw [← e, ← sC lz]
  simp
abbrev Z (x : Int) : Prop := sz 2 x < 1099511627776
theorem QG {b : Nat} (hb : 2 ≤ b) (x : Int) : sz b x ≤ sz 2 x := by
 refine cN hb (Nat.lt_of_lt_of_le (lF (b := 2) (by decide) x) ?_)
 exact Nat.pow_le_pow_left hb _
theorem ajt (y : Int) : (aQ DD y.natAbs).length ≤ sz 2 y := QG LD y
theorem jB {y : Int} (h : 0 ≤ y) : (aQ DD y.toNat).length ≤ sz 2 y := by
 have := ajt y
 rwa [show y.natAbs = y.toNat by omega] at this
theorem tN {y : Int} (h : 0 ≤ y) : V 10000 (aQ DD y.toNat) = y := by
 have := jM LD y.toNat
 simp only [show ((DD : Nat) : Int) = 10000 from rfl] at this
 rw [this]; omega
theorem aoZ (y : Int) : V 10000 (aQ DD y.natAbs) = y.natAbs := by
 have := jM LD y.natAbs
 simpa only [show ((DD : Nat) : Int) = 10000 from rfl] using this
theorem kK (n : Nat) : b6 10000 (aQ DD n) := eS LD n
theorem ZK {l : List Int} (h : b6 4294967296 l) : sz 2 (V 4294967296 l) ≤ 32 * l.length := by
 refine cN (by decide) ?_
 have h1 := nV (b := (4294967296 : Int)) (by decide) h
 have h2 := bF (b := (4294967296 : Int)) (by decide) h
 have h3 : ((4294967296 : Int) ^ l.length) = ((2 ^ (32 * l.length) : Nat) : Int) := by rw [Nat.pow_mul]; simp
 rw [h3] at h1
 omega
theorem kD (y m c : Int) (hy : 0 ≤ y) (hz : Z y) (K8 : 0 ≤ m) (G1 : m ≤ 65536) (tI : 0 ≤ c) (uM : c ≤ 65536) : aI env.P 179 [Dn y, .int .i64 m, .int .i64 c] (Dn (y * m + c)) := by
 have := NH (aQ DD y.toNat) m c (by have := jB hy; omega) (kK _) K8 G1 tI uM
 rwa [tN hy] at this
theorem T8 (l : List Int) (hl : l.length ≤ 17179869184) (hm : b6 4294967296 l) : aI env.P 100 [us l] (Dn (V 4294967296 l)) := by
 refine aB (E := env) (fun _ => 0) [(0, us l)] Tryz.func100 rfl (by kernel_rfl) (by kernel_rfl) (show 1 ≤ 29 by decide) (by simp) ?_
 refine W.sr ?_; simp (disch := omega) [gw]; refine W.lx [0] ?_; simp
 refine W.sr ?_; simp (disch := omega) [gw]; refine W.lx [0, 3] ?_; simp
 refine W.TU 3 (Dn 0) (by simp) rfl (fun K hK => ?_)
 refine W.lw [0, 3] hK ?_; clear hK K; simp
 refine W.seq ?_
 refine W.sr ?_; simp (disch := omega) [gw]; refine W.lx [0, 3, 4] ?_; simp
 refine W.block ?_
 refine W.a9 (fun k σ => ∃ (rows : Pm.Rows) (clk : Nat), σ = ⟨fa [(0, us l), (3, Dn (V 4294967296 (l.drop k))), (4, .int .i64 ((k : Int) - 1))], rows, clk⟩ ∧ k ≤ l.length) l.length ?_ ?_
 ·exact ⟨_, Gh.fr [(0, us l), (3, Dn (V 4294967296 (l.drop l.length))), (4, .int .i64 ((l.length : Int) - 1))] (by simp [V]), _, _, rfl, by omega⟩
 rintro k _ ⟨rows, clk, rfl, hk⟩
 have h0 := bF (b := 4294967296) (by decide) (hm.drop k)
 have hs : sz 2 (V 4294967296 (l.drop k)) ≤ 32 * (l.length - k) := by have := ZK (hm.drop k); simpa using this
 refine W.seq ?_
 refine W.sr ?_; simp (disch := omega) [gw]; refine W.lx [0, 3, 4, 9] ?_; simp
 refine W.cond ⟨_, rfl, fun h => ?_, fun h => ?_⟩
 ·simp at h
  have hx := hm.nth (i := k - 1) (by omega)
  have hd : V 4294967296 (l.drop (k - 1)) = nth l (k - 1) + 4294967296 * V 4294967296 (l.drop k) := by
   rw [dV (i := k - 1) (by omega), show k - 1 + 1 = k by omega]; rfl
  refine W.skip ?_
  refine W.seq ?_
  refine W.block ?_
  refine W.sr ?_
  have hk1 : ((k : Int) - 1).toNat = k - 1 := by omega
  simp (disch := omega) [gw, hk1]
  refine aA (kD _ 65536 _ h0 (by omega) (by decide) (by decide) (by omega) (by omega)) ?_
  simp (disch := omega) [gw]
  refine W.lx [0, 3, 4] ?_; simp
  have h1 : 0 ≤ V 4294967296 (l.drop k) * 65536 + nth l (k - 1) / 65536 := by omega
  have h2 : sz 2 (V 4294967296 (l.drop k) * 65536 + nth l (k - 1) / 65536) ≤ 32 * l.length := by
   have h3 := ZK (hm.drop (k - 1))
   refine Nat.le_trans (cC (by decide) (y := V 4294967296 (l.drop (k - 1))) (by omega)) ?_
   simp at h3; omega
  refine W.b8 (fun K hK => ?_)
  simp (disch := omega) [gw, hk1]
  refine aA (kD _ 65536 _ h1 (by omega) (by decide) (by decide) (by omega) (by omega)) ?_
  simp (disch := omega) [gw]
  refine W.lw [0, 3, 4] hK ?_; clear hK K; simp
  refine W.b8 (fun K hK => ?_); simp (disch := omega) [gw]
  refine hK _ ⟨k - 1, _, Gh.fr [(0, us l), (3, Dn (V 4294967296 (l.drop (k - 1)))), (4, .int .i64 (((k - 1 : Nat) : Int) - 1))] ?_, by omega, _, _, rfl, by omega⟩
  have e : (V 4294967296 (l.drop k) * 65536 + nth l (k - 1) / 65536) * 65536 + nth l (k - 1) % 65536 = V 4294967296 (l.drop (k - 1)) := by omega
  simp [e]; omega
 ·simp at h
  have wL : k = 0 := by omega
  subst wL
  refine W.exit ?_; simp only [pX, if_true, if_false, reduceIte, Nat.reduceEqDiff]
  refine W.sr ?_; simp (disch := omega) [gw]; refine W.lx [2] ?_; simp
  refine W.ret ?_
  simp
abbrev RI (x : Int) : PV := .ag [aJ aF (aQ DD x.natAbs), .bool (decide (x < 0))]
theorem nC (y : Int) (hy : 0 ≤ y) (neg : Bool) : aI env.P 99 [Dn y, .bool neg] (RI (if neg = true then -y else y)) := by
 refine aB (E := env) (fun _ => 0) [(0, Dn y), (1, .bool neg)] Tryz.func99 rfl (by kernel_rfl) (by kernel_rfl) (show 2 ≤ 13 by decide) (by simp) ?_
 refine W.sr ?_; simp (disch := omega) [gw]; refine W.lx [0, 1, 4] ?_; simp
 have e0 : (aQ DD y.toNat = []) ↔ y = 0 := by rw [dK LD]; omega
 have e : RI (if neg = true then -y else y) = .ag [Dn y, .bool (neg && decide (0 < (aQ DD y.toNat).length))] := by
  have h1 : 0 < (aQ DD y.toNat).length ↔ y ≠ 0 := by
   rw [List.length_pos_iff]; simp [e0]
  have e2 : (if neg = true then -y else y).natAbs = y.toNat := by split <;> omega
  have e3 : (decide ((if neg = true then -y else y) < 0)) = (neg && decide (0 < (aQ DD y.toNat).length)) := by
   cases neg
   ·simp only [Bool.false_and, Bool.false_eq_true, if_false, decide_eq_false_iff_not]; omega
   ·simp only [Bool.true_and, if_true, h1]; congr 1; apply propext; omega
  rw [RI, e2, e3]
 rw [e]
 refine W.dB (fun K hK => ?_)
 cases neg
 ·simp (disch := omega) [gw]
  refine W.lw [4] hK ?_; clear hK K; simp
  refine W.ret ?_
  simp [go]
 ·simp (disch := omega) [gw]
  refine W.lw [4] hK ?_; clear hK K; simp
  refine W.ret ?_
  simp [go]
theorem C9 (n : Bool) (l : List Int) (hl : l.length ≤ 17179869184) (hm : b6 4294967296 l) : aI env.P 34 [IV n l] (RI (iv n l)) := by
 refine aB (E := env) (fun _ => 0) [(0, IV n l)] Tryz.func34 rfl (by kernel_rfl) (by kernel_rfl) (show 1 ≤ 9 by decide) (by simp) ?_
 refine W.sr ?_; simp (disch := omega) [gw]; refine W.lx [1, 2] ?_; simp
 refine W.sd ?_
 simp (disch := omega) [gw]
 refine aA (T8 l hl hm) ?_
 simp (disch := omega) [gw]
 refine aA (nC _ (bF (by decide) hm) n) ?_
 simp (disch := omega) [gw]
 refine W.lx [2] ?_; simp
 refine W.ret ?_
 simp [go, iv]
theorem ZL (n : Nat) (hn : n < 1099511627776) : aI env.P 170 [.int .i64 n] (Dn (2 ^ n)) := by
 refine aB (E := env) (fun _ => 0) [(0, .int .i64 n)] Tryz.func170 rfl (by kernel_rfl) (by kernel_rfl) (show 1 ≤ 14 by decide) (by simp) ?_
 refine W.sr ?_; simp (disch := omega) [gw]; refine W.lx [0] ?_; simp
 refine W.sr ?_; simp (disch := omega) [gw]; refine W.lx [0, 3] ?_; simp
 refine W.asX 3 [[.int .i64 1]] (Dn 1) (by simp) rfl (fun K hK => ?_)
 refine W.lw [0, 3] hK ?_; clear hK K; simp
 refine W.seq ?_
 refine W.sr ?_; simp (disch := omega) [gw]; refine W.lx [0, 3, 4] ?_; simp
 refine W.block ?_
 refine W.a9 (fun k σ => ∃ (i : Nat) (rows : Pm.Rows) (clk : Nat), σ = ⟨fa [(0, .int .i64 n), (3, Dn (2 ^ i)), (4, .int .i64 i)], rows, clk⟩ ∧ k = n - i ∧ i ≤ n) n ?_ ?_
 ·exact ⟨_, .refl, 0, _, _, rfl, by omega, by omega⟩
 rintro k _ ⟨i, rows, clk, rfl, hk, hi⟩
 refine W.seq ?_
 refine W.sr ?_; simp (disch := omega) [gw]; refine W.lx [0, 3, 4, 8] ?_; simp
 refine W.cond ⟨_, rfl, fun h => ?_, fun h => ?_⟩
 ·simp at h
  have hs : sz 2 (2 ^ i) ≤ i + 1 := by
   refine cN (by decide) ?_
   rw [show ((2 : Int) ^ i) = ((2 ^ i : Nat) : Int) by simp, Int.natAbs_natCast, Nat.pow_succ]
   have := Nat.pow_pos (n := i) (show 0 < 2 by decide)
   omega
  refine W.skip ?_
  refine W.seq ?_
  refine W.block ?_
  refine W.b8 (fun K hK => ?_)
  simp (disch := omega) [gw]
  refine aA (kD (2 ^ i) 2 0 (Int.le_of_lt (Int.pow_pos (by decide))) (by omega) (by decide) (by decide) (by decide) (by decide)) ?_
  simp (disch := omega) [gw]
  refine W.lw [0, 3, 4] hK ?_; clear hK K; simp
  refine W.b8 (fun K hK => ?_); simp (disch := omega) [gw]
  refine hK _ ⟨n - (i + 1), _, Gh.fr [(0, .int .i64 n), (3, Dn (2 ^ (i + 1))), (4, .int .i64 ((i + 1 : Nat) : Int))] ?_, by omega, i + 1, _, _, rfl, rfl, by omega⟩
  simp [Int.pow_succ]
 ·simp at h
  have : i = n := by omega
  subst this
  refine W.exit ?_; simp only [pX, if_true, if_false, reduceIte, Nat.reduceEqDiff]
  refine W.sr ?_; simp (disch := omega) [gw]; refine W.lx [2] ?_; simp
  refine W.ret ?_
  simp
theorem mA (n : Int) (h1 : -9223372036854775808 ≤ n) (h2 : n < 9223372036854775808) : aI env.P 92 [.int .i64 n] (RI n) := by
 refine aB (E := env) (fun _ => 0) [(0, .int .i64 n)] Tryz.func92 rfl (by kernel_rfl) (by kernel_rfl) (show 1 ≤ 26 by decide) (by simp) ?_
 refine W.sr ?_; simp (disch := omega) [gw]; refine W.lx [0, 2] ?_; simp
 refine W.seq ?_
 refine W.sr ?_; simp (disch := omega) [gw]; refine W.lx [0, 2, 6] ?_; simp
 refine W.cond ⟨_, rfl, fun h => ?_, fun h => ?_⟩
 ·simp at h
  subst h
  refine W.sr ?_
  simp (disch := omega) [gw]
  refine aA (ZL 63 (by decide)) ?_
  simp (disch := omega) [gw]
  have hp := nC 9223372036854775808 (by decide) true
  simp at hp
  refine aA hp ?_
  simp (disch := omega) [gw]
  refine W.lx [2] ?_; simp
  refine W.ret ?_
  simp [go]
 ·simp at h
  refine W.skip ?_
  refine W.sr ?_; simp (disch := omega) [gw]; refine W.lx [0, 2, 3] ?_; simp
  refine W.fX (fun σ => ∃ (rows : Pm.Rows) (clk : Nat), σ = ⟨fa [(0, .int .i64 n.natAbs), (2, .ptr 2 0 0 0), (3, .bool (decide (n < 0)))], rows, clk⟩ ∧ rows 2 = some ⟨0, 48, 2, [[.nil, .bool false]]⟩) ?_ ?_
  ·
   refine W.sr ?_; simp (disch := omega) [gw]; refine W.lx [0, 2, 3, 11] ?_; simp
   refine W.cond ⟨_, rfl, fun h => ?_, fun h => ?_⟩
   ·simp at h
    refine W.b8 (fun K hK => ?_); simp (disch := omega) [gw]
    refine hK _ ⟨_, Gh.fr [(0, .int .i64 n.natAbs), (2, .ptr 2 0 0 0), (3, .bool (decide (n < 0)))] (by simp; omega), _, _, rfl, by simp⟩
   ·simp at h
    refine W.skip ?_
    refine ⟨_, Gh.fr [(0, .int .i64 n.natAbs), (2, .ptr 2 0 0 0), (3, .bool (decide (n < 0)))] (by simp; omega), _, _, rfl, by simp⟩
  rintro _ ⟨rows, clk, rfl, cI⟩
  refine W.sr ?_; simp (disch := omega) [gw]; refine W.lx [0, 2, 3, 4] ?_; simp
  refine W.nil 4 4 3 1 (by simp) (by decide) (fun K hK => ?_)
  refine W.lw [0, 2, 3, 4] hK ?_; clear hK K; simp
  refine W.seq ?_
  refine W.block ?_
  refine W.a9 (fun k σ => ∃ (z : List Int) (i ver : Nat) (rows : Pm.Rows) (clk : Nat), σ = ⟨fa [(0, .int .i64 k), (2, .ptr 2 0 0 0), (3, .bool (decide (n < 0))), (4, .own 4 ver 0 i)], rows, clk⟩ ∧ rows 2 = some ⟨0, 48, 2, [[.nil, .bool false]]⟩ ∧
   rows 4 = some ⟨ver, 3, 1, emap aF z⟩ ∧ z.length = i ∧ k * 2 ^ i ≤ 9223372036854775808 ∧ b6 10000 z ∧ V 10000 z + 10000 ^ i * k = n.natAbs ∧ aQ DD n.natAbs = z ++ aQ DD k) n.natAbs ?_ ?_
  ·exact ⟨_, .refl, [], 0, _, _, _, rfl, by simp [cI], by simp [emap], rfl, by simp; omega, b6.nil, by simp [V], by simp⟩
  rintro k _ ⟨z, i, ver, rows, clk, rfl, cI, hr, hz, I0, lz, hV, hd⟩
  refine W.seq ?_
  refine W.sr ?_; simp (disch := omega) [gw]; refine W.lx [0, 2, 3, 4, 15] ?_; simp
  refine W.cond ⟨_, rfl, fun h => ?_, fun h => ?_⟩
  ·simp at h
   have ayt : i ≤ 63 := by
    have h3 : 1 * 2 ^ i ≤ k * 2 ^ i := Nat.mul_le_mul_right _ (by omega)
    have h4 : 2 ^ i ≤ 2 ^ 63 := by omega
    exact (Nat.pow_le_pow_iff_right (by decide)).1 h4
   have ayu : k ≤ 9223372036854775808 := Nat.le_trans (by have := Nat.mul_le_mul_left k (Nat.pow_pos (n := i) (show 0 < 2 by decide)); omega) I0
   refine W.skip ?_
   refine W.block ?_
   refine W.sr ?_; simp (disch := omega) [gw, hr, hz]
   refine W.lx [0, 2, 3, 4] ?_; simp
   refine W.b8 (fun K hK => ?_); simp (disch := omega) [gw]
   refine hK _ ⟨k / 10000, _, Gh.fr [(0, .int .i64 ((k / 10000 : Nat) : Int)), (2, .ptr 2 0 0 0), (3, .bool (decide (n < 0))), (4, .own 4 _ 0 (i + 1))] (by simp; rfl), by omega, z ++ [((k % 10000 : Nat) : Int)], i + 1, _, _, _, rfl, by simp [cI], by simp, by simp [hz], ?_, b6.append.2 ⟨lz, b6.cons.2 ⟨by omega, b6.nil⟩⟩, ?_, ?_⟩
   ·rw [Nat.pow_succ]
    have h3 : k / 10000 * (2 ^ i * 2) = k / 10000 * 2 * 2 ^ i := by rw [Nat.mul_comm (2 ^ i), Nat.mul_assoc]
    rw [h3]
    exact Nat.le_trans (Nat.mul_le_mul_right _ (by omega)) I0
   ·rw [dF, lZ, hz, ← hV, Int.pow_succ]
    have : (k : Int) = (k % 10000 : Nat) + 10000 * (k / 10000 : Nat) := by omega
    grind
   ·rw [hd, pJ LD (by omega)]; simp
  ·simp at h
   have wL : k = 0 := by omega
   subst wL
   have e : z = aQ DD n.natAbs := by rw [hd]; simp [kB]
   refine W.exit ?_; simp only [pX, if_true, if_false, reduceIte, Nat.reduceEqDiff]
   refine W.sr ?_
   have ez : z.take i = aQ DD n.natAbs := by rw [bE hz, e]
   simp (disch := omega) [gw, hr, hz, ez]
   refine aA (nC n.natAbs (by omega) (decide (n < 0))) ?_
   simp (disch := omega) [gw, cI]
   refine W.lx [2] ?_; simp
   refine W.ret ?_
   have e2 : (if n < 0 then -(n.natAbs : Int) else n.natAbs) = n := by split <;> omega
   rw [e2]
   simp [go]
end Go.Proofs.YtbbjgncblhfegaaGreat
