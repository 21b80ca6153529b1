import Derived.Test.YtbbjgncblhfegaaGreatFaf
import Derived.Test.YtbbjgncblhfegaaGreatFah
set_option linter.unusedSimpArgs false
set_option linter.unusedVariables false
namespace Go.Proofs.YtbbjgncblhfegaaGreat
open Go Pm
theorem ajd (n : Int) (h0 : 0 ≤ n) (h1 : n < 4294967296) : aI env.P 258 [.int .u32 n] (.int .i64 (32 - nb n.toNat)) := by
 refine aB (E := env) (fun _ => 0) [(0, .int .u32 n)] Tryz.func258 rfl (by kernel_rfl) (by kernel_rfl) (show 1 ≤ 6 by decide) (by simp) ?_
 refine W.sr ?_; simp (disch := omega) [gw]; refine W.lx [0] ?_; simp
 refine W.sr ?_
 simp (disch := omega) [gw]
 refine aA (DK n h0 h1) ?_
 have : nb n.toNat ≤ 32 := oO.2 (by omega)
 simp (disch := omega) [gw]
 refine W.lx [2] ?_; simp
 refine W.ret ?_
 simp [go]
theorem adF (l : List Int) (n : Nat) (hn : n ≤ 31) (hl : l.length < 1099511627775) (lm : b9 4294967296 l) : aI env.P 262 [us l, .int .i64 n] (N (V 4294967296 l * 2 ^ n)) := by
 refine aB (E := env) (fun _ => 0) [(0, us l), (1, .int .i64 n)] Tryz.func262 rfl (by kernel_rfl) (by kernel_rfl) (show 2 ≤ 67 by decide) (by simp) ?_
 refine W.sr ?_; simp (disch := omega) [gw]; refine W.lx [0, 1] ?_; simp
 have eY := bO l
 refine W.sr ?_
 simp (disch := omega) [gw]
 refine aA (cX l (by omega)) ?_
 simp (disch := omega) [gw]
 refine W.lx [0, 1] ?_; simp
 have lx := dM lm
 have hV := cF (b := 4294967296) l
 rw [← hV]
 have hxl : (aM l).length < 1099511627775 := by omega
 clear hV
 generalize aM l = x at *
 have h65 : ¬ (65536 < (n : Int)) := by omega
 have e0 : (if 0 < n then (n : Int) else 0) = n := by split <;> omega
 refine W.sr ?_
 simp (disch := omega) [gw, h65, e0]
 refine W.lx [0, 1] ?_; simp
 refine W.seq ?_
 refine W.sr ?_; simp (disch := omega) [gw]; refine W.lx [0, 1, 18] ?_; simp
 refine W.cond ⟨_, rfl, fun h => ?_, fun h => ?_⟩
 ·have h : x = [] := by simp at h; exact h
  subst h
  refine W.sr ?_; simp (disch := omega) [gw]; refine W.lx [4] ?_; simp
  refine W.ret ?_
  simp [go, V]
  rfl
 have h : x ≠ [] := by simp at h; exact h
 refine W.skip ?_
 have d1 : (n : Int) / 32 = 0 := by omega
 have d2 : (n : Int) % 32 = n := by omega
 refine W.sr ?_; simp (disch := omega) [gw, d1, d2]; refine W.lx [0, 5, 6] ?_; simp
 refine W.sr ?_; simp (disch := omega) [gw]; refine W.lx [0, 5, 6, 7] ?_; simp
 refine W.seq ?_
 refine W.sr ?_; simp (disch := omega) [gw]; refine W.lx [5, 6, 7, 30, 31, 32] ?_; simp
 refine W.block ?_
 have h2n : (2 : Int) ^ n ≤ 2147483648 := by
  have := Int.ofNat_le.2 (Nat.pow_le_pow_right (show 0 < 2 by decide) hn)
  simpa using this
 have h2p : (0 : Int) < 2 ^ n := Int.pow_pos (by decide)
 have h2d : (2 : Int) ^ n ∣ 4294967296 := by
  refine ⟨2 ^ (32 - n), ?_⟩
  rw [← Int.pow_add, show n + (32 - n) = 32 by omega]; rfl
 refine W.bE (fun q σ => ∃ (i v : Nat) (z : List Int) (rows : Pm.Rows) (clk : Nat), σ = ⟨fa [(5, .int .i64 0), (6, .int .u64 n), (7, .own 29 v 0 (x.length + 1)), (30, us x), (31, .int .i64 x.length), (32, .int .i64 i)], rows, clk⟩ ∧
  rows 29 = some ⟨v, 143, 1, emap u32 z⟩ ∧ q = x.length - i ∧ i ≤ x.length ∧ z.length = x.length + 1 ∧ b9 4294967296 z ∧ V 4294967296 (z.take (i + 1)) = V 4294967296 (x.take i) * 2 ^ n ∧ nth z i < 2 ^ n) x.length ?_ ?_
 ·exact ⟨_, .refl, 0, _, List.replicate (x.length + 1) 0, _, _, rfl, by simp, by omega, by omega, by simp, b9.rep (by decide) _, by simp [V, List.replicate_succ], by rw [cE (by simp)]; simp; exact h2p⟩
 rintro q _ ⟨i, v, z, rows, clk, rfl, hr, hq, hi, hz, lz, hV, hzi⟩
 refine W.sr ?_; simp (disch := omega) [gw]; refine W.lx [5, 6, 7, 30, 31, 32, 33] ?_; simp
 refine W.seq ?_
 refine W.cond ⟨_, rfl, fun h => ?_, fun h => ?_⟩
 ·have hi : i < x.length := by simp at h; omega
  have hw := lx.nth hi
  refine W.skip ?_
  refine W.seq ?_
  refine W.block ?_
  refine W.sr ?_; simp (disch := omega) [gw]; refine W.lx [5, 6, 7, 8, 9, 30, 31, 32] ?_; simp
  have hVx := aU (b := 4294967296) hi
  generalize hwe : nth x i = w at *
  have hv0 : 0 ≤ w * 2 ^ n := Int.mul_nonneg hw.1 (by omega)
  have hv1 : w * 2 ^ n < 4294967296 * 2 ^ n := Int.mul_lt_mul_of_pos_right hw.2 h2p
  have hvd : (2 ^ n : Int) ∣ w * 2 ^ n := ⟨w, Int.mul_comm _ _⟩
  have hwr : IntKind.u64.wrap (w * 2 ^ n) = w * 2 ^ n := wrap_u64 hv0 (by omega)
  have atw := lz.nth (i := i) (by omega)
  refine W.sr ?_
  simp (disch := omega) [gw, hwr]
  refine W.lx [5, 6, 7, 8, 10, 30, 31, 32] ?_; simp
  have atx : V 4294967296 (x.take (i + 1)) * 2 ^ n = V 4294967296 (x.take i) * 2 ^ n + 4294967296 ^ i * (w * 2 ^ n) := by rw [hVx]; grind
  generalize hve : w * 2 ^ n = y at *
  have aoI : (2 ^ n : Int) ∣ y % 4294967296 := by
   rw [Int.emod_def]
   exact Int.dvd_sub hvd (Int.dvd_trans h2d (Int.dvd_mul_right _ _))
  have aws : y % 4294967296 + 2 ^ n ≤ 4294967296 := by
   obtain ⟨c, hc⟩ := aoI
   obtain ⟨d, hd⟩ := h2d
   have h1 : (2 ^ n : Int) * c < 2 ^ n * d := by have := Int.emod_lt_of_pos y (show (0 : Int) < 4294967296 by decide); omega
   have h2 : c < d := Int.lt_of_mul_lt_mul_left h1 (by omega)
   have h3 := Int.mul_le_mul_of_nonneg_left (show c + 1 ≤ d by omega) (show 0 ≤ (2 ^ n : Int) by omega)
   rw [Int.mul_add] at h3
   omega
  have hor := (adw (a := y % 4294967296) (b := nth z i) n (by omega) atw.1 aoI hzi (by omega)).2
  have hwy : IntKind.u32.wrap y = y % 4294967296 := wrap_u32'
  refine W.sr ?_
  simp (disch := omega) [gw, hr, hz, hwy, hor]
  refine W.lx [5, 6, 7, 8, 10, 30, 31, 32] ?_; simp
  refine W.cB (fun K hK => ?_)
  simp (disch := omega) [gw, hz]
  refine W.lw [5, 6, 7, 30, 31, 32] hK ?_; clear hK K; simp
  refine W.cB (fun K hK => ?_); simp (disch := omega) [gw]
  refine hK _ ⟨x.length - (i + 1), _, aC _ [5, 6, 7, 30, 31, 32], by omega, i + 1, v, (z.set i (y % 4294967296 + nth z i)).set (i + 1) (y / 4294967296), _, _, rfl, by simp, by omega, by omega, by simp [hz], (lz.set ⟨by omega, by omega⟩).set ⟨by omega, by omega⟩, ?_, ?_⟩
  ·have q1 := dY (b := 4294967296) (l := z.set i (y % 4294967296 + nth z i)) (i := i + 1) (x := y / 4294967296) (by simp; omega)
   have q2 := dY (b := 4294967296) (l := z) (i := i) (x := y % 4294967296 + nth z i) (by omega)
   have q3 := aU (b := 4294967296) (l := z) (i := i) (by omega)
   have q4 := Int.mul_ediv_add_emod y 4294967296
   rw [q1, q2, atx, ← hV, q3, Int.pow_succ]
   generalize y / 4294967296 = yq at *
   generalize y % 4294967296 = yr at *
   rw [← q4]; grind
  ·rw [dV (by simp; omega)]; omega
 ·have hi : i = x.length := by simp at h; omega
  subst hi
  have hVz : V 4294967296 z = V 4294967296 x * 2 ^ n := by
   rw [aY (by omega), aY (Nat.le_refl _)] at hV; exact hV
  have zz := bH hz
  have lT := cX z (by omega)
  rw [tL lz, hVz] at lT
  refine W.exit ?_; simp only [pX, if_true, if_false, reduceIte, Nat.reduceEqDiff]
  refine W.sr ?_
  simp (disch := omega) [gw, hr, zz]
  refine aA lT ?_
  simp (disch := omega) [gw]
  refine W.lx [4] ?_; simp
  refine W.ret ?_
  simp [go]
theorem I8 (l : List Int) (n m : Nat) (hn : n ≤ 31) (hl : l.length < 1099511627775) (lm : b9 4294967296 l) (LG : 0 < m) (HD : m < 1099511627776) (hb : V 4294967296 l * 2 ^ n < 4294967296 ^ m) :
  ∃ y : List Int, fO env.P 259 [us l, .int .i64 n, .int .i64 m] 143 1 (emap u32 y) ∧ y.length = m ∧ b9 4294967296 y ∧ V 4294967296 y = V 4294967296 l * 2 ^ n := by
 have hp : 0 ≤ V 4294967296 l * 2 ^ n := Int.mul_nonneg (bG (by decide) lm) (Int.le_of_lt (Int.pow_pos (by decide)))
 obtain ⟨N0, hN⟩ := Int.eq_ofNat_of_zero_le hp
 have hS := adF l n hn hl lm
 rw [hN] at hS hb
 replace hS : aI env.P 262 [us l, .int .i64 n] (us (aT LL N0)) := hS
 have S8 : (aT LL N0).length ≤ m := FO fT (by
  have h4 : ((4294967296 ^ m : Nat) : Int) = (4294967296 : Int) ^ m := Int.natCast_pow 4294967296 m
  show N0 < 4294967296 ^ m
  omega)
 have PW := eT fT N0
 have ZJ := jK fT N0
 refine ⟨aT LL N0 ++ List.replicate (m - (aT LL N0).length) 0, ?_, by simp; omega, b9.append.2 ⟨PW, b9.rep (by decide) _⟩, by rw [dK, oN, hN, ← ZJ]; simp⟩
 generalize aT LL N0 = D at *
 refine iI (E := env) (fun _ => 0) (t := 6) [(0, us l), (1, .int .i64 n), (2, .int .i64 m)] Tryz.func259 rfl (by kernel_rfl) (by kernel_rfl) (show 3 ≤ 16 by decide) rfl (by simp) ?_
 refine W.sr ?_; simp (disch := omega) [gw]; refine W.lx [0, 1, 2] ?_; simp
 refine W.sr ?_; simp (disch := omega) [gw]; refine W.lx [0, 1, 7] ?_; simp
 refine W.sr ?_
 simp (disch := omega) [gw]
 refine aA hS ?_
 simp (disch := omega) [gw]
 refine aoH (e' := 143) (els := emap u32 (List.replicate m 0)) (l := emap u32 D) (by simp) (by simp) LG rfl (fun e he => by simp only [emap, List.mem_map] at he; obtain ⟨x, _, rfl⟩ := he; rfl) ?_
 have e1 : (emap u32 (List.replicate m 0)).take 0 ++ (emap u32 D).take m ++ (emap u32 (List.replicate m 0)).drop (0 + min (emap u32 D).length m) = emap u32 (D ++ List.replicate (m - D.length) 0) := by
  simp only [emap, List.take_zero, List.nil_append, List.length_map, Nat.zero_add, List.map_append, Nat.min_eq_left S8]
  rw [List.take_of_length_le (by simpa using S8), ← List.map_drop, List.drop_replicate]
 rw [e1]
 generalize hy : D ++ List.replicate (m - D.length) 0 = y at *
 have LK : y.length = m := by rw [← hy]; simp; omega
 simp (disch := omega) [gw]
 refine W.lx [7] ?_; simp
 refine W.sr ?_; simp (disch := omega) [gw]; refine W.lx [6] ?_; simp
 refine W.ret ?_
 exact ⟨9, 0, by simp [LK], by simp, fun x hx p hp => by
  simp only [emap, List.mem_map] at hx
  obtain ⟨r, _, rfl⟩ := hx
  simp at hp
  subst hp; rfl⟩
theorem adI (a : List Int) (w : Int) (ha : a.length < 1099511627775) (la : b9 4294967296 a) (hw0 : 0 < w) (LJ : w < 4294967296) : aI env.P 257 [us a, .int .u32 w] (.dP [N (V 4294967296 a / w), .int .u32 (V 4294967296 a % w)]) := by
 refine aB (E := env) (fun _ => 0) [(0, us a), (1, .int .u32 w)] Tryz.func257 rfl (by kernel_rfl) (by kernel_rfl) (show 2 ≤ 44 by decide) (by simp) ?_
 refine W.sr ?_; simp (disch := omega) [gw]; refine W.lx [0, 1] ?_; simp
 refine W.sr ?_; simp (disch := omega) [gw]; refine W.lx [0, 1, 6] ?_; simp
 refine W.sr ?_; simp (disch := omega) [gw]; refine W.lx [0, 1, 6, 7] ?_; simp
 refine W.seq ?_
 refine W.sr ?_; simp (disch := omega) [gw]; refine W.lx [0, 1, 6, 7, 8] ?_; simp
 refine W.block ?_
 refine W.bE (fun q σ => ∃ (v : Nat) (r : Int) (z : List Int) (rows : Pm.Rows) (clk : Nat), σ = ⟨fa [(0, us a), (1, .int .u32 w), (6, .own 12 v 0 a.length), (7, .int .u64 r), (8, .int .i64 ((q : Int) - 1))], rows, clk⟩ ∧
  rows 12 = some ⟨v, 143, 1, emap u32 z⟩ ∧ q ≤ a.length ∧ z.length = a.length ∧ b9 4294967296 z ∧ V 4294967296 (z.drop q) * w + r = V 4294967296 (a.drop q) ∧ 0 ≤ r ∧ r < w) a.length ?_ ?_
 ·exact ⟨_, .refl, 0, 0, List.replicate a.length 0, _, _, rfl, by simp, by omega, by simp, b9.rep (by decide) _, by simp [V], by omega, hw0⟩
 rintro q _ ⟨v, r, z, rows, clk, rfl, hr, hq, hz, lz, hV, LF, CG⟩
 refine W.seq ?_
 refine W.sr ?_; simp (disch := omega) [gw]; refine W.lx [0, 1, 6, 7, 8, 17] ?_; simp
 refine W.cond ⟨_, rfl, fun h => ?_, fun h => ?_⟩
 ·have hq0 : 0 < q := by simp at h; omega
  obtain ⟨j, rfl⟩ : ∃ j, q = j + 1 := ⟨q - 1, by omega⟩
  clear h
  have hj := la.nth (i := j) (by omega)
  have ej : ((j + 1 : Nat) : Int) - 1 = j := by omega
  rw [ej]
  have hVa : V 4294967296 (a.drop j) = nth a j + 4294967296 * V 4294967296 (a.drop (j + 1)) := by rw [dX (by omega)]; rfl
  generalize hxe : nth a j = x at *
  have hrb : r * 4294967296 < 18446744073709551616 := by omega
  have hor := (x6 (a := r * 4294967296) (b := x) 32 (by omega) hj.1 ⟨r, by rw [Int.mul_comm]; rfl⟩ (by simpa using hj.2) (by omega)).1
  refine W.skip ?_
  refine W.seq ?_
  refine W.block ?_
  refine W.sr ?_
  simp (disch := omega) [gw, hxe, hor]
  refine W.lx [0, 1, 6, 8, 9] ?_; simp
  have hs : (r * 4294967296 + x) / w < 4294967296 := Int.ediv_lt_of_lt_mul hw0 (by
   have := Int.mul_le_mul_of_nonneg_right (show r + 1 ≤ w by omega) (show (0 : Int) ≤ 4294967296 by decide)
   rw [Int.mul_comm 4294967296]; omega)
  have T1 : 0 ≤ (r * 4294967296 + x) / w := Int.ediv_nonneg (by omega) (by omega)
  have LG := Int.emod_nonneg (r * 4294967296 + x) (show w ≠ 0 by omega)
  have HD := Int.emod_lt_of_pos (r * 4294967296 + x) hw0
  have TZ := Int.mul_ediv_add_emod (r * 4294967296 + x) w
  have hw' : ¬ w = 0 := by omega
  refine W.M9 (fun K hK => ?_)
  simp (disch := omega) [gw, hr, hz, hw']
  refine cA (by kernel_rfl) ?_
  simp (disch := omega) [gw, hr, hz, hw']
  refine W.lw [0, 1, 6, 7, 8] hK ?_; clear hK K; simp
  refine W.cB (fun K hK => ?_); simp (disch := omega) [gw]
  refine hK _ ⟨j, _, aC _ [0, 1, 6, 7, 8], by omega, v, (r * 4294967296 + x) % w, z.set j ((r * 4294967296 + x) / w), _, _, rfl, by simp, by omega, by simp [hz], lz.set ⟨T1, hs⟩, ?_, LG, HD⟩
  rw [dX (l := z.set j _) (i := j) (by simp; omega), dV (by omega), hVa, ← hV, List.drop_set_of_lt (by omega)]
  simp only [V]
  generalize (r * 4294967296 + x) / w = qq at *
  generalize (r * 4294967296 + x) % w = rr at *
  grind
 ·have hq0 : q = 0 := by simp at h; omega
  subst hq0
  have zz := bH hz
  have lT := cX z (by omega)
  simp only [List.drop_zero] at hV
  have h1 : V 4294967296 z = V 4294967296 a / w ∧ r = V 4294967296 a % w := by
   have h2 : V 4294967296 a / w = V 4294967296 z := by
    have e : (V 4294967296 z + 1) * w = V 4294967296 z * w + w := by grind
    rw [Int.ediv_eq_iff_of_pos hw0]
    constructor <;> omega
   refine ⟨h2.symm, ?_⟩
   have h3 := Int.emod_def (V 4294967296 a) w
   rw [h2, Int.mul_comm] at h3
   omega
  rw [tL lz, h1.1] at lT
  have cO := h1.2
  refine W.exit ?_; simp only [pX, if_true, if_false, reduceIte, Nat.reduceEqDiff]
  refine W.sr ?_
  simp (disch := omega) [gw, hr, zz]
  refine aA lT ?_
  simp (disch := omega) [gw]
  refine W.lx [4, 5] ?_; simp
  refine W.ret ?_
  simp [go, cO]
theorem n5 {x : List Int} {i : Nat} (h : x.length ≤ i) : nth x i = 0 := fZ h
theorem adJ (l : List Int) (n : Nat) (hn : n ≤ 31) (hl : l.length < 1099511627775) (lm : b9 4294967296 l) : aI env.P 261 [us l, .int .i64 n] (N (V 4294967296 l / 2 ^ n)) := by
 refine aB (E := env) (fun _ => 0) [(0, us l), (1, .int .i64 n)] Tryz.func261 rfl (by kernel_rfl) (by kernel_rfl) (show 2 ≤ 69 by decide) (by simp) ?_
 refine W.sr ?_; simp (disch := omega) [gw]; refine W.lx [0, 1] ?_; simp
 have eY := bO l
 refine W.sr ?_
 simp (disch := omega) [gw]
 refine aA (cX l (by omega)) ?_
 simp (disch := omega) [gw]
 refine W.lx [0, 1] ?_; simp
 have lx := dM lm
 have hV := cF (b := 4294967296) l
 rw [← hV]
 have hxl : (aM l).length < 1099511627775 := by omega
 clear hV
 generalize aM l = x at *
 have h65 : ¬ (65536 < (n : Int)) := by omega
 have e0 : (if 0 < n then (n : Int) else 0) = n := by split <;> omega
 refine W.sr ?_
 simp (disch := omega) [gw, h65, e0]
 refine W.lx [0, 1] ?_; simp
 have d1 : (n : Int) / 32 = 0 := by omega
 have d2 : (n : Int) % 32 = n := by omega
 refine W.sr ?_; simp (disch := omega) [gw, d1, d2]; refine W.lx [0, 5, 6] ?_; simp
 refine W.seq ?_
 refine W.sr ?_; simp (disch := omega) [gw]; refine W.lx [0, 5, 6, 23] ?_; simp
 refine W.cond ⟨_, rfl, fun h => ?_, fun h => ?_⟩
 ·have h : x = [] := by simp at h; exact h
  subst h
  refine W.sr ?_; simp (disch := omega) [gw]; refine W.lx [4] ?_; simp
  refine W.ret ?_
  simp [go, V]
  rfl
 have h : x ≠ [] := by simp at h; exact h
 refine W.skip ?_
 refine W.sr ?_; simp (disch := omega) [gw]; refine W.lx [0, 5, 6, 7] ?_; simp
 refine W.seq ?_
 refine W.sr ?_; simp (disch := omega) [gw]; refine W.lx [0, 5, 6, 7, 30, 31] ?_; simp
 refine W.block ?_
 have h2p : (0 : Int) < 2 ^ n := Int.pow_pos (by decide)
 have h2e : (0 : Int) < 2 ^ (32 - n) := Int.pow_pos (by decide)
 have h2d : (2 : Int) ^ n * 2 ^ (32 - n) = 4294967296 := by
  rw [← Int.pow_add, show n + (32 - n) = 32 by omega]; rfl
 refine W.bE (fun q σ => ∃ (i v : Nat) (z : List Int) (rows : Pm.Rows) (clk : Nat), σ = ⟨fa [(0, us x), (5, .int .i64 0), (6, .int .u64 n), (7, .own 28 v 0 x.length), (30, .int .i64 x.length), (31, .int .i64 i)], rows, clk⟩ ∧
  rows 28 = some ⟨v, 143, 1, emap u32 z⟩ ∧ q = x.length - i ∧ i ≤ x.length ∧ z.length = x.length ∧ b9 4294967296 z ∧ 2 ^ n * V 4294967296 (z.take i) + nth x 0 % 2 ^ n = V 4294967296 (x.take i) + (nth x i % 2 ^ n) * 4294967296 ^ i) x.length ?_ ?_
 ·exact ⟨_, .refl, 0, _, List.replicate x.length 0, _, _, rfl, by simp, by omega, by omega, by simp, b9.rep (by decide) _, by simp [V]⟩
 rintro q _ ⟨i, v, z, rows, clk, rfl, hr, hq, hi, hz, lz, hV⟩
 refine W.sr ?_; simp (disch := omega) [gw]; refine W.lx [0, 5, 6, 7, 30, 31, 32] ?_; simp
 refine W.seq ?_
 refine W.cond ⟨_, rfl, fun h => ?_, fun h => ?_⟩
 ·have hi : i < x.length := by simp at h; omega
  have hw := lx.nth hi
  have hw2 : 0 ≤ nth x (i + 1) ∧ nth x (i + 1) < 4294967296 := by
   rcases Nat.lt_or_ge (i + 1) x.length with h3 | h3
   ·exact lx.nth h3
   ·rw [n5 h3]; decide
  have hVx := aU (b := 4294967296) hi
  obtain ⟨q1, q2, q3⟩ := YU h2p h2e h2d hw hw2
  generalize hwe : nth x i = w at *
  refine W.skip ?_
  refine W.seq ?_
  refine W.block ?_
  refine W.sr ?_; simp (disch := omega) [gw]; refine W.lx [0, 5, 6, 7, 8, 30, 31] ?_; simp
  refine W.sr ?_; simp (disch := omega) [gw, hwe]; refine W.lx [0, 5, 6, 7, 8, 9, 30, 31] ?_; simp
  refine W.fI (fun σ => ∃ (rows : Pm.Rows) (clk : Nat), σ = ⟨fa [(0, us x), (5, .int .i64 0), (6, .int .u64 n), (7, .own 28 v 0 x.length), (8, .int .i64 i), (9, .int .u64 (w + 4294967296 * nth x (i + 1))), (30, .int .i64 x.length), (31, .int .i64 i)], rows, clk⟩ ∧ rows 28 = some ⟨v, 143, 1, emap u32 z⟩) ?_ ?_
  ·
   refine W.sr ?_; simp (disch := omega) [gw]; refine W.lx [0, 5, 6, 7, 8, 9, 30, 31, 47] ?_; simp
   refine W.cond ⟨_, rfl, fun h => ?_, fun h => ?_⟩
   ·have h : i + 1 < x.length := by simp at h; omega
    have hor := (x6 (a := nth x (i + 1) * 4294967296) (b := w) 32 (by omega) hw.1 ⟨nth x (i + 1), by rw [Int.mul_comm]; rfl⟩ (by simpa using hw.2) (by omega)).2
    rw [show nth x (i + 1) * 4294967296 + w = w + 4294967296 * nth x (i + 1) by omega] at hor
    refine W.cB (fun K hK => ?_); simp (disch := omega) [gw, hor]
    exact hK _ ⟨_, aC _ [0, 5, 6, 7, 8, 9, 30, 31], _, _, rfl, by simp [hr]⟩
   ·have h : x.length ≤ i + 1 := by simp at h; omega
    rw [n5 h]
    refine W.skip ?_
    exact ⟨_, Gh.fr [(0, us x), (5, .int .i64 0), (6, .int .u64 n), (7, .own 28 v 0 x.length), (8, .int .i64 i), (9, .int .u64 (w + 4294967296 * 0)), (30, .int .i64 x.length), (31, .int .i64 i)] (by simp), _, _, rfl, by simp [hr]⟩
  rintro _ ⟨rows, clk, rfl, hr⟩
  have hwr : IntKind.u32.wrap ((w + 4294967296 * nth x (i + 1)) / 2 ^ n) = ((w + 4294967296 * nth x (i + 1)) / 2 ^ n) % 4294967296 := wrap_u32'
  have hfd : (w + 4294967296 * nth x (i + 1)).fdiv (2 ^ n) = (w + 4294967296 * nth x (i + 1)) / 2 ^ n := Int.fdiv_eq_ediv_of_nonneg _ (by omega)
  refine W.cB (fun K hK => ?_)
  simp (disch := omega) [gw, hr, hz, hfd, hwr]
  refine W.lw [0, 5, 6, 7, 30, 31] hK ?_; clear hK K; simp
  refine W.cB (fun K hK => ?_); simp (disch := omega) [gw]
  refine hK _ ⟨x.length - (i + 1), _, aC _ [0, 5, 6, 7, 30, 31], by omega, i + 1, v, z.set i (((w + 4294967296 * nth x (i + 1)) / 2 ^ n) % 4294967296), _, _, rfl, by simp, by omega, by omega, by simp [hz], lz.set ⟨q2, q3⟩, ?_⟩
  rw [dY (by omega), hVx, Int.mul_add, Int.pow_succ]
  generalize ((w + 4294967296 * nth x (i + 1)) / 2 ^ n) % 4294967296 = o at *
  generalize nth x (i + 1) % 2 ^ n = lo1 at *
  generalize w % 2 ^ n = lo at *
  have e2 : (2 : Int) ^ n * (4294967296 ^ i * o) = 4294967296 ^ i * (2 ^ n * o) := by grind
  rw [e2, q1]
  grind
 ·have hi : i = x.length := by simp at h; omega
  subst hi
  have zz := bH hz
  have lT := cX z (by omega)
  rw [tL lz] at lT
  rw [zz, List.take_of_length_le (Nat.le_refl _), n5 (Nat.le_refl _)] at hV
  have hVz : V 4294967296 x / 2 ^ n = V 4294967296 z := by
   have h5 := Int.emod_nonneg (nth x 0) (show (2 ^ n : Int) ≠ 0 by omega)
   have h6 := Int.emod_lt_of_pos (nth x 0) h2p
   rw [Int.zero_emod, Int.zero_mul, Int.add_zero] at hV
   have e : (V 4294967296 z + 1) * 2 ^ n = 2 ^ n * V 4294967296 z + 2 ^ n := by grind
   have e' : V 4294967296 z * 2 ^ n = 2 ^ n * V 4294967296 z := Int.mul_comm _ _
   rw [Int.ediv_eq_iff_of_pos h2p]
   constructor <;> omega
  rw [hVz]
  refine W.exit ?_; simp only [pX, if_true, if_false, reduceIte, Nat.reduceEqDiff]
  refine W.sr ?_
  simp (disch := omega) [gw, hr, zz]
  refine aA lT ?_
  simp (disch := omega) [gw]
  refine W.lx [4] ?_; simp
  refine W.ret ?_
  simp [go]
theorem eX (z : List Int) (o k : Nat) : nth (z.drop o) k = nth z (o + k) := by simp [nth, List.getElem?_drop]
theorem kY (z : List Int) (o k : Nat) (x : Int) : (z.set (o + k) x).drop o = (z.drop o).set k x := by
 rw [List.drop_set]
 rw [if_neg (by omega)]
 congr 1; omega
set_option maxHeartbeats 2000000 in
theorem NM {id ver off m : Nat} (zl y : List Int) (rows : Pm.Rows) (clk : Nat) (hr : rows id = some ⟨ver, 143, 1, emap u32 zl⟩) (LK : y.length = m + 2) (hym : m < 1099511627776) (ly : b9 4294967296 y) (ayd : 2147483648 ≤ nth y (m + 1)) (lz : b9 4294967296 zl)
  (WC : off + m + 3 ≤ zl.length) (EW : zl.length < 1099511627776) (dI : V 4294967296 ((zl.drop off).take (m + 3)) < 4294967296 * V 4294967296 y) :
  SV env.P 260 [.own id ver off (m + 3), us y] rows clk (fun r rows' jP => ∃ D : List Int, r = .int .u32 (V 4294967296 ((zl.drop off).take (m + 3)) / V 4294967296 y) ∧ rows' = dJ rows id (some ⟨ver, 143, 1, emap u32 (zl.take off ++ D)⟩) ∧ jP = clk ∧
   D.length = (zl.drop off).length ∧ b9 4294967296 D ∧ D.drop (m + 3) = (zl.drop off).drop (m + 3) ∧ V 4294967296 (D.take (m + 3)) = V 4294967296 ((zl.drop off).take (m + 3)) % V 4294967296 y) := by
 obtain ⟨NN, hc⟩ := aoA (D := zl.drop off) (by simp; omega) LK (lz.drop off) ly (by omega) dI
 have l1 := ly.nth (i := m) (by omega)
 have l2 := ly.nth (i := m + 1) (by omega)
 have k0 := (lz.drop off).nth (i := m) (by simp; omega)
 have k1 := (lz.drop off).nth (i := m + 1) (by simp; omega)
 have k2 := (lz.drop off).nth (i := m + 2) (by simp; omega)
 have n0 := eX zl off m
 have n1 := eX zl off (m + 1)
 have n2 := eX zl off (m + 2)
 have ZK : (zl.drop off).length = zl.length - off := by simp
 have hYb : V 4294967296 y < 4294967296 ^ (m + 2) := by have := nY (by decide) ly; rwa [LK] at this
 have hX : V 4294967296 ((zl.drop off).take (m + 3)) = V 4294967296 ((zl.drop off).take (m + 2)) + 4294967296 ^ (m + 2) * nth (zl.drop off) (m + 2) := aU (by simp; omega)
 refine NL (E := env) (fun _ => 0) (t := 4) [(0, .own id ver off (m + 3)), (1, us y)] Tryz.func260 rfl (by kernel_rfl) (by kernel_rfl) (show 2 ≤ 170 by decide) rfl (by simp) ?_
 refine W.sr ?_; simp (disch := omega) [gw]; refine W.lx [0, 1] ?_; simp
 refine W.sr ?_; simp (disch := omega) [gw, LK]; refine W.lx [0, 1, 5] ?_; simp
 have a1 : ((m : Int) + 2 - 1) = ((m + 1 : Nat) : Int) := by omega
 have a2 : ((m : Int) + 2 - 2) = (m : Int) := by omega
 refine W.sd ?_
 simp (disch := omega) [gw, LK, a1, a2]
 refine W.lx [0, 1, 5, 6, 7] ?_; simp
 rw [n0] at k0 NN
 rw [n1] at k1 NN
 rw [n2] at k2 NN hc hX
 generalize hxa : nth zl (off + m) = xa at *
 generalize hxb : nth zl (off + (m + 1)) = xb at *
 generalize hxc : nth zl (off + (m + 2)) = xc at *
 generalize htt : nth y (m + 1) = top at *
 generalize T8 : nth y m = nx at *
 have hor := (x6 (a := xc * 4294967296) (b := xb) 32 (by omega) k1.1 ⟨xc, by rw [Int.mul_comm]; rfl⟩ (by simpa using k1.2) (by omega)).1
 have htp : ¬ top = 0 := by omega
 refine W.sd ?_
 have a3 : ((m : Int) + 2).toNat = m + 2 := by omega
 simp (disch := omega) [gw, hr, a1, a3, hxb, hxc, hor]
 refine W.lx [0, 1, 5, 6, 7, 8] ?_; simp
 generalize hXX : V 4294967296 ((zl.drop off).take (m + 3)) = X at *
 generalize hYY : V 4294967296 y = Y at *
 have hY0 := NN.Y0
 have hX0 : 0 ≤ X := by rw [← hXX]; exact bG (by decide) ((lz.drop off).take _)
 have hhd : xc * 4294967296 + xb ≤ top * 4294967296 + 4294967296 - 1 := by omega
 have hf := NN.first
 have hg0 := Int.ediv_nonneg NN.h0 (show 0 ≤ top by omega)
 have TZ := Int.mul_ediv_add_emod (xc * 4294967296 + xb) top
 have LF := Int.emod_nonneg (xc * 4294967296 + xb) htp
 have CG := Int.emod_lt_of_pos (xc * 4294967296 + xb) (show 0 < top by omega)
 have hgu : (xc * 4294967296 + xb) / top ≤ 4294967297 := by
  rcases Int.lt_or_le 4294967297 ((xc * 4294967296 + xb) / top) with h | h
  ·exfalso
   have := Int.mul_le_mul_of_nonneg_left (show 4294967298 ≤ (xc * 4294967296 + xb) / top by omega) (show 0 ≤ top by omega)
   omega
  ·exact h
 rw [Int.mul_comm] at TZ
 have hh0 := NN.h0
 generalize hhe : xc * 4294967296 + xb = head at *
 have hwq : IntKind.u64.wrap (head / top) = head / top := wrap_u64 hg0 (by omega)
 refine W.sr ?_; simp (disch := omega) [gw, htp, hwq]; refine W.lx [0, 1, 5, 6, 7, 8, 9] ?_; simp
 refine W.sr ?_; simp (disch := omega) [gw, htp]; refine W.lx [0, 1, 5, 6, 7, 9, 10] ?_; simp
 refine W.fE (fun σ => ∃ (g : Int), σ = ⟨fa [(0, .own id ver off (m + 3)), (1, us y), (5, .int .i64 ((m : Int) + 2)), (9, .int .u64 g)], rows, clk⟩ ∧ 0 ≤ g ∧ g < 4294967296 ∧ X < (g + 1) * Y ∧ g * Y < X + Y) ?_ ?_
 ·
  refine W.bE (fun k σ => ∃ (g r : Int), σ = ⟨fa [(0, .own id ver off (m + 3)), (1, us y), (5, .int .i64 ((m : Int) + 2)), (6, .int .u64 top), (7, .int .u64 nx), (9, .int .u64 g), (10, .int .u64 r)], rows, clk⟩ ∧ k = g.toNat ∧ 0 ≤ g ∧ g ≤ 4294967297 ∧ 0 ≤ r ∧ r < 4294967296 ∧ g * top + r = head ∧ X < (g + 1) * Y) (head / top).toNat ?_ ?_
  ·exact ⟨_, .refl, head / top, head % top, rfl, rfl, hg0, hgu, LF, by omega, TZ, hf⟩
  rintro k _ ⟨g, r, rfl, hk, q1, q2, q3, q4, q5, q6⟩
  refine W.seq ?_
  have atA : 0 ≤ g * nx := Int.mul_nonneg q1 l1.1
  refine W.gX (fun σ => ∃ (b : Bool), σ = ⟨fa [(0, .own id ver off (m + 3)), (1, us y), (5, .int .i64 ((m : Int) + 2)), (6, .int .u64 top), (7, .int .u64 nx), (9, .int .u64 g), (10, .int .u64 r), (71, .bool b)], rows, clk⟩ ∧ (b = true ↔ 4294967296 ≤ g ∨ r * 4294967296 + xa < g * nx)) (fun K hK => ?_) ?_
  ·by_cases hb : 4294967296 ≤ g
   ·simp (disch := omega) [gw, hb]
    exact hK _ _ (aC _ [0, 1, 5, 6, 7, 9, 10, 71]) ⟨_, rfl, by simp [hb]⟩
   ·have ayk : g * nx ≤ 4294967295 * 4294967295 := Int.mul_le_mul (by omega) (by omega) l1.1 (by omega)
    have hwr : IntKind.u64.wrap (g * nx) = g * nx := wrap_u64 atA (by omega)
    have atB := (x6 (a := r * 4294967296) (b := xa) 32 (by omega) k0.1 ⟨r, by rw [Int.mul_comm]; rfl⟩ (by simpa using k0.2) (by omega)).1
    simp (disch := omega) [gw, hb, hwr, hr, a2, hxa, atB]
    exact hK _ _ (aC _ [0, 1, 5, 6, 7, 9, 10, 71]) ⟨_, rfl, by simp [hb]⟩
  rintro _ ⟨b, rfl, hb⟩
  refine W.cond ⟨_, rfl, fun h => ?_, fun h => ?_⟩
  ·have h := hb.1 h
   have aoK : X < g * Y := by
    rcases h with h | h
    ·exact NN.big h
    ·exact NN.over q1 q5 h
   have hgp : 1 ≤ g := by
    rcases Int.lt_or_le g 1 with h3 | h3
    ·exfalso
     have : g = 0 := by omega
     rw [this, Int.zero_mul] at aoK; omega
    ·exact h3
   have e5 : (g - 1) * top + (r + top) = head := by rw [Int.sub_mul]; omega
   have e6 : X < (g - 1 + 1) * Y := by rw [Int.sub_add_cancel]; exact aoK
   refine W.skip ?_
   refine W.block ?_
   refine W.sr ?_; simp (disch := omega) [gw]; refine W.lx [0, 1, 5, 6, 7, 9, 10] ?_; simp
   refine W.sr ?_; simp (disch := omega) [gw]; refine W.lx [0, 1, 5, 6, 7, 9, 10] ?_; simp
   refine W.sr ?_; simp (disch := omega) [gw]; refine W.lx [0, 1, 5, 6, 7, 9, 10, 78] ?_; simp
   refine W.cond ⟨_, rfl, fun h => ?_, fun h => ?_⟩
   ·have h : 4294967296 ≤ r + top := by simp at h; omega
    have HC := NN.YT hhd e5 h
    have hnr := NN.rC (by omega) HC e5 (NN.aoy (by omega) HC h)
    refine W.exit ?_; simp only [pX, if_true, if_false, reduceIte, Nat.reduceEqDiff]
    exact ⟨_, aC _ [0, 1, 5, 9], g - 1, rfl, by omega, HC, e6, hnr⟩
   ·have h : r + top < 4294967296 := by simp at h; omega
    refine W.skip ?_
    exact ⟨(g - 1).toNat, _, aC _ [0, 1, 5, 6, 7, 9, 10], by omega, g - 1, r + top, rfl, rfl, by omega, by omega, by omega, h, e5, e6⟩
  ·have h : ¬ (4294967296 ≤ g ∨ r * 4294967296 + xa < g * nx) := fun h2 => by rw [hb.2 h2] at h; cases h
   have hnr := NN.rC q1 (by omega) q5 (by omega)
   refine W.exit ?_; simp only [pX, if_true, if_false, reduceIte, Nat.reduceEqDiff]
   exact ⟨_, aC _ [0, 1, 5, 9], g, rfl, q1, by omega, q6, hnr⟩
 rintro _ ⟨g, rfl, g0, g1, hgX, hgY⟩
 clear hf hg0 TZ LF CG hgu hor
 refine W.sr ?_; simp (disch := omega) [gw]; refine W.lx [0, 1, 5, 9, 11, 12] ?_; simp
 refine W.seq ?_
 refine W.sr ?_; simp (disch := omega) [gw, LK]; refine W.lx [0, 1, 5, 9, 11, 12, 79, 80, 81] ?_; simp
 refine W.block ?_
 refine W.bE (fun q σ => ∃ (i : Nat) (c β : Int) (z : List Int) (m9 : Pm.Rows), σ = ⟨fa [(0, .own id ver off (m + 3)), (1, us y), (5, .int .i64 ((m : Int) + 2)), (9, .int .u64 g), (11, .int .u64 c), (12, .int .u64 β), (79, us y), (80, .int .i64 ((m : Int) + 2)), (81, .int .i64 i)], m9, clk⟩ ∧
  m9 id = some ⟨ver, 143, 1, emap u32 z⟩ ∧ (∀ j, j ≠ id → m9 j = rows j) ∧ q = m + 2 - i ∧ i ≤ m + 2 ∧ z.length = zl.length ∧ b9 4294967296 z ∧ z.take off = zl.take off ∧ (z.drop off).drop i = (zl.drop off).drop i ∧ 0 ≤ c ∧ c < 4294967296 ∧ (β = 0 ∨ β = 1) ∧
  V 4294967296 ((z.drop off).take i) + g * V 4294967296 (y.take i) = V 4294967296 ((zl.drop off).take i) + (c + β) * 4294967296 ^ i) (m + 2) ?_ ?_
 ·exact ⟨_, Gh.fr [(0, .own id ver off (m + 3)), (1, us y), (5, .int .i64 ((m : Int) + 2)), (9, .int .u64 g), (11, .int .u64 0), (12, .int .u64 0), (79, us y), (80, .int .i64 ((m : Int) + 2)), (81, .int .i64 (0 : Nat))] (by simp), 0, 0, 0, zl, rows, rfl, hr, fun _ _ => rfl, by omega, by omega, rfl, lz, rfl, rfl, by omega, by omega, .inl rfl, by simp [V]⟩
 rintro q _ ⟨i, c, β, z, m9, rfl, cO, hro, hq, hi, aoL, lz2, hP, hD, c0, c1, hβ, hV⟩
 refine W.sr ?_; simp (disch := omega) [gw]; refine W.lx [0, 1, 5, 9, 11, 12, 79, 80, 81, 82] ?_; simp
 refine W.seq ?_
 refine W.cond ⟨_, rfl, fun h => ?_, fun h => ?_⟩
 ·have hi : i < m + 2 := by simp at h; omega
  have hw := ly.nth (i := i) (by omega)
  have hVy := aU (b := 4294967296) (l := y) (i := i) (by omega)
  have hVx := aU (b := 4294967296) (l := zl.drop off) (i := i) (by omega)
  have hxn : nth z (off + i) = nth (zl.drop off) i := by
   rw [← eX]
   have := congrArg (fun l => nth l 0) hD
   simpa [eX] using this
  have hx := (lz.drop off).nth (i := i) (by omega)
  generalize nth (zl.drop off) i = x at *
  generalize hwe : nth y i = w at *
  obtain ⟨s1, s2, β', o0, s3, s4⟩ := YV ⟨g0, g1⟩ hw ⟨c0, c1⟩ hx hβ
  refine W.skip ?_
  refine W.seq ?_
  refine W.block ?_
  refine W.sr ?_; simp (disch := omega) [gw, LK, hwe]; refine W.lx [0, 1, 5, 9, 11, 12, 13, 14, 79, 80, 81] ?_; simp
  have hp1 : IntKind.u64.wrap (g * w) = g * w := wrap_u64 (Int.mul_nonneg g0 hw.1) (by omega)
  have hp2 : IntKind.u64.wrap (g * w + c) = g * w + c := wrap_u64 s1.1 (by omega)
  refine W.sr ?_
  simp (disch := omega) [gw, hp1, hp2]
  refine W.lx [0, 1, 5, 9, 12, 13, 15, 79, 80, 81] ?_; simp
  refine W.sr ?_; simp (disch := omega) [gw]; refine W.lx [0, 1, 5, 9, 11, 12, 13, 15, 79, 80, 81] ?_; simp
  have hp3 : IntKind.u32.wrap (g * w + c) = (g * w + c) % 4294967296 := wrap_u32'
  have hp4 : IntKind.u64.wrap (IntKind.u64.wrap (x - (g * w + c) % 4294967296) - β) = (x - (g * w + c) % 4294967296 - β) % 18446744073709551616 := by rw [iP, iP]; omega
  refine W.sr ?_
  simp (disch := omega) [gw, cO, hxn, hp3, hp4]
  refine W.lx [0, 1, 5, 9, 11, 13, 16, 79, 80, 81] ?_; simp
  have hs3 := s3
  have hs4 := s4
  generalize hss : (x - (g * w + c) % 4294967296 - β) % 18446744073709551616 = s at *
  have hp5 : IntKind.u32.wrap s = s % 4294967296 := wrap_u32'
  have hoi : off + i < z.length := by omega
  refine W.cB (fun K hK => ?_)
  simp (disch := omega) [gw, cO, hp5, s3, hoi]
  refine W.lw [0, 1, 5, 9, 11, 12, 79, 80, 81] hK ?_; clear hK K; simp
  refine W.cB (fun K hK => ?_); simp (disch := omega) [gw]
  refine hK _ ⟨m + 2 - (i + 1), _, aC _ [0, 1, 5, 9, 11, 12, 79, 80, 81], by omega, i + 1, (g * w + c) / 4294967296, β', z.set (off + i) (s % 4294967296), _, rfl, by simp, fun j hj => by simp [hj, hro j hj], by omega, by omega, by simp [aoL], lz2.set ⟨by omega, by omega⟩, by rw [gB (by omega), hP], ?_, s2.1, s2.2, o0, ?_⟩
  ·rw [kY, List.drop_set_of_lt (by omega)]
   have := congrArg (List.drop 1) hD
   rw [List.drop_drop, List.drop_drop, List.drop_drop, List.drop_drop] at this
   rw [List.drop_drop, List.drop_drop]
   exact this
  ·rw [kY, dY (by simp; omega), hVy, hVx, s4, Int.pow_succ]
   have h10 := Int.mul_ediv_add_emod (g * w + c) 4294967296
   generalize (g * w + c) / 4294967296 = pq at *
   generalize (g * w + c) % 4294967296 = pr at *
   generalize (4294967296 : Int) ^ i = bi at *
   have e7 : g * (V 4294967296 (y.take i) + bi * w) = g * V 4294967296 (y.take i) + bi * (g * w) := by grind
   rw [e7]
   have e8 : g * w = 4294967296 * pq + pr - c := by omega
   rw [e8]
   have e9 : V 4294967296 ((z.drop off).take i) = V 4294967296 ((zl.drop off).take i) + (c + β) * bi - g * V 4294967296 (y.take i) := by omega
   rw [e9]
   grind
 ·have hi : i = m + 2 := by simp at h; omega
  subst hi
  rw [List.take_of_length_le (show y.length ≤ m + 2 by omega), hYY] at hV
  have hxn : nth z (off + (m + 2)) = xc := by
   rw [← n2, ← eX]
   have := congrArg (fun l => nth l 0) hD
   simpa [eX] using this
  have hV0 := bG (b := 4294967296) (by decide) ((lz2.drop off).take (m + 2))
  have hV1 := nY (b := 4294967296) (by decide) ((lz2.drop off).take (m + 2))
  rw [List.length_take, Nat.min_eq_left (by simp; omega)] at hV1
  have hXg : X - g * Y = V 4294967296 ((z.drop off).take (m + 2)) + 4294967296 ^ (m + 2) * (xc - c - β) := by
   rw [hX]
   have : (c + β) * 4294967296 ^ (m + 2) = 4294967296 ^ (m + 2) * c + 4294967296 ^ (m + 2) * β := by grind
   rw [Int.mul_sub, Int.mul_sub]; omega
  have hoi : off + (m + 2) < z.length := by omega
  generalize hbn : (4294967296 : Int) ^ (m + 2) = bn at *
  have hp4 : IntKind.u64.wrap (IntKind.u64.wrap (xc - c) - β) = (xc - c - β) % 18446744073709551616 := by rw [iP, iP]; omega
  refine W.exit ?_; simp only [pX, if_true, if_false, reduceIte, Nat.reduceEqDiff]
  refine W.sr ?_
  simp (disch := omega) [gw, cO, a3, hxn, hp4]
  refine W.lx [0, 1, 5, 9, 17] ?_; simp
  generalize hss : (xc - c - β) % 18446744073709551616 = s at *
  have hp5 : IntKind.u32.wrap s = s % 4294967296 := wrap_u32'
  refine W.sr ?_
  simp (disch := omega) [gw, cO, a3, hp5, hoi]
  refine W.lx [0, 1, 5, 9, 17] ?_; simp
  have adL : (z.set (off + (m + 2)) (s % 4294967296)).drop off = (z.drop off).set (m + 2) (s % 4294967296) := kY _ _ _ _
  have aji : (z.set (off + (m + 2)) (s % 4294967296)).take off = zl.take off := by rw [gB (by omega), hP]
  have adM : ((z.drop off).set (m + 2) (s % 4294967296)).drop (m + 3) = (zl.drop off).drop (m + 3) := by
   rw [List.drop_set_of_lt (by omega)]
   have := congrArg (List.drop 1) hD
   rw [List.drop_drop, List.drop_drop, List.drop_drop, List.drop_drop] at this
   rw [List.drop_drop, List.drop_drop]
   exact this
  have HF : b9 4294967296 ((z.drop off).set (m + 2) (s % 4294967296)) := (lz2.drop off).set ⟨by omega, by omega⟩
  refine W.seq ?_
  rcases Int.lt_or_le (xc - c - β) 0 with ZL | kH
  ·-- one too many
   have adN : s / 9223372036854775808 = 1 := by omega
   refine W.sr ?_; simp (disch := omega) [gw, adN]; refine W.lx [0, 1, 5, 9, 129] ?_; simp
   refine W.cond ⟨_, rfl, fun h => ?_, fun h => ?_⟩
   ·cases h
   refine W.skip ?_
   have atF : bn * (xc - c - β) = - bn := by
    rcases Int.lt_or_le (xc - c - β) (-1) with h | h
    ·exfalso
     have := Int.mul_le_mul_of_nonneg_left (show xc - c - β ≤ -2 by omega) (show 0 ≤ bn by omega)
     omega
    ·have : xc - c - β = -1 := by omega
     rw [this]; omega
   have hsv : s % 4294967296 = 4294967295 := by
    rcases Int.lt_or_le (xc - c - β) (-1) with h | h
    ·exfalso
     have := Int.mul_le_mul_of_nonneg_left (show xc - c - β ≤ -2 by omega) (show 0 ≤ bn by omega)
     omega
    ·omega
   rw [atF] at hXg
   obtain ⟨ZM, hq2⟩ := NN.aoz hgY (by omega)
   have hgp : 0 ≤ g - 1 := by rw [ZM]; exact Int.ediv_nonneg hX0 (by omega)
   rw [hsv] at adL aji adM HF ⊢
   have aoO : ((z.drop off).set (m + 2) 4294967295).take (m + 2) = (z.drop off).take (m + 2) := gB (Nat.le_refl _)
   rw [← aoO] at hXg hV0 hV1
   have aoP : nth ((z.drop off).set (m + 2) 4294967295) (m + 2) = 4294967295 := dV (by simp; omega)
   generalize uU : z.set (off + (m + 2)) 4294967295 = z2 at *
   have atG : z2.length = zl.length := by rw [← uU]; simp [aoL]
   rw [← adL] at hXg hV0 hV1 aoP HF adM
   have lz3 : b9 4294967296 z2 := by rw [← uU]; exact lz2.set ⟨by omega, by omega⟩
   clear hss hp5 hp4 adN adL aoO hV hxn hD hP HF lz2
   refine W.sr ?_; simp (disch := omega) [gw]; refine W.lx [0, 1, 5, 9, 18] ?_; simp
   refine W.seq ?_
   refine W.sr ?_; simp (disch := omega) [gw, LK]; refine W.lx [0, 5, 9, 18, 132, 133, 134] ?_; simp
   refine W.block ?_
   refine W.bE (fun q σ => ∃ (i : Nat) (k : Int) (z : List Int) (m9 : Pm.Rows), σ = ⟨fa [(0, .own id ver off (m + 3)), (5, .int .i64 ((m : Int) + 2)), (9, .int .u64 g), (18, .int .u64 k), (132, us y), (133, .int .i64 ((m : Int) + 2)), (134, .int .i64 i)], m9, clk⟩ ∧
    m9 id = some ⟨ver, 143, 1, emap u32 z⟩ ∧ (∀ j, j ≠ id → m9 j = rows j) ∧ q = m + 2 - i ∧ i ≤ m + 2 ∧ z.length = zl.length ∧ b9 4294967296 z ∧ z.take off = zl.take off ∧ (z.drop off).drop i = (z2.drop off).drop i ∧ (k = 0 ∨ k = 1) ∧
    V 4294967296 ((z.drop off).take i) + k * 4294967296 ^ i = V 4294967296 ((z2.drop off).take i) + V 4294967296 (y.take i)) (m + 2) ?_ ?_
   ·exact ⟨_, Gh.fr [(0, .own id ver off (m + 3)), (5, .int .i64 ((m : Int) + 2)), (9, .int .u64 g), (18, .int .u64 0), (132, us y), (133, .int .i64 ((m : Int) + 2)), (134, .int .i64 (0 : Nat))] (by simp), 0, 0, z2, _, rfl, by simp, fun j hj => by simp [hj, hro j hj], by omega, by omega, atG, lz3, aji, rfl, .inl rfl, by simp [V]⟩
   rintro q _ ⟨i, k, z, aoQ, rfl, gD, aoR, hq, hi, atH, lz4, hP, hD, hk, hV⟩
   refine W.sr ?_; simp (disch := omega) [gw]; refine W.lx [0, 5, 9, 18, 132, 133, 134, 135] ?_; simp
   refine W.seq ?_
   refine W.cond ⟨_, rfl, fun h => ?_, fun h => ?_⟩
   ·have hi : i < m + 2 := by simp at h; omega
    have hw := ly.nth (i := i) (by omega)
    have hVy := aU (b := 4294967296) (l := y) (i := i) (by omega)
    have hVx := aU (b := 4294967296) (l := z2.drop off) (i := i) (by simp; omega)
    have hxn : nth z (off + i) = nth (z2.drop off) i := by
     rw [← eX]
     have := congrArg (fun l => nth l 0) hD
     simpa [eX] using this
    have hx := (lz3.drop off).nth (i := i) (by simp; omega)
    generalize nth (z2.drop off) i = x at *
    generalize hwe : nth y i = w at *
    refine W.skip ?_
    refine W.seq ?_
    refine W.block ?_
    refine W.sr ?_; simp (disch := omega) [gw, LK, hwe]; refine W.lx [0, 5, 9, 18, 19, 20, 132, 133, 134] ?_; simp
    refine W.sr ?_; simp (disch := omega) [gw, gD, hxn]; refine W.lx [0, 5, 9, 19, 21, 132, 133, 134] ?_; simp
    have hp6 : IntKind.u32.wrap (x + w + k) = (x + w + k) % 4294967296 := wrap_u32'
    have atI : off + i < z.length := by omega
    refine W.cB (fun K hK => ?_)
    simp (disch := omega) [gw, gD, hp6, atI]
    refine W.lw [0, 5, 9, 18, 132, 133, 134] hK ?_; clear hK K; simp
    refine W.cB (fun K hK => ?_); simp (disch := omega) [gw]
    refine hK _ ⟨m + 2 - (i + 1), _, aC _ [0, 5, 9, 18, 132, 133, 134], by omega, i + 1, (x + w + k) / 4294967296, z.set (off + i) ((x + w + k) % 4294967296), _, rfl, by simp, fun j hj => by simp [hj, aoR j hj], by omega, by omega, by simp [atH], lz4.set ⟨by omega, by omega⟩, by rw [gB (by omega), hP], ?_, by omega, ?_⟩
    ·rw [kY, List.drop_set_of_lt (by omega)]
     have := congrArg (List.drop 1) hD
     rw [List.drop_drop, List.drop_drop, List.drop_drop, List.drop_drop] at this
     rw [List.drop_drop, List.drop_drop]
     exact this
    ·rw [kY, dY (by simp; omega), hVy, hVx, Int.pow_succ]
     have h10 := Int.mul_ediv_add_emod (x + w + k) 4294967296
     generalize (x + w + k) / 4294967296 = pq at *
     generalize (x + w + k) % 4294967296 = pr at *
     generalize (4294967296 : Int) ^ i = bi at *
     have e8 : pr = x + w + k - 4294967296 * pq := by omega
     rw [e8]
     have e9 : V 4294967296 ((z.drop off).take i) = V 4294967296 ((z2.drop off).take i) + V 4294967296 (y.take i) - k * bi := by omega
     rw [e9]
     grind
   ·have hi : i = m + 2 := by simp at h; omega
    subst hi
    rw [List.take_of_length_le (show y.length ≤ m + 2 by omega), hYY, hbn] at hV
    have hxn : nth z (off + (m + 2)) = 4294967295 := by
     rw [← aoP, ← eX]
     have := congrArg (fun l => nth l 0) hD
     simpa [eX] using this
    have T3 := bG (b := 4294967296) (by decide) ((lz4.drop off).take (m + 2))
    have hV3 := nY (b := 4294967296) (by decide) ((lz4.drop off).take (m + 2))
    rw [List.length_take, Nat.min_eq_left (by simp; omega), hbn] at hV3
    have hk1 : k = 1 := by
     rcases hk with rfl | rfl
     ·exfalso; omega
     ·rfl
    subst hk1
    have atJ : off + (m + 2) < z.length := by omega
    have hwc : IntKind.u32.wrap 4294967296 = 0 := rfl
    have hwg : IntKind.u32.wrap g = g := wrap_u32 g0 g1
    refine W.exit ?_; simp only [pX, if_true, if_false, reduceIte, Nat.reduceEqDiff]
    refine W.sr ?_
    simp (disch := omega) [gw, gD, a3, hxn, atJ, hwc]
    refine W.lx [9] ?_; simp
    refine W.sr ?_; simp (disch := omega) [gw, hwg]; refine W.lx [4] ?_; simp
    refine W.ret ?_
    refine ⟨(z.drop off).set (m + 2) 0, by simp [ZM], ?_, rfl, by simp; omega, (lz4.drop off).set ⟨by omega, by omega⟩, ?_, ?_⟩
    ·have hzz : z.set (off + (m + 2)) 0 = zl.take off ++ (z.drop off).set (m + 2) 0 := by
      rw [← kY, ← hP, ← gB (l := z) (i := off + (m + 2)) (x := 0) (show off ≤ off + (m + 2) by omega), List.take_append_drop]
     rw [hzz]
     funext j
     by_cases hj : j = id
     ·subst hj; simp
     ·simp [hj, aoR j hj, dJ]
    ·rw [List.drop_set_of_lt (by omega), ← adM]
     have := congrArg (List.drop 1) hD
     rw [List.drop_drop, List.drop_drop, List.drop_drop, List.drop_drop] at this
     rw [List.drop_drop, List.drop_drop]
     exact this
    ·rw [show m + 3 = (m + 2) + 1 from rfl, dY (by simp; omega), hbn, ← hq2]
     omega
  ·have adN : s / 9223372036854775808 = 0 := by omega
   have atL : 0 ≤ X - g * Y := by
    rw [hXg]
    have := Int.mul_nonneg (show 0 ≤ bn by omega) kH
    omega
   obtain ⟨ZM, hq2⟩ := NN.right hgX atL
   refine W.sr ?_; simp (disch := omega) [gw, adN]; refine W.lx [0, 1, 5, 9, 129] ?_; simp
   refine W.cond ⟨_, rfl, fun h => ?_, fun h => ?_⟩
   ·have hwg : IntKind.u32.wrap g = g := wrap_u32 g0 g1
    refine W.sr ?_; simp (disch := omega) [gw, hwg]; refine W.lx [4] ?_; simp
    refine W.ret ?_
    refine ⟨(z.drop off).set (m + 2) (s % 4294967296), by simp [ZM], ?_, rfl, by simp; omega, HF, adM, ?_⟩
    ·have hzz : z.set (off + (m + 2)) (s % 4294967296) = zl.take off ++ (z.drop off).set (m + 2) (s % 4294967296) := by
      rw [← aji, ← adL, List.take_append_drop]
     rw [hzz]
     funext j
     by_cases hj : j = id
     ·subst hj; simp
     ·simp [hj, hro j hj, dJ]
    ·rw [show m + 3 = (m + 2) + 1 from rfl, dY (by simp; omega), hbn, ← hq2, hXg]
     have : s % 4294967296 = xc - c - β := by omega
     rw [this]
   ·cases h
abbrev RP := List (Bool × List Int)
def aF (n : Int) : List PV := [.int .i64 n]
def pe (p : RP) : List PV := [Pg p]
def me (r : List RP) : List PV := [aJ pe r]
@[simp] theorem aoT {n : Int} : aF n = [.int .i64 n] := rfl
@[simp] theorem atM {p : RP} : pe p = [Pg p] := rfl
@[simp] theorem atN {p : List RP} : me p = [aJ pe p] := rfl
@[simp] theorem agw {l : List Int} : bF 1 (emap aF l) = True := dB fun _ => rfl
@[simp] theorem al1 {l : List RP} : bF 1 (emap pe l) = True := dB fun _ => rfl
@[simp] theorem al2 {l : List (List RP)} : bF 1 (emap me l) = True := dB fun _ => rfl
@[simp] theorem adO {v e n : Nat} {l : List Int} : cW (some ⟨v, e, n, emap aF l⟩) = True := cS fun _ => rfl
@[simp] theorem ajj {v e n : Nat} {l : List RP} : cW (some ⟨v, e, n, emap pe l⟩) = True := cS fun _ => rfl
@[simp] theorem ajk {v e n : Nat} {l : List (List RP)} : cW (some ⟨v, e, n, emap me l⟩) = True := cS fun _ => rfl
@[simp] theorem atO {l : RP} {n : Bool} {m : List Int} : emap ge l ++ [[.bool n, us m]] = emap ge (l ++ [(n, m)]) := by simp [emap]
@[simp] theorem atP {l : List Int} {x : Int} : emap ie l ++ [[.bool (decide (x < 0)), us (aT LL x.natAbs)]] = emap ie (l ++ [x]) := by simp [emap]
@[simp] theorem atQ {l : List RP} {p : RP} : emap pe l ++ [[aJ ge p]] = emap pe (l ++ [p]) := by simp [emap]
@[simp] theorem atS {l : List (List RP)} {p : List RP} : emap me l ++ [[aJ pe p]] = emap me (l ++ [p]) := by simp [emap]
def kZ (p : RP) : List Int := aM (p.map gv)
theorem adP (l : List Int) (hl : l.length < 1099511627776) (hb : ∀ x ∈ l, -9223372036854775808 ≤ x ∧ x < 9223372036854775808) : aI env.P 46 [aJ aF l] (Po (aM l)) := by
 refine aB (E := env) (fun _ => 0) [(0, aJ aF l)] Tryz.func46 rfl (by kernel_rfl) (by kernel_rfl) (show 1 ≤ 24 by decide) (by simp) ?_
 refine W.sr ?_
 simp (disch := omega) [gw]
 refine W.lx [0] ?_; simp
 refine W.sr ?_
 simp (disch := omega) [gw]
 refine W.lx [0, 3] ?_; simp
 refine W.row (id := 8) (emap ie (List.replicate l.length 0)) (by simp; exact ⟨rfl, rfl, rfl⟩) (pN _) ?_
 refine W.seq ?_
 refine W.sr ?_
 simp (disch := omega) [gw]
 refine W.lx [3, 9, 10, 11] ?_; simp
 refine W.block ?_
 refine W.bE (fun k σ => ∃ (i : Nat) (z : List Int) (ver : Nat) (rows : Pm.Rows) (clk : Nat), σ = ⟨fa [(3, .own 8 ver 0 l.length), (9, aJ aF l), (10, .int .i64 l.length), (11, .int .i64 i)], rows, clk⟩ ∧
  rows 8 = some ⟨ver, 40, 2, emap ie z⟩ ∧ k = l.length - i ∧ i ≤ l.length ∧ z.length = l.length ∧ z.take i = l.take i) l.length ?_ ?_
 ·exact ⟨_, .refl, 0, List.replicate l.length 0, _, _, _, rfl, by simp, by omega, by omega, by simp, by simp⟩
 rintro k _ ⟨i, z, ver, rows, clk, rfl, hr, hk, hi, hz, hv⟩
 refine W.sr ?_
 simp (disch := omega) [gw]
 refine W.lx [3, 9, 10, 11, 12] ?_; simp
 refine W.seq ?_
 refine W.cond ⟨_, rfl, fun dI => ?_, fun dI => ?_⟩
 ·simp at dI
  refine W.skip ?_
  refine W.seq ?_
  refine W.block ?_
  refine W.sr ?_
  simp (disch := omega) [gw, hr]
  refine W.lx [3, 4, 5, 9, 10, 11] ?_; simp
  refine W.cB (fun K hK => ?_)
  simp (disch := omega) [gw, hr]
  refine aA (z0 _ (hb _ (bM dI)).1 (hb _ (bM dI)).2) ?_
  simp (disch := omega) [gw, hr]
  refine W.lw [3, 9, 10, 11] hK ?_; clear hK K; simp
  refine W.cB (fun K hK => ?_)
  simp (disch := omega) [gw]
  refine hK _ ⟨l.length - (i + 1), _, aC _ [3, 9, 10, 11], by omega, i + 1, z.set i (nth l i), ver, _, _, rfl, by simp, by omega, by omega, by simpa using hz, ?_⟩
  rw [lE hv (by omega), bA dI]
 ·simp at dI
  have eQ : i = l.length := by omega
  subst eQ
  refine W.exit ?_; simp only [pX, if_true, if_false, reduceIte, Nat.reduceEqDiff]
  rw [bH hz, bH rfl] at hv
  have uU := bH hz
  refine W.sr ?_
  simp (disch := omega) [gw, hr, uU]
  refine aA (tM z (by omega)) ?_
  simp (disch := omega) [gw]
  refine W.lx [2] ?_; simp
  refine W.ret ?_
  simp [go, hv]
abbrev DD : Nat := 10000
theorem LM : 2 ≤ DD := by decide
abbrev Dn (x : Int) : PV := aJ aF (aT DD x.toNat)
theorem sB {l : List Int} (h : b9 10000 l) : aJ aF (aM l) = Dn (V 10000 l) := by rw [pH LM h]; rfl
@[simp] theorem ark {n : Nat} : List.replicate n [PV.int .i64 0] = emap aF (List.replicate n 0) := by simp [emap]
@[simp] theorem ajl {l : List Int} {i : Nat} {x : Int} : iO (emap aF l) i 0 [.int .i64 x] = emap aF (l.set i x) := x8 (n := 1) (fun _ => rfl)
@[simp] theorem aoU {l : List Int} {x : Int} : emap aF l ++ [[.int .i64 x]] = emap aF (l ++ [x]) := by simp [emap]
theorem nB (l : List Int) (hl : l.length < 17592186044416) : aI env.P 229 [aJ aF l] (aJ aF (aM l)) := by
 refine aB (E := env) (fun _ => 0) [(0, aJ aF l)] Tryz.func229 rfl (by kernel_rfl) (by kernel_rfl) (show 1 ≤ 21 by decide) (by simp) ?_
 refine W.sr ?_; simp (disch := omega) [gw]; refine W.lx [0] ?_; simp
 refine W.sr ?_; simp (disch := omega) [gw]; refine W.lx [0, 3] ?_; simp
 refine W.seq (W.block ?_)
 refine W.bE (fun k σ => ∃ (rows : Pm.Rows) (clk : Nat), σ = ⟨fa [(0, aJ aF l), (3, .int .i64 (k : Int))], rows, clk⟩ ∧ k ≤ l.length ∧ aM l = aM (l.take k)) l.length ?_ ?_
 ·exact ⟨_, .refl, _, _, rfl, by omega, by simp⟩
 rintro k _ ⟨rows, clk, rfl, hk, hc⟩
 refine W.seq ?_
 refine W.gX (fun σ => ∃ (b : Bool), σ = ⟨fa [(0, aJ aF l), (3, .int .i64 (k : Int)), (15, .bool b)], rows, clk⟩ ∧ (b = true ↔ 0 < k ∧ nth l (k - 1) = 0)) (fun K hK => ?_) ?_
 ·simp
  by_cases h0 : 0 < k
  ·simp (disch := omega) [gw, h0]
   exact hK _ _ (aC _ [0, 3, 15]) ⟨_, rfl, by simp [h0]⟩
  ·simp (disch := omega) [gw, h0]
   exact hK _ _ (aC _ [0, 3, 15]) ⟨_, rfl, by simp [h0]⟩
 rintro _ ⟨b, rfl, hb⟩
 refine W.cond ⟨_, rfl, fun h => ?_, fun h => ?_⟩
 ·obtain ⟨h0, h1⟩ := hb.1 h
  refine W.skip (W.block ?_)
  refine W.cB (fun K hK => ?_)
  simp (disch := omega) [gw]
  refine hK _ ⟨k - 1, _, Gh.fr [(0, _), (3, .int .i64 ((k - 1 : Nat) : Int))] (by simp; omega), by omega, _, _, rfl, by omega, ?_⟩
  rw [hc, show k = (k - 1) + 1 by omega, bA (by omega), h1, iQ]
  simp
 ·have h2 : aM l = l.take k := by
   rw [hc]
   by_cases h0 : 0 < k
   ·have h1 : nth l (k - 1) ≠ 0 := fun h1 => by simp [hb.2 ⟨h0, h1⟩] at h
    rw [show k = (k - 1) + 1 by omega, bA (by omega)]
    exact jB h1 _
   ·have : k = 0 := by omega
    subst this; simp [aM]
  refine W.exit ?_
  simp only [pX, if_true, if_false, reduceIte, Nat.reduceEqDiff]
  refine W.sr ?_; simp (disch := omega) [gw]; refine W.lx [2] ?_; simp
  refine W.ret ?_
  simp [h2]
theorem NO (a : List Int) (m c0 : Int) (ha : a.length < 1099511627776) (la : b9 10000 a) (LG : 0 ≤ m) (HD : m ≤ 65536) (vC : 0 ≤ c0) (uQ : c0 ≤ 65536) :
  aI env.P 179 [aJ aF a, .int .i64 m, .int .i64 c0] (Dn (V 10000 a * m + c0)) := by
 refine aB (E := env) (fun _ => 0) [(0, aJ aF a), (1, .int .i64 m), (2, .int .i64 c0)] Tryz.func179 rfl (by kernel_rfl) (by kernel_rfl) (show 3 ≤ 44 by decide) (by simp) ?_
 refine W.sr ?_; simp (disch := omega) [gw]; refine W.lx [0, 1, 2] ?_; simp
 refine W.sr ?_; simp (disch := omega) [gw]; refine W.lx [0, 1, 2, 7] ?_; simp
 refine W.seq ?_
 refine W.sr ?_; simp (disch := omega) [gw]; refine W.lx [0, 1, 2, 7, 8] ?_; simp
 refine W.block ?_
 refine W.bE (fun k σ => ∃ (i : Nat) (c : Int) (z : List Int) (ver : Nat) (rows : Pm.Rows) (clk : Nat), σ = ⟨fa [(0, aJ aF a), (1, .int .i64 m), (2, .int .i64 c), (7, .own 12 ver 0 i), (8, .int .i64 i)], rows, clk⟩ ∧
  rows 12 = some ⟨ver, 3, 1, emap aF z⟩ ∧ k = (a.length - i) * 1000000 + c.toNat ∧ z.length = i ∧ (i ≤ a.length ∨ i + c ≤ a.length + 65536) ∧ b9 10000 z ∧ 0 ≤ c ∧ c ≤ 65536 ∧
  V 10000 z + 10000 ^ i * c = V 10000 (a.take i) * m + c0) (a.length * 1000000 + c0.toNat) ?_ ?_
 ·exact ⟨_, .refl, 0, c0, [], _, _, _, rfl, by simp [emap], by simp, rfl, by omega, b9.nil, vC, uQ, by simp [V]⟩
 rintro k _ ⟨i, c, z, ver, rows, clk, rfl, hr, hk, hz, hi, lz, h0, h1, hV⟩
 refine W.seq ?_
 refine W.gX (fun σ => ∃ (b : Bool), σ = ⟨fa [(0, aJ aF a), (1, .int .i64 m), (2, .int .i64 c), (7, .own 12 ver 0 i), (8, .int .i64 i), (20, .bool b)], rows, clk⟩ ∧ (b = true ↔ i < a.length ∨ 0 < c)) (fun K hK => ?_) ?_
 ·simp
  by_cases h2 : i < a.length
  ·simp (disch := omega) [gw, h2]
   exact hK _ _ (aC _ [0, 1, 2, 7, 8, 20]) ⟨_, rfl, by simp [h2]⟩
  ·simp (disch := omega) [gw, h2]
   exact hK _ _ (aC _ [0, 1, 2, 7, 8, 20]) ⟨_, rfl, by simp [h2]⟩
 rintro _ ⟨b, rfl, hb⟩
 refine W.cond ⟨_, rfl, fun h => ?_, fun h => ?_⟩
 ·have hb := hb.1 h
  refine W.skip ?_
  refine W.seq ?_
  refine W.block ?_
  refine W.fI (fun σ => ∃ (s : Int), σ = ⟨fa [(0, aJ aF a), (1, .int .i64 m), (2, .int .i64 s), (7, .own 12 ver 0 i), (8, .int .i64 i)], rows, clk⟩ ∧ 0 ≤ s ∧ s ≤ 655360000 ∧ (a.length ≤ i → s = c) ∧
   V 10000 z + 10000 ^ i * s = V 10000 (a.take (i + 1)) * m + c0) ?_ ?_
  ·
   refine W.sr ?_; simp (disch := omega) [gw]; refine W.lx [0, 1, 2, 7, 8, 26] ?_; simp
   refine W.cond ⟨_, rfl, fun h => ?_, fun h => ?_⟩
   ·simp at h
    have hn := la.nth h
    have h2 : 0 ≤ nth a i * m := Int.mul_nonneg hn.1 LG
    have h3 : nth a i * m ≤ 9999 * 65536 := Int.mul_le_mul (by omega) HD LG (by omega)
    refine W.cB (fun K hK => ?_); simp (disch := omega) [gw]
    refine hK _ ⟨_, aC _ [0, 1, 2, 7, 8], _, rfl, by omega, by omega, by omega, ?_⟩
    rw [aU h, Int.mul_add, Int.add_mul]
    grind
   ·simp at h
    refine W.skip ?_
    refine ⟨_, aC _ [0, 1, 2, 7, 8], _, rfl, by omega, by omega, fun _ => rfl, ?_⟩
    rw [aY (by omega)]
    rw [aY (by omega)] at hV
    exact hV
  rintro _ ⟨s, rfl, T1, rD, hsc, hsV⟩
  refine W.sr ?_; simp (disch := omega) [gw, hr, hz]
  refine W.lx [0, 1, 2, 7, 8] ?_; simp
  refine W.cB (fun K hK => ?_); simp (disch := omega) [gw]; refine W.lw [0, 1, 2, 7, 8] hK ?_; clear hK K; simp
  refine W.cB (fun K hK => ?_); simp (disch := omega) [gw]
  refine hK _ ⟨(a.length - (i + 1)) * 1000000 + (s / 10000).toNat, _, aC _ [0, 1, 2, 7, 8], by omega, i + 1, s / 10000, z ++ [s % 10000], _, _, _, rfl, by simp, rfl, by simp [hz], by omega, b9.append.2 ⟨lz, b9.cons.2 ⟨by omega, b9.nil⟩⟩, by omega, by omega, ?_⟩
  rw [dK, l5, hz, ← hsV, Int.pow_succ]
  have := Int.emod_add_mul_ediv s 10000
  grind
 ·have hb : ¬ (i < a.length ∨ 0 < c) := fun h2 => by simp [hb.2 h2] at h
  have hc : c = 0 := by omega
  subst hc
  refine W.exit ?_; simp only [pX, if_true, if_false, reduceIte, Nat.reduceEqDiff]
  have ez : z.take i = z := bH hz
  refine W.sr ?_
  simp (disch := omega) [gw, hr, hz, ez]
  refine aA (nB z (by omega)) ?_
  simp (disch := omega) [gw]
  refine W.lx [6] ?_; simp
  refine W.ret ?_
  rw [aY (by omega)] at hV
  have e : V 10000 z = V 10000 a * m + c0 := by simpa using hV
  rw [← e, ← sB lz]
  simp
abbrev Z (x : Int) : Prop := sz 2 x < 1099511627776
theorem QO {b : Nat} (hb : 2 ≤ b) (x : Int) : sz b x ≤ sz 2 x := by
 refine cT hb (Nat.lt_of_lt_of_le (lC (b := 2) (by decide) x) ?_)
 exact Nat.pow_le_pow_left hb _
theorem ajn (y : Int) : (aT DD y.natAbs).length ≤ sz 2 y := QO LM y
theorem jE {y : Int} (h : 0 ≤ y) : (aT DD y.toNat).length ≤ sz 2 y := by
 have := ajn y
 rwa [show y.natAbs = y.toNat by omega] at this
theorem tP {y : Int} (h : 0 ≤ y) : V 10000 (aT DD y.toNat) = y := by
 have := jK LM y.toNat
 simp only [show ((DD : Nat) : Int) = 10000 from rfl] at this
 rw [this]; omega
theorem aoV (y : Int) : V 10000 (aT DD y.natAbs) = y.natAbs := by
 have := jK LM y.natAbs
 simpa only [show ((DD : Nat) : Int) = 10000 from rfl] using this
theorem kK (n : Nat) : b9 10000 (aT DD n) := eT LM n
theorem ZN {l : List Int} (h : b9 4294967296 l) : sz 2 (V 4294967296 l) ≤ 32 * l.length := by
 refine cT (by decide) ?_
 have h1 := nY (b := (4294967296 : Int)) (by decide) h
 have h2 := bG (b := (4294967296 : Int)) (by decide) h
 have h3 : ((4294967296 : Int) ^ l.length) = ((2 ^ (32 * l.length) : Nat) : Int) := by rw [Nat.pow_mul]; simp
 rw [h3] at h1
 omega
theorem j9 (y m c : Int) (hy : 0 ≤ y) (hz : Z y) (LG : 0 ≤ m) (HD : m ≤ 65536) (vC : 0 ≤ c) (uQ : c ≤ 65536) : aI env.P 179 [Dn y, .int .i64 m, .int .i64 c] (Dn (y * m + c)) := by
 have := NO (aT DD y.toNat) m c (by have := jE hy; omega) (kK _) LG HD vC uQ
 rwa [tP hy] at this
theorem T9 (l : List Int) (hl : l.length ≤ 17179869184) (hm : b9 4294967296 l) : aI env.P 100 [us l] (Dn (V 4294967296 l)) := by
 refine aB (E := env) (fun _ => 0) [(0, us l)] Tryz.func100 rfl (by kernel_rfl) (by kernel_rfl) (show 1 ≤ 29 by decide) (by simp) ?_
 refine W.sr ?_; simp (disch := omega) [gw]; refine W.lx [0] ?_; simp
 refine W.sr ?_; simp (disch := omega) [gw]; refine W.lx [0, 3] ?_; simp
 refine W.TW 3 (Dn 0) (by simp) rfl (fun K hK => ?_)
 refine W.lw [0, 3] hK ?_; clear hK K; simp
 refine W.seq ?_
 refine W.sr ?_; simp (disch := omega) [gw]; refine W.lx [0, 3, 4] ?_; simp
 refine W.block ?_
 refine W.bE (fun k σ => ∃ (rows : Pm.Rows) (clk : Nat), σ = ⟨fa [(0, us l), (3, Dn (V 4294967296 (l.drop k))), (4, .int .i64 ((k : Int) - 1))], rows, clk⟩ ∧ k ≤ l.length) l.length ?_ ?_
 ·exact ⟨_, Gh.fr [(0, us l), (3, Dn (V 4294967296 (l.drop l.length))), (4, .int .i64 ((l.length : Int) - 1))] (by simp [V]), _, _, rfl, by omega⟩
 rintro k _ ⟨rows, clk, rfl, hk⟩
 have h0 := bG (b := 4294967296) (by decide) (hm.drop k)
 have hs : sz 2 (V 4294967296 (l.drop k)) ≤ 32 * (l.length - k) := by have := ZN (hm.drop k); simpa using this
 refine W.seq ?_
 refine W.sr ?_; simp (disch := omega) [gw]; refine W.lx [0, 3, 4, 9] ?_; simp
 refine W.cond ⟨_, rfl, fun h => ?_, fun h => ?_⟩
 ·simp at h
  have hx := hm.nth (i := k - 1) (by omega)
  have hd : V 4294967296 (l.drop (k - 1)) = nth l (k - 1) + 4294967296 * V 4294967296 (l.drop k) := by
   rw [dX (i := k - 1) (by omega), show k - 1 + 1 = k by omega]; rfl
  refine W.skip ?_
  refine W.seq ?_
  refine W.block ?_
  refine W.sr ?_
  have hk1 : ((k : Int) - 1).toNat = k - 1 := by omega
  simp (disch := omega) [gw, hk1]
  refine aA (j9 _ 65536 _ h0 (by omega) (by decide) (by decide) (by omega) (by omega)) ?_
  simp (disch := omega) [gw]
  refine W.lx [0, 3, 4] ?_; simp
  have h1 : 0 ≤ V 4294967296 (l.drop k) * 65536 + nth l (k - 1) / 65536 := by omega
  have h2 : sz 2 (V 4294967296 (l.drop k) * 65536 + nth l (k - 1) / 65536) ≤ 32 * l.length := by
   have h3 := ZN (hm.drop (k - 1))
   refine Nat.le_trans (cG (by decide) (y := V 4294967296 (l.drop (k - 1))) (by omega)) ?_
   simp at h3; omega
  refine W.cB (fun K hK => ?_)
  simp (disch := omega) [gw, hk1]
  refine aA (j9 _ 65536 _ h1 (by omega) (by decide) (by decide) (by omega) (by omega)) ?_
  simp (disch := omega) [gw]
  refine W.lw [0, 3, 4] hK ?_; clear hK K; simp
  refine W.cB (fun K hK => ?_); simp (disch := omega) [gw]
  refine hK _ ⟨k - 1, _, Gh.fr [(0, us l), (3, Dn (V 4294967296 (l.drop (k - 1)))), (4, .int .i64 (((k - 1 : Nat) : Int) - 1))] ?_, by omega, _, _, rfl, by omega⟩
  have e : (V 4294967296 (l.drop k) * 65536 + nth l (k - 1) / 65536) * 65536 + nth l (k - 1) % 65536 = V 4294967296 (l.drop (k - 1)) := by omega
  simp [e]; omega
 ·simp at h
  have uV : k = 0 := by omega
  subst uV
  refine W.exit ?_; simp only [pX, if_true, if_false, reduceIte, Nat.reduceEqDiff]
  refine W.sr ?_; simp (disch := omega) [gw]; refine W.lx [2] ?_; simp
  refine W.ret ?_
  simp
abbrev RI (x : Int) : PV := .ag [aJ aF (aT DD x.natAbs), .bool (decide (x < 0))]
theorem nC (y : Int) (hy : 0 ≤ y) (neg : Bool) : aI env.P 99 [Dn y, .bool neg] (RI (if neg = true then -y else y)) := by
 refine aB (E := env) (fun _ => 0) [(0, Dn y), (1, .bool neg)] Tryz.func99 rfl (by kernel_rfl) (by kernel_rfl) (show 2 ≤ 13 by decide) (by simp) ?_
 refine W.sr ?_; simp (disch := omega) [gw]; refine W.lx [0, 1, 4] ?_; simp
 have e0 : (aT DD y.toNat = []) ↔ y = 0 := by rw [dO LM]; omega
 have e : RI (if neg = true then -y else y) = .ag [Dn y, .bool (neg && decide (0 < (aT DD y.toNat).length))] := by
  have h1 : 0 < (aT DD y.toNat).length ↔ y ≠ 0 := by
   rw [List.length_pos_iff]; simp [e0]
  have e2 : (if neg = true then -y else y).natAbs = y.toNat := by split <;> omega
  have e3 : (decide ((if neg = true then -y else y) < 0)) = (neg && decide (0 < (aT DD y.toNat).length)) := by
   cases neg
   ·simp only [Bool.false_and, Bool.false_eq_true, if_false, decide_eq_false_iff_not]; omega
   ·simp only [Bool.true_and, if_true, h1]; congr 1; apply propext; omega
  rw [RI, e2, e3]
 rw [e]
 refine W.dH (fun K hK => ?_)
 cases neg
 ·simp (disch := omega) [gw]
  refine W.lw [4] hK ?_; clear hK K; simp
  refine W.ret ?_
  simp [go]
 ·simp (disch := omega) [gw]
  refine W.lw [4] hK ?_; clear hK K; simp
  refine W.ret ?_
  simp [go]
theorem DM (n : Bool) (l : List Int) (hl : l.length ≤ 17179869184) (hm : b9 4294967296 l) : aI env.P 34 [IV n l] (RI (iv n l)) := by
 refine aB (E := env) (fun _ => 0) [(0, IV n l)] Tryz.func34 rfl (by kernel_rfl) (by kernel_rfl) (show 1 ≤ 9 by decide) (by simp) ?_
 refine W.sr ?_; simp (disch := omega) [gw]; refine W.lx [1, 2] ?_; simp
 refine W.sd ?_
 simp (disch := omega) [gw]
 refine aA (T9 l hl hm) ?_
 simp (disch := omega) [gw]
 refine aA (nC _ (bG (by decide) hm) n) ?_
 simp (disch := omega) [gw]
 refine W.lx [2] ?_; simp
 refine W.ret ?_
 simp [go, iv]
theorem ZO (n : Nat) (hn : n < 1099511627776) : aI env.P 170 [.int .i64 n] (Dn (2 ^ n)) := by
 refine aB (E := env) (fun _ => 0) [(0, .int .i64 n)] Tryz.func170 rfl (by kernel_rfl) (by kernel_rfl) (show 1 ≤ 14 by decide) (by simp) ?_
 refine W.sr ?_; simp (disch := omega) [gw]; refine W.lx [0] ?_; simp
 refine W.sr ?_; simp (disch := omega) [gw]; refine W.lx [0, 3] ?_; simp
 refine W.asW 3 [[.int .i64 1]] (Dn 1) (by simp) rfl (fun K hK => ?_)
 refine W.lw [0, 3] hK ?_; clear hK K; simp
 refine W.seq ?_
 refine W.sr ?_; simp (disch := omega) [gw]; refine W.lx [0, 3, 4] ?_; simp
 refine W.block ?_
 refine W.bE (fun k σ => ∃ (i : Nat) (rows : Pm.Rows) (clk : Nat), σ = ⟨fa [(0, .int .i64 n), (3, Dn (2 ^ i)), (4, .int .i64 i)], rows, clk⟩ ∧ k = n - i ∧ i ≤ n) n ?_ ?_
 ·exact ⟨_, .refl, 0, _, _, rfl, by omega, by omega⟩
 rintro k _ ⟨i, rows, clk, rfl, hk, hi⟩
 refine W.seq ?_
 refine W.sr ?_; simp (disch := omega) [gw]; refine W.lx [0, 3, 4, 8] ?_; simp
 refine W.cond ⟨_, rfl, fun h => ?_, fun h => ?_⟩
 ·simp at h
  have hs : sz 2 (2 ^ i) ≤ i + 1 := by
   refine cT (by decide) ?_
   rw [show ((2 : Int) ^ i) = ((2 ^ i : Nat) : Int) by simp, Int.natAbs_natCast, Nat.pow_succ]
   have := Nat.pow_pos (n := i) (show 0 < 2 by decide)
   omega
  refine W.skip ?_
  refine W.seq ?_
  refine W.block ?_
  refine W.cB (fun K hK => ?_)
  simp (disch := omega) [gw]
  refine aA (j9 (2 ^ i) 2 0 (Int.le_of_lt (Int.pow_pos (by decide))) (by omega) (by decide) (by decide) (by decide) (by decide)) ?_
  simp (disch := omega) [gw]
  refine W.lw [0, 3, 4] hK ?_; clear hK K; simp
  refine W.cB (fun K hK => ?_); simp (disch := omega) [gw]
  refine hK _ ⟨n - (i + 1), _, Gh.fr [(0, .int .i64 n), (3, Dn (2 ^ (i + 1))), (4, .int .i64 ((i + 1 : Nat) : Int))] ?_, by omega, i + 1, _, _, rfl, rfl, by omega⟩
  simp [Int.pow_succ]
 ·simp at h
  have : i = n := by omega
  subst this
  refine W.exit ?_; simp only [pX, if_true, if_false, reduceIte, Nat.reduceEqDiff]
  refine W.sr ?_; simp (disch := omega) [gw]; refine W.lx [2] ?_; simp
  refine W.ret ?_
  simp
theorem n6 (n : Int) (h1 : -9223372036854775808 ≤ n) (h2 : n < 9223372036854775808) : aI env.P 92 [.int .i64 n] (RI n) := by
 refine aB (E := env) (fun _ => 0) [(0, .int .i64 n)] Tryz.func92 rfl (by kernel_rfl) (by kernel_rfl) (show 1 ≤ 26 by decide) (by simp) ?_
 refine W.sr ?_; simp (disch := omega) [gw]; refine W.lx [0, 2] ?_; simp
 refine W.seq ?_
 refine W.sr ?_; simp (disch := omega) [gw]; refine W.lx [0, 2, 6] ?_; simp
 refine W.cond ⟨_, rfl, fun h => ?_, fun h => ?_⟩
 ·simp at h
  subst h
  refine W.sr ?_
  simp (disch := omega) [gw]
  refine aA (ZO 63 (by decide)) ?_
  simp (disch := omega) [gw]
  have hp := nC 9223372036854775808 (by decide) true
  simp at hp
  refine aA hp ?_
  simp (disch := omega) [gw]
  refine W.lx [2] ?_; simp
  refine W.ret ?_
  simp [go]
 ·simp at h
  refine W.skip ?_
  refine W.sr ?_; simp (disch := omega) [gw]; refine W.lx [0, 2, 3] ?_; simp
  refine W.fI (fun σ => ∃ (rows : Pm.Rows) (clk : Nat), σ = ⟨fa [(0, .int .i64 n.natAbs), (2, .ptr 2 0 0 0), (3, .bool (decide (n < 0)))], rows, clk⟩ ∧ rows 2 = some ⟨0, 48, 2, [[.nil, .bool false]]⟩) ?_ ?_
  ·
   refine W.sr ?_; simp (disch := omega) [gw]; refine W.lx [0, 2, 3, 11] ?_; simp
   refine W.cond ⟨_, rfl, fun h => ?_, fun h => ?_⟩
   ·simp at h
    refine W.cB (fun K hK => ?_); simp (disch := omega) [gw]
    refine hK _ ⟨_, Gh.fr [(0, .int .i64 n.natAbs), (2, .ptr 2 0 0 0), (3, .bool (decide (n < 0)))] (by simp; omega), _, _, rfl, by simp⟩
   ·simp at h
    refine W.skip ?_
    refine ⟨_, Gh.fr [(0, .int .i64 n.natAbs), (2, .ptr 2 0 0 0), (3, .bool (decide (n < 0)))] (by simp; omega), _, _, rfl, by simp⟩
  rintro _ ⟨rows, clk, rfl, cO⟩
  refine W.sr ?_; simp (disch := omega) [gw]; refine W.lx [0, 2, 3, 4] ?_; simp
  refine W.nil 4 4 3 1 (by simp) (by decide) (fun K hK => ?_)
  refine W.lw [0, 2, 3, 4] hK ?_; clear hK K; simp
  refine W.seq ?_
  refine W.block ?_
  refine W.bE (fun k σ => ∃ (z : List Int) (i ver : Nat) (rows : Pm.Rows) (clk : Nat), σ = ⟨fa [(0, .int .i64 k), (2, .ptr 2 0 0 0), (3, .bool (decide (n < 0))), (4, .own 4 ver 0 i)], rows, clk⟩ ∧ rows 2 = some ⟨0, 48, 2, [[.nil, .bool false]]⟩ ∧
   rows 4 = some ⟨ver, 3, 1, emap aF z⟩ ∧ z.length = i ∧ k * 2 ^ i ≤ 9223372036854775808 ∧ b9 10000 z ∧ V 10000 z + 10000 ^ i * k = n.natAbs ∧ aT DD n.natAbs = z ++ aT DD k) n.natAbs ?_ ?_
  ·exact ⟨_, .refl, [], 0, _, _, _, rfl, by simp [cO], by simp [emap], rfl, by simp; omega, b9.nil, by simp [V], by simp⟩
  rintro k _ ⟨z, i, ver, rows, clk, rfl, cO, hr, hz, LN, lz, hV, hd⟩
  refine W.seq ?_
  refine W.sr ?_; simp (disch := omega) [gw]; refine W.lx [0, 2, 3, 4, 15] ?_; simp
  refine W.cond ⟨_, rfl, fun h => ?_, fun h => ?_⟩
  ·simp at h
   have ayr : i ≤ 63 := by
    have h3 : 1 * 2 ^ i ≤ k * 2 ^ i := Nat.mul_le_mul_right _ (by omega)
    have h4 : 2 ^ i ≤ 2 ^ 63 := by omega
    exact (Nat.pow_le_pow_iff_right (by decide)).1 h4
   have ays : k ≤ 9223372036854775808 := Nat.le_trans (by have := Nat.mul_le_mul_left k (Nat.pow_pos (n := i) (show 0 < 2 by decide)); omega) LN
   refine W.skip ?_
   refine W.block ?_
   refine W.sr ?_; simp (disch := omega) [gw, hr, hz]
   refine W.lx [0, 2, 3, 4] ?_; simp
   refine W.cB (fun K hK => ?_); simp (disch := omega) [gw]
   refine hK _ ⟨k / 10000, _, Gh.fr [(0, .int .i64 ((k / 10000 : Nat) : Int)), (2, .ptr 2 0 0 0), (3, .bool (decide (n < 0))), (4, .own 4 _ 0 (i + 1))] (by simp; rfl), by omega, z ++ [((k % 10000 : Nat) : Int)], i + 1, _, _, _, rfl, by simp [cO], by simp, by simp [hz], ?_, b9.append.2 ⟨lz, b9.cons.2 ⟨by omega, b9.nil⟩⟩, ?_, ?_⟩
   ·rw [Nat.pow_succ]
    have h3 : k / 10000 * (2 ^ i * 2) = k / 10000 * 2 * 2 ^ i := by rw [Nat.mul_comm (2 ^ i), Nat.mul_assoc]
    rw [h3]
    exact Nat.le_trans (Nat.mul_le_mul_right _ (by omega)) LN
   ·rw [dK, l5, hz, ← hV, Int.pow_succ]
    have : (k : Int) = (k % 10000 : Nat) + 10000 * (k / 10000 : Nat) := by omega
    grind
   ·rw [hd, pG LM (by omega)]; simp
  ·simp at h
   have uV : k = 0 := by omega
   subst uV
   have e : z = aT DD n.natAbs := by rw [hd]; simp [j8]
   refine W.exit ?_; simp only [pX, if_true, if_false, reduceIte, Nat.reduceEqDiff]
   refine W.sr ?_
   have ez : z.take i = aT DD n.natAbs := by rw [bH hz, e]
   simp (disch := omega) [gw, hr, hz, ez]
   refine aA (nC n.natAbs (by omega) (decide (n < 0))) ?_
   simp (disch := omega) [gw, cO]
   refine W.lx [2] ?_; simp
   refine W.ret ?_
   have e2 : (if n < 0 then -(n.natAbs : Int) else n.natAbs) = n := by split <;> omega
   rw [e2]
   simp [go]
end Go.Proofs.YtbbjgncblhfegaaGreat
