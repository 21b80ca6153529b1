import Derived.KernelRfl
import Derived.Test.YtbbjgncblhfegaaGreatAad
import Derived.Test.YtbbjgncblhfegaaGreatAae
import Derived.Test.YtbbjgncblhfegaaGreatAaf
set_option linter.unusedSimpArgs false
set_option linter.unusedVariables false
namespace Go.Proofs.YtbbjgncblhfegaaGreat
open Go Pm
def u32 (n : Int) : List PV := [.int .u32 n]
@[simp] theorem aq6 {n : Int} : u32 n = [.int .u32 n] := rfl
theorem adC : Enc u32 1 := fun _ => rfl
theorem YZ : amU u32 := fun _ => rfl
@[simp] theorem ajc {l : List Int} : bB 1 (emap u32 l) = True := cZ adC
@[simp] theorem agt {v e n : Nat} {l : List Int} : cQ (some ⟨v, e, n, emap u32 l⟩) = True := cM YZ
@[simp] theorem aq7 {n : Nat} : List.replicate n [PV.int .u32 0] = emap u32 (List.replicate n 0) := by simp [emap]
@[simp] theorem alP {l : List Int} {i : Nat} {x : Int} : gN (emap u32 l) i 0 [.int .u32 x] = emap u32 (l.set i x) := by
 simp only [gN, emap, List.map_set]
 by_cases h : i < l.length
 ·simp [h]
 ·rw [List.set_eq_of_length_le (by simp; omega), List.set_eq_of_length_le (by simp; omega)]
@[simp] theorem aoF {α : Type} {g : α → List PV} {l : List α} : (emap g l).length = l.length := by simp [emap]
abbrev us (l : List Int) : PV := aJ u32 l
abbrev LL : Nat := 4294967296
abbrev N (x : Int) : PV := us (aQ LL x.toNat)
theorem fS : 2 ≤ LL := by decide
theorem tH {l : List Int} (h : b6 4294967296 l) : us (aM l) = N (V 4294967296 l) := by rw [pK fS h]; rfl
theorem cR (l : List Int) (hl : l.length < 17592186044416) : aI env.P 232 [us l] (us (aM l)) := by
 refine aB (E := env) (fun _ => 0) [(0, us l)] Tryz.func232 rfl (by kernel_rfl) (by kernel_rfl) (show 1 ≤ 21 by decide) (by simp) ?_
 refine W.sr ?_
 simp (disch := omega) [gw]
 refine W.lx [0] ?_; simp
 refine W.sr ?_
 simp (disch := omega) [gw]
 refine W.lx [0, 3] ?_; simp
 refine W.seq (W.block ?_)
 refine W.a9 (fun k σ => ∃ (rows : Pm.Rows) (clk : Nat), σ = ⟨fa [(0, us l), (3, .int .i64 (k : Int))], rows, clk⟩ ∧ k ≤ l.length ∧ aM l = aM (l.take k)) l.length ?_ ?_
 ·exact ⟨_, .refl, _, _, rfl, by omega, by simp⟩
 rintro k _ ⟨rows, clk, rfl, hk, hc⟩
 refine W.seq ?_
 refine W.gY (fun σ => ∃ (b : Bool), σ = ⟨fa [(0, us l), (3, .int .i64 (k : Int)), (15, .bool b)], rows, clk⟩ ∧ (b = true ↔ 0 < k ∧ nth l (k - 1) = 0)) (fun K hK => ?_) ?_
 ·simp
  by_cases h0 : 0 < k
  ·simp (disch := omega) [gw, h0]
   exact hK _ _ (aC _ [0, 3, 15]) ⟨_, rfl, by simp [h0]⟩
  ·simp (disch := omega) [gw, h0]
   exact hK _ _ (aC _ [0, 3, 15]) ⟨_, rfl, by simp [h0]⟩
 rintro _ ⟨b, rfl, hb⟩
 refine W.cond ⟨_, rfl, fun h => ?_, fun h => ?_⟩
 ·obtain ⟨h0, h1⟩ := hb.1 h
  refine W.skip (W.block ?_)
  refine W.b8 (fun K hK => ?_)
  simp (disch := omega) [gw]
  refine hK _ ⟨k - 1, _, Gh.fr [(0, _), (3, .int .i64 ((k - 1 : Nat) : Int))] (by simp; omega), by omega, _, _, rfl, by omega, ?_⟩
  rw [hc, show k = (k - 1) + 1 by omega, a8 (by omega), h1, iP]
  simp
 ·have h2 : aM l = l.take k := by
   rw [hc]
   by_cases h0 : 0 < k
   ·have h1 : nth l (k - 1) ≠ 0 := fun h1 => by simp [hb.2 ⟨h0, h1⟩] at h
    rw [show k = (k - 1) + 1 by omega, a8 (by omega)]
    exact fP h1 _
   ·have : k = 0 := by omega
    subst this; simp [aM]
  refine W.exit ?_
  simp only [pX, if_true, if_false, reduceIte, Nat.reduceEqDiff]
  refine W.sr ?_
  simp (disch := omega) [gw]
  refine W.lx [2] ?_; simp
  refine W.ret ?_
  simp [h2]
theorem lI (l : List Int) (hl : l.length < 1099511627776) (hm : b6 4294967296 l) : aI env.P 193 [us l] (N (V 4294967296 l)) := by
 rw [← tH hm]
 refine aB (E := env) (fun _ => 0) [(0, us l)] Tryz.func193 rfl (by kernel_rfl) (by kernel_rfl) (show 1 ≤ 6 by decide) (by simp) ?_
 refine W.sr ?_
 simp (disch := omega) [gw]
 refine W.lx [0] ?_; simp
 refine W.sr ?_
 simp
 refine aA (cR l (by omega)) ?_
 have := bM l
 simp (disch := omega) [gw]
 refine W.lx [2] ?_; simp
 refine W.ret ?_
 simp
theorem QE (a b : List Int) (ha : a.length < 1099511627776) (hb : b.length < 1099511627776) (la : b6 4294967296 a) (lb : b6 4294967296 b) : aI env.P 187 [us a, us b] (N (V 4294967296 a + V 4294967296 b)) := by
 refine aB (E := env) (fun _ => 0) [(0, us a), (1, us b)] Tryz.func187 rfl (by kernel_rfl) (by kernel_rfl) (show 2 ≤ 63 by decide) (by simp) ?_
 refine W.sr ?_
 simp (disch := omega) [gw]
 refine W.lx [0, 1] ?_; simp
 refine W.sr ?_
 simp
 refine aA (cR a (by omega)) ?_
 simp
 refine aA (cR b (by omega)) ?_
 simp
 refine W.lx [0, 1] ?_; simp
 refine W.fX (fun σ => ∃ (x y : List Int) (rows : Pm.Rows) (clk : Nat), σ = ⟨fa [(0, us x), (1, us y)], rows, clk⟩ ∧ b6 4294967296 x ∧ b6 4294967296 y ∧ y.length ≤ x.length ∧ x.length < 1099511627776 ∧
  V 4294967296 a + V 4294967296 b = V 4294967296 x + V 4294967296 y) ?_ ?_
 ·have h1 := bM a
  have h2 := bM b
  refine W.sr ?_
  simp (disch := omega) [gw]
  refine W.lx [0, 1, 18] ?_; simp
  refine W.cond ⟨_, rfl, fun h => ?_, fun h => ?_⟩
  ·simp at h
   refine W.b8 (fun K hK => ?_)
   simp (disch := omega) [gw]
   exact hK _ ⟨_, aC _ [0, 1], _, _, _, _, rfl, dG lb, dG la, by omega, by omega, by simp [cA]; omega⟩
  ·simp at h
   refine W.skip ?_
   exact ⟨_, aC _ [0, 1], _, _, _, _, rfl, dG la, dG lb, by omega, by omega, by simp [cA]⟩
 rintro _ ⟨x, y, rows, clk, rfl, lx, ly, uQ, hx, hV⟩
 rw [hV]
 clear hV la lb ha hb a b
 refine W.sr ?_
 simp (disch := omega) [gw]
 refine W.lx [0, 1, 5] ?_; simp
 refine W.sr ?_
 simp (disch := omega) [gw]
 refine W.lx [0, 1, 5, 6] ?_; simp
 refine W.seq ?_
 refine W.sr ?_
 simp (disch := omega) [gw]
 refine W.lx [0, 1, 5, 6, 25, 26, 27] ?_; simp
 refine W.block ?_
 refine W.a9 (fun k σ => ∃ (i : Nat) (c : Int) (z : List Int) (ver : Nat) (rows : Pm.Rows) (clk : Nat), σ = ⟨fa [(0, us x), (1, us y), (5, .own 24 ver 0 (x.length + 1)), (6, .int .u64 c), (25, us x), (26, .int .i64 x.length), (27, .int .i64 i)], rows, clk⟩ ∧
   rows 24 = some ⟨ver, 143, 1, emap u32 z⟩ ∧ k = x.length - i ∧ i ≤ x.length ∧ z.length = x.length + 1 ∧ b6 4294967296 z ∧ 0 ≤ c ∧ c ≤ 1 ∧
   V 4294967296 (z.take i) + 4294967296 ^ i * c = V 4294967296 (x.take i) + V 4294967296 (y.take i)) x.length ?_ ?_
 ·exact ⟨_, .refl, 0, 0, List.replicate (x.length + 1) 0, _, _, _, rfl, by simp, by omega, by omega, by simp, b6.rep (by decide) _, by omega, by omega, by simp [V]⟩
 rintro k _ ⟨i, c, z, ver, rows, clk, rfl, hr, hk, hi, hz, lz, tI, uM, hV⟩
 refine W.sr ?_
 simp (disch := omega) [gw]
 refine W.lx [0, 1, 5, 6, 25, 26, 27, 28] ?_; simp
 refine W.seq ?_
 refine W.cond ⟨_, rfl, fun h => ?_, fun h => ?_⟩
 ·simp at h
  have hxi := lx.nth h
  refine W.skip ?_
  refine W.seq ?_
  refine W.block ?_
  refine W.sr ?_
  simp (disch := omega) [gw]
  refine W.lx [0, 1, 5, 6, 7, 8, 25, 26, 27] ?_; simp
  refine W.sr ?_
  simp (disch := omega) [gw]
  refine W.lx [0, 1, 5, 7, 9, 25, 26, 27] ?_; simp
  refine W.fX (fun σ => ∃ (s : Int), σ = ⟨fa [(0, us x), (1, us y), (5, .own 24 ver 0 (x.length + 1)), (7, .int .i64 i), (9, .int .u64 s), (25, us x), (26, .int .i64 x.length), (27, .int .i64 i)], rows, clk⟩ ∧ 0 ≤ s ∧ s < 8589934592 ∧
   V 4294967296 (x.take (i + 1)) + V 4294967296 (y.take (i + 1)) = V 4294967296 (z.take i) + 4294967296 ^ i * s) ?_ ?_
  ·
   refine W.sr ?_
   simp (disch := omega) [gw]
   refine W.lx [0, 1, 5, 7, 9, 25, 26, 27, 39] ?_; simp
   refine W.cond ⟨_, rfl, fun h => ?_, fun h => ?_⟩
   ·simp at h
    have SZ := ly.nth h
    refine W.b8 (fun K hK => ?_)
    simp (disch := omega) [gw]
    refine hK _ ⟨_, aC _ [0, 1, 5, 7, 9, 25, 26, 27], _, rfl, by omega, by omega, ?_⟩
    rw [aT (by omega), aT (by omega)]
    grind
   ·simp at h
    refine W.skip ?_
    refine ⟨_, aC _ [0, 1, 5, 7, 9, 25, 26, 27], _, rfl, by omega, by omega, ?_⟩
    rw [aT (by omega), aX (l := y) (by omega)]
    rw [aX (l := y) (by omega)] at hV
    grind
  rintro _ ⟨s, rfl, TZ, qO, T0⟩
  refine W.b8 (fun K hK => ?_)
  simp (disch := omega) [gw, hr, wrap_u32']
  refine W.lw [0, 1, 5, 6, 25, 26, 27] hK ?_; clear hK K; simp
  refine W.b8 (fun K hK => ?_)
  simp (disch := omega) [gw]
  refine hK _ ⟨x.length - (i + 1), _, aC _ [0, 1, 5, 6, 25, 26, 27], by omega, i + 1, s / 4294967296, z.set i (s % 4294967296), ver, _, _, rfl, by simp, by omega, by omega, by simpa using hz, lz.set (by omega), by omega, by omega, ?_⟩
  rw [dW (by omega), T0, Int.pow_succ]
  have := Int.emod_add_mul_ediv s 4294967296
  grind
 ·simp at h
  have kY : i = x.length := by omega
  subst kY
  refine W.exit ?_; simp only [pX, if_true, if_false, reduceIte, Nat.reduceEqDiff]
  refine W.sr ?_
  simp (disch := omega) [gw, hr]
  refine W.lx [5] ?_; simp
  have uT : List.take (x.length + 1) (z.set x.length c) = z.set x.length c := List.take_of_length_le (by simp; omega)
  refine W.sr ?_
  simp (disch := omega) [gw, uT]
  refine aA (cR (z.set x.length c) (by simp; omega)) ?_
  simp (disch := omega) [gw]
  refine W.lx [4] ?_; simp
  refine W.ret ?_
  have e : V 4294967296 (z.set x.length c) = V 4294967296 x + V 4294967296 y := by
   rw [← aX (l := z.set x.length c) (i := x.length + 1) (by simp; omega), dW (by omega), hV, aX (l := y) (by omega)]
   simp
  rw [← e, tH (lz.set (by omega))]
  simp
theorem FD (a b : List Int) (ha : a.length < 1099511627776) (hb : b.length < 1099511627776) (la : b6 4294967296 a) (lb : b6 4294967296 b) : aI env.P 200 [us a, us b] (.int .i64 (dC (V 4294967296 a) (V 4294967296 b))) := by
 refine aB (E := env) (fun _ => 0) [(0, us a), (1, us b)] Tryz.func200 rfl (by kernel_rfl) (by kernel_rfl) (show 2 ≤ 45 by decide) (by simp) ?_
 refine W.sr ?_
 simp (disch := omega) [gw]
 refine W.lx [0, 1] ?_; simp
 refine W.sr ?_
 simp
 refine aA (cR a (by omega)) ?_
 simp
 refine aA (cR b (by omega)) ?_
 simp
 refine W.lx [0, 1] ?_; simp
 have cx := dI a; have lx := dG la; have hx := bM a
 have cy := dI b; have ly := dG lb; have hy := bM b
 rw [← cA a, ← cA b]
 generalize aM a = x at *
 generalize aM b = y at *
 refine W.seq ?_
 refine W.sr ?_
 simp (disch := omega) [gw]
 refine W.lx [0, 1, 14] ?_; simp
 refine W.cond ⟨_, rfl, fun h => ?_, fun h => ?_⟩
 ·simp at h
  refine W.seq ?_
  refine W.sr ?_
  simp (disch := omega) [gw]
  refine W.lx [19] ?_; simp
  refine W.cond ⟨_, rfl, fun h => ?_, fun h => ?_⟩
  ·simp at h
   refine W.sr ?_
   simp (disch := omega) [gw]
   refine W.lx [4] ?_; simp
   refine W.ret ?_
   simp [l7 (iQ (by decide) lx ly cy h)]
  ·simp at h
   refine W.skip ?_
   refine W.sr ?_
   simp (disch := omega) [gw]
   refine W.lx [4] ?_; simp
   refine W.ret ?_
   simp [l8 (iQ (by decide) ly lx cx (by omega))]
 ·simp at h
  have hlen : x.length = y.length := by omega
  clear h
  refine W.skip ?_
  refine W.seq ?_
  refine W.sr ?_
  simp (disch := omega) [gw]
  refine W.lx [0, 1, 5] ?_; simp
  refine W.block ?_
  refine W.a9 (fun k σ => ∃ (rows : Pm.Rows) (clk : Nat), σ = ⟨fa [(0, us x), (1, us y), (5, .int .i64 ((k : Int) - 1))], rows, clk⟩ ∧ k ≤ x.length ∧ x.drop k = y.drop k) x.length ?_ ?_
  ·exact ⟨_, .refl, _, _, rfl, by omega, by rw [List.drop_of_length_le (by omega), List.drop_of_length_le (by omega)]⟩
  rintro k _ ⟨rows, clk, rfl, hk, hd⟩
  refine W.seq ?_
  refine W.sr ?_
  simp (disch := omega) [gw]
  refine W.lx [0, 1, 5, 24] ?_; simp
  refine W.cond ⟨_, rfl, fun h => ?_, fun h => ?_⟩
  ·have h0 : 0 < k := by simp at h; omega
   obtain ⟨j, rfl⟩ : ∃ j, k = j + 1 := ⟨k - 1, by omega⟩
   clear h
   refine W.skip ?_
   refine W.seq ?_
   refine W.block ?_
   refine W.seq ?_
   refine W.sd ?_
   simp (disch := omega) [gw]
   refine W.lx [0, 1, 5, 35] ?_; simp
   refine W.cond ⟨_, rfl, fun h => ?_, fun h => ?_⟩
   ·simp at h
    refine W.sr ?_
    simp (disch := omega) [gw]
    refine W.lx [4] ?_; simp
    refine W.ret ?_
    simp [l7 (l6 (by decide) lx ly hlen (by omega) hd h)]
   ·simp at h
    refine W.skip ?_
    refine W.sd ?_
    simp (disch := omega) [gw]
    refine W.lx [0, 1, 5, 44] ?_; simp
    refine W.cond ⟨_, rfl, fun h2 => ?_, fun h2 => ?_⟩
    ·simp at h2
     refine W.sr ?_
     simp (disch := omega) [gw]
     refine W.lx [4] ?_; simp
     refine W.ret ?_
     simp [l8 (l6 (by decide) ly lx hlen.symm (by omega) hd.symm h2)]
    ·simp at h2
     refine W.skip ?_
     refine W.b8 (fun K hK => ?_)
     simp (disch := omega) [gw]
     refine hK _ ⟨j, _, aC _ [0, 1, 5], by omega, _, _, rfl, by omega, ?_⟩
     rw [dV (l := x) (i := j) (by omega), dV (l := y) (i := j) (by omega), hd, show nth x j = nth y j by omega]
  ·have h0 : k = 0 := by simp at h; omega
   subst h0
   simp at hd
   subst hd
   refine W.exit ?_; simp only [pX, if_true, if_false, reduceIte, Nat.reduceEqDiff]
   refine W.sr ?_
   simp (disch := omega) [gw]
   refine W.lx [4] ?_; simp
   refine W.ret ?_
   simp [xJ]
def M7 (x y : Int) : PV := if x < y then .eP [us [], .bool false] else .eP [N (x - y), .bool true]
theorem FE (a b : List Int) (ha : a.length < 1099511627776) (hb : b.length < 1099511627776) (la : b6 4294967296 a) (lb : b6 4294967296 b) : aI env.P 188 [us a, us b] (M7 (V 4294967296 a) (V 4294967296 b)) := by
 refine aB (E := env) (fun _ => 0) [(0, us a), (1, us b)] Tryz.func188 rfl (by kernel_rfl) (by kernel_rfl) (show 2 ≤ 54 by decide) (by simp) ?_
 refine W.sr ?_
 simp (disch := omega) [gw]
 refine W.lx [0, 1] ?_; simp
 refine W.sr ?_
 simp
 refine aA (cR a (by omega)) ?_
 simp
 refine aA (cR b (by omega)) ?_
 simp
 refine W.lx [0, 1] ?_; simp
 have cx := dI a; have lx := dG la; have hx := bM a
 have cy := dI b; have ly := dG lb; have hy := bM b
 rw [← cA a, ← cA b]
 generalize aM a = x at *
 generalize aM b = y at *
 refine W.seq ?_
 refine W.sr ?_
 simp
 refine aA (FD x y (by omega) (by omega) lx ly) ?_
 simp (disch := omega) [gw]
 refine W.lx [0, 1, 18] ?_; simp
 refine W.cond ⟨_, rfl, fun h => ?_, fun h => ?_⟩
 ·have h : V 4294967296 x < V 4294967296 y := m7.1 (by simpa using h)
  refine W.sr ?_
  simp (disch := omega) [gw]
  refine W.lx [4, 5] ?_; simp
  refine W.ret ?_
  simp [M7, h]
  rfl
 ·have h : V 4294967296 y ≤ V 4294967296 x := pL.1 (by simpa using h)
  have hyx : y.length ≤ x.length := by
   rcases Nat.lt_or_ge x.length y.length with h2 | h2
   ·have := iQ (by decide) lx ly cy h2; omega
   ·exact h2
  refine W.skip ?_
  refine W.sr ?_
  simp (disch := omega) [gw]
  refine W.lx [0, 1, 6] ?_; simp
  refine W.sr ?_
  simp (disch := omega) [gw]
  refine W.lx [0, 1, 6, 7] ?_; simp
  refine W.seq ?_
  refine W.sr ?_
  simp (disch := omega) [gw]
  refine W.lx [1, 6, 7, 22, 23, 24] ?_; simp
  refine W.block ?_
  refine W.a9 (fun k σ => ∃ (i : Nat) (c : Int) (z : List Int) (ver : Nat) (rows : Pm.Rows) (clk : Nat), σ = ⟨fa [(1, us y), (6, .own 21 ver 0 x.length), (7, .int .u64 c), (22, us x), (23, .int .i64 x.length), (24, .int .i64 i)], rows, clk⟩ ∧
   rows 21 = some ⟨ver, 143, 1, emap u32 z⟩ ∧ k = x.length - i ∧ i ≤ x.length ∧ z.length = x.length ∧ b6 4294967296 z ∧ 0 ≤ c ∧ c ≤ 1 ∧
   V 4294967296 (z.take i) - 4294967296 ^ i * c = V 4294967296 (x.take i) - V 4294967296 (y.take i)) x.length ?_ ?_
  ·exact ⟨_, .refl, 0, 0, List.replicate x.length 0, _, _, _, rfl, by simp, by omega, by omega, by simp, b6.rep (by decide) _, by omega, by omega, by simp [V]⟩
  rintro k _ ⟨i, c, z, ver, rows, clk, rfl, hr, hk, hi, hz, lz, tI, uM, hV⟩
  refine W.sr ?_
  simp (disch := omega) [gw]
  refine W.lx [1, 6, 7, 22, 23, 24, 25] ?_; simp
  refine W.seq ?_
  refine W.cond ⟨_, rfl, fun h => ?_, fun h => ?_⟩
  ·simp at h
   have hxi := lx.nth h
   refine W.skip ?_
   refine W.seq ?_
   refine W.block ?_
   refine W.sr ?_
   simp (disch := omega) [gw]
   refine W.lx [1, 6, 7, 8, 9, 22, 23, 24] ?_; simp
   refine W.sr ?_
   simp (disch := omega) [gA, wrap_u64 hxi.1]
   refine W.lx [1, 6, 8, 10, 22, 23, 24] ?_; simp
   refine W.fX (fun σ => ∃ (d : Int), σ = ⟨fa [(1, us y), (6, .own 21 ver 0 x.length), (8, .int .i64 i), (10, .int .u64 (IntKind.u64.wrap d)), (22, us x), (23, .int .i64 x.length), (24, .int .i64 i)], rows, clk⟩ ∧ -4294967296 ≤ d ∧ d < 4294967296 ∧
    V 4294967296 (x.take (i + 1)) - V 4294967296 (y.take (i + 1)) = V 4294967296 (z.take i) + 4294967296 ^ i * d) ?_ ?_
   ·
    refine W.sr ?_
    simp (disch := omega) [gw]
    refine W.lx [1, 6, 8, 10, 22, 23, 24, 36] ?_; simp
    refine W.cond ⟨_, rfl, fun h => ?_, fun h => ?_⟩
    ·simp at h
     have SZ := ly.nth h
     refine W.b8 (fun K hK => ?_)
     simp (disch := omega) [gA, wrap_u64 SZ.1]
     refine hK _ ⟨_, aC _ [1, 6, 8, 10, 22, 23, 24], nth x i - c - nth y i, ?_, by omega, by omega, ?_⟩
     ·have : IntKind.u64.wrap (IntKind.u64.wrap (nth x i - c) - nth y i) = IntKind.u64.wrap (nth x i - c - nth y i) := by
       simp only [iO]; omega
      simp [this]
     rw [aT (by omega), aT (by omega)]
     grind
    ·simp at h
     refine W.skip ?_
     refine ⟨_, aC _ [1, 6, 8, 10, 22, 23, 24], _, rfl, by omega, by omega, ?_⟩
     rw [aT (by omega), aX (l := y) (by omega)]
     rw [aX (l := y) (by omega)] at hV
     grind
   rintro _ ⟨d, rfl, TZ, qO, T0⟩
   refine W.b8 (fun K hK => ?_)
   simp (disch := omega) [gw, hr, wrap_u32']
   refine W.lw [1, 6, 7, 22, 23, 24] hK ?_; clear hK K; simp
   refine W.b8 (fun K hK => ?_)
   simp (disch := omega) [gw]
   have e1 : d = IntKind.u64.wrap d % 4294967296 - 4294967296 * (IntKind.u64.wrap d / 9223372036854775808) ∧ 0 ≤ IntKind.u64.wrap d / 9223372036854775808 ∧ IntKind.u64.wrap d / 9223372036854775808 ≤ 1 := by
    rw [iO]; omega
   generalize IntKind.u64.wrap d = s at *
   refine hK _ ⟨x.length - (i + 1), _, aC _ [1, 6, 7, 22, 23, 24], by omega, i + 1, s / 9223372036854775808, z.set i (s % 4294967296), ver, _, _, rfl, by simp, by omega, by omega, by simpa using hz, lz.set (by omega), by omega, by omega, ?_⟩
   rw [dW (by omega), T0, Int.pow_succ]
   grind
  ·simp at h
   have kY : i = x.length := by omega
   subst kY
   refine W.exit ?_; simp only [pX, if_true, if_false, reduceIte, Nat.reduceEqDiff]
   have uT : z.take x.length = z := List.take_of_length_le (by omega)
   have e : V 4294967296 z = V 4294967296 x - V 4294967296 y := by
    rw [uT, aX (Nat.le_refl _), aX (l := y) (by omega)] at hV
    have h1 := nV (by decide) lz
    rw [hz] at h1
    have : c = 0 := by
     rcases Int.lt_or_le c 1 with h2 | h2
     ·omega
     ·have h3 : c = 1 := by omega
      subst h3; omega
    subst this; omega
   refine W.sr ?_
   simp (disch := omega) [gw, hr, uT]
   refine aA (cR z (by omega)) ?_
   simp (disch := omega) [gw]
   refine W.lx [4, 5] ?_; simp
   refine W.ret ?_
   rw [M7, if_neg (by omega), ← e, ← tH lz]
   simp
theorem adD {a b : Int} (ha : 0 ≤ a ∧ a < 4294967296) (hb : 0 ≤ b ∧ b < 4294967296) : 0 ≤ a * b ∧ a * b ≤ 18446744065119617025 := by
 refine ⟨Int.mul_nonneg ha.1 hb.1, ?_⟩
 have := Int.mul_le_mul (show a ≤ 4294967295 by omega) (show b ≤ 4294967295 by omega) hb.1 (by decide)
 simpa using this
theorem adE (a b : List Int) (ha : a.length < 1099511627776) (hb : b.length < 1099511627776) (la : b6 4294967296 a) (lb : b6 4294967296 b) : aI env.P 189 [us a, us b] (N (V 4294967296 a * V 4294967296 b)) := by
 refine aB (E := env) (fun _ => 0) [(0, us a), (1, us b)] Tryz.func189 rfl (by kernel_rfl) (by kernel_rfl) (show 2 ≤ 75 by decide) (by simp) ?_
 refine W.sr ?_
 simp (disch := omega) [gw]
 refine W.lx [0, 1] ?_; simp
 refine W.sr ?_
 simp
 refine aA (cR a (by omega)) ?_
 simp
 refine aA (cR b (by omega)) ?_
 simp
 refine W.lx [0, 1] ?_; simp
 have lx := dG la; have hx := bM a
 have ly := dG lb; have hy := bM b
 rw [← cA a, ← cA b]
 generalize aM a = x at *
 generalize aM b = y at *
 refine W.sr ?_
 simp (disch := omega) [gw]
 refine W.lx [0, 1, 5] ?_; simp
 refine W.seq ?_
 refine W.sr ?_
 simp (disch := omega) [gw]
 refine W.lx [1, 5, 22, 23, 24] ?_; simp
 refine W.block ?_
 refine W.a9 (fun k σ => ∃ (i : Nat) (z : List Int) (ver : Nat) (rows : Pm.Rows) (clk : Nat), σ = ⟨fa [(1, us y), (5, .own 21 ver 0 (x.length + y.length)), (22, us x), (23, .int .i64 x.length), (24, .int .i64 i)], rows, clk⟩ ∧
   rows 21 = some ⟨ver, 143, 1, emap u32 z⟩ ∧ k = x.length - i ∧ i ≤ x.length ∧ z.length = x.length + y.length ∧ b6 4294967296 z ∧ (∀ j, i + y.length ≤ j → nth z j = 0) ∧
   V 4294967296 z = V 4294967296 (x.take i) * V 4294967296 y) x.length ?_ ?_
 ·have e : ((x.length : Int) + (y.length : Int)).toNat = x.length + y.length := by omega
  refine ⟨_, .refl, 0, List.replicate (x.length + y.length) 0, _, _, _, rfl, by simp [e], by omega, by omega, by simp, b6.rep (by decide) _, fun j _ => ?_, by simp [V, oN]⟩
  unfold nth
  cases h : (List.replicate (x.length + y.length) (0 : Int))[j]? with
  | none => rfl
  | some v => have := List.mem_of_getElem? h; simp at this; simp [this]
 rintro k _ ⟨i, z, ver, rows, clk, rfl, hr, hk, hi, hz, lz, rA, hV⟩
 refine W.sr ?_
 simp (disch := omega) [gw]
 refine W.lx [1, 5, 22, 23, 24, 25] ?_; simp
 refine W.seq ?_
 refine W.cond ⟨_, rfl, fun h => ?_, fun h => ?_⟩
 ·simp at h
  have hxi := lx.nth h
  refine W.skip ?_
  refine W.eM (fun σ => ∃ (z : List Int) (ver : Nat) (rows : Pm.Rows) (clk : Nat), σ = ⟨fa [(1, us y), (5, .own 21 ver 0 (x.length + y.length)), (22, us x), (23, .int .i64 x.length), (24, .int .i64 i)], rows, clk⟩ ∧
   rows 21 = some ⟨ver, 143, 1, emap u32 z⟩ ∧ z.length = x.length + y.length ∧ b6 4294967296 z ∧ (∀ j, i + 1 + y.length ≤ j → nth z j = 0) ∧
   V 4294967296 z = V 4294967296 (x.take (i + 1)) * V 4294967296 y) ?_ ?_
  ·
   refine W.sr ?_
   simp (disch := omega) [gw]
   refine W.lx [1, 5, 6, 7, 22, 23, 24] ?_; simp
   refine W.sr ?_
   simp (disch := omega) [gw]
   refine W.lx [1, 5, 6, 7, 8, 22, 23, 24] ?_; simp
   refine W.seq ?_
   refine W.sr ?_
   simp (disch := omega) [gw]
   refine W.lx [1, 5, 6, 7, 8, 22, 23, 24, 29, 30, 31] ?_; simp
   refine W.block ?_
   refine W.a9 (fun m σ => ∃ (k : Nat) (c : Int) (z : List Int) (ver : Nat) (rows : Pm.Rows) (clk : Nat), σ = ⟨fa [(1, us y), (5, .own 21 ver 0 (x.length + y.length)), (6, .int .i64 i), (7, .int .u32 (nth x i)), (8, .int .u64 c), (22, us x), (23, .int .i64 x.length), (24, .int .i64 i), (29, us y), (30, .int .i64 y.length), (31, .int .i64 k)], rows, clk⟩ ∧
    rows 21 = some ⟨ver, 143, 1, emap u32 z⟩ ∧ m = y.length - k ∧ k ≤ y.length ∧ z.length = x.length + y.length ∧ b6 4294967296 z ∧ (∀ j, i + y.length ≤ j → nth z j = 0) ∧ 0 ≤ c ∧ c < 4294967296 ∧
    V 4294967296 z + 4294967296 ^ (i + k) * c = V 4294967296 (x.take i) * V 4294967296 y + 4294967296 ^ i * nth x i * V 4294967296 (y.take k)) y.length ?_ ?_
   ·exact ⟨_, .refl, 0, 0, z, ver, _, _, rfl, by simpa using hr, by omega, by omega, hz, lz, rA, by omega, by omega, by simp [V, hV]⟩
   clear hV rA lz hz hr z ver rows clk
   rintro m _ ⟨k, c, z, ver, rows, clk, rfl, hr, hm, hky, hz, lz, rA, tI, uM, hV⟩
   refine W.sr ?_
   simp (disch := omega) [gw]
   refine W.lx [1, 5, 6, 7, 8, 22, 23, 24, 29, 30, 31, 32] ?_; simp
   refine W.seq ?_
   refine W.cond ⟨_, rfl, fun h2 => ?_, fun h2 => ?_⟩
   ·simp at h2
    have hyk := ly.nth h2
    have hzk := lz.nth (i := i + k) (by omega)
    have hp := adD hxi hyk
    refine W.skip ?_
    refine W.seq ?_
    refine W.block ?_
    refine W.sr ?_
    simp (disch := omega) [gw]
    refine W.lx [1, 5, 6, 7, 8, 9, 10, 22, 23, 24, 29, 30, 31] ?_; simp
    have e0 : ((i : Int) + (k : Int)).toNat = i + k := by omega
    refine W.sr ?_
    simp (disch := omega) [gw, hr, e0]
    refine W.lx [1, 5, 6, 7, 9, 11, 22, 23, 24, 29, 30, 31] ?_; simp
    refine W.b8 (fun K hK => ?_)
    simp (disch := omega) [gw, hr, e0, wrap_u32']
    refine W.lw [1, 5, 6, 7, 8, 22, 23, 24, 29, 30, 31] hK ?_; clear hK K; simp
    refine W.b8 (fun K hK => ?_)
    simp (disch := omega) [gw]
    have e1 := Int.emod_add_mul_ediv (nth x i * nth y k + nth z (i + k) + c) 4294967296
    have hs : 0 ≤ nth x i * nth y k + nth z (i + k) + c ∧ nth x i * nth y k + nth z (i + k) + c < 18446744073709551616 := by omega
    have T0 := C2 (b := 4294967296) (l := z) (i := i + k) (x := (nth x i * nth y k + nth z (i + k) + c) % 4294967296) (by omega)
    refine hK _ ⟨y.length - (k + 1), _, aC _ [1, 5, 6, 7, 8, 22, 23, 24, 29, 30, 31], by omega, k + 1, _, z.set (i + k) ((nth x i * nth y k + nth z (i + k) + c) % 4294967296), ver, _, _, rfl, by simp, by omega, by omega, by simpa using hz, lz.set (by omega), fun j hj => ?_, by omega, by omega, ?_⟩
    ·rw [fF (by omega)]; exact rA j hj
    ·rw [T0, aT h2, show i + (k + 1) = (i + k) + 1 by omega, Int.pow_succ, Int.pow_add]
     rw [Int.pow_add] at hV
     grind
   ·simp at h2
    have vS : k = y.length := by omega
    subst vS
    refine W.exit ?_; simp only [pX, if_true, if_false, reduceIte, Nat.reduceEqDiff]
    refine W.sr ?_
    simp (disch := omega) [gw]
    refine W.lx [1, 5, 6, 8, 22, 23, 24, 63] ?_; simp
    refine W.cond ⟨_, rfl, fun h3 => ?_, fun h3 => ?_⟩
    ·simp at h3
     have e0 : ((i : Int) + (y.length : Int)).toNat = i + y.length := by omega
     refine W.b8 (fun K hK => ?_)
     simp (disch := omega) [gw, hr, e0]
     have T0 := C2 (b := 4294967296) (l := z) (i := i + y.length) (x := c) (by omega)
     refine hK _ ⟨_, aC _ [1, 5, 22, 23, 24], z.set (i + y.length) c, ver, _, _, rfl, by simp, by simpa using hz, lz.set (by omega), fun j hj => ?_, ?_⟩
     ·rw [fF (by omega)]; exact rA j (by omega)
     ·rw [T0, aT h, rA _ (Nat.le_refl _)]
      rw [aX (Nat.le_refl _)] at hV
      grind
    ·simp at h3
     refine W.skip ?_
     refine ⟨_, aC _ [1, 5, 22, 23, 24], z, ver, _, _, rfl, hr, hz, lz, fun j hj => rA j (by omega), ?_⟩
     subst h3
     simp only [V, List.take_nil, Int.mul_zero, Int.add_zero, List.length_nil] at hV ⊢
     have h4 := bF (by decide) lz
     have h5 : 0 ≤ (4294967296 : Int) ^ i * c := Int.mul_nonneg (Int.le_of_lt (Int.pow_pos (by decide))) tI
     simp only [Nat.add_zero] at hV
     omega
  clear hV rA lz hz hr z ver rows clk
  rintro _ ⟨z, ver, rows, clk, rfl, hr, hz, lz, rA, hV⟩
  refine W.b8 (fun K hK => ?_)
  simp (disch := omega) [gw]
  exact hK _ ⟨x.length - (i + 1), _, aC _ [1, 5, 22, 23, 24], by omega, i + 1, z, ver, _, _, rfl, hr, by omega, by omega, hz, lz, rA, hV⟩
 ·simp at h
  have kY : i = x.length := by omega
  subst kY
  have uT : List.take (x.length + y.length) z = z := List.take_of_length_le (by omega)
  refine W.exit ?_; simp only [pX, if_true, if_false, reduceIte, Nat.reduceEqDiff]
  refine W.sr ?_
  simp (disch := omega) [gw, hr, uT]
  refine aA (cR z (by omega)) ?_
  simp (disch := omega) [gw]
  refine W.lx [4] ?_; simp
  refine W.ret ?_
  rw [aX (Nat.le_refl _)] at hV
  rw [← hV, ← tH lz]
  simp
abbrev IV (neg : Bool) (l : List Int) : PV := .ag [.bool neg, us l]
def iv (neg : Bool) (l : List Int) : Int := if neg = true then - V 4294967296 l else V 4294967296 l
abbrev I (x : Int) : PV := IV (decide (x < 0)) (aQ LL x.natAbs)
structure qP (l : List Int) : Prop where
 wJ : b6 4294967296 l
 len : l.length < 1099511627776
theorem eW (y : Int) (hy : 0 ≤ y) (neg : Bool) : aI env.P 186 [N y, .bool neg] (I (if neg = true then -y else y)) := by
 refine aB (E := env) (fun _ => 0) [(0, N y), (1, .bool neg)] Tryz.func186 rfl (by kernel_rfl) (by kernel_rfl) (show 2 ≤ 13 by decide) (by simp) ?_
 refine W.sr ?_
 simp (disch := omega) [gw]
 refine W.lx [0, 1, 4] ?_; simp
 have e0 : (aQ LL y.toNat = []) ↔ y = 0 := by rw [dK fS]; omega
 have e : I (if neg = true then -y else y) = .ag [.bool (neg && decide (0 < (aQ LL y.toNat).length)), N y] := by
  have h1 : 0 < (aQ LL y.toNat).length ↔ y ≠ 0 := by
   rw [List.length_pos_iff]; simp [e0]
  have e2 : (if neg = true then -y else y).natAbs = y.toNat := by split <;> omega
  have e3 : (decide ((if neg = true then -y else y) < 0)) = (neg && decide (0 < (aQ LL y.toNat).length)) := by
   cases neg
   ·simp only [Bool.false_and, Bool.false_eq_true, if_false, decide_eq_false_iff_not]; omega
   ·simp only [Bool.true_and, if_true, h1]; congr 1; apply propext; omega
  rw [I, e2, e3]
 rw [e]
 refine W.dB (fun K hK => ?_)
 cases neg
 ·simp (disch := omega) [gw]
  refine W.lw [4] hK ?_; clear hK K; simp
  refine W.ret ?_
  simp [go]
 ·simp (disch := omega) [gw]
  refine W.lw [4] hK ?_; clear hK K; simp
  refine W.ret ?_
  simp [go]
theorem oP {l : List Int} (h : qP l) : 0 ≤ V 4294967296 l := bF (by decide) h.wJ
theorem C5 (n : Bool) (l : List Int) (h : qP l) : aI env.P 180 [IV n l] (I (iv n l)) := by
 refine aB (E := env) (fun _ => 0) [(0, IV n l)] Tryz.func180 rfl (by kernel_rfl) (by kernel_rfl) (show 1 ≤ 9 by decide) (by simp) ?_
 refine W.sr ?_
 simp (disch := omega) [gw]
 refine W.lx [1, 2] ?_; simp
 refine W.sd ?_
 simp (disch := omega) [gw]
 refine aA (lI l h.len h.wJ) ?_
 simp (disch := omega) [gw]
 refine aA (eW _ (oP h) n) ?_
 simp (disch := omega) [gw]
 refine W.lx [2] ?_; simp
 refine W.ret ?_
 simp [go, iv]
theorem zF (n : Bool) (l : List Int) (h : qP l) : aI env.P 142 [IV n l] (I (- iv n l)) := by
 refine aB (E := env) (fun _ => 0) [(0, IV n l)] Tryz.func142 rfl (by kernel_rfl) (by kernel_rfl) (show 1 ≤ 10 by decide) (by simp) ?_
 have e : - iv n l = if (!n) = true then - V 4294967296 l else V 4294967296 l := by cases n <;> simp [iv]
 rw [e]
 refine W.sr ?_
 simp (disch := omega) [gw]
 refine W.lx [1, 2] ?_; simp
 refine W.sd ?_
 simp (disch := omega) [gw]
 refine aA (lI l h.len h.wJ) ?_
 simp (disch := omega) [gw]
 refine aA (eW _ (oP h) (!n)) ?_
 simp (disch := omega) [gw]
 refine W.lx [2] ?_; simp
 refine W.ret ?_
 simp [go]
theorem IK (n m : Bool) (l k : List Int) (h : qP l) (h' : qP k) : aI env.P 109 [IV n l, IV m k] (I (iv n l * iv m k)) := by
 refine aB (E := env) (fun _ => 0) [(0, IV n l), (1, IV m k)] Tryz.func109 rfl (by kernel_rfl) (by kernel_rfl) (show 2 ≤ 16 by decide) (by simp) ?_
 have e : iv n l * iv m k = if (n != m) = true then - (V 4294967296 l * V 4294967296 k) else V 4294967296 l * V 4294967296 k := by cases n <;> cases m <;> simp [iv, Int.neg_mul, Int.mul_neg]
 rw [e]
 refine W.sr ?_
 simp (disch := omega) [gw]
 refine W.lx [2, 3, 4] ?_; simp
 refine W.sd ?_
 simp (disch := omega) [gw]
 refine aA (adE l k h.len h'.len h.wJ h'.wJ) ?_
 simp (disch := omega) [gw]
 refine aA (eW _ (Int.mul_nonneg (oP h) (oP h')) (n != m)) ?_
 simp (disch := omega) [gw]
 refine W.lx [4] ?_; simp
 refine W.ret ?_
 simp [go]
theorem zG (n m : Bool) (l k : List Int) (h : qP l) (h' : qP k) : aI env.P 108 [IV n l, IV m k] (I (iv n l + iv m k)) := by
 refine aB (E := env) (fun _ => 0) [(0, IV n l), (1, IV m k)] Tryz.func108 rfl (by kernel_rfl) (by kernel_rfl) (show 2 ≤ 47 by decide) (by simp) ?_
 have p1 := oP h
 have p2 := oP h'
 refine W.sr ?_
 simp (disch := omega) [gw]
 refine W.lx [2, 3, 4] ?_; simp
 refine W.seq ?_
 refine W.sr ?_
 simp (disch := omega) [gw]
 refine W.lx [2, 3, 4, 13] ?_; simp
 refine W.cond ⟨_, rfl, fun hb => ?_, fun hb => ?_⟩
 ·have hb : n = m := by simpa using hb
  subst hb
  have e : iv n l + iv n k = if n = true then - (V 4294967296 l + V 4294967296 k) else V 4294967296 l + V 4294967296 k := by cases n <;> simp [iv]; omega
  rw [e]
  refine W.sd ?_
  simp (disch := omega) [gw]
  refine aA (QE l k h.len h'.len h.wJ h'.wJ) ?_
  simp (disch := omega) [gw]
  refine aA (eW _ (by omega) n) ?_
  simp (disch := omega) [gw]
  refine W.lx [4] ?_; simp
  refine W.ret ?_
  simp [go]
 ·have hb : m = !n := by cases n <;> cases m <;> simp_all
  subst hb
  refine W.skip ?_
  refine W.seq ?_
  refine W.dB (fun K hK => ?_)
  simp (disch := omega) [gw]
  refine aA (FE l k h.len h'.len h.wJ h'.wJ) ?_
  by_cases eZ : V 4294967296 l < V 4294967296 k
  ·simp (disch := omega) [gw, M7, eZ]
   refine W.lw [2, 3, 4, 5, 6] hK ?_; clear hK K; simp
   refine W.sr ?_
   simp (disch := omega) [gw]
   refine W.lx [2, 3, 4, 5, 30] ?_; simp
   refine W.cond ⟨_, rfl, fun hb => ?_, fun hb => ?_⟩
   ·cases hb
   ·refine W.skip ?_
    refine W.sr ?_
    simp (disch := omega) [gw]
    refine aA (FE k l h'.len h.len h'.wJ h.wJ) ?_
    rw [M7, if_neg (by omega)]
    simp (disch := omega) [gw]
    refine W.lx [3, 4, 7] ?_; simp
    refine W.dB (fun K hK => ?_)
    simp (disch := omega) [gw]
    refine aA (eW _ (by omega) (!n)) ?_
    simp (disch := omega) [gw]
    refine W.lw [4] hK ?_; clear hK K; simp
    refine W.ret ?_
    have e : iv n l + iv (!n) k = if (!n) = true then - (V 4294967296 k - V 4294967296 l) else V 4294967296 k - V 4294967296 l := by cases n <;> simp [iv] <;> omega
    rw [e]
    simp [go]
  ·simp (disch := omega) [gw, M7, eZ]
   refine W.lw [2, 3, 4, 5, 6] hK ?_; clear hK K; simp
   refine W.sr ?_
   simp (disch := omega) [gw]
   refine W.lx [2, 3, 4, 5, 30] ?_; simp
   refine W.cond ⟨_, rfl, fun hb => ?_, fun hb => ?_⟩
   ·refine W.sr ?_
    simp (disch := omega) [gw]
    refine aA (eW _ (by omega) n) ?_
    simp (disch := omega) [gw]
    refine W.lx [4] ?_; simp
    refine W.ret ?_
    have e : iv n l + iv (!n) k = if n = true then - (V 4294967296 l - V 4294967296 k) else V 4294967296 l - V 4294967296 k := by cases n <;> simp [iv] <;> omega
    rw [e]
    simp [go]
   ·cases hb
theorem Y1 (n m : Bool) (l k : List Int) (h : qP l) (h' : qP k) : aI env.P 250 [IV n l, IV m k] (I (iv n l - iv m k)) := by
 refine aB (E := env) (fun _ => 0) [(0, IV n l), (1, IV m k)] Tryz.func250 rfl (by kernel_rfl) (by kernel_rfl) (show 2 ≤ 12 by decide) (by simp) ?_
 have e : iv n l - iv m k = iv n l + iv (!m) k := by cases m <;> simp [iv] <;> omega
 rw [e]
 refine W.sr ?_
 simp (disch := omega) [gw]
 refine W.lx [2, 3, 4] ?_; simp
 refine W.sr ?_
 simp (disch := omega) [gw]
 refine W.lx [2, 3, 4] ?_; simp
 refine W.sr ?_
 simp (disch := omega) [gw]
 refine aA (zG n (!m) l k h h') ?_
 simp (disch := omega) [gw]
 refine W.lx [4] ?_; simp
 refine W.ret ?_
 simp [go]
theorem zH (n : Int) (h1 : -9223372036854775808 ≤ n) (h2 : n < 9223372036854775808) : aI env.P 119 [.int .i64 n] (I n) := by
 refine aB (E := env) (fun _ => 0) [(0, .int .i64 n)] Tryz.func119 rfl (by kernel_rfl) (by kernel_rfl) (show 1 ≤ 20 by decide) (by simp) ?_
 refine W.sr ?_
 simp (disch := omega) [gw]
 refine W.lx [0, 2] ?_; simp
 refine W.sr ?_
 simp (disch := omega) [gw, iO]
 refine W.lx [0, 2, 3] ?_; simp
 refine W.fX (fun σ => ∃ (w : Int) (rows : Pm.Rows) (clk : Nat), σ = ⟨fa [(0, .int .i64 n), (2, .ptr 2 0 0 0), (3, .int .u64 w)], rows, clk⟩ ∧ rows 2 = some ⟨0, 40, 2, [[.bool false, .nil]]⟩ ∧ w = n.natAbs ∧ 0 ≤ w ∧ w < 18446744073709551616) ?_ ?_
 ·
  refine W.sr ?_
  simp (disch := omega) [gw]
  refine W.lx [0, 2, 3, 7] ?_; simp
  refine W.cond ⟨_, rfl, fun h => ?_, fun h => ?_⟩
  ·simp at h
   refine W.b8 (fun K hK => ?_)
   simp [iO]
   exact hK _ ⟨_, aC _ [0, 2, 3], _, _, _, rfl, by simp, by omega, by omega, by omega⟩
  ·simp at h
   refine W.skip ?_
   exact ⟨_, aC _ [0, 2, 3], _, _, _, rfl, by simp, by omega, by omega, by omega⟩
 rintro _ ⟨w, rows, clk, rfl, hr, hw, hw0, LB⟩
 refine W.sr ?_
 have e1 : V 4294967296 [w % 4294967296, w / 4294967296 % 4294967296] = w := by simp [V]; omega
 have lm : b6 4294967296 [w % 4294967296, w / 4294967296 % 4294967296] := by
  intro x hx; simp at hx; omega
 simp [wrap_u32', hr]
 refine aA (lI [w % 4294967296, w / 4294967296 % 4294967296] (by simp) lm) ?_
 rw [e1]
 simp (disch := omega) [gw, hr]
 refine aA (eW w hw0 (decide (n < 0))) ?_
 simp (disch := omega) [gw, hr]
 refine W.lx [2] ?_; simp
 refine W.ret ?_
 have e : (if n < 0 then -w else w) = n := by split <;> omega
 rw [e]
 simp [go]
def ge (p : Bool × List Int) : List PV := [.bool p.1, us p.2]
def ie (x : Int) : List PV := [.bool (decide (x < 0)), us (aQ LL x.natAbs)]
@[simp] theorem atq {p : Bool × List Int} : ge p = [.bool p.1, us p.2] := rfl
@[simp] theorem atr {x : Int} : ie x = [.bool (decide (x < 0)), us (aQ LL x.natAbs)] := rfl
@[simp] theorem alR {l : List (Bool × List Int)} : bB 2 (emap ge l) = True := cZ fun _ => rfl
@[simp] theorem alS {l : List Int} : bB 2 (emap ie l) = True := cZ fun _ => rfl
@[simp] theorem ajd {v e n : Nat} {l : List Int} : cQ (some ⟨v, e, n, emap ie l⟩) = True := cM fun _ => rfl
@[simp] theorem aje {v e n : Nat} {l : List (Bool × List Int)} : cQ (some ⟨v, e, n, emap ge l⟩) = True := cM fun _ => rfl
theorem xN {α : Type} {g : α → List PV} {n : Nat} (hg : Enc g n) {l : List α} {i : Nat} {x : α} : gN (emap g l) i 0 (g x) = emap g (l.set i x) := by
 simp only [gN, emap, List.map_set]
 by_cases h : i < l.length
 ·have : (g l[i]).length = n := hg _
  have h2 : (g x).length = n := hg _
  simp [h, List.drop_of_length_le, this, h2]
 ·rw [List.set_eq_of_length_le (by simp; omega), List.set_eq_of_length_le (by simp; omega)]
@[simp] theorem aoG {l : List Int} {i : Nat} {x : Int} : gN (emap ie l) i 0 [.bool (decide (x < 0)), us (aQ LL x.natAbs)] = emap ie (l.set i x) := xN (n := 2) (fun _ => rfl)
@[simp] theorem wK {α : Type} {g : α → List PV} {l k : List α} : emap g l ++ emap g k = emap g (l ++ k) := by simp [emap]
abbrev Po (l : List Int) : PV := aJ ie l
abbrev Pg (l : List (Bool × List Int)) : PV := aJ ge l
def gv (p : Bool × List Int) : Int := iv p.1 p.2
def rC (x : Int) : Bool × List Int := (decide (x < 0), aQ LL x.natAbs)
theorem iA (l : List Int) : Po l = Pg (l.map rC) := by simp [aJ, emap, rC]
theorem IL (x : Int) : gv (rC x) = x := by
 simp only [gv, rC, iv, jM fS]
 have := jM fS x.natAbs
 simp only [show ((LL : Nat) : Int) = 4294967296 from rfl] at this
 rw [this]
 by_cases h : x < 0 <;> simp [h] <;> omega
theorem bP (l : List Int) : (l.map rC).map gv = l := by simp [Function.comp_def, IL]
theorem pQ (k : Nat) : a7 (a7 fun q p => Wk p q) (emap ie (List.replicate k 0)) (List.replicate k [.bool false, .nil]) := by
 have : emap ie (List.replicate k 0) = List.replicate k (ie 0) := by simp [emap]
 rw [this]
 exact ID ⟨.inl rfl, .inr ⟨rfl, rfl⟩, trivial⟩ k
structure rD (l : List (Bool × List Int)) : Prop where
 ok : ∀ p ∈ l, qP p.2
 len : l.length < 1099511627776
theorem rD.nth {l : List (Bool × List Int)} (h : rD l) {i : Nat} (hi : i < l.length) : qP (nth l i).2 := h.ok _ (bQ hi)
def Sz (x : Int) : Prop := sz LL x < 1099511627776
theorem Sz.V7 {x : Int} (h : Sz x) : qP (aQ LL x.natAbs) := ⟨eS fS _, h⟩
theorem rD.adF {l : List Int} (h : ∀ x ∈ l, Sz x) (hl : l.length < 1099511627776) : rD (l.map rC) := ⟨fun p hp => by
 simp only [List.mem_map] at hp
 obtain ⟨x, hx, rfl⟩ := hp
 exact (h x hx).V7, by simpa using hl⟩
theorem IM (n : Bool) (l : List Int) : aI env.P 190 [IV n l] (.bool (decide (l.length = 0))) := by
 refine aB (E := env) (fun _ => 0) [(0, IV n l)] Tryz.func190 rfl (by kernel_rfl) (by kernel_rfl) (show 1 ≤ 7 by decide) (by simp) ?_
 refine W.sr ?_
 simp (disch := omega) [gw]
 refine W.lx [1] ?_; simp
 refine W.sr ?_
 simp (disch := omega) [gw]
 refine W.lx [2] ?_; simp
 refine W.ret ?_
 simp [go]
 cases l <;> simp <;> omega
theorem tJ (l : List Int) (hl : l.length < 17592186044416) : aI env.P 110 [Po l] (Po (aM l)) := by
 refine aB (E := env) (fun _ => 0) [(0, Po l)] Tryz.func110 rfl (by kernel_rfl) (by kernel_rfl) (show 1 ≤ 21 by decide) (by simp) ?_
 refine W.sr ?_
 simp (disch := omega) [gw]
 refine W.lx [0] ?_; simp
 refine W.sr ?_
 simp (disch := omega) [gw]
 refine W.lx [0, 3] ?_; simp
 refine W.seq (W.block ?_)
 refine W.a9 (fun k σ => ∃ (rows : Pm.Rows) (clk : Nat), σ = ⟨fa [(0, Po l), (3, .int .i64 (k : Int))], rows, clk⟩ ∧ k ≤ l.length ∧ aM l = aM (l.take k)) l.length ?_ ?_
 ·exact ⟨_, .refl, _, _, rfl, by omega, by simp⟩
 rintro k _ ⟨rows, clk, rfl, hk, hc⟩
 refine W.seq ?_
 refine W.gY (fun σ => ∃ (b : Bool), σ = ⟨fa [(0, Po l), (3, .int .i64 (k : Int)), (15, .bool b)], rows, clk⟩ ∧ (b = true ↔ 0 < k ∧ nth l (k - 1) = 0)) (fun K hK => ?_) ?_
 ·simp
  by_cases h0 : 0 < k
  ·simp (disch := omega) [gw, h0]
   refine aA (IM _ (aQ LL (nth l (k - 1)).natAbs)) ?_
   simp (disch := omega) [gw, h0]
   have e : (aQ LL (nth l (k - 1)).natAbs).length = 0 ↔ nth l (k - 1) = 0 := by
    rw [List.length_eq_zero_iff, dK fS]; omega
   refine hK _ _ (aC _ [0, 3, 15]) ⟨_, rfl, ?_⟩
   simp [h0, ← e]
  ·simp (disch := omega) [gw, h0]
   exact hK _ _ (aC _ [0, 3, 15]) ⟨_, rfl, by simp [h0]⟩
 rintro _ ⟨b, rfl, hb⟩
 refine W.cond ⟨_, rfl, fun h => ?_, fun h => ?_⟩
 ·obtain ⟨h0, h1⟩ := hb.1 h
  refine W.skip (W.block ?_)
  refine W.b8 (fun K hK => ?_)
  simp (disch := omega) [gw]
  refine hK _ ⟨k - 1, _, Gh.fr [(0, _), (3, .int .i64 ((k - 1 : Nat) : Int))] (by simp; omega), by omega, _, _, rfl, by omega, ?_⟩
  rw [hc, show k = (k - 1) + 1 by omega, a8 (by omega), h1, iP]
  simp
 ·have h2 : aM l = l.take k := by
   rw [hc]
   by_cases h0 : 0 < k
   ·have h1 : nth l (k - 1) ≠ 0 := fun h1 => by simp [hb.2 ⟨h0, h1⟩] at h
    rw [show k = (k - 1) + 1 by omega, a8 (by omega)]
    exact fP h1 _
   ·have : k = 0 := by omega
    subst this; simp [aM]
  refine W.exit ?_
  simp only [pX, if_true, if_false, reduceIte, Nat.reduceEqDiff]
  refine W.sr ?_
  simp (disch := omega) [gw]
  refine W.lx [2] ?_; simp
  refine W.ret ?_
  simp [go, h2]
theorem gI (l : List (Bool × List Int)) (h : rD l) : aI env.P 101 [Pg l] (Po (aM (l.map gv))) := by
 refine aB (E := env) (fun _ => 0) [(0, Pg l)] Tryz.func101 rfl (by kernel_rfl) (by kernel_rfl) (show 1 ≤ 24 by decide) (by simp) ?_
 have hl := h.len
 refine W.sr ?_
 simp (disch := omega) [gw]
 refine W.lx [0] ?_; simp
 refine W.sr ?_
 simp (disch := omega) [gw]
 refine W.lx [0, 3] ?_; simp
 refine W.row (id := 8) (emap ie (List.replicate l.length 0)) (by simp; exact ⟨rfl, rfl, rfl⟩) (pQ _) ?_
 refine W.seq ?_
 refine W.sr ?_
 simp (disch := omega) [gw]
 refine W.lx [3, 9, 10, 11] ?_; simp
 refine W.block ?_
 refine W.a9 (fun k σ => ∃ (i : Nat) (z : List Int) (ver : Nat) (rows : Pm.Rows) (clk : Nat), σ = ⟨fa [(3, .own 8 ver 0 l.length), (9, Pg l), (10, .int .i64 l.length), (11, .int .i64 i)], rows, clk⟩ ∧
  rows 8 = some ⟨ver, 40, 2, emap ie z⟩ ∧ k = l.length - i ∧ i ≤ l.length ∧ z.length = l.length ∧ z.take i = (l.take i).map gv) l.length ?_ ?_
 ·exact ⟨_, .refl, 0, List.replicate l.length 0, _, _, _, rfl, by simp, by omega, by omega, by simp, by simp⟩
 rintro k _ ⟨i, z, ver, rows, clk, rfl, hr, hk, hi, hz, hv⟩
 refine W.sr ?_
 simp (disch := omega) [gw]
 refine W.lx [3, 9, 10, 11, 12] ?_; simp
 refine W.seq ?_
 refine W.cond ⟨_, rfl, fun eZ => ?_, fun eZ => ?_⟩
 ·simp at eZ
  refine W.skip ?_
  refine W.seq ?_
  refine W.block ?_
  refine W.sr ?_
  simp (disch := omega) [gw, hr]
  refine W.lx [3, 4, 5, 9, 10, 11] ?_; simp
  refine W.b8 (fun K hK => ?_)
  simp (disch := omega) [gw, hr]
  refine aA (C5 _ _ (h.nth eZ)) ?_
  simp (disch := omega) [gw, hr]
  refine W.lw [3, 9, 10, 11] hK ?_; clear hK K; simp
  refine W.b8 (fun K hK => ?_)
  simp (disch := omega) [gw]
  refine hK _ ⟨l.length - (i + 1), _, aC _ [3, 9, 10, 11], by omega, i + 1, z.set i (iv (nth l i).1 (nth l i).2), ver, _, _, rfl, by simp, by omega, by omega, by simpa using hz, ?_⟩
  rw [kC hv (by omega), mR eZ]; rfl
 ·simp at eZ
  have kY : i = l.length := by omega
  subst kY
  refine W.exit ?_; simp only [pX, if_true, if_false, reduceIte, Nat.reduceEqDiff]
  rw [bE hz] at hv
  have uT := bE hz
  refine W.sr ?_
  simp (disch := omega) [gw, hr, uT]
  refine aA (tJ z (by omega)) ?_
  simp (disch := omega) [gw]
  refine W.lx [2] ?_; simp
  refine W.ret ?_
  simp at hv
  simp [go, hv]
theorem FF (l : List (Bool × List Int)) (k : Nat) (hl : l.length < 1099511627776) (hk : k < 9223372036854775808) : aI env.P 247 [Pg l, .int .i64 k] (.ag (ge (nth l k))) := by
 refine aB (E := env) (fun _ => 0) [(0, Pg l), (1, .int .i64 k)] Tryz.func247 rfl (by kernel_rfl) (by kernel_rfl) (show 2 ≤ 14 by decide) (by simp) ?_
 refine W.sr ?_
 simp (disch := omega) [gw]
 refine W.lx [0, 1, 4] ?_; simp
 refine W.seq ?_
 refine W.sr ?_
 simp (disch := omega) [gw]
 refine W.lx [0, 1, 4, 8] ?_; simp
 refine W.cond ⟨_, rfl, fun h => ?_, fun h => ?_⟩
 ·simp at h
  refine W.sr ?_
  simp (disch := omega) [gw]
  refine W.lx [4] ?_; simp
  refine W.ret ?_
  simp [go]
 ·simp at h
  refine W.skip ?_
  refine W.sr ?_
  simp (disch := omega) [gw]
  refine W.lx [4] ?_; simp
  refine W.ret ?_
  rw [fY h]
  simp [go]
  exact ⟨rfl, rfl⟩
theorem pR (g : FuncId) (hw : E9 g = false) (bR : List PV) (hc : bR.all eY = true) (n : Nat) (hn : n < 1099511627776) (val : Nat → Int) (hg : ∀ k, k < n → aI env.P g (.int .i64 (k : Int) :: bR) (I (val k))) :
  aI env.P 140 [.int .i64 n, .fn g bR] (Po (aM ((List.range n).map val))) := by
 refine aB (E := env) (fun _ => 0) [(0, .int .i64 n), (1, .fn g bR)] Tryz.func140 rfl (by kernel_rfl) (by kernel_rfl) (show 2 ≤ 23 by decide) (by simp) ?_
 refine W.sr ?_
 simp (disch := omega) [gw]
 refine W.lx [0, 1] ?_; simp
 refine W.sr ?_
 simp (disch := omega) [gw]
 refine W.lx [1, 5] ?_; simp
 refine W.row (id := 8) (emap ie (List.replicate n 0)) (by simp; exact ⟨rfl, rfl, rfl⟩) (pQ _) ?_
 refine W.seq ?_
 refine W.sr ?_
 simp (disch := omega) [gw]
 refine W.lx [1, 5, 10, 11] ?_; simp
 refine W.block ?_
 refine W.a9 (fun k σ => ∃ (i : Nat) (z : List Int) (ver : Nat) (rows : Pm.Rows) (clk : Nat), σ = ⟨fa [(1, .fn g bR), (5, .own 8 ver 0 n), (10, .int .i64 n), (11, .int .i64 i)], rows, clk⟩ ∧
  rows 8 = some ⟨ver, 40, 2, emap ie z⟩ ∧ k = n - i ∧ i ≤ n ∧ z.length = n ∧ z.take i = (List.range i).map val) n ?_ ?_
 ·exact ⟨_, .refl, 0, List.replicate n 0, _, _, _, rfl, by simp, by omega, by omega, by simp, by simp⟩
 rintro k _ ⟨i, z, ver, rows, clk, rfl, hr, hk, hi, hz, hv⟩
 refine W.sr ?_
 simp (disch := omega) [gw]
 refine W.lx [1, 5, 10, 11, 12] ?_; simp
 refine W.seq ?_
 refine W.cond ⟨_, rfl, fun h => ?_, fun h => ?_⟩
 ·simp at h
  refine W.skip ?_
  refine W.seq ?_
  refine W.block ?_
  refine W.sr ?_
  simp (disch := omega) [gw]
  refine W.lx [1, 5, 6, 10, 11] ?_; simp
  refine W.b8 (fun K hK => ?_)
  simp (disch := omega) [gw, hr, -E9, hw]
  refine aA (hg i h) ?_
  simp (disch := omega) [gw, hr]
  refine W.lw [1, 5, 10, 11] hK ?_; clear hK K; simp
  refine W.b8 (fun K hK => ?_)
  simp (disch := omega) [gw]
  refine hK _ ⟨n - (i + 1), _, aC _ [1, 5, 10, 11], by omega, i + 1, z.set i (val i), ver, _, _, rfl, by simp, by omega, by omega, by simpa using hz, ?_⟩
  rw [kC hv (by omega), List.range_succ]; simp
 ·simp at h
  have kY : i = n := by omega
  subst kY
  refine W.exit ?_; simp only [pX, if_true, if_false, reduceIte, Nat.reduceEqDiff]
  rw [bE hz] at hv
  have uT := bE hz
  refine W.sr ?_
  simp (disch := omega) [gw, hr, uT]
  refine aA (tJ z (by omega)) ?_
  simp (disch := omega) [gw]
  refine W.lx [4] ?_; simp
  refine W.ret ?_
  simp [go, hv]
end Go.Proofs.YtbbjgncblhfegaaGreat
