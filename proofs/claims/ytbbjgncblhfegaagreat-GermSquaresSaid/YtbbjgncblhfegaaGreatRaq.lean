import Derived.Test.YtbbjgncblhfegaaGreatRan
import Derived.Test.YtbbjgncblhfegaaGreatRao
import Derived.Test.YtbbjgncblhfegaaGreatRap
set_option linter.unusedSimpArgs false
set_option linter.unusedVariables false
namespace Pm
theorem aa4 : ∀ (n : Nat) (f : Nat → Nat), (∀ k, k ≤ n → f k < n) → ∃ i j, i < j ∧ j ≤ n ∧ f i = f j
 | 0, f, h => absurd (h 0 (Nat.le_refl _)) (by omega)
 | n + 1, f, h => by
  by_cases hx : ∃ i, i ≤ n ∧ f i = f (n + 1)
  ·obtain ⟨i, hi, e⟩ := hx
   exact ⟨i, n + 1, by omega, Nat.le_refl _, e⟩
  ·have pW : ∀ i, i ≤ n → f i ≠ f (n + 1) := fun i hi e => hx ⟨i, hi, e⟩
   have hm := h (n + 1) (Nat.le_refl _)
   obtain ⟨i, j, hij, hj, e⟩ := aa4 n (fun k => if f k = n then f (n + 1) else f k) (fun k hk => by
    have h1 := h k (by omega)
    have h2 := pW k hk
    show (if f k = n then f (n + 1) else f k) < n
    split <;> omega)
   refine ⟨i, j, hij, by omega, ?_⟩
   have h1 := pW i (by omega)
   have h2 := pW j hj
   have e' : (if f i = n then f (n + 1) else f i) = (if f j = n then f (n + 1) else f j) := e
   split at e' <;> split at e' <;> omega
def OK (b : Nat) : Nat → Nat → List Int
 | 0, _ => []
 | n + 1, k => ((k % b : Nat) : Int) :: OK b n (k / b)
theorem tZ (b : Nat) : ∀ n k, (OK b n k).length = n
 | 0, _ => rfl
 | n + 1, k => by rw [OK, List.length_cons, tZ b n]
theorem qM {b : Nat} (hb : 0 < b) : ∀ n k, ∀ c ∈ OK b n k, 0 ≤ c ∧ c < b
 | 0, _, c, h => by cases h
 | n + 1, k, c, h => by
  rcases List.mem_cons.1 h with rfl | h
  ·have := Nat.mod_lt k hb; omega
  ·exact qM hb n _ c h
theorem RU {b : Nat} (hb : 0 < b) : ∀ n k m, k < b ^ n → m < b ^ n → OK b n k = OK b n m → k = m
 | 0, k, m, h1, h2, _ => by simp at h1 h2; omega
 | n + 1, k, m, h1, h2, h => by
  rw [OK, OK] at h
  injection h with h3 h4
  rw [Nat.pow_succ] at h1 h2
  have h5 := RU hb n (k / b) (m / b) ((Nat.div_lt_iff_lt_mul hb).2 h1) ((Nat.div_lt_iff_lt_mul hb).2 h2) h4
  have h6 := Nat.div_add_mod k b
  have h7 := Nat.div_add_mod m b
  rw [h5] at h6
  omega
def OL (R : Nat) : List Nat → Nat
 | [] => 0
 | x :: l => x + R * OL R l
theorem aa5 {R : Nat} : ∀ l : List Nat, (∀ x ∈ l, x < R) → OL R l < R ^ l.length
 | [], _ => by simp [OL]
 | x :: l, h => by
  have h1 := aa5 l fun y hy => h y (List.mem_cons_of_mem _ hy)
  have h2 := h x (List.mem_cons_self ..)
  rw [OL, List.length_cons, Nat.pow_succ]
  have h3 : R * (OL R l + 1) ≤ R * R ^ l.length := Nat.mul_le_mul_left _ h1
  rw [Nat.mul_add] at h3
  rw [Nat.mul_comm (R ^ _)]
  omega
theorem RV {R : Nat} : ∀ l m : List Nat, l.length = m.length → (∀ x ∈ l, x < R) → (∀ x ∈ m, x < R) → OL R l = OL R m → l = m
 | [], [], _, _, _, _ => rfl
 | [], _ :: _, h, _, _, _ => by simp at h
 | _ :: _, [], h, _, _, _ => by simp at h
 | x :: l, y :: m, hl, h1, h2, e => by
  rw [OL, OL] at e
  have hx := h1 x (List.mem_cons_self ..)
  have hy := h2 y (List.mem_cons_self ..)
  have e1 : (x + R * OL R l) % R = (y + R * OL R m) % R := by rw [e]
  rw [Nat.add_mul_mod_self_left, Nat.add_mul_mod_self_left, Nat.mod_eq_of_lt hx, Nat.mod_eq_of_lt hy] at e1
  subst e1
  have e2 : R * OL R l = R * OL R m := by omega
  have e3 := Nat.eq_of_mul_eq_mul_left (by omega) e2
  rw [RV l m (by simpa using hl) (fun z hz => h1 z (List.mem_cons_of_mem _ hz)) (fun z hz => h2 z (List.mem_cons_of_mem _ hz)) e3]
theorem pQ {X Y : Nat} : ∀ (x y : List Int), (∀ c ∈ x, c.natAbs ≤ X) → (∀ i, (nth y i).natAbs ≤ Y) → ∀ i, (nth (bH x y) i).natAbs ≤ x.length * (X * Y)
 | [], y, _, _, i => by
  rw [show bH [] y = [] from rfl, kZ]; simp
 | k :: x, y, hx, hy, i => by
  have hk := hx k (List.mem_cons_self ..)
  have ih := pQ x y (fun c hc => hx c (List.mem_cons_of_mem _ hc)) hy
  have h1 : ∀ j, (nth y j * k).natAbs ≤ X * Y := fun j => by
   rw [Int.natAbs_mul, Nat.mul_comm]
   exact Nat.mul_le_mul hk (hy j)
  rw [List.length_cons, Nat.add_mul, Nat.one_mul]
  cases i with
  | zero =>
   rw [pE]
   have := h1 0; omega
  | succ i =>
   rw [k7]
   have h2 := h1 (i + 1)
   have h3 := ih i
   have h4 := Int.natAbs_add_le (nth y (i + 1) * k) (nth (bH x y) i)
   omega
theorem OM {A : Nat} {y : List Int} (h : ∀ c ∈ y, c.natAbs ≤ A) (i : Nat) : (nth y i).natAbs ≤ A := by
 rcases Nat.lt_or_ge i y.length with h1 | h1
 ·exact h _ (bN h1)
 ·rw [fW h1]; exact Nat.zero_le _
namespace ZX
theorem x9 (x y : ZX) (i : Nat) : nth (x - y).l i = nth x.l i - nth y.l i := by
 have h : x = (x - y) + y := by grind
 have h2 : nth x.l i = nth ((x - y) + y).l i := by rw [← h]
 rw [show ((x - y) + y).l = fX (x - y).l y.l from rfl, s6] at h2
 omega
theorem aey {a b v : ZX} (ha : a ≠ 0) (hc : ∀ d, dv d a → dv d b → N d ≤ 1) (h : dv a (v * b)) : dv a v := by
 obtain ⟨g, hg⟩ := iH _ a b (Nat.le_refl _)
 have h0 := hg.ne (.inl ha)
 have h1 := hc g hg.l hg.r
 have h2 := ZX.aG.1 h0
 obtain ⟨k, hk, rfl⟩ := m9 (show N g = 1 by omega)
 obtain ⟨c, uW, u', v', e⟩ := hg.uv
 rw [m8] at e
 refine dv.JM (Int.mul_ne_zero uW hk) ?_
 rw [e, show (u' * a + v' * b) * v = (u' * v) * a + v' * (v * b) by grind]
 exact ((dv.refl a).mul_left _).add (h.mul_left _)
theorem RW {l : List Int} {n : Nat} (h : l.length ≤ n) : N (of l) ≤ n := Nat.le_trans (bL l) h
theorem F8 {x : ZX} {n : Nat} (hN : N x ≤ n + 1) (h : ∀ i, i < n → nth x.l (i + 1) = 0) : ∃ c : Int, x = K c := by
 rcases Nat.lt_or_ge (N x) 2 with h1 | h1
 ·rcases Nat.eq_zero_or_pos (N x) with h2 | h2
  ·refine ⟨0, ?_⟩
   have : x = 0 := Classical.byContradiction fun h0 => by have := ZX.aG.1 h0; omega
   rw [this]; rfl
  ·obtain ⟨c, _, e⟩ := m9 (show N x = 1 by omega)
   exact ⟨c, e⟩
 ·exfalso
  have h2 : lead x.l ≠ 0 := cB x.c (show 0 < N x by omega)
  refine h2 ?_
  have h3 := h (N x - 2) (by omega)
  rw [show N x - 2 + 1 = x.l.length - 1 from by show N x - 2 + 1 = N x - 1; omega] at h3
  exact h3
theorem u9 (l : List Int) (i : Nat) : nth (of l).l i = nth l i := gV l i
theorem wW {l : List Int} {i n : Nat} (h : i < n) : nth (l.take n) i = nth l i := by
 simp only [nth, List.getElem?_take]
 rw [if_pos h]
theorem KG {l : List Int} {i n : Nat} : nth (l.drop n) i = nth l (n + i) := by
 simp only [nth, List.getElem?_drop]
theorem ajS {a b : ZX} {A : Nat} (ha : a ≠ 0) (hb : b ≠ 0) (hA : ∀ c ∈ a.l, c.natAbs ≤ A) (hB : ∀ c ∈ b.l, c.natAbs ≤ A) (hc : ∀ d, dv d a → dv d b → N d ≤ 1) {X : Nat} (hX : (2 * (N a + N b) * A) ^ (N a + N b) ≤ X) :
  ∃ (u v : ZX) (c : Int), c ≠ 0 ∧ u * a + v * b = K c ∧ N u ≤ N b ∧ N v ≤ N a ∧ (∀ c ∈ u.l, c.natAbs ≤ X) ∧ ∀ c ∈ v.l, c.natAbs ≤ X := by
 have na := ZX.aG.1 ha
 have nb := ZX.aG.1 hb
 have hA1 : 1 ≤ A := by
  have h1 := cB a.c na
  have h2 := hA (lead a.l) (by unfold lead; exact bN (by have : a.l.length = N a := rfl; omega))
  omega
 have hX1 : 1 ≤ X := Nat.le_trans (Nat.one_le_pow _ _ (Nat.mul_pos (Nat.mul_pos (by decide) (by omega)) hA1)) hX
 rcases Nat.lt_or_ge 2 (N a + N b) with hm | hm
 ·obtain ⟨m, hmm⟩ : ∃ m, N a + N b = m + 3 := ⟨N a + N b - 3, by omega⟩
  let B := X + 1
  let W := (m + 1) * (X * A)
  let uu := fun k : Nat => of ((OK B (m + 1) k).take (N b - 1))
  let vv := fun k : Nat => of ((OK B (m + 1) k).drop (N b - 1))
  let L := fun k : Nat => uu k * a + vv k * b
  have hBp : 0 < B := Nat.succ_pos _
  have adI : ∀ k, ∀ c ∈ OK B (m + 1) k, c.natAbs ≤ X := fun k c hc => by
   have := qM hBp _ _ c hc
   have : ((B : Nat) : Int) = X + 1 := by simp [B]
   omega
  have hu : ∀ k, ∀ c ∈ (uu k).l, c.natAbs ≤ X := fun k c hc => adI k c (List.mem_of_mem_take (pC _ _ hc))
  have hv : ∀ k, ∀ c ∈ (vv k).l, c.natAbs ≤ X := fun k c hc => adI k c (List.mem_of_mem_drop (pC _ _ hc))
  have hNu : ∀ k, N (uu k) ≤ N b - 1 := fun k => RW (by rw [List.length_take, tZ]; omega)
  have hNv : ∀ k, N (vv k) ≤ N a - 1 := fun k => RW (by rw [List.length_drop, tZ]; omega)
  have hW : ∀ k i, (nth (L k).l i).natAbs ≤ W := fun k i => by
   have e : (L k).l = fX (bH (uu k).l a.l) (bH (vv k).l b.l) := rfl
   rw [e, s6]
   have h1 := pQ (uu k).l a.l (hu k) (OM hA) i
   have h2 := pQ (vv k).l b.l (hv k) (OM hB) i
   have h3 : (uu k).l.length + (vv k).l.length ≤ m + 1 := by
    have h4 : N (uu k) ≤ N b - 1 := hNu k
    have h5 : N (vv k) ≤ N a - 1 := hNv k
    show N (uu k) + N (vv k) ≤ m + 1
    omega
   have h4 := Int.natAbs_add_le (nth (bH (uu k).l a.l) i) (nth (bH (vv k).l b.l) i)
   have h5 : (uu k).l.length * (X * A) + (vv k).l.length * (X * A) ≤ W := by
    rw [← Nat.add_mul]; exact Nat.mul_le_mul_right _ h3
   omega
  let im := fun k : Nat => (List.range m).map fun i => (nth (L k).l (i + 1) + W).toNat
  have him : ∀ k, ∀ x ∈ im k, x < 2 * W + 1 := fun k x hx => by
   simp only [im, List.mem_map] at hx
   obtain ⟨i, _, rfl⟩ := hx
   have := hW k (i + 1)
   omega
  have auo : (2 * W + 1) ^ m < B ^ (m + 1) := by
   have h1 : 2 * W + 1 ≤ (2 * (N a + N b) * A) * B := by
    have h2 : 2 * W = 2 * (m + 1) * A * X := by simp only [W]; grind
    have h3 : 2 * (m + 1) * A * X + 1 ≤ 2 * (N a + N b) * A * X + 2 * (N a + N b) * A := by
     have h4 : 2 * (m + 1) * A ≤ 2 * (N a + N b) * A := Nat.mul_le_mul_right _ (by omega)
     have h5 := Nat.mul_le_mul_right X h4
     have h6 : 1 ≤ 2 * (N a + N b) * A := Nat.mul_pos (by omega) hA1
     omega
    rw [h2, show B = X + 1 from rfl, Nat.mul_add, Nat.mul_one]
    exact h3
   have h2 := Nat.pow_le_pow_left h1 m
   rw [Nat.mul_pow] at h2
   have h3 : (2 * (N a + N b) * A) ^ m ≤ X := Nat.le_trans (Nat.pow_le_pow_right (Nat.mul_pos (by omega) hA1) (by omega)) hX
   have h4 : (2 * (N a + N b) * A) ^ m * B ^ m ≤ X * B ^ m := Nat.mul_le_mul_right _ h3
   have h5 : X * B ^ m < B * B ^ m := (Nat.mul_lt_mul_right (Nat.pow_pos hBp)).2 (Nat.lt_succ_self X)
   rw [Nat.pow_succ, Nat.mul_comm (B ^ m)]
   omega
  obtain ⟨n, hn⟩ : ∃ n, B ^ (m + 1) = n + 1 := ⟨B ^ (m + 1) - 1, by have := Nat.pow_pos (n := m + 1) hBp; omega⟩
  obtain ⟨i, j, hij, hj, e⟩ := aa4 n (fun k => OL (2 * W + 1) (im k)) (fun k hk => by
   have h1 := aa5 (im k) (him k)
   rw [show (im k).length = m by simp [im]] at h1
   show OL (2 * W + 1) (im k) < n
   omega)
  have e2 := RV (im i) (im j) (by simp [im]) (him i) (him j) e
  have e3 : ∀ s, s < m → nth (L i).l (s + 1) = nth (L j).l (s + 1) := fun s hs => by
   have h1 : (im i)[s]? = (im j)[s]? := by rw [e2]
   simp only [im, List.getElem?_map, List.getElem?_range hs, Option.map_some] at h1
   injection h1 with h1
   have := hW i (s + 1)
   have := hW j (s + 1)
   omega
  have hNL : ∀ x y : ZX, N x ≤ N b - 1 → N y ≤ N a - 1 → N (x * a + y * b) ≤ m + 1 := fun x y hx hy => by
   have h1 : N (x * a + y * b) ≤ max (N (x * a)) (N (y * b)) := zG _ _
   have h2 : N (x * a) ≤ N x + N a - 1 := pD (x := x.l) (y := a.l) na
   have h3 : N (y * b) ≤ N y + N b - 1 := pD (x := y.l) (y := b.l) nb
   omega
  have SF : N (uu i - uu j) ≤ N b - 1 := by
   have h1 : N (uu i - uu j) ≤ max (N (uu i)) (N (uu j)) := s0 _ _
   have := hNu i; have := hNu j; omega
  have hv' : N (vv i - vv j) ≤ N a - 1 := by
   have h1 : N (vv i - vv j) ≤ max (N (vv i)) (N (vv j)) := s0 _ _
   have := hNv i; have := hNv j; omega
  have eL : (uu i - uu j) * a + (vv i - vv j) * b = L i - L j := by simp only [L]; grind
  obtain ⟨c, NN⟩ := F8 (x := (uu i - uu j) * a + (vv i - vv j) * b) (n := m) (hNL _ _ SF hv') (fun s hs => by
   rw [eL, x9, e3 s hs]; omega)
  have mF : ∀ (l l' : List Int), (∀ c ∈ l, 0 ≤ c ∧ c < (B : Int)) → (∀ c ∈ l', 0 ≤ c ∧ c < (B : Int)) → ∀ c ∈ (of l - of l').l, c.natAbs ≤ X := fun l l' h1 h2 c hc => by
   obtain ⟨s, hs, rfl⟩ := List.getElem_of_mem hc
   rw [← cS hs, x9, u9, u9]
   have hB1 : ((B : Nat) : Int) = X + 1 := by simp [B]
   have h3 : ∀ l : List Int, (∀ c ∈ l, 0 ≤ c ∧ c < (B : Int)) → 0 ≤ nth l s ∧ nth l s < (B : Int) := fun l hl => by
    rcases Nat.lt_or_ge s l.length with h4 | h4
    ·exact hl _ (bN h4)
    ·rw [fW h4]; exact ⟨by decide, by show (0 : Int) < _; omega⟩
   have := h3 l h1
   have := h3 l' h2
   omega
  refine ⟨uu i - uu j, vv i - vv j, c, fun h0 => ?_, NN, by omega, by omega, mF _ _ (fun c hc => qM hBp _ _ c (List.mem_of_mem_take hc)) (fun c hc => qM hBp _ _ c (List.mem_of_mem_take hc)),
   mF _ _ (fun c hc => qM hBp _ _ c (List.mem_of_mem_drop hc)) (fun c hc => qM hBp _ _ c (List.mem_of_mem_drop hc))⟩
  rw [h0, show K 0 = (0 : ZX) from rfl] at NN
  have hvz : vv i - vv j = 0 := Classical.byContradiction fun pW => by
   have h1 : dv a (vv i - vv j) := aey ha hc (b := b) ⟨1, by decide, -(uu i - uu j), by
    show (1 : ZX) * _ = _
    have : (vv i - vv j) * b = -((uu i - uu j) * a) := by grind
    rw [this]; grind⟩
   have := h1.qT pW
   omega
  have huz : uu i - uu j = 0 := Classical.byContradiction fun pW => by
   have h1 : (uu i - uu j) * a = 0 := by rw [hvz] at NN; grind
   exact fF pW ha h1
  have hd : OK B (m + 1) i = OK B (m + 1) j := by
   have h1 : ∀ s, nth (OK B (m + 1) i) s = nth (OK B (m + 1) j) s := fun s => by
    rcases Nat.lt_or_ge s (N b - 1) with h2 | h2
    ·have h3 := x9 (uu i) (uu j) s
     rw [huz, show nth (0 : ZX).l s = 0 from kZ s] at h3
     simp only [uu] at h3
     rw [u9, u9, wW h2, wW h2] at h3
     omega
    ·have h3 := x9 (vv i) (vv j) (s - (N b - 1))
     rw [hvz, show nth (0 : ZX).l (s - (N b - 1)) = 0 from kZ _] at h3
     simp only [vv] at h3
     rw [u9, u9, KG, KG, show N b - 1 + (s - (N b - 1)) = s by omega] at h3
     omega
   refine List.ext_getElem (by rw [tZ, tZ]) fun s hs GO => ?_
   rw [← cS hs, ← cS GO, h1]
  have := RU hBp (m + 1) i j (by omega) (by omega) hd
  omega
 ·obtain ⟨c, uW, rfl⟩ := m9 (show N a = 1 by omega)
  refine ⟨1, 0, c, uW, by grind, by rw [AA]; omega, by rw [ZG]; omega, fun x hx => ?_, fun x hx => by cases hx⟩
  have h1 : (1 : ZX).l = [1] := rfl
  rw [h1] at hx
  simp at hx; subst hx; exact hX1
end ZX
end Pm
namespace Pm
theorem n5 (a b : Nat) : (2 : Rat) ^ (a + b) = 2 ^ a * 2 ^ b := by
 induction b with
 | zero => rw [Nat.add_zero, Rat.pow_zero, Rat.mul_one]
 | succ b ih => rw [← Nat.add_assoc, Rat.pow_succ, Rat.pow_succ, ih]; grind
theorem gQ (a : Nat) : (0 : Rat) < 2 ^ a := Rat.pow_pos (by decide)
theorem vA : ∀ a : Nat, (1 : Rat) ≤ 2 ^ a
 | 0 => by simp
 | a + 1 => by
  have := vA a
  rw [Rat.pow_succ]; grind
theorem RX {a b : Nat} (h : a ≤ b) : (2 : Rat) ^ a ≤ 2 ^ b := by
 obtain ⟨c, rfl⟩ : ∃ c, b = a + c := ⟨b - a, by omega⟩
 rw [n5]
 have h1 := vA c
 have h2 := gQ a
 have h3 := Rat.mul_le_mul_of_nonneg_left h1 (Rat.le_of_lt h2)
 grind
theorem F9 : ∀ a : Nat, (((2 ^ a : Nat) : Int) : Rat) = 2 ^ a
 | 0 => by simp
 | a + 1 => by
  rw [Nat.pow_succ, Rat.pow_succ, ← F9 a, Int.natCast_mul, Rat.intCast_mul]; rfl
theorem KH {c : Int} {s : Nat} (h : c.natAbs ≤ 2 ^ s) : Ab (c : Rat) (2 ^ s) := by
 have h1 := F9 s
 have h2 : c ≤ ((2 ^ s : Nat) : Int) := by omega
 have h3 : -((2 ^ s : Nat) : Int) ≤ c := by omega
 have h4 := Rat.intCast_le_intCast.2 h2
 have h5 := Rat.intCast_le_intCast.2 h3
 rw [Rat.intCast_neg] at h5
 rw [h1] at h4 h5
 exact ⟨h5, h4⟩
theorem ON (s β : Nat) : ∀ k, BX (2 ^ s) (2 ^ β) k = 2 ^ (s + k * (β + 2))
 | 0 => by simp [BX]
 | k + 1 => by
  rw [BX, ON s β k, show s + (k + 1) * (β + 2) = s + k * (β + 2) + β + 1 + 1 by rw [Nat.add_mul]; omega, Rat.pow_succ, Rat.pow_succ, n5 _ β]
  grind
namespace ZX
theorem apw {a : ZX} {s n β : Nat} (h : ∀ c ∈ a.l, c.natAbs ≤ 2 ^ s) (hN : N a ≤ n) {t : Rat} (ht : Ab t (2 ^ β)) : Ab (e t a) (2 ^ (s + n * (β + 2))) := by
 have h1 := RF (S := 2 ^ s) (B := 2 ^ β) (t := t) (Rat.le_of_lt (gQ s)) (vA β) ht a.l fun c hc => KH (h c hc)
 rw [ON] at h1
 refine h1.mono (RX ?_)
 have : a.l.length * (β + 2) ≤ n * (β + 2) := Nat.mul_le_mul_right _ hN
 omega
theorem aa6 {a : ZX} {s n β : Nat} (h : ∀ c ∈ a.l, c.natAbs ≤ 2 ^ s) (hN : N a ≤ n) {r t : Rat} (hr : Ab r (2 ^ β)) (ht : Ab t (2 ^ β)) : Ab (dd r t a.l) (2 ^ (s + n * (β + 2))) ∧ Ab (cc r t a.l) (2 ^ (s + n * (β + 2))) := by
 have h1 := DO (S := 2 ^ s) (B := 2 ^ β) (s := r) (t := t) (Rat.le_of_lt (gQ s)) (vA β) hr ht a.l fun c hc => KH (h c hc)
 have h2 := aaI (S := 2 ^ s) (B := 2 ^ β) (s := r) (t := t) (Rat.le_of_lt (gQ s)) (vA β) hr ht a.l fun c hc => KH (h c hc)
 rw [ON] at h1 h2
 have h3 : a.l.length * (β + 2) ≤ n * (β + 2) := Nat.mul_le_mul_right _ hN
 exact ⟨h1.mono (RX (by omega)), h2.mono (RX (by omega))⟩
def sk (s n l β : Nat) : Nat := n * (s + 1 + l) + n * (β + 2) + 1
theorem sep {a b : ZX} {s n l β : Nat} (ha : a ≠ 0) (hb : b ≠ 0) (hA : ∀ c ∈ a.l, c.natAbs ≤ 2 ^ s) (hB : ∀ c ∈ b.l, c.natAbs ≤ 2 ^ s) (hn : N a + N b ≤ n) (hl : n ≤ 2 ^ l) (hc : ∀ d, dv d a → dv d b → N d ≤ 1)
  {t ε : Rat} (ht : Ab t (2 ^ β)) (hε : ε * 2 ^ sk s n l β ≤ 1) : kH ε (e t a) ∨ kH ε (e t b) := by
 have hX : (2 * (N a + N b) * 2 ^ s) ^ (N a + N b) ≤ 2 ^ (n * (s + 1 + l)) := by
  have h1 : 2 * (N a + N b) * 2 ^ s ≤ 2 ^ (s + 1 + l) := by
   rw [Nat.pow_add, Nat.pow_add, Nat.mul_comm _ (2 ^ s), Nat.mul_assoc]
   exact Nat.mul_le_mul_left _ (Nat.mul_le_mul_left _ (by omega))
  refine Nat.le_trans (Nat.pow_le_pow_left h1 _) ?_
  rw [← Nat.pow_mul, Nat.mul_comm]
  exact Nat.pow_le_pow_right (by decide) (Nat.mul_le_mul_right _ hn)
 obtain ⟨u, v, c, uW, he, hNu, hNv, hu, hv⟩ := ajS ha hb hA hB hc hX
 have h1 := apw (β := β) hu (show N u ≤ n by omega) ht
 have h2 := apw (β := β) hv (show N v ≤ n by omega) ht
 have h3 : e t u * e t a + e t v * e t b = (c : Rat) := by rw [← wT, ← wT, ← apg, he, e_K]
 have h4 := FZ uW
 rw [sk, n5] at hε
 generalize (2 : Rat) ^ (n * (s + 1 + l) + n * (β + 2)) = M at *
 refine Classical.byContradiction fun VD => ?_
 have GL : Ab (e t a) ε := mO fun h => VD (.inl h)
 have wZ : Ab (e t b) ε := mO fun h => VD (.inr h)
 have ha2 := xU fun h => VD (.inl h)
 have h5 := (h1.mul GL).add (h2.mul wZ)
 rw [h3] at h5
 have e1 : (2 : Rat) ^ 1 = 2 := by rw [Rat.pow_succ, Rat.pow_zero]; grind
 rw [e1] at hε
 have hM : 0 ≤ M := h1.pos
 rcases Rat.le_iff_lt_or_eq.1 hM with hM' | hM'
 ·-- strict: shrink ε a aup
  have vS := xU fun h => VD (.inr h)
  have key : ∃ η : Rat, η < ε ∧ Ab (e t a) η ∧ Ab (e t b) η := by
   generalize e t a = x at *
   generalize e t b = y at *
   have : ∃ m : Rat, m < ε ∧ x ≤ m ∧ -x ≤ m ∧ y ≤ m ∧ -y ≤ m := by
    have ajT : ∀ p q : Rat, p < ε → q < ε → ∃ m, m < ε ∧ p ≤ m ∧ q ≤ m := fun p q hp hq => by
     by_cases h : p ≤ q
     ·exact ⟨q, hq, h, Rat.le_refl⟩
     ·exact ⟨p, hp, Rat.le_refl, by grind⟩
    obtain ⟨m1, g1, g2, g3⟩ := ajT x (-x) (by grind) (by grind)
    obtain ⟨m2, g4, g5, g6⟩ := ajT y (-y) (by grind) (by grind)
    obtain ⟨m, g7, g8, g9⟩ := ajT m1 m2 g1 g4
    exact ⟨m, g7, by grind, by grind, by grind, by grind⟩
   obtain ⟨m, g1, g2, g3, g4, g5⟩ := this
   exact ⟨m, g1, ⟨by grind, g2⟩, ⟨by grind, g4⟩⟩
  obtain ⟨η, g1, g2, g3⟩ := key
  have h6 := (h1.mul g2).add (h2.mul g3)
  rw [h3] at h6
  have h7 : M * η < M * ε := by
   have := Rat.mul_lt_mul_of_pos_left g1 hM'
   exact this
  obtain ⟨p1, p2⟩ := h6
  rcases h4 with h4 | h4 <;> grind
 ·rw [← hM'] at h5
  obtain ⟨p1, p2⟩ := h5
  rcases h4 with h4 | h4 <;> grind
theorem ajU {f : ZX} {s n l : Nat} (h : ∀ c ∈ f.l, c.natAbs ≤ 2 ^ s) (hN : N f ≤ n) (hl : n ≤ 2 ^ l) : ∀ c ∈ (bM f).l, c.natAbs ≤ 2 ^ (s + l) := fun c hc => by
 have h1 := pC _ _ hc
 simp only [uZ, List.mem_map, List.mem_range] at h1
 obtain ⟨i, hi, rfl⟩ := h1
 rw [Int.natAbs_mul, Nat.pow_add]
 have h2 := OM h (i + 1)
 have h3 : N f = f.l.length := rfl
 exact Nat.mul_le_mul h2 (by rw [Int.natAbs_natCast]; omega)
theorem aez {x y z : Rat} (h : (x < y ∧ y < z) ∨ (y < x ∧ z < y)) : (if x ≠ 0 ∧ b6 z ≠ b6 x then 1 else 0 : Nat) = (if x ≠ 0 ∧ b6 y ≠ b6 x then 1 else 0) + (if y ≠ 0 ∧ b6 z ≠ b6 y then 1 else 0) := by
 rcases cF x with ⟨h1, h2⟩ | ⟨h1, h2⟩ | ⟨h1, h2⟩ <;> rcases cF y with ⟨h3, h4⟩ | ⟨h3, h4⟩ | ⟨h3, h4⟩ <;> rcases cF z with ⟨h5, h6⟩ | ⟨h5, h6⟩ | ⟨h5, h6⟩ <;>
  rw [h2, h4, h6] <;> first
   | (exfalso; rcases h with ⟨h7, h8⟩ | ⟨h7, h8⟩ <;> grind)
   | (have n1 : (x ≠ 0) = True := eq_true (by grind)
      have n2 : (y ≠ 0) = True := eq_true (by grind)
      simp only [n1, n2]; decide)
   | (have n1 : (x ≠ 0) = False := eq_false (by grind)
      have n2 : (y ≠ 0) = True := eq_true (by grind)
      simp only [n1, n2]; decide)
   | (have n1 : (x ≠ 0) = True := eq_true (by grind)
      have n2 : (y ≠ 0) = False := eq_false (by grind)
      simp only [n1, n2]; decide)
def OO (f : ZX) (t : Rat) : Int := if e t f = 0 then b6 (e t (bM f)) else b6 (e t f)
theorem aa7 {x y : Rat} {σ : Int} (h : (σ = 1 ∧ x < y) ∨ (σ = -1 ∧ y < x)) : (if y = 0 then σ else b6 y) = (if (if x ≠ 0 ∧ b6 y ≠ b6 x then 1 else 0 : Nat) = 0 then 1 else -1) * (if x = 0 then σ else b6 x) := by
 rcases cF x with ⟨h1, h2⟩ | ⟨h1, h2⟩ | ⟨h1, h2⟩ <;> rcases cF y with ⟨h3, h4⟩ | ⟨h3, h4⟩ | ⟨h3, h4⟩ <;> rw [h2, h4] <;> first
   | (exfalso; rcases h with ⟨h7, h8⟩ | ⟨h7, h8⟩ <;> grind)
   | (have n1 : (x = 0) = False := eq_false (by grind)
      have n2 : (y = 0) = False := eq_false (by grind)
      simp only [n1, n2, ne_eq, not_false_eq_true, true_and, if_false]; decide)
   | (have n1 : (x = 0) = True := eq_true (by grind)
      have n2 : (y = 0) = False := eq_false (by grind)
      have : σ = 1 ∨ σ = -1 := by omega
      rcases this with rfl | rfl <;> first
        | (simp only [n1, n2, ne_eq, not_true_eq_false, false_and, if_false, if_true]; decide)
        | (exfalso; rcases h with ⟨h7, h8⟩ | ⟨h7, h8⟩ <;> grind))
   | (have n1 : (x = 0) = False := eq_false (by grind)
      have n2 : (y = 0) = True := eq_true (by grind)
      have : σ = 1 ∨ σ = -1 := by omega
      rcases this with rfl | rfl <;> first
        | (simp only [n1, n2, ne_eq, not_false_eq_true, true_and, if_false, if_true]; decide)
        | (exfalso; rcases h with ⟨h7, h8⟩ | ⟨h7, h8⟩ <;> grind))
structure auq (f : ZX) (B δ : Rat) : Prop where
 par : ∀ s t, Ab s B → Ab t B → s < t → t - s ≤ δ → OO f t = (if ind f s t = 0 then 1 else -1) * OO f s
def lk (s n l β : Nat) : Nat := sk (s + l) (n + n) (l + 1) β + (s + l + n * (β + 2)) + 2
theorem vB {L : List ZX} {f : ZX} (G : xG L f) {s n l β : Nat} (hf : f ≠ 0) (hA : ∀ c ∈ f.l, c.natAbs ≤ 2 ^ s) (hn : N f ≤ n) (hl : n ≤ 2 ^ l) (hc : ∀ d, dv d f → dv d (bM f) → N d ≤ 1) {δ : Rat} (hδ : δ * 2 ^ lk s n l β ≤ 1) : Lcl L f (2 ^ β) δ ∧ auq f (2 ^ β) δ := by
 have hA' : ∀ c ∈ f.l, c.natAbs ≤ 2 ^ (s + l) := fun c hc => Nat.le_trans (hA c hc) (Nat.pow_le_pow_right (by decide) (by omega))
 have hD := ajU hA hn hl
 have hND := l6 f
 have main : ∀ lo hi, Ab lo (2 ^ β) → Ab hi (2 ^ β) → lo < hi → hi - lo ≤ δ → vt L lo = vt L hi + ind f lo hi ∧ (e lo f = 0 → e hi f ≠ 0) ∧ OO f hi = (if ind f lo hi = 0 then 1 else -1) * OO f lo := fun lo hi alo ahi hlh hw => by
  have hδ0 : 0 < δ := by grind
  rw [lk, n5, n5] at hδ
  have hQ := gQ (s + l + n * (β + 2))
  have hK := gQ (sk (s + l) (n + n) (l + 1) β)
  generalize hQe : (2 : Rat) ^ (s + l + n * (β + 2)) = Q at *
  generalize hKe : (2 : Rat) ^ sk (s + l) (n + n) (l + 1) β = κ at *
  have h22 : (2 : Rat) ^ 2 = 4 := by rw [Rat.pow_succ, Rat.pow_succ, Rat.pow_zero]; grind
  rw [h22] at hδ
  have hε : (1 / κ) * κ = 1 := Rat.div_mul_cancel (Rat.ne_of_gt hK)
  have hε0 : 0 < 1 / κ := (Rat.lt_div_iff hK).2 (by grind)
  generalize 1 / κ = ε at *
  have hδQ : 4 * (δ * Q) ≤ ε := by
   have h1 : δ * (κ * Q * 4) = (4 * (δ * Q)) * κ := by grind
   rw [h1, ← hε] at hδ
   exact Rat.le_of_mul_le_mul_right hδ hK
  have hin : ∀ x, lo ≤ x → x ≤ hi → Ab x (2 ^ β) := fun x h1 h2 => eM alo ahi h1 h2
  by_cases ZM : bM f = 0
  ·-- a constant
   have hN1 : N f = 1 := by
    have h0 := ZX.aG.1 hf
    rcases Nat.lt_or_ge (N f) 2 with h1 | h1
    ·omega
    ·exact absurd ZM (FR h1)
   obtain ⟨c, uW, rfl⟩ := m9 hN1
   have hcv : ∀ x, b6 (e x (K c)) = b6 (c : Rat) := fun x => by rw [e_K]
   have h1 := G.const hlh (σ := b6 (c : Rat)) (.inr (hcv lo)) (fun x _ _ => hcv x)
   have h2 : ind (K c) lo hi = 0 := if_neg fun h => h.2 (by rw [hcv, hcv])
   have apy : (c : Rat) ≠ 0 := fun h => uW (by exact_mod_cast h)
   have hz : ∀ x, e x (K c) ≠ 0 := fun x => by rw [e_K]; exact apy
   exact ⟨by rw [h1, h2]; omega, fun h => by rw [e_K] at h; exact absurd h apy, by rw [h2, if_pos rfl, Int.one_mul, OO, OO, if_neg (hz _), if_neg (hz _), hcv, hcv]⟩
  have hb := sep hf ZM hA' hD (show N f + N (bM f) ≤ n + n by omega) (show n + n ≤ 2 ^ (l + 1) by rw [Nat.pow_succ]; omega) hc alo (ε := ε) (by rw [hKe, hε]; exact Rat.le_refl)
  have dsz : ∀ x y, lo ≤ x → x ≤ hi → lo ≤ y → y ≤ hi → Ab (dd x y f.l) Q ∧ Ab (cc x y f.l) Q ∧ Ab (dd x y (bM f).l) Q := fun x y h1 h2 h3 h4 => by
   have g1 := aa6 hA' hn (hin x h1 h2) (hin y h3 h4)
   have g2 := aa6 hD (show N (bM f) ≤ n by omega) (hin x h1 h2) (hin y h3 h4)
   rw [hQe] at g1 g2
   exact ⟨g1.1, g1.2, g2.1⟩
  have awW : 0 ≤ δ * Q := Rat.mul_nonneg (Rat.le_of_lt hδ0) (Rat.le_of_lt hQ)
  have small : ∀ h x, 0 ≤ h → h ≤ δ → Ab x Q → Ab (h * x) (δ * Q) := fun h x h1 h2 h3 => Ab.mul ⟨by grind, h2⟩ h3
  rcases hb with hb | hb
  ·-- one sign
   have uL : ∀ x, lo ≤ x → x ≤ hi → b6 (e x f) = b6 (e lo f) ∧ b6 (e lo f) ≠ 0 := fun x h1 h2 => by
    refine eC hb hε0 fun h => ?_
    have h3 := lH lo x f.l
    have h4 := small (x - lo) _ (by grind) (by grind) (dsz lo x Rat.le_refl (by grind) h1 h2).1
    rw [← h3] at h4
    obtain ⟨p1, p2⟩ := h4
    have h5 : e x f - e lo f = qv x f.l - qv lo f.l := rfl
    rw [h5] at h
    rcases h with h | h <;> grind
   have h1 := G.const hlh (σ := b6 (e lo f)) (.inr rfl) (fun x h1 h2 => (uL x (by grind) h2).1)
   have h2 : ind f lo hi = 0 := if_neg fun h => h.2 (uL hi (by grind) Rat.le_refl).1
   have hz : ∀ x, lo ≤ x → x ≤ hi → e x f ≠ 0 := fun x h1 h2 h => by
    obtain ⟨g1, g2⟩ := uL x h1 h2
    rw [h, lG] at g1
    exact g2 g1.symm
   exact ⟨by rw [h1, h2]; omega, fun h => absurd h (hz lo Rat.le_refl (by grind)), by rw [h2, if_pos rfl, Int.one_mul, OO, OO, if_neg (hz _ (by grind) Rat.le_refl), if_neg (hz _ Rat.le_refl (by grind)), (uL hi (by grind) Rat.le_refl).1]⟩
  ·-- rising or arn
   have mono : ∀ x y, lo ≤ x → x < y → y ≤ hi → b6 (e y f - e x f) = b6 (e lo (bM f)) ∧ b6 (e lo (bM f)) ≠ 0 := fun x y h1 h2 h3 => by
    have g1 := lH x y f.l
    have g2 := NX x y f.l
    have g3 : dd x x f.l = e x (bM f) := (agJ x f).symm
    have g4 := lH lo x (bM f).l
    have b1 := small (y - x) _ (by grind) (by grind) (dsz x y h1 (by grind) (by grind) h3).2.1
    have b2 := small (x - lo) _ (by grind) (by grind) (dsz lo x Rat.le_refl (by grind) h1 (by grind)).2.2
    rw [← g2] at b1
    rw [← g4] at b2
    have h5 : e x (bM f) - e lo (bM f) = qv x (bM f).l - qv lo (bM f).l := rfl
    have h6 := eC (y := dd x y f.l) hb hε0 fun h => by
     obtain ⟨p1, p2⟩ := b1
     obtain ⟨p3, p4⟩ := b2
     rcases h with h | h <;> grind
    have h7 : e y f - e x f = qv y f.l - qv x f.l := rfl
    rw [h7, g1, qK, dV (show 0 < y - x by grind), Int.one_mul]
    exact h6
   have RY : ∀ x y, lo ≤ x → x < y → y ≤ hi → (b6 (e lo (bM f)) = 1 ∧ e x f < e y f) ∨ (b6 (e lo (bM f)) = -1 ∧ e y f < e x f) := fun x y h1 h2 h3 => by
    obtain ⟨g1, g2⟩ := mono x y h1 h2 h3
    rcases cF (e y f - e x f) with ⟨g3, g4⟩ | ⟨g3, g4⟩ | ⟨g3, g4⟩
    ·exact .inr ⟨by omega, by grind⟩
    ·omega
    ·exact .inl ⟨by omega, by grind⟩
   have dsg : ∀ x, lo ≤ x → x ≤ hi → b6 (e x (bM f)) = b6 (e lo (bM f)) := fun x h1 h2 => by
    have g4 := lH lo x (bM f).l
    have b2 := small (x - lo) _ (by grind) (by grind) (dsz lo x Rat.le_refl (by grind) h1 h2).2.2
    rw [← g4] at b2
    have h5 : e x (bM f) - e lo (bM f) = qv x (bM f).l - qv lo (bM f).l := rfl
    exact (eC hb hε0 fun h => by
     obtain ⟨p3, p4⟩ := b2
     rcases h with h | h <;> grind).1
   refine ⟨?_, fun h => ?_, ?_⟩
   ·refine G.aaL (P := fun x y => lo ≤ x → y ≤ hi → vt L x = vt L y + ind f x y) (fun x y z uG hyz p1 p2 hx hz => ?_) (fun B δ' hL x y hx hy uG hd h1 h2 => hL.turns x y hx hy uG hd) hlh Rat.le_refl Rat.le_refl
    rw [p1 hx (by grind), p2 (by grind) hz]
    have h1 := RY x y hx uG (by grind)
    have h2 := RY y z (by grind) hyz hz
    have h3 := aez (x := e x f) (y := e y f) (z := e z f) (by
     rcases h1 with ⟨q1, q2⟩ | ⟨q1, q2⟩ <;> rcases h2 with ⟨q3, q4⟩ | ⟨q3, q4⟩
     ·exact .inl ⟨q2, q4⟩
     ·omega
     ·omega
     ·exact .inr ⟨q2, q4⟩)
    have h4 : ind f x z = ind f x y + ind f y z := h3
    omega
   ·rcases RY lo hi Rat.le_refl hlh Rat.le_refl with ⟨q1, q2⟩ | ⟨q1, q2⟩ <;> grind
   ·have h1 := aa7 (RY lo hi Rat.le_refl hlh Rat.le_refl)
    unfold OO ind
    rw [dsg hi (by grind) Rat.le_refl]
    exact h1
 exact ⟨⟨fun x y hx hy uG hd => (main x y hx hy uG hd).1, fun x y hx hy uG hd => (main x y hx hy uG hd).2.1⟩, ⟨fun x y hx hy uG hd => (main x y hx hy uG hd).2.2⟩⟩
end ZX
end Pm
namespace Pm
namespace ZX
theorem AW : ∀ l : List Int, ∃ s : Nat, ∀ c ∈ l, c.natAbs ≤ 2 ^ s
 | [] => ⟨0, fun c hc => by cases hc⟩
 | a :: l => by
  obtain ⟨s, h⟩ := AW l
  refine ⟨s + a.natAbs, fun c hc => ?_⟩
  rcases List.mem_cons.1 hc with rfl | hc
  ·have h1 : c.natAbs < 2 ^ c.natAbs := Nat.lt_two_pow_self
   exact Nat.le_trans (Nat.le_of_lt h1) (Nat.pow_le_pow_right (by decide) (by omega))
  ·exact Nat.le_trans (h c hc) (Nat.pow_le_pow_right (by decide) (by omega))
theorem KI (B : Rat) : ∃ β : Nat, B ≤ 2 ^ β := by
 have h1 := Rat.lt_floor_add_one B
 refine ⟨(B.floor + 1).toNat, Rat.le_trans (Rat.le_of_lt h1) ?_⟩
 have h2 : ((2 ^ (B.floor + 1).toNat : Int) : Rat) = 2 ^ (B.floor + 1).toNat := by rw [Rat.intCast_pow]; rfl
 rw [← h2]
 refine Rat.intCast_le_intCast.2 ?_
 have h3 : (B.floor + 1).toNat < 2 ^ (B.floor + 1).toNat := Nat.lt_two_pow_self
 have h4 : ((2 ^ (B.floor + 1).toNat : Nat) : Int) = 2 ^ (B.floor + 1).toNat := by rw [Int.natCast_pow]; rfl
 omega
theorem vC (k : Nat) : ∃ δ : Rat, 0 < δ ∧ δ * 2 ^ k = 1 := by
 have h := gQ k
 have h1 : (1 / 2 ^ k) * (2 : Rat) ^ k = 1 := Rat.div_mul_cancel (Rat.ne_of_gt h)
 exact ⟨1 / 2 ^ k, (Rat.lt_div_iff h).2 (by grind), h1⟩
theorem min2 {a b : Rat} (ha : 0 < a) (hb : 0 < b) : ∃ c : Rat, 0 < c ∧ c ≤ a ∧ c ≤ b := by
 by_cases h : a ≤ b
 ·exact ⟨a, ha, Rat.le_refl, h⟩
 ·exact ⟨b, hb, by grind, Rat.le_refl⟩
theorem agP {P : Rat → Rat → Prop} (ht : ∀ a b c, a < b → b < c → P a b → P b c → P a c) (hs : ∀ B : Rat, 1 ≤ B → ∃ δ : Rat, 0 < δ ∧ ∀ a b, Ab a B → Ab b B → a < b → b - a ≤ δ → P a b) {a b : Rat} (fP : a < b) : P a b := by
 obtain ⟨B, hB, ha, hb⟩ := sF a b
 obtain ⟨δ, hδ, h⟩ := hs B hB
 exact ajH hδ ht h ha hb fP
theorem lip (p : ZX) (B : Rat) (hB : 1 ≤ B) : ∃ Q : Rat, 0 < Q ∧ ∀ a b, Ab a B → Ab b B → a ≤ b → Ab (e b p - e a p) ((b - a) * Q) := by
 obtain ⟨S, hS, hc⟩ := F0 p.l
 obtain ⟨h3, _⟩ := n4 hS hB p.l.length
 refine ⟨BX S B p.l.length + 1, by grind, fun a b ha hb fP => ?_⟩
 have h1 := (DO hS hB ha hb p.l hc).mono (show BX S B p.l.length ≤ BX S B p.l.length + 1 by grind)
 have h2 := lH a b p.l
 have h4 : e b p - e a p = qv b p.l - qv a p.l := rfl
 rw [h4, h2]
 exact Ab.mul ⟨by grind, Rat.le_refl⟩ h1
def DW (a b : ZX) : Prop := ∀ d, dv d a → dv d b → N d ≤ 1
theorem DW.mono {a b c d : ZX} (h : DW a b) (h1 : dv c a) (h2 : dv d b) : DW c d := fun x h3 h4 => h x (h3.trans h1) (h4.trans h2)
theorem aus {a b : ZX} (ha : a ≠ 0) (hb : b ≠ 0) (hc : DW a b) (B : Rat) : ∃ ε : Rat, 0 < ε ∧ ∀ t, Ab t B → kH ε (e t a) ∨ kH ε (e t b) := by
 obtain ⟨s1, h1⟩ := AW a.l
 obtain ⟨s2, h2⟩ := AW b.l
 obtain ⟨β, hβ⟩ := KI B
 obtain ⟨ε, h3, h4⟩ := vC (sk (s1 + s2) (N a + N b) (N a + N b) β)
 exact ⟨ε, h3, fun t ht => sep (s := s1 + s2) (l := N a + N b) (β := β) ha hb (fun c hc => Nat.le_trans (h1 c hc) (Nat.pow_le_pow_right (by decide) (by omega))) (fun c hc => Nat.le_trans (h2 c hc) (Nat.pow_le_pow_right (by decide) (by omega))) (Nat.le_refl _) (Nat.le_of_lt Nat.lt_two_pow_self) hc (ht.mono hβ) (by rw [h4]; exact Rat.le_refl)⟩
structure wX (f : ZX) (v : Rat → Nat) : Prop where
 ne : f ≠ 0
 cop : DW f (bM f)
 g : ∃ L, xG L f ∧ v = vt L
structure aut (f : ZX) (v : Rat → Nat) (B δ : Rat) : Prop where
 turns : ∀ s t, Ab s B → Ab t B → s < t → t - s ≤ δ → v s = v t + ind f s t
 simple : ∀ s t, Ab s B → Ab t B → s < t → t - s ≤ δ → e s f = 0 → e t f ≠ 0
 par : ∀ s t, Ab s B → Ab t B → s < t → t - s ≤ δ → OO f t = (if ind f s t = 0 then 1 else -1) * OO f s
def sg1 (n : Nat) : Int := if n % 2 = 0 then 1 else -1
theorem aeB (a b : Nat) : sg1 (a + b) = sg1 a * sg1 b := by
 unfold sg1
 split <;> split <;> split <;> omega
theorem OP (f : ZX) (s t : Rat) : ind f s t = 0 ∨ ind f s t = 1 := by unfold ind; split <;> simp
namespace wX
variable {f : ZX} {v : Rat → Nat} (S : wX f v)
include S
theorem qQ (B : Rat) : ∃ δ : Rat, 0 < δ ∧ aut f v B δ := by
 obtain ⟨L, G, rfl⟩ := S.g
 obtain ⟨s, h1⟩ := AW f.l
 obtain ⟨β, hβ⟩ := KI B
 obtain ⟨δ, h3, h4⟩ := vC (lk s (N f) (N f) β)
 obtain ⟨h5, h6⟩ := vB G S.ne h1 (Nat.le_refl _) (Nat.le_of_lt Nat.lt_two_pow_self) S.cop (δ := δ) (by rw [h4]; exact Rat.le_refl)
 exact ⟨δ, h3, fun s t hs ht => h5.turns s t (hs.mono hβ) (ht.mono hβ), fun s t hs ht => h5.simple s t (hs.mono hβ) (ht.mono hβ), fun s t hs ht => h6.par s t (hs.mono hβ) (ht.mono hβ)⟩
theorem dM {a b : Rat} (fP : a ≤ b) : v b ≤ v a := by
 obtain ⟨L, G, rfl⟩ := S.g
 exact G.dM fP
theorem const {a b : Rat} (fP : a < b) {σ : Int} (h0 : e a f = 0 ∨ b6 (e a f) = σ) (h1 : ∀ x, a < x → x ≤ b → b6 (e x f) = σ) : v a = v b := by
 obtain ⟨L, G, rfl⟩ := S.g
 exact G.const fP h0 h1
theorem root {s t : Rat} (lK : s < t) (h0 : e t f = 0) : v t < v s := by
 obtain ⟨L, G, rfl⟩ := S.g
 exact G.root lK h0
theorem par {s t : Rat} (h : s ≤ t) : OO f t = sg1 (v s - v t) * OO f s := by
 rcases Rat.le_iff_lt_or_eq.1 h with h1 | rfl
 ·refine agP (P := fun a b => OO f b = sg1 (v a - v b) * OO f a) (fun a b c h1 h2 p1 p2 => ?_) (fun B hB => ?_) h1
  ·have := S.dM (Rat.le_of_lt h1)
   have := S.dM (Rat.le_of_lt h2)
   rw [p2, p1, show v a - v c = (v a - v b) + (v b - v c) by omega, aeB]; grind
  ·obtain ⟨δ, hδ, hN⟩ := S.qQ B
   refine ⟨δ, hδ, fun a b ha hb fP hd => ?_⟩
   have h1 := hN.turns a b ha hb fP hd
   have h2 := hN.par a b ha hb fP hd
   rw [h2, show v a - v b = ind f a b by omega]
   rcases OP f a b with h3 | h3 <;> rw [h3] <;> rfl
 ·rw [Nat.sub_self]; show _ = 1 * _; omega
end wX
theorem aeC {f : ZX} {t : Rat} (h : e t f ≠ 0) : ∃ r : Rat, 0 < r ∧ ∀ x, t - r ≤ x → x ≤ t + r → b6 (e x f) = b6 (e t f) := by
 obtain ⟨B, hB, ha, hb⟩ := sF (t - 1) (t + 1)
 obtain ⟨Q, hQ, hl⟩ := lip f B hB
 have hε : ∃ ε : Rat, 0 < ε ∧ kH ε (e t f) := by
  by_cases h0 : 0 ≤ e t f
  ·exact ⟨e t f, by grind, .inr Rat.le_refl⟩
  ·exact ⟨-e t f, by grind, .inl (by grind)⟩
 obtain ⟨ε, hε, NY⟩ := hε
 have h1 : ε / (2 * Q) * (2 * Q) = ε := Rat.div_mul_cancel (by grind)
 have h2 : 0 < ε / (2 * Q) := (Rat.lt_div_iff (by grind)).2 (by grind)
 generalize ε / (2 * Q) = η at *
 obtain ⟨r, hr, BT, cI⟩ := min2 (show (0 : Rat) < 1 by decide) h2
 refine ⟨r, hr, fun x hx hy => ?_⟩
 have CC : Ab x B := eM ha hb (by grind) (by grind)
 have ht' : Ab t B := eM ha hb (by grind) (by grind)
 have hrQ : r * Q ≤ η * Q := Rat.mul_le_mul_of_nonneg_right cI (Rat.le_of_lt hQ)
 refine (eC NY hε fun hn => ?_).1
 by_cases hxt : t ≤ x
 ·have h3 := hl t x ht' CC hxt
  have h4 : (x - t) * Q ≤ r * Q := Rat.mul_le_mul_of_nonneg_right (by grind) (Rat.le_of_lt hQ)
  obtain ⟨p1, p2⟩ := h3
  rcases hn with hn | hn <;> grind
 ·have h3 := hl x t CC ht' (by grind)
  have h4 : (t - x) * Q ≤ r * Q := Rat.mul_le_mul_of_nonneg_right (by grind) (Rat.le_of_lt hQ)
  obtain ⟨p1, p2⟩ := h3
  rcases hn with hn | hn <;> grind
namespace wX
variable {f : ZX} {v : Rat → Nat} (S : wX f v)
include S
theorem lft {t : Rat} (h : e t f ≠ 0) {a : Rat} (hat : a < t) : ∃ s, a ≤ s ∧ s < t ∧ v s = v t ∧ b6 (e s f) = b6 (e t f) := by
 obtain ⟨B, hB, ha, hb⟩ := sF a t
 obtain ⟨δ, hδ, hN⟩ := S.qQ B
 obtain ⟨r1, BT, hc⟩ := aeC h
 obtain ⟨r2, cI, h1, h2⟩ := min2 hδ (show 0 < t - a by grind)
 obtain ⟨r, hr, h3, h4⟩ := min2 BT cI
 have hs : Ab (t - r) B := eM ha hb (by grind) (by grind)
 have g1 := hN.turns (t - r) t hs hb (by grind) (by grind)
 have g5 := hc (t - r) (by grind) (by grind)
 have g4 : ind f (t - r) t = 0 := if_neg fun hh => hh.2 g5.symm
 exact ⟨t - r, by grind, by grind, by omega, g5⟩
theorem small {s t Q : Rat} (lK : s < t) (hv : v s ≠ v t) (hQ : 0 < Q) (hl : ∀ a b, s ≤ a → a ≤ b → b ≤ t → Ab (e b f - e a f) ((b - a) * Q)) {x : Rat} (hx : s ≤ x) (hy : x ≤ t) : Ab (e x f) ((t - s) * Q) := by
 refine Classical.byContradiction fun hn => hv ?_
 have key : ∀ y, s ≤ y → y ≤ t → b6 (e y f) = b6 (e x f) := fun y h1 h2 => by
  have h3 : Ab (e y f - e x f) ((t - s) * Q) := by
   by_cases uG : x ≤ y
   ·exact (hl x y hx uG h2).mono (Rat.mul_le_mul_of_nonneg_right (by grind) (Rat.le_of_lt hQ))
   ·have h4 := (hl y x h1 (by grind) hy).mono (Rat.mul_le_mul_of_nonneg_right (show x - y ≤ t - s by grind) (Rat.le_of_lt hQ))
    obtain ⟨p1, p2⟩ := h4
    exact ⟨by grind, by grind⟩
  obtain ⟨p1, p2⟩ := h3
  have h0 : 0 ≤ (t - s) * Q := Rat.mul_nonneg (by grind) (Rat.le_of_lt hQ)
  generalize (t - s) * Q = M at *
  rcases cF (e x f) with ⟨h5, h6⟩ | ⟨h5, h6⟩ | ⟨h5, h6⟩
  ·rw [h6]
   refine fO ?_
   have : e x f < -M := Rat.not_le.1 fun h => hn ⟨h, by grind⟩
   grind
  ·exact absurd ⟨by grind, by grind⟩ hn
  ·rw [h6]
   refine dV ?_
   have : M < e x f := Rat.not_le.1 fun h => hn ⟨by grind, h⟩
   grind
 exact S.const lK (σ := b6 (e x f)) (.inr (key s Rat.le_refl (Rat.le_of_lt lK))) fun y h1 h2 => key y (Rat.le_of_lt h1) h2
end wX
theorem DX {p q : Prop} [Decidable p] [Decidable q] (h : p ↔ q) : (if p then 1 else 0 : Nat) = if q then 1 else 0 := by
 by_cases hp : p
 ·rw [if_pos hp, if_pos (h.1 hp)]
 ·rw [if_neg hp, if_neg (fun hq => hp (h.2 hq))]
theorem VE {c x y z : Rat} (hc : c ≠ 0) (h : c * x = y * z) : b6 x = b6 c * (b6 y * b6 z) := by
 have h1 : b6 c * b6 x = b6 y * b6 z := by rw [← qK, ← qK, h]
 rw [← h1]
 rcases cF c with ⟨h2, h3⟩ | ⟨h2, h3⟩ | ⟨h2, h3⟩
 ·rw [h3]; omega
 ·exact absurd h2 hc
 ·rw [h3]; omega
theorem wX.mul {f g h : ZX} {v w u : Rat → Nat} (Sf : wX f v) (Sg : wX g w) (Sh : wX h u) {c : Int} (hc : c ≠ 0) (he : K c * f = g * h) (auu : DW g h) {s t : Rat} (lK : s ≤ t) : v s + w t + u t = v t + w s + u s := by
 rcases Rat.le_iff_lt_or_eq.1 lK with h1 | rfl
 ·refine agP (P := fun s t => v s + w t + u t = v t + w s + u s) (fun a b c h1 h2 p1 p2 => by omega) (fun B hB => ?_) h1
  obtain ⟨δ1, hδ1, N1⟩ := Sf.qQ B
  obtain ⟨δ2, hδ2, N2⟩ := Sg.qQ B
  obtain ⟨δ3, hδ3, N3⟩ := Sh.qQ B
  obtain ⟨ε, hε, auz⟩ := aus Sg.ne Sh.ne auu B
  obtain ⟨Q1, hQ1, l1⟩ := lip g B hB
  obtain ⟨Q2, hQ2, l2⟩ := lip h B hB
  have hQ : 0 < Q1 + Q2 := by grind
  have e1 : ε / (2 * (Q1 + Q2)) * (2 * (Q1 + Q2)) = ε := Rat.div_mul_cancel (by grind)
  have e2 : 0 < ε / (2 * (Q1 + Q2)) := (Rat.lt_div_iff (by grind)).2 (by grind)
  generalize ε / (2 * (Q1 + Q2)) = δ4 at *
  obtain ⟨m1, GQ, a1, a2⟩ := min2 hδ1 hδ2
  obtain ⟨m2, hm2, a3, a4⟩ := min2 hδ3 e2
  obtain ⟨δ, hδ, a5, a6⟩ := min2 GQ hm2
  refine ⟨δ, hδ, fun s t hs ht eX hd => ?_⟩
  have t1 := N1.turns s t hs ht eX (by grind)
  have t2 := N2.turns s t hs ht eX (by grind)
  have t3 := N3.turns s t hs ht eX (by grind)
  have hcq : (c : Rat) ≠ 0 := fun h0 => hc (Rat.intCast_eq_zero_iff.1 h0)
  have sgm : ∀ x, b6 (e x f) = b6 (c : Rat) * (b6 (e x g) * b6 (e x h)) := fun x => by
   refine VE hcq ?_
   rw [← wT, ← he, wT, e_K]
  have dl : ∀ Q, 0 < Q → Q ≤ Q1 + Q2 → (t - s) * Q < ε := fun Q h0 h1 => by
   have h2 : (t - s) * Q ≤ δ4 * (Q1 + Q2) := by
    have h3 := Rat.mul_le_mul_of_nonneg_right (show t - s ≤ δ4 by grind) (Rat.le_of_lt h0)
    have h4 := Rat.mul_le_mul_of_nonneg_left h1 (Rat.le_of_lt e2)
    grind
   have h5 : δ4 * (Q1 + Q2) * 2 = ε := by rw [← e1]; grind
   grind
  have sc := cF (c : Rat)
  have GM : b6 (c : Rat) = 1 ∨ b6 (c : Rat) = -1 := by
   rcases sc with ⟨_, h⟩ | ⟨h, _⟩ | ⟨_, h⟩
   ·exact .inr h
   ·exact absurd h hcq
   ·exact .inl h
  have ez : ∀ (p : ZX) x, (e x p ≠ 0) = (b6 (e x p) ≠ 0) := fun p x => propext ⟨fun h h0 => h (gB.1 h0), fun h h0 => h (by rw [h0]; exact lG)⟩
  rcases auz s hs with hb | hb
  ·have hs2 := eC (y := e t g) hb hε fun hn => by
    obtain ⟨p1, p2⟩ := l1 s t hs ht (Rat.le_of_lt eX)
    have := dl Q1 hQ1 (by grind)
    rcases hn with hn | hn <;> grind
   have i1 : ind g s t = 0 := if_neg fun hh => hh.2 hs2.1
   have i2 : ind f s t = ind h s t := by
    refine DX ?_
    rw [ez f s, ez h s, sgm s, sgm t, hs2.1]
    have := l9 (e s g)
    have h7 : b6 (c : Rat) * b6 (e s g) = 1 ∨ b6 (c : Rat) * b6 (e s g) = -1 := by
     rcases GM with h | h <;> rw [h] <;> omega
    rw [← Int.mul_assoc, ← Int.mul_assoc]
    rcases h7 with h | h <;> rw [h]
    ·simp only [Int.one_mul]
    ·simp only [Int.neg_mul, Int.one_mul, ne_eq, Int.neg_eq_zero, Int.neg_inj]
   omega
  ·have hs2 := eC (y := e t h) hb hε fun hn => by
    obtain ⟨p1, p2⟩ := l2 s t hs ht (Rat.le_of_lt eX)
    have := dl Q2 hQ2 (by grind)
    rcases hn with hn | hn <;> grind
   have i1 : ind h s t = 0 := if_neg fun hh => hh.2 hs2.1
   have i2 : ind f s t = ind g s t := by
    refine DX ?_
    rw [ez f s, ez g s, sgm s, sgm t, hs2.1]
    have := l9 (e s h)
    have h7 : b6 (c : Rat) * b6 (e s h) = 1 ∨ b6 (c : Rat) * b6 (e s h) = -1 := by
     rcases GM with h | h <;> rw [h] <;> omega
    have cm : ∀ y : Int, b6 (c : Rat) * (y * b6 (e s h)) = b6 (c : Rat) * b6 (e s h) * y := fun y => by grind
    rw [cm, cm]
    rcases h7 with h | h <;> rw [h]
    ·simp only [Int.one_mul]
    ·simp only [Int.neg_mul, Int.one_mul, ne_eq, Int.neg_eq_zero, Int.neg_inj]
   omega
 ·omega
structure oJ (f : ZX) (v : Rat → Nat) (lo hi : Rat) : Prop where
 S : wX f v
 k : (lo = hi ∧ e lo f = 0) ∨ (lo < hi ∧ v lo = v hi + 1)
def gH (v : Rat → Nat) (lo hi t : Rat) : Prop := hi ≤ t ∨ (lo < t ∧ v t < v lo)
noncomputable def cr (U : Rat → Prop) (t : Rat) : Int := open Classical in if U t then (if ∃ s, s < t ∧ U s then -1 else 0) else 1
theorem n6 {U : Rat → Prop} {t : Rat} : cr U t = 1 ↔ ¬ U t := by
 unfold cr
 split
 ·rename_i h
  split <;> simp [h]
 ·rename_i h
  simp [h]
theorem AX {U : Rat → Prop} (hU : ∀ s t, U s → s ≤ t → U t) {t : Rat} : cr U t = -1 ↔ ∃ s, s < t ∧ U s := by
 unfold cr
 split
 ·split
  ·rename_i h; simp [h]
  ·rename_i h; simp [h]
 ·rename_i h
  refine ⟨fun h1 => absurd h1 (by decide), fun ⟨s, h1, h2⟩ => absurd (hU s t h2 (Rat.le_of_lt h1)) h⟩
theorem yA {U : Rat → Prop} {t : Rat} : cr U t = 0 ↔ U t ∧ ∀ s, s < t → ¬ U s := by
 unfold cr
 split
 ·rename_i h
  split
  ·rename_i h2
   refine ⟨fun h1 => absurd h1 (by decide), fun ⟨_, h3⟩ => ?_⟩
   obtain ⟨s, h4, h5⟩ := h2
   exact absurd h5 (h3 s h4)
  ·rename_i h2
   exact ⟨fun _ => ⟨h, fun s h3 h4 => h2 ⟨s, h3, h4⟩⟩, fun _ => rfl⟩
 ·rename_i h
  exact ⟨fun h1 => absurd h1 (by decide), fun h1 => absurd h1.1 h⟩
noncomputable def cu (U V : Rat → Prop) : Int := open Classical in if ∃ t, U t ∧ ¬ V t then -1 else if ∃ t, V t ∧ ¬ U t then 1 else 0
theorem RZ (U : Rat → Prop) : cu U U = 0 := by
 unfold cu
 rw [if_neg (fun ⟨t, h1, h2⟩ => h2 h1), if_neg (fun ⟨t, h1, h2⟩ => h2 h1)]
theorem aeD {U V : Rat → Prop} : cu U V = 0 ↔ ∀ t, U t ↔ V t := by
 unfold cu
 split
 ·rename_i h
  refine ⟨fun h1 => absurd h1 (by decide), fun h1 => ?_⟩
  obtain ⟨t, h2, h3⟩ := h
  exact absurd ((h1 t).1 h2) h3
 ·rename_i h
  split
  ·rename_i h'
   refine ⟨fun h1 => absurd h1 (by decide), fun h1 => ?_⟩
   obtain ⟨t, h2, h3⟩ := h'
   exact absurd ((h1 t).2 h2) h3
  ·rename_i h'
   exact ⟨fun _ t => ⟨fun h1 => Classical.byContradiction fun h2 => h ⟨t, h1, h2⟩, fun h1 => Classical.byContradiction fun h2 => h' ⟨t, h1, h2⟩⟩, fun _ => rfl⟩
theorem kO {v : Rat → Nat} {lo hi : Rat} : gH v lo hi hi := .inl Rat.le_refl
namespace oJ
variable {f : ZX} {v : Rat → Nat} {lo hi : Rat} (A : oJ f v lo hi)
include A
theorem le : lo ≤ hi := by
 rcases A.k with ⟨h, _⟩ | ⟨h, _⟩
 ·rw [h]; exact Rat.le_refl
 ·exact Rat.le_of_lt h
theorem up {s t : Rat} (h : gH v lo hi s) (lK : s ≤ t) : gH v lo hi t := by
 rcases h with h | ⟨h1, h2⟩
 ·exact .inl (by grind)
 ·have := A.S.dM lK
  exact .inr ⟨by grind, by omega⟩
theorem n7 {t : Rat} (h : t < lo ∨ (t = lo ∧ lo < hi)) : ¬ gH v lo hi t := by
 have := A.le
 rintro (h1 | ⟨h1, _⟩) <;> grind
theorem auA (t : Rat) : cr (gH v lo hi) t = if lo = hi then (if lo < t then -1 else if t < lo then 1 else 0) else if t ≤ lo then 1 else if hi < t then -1 else if v lo = v t then 1 else if e t f = 0 then 0 else -1 := by
 have hup := fun s t (h : gH v lo hi s) (h' : s ≤ t) => A.up h h'
 have hle := A.le
 split
 ·rename_i h
  subst h
  have hU : ∀ t, gH v lo lo t ↔ lo ≤ t := fun t => ⟨fun h => by rcases h with h | h <;> grind, fun h => .inl h⟩
  split
  ·exact (AX hup).2 ⟨lo, by assumption, .inl Rat.le_refl⟩
  ·split
   ·exact n6.2 (fun h => by have := (hU t).1 h; grind)
   ·exact yA.2 ⟨.inl (by grind), fun s h1 h2 => by have := (hU s).1 h2; grind⟩
 ·rename_i pW
  have eX : lo < hi := by grind
  have hk : v lo = v hi + 1 := by
   rcases A.k with ⟨h, _⟩ | ⟨_, h⟩
   ·exact absurd h pW
   ·exact h
  split
  ·rename_i h
   exact n6.2 (A.n7 (by grind))
  ·rename_i h1
   split
   ·rename_i h2
    exact (AX hup).2 ⟨hi, h2, kO⟩
   ·rename_i h2
    have b1 := A.S.dM (show lo ≤ t by grind)
    have b2 := A.S.dM (show t ≤ hi by grind)
    split
    ·rename_i h3
     refine n6.2 ?_
     rintro (h4 | ⟨_, h4⟩)
     ·have : t = hi := by grind
      subst this; omega
     ·omega
    ·rename_i h3
     split
     ·rename_i h4
      refine yA.2 ⟨.inr ⟨by grind, by omega⟩, fun s h5 h6 => ?_⟩
      have h7 := A.S.root h5 h4
      rcases h6 with h6 | ⟨h6, h8⟩
      ·grind
      ·omega
     ·rename_i h4
      obtain ⟨s, h5, h6, h7, _⟩ := A.S.lft h4 (show lo < t by grind)
      refine (AX hup).2 ⟨s, h6, .inr ⟨?_, by omega⟩⟩
      rcases Rat.le_iff_lt_or_eq.1 h5 with h8 | rfl
      ·exact h8
      ·omega
theorem half {m : Rat} (h1 : lo < m) (h2 : m < hi) : (v m < v lo → oJ f v lo m ∧ ∀ t, gH v lo m t ↔ gH v lo hi t) ∧ (¬ v m < v lo → oJ f v m hi ∧ ∀ t, gH v m hi t ↔ gH v lo hi t) := by
 have hk : v lo = v hi + 1 := by
  rcases A.k with ⟨h, _⟩ | ⟨_, h⟩
  ·grind
  ·exact h
 have b1 := A.S.dM (Rat.le_of_lt h1)
 have b2 := A.S.dM (Rat.le_of_lt h2)
 refine ⟨fun h => ⟨⟨A.S, .inr ⟨h1, by omega⟩⟩, fun t => ⟨?_, ?_⟩⟩, fun h => ⟨⟨A.S, .inr ⟨h2, by omega⟩⟩, fun t => ⟨?_, ?_⟩⟩⟩
 ·rintro (h3 | h3)
  ·have := A.S.dM h3
   exact .inr ⟨by grind, by omega⟩
  ·exact .inr h3
 ·rintro (h3 | h3)
  ·exact .inl (by grind)
  ·exact .inr h3
 ·rintro (h3 | ⟨h3, h4⟩)
  ·exact .inl h3
  ·exact .inr ⟨by grind, by omega⟩
 ·rintro (h3 | ⟨h3, h4⟩)
  ·exact .inl h3
  ·refine .inr ⟨?_, by omega⟩
   refine Rat.not_le.1 fun h5 => ?_
   have := A.S.dM h5
   omega
theorem exact (h : e hi f = 0) : oJ f v hi hi ∧ ∀ t, gH v hi hi t ↔ gH v lo hi t := by
 refine ⟨⟨A.S, .inl ⟨rfl, h⟩⟩, fun t => ⟨?_, ?_⟩⟩
 ·rintro (h3 | ⟨h3, _⟩)
  ·exact .inl h3
  ·exact .inl (by grind)
 ·rintro (h3 | ⟨h3, h4⟩)
  ·exact .inl h3
  ·refine .inl (Rat.not_lt.1 fun h5 => ?_)
   have h6 := A.S.root h5 h
   rcases A.k with ⟨h7, _⟩ | ⟨_, h7⟩
   ·grind
   ·omega
end oJ
end ZX
end Pm
namespace Pm
open Go Go.RowKit
section
variable {E : Env} {m : Nat} {G : Gs} {w0 : World} {S0 : c9}
def mx3 (p q r : PV) (K : PV → Prop) : Prop := ∃ k a b c, p = .int k a ∧ q = .int k b ∧ r = .int k c ∧ K (.int k (max (max a b) c))
@[simp] theorem arp {k : IntKind} {a b c : Int} {K : PV → Prop} : mx3 (.int k a) (.int k b) (.int k c) K = K (.int k (max (max a b) c)) := by
 apply propext
 constructor
 ·rintro ⟨k', a', b', c', h1, h2, h3, h⟩
  cases h1; cases h2; cases h3; exact h
 ·exact fun h => ⟨k, a, b, c, rfl, rfl, rfl, h⟩
def apz (o : Oper) (K : PS → Prop) (σ : PS) : Prop :=
 match o.op with
 | .call { callee := .builtin .max, args := ⟨[x, y, z]⟩, argTypes := _ } => mx3 (aQ σ.f x) (aQ σ.f y) (aQ σ.f z) fun v => K (σ.put o.dst v)
 | _ => False
end
@[simp] theorem apA {K : PS → Prop} {f : Nat → PV} {rows : Rows} {clk : Nat} {d : Option Tmp} {ty : TypeId} {pos : String} {af : Array Edge} {ts : Array TypeId} {x y z : Operand} :
  apz ⟨d, .call { callee := .builtin .max, args := ⟨[x, y, z]⟩, argTypes := ts }, ty, pos, af, none⟩ K ⟨f, rows, clk⟩ = mx3 (aQ f x) (aQ f y) (aQ f z) fun v => K ⟨put f d v, rows, clk⟩ := rfl
section
variable {E : Env} {w0 : World} {S0 : c9} {n : Nat} {G : Gs}
theorem B5 {id tl : Nat} {ops : Array Oper} {T : PS → Prop} {Q : Exit → Act → World → Prop} (fJ : oZ E n tl ops true = true) (htl : tl ≠ 0) {σ : PS} {a : Act} {w : World}
  (h : aN E ops.toList σ.clock 0 (ops.toList.take (ops.size - tl)) T ⟨σ.f, σ.rows, fun _ _ => False, fun _ _ => False⟩) (hR : Rel w0 S0 n G σ a w)
  (hT : ∀ σ' a' w', T σ' → Rel w0 S0 n G σ' a' w' → wpList E.P ops Q (ops.toList.drop (ops.size - tl)) a' w') : (Code.region id ops true).wp E.P Q a w := by
 simp only [oZ, Bool.and_eq_true, Bool.not_true, Bool.false_or] at fJ
 obtain ⟨ahn, rB, fJ⟩ := fJ
 have hd : ∀ o, o ∈ ops → ∀ t, o.dst = some t → t < n := by
  intro o ho t ht
  have := Array.all_eq_true_iff_forall_mem.1 ahn o ho
  simpa [ht] using this
 refine wp_region_any E.mixed ?_
 have G9 := hR.drew
 have hU0 : ∀ k (l : Array Bool), nJ w0 S0 n G (Ul E ops σ.clock k l) σ.f σ.rows a { w with drawn := w.drawn + 1 } := fun k l => G9.mono fun v hv => .inl hv
 have acp : ∀ (l : List Oper), rN E l = true → ∀ (i : Nat) (oi : Oper), l[i]? = some oi → cT E oi.op = true → oi.dst.isSome = true := fun l h i oi hi hn => by
  have := List.all_eq_true.1 h oi (List.mem_of_getElem? hi)
  rw [hn] at this; simp at this; exact Option.isSome_iff_exists.2 (by obtain ⟨x, hx⟩ := Option.isSome_iff_exists.1 this.1; exact ⟨x, hx⟩)
 rw [if_neg htl] at fJ rB
 have nI : ∀ i oi, i < ops.size - tl → ops[i]? = some oi → cT E oi.op = true → oi.dst.isSome = true := fun i oi h1 hi => acp _ rB i oi (by rw [List.getElem?_take, if_pos h1]; simpa using hi)
 simp only [Bool.and_eq_true, decide_eq_true_eq] at fJ
 obtain ⟨hle, hB⟩ := fJ
 simp only [Region.lexTailB, Bool.and_eq_true, decide_eq_true_eq] at hB
 obtain ⟨⟨⟨⟨ar4, vT⟩, hs⟩, hc⟩, aho⟩ := hB
 have hl := mT (c0 := σ.clock) (ops.toList.take (ops.size - tl)) 0 _ _ (fun j hj => by
  have hj' : j < ops.size - tl := by simpa using hj
  simp [hj']) rB (by simp [rk]) h
 have WW : HeadInv .any ops (ops.size - tl) (Array.replicate ops.size false) :=
  ⟨by simp, fun j oj _ hl => (by rw [getD_replicate_false] at hl; cases hl), fun t _ ht => getD_in (by simpa using ht) (getD_replicate_false _ _)⟩
 have uH : (ops.toList.take (ops.size - tl)).length = ops.size - tl := by simp
 have WX : (ops.toList.drop (ops.size - tl)).length = ops.size - (ops.size - tl) := by simp
 have H := pY (E := E) (md := .any) (n := ops.size - tl) (g := ops.size - (ops.size - tl)) nI (fun aY inv i hi KX t ht => tail_waits hs hc vT inv _ i rfl hi KX t ht) (ops.toList.take (ops.size - tl)) 0 _ _ (fun j hj => by
  rw [uH] at hj
  simp [hj]) (by rw [uH]; simp) WW (by rw [uH]; exact aho) hl
 have := jX (E := E) (md := .any) (g := ops.size - (ops.size - tl)) (Q := Q) (m := n) hd (fun aY st a' w' hL j1 => by
  obtain ⟨h1, h2⟩ := hL
  have h3 := hT _ a' w' h2 (j1.mono fun v hv => by have := LX hv; simpa using this)
  have h4 := wpAny_of_seq (md := .any) (Q' := Q) (ops.toList.drop (ops.size - tl)) (ops.size - tl) aY a' w' (fun j => by simp [List.getElem?_drop]) (by rw [WX]; exact h1) h3
  rwa [WX] at h4) _ _ _ _ _ (by simp) H (hU0 _ _)
 rw [uH, show ops.size - tl + (ops.size - (ops.size - tl)) = ops.size by omega] at this
 exact this
end
theorem W.apB {E : Env} {n : Nat} {tl : Nat → Nat} {Q : PX → PS → Prop} {f : Nat → PV} {rows : Rows} {clk : Nat} {id : Nat} {ops : List Oper} {y : Code} (m : Nat) {o : Oper} {r : List Oper} (hm : tl id = m + 1) (ho : ops.drop (ops.length - (m + 1)) = o :: r) (hg : o.guard = none)
  (h : ∀ K : PS → Prop, (∀ σ, W E n tl y Q σ → K σ) → go (aN E ops clk 0 (ops.take (ops.length - (m + 1))) (fun σ => BW E o (aL E ops r K) σ) ⟨f, rows, fun _ _ => False, fun _ _ => False⟩)) : W E n tl (.seq (.region id ops.toArray true) y) Q ⟨f, rows, clk⟩ := by
 refine W.seq ?_
 intro fJ w0 S0 G a w Q' hR hQ
 have ajW : oZ E n (tl id) ops.toArray true = true := by simpa [dY] using fJ
 have hd : ∀ o ∈ ops, ∀ t, o.dst = some t → t < n := fun o ho t ht => by
  simp only [oZ, Bool.and_eq_true] at ajW
  have := Array.all_eq_true_iff_forall_mem.1 ajW.1 o (by simpa using ho)
  simpa [ht] using this
 have h1 := h (fun σ => W E n tl y Q σ) fun _ h => h
 have rM : ∀ x ∈ o :: r, x ∈ ops := fun x hx => by rw [← ho] at hx; exact List.mem_of_mem_drop hx
 refine B5 (T := fun σ => BW E o (aL E ops r (fun σ => W E n tl y Q σ)) σ) ajW (by omega) (by rw [hm]; exact h1) hR fun σ' a' w' hT j1 => ?_
 rw [hm]
 have e : ops.toArray.toList.drop (ops.toArray.size - (m + 1)) = o :: r := by simpa using ho
 rw [e]
 unfold wpList
 rw [if_pos (by simp [Region.wanted, hg])]
 refine .inl (sA hT j1 (hd o (rM o (by simp))) fun σ2 a2 w2 hk hR2 => ?_)
 exact fT (E := E) (ops := ops.toArray) (fun σ3 a3 w3 hk3 hR3 => hQ .normal σ3 a3 w3 hk3 hR3) _ σ2 a2 w2 (fun o ho => hd o (rM o (by simp [ho]))) hk hR2
end Pm
namespace Go.Proofs.YtbbjgncblhfegaaGreat
open Go Pm
open ZX hiding N W
theorem eS {α β : Type} {c : Prop} [Decidable c] (f g : α → β) (x : α) : (if c then f else g) x = if c then f x else g x := by split <;> rfl
def K4 (v : Rat → Nat) : Nat → Rat → Rat → List (Rat × Rat)
 | 0, lo, hi => if v lo = v hi then [] else [(lo, hi)]
 | k + 1, lo, hi => if v lo = v hi then [] else if v lo = v hi + 1 then [(lo, hi)] else K4 v k lo ((lo + hi) / 2) ++ K4 v k ((lo + hi) / 2) hi
theorem vD {lo hi : Rat} (h : lo < hi) : lo < (lo + hi) / 2 ∧ (lo + hi) / 2 < hi := by
 have h1 : (lo + hi) / 2 * 2 = lo + hi := Rat.div_mul_cancel (by decide)
 exact ⟨by grind, by grind⟩
theorem uA {lo hi δ : Rat} {k : Nat} (h : hi - lo ≤ δ * 2 ^ (k + 1)) : (lo + hi) / 2 - lo ≤ δ * 2 ^ k ∧ hi - (lo + hi) / 2 ≤ δ * 2 ^ k := by
 have h1 : (lo + hi) / 2 * 2 = lo + hi := Rat.div_mul_cancel (by decide)
 rw [Rat.pow_succ] at h
 generalize (2 : Rat) ^ k = p at *
 exact ⟨by grind, by grind⟩
structure Gr (D : Nat) (B : Rat) (j : Nat) (q : Rat) : Prop where
 z : ∃ z : Int, q * ((D * 2 ^ j : Nat) : Int) = (z : Rat)
 b : Ab q B
theorem Gr.mono {D : Nat} {B q : Rat} {i j : Nat} (h : Gr D B i q) (hij : i ≤ j) : Gr D B j q := by
 obtain ⟨⟨z, hz⟩, hb⟩ := h
 obtain ⟨k, rfl⟩ : ∃ k, j = i + k := ⟨j - i, by omega⟩
 refine ⟨⟨z * (2 ^ k : Nat), ?_⟩, hb⟩
 rw [Rat.intCast_mul, ← hz, Nat.pow_add, ← Nat.mul_assoc, Int.natCast_mul (D * 2 ^ i), Rat.intCast_mul]
 grind
theorem Gr.GS {D : Nat} {B p q : Rat} {j : Nat} (hp : Gr D B j p) (hq : Gr D B j q) : Gr D B (j + 1) ((p + q) / 2) := by
 obtain ⟨⟨y, hy⟩, b1, b2⟩ := hp
 obtain ⟨⟨z, hz⟩, b3, b4⟩ := hq
 have h1 : (p + q) / 2 * 2 = p + q := Rat.div_mul_cancel (by decide)
 refine ⟨⟨y + z, ?_⟩, by grind, by grind⟩
 rw [Rat.intCast_add, ← hy, ← hz, Nat.pow_succ, ← Nat.mul_assoc, Int.natCast_mul (D * 2 ^ j), Rat.intCast_mul]
 have h2 : (((2 : Nat) : Int) : Rat) = 2 := rfl
 rw [h2]
 generalize (((D * 2 ^ j : Nat) : Int) : Rat) = M at *
 grind
theorem Gr.sq {D d β j : Nat} {q : Rat} (h : Gr D (2 ^ β) j q) (h0 : 1 ≤ D) (hD : D ≤ 2 ^ d) : SQ (β + d + j + 1) q := by
 obtain ⟨⟨z, hz⟩, hb⟩ := h
 have hM : 1 ≤ D * 2 ^ j := Nat.mul_pos h0 (Nat.two_pow_pos _)
 have hM2 : D * 2 ^ j ≤ 2 ^ (d + j) := by rw [Nat.pow_add]; exact Nat.mul_le_mul_right _ hD
 have hMq : (0 : Rat) < (((D * 2 ^ j : Nat) : Int) : Rat) := Rat.intCast_pos.2 (by omega)
 have hzb : z.natAbs ≤ 2 ^ (β + d + j) := by
  have h1 : Ab (z : Rat) (((2 ^ β * (D * 2 ^ j) : Nat) : Int) : Rat) := by
   rw [← hz, Int.natCast_mul (2 ^ β), Rat.intCast_mul, F9]
   exact hb.mul ⟨by grind, Rat.le_refl⟩
  obtain ⟨h2, h3⟩ := h1
  rw [← Rat.intCast_neg] at h2
  have h4 := Rat.intCast_le_intCast.1 h2
  have h5 := Rat.intCast_le_intCast.1 h3
  have h6 : 2 ^ β * (D * 2 ^ j) ≤ 2 ^ (β + d + j) := by
   rw [Nat.add_assoc, Nat.pow_add]; exact Nat.mul_le_mul_left _ hM2
  omega
 have e := OG (n := z) (d := ((D * 2 ^ j : Nat) : Int)) (by omega) hz.symm
 have pW : ((D * 2 ^ j : Nat) : Int) ≠ 0 := by omega
 have TX := qC z ((D * 2 ^ j : Nat) : Int) pW
 have G8 := qD z ((D * 2 ^ j : Nat) : Int) pW
 rw [if_neg (by omega)] at TX G8
 rw [e] at TX G8
 have b1 : q.num.natAbs ≤ z.natAbs := by rw [TX]; exact Int.natAbs_ediv_le_natAbs _ _
 have b2 : ((q.den : Int)).natAbs ≤ D * 2 ^ j := by rw [G8]; exact Nat.le_trans (Int.natAbs_ediv_le_natAbs _ _) (by omega)
 have hp : ∀ i, 2 ^ i < 2 ^ (i + 1) := fun i => Nat.pow_lt_pow_right (by decide) (by omega)
 refine ⟨cO (by decide) (Nat.lt_of_le_of_lt (Nat.le_trans b1 hzb) (hp _)), cO (by decide) (Nat.lt_of_le_of_lt (Nat.le_trans b2 hM2) ?_), by omega⟩
 exact Nat.pow_lt_pow_right (by decide) (by omega)
structure Cut (v : Rat → Nat) (B δ : Rat) : Prop where
 dM : ∀ a b, a ≤ b → v b ≤ v a
 qQ : ∀ a b, Ab a B → Ab b B → a < b → b - a ≤ δ → v a ≤ v b + 1
theorem Cut.leaf {v : Rat → Nat} {B δ : Rat} (C : Cut v B δ) {lo hi : Rat} (D7 : Ab lo B) (SG : Ab hi B) (h : lo < hi) (hd : hi - lo ≤ δ) (pW : v lo ≠ v hi) : v lo = v hi + 1 := by
 have := C.qQ lo hi D7 SG h hd
 have := C.dM lo hi (Rat.le_of_lt h)
 omega
theorem n8 {v : Rat → Nat} {D : Nat} {B δ : Rat} (C : Cut v B δ) : ∀ (k j : Nat) (lo hi : Rat), Gr D B j lo → Gr D B j hi → lo < hi → hi - lo ≤ δ * 2 ^ k →
  (∀ p ∈ K4 v k lo hi, Gr D B (j + k) p.1 ∧ Gr D B (j + k) p.2 ∧ lo ≤ p.1 ∧ p.1 < p.2 ∧ p.2 ≤ hi ∧ v p.1 = v p.2 + 1) ∧ (K4 v k lo hi).length = v lo - v hi ∧ (K4 v k lo hi).Pairwise fun p q => p.2 ≤ q.1
 | 0, j, lo, hi, g1, g2, h, hd => by
  rw [K4]
  split
  ·rename_i he
   exact ⟨fun p hp => absurd hp List.not_mem_nil, by rw [he]; simp, List.Pairwise.nil⟩
  ·rename_i he
   have := C.leaf g1.b g2.b h (by rw [Rat.pow_zero, Rat.mul_one] at hd; exact hd) he
   refine ⟨fun p hp => ?_, by simp; omega, List.pairwise_singleton _ _⟩
   rw [List.mem_singleton] at hp; subst hp
   exact ⟨g1, g2, Rat.le_refl, h, Rat.le_refl, this⟩
 | k + 1, j, lo, hi, g1, g2, h, hd => by
  rw [K4]
  split
  ·rename_i he
   exact ⟨fun p hp => absurd hp List.not_mem_nil, by rw [he]; simp, List.Pairwise.nil⟩
  ·rename_i he
   split
   ·rename_i DL
    refine ⟨fun p hp => ?_, by simp; omega, List.pairwise_singleton _ _⟩
    rw [List.mem_singleton] at hp; subst hp
    exact ⟨g1.mono (by omega), g2.mono (by omega), Rat.le_refl, h, Rat.le_refl, DL⟩
   ·obtain ⟨m1, m2⟩ := vD h
    obtain ⟨d1, d2⟩ := uA hd
    have gm := g1.GS g2
    obtain ⟨a1, a2, a3⟩ := n8 C k (j + 1) lo ((lo + hi) / 2) (g1.mono (by omega)) gm m1 d1
    obtain ⟨b1, b2, b3⟩ := n8 C k (j + 1) ((lo + hi) / 2) hi gm (g2.mono (by omega)) m2 d2
    have n1 := C.dM lo ((lo + hi) / 2) (Rat.le_of_lt m1)
    have n2 := C.dM ((lo + hi) / 2) hi (Rat.le_of_lt m2)
    rw [show j + 1 + k = j + (k + 1) by omega] at a1 b1
    generalize (lo + hi) / 2 = m at *
    refine ⟨fun p hp => ?_, by rw [List.length_append, a2, b2]; omega, List.pairwise_append.2 ⟨a3, b3, fun p hp q hq => ?_⟩⟩
    ·rcases List.mem_append.1 hp with hp | hp
     ·obtain ⟨c1, c2, c3, c4, c5, c6⟩ := a1 p hp
      exact ⟨c1, c2, c3, c4, by grind, c6⟩
     ·obtain ⟨c1, c2, c3, c4, c5, c6⟩ := b1 p hp
      exact ⟨c1, c2, by grind, c4, c5, c6⟩
    ·obtain ⟨c1, c2, c3, c4, c5, c6⟩ := a1 p hp
     obtain ⟨d1, d2, d3, d4, d5, d6⟩ := b1 q hq
     grind
theorem SQ.mono {u w : Nat} {q : Rat} (h : SQ u q) (hu : u ≤ w) : SQ w q := ⟨Nat.le_trans h.n2 hu, Nat.le_trans h.d2 hu, Nat.le_trans h.hu hu⟩
theorem SQ.LLs {u : Nat} {q : Rat} (h : SQ u q) {k : Nat} (hu : u ≤ k) : sz LL q.num ≤ k ∧ sz LL (q.den : Int) ≤ k := ⟨Nat.le_trans h.nL hu, Nat.le_trans h.dL hu⟩
theorem SQ.LLt {u : Nat} {q : Rat} (h : SQ u q) {k : Nat} (hu : u < k) : sz LL q.num < k ∧ sz LL (q.den : Int) < k := ⟨Nat.lt_of_le_of_lt h.nL hu, Nat.lt_of_le_of_lt h.dL hu⟩
structure mP (s n : Nat) (f : ZX) : Prop where
 lay : oO s n f
 tS : 1 ≤ n
 nf : Nf f
 sq : Go.Proofs.YtbbjgncblhfegaaGreat.sq f = f
 hs : s ≤ 5000000
namespace mP
variable {s n : Nat} {f : ZX} (I : mP s n f)
include I
theorem ch : Ch s n f := ⟨I.lay.bz, I.lay.hn, I.tS, Nat.le_trans (Nat.mul_le_mul_right _ (by unfold qb; omega)) I.lay.hC⟩
theorem s1 : 1 ≤ s := by
 have h1 := I.lay.hs
 have h2 := I.tS
 rcases Nat.eq_zero_or_pos s with h | h
 ·rw [h] at h1; simp at h1; omega
 ·exact h
theorem hb : ∀ p ∈ bC f, BZ 4500000000 n p := I.ch.all.1
theorem hl : (bC f).length ≤ 21 := I.ch.all.2
theorem gz1 : gz f (bM f) = 1 := by
 have := apu I.nf.ne
 rwa [I.sq] at this
theorem cop : DW f (bM f) := fun d h1 h2 => by
 have h3 := (gP f (bM f)).least h1 h2
 rw [I.gz1] at h3
 have := h3.qT ZX.r6
 rwa [ZX.AA] at this
theorem U9 : xG (bC f) f := I.ch.U9 I.nf.ne I.gz1
theorem S : wX f (vt (bC f)) := ⟨I.nf.ne, I.cop, _, I.U9, rfl⟩
theorem szf : ∀ c ∈ f.l, c.natAbs ≤ 2 ^ s := fun c hc => by
 have h1 := kY (b := 2) (by decide) c
 have h2 := Nat.pow_le_pow_right (show 0 < 2 by decide) (I.ch.bz.sz c hc)
 omega
theorem cut (β : Nat) : ∃ δ : Rat, 0 < δ ∧ δ * 2 ^ lk s n 5 β = 1 ∧ Cut (vt (bC f)) (2 ^ β) δ := by
 obtain ⟨δ, h1, h2⟩ := vC (lk s n 5 β)
 have hn := I.ch.hn
 obtain ⟨h3, _⟩ := vB I.U9 (s := s) (n := n) (l := 5) (β := β) I.nf.ne I.szf I.ch.bz.N (by omega) I.cop (by rw [h2]; exact Rat.le_refl)
 refine ⟨δ, h1, h2, fun a b fP => I.U9.dM fP, fun a b ha hb fP hd => ?_⟩
 have := h3.turns a b ha hb fP hd
 rcases OP f a b with h4 | h4 <;> omega
end mP
section
variable {c : List ZX} {n u : Nat} {p q : Rat} (hb : ∀ p ∈ c, BZ 4500000000 n p) (hn : n ≤ 20) (hl : c.length ≤ 21) (hp : SQ u p) (hq : SQ u q) (hu : u ≤ 1000000000)
include hb hn hl hp hq hu
theorem ajX : aK env.P 106 [CH c, RT p, RT q] (.int .i64 (if q < p then 0 else (vt c p : Int) - vt c q)) := by
 have z1 := U0 hq.nL hq.dL hp.nL hp.dL (by omega) (j8 q) (j8 p) ⟨hq.nL, hq.dL⟩ ⟨hp.nL, hp.dL⟩
 have b1 := F2 (by omega) z1 (aaW hb hn hl hp hu) (aaW hb hn hl hq hu)
 rw [AS, AS] at b1
 simp only [iR] at b1
 exact b1
theorem aa8 : aK env.P 59 [aI zq c, RR p, RR q] (.int .i64 (if q < p then 0 else (vt c p : Int) - vt c q)) := by
 have yy : ∀ {v : Int}, sz 2 v ≤ u → sz 2 v ≤ YY := fun h => by simp only [YY]; omega
 have b1 := J9 (yy hp.n2) (yy hp.d2) (yy hq.n2) (yy hq.d2) (by omega) (aaV hb hn hl hp hu) (aaV hb hn hl hq hu)
 have hcm : (q.num * (p.den : Int) < p.num * (q.den : Int)) = (q < p) := propext (by rw [← iR]; exact mU.symm)
 rw [AS, AS] at b1
 simp only [hcm] at b1
 rw [cG, cG]
 exact b1
end
abbrev tc (q : Rat) : List PV := [.bool (decide (q.num < 0)), us (aR LL q.num.natAbs), .bool (decide ((q.den : Int) < 0)), us (aR LL (q.den : Int).natAbs)]
def ga (f : ZX) (p : Rat × Rat) : List PV := Po f.l :: (tc p.1 ++ tc p.2)
@[simp] theorem auF {f : ZX} {p : Rat × Rat} : ga f p = Po f.l :: (tc p.1 ++ tc p.2) := rfl
@[simp] theorem vE {f : ZX} {l : List (Rat × Rat)} : bB 9 (emap (ga f) l) = True := cZ fun _ => rfl
@[simp] theorem ajY {v e n : Nat} {f : ZX} {l : List (Rat × Rat)} : cP (some ⟨v, e, n, emap (ga f) l⟩) = True := cM fun _ => rfl
theorem GB {f : ZX} {l : List (Rat × Rat)} : ∀ x ∈ emap (ga f) l, ∀ p ∈ x, bW p = true := fun x hx p hp => by
 simp only [emap, List.mem_map] at hx
 obtain ⟨r, _, rfl⟩ := hx
 simp at hp
 rcases hp with rfl | rfl | rfl | rfl | rfl | rfl | rfl | rfl | rfl <;> rfl
theorem aa9 {f : ZX} {c : List ZX} {lo hi : Rat} : gD env.P 85 [Po f.l, CH c, RT lo, RT hi, .int .i64 0] 44 9 [] := by
 show gD env.P _ [Po f.l, .rd [aI zp c], T2 lo.num lo.den, T2 hi.num hi.den, .int .i64 0] _ _ _
 generalize lo.num = ln at *
 generalize (lo.den : Int) = ld at *
 generalize hi.num = hn at *
 generalize (hi.den : Int) = hd at *
 generalize aI zp c = X at *
 refine iF (E := env) (fun id => if id = 5 then 2 else if id = 8 then 2 else 0) (t := 10) [(0, Po f.l), (1, .rd [X]), (2, T2 ln ld), (3, T2 hn hd), (4, .int .i64 0)] Tryz.func85 rfl (by kernel_rfl) (by kernel_rfl) (show 5 ≤ 48 by decide) rfl (by simp) ?_
 refine W.sr ?_; simp (disch := omega) [gw]; refine W.lx [0, 1, 4, 7, 8] ?_; simp
 refine W.seq ?_
 refine W.sr ?_; simp (disch := omega) [gw]; refine W.lx [0, 1, 4, 7, 8, 13] ?_; simp
 refine W.block ?_
 refine W.sr ?_; simp (disch := omega) [gw]; refine W.lx [0, 1, 4, 7, 8, 13, 14] ?_; simp
 refine W.cond ⟨_, rfl, fun h => ?_, fun h => ?_⟩
 ·refine W.sr ?_; simp (disch := omega) [gw]; refine W.lx [10] ?_; simp
  refine W.nil 10 10 44 9 (by simp) (by decide) (fun K hK => ?_)
  simp
  refine hK _ ?_
  refine W.ret ?_
  exact ⟨10, _, by simp; exact rfl, by simp, fun x hx => by cases hx⟩
 ·simp at h
theorem aeE {s n : Nat} {f : ZX} (I : mP s n f) {c : List ZX} {lo hi : Rat} {u : Nat} (q1 : SQ u lo) (q2 : SQ u hi) (hu : u ≤ 1000000000) : gD env.P 85 [Po f.l, CH c, RT lo, RT hi, .int .i64 1] 44 9 (emap (ga f) [(lo, hi)]) := by
 have N1 := iG (x := f.l) (I.ch.bz.pb (by have := I.hs; omega) (by have := I.ch.hn; omega))
 rw [f.c] at N1
 obtain ⟨l1, l2⟩ := q1.LLt (show u < 1099511627770 by omega)
 obtain ⟨l3, l4⟩ := q2.LLt (show u < 1099511627770 by omega)
 have M1 := AO l1 l2
 have M2 := AO l3 l4
 rw [j8] at M1 M2
 rw [show emap (ga f) [(lo, hi)] = [Po f.l :: (tc lo ++ tc hi)] from rfl]
 show gD env.P _ [Po f.l, .rd [aI zp c], T2 lo.num lo.den, T2 hi.num hi.den, .int .i64 1] _ _ _
 replace M1 : aK env.P 117 [T2 lo.num lo.den, .sl []] (T2 lo.num lo.den) := M1
 replace M2 : aK env.P 117 [T2 hi.num hi.den, .sl []] (T2 hi.num hi.den) := M2
 clear l1 l2 l3 l4 q1 q2
 simp only [tc]
 generalize lo.num = ln at *
 generalize (lo.den : Int) = ld at *
 generalize hi.num = hn at *
 generalize (hi.den : Int) = hd at *
 generalize aI zp c = X at *
 refine iF (E := env) (fun id => if id = 5 then 2 else if id = 8 then 2 else 0) (t := 10) [(0, Po f.l), (1, .rd [X]), (2, T2 ln ld), (3, T2 hn hd), (4, .int .i64 1)] Tryz.func85 rfl (by kernel_rfl) (by kernel_rfl) (show 5 ≤ 48 by decide) rfl (by simp) ?_
 refine W.sr ?_; simp (disch := omega) [gw]; refine W.lx [0, 1, 4, 7, 8] ?_; simp
 refine W.seq ?_
 refine W.sr ?_; simp (disch := omega) [gw]; refine W.lx [0, 1, 4, 7, 8, 13] ?_; simp
 refine W.block ?_
 refine W.sr ?_; simp (disch := omega) [gw]; refine W.lx [0, 1, 4, 7, 8, 13, 14] ?_; simp
 refine W.cond ⟨_, rfl, fun h => ?_, fun h => ?_⟩
 ·simp at h
 ·refine W.sr ?_; simp (disch := omega) [gw]; refine W.lx [0, 1, 4, 7, 8, 16] ?_; simp
  refine W.cond ⟨_, rfl, fun h => ?_, fun h => ?_⟩
  ·refine W.apB 1 rfl rfl rfl (fun K hK => ?_)
   simp (disch := omega) [gw]
   refine aA N1 ?_
   simp (disch := omega) [gw]
   refine aA M1 ?_
   simp (disch := omega) [gw]
   refine aA M2 ?_
   simp (disch := omega) [gw]
   refine W.lw [10] hK ?_; clear hK K; simp
   refine W.ret ?_
   exact ⟨25, _, by simp; exact rfl, by simp, fun x hx p hp => by
    simp at hx; subst hx
    simp at hp
    rcases hp with rfl | rfl | rfl | rfl | rfl | rfl | rfl | rfl | rfl <;> rfl⟩
  ·simp at h
theorem aba {f : ZX} {c : List ZX} {lo hi : Rat} {n k : Int} {la lb : List (Rat × Rat)} (hn : 2 ≤ n ∧ n ≤ 21) (hk : 0 ≤ k ∧ k ≤ n) (MW : la.length ≤ 21) (hlb : lb.length ≤ 21)
  (M : aK env.P 118 [RT lo, RT hi] (RT ((lo + hi) / 2))) (B : aK env.P 106 [CH c, RT lo, RT ((lo + hi) / 2)] (.int .i64 k))
  (h1 : gD env.P 85 [Po f.l, CH c, RT lo, RT ((lo + hi) / 2), .int .i64 k] 44 9 (emap (ga f) la)) (h2 : gD env.P 85 [Po f.l, CH c, RT ((lo + hi) / 2), RT hi, .int .i64 (n - k)] 44 9 (emap (ga f) lb)) :
  gD env.P 85 [Po f.l, CH c, RT lo, RT hi, .int .i64 n] 44 9 (emap (ga f) (la ++ lb)) := by
 rw [← wE]
 have el1 : (emap (ga f) la).length ≤ 21 := by simpa [emap] using MW
 have el2 : (emap (ga f) lb).length ≤ 21 := by simpa [emap] using hlb
 have p1 := GB (f := f) (l := la)
 have p2 := GB (f := f) (l := lb)
 have a1 : bB 9 (emap (ga f) la) = True := vE
 have a2 : bB 9 (emap (ga f) lb) = True := vE
 show gD env.P _ [Po f.l, .rd [aI zp c], T2 lo.num lo.den, T2 hi.num hi.den, .int .i64 n] _ _ _
 replace M : aK env.P 118 [T2 lo.num lo.den, T2 hi.num hi.den] (T2 ((lo + hi) / 2).num ((lo + hi) / 2).den) := M
 replace B : aK env.P 106 [.rd [aI zp c], T2 lo.num lo.den, T2 ((lo + hi) / 2).num ((lo + hi) / 2).den] (.int .i64 k) := B
 replace h1 : gD env.P 85 [Po f.l, .rd [aI zp c], T2 lo.num lo.den, T2 ((lo + hi) / 2).num ((lo + hi) / 2).den, .int .i64 k] 44 9 (emap (ga f) la) := h1
 replace h2 : gD env.P 85 [Po f.l, .rd [aI zp c], T2 ((lo + hi) / 2).num ((lo + hi) / 2).den, T2 hi.num hi.den, .int .i64 (n - k)] 44 9 (emap (ga f) lb) := h2
 generalize ((lo + hi) / 2).num = mn at *
 generalize (((lo + hi) / 2).den : Int) = md at *
 generalize lo.num = ln at *
 generalize (lo.den : Int) = ld at *
 generalize hi.num = vT at *
 generalize (hi.den : Int) = hd at *
 generalize aI zp c = X at *
 generalize emap (ga f) la = ea at *
 generalize emap (ga f) lb = eb at *
 have w1 : IntKind.wrap .i64 (n - k) = n - k := wrap_i64 (by omega) (by omega)
 refine iF (E := env) (fun id => if id = 5 then 2 else if id = 8 then 2 else 0) (t := 10) [(0, Po f.l), (1, .rd [X]), (2, T2 ln ld), (3, T2 vT hd), (4, .int .i64 n)] Tryz.func85 rfl (by kernel_rfl) (by kernel_rfl) (show 5 ≤ 48 by decide) rfl (by simp) ?_
 refine W.sr ?_; simp (disch := omega) [gw]; refine W.lx [0, 1, 4, 7, 8] ?_; simp
 refine W.seq ?_
 refine W.sr ?_; simp (disch := omega) [gw]; refine W.lx [0, 1, 4, 7, 8, 13] ?_; simp
 refine W.block ?_
 refine W.sr ?_; simp (disch := omega) [gw]; refine W.lx [0, 1, 4, 7, 8, 13, 14] ?_; simp
 refine W.cond ⟨_, rfl, fun h => ?_, fun h => ?_⟩
 ·simp at h; omega
 ·refine W.sr ?_; simp (disch := omega) [gw]; refine W.lx [0, 1, 4, 7, 8, 16] ?_; simp
  refine W.cond ⟨_, rfl, fun h => ?_, fun h => ?_⟩
  ·simp at h; omega
  ·refine W.skip ?_
   refine W.sr ?_
   simp (disch := omega) [gw]
   refine aA M ?_
   simp (disch := omega) [gw]
   refine W.lx [0, 1, 4, 7, 8, 11] ?_; simp
   refine W.sr ?_
   simp (disch := omega) [gw]
   refine aA B ?_
   simp (disch := omega) [gw]
   refine W.lx [0, 1, 4, 7, 8, 11, 12] ?_; simp
   refine W.sd ?_
   rw [show (if 8 = 5 then 2 else if 8 = 8 then 2 else 0) = 1 + 1 from rfl, dN]
   simp (disch := omega) [gw]
   refine CS h1 rfl trivial ?_
   simp (disch := omega) [gw, w1, eS]
   refine CS h2 rfl trivial ?_
   simp (disch := omega) [gw, a1, a2, eS]
   refine W.lx [10] ?_; simp
   refine W.ret ?_
   exact ⟨38, 5, by simp, by simp, fun x hx => by
    rcases List.mem_append.1 hx with hx | hx
    ·exact p1 x hx
    ·exact p2 x hx⟩
theorem abb {s n : Nat} {f : ZX} (I : mP s n f) {D d β J : Nat} {δ : Rat} (uK : 1 ≤ D) (hD : D ≤ 2 ^ d) (C : Cut (vt (bC f)) (2 ^ β) δ) (hu : β + d + J + 1 ≤ 1000000000) : ∀ (k j : Nat) (lo hi : Rat), j + k ≤ J → Gr D (2 ^ β) j lo → Gr D (2 ^ β) j hi → lo < hi → hi - lo ≤ δ * 2 ^ k →
  gD env.P 85 [Po f.l, CH (bC f), RT lo, RT hi, .int .i64 ((vt (bC f) lo : Int) - vt (bC f) hi)] 44 9 (emap (ga f) (K4 (vt (bC f)) k lo hi)) := by
 have leaf : ∀ (j : Nat) (lo hi : Rat), j ≤ J → Gr D (2 ^ β) j lo → Gr D (2 ^ β) j hi → vt (bC f) lo = vt (bC f) hi + 1 → gD env.P 85 [Po f.l, CH (bC f), RT lo, RT hi, .int .i64 ((vt (bC f) lo : Int) - vt (bC f) hi)] 44 9 (emap (ga f) [(lo, hi)]) := fun j lo hi hj g1 g2 he => by
  rw [show (vt (bC f) lo : Int) - vt (bC f) hi = 1 by omega]
  exact aeE I ((g1.mono hj).sq uK hD) ((g2.mono hj).sq uK hD) hu
 have KJ : ∀ (lo hi : Rat), vt (bC f) lo = vt (bC f) hi → gD env.P 85 [Po f.l, CH (bC f), RT lo, RT hi, .int .i64 ((vt (bC f) lo : Int) - vt (bC f) hi)] 44 9 (emap (ga f) []) := fun lo hi he => by
  rw [show (vt (bC f) lo : Int) - vt (bC f) hi = 0 by omega]
  exact aa9
 intro k
 induction k with
 | zero =>
  intro j lo hi hj g1 g2 eX hd
  rw [K4]
  by_cases he : vt (bC f) lo = vt (bC f) hi
  ·rw [if_pos he]; exact KJ lo hi he
  ·rw [if_neg he]; exact leaf j lo hi (by omega) g1 g2 (C.leaf g1.b g2.b eX (by rw [Rat.pow_zero, Rat.mul_one] at hd; exact hd) he)
 | succ k ih =>
  intro j lo hi hj g1 g2 eX hd
  rw [K4]
  by_cases he : vt (bC f) lo = vt (bC f) hi
  ·rw [if_pos he]; exact KJ lo hi he
  ·rw [if_neg he]
   by_cases DL : vt (bC f) lo = vt (bC f) hi + 1
   ·rw [if_pos DL]; exact leaf j lo hi (by omega) g1 g2 DL
   ·rw [if_neg DL]
    obtain ⟨m1, m2⟩ := vD eX
    obtain ⟨d1, d2⟩ := uA hd
    have gm := g1.GS g2
    have n1 := C.dM lo ((lo + hi) / 2) (Rat.le_of_lt m1)
    have n2 := C.dM ((lo + hi) / 2) hi (Rat.le_of_lt m2)
    have hv1 := Nat.le_trans (aaZ (bC f) lo) I.hl
    obtain ⟨_, a2, _⟩ := n8 C k (j + 1) lo ((lo + hi) / 2) (g1.mono (by omega)) gm m1 d1
    obtain ⟨_, b2, _⟩ := n8 C k (j + 1) ((lo + hi) / 2) hi gm (g2.mono (by omega)) m2 d2
    have r1 := ih (j + 1) lo ((lo + hi) / 2) (by omega) (g1.mono (by omega)) gm m1 d1
    have r2 := ih (j + 1) ((lo + hi) / 2) hi (by omega) gm (g2.mono (by omega)) m2 d2
    have q1 : SQ (β + d + J + 1) lo := (g1.mono (by omega)).sq uK hD
    have q2 : SQ (β + d + J + 1) hi := (g2.mono (by omega)).sq uK hD
    have q3 : SQ (β + d + J + 1) ((lo + hi) / 2) := (gm.mono (by omega)).sq uK hD
    have hM := aa0 (q1.LLs (Nat.le_refl _)) (q2.LLs (Nat.le_refl _)) (by omega)
    have hB := ajX I.hb I.ch.hn I.hl q1 q3 hu
    rw [if_neg (Rat.not_lt.2 (Rat.le_of_lt m1))] at hB
    refine aba (n := (vt (bC f) lo : Int) - vt (bC f) hi) (k := (vt (bC f) lo : Int) - vt (bC f) ((lo + hi) / 2)) (by omega) (by omega) (by omega) (by omega) hM hB r1 ?_
    rw [show (vt (bC f) lo : Int) - vt (bC f) hi - ((vt (bC f) lo : Int) - vt (bC f) ((lo + hi) / 2)) = (vt (bC f) ((lo + hi) / 2) : Int) - vt (bC f) hi by omega]
    exact r2
end Go.Proofs.YtbbjgncblhfegaaGreat
namespace Go.Proofs.YtbbjgncblhfegaaGreat
open Go Pm
open ZX hiding N W
section
variable {C : List ZX} {u : Nat} (hb : ∀ p ∈ C, BZ 4500000000 20 p) (hl : C.length ≤ 21) {p q : Rat} (hp : SQ u p) (hq : SQ u q) (hu : u ≤ 1000000000)
include hb hl hp hu
include hq
end
def l1 (x : List Int) : Nat := (x.map Int.natAbs).sum
theorem gY (a : Int) (x : List Int) : l1 (a :: x) = a.natAbs + l1 x := by simp [l1]
theorem GC : l1 [] = 0 := rfl
theorem GD : ∀ x : List Int, l1 (aM x) ≤ l1 x
 | [] => Nat.le_refl _
 | a :: x => by
  have := GD x
  rw [aM]
  split
  ·rw [GC]; omega
  ·rw [gY, gY]; omega
theorem AY {α : Type} (f g : α → Int) : ∀ l : List α, l1 (l.map fun k => f k + g k) ≤ l1 (l.map f) + l1 (l.map g)
 | [] => Nat.le_refl _
 | x :: l => by
  have := AY f g l
  simp only [List.map_cons, gY]
  omega
theorem sJ : ∀ (x : List Int) (n : Nat), l1 (x ++ List.replicate n 0) = l1 x
 | [], n => by simp [l1]
 | a :: x, n => by rw [List.cons_append, gY, gY, sJ x n]
theorem aeF (x y : List Int) : l1 (fX x y) ≤ l1 x + l1 y := by
 have h1 := AY (nth x) (nth y) (List.range (max x.length y.length))
 rw [mW (by omega), mW (by omega), sJ, sJ] at h1
 exact Nat.le_trans (GD _) h1
theorem abc (a : Int) : ∀ y : List Int, l1 (y.map fun c => c * a) = a.natAbs * l1 y
 | [] => by simp [l1]
 | c :: y => by rw [List.map_cons, gY, gY, abc a y, Int.natAbs_mul, Nat.mul_add, Nat.mul_comm]
theorem KK : ∀ x y : List Int, l1 (fA x y) ≤ l1 x * l1 y
 | [], y => by rw [fA, GC]; omega
 | a :: x, y => by
  have h1 := KK x y
  have h2 := aeF (y.map fun c => c * a) (0 :: fA x y)
  rw [abc, gY] at h2
  rw [fA, gY, Nat.add_mul]
  simp only [Int.natAbs_zero] at h2
  omega
def n1 (a : ZX) : Nat := l1 a.l
theorem vF (a b : ZX) : n1 (a * b) ≤ n1 a * n1 b := Nat.le_trans (GD _) (KK _ _)
theorem apC (x : List Int) : n1 (of x) ≤ l1 x := GD x
theorem ajZ (c : Int) : n1 (K c) ≤ c.natAbs := Nat.le_trans (apC _) (by simp [l1])
theorem abd {a : ZX} {m : Nat} (h : n1 a ≤ m) : ∀ k : Nat, n1 (a ^ k) ≤ m ^ k
 | 0 => ajZ 1
 | k + 1 => by
  rw [pow_succ', Nat.pow_succ]
  exact Nat.le_trans (vF _ _) (Nat.mul_le_mul (abd h k) h)
theorem abe : ∀ {x : List Int} {c : Int}, c ∈ x → c.natAbs ≤ l1 x
 | a :: x, c, h => by
  rw [gY]
  rcases List.mem_cons.1 h with rfl | h
  ·omega
  ·have := abe h; omega
theorem BZ.DY {s n : Nat} {a : ZX} (h : n1 a < 2 ^ s) (hn : ZX.N a ≤ n) : BZ s n a := ⟨hn, fun c hc => cO (by decide) (Nat.lt_of_le_of_lt (abe hc) h)⟩
theorem aeG (l : List Int) (i : Nat) : n1 (of (fI l i)) ≤ 9 ^ (ZX.N (of (fI l i)) - 1) ∧ 2 ≤ ZX.N (of (fI l i)) := by
 obtain ⟨_, hl, _⟩ := x6 l i
 have h9 := Int.emod_nonneg (nth l i) (show (9 : Int) ≠ 0 by decide)
 have h9' := Int.emod_lt_of_pos (nth l i) (show (0 : Int) < 9 by decide)
 have h5 := Int.emod_nonneg (nth l (i + 1)) (show (5 : Int) ≠ 0 by decide)
 have h5' := Int.emod_lt_of_pos (nth l (i + 1)) (show (0 : Int) < 5 by decide)
 have h3 := Int.emod_nonneg (nth l (i + 2)) (show (3 : Int) ≠ 0 by decide)
 have h3' := Int.emod_lt_of_pos (nth l (i + 2)) (show (0 : Int) < 3 by decide)
 unfold n1 ZX.N
 rw [hl]
 unfold fI
 split
 ·simp only [gY, GC, List.length_cons, List.length_nil]
  refine ⟨?_, by omega⟩
  show _ ≤ 81
  omega
 ·simp only [gY, GC, List.length_cons, List.length_nil]
  refine ⟨?_, by omega⟩
  show _ ≤ 9
  omega
theorem KL (l : List Int) (most : Nat) : ∀ j, n1 (c7 l most j) ≤ 9 ^ (ZX.N (c7 l most j) - 1)
 | 0 => Nat.le_trans (ajZ 1) (Nat.one_le_pow _ _ (by decide))
 | j + 1 => by
  have ih := KL l most j
  obtain ⟨h0, _⟩ := lI l most j
  obtain ⟨b1, b2, b3⟩ := x6 l (3 * j)
  obtain ⟨e1, e2⟩ := F3 l (3 * j)
  obtain ⟨f1, f2⟩ := aeG l (3 * j)
  obtain ⟨p1, p2, p3⟩ := aaP b3 b1 _ e1
  show n1 (tY l most (3 * j) (c7 l most j)) ≤ 9 ^ (ZX.N (tY l most (3 * j) (c7 l most j)) - 1)
  unfold tY
  split
  ·exact ih
  ·have h1 := Nat.mul_le_mul ih (abd f1 (pP l (3 * j)))
   refine Nat.le_trans (vF _ _) (Nat.le_trans h1 ?_)
   rw [← Nat.pow_mul, ← Nat.pow_add]
   refine Nat.pow_le_pow_right (by decide) ?_
   rw [ZX.jH h0 p2, p3, Nat.mul_comm]
   have := ZX.aG.1 h0
   omega
theorem GF (l : List Int) (most : Nat) : n1 (made l most) ≤ 3 * 9 ^ most ∧ ZX.N (made l most) ≤ most + 1 := by
 have hN := (x7 l most).2.N
 refine ⟨?_, hN⟩
 have h1 := KL l most (min 6 (l.length / 3))
 have h2 := (lI l most (min 6 (l.length / 3))).2.N
 have h3 : 9 ^ (ZX.N (c7 l most (min 6 (l.length / 3))) - 1) ≤ 9 ^ most := Nat.pow_le_pow_right (by decide) (by omega)
 unfold made
 split
 ·have h4 := vF (K (-3)) (c7 l most (min 6 (l.length / 3)))
  have h5 := ajZ (-3)
  exact Nat.le_trans h4 (Nat.mul_le_mul h5 (Nat.le_trans h1 h3))
 ·omega
theorem AZ {S τ t : Rat} (hS : 0 ≤ S) (hτ : 0 < τ) (ht : kH τ t) : ∀ {x : List Int}, Cn x → 0 < x.length → (∀ c ∈ x.dropLast, Ab (c : Rat) S) → S + (((lead x).natAbs : Int) : Rat) ≤ (((lead x).natAbs : Int) : Rat) * τ → kH (((lead x).natAbs : Int) : Rat) (qv t x)
 | [a], hc, _, _, _ => by
  have e1 : qv t [a] = (a : Rat) := by simp only [qv]; grind
  have e2 : lead [a] = a := rfl
  rw [e1, e2]
  by_cases h : 0 ≤ a
  ·right
   exact Rat.intCast_le_intCast.2 (by omega)
  ·left
   rw [← Rat.intCast_neg]
   exact Rat.intCast_le_intCast.2 (by omega)
 | a :: b :: l, hc, _, hb, hL => by
  have hl := cB (xW hc) (by simp)
  rw [u5] at hL ⊢
  have ih := AZ hS hτ ht (xW hc) (by simp) (fun c hc => hb c (by
   rw [List.dropLast_cons_of_ne_nil (by simp)]; exact List.mem_cons_of_mem _ hc)) hL
  obtain ⟨h4, h5⟩ := hb a (by rw [List.dropLast_cons_of_ne_nil (by simp)]; simp)
  have e1 : qv t (a :: b :: l) = a + t * qv t (b :: l) := rfl
  have hp : (0 : Rat) < (((lead (b :: l)).natAbs : Int) : Rat) := Rat.intCast_pos.2 (by omega)
  have hm := kH.mul hτ hp ht ih
  rw [e1]
  generalize (((lead (b :: l)).natAbs : Int) : Rat) = L at *
  rcases hm with h | h
  ·left; grind
  ·right; grind
theorem GG {x : List Int} (cx : Cn x) (hx : x ≠ []) {t : Rat} (ht : kH (iU x) t) : kH 1 (qv t x) ∧ 1 ≤ iU x := by
 have nE := List.length_pos_iff.2 hx
 have hl := cB cx nE
 have hL : (1 : Rat) ≤ (((lead x).natAbs : Int) : Rat) := eD (by omega)
 have hm : (0 : Rat) ≤ ((kE x (x.length - 1) : Int) : Rat) := Rat.intCast_nonneg.2 (aa2 _ _)
 have e := AV cx hx
 have h2 := Rat.div_mul_cancel (a := ((kE x (x.length - 1) : Int) : Rat)) (b := (((lead x).natAbs : Int) : Rat)) (by grind)
 have hw : (0 : Rat) ≤ ((kE x (x.length - 1) : Int) : Rat) / (((lead x).natAbs : Int) : Rat) := by
  refine Rat.not_lt.1 fun h => ?_
  have := Rat.mul_le_mul_of_nonneg_left hL (show 0 ≤ -(((kE x (x.length - 1) : Int) : Rat) / (((lead x).natAbs : Int) : Rat)) by grind)
  grind
 have h1 : 1 ≤ iU x := by rw [e]; grind
 refine ⟨(AZ hm (show 0 < iU x by grind) ht cx nE (fun c hc => ?_) ?_).mono hL, h1⟩
 ·obtain ⟨k, hk, rfl⟩ := List.mem_iff_getElem.1 hc
  rw [List.length_dropLast] at hk
  have h3 := aa3 x (x.length - 1) k hk
  rw [cS (by omega)] at h3
  rw [List.getElem_dropLast]
  constructor
  ·rw [← Rat.intCast_neg]
   exact Rat.intCast_le_intCast.2 (by omega)
  ·exact Rat.intCast_le_intCast.2 (by omega)
 ·rw [e]
  generalize ((kE x (x.length - 1) : Int) : Rat) / (((lead x).natAbs : Int) : Rat) = w at *
  grind
end Go.Proofs.YtbbjgncblhfegaaGreat
