import Derived.Test.YtelhfbikiccfkaaGreatBan
import Derived.Test.YtelhfbikiccfkaaGreatBao
import Derived.Test.YtelhfbikiccfkaaGreatBap
set_option linter.unusedSimpArgs false
set_option linter.unusedVariables false
namespace Pm
theorem acL : ∀ (n : Nat) (f : Nat → Nat), (∀ k, k ≤ n → f k < n) → ∃ i j, i < j ∧ j ≤ n ∧ f i = f j
 | 0, f, h => absurd (h 0 (Nat.le_refl _)) (by omega)
 | n + 1, f, h => by
  by_cases hx : ∃ i, i ≤ n ∧ f i = f (n + 1)
  ·obtain ⟨i, hi, e⟩ := hx
   exact ⟨i, n + 1, by omega, Nat.le_refl _, e⟩
  ·have nZ : ∀ i, i ≤ n → f i ≠ f (n + 1) := fun i hi e => hx ⟨i, hi, e⟩
   have hm := h (n + 1) (Nat.le_refl _)
   obtain ⟨i, j, YX, hj, e⟩ := acL n (fun k => if f k = n then f (n + 1) else f k) (fun k hk => by
    have h1 := h k (by omega)
    have h2 := nZ k hk
    show (if f k = n then f (n + 1) else f k) < n
    split <;> omega)
   refine ⟨i, j, YX, by omega, ?_⟩
   have h1 := nZ i (by omega)
   have h2 := nZ j hj
   have e' : (if f i = n then f (n + 1) else f i) = (if f j = n then f (n + 1) else f j) := e
   split at e' <;> split at e' <;> omega
def DZ (b : Nat) : Nat → Nat → List Int
 | 0, _ => []
 | n + 1, k => ((k % b : Nat) : Int) :: DZ b n (k / b)
theorem wJ (b : Nat) : ∀ n k, (DZ b n k).length = n
 | 0, _ => rfl
 | n + 1, k => by rw [DZ, List.length_cons, wJ b n]
theorem I7 {b : Nat} (hb : 0 < b) : ∀ n k, ∀ c ∈ DZ b n k, 0 ≤ c ∧ c < b
 | 0, _, c, h => by cases h
 | n + 1, k, c, h => by
  rcases List.mem_cons.1 h with rfl | h
  ·have := Nat.mod_lt k hb; omega
  ·exact I7 hb n _ c h
theorem I8 {b : Nat} (hb : 0 < b) : ∀ n k m, k < b ^ n → m < b ^ n → DZ b n k = DZ b n m → k = m
 | 0, k, m, h1, h2, _ => by simp at h1 h2; omega
 | n + 1, k, m, h1, h2, h => by
  rw [DZ, DZ] at h
  injection h with h3 h4
  rw [Nat.pow_succ] at h1 h2
  have h5 := I8 hb n (k / b) (m / b) ((Nat.div_lt_iff_lt_mul hb).2 h1) ((Nat.div_lt_iff_lt_mul hb).2 h2) h4
  have h6 := Nat.div_add_mod k b
  have h7 := Nat.div_add_mod m b
  rw [h5] at h6
  omega
def RN (R : Nat) : List Nat → Nat
 | [] => 0
 | x :: l => x + R * RN R l
theorem acM {R : Nat} : ∀ l : List Nat, (∀ x ∈ l, x < R) → RN R l < R ^ l.length
 | [], _ => by simp [RN]
 | x :: l, h => by
  have h1 := acM l fun y hy => h y (List.mem_cons_of_mem _ hy)
  have h2 := h x (List.mem_cons_self ..)
  rw [RN, List.length_cons, Nat.pow_succ]
  have h3 : R * (RN R l + 1) ≤ R * R ^ l.length := Nat.mul_le_mul_left _ h1
  rw [Nat.mul_add] at h3
  rw [Nat.mul_comm (R ^ _)]
  omega
theorem U2 {R : Nat} : ∀ l m : List Nat, l.length = m.length → (∀ x ∈ l, x < R) → (∀ x ∈ m, x < R) → RN R l = RN R m → l = m
 | [], [], _, _, _, _ => rfl
 | [], _ :: _, h, _, _, _ => by simp at h
 | _ :: _, [], h, _, _, _ => by simp at h
 | x :: l, y :: m, hl, h1, h2, e => by
  rw [RN, RN] at e
  have hx := h1 x (List.mem_cons_self ..)
  have hy := h2 y (List.mem_cons_self ..)
  have e1 : (x + R * RN R l) % R = (y + R * RN R m) % R := by rw [e]
  rw [Nat.add_mul_mod_self_left, Nat.add_mul_mod_self_left, Nat.mod_eq_of_lt hx, Nat.mod_eq_of_lt hy] at e1
  subst e1
  have e2 : R * RN R l = R * RN R m := by omega
  have e3 := Nat.eq_of_mul_eq_mul_left (by omega) e2
  rw [U2 l m (by simpa using hl) (fun z hz => h1 z (List.mem_cons_of_mem _ hz)) (fun z hz => h2 z (List.mem_cons_of_mem _ hz)) e3]
theorem rH {X Y : Nat} : ∀ (x y : List Int), (∀ c ∈ x, c.natAbs ≤ X) → (∀ i, (nth y i).natAbs ≤ Y) → ∀ i, (nth (bL x y) i).natAbs ≤ x.length * (X * Y)
 | [], y, _, _, i => by
  rw [show bL [] y = [] from rfl, oN]; simp
 | k :: x, y, hx, hy, i => by
  have hk := hx k (List.mem_cons_self ..)
  have ih := rH x y (fun c hc => hx c (List.mem_cons_of_mem _ hc)) hy
  have h1 : ∀ j, (nth y j * k).natAbs ≤ X * Y := fun j => by
   rw [Int.natAbs_mul, Nat.mul_comm]
   exact Nat.mul_le_mul hk (hy j)
  rw [List.length_cons, Nat.add_mul, Nat.one_mul]
  cases i with
  | zero =>
   rw [qS]
   have := h1 0; omega
  | succ i =>
   rw [mN]
   have h2 := h1 (i + 1)
   have h3 := ih i
   have h4 := Int.natAbs_add_le (nth y (i + 1) * k) (nth (bL x y) i)
   omega
theorem RO {A : Nat} {y : List Int} (h : ∀ c ∈ y, c.natAbs ≤ A) (i : Nat) : (nth y i).natAbs ≤ A := by
 rcases Nat.lt_or_ge i y.length with h1 | h1
 ·exact h _ (bU h1)
 ·rw [gX h1]; exact Nat.zero_le _
namespace ZX
theorem I9 (x y : ZX) (i : Nat) : nth (x - y).l i = nth x.l i - nth y.l i := by
 have h : x = (x - y) + y := by grind
 have h2 : nth x.l i = nth ((x - y) + y).l i := by rw [← h]
 rw [show ((x - y) + y).l = gY (x - y).l y.l from rfl, vF] at h2
 omega
theorem agC {a b v : ZX} (ha : a ≠ 0) (hc : ∀ d, dv d a → dv d b → N d ≤ 1) (h : dv a (v * b)) : dv a v := by
 obtain ⟨g, hg⟩ := i5 _ a b (Nat.le_refl _)
 have h0 := hg.ne (.inl ha)
 have h1 := hc g hg.l hg.r
 have h2 := ZX.aC.1 h0
 obtain ⟨k, hk, rfl⟩ := jZ (show N g = 1 by omega)
 obtain ⟨c, xC, u', v', e⟩ := hg.uv
 rw [nJ] at e
 refine dv.EM (Int.mul_ne_zero xC hk) ?_
 rw [e, show (u' * a + v' * b) * v = (u' * v) * a + v' * (v * b) by grind]
 exact ((dv.refl a).mul_left _).add (h.mul_left _)
theorem U3 {l : List Int} {n : Nat} (h : l.length ≤ n) : N (of l) ≤ n := Nat.le_trans (bP l) h
theorem JA {x : ZX} {n : Nat} (hN : N x ≤ n + 1) (h : ∀ i, i < n → nth x.l (i + 1) = 0) : ∃ c : Int, x = K c := by
 rcases Nat.lt_or_ge (N x) 2 with h1 | h1
 ·rcases Nat.eq_zero_or_pos (N x) with h2 | h2
  ·refine ⟨0, ?_⟩
   have : x = 0 := Classical.byContradiction fun h0 => by have := ZX.aC.1 h0; omega
   rw [this]; rfl
  ·obtain ⟨c, _, e⟩ := jZ (show N x = 1 by omega)
   exact ⟨c, e⟩
 ·exfalso
  have h2 : lead x.l ≠ 0 := cK x.c (show 0 < N x by omega)
  refine h2 ?_
  have h3 := h (N x - 2) (by omega)
  rw [show N x - 2 + 1 = x.l.length - 1 from by show N x - 2 + 1 = N x - 1; omega] at h3
  exact h3
theorem JB (l : List Int) (i : Nat) : nth (of l).l i = nth l i := iS l i
theorem al6 {a b : ZX} {s r l X : Nat} (ha : a ≠ 0) (hb : b ≠ 0) (hA : ∀ c ∈ a.l, c.natAbs ≤ 2 ^ s) (hB : ∀ c ∈ b.l, c.natAbs ≤ 2 ^ r) (hl : N a + N b ≤ 2 ^ l) (hc : ∀ d, dv d a → dv d b → N d ≤ 1) (hX : (l + 2) * (N a + N b) + s * N b + r * N a ≤ X) :
  ∃ (u v : ZX) (c : Int), c ≠ 0 ∧ u * a + v * b = K c ∧ N u ≤ N b ∧ N v ≤ N a ∧ (∀ c ∈ u.l, c.natAbs ≤ 2 ^ (X - s)) ∧ ∀ c ∈ v.l, c.natAbs ≤ 2 ^ (X - r) := by
 have na := ZX.aC.1 ha
 have nb := ZX.aC.1 hb
 obtain ⟨p, hp⟩ : ∃ p, N a = p + 1 := ⟨N a - 1, by omega⟩
 obtain ⟨q, hq⟩ : ∃ q, N b = q + 1 := ⟨N b - 1, by omega⟩
 have hsX : s ≤ X := by rw [hq, Nat.mul_add s] at hX; omega
 have hrX : r ≤ X := by rw [hp, Nat.mul_add r] at hX; omega
 rcases Nat.lt_or_ge 2 (N a + N b) with hm | hm
 ·obtain ⟨m, hmm⟩ : ∃ m, p + q = m + 1 := ⟨p + q - 1, by omega⟩
  obtain ⟨U, hU⟩ : ∃ U, U = 2 ^ (X - s) := ⟨_, rfl⟩
  obtain ⟨V, hV⟩ : ∃ V, V = 2 ^ (X - r) := ⟨_, rfl⟩
  have hUA : U * 2 ^ s = 2 ^ X := by rw [hU, ← Nat.pow_add]; congr 1; omega
  have hVB : V * 2 ^ r = 2 ^ X := by rw [hV, ← Nat.pow_add]; congr 1; omega
  rw [← hU, ← hV]
  let P := (U + 1) ^ q
  have hPp : 0 < P := Nat.pow_pos (Nat.succ_pos _)
  have hQp : 0 < (V + 1) ^ p := Nat.pow_pos (Nat.succ_pos _)
  let W := (m + 1) * 2 ^ X
  let uu := fun k : Nat => of (DZ (U + 1) q (k % P))
  let vv := fun k : Nat => of (DZ (V + 1) p (k / P))
  let L := fun k : Nat => uu k * a + vv k * b
  have afH : ∀ B n k, ∀ c ∈ DZ (B + 1) n k, c.natAbs ≤ B := fun B n k c hc => by
   have := I7 (Nat.succ_pos B) _ _ c hc
   omega
  have hu : ∀ k, ∀ c ∈ (uu k).l, c.natAbs ≤ U := fun k c hc => afH _ _ _ c (lJ _ _ hc)
  have hv : ∀ k, ∀ c ∈ (vv k).l, c.natAbs ≤ V := fun k c hc => afH _ _ _ c (lJ _ _ hc)
  have hNu : ∀ k, N (uu k) ≤ q := fun k => U3 (by rw [wJ]; exact Nat.le_refl _)
  have hNv : ∀ k, N (vv k) ≤ p := fun k => U3 (by rw [wJ]; exact Nat.le_refl _)
  have hW : ∀ k i, (nth (L k).l i).natAbs ≤ W := fun k i => by
   have e : (L k).l = gY (bL (uu k).l a.l) (bL (vv k).l b.l) := rfl
   rw [e, vF]
   have h1 := rH (uu k).l a.l (hu k) (RO hA) i
   have h2 := rH (vv k).l b.l (hv k) (RO hB) i
   rw [hUA] at h1
   rw [hVB] at h2
   have h4 := Int.natAbs_add_le (nth (bL (uu k).l a.l) i) (nth (bL (vv k).l b.l) i)
   have h5 : (uu k).l.length * 2 ^ X + (vv k).l.length * 2 ^ X ≤ W := by
    rw [← Nat.add_mul]
    refine Nat.mul_le_mul_right _ ?_
    have h4 : N (uu k) ≤ q := hNu k
    have h5 : N (vv k) ≤ p := hNv k
    show N (uu k) + N (vv k) ≤ m + 1
    omega
   omega
  let im := fun k : Nat => (List.range m).map fun i => (nth (L k).l (i + 1) + W).toNat
  have him : ∀ k, ∀ x ∈ im k, x < 2 * W + 1 := fun k x hx => by
   simp only [im, List.mem_map] at hx
   obtain ⟨i, _, rfl⟩ := hx
   have := hW k (i + 1)
   omega
  have axb : (2 * W + 1) ^ m < P * (V + 1) ^ p := by
   have h1 : 2 * W + 1 ≤ 2 ^ (X + l + 2) := by
    have h2 : (m + 1) * 2 ^ X ≤ 2 ^ l * 2 ^ X := Nat.mul_le_mul_right _ (by omega)
    have h3 : 2 ^ (X + l + 2) = 2 ^ l * 2 ^ X * 4 := by rw [Nat.pow_add, Nat.pow_add, Nat.mul_comm (2 ^ X)]
    have h4 : 1 ≤ 2 ^ l * 2 ^ X := Nat.mul_pos (Nat.two_pow_pos _) (Nat.two_pow_pos _)
    simp only [W]
    omega
   have h2 := Nat.pow_le_pow_left h1 m
   rw [← Nat.pow_mul] at h2
   have h3 : 2 ^ ((X - s) * q + (X - r) * p) ≤ P * (V + 1) ^ p := by
    rw [Nat.pow_add, Nat.pow_mul, Nat.pow_mul, ← hU, ← hV]
    exact Nat.mul_le_mul (Nat.pow_le_pow_left (Nat.le_succ _) _) (Nat.pow_le_pow_left (Nat.le_succ _) _)
   refine Nat.lt_of_le_of_lt h2 (Nat.lt_of_lt_of_le (Nat.pow_lt_pow_right (by decide) ?_) h3)
   rw [hp, hq] at hX
   rw [Nat.sub_mul, Nat.sub_mul]
   have e1 : X * q + X * p = X * m + X := by rw [← Nat.mul_add, show q + p = m + 1 by omega, Nat.mul_add, Nat.mul_one]
   have e2 : s * q ≤ X * q := Nat.mul_le_mul_right _ hsX
   have e3 : r * p ≤ X * p := Nat.mul_le_mul_right _ hrX
   have e4 : (X + l + 2) * m = X * m + (l + 2) * m := by rw [Nat.add_assoc, Nat.add_mul]
   have e5 : (l + 2) * (p + 1 + (q + 1)) = (l + 2) * m + (l + 2) * 3 := by rw [← Nat.mul_add]; congr 1; omega
   have e6 : s * (q + 1) = s * q + s := Nat.mul_succ _ _
   have e7 : r * (p + 1) = r * p + r := Nat.mul_succ _ _
   omega
  obtain ⟨n, hn⟩ : ∃ n, P * (V + 1) ^ p = n + 1 := ⟨P * (V + 1) ^ p - 1, by have := Nat.mul_pos hPp hQp; omega⟩
  obtain ⟨i, j, YX, hj, e⟩ := acL n (fun k => RN (2 * W + 1) (im k)) (fun k hk => by
   have h1 := acM (im k) (him k)
   rw [show (im k).length = m by simp [im]] at h1
   show RN (2 * W + 1) (im k) < n
   omega)
  have e2 := U2 (im i) (im j) (by simp [im]) (him i) (him j) e
  have e3 : ∀ s, s < m → nth (L i).l (s + 1) = nth (L j).l (s + 1) := fun s hs => by
   have h1 : (im i)[s]? = (im j)[s]? := by rw [e2]
   simp only [im, List.getElem?_map, List.getElem?_range hs, Option.map_some] at h1
   injection h1 with h1
   have := hW i (s + 1)
   have := hW j (s + 1)
   omega
  have hNL : ∀ x y : ZX, N x ≤ q → N y ≤ p → N (x * a + y * b) ≤ m + 1 := fun x y hx hy => by
   have h1 : N (x * a + y * b) ≤ max (N (x * a)) (N (y * b)) := BP _ _
   have h2 : N (x * a) ≤ N x + N a - 1 := qR (x := x.l) (y := a.l) na
   have h3 : N (y * b) ≤ N y + N b - 1 := qR (x := y.l) (y := b.l) nb
   omega
  have VP : N (uu i - uu j) ≤ q := by
   have h1 : N (uu i - uu j) ≤ max (N (uu i)) (N (uu j)) := vD _ _
   have := hNu i; have := hNu j; omega
  have hv' : N (vv i - vv j) ≤ p := by
   have h1 : N (vv i - vv j) ≤ max (N (vv i)) (N (vv j)) := vD _ _
   have := hNv i; have := hNv j; omega
  have eL : (uu i - uu j) * a + (vv i - vv j) * b = L i - L j := by simp only [L]; grind
  obtain ⟨c, QU⟩ := JA (x := (uu i - uu j) * a + (vv i - vv j) * b) (n := m) (hNL _ _ VP hv') (fun s hs => by
   rw [eL, I9, e3 s hs]; omega)
  have oG : ∀ (B n k k' : Nat), ∀ c ∈ (of (DZ (B + 1) n k) - of (DZ (B + 1) n k')).l, c.natAbs ≤ B := fun B n k k' c hc => by
   obtain ⟨s, hs, rfl⟩ := List.getElem_of_mem hc
   rw [← cQ hs, I9, JB, JB]
   have h3 : ∀ k, 0 ≤ nth (DZ (B + 1) n k) s ∧ nth (DZ (B + 1) n k) s < ((B + 1 : Nat) : Int) := fun k => by
    rcases Nat.lt_or_ge s (DZ (B + 1) n k).length with h4 | h4
    ·exact I7 (Nat.succ_pos B) _ _ _ (bU h4)
    ·rw [gX h4]; exact ⟨by decide, by show (0 : Int) < _; omega⟩
   have := h3 k
   have := h3 k'
   omega
  refine ⟨uu i - uu j, vv i - vv j, c, fun h0 => ?_, QU, by omega, by omega, oG _ _ _ _, oG _ _ _ _⟩
  rw [h0, show K 0 = (0 : ZX) from rfl] at QU
  have hvz : vv i - vv j = 0 := Classical.byContradiction fun nZ => by
   have h1 : dv a (vv i - vv j) := agC ha hc (b := b) ⟨1, by decide, -(uu i - uu j), by
    show (1 : ZX) * _ = _
    have : (vv i - vv j) * b = -((uu i - uu j) * a) := by grind
    rw [this]; grind⟩
   have := h1.lZ nZ
   omega
  have huz : uu i - uu j = 0 := Classical.byContradiction fun nZ => by
   have h1 : (uu i - uu j) * a = 0 := by rw [hvz] at QU; grind
   exact eB nZ ha h1
  have hd : ∀ (B n k k' : Nat), of (DZ (B + 1) n k) - of (DZ (B + 1) n k') = 0 → DZ (B + 1) n k = DZ (B + 1) n k' := fun B n k k' h0 => by
   refine List.ext_getElem (by rw [wJ, wJ]) fun s hs uY => ?_
   have h3 := I9 (of (DZ (B + 1) n k)) (of (DZ (B + 1) n k')) s
   rw [h0, show nth (0 : ZX).l s = 0 from oN s, JB, JB] at h3
   rw [← cQ hs, ← cQ uY]
   omega
  have lt2 : ∀ k, k ≤ n → k / P < (V + 1) ^ p := fun k hk => (Nat.div_lt_iff_lt_mul hPp).2 (by rw [Nat.mul_comm]; omega)
  have d1 : i % P = j % P := I8 (Nat.succ_pos U) q _ _ (Nat.mod_lt i hPp) (Nat.mod_lt j hPp) (hd _ _ _ _ huz)
  have d2 : i / P = j / P := I8 (Nat.succ_pos V) p _ _ (lt2 i (by omega)) (lt2 j hj) (hd _ _ _ _ hvz)
  have h6 := Nat.div_add_mod i P
  have h7 := Nat.div_add_mod j P
  rw [d1, d2] at h6
  omega
 ·obtain ⟨c, xC, rfl⟩ := jZ (show N a = 1 by omega)
  refine ⟨1, 0, c, xC, by grind, by rw [rB]; omega, by rw [abt]; omega, fun x hx => ?_, fun x hx => by cases hx⟩
  have h1 : (1 : ZX).l = [1] := rfl
  rw [h1] at hx
  simp at hx; subst hx; exact Nat.two_pow_pos _
end ZX
end Pm
namespace Pm
theorem rI (a b : Nat) : (2 : Rat) ^ (a + b) = 2 ^ a * 2 ^ b := by
 induction b with
 | zero => rw [Nat.add_zero, Rat.pow_zero, Rat.mul_one]
 | succ b ih => rw [← Nat.add_assoc, Rat.pow_succ, Rat.pow_succ, ih]; grind
theorem iB (a : Nat) : (0 : Rat) < 2 ^ a := Rat.pow_pos (by decide)
theorem uL : ∀ a : Nat, (1 : Rat) ≤ 2 ^ a
 | 0 => by simp
 | a + 1 => by
  have := uL a
  rw [Rat.pow_succ]; grind
theorem M9 {a b : Nat} (h : a ≤ b) : (2 : Rat) ^ a ≤ 2 ^ b := by
 obtain ⟨c, rfl⟩ : ∃ c, b = a + c := ⟨b - a, by omega⟩
 rw [rI]
 have h1 := uL c
 have h2 := iB a
 have h3 := Rat.mul_le_mul_of_nonneg_left h1 (Rat.le_of_lt h2)
 grind
theorem JC : ∀ a : Nat, (((2 ^ a : Nat) : Int) : Rat) = 2 ^ a
 | 0 => by simp
 | a + 1 => by
  rw [Nat.pow_succ, Rat.pow_succ, ← JC a, Int.natCast_mul, Rat.intCast_mul]; rfl
theorem GI {c : Int} {s : Nat} (h : c.natAbs ≤ 2 ^ s) : Ab (c : Rat) (2 ^ s) := by
 have h1 := JC s
 have h2 : c ≤ ((2 ^ s : Nat) : Int) := by omega
 have h3 : -((2 ^ s : Nat) : Int) ≤ c := by omega
 have h4 := Rat.intCast_le_intCast.2 h2
 have h5 := Rat.intCast_le_intCast.2 h3
 rw [Rat.intCast_neg] at h5
 rw [h1] at h4 h5
 exact ⟨h5, h4⟩
theorem RQ (s β : Nat) : ∀ k, wW (2 ^ s) (2 ^ β) k = 2 ^ (s + k * (β + 2))
 | 0 => by simp [wW]
 | k + 1 => by
  rw [wW, RQ s β k, show s + (k + 1) * (β + 2) = s + k * (β + 2) + β + 1 + 1 by rw [Nat.add_mul]; omega, Rat.pow_succ, Rat.pow_succ, rI _ β]
  grind
namespace ZX
theorem asc {a : ZX} {s n β : Nat} (h : ∀ c ∈ a.l, c.natAbs ≤ 2 ^ s) (hN : N a ≤ n) {t : Rat} (ht : Ab t (2 ^ β)) : Ab (e t a) (2 ^ (s + n * (β + 2))) := by
 have h1 := UO (S := 2 ^ s) (B := 2 ^ β) (t := t) (Rat.le_of_lt (iB s)) (uL β) ht a.l fun c hc => GI (h c hc)
 rw [RQ] at h1
 refine h1.mono (M9 ?_)
 have : a.l.length * (β + 2) ≤ n * (β + 2) := Nat.mul_le_mul_right _ hN
 omega
theorem acN {a : ZX} {s n β : Nat} (h : ∀ c ∈ a.l, c.natAbs ≤ 2 ^ s) (hN : N a ≤ n) {r t : Rat} (hr : Ab r (2 ^ β)) (ht : Ab t (2 ^ β)) : Ab (dd r t a.l) (2 ^ (s + n * (β + 2))) ∧ Ab (cc r t a.l) (2 ^ (s + n * (β + 2))) := by
 have h1 := GC (S := 2 ^ s) (B := 2 ^ β) (s := r) (t := t) (Rat.le_of_lt (iB s)) (uL β) hr ht a.l fun c hc => GI (h c hc)
 have h2 := UP (S := 2 ^ s) (B := 2 ^ β) (s := r) (t := t) (Rat.le_of_lt (iB s)) (uL β) hr ht a.l fun c hc => GI (h c hc)
 rw [RQ] at h1 h2
 have h3 : a.l.length * (β + 2) ≤ n * (β + 2) := Nat.mul_le_mul_right _ hN
 exact ⟨h1.mono (M9 (by omega)), h2.mono (M9 (by omega))⟩
def sk (s n l β : Nat) : Nat := n * (s + 2 + l) + n * (β + 2) + 1
def sx (a b : ZX) (s r l : Nat) : Nat := (l + 2) * (N a + N b) + s * N b + r * N a
theorem asd {a b : ZX} {s r l β : Nat} (ha : a ≠ 0) (hb : b ≠ 0) (hA : ∀ c ∈ a.l, c.natAbs ≤ 2 ^ s) (hB : ∀ c ∈ b.l, c.natAbs ≤ 2 ^ r) (hl : N a + N b ≤ 2 ^ l) (hc : ∀ d, dv d a → dv d b → N d ≤ 1)
  {t ε η : Rat} (ht : Ab t (2 ^ β)) (hε : ε * 2 ^ (sx a b s r l - s + N b * (β + 2) + 1) ≤ 1) (hη : η * 2 ^ (sx a b s r l - r + N a * (β + 2) + 1) ≤ 1) : j7 ε (e t a) ∨ j7 η (e t b) := by
 obtain ⟨u, v, c, xC, he, hNu, hNv, hu, hv⟩ := al6 ha hb hA hB hl hc (Nat.le_refl _)
 have h1 := asc (β := β) hu hNu ht
 have h2 := asc (β := β) hv hNv ht
 have h3 : e t u * e t a + e t v * e t b = (c : Rat) := by rw [← gR, ← gR, ← UM, he, uU]
 have h4 := sC xC
 rw [show (l + 2) * (N a + N b) + s * N b + r * N a = sx a b s r l from rfl] at h1 h2
 rw [rI _ 1] at hε hη
 have hM := iB (sx a b s r l - s + N b * (β + 2))
 have hM2 := iB (sx a b s r l - r + N a * (β + 2))
 generalize (2 : Rat) ^ (sx a b s r l - s + N b * (β + 2)) = M at *
 generalize (2 : Rat) ^ (sx a b s r l - r + N a * (β + 2)) = M2 at *
 refine Classical.byContradiction fun RS => ?_
 have e1 : (2 : Rat) ^ 1 = 2 := by rw [Rat.pow_succ, Rat.pow_zero]; grind
 rw [e1] at hε hη
 have key : ∀ x y E M : Rat, 0 < M → Ab y M → E * (M * 2) ≤ 1 → ¬ j7 E x → ∃ δ : Rat, δ < 1 / 2 ∧ Ab (y * x) δ := fun x y E M hM hy hE hx => by
  have g1 := IQ hx
  obtain ⟨m, g2, g3, g4⟩ : ∃ m : Rat, m < E ∧ x ≤ m ∧ -x ≤ m := by
   by_cases h : x ≤ -x
   ·exact ⟨-x, by grind, h, Rat.le_refl⟩
   ·exact ⟨x, by grind, Rat.le_refl, by grind⟩
  have g5 := hy.mul (show Ab x m from ⟨by grind, g3⟩)
  refine ⟨_, ?_, g5⟩
  have g6 := Rat.mul_lt_mul_of_pos_left g2 hM
  grind
 obtain ⟨d1, p1, p2, p3⟩ := key _ _ _ _ hM h1 hε fun h => RS (.inl h)
 obtain ⟨d2, p4, p5, p6⟩ := key _ _ _ _ hM2 h2 hη fun h => RS (.inr h)
 rcases h4 with h4 | h4 <;> grind
theorem acO {a b : ZX} {s n l β m : Nat} (hn : N a + N b ≤ n) (hm : m ≤ n) : sx a b s s l - s + m * (β + 2) + 1 ≤ sk s n l β := by
 unfold sx sk
 have h1 : (l + 2) * (N a + N b) + s * N b + s * N a = (s + 2 + l) * (N a + N b) := by grind
 have h2 : (s + 2 + l) * (N a + N b) ≤ (s + 2 + l) * n := Nat.mul_le_mul_left _ hn
 have h3 : m * (β + 2) ≤ n * (β + 2) := Nat.mul_le_mul_right _ hm
 rw [h1, Nat.mul_comm n]
 omega
theorem U4 {ε : Rat} {i j : Nat} (h : ε * 2 ^ j ≤ 1) (YX : i ≤ j) : ε * 2 ^ i ≤ 1 := by
 have h1 := M9 YX
 have h2 := iB i
 by_cases h0 : 0 ≤ ε
 ·have := Rat.mul_le_mul_of_nonneg_left h1 h0; grind
 ·have := Rat.mul_lt_mul_of_pos_right (show ε < 0 by grind) h2; grind
theorem sep {a b : ZX} {s n l β : Nat} (ha : a ≠ 0) (hb : b ≠ 0) (hA : ∀ c ∈ a.l, c.natAbs ≤ 2 ^ s) (hB : ∀ c ∈ b.l, c.natAbs ≤ 2 ^ s) (hn : N a + N b ≤ n) (hl : n ≤ 2 ^ l) (hc : ∀ d, dv d a → dv d b → N d ≤ 1)
  {t ε : Rat} (ht : Ab t (2 ^ β)) (hε : ε * 2 ^ sk s n l β ≤ 1) : j7 ε (e t a) ∨ j7 ε (e t b) :=
 asd (l := l) ha hb hA hB (by omega) hc ht (U4 hε (acO hn (by omega))) (U4 hε (acO hn (by omega)))
theorem al7 {f : ZX} {s n l : Nat} (h : ∀ c ∈ f.l, c.natAbs ≤ 2 ^ s) (hN : N f ≤ n) (hl : n ≤ 2 ^ l) : ∀ c ∈ (bI f).l, c.natAbs ≤ 2 ^ (s + l) := fun c hc => by
 have h1 := lJ _ _ hc
 simp only [xG, List.mem_map, List.mem_range] at h1
 obtain ⟨i, hi, rfl⟩ := h1
 rw [Int.natAbs_mul, Nat.pow_add]
 have h2 := RO h (i + 1)
 have h3 : N f = f.l.length := rfl
 exact Nat.mul_le_mul h2 (by rw [Int.natAbs_natCast]; omega)
theorem agD {x y z : Rat} (h : (x < y ∧ y < z) ∨ (y < x ∧ z < y)) : (if x ≠ 0 ∧ bG z ≠ bG x then 1 else 0 : Nat) = (if x ≠ 0 ∧ bG y ≠ bG x then 1 else 0) + (if y ≠ 0 ∧ bG z ≠ bG y then 1 else 0) := by
 rcases bQ x with ⟨h1, h2⟩ | ⟨h1, h2⟩ | ⟨h1, h2⟩ <;> rcases bQ y with ⟨h3, h4⟩ | ⟨h3, h4⟩ | ⟨h3, h4⟩ <;> rcases bQ z with ⟨h5, h6⟩ | ⟨h5, h6⟩ | ⟨h5, h6⟩ <;>
  rw [h2, h4, h6] <;> first
   | (exfalso; rcases h with ⟨h7, h8⟩ | ⟨h7, h8⟩ <;> grind)
   | (have n1 : (x ≠ 0) = True := eq_true (by grind)
      have n2 : (y ≠ 0) = True := eq_true (by grind)
      simp only [n1, n2]; decide)
   | (have n1 : (x ≠ 0) = False := eq_false (by grind)
      have n2 : (y ≠ 0) = True := eq_true (by grind)
      simp only [n1, n2]; decide)
   | (have n1 : (x ≠ 0) = True := eq_true (by grind)
      have n2 : (y ≠ 0) = False := eq_false (by grind)
      simp only [n1, n2]; decide)
def wX (f : ZX) (t : Rat) : Int := if e t f = 0 then bG (e t (bI f)) else bG (e t f)
theorem acP {x y : Rat} {σ : Int} (h : (σ = 1 ∧ x < y) ∨ (σ = -1 ∧ y < x)) : (if y = 0 then σ else bG y) = (if (if x ≠ 0 ∧ bG y ≠ bG x then 1 else 0 : Nat) = 0 then 1 else -1) * (if x = 0 then σ else bG x) := by
 rcases bQ x with ⟨h1, h2⟩ | ⟨h1, h2⟩ | ⟨h1, h2⟩ <;> rcases bQ y with ⟨h3, h4⟩ | ⟨h3, h4⟩ | ⟨h3, h4⟩ <;> rw [h2, h4] <;> first
   | (exfalso; rcases h with ⟨h7, h8⟩ | ⟨h7, h8⟩ <;> grind)
   | (have n1 : (x = 0) = False := eq_false (by grind)
      have n2 : (y = 0) = False := eq_false (by grind)
      simp only [n1, n2, ne_eq, not_false_eq_true, true_and, if_false]; decide)
   | (have n1 : (x = 0) = True := eq_true (by grind)
      have n2 : (y = 0) = False := eq_false (by grind)
      have : σ = 1 ∨ σ = -1 := by omega
      rcases this with rfl | rfl <;> first
        | (simp only [n1, n2, ne_eq, not_true_eq_false, false_and, if_false, if_true]; decide)
        | (exfalso; rcases h with ⟨h7, h8⟩ | ⟨h7, h8⟩ <;> grind))
   | (have n1 : (x = 0) = False := eq_false (by grind)
      have n2 : (y = 0) = True := eq_true (by grind)
      have : σ = 1 ∨ σ = -1 := by omega
      rcases this with rfl | rfl <;> first
        | (simp only [n1, n2, ne_eq, not_false_eq_true, true_and, if_false, if_true]; decide)
        | (exfalso; rcases h with ⟨h7, h8⟩ | ⟨h7, h8⟩ <;> grind))
structure axc (f : ZX) (B δ : Rat) : Prop where
 par : ∀ s t, Ab s B → Ab t B → s < t → t - s ≤ δ → wX f t = (if ind f s t = 0 then 1 else -1) * wX f s
def lk (s n l β : Nat) : Nat := sk (s + l) (n + n) (l + 1) β + (s + l + n * (β + 2)) + 2
theorem GJ {L : List ZX} {f : ZX} (G : C6 L f) {s n l β : Nat} (hf : f ≠ 0) (hA : ∀ c ∈ f.l, c.natAbs ≤ 2 ^ s) (hn : N f ≤ n) (hl : n ≤ 2 ^ l) (hc : ∀ d, dv d f → dv d (bI f) → N d ≤ 1) {δ : Rat} (hδ : δ * 2 ^ lk s n l β ≤ 1) : Lcl L f (2 ^ β) δ ∧ axc f (2 ^ β) δ := by
 have hA' : ∀ c ∈ f.l, c.natAbs ≤ 2 ^ (s + l) := fun c hc => Nat.le_trans (hA c hc) (Nat.pow_le_pow_right (by decide) (by omega))
 have hD := al7 hA hn hl
 have hND := lN f
 have main : ∀ lo hi, Ab lo (2 ^ β) → Ab hi (2 ^ β) → lo < hi → hi - lo ≤ δ → vt L lo = vt L hi + ind f lo hi ∧ (e lo f = 0 → e hi f ≠ 0) ∧ wX f hi = (if ind f lo hi = 0 then 1 else -1) * wX f lo := fun lo hi alo ahi hlh hw => by
  have hδ0 : 0 < δ := by grind
  rw [lk, rI, rI] at hδ
  have hQ := iB (s + l + n * (β + 2))
  have hK := iB (sk (s + l) (n + n) (l + 1) β)
  generalize hQe : (2 : Rat) ^ (s + l + n * (β + 2)) = Q at *
  generalize hKe : (2 : Rat) ^ sk (s + l) (n + n) (l + 1) β = κ at *
  have h22 : (2 : Rat) ^ 2 = 4 := by rw [Rat.pow_succ, Rat.pow_succ, Rat.pow_zero]; grind
  rw [h22] at hδ
  have hε : (1 / κ) * κ = 1 := Rat.div_mul_cancel (Rat.ne_of_gt hK)
  have hε0 : 0 < 1 / κ := (Rat.lt_div_iff hK).2 (by grind)
  generalize 1 / κ = ε at *
  have hδQ : 4 * (δ * Q) ≤ ε := by
   have h1 : δ * (κ * Q * 4) = (4 * (δ * Q)) * κ := by grind
   rw [h1, ← hε] at hδ
   exact Rat.le_of_mul_le_mul_right hδ hK
  have hin : ∀ x, lo ≤ x → x ≤ hi → Ab x (2 ^ β) := fun x h1 h2 => bY alo ahi h1 h2
  by_cases hd0 : bI f = 0
  ·-- a constant
   have hN1 : N f = 1 := by
    have h0 := ZX.aC.1 hf
    rcases Nat.lt_or_ge (N f) 2 with h1 | h1
    ·omega
    ·exact absurd hd0 (CQ h1)
   obtain ⟨c, xC, rfl⟩ := jZ hN1
   have hcv : ∀ x, bG (e x (K c)) = bG (c : Rat) := fun x => by rw [uU]
   have h1 := G.const hlh (σ := bG (c : Rat)) (.inr (hcv lo)) (fun x _ _ => hcv x)
   have h2 : ind (K c) lo hi = 0 := if_neg fun h => h.2 (by rw [hcv, hcv])
   have ase : (c : Rat) ≠ 0 := fun h => xC (by exact_mod_cast h)
   have hz : ∀ x, e x (K c) ≠ 0 := fun x => by rw [uU]; exact ase
   exact ⟨by rw [h1, h2]; omega, fun h => by rw [uU] at h; exact absurd h ase, by rw [h2, if_pos rfl, Int.one_mul, wX, wX, if_neg (hz _), if_neg (hz _), hcv, hcv]⟩
  have hb := sep hf hd0 hA' hD (show N f + N (bI f) ≤ n + n by omega) (show n + n ≤ 2 ^ (l + 1) by rw [Nat.pow_succ]; omega) hc alo (ε := ε) (by rw [hKe, hε]; exact Rat.le_refl)
  have dsz : ∀ x y, lo ≤ x → x ≤ hi → lo ≤ y → y ≤ hi → Ab (dd x y f.l) Q ∧ Ab (cc x y f.l) Q ∧ Ab (dd x y (bI f).l) Q := fun x y h1 h2 h3 h4 => by
   have g1 := acN hA' hn (hin x h1 h2) (hin y h3 h4)
   have g2 := acN hD (show N (bI f) ≤ n by omega) (hin x h1 h2) (hin y h3 h4)
   rw [hQe] at g1 g2
   exact ⟨g1.1, g1.2, g2.1⟩
  have az3 : 0 ≤ δ * Q := Rat.mul_nonneg (Rat.le_of_lt hδ0) (Rat.le_of_lt hQ)
  have small : ∀ h x, 0 ≤ h → h ≤ δ → Ab x Q → Ab (h * x) (δ * Q) := fun h x h1 h2 h3 => Ab.mul ⟨by grind, h2⟩ h3
  rcases hb with hb | hb
  ·-- one sign
   have wV : ∀ x, lo ≤ x → x ≤ hi → bG (e x f) = bG (e lo f) ∧ bG (e lo f) ≠ 0 := fun x h1 h2 => by
    refine fG hb hε0 fun h => ?_
    have h3 := l5 lo x f.l
    have h4 := small (x - lo) _ (by grind) (by grind) (dsz lo x Rat.le_refl (by grind) h1 h2).1
    rw [← h3] at h4
    obtain ⟨p1, p2⟩ := h4
    have h5 : e x f - e lo f = qv x f.l - qv lo f.l := rfl
    rw [h5] at h
    rcases h with h | h <;> grind
   have h1 := G.const hlh (σ := bG (e lo f)) (.inr rfl) (fun x h1 h2 => (wV x (by grind) h2).1)
   have h2 : ind f lo hi = 0 := if_neg fun h => h.2 (wV hi (by grind) Rat.le_refl).1
   have hz : ∀ x, lo ≤ x → x ≤ hi → e x f ≠ 0 := fun x h1 h2 h => by
    obtain ⟨g1, g2⟩ := wV x h1 h2
    rw [h, eV] at g1
    exact g2 g1.symm
   exact ⟨by rw [h1, h2]; omega, fun h => absurd h (hz lo Rat.le_refl (by grind)), by rw [h2, if_pos rfl, Int.one_mul, wX, wX, if_neg (hz _ (by grind) Rat.le_refl), if_neg (hz _ Rat.le_refl (by grind)), (wV hi (by grind) Rat.le_refl).1]⟩
  ·-- rising or aub
   have mono : ∀ x y, lo ≤ x → x < y → y ≤ hi → bG (e y f - e x f) = bG (e lo (bI f)) ∧ bG (e lo (bI f)) ≠ 0 := fun x y h1 h2 h3 => by
    have g1 := l5 x y f.l
    have g2 := IU x y f.l
    have g3 : dd x x f.l = e x (bI f) := (acr x f).symm
    have g4 := l5 lo x (bI f).l
    have b1 := small (y - x) _ (by grind) (by grind) (dsz x y h1 (by grind) (by grind) h3).2.1
    have b2 := small (x - lo) _ (by grind) (by grind) (dsz lo x Rat.le_refl (by grind) h1 (by grind)).2.2
    rw [← g2] at b1
    rw [← g4] at b2
    have h5 : e x (bI f) - e lo (bI f) = qv x (bI f).l - qv lo (bI f).l := rfl
    have h6 := fG (y := dd x y f.l) hb hε0 fun h => by
     obtain ⟨p1, p2⟩ := b1
     obtain ⟨p3, p4⟩ := b2
     rcases h with h | h <;> grind
    have h7 : e y f - e x f = qv y f.l - qv x f.l := rfl
    rw [h7, g1, k9, dJ (show 0 < y - x by grind), Int.one_mul]
    exact h6
   have U5 : ∀ x y, lo ≤ x → x < y → y ≤ hi → (bG (e lo (bI f)) = 1 ∧ e x f < e y f) ∨ (bG (e lo (bI f)) = -1 ∧ e y f < e x f) := fun x y h1 h2 h3 => by
    obtain ⟨g1, g2⟩ := mono x y h1 h2 h3
    rcases bQ (e y f - e x f) with ⟨g3, g4⟩ | ⟨g3, g4⟩ | ⟨g3, g4⟩
    ·exact .inr ⟨by omega, by grind⟩
    ·omega
    ·exact .inl ⟨by omega, by grind⟩
   have dsg : ∀ x, lo ≤ x → x ≤ hi → bG (e x (bI f)) = bG (e lo (bI f)) := fun x h1 h2 => by
    have g4 := l5 lo x (bI f).l
    have b2 := small (x - lo) _ (by grind) (by grind) (dsz lo x Rat.le_refl (by grind) h1 h2).2.2
    rw [← g4] at b2
    have h5 : e x (bI f) - e lo (bI f) = qv x (bI f).l - qv lo (bI f).l := rfl
    exact (fG hb hε0 fun h => by
     obtain ⟨p3, p4⟩ := b2
     rcases h with h | h <;> grind).1
   refine ⟨?_, fun h => ?_, ?_⟩
   ·refine G.acv (P := fun x y => lo ≤ x → y ≤ hi → vt L x = vt L y + ind f x y) (fun x y z tM hyz p1 p2 hx hz => ?_) (fun B δ' hL x y hx hy tM hd h1 h2 => hL.turns x y hx hy tM hd) hlh Rat.le_refl Rat.le_refl
    rw [p1 hx (by grind), p2 (by grind) hz]
    have h1 := U5 x y hx tM (by grind)
    have h2 := U5 y z (by grind) hyz hz
    have h3 := agD (x := e x f) (y := e y f) (z := e z f) (by
     rcases h1 with ⟨q1, q2⟩ | ⟨q1, q2⟩ <;> rcases h2 with ⟨q3, q4⟩ | ⟨q3, q4⟩
     ·exact .inl ⟨q2, q4⟩
     ·omega
     ·omega
     ·exact .inr ⟨q2, q4⟩)
    have h4 : ind f x z = ind f x y + ind f y z := h3
    omega
   ·rcases U5 lo hi Rat.le_refl hlh Rat.le_refl with ⟨q1, q2⟩ | ⟨q1, q2⟩ <;> grind
   ·have h1 := acP (U5 lo hi Rat.le_refl hlh Rat.le_refl)
    unfold wX ind
    rw [dsg hi (by grind) Rat.le_refl]
    exact h1
 exact ⟨⟨fun x y hx hy tM hd => (main x y hx hy tM hd).1, fun x y hx hy tM hd => (main x y hx hy tM hd).2.1⟩, ⟨fun x y hx hy tM hd => (main x y hx hy tM hd).2.2⟩⟩
end ZX
end Pm
namespace Pm
namespace ZX
theorem DC : ∀ l : List Int, ∃ s : Nat, ∀ c ∈ l, c.natAbs ≤ 2 ^ s
 | [] => ⟨0, fun c hc => by cases hc⟩
 | a :: l => by
  obtain ⟨s, h⟩ := DC l
  refine ⟨s + a.natAbs, fun c hc => ?_⟩
  rcases List.mem_cons.1 hc with rfl | hc
  ·have h1 : c.natAbs < 2 ^ c.natAbs := Nat.lt_two_pow_self
   exact Nat.le_trans (Nat.le_of_lt h1) (Nat.pow_le_pow_right (by decide) (by omega))
  ·exact Nat.le_trans (h c hc) (Nat.pow_le_pow_right (by decide) (by omega))
theorem NA (B : Rat) : ∃ β : Nat, B ≤ 2 ^ β := by
 have h1 := Rat.lt_floor_add_one B
 refine ⟨(B.floor + 1).toNat, Rat.le_trans (Rat.le_of_lt h1) ?_⟩
 have h2 : ((2 ^ (B.floor + 1).toNat : Int) : Rat) = 2 ^ (B.floor + 1).toNat := by rw [Rat.intCast_pow]; rfl
 rw [← h2]
 refine Rat.intCast_le_intCast.2 ?_
 have h3 : (B.floor + 1).toNat < 2 ^ (B.floor + 1).toNat := Nat.lt_two_pow_self
 have h4 : ((2 ^ (B.floor + 1).toNat : Nat) : Int) = 2 ^ (B.floor + 1).toNat := by rw [Int.natCast_pow]; rfl
 omega
theorem DE (k : Nat) : ∃ δ : Rat, 0 < δ ∧ δ * 2 ^ k = 1 := by
 have h := iB k
 have h1 : (1 / 2 ^ k) * (2 : Rat) ^ k = 1 := Rat.div_mul_cancel (Rat.ne_of_gt h)
 exact ⟨1 / 2 ^ k, (Rat.lt_div_iff h).2 (by grind), h1⟩
theorem min2 {a b : Rat} (ha : 0 < a) (hb : 0 < b) : ∃ c : Rat, 0 < c ∧ c ≤ a ∧ c ≤ b := by
 by_cases h : a ≤ b
 ·exact ⟨a, ha, Rat.le_refl, h⟩
 ·exact ⟨b, hb, by grind, Rat.le_refl⟩
theorem acQ {P : Rat → Rat → Prop} (ht : ∀ a b c, a < b → b < c → P a b → P b c → P a c) (hs : ∀ B : Rat, 1 ≤ B → ∃ δ : Rat, 0 < δ ∧ ∀ a b, Ab a B → Ab b B → a < b → b - a ≤ δ → P a b) {a b : Rat} (gO : a < b) : P a b := by
 obtain ⟨B, hB, ha, hb⟩ := gJ a b
 obtain ⟨δ, hδ, h⟩ := hs B hB
 exact alV hδ ht h ha hb gO
theorem lip (p : ZX) (B : Rat) (hB : 1 ≤ B) : ∃ Q : Rat, 0 < Q ∧ ∀ a b, Ab a B → Ab b B → a ≤ b → Ab (e b p - e a p) ((b - a) * Q) := by
 obtain ⟨S, hS, hc⟩ := wF p.l
 obtain ⟨h3, _⟩ := nR hS hB p.l.length
 refine ⟨wW S B p.l.length + 1, by grind, fun a b ha hb gO => ?_⟩
 have h1 := (GC hS hB ha hb p.l hc).mono (show wW S B p.l.length ≤ wW S B p.l.length + 1 by grind)
 have h2 := l5 a b p.l
 have h4 : e b p - e a p = qv b p.l - qv a p.l := rfl
 rw [h4, h2]
 exact Ab.mul ⟨by grind, Rat.le_refl⟩ h1
def uM (a b : ZX) : Prop := ∀ d, dv d a → dv d b → N d ≤ 1
theorem uM.mono {a b c d : ZX} (h : uM a b) (h1 : dv c a) (h2 : dv d b) : uM c d := fun x h3 h4 => h x (h3.trans h1) (h4.trans h2)
theorem asf {a b : ZX} (ha : a ≠ 0) (hb : b ≠ 0) (hc : uM a b) (B : Rat) : ∃ ε : Rat, 0 < ε ∧ ∀ t, Ab t B → j7 ε (e t a) ∨ j7 ε (e t b) := by
 obtain ⟨s1, h1⟩ := DC a.l
 obtain ⟨s2, h2⟩ := DC b.l
 obtain ⟨β, hβ⟩ := NA B
 obtain ⟨ε, h3, h4⟩ := DE (sk (s1 + s2) (N a + N b) (N a + N b) β)
 exact ⟨ε, h3, fun t ht => sep (s := s1 + s2) (l := N a + N b) (β := β) ha hb (fun c hc => Nat.le_trans (h1 c hc) (Nat.pow_le_pow_right (by decide) (by omega))) (fun c hc => Nat.le_trans (h2 c hc) (Nat.pow_le_pow_right (by decide) (by omega))) (Nat.le_refl _) (Nat.le_of_lt Nat.lt_two_pow_self) hc (ht.mono hβ) (by rw [h4]; exact Rat.le_refl)⟩
structure tD (f : ZX) (v : Rat → Nat) : Prop where
 ne : f ≠ 0
 NB : uM f (bI f)
 g : ∃ L, C6 L f ∧ v = vt L
structure axd (f : ZX) (v : Rat → Nat) (B δ : Rat) : Prop where
 turns : ∀ s t, Ab s B → Ab t B → s < t → t - s ≤ δ → v s = v t + ind f s t
 simple : ∀ s t, Ab s B → Ab t B → s < t → t - s ≤ δ → e s f = 0 → e t f ≠ 0
 par : ∀ s t, Ab s B → Ab t B → s < t → t - s ≤ δ → wX f t = (if ind f s t = 0 then 1 else -1) * wX f s
def sH (n : Nat) : Int := if n % 2 = 0 then 1 else -1
theorem U6 (a b : Nat) : sH (a + b) = sH a * sH b := by
 unfold sH
 split <;> split <;> split <;> omega
theorem al9 (a : Nat) : sH a = 1 ∨ sH a = -1 := by unfold sH; split <;> simp
theorem acR (f : ZX) (s t : Rat) : ind f s t = 0 ∨ ind f s t = 1 := by unfold ind; split <;> simp
namespace tD
variable {f : ZX} {v : Rat → Nat} (S : tD f v)
include S
theorem vC (B : Rat) : ∃ δ : Rat, 0 < δ ∧ axd f v B δ := by
 obtain ⟨L, G, rfl⟩ := S.g
 obtain ⟨s, h1⟩ := DC f.l
 obtain ⟨β, hβ⟩ := NA B
 obtain ⟨δ, h3, h4⟩ := DE (lk s (N f) (N f) β)
 obtain ⟨h5, h6⟩ := GJ G S.ne h1 (Nat.le_refl _) (Nat.le_of_lt Nat.lt_two_pow_self) S.NB (δ := δ) (by rw [h4]; exact Rat.le_refl)
 exact ⟨δ, h3, fun s t hs ht => h5.turns s t (hs.mono hβ) (ht.mono hβ), fun s t hs ht => h5.simple s t (hs.mono hβ) (ht.mono hβ), fun s t hs ht => h6.par s t (hs.mono hβ) (ht.mono hβ)⟩
theorem bX {a b : Rat} (gO : a ≤ b) : v b ≤ v a := by
 obtain ⟨L, G, rfl⟩ := S.g
 exact G.bX gO
theorem const {a b : Rat} (gO : a < b) {σ : Int} (h0 : e a f = 0 ∨ bG (e a f) = σ) (h1 : ∀ x, a < x → x ≤ b → bG (e x f) = σ) : v a = v b := by
 obtain ⟨L, G, rfl⟩ := S.g
 exact G.const gO h0 h1
theorem flat {a b : Rat} (gO : a < b) (he : v a = v b) : e b f ≠ 0 ∧ (e a f ≠ 0 → bG (e b f) = bG (e a f)) := by
 obtain ⟨L, G, rfl⟩ := S.g
 exact G.flat gO he
theorem root {s t : Rat} (kG : s < t) (h0 : e t f = 0) : v t < v s := by
 obtain ⟨L, G, rfl⟩ := S.g
 exact G.root kG h0
theorem bg {a b : Rat} (hb : Bg a b f) (gO : a < b) : v a = v b := by
 obtain ⟨L, G, rfl⟩ := S.g
 exact G.bg hb gO
theorem par {s t : Rat} (h : s ≤ t) : wX f t = sH (v s - v t) * wX f s := by
 rcases Rat.le_iff_lt_or_eq.1 h with h1 | rfl
 ·refine acQ (P := fun a b => wX f b = sH (v a - v b) * wX f a) (fun a b c h1 h2 p1 p2 => ?_) (fun B hB => ?_) h1
  ·have := S.bX (Rat.le_of_lt h1)
   have := S.bX (Rat.le_of_lt h2)
   rw [p2, p1, show v a - v c = (v a - v b) + (v b - v c) by omega, U6]; grind
  ·obtain ⟨δ, hδ, hN⟩ := S.vC B
   refine ⟨δ, hδ, fun a b ha hb gO hd => ?_⟩
   have h1 := hN.turns a b ha hb gO hd
   have h2 := hN.par a b ha hb gO hd
   rw [h2, show v a - v b = ind f a b by omega]
   rcases acR f a b with h3 | h3 <;> rw [h3] <;> rfl
 ·rw [Nat.sub_self]; show _ = 1 * _; omega
end tD
theorem AB {f : ZX} {t : Rat} (h : e t f ≠ 0) : ∃ r : Rat, 0 < r ∧ ∀ x, t - r ≤ x → x ≤ t + r → bG (e x f) = bG (e t f) := by
 obtain ⟨B, hB, ha, hb⟩ := gJ (t - 1) (t + 1)
 obtain ⟨Q, hQ, hl⟩ := lip f B hB
 have hε : ∃ ε : Rat, 0 < ε ∧ j7 ε (e t f) := by
  by_cases h0 : 0 ≤ e t f
  ·exact ⟨e t f, by grind, .inr Rat.le_refl⟩
  ·exact ⟨-e t f, by grind, .inl (by grind)⟩
 obtain ⟨ε, hε, Q5⟩ := hε
 have h1 : ε / (2 * Q) * (2 * Q) = ε := Rat.div_mul_cancel (by grind)
 have h2 : 0 < ε / (2 * Q) := (Rat.lt_div_iff (by grind)).2 (by grind)
 generalize ε / (2 * Q) = η at *
 obtain ⟨r, hr, tR, dP⟩ := min2 (show (0 : Rat) < 1 by decide) h2
 refine ⟨r, hr, fun x hx hy => ?_⟩
 have VR : Ab x B := bY ha hb (by grind) (by grind)
 have ht' : Ab t B := bY ha hb (by grind) (by grind)
 have hrQ : r * Q ≤ η * Q := Rat.mul_le_mul_of_nonneg_right dP (Rat.le_of_lt hQ)
 refine (fG Q5 hε fun hn => ?_).1
 by_cases hxt : t ≤ x
 ·have h3 := hl t x ht' VR hxt
  have h4 : (x - t) * Q ≤ r * Q := Rat.mul_le_mul_of_nonneg_right (by grind) (Rat.le_of_lt hQ)
  obtain ⟨p1, p2⟩ := h3
  rcases hn with hn | hn <;> grind
 ·have h3 := hl x t VR ht' (by grind)
  have h4 : (t - x) * Q ≤ r * Q := Rat.mul_le_mul_of_nonneg_right (by grind) (Rat.le_of_lt hQ)
  obtain ⟨p1, p2⟩ := h3
  rcases hn with hn | hn <;> grind
namespace tD
variable {f : ZX} {v : Rat → Nat} (S : tD f v)
include S
theorem rgt (t : Rat) {b : Rat} (htb : t < b) : ∃ s, t < s ∧ s ≤ b ∧ v s = v t ∧ bG (e s f) = wX f t := by
 obtain ⟨B, hB, ha, hb⟩ := gJ t b
 obtain ⟨δ, hδ, hN⟩ := S.vC B
 by_cases h : e t f = 0
 ·obtain ⟨r, hr, h1, h2⟩ := min2 hδ (show 0 < b - t by grind)
  have hs : Ab (t + r) B := bY ha hb (by grind) (by grind)
  have g1 := hN.turns t (t + r) ha hs (by grind) (by grind)
  have g2 := hN.simple t (t + r) ha hs (by grind) (by grind) h
  have g3 := hN.par t (t + r) ha hs (by grind) (by grind)
  have g4 : ind f t (t + r) = 0 := if_neg fun hh => hh.1 h
  rw [g4] at g1 g3
  refine ⟨t + r, by grind, by grind, by omega, ?_⟩
  rw [if_pos rfl, Int.one_mul] at g3
  rw [← g3, wX, if_neg g2]
 ·obtain ⟨r1, tR, hc⟩ := AB h
  obtain ⟨r2, dP, h1, h2⟩ := min2 hδ (show 0 < b - t by grind)
  obtain ⟨r, hr, h3, h4⟩ := min2 tR dP
  have hs : Ab (t + r) B := bY ha hb (by grind) (by grind)
  have g1 := hN.turns t (t + r) ha hs (by grind) (by grind)
  have g5 := hc (t + r) (by grind) (by grind)
  have g4 : ind f t (t + r) = 0 := if_neg fun hh => hh.2 g5
  exact ⟨t + r, by grind, by grind, by omega, by rw [g5, wX, if_neg h]⟩
theorem lft {t : Rat} (h : e t f ≠ 0) {a : Rat} (hat : a < t) : ∃ s, a ≤ s ∧ s < t ∧ v s = v t ∧ bG (e s f) = bG (e t f) := by
 obtain ⟨B, hB, ha, hb⟩ := gJ a t
 obtain ⟨δ, hδ, hN⟩ := S.vC B
 obtain ⟨r1, tR, hc⟩ := AB h
 obtain ⟨r2, dP, h1, h2⟩ := min2 hδ (show 0 < t - a by grind)
 obtain ⟨r, hr, h3, h4⟩ := min2 tR dP
 have hs : Ab (t - r) B := bY ha hb (by grind) (by grind)
 have g1 := hN.turns (t - r) t hs hb (by grind) (by grind)
 have g5 := hc (t - r) (by grind) (by grind)
 have g4 : ind f (t - r) t = 0 := if_neg fun hh => hh.2 g5.symm
 exact ⟨t - r, by grind, by grind, by omega, g5⟩
theorem small {s t Q : Rat} (kG : s < t) (hv : v s ≠ v t) (hQ : 0 < Q) (hl : ∀ a b, s ≤ a → a ≤ b → b ≤ t → Ab (e b f - e a f) ((b - a) * Q)) {x : Rat} (hx : s ≤ x) (hy : x ≤ t) : Ab (e x f) ((t - s) * Q) := by
 refine Classical.byContradiction fun hn => hv ?_
 have key : ∀ y, s ≤ y → y ≤ t → bG (e y f) = bG (e x f) := fun y h1 h2 => by
  have h3 : Ab (e y f - e x f) ((t - s) * Q) := by
   by_cases tM : x ≤ y
   ·exact (hl x y hx tM h2).mono (Rat.mul_le_mul_of_nonneg_right (by grind) (Rat.le_of_lt hQ))
   ·have h4 := (hl y x h1 (by grind) hy).mono (Rat.mul_le_mul_of_nonneg_right (show x - y ≤ t - s by grind) (Rat.le_of_lt hQ))
    obtain ⟨p1, p2⟩ := h4
    exact ⟨by grind, by grind⟩
  obtain ⟨p1, p2⟩ := h3
  have h0 : 0 ≤ (t - s) * Q := Rat.mul_nonneg (by grind) (Rat.le_of_lt hQ)
  generalize (t - s) * Q = M at *
  rcases bQ (e x f) with ⟨h5, h6⟩ | ⟨h5, h6⟩ | ⟨h5, h6⟩
  ·rw [h6]
   refine eY ?_
   have : e x f < -M := Rat.not_le.1 fun h => hn ⟨h, by grind⟩
   grind
  ·exact absurd ⟨by grind, by grind⟩ hn
  ·rw [h6]
   refine dJ ?_
   have : M < e x f := Rat.not_le.1 fun h => hn ⟨by grind, h⟩
   grind
 exact S.const kG (σ := bG (e x f)) (.inr (key s Rat.le_refl (Rat.le_of_lt kG))) fun y h1 h2 => key y (Rat.le_of_lt h1) h2
end tD
theorem GK {p q : Prop} [Decidable p] [Decidable q] (h : p ↔ q) : (if p then 1 else 0 : Nat) = if q then 1 else 0 := by
 by_cases hp : p
 ·rw [if_pos hp, if_pos (h.1 hp)]
 ·rw [if_neg hp, if_neg (fun hq => hp (h.2 hq))]
theorem sI {c x y z : Rat} (hc : c ≠ 0) (h : c * x = y * z) : bG x = bG c * (bG y * bG z) := by
 have h1 : bG c * bG x = bG y * bG z := by rw [← k9, ← k9, h]
 rw [← h1]
 rcases bQ c with ⟨h2, h3⟩ | ⟨h2, h3⟩ | ⟨h2, h3⟩
 ·rw [h3]; omega
 ·exact absurd h2 hc
 ·rw [h3]; omega
theorem tD.mul {f g h : ZX} {v w u : Rat → Nat} (Sf : tD f v) (Sg : tD g w) (Sh : tD h u) {c : Int} (hc : c ≠ 0) (he : K c * f = g * h) (axf : uM g h) {s t : Rat} (kG : s ≤ t) : v s + w t + u t = v t + w s + u s := by
 rcases Rat.le_iff_lt_or_eq.1 kG with h1 | rfl
 ·refine acQ (P := fun s t => v s + w t + u t = v t + w s + u s) (fun a b c h1 h2 p1 p2 => by omega) (fun B hB => ?_) h1
  obtain ⟨δ1, hδ1, N1⟩ := Sf.vC B
  obtain ⟨δ2, hδ2, N2⟩ := Sg.vC B
  obtain ⟨δ3, hδ3, N3⟩ := Sh.vC B
  obtain ⟨ε, hε, axj⟩ := asf Sg.ne Sh.ne axf B
  obtain ⟨Q1, hQ1, l1⟩ := lip g B hB
  obtain ⟨Q2, hQ2, l2⟩ := lip h B hB
  have hQ : 0 < Q1 + Q2 := by grind
  have e1 : ε / (2 * (Q1 + Q2)) * (2 * (Q1 + Q2)) = ε := Rat.div_mul_cancel (by grind)
  have e2 : 0 < ε / (2 * (Q1 + Q2)) := (Rat.lt_div_iff (by grind)).2 (by grind)
  generalize ε / (2 * (Q1 + Q2)) = δ4 at *
  obtain ⟨m1, FO, a1, a2⟩ := min2 hδ1 hδ2
  obtain ⟨m2, hm2, a3, a4⟩ := min2 hδ3 e2
  obtain ⟨δ, hδ, a5, a6⟩ := min2 FO hm2
  refine ⟨δ, hδ, fun s t hs ht cW hd => ?_⟩
  have t1 := N1.turns s t hs ht cW (by grind)
  have t2 := N2.turns s t hs ht cW (by grind)
  have t3 := N3.turns s t hs ht cW (by grind)
  have hcq : (c : Rat) ≠ 0 := fun h0 => hc (Rat.intCast_eq_zero_iff.1 h0)
  have sgm : ∀ x, bG (e x f) = bG (c : Rat) * (bG (e x g) * bG (e x h)) := fun x => by
   refine sI hcq ?_
   rw [← gR, ← he, gR, uU]
  have dl : ∀ Q, 0 < Q → Q ≤ Q1 + Q2 → (t - s) * Q < ε := fun Q h0 h1 => by
   have h2 : (t - s) * Q ≤ δ4 * (Q1 + Q2) := by
    have h3 := Rat.mul_le_mul_of_nonneg_right (show t - s ≤ δ4 by grind) (Rat.le_of_lt h0)
    have h4 := Rat.mul_le_mul_of_nonneg_left h1 (Rat.le_of_lt e2)
    grind
   have h5 : δ4 * (Q1 + Q2) * 2 = ε := by rw [← e1]; grind
   grind
  have sc := bQ (c : Rat)
  have JR : bG (c : Rat) = 1 ∨ bG (c : Rat) = -1 := by
   rcases sc with ⟨_, h⟩ | ⟨h, _⟩ | ⟨_, h⟩
   ·exact .inr h
   ·exact absurd h hcq
   ·exact .inl h
  have ez : ∀ (p : ZX) x, (e x p ≠ 0) = (bG (e x p) ≠ 0) := fun p x => propext ⟨fun h h0 => h (cP.1 h0), fun h h0 => h (by rw [h0]; exact eV)⟩
  rcases axj s hs with hb | hb
  ·have hs2 := fG (y := e t g) hb hε fun hn => by
    obtain ⟨p1, p2⟩ := l1 s t hs ht (Rat.le_of_lt cW)
    have := dl Q1 hQ1 (by grind)
    rcases hn with hn | hn <;> grind
   have i1 : ind g s t = 0 := if_neg fun hh => hh.2 hs2.1
   have i2 : ind f s t = ind h s t := by
    refine GK ?_
    rw [ez f s, ez h s, sgm s, sgm t, hs2.1]
    have := mE (e s g)
    have h7 : bG (c : Rat) * bG (e s g) = 1 ∨ bG (c : Rat) * bG (e s g) = -1 := by
     rcases JR with h | h <;> rw [h] <;> omega
    rw [← Int.mul_assoc, ← Int.mul_assoc]
    rcases h7 with h | h <;> rw [h]
    ·simp only [Int.one_mul]
    ·simp only [Int.neg_mul, Int.one_mul, ne_eq, Int.neg_eq_zero, Int.neg_inj]
   omega
  ·have hs2 := fG (y := e t h) hb hε fun hn => by
    obtain ⟨p1, p2⟩ := l2 s t hs ht (Rat.le_of_lt cW)
    have := dl Q2 hQ2 (by grind)
    rcases hn with hn | hn <;> grind
   have i1 : ind h s t = 0 := if_neg fun hh => hh.2 hs2.1
   have i2 : ind f s t = ind g s t := by
    refine GK ?_
    rw [ez f s, ez g s, sgm s, sgm t, hs2.1]
    have := mE (e s h)
    have h7 : bG (c : Rat) * bG (e s h) = 1 ∨ bG (c : Rat) * bG (e s h) = -1 := by
     rcases JR with h | h <;> rw [h] <;> omega
    have cm : ∀ y : Int, bG (c : Rat) * (y * bG (e s h)) = bG (c : Rat) * bG (e s h) * y := fun y => by grind
    rw [cm, cm]
    rcases h7 with h | h <;> rw [h]
    ·simp only [Int.one_mul]
    ·simp only [Int.neg_mul, Int.one_mul, ne_eq, Int.neg_eq_zero, Int.neg_inj]
   omega
 ·omega
structure sJ (f : ZX) (v : Rat → Nat) (lo hi : Rat) : Prop where
 S : tD f v
 k : (lo = hi ∧ e lo f = 0) ∨ (lo < hi ∧ v lo = v hi + 1)
def oC (v : Rat → Nat) (lo hi t : Rat) : Prop := hi ≤ t ∨ (lo < t ∧ v t < v lo)
noncomputable def cr (U : Rat → Prop) (t : Rat) : Int := open Classical in if U t then (if ∃ s, s < t ∧ U s then -1 else 0) else 1
theorem DF {U : Rat → Prop} {t : Rat} : cr U t = 1 ↔ ¬ U t := by
 unfold cr
 split
 ·rename_i h
  split <;> simp [h]
 ·rename_i h
  simp [h]
theorem RU {U : Rat → Prop} (hU : ∀ s t, U s → s ≤ t → U t) {t : Rat} : cr U t = -1 ↔ ∃ s, s < t ∧ U s := by
 unfold cr
 split
 ·split
  ·rename_i h; simp [h]
  ·rename_i h; simp [h]
 ·rename_i h
  refine ⟨fun h1 => absurd h1 (by decide), fun ⟨s, h1, h2⟩ => absurd (hU s t h2 (Rat.le_of_lt h1)) h⟩
theorem U7 {U : Rat → Prop} {t : Rat} : cr U t = 0 ↔ U t ∧ ∀ s, s < t → ¬ U s := by
 unfold cr
 split
 ·rename_i h
  split
  ·rename_i h2
   refine ⟨fun h1 => absurd h1 (by decide), fun ⟨_, h3⟩ => ?_⟩
   obtain ⟨s, h4, h5⟩ := h2
   exact absurd h5 (h3 s h4)
  ·rename_i h2
   exact ⟨fun _ => ⟨h, fun s h3 h4 => h2 ⟨s, h3, h4⟩⟩, fun _ => rfl⟩
 ·rename_i h
  exact ⟨fun h1 => absurd h1 (by decide), fun h1 => absurd h1.1 h⟩
theorem nV {v : Rat → Nat} {lo hi : Rat} : oC v lo hi hi := .inl Rat.le_refl
namespace sJ
variable {f : ZX} {v : Rat → Nat} {lo hi : Rat} (A : sJ f v lo hi)
include A
theorem le : lo ≤ hi := by
 rcases A.k with ⟨h, _⟩ | ⟨h, _⟩
 ·rw [h]; exact Rat.le_refl
 ·exact Rat.le_of_lt h
theorem up {s t : Rat} (h : oC v lo hi s) (kG : s ≤ t) : oC v lo hi t := by
 rcases h with h | ⟨h1, h2⟩
 ·exact .inl (by grind)
 ·have := A.S.bX kG
  exact .inr ⟨by grind, by omega⟩
theorem uN {t : Rat} (h : t < lo ∨ (t = lo ∧ lo < hi)) : ¬ oC v lo hi t := by
 have := A.le
 rintro (h1 | ⟨h1, _⟩) <;> grind
theorem axk (t : Rat) : cr (oC v lo hi) t = if lo = hi then (if lo < t then -1 else if t < lo then 1 else 0) else if t ≤ lo then 1 else if hi < t then -1 else if v lo = v t then 1 else if e t f = 0 then 0 else -1 := by
 have hup := fun s t (h : oC v lo hi s) (h' : s ≤ t) => A.up h h'
 have hle := A.le
 split
 ·rename_i h
  subst h
  have hU : ∀ t, oC v lo lo t ↔ lo ≤ t := fun t => ⟨fun h => by rcases h with h | h <;> grind, fun h => .inl h⟩
  split
  ·exact (RU hup).2 ⟨lo, by assumption, .inl Rat.le_refl⟩
  ·split
   ·exact DF.2 (fun h => by have := (hU t).1 h; grind)
   ·exact U7.2 ⟨.inl (by grind), fun s h1 h2 => by have := (hU s).1 h2; grind⟩
 ·rename_i nZ
  have cW : lo < hi := by grind
  have hk : v lo = v hi + 1 := by
   rcases A.k with ⟨h, _⟩ | ⟨_, h⟩
   ·exact absurd h nZ
   ·exact h
  split
  ·rename_i h
   exact DF.2 (A.uN (by grind))
  ·rename_i h1
   split
   ·rename_i h2
    exact (RU hup).2 ⟨hi, h2, nV⟩
   ·rename_i h2
    have b1 := A.S.bX (show lo ≤ t by grind)
    have b2 := A.S.bX (show t ≤ hi by grind)
    split
    ·rename_i h3
     refine DF.2 ?_
     rintro (h4 | ⟨_, h4⟩)
     ·have : t = hi := by grind
      subst this; omega
     ·omega
    ·rename_i h3
     split
     ·rename_i h4
      refine U7.2 ⟨.inr ⟨by grind, by omega⟩, fun s h5 h6 => ?_⟩
      have h7 := A.S.root h5 h4
      rcases h6 with h6 | ⟨h6, h8⟩
      ·grind
      ·omega
     ·rename_i h4
      obtain ⟨s, h5, h6, h7, _⟩ := A.S.lft h4 (show lo < t by grind)
      refine (RU hup).2 ⟨s, h6, .inr ⟨?_, by omega⟩⟩
      rcases Rat.le_iff_lt_or_eq.1 h5 with h8 | rfl
      ·exact h8
      ·omega
theorem half {m : Rat} (h1 : lo < m) (h2 : m < hi) : (v m < v lo → sJ f v lo m ∧ ∀ t, oC v lo m t ↔ oC v lo hi t) ∧ (¬ v m < v lo → sJ f v m hi ∧ ∀ t, oC v m hi t ↔ oC v lo hi t) := by
 have hk : v lo = v hi + 1 := by
  rcases A.k with ⟨h, _⟩ | ⟨_, h⟩
  ·grind
  ·exact h
 have b1 := A.S.bX (Rat.le_of_lt h1)
 have b2 := A.S.bX (Rat.le_of_lt h2)
 refine ⟨fun h => ⟨⟨A.S, .inr ⟨h1, by omega⟩⟩, fun t => ⟨?_, ?_⟩⟩, fun h => ⟨⟨A.S, .inr ⟨h2, by omega⟩⟩, fun t => ⟨?_, ?_⟩⟩⟩
 ·rintro (h3 | h3)
  ·have := A.S.bX h3
   exact .inr ⟨by grind, by omega⟩
  ·exact .inr h3
 ·rintro (h3 | h3)
  ·exact .inl (by grind)
  ·exact .inr h3
 ·rintro (h3 | ⟨h3, h4⟩)
  ·exact .inl h3
  ·exact .inr ⟨by grind, by omega⟩
 ·rintro (h3 | ⟨h3, h4⟩)
  ·exact .inl h3
  ·refine .inr ⟨?_, by omega⟩
   refine Rat.not_le.1 fun h5 => ?_
   have := A.S.bX h5
   omega
theorem exact (h : e hi f = 0) : sJ f v hi hi ∧ ∀ t, oC v hi hi t ↔ oC v lo hi t := by
 refine ⟨⟨A.S, .inl ⟨rfl, h⟩⟩, fun t => ⟨?_, ?_⟩⟩
 ·rintro (h3 | ⟨h3, _⟩)
  ·exact .inl h3
  ·exact .inl (by grind)
 ·rintro (h3 | ⟨h3, h4⟩)
  ·exact .inl h3
  ·refine .inl (Rat.not_lt.1 fun h5 => ?_)
   have h6 := A.S.root h5 h
   rcases A.k with ⟨h7, _⟩ | ⟨_, h7⟩
   ·grind
   ·omega
end sJ
end ZX
end Pm
namespace Pm
open Go Go.RowKit
section
variable {E : Env} {m : Nat} {G : Gs} {w0 : World} {S0 : dW}
def mx3 (p q r : PV) (K : PV → Prop) : Prop := ∃ k a b c, p = .int k a ∧ q = .int k b ∧ r = .int k c ∧ K (.int k (max (max a b) c))
@[simp] theorem aud {k : IntKind} {a b c : Int} {K : PV → Prop} : mx3 (.int k a) (.int k b) (.int k c) K = K (.int k (max (max a b) c)) := by
 apply propext
 constructor
 ·rintro ⟨k', a', b', c', h1, h2, h3, h⟩
  cases h1; cases h2; cases h3; exact h
 ·exact fun h => ⟨k, a, b, c, rfl, rfl, rfl, h⟩
def ash (o : Oper) (K : PS → Prop) (σ : PS) : Prop :=
 match o.op with
 | .call { callee := .builtin .max, args := ⟨[x, y, z]⟩, argTypes := _ } => mx3 (aR σ.f x) (aR σ.f y) (aR σ.f z) fun v => K (σ.put o.dst v)
 | _ => False
end
@[simp] theorem asi {K : PS → Prop} {f : Nat → PV} {rows : Rows} {clk : Nat} {d : Option Tmp} {ty : TypeId} {pos : String} {af : Array Edge} {ts : Array TypeId} {x y z : Operand} :
  ash ⟨d, .call { callee := .builtin .max, args := ⟨[x, y, z]⟩, argTypes := ts }, ty, pos, af, none⟩ K ⟨f, rows, clk⟩ = mx3 (aR f x) (aR f y) (aR f z) fun v => K ⟨put f d v, rows, clk⟩ := rfl
section
variable {E : Env} {w0 : World} {S0 : dW} {n : Nat} {G : Gs}
theorem EV {id tl : Nat} {ops : Array Oper} {T : PS → Prop} {Q : Exit → Act → World → Prop} (gK : qJ E n tl ops true = true) (htl : tl ≠ 0) {σ : PS} {a : Act} {w : World}
  (h : aO E ops.toList σ.clock 0 (ops.toList.take (ops.size - tl)) T ⟨σ.f, σ.rows, fun _ _ => False, fun _ _ => False⟩) (hR : Rel w0 S0 n G σ a w)
  (hT : ∀ σ' a' w', T σ' → Rel w0 S0 n G σ' a' w' → wpList E.P ops Q (ops.toList.drop (ops.size - tl)) a' w') : (Code.region id ops true).wp E.P Q a w := by
 simp only [qJ, Bool.and_eq_true, Bool.not_true, Bool.false_or] at gK
 obtain ⟨ajj, s5, gK⟩ := gK
 have hd : ∀ o, o ∈ ops → ∀ t, o.dst = some t → t < n := by
  intro o ho t ht
  have := Array.all_eq_true_iff_forall_mem.1 ajj o ho
  simpa [ht] using this
 refine wp_region_any E.mixed ?_
 have KF := hR.drew
 have hU0 : ∀ k (l : Array Bool), oV w0 S0 n G (Ul E ops σ.clock k l) σ.f σ.rows a { w with drawn := w.drawn + 1 } := fun k l => KF.mono fun v hv => .inl hv
 have aet : ∀ (l : List Oper), tN E l = true → ∀ (i : Nat) (oi : Oper), l[i]? = some oi → dK E oi.op = true → oi.dst.isSome = true := fun l h i oi hi hn => by
  have := List.all_eq_true.1 h oi (List.mem_of_getElem? hi)
  rw [hn] at this; simp at this; exact Option.isSome_iff_exists.2 (by obtain ⟨x, hx⟩ := Option.isSome_iff_exists.1 this.1; exact ⟨x, hx⟩)
 rw [if_neg htl] at gK s5
 have oU : ∀ i oi, i < ops.size - tl → ops[i]? = some oi → dK E oi.op = true → oi.dst.isSome = true := fun i oi h1 hi => aet _ s5 i oi (by rw [List.getElem?_take, if_pos h1]; simpa using hi)
 simp only [Bool.and_eq_true, decide_eq_true_eq] at gK
 obtain ⟨hle, hB⟩ := gK
 simp only [Region.lexTailB, Bool.and_eq_true, decide_eq_true_eq] at hB
 obtain ⟨⟨⟨⟨auU, yG⟩, hs⟩, hc⟩, ajk⟩ := hB
 have hl := oJ (c0 := σ.clock) (ops.toList.take (ops.size - tl)) 0 _ _ (fun j hj => by
  have hj' : j < ops.size - tl := by simpa using hj
  simp [hj']) s5 (by simp [rk]) h
 have Z6 : HeadInv .any ops (ops.size - tl) (Array.replicate ops.size false) :=
  ⟨by simp, fun j oj _ hl => (by rw [getD_replicate_false] at hl; cases hl), fun t _ ht => getD_in (by simpa using ht) (getD_replicate_false _ _)⟩
 have wR : (ops.toList.take (ops.size - tl)).length = ops.size - tl := by simp
 have Z7 : (ops.toList.drop (ops.size - tl)).length = ops.size - (ops.size - tl) := by simp
 have H := rQ (E := E) (md := .any) (n := ops.size - tl) (g := ops.size - (ops.size - tl)) oU (fun a8 inv i hi N6 t ht => tail_waits hs hc yG inv _ i rfl hi N6 t ht) (ops.toList.take (ops.size - tl)) 0 _ _ (fun j hj => by
  rw [wR] at hj
  simp [hj]) (by rw [wR]; simp) Z6 (by rw [wR]; exact ajk) hl
 have := kY (E := E) (md := .any) (g := ops.size - (ops.size - tl)) (Q := Q) (m := n) hd (fun a8 st a' w' hL lE => by
  obtain ⟨h1, h2⟩ := hL
  have h3 := hT _ a' w' h2 (lE.mono fun v hv => by have := O0 hv; simpa using this)
  have h4 := wpAny_of_seq (md := .any) (Q' := Q) (ops.toList.drop (ops.size - tl)) (ops.size - tl) a8 a' w' (fun j => by simp [List.getElem?_drop]) (by rw [Z7]; exact h1) h3
  rwa [Z7] at h4) _ _ _ _ _ (by simp) H (hU0 _ _)
 rw [wR, show ops.size - tl + (ops.size - (ops.size - tl)) = ops.size by omega] at this
 exact this
end
theorem W.asj {E : Env} {n : Nat} {tl : Nat → Nat} {Q : PX → PS → Prop} {f : Nat → PV} {rows : Rows} {clk : Nat} {id : Nat} {ops : List Oper} {y : Code} (m : Nat) {o : Oper} {r : List Oper} (hm : tl id = m + 1) (ho : ops.drop (ops.length - (m + 1)) = o :: r) (hg : o.guard = none)
  (h : ∀ K : PS → Prop, (∀ σ, W E n tl y Q σ → K σ) → go (aO E ops clk 0 (ops.take (ops.length - (m + 1))) (fun σ => EO E o (aM E ops r K) σ) ⟨f, rows, fun _ _ => False, fun _ _ => False⟩)) : W E n tl (.seq (.region id ops.toArray true) y) Q ⟨f, rows, clk⟩ := by
 refine W.seq ?_
 intro gK w0 S0 G a w Q' hR hQ
 have amb : qJ E n (tl id) ops.toArray true = true := by simpa [eS] using gK
 have hd : ∀ o ∈ ops, ∀ t, o.dst = some t → t < n := fun o ho t ht => by
  simp only [qJ, Bool.and_eq_true] at amb
  have := Array.all_eq_true_iff_forall_mem.1 amb.1 o (by simpa using ho)
  simpa [ht] using this
 have h1 := h (fun σ => W E n tl y Q σ) fun _ h => h
 have tL : ∀ x ∈ o :: r, x ∈ ops := fun x hx => by rw [← ho] at hx; exact List.mem_of_mem_drop hx
 refine EV (T := fun σ => EO E o (aM E ops r (fun σ => W E n tl y Q σ)) σ) amb (by omega) (by rw [hm]; exact h1) hR fun σ' a' w' hT lE => ?_
 rw [hm]
 have e : ops.toArray.toList.drop (ops.toArray.size - (m + 1)) = o :: r := by simpa using ho
 rw [e]
 unfold wpList
 rw [if_pos (by simp [Region.wanted, hg])]
 refine .inl (uD hT lE (hd o (tL o (by simp))) fun σ2 a2 w2 hk hR2 => ?_)
 exact gV (E := E) (ops := ops.toArray) (fun σ3 a3 w3 XT hR3 => hQ .normal σ3 a3 w3 XT hR3) _ σ2 a2 w2 (fun o ho => hd o (tL o (by simp [ho]))) hk hR2
end Pm
namespace Go.Proofs.YtelhfbikiccfkaaGreat
open Go Pm
open ZX hiding N W
theorem AD {α β : Type} {c : Prop} [Decidable c] (f g : α → β) (x : α) : (if c then f else g) x = if c then f x else g x := by split <;> rfl
def D0 (v : Rat → Nat) : Nat → Rat → Rat → List (Rat × Rat)
 | 0, lo, hi => if v lo = v hi then [] else [(lo, hi)]
 | k + 1, lo, hi => if v lo = v hi then [] else if v lo = v hi + 1 then [(lo, hi)] else D0 v k lo ((lo + hi) / 2) ++ D0 v k ((lo + hi) / 2) hi
theorem oD {lo hi : Rat} (h : lo < hi) : lo < (lo + hi) / 2 ∧ (lo + hi) / 2 < hi := by
 have h1 : (lo + hi) / 2 * 2 = lo + hi := Rat.div_mul_cancel (by decide)
 exact ⟨by grind, by grind⟩
theorem rJ {lo hi δ : Rat} {k : Nat} (h : hi - lo ≤ δ * 2 ^ (k + 1)) : (lo + hi) / 2 - lo ≤ δ * 2 ^ k ∧ hi - (lo + hi) / 2 ≤ δ * 2 ^ k := by
 have h1 : (lo + hi) / 2 * 2 = lo + hi := Rat.div_mul_cancel (by decide)
 rw [Rat.pow_succ] at h
 generalize (2 : Rat) ^ k = p at *
 exact ⟨by grind, by grind⟩
structure Gr (D : Nat) (B : Rat) (j : Nat) (q : Rat) : Prop where
 z : ∃ z : Int, q * ((D * 2 ^ j : Nat) : Int) = (z : Rat)
 b : Ab q B
theorem Gr.mono {D : Nat} {B q : Rat} {i j : Nat} (h : Gr D B i q) (YX : i ≤ j) : Gr D B j q := by
 obtain ⟨⟨z, hz⟩, hb⟩ := h
 obtain ⟨k, rfl⟩ : ∃ k, j = i + k := ⟨j - i, by omega⟩
 refine ⟨⟨z * (2 ^ k : Nat), ?_⟩, hb⟩
 rw [Rat.intCast_mul, ← hz, Nat.pow_add, ← Nat.mul_assoc, Int.natCast_mul (D * 2 ^ i), Rat.intCast_mul]
 grind
theorem Gr.H4 {D : Nat} {B p q : Rat} {j : Nat} (hp : Gr D B j p) (hq : Gr D B j q) : Gr D B (j + 1) ((p + q) / 2) := by
 obtain ⟨⟨y, hy⟩, b1, b2⟩ := hp
 obtain ⟨⟨z, hz⟩, b3, b4⟩ := hq
 have h1 : (p + q) / 2 * 2 = p + q := Rat.div_mul_cancel (by decide)
 refine ⟨⟨y + z, ?_⟩, by grind, by grind⟩
 rw [Rat.intCast_add, ← hy, ← hz, Nat.pow_succ, ← Nat.mul_assoc, Int.natCast_mul (D * 2 ^ j), Rat.intCast_mul]
 have h2 : (((2 : Nat) : Int) : Rat) = 2 := rfl
 rw [h2]
 generalize (((D * 2 ^ j : Nat) : Int) : Rat) = M at *
 grind
theorem Gr.sq {D d β j : Nat} {q : Rat} (h : Gr D (2 ^ β) j q) (h0 : 1 ≤ D) (hD : D ≤ 2 ^ d) : SQ (β + d + j + 1) q := by
 obtain ⟨⟨z, hz⟩, hb⟩ := h
 have hM : 1 ≤ D * 2 ^ j := Nat.mul_pos h0 (Nat.two_pow_pos _)
 have hM2 : D * 2 ^ j ≤ 2 ^ (d + j) := by rw [Nat.pow_add]; exact Nat.mul_le_mul_right _ hD
 have hMq : (0 : Rat) < (((D * 2 ^ j : Nat) : Int) : Rat) := Rat.intCast_pos.2 (by omega)
 have hzb : z.natAbs ≤ 2 ^ (β + d + j) := by
  have h1 : Ab (z : Rat) (((2 ^ β * (D * 2 ^ j) : Nat) : Int) : Rat) := by
   rw [← hz, Int.natCast_mul (2 ^ β), Rat.intCast_mul, JC]
   exact hb.mul ⟨by grind, Rat.le_refl⟩
  obtain ⟨h2, h3⟩ := h1
  rw [← Rat.intCast_neg] at h2
  have h4 := Rat.intCast_le_intCast.1 h2
  have h5 := Rat.intCast_le_intCast.1 h3
  have h6 : 2 ^ β * (D * 2 ^ j) ≤ 2 ^ (β + d + j) := by
   rw [Nat.add_assoc, Nat.pow_add]; exact Nat.mul_le_mul_left _ hM2
  omega
 have e := RJ (n := z) (d := ((D * 2 ^ j : Nat) : Int)) (by omega) hz.symm
 have nZ : ((D * 2 ^ j : Nat) : Int) ≠ 0 := by omega
 have hnn := pD z ((D * 2 ^ j : Nat) : Int) nZ
 have KE := pE z ((D * 2 ^ j : Nat) : Int) nZ
 rw [if_neg (by omega)] at hnn KE
 rw [e] at hnn KE
 have b1 : q.num.natAbs ≤ z.natAbs := by rw [hnn]; exact Int.natAbs_ediv_le_natAbs _ _
 have b2 : ((q.den : Int)).natAbs ≤ D * 2 ^ j := by rw [KE]; exact Nat.le_trans (Int.natAbs_ediv_le_natAbs _ _) (by omega)
 have hp : ∀ i, 2 ^ i < 2 ^ (i + 1) := fun i => Nat.pow_lt_pow_right (by decide) (by omega)
 refine ⟨dD (by decide) (Nat.lt_of_le_of_lt (Nat.le_trans b1 hzb) (hp _)), dD (by decide) (Nat.lt_of_le_of_lt (Nat.le_trans b2 hM2) ?_), by omega⟩
 exact Nat.pow_lt_pow_right (by decide) (by omega)
structure Cut (v : Rat → Nat) (B δ : Rat) : Prop where
 bX : ∀ a b, a ≤ b → v b ≤ v a
 vC : ∀ a b, Ab a B → Ab b B → a < b → b - a ≤ δ → v a ≤ v b + 1
theorem Cut.leaf {v : Rat → Nat} {B δ : Rat} (C : Cut v B δ) {lo hi : Rat} (GW : Ab lo B) (VQ : Ab hi B) (h : lo < hi) (hd : hi - lo ≤ δ) (nZ : v lo ≠ v hi) : v lo = v hi + 1 := by
 have := C.vC lo hi GW VQ h hd
 have := C.bX lo hi (Rat.le_of_lt h)
 omega
theorem nW {v : Rat → Nat} {D : Nat} {B δ : Rat} (C : Cut v B δ) : ∀ (k j : Nat) (lo hi : Rat), Gr D B j lo → Gr D B j hi → lo < hi → hi - lo ≤ δ * 2 ^ k →
  (∀ p ∈ D0 v k lo hi, Gr D B (j + k) p.1 ∧ Gr D B (j + k) p.2 ∧ lo ≤ p.1 ∧ p.1 < p.2 ∧ p.2 ≤ hi ∧ v p.1 = v p.2 + 1) ∧ (D0 v k lo hi).length = v lo - v hi ∧ (D0 v k lo hi).Pairwise fun p q => p.2 ≤ q.1
 | 0, j, lo, hi, g1, g2, h, hd => by
  rw [D0]
  split
  ·rename_i he
   exact ⟨fun p hp => absurd hp List.not_mem_nil, by rw [he]; simp, List.Pairwise.nil⟩
  ·rename_i he
   have := C.leaf g1.b g2.b h (by rw [Rat.pow_zero, Rat.mul_one] at hd; exact hd) he
   refine ⟨fun p hp => ?_, by simp; omega, List.pairwise_singleton _ _⟩
   rw [List.mem_singleton] at hp; subst hp
   exact ⟨g1, g2, Rat.le_refl, h, Rat.le_refl, this⟩
 | k + 1, j, lo, hi, g1, g2, h, hd => by
  rw [D0]
  split
  ·rename_i he
   exact ⟨fun p hp => absurd hp List.not_mem_nil, by rw [he]; simp, List.Pairwise.nil⟩
  ·rename_i he
   split
   ·rename_i CY
    refine ⟨fun p hp => ?_, by simp; omega, List.pairwise_singleton _ _⟩
    rw [List.mem_singleton] at hp; subst hp
    exact ⟨g1.mono (by omega), g2.mono (by omega), Rat.le_refl, h, Rat.le_refl, CY⟩
   ·obtain ⟨m1, m2⟩ := oD h
    obtain ⟨d1, d2⟩ := rJ hd
    have gm := g1.H4 g2
    obtain ⟨a1, a2, a3⟩ := nW C k (j + 1) lo ((lo + hi) / 2) (g1.mono (by omega)) gm m1 d1
    obtain ⟨b1, b2, b3⟩ := nW C k (j + 1) ((lo + hi) / 2) hi gm (g2.mono (by omega)) m2 d2
    have n1 := C.bX lo ((lo + hi) / 2) (Rat.le_of_lt m1)
    have n2 := C.bX ((lo + hi) / 2) hi (Rat.le_of_lt m2)
    rw [show j + 1 + k = j + (k + 1) by omega] at a1 b1
    generalize (lo + hi) / 2 = m at *
    refine ⟨fun p hp => ?_, by rw [List.length_append, a2, b2]; omega, List.pairwise_append.2 ⟨a3, b3, fun p hp q hq => ?_⟩⟩
    ·rcases List.mem_append.1 hp with hp | hp
     ·obtain ⟨c1, c2, c3, c4, c5, c6⟩ := a1 p hp
      exact ⟨c1, c2, c3, c4, by grind, c6⟩
     ·obtain ⟨c1, c2, c3, c4, c5, c6⟩ := b1 p hp
      exact ⟨c1, c2, by grind, c4, c5, c6⟩
    ·obtain ⟨c1, c2, c3, c4, c5, c6⟩ := a1 p hp
     obtain ⟨d1, d2, d3, d4, d5, d6⟩ := b1 q hq
     grind
theorem SQ.mono {u w : Nat} {q : Rat} (h : SQ u q) (hu : u ≤ w) : SQ w q := ⟨Nat.le_trans h.n2 hu, Nat.le_trans h.d2 hu, Nat.le_trans h.hu hu⟩
theorem SQ.LLs {u : Nat} {q : Rat} (h : SQ u q) {k : Nat} (hu : u ≤ k) : sz LL q.num ≤ k ∧ sz LL (q.den : Int) ≤ k := ⟨Nat.le_trans h.nL hu, Nat.le_trans h.dL hu⟩
theorem SQ.LLt {u : Nat} {q : Rat} (h : SQ u q) {k : Nat} (hu : u < k) : sz LL q.num < k ∧ sz LL (q.den : Int) < k := ⟨Nat.lt_of_le_of_lt h.nL hu, Nat.lt_of_le_of_lt h.dL hu⟩
structure j4 (s n : Nat) (f : ZX) : Prop where
 lay : pT s n f
 uC : 1 ≤ n
 nf : Nf f
 sq : Go.Proofs.YtelhfbikiccfkaaGreat.sq f = f
 hs : s ≤ 5000000
namespace j4
variable {s n : Nat} {f : ZX} (I : j4 s n f)
include I
theorem ch : Ch s n f := ⟨I.lay.bz, I.lay.hn, I.uC, Nat.le_trans (Nat.mul_le_mul_right _ (by unfold qb; omega)) I.lay.hC⟩
theorem s1 : 1 ≤ s := by
 have h1 := I.lay.hs
 have h2 := I.uC
 rcases Nat.eq_zero_or_pos s with h | h
 ·rw [h] at h1; simp at h1; omega
 ·exact h
theorem hb : ∀ p ∈ aU f, BZ 4500000000 n p := I.ch.all.1
theorem hl : (aU f).length ≤ 21 := I.ch.all.2
theorem gz1 : gz f (bI f) = 1 := by
 have := U1 I.nf.ne
 rwa [I.sq] at this
theorem NB : uM f (bI f) := fun d h1 h2 => by
 have h3 := (eE f (bI f)).least h1 h2
 rw [I.gz1] at h3
 have := h3.lZ ZX.lY
 rwa [ZX.rB] at this
theorem YB : C6 (aU f) f := I.ch.YB I.nf.ne I.gz1
theorem S : tD f (vt (aU f)) := ⟨I.nf.ne, I.NB, _, I.YB, rfl⟩
theorem szf : ∀ c ∈ f.l, c.natAbs ≤ 2 ^ s := fun c hc => by
 have h1 := kB (b := 2) (by decide) c
 have h2 := Nat.pow_le_pow_right (show 0 < 2 by decide) (I.ch.bz.sz c hc)
 omega
theorem cut (β : Nat) : ∃ δ : Rat, 0 < δ ∧ δ * 2 ^ lk s n 5 β = 1 ∧ Cut (vt (aU f)) (2 ^ β) δ := by
 obtain ⟨δ, h1, h2⟩ := DE (lk s n 5 β)
 have hn := I.ch.hn
 obtain ⟨h3, _⟩ := GJ I.YB (s := s) (n := n) (l := 5) (β := β) I.nf.ne I.szf I.ch.bz.N (by omega) I.NB (by rw [h2]; exact Rat.le_refl)
 refine ⟨δ, h1, h2, fun a b gO => I.YB.bX gO, fun a b ha hb gO hd => ?_⟩
 have := h3.turns a b ha hb gO hd
 rcases acR f a b with h4 | h4 <;> omega
end j4
section
variable {c : List ZX} {n u : Nat} {p q : Rat} (hb : ∀ p ∈ c, BZ 4500000000 n p) (hn : n ≤ 20) (hl : c.length ≤ 21) (hp : SQ u p) (hq : SQ u q) (hu : u ≤ 1000000000)
include hb hn hl hp hq hu
theorem acS : aG env.P 92 [CH c, RT p, RT q] (.int .i64 (if q < p then 0 else (vt c p : Int) - vt c q)) := by
 have z1 := kU hq.nL hq.dL hp.nL hp.dL (by omega) (c7 q) (c7 p) ⟨hq.nL, hq.dL⟩ ⟨hp.nL, hp.dL⟩
 have b1 := IZ (by omega) z1 (acG hb hn hl hp hu) (acG hb hn hl hq hu)
 rw [C9, C9] at b1
 simp only [jK] at b1
 exact b1
theorem RV : aG env.P 80 [aI zq c, RR p, RR q] (.int .i64 (if q < p then 0 else (vt c p : Int) - vt c q)) := by
 have yy : ∀ {v : Int}, sz 2 v ≤ u → sz 2 v ≤ YY := fun h => by simp only [YY]; omega
 have b1 := M0 (yy hp.n2) (yy hp.d2) (yy hq.n2) (yy hq.d2) (by omega) (acF hb hn hl hp hu) (acF hb hn hl hq hu)
 have hcm : (q.num * (p.den : Int) < p.num * (q.den : Int)) = (q < p) := propext (by rw [← jK]; exact oK.symm)
 rw [C9, C9] at b1
 simp only [hcm] at b1
 rw [c8, c8]
 exact b1
end
abbrev tc (q : Rat) : List PV := [.bool (decide (q.num < 0)), us (aS LL q.num.natAbs), .bool (decide ((q.den : Int) < 0)), us (aS LL (q.den : Int).natAbs)]
def ga (f : ZX) (p : Rat × Rat) : List PV := Po f.l :: (tc p.1 ++ tc p.2)
@[simp] theorem axm {f : ZX} {p : Rat × Rat} : ga f p = Po f.l :: (tc p.1 ++ tc p.2) := rfl
@[simp] theorem xP {f : ZX} {l : List (Rat × Rat)} : bF 9 (emap (ga f) l) = True := dG fun _ => rfl
@[simp] theorem amc {v e n : Nat} {f : ZX} {l : List (Rat × Rat)} : dC (some ⟨v, e, n, emap (ga f) l⟩) = True := cY fun _ => rfl
theorem JD {f : ZX} {l : List (Rat × Rat)} : ∀ x ∈ emap (ga f) l, ∀ p ∈ x, cM p = true := fun x hx p hp => by
 simp only [emap, List.mem_map] at hx
 obtain ⟨r, _, rfl⟩ := hx
 simp at hp
 rcases hp with rfl | rfl | rfl | rfl | rfl | rfl | rfl | rfl | rfl <;> rfl
theorem acT {f : ZX} {c : List ZX} {lo hi : Rat} : iD env.P 76 [Po f.l, CH c, RT lo, RT hi, .int .i64 0] 54 9 [] := by
 show iD env.P _ [Po f.l, .rd [aI zp c], T2 lo.num lo.den, T2 hi.num hi.den, .int .i64 0] _ _ _
 generalize lo.num = ln at *
 generalize (lo.den : Int) = ld at *
 generalize hi.num = hn at *
 generalize (hi.den : Int) = hd at *
 generalize aI zp c = X at *
 refine i4 (E := env) (fun id => if id = 5 then 2 else if id = 8 then 2 else 0) (t := 10) [(0, Po f.l), (1, .rd [X]), (2, T2 ln ld), (3, T2 hn hd), (4, .int .i64 0)] Tryz.func76 rfl (by kernel_rfl) (by kernel_rfl) (show 5 ≤ 48 by decide) rfl (by simp) ?_
 refine aA [0, 1, 4, 7, 8] ?_
 refine aL [0, 1, 4, 7, 8, 13] ?_
 refine W.block ?_
 refine aA [0, 1, 4, 7, 8, 13, 14] ?_
 refine bE ?_ ?_ <;> intro h
 ·refine aA [10] ?_
  refine W.nil 10 10 54 9 (by simp) (by decide) (fun K hK => ?_)
  simp
  refine hK _ ?_
  refine W.ret ?_
  exact ⟨10, _, by simp; exact rfl, by simp, fun x hx => by cases hx⟩
 ·simp at h
theorem agE {s n : Nat} {f : ZX} (I : j4 s n f) {c : List ZX} {lo hi : Rat} {u : Nat} (q1 : SQ u lo) (q2 : SQ u hi) (hu : u ≤ 1000000000) : iD env.P 76 [Po f.l, CH c, RT lo, RT hi, .int .i64 1] 54 9 (emap (ga f) [(lo, hi)]) := by
 have N1 := fP (x := f.l) (I.ch.bz.pb (by have := I.hs; omega) (by have := I.ch.hn; omega))
 rw [f.c] at N1
 obtain ⟨l1, l2⟩ := q1.LLt (show u < 1099511627770 by omega)
 obtain ⟨l3, l4⟩ := q2.LLt (show u < 1099511627770 by omega)
 have M1 := wG l1 l2
 have M2 := wG l3 l4
 rw [c7] at M1 M2
 rw [show emap (ga f) [(lo, hi)] = [Po f.l :: (tc lo ++ tc hi)] from rfl]
 show iD env.P _ [Po f.l, .rd [aI zp c], T2 lo.num lo.den, T2 hi.num hi.den, .int .i64 1] _ _ _
 replace M1 : aG env.P 94 [T2 lo.num lo.den, .sl []] (T2 lo.num lo.den) := M1
 replace M2 : aG env.P 94 [T2 hi.num hi.den, .sl []] (T2 hi.num hi.den) := M2
 clear l1 l2 l3 l4 q1 q2
 simp only [tc]
 generalize lo.num = ln at *
 generalize (lo.den : Int) = ld at *
 generalize hi.num = hn at *
 generalize (hi.den : Int) = hd at *
 generalize aI zp c = X at *
 refine i4 (E := env) (fun id => if id = 5 then 2 else if id = 8 then 2 else 0) (t := 10) [(0, Po f.l), (1, .rd [X]), (2, T2 ln ld), (3, T2 hn hd), (4, .int .i64 1)] Tryz.func76 rfl (by kernel_rfl) (by kernel_rfl) (show 5 ≤ 48 by decide) rfl (by simp) ?_
 refine aA [0, 1, 4, 7, 8] ?_
 refine aL [0, 1, 4, 7, 8, 13] ?_
 refine W.block ?_
 refine aA [0, 1, 4, 7, 8, 13, 14] ?_
 refine bE ?_ ?_ <;> intro h
 ·simp at h
 ·refine aA [0, 1, 4, 7, 8, 16] ?_
  refine bE ?_ ?_ <;> intro h
  ·refine W.asj 1 rfl rfl rfl (fun K hK => ?_)
   simp (disch := omega) [gw]
   refine bZ N1 ?_
   refine bZ M1 ?_
   refine bZ M2 ?_
   refine W.lw [10] hK ?_; clear hK K; simp
   refine W.ret ?_
   exact ⟨25, _, by simp; exact rfl, by simp, fun x hx p hp => by
    simp at hx; subst hx
    simp at hp
    rcases hp with rfl | rfl | rfl | rfl | rfl | rfl | rfl | rfl | rfl <;> rfl⟩
  ·simp at h
theorem acU {f : ZX} {c : List ZX} {lo hi : Rat} {n k : Int} {la lb : List (Rat × Rat)} (hn : 2 ≤ n ∧ n ≤ 21) (hk : 0 ≤ k ∧ k ≤ n) (P7 : la.length ≤ 21) (hlb : lb.length ≤ 21)
  (M : aG env.P 95 [RT lo, RT hi] (RT ((lo + hi) / 2))) (B : aG env.P 92 [CH c, RT lo, RT ((lo + hi) / 2)] (.int .i64 k))
  (h1 : iD env.P 76 [Po f.l, CH c, RT lo, RT ((lo + hi) / 2), .int .i64 k] 54 9 (emap (ga f) la)) (h2 : iD env.P 76 [Po f.l, CH c, RT ((lo + hi) / 2), RT hi, .int .i64 (n - k)] 54 9 (emap (ga f) lb)) :
  iD env.P 76 [Po f.l, CH c, RT lo, RT hi, .int .i64 n] 54 9 (emap (ga f) (la ++ lb)) := by
 rw [← yQ]
 have el1 : (emap (ga f) la).length ≤ 21 := by simpa [emap] using P7
 have el2 : (emap (ga f) lb).length ≤ 21 := by simpa [emap] using hlb
 have p1 := JD (f := f) (l := la)
 have p2 := JD (f := f) (l := lb)
 have a1 : bF 9 (emap (ga f) la) = True := xP
 have a2 : bF 9 (emap (ga f) lb) = True := xP
 show iD env.P _ [Po f.l, .rd [aI zp c], T2 lo.num lo.den, T2 hi.num hi.den, .int .i64 n] _ _ _
 replace M : aG env.P 95 [T2 lo.num lo.den, T2 hi.num hi.den] (T2 ((lo + hi) / 2).num ((lo + hi) / 2).den) := M
 replace B : aG env.P 92 [.rd [aI zp c], T2 lo.num lo.den, T2 ((lo + hi) / 2).num ((lo + hi) / 2).den] (.int .i64 k) := B
 replace h1 : iD env.P 76 [Po f.l, .rd [aI zp c], T2 lo.num lo.den, T2 ((lo + hi) / 2).num ((lo + hi) / 2).den, .int .i64 k] 54 9 (emap (ga f) la) := h1
 replace h2 : iD env.P 76 [Po f.l, .rd [aI zp c], T2 ((lo + hi) / 2).num ((lo + hi) / 2).den, T2 hi.num hi.den, .int .i64 (n - k)] 54 9 (emap (ga f) lb) := h2
 generalize ((lo + hi) / 2).num = mn at *
 generalize (((lo + hi) / 2).den : Int) = md at *
 generalize lo.num = ln at *
 generalize (lo.den : Int) = ld at *
 generalize hi.num = yG at *
 generalize (hi.den : Int) = hd at *
 generalize aI zp c = X at *
 generalize emap (ga f) la = ea at *
 generalize emap (ga f) lb = eb at *
 have w1 : IntKind.wrap .i64 (n - k) = n - k := wrap_i64 (by omega) (by omega)
 refine i4 (E := env) (fun id => if id = 5 then 2 else if id = 8 then 2 else 0) (t := 10) [(0, Po f.l), (1, .rd [X]), (2, T2 ln ld), (3, T2 yG hd), (4, .int .i64 n)] Tryz.func76 rfl (by kernel_rfl) (by kernel_rfl) (show 5 ≤ 48 by decide) rfl (by simp) ?_
 refine aA [0, 1, 4, 7, 8] ?_
 refine aL [0, 1, 4, 7, 8, 13] ?_
 refine W.block ?_
 refine aA [0, 1, 4, 7, 8, 13, 14] ?_
 refine bE ?_ ?_ <;> intro h
 ·simp at h; omega
 ·refine aA [0, 1, 4, 7, 8, 16] ?_
  refine bE ?_ ?_ <;> intro h
  ·simp at h; omega
  ·refine W.skip ?_
   refine aK [0, 1, 4, 7, 8, 11] M ?_
   refine aK [0, 1, 4, 7, 8, 11, 12] B ?_
   refine W.sd ?_
   rw [show (if 8 = 5 then 2 else if 8 = 8 then 2 else 0) = 1 + 1 from rfl, eJ]
   simp (disch := omega) [gw]
   refine FH h1 rfl trivial ?_
   simp (disch := omega) [gw, w1, AD]
   refine FH h2 rfl trivial ?_
   simp (disch := omega) [gw, a1, a2, AD]
   refine bH [10] ?_
   refine W.ret ?_
   exact ⟨38, 5, by simp, by simp, fun x hx => by
    rcases List.mem_append.1 hx with hx | hx
    ·exact p1 x hx
    ·exact p2 x hx⟩
theorem acV {s n : Nat} {f : ZX} (I : j4 s n f) {D d β J : Nat} {δ : Rat} (wU : 1 ≤ D) (hD : D ≤ 2 ^ d) (C : Cut (vt (aU f)) (2 ^ β) δ) (hu : β + d + J + 1 ≤ 1000000000) : ∀ (k j : Nat) (lo hi : Rat), j + k ≤ J → Gr D (2 ^ β) j lo → Gr D (2 ^ β) j hi → lo < hi → hi - lo ≤ δ * 2 ^ k →
  iD env.P 76 [Po f.l, CH (aU f), RT lo, RT hi, .int .i64 ((vt (aU f) lo : Int) - vt (aU f) hi)] 54 9 (emap (ga f) (D0 (vt (aU f)) k lo hi)) := by
 have leaf : ∀ (j : Nat) (lo hi : Rat), j ≤ J → Gr D (2 ^ β) j lo → Gr D (2 ^ β) j hi → vt (aU f) lo = vt (aU f) hi + 1 → iD env.P 76 [Po f.l, CH (aU f), RT lo, RT hi, .int .i64 ((vt (aU f) lo : Int) - vt (aU f) hi)] 54 9 (emap (ga f) [(lo, hi)]) := fun j lo hi hj g1 g2 he => by
  rw [show (vt (aU f) lo : Int) - vt (aU f) hi = 1 by omega]
  exact agE I ((g1.mono hj).sq wU hD) ((g2.mono hj).sq wU hD) hu
 have NC : ∀ (lo hi : Rat), vt (aU f) lo = vt (aU f) hi → iD env.P 76 [Po f.l, CH (aU f), RT lo, RT hi, .int .i64 ((vt (aU f) lo : Int) - vt (aU f) hi)] 54 9 (emap (ga f) []) := fun lo hi he => by
  rw [show (vt (aU f) lo : Int) - vt (aU f) hi = 0 by omega]
  exact acT
 intro k
 induction k with
 | zero =>
  intro j lo hi hj g1 g2 cW hd
  rw [D0]
  by_cases he : vt (aU f) lo = vt (aU f) hi
  ·rw [if_pos he]; exact NC lo hi he
  ·rw [if_neg he]; exact leaf j lo hi (by omega) g1 g2 (C.leaf g1.b g2.b cW (by rw [Rat.pow_zero, Rat.mul_one] at hd; exact hd) he)
 | succ k ih =>
  intro j lo hi hj g1 g2 cW hd
  rw [D0]
  by_cases he : vt (aU f) lo = vt (aU f) hi
  ·rw [if_pos he]; exact NC lo hi he
  ·rw [if_neg he]
   by_cases CY : vt (aU f) lo = vt (aU f) hi + 1
   ·rw [if_pos CY]; exact leaf j lo hi (by omega) g1 g2 CY
   ·rw [if_neg CY]
    obtain ⟨m1, m2⟩ := oD cW
    obtain ⟨d1, d2⟩ := rJ hd
    have gm := g1.H4 g2
    have n1 := C.bX lo ((lo + hi) / 2) (Rat.le_of_lt m1)
    have n2 := C.bX ((lo + hi) / 2) hi (Rat.le_of_lt m2)
    have hv1 := Nat.le_trans (acI (aU f) lo) I.hl
    obtain ⟨_, a2, _⟩ := nW C k (j + 1) lo ((lo + hi) / 2) (g1.mono (by omega)) gm m1 d1
    obtain ⟨_, b2, _⟩ := nW C k (j + 1) ((lo + hi) / 2) hi gm (g2.mono (by omega)) m2 d2
    have r1 := ih (j + 1) lo ((lo + hi) / 2) (by omega) (g1.mono (by omega)) gm m1 d1
    have r2 := ih (j + 1) ((lo + hi) / 2) hi (by omega) gm (g2.mono (by omega)) m2 d2
    have q1 : SQ (β + d + J + 1) lo := (g1.mono (by omega)).sq wU hD
    have q2 : SQ (β + d + J + 1) hi := (g2.mono (by omega)).sq wU hD
    have q3 : SQ (β + d + J + 1) ((lo + hi) / 2) := (gm.mono (by omega)).sq wU hD
    have hM := M7 (q1.LLs (Nat.le_refl _)) (q2.LLs (Nat.le_refl _)) (by omega)
    have hB := acS I.hb I.ch.hn I.hl q1 q3 hu
    rw [if_neg (Rat.not_lt.2 (Rat.le_of_lt m1))] at hB
    refine acU (n := (vt (aU f) lo : Int) - vt (aU f) hi) (k := (vt (aU f) lo : Int) - vt (aU f) ((lo + hi) / 2)) (by omega) (by omega) (by omega) (by omega) hM hB r1 ?_
    rw [show (vt (aU f) lo : Int) - vt (aU f) hi - ((vt (aU f) lo : Int) - vt (aU f) ((lo + hi) / 2)) = (vt (aU f) ((lo + hi) / 2) : Int) - vt (aU f) hi by omega]
    exact r2
end Go.Proofs.YtelhfbikiccfkaaGreat
namespace Go.Proofs.YtelhfbikiccfkaaGreat
open Go Pm
open ZX hiding N W
section
variable {C : List ZX} {u : Nat} (hb : ∀ p ∈ C, BZ 4500000000 20 p) (hl : C.length ≤ 21) {p q : Rat} (hp : SQ u p) (hq : SQ u q) (hu : u ≤ 1000000000)
include hb hl hp hu
include hq
end
theorem SQ.tor {u : Nat} {p : Rat} (hp : SQ u p) (hu : u ≤ YY) : aG env.P 24 [RR p] (RT p) := by
 rw [c8]
 have h1 := hp.n2; have h2 := hp.d2
 exact ags (by simp only [Z, YY] at *; omega) (by simp only [Z, YY] at *; omega)
def l1 (x : List Int) : Nat := (x.map Int.natAbs).sum
theorem iW (a : Int) (x : List Int) : l1 (a :: x) = a.natAbs + l1 x := by simp [l1]
theorem JE : l1 [] = 0 := rfl
theorem JF : ∀ x : List Int, l1 (aN x) ≤ l1 x
 | [] => Nat.le_refl _
 | a :: x => by
  have := JF x
  rw [aN]
  split
  ·rw [JE]; omega
  ·rw [iW, iW]; omega
theorem DG {α : Type} (f g : α → Int) : ∀ l : List α, l1 (l.map fun k => f k + g k) ≤ l1 (l.map f) + l1 (l.map g)
 | [] => Nat.le_refl _
 | x :: l => by
  have := DG f g l
  simp only [List.map_cons, iW]
  omega
theorem uO : ∀ (x : List Int) (n : Nat), l1 (x ++ List.replicate n 0) = l1 x
 | [], n => by simp [l1]
 | a :: x, n => by rw [List.cons_append, iW, iW, uO x n]
theorem agF (x y : List Int) : l1 (gY x y) ≤ l1 x + l1 y := by
 have h1 := DG (nth x) (nth y) (List.range (max x.length y.length))
 rw [oM (by omega), oM (by omega), uO, uO] at h1
 exact Nat.le_trans (JF _) h1
theorem acW (a : Int) : ∀ y : List Int, l1 (y.map fun c => c * a) = a.natAbs * l1 y
 | [] => by simp [l1]
 | c :: y => by rw [List.map_cons, iW, iW, acW a y, Int.natAbs_mul, Nat.mul_add, Nat.mul_comm]
theorem ND : ∀ x y : List Int, l1 (gD x y) ≤ l1 x * l1 y
 | [], y => by rw [gD, JE]; omega
 | a :: x, y => by
  have h1 := ND x y
  have h2 := agF (y.map fun c => c * a) (0 :: gD x y)
  rw [acW, iW] at h2
  rw [gD, iW, Nat.add_mul]
  simp only [Int.natAbs_zero] at h2
  omega
def n1 (a : ZX) : Nat := l1 a.l
theorem RW (a b : ZX) : n1 (a * b) ≤ n1 a * n1 b := Nat.le_trans (JF _) (ND _ _)
theorem asl (x : List Int) : n1 (of x) ≤ l1 x := JF x
theorem amd (c : Int) : n1 (K c) ≤ c.natAbs := Nat.le_trans (asl _) (by simp [l1])
theorem acX {a : ZX} {m : Nat} (h : n1 a ≤ m) : ∀ k : Nat, n1 (a ^ k) ≤ m ^ k
 | 0 => amd 1
 | k + 1 => by
  rw [pow_succ', Nat.pow_succ]
  exact Nat.le_trans (RW _ _) (Nat.mul_le_mul (acX h k) h)
theorem acY : ∀ {x : List Int} {c : Int}, c ∈ x → c.natAbs ≤ l1 x
 | a :: x, c, h => by
  rw [iW]
  rcases List.mem_cons.1 h with rfl | h
  ·omega
  ·have := acY h; omega
theorem BZ.acZ {s n : Nat} {a : ZX} (h : n1 a < 2 ^ s) (hn : ZX.N a ≤ n) : BZ s n a := ⟨hn, fun c hc => dD (by decide) (Nat.lt_of_le_of_lt (acY hc) h)⟩
theorem agG (l : List Int) (i : Nat) : n1 (of (gN l i)) ≤ 9 ^ (ZX.N (of (gN l i)) - 1) ∧ 2 ≤ ZX.N (of (gN l i)) := by
 obtain ⟨_, hl, _⟩ := z9 l i
 have h9 := Int.emod_nonneg (nth l i) (show (9 : Int) ≠ 0 by decide)
 have h9' := Int.emod_lt_of_pos (nth l i) (show (0 : Int) < 9 by decide)
 have h5 := Int.emod_nonneg (nth l (i + 1)) (show (5 : Int) ≠ 0 by decide)
 have h5' := Int.emod_lt_of_pos (nth l (i + 1)) (show (0 : Int) < 5 by decide)
 have h3 := Int.emod_nonneg (nth l (i + 2)) (show (3 : Int) ≠ 0 by decide)
 have h3' := Int.emod_lt_of_pos (nth l (i + 2)) (show (0 : Int) < 3 by decide)
 unfold n1 ZX.N
 rw [hl]
 unfold gN
 split
 ·simp only [iW, JE, List.length_cons, List.length_nil]
  refine ⟨?_, by omega⟩
  show _ ≤ 81
  omega
 ·simp only [iW, JE, List.length_cons, List.length_nil]
  refine ⟨?_, by omega⟩
  show _ ≤ 9
  omega
theorem NF (l : List Int) (most : Nat) : ∀ j, n1 (dS l most j) ≤ 9 ^ (ZX.N (dS l most j) - 1)
 | 0 => Nat.le_trans (amd 1) (Nat.one_le_pow _ _ (by decide))
 | j + 1 => by
  have ih := NF l most j
  obtain ⟨h0, _⟩ := mT l most j
  obtain ⟨b1, b2, b3⟩ := z9 l (3 * j)
  obtain ⟨e1, e2⟩ := I0 l (3 * j)
  obtain ⟨f1, f2⟩ := agG l (3 * j)
  obtain ⟨p1, p2, p3⟩ := acy b3 b1 _ e1
  show n1 (wH l most (3 * j) (dS l most j)) ≤ 9 ^ (ZX.N (wH l most (3 * j) (dS l most j)) - 1)
  unfold wH
  split
  ·exact ih
  ·have h1 := Nat.mul_le_mul ih (acX f1 (rG l (3 * j)))
   refine Nat.le_trans (RW _ _) (Nat.le_trans h1 ?_)
   rw [← Nat.pow_mul, ← Nat.pow_add]
   refine Nat.pow_le_pow_right (by decide) ?_
   rw [ZX.eI h0 p2, p3, Nat.mul_comm]
   have := ZX.aC.1 h0
   omega
theorem JG (l : List Int) (most : Nat) : n1 (made l most) ≤ 3 * 9 ^ most ∧ ZX.N (made l most) ≤ most + 1 := by
 have hN := (AA l most).2.N
 refine ⟨?_, hN⟩
 have h1 := NF l most (min 6 (l.length / 3))
 have h2 := (mT l most (min 6 (l.length / 3))).2.N
 have h3 : 9 ^ (ZX.N (dS l most (min 6 (l.length / 3))) - 1) ≤ 9 ^ most := Nat.pow_le_pow_right (by decide) (by omega)
 unfold made
 split
 ·have h4 := RW (K (-3)) (dS l most (min 6 (l.length / 3)))
  have h5 := amd (-3)
  exact Nat.le_trans h4 (Nat.mul_le_mul h5 (Nat.le_trans h1 h3))
 ·omega
theorem DH {S τ t : Rat} (hS : 0 ≤ S) (hτ : 0 < τ) (ht : j7 τ t) : ∀ {x : List Int}, Cn x → 0 < x.length → (∀ c ∈ x.dropLast, Ab (c : Rat) S) → S + (((lead x).natAbs : Int) : Rat) ≤ (((lead x).natAbs : Int) : Rat) * τ → j7 (((lead x).natAbs : Int) : Rat) (qv t x)
 | [a], hc, _, _, _ => by
  have e1 : qv t [a] = (a : Rat) := by simp only [qv]; grind
  have e2 : lead [a] = a := rfl
  rw [e1, e2]
  by_cases h : 0 ≤ a
  ·right
   exact Rat.intCast_le_intCast.2 (by omega)
  ·left
   rw [← Rat.intCast_neg]
   exact Rat.intCast_le_intCast.2 (by omega)
 | a :: b :: l, hc, _, hb, hL => by
  have hl := cK (z6 hc) (by simp)
  rw [xK] at hL ⊢
  have ih := DH hS hτ ht (z6 hc) (by simp) (fun c hc => hb c (by
   rw [List.dropLast_cons_of_ne_nil (by simp)]; exact List.mem_cons_of_mem _ hc)) hL
  obtain ⟨h4, h5⟩ := hb a (by rw [List.dropLast_cons_of_ne_nil (by simp)]; simp)
  have e1 : qv t (a :: b :: l) = a + t * qv t (b :: l) := rfl
  have hp : (0 : Rat) < (((lead (b :: l)).natAbs : Int) : Rat) := Rat.intCast_pos.2 (by omega)
  have hm := j7.mul hτ hp ht ih
  rw [e1]
  generalize (((lead (b :: l)).natAbs : Int) : Rat) = L at *
  rcases hm with h | h
  ·left; grind
  ·right; grind
theorem sK {x : List Int} (cx : Cn x) (hx : x ≠ []) {t : Rat} (ht : j7 (eW x) t) : j7 1 (qv t x) ∧ 1 ≤ eW x := by
 have n9 := List.length_pos_iff.2 hx
 have hl := cK cx n9
 have hL : (1 : Rat) ≤ (((lead x).natAbs : Int) : Rat) := eN (by omega)
 have hm : (0 : Rat) ≤ ((kX x (x.length - 1) : Int) : Rat) := Rat.intCast_nonneg.2 (acJ _ _)
 have e := xO cx hx
 have h2 := Rat.div_mul_cancel (a := ((kX x (x.length - 1) : Int) : Rat)) (b := (((lead x).natAbs : Int) : Rat)) (by grind)
 have hw : (0 : Rat) ≤ ((kX x (x.length - 1) : Int) : Rat) / (((lead x).natAbs : Int) : Rat) := by
  refine Rat.not_lt.1 fun h => ?_
  have := Rat.mul_le_mul_of_nonneg_left hL (show 0 ≤ -(((kX x (x.length - 1) : Int) : Rat) / (((lead x).natAbs : Int) : Rat)) by grind)
  grind
 have h1 : 1 ≤ eW x := by rw [e]; grind
 refine ⟨(DH hm (show 0 < eW x by grind) ht cx n9 (fun c hc => ?_) ?_).mono hL, h1⟩
 ·obtain ⟨k, hk, rfl⟩ := List.mem_iff_getElem.1 hc
  rw [List.length_dropLast] at hk
  have h3 := acK x (x.length - 1) k hk
  rw [cQ (by omega)] at h3
  rw [List.getElem_dropLast]
  constructor
  ·rw [← Rat.intCast_neg]
   exact Rat.intCast_le_intCast.2 (by omega)
  ·exact Rat.intCast_le_intCast.2 (by omega)
 ·rw [e]
  generalize ((kX x (x.length - 1) : Int) : Rat) / (((lead x).natAbs : Int) : Rat) = w at *
  grind
theorem YE (l : List Int) : pT 21 7 (made l 6) := by
 obtain ⟨h1, h2⟩ := JG l 6
 have e1 : 3 * 9 ^ 6 = 1594323 := by decide
 have e2 : 2 ^ 21 = 2097152 := by decide
 exact ⟨BZ.acZ (by omega) h2, by decide, by decide, by decide⟩
end Go.Proofs.YtelhfbikiccfkaaGreat
