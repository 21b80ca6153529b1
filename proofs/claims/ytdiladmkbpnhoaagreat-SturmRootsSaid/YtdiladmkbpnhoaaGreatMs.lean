import Derived.Test.YtdiladmkbpnhoaaGreatMp
set_option linter.unusedSimpArgs false
set_option linter.unusedVariables false
namespace Pm
def qv (t : Rat) : List Int → Rat
 | [] => 0
 | a :: l => (a : Rat) + t * qv t l
section
variable {t : Rat}
theorem qv_map_add {α : Type} (f g : α → Int) : ∀ l : List α, qv t (l.map fun k => f k + g k) = qv t (l.map f) + qv t (l.map g)
 | [] => by simp only [List.map_nil, qv]; grind
 | x :: l => by simp only [List.map_cons, qv, qv_map_add f g l, Rat.intCast_add]; grind
theorem qv_map_mul {α : Type} (c : Int) (f : α → Int) : ∀ l : List α, qv t (l.map fun k => f k * c) = qv t (l.map f) * c
 | [] => by simp only [List.map_nil, qv]; grind
 | x :: l => by simp only [List.map_cons, qv, qv_map_mul c f l, Rat.intCast_mul]; grind
theorem qv_append_rep : ∀ (a : List Int) (n : Nat), qv t (a ++ List.replicate n 0) = qv t a
 | [], 0 => rfl
 | [], n + 1 => by
  have := qv_append_rep [] n
  simp only [List.nil_append] at this
  simp only [List.nil_append, List.replicate_succ, qv, this, Rat.intCast_zero]; grind
 | x :: a, n => by simp only [List.cons_append, qv, qv_append_rep a n]
theorem qv_cutR : ∀ l : List Int, qv t (cutR l) = qv t l
 | [] => rfl
 | x :: l => by
  have ih := qv_cutR l
  simp only [cutR]
  split
  ·rename_i h
   rw [h.1] at ih
   simp only [qv] at ih ⊢
   rw [← ih, h.2, Rat.intCast_zero]; grind
  ·simp only [qv, ih]
theorem qv_range_nth {x : List Int} {n : Nat} (h : x.length ≤ n) : qv t ((List.range n).map (nth x)) = qv t x := by
 rw [range_nth h, qv_append_rep]
theorem qv_padd (x y : List Int) : qv t (padd x y) = qv t x + qv t y := by
 rw [padd, qv_cutR, qv_map_add, qv_range_nth (by omega), qv_range_nth (by omega)]
theorem qv_pneg (x : List Int) : qv t (pneg x) = - qv t x := by
 have := qv_map_mul (t := t) (-1) id x
 rw [pneg, qv_cutR]
 simp only [id_eq, Int.mul_neg, Int.mul_one, List.map_id_fun] at this
 rw [this, Rat.intCast_neg, Rat.intCast_one]; grind
theorem qv_pscale (x : List Int) (c : Int) : qv t (pscale x c) = qv t x * c := by
 have := qv_map_mul (t := t) c id x
 rw [pscale, qv_cutR]
 simpa using this
theorem qv_psub (x y : List Int) : qv t (psub x y) = qv t x - qv t y := by
 rw [psub, qv_cutR]
 have h1 := qv_map_add (t := t) (fun k => nth x k - nth y k) (nth y) (List.range (max x.length y.length))
 have h2 : (fun k => nth x k - nth y k + nth y k) = nth x := by funext k; omega
 rw [h2, qv_range_nth (by omega), qv_range_nth (by omega)] at h1
 grind
theorem qv_pmul0 : ∀ x y : List Int, qv t (pmul0 x y) = qv t x * qv t y
 | [], y => by simp only [pmul0, qv]; grind
 | a :: x, y => by
  have := qv_map_mul (t := t) a id y
  simp only [id_eq, List.map_id_fun] at this
  rw [pmul0, qv_padd, this]
  simp only [qv, qv_pmul0 x y, Rat.intCast_zero]
  grind
theorem qv_pmul (x y : List Int) : qv t (pmul x y) = qv t x * qv t y := by rw [pmul, qv_cutR, qv_pmul0]
end
namespace ZX
section
variable {t : Rat}
def e (t : Rat) (x : ZX) : Rat := qv t x.l
theorem e_add (x y : ZX) : e t (x + y) = e t x + e t y := qv_padd _ _
theorem e_mul (x y : ZX) : e t (x * y) = e t x * e t y := qv_pmul _ _
theorem e_neg (x : ZX) : e t (-x) = -e t x := qv_pneg _
theorem e_sub (x y : ZX) : e t (x - y) = e t x - e t y := qv_psub _ _
theorem e_of (x : List Int) : e t (of x) = qv t x := qv_cutR x
theorem e_K (c : Int) : e t (K c) = c := by
 rw [K, e_of]
 simp only [qv]; grind
theorem e_zero : e t 0 = 0 := rfl
theorem e_one : e t 1 = 1 := e_K 1
theorem e_pow (x : ZX) : ∀ n : Nat, e t (x ^ n) = e t x ^ n
 | 0 => by rw [pow_zero', e_one]; simp
 | n + 1 => by rw [pow_succ', e_mul, e_pow x n, Rat.pow_succ]
end
end ZX
def Ab (x M : Rat) : Prop := -M ≤ x ∧ x ≤ M
def Big (e x : Rat) : Prop := x ≤ -e ∨ e ≤ x
theorem Ab.mono {x M N : Rat} (h : Ab x M) (hMN : M ≤ N) : Ab x N := by
 obtain ⟨h1, h2⟩ := h
 exact ⟨by grind, by grind⟩
theorem Ab.add {x y M N : Rat} (h : Ab x M) (h' : Ab y N) : Ab (x + y) (M + N) := by
 obtain ⟨h1, h2⟩ := h
 obtain ⟨h3, h4⟩ := h'
 exact ⟨by grind, by grind⟩
theorem Ab.mul {x y M N : Rat} (h : Ab x M) (h' : Ab y N) : Ab (x * y) (M * N) := by
 obtain ⟨h1, h2⟩ := h
 obtain ⟨h3, h4⟩ := h'
 have p1 := Rat.mul_nonneg (show 0 ≤ M - x by grind) (show 0 ≤ N - y by grind)
 have p2 := Rat.mul_nonneg (show 0 ≤ M + x by grind) (show 0 ≤ N + y by grind)
 have p3 := Rat.mul_nonneg (show 0 ≤ M - x by grind) (show 0 ≤ N + y by grind)
 have p4 := Rat.mul_nonneg (show 0 ≤ M + x by grind) (show 0 ≤ N - y by grind)
 exact ⟨by grind, by grind⟩
theorem Ab.pos {x M : Rat} (h : Ab x M) : 0 ≤ M := by
 obtain ⟨h1, h2⟩ := h
 grind
theorem Big.mono {x e f : Rat} (h : Big e x) (hf : f ≤ e) : Big f x := by
 rcases h with h | h
 ·left; grind
 ·right; grind
theorem not_Big {x e : Rat} (h : ¬ Big e x) : -e < x ∧ x < e := by
 constructor
 ·exact Rat.not_le.1 fun h1 => h (.inl h1)
 ·exact Rat.not_le.1 fun h1 => h (.inr h1)
theorem Ab_of_not_Big {x e : Rat} (h : ¬ Big e x) : Ab x e := by
 obtain ⟨h1, h2⟩ := not_Big h
 exact ⟨Rat.le_of_lt h1, Rat.le_of_lt h2⟩
def sg3 (x : Rat) : Int := if x < 0 then -1 else if 0 < x then 1 else 0
theorem sg3_neg {x : Rat} (h : x < 0) : sg3 x = -1 := if_pos h
theorem sg3_pos {x : Rat} (h : 0 < x) : sg3 x = 1 := by
 rw [sg3, if_neg (by grind), if_pos h]
theorem sg3_zero : sg3 0 = 0 := by decide
theorem sg3_cases (x : Rat) : (x < 0 ∧ sg3 x = -1) ∨ (x = 0 ∧ sg3 x = 0) ∨ (0 < x ∧ sg3 x = 1) := by
 by_cases h : x < 0
 ·exact .inl ⟨h, sg3_neg h⟩
 ·by_cases h2 : 0 < x
  ·exact .inr (.inr ⟨h2, sg3_pos h2⟩)
  ·have : x = 0 := by grind
   subst this
   exact .inr (.inl ⟨rfl, sg3_zero⟩)
theorem sg3_mem (x : Rat) : sg3 x = -1 ∨ sg3 x = 0 ∨ sg3 x = 1 := by
 rcases sg3_cases x with h | h | h
 ·exact .inl h.2
 ·exact .inr (.inl h.2)
 ·exact .inr (.inr h.2)
theorem sg3_eq_neg {x : Rat} : sg3 x = -1 ↔ x < 0 := by
 rcases sg3_cases x with ⟨h, e⟩ | ⟨h, e⟩ | ⟨h, e⟩ <;> rw [e] <;> constructor <;> intro h2 <;> first | omega | grind
theorem sg3_eq_pos {x : Rat} : sg3 x = 1 ↔ 0 < x := by
 rcases sg3_cases x with ⟨h, e⟩ | ⟨h, e⟩ | ⟨h, e⟩ <;> rw [e] <;> constructor <;> intro h2 <;> first | omega | grind
theorem sg3_eq_zero {x : Rat} : sg3 x = 0 ↔ x = 0 := by
 rcases sg3_cases x with ⟨h, e⟩ | ⟨h, e⟩ | ⟨h, e⟩ <;> rw [e] <;> constructor <;> intro h2 <;> first | omega | grind
theorem sg3_opp (x : Rat) : sg3 (-x) = -sg3 x := by
 rcases sg3_cases x with ⟨h, e⟩ | ⟨h, e⟩ | ⟨h, e⟩ <;> rw [e]
 ·rw [sg3_pos (by grind)]; rfl
 ·rw [h]; rfl
 ·rw [sg3_neg (by grind)]
theorem sg3_mul (x y : Rat) : sg3 (x * y) = sg3 x * sg3 y := by
 rcases sg3_cases x with ⟨h, e⟩ | ⟨h, e⟩ | ⟨h, e⟩ <;> rcases sg3_cases y with ⟨h', e'⟩ | ⟨h', e'⟩ | ⟨h', e'⟩ <;> rw [e, e']
 ·have := Rat.mul_pos (show 0 < -x by grind) (show 0 < -y by grind)
  rw [sg3_pos (by grind)]; rfl
 ·rw [h', Rat.mul_zero]; rfl
 ·have := Rat.mul_pos (show 0 < -x by grind) h'
  rw [sg3_neg (by grind)]; rfl
 ·rw [h, Rat.zero_mul]; rfl
 ·rw [h, Rat.zero_mul]; rfl
 ·rw [h, Rat.zero_mul]; rfl
 ·have := Rat.mul_pos h (show 0 < -y by grind)
  rw [sg3_neg (by grind)]; rfl
 ·rw [h', Rat.mul_zero]; rfl
 ·rw [sg3_pos (Rat.mul_pos h h')]; rfl
theorem sg3_near {x y e : Rat} (h : Big e x) (he : 0 < e) (hxy : ¬ Big e (y - x)) : sg3 y = sg3 x ∧ sg3 x ≠ 0 := by
 obtain ⟨h1, h2⟩ := not_Big hxy
 rcases h with h | h
 ·rw [sg3_neg (show x < 0 by grind), sg3_neg (show y < 0 by grind)]; decide
 ·rw [sg3_pos (show 0 < x by grind), sg3_pos (show 0 < y by grind)]; decide
def dd (s t : Rat) : List Int → Rat
 | [] => 0
 | _ :: l => qv t l + s * dd s t l
def cc (s t : Rat) : List Int → Rat
 | [] => 0
 | _ :: l => dd s t l + s * cc s t l
theorem qv_sub (s t : Rat) : ∀ x : List Int, qv t x - qv s x = (t - s) * dd s t x
 | [] => by simp only [qv, dd]; grind
 | a :: l => by
  have := qv_sub s t l
  simp only [qv, dd]; grind
theorem dd_sub (s t : Rat) : ∀ x : List Int, dd s t x - dd s s x = (t - s) * cc s t x
 | [] => by simp only [dd, cc]; grind
 | a :: l => by
  have := dd_sub s t l
  have := qv_sub s t l
  simp only [dd, cc]; grind
section
variable {S B s t : Rat} (hS : 0 ≤ S) (hB : 1 ≤ B) (hs : Ab s B) (ht : Ab t B)
def qb4 (S B : Rat) : Nat → Rat
 | 0 => S
 | k + 1 => qb4 S B k * (4 * B)
include hS hB in
theorem qb4_pos : ∀ k, 0 ≤ qb4 S B k ∧ S ≤ qb4 S B k
 | 0 => ⟨hS, Rat.le_refl⟩
 | k + 1 => by
  obtain ⟨h1, h2⟩ := qb4_pos k
  have h3 := Rat.mul_le_mul_of_nonneg_left (show (1 : Rat) ≤ 4 * B by grind) h1
  rw [qb4]
  exact ⟨by grind, by grind⟩
include hS hB ht in
theorem qv_bd : ∀ x : List Int, (∀ c ∈ x, Ab (c : Rat) S) → Ab (qv t x) (qb4 S B x.length)
 | [], _ => by
  show Ab 0 S
  exact ⟨by grind, hS⟩
 | a :: l, h => by
  have h1 := qv_bd l fun c hc => h c (List.mem_cons_of_mem _ hc)
  have h2 := (h a (List.mem_cons_self ..)).add (ht.mul h1)
  obtain ⟨h3, h4⟩ := qb4_pos hS hB l.length
  have h5 := Rat.mul_le_mul_of_nonneg_left hB h3
  refine h2.mono ?_
  rw [List.length_cons, qb4]
  grind
include hS hB hs ht in
theorem dd_bd : ∀ x : List Int, (∀ c ∈ x, Ab (c : Rat) S) → Ab (dd s t x) (qb4 S B x.length)
 | [], _ => by
  show Ab 0 S
  exact ⟨by grind, hS⟩
 | a :: l, h => by
  have h1 := dd_bd l fun c hc => h c (List.mem_cons_of_mem _ hc)
  have h0 := qv_bd hS hB ht l fun c hc => h c (List.mem_cons_of_mem _ hc)
  have h2 := h0.add (hs.mul h1)
  obtain ⟨h3, h4⟩ := qb4_pos hS hB l.length
  have h5 := Rat.mul_le_mul_of_nonneg_left hB h3
  refine h2.mono ?_
  rw [List.length_cons, qb4]
  grind
include hS hB hs ht in
theorem cc_bd : ∀ x : List Int, (∀ c ∈ x, Ab (c : Rat) S) → Ab (cc s t x) (qb4 S B x.length)
 | [], _ => by
  show Ab 0 S
  exact ⟨by grind, hS⟩
 | a :: l, h => by
  have h1 := cc_bd l fun c hc => h c (List.mem_cons_of_mem _ hc)
  have h0 := dd_bd hS hB hs ht l fun c hc => h c (List.mem_cons_of_mem _ hc)
  have h2 := h0.add (hs.mul h1)
  obtain ⟨h3, h4⟩ := qb4_pos hS hB l.length
  have h5 := Rat.mul_le_mul_of_nonneg_left hB h3
  refine h2.mono ?_
  rw [List.length_cons, qb4]
  grind
end
theorem qv_derK_succ (t : Rat) : ∀ (l : List Int) (k : Nat), qv t (ZX.derK (k + 1) l) = qv t (ZX.derK k l) + qv t l
 | [], k => by simp only [ZX.derK, qv]; grind
 | a :: l, k => by
  simp only [ZX.derK, qv]
  rw [qv_derK_succ t l (k + 1)]
  have : ((k + 1 : Nat) : Int) = (k : Int) + 1 := by omega
  rw [this, Rat.intCast_mul, Rat.intCast_mul, Rat.intCast_add, Rat.intCast_one]; grind
theorem qv_derK_one (t : Rat) : ∀ l : List Int, qv t (ZX.derK 1 l) = qv t l + t * dd t t l
 | [] => by simp only [ZX.derK, qv, dd]; grind
 | b :: m => by
  rw [ZX.derK]
  simp only [qv, dd]
  rw [qv_derK_succ, qv_derK_one t m]
  rw [show ((1 : Nat) : Int) = 1 from rfl, Int.mul_one]
  grind
theorem e_der (t : Rat) (x : ZX) : (ZX.der x).e t = dd t t x.l := by
 rw [ZX.der, ZX.e_of]
 obtain ⟨l, hl⟩ := x
 show qv t (ZX.derL l) = dd t t l
 match l with
 | [] => rfl
 | a :: l => rw [ZX.derL_cons, qv_derK_one]; rfl
end Pm
namespace Pm
def vrf (p : Int) : List Int → Nat
 | [] => 0
 | s :: l => if s = 0 then vrf p l else (if p ≠ 0 ∧ s ≠ p then 1 else 0) + vrf s l
def cl : List Int → List Int → Prop
 | [], [] => True
 | [x], [y] => x = y ∧ x ≠ 0
 | [_, x], [_, y] => x = y ∧ x ≠ 0
 | x0 :: x1 :: x2 :: x, y0 :: y1 :: y2 :: y => cl (x1 :: x2 :: x) (y1 :: y2 :: y) ∧ ((x1 = y1 ∧ x1 ≠ 0) ∨ (x0 = y0 ∧ x2 = y2 ∧ x0 = -x2 ∧ x2 ≠ 0))
 | _, _ => False
theorem cl_vrf : ∀ (n : Nat) (p : Int) (x y : List Int), x.length ≤ n → p ≠ 0 → (p = -1 ∨ p = 1) → (∀ s ∈ x, s = -1 ∨ s = 0 ∨ s = 1) → (∀ s ∈ y, s = -1 ∨ s = 0 ∨ s = 1) → cl (p :: x) (p :: y) → vrf p x = vrf p y
 | _, p, [], [], _, _, _, _, _, _ => rfl
 | _, p, [x1], [y1], _, _, _, _, _, h => by
  obtain ⟨rfl, h2⟩ := h
  rfl
 | _, p, [], [y1], _, _, _, _, _, h => by simp [cl] at h
 | _, p, [x1], [], _, _, _, _, _, h => by simp [cl] at h
 | _, p, [], _ :: _ :: _, _, _, _, _, _, h => by simp [cl] at h
 | _, p, _ :: _ :: _, [], _, _, _, _, _, h => by simp [cl] at h
 | _, p, [_], _ :: _ :: _, _, _, _, _, _, h => by simp [cl] at h
 | _, p, _ :: _ :: _, [_], _, _, _, _, _, h => by simp [cl] at h
 | 0, p, x1 :: x2 :: x, y1 :: y2 :: y, hn, _, _, _, _, _ => by simp at hn
 | n + 1, p, x1 :: x2 :: x, y1 :: y2 :: y, hn, hp, hp1, hx, hy, h => by
  obtain ⟨h1, h2⟩ := h
  rcases h2 with ⟨rfl, h2⟩ | ⟨_, rfl, h3, h4⟩
  ·have ih := cl_vrf n x1 (x2 :: x) (y2 :: y) (by simp at hn ⊢; omega) h2 (by have := hx x1 (by simp); omega) (fun s hs => hx s (List.mem_cons_of_mem _ hs)) (fun s hs => hy s (List.mem_cons_of_mem _ hs)) h1
   simp only [vrf] at ih ⊢
   rw [if_neg h2, if_neg h2, ih]
  ·have ht : vrf x2 x = vrf x2 y := by
    refine cl_vrf n x2 x y (by simp at hn ⊢; omega) h4 (by have := hx x2 (by simp); omega) (fun s hs => hx s (by simp [hs])) (fun s hs => hy s (by simp [hs])) ?_
    match x, y, h1 with
    | [], [], _ => exact ⟨rfl, h4⟩
    | [], _ :: _, h1 => simp [cl] at h1
    | _ :: _, [], h1 => simp [cl] at h1
    | _ :: _, _ :: _, h1 => exact h1.1
   have key : ∀ z : Int, (z = -1 ∨ z = 0 ∨ z = 1) → ∀ w : List Int, vrf p (z :: x2 :: w) = 1 + vrf x2 w := fun z hz w => by
    simp only [vrf]
    rcases hz with rfl | rfl | rfl
    ·rw [if_neg (by decide), if_neg h4]
     rcases hp1 with rfl | rfl
     ·rw [if_neg (by omega), if_pos (by omega)]; omega
     ·rw [if_pos (by omega), if_neg (by omega)]; omega
    ·rw [if_pos rfl, if_neg h4, if_pos (by omega)]
    ·rw [if_neg (by decide), if_neg h4]
     rcases hp1 with rfl | rfl
     ·rw [if_pos (by omega), if_neg (by omega)]; omega
     ·rw [if_neg (by omega), if_pos (by omega)]; omega
   rw [key x1 (hx x1 (by simp)), key y1 (hy y1 (by simp)), ht]
open ZX
def gap (ε t : Rat) : List ZX → Prop
 | [] => False
 | [a] => Big ε (e t a)
 | [_, b] => Big ε (e t b)
 | a :: b :: c :: l => gap ε t (b :: c :: l) ∧ (Big ε (e t b) ∨ (Big ε (e t a) ∧ Big ε (e t c) ∧ sg3 (e t a) = -sg3 (e t c)))
theorem gap.mono {ε δ t : Rat} (h : δ ≤ ε) : ∀ {l : List ZX}, gap ε t l → gap δ t l
 | [], g => g
 | [a], g => Big.mono g h
 | [a, b], g => Big.mono (x := e t b) g h
 | a :: b :: c :: l, g => ⟨gap.mono h g.1, by
  rcases g.2 with g | ⟨g1, g2, g3⟩
  ·exact .inl (g.mono h)
  ·exact .inr ⟨g1.mono h, g2.mono h, g3⟩⟩
theorem gap.two {ε t : Rat} {a b : ZX} : ∀ {l : List ZX}, gap ε t (a :: b :: l) → Big ε (e t a) ∨ Big ε (e t b)
 | [], g => .inr g
 | c :: l, g => by
  rcases g.2 with g | ⟨g1, g2, g3⟩
  ·exact .inr g
  ·exact .inl g1
def sgl (t : Rat) (l : List ZX) : List Int := l.map fun p => sg3 (e t p)
theorem sgl_mem {t : Rat} {l : List ZX} : ∀ s ∈ sgl t l, s = -1 ∨ s = 0 ∨ s = 1 := fun s hs => by
 simp only [sgl, List.mem_map] at hs
 obtain ⟨p, _, rfl⟩ := hs
 exact sg3_mem _
theorem gap_cl {ε s t : Rat} (hε : 0 < ε) : ∀ {l : List ZX}, gap ε s l → (∀ p ∈ l, ¬ Big ε (e t p - e s p)) → cl (sgl s l) (sgl t l)
 | [], g, _ => g.elim
 | [a], g, h => by
  obtain ⟨h1, h2⟩ := sg3_near g hε (h a (by simp))
  exact ⟨h1.symm, h2⟩
 | [a, b], g, h => by
  obtain ⟨h1, h2⟩ := sg3_near (x := e s b) g hε (h b (by simp))
  exact ⟨h1.symm, h2⟩
 | a :: b :: c :: l, g, h => by
  refine ⟨gap_cl hε g.1 fun p hp => h p (List.mem_cons_of_mem _ hp), ?_⟩
  rcases g.2 with g | ⟨g1, g2, g3⟩
  ·obtain ⟨h1, h2⟩ := sg3_near g hε (h b (by simp))
   exact .inl ⟨h1.symm, h2⟩
  ·obtain ⟨h1, h2⟩ := sg3_near g1 hε (h a (by simp))
   obtain ⟨h3, h4⟩ := sg3_near g2 hε (h c (by simp))
   exact .inr ⟨h1.symm, h3.symm, g3, h4⟩
def vt (l : List ZX) (t : Rat) : Nat := vrf 0 (sgl t l)
def ind (a : ZX) (s t : Rat) : Nat := if e s a ≠ 0 ∧ sg3 (e t a) ≠ sg3 (e s a) then 1 else 0
theorem vt_near {ε s t : Rat} (hε : 0 < ε) {a : ZX} {l : List ZX} (g : gap ε s (a :: l)) (h : ∀ p ∈ a :: l, ¬ Big ε (e t p - e s p))
  (hm : ∀ b k, l = b :: k → Big ε (e s b) → sg3 (e t a - e s a) = sg3 (e s b)) : vt (a :: l) s = vt (a :: l) t + ind a s t := by
 have hc := gap_cl hε g h
 have hA : Big ε (e s a) → vt (a :: l) s = vt (a :: l) t + ind a s t := fun ha => by
  obtain ⟨h1, h2⟩ := sg3_near ha hε (h a (by simp))
  have h3 : ind a s t = 0 := if_neg fun h => h.2 h1
  rw [h3]
  have hc' : cl (sg3 (e s a) :: sgl s l) (sg3 (e s a) :: sgl t l) := by
   have : sgl t (a :: l) = sg3 (e s a) :: sgl t l := by rw [← h1]; rfl
   rw [this] at hc
   exact hc
  have h4 := cl_vrf _ _ _ _ (Nat.le_refl _) h2 (by have := sg3_mem (e s a); omega) sgl_mem sgl_mem hc'
  show vrf 0 (sg3 (e s a) :: sgl s l) = vrf 0 (sg3 (e t a) :: sgl t l) + 0
  rw [h1]
  simp only [vrf]
  rw [if_neg h2, if_neg h2, h4]; omega
 match l, g, h, hc, hm, hA with
 | [], g, h, hc, hm, hA => exact hA g
 | b :: l, g, h, hc, hm, hA =>
  rcases g.two with ha | hb
  ·exact hA ha
  ·obtain ⟨h1, h2⟩ := sg3_near hb hε (h b (by simp))
   have h3 := hm b l rfl hb
   have hc' : cl (sg3 (e s b) :: sgl s l) (sg3 (e s b) :: sgl t l) := by
    match l, hc with
    | [], hc => exact ⟨rfl, h2⟩
    | c :: l, hc =>
     have h8 : cl (sg3 (e s b) :: sgl s (c :: l)) (sg3 (e t b) :: sgl t (c :: l)) := hc.1
     rw [h1] at h8
     exact h8
   have h4 := cl_vrf _ _ _ _ (Nat.le_refl _) h2 (by have := sg3_mem (e s b); omega) sgl_mem sgl_mem hc'
   show vrf 0 (sg3 (e s a) :: sg3 (e s b) :: sgl s l) = vrf 0 (sg3 (e t a) :: sg3 (e t b) :: sgl t l) + ind a s t
   rw [h1]
   simp only [vrf]
   rw [if_neg h2, if_neg h2, h4]
   have hi : ind a s t = if sg3 (e s a) ≠ 0 ∧ sg3 (e t a) ≠ sg3 (e s a) then 1 else 0 := by
    unfold ind
    by_cases h6 : e s a = 0
    ·rw [if_neg (fun h7 => h7.1 h6), if_neg (fun h7 => h7.1 (sg3_eq_zero.2 h6))]
    ·have h7 : sg3 (e s a) ≠ 0 := fun h8 => h6 (sg3_eq_zero.1 h8)
     simp only [ne_eq, h6, h7, not_false_eq_true, true_and]
   rw [hi]
   have hd : (sg3 (e s b) = -1 → sg3 (e t a) ≤ sg3 (e s a) ∧ (sg3 (e t a) = sg3 (e s a) → sg3 (e s a) ≠ 0)) ∧ (sg3 (e s b) = 1 → sg3 (e s a) ≤ sg3 (e t a) ∧ (sg3 (e t a) = sg3 (e s a) → sg3 (e s a) ≠ 0)) := by
    refine ⟨fun h6 => ?_, fun h6 => ?_⟩
    ·have h5 := sg3_eq_neg.1 (h3.trans h6)
     rcases sg3_cases (e s a) with ⟨q1, r1⟩ | ⟨q1, r1⟩ | ⟨q1, r1⟩ <;> rcases sg3_cases (e t a) with ⟨q2, r2⟩ | ⟨q2, r2⟩ | ⟨q2, r2⟩ <;> rw [r1, r2] <;> first | decide | (exfalso; grind)
    ·have h5 := sg3_eq_pos.1 (h3.trans h6)
     rcases sg3_cases (e s a) with ⟨q1, r1⟩ | ⟨q1, r1⟩ | ⟨q1, r1⟩ <;> rcases sg3_cases (e t a) with ⟨q2, r2⟩ | ⟨q2, r2⟩ | ⟨q2, r2⟩ <;> rw [r1, r2] <;> first | decide | (exfalso; grind)
   have m1 := sg3_mem (e s a)
   have m2 := sg3_mem (e t a)
   have m3 := sg3_mem (e s b)
   generalize sg3 (e s a) = σ at *
   generalize sg3 (e t a) = τ at *
   generalize sg3 (e s b) = γ at *
   generalize vrf γ (sgl t l) = T at *
   obtain ⟨d1, d2⟩ := hd
   clear hc hc' h1 h3 hm hA h g hb hi
   rcases m3 with rfl | rfl | rfl
   ·obtain ⟨d3, d4⟩ := d1 rfl
    rcases m1 with rfl | rfl | rfl <;> rcases m2 with rfl | rfl | rfl <;> first | (exfalso; omega) | (simp; try omega)
   ·exact absurd rfl h2
   ·obtain ⟨d3, d4⟩ := d2 rfl
    rcases m1 with rfl | rfl | rfl <;> rcases m2 with rfl | rfl | rfl <;> first | (exfalso; omega) | (simp; try omega)
end Pm
namespace Pm
open ZX hiding N W
def StC (M B : Rat) : List ZX → Prop
 | [] => False
 | [a] => ∃ c : Int, c ≠ 0 ∧ a = K c
 | [_, b] => ∃ c : Int, c ≠ 0 ∧ b = K c
 | a :: b :: c :: l => StC M B (b :: c :: l) ∧ ∃ (m k : Int) (q : ZX), 0 < m ∧ 0 < k ∧ K m * a = q * b - K k * c ∧ 2 * (m : Rat) ≤ M ∧ ∀ t, Ab t B → Ab (2 * e t q) M
def eps (M : Rat) : Nat → Rat
 | 0 => 1
 | k + 1 => eps M k / M
theorem eps_mul {M : Rat} (hM : 2 ≤ M) (k : Nat) : M * eps M (k + 1) = eps M k := by
 rw [eps, Rat.mul_comm, Rat.div_mul_cancel (by grind)]
theorem eps_pos {M : Rat} (hM : 2 ≤ M) : ∀ k, 0 < eps M k
 | 0 => by show (0 : Rat) < 1; decide
 | k + 1 => by
  have h1 := eps_pos hM k
  have h2 := eps_mul hM k
  refine Rat.not_le.1 fun h => ?_
  have h3 := Rat.mul_nonneg (show 0 ≤ M by grind) (show 0 ≤ -eps M (k + 1) by grind)
  grind
theorem eps_le {M : Rat} (hM : 2 ≤ M) (k : Nat) : eps M (k + 1) ≤ eps M k := by
 have h1 := eps_pos hM (k + 1)
 have h2 := eps_mul hM k
 have h3 := Rat.mul_le_mul_of_nonneg_right (show 1 ≤ M by grind) (Rat.le_of_lt h1)
 grind
theorem eps_le_one {M : Rat} (hM : 2 ≤ M) : ∀ k, eps M k ≤ 1
 | 0 => Rat.le_refl
 | k + 1 => Rat.le_trans (eps_le hM k) (eps_le_one hM k)
theorem Big_int {c : Int} (h : c ≠ 0) : Big 1 (c : Rat) := by
 rcases Int.lt_trichotomy c 0 with h1 | h1 | h1
 ·left
  have : ((c : Int) : Rat) ≤ ((-1 : Int) : Rat) := Rat.intCast_le_intCast.2 (by omega)
  rw [Rat.intCast_neg, Rat.intCast_one] at this
  exact this
 ·exact absurd h1 h
 ·right
  have : ((1 : Int) : Rat) ≤ ((c : Int) : Rat) := Rat.intCast_le_intCast.2 (by omega)
  rw [Rat.intCast_one] at this
  exact this
theorem one_le_cast {c : Int} (h : 0 < c) : (1 : Rat) ≤ (c : Rat) := by
 have : ((1 : Int) : Rat) ≤ ((c : Int) : Rat) := Rat.intCast_le_intCast.2 (by omega)
 rwa [Rat.intCast_one] at this
theorem gap_step {M ε ε' x y z q m k : Rat} (hM : 2 ≤ M) (he : M * ε' = ε) (hp : 0 < ε') (hm : 1 ≤ m) (hk : 1 ≤ k) (hmM : 2 * m ≤ M) (hq : Ab (2 * q) M) (e : m * x = q * y - k * z) (hy : ¬ Big ε' y) (hz : Big ε z) : Big ε' x ∧ sg3 x = -sg3 z := by
 have h1 := hq.mul (Ab_of_not_Big hy)
 rw [he] at h1
 obtain ⟨h2, h3⟩ := h1
 have hε : 0 < ε := by rw [← he]; exact Rat.mul_pos (by grind) hp
 have h6 := Rat.mul_le_mul_of_nonneg_right hmM (Rat.le_of_lt hp)
 rcases hz with hz | hz
 ·have h4 := Rat.mul_le_mul_of_nonneg_right hk (show 0 ≤ -z by grind)
  have h5 : ε ≤ 2 * (m * x) := by grind
  have h7 : ε' ≤ x := Rat.not_lt.1 fun h => by
   have := Rat.mul_lt_mul_of_pos_left h (show 0 < m by grind)
   grind
  refine ⟨.inr h7, ?_⟩
  rw [sg3_neg (x := z) (by grind), sg3_pos (x := x) (by grind)]; rfl
 ·have h4 := Rat.mul_le_mul_of_nonneg_right hk (show 0 ≤ z by grind)
  have h5 : 2 * (m * x) ≤ -ε := by grind
  have h7 : x ≤ -ε' := Rat.not_lt.1 fun h => by
   have := Rat.mul_lt_mul_of_pos_left h (show 0 < m by grind)
   grind
  refine ⟨.inl h7, ?_⟩
  rw [sg3_pos (x := z) (by grind), sg3_neg (x := x) (by grind)]
theorem StC.gap {M B t : Rat} (hM : 2 ≤ M) (ht : Ab t B) : ∀ {l : List ZX}, StC M B l → gap (eps M l.length) t l
 | [], h => h
 | [a], h => by
  obtain ⟨c, hc, rfl⟩ := h
  show Big _ (e t (K c))
  rw [e_K]
  exact (Big_int hc).mono (eps_le_one hM _)
 | [a, b], h => by
  obtain ⟨c, hc, rfl⟩ := h
  show Big _ (e t (K c))
  rw [e_K]
  exact (Big_int hc).mono (eps_le_one hM _)
 | a :: b :: c :: l, h => by
  obtain ⟨h1, m, k, q, hm, hk, he, hmM, hq⟩ := h
  have ih := StC.gap hM ht h1
  refine ⟨ih.mono (eps_le hM _), ?_⟩
  by_cases hb : Big (eps M (a :: b :: c :: l).length) (e t b)
  ·exact .inl hb
  ·have hc : Big (eps M (b :: c :: l).length) (e t c) := by
    rcases ih.two with h2 | h2
    ·exact absurd (h2.mono (eps_le hM _)) hb
    ·exact h2
   have he2 : (m : Rat) * e t a = e t q * e t b - k * e t c := by
    rw [← e_K (t := t) m, ← e_mul, he, e_sub, e_mul, e_mul, e_K]
   obtain ⟨g1, g2⟩ := gap_step hM (eps_mul hM _) (eps_pos hM _) (one_le_cast hm) (one_le_cast hk) hmM (hq t ht) he2 hb hc
   exact .inr ⟨g1, hc.mono (eps_le hM _), g2⟩
structure Lcl (L : List ZX) (f : ZX) (B δ : Rat) : Prop where
 turns : ∀ s t, Ab s B → Ab t B → s < t → t - s ≤ δ → vt L s = vt L t + ind f s t
 simple : ∀ s t, Ab s B → Ab t B → s < t → t - s ≤ δ → e s f = 0 → e t f ≠ 0
theorem not_Big_mul {h x Q ε : Rat} (hh : 0 ≤ h) (hx : Ab x Q) (hQ : h * Q < ε) : ¬ Big ε (h * x) := fun hb => by
 obtain ⟨h1, h2⟩ := (Ab.mul (x := h) (M := h) ⟨by grind, Rat.le_refl⟩ hx)
 rcases hb with hb | hb <;> grind
theorem mono_near {h x Q ε c y d1 d2 : Rat} (hh : 0 < h) (hε : 0 < ε) (hc : 1 ≤ c) (hx : Ab x Q) (hQ : h * Q < ε) (hy : Big ε y) (e1 : d1 = c * y) (e2 : d2 - d1 = h * x) : sg3 (h * d2) = sg3 y := by
 obtain ⟨h1, h2⟩ := (Ab.mul (x := h) (M := h) ⟨by grind, Rat.le_refl⟩ hx)
 have hs : sg3 (h * d2) = sg3 d2 := by rw [sg3_mul, sg3_pos hh]; omega
 rw [hs]
 rcases hy with hy | hy
 ·have := Rat.mul_le_mul_of_nonneg_right hc (show 0 ≤ -y by grind)
  rw [sg3_neg (show y < 0 by grind), sg3_neg (show d2 < 0 by grind)]
 ·have := Rat.mul_le_mul_of_nonneg_right hc (show 0 ≤ y by grind)
  rw [sg3_pos (show 0 < y by grind), sg3_pos (show 0 < d2 by grind)]
theorem StC.loc {M B S Q δ : Rat} {f : ZX} {l : List ZX} (hM : 2 ≤ M) (hB : 1 ≤ B) (hS : 0 ≤ S) (h : StC M B (f :: l)) (hb : ∀ p ∈ f :: l, (∀ c ∈ p.l, Ab (c : Rat) S) ∧ qb4 S B p.l.length ≤ Q) (hd : ∀ g k, l = g :: k → ∃ c : Int, 0 < c ∧ der f = K c * g)
  (hδ : δ * Q < eps M (f :: l).length) : Lcl (f :: l) f B δ := by
 have hQ0 : 0 ≤ Q := by
  obtain ⟨h1, h2⟩ := hb f (by simp)
  obtain ⟨h3, h4⟩ := qb4_pos hS hB f.l.length
  grind
 have hε := eps_pos hM (f :: l).length
 have near : ∀ s t : Rat, s < t → t - s ≤ δ → (t - s) * Q < eps M (f :: l).length := fun s t hst hd => by
  have := Rat.mul_le_mul_of_nonneg_right hd hQ0
  grind
 have key : ∀ s t, Ab s B → Ab t B → s < t → t - s ≤ δ → (∀ p ∈ f :: l, ¬ Big (eps M (f :: l).length) (e t p - e s p)) ∧ ∀ b k, l = b :: k → Big (eps M (f :: l).length) (e s b) → sg3 (e t f - e s f) = sg3 (e s b) := fun s t hs ht hst hsd => by
  refine ⟨fun p hp => ?_, fun b k hbk hbig => ?_⟩
  ·obtain ⟨h1, h2⟩ := hb p hp
   show ¬ Big _ (qv t p.l - qv s p.l)
   rw [qv_sub]
   exact not_Big_mul (by grind) ((dd_bd hS hB hs ht p.l h1).mono h2) (near s t hst hsd)
  ·obtain ⟨c, hc, he⟩ := hd b k hbk
   obtain ⟨h1, h2⟩ := hb f (by simp)
   show sg3 (qv t f.l - qv s f.l) = _
   rw [qv_sub]
   exact mono_near (d1 := dd s s f.l) (by grind) hε (one_le_cast hc) ((cc_bd hS hB hs ht f.l h1).mono h2) (near s t hst hsd) hbig (by rw [← e_der, he, e_mul, e_K]) (dd_sub s t f.l)
 refine ⟨fun s t hs ht hst hsd => ?_, fun s t hs ht hst hsd h0 => ?_⟩
 ·obtain ⟨k1, k2⟩ := key s t hs ht hst hsd
  exact vt_near hε (h.gap hM hs) k1 k2
 ·obtain ⟨k1, k2⟩ := key s t hs ht hst hsd
  have g := h.gap hM hs
  have nb : ¬ Big (eps M (f :: l).length) (e s f) := by
   rw [h0]
   rintro (h1 | h1) <;> grind
  match l, g, k2 with
  | [], g, _ => exact absurd g nb
  | b :: k, g, k2 =>
   have hbig := g.two.resolve_left nb
   have h2 := k2 b k rfl hbig
   intro h3
   rw [h0, h3, show (0 : Rat) - 0 = 0 by grind, sg3_zero] at h2
   have h4 := sg3_eq_zero.1 h2.symm
   rw [h4] at hbig
   rcases hbig with h1 | h1 <;> grind
theorem grid {B δ : Rat} (hδ : 0 < δ) {P : Rat → Rat → Prop} (ht : ∀ a b c, a < b → b < c → P a b → P b c → P a c) (hs : ∀ a b, Ab a B → Ab b B → a < b → b - a ≤ δ → P a b) {a b : Rat} (ha : Ab a B) (hb : Ab b B) (hab : a < b) : P a b := by
 have key : ∀ (n : Nat) (a b : Rat), Ab a B → Ab b B → a < b → b - a ≤ (n : Rat) * δ → P a b := by
  intro n
  induction n with
  | zero => intro a b _ _ h1 h2; exfalso; rw [show ((0 : Nat) : Rat) = 0 from rfl] at h2; grind
  | succ n ih =>
   intro a b ha hb h1 h2
   by_cases h3 : b - a ≤ δ
   ·exact hs a b ha hb h1 h3
   ·have h3 := Rat.not_le.1 h3
    obtain ⟨a1, a2⟩ := ha
    obtain ⟨b1, b2⟩ := hb
    have hm : Ab (a + δ) B := ⟨by grind, by grind⟩
    refine ht a (a + δ) b (by grind) (by grind) (hs _ _ ⟨a1, a2⟩ hm (by grind) (by grind)) (ih _ _ hm ⟨b1, b2⟩ (by grind) ?_)
    rw [show ((n + 1 : Nat) : Rat) = (n : Rat) + 1 from by rw [Rat.natCast_add]; rfl] at h2
    grind
 have h1 := Rat.lt_floor_add_one ((b - a) / δ)
 have h2 : 0 ≤ ((b - a) / δ).floor := Rat.le_floor_iff.2 (by
  have := (Rat.lt_div_iff (a := 0) (b := b - a) hδ).2 (by grind)
  show ((0 : Int) : Rat) ≤ _
  rw [Rat.intCast_zero]; exact Rat.le_of_lt this)
 refine key ((((b - a) / δ).floor + 1).toNat) a b ha hb hab ?_
 have h3 : (((((b - a) / δ).floor + 1).toNat : Nat) : Rat) = ((((b - a) / δ).floor + 1 : Int) : Rat) := by
  rw [← Rat.intCast_natCast, Int.toNat_of_nonneg (by omega)]
 rw [h3]
 have h4 := (Rat.div_lt_iff hδ).1 h1
 exact Rat.le_of_lt h4
end Pm
namespace Pm
open ZX hiding N W
structure Glob (L : List ZX) (f : ZX) : Prop where
 loc : ∀ B : Rat, 1 ≤ B → ∃ δ, 0 < δ ∧ Lcl L f B δ
theorem two_bd (a b : Rat) : ∃ B : Rat, 1 ≤ B ∧ Ab a B ∧ Ab b B := by
 have h1 : ∀ x : Rat, ∃ B : Rat, 1 ≤ B ∧ Ab x B := fun x => by
  by_cases h : 0 ≤ x
  ·exact ⟨x + 1, by grind, by grind, by grind⟩
  ·exact ⟨-x + 1, by grind, by grind, by grind⟩
 obtain ⟨A, hA, ha⟩ := h1 a
 obtain ⟨B, hB, hb⟩ := h1 b
 exact ⟨A + B, by grind, ha.mono (by grind), hb.mono (by grind)⟩
namespace Glob
variable {L : List ZX} {f : ZX} (h : Glob L f)
include h
theorem ind2 {P : Rat → Rat → Prop} (ht : ∀ a b c, a < b → b < c → P a b → P b c → P a c) (hs : ∀ B δ, Lcl L f B δ → ∀ a b, Ab a B → Ab b B → a < b → b - a ≤ δ → P a b) {a b : Rat} (hab : a < b) : P a b := by
 obtain ⟨B, hB, ha, hb⟩ := two_bd a b
 obtain ⟨δ, hδ, hl⟩ := h.loc B hB
 exact grid hδ ht (hs B δ hl) ha hb hab
theorem anti {a b : Rat} (hab : a ≤ b) : vt L b ≤ vt L a := by
 rcases Rat.le_iff_lt_or_eq.1 hab with h1 | rfl
 ·refine h.ind2 (P := fun a b => vt L b ≤ vt L a) (fun a b c _ _ h1 h2 => Nat.le_trans h2 h1) (fun B δ hl a b ha hb hab hd => ?_) h1
  rw [hl.turns a b ha hb hab hd]; omega
 ·exact Nat.le_refl _
theorem flat {a b : Rat} (hab : a < b) (he : vt L a = vt L b) : e b f ≠ 0 ∧ (e a f ≠ 0 → sg3 (e b f) = sg3 (e a f)) := by
 refine h.ind2 (P := fun a b => vt L a = vt L b → e b f ≠ 0 ∧ (e a f ≠ 0 → sg3 (e b f) = sg3 (e a f))) (fun a b c h1 h2 p1 p2 hac => ?_) (fun B δ hl a b ha hb hab hd heq => ?_) hab he
 ·have := h.anti (Rat.le_of_lt h1)
  have := h.anti (Rat.le_of_lt h2)
  obtain ⟨q1, q2⟩ := p1 (by omega)
  obtain ⟨q3, q4⟩ := p2 (by omega)
  exact ⟨q3, fun ha => by rw [q4 q1, q2 ha]⟩
 ·have h1 := hl.turns a b ha hb hab hd
  have h2 : ind f a b = 0 := by omega
  unfold ind at h2
  by_cases h0 : e a f = 0
  ·exact ⟨hl.simple a b ha hb hab hd h0, fun h3 => absurd h0 h3⟩
  ·have h3 : sg3 (e b f) = sg3 (e a f) := Classical.byContradiction fun h3 => by rw [if_pos ⟨h0, h3⟩] at h2; omega
   refine ⟨fun h4 => h0 (sg3_eq_zero.1 ?_), fun _ => h3⟩
   rw [← h3, h4, sg3_zero]
theorem const {a b : Rat} (hab : a < b) {σ : Int} (h0 : e a f = 0 ∨ sg3 (e a f) = σ) (h1 : ∀ x, a < x → x ≤ b → sg3 (e x f) = σ) : vt L a = vt L b := by
 refine h.ind2 (P := fun x y => a ≤ x → y ≤ b → vt L x = vt L y) (fun x y z hxy hyz p1 p2 hax hzb => (p1 hax (by grind)).trans (p2 (by grind) hzb)) (fun B δ hl x y hx hy hxy hd hax hyb => ?_) hab Rat.le_refl Rat.le_refl
 rw [hl.turns x y hx hy hxy hd]
 have h2 : ind f x y = 0 := if_neg fun h3 => by
  obtain ⟨h4, h5⟩ := h3
  rw [h1 y (by grind) hyb] at h5
  rcases Rat.le_iff_lt_or_eq.1 hax with h6 | rfl
  ·exact h5 (h1 x h6 (by grind)).symm
  ·rcases h0 with h0 | h0
   ·exact h4 h0
   ·exact h5 h0.symm
 omega
theorem root {s t : Rat} (hst : s < t) (h0 : e t f = 0) : vt L t < vt L s := by
 have h1 := h.anti (Rat.le_of_lt hst)
 refine Nat.lt_of_le_of_ne h1 fun h2 => ?_
 exact (h.flat hst h2.symm).1 h0
theorem cross {s t : Rat} (hst : s < t) (hs : e s f ≠ 0) (hn : sg3 (e t f) ≠ sg3 (e s f)) : vt L t < vt L s := by
 have h1 := h.anti (Rat.le_of_lt hst)
 refine Nat.lt_of_le_of_ne h1 fun h2 => ?_
 exact hn ((h.flat hst h2.symm).2 hs)
theorem count {roots : List Rat} (hn : roots.Nodup) (hr : ∀ r ∈ roots, e r f = 0) (hc : ∀ a b, a < b → (∀ r ∈ roots, a < r → b < r) → vt L a = vt L b) {a b : Rat} (hab : a < b) : vt L a = vt L b + (roots.countP fun r => decide (a < r ∧ r ≤ b)) := by
 refine h.ind2 (P := fun a b => vt L a = vt L b + (roots.countP fun r => decide (a < r ∧ r ≤ b))) (fun a b c h1 h2 p1 p2 => ?_) (fun B δ hl a b ha hb hab hd => ?_) hab
 ·rw [p1, p2]
  have : ∀ l : List Rat, (l.countP fun r => decide (a < r ∧ r ≤ c)) = (l.countP fun r => decide (a < r ∧ r ≤ b)) + (l.countP fun r => decide (b < r ∧ r ≤ c)) := fun l => by
   induction l with
   | nil => rfl
   | cons x l ih =>
    rw [List.countP_cons, List.countP_cons, List.countP_cons, ih]
    by_cases q1 : a < x ∧ x ≤ b
    ·have q2 : ¬ (b < x ∧ x ≤ c) := fun q => by grind
     have q3 : a < x ∧ x ≤ c := ⟨q1.1, by grind⟩
     rw [if_pos (decide_eq_true q3), if_pos (decide_eq_true q1), if_neg (fun h => q2 (of_decide_eq_true h))]; omega
    ·by_cases q2 : b < x ∧ x ≤ c
     ·have q3 : a < x ∧ x ≤ c := ⟨by grind, q2.2⟩
      rw [if_pos (decide_eq_true q3), if_neg (fun h => q1 (of_decide_eq_true h)), if_pos (decide_eq_true q2)]; omega
     ·have q3 : ¬ (a < x ∧ x ≤ c) := fun q => by
       by_cases q4 : x ≤ b
       ·exact q1 ⟨q.1, q4⟩
       ·exact q2 ⟨Rat.not_le.1 q4, q.2⟩
      rw [if_neg (fun h => q3 (of_decide_eq_true h)), if_neg (fun h => q1 (of_decide_eq_true h)), if_neg (fun h => q2 (of_decide_eq_true h))]; omega
  rw [this roots]; omega
 ·have h1 := hl.turns a b ha hb hab hd
  have h2 : ind f a b ≤ 1 := by unfold ind; split <;> omega
  have hm : ∀ r, r ∈ roots.filter (fun r => decide (a < r ∧ r ≤ b)) ↔ r ∈ roots ∧ a < r ∧ r ≤ b := fun r => by simp [List.mem_filter]
  have hnd : (roots.filter (fun r => decide (a < r ∧ r ≤ b))).Nodup := hn.filter _
  rw [List.countP_eq_length_filter]
  match hF : roots.filter (fun r => decide (a < r ∧ r ≤ b)), hm, hnd with
  | [], hm, _ =>
   rw [List.length_nil, Nat.add_zero]
   refine hc a b hab fun r hr h3 => Rat.not_le.1 fun h4 => ?_
   have := (hm r).2 ⟨hr, h3, h4⟩
   simp at this
  | [r], hm, _ =>
   obtain ⟨g1, g2, g3⟩ := (hm r).1 (by simp)
   have := h.root g2 (hr r g1)
   have := h.anti g3
   simp only [List.length_cons, List.length_nil]
   omega
  | r :: q :: l, hm, hnd =>
   exfalso
   obtain ⟨g1, g2, g3⟩ := (hm r).1 (by simp)
   obtain ⟨k1, k2, k3⟩ := (hm q).1 (by simp)
   have hne : r ≠ q := by
    simp only [List.nodup_cons, List.mem_cons, not_or] at hnd
    exact hnd.1.1
   rcases Rat.le_total (a := r) (b := q) with h5 | h5
   ·have := h.root (Rat.lt_of_le_of_ne h5 hne) (hr q k1)
    have := h.root g2 (hr r g1)
    have := h.anti k3
    omega
   ·have := h.root (Rat.lt_of_le_of_ne h5 (Ne.symm hne)) (hr r g1)
    have := h.root k2 (hr q k1)
    have := h.anti g3
    omega
end Glob
theorem Cn_tail {a b : Int} {l : List Int} (h : Cn (a :: b :: l)) : Cn (b :: l) := by
 unfold Cn at h ⊢
 rw [cutR] at h
 split at h
 ·simp at h
 ·simpa using h
theorem lead_cons {a b : Int} {l : List Int} : lead (a :: b :: l) = lead (b :: l) := by
 unfold lead
 simp only [List.length_cons, Nat.add_sub_cancel]
 rw [nth_consS]
theorem far_right {S t : Rat} (hS : 0 ≤ S) (ht : S + 1 ≤ t) : ∀ {x : List Int}, Cn x → 0 < x.length → (∀ c ∈ x, Ab (c : Rat) S) → (0 < lead x → 1 ≤ qv t x) ∧ (lead x < 0 → qv t x ≤ -1)
 | [a], hc, _, _ => by
  have e1 : qv t [a] = (a : Rat) := by simp only [qv]; grind
  have e2 : lead [a] = a := rfl
  rw [e1, e2]
  refine ⟨fun h => one_le_cast h, fun h => ?_⟩
  have : ((a : Int) : Rat) ≤ ((-1 : Int) : Rat) := Rat.intCast_le_intCast.2 (by omega)
  rwa [Rat.intCast_neg, Rat.intCast_one] at this
 | a :: b :: l, hc, _, hb => by
  obtain ⟨h1, h2⟩ := far_right hS ht (Cn_tail hc) (by simp) fun c hc => hb c (List.mem_cons_of_mem _ hc)
  obtain ⟨h3, h4⟩ := hb a (by simp)
  have e1 : qv t (a :: b :: l) = a + t * qv t (b :: l) := rfl
  rw [lead_cons, e1]
  refine ⟨fun h => ?_, fun h => ?_⟩
  ·have := Rat.mul_le_mul_of_nonneg_left (h1 h) (show 0 ≤ t by grind)
   grind
  ·have := Rat.mul_le_mul_of_nonneg_left (show 1 ≤ -qv t (b :: l) by have := h2 h; grind) (show 0 ≤ t by grind)
   grind
theorem far_left {S t : Rat} (hS : 0 ≤ S) (ht : t ≤ -(S + 1)) : ∀ {x : List Int}, Cn x → 0 < x.length → (∀ c ∈ x, Ab (c : Rat) S) → (0 < (if x.length % 2 = 0 then -lead x else lead x) → 1 ≤ qv t x) ∧ ((if x.length % 2 = 0 then -lead x else lead x) < 0 → qv t x ≤ -1)
 | [a], hc, _, _ => by
  have e1 : qv t [a] = (a : Rat) := by simp only [qv]; grind
  have e2 : lead [a] = a := rfl
  rw [e1, e2, if_neg (by simp)]
  refine ⟨fun h => one_le_cast h, fun h => ?_⟩
  have : ((a : Int) : Rat) ≤ ((-1 : Int) : Rat) := Rat.intCast_le_intCast.2 (by omega)
  rwa [Rat.intCast_neg, Rat.intCast_one] at this
 | a :: b :: l, hc, _, hb => by
  obtain ⟨h1, h2⟩ := far_left hS ht (Cn_tail hc) (by simp) fun c hc => hb c (List.mem_cons_of_mem _ hc)
  obtain ⟨h3, h4⟩ := hb a (by simp)
  have e1 : qv t (a :: b :: l) = a + t * qv t (b :: l) := rfl
  have e2 : (if (a :: b :: l).length % 2 = 0 then -lead (a :: b :: l) else lead (a :: b :: l)) = -(if (b :: l).length % 2 = 0 then -lead (b :: l) else lead (b :: l)) := by
   rw [lead_cons]
   simp only [List.length_cons]
   split <;> split <;> omega
  rw [e2, e1]
  generalize (if (b :: l).length % 2 = 0 then -lead (b :: l) else lead (b :: l)) = z at *
  refine ⟨fun h => ?_, fun h => ?_⟩
  ·have := Rat.mul_le_mul_of_nonneg_left (show 1 ≤ -qv t (b :: l) by have := h2 (by omega); grind) (show 0 ≤ -t by grind)
   grind
  ·have := Rat.mul_le_mul_of_nonneg_left (h1 (by omega)) (show 0 ≤ -t by grind)
   grind
theorem far_signs {S t : Rat} (hS : 0 ≤ S) {x : List Int} (hc : Cn x) (hb : ∀ c ∈ x, Ab (c : Rat) S) : (S + 1 ≤ t → sg3 (qv t x) = (lead x).sign) ∧ (t ≤ -(S + 1) → sg3 (qv t x) = if x.length % 2 = 0 then -(lead x).sign else (lead x).sign) := by
 rcases Nat.eq_zero_or_pos x.length with h0 | h0
 ·have : x = [] := List.eq_nil_of_length_eq_zero h0
  subst this
  refine ⟨fun _ => ?_, fun _ => ?_⟩ <;> simp only [qv] <;> decide
 ·have hl := lead_ne hc h0
  refine ⟨fun ht => ?_, fun ht => ?_⟩
  ·obtain ⟨h1, h2⟩ := far_right hS ht hc h0 hb
   rcases Int.lt_trichotomy (lead x) 0 with h | h | h
   ·have := h2 h
    rw [Int.sign_eq_neg_one_of_neg h, sg3_neg (by grind)]
   ·exact absurd h hl
   ·have := h1 h
    rw [Int.sign_eq_one_of_pos h, sg3_pos (by grind)]
  ·obtain ⟨h1, h2⟩ := far_left hS ht hc h0 hb
   rcases Int.lt_trichotomy (lead x) 0 with h | h | h
   ·rw [Int.sign_eq_neg_one_of_neg h]
    split
    ·rw [if_pos (by assumption)] at h1
     have := h1 (by omega)
     rw [sg3_pos (by grind)]; rfl
    ·rw [if_neg (by assumption)] at h2
     have := h2 h
     rw [sg3_neg (by grind)]
   ·exact absurd h hl
   ·rw [Int.sign_eq_one_of_pos h]
    split
    ·rw [if_pos (by assumption)] at h2
     have := h2 (by omega)
     rw [sg3_neg (by grind)]
    ·rw [if_neg (by assumption)] at h1
     have := h1 h
     rw [sg3_pos (by grind)]
end Pm
namespace Pm
open ZX hiding N W
theorem Big.mul {x y η θ : Rat} (hη : 0 < η) (hθ : 0 < θ) (h : Big η x) (h' : Big θ y) : Big (η * θ) (x * y) := by
 have key : ∀ {u v : Rat}, η ≤ u → θ ≤ v → η * θ ≤ u * v := fun {u v} h1 h2 => by
  have p1 := Rat.mul_le_mul_of_nonneg_left h2 (Rat.le_of_lt hη)
  have p2 := Rat.mul_le_mul_of_nonneg_right h1 (show 0 ≤ v by grind)
  grind
 rcases h with h | h <;> rcases h' with h' | h'
 ·right; have := key (show η ≤ -x by grind) (show θ ≤ -y by grind); grind
 ·left; have := key (show η ≤ -x by grind) h'; grind
 ·left; have := key h (show θ ≤ -y by grind); grind
 ·right; exact key h h'
def Bg (a b : Rat) (p : ZX) : Prop := ∃ η : Rat, 0 < η ∧ ∀ x, a ≤ x → x ≤ b → Big η (e x p)
theorem Bg.mul {a b : Rat} {p q : ZX} (h : Bg a b p) (h' : Bg a b q) : Bg a b (p * q) := by
 obtain ⟨η, h1, h2⟩ := h
 obtain ⟨θ, h3, h4⟩ := h'
 exact ⟨η * θ, Rat.mul_pos h1 h3, fun x hx hy => by rw [e_mul]; exact Big.mul h1 h3 (h2 x hx hy) (h4 x hx hy)⟩
theorem Bg.K {a b : Rat} {c : Int} (hc : c ≠ 0) : Bg a b (ZX.K c) := ⟨1, by decide, fun x _ _ => by rw [e_K]; exact Big_int hc⟩
theorem Bg.pow {a b : Rat} {p : ZX} (h : Bg a b p) : ∀ k : Nat, Bg a b (p ^ k)
 | 0 => Bg.K (c := 1) (by decide)
 | k + 1 => by rw [pow_succ']; exact (Bg.pow h k).mul h
theorem Bg.mono {a b c d : Rat} {p : ZX} (h : Bg a b p) (hc : a ≤ c) (hd : d ≤ b) : Bg c d p := by
 obtain ⟨η, h1, h2⟩ := h
 exact ⟨η, h1, fun x hx hy => h2 x (by grind) (by grind)⟩
theorem e_lin (t : Rat) (n d : Int) : e t (of [n, d]) = n + d * t := by
 rw [e_of]
 simp only [qv]; grind
theorem Bg.lin {a b : Rat} {n d : Int} (h : (0 < (n : Rat) + d * a ∧ 0 < (n : Rat) + d * b) ∨ ((n : Rat) + d * a < 0 ∧ (n : Rat) + d * b < 0)) : Bg a b (of [n, d]) := by
 have key : ∀ x, a ≤ x → x ≤ b → ((n : Rat) + d * a ≤ n + d * x ∧ (n : Rat) + d * x ≤ n + d * b) ∨ ((n : Rat) + d * b ≤ n + d * x ∧ (n : Rat) + d * x ≤ n + d * a) := fun x hx hy => by
  by_cases hd : (0 : Rat) ≤ d
  ·left
   have := Rat.mul_le_mul_of_nonneg_left hx hd
   have := Rat.mul_le_mul_of_nonneg_left hy hd
   grind
  ·right
   have := Rat.mul_le_mul_of_nonneg_left hx (show (0 : Rat) ≤ -d by grind)
   have := Rat.mul_le_mul_of_nonneg_left hy (show (0 : Rat) ≤ -d by grind)
   grind
 generalize (n : Rat) + d * a = u at *
 generalize (n : Rat) + d * b = v at *
 rcases h with ⟨h1, h2⟩ | ⟨h1, h2⟩
 ·by_cases huv : u ≤ v
  ·exact ⟨u, h1, fun x hx hy => by rw [e_lin]; have := key x hx hy; right; grind⟩
  ·exact ⟨v, h2, fun x hx hy => by rw [e_lin]; have := key x hx hy; right; grind⟩
 ·by_cases huv : u ≤ v
  ·exact ⟨-v, by grind, fun x hx hy => by rw [e_lin]; have := key x hx hy; left; grind⟩
  ·exact ⟨-u, by grind, fun x hx hy => by rw [e_lin]; have := key x hx hy; left; grind⟩
theorem cast_bd (l : List Int) : ∃ S : Rat, 0 ≤ S ∧ ∀ c ∈ l, Ab (c : Rat) S := by
 induction l with
 | nil => exact ⟨0, Rat.le_refl, fun c hc => by cases hc⟩
 | cons a l ih =>
  obtain ⟨S, hS, h⟩ := ih
  obtain ⟨A, hA, ha, _⟩ := two_bd a a
  refine ⟨S + A, by grind, fun c hc => ?_⟩
  rcases List.mem_cons.1 hc with rfl | hc
  ·exact ha.mono (by grind)
  ·exact (h c hc).mono (by grind)
theorem Ab_between {a b x B : Rat} (ha : Ab a B) (hb : Ab b B) (hx : a ≤ x) (hy : x ≤ b) : Ab x B := by
 obtain ⟨h1, h2⟩ := ha
 obtain ⟨h3, h4⟩ := hb
 exact ⟨by grind, by grind⟩
theorem e_range (a b : Rat) (p : ZX) : ∃ W : Rat, 0 < W ∧ ∀ x, a ≤ x → x ≤ b → Ab (e x p) W := by
 obtain ⟨B, hB, ha, hb⟩ := two_bd a b
 obtain ⟨S, hS, h⟩ := cast_bd p.l
 obtain ⟨h3, _⟩ := qb4_pos hS hB p.l.length
 exact ⟨qb4 S B p.l.length + 1, by grind, fun x hx hy => (qv_bd hS hB (Ab_between ha hb hx hy) p.l h).mono (by grind)⟩
theorem Bg.dv {a b : Rat} {f p : ZX} (h : Bg a b p) (hd : ZX.dv f p) : Bg a b f := by
 obtain ⟨c, hc, q, he⟩ := hd
 obtain ⟨η, h1, h2⟩ := (Bg.K (a := a) (b := b) hc).mul h
 obtain ⟨W, hW, h3⟩ := e_range a b q
 refine ⟨η / W, (Rat.lt_div_iff hW).2 (by grind), fun x hx hy => ?_⟩
 have h4 := h2 x hx hy
 rw [he, e_mul] at h4
 have h5 : η / W * W = η := Rat.div_mul_cancel (Rat.ne_of_gt hW)
 refine Classical.byContradiction fun hn => ?_
 obtain ⟨g1, g2⟩ := not_Big hn
 obtain ⟨k1, k2⟩ := h3 x hx hy
 generalize η / W = θ at *
 generalize e x q = u at *
 generalize e x f = v at *
 have key : ∀ {w z : Rat}, -W ≤ w → w ≤ W → -θ < z → z < θ → w * z < θ * W := fun {w z} a1 a2 a3 a4 => by
  by_cases hw : 0 ≤ w
  ·by_cases hz : 0 ≤ z
   ·have p1 := Rat.mul_le_mul_of_nonneg_right a2 hz
    have p2 := Rat.mul_lt_mul_of_pos_left a4 hW
    grind
   ·have p1 := Rat.mul_nonneg hw (show 0 ≤ -z by grind)
    grind
  ·by_cases hz : 0 ≤ z
   ·have p1 := Rat.mul_nonneg (show 0 ≤ -w by grind) hz
    grind
   ·have p1 := Rat.mul_le_mul_of_nonneg_right (show -w ≤ W by grind) (show 0 ≤ -z by grind)
    have p2 := Rat.mul_lt_mul_of_pos_left (show -z < θ by grind) hW
    grind
 rcases h4 with h4 | h4
 ·have := key (w := -u) (z := v) (by grind) (by grind) g1 g2
  grind
 ·have := key (w := u) (z := v) k1 k2 g1 g2
  grind
theorem Bg.same {a b : Rat} {f : ZX} (h : Bg a b f) {x y : Rat} (hx : a ≤ x) (hxy : x < y) (hy : y ≤ b) : sg3 (e y f) = sg3 (e x f) ∧ sg3 (e x f) ≠ 0 := by
 obtain ⟨η, hη, h2⟩ := h
 obtain ⟨B, hB, ha, hb⟩ := two_bd a b
 obtain ⟨S, hS, hc⟩ := cast_bd f.l
 obtain ⟨h3, _⟩ := qb4_pos hS hB f.l.length
 generalize hQ : qb4 S B f.l.length = Q at *
 have hQ1 : 0 < Q + 1 := by grind
 have hδ : η / (Q + 1) * (Q + 1) = η := Rat.div_mul_cancel (Rat.ne_of_gt hQ1)
 have hδ0 : 0 < η / (Q + 1) := (Rat.lt_div_iff hQ1).2 (by grind)
 generalize η / (Q + 1) = δ at *
 refine grid (B := B) hδ0 (P := fun x y => a ≤ x → y ≤ b → sg3 (e y f) = sg3 (e x f) ∧ sg3 (e x f) ≠ 0) (fun x y z h1 h2 p1 p2 hx hz => ?_) (fun x y hx hy hxy hd hax hyb => ?_) (Ab_between ha hb hx (by grind)) (Ab_between ha hb (by grind) hy) hxy hx hy
 ·obtain ⟨q1, q2⟩ := p1 hx (by grind)
  obtain ⟨q3, q4⟩ := p2 (by grind) hz
  exact ⟨q3.trans q1, q2⟩
 ·refine sg3_near (h2 x hax (by grind)) hη ?_
  show ¬ Big η (qv y f.l - qv x f.l)
  rw [qv_sub]
  refine not_Big_mul (Q := Q) (by grind) (hQ ▸ dd_bd hS hB hx hy f.l hc) ?_
  have := Rat.mul_le_mul_of_nonneg_right hd h3
  grind
theorem Glob.bg {L : List ZX} {f : ZX} (h : Glob L f) {a b : Rat} (hb : Bg a b f) (hab : a < b) : vt L a = vt L b := by
 refine h.const hab (σ := sg3 (e a f)) (.inr rfl) fun x hx hy => ?_
 exact (hb.same Rat.le_refl hx hy).1
theorem Glob.from_root {L : List ZX} {f : ZX} (h : Glob L f) {a b : Rat} (hab : a < b) (h0 : e a f = 0) : ∃ c, a < c ∧ c ≤ b ∧ vt L a = vt L c := by
 obtain ⟨B, hB, ha, hb⟩ := two_bd a b
 obtain ⟨δ, hδ, hl⟩ := h.loc B hB
 by_cases hd : b - a ≤ δ
 ·refine ⟨b, hab, Rat.le_refl, ?_⟩
  rw [hl.turns a b ha hb hab hd]
  have : ind f a b = 0 := if_neg fun h => h.1 h0
  omega
 ·refine ⟨a + δ, by grind, by grind, ?_⟩
  rw [hl.turns a (a + δ) ha (Ab_between ha hb (by grind) (by grind)) (by grind) (by grind)]
  have : ind f a (a + δ) = 0 := if_neg fun h => h.1 h0
  omega
theorem Glob.mirror {L M : List ZX} {f g : ZX} (hL : Glob L f) (hM : Glob M g) {κ : Int} (hκ : κ = 1 ∨ κ = -1) (hs : ∀ x, sg3 (e (-x) g) = κ * sg3 (e x f)) {a b : Rat} (hab : a < b) :
  vt M (-b) + (if e b f = 0 then 1 else 0) + vt L b = vt M (-a) + vt L a + (if e a f = 0 then 1 else 0) := by
 obtain ⟨B, hB, ha, hb⟩ := two_bd a b
 obtain ⟨δ, hδ, hl⟩ := hL.loc B hB
 obtain ⟨θ, hθ, hm⟩ := hM.loc B hB
 have hz : ∀ x, e (-x) g = 0 ↔ e x f = 0 := fun x => by
  rw [← sg3_eq_zero, ← sg3_eq_zero (x := e x f), hs]
  rcases hκ with rfl | rfl <;> omega
 have neg : ∀ {x}, Ab x B → Ab (-x) B := fun {x} h => ⟨by have := h.2; grind, by have := h.1; grind⟩
 obtain ⟨γ, hγ, h1, h2⟩ : ∃ γ, 0 < γ ∧ γ ≤ δ ∧ γ ≤ θ := by
  by_cases h : δ ≤ θ
  ·exact ⟨δ, hδ, Rat.le_refl, h⟩
  ·exact ⟨θ, hθ, by grind, Rat.le_refl⟩
 refine grid (B := B) hγ (P := fun a b => vt M (-b) + (if e b f = 0 then 1 else 0) + vt L b = vt M (-a) + vt L a + (if e a f = 0 then 1 else 0)) (fun x y z _ _ p1 p2 => ?_) (fun x y hx hy hxy hd => ?_) ha hb hab
 ·omega
 ·have t1 := hl.turns x y hx hy hxy (by grind)
  have t2 := hm.turns (-y) (-x) (neg hy) (neg hx) (by grind) (by grind)
  have s1 := hl.simple x y hx hy hxy (by grind)
  rw [t1, t2]
  have e1 : (e (-y) g ≠ 0 ∧ sg3 (e (-x) g) ≠ sg3 (e (-y) g)) ↔ (e y f ≠ 0 ∧ sg3 (e x f) ≠ sg3 (e y f)) := by
   rw [hs, hs]
   constructor
   ·rintro ⟨q1, q2⟩; exact ⟨fun q => q1 ((hz y).2 q), fun q => q2 (by rw [q])⟩
   ·rintro ⟨q1, q2⟩; exact ⟨fun q => q1 ((hz y).1 q), fun q => q2 (by rcases hκ with rfl | rfl <;> omega)⟩
  have i1 : ∀ h : e x f ≠ 0 ∧ sg3 (e y f) ≠ sg3 (e x f), ind f x y = 1 := fun h => if_pos h
  have i2 : ∀ h : ¬ (e x f ≠ 0 ∧ sg3 (e y f) ≠ sg3 (e x f)), ind f x y = 0 := fun h => if_neg h
  have i3 : ∀ h : e y f ≠ 0 ∧ sg3 (e x f) ≠ sg3 (e y f), ind g (-y) (-x) = 1 := fun h => if_pos (e1.2 h)
  have i4 : ∀ h : ¬ (e y f ≠ 0 ∧ sg3 (e x f) ≠ sg3 (e y f)), ind g (-y) (-x) = 0 := fun h => if_neg fun q => h (e1.1 q)
  by_cases hx0 : e x f = 0
  ·have hy0 := s1 hx0
   rw [if_neg hy0, if_pos hx0, i2 (fun q => q.1 hx0), i3 ⟨hy0, fun q => hy0 (sg3_eq_zero.1 (by rw [← q, hx0]; decide))⟩]
   omega
  ·by_cases hy0 : e y f = 0
   ·rw [if_pos hy0, if_neg hx0, i1 ⟨hx0, fun q => hx0 (sg3_eq_zero.1 (by rw [← q, hy0]; decide))⟩, i4 (fun q => q.1 hy0)]
    omega
   ·rw [if_neg hy0, if_neg hx0]
    by_cases hq : sg3 (e y f) = sg3 (e x f)
    ·rw [i2 (fun q => q.2 hq), i4 (fun q => q.2 hq.symm)]
     omega
    ·rw [i1 ⟨hx0, hq⟩, i3 ⟨hy0, fun q => hq q.symm⟩]
     omega
theorem cauchy_right {S t : Rat} (hS : 0 ≤ S) (h1 : 1 ≤ t) : ∀ {x : List Int}, Cn x → 0 < x.length → (∀ c ∈ x.dropLast, Ab (c : Rat) S) → (0 < lead x → S + lead x ≤ lead x * t → (lead x : Rat) ≤ qv t x) ∧ (lead x < 0 → S - lead x ≤ -(lead x * t) → qv t x ≤ lead x)
 | [a], hc, _, _ => by
  have e1 : qv t [a] = (a : Rat) := by simp only [qv]; grind
  have e2 : lead [a] = a := rfl
  rw [e1, e2]
  exact ⟨fun _ _ => Rat.le_refl, fun _ _ => Rat.le_refl⟩
 | a :: b :: l, hc, _, hb => by
  obtain ⟨h2, h3⟩ := cauchy_right hS h1 (Cn_tail hc) (by simp) fun c hc => hb c (by
   rw [List.dropLast_cons_of_ne_nil (by simp)]; exact List.mem_cons_of_mem _ hc)
  obtain ⟨h4, h5⟩ := hb a (by rw [List.dropLast_cons_of_ne_nil (by simp)]; simp)
  have e1 : qv t (a :: b :: l) = a + t * qv t (b :: l) := rfl
  rw [lead_cons, e1]
  refine ⟨fun h hL => ?_, fun h hL => ?_⟩
  ·have := Rat.mul_le_mul_of_nonneg_left (h2 h hL) (show 0 ≤ t by grind)
   grind
  ·have := Rat.mul_le_mul_of_nonneg_left (show -(lead (b :: l) : Rat) ≤ -qv t (b :: l) by have := h3 h hL; grind) (show 0 ≤ t by grind)
   grind
end Pm
