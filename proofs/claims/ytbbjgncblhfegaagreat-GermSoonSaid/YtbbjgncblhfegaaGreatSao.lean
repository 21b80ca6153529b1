import Derived.Test.YtbbjgncblhfegaaGreatSal
import Derived.Test.YtbbjgncblhfegaaGreatSam
import Derived.Test.YtbbjgncblhfegaaGreatSan
set_option linter.unusedSimpArgs false
set_option linter.unusedVariables false
namespace Pm
def qv (t : Rat) : List Int → Rat
 | [] => 0
 | a :: l => (a : Rat) + t * qv t l
section
variable {t : Rat}
theorem sN {α : Type} (f g : α → Int) : ∀ l : List α, qv t (l.map fun k => f k + g k) = qv t (l.map f) + qv t (l.map g)
 | [] => by simp only [List.map_nil, qv]; grind
 | x :: l => by simp only [List.map_cons, qv, sN f g l, Rat.intCast_add]; grind
theorem AR {α : Type} (c : Int) (f : α → Int) : ∀ l : List α, qv t (l.map fun k => f k * c) = qv t (l.map f) * c
 | [] => by simp only [List.map_nil, qv]; grind
 | x :: l => by simp only [List.map_cons, qv, AR c f l, Rat.intCast_mul]; grind
theorem mZ : ∀ (a : List Int) (n : Nat), qv t (a ++ List.replicate n 0) = qv t a
 | [], 0 => rfl
 | [], n + 1 => by
  have := mZ [] n
  simp only [List.nil_append] at this
  simp only [List.nil_append, List.replicate_succ, qv, this, Rat.intCast_zero]; grind
 | x :: a, n => by simp only [List.cons_append, qv, mZ a n]
theorem uF : ∀ l : List Int, qv t (aM l) = qv t l
 | [] => rfl
 | x :: l => by
  have ih := uF l
  simp only [aM]
  split
  ·rename_i h
   rw [h.1] at ih
   simp only [qv] at ih ⊢
   rw [← ih, h.2, Rat.intCast_zero]; grind
  ·simp only [qv, ih]
theorem kW {x : List Int} {n : Nat} (h : x.length ≤ n) : qv t ((List.range n).map (nth x)) = qv t x := by
 rw [nG h, mZ]
theorem RL (x y : List Int) : qv t (gB x y) = qv t x + qv t y := by
 rw [gB, uF, sN, kW (by omega), kW (by omega)]
theorem aeD (x y : List Int) : qv t (dZ x y) = qv t x - qv t y := by
 rw [dZ, uF]
 have h1 := sN (t := t) (fun k => nth x k - nth y k) (nth y) (List.range (max x.length y.length))
 have h2 : (fun k => nth x k - nth y k + nth y k) = nth x := by funext k; omega
 rw [h2, kW (by omega), kW (by omega)] at h1
 grind
theorem KG : ∀ x y : List Int, qv t (fC x y) = qv t x * qv t y
 | [], y => by simp only [fC, qv]; grind
 | a :: x, y => by
  have := AR (t := t) a id y
  simp only [id_eq, List.map_id_fun] at this
  rw [fC, RL, this]
  simp only [qv, KG x y, Rat.intCast_zero]
  grind
theorem aeE (x y : List Int) : qv t (bH x y) = qv t x * qv t y := by rw [bH, uF, KG]
end
namespace ZX
section
variable {t : Rat}
def e (t : Rat) (x : ZX) : Rat := qv t x.l
theorem aaW (x y : ZX) : e t (x + y) = e t x + e t y := RL _ _
theorem iW (x y : ZX) : e t (x * y) = e t x * e t y := aeE _ _
theorem apI (x y : ZX) : e t (x - y) = e t x - e t y := aeD _ _
theorem aj3 (x : List Int) : e t (of x) = qv t x := uF x
theorem F9 (c : Int) : e t (K c) = c := by
 rw [K, aj3]
 simp only [qv]; grind
theorem RM : e t 1 = 1 := F9 1
end
end ZX
def Ab (x M : Rat) : Prop := -M ≤ x ∧ x ≤ M
def kR (e x : Rat) : Prop := x ≤ -e ∨ e ≤ x
theorem Ab.mono {x M N : Rat} (h : Ab x M) (hMN : M ≤ N) : Ab x N := by
 obtain ⟨h1, h2⟩ := h
 exact ⟨by grind, by grind⟩
theorem Ab.add {x y M N : Rat} (h : Ab x M) (h' : Ab y N) : Ab (x + y) (M + N) := by
 obtain ⟨h1, h2⟩ := h
 obtain ⟨h3, h4⟩ := h'
 exact ⟨by grind, by grind⟩
theorem Ab.mul {x y M N : Rat} (h : Ab x M) (h' : Ab y N) : Ab (x * y) (M * N) := by
 obtain ⟨h1, h2⟩ := h
 obtain ⟨h3, h4⟩ := h'
 have p1 := Rat.mul_nonneg (show 0 ≤ M - x by grind) (show 0 ≤ N - y by grind)
 have p2 := Rat.mul_nonneg (show 0 ≤ M + x by grind) (show 0 ≤ N + y by grind)
 have p3 := Rat.mul_nonneg (show 0 ≤ M - x by grind) (show 0 ≤ N + y by grind)
 have p4 := Rat.mul_nonneg (show 0 ≤ M + x by grind) (show 0 ≤ N - y by grind)
 exact ⟨by grind, by grind⟩
theorem Ab.pos {x M : Rat} (h : Ab x M) : 0 ≤ M := by
 obtain ⟨h1, h2⟩ := h
 grind
theorem kR.mono {x e f : Rat} (h : kR e x) (hf : f ≤ e) : kR f x := by
 rcases h with h | h
 ·left; grind
 ·right; grind
theorem x7 {x e : Rat} (h : ¬ kR e x) : -e < x ∧ x < e := by
 constructor
 ·exact Rat.not_le.1 fun h1 => h (.inl h1)
 ·exact Rat.not_le.1 fun h1 => h (.inr h1)
theorem m6 {x e : Rat} (h : ¬ kR e x) : Ab x e := by
 obtain ⟨h1, h2⟩ := x7 h
 exact ⟨Rat.le_of_lt h1, Rat.le_of_lt h2⟩
def bO (x : Rat) : Int := if x < 0 then -1 else if 0 < x then 1 else 0
theorem fR {x : Rat} (h : x < 0) : bO x = -1 := if_pos h
theorem dK {x : Rat} (h : 0 < x) : bO x = 1 := by
 rw [bO, if_neg (by grind), if_pos h]
theorem jJ : bO 0 = 0 := by decide
theorem cB (x : Rat) : (x < 0 ∧ bO x = -1) ∨ (x = 0 ∧ bO x = 0) ∨ (0 < x ∧ bO x = 1) := by
 by_cases h : x < 0
 ·exact .inl ⟨h, fR h⟩
 ·by_cases h2 : 0 < x
  ·exact .inr (.inr ⟨h2, dK h2⟩)
  ·have : x = 0 := by grind
   subst this
   exact .inr (.inl ⟨rfl, jJ⟩)
theorem mJ (x : Rat) : bO x = -1 ∨ bO x = 0 ∨ bO x = 1 := by
 rcases cB x with h | h | h
 ·exact .inl h.2
 ·exact .inr (.inl h.2)
 ·exact .inr (.inr h.2)
theorem N9 {x : Rat} : bO x = -1 ↔ x < 0 := by
 rcases cB x with ⟨h, e⟩ | ⟨h, e⟩ | ⟨h, e⟩ <;> rw [e] <;> constructor <;> intro h2 <;> first | omega | grind
theorem OA {x : Rat} : bO x = 1 ↔ 0 < x := by
 rcases cB x with ⟨h, e⟩ | ⟨h, e⟩ | ⟨h, e⟩ <;> rw [e] <;> constructor <;> intro h2 <;> first | omega | grind
theorem dI {x : Rat} : bO x = 0 ↔ x = 0 := by
 rcases cB x with ⟨h, e⟩ | ⟨h, e⟩ | ⟨h, e⟩ <;> rw [e] <;> constructor <;> intro h2 <;> first | omega | grind
theorem mK (x y : Rat) : bO (x * y) = bO x * bO y := by
 rcases cB x with ⟨h, e⟩ | ⟨h, e⟩ | ⟨h, e⟩ <;> rcases cB y with ⟨h', e'⟩ | ⟨h', e'⟩ | ⟨h', e'⟩ <;> rw [e, e']
 ·have := Rat.mul_pos (show 0 < -x by grind) (show 0 < -y by grind)
  rw [dK (by grind)]; rfl
 ·rw [h', Rat.mul_zero]; rfl
 ·have := Rat.mul_pos (show 0 < -x by grind) h'
  rw [fR (by grind)]; rfl
 ·rw [h, Rat.zero_mul]; rfl
 ·rw [h, Rat.zero_mul]; rfl
 ·rw [h, Rat.zero_mul]; rfl
 ·have := Rat.mul_pos h (show 0 < -y by grind)
  rw [fR (by grind)]; rfl
 ·rw [h', Rat.mul_zero]; rfl
 ·rw [dK (Rat.mul_pos h h')]; rfl
theorem eD {x y e : Rat} (h : kR e x) (he : 0 < e) (uQ : ¬ kR e (y - x)) : bO y = bO x ∧ bO x ≠ 0 := by
 obtain ⟨h1, h2⟩ := x7 uQ
 rcases h with h | h
 ·rw [fR (show x < 0 by grind), fR (show y < 0 by grind)]; decide
 ·rw [dK (show 0 < x by grind), dK (show 0 < y by grind)]; decide
def dd (s t : Rat) : List Int → Rat
 | [] => 0
 | _ :: l => qv t l + s * dd s t l
def cc (s t : Rat) : List Int → Rat
 | [] => 0
 | _ :: l => dd s t l + s * cc s t l
theorem lP (s t : Rat) : ∀ x : List Int, qv t x - qv s x = (t - s) * dd s t x
 | [] => by simp only [qv, dd]; grind
 | a :: l => by
  have := lP s t l
  simp only [qv, dd]; grind
theorem OB (s t : Rat) : ∀ x : List Int, dd s t x - dd s s x = (t - s) * cc s t x
 | [] => by simp only [dd, cc]; grind
 | a :: l => by
  have := OB s t l
  have := lP s t l
  simp only [dd, cc]; grind
section
variable {S B s t : Rat} (hS : 0 ≤ S) (hB : 1 ≤ B) (hs : Ab s B) (ht : Ab t B)
def B9 (S B : Rat) : Nat → Rat
 | 0 => S
 | k + 1 => B9 S B k * (4 * B)
include hS hB in
theorem oG : ∀ k, 0 ≤ B9 S B k ∧ S ≤ B9 S B k
 | 0 => ⟨hS, Rat.le_refl⟩
 | k + 1 => by
  obtain ⟨h1, h2⟩ := oG k
  have h3 := Rat.mul_le_mul_of_nonneg_left (show (1 : Rat) ≤ 4 * B by grind) h1
  rw [B9]
  exact ⟨by grind, by grind⟩
include hS hB ht in
theorem RN : ∀ x : List Int, (∀ c ∈ x, Ab (c : Rat) S) → Ab (qv t x) (B9 S B x.length)
 | [], _ => by
  show Ab 0 S
  exact ⟨by grind, hS⟩
 | a :: l, h => by
  have h1 := RN l fun c hc => h c (List.mem_cons_of_mem _ hc)
  have h2 := (h a (List.mem_cons_self ..)).add (ht.mul h1)
  obtain ⟨h3, h4⟩ := oG hS hB l.length
  have h5 := Rat.mul_le_mul_of_nonneg_left hB h3
  refine h2.mono ?_
  rw [List.length_cons, B9]
  grind
include hS hB hs ht in
theorem DZ : ∀ x : List Int, (∀ c ∈ x, Ab (c : Rat) S) → Ab (dd s t x) (B9 S B x.length)
 | [], _ => by
  show Ab 0 S
  exact ⟨by grind, hS⟩
 | a :: l, h => by
  have h1 := DZ l fun c hc => h c (List.mem_cons_of_mem _ hc)
  have h0 := RN hS hB ht l fun c hc => h c (List.mem_cons_of_mem _ hc)
  have h2 := h0.add (hs.mul h1)
  obtain ⟨h3, h4⟩ := oG hS hB l.length
  have h5 := Rat.mul_le_mul_of_nonneg_left hB h3
  refine h2.mono ?_
  rw [List.length_cons, B9]
  grind
include hS hB hs ht in
theorem aaX : ∀ x : List Int, (∀ c ∈ x, Ab (c : Rat) S) → Ab (cc s t x) (B9 S B x.length)
 | [], _ => by
  show Ab 0 S
  exact ⟨by grind, hS⟩
 | a :: l, h => by
  have h1 := aaX l fun c hc => h c (List.mem_cons_of_mem _ hc)
  have h0 := DZ hS hB hs ht l fun c hc => h c (List.mem_cons_of_mem _ hc)
  have h2 := h0.add (hs.mul h1)
  obtain ⟨h3, h4⟩ := oG hS hB l.length
  have h5 := Rat.mul_le_mul_of_nonneg_left hB h3
  refine h2.mono ?_
  rw [List.length_cons, B9]
  grind
end
theorem uG (t : Rat) : ∀ (l : List Int) (k : Nat), qv t (ZX.oZ (k + 1) l) = qv t (ZX.oZ k l) + qv t l
 | [], k => by simp only [ZX.oZ, qv]; grind
 | a :: l, k => by
  simp only [ZX.oZ, qv]
  rw [uG t l (k + 1)]
  have : ((k + 1 : Nat) : Int) = (k : Int) + 1 := by omega
  rw [this, Rat.intCast_mul, Rat.intCast_mul, Rat.intCast_add, Rat.intCast_one]; grind
theorem xB (t : Rat) : ∀ l : List Int, qv t (ZX.oZ 1 l) = qv t l + t * dd t t l
 | [] => by simp only [ZX.oZ, qv, dd]; grind
 | b :: m => by
  rw [ZX.oZ]
  simp only [qv, dd]
  rw [uG, xB t m]
  rw [show ((1 : Nat) : Int) = 1 from rfl, Int.mul_one]
  grind
theorem ag5 (t : Rat) (x : ZX) : (ZX.bK x).e t = dd t t x.l := by
 rw [ZX.bK, ZX.aj3]
 obtain ⟨l, hl⟩ := x
 show qv t (ZX.vE l) = dd t t l
 match l with
 | [] => rfl
 | a :: l => rw [ZX.DQ, xB]; rfl
end Pm
namespace Pm
def CA (p : Int) : List Int → Nat
 | [] => 0
 | s :: l => if s = 0 then CA p l else (if p ≠ 0 ∧ s ≠ p then 1 else 0) + CA s l
def cl : List Int → List Int → Prop
 | [], [] => True
 | [x], [y] => x = y ∧ x ≠ 0
 | [_, x], [_, y] => x = y ∧ x ≠ 0
 | x0 :: x1 :: x2 :: x, y0 :: y1 :: y2 :: y => cl (x1 :: x2 :: x) (y1 :: y2 :: y) ∧ ((x1 = y1 ∧ x1 ≠ 0) ∨ (x0 = y0 ∧ x2 = y2 ∧ x0 = -x2 ∧ x2 ≠ 0))
 | _, _ => False
theorem GB : ∀ (n : Nat) (p : Int) (x y : List Int), x.length ≤ n → p ≠ 0 → (p = -1 ∨ p = 1) → (∀ s ∈ x, s = -1 ∨ s = 0 ∨ s = 1) → (∀ s ∈ y, s = -1 ∨ s = 0 ∨ s = 1) → cl (p :: x) (p :: y) → CA p x = CA p y
 | _, p, [], [], _, _, _, _, _, _ => rfl
 | _, p, [x1], [y1], _, _, _, _, _, h => by
  obtain ⟨rfl, h2⟩ := h
  rfl
 | _, p, [], [y1], _, _, _, _, _, h => by simp [cl] at h
 | _, p, [x1], [], _, _, _, _, _, h => by simp [cl] at h
 | _, p, [], _ :: _ :: _, _, _, _, _, _, h => by simp [cl] at h
 | _, p, _ :: _ :: _, [], _, _, _, _, _, h => by simp [cl] at h
 | _, p, [_], _ :: _ :: _, _, _, _, _, _, h => by simp [cl] at h
 | _, p, _ :: _ :: _, [_], _, _, _, _, _, h => by simp [cl] at h
 | 0, p, x1 :: x2 :: x, y1 :: y2 :: y, hn, _, _, _, _, _ => by simp at hn
 | n + 1, p, x1 :: x2 :: x, y1 :: y2 :: y, hn, hp, hp1, hx, hy, h => by
  obtain ⟨h1, h2⟩ := h
  rcases h2 with ⟨rfl, h2⟩ | ⟨_, rfl, h3, h4⟩
  ·have ih := GB n x1 (x2 :: x) (y2 :: y) (by simp at hn ⊢; omega) h2 (by have := hx x1 (by simp); omega) (fun s hs => hx s (List.mem_cons_of_mem _ hs)) (fun s hs => hy s (List.mem_cons_of_mem _ hs)) h1
   simp only [CA] at ih ⊢
   rw [if_neg h2, if_neg h2, ih]
  ·have ht : CA x2 x = CA x2 y := by
    refine GB n x2 x y (by simp at hn ⊢; omega) h4 (by have := hx x2 (by simp); omega) (fun s hs => hx s (by simp [hs])) (fun s hs => hy s (by simp [hs])) ?_
    match x, y, h1 with
    | [], [], _ => exact ⟨rfl, h4⟩
    | [], _ :: _, h1 => simp [cl] at h1
    | _ :: _, [], h1 => simp [cl] at h1
    | _ :: _, _ :: _, h1 => exact h1.1
   have key : ∀ z : Int, (z = -1 ∨ z = 0 ∨ z = 1) → ∀ w : List Int, CA p (z :: x2 :: w) = 1 + CA x2 w := fun z hz w => by
    simp only [CA]
    rcases hz with rfl | rfl | rfl
    ·rw [if_neg (by decide), if_neg h4]
     rcases hp1 with rfl | rfl
     ·rw [if_neg (by omega), if_pos (by omega)]; omega
     ·rw [if_pos (by omega), if_neg (by omega)]; omega
    ·rw [if_pos rfl, if_neg h4, if_pos (by omega)]
    ·rw [if_neg (by decide), if_neg h4]
     rcases hp1 with rfl | rfl
     ·rw [if_pos (by omega), if_neg (by omega)]; omega
     ·rw [if_neg (by omega), if_pos (by omega)]; omega
   rw [key x1 (hx x1 (by simp)), key y1 (hy y1 (by simp)), ht]
open ZX
def RO (ε t : Rat) : List ZX → Prop
 | [] => False
 | [a] => kR ε (e t a)
 | [_, b] => kR ε (e t b)
 | a :: b :: c :: l => RO ε t (b :: c :: l) ∧ (kR ε (e t b) ∨ (kR ε (e t a) ∧ kR ε (e t c) ∧ bO (e t a) = -bO (e t c)))
theorem RO.mono {ε δ t : Rat} (h : δ ≤ ε) : ∀ {l : List ZX}, RO ε t l → RO δ t l
 | [], g => g
 | [a], g => kR.mono g h
 | [a, b], g => kR.mono (x := e t b) g h
 | a :: b :: c :: l, g => ⟨RO.mono h g.1, by
  rcases g.2 with g | ⟨g1, g2, g3⟩
  ·exact .inl (g.mono h)
  ·exact .inr ⟨g1.mono h, g2.mono h, g3⟩⟩
theorem RO.two {ε t : Rat} {a b : ZX} : ∀ {l : List ZX}, RO ε t (a :: b :: l) → kR ε (e t a) ∨ kR ε (e t b)
 | [], g => .inr g
 | c :: l, g => by
  rcases g.2 with g | ⟨g1, g2, g3⟩
  ·exact .inr g
  ·exact .inl g1
def CB (t : Rat) (l : List ZX) : List Int := l.map fun p => bO (e t p)
theorem x8 {t : Rat} {l : List ZX} : ∀ s ∈ CB t l, s = -1 ∨ s = 0 ∨ s = 1 := fun s hs => by
 simp only [CB, List.mem_map] at hs
 obtain ⟨p, _, rfl⟩ := hs
 exact mJ _
theorem aaY {ε s t : Rat} (hε : 0 < ε) : ∀ {l : List ZX}, RO ε s l → (∀ p ∈ l, ¬ kR ε (e t p - e s p)) → cl (CB s l) (CB t l)
 | [], g, _ => g.elim
 | [a], g, h => by
  obtain ⟨h1, h2⟩ := eD g hε (h a (by simp))
  exact ⟨h1.symm, h2⟩
 | [a, b], g, h => by
  obtain ⟨h1, h2⟩ := eD (x := e s b) g hε (h b (by simp))
  exact ⟨h1.symm, h2⟩
 | a :: b :: c :: l, g, h => by
  refine ⟨aaY hε g.1 fun p hp => h p (List.mem_cons_of_mem _ hp), ?_⟩
  rcases g.2 with g | ⟨g1, g2, g3⟩
  ·obtain ⟨h1, h2⟩ := eD g hε (h b (by simp))
   exact .inl ⟨h1.symm, h2⟩
  ·obtain ⟨h1, h2⟩ := eD g1 hε (h a (by simp))
   obtain ⟨h3, h4⟩ := eD g2 hε (h c (by simp))
   exact .inr ⟨h1.symm, h3.symm, g3, h4⟩
def vt (l : List ZX) (t : Rat) : Nat := CA 0 (CB t l)
def ind (a : ZX) (s t : Rat) : Nat := if e s a ≠ 0 ∧ bO (e t a) ≠ bO (e s a) then 1 else 0
theorem aeF {ε s t : Rat} (hε : 0 < ε) {a : ZX} {l : List ZX} (g : RO ε s (a :: l)) (h : ∀ p ∈ a :: l, ¬ kR ε (e t p - e s p))
  (hm : ∀ b k, l = b :: k → kR ε (e s b) → bO (e t a - e s a) = bO (e s b)) : vt (a :: l) s = vt (a :: l) t + ind a s t := by
 have hc := aaY hε g h
 have hA : kR ε (e s a) → vt (a :: l) s = vt (a :: l) t + ind a s t := fun ha => by
  obtain ⟨h1, h2⟩ := eD ha hε (h a (by simp))
  have h3 : ind a s t = 0 := if_neg fun h => h.2 h1
  rw [h3]
  have hc' : cl (bO (e s a) :: CB s l) (bO (e s a) :: CB t l) := by
   have : CB t (a :: l) = bO (e s a) :: CB t l := by rw [← h1]; rfl
   rw [this] at hc
   exact hc
  have h4 := GB _ _ _ _ (Nat.le_refl _) h2 (by have := mJ (e s a); omega) x8 x8 hc'
  show CA 0 (bO (e s a) :: CB s l) = CA 0 (bO (e t a) :: CB t l) + 0
  rw [h1]
  simp only [CA]
  rw [if_neg h2, if_neg h2, h4]; omega
 match l, g, h, hc, hm, hA with
 | [], g, h, hc, hm, hA => exact hA g
 | b :: l, g, h, hc, hm, hA =>
  rcases g.two with ha | hb
  ·exact hA ha
  ·obtain ⟨h1, h2⟩ := eD hb hε (h b (by simp))
   have h3 := hm b l rfl hb
   have hc' : cl (bO (e s b) :: CB s l) (bO (e s b) :: CB t l) := by
    match l, hc with
    | [], hc => exact ⟨rfl, h2⟩
    | c :: l, hc =>
     have h8 : cl (bO (e s b) :: CB s (c :: l)) (bO (e t b) :: CB t (c :: l)) := hc.1
     rw [h1] at h8
     exact h8
   have h4 := GB _ _ _ _ (Nat.le_refl _) h2 (by have := mJ (e s b); omega) x8 x8 hc'
   show CA 0 (bO (e s a) :: bO (e s b) :: CB s l) = CA 0 (bO (e t a) :: bO (e t b) :: CB t l) + ind a s t
   rw [h1]
   simp only [CA]
   rw [if_neg h2, if_neg h2, h4]
   have hi : ind a s t = if bO (e s a) ≠ 0 ∧ bO (e t a) ≠ bO (e s a) then 1 else 0 := by
    unfold ind
    by_cases h6 : e s a = 0
    ·rw [if_neg (fun h7 => h7.1 h6), if_neg (fun h7 => h7.1 (dI.2 h6))]
    ·have h7 : bO (e s a) ≠ 0 := fun h8 => h6 (dI.1 h8)
     simp only [ne_eq, h6, h7, not_false_eq_true, true_and]
   rw [hi]
   have hd : (bO (e s b) = -1 → bO (e t a) ≤ bO (e s a) ∧ (bO (e t a) = bO (e s a) → bO (e s a) ≠ 0)) ∧ (bO (e s b) = 1 → bO (e s a) ≤ bO (e t a) ∧ (bO (e t a) = bO (e s a) → bO (e s a) ≠ 0)) := by
    refine ⟨fun h6 => ?_, fun h6 => ?_⟩
    ·have h5 := N9.1 (h3.trans h6)
     rcases cB (e s a) with ⟨q1, r1⟩ | ⟨q1, r1⟩ | ⟨q1, r1⟩ <;> rcases cB (e t a) with ⟨q2, r2⟩ | ⟨q2, r2⟩ | ⟨q2, r2⟩ <;> rw [r1, r2] <;> first | decide | (exfalso; grind)
    ·have h5 := OA.1 (h3.trans h6)
     rcases cB (e s a) with ⟨q1, r1⟩ | ⟨q1, r1⟩ | ⟨q1, r1⟩ <;> rcases cB (e t a) with ⟨q2, r2⟩ | ⟨q2, r2⟩ | ⟨q2, r2⟩ <;> rw [r1, r2] <;> first | decide | (exfalso; grind)
   have m1 := mJ (e s a)
   have m2 := mJ (e t a)
   have m3 := mJ (e s b)
   generalize bO (e s a) = σ at *
   generalize bO (e t a) = τ at *
   generalize bO (e s b) = γ at *
   generalize CA γ (CB t l) = T at *
   obtain ⟨d1, d2⟩ := hd
   clear hc hc' h1 h3 hm hA h g hb hi
   rcases m3 with rfl | rfl | rfl
   ·obtain ⟨d3, d4⟩ := d1 rfl
    rcases m1 with rfl | rfl | rfl <;> rcases m2 with rfl | rfl | rfl <;> first | (exfalso; omega) | (simp; try omega)
   ·exact absurd rfl h2
   ·obtain ⟨d3, d4⟩ := d2 rfl
    rcases m1 with rfl | rfl | rfl <;> rcases m2 with rfl | rfl | rfl <;> first | (exfalso; omega) | (simp; try omega)
end Pm
namespace Pm
open ZX hiding N W
def StC (M B : Rat) : List ZX → Prop
 | [] => False
 | [a] => ∃ c : Int, c ≠ 0 ∧ a = K c
 | [_, b] => ∃ c : Int, c ≠ 0 ∧ b = K c
 | a :: b :: c :: l => StC M B (b :: c :: l) ∧ ∃ (m k : Int) (q : ZX), 0 < m ∧ 0 < k ∧ K m * a = q * b - K k * c ∧ 2 * (m : Rat) ≤ M ∧ ∀ t, Ab t B → Ab (2 * e t q) M
def xM (M : Rat) : Nat → Rat
 | 0 => 1
 | k + 1 => xM M k / M
theorem GC {M : Rat} (hM : 2 ≤ M) (k : Nat) : M * xM M (k + 1) = xM M k := by
 rw [xM, Rat.mul_comm, Rat.div_mul_cancel (by grind)]
theorem uH {M : Rat} (hM : 2 ≤ M) : ∀ k, 0 < xM M k
 | 0 => by show (0 : Rat) < 1; decide
 | k + 1 => by
  have h1 := uH hM k
  have h2 := GC hM k
  refine Rat.not_le.1 fun h => ?_
  have h3 := Rat.mul_nonneg (show 0 ≤ M by grind) (show 0 ≤ -xM M (k + 1) by grind)
  grind
theorem GD {M : Rat} (hM : 2 ≤ M) (k : Nat) : xM M (k + 1) ≤ xM M k := by
 have h1 := uH hM (k + 1)
 have h2 := GC hM k
 have h3 := Rat.mul_le_mul_of_nonneg_right (show 1 ≤ M by grind) (Rat.le_of_lt h1)
 grind
theorem sO {M : Rat} (hM : 2 ≤ M) : ∀ k, xM M k ≤ 1
 | 0 => Rat.le_refl
 | k + 1 => Rat.le_trans (GD hM k) (sO hM k)
theorem GF {c : Int} (h : c ≠ 0) : kR 1 (c : Rat) := by
 rcases Int.lt_trichotomy c 0 with h1 | h1 | h1
 ·left
  have : ((c : Int) : Rat) ≤ ((-1 : Int) : Rat) := Rat.intCast_le_intCast.2 (by omega)
  rw [Rat.intCast_neg, Rat.intCast_one] at this
  exact this
 ·exact absurd h1 h
 ·right
  have : ((1 : Int) : Rat) ≤ ((c : Int) : Rat) := Rat.intCast_le_intCast.2 (by omega)
  rw [Rat.intCast_one] at this
  exact this
theorem eE {c : Int} (h : 0 < c) : (1 : Rat) ≤ (c : Rat) := by
 have : ((1 : Int) : Rat) ≤ ((c : Int) : Rat) := Rat.intCast_le_intCast.2 (by omega)
 rwa [Rat.intCast_one] at this
theorem aaZ {M ε ε' x y z q m k : Rat} (hM : 2 ≤ M) (he : M * ε' = ε) (hp : 0 < ε') (hm : 1 ≤ m) (hk : 1 ≤ k) (hmM : 2 * m ≤ M) (hq : Ab (2 * q) M) (e : m * x = q * y - k * z) (hy : ¬ kR ε' y) (hz : kR ε z) : kR ε' x ∧ bO x = -bO z := by
 have h1 := hq.mul (m6 hy)
 rw [he] at h1
 obtain ⟨h2, h3⟩ := h1
 have hε : 0 < ε := by rw [← he]; exact Rat.mul_pos (by grind) hp
 have h6 := Rat.mul_le_mul_of_nonneg_right hmM (Rat.le_of_lt hp)
 rcases hz with hz | hz
 ·have h4 := Rat.mul_le_mul_of_nonneg_right hk (show 0 ≤ -z by grind)
  have h5 : ε ≤ 2 * (m * x) := by grind
  have h7 : ε' ≤ x := Rat.not_lt.1 fun h => by
   have := Rat.mul_lt_mul_of_pos_left h (show 0 < m by grind)
   grind
  refine ⟨.inr h7, ?_⟩
  rw [fR (x := z) (by grind), dK (x := x) (by grind)]; rfl
 ·have h4 := Rat.mul_le_mul_of_nonneg_right hk (show 0 ≤ z by grind)
  have h5 : 2 * (m * x) ≤ -ε := by grind
  have h7 : x ≤ -ε' := Rat.not_lt.1 fun h => by
   have := Rat.mul_lt_mul_of_pos_left h (show 0 < m by grind)
   grind
  refine ⟨.inl h7, ?_⟩
  rw [dK (x := z) (by grind), fR (x := x) (by grind)]
theorem StC.RO {M B t : Rat} (hM : 2 ≤ M) (ht : Ab t B) : ∀ {l : List ZX}, StC M B l → RO (xM M l.length) t l
 | [], h => h
 | [a], h => by
  obtain ⟨c, hc, rfl⟩ := h
  show kR _ (e t (K c))
  rw [F9]
  exact (GF hc).mono (sO hM _)
 | [a, b], h => by
  obtain ⟨c, hc, rfl⟩ := h
  show kR _ (e t (K c))
  rw [F9]
  exact (GF hc).mono (sO hM _)
 | a :: b :: c :: l, h => by
  obtain ⟨h1, m, k, q, hm, hk, he, hmM, hq⟩ := h
  have ih := StC.RO hM ht h1
  refine ⟨ih.mono (GD hM _), ?_⟩
  by_cases hb : kR (xM M (a :: b :: c :: l).length) (e t b)
  ·exact .inl hb
  ·have hc : kR (xM M (b :: c :: l).length) (e t c) := by
    rcases ih.two with h2 | h2
    ·exact absurd (h2.mono (GD hM _)) hb
    ·exact h2
   have DV : (m : Rat) * e t a = e t q * e t b - k * e t c := by
    rw [← F9 (t := t) m, ← iW, he, apI, iW, iW, F9]
   obtain ⟨g1, g2⟩ := aaZ hM (GC hM _) (uH hM _) (eE hm) (eE hk) hmM (hq t ht) DV hb hc
   exact .inr ⟨g1, hc.mono (GD hM _), g2⟩
structure Lcl (L : List ZX) (f : ZX) (B δ : Rat) : Prop where
 turns : ∀ s t, Ab s B → Ab t B → s < t → t - s ≤ δ → vt L s = vt L t + ind f s t
 simple : ∀ s t, Ab s B → Ab t B → s < t → t - s ≤ δ → e s f = 0 → e t f ≠ 0
theorem xC {h x Q ε : Rat} (hh : 0 ≤ h) (hx : Ab x Q) (hQ : h * Q < ε) : ¬ kR ε (h * x) := fun hb => by
 obtain ⟨h1, h2⟩ := (Ab.mul (x := h) (M := h) ⟨by grind, Rat.le_refl⟩ hx)
 rcases hb with hb | hb <;> grind
theorem VB {h x Q ε c y d1 d2 : Rat} (hh : 0 < h) (hε : 0 < ε) (hc : 1 ≤ c) (hx : Ab x Q) (hQ : h * Q < ε) (hy : kR ε y) (e1 : d1 = c * y) (e2 : d2 - d1 = h * x) : bO (h * d2) = bO y := by
 obtain ⟨h1, h2⟩ := (Ab.mul (x := h) (M := h) ⟨by grind, Rat.le_refl⟩ hx)
 have hs : bO (h * d2) = bO d2 := by rw [mK, dK hh]; omega
 rw [hs]
 rcases hy with hy | hy
 ·have := Rat.mul_le_mul_of_nonneg_right hc (show 0 ≤ -y by grind)
  rw [fR (show y < 0 by grind), fR (show d2 < 0 by grind)]
 ·have := Rat.mul_le_mul_of_nonneg_right hc (show 0 ≤ y by grind)
  rw [dK (show 0 < y by grind), dK (show 0 < d2 by grind)]
theorem StC.loc {M B S Q δ : Rat} {f : ZX} {l : List ZX} (hM : 2 ≤ M) (hB : 1 ≤ B) (hS : 0 ≤ S) (h : StC M B (f :: l)) (hb : ∀ p ∈ f :: l, (∀ c ∈ p.l, Ab (c : Rat) S) ∧ B9 S B p.l.length ≤ Q) (hd : ∀ g k, l = g :: k → ∃ c : Int, 0 < c ∧ bK f = K c * g)
  (hδ : δ * Q < xM M (f :: l).length) : Lcl (f :: l) f B δ := by
 have hQ0 : 0 ≤ Q := by
  obtain ⟨h1, h2⟩ := hb f (by simp)
  obtain ⟨h3, h4⟩ := oG hS hB f.l.length
  grind
 have hε := uH hM (f :: l).length
 have rB : ∀ s t : Rat, s < t → t - s ≤ δ → (t - s) * Q < xM M (f :: l).length := fun s t lT hd => by
  have := Rat.mul_le_mul_of_nonneg_right hd hQ0
  grind
 have key : ∀ s t, Ab s B → Ab t B → s < t → t - s ≤ δ → (∀ p ∈ f :: l, ¬ kR (xM M (f :: l).length) (e t p - e s p)) ∧ ∀ b k, l = b :: k → kR (xM M (f :: l).length) (e s b) → bO (e t f - e s f) = bO (e s b) := fun s t hs ht lT hsd => by
  refine ⟨fun p hp => ?_, fun b k hbk OC => ?_⟩
  ·obtain ⟨h1, h2⟩ := hb p hp
   show ¬ kR _ (qv t p.l - qv s p.l)
   rw [lP]
   exact xC (by grind) ((DZ hS hB hs ht p.l h1).mono h2) (rB s t lT hsd)
  ·obtain ⟨c, hc, he⟩ := hd b k hbk
   obtain ⟨h1, h2⟩ := hb f (by simp)
   show bO (qv t f.l - qv s f.l) = _
   rw [lP]
   exact VB (d1 := dd s s f.l) (by grind) hε (eE hc) ((aaX hS hB hs ht f.l h1).mono h2) (rB s t lT hsd) OC (by rw [← ag5, he, iW, F9]) (OB s t f.l)
 refine ⟨fun s t hs ht lT hsd => ?_, fun s t hs ht lT hsd h0 => ?_⟩
 ·obtain ⟨k1, k2⟩ := key s t hs ht lT hsd
  exact aeF hε (h.RO hM hs) k1 k2
 ·obtain ⟨k1, k2⟩ := key s t hs ht lT hsd
  have g := h.RO hM hs
  have nb : ¬ kR (xM M (f :: l).length) (e s f) := by
   rw [h0]
   rintro (h1 | h1) <;> grind
  match l, g, k2 with
  | [], g, _ => exact absurd g nb
  | b :: k, g, k2 =>
   have OC := g.two.resolve_left nb
   have h2 := k2 b k rfl OC
   intro h3
   rw [h0, h3, show (0 : Rat) - 0 = 0 by grind, jJ] at h2
   have h4 := dI.1 h2.symm
   rw [h4] at OC
   rcases OC with h1 | h1 <;> grind
theorem aj4 {B δ : Rat} (hδ : 0 < δ) {P : Rat → Rat → Prop} (ht : ∀ a b c, a < b → b < c → P a b → P b c → P a c) (hs : ∀ a b, Ab a B → Ab b B → a < b → b - a ≤ δ → P a b) {a b : Rat} (ha : Ab a B) (hb : Ab b B) (fT : a < b) : P a b := by
 have key : ∀ (n : Nat) (a b : Rat), Ab a B → Ab b B → a < b → b - a ≤ (n : Rat) * δ → P a b := by
  intro n
  induction n with
  | zero => intro a b _ _ h1 h2; exfalso; rw [show ((0 : Nat) : Rat) = 0 from rfl] at h2; grind
  | succ n ih =>
   intro a b ha hb h1 h2
   by_cases h3 : b - a ≤ δ
   ·exact hs a b ha hb h1 h3
   ·have h3 := Rat.not_le.1 h3
    obtain ⟨a1, a2⟩ := ha
    obtain ⟨b1, b2⟩ := hb
    have hm : Ab (a + δ) B := ⟨by grind, by grind⟩
    refine ht a (a + δ) b (by grind) (by grind) (hs _ _ ⟨a1, a2⟩ hm (by grind) (by grind)) (ih _ _ hm ⟨b1, b2⟩ (by grind) ?_)
    rw [show ((n + 1 : Nat) : Rat) = (n : Rat) + 1 from by rw [Rat.natCast_add]; rfl] at h2
    grind
 have h1 := Rat.lt_floor_add_one ((b - a) / δ)
 have h2 : 0 ≤ ((b - a) / δ).floor := Rat.le_floor_iff.2 (by
  have := (Rat.lt_div_iff (a := 0) (b := b - a) hδ).2 (by grind)
  show ((0 : Int) : Rat) ≤ _
  rw [Rat.intCast_zero]; exact Rat.le_of_lt this)
 refine key ((((b - a) / δ).floor + 1).toNat) a b ha hb fT ?_
 have h3 : (((((b - a) / δ).floor + 1).toNat : Nat) : Rat) = ((((b - a) / δ).floor + 1 : Int) : Rat) := by
  rw [← Rat.intCast_natCast, Int.toNat_of_nonneg (by omega)]
 rw [h3]
 have h4 := (Rat.div_lt_iff hδ).1 h1
 exact Rat.le_of_lt h4
structure xN (L : List ZX) (f : ZX) : Prop where
 loc : ∀ B : Rat, 1 ≤ B → ∃ δ, 0 < δ ∧ Lcl L f B δ
theorem sP (a b : Rat) : ∃ B : Rat, 1 ≤ B ∧ Ab a B ∧ Ab b B := by
 have h1 : ∀ x : Rat, ∃ B : Rat, 1 ≤ B ∧ Ab x B := fun x => by
  by_cases h : 0 ≤ x
  ·exact ⟨x + 1, by grind, by grind, by grind⟩
  ·exact ⟨-x + 1, by grind, by grind, by grind⟩
 obtain ⟨A, hA, ha⟩ := h1 a
 obtain ⟨B, hB, hb⟩ := h1 b
 exact ⟨A + B, by grind, ha.mono (by grind), hb.mono (by grind)⟩
namespace xN
variable {L : List ZX} {f : ZX} (h : xN L f)
include h
theorem aa0 {P : Rat → Rat → Prop} (ht : ∀ a b c, a < b → b < c → P a b → P b c → P a c) (hs : ∀ B δ, Lcl L f B δ → ∀ a b, Ab a B → Ab b B → a < b → b - a ≤ δ → P a b) {a b : Rat} (fT : a < b) : P a b := by
 obtain ⟨B, hB, ha, hb⟩ := sP a b
 obtain ⟨δ, hδ, hl⟩ := h.loc B hB
 exact aj4 hδ ht (hs B δ hl) ha hb fT
theorem dE {a b : Rat} (fT : a ≤ b) : vt L b ≤ vt L a := by
 rcases Rat.le_iff_lt_or_eq.1 fT with h1 | rfl
 ·refine h.aa0 (P := fun a b => vt L b ≤ vt L a) (fun a b c _ _ h1 h2 => Nat.le_trans h2 h1) (fun B δ hl a b ha hb fT hd => ?_) h1
  rw [hl.turns a b ha hb fT hd]; omega
 ·exact Nat.le_refl _
theorem flat {a b : Rat} (fT : a < b) (he : vt L a = vt L b) : e b f ≠ 0 ∧ (e a f ≠ 0 → bO (e b f) = bO (e a f)) := by
 refine h.aa0 (P := fun a b => vt L a = vt L b → e b f ≠ 0 ∧ (e a f ≠ 0 → bO (e b f) = bO (e a f))) (fun a b c h1 h2 p1 p2 hac => ?_) (fun B δ hl a b ha hb fT hd heq => ?_) fT he
 ·have := h.dE (Rat.le_of_lt h1)
  have := h.dE (Rat.le_of_lt h2)
  obtain ⟨q1, q2⟩ := p1 (by omega)
  obtain ⟨q3, q4⟩ := p2 (by omega)
  exact ⟨q3, fun ha => by rw [q4 q1, q2 ha]⟩
 ·have h1 := hl.turns a b ha hb fT hd
  have h2 : ind f a b = 0 := by omega
  unfold ind at h2
  by_cases h0 : e a f = 0
  ·exact ⟨hl.simple a b ha hb fT hd h0, fun h3 => absurd h0 h3⟩
  ·have h3 : bO (e b f) = bO (e a f) := Classical.byContradiction fun h3 => by rw [if_pos ⟨h0, h3⟩] at h2; omega
   refine ⟨fun h4 => h0 (dI.1 ?_), fun _ => h3⟩
   rw [← h3, h4, jJ]
theorem const {a b : Rat} (fT : a < b) {σ : Int} (h0 : e a f = 0 ∨ bO (e a f) = σ) (h1 : ∀ x, a < x → x ≤ b → bO (e x f) = σ) : vt L a = vt L b := by
 refine h.aa0 (P := fun x y => a ≤ x → y ≤ b → vt L x = vt L y) (fun x y z uQ hyz p1 p2 hax hzb => (p1 hax (by grind)).trans (p2 (by grind) hzb)) (fun B δ hl x y hx hy uQ hd hax hyb => ?_) fT Rat.le_refl Rat.le_refl
 rw [hl.turns x y hx hy uQ hd]
 have h2 : ind f x y = 0 := if_neg fun h3 => by
  obtain ⟨h4, h5⟩ := h3
  rw [h1 y (by grind) hyb] at h5
  rcases Rat.le_iff_lt_or_eq.1 hax with h6 | rfl
  ·exact h5 (h1 x h6 (by grind)).symm
  ·rcases h0 with h0 | h0
   ·exact h4 h0
   ·exact h5 h0.symm
 omega
theorem root {s t : Rat} (lT : s < t) (h0 : e t f = 0) : vt L t < vt L s := by
 have h1 := h.dE (Rat.le_of_lt lT)
 refine Nat.lt_of_le_of_ne h1 fun h2 => ?_
 exact (h.flat lT h2.symm).1 h0
theorem count {roots : List Rat} (hn : roots.Nodup) (hr : ∀ r ∈ roots, e r f = 0) (hc : ∀ a b, a < b → (∀ r ∈ roots, a < r → b < r) → vt L a = vt L b) {a b : Rat} (fT : a < b) : vt L a = vt L b + (roots.countP fun r => decide (a < r ∧ r ≤ b)) := by
 refine h.aa0 (P := fun a b => vt L a = vt L b + (roots.countP fun r => decide (a < r ∧ r ≤ b))) (fun a b c h1 h2 p1 p2 => ?_) (fun B δ hl a b ha hb fT hd => ?_) fT
 ·rw [p1, p2]
  have : ∀ l : List Rat, (l.countP fun r => decide (a < r ∧ r ≤ c)) = (l.countP fun r => decide (a < r ∧ r ≤ b)) + (l.countP fun r => decide (b < r ∧ r ≤ c)) := fun l => by
   induction l with
   | nil => rfl
   | cons x l ih =>
    rw [List.countP_cons, List.countP_cons, List.countP_cons, ih]
    by_cases q1 : a < x ∧ x ≤ b
    ·have q2 : ¬ (b < x ∧ x ≤ c) := fun q => by grind
     have q3 : a < x ∧ x ≤ c := ⟨q1.1, by grind⟩
     rw [if_pos (decide_eq_true q3), if_pos (decide_eq_true q1), if_neg (fun h => q2 (of_decide_eq_true h))]; omega
    ·by_cases q2 : b < x ∧ x ≤ c
     ·have q3 : a < x ∧ x ≤ c := ⟨by grind, q2.2⟩
      rw [if_pos (decide_eq_true q3), if_neg (fun h => q1 (of_decide_eq_true h)), if_pos (decide_eq_true q2)]; omega
     ·have q3 : ¬ (a < x ∧ x ≤ c) := fun q => by
       by_cases q4 : x ≤ b
       ·exact q1 ⟨q.1, q4⟩
       ·exact q2 ⟨Rat.not_le.1 q4, q.2⟩
      rw [if_neg (fun h => q3 (of_decide_eq_true h)), if_neg (fun h => q1 (of_decide_eq_true h)), if_neg (fun h => q2 (of_decide_eq_true h))]; omega
  rw [this roots]; omega
 ·have h1 := hl.turns a b ha hb fT hd
  have h2 : ind f a b ≤ 1 := by unfold ind; split <;> omega
  have hm : ∀ r, r ∈ roots.filter (fun r => decide (a < r ∧ r ≤ b)) ↔ r ∈ roots ∧ a < r ∧ r ≤ b := fun r => by simp [List.mem_filter]
  have HP : (roots.filter (fun r => decide (a < r ∧ r ≤ b))).Nodup := hn.filter _
  rw [List.countP_eq_length_filter]
  match hF : roots.filter (fun r => decide (a < r ∧ r ≤ b)), hm, HP with
  | [], hm, _ =>
   rw [List.length_nil, Nat.add_zero]
   refine hc a b fT fun r hr h3 => Rat.not_le.1 fun h4 => ?_
   have := (hm r).2 ⟨hr, h3, h4⟩
   simp at this
  | [r], hm, _ =>
   obtain ⟨g1, g2, g3⟩ := (hm r).1 (by simp)
   have := h.root g2 (hr r g1)
   have := h.dE g3
   simp only [List.length_cons, List.length_nil]
   omega
  | r :: q :: l, hm, HP =>
   exfalso
   obtain ⟨g1, g2, g3⟩ := (hm r).1 (by simp)
   obtain ⟨k1, k2, k3⟩ := (hm q).1 (by simp)
   have qI : r ≠ q := by
    simp only [List.nodup_cons, List.mem_cons, not_or] at HP
    exact HP.1.1
   rcases Rat.le_total (a := r) (b := q) with h5 | h5
   ·have := h.root (Rat.lt_of_le_of_ne h5 qI) (hr q k1)
    have := h.root g2 (hr r g1)
    have := h.dE k3
    omega
   ·have := h.root (Rat.lt_of_le_of_ne h5 (Ne.symm qI)) (hr r g1)
    have := h.root k2 (hr q k1)
    have := h.dE g3
    omega
end xN
theorem x9 {a b : Int} {l : List Int} (h : Cn (a :: b :: l)) : Cn (b :: l) := by
 unfold Cn at h ⊢
 rw [aM] at h
 split at h
 ·simp at h
 ·simpa using h
theorem vJ {a b : Int} {l : List Int} : lead (a :: b :: l) = lead (b :: l) := by
 unfold lead
 simp only [List.length_cons, Nat.add_sub_cancel]
 rw [iT]
theorem D0 {S t : Rat} (hS : 0 ≤ S) (ht : S + 1 ≤ t) : ∀ {x : List Int}, Cn x → 0 < x.length → (∀ c ∈ x, Ab (c : Rat) S) → (0 < lead x → 1 ≤ qv t x) ∧ (lead x < 0 → qv t x ≤ -1)
 | [a], hc, _, _ => by
  have e1 : qv t [a] = (a : Rat) := by simp only [qv]; grind
  have e2 : lead [a] = a := rfl
  rw [e1, e2]
  refine ⟨fun h => eE h, fun h => ?_⟩
  have : ((a : Int) : Rat) ≤ ((-1 : Int) : Rat) := Rat.intCast_le_intCast.2 (by omega)
  rwa [Rat.intCast_neg, Rat.intCast_one] at this
 | a :: b :: l, hc, _, hb => by
  obtain ⟨h1, h2⟩ := D0 hS ht (x9 hc) (by simp) fun c hc => hb c (List.mem_cons_of_mem _ hc)
  obtain ⟨h3, h4⟩ := hb a (by simp)
  have e1 : qv t (a :: b :: l) = a + t * qv t (b :: l) := rfl
  rw [vJ, e1]
  refine ⟨fun h => ?_, fun h => ?_⟩
  ·have := Rat.mul_le_mul_of_nonneg_left (h1 h) (show 0 ≤ t by grind)
   grind
  ·have := Rat.mul_le_mul_of_nonneg_left (show 1 ≤ -qv t (b :: l) by have := h2 h; grind) (show 0 ≤ t by grind)
   grind
theorem KH {S t : Rat} (hS : 0 ≤ S) (ht : t ≤ -(S + 1)) : ∀ {x : List Int}, Cn x → 0 < x.length → (∀ c ∈ x, Ab (c : Rat) S) → (0 < (if x.length % 2 = 0 then -lead x else lead x) → 1 ≤ qv t x) ∧ ((if x.length % 2 = 0 then -lead x else lead x) < 0 → qv t x ≤ -1)
 | [a], hc, _, _ => by
  have e1 : qv t [a] = (a : Rat) := by simp only [qv]; grind
  have e2 : lead [a] = a := rfl
  rw [e1, e2, if_neg (by simp)]
  refine ⟨fun h => eE h, fun h => ?_⟩
  have : ((a : Int) : Rat) ≤ ((-1 : Int) : Rat) := Rat.intCast_le_intCast.2 (by omega)
  rwa [Rat.intCast_neg, Rat.intCast_one] at this
 | a :: b :: l, hc, _, hb => by
  obtain ⟨h1, h2⟩ := KH hS ht (x9 hc) (by simp) fun c hc => hb c (List.mem_cons_of_mem _ hc)
  obtain ⟨h3, h4⟩ := hb a (by simp)
  have e1 : qv t (a :: b :: l) = a + t * qv t (b :: l) := rfl
  have e2 : (if (a :: b :: l).length % 2 = 0 then -lead (a :: b :: l) else lead (a :: b :: l)) = -(if (b :: l).length % 2 = 0 then -lead (b :: l) else lead (b :: l)) := by
   rw [vJ]
   simp only [List.length_cons]
   split <;> split <;> omega
  rw [e2, e1]
  generalize (if (b :: l).length % 2 = 0 then -lead (b :: l) else lead (b :: l)) = z at *
  refine ⟨fun h => ?_, fun h => ?_⟩
  ·have := Rat.mul_le_mul_of_nonneg_left (show 1 ≤ -qv t (b :: l) by have := h2 (by omega); grind) (show 0 ≤ -t by grind)
   grind
  ·have := Rat.mul_le_mul_of_nonneg_left (h1 (by omega)) (show 0 ≤ -t by grind)
   grind
theorem D1 {S t : Rat} (hS : 0 ≤ S) {x : List Int} (hc : Cn x) (hb : ∀ c ∈ x, Ab (c : Rat) S) : (S + 1 ≤ t → bO (qv t x) = (lead x).sign) ∧ (t ≤ -(S + 1) → bO (qv t x) = if x.length % 2 = 0 then -(lead x).sign else (lead x).sign) := by
 rcases Nat.eq_zero_or_pos x.length with h0 | h0
 ·have : x = [] := List.eq_nil_of_length_eq_zero h0
  subst this
  refine ⟨fun _ => ?_, fun _ => ?_⟩ <;> simp only [qv] <;> decide
 ·have hl := cD hc h0
  refine ⟨fun ht => ?_, fun ht => ?_⟩
  ·obtain ⟨h1, h2⟩ := D0 hS ht hc h0 hb
   rcases Int.lt_trichotomy (lead x) 0 with h | h | h
   ·have := h2 h
    rw [Int.sign_eq_neg_one_of_neg h, fR (by grind)]
   ·exact absurd h hl
   ·have := h1 h
    rw [Int.sign_eq_one_of_pos h, dK (by grind)]
  ·obtain ⟨h1, h2⟩ := KH hS ht hc h0 hb
   rcases Int.lt_trichotomy (lead x) 0 with h | h | h
   ·rw [Int.sign_eq_neg_one_of_neg h]
    split
    ·rw [if_pos (by assumption)] at h1
     have := h1 (by omega)
     rw [dK (by grind)]; rfl
    ·rw [if_neg (by assumption)] at h2
     have := h2 h
     rw [fR (by grind)]
   ·exact absurd h hl
   ·rw [Int.sign_eq_one_of_pos h]
    split
    ·rw [if_pos (by assumption)] at h2
     have := h2 (by omega)
     rw [fR (by grind)]
    ·rw [if_neg (by assumption)] at h1
     have := h1 h
     rw [dK (by grind)]
end Pm
namespace Pm
open ZX hiding N W
theorem kR.mul {x y η θ : Rat} (hη : 0 < η) (hθ : 0 < θ) (h : kR η x) (h' : kR θ y) : kR (η * θ) (x * y) := by
 have key : ∀ {u v : Rat}, η ≤ u → θ ≤ v → η * θ ≤ u * v := fun {u v} h1 h2 => by
  have p1 := Rat.mul_le_mul_of_nonneg_left h2 (Rat.le_of_lt hη)
  have p2 := Rat.mul_le_mul_of_nonneg_right h1 (show 0 ≤ v by grind)
  grind
 rcases h with h | h <;> rcases h' with h' | h'
 ·right; have := key (show η ≤ -x by grind) (show θ ≤ -y by grind); grind
 ·left; have := key (show η ≤ -x by grind) h'; grind
 ·left; have := key h (show θ ≤ -y by grind); grind
 ·right; exact key h h'
def Bg (a b : Rat) (p : ZX) : Prop := ∃ η : Rat, 0 < η ∧ ∀ x, a ≤ x → x ≤ b → kR η (e x p)
theorem Bg.mono {a b c d : Rat} {p : ZX} (h : Bg a b p) (hc : a ≤ c) (hd : d ≤ b) : Bg c d p := by
 obtain ⟨η, h1, h2⟩ := h
 exact ⟨η, h1, fun x hx hy => h2 x (by grind) (by grind)⟩
theorem apK (t : Rat) (n d : Int) : e t (of [n, d]) = n + d * t := by
 rw [aj3]
 simp only [qv]; grind
theorem GG (l : List Int) : ∃ S : Rat, 0 ≤ S ∧ ∀ c ∈ l, Ab (c : Rat) S := by
 induction l with
 | nil => exact ⟨0, Rat.le_refl, fun c hc => by cases hc⟩
 | cons a l ih =>
  obtain ⟨S, hS, h⟩ := ih
  obtain ⟨A, hA, ha, _⟩ := sP a a
  refine ⟨S + A, by grind, fun c hc => ?_⟩
  rcases List.mem_cons.1 hc with rfl | hc
  ·exact ha.mono (by grind)
  ·exact (h c hc).mono (by grind)
theorem eO {a b x B : Rat} (ha : Ab a B) (hb : Ab b B) (hx : a ≤ x) (hy : x ≤ b) : Ab x B := by
 obtain ⟨h1, h2⟩ := ha
 obtain ⟨h3, h4⟩ := hb
 exact ⟨by grind, by grind⟩
theorem Bg.same {a b : Rat} {f : ZX} (h : Bg a b f) {x y : Rat} (hx : a ≤ x) (uQ : x < y) (hy : y ≤ b) : bO (e y f) = bO (e x f) ∧ bO (e x f) ≠ 0 := by
 obtain ⟨η, hη, h2⟩ := h
 obtain ⟨B, hB, ha, hb⟩ := sP a b
 obtain ⟨S, hS, hc⟩ := GG f.l
 obtain ⟨h3, _⟩ := oG hS hB f.l.length
 generalize hQ : B9 S B f.l.length = Q at *
 have hQ1 : 0 < Q + 1 := by grind
 have hδ : η / (Q + 1) * (Q + 1) = η := Rat.div_mul_cancel (Rat.ne_of_gt hQ1)
 have hδ0 : 0 < η / (Q + 1) := (Rat.lt_div_iff hQ1).2 (by grind)
 generalize η / (Q + 1) = δ at *
 refine aj4 (B := B) hδ0 (P := fun x y => a ≤ x → y ≤ b → bO (e y f) = bO (e x f) ∧ bO (e x f) ≠ 0) (fun x y z h1 h2 p1 p2 hx hz => ?_) (fun x y hx hy uQ hd hax hyb => ?_) (eO ha hb hx (by grind)) (eO ha hb (by grind) hy) uQ hx hy
 ·obtain ⟨q1, q2⟩ := p1 hx (by grind)
  obtain ⟨q3, q4⟩ := p2 (by grind) hz
  exact ⟨q3.trans q1, q2⟩
 ·refine eD (h2 x hax (by grind)) hη ?_
  show ¬ kR η (qv y f.l - qv x f.l)
  rw [lP]
  refine xC (Q := Q) (by grind) (hQ ▸ DZ hS hB hx hy f.l hc) ?_
  have := Rat.mul_le_mul_of_nonneg_right hd h3
  grind
theorem xN.bg {L : List ZX} {f : ZX} (h : xN L f) {a b : Rat} (hb : Bg a b f) (fT : a < b) : vt L a = vt L b := by
 refine h.const fT (σ := bO (e a f)) (.inr rfl) fun x hx hy => ?_
 exact (hb.same Rat.le_refl hx hy).1
end Pm
namespace Go.Proofs.YtbbjgncblhfegaaGreat
open Go Pm
abbrev T2 (n d : Int) : PV := .ag [.bool (decide (n < 0)), us (aR LL n.natAbs), .bool (decide (d < 0)), us (aR LL d.natAbs)]
abbrev RT (q : Rat) : PV := T2 q.num q.den
theorem auJ (n d : Int) : ((bG [n, d] : Nat) : Int) = Int.gcd n d := by
 simp only [bG, List.foldl_cons, List.foldl_nil, Nat.gcd_zero_left]
 rfl
theorem aj6 {n d : Int} (h : d ≠ 0) : (cP n d).num = (if d < 0 then -n else n) / (bG [n, d] : Nat) ∧ ((cP n d).den : Int) = (if d < 0 then -d else d) / (bG [n, d] : Nat) := by
 have e : ∀ m k : Int, (m = n ∨ m = -n) → (k = d ∨ k = -d) → ((Int.gcd m k : Nat) : Int) = (bG [n, d] : Nat) := fun m k hm hk => by
  rw [auJ]
  rcases hm with rfl | rfl <;> rcases hk with rfl | rfl <;> simp
 rw [n9 n d h, oA n d h]
 constructor
 ·rw [e _ _ (by split <;> simp) (by split <;> simp)]
 ·rw [e _ _ (by split <;> simp) (by split <;> simp)]
theorem sR {n d : Int} (hn : sz LL n < 1099511627770) (hd : sz LL d < 1099511627770) (h0 : d ≠ 0) : aJ env.P 192 [I n, I d] (RT (cP n d)) := by
 have sn : Sz n := by show _ < _; omega
 have sd : Sz d := by show _ < _; omega
 have g0 := JA [rC n, rC d] 1099511627770 (by decide) (fun c hc => by
  simp only [List.mem_cons, List.not_mem_nil, or_false] at hc
  rcases hc with rfl | rfl
  ·exact ⟨eS fS _, by unfold sz at hn; show (aR LL n.natAbs).length ≤ _; omega⟩
  ·exact ⟨eS fS _, by unfold sz at hd; show (aR LL d.natAbs).length ≤ _; omega⟩) (by simp)
 rw [show [rC n, rC d].map gv = [n, d] by simp [IQ]] at g0
 obtain ⟨q1, q2⟩ := aj6 (n := n) h0
 have gd1 : ((bG [n, d] : Nat) : Int) ∣ n := gD _ n (by simp)
 have gd2 : ((bG [n, d] : Nat) : Int) ∣ d := gD _ d (by simp)
 have gne : ((bG [n, d] : Nat) : Int) ≠ 0 := by
  have := JQ (x := [n, d]) (c := d) (by simp) h0; omega
 have gle : ((bG [n, d] : Nat) : Int).natAbs ≤ d.natAbs := Nat.le_of_dvd (by omega) (Int.natAbs_dvd_natAbs.2 gd2)
 have gsz : sz LL ((bG [n, d] : Nat) : Int) < 1099511627774 := Nat.lt_of_le_of_lt (cC fS gle) (by omega)
 have nn : ∀ v, qR (aR LL v) ↔ qR (aR LL v) := fun _ => Iff.rfl
 have neg : ∀ v : Int, Sz v → aJ env.P 142 [I v] (I (-v)) := fun v hv => by
  have := zK (decide (v < 0)) (aR LL v.natAbs) hv.WD
  rw [show iv (decide (v < 0)) (aR LL v.natAbs) = v from IQ v] at this
  exact this
 generalize hg : ((bG [n, d] : Nat) : Int) = g at *
 have ex : ∀ v : Int, g ∣ v → sz LL v < 1099511627774 → aJ env.P 234 [I v, I g] (.eP [I (v / g), .int .i64 0]) := fun v hv hs => by
  have := FO hs gsz gne
  rw [if_pos (Int.emod_eq_zero_of_dvd hv)] at this
  exact this
 have n1 := neg n sn
 have n2 := neg d sd
 have apL : ∀ v : Int, sz LL (-v) = sz LL v := fun v => by unfold sz; rw [Int.natAbs_neg]
 have e1 := ex (if d < 0 then -n else n) (by split; exact (Int.dvd_neg.2 gd1); exact gd1) (by split; rw [apL]; omega; omega)
 have e2 := ex (if d < 0 then -d else d) (by split; exact (Int.dvd_neg.2 gd2); exact gd2) (by split; rw [apL]; omega; omega)
 rw [← q1] at e1
 rw [← q2] at e2
 have eg : Pg [rC n, rC d] = .sl [[.bool (decide (n < 0)), us (aR LL n.natAbs)], [.bool (decide (d < 0)), us (aR LL d.natAbs)]] := rfl
 rw [eg] at g0
 show aJ env.P _ _ (T2 (cP n d).num (cP n d).den)
 generalize (cP n d).num = rn at *
 generalize ((cP n d).den : Int) = rd at *
 refine aB (E := env) (fun _ => 0) [(0, I n), (1, I d)] Tryz.func192 rfl (by kernel_rfl) (by kernel_rfl) (show 2 ≤ 31 by decide) (by simp) ?_
 refine W.sr ?_; simp (disch := omega) [gw]; refine W.lx [2, 3, 4] ?_; simp
 refine W.sr ?_
 simp (disch := omega) [gw]
 refine aA g0 ?_
 simp (disch := omega) [gw]
 refine W.lx [2, 3, 4, 5] ?_; simp
 generalize wF : (if d < 0 then -n else n) = n' at *
 generalize W8 : (if d < 0 then -d else d) = d' at *
 refine W.fY (fun σ => ∃ (rows : Pm.Rows) (clk : Nat), σ = ⟨fa [(2, .ptr 2 0 0 0), (3, .ptr 3 1 0 0), (4, .ptr 4 2 0 0), (5, .ptr 5 3 0 0)], rows, clk⟩ ∧ rows 2 = some ⟨0, 40, 2, [ie n']⟩ ∧ rows 3 = some ⟨1, 40, 2, [ie d']⟩ ∧ rows 4 = some ⟨2, 42, 4, [[.bool false, .nil, .bool false, .nil]]⟩ ∧ rows 5 = some ⟨3, 40, 2, [ie g]⟩) ?_ ?_
 ·refine W.sr ?_; simp (disch := omega) [gw]; refine W.lx [2, 3, 4, 5, 11] ?_; simp
  refine W.cond ⟨_, rfl, fun h => ?_, fun h => ?_⟩
  ·have h : d < 0 := by simpa using h
   rw [if_pos h] at wF W8
   subst wF W8
   refine W.M4 (fun K hK => ?_)
   simp (disch := omega) [gw]
   refine aA n1 ?_
   simp (disch := omega) [gw]
   refine aA n2 ?_
   simp (disch := omega) [gw]
   (try (refine bS (of_decide_eq_true (by kernel_rfl)) ?_)); (try simp (maxSteps := 4000000) (disch := omega) [gw]); (repeat rw [if_pos (by kernel_rfl)]); (try simp (maxSteps := 4000000) (disch := omega) [gw])
   (try (refine bS (of_decide_eq_true (by kernel_rfl)) ?_)); (try simp (maxSteps := 4000000) (disch := omega) [gw]); (repeat rw [if_pos (by kernel_rfl)]); (try simp (maxSteps := 4000000) (disch := omega) [gw])
   exact hK _ ⟨_, aC _ [2, 3, 4, 5], _, _, rfl, by simp, by simp, by simp, by simp⟩
  ·have h : ¬ d < 0 := by simpa using h
   rw [if_neg h] at wF W8
   subst wF W8
   refine W.skip ?_
   exact ⟨_, aC _ [2, 3, 4, 5], _, _, rfl, by simp, by simp, by simp, by simp⟩
 rintro _ ⟨rows, clk, rfl, cJ, gC, jP, mE⟩
 simp only [ie] at cJ gC mE
 refine W.sr ?_
 simp (disch := omega) [gw, cJ, mE]
 refine aA e1 ?_
 simp (disch := omega) [gw, cJ]
 refine W.lx [2, 3, 4, 5] ?_; simp
 refine W.sr ?_
 simp (disch := omega) [gw, gC, mE]
 refine aA e2 ?_
 simp (disch := omega) [gw, gC]
 refine W.lx [2, 3, 4] ?_; simp
 refine W.sr ?_; simp (disch := omega) [gw, jP]; refine W.lx [4] ?_; simp
 refine W.ret ?_
 simp [go]
theorem D2 (d : Int) : aJ env.P 190 [I d] (.bool (decide (d = 0))) := by
 have := IU (decide (d < 0)) (aR LL d.natAbs)
 rw [show decide ((aR LL d.natAbs).length = 0) = decide (d = 0) from by
  by_cases h : d = 0
  ·subst h; rfl
  ·have : aR LL d.natAbs ≠ [] := fun h2 => h (by have := jO fS d.natAbs; rw [h2] at this; simp [V] at this; omega)
   have h3 := List.length_pos_iff.2 this
   simp [h]; omega] at this
 exact this
theorem OD (n : Int) : cP n 0 = cP n 1 := by rw [j8, cP, if_pos rfl]
theorem qX {n d : Int} (hn : sz LL n < 1099511627770) (hd : sz LL d < 1099511627770) : aJ env.P 164 [T2 n d] (RT (cP n d)) := by
 have sn : Sz n := by show _ < _; omega
 have sd : Sz d := by show _ < _; omega
 have n1 := FG sn
 have n2 := FG sd
 have z1 := D2 d
 have o1 := zM 1 (by decide) (by decide)
 obtain ⟨e, he, hed⟩ : ∃ e, e = (if d = 0 then 1 else d) ∧ cP n e = cP n d := by
  refine ⟨_, rfl, ?_⟩
  split
  ·rename_i h; rw [h, OD]
  ·rfl
 have K8 : sz LL e < 1099511627770 := by
  rw [he]
  split
  ·exact Nat.lt_of_le_of_lt (cO (k := 1) fS (by decide)) (by decide)
  ·exact hd
 have DV : e ≠ 0 := by
  rw [he]
  split
  ·decide
  ·assumption
 have l1 := sR (n := n) (d := e) hn K8 DV
 rw [hed] at l1
 show aJ env.P _ _ (T2 (cP n d).num (cP n d).den)
 replace l1 : aJ env.P 192 [I n, I e] (T2 (cP n d).num (cP n d).den) := l1
 clear hed K8 DV
 generalize (cP n d).num = rn at *
 generalize ((cP n d).den : Int) = rd at *
 refine aB (E := env) (fun _ => 0) [(0, T2 n d)] Tryz.func164 rfl (by kernel_rfl) (by kernel_rfl) (show 1 ≤ 15 by decide) (by simp) ?_
 refine W.sr ?_; simp (disch := omega) [gw]; refine W.lx [1, 2] ?_; simp
 refine W.sr ?_
 simp (disch := omega) [gw]
 refine aA n2 ?_
 simp (disch := omega) [gw]
 refine W.lx [1, 2, 3] ?_; simp
 refine W.fY (fun σ => ∃ (rows : Pm.Rows) (clk : Nat), σ = ⟨fa [(1, .ptr 1 0 0 0), (2, .ptr 2 1 0 0), (3, .ptr 3 2 0 0)], rows, clk⟩ ∧ rows 1 = some ⟨0, 42, 4, [[.bool (decide (n < 0)), us (aR LL n.natAbs), .bool (decide (d < 0)), us (aR LL d.natAbs)]]⟩ ∧ rows 2 = some ⟨1, 42, 4, [[.bool false, .nil, .bool false, .nil]]⟩ ∧ rows 3 = some ⟨2, 40, 2, [[.bool (decide (e < 0)), us (aR LL e.natAbs)]]⟩) ?_ ?_
 ·refine W.sr ?_
  simp (disch := omega) [gw]
  refine aA z1 ?_
  simp (disch := omega) [gw]
  refine W.lx [1, 2, 3, 8] ?_; simp
  refine W.cond ⟨_, rfl, fun h => ?_, fun h => ?_⟩
  ·have h : d = 0 := by simpa using h
   rw [if_pos h] at he
   subst he
   refine W.b8 (fun K hK => ?_)
   simp (disch := omega) [gw]
   refine aA o1 ?_
   simp (disch := omega) [gw]
   exact hK _ ⟨_, aC _ [1, 2, 3], _, _, rfl, by simp, by simp, by simp⟩
  ·have h : ¬ d = 0 := by simpa using h
   rw [if_neg h] at he
   subst he
   refine W.skip ?_
   exact ⟨_, aC _ [1, 2, 3], _, _, rfl, by simp, by simp, by simp⟩
 rintro _ ⟨rows, clk, rfl, B3, cJ, gC⟩
 refine W.sd ?_
 simp (disch := omega) [gw, B3]
 refine aA n1 ?_
 simp (disch := omega) [gw, gC]
 refine aA l1 ?_
 simp (disch := omega) [gw, cJ]
 (try (refine bS (of_decide_eq_true (by kernel_rfl)) ?_)); (try simp (maxSteps := 4000000) (disch := omega) [gw, cJ]); (repeat rw [if_pos (by kernel_rfl)]); (try simp (maxSteps := 4000000) (disch := omega) [gw, cJ])
 refine W.lx [2] ?_; simp
 refine W.ret ?_
 simp [go]
theorem D3 {n d m e : Int} {k : Nat} (hn : sz LL n ≤ k) (hd : sz LL d ≤ k) (hm : sz LL m ≤ k) (he : sz LL e ≤ k) (hk : k ≤ 500000000000) {p q : Rat} (hp : cP n d = p) (hq : cP m e = q) (sp : sz LL p.num ≤ k ∧ sz LL (p.den : Int) ≤ k) (sq : sz LL q.num ≤ k ∧ sz LL (q.den : Int) ≤ k) :
  aJ env.P 182 [T2 n d, T2 m e] (.eP [I (p.num * q.den), I (q.num * p.den), I ((p.den : Int) * q.den)]) := by
 have n1 := qX (n := n) (d := d) (by omega) (by omega)
 have n2 := qX (n := m) (d := e) (by omega) (by omega)
 rw [hp] at n1
 rw [hq] at n2
 have z : ∀ {v : Int}, sz LL v ≤ k → Sz v := fun h => by show _ < _; omega
 have m1 := tM (z sp.1) (z sq.2)
 have m2 := tM (z sq.1) (z sp.2)
 have m3 := tM (z sp.2) (z sq.2)
 replace n1 : aJ env.P 164 [T2 n d] (T2 p.num p.den) := n1
 replace n2 : aJ env.P 164 [T2 m e] (T2 q.num q.den) := n2
 clear sp sq hp hq
 generalize p.num * (q.den : Int) = x1 at *
 generalize q.num * (p.den : Int) = x2 at *
 generalize (p.den : Int) * (q.den : Int) = x3 at *
 generalize p.num = pn at *
 generalize (p.den : Int) = pd at *
 generalize q.num = qn at *
 generalize (q.den : Int) = qd at *
 refine aB (E := env) (fun _ => 0) [(0, T2 n d), (1, T2 m e)] Tryz.func182 rfl (by kernel_rfl) (by kernel_rfl) (show 2 ≤ 26 by decide) (by simp) ?_
 refine W.sr ?_; simp (disch := omega) [gw]; refine W.lx [2, 3, 4, 5, 6] ?_; simp
 refine W.sd ?_
 simp (disch := omega) [gw]
 refine aA n1 ?_
 simp (disch := omega) [gw]
 refine aA n2 ?_
 simp (disch := omega) [gw]
 (try (refine bS (of_decide_eq_true (by kernel_rfl)) ?_)); (try simp (maxSteps := 4000000) (disch := omega) [gw]); (repeat rw [if_pos (by kernel_rfl)]); (try simp (maxSteps := 4000000) (disch := omega) [gw])
 (try (refine bS (of_decide_eq_true (by kernel_rfl)) ?_)); (try simp (maxSteps := 4000000) (disch := omega) [gw]); (repeat rw [if_pos (by kernel_rfl)]); (try simp (maxSteps := 4000000) (disch := omega) [gw])
 refine W.lx [2, 3, 4, 5, 6] ?_; simp
 refine W.sd ?_
 simp (maxSteps := 4000000) (disch := omega) [gw]
 refine aA m1 ?_
 simp (maxSteps := 4000000) (disch := omega) [gw]
 refine aA m2 ?_
 simp (maxSteps := 4000000) (disch := omega) [gw]
 refine aA m3 ?_
 simp (maxSteps := 4000000) (disch := omega) [gw]
 (try (refine bS (of_decide_eq_true (by kernel_rfl)) ?_)); (try simp (maxSteps := 4000000) (disch := omega) [gw]); (repeat rw [if_pos (by kernel_rfl)]); (try simp (maxSteps := 4000000) (disch := omega) [gw])
 (try (refine bS (of_decide_eq_true (by kernel_rfl)) ?_)); (try simp (maxSteps := 4000000) (disch := omega) [gw]); (repeat rw [if_pos (by kernel_rfl)]); (try simp (maxSteps := 4000000) (disch := omega) [gw])
 (try (refine bS (of_decide_eq_true (by kernel_rfl)) ?_)); (try simp (maxSteps := 4000000) (disch := omega) [gw]); (repeat rw [if_pos (by kernel_rfl)]); (try simp (maxSteps := 4000000) (disch := omega) [gw])
 refine W.lx [4, 5, 6] ?_; simp
 refine W.ret ?_
 simp [go]
theorem VC {n d m e : Int} {k : Nat} (hn : sz LL n ≤ k) (hd : sz LL d ≤ k) (hm : sz LL m ≤ k) (he : sz LL e ≤ k) (hk : k ≤ 500000000000) {p q : Rat} (hp : cP n d = p) (hq : cP m e = q) (sp : sz LL p.num ≤ k ∧ sz LL (p.den : Int) ≤ k) (sq : sz LL q.num ≤ k ∧ sz LL (q.den : Int) ≤ k) :
  aJ env.P 105 [T2 n d, T2 m e] (.int .i64 (dN (p.num * q.den) (q.num * p.den))) := by
 have c1 := D3 hn hd hm he hk hp hq sp sq
 have g1 := bU (b := LL) fS sp.1 sq.2
 have g2 := bU (b := LL) fS sq.1 sp.2
 have w1 := ZM (x := p.num * q.den) (y := q.num * p.den) (by show _ < _; omega) (by show _ < _; omega)
 clear sp sq hp hq g1 g2
 generalize dN (p.num * (q.den : Int)) (q.num * (p.den : Int)) = r at *
 generalize p.num * (q.den : Int) = x1 at *
 generalize q.num * (p.den : Int) = x2 at *
 generalize (p.den : Int) * (q.den : Int) = x3 at *
 refine aB (E := env) (fun _ => 0) [(0, T2 n d), (1, T2 m e)] Tryz.func105 rfl (by kernel_rfl) (by kernel_rfl) (show 2 ≤ 18 by decide) (by simp) ?_
 refine W.sr ?_; simp (disch := omega) [gw]; refine W.lx [2, 3] ?_; simp
 refine W.sr ?_
 simp (disch := omega) [gw]
 refine aA c1 ?_
 simp (disch := omega) [gw]
 refine W.lx [5, 6] ?_; simp
 refine W.sr ?_
 simp (disch := omega) [gw]
 refine aA w1 ?_
 simp (disch := omega) [gw]
 refine W.lx [4] ?_; simp
 refine W.ret ?_
 simp [go]
theorem AS {n d : Int} (hn : sz LL n < 1099511627770) (hd : sz LL d < 1099511627770) : aJ env.P 117 [T2 n d, .sl []] (RT (cP n d)) := by
 have n1 := qX hn hd
 show aJ env.P _ _ (T2 (cP n d).num (cP n d).den)
 replace n1 : aJ env.P 164 [T2 n d] (T2 (cP n d).num (cP n d).den) := n1
 generalize (cP n d).num = rn at *
 generalize ((cP n d).den : Int) = rd at *
 refine aB (E := env) (fun _ => 0) [(0, T2 n d), (1, .sl [])] Tryz.func117 rfl (by kernel_rfl) (by kernel_rfl) (show 2 ≤ 24 by decide) (by simp) ?_
 refine W.sr ?_; simp (disch := omega) [gw]; refine W.lx [1, 2, 4] ?_; simp
 refine W.sr ?_
 simp (disch := omega) [gw]
 refine aA n1 ?_
 simp (disch := omega) [gw]
 refine W.lx [1, 4, 5] ?_; simp
 refine W.seq ?_
 refine W.sr ?_; simp (disch := omega) [gw]; refine W.lx [4, 5, 10, 11, 12] ?_; simp
 refine W.block ?_
 refine W.a9 (fun k σ => ∃ (rows : Pm.Rows) (clk : Nat), σ = ⟨fa [(4, .ptr 4 1 0 0), (5, .ptr 5 2 0 0), (11, .int .i64 0), (12, .int .i64 0)], rows, clk⟩ ∧ rows 4 = some ⟨1, 42, 4, [[.bool false, .nil, .bool false, .nil]]⟩ ∧ rows 5 = some ⟨2, 42, 4, [[.bool (decide (rn < 0)), us (aR LL rn.natAbs), .bool (decide (rd < 0)), us (aR LL rd.natAbs)]]⟩) 0 ?_ ?_
 ·exact ⟨_, aC _ [4, 5, 11, 12], _, _, rfl, by simp, by simp⟩
 rintro k _ ⟨rows, clk, rfl, jP, mE⟩
 refine W.sr ?_; simp (disch := omega) [gw]; refine W.lx [4, 5, 11, 12, 13] ?_; simp
 refine W.seq ?_
 refine W.cond ⟨_, rfl, fun h => ?_, fun h => ?_⟩
 ·simp at h
 ·refine W.exit ?_; simp only [pX, if_true, if_false, reduceIte, Nat.reduceEqDiff]
  refine W.sr ?_
  simp (disch := omega) [gw, jP, mE]
  refine W.lx [4] ?_; simp
  refine W.ret ?_
  simp [go]
theorem VD {n d : Int} (hn : sz LL n < 1099511627770) (hd : sz LL d < 1099511627770) : aJ env.P 132 [T2 n d] (RT (cP n d)) := by
 have n1 := AS hn hd
 show aJ env.P _ _ (T2 (cP n d).num (cP n d).den)
 replace n1 : aJ env.P 117 [T2 n d, .sl []] (T2 (cP n d).num (cP n d).den) := n1
 generalize (cP n d).num = rn at *
 generalize ((cP n d).den : Int) = rd at *
 refine aB (E := env) (fun _ => 0) [(0, T2 n d)] Tryz.func132 rfl (by kernel_rfl) (by kernel_rfl) (show 1 ≤ 5 by decide) (by simp) ?_
 refine W.sr ?_; simp (disch := omega) [gw]; refine W.lx [1, 2] ?_; simp
 refine W.sr ?_
 simp (disch := omega) [gw]
 refine aA n1 ?_
 simp (disch := omega) [gw]
 refine W.lx [2] ?_; simp
 refine W.ret ?_
 simp [go]
end Go.Proofs.YtbbjgncblhfegaaGreat
