import Derived.Test.YtbbjgncblhfegaaGreatAal
import Derived.Test.YtbbjgncblhfegaaGreatAam
import Derived.Test.YtbbjgncblhfegaaGreatAan
set_option linter.unusedSimpArgs false
set_option linter.unusedVariables false
namespace Pm
def qv (t : Rat) : List Int → Rat
 | [] => 0
 | a :: l => (a : Rat) + t * qv t l
section
variable {t : Rat}
theorem sM {α : Type} (f g : α → Int) : ∀ l : List α, qv t (l.map fun k => f k + g k) = qv t (l.map f) + qv t (l.map g)
 | [] => by simp only [List.map_nil, qv]; grind
 | x :: l => by simp only [List.map_cons, qv, sM f g l, Rat.intCast_add]; grind
theorem AN {α : Type} (c : Int) (f : α → Int) : ∀ l : List α, qv t (l.map fun k => f k * c) = qv t (l.map f) * c
 | [] => by simp only [List.map_nil, qv]; grind
 | x :: l => by simp only [List.map_cons, qv, AN c f l, Rat.intCast_mul]; grind
theorem mT : ∀ (a : List Int) (n : Nat), qv t (a ++ List.replicate n 0) = qv t a
 | [], 0 => rfl
 | [], n + 1 => by
  have := mT [] n
  simp only [List.nil_append] at this
  simp only [List.nil_append, List.replicate_succ, qv, this, Rat.intCast_zero]; grind
 | x :: a, n => by simp only [List.cons_append, qv, mT a n]
theorem uD : ∀ l : List Int, qv t (aM l) = qv t l
 | [] => rfl
 | x :: l => by
  have ih := uD l
  simp only [aM]
  split
  ·rename_i h
   rw [h.1] at ih
   simp only [qv] at ih ⊢
   rw [← ih, h.2, Rat.intCast_zero]; grind
  ·simp only [qv, ih]
theorem kT {x : List Int} {n : Nat} (h : x.length ≤ n) : qv t ((List.range n).map (nth x)) = qv t x := by
 rw [m9 h, mT]
theorem RH (x y : List Int) : qv t (fZ x y) = qv t x + qv t y := by
 rw [fZ, uD, sM, kT (by omega), kT (by omega)]
theorem aey (x y : List Int) : qv t (dY x y) = qv t x - qv t y := by
 rw [dY, uD]
 have h1 := sM (t := t) (fun k => nth x k - nth y k) (nth y) (List.range (max x.length y.length))
 have h2 : (fun k => nth x k - nth y k + nth y k) = nth x := by funext k; omega
 rw [h2, kT (by omega), kT (by omega)] at h1
 grind
theorem KF : ∀ x y : List Int, qv t (fC x y) = qv t x * qv t y
 | [], y => by simp only [fC, qv]; grind
 | a :: x, y => by
  have := AN (t := t) a id y
  simp only [id_eq, List.map_id_fun] at this
  rw [fC, RH, this]
  simp only [qv, KF x y, Rat.intCast_zero]
  grind
theorem aez (x y : List Int) : qv t (bH x y) = qv t x * qv t y := by rw [bH, uD, KF]
end
namespace ZX
section
variable {t : Rat}
def e (t : Rat) (x : ZX) : Rat := qv t x.l
theorem aaR (x y : ZX) : e t (x + y) = e t x + e t y := RH _ _
theorem jO (x y : ZX) : e t (x * y) = e t x * e t y := aez _ _
theorem apK (x y : ZX) : e t (x - y) = e t x - e t y := aey _ _
theorem aj2 (x : List Int) : e t (of x) = qv t x := uD x
theorem LF (c : Int) : e t (K c) = c := by
 rw [K, aj2]
 simp only [qv]; grind
theorem RJ : e t 1 = 1 := LF 1
end
end ZX
def Ab (x M : Rat) : Prop := -M ≤ x ∧ x ≤ M
def kO (e x : Rat) : Prop := x ≤ -e ∨ e ≤ x
theorem Ab.mono {x M N : Rat} (h : Ab x M) (hMN : M ≤ N) : Ab x N := by
 obtain ⟨h1, h2⟩ := h
 exact ⟨by grind, by grind⟩
theorem Ab.add {x y M N : Rat} (h : Ab x M) (h' : Ab y N) : Ab (x + y) (M + N) := by
 obtain ⟨h1, h2⟩ := h
 obtain ⟨h3, h4⟩ := h'
 exact ⟨by grind, by grind⟩
theorem Ab.mul {x y M N : Rat} (h : Ab x M) (h' : Ab y N) : Ab (x * y) (M * N) := by
 obtain ⟨h1, h2⟩ := h
 obtain ⟨h3, h4⟩ := h'
 have p1 := Rat.mul_nonneg (show 0 ≤ M - x by grind) (show 0 ≤ N - y by grind)
 have p2 := Rat.mul_nonneg (show 0 ≤ M + x by grind) (show 0 ≤ N + y by grind)
 have p3 := Rat.mul_nonneg (show 0 ≤ M - x by grind) (show 0 ≤ N + y by grind)
 have p4 := Rat.mul_nonneg (show 0 ≤ M + x by grind) (show 0 ≤ N - y by grind)
 exact ⟨by grind, by grind⟩
theorem Ab.pos {x M : Rat} (h : Ab x M) : 0 ≤ M := by
 obtain ⟨h1, h2⟩ := h
 grind
theorem kO.mono {x e f : Rat} (h : kO e x) (hf : f ≤ e) : kO f x := by
 rcases h with h | h
 ·left; grind
 ·right; grind
theorem xV {x e : Rat} (h : ¬ kO e x) : -e < x ∧ x < e := by
 constructor
 ·exact Rat.not_le.1 fun h1 => h (.inl h1)
 ·exact Rat.not_le.1 fun h1 => h (.inr h1)
theorem mU {x e : Rat} (h : ¬ kO e x) : Ab x e := by
 obtain ⟨h1, h2⟩ := xV h
 exact ⟨Rat.le_of_lt h1, Rat.le_of_lt h2⟩
def bT (x : Rat) : Int := if x < 0 then -1 else if 0 < x then 1 else 0
theorem fR {x : Rat} (h : x < 0) : bT x = -1 := if_pos h
theorem dJ {x : Rat} (h : 0 < x) : bT x = 1 := by
 rw [bT, if_neg (by grind), if_pos h]
theorem jH : bT 0 = 0 := by decide
theorem cB (x : Rat) : (x < 0 ∧ bT x = -1) ∨ (x = 0 ∧ bT x = 0) ∨ (0 < x ∧ bT x = 1) := by
 by_cases h : x < 0
 ·exact .inl ⟨h, fR h⟩
 ·by_cases h2 : 0 < x
  ·exact .inr (.inr ⟨h2, dJ h2⟩)
  ·have : x = 0 := by grind
   subst this
   exact .inr (.inl ⟨rfl, jH⟩)
theorem mG (x : Rat) : bT x = -1 ∨ bT x = 0 ∨ bT x = 1 := by
 rcases cB x with h | h | h
 ·exact .inl h.2
 ·exact .inr (.inl h.2)
 ·exact .inr (.inr h.2)
theorem N8 {x : Rat} : bT x = -1 ↔ x < 0 := by
 rcases cB x with ⟨h, e⟩ | ⟨h, e⟩ | ⟨h, e⟩ <;> rw [e] <;> constructor <;> intro h2 <;> first | omega | grind
theorem N9 {x : Rat} : bT x = 1 ↔ 0 < x := by
 rcases cB x with ⟨h, e⟩ | ⟨h, e⟩ | ⟨h, e⟩ <;> rw [e] <;> constructor <;> intro h2 <;> first | omega | grind
theorem dH {x : Rat} : bT x = 0 ↔ x = 0 := by
 rcases cB x with ⟨h, e⟩ | ⟨h, e⟩ | ⟨h, e⟩ <;> rw [e] <;> constructor <;> intro h2 <;> first | omega | grind
theorem mH (x y : Rat) : bT (x * y) = bT x * bT y := by
 rcases cB x with ⟨h, e⟩ | ⟨h, e⟩ | ⟨h, e⟩ <;> rcases cB y with ⟨h', e'⟩ | ⟨h', e'⟩ | ⟨h', e'⟩ <;> rw [e, e']
 ·have := Rat.mul_pos (show 0 < -x by grind) (show 0 < -y by grind)
  rw [dJ (by grind)]; rfl
 ·rw [h', Rat.mul_zero]; rfl
 ·have := Rat.mul_pos (show 0 < -x by grind) h'
  rw [fR (by grind)]; rfl
 ·rw [h, Rat.zero_mul]; rfl
 ·rw [h, Rat.zero_mul]; rfl
 ·rw [h, Rat.zero_mul]; rfl
 ·have := Rat.mul_pos h (show 0 < -y by grind)
  rw [fR (by grind)]; rfl
 ·rw [h', Rat.mul_zero]; rfl
 ·rw [dJ (Rat.mul_pos h h')]; rfl
theorem eC {x y e : Rat} (h : kO e x) (he : 0 < e) (uQ : ¬ kO e (y - x)) : bT y = bT x ∧ bT x ≠ 0 := by
 obtain ⟨h1, h2⟩ := xV uQ
 rcases h with h | h
 ·rw [fR (show x < 0 by grind), fR (show y < 0 by grind)]; decide
 ·rw [dJ (show 0 < x by grind), dJ (show 0 < y by grind)]; decide
def dd (s t : Rat) : List Int → Rat
 | [] => 0
 | _ :: l => qv t l + s * dd s t l
def cc (s t : Rat) : List Int → Rat
 | [] => 0
 | _ :: l => dd s t l + s * cc s t l
theorem lN (s t : Rat) : ∀ x : List Int, qv t x - qv s x = (t - s) * dd s t x
 | [] => by simp only [qv, dd]; grind
 | a :: l => by
  have := lN s t l
  simp only [qv, dd]; grind
theorem OA (s t : Rat) : ∀ x : List Int, dd s t x - dd s s x = (t - s) * cc s t x
 | [] => by simp only [dd, cc]; grind
 | a :: l => by
  have := OA s t l
  have := lN s t l
  simp only [dd, cc]; grind
section
variable {S B s t : Rat} (hS : 0 ≤ S) (hB : 1 ≤ B) (hs : Ab s B) (ht : Ab t B)
def B6 (S B : Rat) : Nat → Rat
 | 0 => S
 | k + 1 => B6 S B k * (4 * B)
include hS hB in
theorem oD : ∀ k, 0 ≤ B6 S B k ∧ S ≤ B6 S B k
 | 0 => ⟨hS, Rat.le_refl⟩
 | k + 1 => by
  obtain ⟨h1, h2⟩ := oD k
  have h3 := Rat.mul_le_mul_of_nonneg_left (show (1 : Rat) ≤ 4 * B by grind) h1
  rw [B6]
  exact ⟨by grind, by grind⟩
include hS hB ht in
theorem RK : ∀ x : List Int, (∀ c ∈ x, Ab (c : Rat) S) → Ab (qv t x) (B6 S B x.length)
 | [], _ => by
  show Ab 0 S
  exact ⟨by grind, hS⟩
 | a :: l, h => by
  have h1 := RK l fun c hc => h c (List.mem_cons_of_mem _ hc)
  have h2 := (h a (List.mem_cons_self ..)).add (ht.mul h1)
  obtain ⟨h3, h4⟩ := oD hS hB l.length
  have h5 := Rat.mul_le_mul_of_nonneg_left hB h3
  refine h2.mono ?_
  rw [List.length_cons, B6]
  grind
include hS hB hs ht in
theorem DV : ∀ x : List Int, (∀ c ∈ x, Ab (c : Rat) S) → Ab (dd s t x) (B6 S B x.length)
 | [], _ => by
  show Ab 0 S
  exact ⟨by grind, hS⟩
 | a :: l, h => by
  have h1 := DV l fun c hc => h c (List.mem_cons_of_mem _ hc)
  have h0 := RK hS hB ht l fun c hc => h c (List.mem_cons_of_mem _ hc)
  have h2 := h0.add (hs.mul h1)
  obtain ⟨h3, h4⟩ := oD hS hB l.length
  have h5 := Rat.mul_le_mul_of_nonneg_left hB h3
  refine h2.mono ?_
  rw [List.length_cons, B6]
  grind
include hS hB hs ht in
theorem aaS : ∀ x : List Int, (∀ c ∈ x, Ab (c : Rat) S) → Ab (cc s t x) (B6 S B x.length)
 | [], _ => by
  show Ab 0 S
  exact ⟨by grind, hS⟩
 | a :: l, h => by
  have h1 := aaS l fun c hc => h c (List.mem_cons_of_mem _ hc)
  have h0 := DV hS hB hs ht l fun c hc => h c (List.mem_cons_of_mem _ hc)
  have h2 := h0.add (hs.mul h1)
  obtain ⟨h3, h4⟩ := oD hS hB l.length
  have h5 := Rat.mul_le_mul_of_nonneg_left hB h3
  refine h2.mono ?_
  rw [List.length_cons, B6]
  grind
end
theorem uE (t : Rat) : ∀ (l : List Int) (k : Nat), qv t (ZX.oX (k + 1) l) = qv t (ZX.oX k l) + qv t l
 | [], k => by simp only [ZX.oX, qv]; grind
 | a :: l, k => by
  simp only [ZX.oX, qv]
  rw [uE t l (k + 1)]
  have : ((k + 1 : Nat) : Int) = (k : Int) + 1 := by omega
  rw [this, Rat.intCast_mul, Rat.intCast_mul, Rat.intCast_add, Rat.intCast_one]; grind
theorem w5 (t : Rat) : ∀ l : List Int, qv t (ZX.oX 1 l) = qv t l + t * dd t t l
 | [] => by simp only [ZX.oX, qv, dd]; grind
 | b :: m => by
  rw [ZX.oX]
  simp only [qv, dd]
  rw [uE, w5 t m]
  rw [show ((1 : Nat) : Int) = 1 from rfl, Int.mul_one]
  grind
theorem ag0 (t : Rat) (x : ZX) : (ZX.bK x).e t = dd t t x.l := by
 rw [ZX.bK, ZX.aj2]
 obtain ⟨l, hl⟩ := x
 show qv t (ZX.vC l) = dd t t l
 match l with
 | [] => rfl
 | a :: l => rw [ZX.DN, w5]; rfl
end Pm
namespace Pm
def B7 (p : Int) : List Int → Nat
 | [] => 0
 | s :: l => if s = 0 then B7 p l else (if p ≠ 0 ∧ s ≠ p then 1 else 0) + B7 s l
def cl : List Int → List Int → Prop
 | [], [] => True
 | [x], [y] => x = y ∧ x ≠ 0
 | [_, x], [_, y] => x = y ∧ x ≠ 0
 | x0 :: x1 :: x2 :: x, y0 :: y1 :: y2 :: y => cl (x1 :: x2 :: x) (y1 :: y2 :: y) ∧ ((x1 = y1 ∧ x1 ≠ 0) ∨ (x0 = y0 ∧ x2 = y2 ∧ x0 = -x2 ∧ x2 ≠ 0))
 | _, _ => False
theorem F5 : ∀ (n : Nat) (p : Int) (x y : List Int), x.length ≤ n → p ≠ 0 → (p = -1 ∨ p = 1) → (∀ s ∈ x, s = -1 ∨ s = 0 ∨ s = 1) → (∀ s ∈ y, s = -1 ∨ s = 0 ∨ s = 1) → cl (p :: x) (p :: y) → B7 p x = B7 p y
 | _, p, [], [], _, _, _, _, _, _ => rfl
 | _, p, [x1], [y1], _, _, _, _, _, h => by
  obtain ⟨rfl, h2⟩ := h
  rfl
 | _, p, [], [y1], _, _, _, _, _, h => by simp [cl] at h
 | _, p, [x1], [], _, _, _, _, _, h => by simp [cl] at h
 | _, p, [], _ :: _ :: _, _, _, _, _, _, h => by simp [cl] at h
 | _, p, _ :: _ :: _, [], _, _, _, _, _, h => by simp [cl] at h
 | _, p, [_], _ :: _ :: _, _, _, _, _, _, h => by simp [cl] at h
 | _, p, _ :: _ :: _, [_], _, _, _, _, _, h => by simp [cl] at h
 | 0, p, x1 :: x2 :: x, y1 :: y2 :: y, hn, _, _, _, _, _ => by simp at hn
 | n + 1, p, x1 :: x2 :: x, y1 :: y2 :: y, hn, hp, hp1, hx, hy, h => by
  obtain ⟨h1, h2⟩ := h
  rcases h2 with ⟨rfl, h2⟩ | ⟨_, rfl, h3, h4⟩
  ·have ih := F5 n x1 (x2 :: x) (y2 :: y) (by simp at hn ⊢; omega) h2 (by have := hx x1 (by simp); omega) (fun s hs => hx s (List.mem_cons_of_mem _ hs)) (fun s hs => hy s (List.mem_cons_of_mem _ hs)) h1
   simp only [B7] at ih ⊢
   rw [if_neg h2, if_neg h2, ih]
  ·have ht : B7 x2 x = B7 x2 y := by
    refine F5 n x2 x y (by simp at hn ⊢; omega) h4 (by have := hx x2 (by simp); omega) (fun s hs => hx s (by simp [hs])) (fun s hs => hy s (by simp [hs])) ?_
    match x, y, h1 with
    | [], [], _ => exact ⟨rfl, h4⟩
    | [], _ :: _, h1 => simp [cl] at h1
    | _ :: _, [], h1 => simp [cl] at h1
    | _ :: _, _ :: _, h1 => exact h1.1
   have key : ∀ z : Int, (z = -1 ∨ z = 0 ∨ z = 1) → ∀ w : List Int, B7 p (z :: x2 :: w) = 1 + B7 x2 w := fun z hz w => by
    simp only [B7]
    rcases hz with rfl | rfl | rfl
    ·rw [if_neg (by decide), if_neg h4]
     rcases hp1 with rfl | rfl
     ·rw [if_neg (by omega), if_pos (by omega)]; omega
     ·rw [if_pos (by omega), if_neg (by omega)]; omega
    ·rw [if_pos rfl, if_neg h4, if_pos (by omega)]
    ·rw [if_neg (by decide), if_neg h4]
     rcases hp1 with rfl | rfl
     ·rw [if_pos (by omega), if_neg (by omega)]; omega
     ·rw [if_neg (by omega), if_pos (by omega)]; omega
   rw [key x1 (hx x1 (by simp)), key y1 (hy y1 (by simp)), ht]
open ZX
def RL (ε t : Rat) : List ZX → Prop
 | [] => False
 | [a] => kO ε (e t a)
 | [_, b] => kO ε (e t b)
 | a :: b :: c :: l => RL ε t (b :: c :: l) ∧ (kO ε (e t b) ∨ (kO ε (e t a) ∧ kO ε (e t c) ∧ bT (e t a) = -bT (e t c)))
theorem RL.mono {ε δ t : Rat} (h : δ ≤ ε) : ∀ {l : List ZX}, RL ε t l → RL δ t l
 | [], g => g
 | [a], g => kO.mono g h
 | [a, b], g => kO.mono (x := e t b) g h
 | a :: b :: c :: l, g => ⟨RL.mono h g.1, by
  rcases g.2 with g | ⟨g1, g2, g3⟩
  ·exact .inl (g.mono h)
  ·exact .inr ⟨g1.mono h, g2.mono h, g3⟩⟩
theorem RL.two {ε t : Rat} {a b : ZX} : ∀ {l : List ZX}, RL ε t (a :: b :: l) → kO ε (e t a) ∨ kO ε (e t b)
 | [], g => .inr g
 | c :: l, g => by
  rcases g.2 with g | ⟨g1, g2, g3⟩
  ·exact .inr g
  ·exact .inl g1
def B8 (t : Rat) (l : List ZX) : List Int := l.map fun p => bT (e t p)
theorem xW {t : Rat} {l : List ZX} : ∀ s ∈ B8 t l, s = -1 ∨ s = 0 ∨ s = 1 := fun s hs => by
 simp only [B8, List.mem_map] at hs
 obtain ⟨p, _, rfl⟩ := hs
 exact mG _
theorem aaT {ε s t : Rat} (hε : 0 < ε) : ∀ {l : List ZX}, RL ε s l → (∀ p ∈ l, ¬ kO ε (e t p - e s p)) → cl (B8 s l) (B8 t l)
 | [], g, _ => g.elim
 | [a], g, h => by
  obtain ⟨h1, h2⟩ := eC g hε (h a (by simp))
  exact ⟨h1.symm, h2⟩
 | [a, b], g, h => by
  obtain ⟨h1, h2⟩ := eC (x := e s b) g hε (h b (by simp))
  exact ⟨h1.symm, h2⟩
 | a :: b :: c :: l, g, h => by
  refine ⟨aaT hε g.1 fun p hp => h p (List.mem_cons_of_mem _ hp), ?_⟩
  rcases g.2 with g | ⟨g1, g2, g3⟩
  ·obtain ⟨h1, h2⟩ := eC g hε (h b (by simp))
   exact .inl ⟨h1.symm, h2⟩
  ·obtain ⟨h1, h2⟩ := eC g1 hε (h a (by simp))
   obtain ⟨h3, h4⟩ := eC g2 hε (h c (by simp))
   exact .inr ⟨h1.symm, h3.symm, g3, h4⟩
def vt (l : List ZX) (t : Rat) : Nat := B7 0 (B8 t l)
def ind (a : ZX) (s t : Rat) : Nat := if e s a ≠ 0 ∧ bT (e t a) ≠ bT (e s a) then 1 else 0
theorem aeA {ε s t : Rat} (hε : 0 < ε) {a : ZX} {l : List ZX} (g : RL ε s (a :: l)) (h : ∀ p ∈ a :: l, ¬ kO ε (e t p - e s p))
  (hm : ∀ b k, l = b :: k → kO ε (e s b) → bT (e t a - e s a) = bT (e s b)) : vt (a :: l) s = vt (a :: l) t + ind a s t := by
 have hc := aaT hε g h
 have hA : kO ε (e s a) → vt (a :: l) s = vt (a :: l) t + ind a s t := fun ha => by
  obtain ⟨h1, h2⟩ := eC ha hε (h a (by simp))
  have h3 : ind a s t = 0 := if_neg fun h => h.2 h1
  rw [h3]
  have hc' : cl (bT (e s a) :: B8 s l) (bT (e s a) :: B8 t l) := by
   have : B8 t (a :: l) = bT (e s a) :: B8 t l := by rw [← h1]; rfl
   rw [this] at hc
   exact hc
  have h4 := F5 _ _ _ _ (Nat.le_refl _) h2 (by have := mG (e s a); omega) xW xW hc'
  show B7 0 (bT (e s a) :: B8 s l) = B7 0 (bT (e t a) :: B8 t l) + 0
  rw [h1]
  simp only [B7]
  rw [if_neg h2, if_neg h2, h4]; omega
 match l, g, h, hc, hm, hA with
 | [], g, h, hc, hm, hA => exact hA g
 | b :: l, g, h, hc, hm, hA =>
  rcases g.two with ha | hb
  ·exact hA ha
  ·obtain ⟨h1, h2⟩ := eC hb hε (h b (by simp))
   have h3 := hm b l rfl hb
   have hc' : cl (bT (e s b) :: B8 s l) (bT (e s b) :: B8 t l) := by
    match l, hc with
    | [], hc => exact ⟨rfl, h2⟩
    | c :: l, hc =>
     have h8 : cl (bT (e s b) :: B8 s (c :: l)) (bT (e t b) :: B8 t (c :: l)) := hc.1
     rw [h1] at h8
     exact h8
   have h4 := F5 _ _ _ _ (Nat.le_refl _) h2 (by have := mG (e s b); omega) xW xW hc'
   show B7 0 (bT (e s a) :: bT (e s b) :: B8 s l) = B7 0 (bT (e t a) :: bT (e t b) :: B8 t l) + ind a s t
   rw [h1]
   simp only [B7]
   rw [if_neg h2, if_neg h2, h4]
   have hi : ind a s t = if bT (e s a) ≠ 0 ∧ bT (e t a) ≠ bT (e s a) then 1 else 0 := by
    unfold ind
    by_cases h6 : e s a = 0
    ·rw [if_neg (fun h7 => h7.1 h6), if_neg (fun h7 => h7.1 (dH.2 h6))]
    ·have h7 : bT (e s a) ≠ 0 := fun h8 => h6 (dH.1 h8)
     simp only [ne_eq, h6, h7, not_false_eq_true, true_and]
   rw [hi]
   have hd : (bT (e s b) = -1 → bT (e t a) ≤ bT (e s a) ∧ (bT (e t a) = bT (e s a) → bT (e s a) ≠ 0)) ∧ (bT (e s b) = 1 → bT (e s a) ≤ bT (e t a) ∧ (bT (e t a) = bT (e s a) → bT (e s a) ≠ 0)) := by
    refine ⟨fun h6 => ?_, fun h6 => ?_⟩
    ·have h5 := N8.1 (h3.trans h6)
     rcases cB (e s a) with ⟨q1, r1⟩ | ⟨q1, r1⟩ | ⟨q1, r1⟩ <;> rcases cB (e t a) with ⟨q2, r2⟩ | ⟨q2, r2⟩ | ⟨q2, r2⟩ <;> rw [r1, r2] <;> first | decide | (exfalso; grind)
    ·have h5 := N9.1 (h3.trans h6)
     rcases cB (e s a) with ⟨q1, r1⟩ | ⟨q1, r1⟩ | ⟨q1, r1⟩ <;> rcases cB (e t a) with ⟨q2, r2⟩ | ⟨q2, r2⟩ | ⟨q2, r2⟩ <;> rw [r1, r2] <;> first | decide | (exfalso; grind)
   have m1 := mG (e s a)
   have m2 := mG (e t a)
   have m3 := mG (e s b)
   generalize bT (e s a) = σ at *
   generalize bT (e t a) = τ at *
   generalize bT (e s b) = γ at *
   generalize B7 γ (B8 t l) = T at *
   obtain ⟨d1, d2⟩ := hd
   clear hc hc' h1 h3 hm hA h g hb hi
   rcases m3 with rfl | rfl | rfl
   ·obtain ⟨d3, d4⟩ := d1 rfl
    rcases m1 with rfl | rfl | rfl <;> rcases m2 with rfl | rfl | rfl <;> first | (exfalso; omega) | (simp; try omega)
   ·exact absurd rfl h2
   ·obtain ⟨d3, d4⟩ := d2 rfl
    rcases m1 with rfl | rfl | rfl <;> rcases m2 with rfl | rfl | rfl <;> first | (exfalso; omega) | (simp; try omega)
end Pm
namespace Pm
open ZX hiding N W
def StC (M B : Rat) : List ZX → Prop
 | [] => False
 | [a] => ∃ c : Int, c ≠ 0 ∧ a = K c
 | [_, b] => ∃ c : Int, c ≠ 0 ∧ b = K c
 | a :: b :: c :: l => StC M B (b :: c :: l) ∧ ∃ (m k : Int) (q : ZX), 0 < m ∧ 0 < k ∧ K m * a = q * b - K k * c ∧ 2 * (m : Rat) ≤ M ∧ ∀ t, Ab t B → Ab (2 * e t q) M
def xH (M : Rat) : Nat → Rat
 | 0 => 1
 | k + 1 => xH M k / M
theorem F6 {M : Rat} (hM : 2 ≤ M) (k : Nat) : M * xH M (k + 1) = xH M k := by
 rw [xH, Rat.mul_comm, Rat.div_mul_cancel (by grind)]
theorem uF {M : Rat} (hM : 2 ≤ M) : ∀ k, 0 < xH M k
 | 0 => by show (0 : Rat) < 1; decide
 | k + 1 => by
  have h1 := uF hM k
  have h2 := F6 hM k
  refine Rat.not_le.1 fun h => ?_
  have h3 := Rat.mul_nonneg (show 0 ≤ M by grind) (show 0 ≤ -xH M (k + 1) by grind)
  grind
theorem F7 {M : Rat} (hM : 2 ≤ M) (k : Nat) : xH M (k + 1) ≤ xH M k := by
 have h1 := uF hM (k + 1)
 have h2 := F6 hM k
 have h3 := Rat.mul_le_mul_of_nonneg_right (show 1 ≤ M by grind) (Rat.le_of_lt h1)
 grind
theorem sN {M : Rat} (hM : 2 ≤ M) : ∀ k, xH M k ≤ 1
 | 0 => Rat.le_refl
 | k + 1 => Rat.le_trans (F7 hM k) (sN hM k)
theorem F8 {c : Int} (h : c ≠ 0) : kO 1 (c : Rat) := by
 rcases Int.lt_trichotomy c 0 with h1 | h1 | h1
 ·left
  have : ((c : Int) : Rat) ≤ ((-1 : Int) : Rat) := Rat.intCast_le_intCast.2 (by omega)
  rw [Rat.intCast_neg, Rat.intCast_one] at this
  exact this
 ·exact absurd h1 h
 ·right
  have : ((1 : Int) : Rat) ≤ ((c : Int) : Rat) := Rat.intCast_le_intCast.2 (by omega)
  rw [Rat.intCast_one] at this
  exact this
theorem eD {c : Int} (h : 0 < c) : (1 : Rat) ≤ (c : Rat) := by
 have : ((1 : Int) : Rat) ≤ ((c : Int) : Rat) := Rat.intCast_le_intCast.2 (by omega)
 rwa [Rat.intCast_one] at this
theorem aaU {M ε ε' x y z q m k : Rat} (hM : 2 ≤ M) (he : M * ε' = ε) (hp : 0 < ε') (hm : 1 ≤ m) (hk : 1 ≤ k) (hmM : 2 * m ≤ M) (hq : Ab (2 * q) M) (e : m * x = q * y - k * z) (hy : ¬ kO ε' y) (hz : kO ε z) : kO ε' x ∧ bT x = -bT z := by
 have h1 := hq.mul (mU hy)
 rw [he] at h1
 obtain ⟨h2, h3⟩ := h1
 have hε : 0 < ε := by rw [← he]; exact Rat.mul_pos (by grind) hp
 have h6 := Rat.mul_le_mul_of_nonneg_right hmM (Rat.le_of_lt hp)
 rcases hz with hz | hz
 ·have h4 := Rat.mul_le_mul_of_nonneg_right hk (show 0 ≤ -z by grind)
  have h5 : ε ≤ 2 * (m * x) := by grind
  have h7 : ε' ≤ x := Rat.not_lt.1 fun h => by
   have := Rat.mul_lt_mul_of_pos_left h (show 0 < m by grind)
   grind
  refine ⟨.inr h7, ?_⟩
  rw [fR (x := z) (by grind), dJ (x := x) (by grind)]; rfl
 ·have h4 := Rat.mul_le_mul_of_nonneg_right hk (show 0 ≤ z by grind)
  have h5 : 2 * (m * x) ≤ -ε := by grind
  have h7 : x ≤ -ε' := Rat.not_lt.1 fun h => by
   have := Rat.mul_lt_mul_of_pos_left h (show 0 < m by grind)
   grind
  refine ⟨.inl h7, ?_⟩
  rw [dJ (x := z) (by grind), fR (x := x) (by grind)]
theorem StC.RL {M B t : Rat} (hM : 2 ≤ M) (ht : Ab t B) : ∀ {l : List ZX}, StC M B l → RL (xH M l.length) t l
 | [], h => h
 | [a], h => by
  obtain ⟨c, hc, rfl⟩ := h
  show kO _ (e t (K c))
  rw [LF]
  exact (F8 hc).mono (sN hM _)
 | [a, b], h => by
  obtain ⟨c, hc, rfl⟩ := h
  show kO _ (e t (K c))
  rw [LF]
  exact (F8 hc).mono (sN hM _)
 | a :: b :: c :: l, h => by
  obtain ⟨h1, m, k, q, hm, hk, he, hmM, hq⟩ := h
  have ih := StC.RL hM ht h1
  refine ⟨ih.mono (F7 hM _), ?_⟩
  by_cases hb : kO (xH M (a :: b :: c :: l).length) (e t b)
  ·exact .inl hb
  ·have hc : kO (xH M (b :: c :: l).length) (e t c) := by
    rcases ih.two with h2 | h2
    ·exact absurd (h2.mono (F7 hM _)) hb
    ·exact h2
   have DQ : (m : Rat) * e t a = e t q * e t b - k * e t c := by
    rw [← LF (t := t) m, ← jO, he, apK, jO, jO, LF]
   obtain ⟨g1, g2⟩ := aaU hM (F6 hM _) (uF hM _) (eD hm) (eD hk) hmM (hq t ht) DQ hb hc
   exact .inr ⟨g1, hc.mono (F7 hM _), g2⟩
structure Lcl (L : List ZX) (f : ZX) (B δ : Rat) : Prop where
 turns : ∀ s t, Ab s B → Ab t B → s < t → t - s ≤ δ → vt L s = vt L t + ind f s t
 simple : ∀ s t, Ab s B → Ab t B → s < t → t - s ≤ δ → e s f = 0 → e t f ≠ 0
theorem w6 {h x Q ε : Rat} (hh : 0 ≤ h) (hx : Ab x Q) (hQ : h * Q < ε) : ¬ kO ε (h * x) := fun hb => by
 obtain ⟨h1, h2⟩ := (Ab.mul (x := h) (M := h) ⟨by grind, Rat.le_refl⟩ hx)
 rcases hb with hb | hb <;> grind
theorem U5 {h x Q ε c y d1 d2 : Rat} (hh : 0 < h) (hε : 0 < ε) (hc : 1 ≤ c) (hx : Ab x Q) (hQ : h * Q < ε) (hy : kO ε y) (e1 : d1 = c * y) (e2 : d2 - d1 = h * x) : bT (h * d2) = bT y := by
 obtain ⟨h1, h2⟩ := (Ab.mul (x := h) (M := h) ⟨by grind, Rat.le_refl⟩ hx)
 have hs : bT (h * d2) = bT d2 := by rw [mH, dJ hh]; omega
 rw [hs]
 rcases hy with hy | hy
 ·have := Rat.mul_le_mul_of_nonneg_right hc (show 0 ≤ -y by grind)
  rw [fR (show y < 0 by grind), fR (show d2 < 0 by grind)]
 ·have := Rat.mul_le_mul_of_nonneg_right hc (show 0 ≤ y by grind)
  rw [dJ (show 0 < y by grind), dJ (show 0 < d2 by grind)]
theorem StC.loc {M B S Q δ : Rat} {f : ZX} {l : List ZX} (hM : 2 ≤ M) (hB : 1 ≤ B) (hS : 0 ≤ S) (h : StC M B (f :: l)) (hb : ∀ p ∈ f :: l, (∀ c ∈ p.l, Ab (c : Rat) S) ∧ B6 S B p.l.length ≤ Q) (hd : ∀ g k, l = g :: k → ∃ c : Int, 0 < c ∧ bK f = K c * g)
  (hδ : δ * Q < xH M (f :: l).length) : Lcl (f :: l) f B δ := by
 have hQ0 : 0 ≤ Q := by
  obtain ⟨h1, h2⟩ := hb f (by simp)
  obtain ⟨h3, h4⟩ := oD hS hB f.l.length
  grind
 have hε := uF hM (f :: l).length
 have rB : ∀ s t : Rat, s < t → t - s ≤ δ → (t - s) * Q < xH M (f :: l).length := fun s t lR hd => by
  have := Rat.mul_le_mul_of_nonneg_right hd hQ0
  grind
 have key : ∀ s t, Ab s B → Ab t B → s < t → t - s ≤ δ → (∀ p ∈ f :: l, ¬ kO (xH M (f :: l).length) (e t p - e s p)) ∧ ∀ b k, l = b :: k → kO (xH M (f :: l).length) (e s b) → bT (e t f - e s f) = bT (e s b) := fun s t hs ht lR hsd => by
  refine ⟨fun p hp => ?_, fun b k hbk OB => ?_⟩
  ·obtain ⟨h1, h2⟩ := hb p hp
   show ¬ kO _ (qv t p.l - qv s p.l)
   rw [lN]
   exact w6 (by grind) ((DV hS hB hs ht p.l h1).mono h2) (rB s t lR hsd)
  ·obtain ⟨c, hc, he⟩ := hd b k hbk
   obtain ⟨h1, h2⟩ := hb f (by simp)
   show bT (qv t f.l - qv s f.l) = _
   rw [lN]
   exact U5 (d1 := dd s s f.l) (by grind) hε (eD hc) ((aaS hS hB hs ht f.l h1).mono h2) (rB s t lR hsd) OB (by rw [← ag0, he, jO, LF]) (OA s t f.l)
 refine ⟨fun s t hs ht lR hsd => ?_, fun s t hs ht lR hsd h0 => ?_⟩
 ·obtain ⟨k1, k2⟩ := key s t hs ht lR hsd
  exact aeA hε (h.RL hM hs) k1 k2
 ·obtain ⟨k1, k2⟩ := key s t hs ht lR hsd
  have g := h.RL hM hs
  have nb : ¬ kO (xH M (f :: l).length) (e s f) := by
   rw [h0]
   rintro (h1 | h1) <;> grind
  match l, g, k2 with
  | [], g, _ => exact absurd g nb
  | b :: k, g, k2 =>
   have OB := g.two.resolve_left nb
   have h2 := k2 b k rfl OB
   intro h3
   rw [h0, h3, show (0 : Rat) - 0 = 0 by grind, jH] at h2
   have h4 := dH.1 h2.symm
   rw [h4] at OB
   rcases OB with h1 | h1 <;> grind
theorem aj3 {B δ : Rat} (hδ : 0 < δ) {P : Rat → Rat → Prop} (ht : ∀ a b c, a < b → b < c → P a b → P b c → P a c) (hs : ∀ a b, Ab a B → Ab b B → a < b → b - a ≤ δ → P a b) {a b : Rat} (ha : Ab a B) (hb : Ab b B) (gE : a < b) : P a b := by
 have key : ∀ (n : Nat) (a b : Rat), Ab a B → Ab b B → a < b → b - a ≤ (n : Rat) * δ → P a b := by
  intro n
  induction n with
  | zero => intro a b _ _ h1 h2; exfalso; rw [show ((0 : Nat) : Rat) = 0 from rfl] at h2; grind
  | succ n ih =>
   intro a b ha hb h1 h2
   by_cases h3 : b - a ≤ δ
   ·exact hs a b ha hb h1 h3
   ·have h3 := Rat.not_le.1 h3
    obtain ⟨a1, a2⟩ := ha
    obtain ⟨b1, b2⟩ := hb
    have hm : Ab (a + δ) B := ⟨by grind, by grind⟩
    refine ht a (a + δ) b (by grind) (by grind) (hs _ _ ⟨a1, a2⟩ hm (by grind) (by grind)) (ih _ _ hm ⟨b1, b2⟩ (by grind) ?_)
    rw [show ((n + 1 : Nat) : Rat) = (n : Rat) + 1 from by rw [Rat.natCast_add]; rfl] at h2
    grind
 have h1 := Rat.lt_floor_add_one ((b - a) / δ)
 have h2 : 0 ≤ ((b - a) / δ).floor := Rat.le_floor_iff.2 (by
  have := (Rat.lt_div_iff (a := 0) (b := b - a) hδ).2 (by grind)
  show ((0 : Int) : Rat) ≤ _
  rw [Rat.intCast_zero]; exact Rat.le_of_lt this)
 refine key ((((b - a) / δ).floor + 1).toNat) a b ha hb gE ?_
 have h3 : (((((b - a) / δ).floor + 1).toNat : Nat) : Rat) = ((((b - a) / δ).floor + 1 : Int) : Rat) := by
  rw [← Rat.intCast_natCast, Int.toNat_of_nonneg (by omega)]
 rw [h3]
 have h4 := (Rat.div_lt_iff hδ).1 h1
 exact Rat.le_of_lt h4
structure xI (L : List ZX) (f : ZX) : Prop where
 loc : ∀ B : Rat, 1 ≤ B → ∃ δ, 0 < δ ∧ Lcl L f B δ
theorem sO (a b : Rat) : ∃ B : Rat, 1 ≤ B ∧ Ab a B ∧ Ab b B := by
 have h1 : ∀ x : Rat, ∃ B : Rat, 1 ≤ B ∧ Ab x B := fun x => by
  by_cases h : 0 ≤ x
  ·exact ⟨x + 1, by grind, by grind, by grind⟩
  ·exact ⟨-x + 1, by grind, by grind, by grind⟩
 obtain ⟨A, hA, ha⟩ := h1 a
 obtain ⟨B, hB, hb⟩ := h1 b
 exact ⟨A + B, by grind, ha.mono (by grind), hb.mono (by grind)⟩
namespace xI
variable {L : List ZX} {f : ZX} (h : xI L f)
include h
theorem aaV {P : Rat → Rat → Prop} (ht : ∀ a b c, a < b → b < c → P a b → P b c → P a c) (hs : ∀ B δ, Lcl L f B δ → ∀ a b, Ab a B → Ab b B → a < b → b - a ≤ δ → P a b) {a b : Rat} (gE : a < b) : P a b := by
 obtain ⟨B, hB, ha, hb⟩ := sO a b
 obtain ⟨δ, hδ, hl⟩ := h.loc B hB
 exact aj3 hδ ht (hs B δ hl) ha hb gE
theorem dP {a b : Rat} (gE : a ≤ b) : vt L b ≤ vt L a := by
 rcases Rat.le_iff_lt_or_eq.1 gE with h1 | rfl
 ·refine h.aaV (P := fun a b => vt L b ≤ vt L a) (fun a b c _ _ h1 h2 => Nat.le_trans h2 h1) (fun B δ hl a b ha hb gE hd => ?_) h1
  rw [hl.turns a b ha hb gE hd]; omega
 ·exact Nat.le_refl _
theorem flat {a b : Rat} (gE : a < b) (he : vt L a = vt L b) : e b f ≠ 0 ∧ (e a f ≠ 0 → bT (e b f) = bT (e a f)) := by
 refine h.aaV (P := fun a b => vt L a = vt L b → e b f ≠ 0 ∧ (e a f ≠ 0 → bT (e b f) = bT (e a f))) (fun a b c h1 h2 p1 p2 hac => ?_) (fun B δ hl a b ha hb gE hd heq => ?_) gE he
 ·have := h.dP (Rat.le_of_lt h1)
  have := h.dP (Rat.le_of_lt h2)
  obtain ⟨q1, q2⟩ := p1 (by omega)
  obtain ⟨q3, q4⟩ := p2 (by omega)
  exact ⟨q3, fun ha => by rw [q4 q1, q2 ha]⟩
 ·have h1 := hl.turns a b ha hb gE hd
  have h2 : ind f a b = 0 := by omega
  unfold ind at h2
  by_cases h0 : e a f = 0
  ·exact ⟨hl.simple a b ha hb gE hd h0, fun h3 => absurd h0 h3⟩
  ·have h3 : bT (e b f) = bT (e a f) := Classical.byContradiction fun h3 => by rw [if_pos ⟨h0, h3⟩] at h2; omega
   refine ⟨fun h4 => h0 (dH.1 ?_), fun _ => h3⟩
   rw [← h3, h4, jH]
theorem const {a b : Rat} (gE : a < b) {σ : Int} (h0 : e a f = 0 ∨ bT (e a f) = σ) (h1 : ∀ x, a < x → x ≤ b → bT (e x f) = σ) : vt L a = vt L b := by
 refine h.aaV (P := fun x y => a ≤ x → y ≤ b → vt L x = vt L y) (fun x y z uQ hyz p1 p2 hax hzb => (p1 hax (by grind)).trans (p2 (by grind) hzb)) (fun B δ hl x y hx hy uQ hd hax hyb => ?_) gE Rat.le_refl Rat.le_refl
 rw [hl.turns x y hx hy uQ hd]
 have h2 : ind f x y = 0 := if_neg fun h3 => by
  obtain ⟨h4, h5⟩ := h3
  rw [h1 y (by grind) hyb] at h5
  rcases Rat.le_iff_lt_or_eq.1 hax with h6 | rfl
  ·exact h5 (h1 x h6 (by grind)).symm
  ·rcases h0 with h0 | h0
   ·exact h4 h0
   ·exact h5 h0.symm
 omega
theorem root {s t : Rat} (lR : s < t) (h0 : e t f = 0) : vt L t < vt L s := by
 have h1 := h.dP (Rat.le_of_lt lR)
 refine Nat.lt_of_le_of_ne h1 fun h2 => ?_
 exact (h.flat lR h2.symm).1 h0
theorem count {roots : List Rat} (hn : roots.Nodup) (hr : ∀ r ∈ roots, e r f = 0) (hc : ∀ a b, a < b → (∀ r ∈ roots, a < r → b < r) → vt L a = vt L b) {a b : Rat} (gE : a < b) : vt L a = vt L b + (roots.countP fun r => decide (a < r ∧ r ≤ b)) := by
 refine h.aaV (P := fun a b => vt L a = vt L b + (roots.countP fun r => decide (a < r ∧ r ≤ b))) (fun a b c h1 h2 p1 p2 => ?_) (fun B δ hl a b ha hb gE hd => ?_) gE
 ·rw [p1, p2]
  have : ∀ l : List Rat, (l.countP fun r => decide (a < r ∧ r ≤ c)) = (l.countP fun r => decide (a < r ∧ r ≤ b)) + (l.countP fun r => decide (b < r ∧ r ≤ c)) := fun l => by
   induction l with
   | nil => rfl
   | cons x l ih =>
    rw [List.countP_cons, List.countP_cons, List.countP_cons, ih]
    by_cases q1 : a < x ∧ x ≤ b
    ·have q2 : ¬ (b < x ∧ x ≤ c) := fun q => by grind
     have q3 : a < x ∧ x ≤ c := ⟨q1.1, by grind⟩
     rw [if_pos (decide_eq_true q3), if_pos (decide_eq_true q1), if_neg (fun h => q2 (of_decide_eq_true h))]; omega
    ·by_cases q2 : b < x ∧ x ≤ c
     ·have q3 : a < x ∧ x ≤ c := ⟨by grind, q2.2⟩
      rw [if_pos (decide_eq_true q3), if_neg (fun h => q1 (of_decide_eq_true h)), if_pos (decide_eq_true q2)]; omega
     ·have q3 : ¬ (a < x ∧ x ≤ c) := fun q => by
       by_cases q4 : x ≤ b
       ·exact q1 ⟨q.1, q4⟩
       ·exact q2 ⟨Rat.not_le.1 q4, q.2⟩
      rw [if_neg (fun h => q3 (of_decide_eq_true h)), if_neg (fun h => q1 (of_decide_eq_true h)), if_neg (fun h => q2 (of_decide_eq_true h))]; omega
  rw [this roots]; omega
 ·have h1 := hl.turns a b ha hb gE hd
  have h2 : ind f a b ≤ 1 := by unfold ind; split <;> omega
  have hm : ∀ r, r ∈ roots.filter (fun r => decide (a < r ∧ r ≤ b)) ↔ r ∈ roots ∧ a < r ∧ r ≤ b := fun r => by simp [List.mem_filter]
  have HM : (roots.filter (fun r => decide (a < r ∧ r ≤ b))).Nodup := hn.filter _
  rw [List.countP_eq_length_filter]
  match hF : roots.filter (fun r => decide (a < r ∧ r ≤ b)), hm, HM with
  | [], hm, _ =>
   rw [List.length_nil, Nat.add_zero]
   refine hc a b gE fun r hr h3 => Rat.not_le.1 fun h4 => ?_
   have := (hm r).2 ⟨hr, h3, h4⟩
   simp at this
  | [r], hm, _ =>
   obtain ⟨g1, g2, g3⟩ := (hm r).1 (by simp)
   have := h.root g2 (hr r g1)
   have := h.dP g3
   simp only [List.length_cons, List.length_nil]
   omega
  | r :: q :: l, hm, HM =>
   exfalso
   obtain ⟨g1, g2, g3⟩ := (hm r).1 (by simp)
   obtain ⟨k1, k2, k3⟩ := (hm q).1 (by simp)
   have qG : r ≠ q := by
    simp only [List.nodup_cons, List.mem_cons, not_or] at HM
    exact HM.1.1
   rcases Rat.le_total (a := r) (b := q) with h5 | h5
   ·have := h.root (Rat.lt_of_le_of_ne h5 qG) (hr q k1)
    have := h.root g2 (hr r g1)
    have := h.dP k3
    omega
   ·have := h.root (Rat.lt_of_le_of_ne h5 (Ne.symm qG)) (hr r g1)
    have := h.root k2 (hr q k1)
    have := h.dP g3
    omega
end xI
theorem xY {a b : Int} {l : List Int} (h : Cn (a :: b :: l)) : Cn (b :: l) := by
 unfold Cn at h ⊢
 rw [aM] at h
 split at h
 ·simp at h
 ·simpa using h
theorem vF {a b : Int} {l : List Int} : lead (a :: b :: l) = lead (b :: l) := by
 unfold lead
 simp only [List.length_cons, Nat.add_sub_cancel]
 rw [iT]
theorem DW {S t : Rat} (hS : 0 ≤ S) (ht : S + 1 ≤ t) : ∀ {x : List Int}, Cn x → 0 < x.length → (∀ c ∈ x, Ab (c : Rat) S) → (0 < lead x → 1 ≤ qv t x) ∧ (lead x < 0 → qv t x ≤ -1)
 | [a], hc, _, _ => by
  have e1 : qv t [a] = (a : Rat) := by simp only [qv]; grind
  have e2 : lead [a] = a := rfl
  rw [e1, e2]
  refine ⟨fun h => eD h, fun h => ?_⟩
  have : ((a : Int) : Rat) ≤ ((-1 : Int) : Rat) := Rat.intCast_le_intCast.2 (by omega)
  rwa [Rat.intCast_neg, Rat.intCast_one] at this
 | a :: b :: l, hc, _, hb => by
  obtain ⟨h1, h2⟩ := DW hS ht (xY hc) (by simp) fun c hc => hb c (List.mem_cons_of_mem _ hc)
  obtain ⟨h3, h4⟩ := hb a (by simp)
  have e1 : qv t (a :: b :: l) = a + t * qv t (b :: l) := rfl
  rw [vF, e1]
  refine ⟨fun h => ?_, fun h => ?_⟩
  ·have := Rat.mul_le_mul_of_nonneg_left (h1 h) (show 0 ≤ t by grind)
   grind
  ·have := Rat.mul_le_mul_of_nonneg_left (show 1 ≤ -qv t (b :: l) by have := h2 h; grind) (show 0 ≤ t by grind)
   grind
theorem KG {S t : Rat} (hS : 0 ≤ S) (ht : t ≤ -(S + 1)) : ∀ {x : List Int}, Cn x → 0 < x.length → (∀ c ∈ x, Ab (c : Rat) S) → (0 < (if x.length % 2 = 0 then -lead x else lead x) → 1 ≤ qv t x) ∧ ((if x.length % 2 = 0 then -lead x else lead x) < 0 → qv t x ≤ -1)
 | [a], hc, _, _ => by
  have e1 : qv t [a] = (a : Rat) := by simp only [qv]; grind
  have e2 : lead [a] = a := rfl
  rw [e1, e2, if_neg (by simp)]
  refine ⟨fun h => eD h, fun h => ?_⟩
  have : ((a : Int) : Rat) ≤ ((-1 : Int) : Rat) := Rat.intCast_le_intCast.2 (by omega)
  rwa [Rat.intCast_neg, Rat.intCast_one] at this
 | a :: b :: l, hc, _, hb => by
  obtain ⟨h1, h2⟩ := KG hS ht (xY hc) (by simp) fun c hc => hb c (List.mem_cons_of_mem _ hc)
  obtain ⟨h3, h4⟩ := hb a (by simp)
  have e1 : qv t (a :: b :: l) = a + t * qv t (b :: l) := rfl
  have e2 : (if (a :: b :: l).length % 2 = 0 then -lead (a :: b :: l) else lead (a :: b :: l)) = -(if (b :: l).length % 2 = 0 then -lead (b :: l) else lead (b :: l)) := by
   rw [vF]
   simp only [List.length_cons]
   split <;> split <;> omega
  rw [e2, e1]
  generalize (if (b :: l).length % 2 = 0 then -lead (b :: l) else lead (b :: l)) = z at *
  refine ⟨fun h => ?_, fun h => ?_⟩
  ·have := Rat.mul_le_mul_of_nonneg_left (show 1 ≤ -qv t (b :: l) by have := h2 (by omega); grind) (show 0 ≤ -t by grind)
   grind
  ·have := Rat.mul_le_mul_of_nonneg_left (h1 (by omega)) (show 0 ≤ -t by grind)
   grind
theorem DX {S t : Rat} (hS : 0 ≤ S) {x : List Int} (hc : Cn x) (hb : ∀ c ∈ x, Ab (c : Rat) S) : (S + 1 ≤ t → bT (qv t x) = (lead x).sign) ∧ (t ≤ -(S + 1) → bT (qv t x) = if x.length % 2 = 0 then -(lead x).sign else (lead x).sign) := by
 rcases Nat.eq_zero_or_pos x.length with h0 | h0
 ·have : x = [] := List.eq_nil_of_length_eq_zero h0
  subst this
  refine ⟨fun _ => ?_, fun _ => ?_⟩ <;> simp only [qv] <;> decide
 ·have hl := cD hc h0
  refine ⟨fun ht => ?_, fun ht => ?_⟩
  ·obtain ⟨h1, h2⟩ := DW hS ht hc h0 hb
   rcases Int.lt_trichotomy (lead x) 0 with h | h | h
   ·have := h2 h
    rw [Int.sign_eq_neg_one_of_neg h, fR (by grind)]
   ·exact absurd h hl
   ·have := h1 h
    rw [Int.sign_eq_one_of_pos h, dJ (by grind)]
  ·obtain ⟨h1, h2⟩ := KG hS ht hc h0 hb
   rcases Int.lt_trichotomy (lead x) 0 with h | h | h
   ·rw [Int.sign_eq_neg_one_of_neg h]
    split
    ·rw [if_pos (by assumption)] at h1
     have := h1 (by omega)
     rw [dJ (by grind)]; rfl
    ·rw [if_neg (by assumption)] at h2
     have := h2 h
     rw [fR (by grind)]
   ·exact absurd h hl
   ·rw [Int.sign_eq_one_of_pos h]
    split
    ·rw [if_pos (by assumption)] at h2
     have := h2 (by omega)
     rw [fR (by grind)]
    ·rw [if_neg (by assumption)] at h1
     have := h1 h
     rw [dJ (by grind)]
end Pm
namespace Pm
open ZX hiding N W
theorem kO.mul {x y η θ : Rat} (hη : 0 < η) (hθ : 0 < θ) (h : kO η x) (h' : kO θ y) : kO (η * θ) (x * y) := by
 have key : ∀ {u v : Rat}, η ≤ u → θ ≤ v → η * θ ≤ u * v := fun {u v} h1 h2 => by
  have p1 := Rat.mul_le_mul_of_nonneg_left h2 (Rat.le_of_lt hη)
  have p2 := Rat.mul_le_mul_of_nonneg_right h1 (show 0 ≤ v by grind)
  grind
 rcases h with h | h <;> rcases h' with h' | h'
 ·right; have := key (show η ≤ -x by grind) (show θ ≤ -y by grind); grind
 ·left; have := key (show η ≤ -x by grind) h'; grind
 ·left; have := key h (show θ ≤ -y by grind); grind
 ·right; exact key h h'
def Bg (a b : Rat) (p : ZX) : Prop := ∃ η : Rat, 0 < η ∧ ∀ x, a ≤ x → x ≤ b → kO η (e x p)
theorem Bg.mono {a b c d : Rat} {p : ZX} (h : Bg a b p) (hc : a ≤ c) (hd : d ≤ b) : Bg c d p := by
 obtain ⟨η, h1, h2⟩ := h
 exact ⟨η, h1, fun x hx hy => h2 x (by grind) (by grind)⟩
theorem apM (t : Rat) (n d : Int) : e t (of [n, d]) = n + d * t := by
 rw [aj2]
 simp only [qv]; grind
theorem F9 (l : List Int) : ∃ S : Rat, 0 ≤ S ∧ ∀ c ∈ l, Ab (c : Rat) S := by
 induction l with
 | nil => exact ⟨0, Rat.le_refl, fun c hc => by cases hc⟩
 | cons a l ih =>
  obtain ⟨S, hS, h⟩ := ih
  obtain ⟨A, hA, ha, _⟩ := sO a a
  refine ⟨S + A, by grind, fun c hc => ?_⟩
  rcases List.mem_cons.1 hc with rfl | hc
  ·exact ha.mono (by grind)
  ·exact (h c hc).mono (by grind)
theorem eO {a b x B : Rat} (ha : Ab a B) (hb : Ab b B) (hx : a ≤ x) (hy : x ≤ b) : Ab x B := by
 obtain ⟨h1, h2⟩ := ha
 obtain ⟨h3, h4⟩ := hb
 exact ⟨by grind, by grind⟩
theorem Bg.same {a b : Rat} {f : ZX} (h : Bg a b f) {x y : Rat} (hx : a ≤ x) (uQ : x < y) (hy : y ≤ b) : bT (e y f) = bT (e x f) ∧ bT (e x f) ≠ 0 := by
 obtain ⟨η, hη, h2⟩ := h
 obtain ⟨B, hB, ha, hb⟩ := sO a b
 obtain ⟨S, hS, hc⟩ := F9 f.l
 obtain ⟨h3, _⟩ := oD hS hB f.l.length
 generalize hQ : B6 S B f.l.length = Q at *
 have hQ1 : 0 < Q + 1 := by grind
 have hδ : η / (Q + 1) * (Q + 1) = η := Rat.div_mul_cancel (Rat.ne_of_gt hQ1)
 have hδ0 : 0 < η / (Q + 1) := (Rat.lt_div_iff hQ1).2 (by grind)
 generalize η / (Q + 1) = δ at *
 refine aj3 (B := B) hδ0 (P := fun x y => a ≤ x → y ≤ b → bT (e y f) = bT (e x f) ∧ bT (e x f) ≠ 0) (fun x y z h1 h2 p1 p2 hx hz => ?_) (fun x y hx hy uQ hd hax hyb => ?_) (eO ha hb hx (by grind)) (eO ha hb (by grind) hy) uQ hx hy
 ·obtain ⟨q1, q2⟩ := p1 hx (by grind)
  obtain ⟨q3, q4⟩ := p2 (by grind) hz
  exact ⟨q3.trans q1, q2⟩
 ·refine eC (h2 x hax (by grind)) hη ?_
  show ¬ kO η (qv y f.l - qv x f.l)
  rw [lN]
  refine w6 (Q := Q) (by grind) (hQ ▸ DV hS hB hx hy f.l hc) ?_
  have := Rat.mul_le_mul_of_nonneg_right hd h3
  grind
theorem xI.bg {L : List ZX} {f : ZX} (h : xI L f) {a b : Rat} (hb : Bg a b f) (gE : a < b) : vt L a = vt L b := by
 refine h.const gE (σ := bT (e a f)) (.inr rfl) fun x hx hy => ?_
 exact (hb.same Rat.le_refl hx hy).1
end Pm
namespace Go.Proofs.YtbbjgncblhfegaaGreat
open Go Pm
abbrev T2 (n d : Int) : PV := .ag [.bool (decide (n < 0)), us (aQ LL n.natAbs), .bool (decide (d < 0)), us (aQ LL d.natAbs)]
abbrev RT (q : Rat) : PV := T2 q.num q.den
theorem auJ (n d : Int) : ((bG [n, d] : Nat) : Int) = Int.gcd n d := by
 simp only [bG, List.foldl_cons, List.foldl_nil, Nat.gcd_zero_left]
 rfl
theorem aj5 {n d : Int} (h : d ≠ 0) : (cO n d).num = (if d < 0 then -n else n) / (bG [n, d] : Nat) ∧ ((cO n d).den : Int) = (if d < 0 then -d else d) / (bG [n, d] : Nat) := by
 have e : ∀ m k : Int, (m = n ∨ m = -n) → (k = d ∨ k = -d) → ((Int.gcd m k : Nat) : Int) = (bG [n, d] : Nat) := fun m k hm hk => by
  rw [auJ]
  rcases hm with rfl | rfl <;> rcases hk with rfl | rfl <;> simp
 rw [n3 n d h, n4 n d h]
 constructor
 ·rw [e _ _ (by split <;> simp) (by split <;> simp)]
 ·rw [e _ _ (by split <;> simp) (by split <;> simp)]
theorem sP {n d : Int} (hn : sz LL n < 1099511627770) (hd : sz LL d < 1099511627770) (h0 : d ≠ 0) : aI env.P 192 [I n, I d] (RT (cO n d)) := by
 have sn : Sz n := by show _ < _; omega
 have sd : Sz d := by show _ < _; omega
 have g0 := I7 [rC n, rC d] 1099511627770 (by decide) (fun c hc => by
  simp only [List.mem_cons, List.not_mem_nil, or_false] at hc
  rcases hc with rfl | rfl
  ·exact ⟨eS fS _, by unfold sz at hn; show (aQ LL n.natAbs).length ≤ _; omega⟩
  ·exact ⟨eS fS _, by unfold sz at hd; show (aQ LL d.natAbs).length ≤ _; omega⟩) (by simp)
 rw [show [rC n, rC d].map gv = [n, d] by simp [IL]] at g0
 obtain ⟨q1, q2⟩ := aj5 (n := n) h0
 have gd1 : ((bG [n, d] : Nat) : Int) ∣ n := gB _ n (by simp)
 have gd2 : ((bG [n, d] : Nat) : Int) ∣ d := gB _ d (by simp)
 have gne : ((bG [n, d] : Nat) : Int) ≠ 0 := by
  have := JO (x := [n, d]) (c := d) (by simp) h0; omega
 have gle : ((bG [n, d] : Nat) : Int).natAbs ≤ d.natAbs := Nat.le_of_dvd (by omega) (Int.natAbs_dvd_natAbs.2 gd2)
 have gsz : sz LL ((bG [n, d] : Nat) : Int) < 1099511627774 := Nat.lt_of_le_of_lt (cC fS gle) (by omega)
 have nn : ∀ v, qP (aQ LL v) ↔ qP (aQ LL v) := fun _ => Iff.rfl
 have neg : ∀ v : Int, Sz v → aI env.P 142 [I v] (I (-v)) := fun v hv => by
  have := zF (decide (v < 0)) (aQ LL v.natAbs) hv.V7
  rw [show iv (decide (v < 0)) (aQ LL v.natAbs) = v from IL v] at this
  exact this
 generalize hg : ((bG [n, d] : Nat) : Int) = g at *
 have ex : ∀ v : Int, g ∣ v → sz LL v < 1099511627774 → aI env.P 234 [I v, I g] (.eP [I (v / g), .int .i64 0]) := fun v hv hs => by
  have := FM hs gsz gne
  rw [if_pos (Int.emod_eq_zero_of_dvd hv)] at this
  exact this
 have n1 := neg n sn
 have n2 := neg d sd
 have apN : ∀ v : Int, sz LL (-v) = sz LL v := fun v => by unfold sz; rw [Int.natAbs_neg]
 have e1 := ex (if d < 0 then -n else n) (by split; exact (Int.dvd_neg.2 gd1); exact gd1) (by split; rw [apN]; omega; omega)
 have e2 := ex (if d < 0 then -d else d) (by split; exact (Int.dvd_neg.2 gd2); exact gd2) (by split; rw [apN]; omega; omega)
 rw [← q1] at e1
 rw [← q2] at e2
 have eg : Pg [rC n, rC d] = .sl [[.bool (decide (n < 0)), us (aQ LL n.natAbs)], [.bool (decide (d < 0)), us (aQ LL d.natAbs)]] := rfl
 rw [eg] at g0
 show aI env.P _ _ (T2 (cO n d).num (cO n d).den)
 generalize (cO n d).num = rn at *
 generalize ((cO n d).den : Int) = rd at *
 refine aB (E := env) (fun _ => 0) [(0, I n), (1, I d)] Tryz.func192 rfl (by kernel_rfl) (by kernel_rfl) (show 2 ≤ 31 by decide) (by simp) ?_
 refine W.sr ?_; simp (disch := omega) [gw]; refine W.lx [2, 3, 4] ?_; simp
 refine W.sr ?_
 simp (disch := omega) [gw]
 refine aA g0 ?_
 simp (disch := omega) [gw]
 refine W.lx [2, 3, 4, 5] ?_; simp
 generalize uP : (if d < 0 then -n else n) = n' at *
 generalize S3 : (if d < 0 then -d else d) = d' at *
 refine W.fX (fun σ => ∃ (rows : Pm.Rows) (clk : Nat), σ = ⟨fa [(2, .ptr 2 0 0 0), (3, .ptr 3 1 0 0), (4, .ptr 4 2 0 0), (5, .ptr 5 3 0 0)], rows, clk⟩ ∧ rows 2 = some ⟨0, 40, 2, [ie n']⟩ ∧ rows 3 = some ⟨1, 40, 2, [ie d']⟩ ∧ rows 4 = some ⟨2, 42, 4, [[.bool false, .nil, .bool false, .nil]]⟩ ∧ rows 5 = some ⟨3, 40, 2, [ie g]⟩) ?_ ?_
 ·refine W.sr ?_; simp (disch := omega) [gw]; refine W.lx [2, 3, 4, 5, 11] ?_; simp
  refine W.cond ⟨_, rfl, fun h => ?_, fun h => ?_⟩
  ·have h : d < 0 := by simpa using h
   rw [if_pos h] at uP S3
   subst uP S3
   refine W.M3 (fun K hK => ?_)
   simp (disch := omega) [gw]
   refine aA n1 ?_
   simp (disch := omega) [gw]
   refine aA n2 ?_
   simp (disch := omega) [gw]
   (try (refine bN (of_decide_eq_true (by kernel_rfl)) ?_)); (try simp (maxSteps := 4000000) (disch := omega) [gw]); (repeat rw [if_pos (by kernel_rfl)]); (try simp (maxSteps := 4000000) (disch := omega) [gw])
   (try (refine bN (of_decide_eq_true (by kernel_rfl)) ?_)); (try simp (maxSteps := 4000000) (disch := omega) [gw]); (repeat rw [if_pos (by kernel_rfl)]); (try simp (maxSteps := 4000000) (disch := omega) [gw])
   exact hK _ ⟨_, aC _ [2, 3, 4, 5], _, _, rfl, by simp, by simp, by simp, by simp⟩
  ·have h : ¬ d < 0 := by simpa using h
   rw [if_neg h] at uP S3
   subst uP S3
   refine W.skip ?_
   exact ⟨_, aC _ [2, 3, 4, 5], _, _, rfl, by simp, by simp, by simp, by simp⟩
 rintro _ ⟨rows, clk, rfl, cI, fQ, jN, mB⟩
 simp only [ie] at cI fQ mB
 refine W.sr ?_
 simp (disch := omega) [gw, cI, mB]
 refine aA e1 ?_
 simp (disch := omega) [gw, cI]
 refine W.lx [2, 3, 4, 5] ?_; simp
 refine W.sr ?_
 simp (disch := omega) [gw, fQ, mB]
 refine aA e2 ?_
 simp (disch := omega) [gw, fQ]
 refine W.lx [2, 3, 4] ?_; simp
 refine W.sr ?_; simp (disch := omega) [gw, jN]; refine W.lx [4] ?_; simp
 refine W.ret ?_
 simp [go]
theorem DY (d : Int) : aI env.P 190 [I d] (.bool (decide (d = 0))) := by
 have := IM (decide (d < 0)) (aQ LL d.natAbs)
 rw [show decide ((aQ LL d.natAbs).length = 0) = decide (d = 0) from by
  by_cases h : d = 0
  ·subst h; rfl
  ·have : aQ LL d.natAbs ≠ [] := fun h2 => h (by have := jM fS d.natAbs; rw [h2] at this; simp [V] at this; omega)
   have h3 := List.length_pos_iff.2 this
   simp [h]; omega] at this
 exact this
theorem OC (n : Int) : cO n 0 = cO n 1 := by rw [j6, cO, if_pos rfl]
theorem qY {n d : Int} (hn : sz LL n < 1099511627770) (hd : sz LL d < 1099511627770) : aI env.P 164 [T2 n d] (RT (cO n d)) := by
 have sn : Sz n := by show _ < _; omega
 have sd : Sz d := by show _ < _; omega
 have n1 := FG sn
 have n2 := FG sd
 have z1 := DY d
 have o1 := zH 1 (by decide) (by decide)
 obtain ⟨e, he, hed⟩ : ∃ e, e = (if d = 0 then 1 else d) ∧ cO n e = cO n d := by
  refine ⟨_, rfl, ?_⟩
  split
  ·rename_i h; rw [h, OC]
  ·rfl
 have K7 : sz LL e < 1099511627770 := by
  rw [he]
  split
  ·exact Nat.lt_of_le_of_lt (cN (k := 1) fS (by decide)) (by decide)
  ·exact hd
 have DQ : e ≠ 0 := by
  rw [he]
  split
  ·decide
  ·assumption
 have l1 := sP (n := n) (d := e) hn K7 DQ
 rw [hed] at l1
 show aI env.P _ _ (T2 (cO n d).num (cO n d).den)
 replace l1 : aI env.P 192 [I n, I e] (T2 (cO n d).num (cO n d).den) := l1
 clear hed K7 DQ
 generalize (cO n d).num = rn at *
 generalize ((cO n d).den : Int) = rd at *
 refine aB (E := env) (fun _ => 0) [(0, T2 n d)] Tryz.func164 rfl (by kernel_rfl) (by kernel_rfl) (show 1 ≤ 15 by decide) (by simp) ?_
 refine W.sr ?_; simp (disch := omega) [gw]; refine W.lx [1, 2] ?_; simp
 refine W.sr ?_
 simp (disch := omega) [gw]
 refine aA n2 ?_
 simp (disch := omega) [gw]
 refine W.lx [1, 2, 3] ?_; simp
 refine W.fX (fun σ => ∃ (rows : Pm.Rows) (clk : Nat), σ = ⟨fa [(1, .ptr 1 0 0 0), (2, .ptr 2 1 0 0), (3, .ptr 3 2 0 0)], rows, clk⟩ ∧ rows 1 = some ⟨0, 42, 4, [[.bool (decide (n < 0)), us (aQ LL n.natAbs), .bool (decide (d < 0)), us (aQ LL d.natAbs)]]⟩ ∧ rows 2 = some ⟨1, 42, 4, [[.bool false, .nil, .bool false, .nil]]⟩ ∧ rows 3 = some ⟨2, 40, 2, [[.bool (decide (e < 0)), us (aQ LL e.natAbs)]]⟩) ?_ ?_
 ·refine W.sr ?_
  simp (disch := omega) [gw]
  refine aA z1 ?_
  simp (disch := omega) [gw]
  refine W.lx [1, 2, 3, 8] ?_; simp
  refine W.cond ⟨_, rfl, fun h => ?_, fun h => ?_⟩
  ·have h : d = 0 := by simpa using h
   rw [if_pos h] at he
   subst he
   refine W.b8 (fun K hK => ?_)
   simp (disch := omega) [gw]
   refine aA o1 ?_
   simp (disch := omega) [gw]
   exact hK _ ⟨_, aC _ [1, 2, 3], _, _, rfl, by simp, by simp, by simp⟩
  ·have h : ¬ d = 0 := by simpa using h
   rw [if_neg h] at he
   subst he
   refine W.skip ?_
   exact ⟨_, aC _ [1, 2, 3], _, _, rfl, by simp, by simp, by simp⟩
 rintro _ ⟨rows, clk, rfl, BW, cI, fQ⟩
 refine W.sd ?_
 simp (disch := omega) [gw, BW]
 refine aA n1 ?_
 simp (disch := omega) [gw, fQ]
 refine aA l1 ?_
 simp (disch := omega) [gw, cI]
 (try (refine bN (of_decide_eq_true (by kernel_rfl)) ?_)); (try simp (maxSteps := 4000000) (disch := omega) [gw, cI]); (repeat rw [if_pos (by kernel_rfl)]); (try simp (maxSteps := 4000000) (disch := omega) [gw, cI])
 refine W.lx [2] ?_; simp
 refine W.ret ?_
 simp [go]
theorem DZ {n d m e : Int} {k : Nat} (hn : sz LL n ≤ k) (hd : sz LL d ≤ k) (hm : sz LL m ≤ k) (he : sz LL e ≤ k) (hk : k ≤ 500000000000) {p q : Rat} (hp : cO n d = p) (hq : cO m e = q) (sp : sz LL p.num ≤ k ∧ sz LL (p.den : Int) ≤ k) (sq : sz LL q.num ≤ k ∧ sz LL (q.den : Int) ≤ k) :
  aI env.P 182 [T2 n d, T2 m e] (.eP [I (p.num * q.den), I (q.num * p.den), I ((p.den : Int) * q.den)]) := by
 have n1 := qY (n := n) (d := d) (by omega) (by omega)
 have n2 := qY (n := m) (d := e) (by omega) (by omega)
 rw [hp] at n1
 rw [hq] at n2
 have z : ∀ {v : Int}, sz LL v ≤ k → Sz v := fun h => by show _ < _; omega
 have m1 := tK (z sp.1) (z sq.2)
 have m2 := tK (z sq.1) (z sp.2)
 have m3 := tK (z sp.2) (z sq.2)
 replace n1 : aI env.P 164 [T2 n d] (T2 p.num p.den) := n1
 replace n2 : aI env.P 164 [T2 m e] (T2 q.num q.den) := n2
 clear sp sq hp hq
 generalize p.num * (q.den : Int) = x1 at *
 generalize q.num * (p.den : Int) = x2 at *
 generalize (p.den : Int) * (q.den : Int) = x3 at *
 generalize p.num = pn at *
 generalize (p.den : Int) = pd at *
 generalize q.num = qn at *
 generalize (q.den : Int) = qd at *
 refine aB (E := env) (fun _ => 0) [(0, T2 n d), (1, T2 m e)] Tryz.func182 rfl (by kernel_rfl) (by kernel_rfl) (show 2 ≤ 26 by decide) (by simp) ?_
 refine W.sr ?_; simp (disch := omega) [gw]; refine W.lx [2, 3, 4, 5, 6] ?_; simp
 refine W.sd ?_
 simp (disch := omega) [gw]
 refine aA n1 ?_
 simp (disch := omega) [gw]
 refine aA n2 ?_
 simp (disch := omega) [gw]
 (try (refine bN (of_decide_eq_true (by kernel_rfl)) ?_)); (try simp (maxSteps := 4000000) (disch := omega) [gw]); (repeat rw [if_pos (by kernel_rfl)]); (try simp (maxSteps := 4000000) (disch := omega) [gw])
 (try (refine bN (of_decide_eq_true (by kernel_rfl)) ?_)); (try simp (maxSteps := 4000000) (disch := omega) [gw]); (repeat rw [if_pos (by kernel_rfl)]); (try simp (maxSteps := 4000000) (disch := omega) [gw])
 refine W.lx [2, 3, 4, 5, 6] ?_; simp
 refine W.sd ?_
 simp (maxSteps := 4000000) (disch := omega) [gw]
 refine aA m1 ?_
 simp (maxSteps := 4000000) (disch := omega) [gw]
 refine aA m2 ?_
 simp (maxSteps := 4000000) (disch := omega) [gw]
 refine aA m3 ?_
 simp (maxSteps := 4000000) (disch := omega) [gw]
 (try (refine bN (of_decide_eq_true (by kernel_rfl)) ?_)); (try simp (maxSteps := 4000000) (disch := omega) [gw]); (repeat rw [if_pos (by kernel_rfl)]); (try simp (maxSteps := 4000000) (disch := omega) [gw])
 (try (refine bN (of_decide_eq_true (by kernel_rfl)) ?_)); (try simp (maxSteps := 4000000) (disch := omega) [gw]); (repeat rw [if_pos (by kernel_rfl)]); (try simp (maxSteps := 4000000) (disch := omega) [gw])
 (try (refine bN (of_decide_eq_true (by kernel_rfl)) ?_)); (try simp (maxSteps := 4000000) (disch := omega) [gw]); (repeat rw [if_pos (by kernel_rfl)]); (try simp (maxSteps := 4000000) (disch := omega) [gw])
 refine W.lx [4, 5, 6] ?_; simp
 refine W.ret ?_
 simp [go]
theorem D0 {n d m e : Int} {k : Nat} (hn : sz LL n ≤ k) (hd : sz LL d ≤ k) (hm : sz LL m ≤ k) (he : sz LL e ≤ k) (hk : k ≤ 500000000000) {p q : Rat} (hp : cO n d = p) (hq : cO m e = q) (sp : sz LL p.num ≤ k ∧ sz LL (p.den : Int) ≤ k) (sq : sz LL q.num ≤ k ∧ sz LL (q.den : Int) ≤ k) :
  aI env.P 105 [T2 n d, T2 m e] (.int .i64 (dC (p.num * q.den) (q.num * p.den))) := by
 have c1 := DZ hn hd hm he hk hp hq sp sq
 have g1 := bS (b := LL) fS sp.1 sq.2
 have g2 := bS (b := LL) fS sq.1 sp.2
 have w1 := ZE (x := p.num * q.den) (y := q.num * p.den) (by show _ < _; omega) (by show _ < _; omega)
 clear sp sq hp hq g1 g2
 generalize dC (p.num * (q.den : Int)) (q.num * (p.den : Int)) = r at *
 generalize p.num * (q.den : Int) = x1 at *
 generalize q.num * (p.den : Int) = x2 at *
 generalize (p.den : Int) * (q.den : Int) = x3 at *
 refine aB (E := env) (fun _ => 0) [(0, T2 n d), (1, T2 m e)] Tryz.func105 rfl (by kernel_rfl) (by kernel_rfl) (show 2 ≤ 18 by decide) (by simp) ?_
 refine W.sr ?_; simp (disch := omega) [gw]; refine W.lx [2, 3] ?_; simp
 refine W.sr ?_
 simp (disch := omega) [gw]
 refine aA c1 ?_
 simp (disch := omega) [gw]
 refine W.lx [5, 6] ?_; simp
 refine W.sr ?_
 simp (disch := omega) [gw]
 refine aA w1 ?_
 simp (disch := omega) [gw]
 refine W.lx [4] ?_; simp
 refine W.ret ?_
 simp [go]
theorem uG {n d : Int} (hn : sz LL n < 1099511627770) (hd : sz LL d < 1099511627770) : aI env.P 117 [T2 n d, .sl []] (RT (cO n d)) := by
 have n1 := qY hn hd
 show aI env.P _ _ (T2 (cO n d).num (cO n d).den)
 replace n1 : aI env.P 164 [T2 n d] (T2 (cO n d).num (cO n d).den) := n1
 generalize (cO n d).num = rn at *
 generalize ((cO n d).den : Int) = rd at *
 refine aB (E := env) (fun _ => 0) [(0, T2 n d), (1, .sl [])] Tryz.func117 rfl (by kernel_rfl) (by kernel_rfl) (show 2 ≤ 24 by decide) (by simp) ?_
 refine W.sr ?_; simp (disch := omega) [gw]; refine W.lx [1, 2, 4] ?_; simp
 refine W.sr ?_
 simp (disch := omega) [gw]
 refine aA n1 ?_
 simp (disch := omega) [gw]
 refine W.lx [1, 4, 5] ?_; simp
 refine W.seq ?_
 refine W.sr ?_; simp (disch := omega) [gw]; refine W.lx [4, 5, 10, 11, 12] ?_; simp
 refine W.block ?_
 refine W.a9 (fun k σ => ∃ (rows : Pm.Rows) (clk : Nat), σ = ⟨fa [(4, .ptr 4 1 0 0), (5, .ptr 5 2 0 0), (11, .int .i64 0), (12, .int .i64 0)], rows, clk⟩ ∧ rows 4 = some ⟨1, 42, 4, [[.bool false, .nil, .bool false, .nil]]⟩ ∧ rows 5 = some ⟨2, 42, 4, [[.bool (decide (rn < 0)), us (aQ LL rn.natAbs), .bool (decide (rd < 0)), us (aQ LL rd.natAbs)]]⟩) 0 ?_ ?_
 ·exact ⟨_, aC _ [4, 5, 11, 12], _, _, rfl, by simp, by simp⟩
 rintro k _ ⟨rows, clk, rfl, jN, mB⟩
 refine W.sr ?_; simp (disch := omega) [gw]; refine W.lx [4, 5, 11, 12, 13] ?_; simp
 refine W.seq ?_
 refine W.cond ⟨_, rfl, fun h => ?_, fun h => ?_⟩
 ·simp at h
 ·refine W.exit ?_; simp only [pX, if_true, if_false, reduceIte, Nat.reduceEqDiff]
  refine W.sr ?_
  simp (disch := omega) [gw, jN, mB]
  refine W.lx [4] ?_; simp
  refine W.ret ?_
  simp [go]
theorem U6 {n d : Int} (hn : sz LL n < 1099511627770) (hd : sz LL d < 1099511627770) : aI env.P 132 [T2 n d] (RT (cO n d)) := by
 have n1 := uG hn hd
 show aI env.P _ _ (T2 (cO n d).num (cO n d).den)
 replace n1 : aI env.P 117 [T2 n d, .sl []] (T2 (cO n d).num (cO n d).den) := n1
 generalize (cO n d).num = rn at *
 generalize ((cO n d).den : Int) = rd at *
 refine aB (E := env) (fun _ => 0) [(0, T2 n d)] Tryz.func132 rfl (by kernel_rfl) (by kernel_rfl) (show 1 ≤ 5 by decide) (by simp) ?_
 refine W.sr ?_; simp (disch := omega) [gw]; refine W.lx [1, 2] ?_; simp
 refine W.sr ?_
 simp (disch := omega) [gw]
 refine aA n1 ?_
 simp (disch := omega) [gw]
 refine W.lx [2] ?_; simp
 refine W.ret ?_
 simp [go]
end Go.Proofs.YtbbjgncblhfegaaGreat
