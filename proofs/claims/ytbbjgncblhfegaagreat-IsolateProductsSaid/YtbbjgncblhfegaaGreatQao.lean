import Derived.Test.YtbbjgncblhfegaaGreatQal
import Derived.Test.YtbbjgncblhfegaaGreatQam
import Derived.Test.YtbbjgncblhfegaaGreatQan
set_option linter.unusedSimpArgs false
set_option linter.unusedVariables false
namespace Pm
def qv (t : Rat) : List Int → Rat
 | [] => 0
 | a :: l => (a : Rat) + t * qv t l
section
variable {t : Rat}
theorem r7 {α : Type} (f g : α → Int) : ∀ l : List α, qv t (l.map fun k => f k + g k) = qv t (l.map f) + qv t (l.map g)
 | [] => by simp only [List.map_nil, qv]; grind
 | x :: l => by simp only [List.map_cons, qv, r7 f g l, Rat.intCast_add]; grind
theorem AJ {α : Type} (c : Int) (f : α → Int) : ∀ l : List α, qv t (l.map fun k => f k * c) = qv t (l.map f) * c
 | [] => by simp only [List.map_nil, qv]; grind
 | x :: l => by simp only [List.map_cons, qv, AJ c f l, Rat.intCast_mul]; grind
theorem mJ : ∀ (a : List Int) (n : Nat), qv t (a ++ List.replicate n 0) = qv t a
 | [], 0 => rfl
 | [], n + 1 => by
  have := mJ [] n
  simp only [List.nil_append] at this
  simp only [List.nil_append, List.replicate_succ, qv, this, Rat.intCast_zero]; grind
 | x :: a, n => by simp only [List.cons_append, qv, mJ a n]
theorem tW : ∀ l : List Int, qv t (aM l) = qv t l
 | [] => rfl
 | x :: l => by
  have ih := tW l
  simp only [aM]
  split
  ·rename_i h
   rw [h.1] at ih
   simp only [qv] at ih ⊢
   rw [← ih, h.2, Rat.intCast_zero]; grind
  ·simp only [qv, ih]
theorem kJ {x : List Int} {n : Nat} (h : x.length ≤ n) : qv t ((List.range n).map (nth x)) = qv t x := by
 rw [mQ h, mJ]
theorem QF (x y : List Int) : qv t (fU x y) = qv t x + qv t y := by
 rw [fU, tW, r7, kJ (by omega), kJ (by omega)]
theorem adT (x y : List Int) : qv t (dZ x y) = qv t x - qv t y := by
 rw [dZ, tW]
 have h1 := r7 (t := t) (fun k => nth x k - nth y k) (nth y) (List.range (max x.length y.length))
 have h2 : (fun k => nth x k - nth y k + nth y k) = nth x := by funext k; omega
 rw [h2, kJ (by omega), kJ (by omega)] at h1
 grind
theorem JQ : ∀ x y : List Int, qv t (eU x y) = qv t x * qv t y
 | [], y => by simp only [eU, qv]; grind
 | a :: x, y => by
  have := AJ (t := t) a id y
  simp only [id_eq, List.map_id_fun] at this
  rw [eU, QF, this]
  simp only [qv, JQ x y, Rat.intCast_zero]
  grind
theorem adU (x y : List Int) : qv t (bI x y) = qv t x * qv t y := by rw [bI, tW, JQ]
end
namespace ZX
section
variable {t : Rat}
def e (t : Rat) (x : ZX) : Rat := qv t x.l
theorem aoK (x y : ZX) : e t (x + y) = e t x + e t y := QF _ _
theorem wR (x y : ZX) : e t (x * y) = e t x * e t y := adU _ _
theorem aoL (x y : ZX) : e t (x - y) = e t x - e t y := adT _ _
theorem aoM (x : List Int) : e t (of x) = qv t x := tW x
theorem e_K (c : Int) : e t (K c) = c := by
 rw [K, aoM]
 simp only [qv]; grind
theorem af9 : e t 1 = 1 := e_K 1
end
end ZX
def Ab (x M : Rat) : Prop := -M ≤ x ∧ x ≤ M
def kC (e x : Rat) : Prop := x ≤ -e ∨ e ≤ x
theorem Ab.mono {x M N : Rat} (h : Ab x M) (hMN : M ≤ N) : Ab x N := by
 obtain ⟨h1, h2⟩ := h
 exact ⟨by grind, by grind⟩
theorem Ab.add {x y M N : Rat} (h : Ab x M) (h' : Ab y N) : Ab (x + y) (M + N) := by
 obtain ⟨h1, h2⟩ := h
 obtain ⟨h3, h4⟩ := h'
 exact ⟨by grind, by grind⟩
theorem Ab.mul {x y M N : Rat} (h : Ab x M) (h' : Ab y N) : Ab (x * y) (M * N) := by
 obtain ⟨h1, h2⟩ := h
 obtain ⟨h3, h4⟩ := h'
 have p1 := Rat.mul_nonneg (show 0 ≤ M - x by grind) (show 0 ≤ N - y by grind)
 have p2 := Rat.mul_nonneg (show 0 ≤ M + x by grind) (show 0 ≤ N + y by grind)
 have p3 := Rat.mul_nonneg (show 0 ≤ M - x by grind) (show 0 ≤ N + y by grind)
 have p4 := Rat.mul_nonneg (show 0 ≤ M + x by grind) (show 0 ≤ N - y by grind)
 exact ⟨by grind, by grind⟩
theorem Ab.pos {x M : Rat} (h : Ab x M) : 0 ≤ M := by
 obtain ⟨h1, h2⟩ := h
 grind
theorem kC.mono {x e f : Rat} (h : kC e x) (hf : f ≤ e) : kC f x := by
 rcases h with h | h
 ·left; grind
 ·right; grind
theorem xO {x e : Rat} (h : ¬ kC e x) : -e < x ∧ x < e := by
 constructor
 ·exact Rat.not_le.1 fun h1 => h (.inl h1)
 ·exact Rat.not_le.1 fun h1 => h (.inr h1)
theorem mK {x e : Rat} (h : ¬ kC e x) : Ab x e := by
 obtain ⟨h1, h2⟩ := xO h
 exact ⟨Rat.le_of_lt h1, Rat.le_of_lt h2⟩
def b6 (x : Rat) : Int := if x < 0 then -1 else if 0 < x then 1 else 0
theorem fK {x : Rat} (h : x < 0) : b6 x = -1 := if_pos h
theorem dY {x : Rat} (h : 0 < x) : b6 x = 1 := by
 rw [b6, if_neg (by grind), if_pos h]
theorem k9 : b6 0 = 0 := by decide
theorem cJ (x : Rat) : (x < 0 ∧ b6 x = -1) ∨ (x = 0 ∧ b6 x = 0) ∨ (0 < x ∧ b6 x = 1) := by
 by_cases h : x < 0
 ·exact .inl ⟨h, fK h⟩
 ·by_cases h2 : 0 < x
  ·exact .inr (.inr ⟨h2, dY h2⟩)
  ·have : x = 0 := by grind
   subst this
   exact .inr (.inl ⟨rfl, k9⟩)
theorem l5 (x : Rat) : b6 x = -1 ∨ b6 x = 0 ∨ b6 x = 1 := by
 rcases cJ x with h | h | h
 ·exact .inl h.2
 ·exact .inr (.inl h.2)
 ·exact .inr (.inr h.2)
theorem M7 {x : Rat} : b6 x = -1 ↔ x < 0 := by
 rcases cJ x with ⟨h, e⟩ | ⟨h, e⟩ | ⟨h, e⟩ <;> rw [e] <;> constructor <;> intro h2 <;> first | omega | grind
theorem M8 {x : Rat} : b6 x = 1 ↔ 0 < x := by
 rcases cJ x with ⟨h, e⟩ | ⟨h, e⟩ | ⟨h, e⟩ <;> rw [e] <;> constructor <;> intro h2 <;> first | omega | grind
theorem fW {x : Rat} : b6 x = 0 ↔ x = 0 := by
 rcases cJ x with ⟨h, e⟩ | ⟨h, e⟩ | ⟨h, e⟩ <;> rw [e] <;> constructor <;> intro h2 <;> first | omega | grind
theorem qH (x y : Rat) : b6 (x * y) = b6 x * b6 y := by
 rcases cJ x with ⟨h, e⟩ | ⟨h, e⟩ | ⟨h, e⟩ <;> rcases cJ y with ⟨h', e'⟩ | ⟨h', e'⟩ | ⟨h', e'⟩ <;> rw [e, e']
 ·have := Rat.mul_pos (show 0 < -x by grind) (show 0 < -y by grind)
  rw [dY (by grind)]; rfl
 ·rw [h', Rat.mul_zero]; rfl
 ·have := Rat.mul_pos (show 0 < -x by grind) h'
  rw [fK (by grind)]; rfl
 ·rw [h, Rat.zero_mul]; rfl
 ·rw [h, Rat.zero_mul]; rfl
 ·rw [h, Rat.zero_mul]; rfl
 ·have := Rat.mul_pos h (show 0 < -y by grind)
  rw [fK (by grind)]; rfl
 ·rw [h', Rat.mul_zero]; rfl
 ·rw [dY (Rat.mul_pos h h')]; rfl
theorem eE {x y e : Rat} (h : kC e x) (he : 0 < e) (uH : ¬ kC e (y - x)) : b6 y = b6 x ∧ b6 x ≠ 0 := by
 obtain ⟨h1, h2⟩ := xO uH
 rcases h with h | h
 ·rw [fK (show x < 0 by grind), fK (show y < 0 by grind)]; decide
 ·rw [dY (show 0 < x by grind), dY (show 0 < y by grind)]; decide
def dd (s t : Rat) : List Int → Rat
 | [] => 0
 | _ :: l => qv t l + s * dd s t l
def cc (s t : Rat) : List Int → Rat
 | [] => 0
 | _ :: l => dd s t l + s * cc s t l
theorem lA (s t : Rat) : ∀ x : List Int, qv t x - qv s x = (t - s) * dd s t x
 | [] => by simp only [qv, dd]; grind
 | a :: l => by
  have := lA s t l
  simp only [qv, dd]; grind
theorem M9 (s t : Rat) : ∀ x : List Int, dd s t x - dd s s x = (t - s) * cc s t x
 | [] => by simp only [dd, cc]; grind
 | a :: l => by
  have := M9 s t l
  have := lA s t l
  simp only [dd, cc]; grind
section
variable {S B s t : Rat} (hS : 0 ≤ S) (hB : 1 ≤ B) (hs : Ab s B) (ht : Ab t B)
def BM (S B : Rat) : Nat → Rat
 | 0 => S
 | k + 1 => BM S B k * (4 * B)
include hS hB in
theorem nS : ∀ k, 0 ≤ BM S B k ∧ S ≤ BM S B k
 | 0 => ⟨hS, Rat.le_refl⟩
 | k + 1 => by
  obtain ⟨h1, h2⟩ := nS k
  have h3 := Rat.mul_le_mul_of_nonneg_left (show (1 : Rat) ≤ 4 * B by grind) h1
  rw [BM]
  exact ⟨by grind, by grind⟩
include hS hB ht in
theorem QG : ∀ x : List Int, (∀ c ∈ x, Ab (c : Rat) S) → Ab (qv t x) (BM S B x.length)
 | [], _ => by
  show Ab 0 S
  exact ⟨by grind, hS⟩
 | a :: l, h => by
  have h1 := QG l fun c hc => h c (List.mem_cons_of_mem _ hc)
  have h2 := (h a (List.mem_cons_self ..)).add (ht.mul h1)
  obtain ⟨h3, h4⟩ := nS hS hB l.length
  have h5 := Rat.mul_le_mul_of_nonneg_left hB h3
  refine h2.mono ?_
  rw [List.length_cons, BM]
  grind
include hS hB hs ht in
theorem DA : ∀ x : List Int, (∀ c ∈ x, Ab (c : Rat) S) → Ab (dd s t x) (BM S B x.length)
 | [], _ => by
  show Ab 0 S
  exact ⟨by grind, hS⟩
 | a :: l, h => by
  have h1 := DA l fun c hc => h c (List.mem_cons_of_mem _ hc)
  have h0 := QG hS hB ht l fun c hc => h c (List.mem_cons_of_mem _ hc)
  have h2 := h0.add (hs.mul h1)
  obtain ⟨h3, h4⟩ := nS hS hB l.length
  have h5 := Rat.mul_le_mul_of_nonneg_left hB h3
  refine h2.mono ?_
  rw [List.length_cons, BM]
  grind
include hS hB hs ht in
theorem aab : ∀ x : List Int, (∀ c ∈ x, Ab (c : Rat) S) → Ab (cc s t x) (BM S B x.length)
 | [], _ => by
  show Ab 0 S
  exact ⟨by grind, hS⟩
 | a :: l, h => by
  have h1 := aab l fun c hc => h c (List.mem_cons_of_mem _ hc)
  have h0 := DA hS hB hs ht l fun c hc => h c (List.mem_cons_of_mem _ hc)
  have h2 := h0.add (hs.mul h1)
  obtain ⟨h3, h4⟩ := nS hS hB l.length
  have h5 := Rat.mul_le_mul_of_nonneg_left hB h3
  refine h2.mono ?_
  rw [List.length_cons, BM]
  grind
end
theorem tX (t : Rat) : ∀ (l : List Int) (k : Nat), qv t (ZX.oD (k + 1) l) = qv t (ZX.oD k l) + qv t l
 | [], k => by simp only [ZX.oD, qv]; grind
 | a :: l, k => by
  simp only [ZX.oD, qv]
  rw [tX t l (k + 1)]
  have : ((k + 1 : Nat) : Int) = (k : Int) + 1 := by omega
  rw [this, Rat.intCast_mul, Rat.intCast_mul, Rat.intCast_add, Rat.intCast_one]; grind
theorem wS (t : Rat) : ∀ l : List Int, qv t (ZX.oD 1 l) = qv t l + t * dd t t l
 | [] => by simp only [ZX.oD, qv, dd]; grind
 | b :: m => by
  rw [ZX.oD]
  simp only [qv, dd]
  rw [tX, wS t m]
  rw [show ((1 : Nat) : Int) = 1 from rfl, Int.mul_one]
  grind
theorem aga (t : Rat) (x : ZX) : (ZX.bO x).e t = dd t t x.l := by
 rw [ZX.bO, ZX.aoM]
 obtain ⟨l, hl⟩ := x
 show qv t (ZX.u0 l) = dd t t l
 match l with
 | [] => rfl
 | a :: l => rw [ZX.C4, wS]; rfl
end Pm
namespace Pm
def BN (p : Int) : List Int → Nat
 | [] => 0
 | s :: l => if s = 0 then BN p l else (if p ≠ 0 ∧ s ≠ p then 1 else 0) + BN s l
def cl : List Int → List Int → Prop
 | [], [] => True
 | [x], [y] => x = y ∧ x ≠ 0
 | [_, x], [_, y] => x = y ∧ x ≠ 0
 | x0 :: x1 :: x2 :: x, y0 :: y1 :: y2 :: y => cl (x1 :: x2 :: x) (y1 :: y2 :: y) ∧ ((x1 = y1 ∧ x1 ≠ 0) ∨ (x0 = y0 ∧ x2 = y2 ∧ x0 = -x2 ∧ x2 ≠ 0))
 | _, _ => False
theorem FD : ∀ (n : Nat) (p : Int) (x y : List Int), x.length ≤ n → p ≠ 0 → (p = -1 ∨ p = 1) → (∀ s ∈ x, s = -1 ∨ s = 0 ∨ s = 1) → (∀ s ∈ y, s = -1 ∨ s = 0 ∨ s = 1) → cl (p :: x) (p :: y) → BN p x = BN p y
 | _, p, [], [], _, _, _, _, _, _ => rfl
 | _, p, [x1], [y1], _, _, _, _, _, h => by
  obtain ⟨rfl, h2⟩ := h
  rfl
 | _, p, [], [y1], _, _, _, _, _, h => by simp [cl] at h
 | _, p, [x1], [], _, _, _, _, _, h => by simp [cl] at h
 | _, p, [], _ :: _ :: _, _, _, _, _, _, h => by simp [cl] at h
 | _, p, _ :: _ :: _, [], _, _, _, _, _, h => by simp [cl] at h
 | _, p, [_], _ :: _ :: _, _, _, _, _, _, h => by simp [cl] at h
 | _, p, _ :: _ :: _, [_], _, _, _, _, _, h => by simp [cl] at h
 | 0, p, x1 :: x2 :: x, y1 :: y2 :: y, hn, _, _, _, _, _ => by simp at hn
 | n + 1, p, x1 :: x2 :: x, y1 :: y2 :: y, hn, hp, hp1, hx, hy, h => by
  obtain ⟨h1, h2⟩ := h
  rcases h2 with ⟨rfl, h2⟩ | ⟨_, rfl, h3, h4⟩
  ·have ih := FD n x1 (x2 :: x) (y2 :: y) (by simp at hn ⊢; omega) h2 (by have := hx x1 (by simp); omega) (fun s hs => hx s (List.mem_cons_of_mem _ hs)) (fun s hs => hy s (List.mem_cons_of_mem _ hs)) h1
   simp only [BN] at ih ⊢
   rw [if_neg h2, if_neg h2, ih]
  ·have ht : BN x2 x = BN x2 y := by
    refine FD n x2 x y (by simp at hn ⊢; omega) h4 (by have := hx x2 (by simp); omega) (fun s hs => hx s (by simp [hs])) (fun s hs => hy s (by simp [hs])) ?_
    match x, y, h1 with
    | [], [], _ => exact ⟨rfl, h4⟩
    | [], _ :: _, h1 => simp [cl] at h1
    | _ :: _, [], h1 => simp [cl] at h1
    | _ :: _, _ :: _, h1 => exact h1.1
   have key : ∀ z : Int, (z = -1 ∨ z = 0 ∨ z = 1) → ∀ w : List Int, BN p (z :: x2 :: w) = 1 + BN x2 w := fun z hz w => by
    simp only [BN]
    rcases hz with rfl | rfl | rfl
    ·rw [if_neg (by decide), if_neg h4]
     rcases hp1 with rfl | rfl
     ·rw [if_neg (by omega), if_pos (by omega)]; omega
     ·rw [if_pos (by omega), if_neg (by omega)]; omega
    ·rw [if_pos rfl, if_neg h4, if_pos (by omega)]
    ·rw [if_neg (by decide), if_neg h4]
     rcases hp1 with rfl | rfl
     ·rw [if_pos (by omega), if_neg (by omega)]; omega
     ·rw [if_neg (by omega), if_pos (by omega)]; omega
   rw [key x1 (hx x1 (by simp)), key y1 (hy y1 (by simp)), ht]
open ZX
def QH (ε t : Rat) : List ZX → Prop
 | [] => False
 | [a] => kC ε (e t a)
 | [_, b] => kC ε (e t b)
 | a :: b :: c :: l => QH ε t (b :: c :: l) ∧ (kC ε (e t b) ∨ (kC ε (e t a) ∧ kC ε (e t c) ∧ b6 (e t a) = -b6 (e t c)))
theorem QH.mono {ε δ t : Rat} (h : δ ≤ ε) : ∀ {l : List ZX}, QH ε t l → QH δ t l
 | [], g => g
 | [a], g => kC.mono g h
 | [a, b], g => kC.mono (x := e t b) g h
 | a :: b :: c :: l, g => ⟨QH.mono h g.1, by
  rcases g.2 with g | ⟨g1, g2, g3⟩
  ·exact .inl (g.mono h)
  ·exact .inr ⟨g1.mono h, g2.mono h, g3⟩⟩
theorem QH.two {ε t : Rat} {a b : ZX} : ∀ {l : List ZX}, QH ε t (a :: b :: l) → kC ε (e t a) ∨ kC ε (e t b)
 | [], g => .inr g
 | c :: l, g => by
  rcases g.2 with g | ⟨g1, g2, g3⟩
  ·exact .inr g
  ·exact .inl g1
def BO (t : Rat) (l : List ZX) : List Int := l.map fun p => b6 (e t p)
theorem xP {t : Rat} {l : List ZX} : ∀ s ∈ BO t l, s = -1 ∨ s = 0 ∨ s = 1 := fun s hs => by
 simp only [BO, List.mem_map] at hs
 obtain ⟨p, _, rfl⟩ := hs
 exact l5 _
theorem aac {ε s t : Rat} (hε : 0 < ε) : ∀ {l : List ZX}, QH ε s l → (∀ p ∈ l, ¬ kC ε (e t p - e s p)) → cl (BO s l) (BO t l)
 | [], g, _ => g.elim
 | [a], g, h => by
  obtain ⟨h1, h2⟩ := eE g hε (h a (by simp))
  exact ⟨h1.symm, h2⟩
 | [a, b], g, h => by
  obtain ⟨h1, h2⟩ := eE (x := e s b) g hε (h b (by simp))
  exact ⟨h1.symm, h2⟩
 | a :: b :: c :: l, g, h => by
  refine ⟨aac hε g.1 fun p hp => h p (List.mem_cons_of_mem _ hp), ?_⟩
  rcases g.2 with g | ⟨g1, g2, g3⟩
  ·obtain ⟨h1, h2⟩ := eE g hε (h b (by simp))
   exact .inl ⟨h1.symm, h2⟩
  ·obtain ⟨h1, h2⟩ := eE g1 hε (h a (by simp))
   obtain ⟨h3, h4⟩ := eE g2 hε (h c (by simp))
   exact .inr ⟨h1.symm, h3.symm, g3, h4⟩
def vt (l : List ZX) (t : Rat) : Nat := BN 0 (BO t l)
def ind (a : ZX) (s t : Rat) : Nat := if e s a ≠ 0 ∧ b6 (e t a) ≠ b6 (e s a) then 1 else 0
theorem adV {ε s t : Rat} (hε : 0 < ε) {a : ZX} {l : List ZX} (g : QH ε s (a :: l)) (h : ∀ p ∈ a :: l, ¬ kC ε (e t p - e s p))
  (hm : ∀ b k, l = b :: k → kC ε (e s b) → b6 (e t a - e s a) = b6 (e s b)) : vt (a :: l) s = vt (a :: l) t + ind a s t := by
 have hc := aac hε g h
 have hA : kC ε (e s a) → vt (a :: l) s = vt (a :: l) t + ind a s t := fun ha => by
  obtain ⟨h1, h2⟩ := eE ha hε (h a (by simp))
  have h3 : ind a s t = 0 := if_neg fun h => h.2 h1
  rw [h3]
  have U7 : cl (b6 (e s a) :: BO s l) (b6 (e s a) :: BO t l) := by
   have : BO t (a :: l) = b6 (e s a) :: BO t l := by rw [← h1]; rfl
   rw [this] at hc
   exact hc
  have h4 := FD _ _ _ _ (Nat.le_refl _) h2 (by have := l5 (e s a); omega) xP xP U7
  show BN 0 (b6 (e s a) :: BO s l) = BN 0 (b6 (e t a) :: BO t l) + 0
  rw [h1]
  simp only [BN]
  rw [if_neg h2, if_neg h2, h4]; omega
 match l, g, h, hc, hm, hA with
 | [], g, h, hc, hm, hA => exact hA g
 | b :: l, g, h, hc, hm, hA =>
  rcases g.two with ha | hb
  ·exact hA ha
  ·obtain ⟨h1, h2⟩ := eE hb hε (h b (by simp))
   have h3 := hm b l rfl hb
   have U7 : cl (b6 (e s b) :: BO s l) (b6 (e s b) :: BO t l) := by
    match l, hc with
    | [], hc => exact ⟨rfl, h2⟩
    | c :: l, hc =>
     have h8 : cl (b6 (e s b) :: BO s (c :: l)) (b6 (e t b) :: BO t (c :: l)) := hc.1
     rw [h1] at h8
     exact h8
   have h4 := FD _ _ _ _ (Nat.le_refl _) h2 (by have := l5 (e s b); omega) xP xP U7
   show BN 0 (b6 (e s a) :: b6 (e s b) :: BO s l) = BN 0 (b6 (e t a) :: b6 (e t b) :: BO t l) + ind a s t
   rw [h1]
   simp only [BN]
   rw [if_neg h2, if_neg h2, h4]
   have hi : ind a s t = if b6 (e s a) ≠ 0 ∧ b6 (e t a) ≠ b6 (e s a) then 1 else 0 := by
    unfold ind
    by_cases h6 : e s a = 0
    ·rw [if_neg (fun h7 => h7.1 h6), if_neg (fun h7 => h7.1 (fW.2 h6))]
    ·have h7 : b6 (e s a) ≠ 0 := fun h8 => h6 (fW.1 h8)
     simp only [ne_eq, h6, h7, not_false_eq_true, true_and]
   rw [hi]
   have hd : (b6 (e s b) = -1 → b6 (e t a) ≤ b6 (e s a) ∧ (b6 (e t a) = b6 (e s a) → b6 (e s a) ≠ 0)) ∧ (b6 (e s b) = 1 → b6 (e s a) ≤ b6 (e t a) ∧ (b6 (e t a) = b6 (e s a) → b6 (e s a) ≠ 0)) := by
    refine ⟨fun h6 => ?_, fun h6 => ?_⟩
    ·have h5 := M7.1 (h3.trans h6)
     rcases cJ (e s a) with ⟨q1, r1⟩ | ⟨q1, r1⟩ | ⟨q1, r1⟩ <;> rcases cJ (e t a) with ⟨q2, r2⟩ | ⟨q2, r2⟩ | ⟨q2, r2⟩ <;> rw [r1, r2] <;> first | decide | (exfalso; grind)
    ·have h5 := M8.1 (h3.trans h6)
     rcases cJ (e s a) with ⟨q1, r1⟩ | ⟨q1, r1⟩ | ⟨q1, r1⟩ <;> rcases cJ (e t a) with ⟨q2, r2⟩ | ⟨q2, r2⟩ | ⟨q2, r2⟩ <;> rw [r1, r2] <;> first | decide | (exfalso; grind)
   have m1 := l5 (e s a)
   have m2 := l5 (e t a)
   have m3 := l5 (e s b)
   generalize b6 (e s a) = σ at *
   generalize b6 (e t a) = τ at *
   generalize b6 (e s b) = γ at *
   generalize BN γ (BO t l) = T at *
   obtain ⟨d1, d2⟩ := hd
   clear hc U7 h1 h3 hm hA h g hb hi
   rcases m3 with rfl | rfl | rfl
   ·obtain ⟨d3, d4⟩ := d1 rfl
    rcases m1 with rfl | rfl | rfl <;> rcases m2 with rfl | rfl | rfl <;> first | (exfalso; omega) | (simp; try omega)
   ·exact absurd rfl h2
   ·obtain ⟨d3, d4⟩ := d2 rfl
    rcases m1 with rfl | rfl | rfl <;> rcases m2 with rfl | rfl | rfl <;> first | (exfalso; omega) | (simp; try omega)
end Pm
namespace Pm
open ZX hiding N W
def StC (M B : Rat) : List ZX → Prop
 | [] => False
 | [a] => ∃ c : Int, c ≠ 0 ∧ a = K c
 | [_, b] => ∃ c : Int, c ≠ 0 ∧ b = K c
 | a :: b :: c :: l => StC M B (b :: c :: l) ∧ ∃ (m k : Int) (q : ZX), 0 < m ∧ 0 < k ∧ K m * a = q * b - K k * c ∧ 2 * (m : Rat) ≤ M ∧ ∀ t, Ab t B → Ab (2 * e t q) M
def xB (M : Rat) : Nat → Rat
 | 0 => 1
 | k + 1 => xB M k / M
theorem FE {M : Rat} (hM : 2 ≤ M) (k : Nat) : M * xB M (k + 1) = xB M k := by
 rw [xB, Rat.mul_comm, Rat.div_mul_cancel (by grind)]
theorem tY {M : Rat} (hM : 2 ≤ M) : ∀ k, 0 < xB M k
 | 0 => by show (0 : Rat) < 1; decide
 | k + 1 => by
  have h1 := tY hM k
  have h2 := FE hM k
  refine Rat.not_le.1 fun h => ?_
  have h3 := Rat.mul_nonneg (show 0 ≤ M by grind) (show 0 ≤ -xB M (k + 1) by grind)
  grind
theorem FF {M : Rat} (hM : 2 ≤ M) (k : Nat) : xB M (k + 1) ≤ xB M k := by
 have h1 := tY hM (k + 1)
 have h2 := FE hM k
 have h3 := Rat.mul_le_mul_of_nonneg_right (show 1 ≤ M by grind) (Rat.le_of_lt h1)
 grind
theorem r8 {M : Rat} (hM : 2 ≤ M) : ∀ k, xB M k ≤ 1
 | 0 => Rat.le_refl
 | k + 1 => Rat.le_trans (FF hM k) (r8 hM k)
theorem FG {c : Int} (h : c ≠ 0) : kC 1 (c : Rat) := by
 rcases Int.lt_trichotomy c 0 with h1 | h1 | h1
 ·left
  have : ((c : Int) : Rat) ≤ ((-1 : Int) : Rat) := Rat.intCast_le_intCast.2 (by omega)
  rw [Rat.intCast_neg, Rat.intCast_one] at this
  exact this
 ·exact absurd h1 h
 ·right
  have : ((1 : Int) : Rat) ≤ ((c : Int) : Rat) := Rat.intCast_le_intCast.2 (by omega)
  rw [Rat.intCast_one] at this
  exact this
theorem eF {c : Int} (h : 0 < c) : (1 : Rat) ≤ (c : Rat) := by
 have : ((1 : Int) : Rat) ≤ ((c : Int) : Rat) := Rat.intCast_le_intCast.2 (by omega)
 rwa [Rat.intCast_one] at this
theorem aad {M ε ε' x y z q m k : Rat} (hM : 2 ≤ M) (he : M * ε' = ε) (hp : 0 < ε') (hm : 1 ≤ m) (hk : 1 ≤ k) (hmM : 2 * m ≤ M) (hq : Ab (2 * q) M) (e : m * x = q * y - k * z) (hy : ¬ kC ε' y) (hz : kC ε z) : kC ε' x ∧ b6 x = -b6 z := by
 have h1 := hq.mul (mK hy)
 rw [he] at h1
 obtain ⟨h2, h3⟩ := h1
 have hε : 0 < ε := by rw [← he]; exact Rat.mul_pos (by grind) hp
 have h6 := Rat.mul_le_mul_of_nonneg_right hmM (Rat.le_of_lt hp)
 rcases hz with hz | hz
 ·have h4 := Rat.mul_le_mul_of_nonneg_right hk (show 0 ≤ -z by grind)
  have h5 : ε ≤ 2 * (m * x) := by grind
  have h7 : ε' ≤ x := Rat.not_lt.1 fun h => by
   have := Rat.mul_lt_mul_of_pos_left h (show 0 < m by grind)
   grind
  refine ⟨.inr h7, ?_⟩
  rw [fK (x := z) (by grind), dY (x := x) (by grind)]; rfl
 ·have h4 := Rat.mul_le_mul_of_nonneg_right hk (show 0 ≤ z by grind)
  have h5 : 2 * (m * x) ≤ -ε := by grind
  have h7 : x ≤ -ε' := Rat.not_lt.1 fun h => by
   have := Rat.mul_lt_mul_of_pos_left h (show 0 < m by grind)
   grind
  refine ⟨.inl h7, ?_⟩
  rw [dY (x := z) (by grind), fK (x := x) (by grind)]
theorem StC.QH {M B t : Rat} (hM : 2 ≤ M) (ht : Ab t B) : ∀ {l : List ZX}, StC M B l → QH (xB M l.length) t l
 | [], h => h
 | [a], h => by
  obtain ⟨c, hc, rfl⟩ := h
  show kC _ (e t (K c))
  rw [e_K]
  exact (FG hc).mono (r8 hM _)
 | [a, b], h => by
  obtain ⟨c, hc, rfl⟩ := h
  show kC _ (e t (K c))
  rw [e_K]
  exact (FG hc).mono (r8 hM _)
 | a :: b :: c :: l, h => by
  obtain ⟨h1, m, k, q, hm, hk, he, hmM, hq⟩ := h
  have ih := StC.QH hM ht h1
  refine ⟨ih.mono (FF hM _), ?_⟩
  by_cases hb : kC (xB M (a :: b :: c :: l).length) (e t b)
  ·exact .inl hb
  ·have hc : kC (xB M (b :: c :: l).length) (e t c) := by
    rcases ih.two with h2 | h2
    ·exact absurd (h2.mono (FF hM _)) hb
    ·exact h2
   have TX : (m : Rat) * e t a = e t q * e t b - k * e t c := by
    rw [← e_K (t := t) m, ← wR, he, aoL, wR, wR, e_K]
   obtain ⟨g1, g2⟩ := aad hM (FE hM _) (tY hM _) (eF hm) (eF hk) hmM (hq t ht) TX hb hc
   exact .inr ⟨g1, hc.mono (FF hM _), g2⟩
structure Lcl (L : List ZX) (f : ZX) (B δ : Rat) : Prop where
 turns : ∀ s t, Ab s B → Ab t B → s < t → t - s ≤ δ → vt L s = vt L t + ind f s t
 simple : ∀ s t, Ab s B → Ab t B → s < t → t - s ≤ δ → e s f = 0 → e t f ≠ 0
theorem wT {h x Q ε : Rat} (hh : 0 ≤ h) (hx : Ab x Q) (hQ : h * Q < ε) : ¬ kC ε (h * x) := fun hb => by
 obtain ⟨h1, h2⟩ := (Ab.mul (x := h) (M := h) ⟨by grind, Rat.le_refl⟩ hx)
 rcases hb with hb | hb <;> grind
theorem TY {h x Q ε c y d1 d2 : Rat} (hh : 0 < h) (hε : 0 < ε) (hc : 1 ≤ c) (hx : Ab x Q) (hQ : h * Q < ε) (hy : kC ε y) (e1 : d1 = c * y) (e2 : d2 - d1 = h * x) : b6 (h * d2) = b6 y := by
 obtain ⟨h1, h2⟩ := (Ab.mul (x := h) (M := h) ⟨by grind, Rat.le_refl⟩ hx)
 have hs : b6 (h * d2) = b6 d2 := by rw [qH, dY hh]; omega
 rw [hs]
 rcases hy with hy | hy
 ·have := Rat.mul_le_mul_of_nonneg_right hc (show 0 ≤ -y by grind)
  rw [fK (show y < 0 by grind), fK (show d2 < 0 by grind)]
 ·have := Rat.mul_le_mul_of_nonneg_right hc (show 0 ≤ y by grind)
  rw [dY (show 0 < y by grind), dY (show 0 < d2 by grind)]
theorem StC.loc {M B S Q δ : Rat} {f : ZX} {l : List ZX} (hM : 2 ≤ M) (hB : 1 ≤ B) (hS : 0 ≤ S) (h : StC M B (f :: l)) (hb : ∀ p ∈ f :: l, (∀ c ∈ p.l, Ab (c : Rat) S) ∧ BM S B p.l.length ≤ Q) (hd : ∀ g k, l = g :: k → ∃ c : Int, 0 < c ∧ bO f = K c * g)
  (hδ : δ * Q < xB M (f :: l).length) : Lcl (f :: l) f B δ := by
 have hQ0 : 0 ≤ Q := by
  obtain ⟨h1, h2⟩ := hb f (by simp)
  obtain ⟨h3, h4⟩ := nS hS hB f.l.length
  grind
 have hε := tY hM (f :: l).length
 have qN : ∀ s t : Rat, s < t → t - s ≤ δ → (t - s) * Q < xB M (f :: l).length := fun s t lE hd => by
  have := Rat.mul_le_mul_of_nonneg_right hd hQ0
  grind
 have key : ∀ s t, Ab s B → Ab t B → s < t → t - s ≤ δ → (∀ p ∈ f :: l, ¬ kC (xB M (f :: l).length) (e t p - e s p)) ∧ ∀ b k, l = b :: k → kC (xB M (f :: l).length) (e s b) → b6 (e t f - e s f) = b6 (e s b) := fun s t hs ht lE hsd => by
  refine ⟨fun p hp => ?_, fun b k hbk NA => ?_⟩
  ·obtain ⟨h1, h2⟩ := hb p hp
   show ¬ kC _ (qv t p.l - qv s p.l)
   rw [lA]
   exact wT (by grind) ((DA hS hB hs ht p.l h1).mono h2) (qN s t lE hsd)
  ·obtain ⟨c, hc, he⟩ := hd b k hbk
   obtain ⟨h1, h2⟩ := hb f (by simp)
   show b6 (qv t f.l - qv s f.l) = _
   rw [lA]
   exact TY (d1 := dd s s f.l) (by grind) hε (eF hc) ((aab hS hB hs ht f.l h1).mono h2) (qN s t lE hsd) NA (by rw [← aga, he, wR, e_K]) (M9 s t f.l)
 refine ⟨fun s t hs ht lE hsd => ?_, fun s t hs ht lE hsd h0 => ?_⟩
 ·obtain ⟨k1, k2⟩ := key s t hs ht lE hsd
  exact adV hε (h.QH hM hs) k1 k2
 ·obtain ⟨k1, k2⟩ := key s t hs ht lE hsd
  have g := h.QH hM hs
  have nb : ¬ kC (xB M (f :: l).length) (e s f) := by
   rw [h0]
   rintro (h1 | h1) <;> grind
  match l, g, k2 with
  | [], g, _ => exact absurd g nb
  | b :: k, g, k2 =>
   have NA := g.two.resolve_left nb
   have h2 := k2 b k rfl NA
   intro h3
   rw [h0, h3, show (0 : Rat) - 0 = 0 by grind, k9] at h2
   have h4 := fW.1 h2.symm
   rw [h4] at NA
   rcases NA with h1 | h1 <;> grind
theorem aja {B δ : Rat} (hδ : 0 < δ) {P : Rat → Rat → Prop} (ht : ∀ a b c, a < b → b < c → P a b → P b c → P a c) (hs : ∀ a b, Ab a B → Ab b B → a < b → b - a ≤ δ → P a b) {a b : Rat} (ha : Ab a B) (hb : Ab b B) (fH : a < b) : P a b := by
 have key : ∀ (n : Nat) (a b : Rat), Ab a B → Ab b B → a < b → b - a ≤ (n : Rat) * δ → P a b := by
  intro n
  induction n with
  | zero => intro a b _ _ h1 h2; exfalso; rw [show ((0 : Nat) : Rat) = 0 from rfl] at h2; grind
  | succ n ih =>
   intro a b ha hb h1 h2
   by_cases h3 : b - a ≤ δ
   ·exact hs a b ha hb h1 h3
   ·have h3 := Rat.not_le.1 h3
    obtain ⟨a1, a2⟩ := ha
    obtain ⟨b1, b2⟩ := hb
    have hm : Ab (a + δ) B := ⟨by grind, by grind⟩
    refine ht a (a + δ) b (by grind) (by grind) (hs _ _ ⟨a1, a2⟩ hm (by grind) (by grind)) (ih _ _ hm ⟨b1, b2⟩ (by grind) ?_)
    rw [show ((n + 1 : Nat) : Rat) = (n : Rat) + 1 from by rw [Rat.natCast_add]; rfl] at h2
    grind
 have h1 := Rat.lt_floor_add_one ((b - a) / δ)
 have h2 : 0 ≤ ((b - a) / δ).floor := Rat.le_floor_iff.2 (by
  have := (Rat.lt_div_iff (a := 0) (b := b - a) hδ).2 (by grind)
  show ((0 : Int) : Rat) ≤ _
  rw [Rat.intCast_zero]; exact Rat.le_of_lt this)
 refine key ((((b - a) / δ).floor + 1).toNat) a b ha hb fH ?_
 have h3 : (((((b - a) / δ).floor + 1).toNat : Nat) : Rat) = ((((b - a) / δ).floor + 1 : Int) : Rat) := by
  rw [← Rat.intCast_natCast, Int.toNat_of_nonneg (by omega)]
 rw [h3]
 have h4 := (Rat.div_lt_iff hδ).1 h1
 exact Rat.le_of_lt h4
structure xC (L : List ZX) (f : ZX) : Prop where
 loc : ∀ B : Rat, 1 ≤ B → ∃ δ, 0 < δ ∧ Lcl L f B δ
theorem r9 (a b : Rat) : ∃ B : Rat, 1 ≤ B ∧ Ab a B ∧ Ab b B := by
 have h1 : ∀ x : Rat, ∃ B : Rat, 1 ≤ B ∧ Ab x B := fun x => by
  by_cases h : 0 ≤ x
  ·exact ⟨x + 1, by grind, by grind, by grind⟩
  ·exact ⟨-x + 1, by grind, by grind, by grind⟩
 obtain ⟨A, hA, ha⟩ := h1 a
 obtain ⟨B, hB, hb⟩ := h1 b
 exact ⟨A + B, by grind, ha.mono (by grind), hb.mono (by grind)⟩
namespace xC
variable {L : List ZX} {f : ZX} (h : xC L f)
include h
theorem aae {P : Rat → Rat → Prop} (ht : ∀ a b c, a < b → b < c → P a b → P b c → P a c) (hs : ∀ B δ, Lcl L f B δ → ∀ a b, Ab a B → Ab b B → a < b → b - a ≤ δ → P a b) {a b : Rat} (fH : a < b) : P a b := by
 obtain ⟨B, hB, ha, hb⟩ := r9 a b
 obtain ⟨δ, hδ, hl⟩ := h.loc B hB
 exact aja hδ ht (hs B δ hl) ha hb fH
theorem cD {a b : Rat} (fH : a ≤ b) : vt L b ≤ vt L a := by
 rcases Rat.le_iff_lt_or_eq.1 fH with h1 | rfl
 ·refine h.aae (P := fun a b => vt L b ≤ vt L a) (fun a b c _ _ h1 h2 => Nat.le_trans h2 h1) (fun B δ hl a b ha hb fH hd => ?_) h1
  rw [hl.turns a b ha hb fH hd]; omega
 ·exact Nat.le_refl _
theorem flat {a b : Rat} (fH : a < b) (he : vt L a = vt L b) : e b f ≠ 0 ∧ (e a f ≠ 0 → b6 (e b f) = b6 (e a f)) := by
 refine h.aae (P := fun a b => vt L a = vt L b → e b f ≠ 0 ∧ (e a f ≠ 0 → b6 (e b f) = b6 (e a f))) (fun a b c h1 h2 p1 p2 hac => ?_) (fun B δ hl a b ha hb fH hd heq => ?_) fH he
 ·have := h.cD (Rat.le_of_lt h1)
  have := h.cD (Rat.le_of_lt h2)
  obtain ⟨q1, q2⟩ := p1 (by omega)
  obtain ⟨q3, q4⟩ := p2 (by omega)
  exact ⟨q3, fun ha => by rw [q4 q1, q2 ha]⟩
 ·have h1 := hl.turns a b ha hb fH hd
  have h2 : ind f a b = 0 := by omega
  unfold ind at h2
  by_cases h0 : e a f = 0
  ·exact ⟨hl.simple a b ha hb fH hd h0, fun h3 => absurd h0 h3⟩
  ·have h3 : b6 (e b f) = b6 (e a f) := Classical.byContradiction fun h3 => by rw [if_pos ⟨h0, h3⟩] at h2; omega
   refine ⟨fun h4 => h0 (fW.1 ?_), fun _ => h3⟩
   rw [← h3, h4, k9]
theorem const {a b : Rat} (fH : a < b) {σ : Int} (h0 : e a f = 0 ∨ b6 (e a f) = σ) (h1 : ∀ x, a < x → x ≤ b → b6 (e x f) = σ) : vt L a = vt L b := by
 refine h.aae (P := fun x y => a ≤ x → y ≤ b → vt L x = vt L y) (fun x y z uH hyz p1 p2 hax hzb => (p1 hax (by grind)).trans (p2 (by grind) hzb)) (fun B δ hl x y hx hy uH hd hax hyb => ?_) fH Rat.le_refl Rat.le_refl
 rw [hl.turns x y hx hy uH hd]
 have h2 : ind f x y = 0 := if_neg fun h3 => by
  obtain ⟨h4, h5⟩ := h3
  rw [h1 y (by grind) hyb] at h5
  rcases Rat.le_iff_lt_or_eq.1 hax with h6 | rfl
  ·exact h5 (h1 x h6 (by grind)).symm
  ·rcases h0 with h0 | h0
   ·exact h4 h0
   ·exact h5 h0.symm
 omega
theorem root {s t : Rat} (lE : s < t) (h0 : e t f = 0) : vt L t < vt L s := by
 have h1 := h.cD (Rat.le_of_lt lE)
 refine Nat.lt_of_le_of_ne h1 fun h2 => ?_
 exact (h.flat lE h2.symm).1 h0
theorem count {roots : List Rat} (hn : roots.Nodup) (hr : ∀ r ∈ roots, e r f = 0) (hc : ∀ a b, a < b → (∀ r ∈ roots, a < r → b < r) → vt L a = vt L b) {a b : Rat} (fH : a < b) : vt L a = vt L b + (roots.countP fun r => decide (a < r ∧ r ≤ b)) := by
 refine h.aae (P := fun a b => vt L a = vt L b + (roots.countP fun r => decide (a < r ∧ r ≤ b))) (fun a b c h1 h2 p1 p2 => ?_) (fun B δ hl a b ha hb fH hd => ?_) fH
 ·rw [p1, p2]
  have : ∀ l : List Rat, (l.countP fun r => decide (a < r ∧ r ≤ c)) = (l.countP fun r => decide (a < r ∧ r ≤ b)) + (l.countP fun r => decide (b < r ∧ r ≤ c)) := fun l => by
   induction l with
   | nil => rfl
   | cons x l ih =>
    rw [List.countP_cons, List.countP_cons, List.countP_cons, ih]
    by_cases q1 : a < x ∧ x ≤ b
    ·have q2 : ¬ (b < x ∧ x ≤ c) := fun q => by grind
     have q3 : a < x ∧ x ≤ c := ⟨q1.1, by grind⟩
     rw [if_pos (decide_eq_true q3), if_pos (decide_eq_true q1), if_neg (fun h => q2 (of_decide_eq_true h))]; omega
    ·by_cases q2 : b < x ∧ x ≤ c
     ·have q3 : a < x ∧ x ≤ c := ⟨by grind, q2.2⟩
      rw [if_pos (decide_eq_true q3), if_neg (fun h => q1 (of_decide_eq_true h)), if_pos (decide_eq_true q2)]; omega
     ·have q3 : ¬ (a < x ∧ x ≤ c) := fun q => by
       by_cases q4 : x ≤ b
       ·exact q1 ⟨q.1, q4⟩
       ·exact q2 ⟨Rat.not_le.1 q4, q.2⟩
      rw [if_neg (fun h => q3 (of_decide_eq_true h)), if_neg (fun h => q1 (of_decide_eq_true h)), if_neg (fun h => q2 (of_decide_eq_true h))]; omega
  rw [this roots]; omega
 ·have h1 := hl.turns a b ha hb fH hd
  have h2 : ind f a b ≤ 1 := by unfold ind; split <;> omega
  have hm : ∀ r, r ∈ roots.filter (fun r => decide (a < r ∧ r ≤ b)) ↔ r ∈ roots ∧ a < r ∧ r ≤ b := fun r => by simp [List.mem_filter]
  have G0 : (roots.filter (fun r => decide (a < r ∧ r ≤ b))).Nodup := hn.filter _
  rw [List.countP_eq_length_filter]
  match hF : roots.filter (fun r => decide (a < r ∧ r ≤ b)), hm, G0 with
  | [], hm, _ =>
   rw [List.length_nil, Nat.add_zero]
   refine hc a b fH fun r hr h3 => Rat.not_le.1 fun h4 => ?_
   have := (hm r).2 ⟨hr, h3, h4⟩
   simp at this
  | [r], hm, _ =>
   obtain ⟨g1, g2, g3⟩ := (hm r).1 (by simp)
   have := h.root g2 (hr r g1)
   have := h.cD g3
   simp only [List.length_cons, List.length_nil]
   omega
  | r :: q :: l, hm, G0 =>
   exfalso
   obtain ⟨g1, g2, g3⟩ := (hm r).1 (by simp)
   obtain ⟨k1, k2, k3⟩ := (hm q).1 (by simp)
   have sH : r ≠ q := by
    simp only [List.nodup_cons, List.mem_cons, not_or] at G0
    exact G0.1.1
   rcases Rat.le_total (a := r) (b := q) with h5 | h5
   ·have := h.root (Rat.lt_of_le_of_ne h5 sH) (hr q k1)
    have := h.root g2 (hr r g1)
    have := h.cD k3
    omega
   ·have := h.root (Rat.lt_of_le_of_ne h5 (Ne.symm sH)) (hr r g1)
    have := h.root k2 (hr q k1)
    have := h.cD g3
    omega
end xC
theorem xQ {a b : Int} {l : List Int} (h : Cn (a :: b :: l)) : Cn (b :: l) := by
 unfold Cn at h ⊢
 rw [aM] at h
 split at h
 ·simp at h
 ·simpa using h
theorem u6 {a b : Int} {l : List Int} : lead (a :: b :: l) = lead (b :: l) := by
 unfold lead
 simp only [List.length_cons, Nat.add_sub_cancel]
 rw [iO]
theorem DB {S t : Rat} (hS : 0 ≤ S) (ht : S + 1 ≤ t) : ∀ {x : List Int}, Cn x → 0 < x.length → (∀ c ∈ x, Ab (c : Rat) S) → (0 < lead x → 1 ≤ qv t x) ∧ (lead x < 0 → qv t x ≤ -1)
 | [a], hc, _, _ => by
  have e1 : qv t [a] = (a : Rat) := by simp only [qv]; grind
  have e2 : lead [a] = a := rfl
  rw [e1, e2]
  refine ⟨fun h => eF h, fun h => ?_⟩
  have : ((a : Int) : Rat) ≤ ((-1 : Int) : Rat) := Rat.intCast_le_intCast.2 (by omega)
  rwa [Rat.intCast_neg, Rat.intCast_one] at this
 | a :: b :: l, hc, _, hb => by
  obtain ⟨h1, h2⟩ := DB hS ht (xQ hc) (by simp) fun c hc => hb c (List.mem_cons_of_mem _ hc)
  obtain ⟨h3, h4⟩ := hb a (by simp)
  have e1 : qv t (a :: b :: l) = a + t * qv t (b :: l) := rfl
  rw [u6, e1]
  refine ⟨fun h => ?_, fun h => ?_⟩
  ·have := Rat.mul_le_mul_of_nonneg_left (h1 h) (show 0 ≤ t by grind)
   grind
  ·have := Rat.mul_le_mul_of_nonneg_left (show 1 ≤ -qv t (b :: l) by have := h2 h; grind) (show 0 ≤ t by grind)
   grind
theorem JR {S t : Rat} (hS : 0 ≤ S) (ht : t ≤ -(S + 1)) : ∀ {x : List Int}, Cn x → 0 < x.length → (∀ c ∈ x, Ab (c : Rat) S) → (0 < (if x.length % 2 = 0 then -lead x else lead x) → 1 ≤ qv t x) ∧ ((if x.length % 2 = 0 then -lead x else lead x) < 0 → qv t x ≤ -1)
 | [a], hc, _, _ => by
  have e1 : qv t [a] = (a : Rat) := by simp only [qv]; grind
  have e2 : lead [a] = a := rfl
  rw [e1, e2, if_neg (by simp)]
  refine ⟨fun h => eF h, fun h => ?_⟩
  have : ((a : Int) : Rat) ≤ ((-1 : Int) : Rat) := Rat.intCast_le_intCast.2 (by omega)
  rwa [Rat.intCast_neg, Rat.intCast_one] at this
 | a :: b :: l, hc, _, hb => by
  obtain ⟨h1, h2⟩ := JR hS ht (xQ hc) (by simp) fun c hc => hb c (List.mem_cons_of_mem _ hc)
  obtain ⟨h3, h4⟩ := hb a (by simp)
  have e1 : qv t (a :: b :: l) = a + t * qv t (b :: l) := rfl
  have e2 : (if (a :: b :: l).length % 2 = 0 then -lead (a :: b :: l) else lead (a :: b :: l)) = -(if (b :: l).length % 2 = 0 then -lead (b :: l) else lead (b :: l)) := by
   rw [u6]
   simp only [List.length_cons]
   split <;> split <;> omega
  rw [e2, e1]
  generalize (if (b :: l).length % 2 = 0 then -lead (b :: l) else lead (b :: l)) = z at *
  refine ⟨fun h => ?_, fun h => ?_⟩
  ·have := Rat.mul_le_mul_of_nonneg_left (show 1 ≤ -qv t (b :: l) by have := h2 (by omega); grind) (show 0 ≤ -t by grind)
   grind
  ·have := Rat.mul_le_mul_of_nonneg_left (h1 (by omega)) (show 0 ≤ -t by grind)
   grind
theorem DC {S t : Rat} (hS : 0 ≤ S) {x : List Int} (hc : Cn x) (hb : ∀ c ∈ x, Ab (c : Rat) S) : (S + 1 ≤ t → b6 (qv t x) = (lead x).sign) ∧ (t ≤ -(S + 1) → b6 (qv t x) = if x.length % 2 = 0 then -(lead x).sign else (lead x).sign) := by
 rcases Nat.eq_zero_or_pos x.length with h0 | h0
 ·have : x = [] := List.eq_nil_of_length_eq_zero h0
  subst this
  refine ⟨fun _ => ?_, fun _ => ?_⟩ <;> simp only [qv] <;> decide
 ·have hl := cI hc h0
  refine ⟨fun ht => ?_, fun ht => ?_⟩
  ·obtain ⟨h1, h2⟩ := DB hS ht hc h0 hb
   rcases Int.lt_trichotomy (lead x) 0 with h | h | h
   ·have := h2 h
    rw [Int.sign_eq_neg_one_of_neg h, fK (by grind)]
   ·exact absurd h hl
   ·have := h1 h
    rw [Int.sign_eq_one_of_pos h, dY (by grind)]
  ·obtain ⟨h1, h2⟩ := JR hS ht hc h0 hb
   rcases Int.lt_trichotomy (lead x) 0 with h | h | h
   ·rw [Int.sign_eq_neg_one_of_neg h]
    split
    ·rw [if_pos (by assumption)] at h1
     have := h1 (by omega)
     rw [dY (by grind)]; rfl
    ·rw [if_neg (by assumption)] at h2
     have := h2 h
     rw [fK (by grind)]
   ·exact absurd h hl
   ·rw [Int.sign_eq_one_of_pos h]
    split
    ·rw [if_pos (by assumption)] at h2
     have := h2 (by omega)
     rw [fK (by grind)]
    ·rw [if_neg (by assumption)] at h1
     have := h1 h
     rw [dY (by grind)]
end Pm
namespace Pm
open ZX hiding N W
theorem kC.mul {x y η θ : Rat} (hη : 0 < η) (hθ : 0 < θ) (h : kC η x) (h' : kC θ y) : kC (η * θ) (x * y) := by
 have key : ∀ {u v : Rat}, η ≤ u → θ ≤ v → η * θ ≤ u * v := fun {u v} h1 h2 => by
  have p1 := Rat.mul_le_mul_of_nonneg_left h2 (Rat.le_of_lt hη)
  have p2 := Rat.mul_le_mul_of_nonneg_right h1 (show 0 ≤ v by grind)
  grind
 rcases h with h | h <;> rcases h' with h' | h'
 ·right; have := key (show η ≤ -x by grind) (show θ ≤ -y by grind); grind
 ·left; have := key (show η ≤ -x by grind) h'; grind
 ·left; have := key h (show θ ≤ -y by grind); grind
 ·right; exact key h h'
def Bg (a b : Rat) (p : ZX) : Prop := ∃ η : Rat, 0 < η ∧ ∀ x, a ≤ x → x ≤ b → kC η (e x p)
theorem Bg.mono {a b c d : Rat} {p : ZX} (h : Bg a b p) (hc : a ≤ c) (hd : d ≤ b) : Bg c d p := by
 obtain ⟨η, h1, h2⟩ := h
 exact ⟨η, h1, fun x hx hy => h2 x (by grind) (by grind)⟩
theorem FH (l : List Int) : ∃ S : Rat, 0 ≤ S ∧ ∀ c ∈ l, Ab (c : Rat) S := by
 induction l with
 | nil => exact ⟨0, Rat.le_refl, fun c hc => by cases hc⟩
 | cons a l ih =>
  obtain ⟨S, hS, h⟩ := ih
  obtain ⟨A, hA, ha, _⟩ := r9 a a
  refine ⟨S + A, by grind, fun c hc => ?_⟩
  rcases List.mem_cons.1 hc with rfl | hc
  ·exact ha.mono (by grind)
  ·exact (h c hc).mono (by grind)
theorem dK {a b x B : Rat} (ha : Ab a B) (hb : Ab b B) (hx : a ≤ x) (hy : x ≤ b) : Ab x B := by
 obtain ⟨h1, h2⟩ := ha
 obtain ⟨h3, h4⟩ := hb
 exact ⟨by grind, by grind⟩
theorem Bg.same {a b : Rat} {f : ZX} (h : Bg a b f) {x y : Rat} (hx : a ≤ x) (uH : x < y) (hy : y ≤ b) : b6 (e y f) = b6 (e x f) ∧ b6 (e x f) ≠ 0 := by
 obtain ⟨η, hη, h2⟩ := h
 obtain ⟨B, hB, ha, hb⟩ := r9 a b
 obtain ⟨S, hS, hc⟩ := FH f.l
 obtain ⟨h3, _⟩ := nS hS hB f.l.length
 generalize hQ : BM S B f.l.length = Q at *
 have hQ1 : 0 < Q + 1 := by grind
 have hδ : η / (Q + 1) * (Q + 1) = η := Rat.div_mul_cancel (Rat.ne_of_gt hQ1)
 have hδ0 : 0 < η / (Q + 1) := (Rat.lt_div_iff hQ1).2 (by grind)
 generalize η / (Q + 1) = δ at *
 refine aja (B := B) hδ0 (P := fun x y => a ≤ x → y ≤ b → b6 (e y f) = b6 (e x f) ∧ b6 (e x f) ≠ 0) (fun x y z h1 h2 p1 p2 hx hz => ?_) (fun x y hx hy uH hd hax hyb => ?_) (dK ha hb hx (by grind)) (dK ha hb (by grind) hy) uH hx hy
 ·obtain ⟨q1, q2⟩ := p1 hx (by grind)
  obtain ⟨q3, q4⟩ := p2 (by grind) hz
  exact ⟨q3.trans q1, q2⟩
 ·refine eE (h2 x hax (by grind)) hη ?_
  show ¬ kC η (qv y f.l - qv x f.l)
  rw [lA]
  refine wT (Q := Q) (by grind) (hQ ▸ DA hS hB hx hy f.l hc) ?_
  have := Rat.mul_le_mul_of_nonneg_right hd h3
  grind
theorem xC.bg {L : List ZX} {f : ZX} (h : xC L f) {a b : Rat} (hb : Bg a b f) (fH : a < b) : vt L a = vt L b := by
 refine h.const fH (σ := b6 (e a f)) (.inr rfl) fun x hx hy => ?_
 exact (hb.same Rat.le_refl hx hy).1
end Pm
namespace Go.Proofs.YtbbjgncblhfegaaGreat
open Go Pm
abbrev T2 (n d : Int) : PV := .ag [.bool (decide (n < 0)), us (aR LL n.natAbs), .bool (decide (d < 0)), us (aR LL d.natAbs)]
abbrev RT (q : Rat) : PV := T2 q.num q.den
theorem atH (n d : Int) : ((bH [n, d] : Nat) : Int) = Int.gcd n d := by
 simp only [bH, List.foldl_cons, List.foldl_nil, Nat.gcd_zero_left]
 rfl
theorem ajc {n d : Int} (h : d ≠ 0) : (cX n d).num = (if d < 0 then -n else n) / (bH [n, d] : Nat) ∧ ((cX n d).den : Int) = (if d < 0 then -d else d) / (bH [n, d] : Nat) := by
 have e : ∀ m k : Int, (m = n ∨ m = -n) → (k = d ∨ k = -d) → ((Int.gcd m k : Nat) : Int) = (bH [n, d] : Nat) := fun m k hm hk => by
  rw [atH]
  rcases hm with rfl | rfl <;> rcases hk with rfl | rfl <;> simp
 rw [tH n d h, tI n d h]
 constructor
 ·rw [e _ _ (by split <;> simp) (by split <;> simp)]
 ·rw [e _ _ (by split <;> simp) (by split <;> simp)]
theorem sA {n d : Int} (hn : sz LL n < 1099511627770) (hd : sz LL d < 1099511627770) (h0 : d ≠ 0) : aL env.P 192 [I n, I d] (RT (cX n d)) := by
 have sn : Sz n := by show _ < _; omega
 have sd : Sz d := by show _ < _; omega
 have g0 := IH [qO n, qO d] 1099511627770 (by decide) (fun c hc => by
  simp only [List.mem_cons, List.not_mem_nil, or_false] at hc
  rcases hc with rfl | rfl
  ·exact ⟨eP fL _, by unfold sz at hn; show (aR LL n.natAbs).length ≤ _; omega⟩
  ·exact ⟨eP fL _, by unfold sz at hd; show (aR LL d.natAbs).length ≤ _; omega⟩) (by simp)
 rw [show [qO n, qO d].map gv = [n, d] by simp [H3]] at g0
 obtain ⟨q1, q2⟩ := ajc (n := n) h0
 have gd1 : ((bH [n, d] : Nat) : Int) ∣ n := fV _ n (by simp)
 have gd2 : ((bH [n, d] : Nat) : Int) ∣ d := fV _ d (by simp)
 have gne : ((bH [n, d] : Nat) : Int) ≠ 0 := by
  have := I4 (x := [n, d]) (c := d) (by simp) h0; omega
 have gle : ((bH [n, d] : Nat) : Int).natAbs ≤ d.natAbs := Nat.le_of_dvd (by omega) (Int.natAbs_dvd_natAbs.2 gd2)
 have gsz : sz LL ((bH [n, d] : Nat) : Int) < 1099511627774 := Nat.lt_of_le_of_lt (cU fL gle) (by omega)
 have nn : ∀ v, p6 (aR LL v) ↔ p6 (aR LL v) := fun _ => Iff.rfl
 have neg : ∀ v : Int, Sz v → aL env.P 142 [I v] (I (-v)) := fun v hv => by
  have := zA (decide (v < 0)) (aR LL v.natAbs) hv.UX
  rw [show iv (decide (v < 0)) (aR LL v.natAbs) = v from H3 v] at this
  exact this
 generalize hg : ((bH [n, d] : Nat) : Int) = g at *
 have ex : ∀ v : Int, g ∣ v → sz LL v < 1099511627774 → aL env.P 234 [I v, I g] (.eN [I (v / g), .int .i64 0]) := fun v hv hs => by
  have := ET hs gsz gne
  rw [if_pos (Int.emod_eq_zero_of_dvd hv)] at this
  exact this
 have n1 := neg n sn
 have n2 := neg d sd
 have aoO : ∀ v : Int, sz LL (-v) = sz LL v := fun v => by unfold sz; rw [Int.natAbs_neg]
 have e1 := ex (if d < 0 then -n else n) (by split; exact (Int.dvd_neg.2 gd1); exact gd1) (by split; rw [aoO]; omega; omega)
 have e2 := ex (if d < 0 then -d else d) (by split; exact (Int.dvd_neg.2 gd2); exact gd2) (by split; rw [aoO]; omega; omega)
 rw [← q1] at e1
 rw [← q2] at e2
 have eg : Pg [qO n, qO d] = .sl [[.bool (decide (n < 0)), us (aR LL n.natAbs)], [.bool (decide (d < 0)), us (aR LL d.natAbs)]] := rfl
 rw [eg] at g0
 show aL env.P _ _ (T2 (cX n d).num (cX n d).den)
 generalize (cX n d).num = rn at *
 generalize ((cX n d).den : Int) = rd at *
 refine aB (E := env) (fun _ => 0) [(0, I n), (1, I d)] Tryz.func192 rfl (by kernel_rfl) (by kernel_rfl) (show 2 ≤ 31 by decide) (by simp) ?_
 refine W.sr ?_; simp (disch := omega) [gw]; refine W.lx [2, 3, 4] ?_; simp
 refine W.sr ?_
 simp (disch := omega) [gw]
 refine aA g0 ?_
 simp (disch := omega) [gw]
 refine W.lx [2, 3, 4, 5] ?_; simp
 generalize xF : (if d < 0 then -n else n) = n' at *
 generalize VQ : (if d < 0 then -d else d) = d' at *
 refine W.fQ (fun σ => ∃ (rows : Pm.Rows) (clk : Nat), σ = ⟨fa [(2, .ptr 2 0 0 0), (3, .ptr 3 1 0 0), (4, .ptr 4 2 0 0), (5, .ptr 5 3 0 0)], rows, clk⟩ ∧ rows 2 = some ⟨0, 40, 2, [ie n']⟩ ∧ rows 3 = some ⟨1, 40, 2, [ie d']⟩ ∧ rows 4 = some ⟨2, 42, 4, [[.bool false, .nil, .bool false, .nil]]⟩ ∧ rows 5 = some ⟨3, 40, 2, [ie g]⟩) ?_ ?_
 ·refine W.sr ?_; simp (disch := omega) [gw]; refine W.lx [2, 3, 4, 5, 11] ?_; simp
  refine W.cond ⟨_, rfl, fun h => ?_, fun h => ?_⟩
  ·have h : d < 0 := by simpa using h
   rw [if_pos h] at xF VQ
   subst xF VQ
   refine W.HS (fun K hK => ?_)
   simp (disch := omega) [gw]
   refine aA n1 ?_
   simp (disch := omega) [gw]
   refine aA n2 ?_
   simp (disch := omega) [gw]
   (try (refine cP (of_decide_eq_true (by kernel_rfl)) ?_)); (try simp (maxSteps := 4000000) (disch := omega) [gw]); (repeat rw [if_pos (by kernel_rfl)]); (try simp (maxSteps := 4000000) (disch := omega) [gw])
   (try (refine cP (of_decide_eq_true (by kernel_rfl)) ?_)); (try simp (maxSteps := 4000000) (disch := omega) [gw]); (repeat rw [if_pos (by kernel_rfl)]); (try simp (maxSteps := 4000000) (disch := omega) [gw])
   exact hK _ ⟨_, aC _ [2, 3, 4, 5], _, _, rfl, by simp, by simp, by simp, by simp⟩
  ·have h : ¬ d < 0 := by simpa using h
   rw [if_neg h] at xF VQ
   subst xF VQ
   refine W.skip ?_
   exact ⟨_, aC _ [2, 3, 4, 5], _, _, rfl, by simp, by simp, by simp, by simp⟩
 rintro _ ⟨rows, clk, rfl, cT, gU, jF, lT⟩
 simp only [ie] at cT gU lT
 refine W.sr ?_
 simp (disch := omega) [gw, cT, lT]
 refine aA e1 ?_
 simp (disch := omega) [gw, cT]
 refine W.lx [2, 3, 4, 5] ?_; simp
 refine W.sr ?_
 simp (disch := omega) [gw, gU, lT]
 refine aA e2 ?_
 simp (disch := omega) [gw, gU]
 refine W.lx [2, 3, 4] ?_; simp
 refine W.sr ?_; simp (disch := omega) [gw, jF]; refine W.lx [4] ?_; simp
 refine W.ret ?_
 simp [go]
theorem DE (d : Int) : aL env.P 190 [I d] (.bool (decide (d = 0))) := by
 have := H4 (decide (d < 0)) (aR LL d.natAbs)
 rw [show decide ((aR LL d.natAbs).length = 0) = decide (d = 0) from by
  by_cases h : d = 0
  ·subst h; rfl
  ·have : aR LL d.natAbs ≠ [] := fun h2 => h (by have := jE fL d.natAbs; rw [h2] at this; simp [V] at this; omega)
   have h3 := List.length_pos_iff.2 this
   simp [h]; omega] at this
 exact this
theorem NB (n : Int) : cX n 0 = cX n 1 := by rw [kF, cX, if_pos rfl]
theorem qI {n d : Int} (hn : sz LL n < 1099511627770) (hd : sz LL d < 1099511627770) : aL env.P 164 [T2 n d] (RT (cX n d)) := by
 have sn : Sz n := by show _ < _; omega
 have sd : Sz d := by show _ < _; omega
 have n1 := EP sn
 have n2 := EP sd
 have z1 := DE d
 have o1 := zC 1 (by decide) (by decide)
 obtain ⟨e, he, hed⟩ : ∃ e, e = (if d = 0 then 1 else d) ∧ cX n e = cX n d := by
  refine ⟨_, rfl, ?_⟩
  split
  ·rename_i h; rw [h, NB]
  ·rfl
 have he1 : sz LL e < 1099511627770 := by
  rw [he]
  split
  ·exact Nat.lt_of_le_of_lt (cS (k := 1) fL (by decide)) (by decide)
  ·exact hd
 have TX : e ≠ 0 := by
  rw [he]
  split
  ·decide
  ·assumption
 have l1 := sA (n := n) (d := e) hn he1 TX
 rw [hed] at l1
 show aL env.P _ _ (T2 (cX n d).num (cX n d).den)
 replace l1 : aL env.P 192 [I n, I e] (T2 (cX n d).num (cX n d).den) := l1
 clear hed he1 TX
 generalize (cX n d).num = rn at *
 generalize ((cX n d).den : Int) = rd at *
 refine aB (E := env) (fun _ => 0) [(0, T2 n d)] Tryz.func164 rfl (by kernel_rfl) (by kernel_rfl) (show 1 ≤ 15 by decide) (by simp) ?_
 refine W.sr ?_; simp (disch := omega) [gw]; refine W.lx [1, 2] ?_; simp
 refine W.sr ?_
 simp (disch := omega) [gw]
 refine aA n2 ?_
 simp (disch := omega) [gw]
 refine W.lx [1, 2, 3] ?_; simp
 refine W.fQ (fun σ => ∃ (rows : Pm.Rows) (clk : Nat), σ = ⟨fa [(1, .ptr 1 0 0 0), (2, .ptr 2 1 0 0), (3, .ptr 3 2 0 0)], rows, clk⟩ ∧ rows 1 = some ⟨0, 42, 4, [[.bool (decide (n < 0)), us (aR LL n.natAbs), .bool (decide (d < 0)), us (aR LL d.natAbs)]]⟩ ∧ rows 2 = some ⟨1, 42, 4, [[.bool false, .nil, .bool false, .nil]]⟩ ∧ rows 3 = some ⟨2, 40, 2, [[.bool (decide (e < 0)), us (aR LL e.natAbs)]]⟩) ?_ ?_
 ·refine W.sr ?_
  simp (disch := omega) [gw]
  refine aA z1 ?_
  simp (disch := omega) [gw]
  refine W.lx [1, 2, 3, 8] ?_; simp
  refine W.cond ⟨_, rfl, fun h => ?_, fun h => ?_⟩
  ·have h : d = 0 := by simpa using h
   rw [if_pos h] at he
   subst he
   refine W.b9 (fun K hK => ?_)
   simp (disch := omega) [gw]
   refine aA o1 ?_
   simp (disch := omega) [gw]
   exact hK _ ⟨_, aC _ [1, 2, 3], _, _, rfl, by simp, by simp, by simp⟩
  ·have h : ¬ d = 0 := by simpa using h
   rw [if_neg h] at he
   subst he
   refine W.skip ?_
   exact ⟨_, aC _ [1, 2, 3], _, _, rfl, by simp, by simp, by simp⟩
 rintro _ ⟨rows, clk, rfl, BJ, cT, gU⟩
 refine W.sd ?_
 simp (disch := omega) [gw, BJ]
 refine aA n1 ?_
 simp (disch := omega) [gw, gU]
 refine aA l1 ?_
 simp (disch := omega) [gw, cT]
 (try (refine cP (of_decide_eq_true (by kernel_rfl)) ?_)); (try simp (maxSteps := 4000000) (disch := omega) [gw, cT]); (repeat rw [if_pos (by kernel_rfl)]); (try simp (maxSteps := 4000000) (disch := omega) [gw, cT])
 refine W.lx [2] ?_; simp
 refine W.ret ?_
 simp [go]
theorem DF {n d m e : Int} {k : Nat} (hn : sz LL n ≤ k) (hd : sz LL d ≤ k) (hm : sz LL m ≤ k) (he : sz LL e ≤ k) (hk : k ≤ 500000000000) {p q : Rat} (hp : cX n d = p) (hq : cX m e = q) (sp : sz LL p.num ≤ k ∧ sz LL (p.den : Int) ≤ k) (sq : sz LL q.num ≤ k ∧ sz LL (q.den : Int) ≤ k) :
  aL env.P 182 [T2 n d, T2 m e] (.eN [I (p.num * q.den), I (q.num * p.den), I ((p.den : Int) * q.den)]) := by
 have n1 := qI (n := n) (d := d) (by omega) (by omega)
 have n2 := qI (n := m) (d := e) (by omega) (by omega)
 rw [hp] at n1
 rw [hq] at n2
 have z : ∀ {v : Int}, sz LL v ≤ k → Sz v := fun h => by show _ < _; omega
 have m1 := tC (z sp.1) (z sq.2)
 have m2 := tC (z sq.1) (z sp.2)
 have m3 := tC (z sp.2) (z sq.2)
 replace n1 : aL env.P 164 [T2 n d] (T2 p.num p.den) := n1
 replace n2 : aL env.P 164 [T2 m e] (T2 q.num q.den) := n2
 clear sp sq hp hq
 generalize p.num * (q.den : Int) = x1 at *
 generalize q.num * (p.den : Int) = x2 at *
 generalize (p.den : Int) * (q.den : Int) = x3 at *
 generalize p.num = pn at *
 generalize (p.den : Int) = pd at *
 generalize q.num = qn at *
 generalize (q.den : Int) = qd at *
 refine aB (E := env) (fun _ => 0) [(0, T2 n d), (1, T2 m e)] Tryz.func182 rfl (by kernel_rfl) (by kernel_rfl) (show 2 ≤ 26 by decide) (by simp) ?_
 refine W.sr ?_; simp (disch := omega) [gw]; refine W.lx [2, 3, 4, 5, 6] ?_; simp
 refine W.sd ?_
 simp (disch := omega) [gw]
 refine aA n1 ?_
 simp (disch := omega) [gw]
 refine aA n2 ?_
 simp (disch := omega) [gw]
 (try (refine cP (of_decide_eq_true (by kernel_rfl)) ?_)); (try simp (maxSteps := 4000000) (disch := omega) [gw]); (repeat rw [if_pos (by kernel_rfl)]); (try simp (maxSteps := 4000000) (disch := omega) [gw])
 (try (refine cP (of_decide_eq_true (by kernel_rfl)) ?_)); (try simp (maxSteps := 4000000) (disch := omega) [gw]); (repeat rw [if_pos (by kernel_rfl)]); (try simp (maxSteps := 4000000) (disch := omega) [gw])
 refine W.lx [2, 3, 4, 5, 6] ?_; simp
 refine W.sd ?_
 simp (maxSteps := 4000000) (disch := omega) [gw]
 refine aA m1 ?_
 simp (maxSteps := 4000000) (disch := omega) [gw]
 refine aA m2 ?_
 simp (maxSteps := 4000000) (disch := omega) [gw]
 refine aA m3 ?_
 simp (maxSteps := 4000000) (disch := omega) [gw]
 (try (refine cP (of_decide_eq_true (by kernel_rfl)) ?_)); (try simp (maxSteps := 4000000) (disch := omega) [gw]); (repeat rw [if_pos (by kernel_rfl)]); (try simp (maxSteps := 4000000) (disch := omega) [gw])
 (try (refine cP (of_decide_eq_true (by kernel_rfl)) ?_)); (try simp (maxSteps := 4000000) (disch := omega) [gw]); (repeat rw [if_pos (by kernel_rfl)]); (try simp (maxSteps := 4000000) (disch := omega) [gw])
 (try (refine cP (of_decide_eq_true (by kernel_rfl)) ?_)); (try simp (maxSteps := 4000000) (disch := omega) [gw]); (repeat rw [if_pos (by kernel_rfl)]); (try simp (maxSteps := 4000000) (disch := omega) [gw])
 refine W.lx [4, 5, 6] ?_; simp
 refine W.ret ?_
 simp [go]
theorem DG {n d m e : Int} {k : Nat} (hn : sz LL n ≤ k) (hd : sz LL d ≤ k) (hm : sz LL m ≤ k) (he : sz LL e ≤ k) (hk : k ≤ 500000000000) {p q : Rat} (hp : cX n d = p) (hq : cX m e = q) (sp : sz LL p.num ≤ k ∧ sz LL (p.den : Int) ≤ k) (sq : sz LL q.num ≤ k ∧ sz LL (q.den : Int) ≤ k) :
  aL env.P 105 [T2 n d, T2 m e] (.int .i64 (dH (p.num * q.den) (q.num * p.den))) := by
 have c1 := DF hn hd hm he hk hp hq sp sq
 have g1 := bS (b := LL) fL sp.1 sq.2
 have g2 := bS (b := LL) fL sq.1 sp.2
 have w1 := X6 (x := p.num * q.den) (y := q.num * p.den) (by show _ < _; omega) (by show _ < _; omega)
 clear sp sq hp hq g1 g2
 generalize dH (p.num * (q.den : Int)) (q.num * (p.den : Int)) = r at *
 generalize p.num * (q.den : Int) = x1 at *
 generalize q.num * (p.den : Int) = x2 at *
 generalize (p.den : Int) * (q.den : Int) = x3 at *
 refine aB (E := env) (fun _ => 0) [(0, T2 n d), (1, T2 m e)] Tryz.func105 rfl (by kernel_rfl) (by kernel_rfl) (show 2 ≤ 18 by decide) (by simp) ?_
 refine W.sr ?_; simp (disch := omega) [gw]; refine W.lx [2, 3] ?_; simp
 refine W.sr ?_
 simp (disch := omega) [gw]
 refine aA c1 ?_
 simp (disch := omega) [gw]
 refine W.lx [5, 6] ?_; simp
 refine W.sr ?_
 simp (disch := omega) [gw]
 refine aA w1 ?_
 simp (disch := omega) [gw]
 refine W.lx [4] ?_; simp
 refine W.ret ?_
 simp [go]
theorem AK {n d : Int} (hn : sz LL n < 1099511627770) (hd : sz LL d < 1099511627770) : aL env.P 117 [T2 n d, .sl []] (RT (cX n d)) := by
 have n1 := qI hn hd
 show aL env.P _ _ (T2 (cX n d).num (cX n d).den)
 replace n1 : aL env.P 164 [T2 n d] (T2 (cX n d).num (cX n d).den) := n1
 generalize (cX n d).num = rn at *
 generalize ((cX n d).den : Int) = rd at *
 refine aB (E := env) (fun _ => 0) [(0, T2 n d), (1, .sl [])] Tryz.func117 rfl (by kernel_rfl) (by kernel_rfl) (show 2 ≤ 24 by decide) (by simp) ?_
 refine W.sr ?_; simp (disch := omega) [gw]; refine W.lx [1, 2, 4] ?_; simp
 refine W.sr ?_
 simp (disch := omega) [gw]
 refine aA n1 ?_
 simp (disch := omega) [gw]
 refine W.lx [1, 4, 5] ?_; simp
 refine W.seq ?_
 refine W.sr ?_; simp (disch := omega) [gw]; refine W.lx [4, 5, 10, 11, 12] ?_; simp
 refine W.block ?_
 refine W.bB (fun k σ => ∃ (rows : Pm.Rows) (clk : Nat), σ = ⟨fa [(4, .ptr 4 1 0 0), (5, .ptr 5 2 0 0), (11, .int .i64 0), (12, .int .i64 0)], rows, clk⟩ ∧ rows 4 = some ⟨1, 42, 4, [[.bool false, .nil, .bool false, .nil]]⟩ ∧ rows 5 = some ⟨2, 42, 4, [[.bool (decide (rn < 0)), us (aR LL rn.natAbs), .bool (decide (rd < 0)), us (aR LL rd.natAbs)]]⟩) 0 ?_ ?_
 ·exact ⟨_, aC _ [4, 5, 11, 12], _, _, rfl, by simp, by simp⟩
 rintro k _ ⟨rows, clk, rfl, jF, lT⟩
 refine W.sr ?_; simp (disch := omega) [gw]; refine W.lx [4, 5, 11, 12, 13] ?_; simp
 refine W.seq ?_
 refine W.cond ⟨_, rfl, fun h => ?_, fun h => ?_⟩
 ·simp at h
 ·refine W.exit ?_; simp only [pX, if_true, if_false, reduceIte, Nat.reduceEqDiff]
  refine W.sr ?_
  simp (disch := omega) [gw, jF, lT]
  refine W.lx [4] ?_; simp
  refine W.ret ?_
  simp [go]
theorem TZ {n d : Int} (hn : sz LL n < 1099511627770) (hd : sz LL d < 1099511627770) : aL env.P 132 [T2 n d] (RT (cX n d)) := by
 have n1 := AK hn hd
 show aL env.P _ _ (T2 (cX n d).num (cX n d).den)
 replace n1 : aL env.P 117 [T2 n d, .sl []] (T2 (cX n d).num (cX n d).den) := n1
 generalize (cX n d).num = rn at *
 generalize ((cX n d).den : Int) = rd at *
 refine aB (E := env) (fun _ => 0) [(0, T2 n d)] Tryz.func132 rfl (by kernel_rfl) (by kernel_rfl) (show 1 ≤ 5 by decide) (by simp) ?_
 refine W.sr ?_; simp (disch := omega) [gw]; refine W.lx [1, 2] ?_; simp
 refine W.sr ?_
 simp (disch := omega) [gw]
 refine aA n1 ?_
 simp (disch := omega) [gw]
 refine W.lx [2] ?_; simp
 refine W.ret ?_
 simp [go]
end Go.Proofs.YtbbjgncblhfegaaGreat
namespace Go.Proofs.YtbbjgncblhfegaaGreat
open Go Pm
open ZX hiding N W
def sB (st : Nat × Int) (s : Int) : Nat × Int := if s = 0 then st else (if st.2 ≠ 0 ∧ s ≠ st.2 then st.1 + 1 else st.1, s)
def vr (l : List Int) : Nat := (l.foldl sB (0, 0)).1
theorem NC (l : List Int) : ∀ st : Nat × Int, (l.foldl sB st).1 ≤ st.1 + l.length := by
 induction l with
 | nil => intro st; simp
 | cons s l ih =>
  intro st
  have h := ih (sB st s)
  have : (sB st s).1 ≤ st.1 + 1 := by
   unfold sB
   split
   ·omega
   ·simp only; split <;> omega
  simp only [List.foldl_cons, List.length_cons]
  omega
theorem AL (l : List Int) : vr l ≤ l.length := by have := NC l (0, 0); simpa [vr] using this
theorem u7 {l : List Int} {i : Nat} (h : i < l.length) : (l.take (i + 1)).foldl sB (0, 0) = sB ((l.take i).foldl sB (0, 0)) (nth l i) := by
 rw [List.take_add_one, List.getElem?_eq_getElem h, cC h, List.foldl_append]
 rfl
theorem xR (l : List Int) (i : Nat) : aF (nth l i) = [.int .i64 (nth l i)] := rfl
theorem ND (l : List Int) (hl : l.length < 1099511627776) : aL env.P 198 [aJ aF l] (.int .i64 (vr l)) := by
 have hv : vr l = ((l.take l.length).foldl sB (0, 0)).1 := by rw [List.take_length]; rfl
 rw [hv]
 have hb : ∀ i, ((l.take i).foldl sB (0, 0)).1 ≤ i := fun i => by have := NC (l.take i) (0, 0); simp at this; omega
 have lE := fun i (h : i < l.length) => u7 h
 generalize (fun i => (l.take i).foldl sB (0, 0)) = F at *
 refine aB (E := env) (fun _ => 0) [(0, aJ aF l)] Tryz.func198 rfl (by kernel_rfl) (by kernel_rfl) (show 1 ≤ 34 by decide) (by simp) ?_
 refine W.sr ?_; simp (disch := omega) [gw]; refine W.lx [0] ?_; simp
 refine W.sr ?_; simp (disch := omega) [gw]; refine W.lx [0, 3, 4] ?_; simp
 refine W.seq ?_
 refine W.sr ?_; simp (disch := omega) [gw]; refine W.lx [0, 3, 4, 7, 8] ?_; simp
 refine W.block ?_
 refine W.bB (fun k σ => ∃ (i : Nat) (n : Nat) (s : Int) (rows : Pm.Rows) (clk : Nat), σ = ⟨fa [(0, aJ aF l), (3, .int .i64 n), (4, .int .i64 s), (7, .int .i64 l.length), (8, .int .i64 i)], rows, clk⟩ ∧ i + k = l.length ∧ (l.take i).foldl sB (0, 0) = (n, s)) l.length ?_ ?_
 ·exact ⟨_, .refl, 0, 0, 0, _, _, rfl, by omega, by simp⟩
 rintro k _ ⟨i, n, s, rows, clk, rfl, UY, hF⟩
 have hni : n ≤ i := by have := hb i; rw [hF] at this; exact this
 refine W.sr ?_; simp (disch := omega) [gw]; refine W.lx [0, 3, 4, 7, 8, 9] ?_; simp
 refine W.seq ?_
 refine W.cond ⟨_, rfl, fun h => ?_, fun h => ?_⟩
 ·have hi : i < l.length := by simp at h; omega
  have p5 := lE i hi
  rw [hF] at p5
  generalize hx : nth l i = x at *
  refine W.skip ?_
  refine W.eY (fun σ => ∃ (n' : Nat) (s' : Int) (rows : Pm.Rows) (clk : Nat), σ = ⟨fa [(0, aJ aF l), (3, .int .i64 n'), (4, .int .i64 s'), (7, .int .i64 l.length), (8, .int .i64 i)], rows, clk⟩ ∧ sB (n, s) x = (n', s')) ?_ ?_
  ·refine W.sr ?_; simp (disch := omega) [gw]; refine W.lx [0, 3, 4, 5, 7, 8] ?_; simp
   refine W.sr ?_; simp (disch := omega) [gw, hi, hx, xR]; refine W.lx [0, 3, 4, 5, 7, 8, 15] ?_; simp
   refine W.cond ⟨_, rfl, fun h => ?_, fun h => ?_⟩
   ·have n8 : x ≠ 0 := by simpa using h
    refine W.fQ (fun σ => ∃ (n' : Nat) (rows : Pm.Rows) (clk : Nat), σ = ⟨fa [(0, aJ aF l), (3, .int .i64 n'), (5, .int .i64 i), (7, .int .i64 l.length), (8, .int .i64 i)], rows, clk⟩ ∧ sB (n, s) x = (n', x)) ?_ ?_
    ·refine W.fR (fun σ => ∃ (b : Bool) (rows : Pm.Rows) (clk : Nat), σ = ⟨fa [(0, aJ aF l), (3, .int .i64 n), (5, .int .i64 i), (7, .int .i64 l.length), (8, .int .i64 i), (25, .bool b)], rows, clk⟩ ∧ b = decide (s ≠ 0 ∧ x ≠ s)) (fun K hK => ?_) ?_
     ·by_cases SN : s = 0
      ·subst SN
       simp (disch := omega) [gw, hi, hx, xR]
       exact hK _ _ (aC _ [0, 3, 5, 7, 8, 25]) ⟨_, _, _, rfl, by simp⟩
      ·have GU : (s != 0) = true := by simpa using SN
       simp (disch := omega) [gw, hi, hx, xR, GU]
       exact hK _ _ (aC _ [0, 3, 5, 7, 8, 25]) ⟨_, _, _, rfl, by simp [SN]; rfl⟩
     rintro _ ⟨b, rows, clk, rfl, rfl⟩
     refine W.cond ⟨_, rfl, fun h => ?_, fun h => ?_⟩
     ·have h := of_decide_eq_true h
      refine W.b9 (fun K hK => ?_); simp (disch := omega) [gw]
      exact hK _ ⟨_, aC _ [0, 3, 5, 7, 8], n + 1, _, _, rfl, by unfold sB; rw [if_neg n8]; simp only; rw [if_pos h]⟩
     ·have h := of_decide_eq_false h
      refine W.skip ?_
      exact ⟨_, aC _ [0, 3, 5, 7, 8], n, _, _, rfl, by unfold sB; rw [if_neg n8]; simp only; rw [if_neg h]⟩
    rintro _ ⟨n', rows, clk, rfl, xF⟩
    refine W.b9 (fun K hK => ?_); simp (disch := omega) [gw, hi, hx, xR]
    exact hK _ ⟨_, aC _ [0, 3, 4, 7, 8], n', x, _, _, rfl, xF⟩
   ·have n8 : x = 0 := by simpa using h
    refine W.skip ?_
    exact ⟨_, aC _ [0, 3, 4, 7, 8], n, s, _, _, rfl, by unfold sB; rw [if_pos n8]⟩
  rintro _ ⟨n', s', rows, clk, rfl, xF⟩
  refine W.b9 (fun K hK => ?_); simp (disch := omega) [gw]
  refine hK _ ⟨k - 1, _, aC _ [0, 3, 4, 7, 8], by omega, i + 1, n', s', _, _, rfl, by omega, by rw [p5, xF]⟩
 ·have hi : i = l.length := by simp at h; omega
  subst hi
  refine W.exit ?_; simp only [pX, if_true, if_false, reduceIte, Nat.reduceEqDiff]
  refine W.sr ?_; simp (disch := omega) [gw]; refine W.lx [2] ?_; simp
  rw [hF]
  refine W.ret ?_
  simp [go]
def eL (x : List Int) : Int := if x.length % 2 = 0 then -(lead x).sign else (lead x).sign
def eR (x : List Int) : Int := (lead x).sign
def lC (c : List ZX) (n d : Int) : List Int := c.map fun p => FC p.l n d
def QI (c : List ZX) : List Int := c.map fun p => eL p.l
def QJ (c : List ZX) : List Int := c.map fun p => eR p.l
theorem xS {l : List Int} {v : Int} : emap aF l ++ [[.int .i64 v]] = emap aF (l ++ [v]) := by simp [emap, aF]
theorem BP {α : Type} [Inhabited α] (f : α → Int) {c : List α} {i : Nat} (h : i < c.length) : (c.take i).map f ++ [f (nth c i)] = (c.take (i + 1)).map f := by
 rw [List.take_add_one, List.getElem?_eq_getElem h, cC h, List.map_append]; rfl
theorem JS {c : List ZX} {n d : Int} (hl : c.length < 1000000) (hS : ∀ p ∈ c, aL env.P 107 [PI p.l, R2 n d] (.int .i64 (FC p.l n d))) : aL env.P 129 [aJ zq c, R2 n d] (.int .i64 (vr (lC c n d))) := by
 have hT := ND (lC c n d) (by simp [lC]; omega)
 have eT : (emap aF (lC c n d)).length = c.length := by simp [lC, emap]
 have AZ : (lC c n d) = (c.take c.length).map fun p => FC p.l n d := by rw [List.take_length]; rfl
 have htG : (lC c n d).take c.length = lC c n d := List.take_of_length_le (by simp [lC])
 generalize vr (lC c n d) = r at *
 generalize hg : lC c n d = G at *
 refine aB (E := env) (fun _ => 0) [(0, aJ zq c), (1, R2 n d)] Tryz.func129 rfl (by kernel_rfl) (by kernel_rfl) (show 2 ≤ 24 by decide) (by simp) ?_
 refine W.sr ?_; simp (disch := omega) [gw]; refine W.lx [0, 3] ?_; simp
 refine W.sr ?_; simp (disch := omega) [gw]; refine W.lx [0, 3, 5] ?_; simp
 refine W.nil 5 5 3 1 (by simp) (by decide) (fun K hK => ?_)
 refine W.lw [0, 3, 5] hK ?_; clear hK K; simp
 refine W.seq ?_
 refine W.sr ?_; simp (disch := omega) [gw]; refine W.lx [0, 3, 5, 8, 9] ?_; simp
 refine W.block ?_
 refine W.bB (fun k σ => ∃ (i ver v3 e3 : Nat) (rows : Pm.Rows) (clk : Nat), σ = ⟨fa [(0, aJ zq c), (3, .ptr 3 v3 0 0), (5, .own 5 ver 0 i), (8, .int .i64 c.length), (9, .int .i64 i)], rows, clk⟩ ∧ i + k = c.length ∧
  rows 3 = some ⟨v3, e3, 4, [[aJ aF (aR DD n.natAbs), .bool (decide (n < 0)), aJ aF (aR DD d.natAbs), .bool (decide (d < 0))]]⟩ ∧ rows 5 = some ⟨ver, 3, 1, emap aF ((c.take i).map fun p => FC p.l n d)⟩) c.length ?_ ?_
 ·exact ⟨_, .refl, 0, _, _, _, _, _, rfl, by omega, by simp; first | exact ⟨rfl, rfl⟩ | exact rfl, by simp [emap]⟩
 rintro k _ ⟨i, ver, v3, e3, rows, clk, rfl, UY, gU, lT⟩
 have uK : ((c.take i).map fun p => FC p.l n d).length = i := by simp; omega
 refine W.sr ?_; simp (disch := omega) [gw]; refine W.lx [0, 3, 5, 8, 9, 10] ?_; simp
 refine W.seq ?_
 refine W.cond ⟨_, rfl, fun h => ?_, fun h => ?_⟩
 ·have hi : i < c.length := by simp at h; omega
  have hSi := hS _ (bK hi)
  have OA := BP (fun p : ZX => FC p.l n d) hi
  generalize hpr : (c.take i).map (fun p => FC p.l n d) = pr at *
  generalize hv : FC (nth c i).l n d = v at *
  have m6 : (emap aF pr).length = i := by simp [emap, uK]
  refine W.skip ?_
  refine W.seq ?_
  refine W.block ?_
  refine W.sr ?_; simp (disch := omega) [gw]; refine W.lx [0, 3, 5, 6, 8, 9] ?_; simp
  refine W.HS (fun K hK => ?_)
  simp (disch := omega) [gw, hi, gU, lT]
  refine aA hSi ?_
  simp (disch := omega) [gw, lT, m6, xS]
  (try (refine cP (of_decide_eq_true (by kernel_rfl)) ?_)); (try simp (maxSteps := 4000000) (disch := omega) [gw, lT, m6, xS]); (repeat rw [if_pos (by kernel_rfl)]); (try simp (maxSteps := 4000000) (disch := omega) [gw, lT, m6, xS])
  refine W.lw [0, 3, 5, 8, 9] hK ?_; clear hK K; simp
  refine W.b9 (fun K hK => ?_); simp (disch := omega) [gw]
  refine hK _ ⟨k - 1, _, aC _ [0, 3, 5, 8, 9], by omega, i + 1, _, v3, e3, _, _, rfl, by omega, by simp [gU], by simp [xS, OA]⟩
 ·have hi : i = c.length := by simp at h; omega
  subst hi
  rw [← AZ] at lT
  refine W.exit ?_; simp only [pX, if_true, if_false, reduceIte, Nat.reduceEqDiff]
  refine W.sr ?_
  simp (disch := omega) [gw, lT, eT, htG]
  refine aA hT ?_
  simp (disch := omega) [gw]
  refine W.lx [4] ?_; simp
  refine W.ret ?_
  simp [go]
theorem JT {c : List ZX} {n d m e : Int} (hn : sz 2 n ≤ YY) (hd : sz 2 d ≤ YY) (hm : sz 2 m ≤ YY) (he : sz 2 e ≤ YY) (hl : c.length < 1000000) (h1 : aL env.P 129 [aJ zq c, R2 n d] (.int .i64 (vr (lC c n d)))) (h2 : aL env.P 129 [aJ zq c, R2 m e] (.int .i64 (vr (lC c m e)))) :
  aL env.P 59 [aJ zq c, R2 n d, R2 m e] (.int .i64 (if m * d < n * e then 0 else (vr (lC c n d) : Int) - vr (lC c m e))) := by
 have c1 := C9 m e n d hm he hn hd
 have v1 := AL (lC c n d)
 have v2 := AL (lC c m e)
 have l1 : (lC c n d).length = c.length := by simp [lC]
 have l2 : (lC c m e).length = c.length := by simp [lC]
 generalize vr (lC c n d) = a at *
 generalize vr (lC c m e) = b at *
 have hc : (dH (m * d) (n * e) < 0) ↔ m * d < n * e := by
  unfold dH; split
  ·omega
  ·split <;> omega
 generalize m * d = xx at *
 generalize n * e = yy at *
 generalize dH xx yy = z at *
 refine aB (E := env) (fun _ => 0) [(0, aJ zq c), (1, R2 n d), (2, R2 m e)] Tryz.func59 rfl (by kernel_rfl) (by kernel_rfl) (show 3 ≤ 18 by decide) (by simp) ?_
 refine W.sr ?_; simp (disch := omega) [gw]; refine W.lx [0, 4, 5] ?_; simp
 refine W.seq ?_
 refine W.sr ?_
 simp (disch := omega) [gw]
 refine aA c1 ?_
 simp (disch := omega) [gw]
 refine W.lx [0, 4, 5, 10] ?_; simp
 refine W.cond ⟨_, rfl, fun h => ?_, fun h => ?_⟩
 ·have h : z < 0 := by simpa using h
  rw [if_pos (hc.1 h)]
  refine W.sr ?_; simp (disch := omega) [gw]; refine W.lx [6] ?_; simp
  refine W.ret ?_
  simp [go]
 ·have h : ¬ z < 0 := by simpa using h
  rw [if_neg (fun hh => h (hc.2 hh))]
  refine W.skip ?_
  refine W.sd ?_
  simp (disch := omega) [gw]
  refine aA h1 ?_
  simp (disch := omega) [gw]
  refine aA h2 ?_
  simp (disch := omega) [gw]
  refine W.lx [6] ?_; simp
  refine W.ret ?_
  simp [go]
abbrev CH (c : List ZX) : PV := .rd [aJ zp c]
theorem JU {l : List Int} (hs : ∀ s ∈ l, s = -1 ∨ s = 0 ∨ s = 1) : ∀ i, i ≤ l.length → ((l.take i).foldl sB (0, 0)).2 = -1 ∨ ((l.take i).foldl sB (0, 0)).2 = 0 ∨ ((l.take i).foldl sB (0, 0)).2 = 1
 | 0, _ => .inr (.inl (by simp))
 | i + 1, h => by
  rw [u7 (by omega)]
  have ih := JU hs i (by omega)
  have := hs _ (bK (show i < l.length by omega))
  unfold sB
  split
  ·exact ih
  ·exact this
theorem sC (g : FuncId) (hw : L9 g = false) (b8 : List PV) (hc : b8.all eV = true) (c : List ZX) (sg : ZX → Int) (hl : c.length < 1000000) (hs : ∀ p ∈ c, sg p = -1 ∨ sg p = 0 ∨ sg p = 1) (hg : ∀ p ∈ c, aL env.P g (Po p.l :: b8) (.int .i64 (sg p))) :
  aL env.P 226 [CH c, .fn g b8] (.int .i64 (vr (c.map sg))) := by
 have hv : vr (c.map sg) = (((c.map sg).take c.length).foldl sB (0, 0)).1 := by rw [List.take_of_length_le (by simp)]; rfl
 rw [hv]
 have hb : ∀ i, (((c.map sg).take i).foldl sB (0, 0)).1 ≤ i := fun i => by have := NC ((c.map sg).take i) (0, 0); simp at this; omega
 have lE := fun i (h : i < (c.map sg).length) => u7 h
 have hsg := JU (l := c.map sg) (fun s h => by
  simp only [List.mem_map] at h
  obtain ⟨p, hp, rfl⟩ := h
  exact hs p hp)
 have hln : (c.map sg).length = c.length := by simp
 have AF : ∀ i, i < c.length → nth (c.map sg) i = sg (nth c i) := fun i hi => by rw [cC (by simpa using hi), cC hi]; simp
 refine aB (E := env) (fun _ => 0) [(0, CH c), (1, .fn g b8)] Tryz.func226 rfl (by kernel_rfl) (by kernel_rfl) (show 2 ≤ 33 by decide) (by simp) ?_
 refine W.sr ?_; simp (disch := omega) [gw]; refine W.lx [0, 1] ?_; simp
 refine W.sr ?_; simp (disch := omega) [gw]; refine W.lx [0, 1, 5, 6] ?_; simp
 refine W.seq ?_
 refine W.sr ?_; simp (disch := omega) [gw]; refine W.lx [1, 5, 6, 13, 14, 15] ?_; simp
 refine W.block ?_
 refine W.bB (fun k σ => ∃ (i : Nat) (n : Nat) (s : Int) (rows : Pm.Rows) (clk : Nat), σ = ⟨fa [(1, .fn g b8), (5, .int .i64 n), (6, .int .i64 s), (13, aJ zp c), (14, .int .i64 c.length), (15, .int .i64 i)], rows, clk⟩ ∧ i + k = c.length ∧ ((c.map sg).take i).foldl sB (0, 0) = (n, s)) c.length ?_ ?_
 ·exact ⟨_, .refl, 0, 0, 0, _, _, rfl, by omega, by simp⟩
 rintro k _ ⟨i, n, s, rows, clk, rfl, UY, hF⟩
 have hni : n ≤ i := by have := hb i; rw [hF] at this; exact this
 have hsv := hsg i (by omega)
 rw [hF] at hsv
 simp only at hsv
 refine W.sr ?_; simp (disch := omega) [gw]; refine W.lx [1, 5, 6, 13, 14, 15, 16] ?_; simp
 refine W.seq ?_
 refine W.cond ⟨_, rfl, fun h => ?_, fun h => ?_⟩
 ·have hi : i < c.length := by simp at h; omega
  have p5 := lE i (by omega)
  have hgi := hg _ (bK hi)
  have hxv := hs _ (bK hi)
  rw [hF, AF i hi] at p5
  generalize hx : sg (nth c i) = x at *
  refine W.skip ?_
  refine W.eY (fun σ => ∃ (n' : Nat) (s' : Int) (rows : Pm.Rows) (clk : Nat), σ = ⟨fa [(1, .fn g b8), (5, .int .i64 n'), (6, .int .i64 s'), (13, aJ zp c), (14, .int .i64 c.length), (15, .int .i64 i)], rows, clk⟩ ∧ sB (n, s) x = (n', s')) ?_ ?_
  ·refine W.sr ?_; simp (disch := omega) [gw, hi]; refine W.lx [1, 5, 6, 8, 13, 14, 15] ?_; simp
   refine W.sr ?_
   simp only [L9] at hw
   simp (disch := omega) [gw, hw, hc]
   refine aA hgi ?_
   simp (disch := omega) [gw]
   refine W.lx [1, 5, 6, 9, 13, 14, 15] ?_; simp
   refine W.seq ?_
   refine W.sr ?_; simp (disch := omega) [gw]; refine W.lx [1, 5, 6, 9, 13, 14, 15, 23] ?_; simp
   refine W.cond ⟨_, rfl, fun h => ?_, fun h => ?_⟩
   ·have n8 : x = 0 := by simpa using h
    refine W.exit ?_; simp only [pX, if_true, if_false, reduceIte, Nat.reduceEqDiff]
    exact ⟨_, aC _ [1, 5, 6, 13, 14, 15], n, s, _, _, rfl, by unfold sB; rw [if_pos n8]⟩
   ·have n8 : x ≠ 0 := by simpa using h
    refine W.skip ?_
    refine W.fQ (fun σ => ∃ (n' : Nat) (rows : Pm.Rows) (clk : Nat), σ = ⟨fa [(1, .fn g b8), (5, .int .i64 n'), (9, .int .i64 x), (13, aJ zp c), (14, .int .i64 c.length), (15, .int .i64 i)], rows, clk⟩ ∧ sB (n, s) x = (n', x)) ?_ ?_
    ·refine W.sr ?_; simp (disch := omega) [gw]; refine W.lx [1, 5, 9, 13, 14, 15, 27] ?_; simp
     refine W.cond ⟨_, rfl, fun h => ?_, fun h => ?_⟩
     ·have h : s = -x := by simpa using h
      refine W.b9 (fun K hK => ?_); simp (disch := omega) [gw]
      exact hK _ ⟨_, aC _ [1, 5, 9, 13, 14, 15], n + 1, _, _, rfl, by unfold sB; rw [if_neg n8]; simp only; rw [if_pos ⟨by omega, by omega⟩]⟩
     ·have h : ¬ s = -x := by simpa using h
      refine W.skip ?_
      exact ⟨_, aC _ [1, 5, 9, 13, 14, 15], n, _, _, rfl, by unfold sB; rw [if_neg n8]; simp only; rw [if_neg (fun hh => by obtain ⟨h1, h2⟩ := hh; omega)]⟩
    rintro _ ⟨n', rows, clk, rfl, xF⟩
    refine W.b9 (fun K hK => ?_); simp (disch := omega) [gw]
    exact hK _ ⟨_, aC _ [1, 5, 6, 13, 14, 15], n', x, _, _, rfl, xF⟩
  rintro _ ⟨n', s', rows, clk, rfl, xF⟩
  refine W.b9 (fun K hK => ?_); simp (disch := omega) [gw]
  refine hK _ ⟨k - 1, _, aC _ [1, 5, 6, 13, 14, 15], by omega, i + 1, n', s', _, _, rfl, by omega, by rw [p5, xF]⟩
 ·have hi : i = c.length := by simp at h; omega
  subst hi
  refine W.exit ?_; simp only [pX, if_true, if_false, reduceIte, Nat.reduceEqDiff]
  refine W.sr ?_; simp (disch := omega) [gw]; refine W.lx [4] ?_; simp
  rw [hF]
  refine W.ret ?_
  simp [go]
theorem aaf {s k u : Nat} {n d : Int} (hn : sz LL n ≤ u) (hd : sz LL d ≤ u) (hu : 1 ≤ u) : ∀ {x : List Int}, Bd LL s k x → sz LL (hm n d x).1 ≤ s + x.length * (u + 1) ∧ sz LL (hm n d x).2 ≤ x.length * u + 1
 | [], _ => ⟨by show sz LL 0 ≤ _; rw [show sz LL 0 = 0 by decide]; omega, by show sz LL 1 ≤ _; exact Nat.le_trans (cS (k := 1) fL (by decide)) (by omega)⟩
 | a :: l, h => by
  obtain ⟨h1, h2⟩ := aaf hn hd hu (x := l) ⟨Nat.le_trans (by simp) h.len, fun c hc => h.sz c (by simp [hc])⟩
  have ha := h.sz a (by simp)
  have e : (a :: l).length * u = l.length * u + u := by rw [List.length_cons, Nat.add_mul]; omega
  have e' : (a :: l).length * (u + 1) = l.length * u + l.length + u + 1 := by rw [List.length_cons, Nat.add_mul, Nat.mul_add]; omega
  have e'' : l.length * (u + 1) = l.length * u + l.length := by rw [Nat.mul_add]; omega
  refine ⟨?_, ?_⟩
  ·have g1 := bS (b := LL) fL h1 hn
   have g2 := bS (b := LL) fL ha h2
   have := mG (b := LL) fL (Nat.le_trans g1 (Nat.le_max_left _ (s + (l.length * u + 1)))) (Nat.le_trans g2 (Nat.le_max_right (s + l.length * (u + 1) + u) _))
   refine Nat.le_trans this ?_
   rw [e', e'']
   omega
  ·have := bS (b := LL) fL h2 hd
   rw [e]
   exact Nat.le_trans this (by omega)
theorem T0 {x : List Int} {n d : Int} {s k u : Nat} (hx : Bd LL s k x) (hn : sz LL n ≤ u) (hd : sz LL d ≤ u) (hu : 1 ≤ u) (hk : k < 1099511627776) (hB : s + k * (u + 1) + u < 500000000000) : aL env.P 134 [Po x, I n, I d] (I (hm n d x).1) ∧ Sz (hm n d x).1 := by
 have hl := hx.len
 have hO := zC 1 (by decide) (by decide)
 have bd := fun i => aaf (s := s) (k := k) (x := x.drop i) hn hd hu ⟨by simp; omega, fun c hc => hx.sz c (List.mem_of_mem_drop hc)⟩
 have hle : ∀ i, (x.drop i).length * (u + 1) ≤ k * (u + 1) := fun i => Nat.mul_le_mul_right _ (by simp; omega)
 have Z5 : ∀ i, (x.drop i).length * u ≤ (x.drop i).length * (u + 1) := fun i => Nat.mul_le_mul_left _ (by omega)
 have step : ∀ i, i < x.length → hm n d (x.drop i) = ((hm n d (x.drop (i + 1))).1 * n + nth x i * (hm n d (x.drop (i + 1))).2, (hm n d (x.drop (i + 1))).2 * d) := fun i hi => by
  rw [List.drop_eq_getElem_cons hi, cC hi]; rfl
 have Z6 : hm n d (x.drop x.length) = (0, 1) := by rw [List.drop_length]; rfl
 have h0 : hm n d (x.drop 0) = hm n d x := rfl
 have hz : Sz (hm n d x).1 := by have := (bd 0).1; have := hle 0; rw [h0] at *; show _ < _; omega
 refine ⟨?_, hz⟩
 have M : ∀ i, i < x.length → aL env.P 109 [I (hm n d (x.drop (i + 1))).1, I n] (I ((hm n d (x.drop (i + 1))).1 * n)) ∧ aL env.P 109 [I (nth x i), I (hm n d (x.drop (i + 1))).2] (I (nth x i * (hm n d (x.drop (i + 1))).2)) ∧
   aL env.P 108 [I ((hm n d (x.drop (i + 1))).1 * n), I (nth x i * (hm n d (x.drop (i + 1))).2)] (I (hm n d (x.drop i)).1) ∧ aL env.P 109 [I (hm n d (x.drop (i + 1))).2, I d] (I (hm n d (x.drop i)).2) := fun i hi => by
  obtain ⟨b1, b2⟩ := bd (i + 1)
  have l1 := hle (i + 1)
  have l2 := Z5 (i + 1)
  have ha := hx.sz _ (bK hi)
  have g1 := bS (b := LL) fL b1 hn
  have g2 := bS (b := LL) fL ha b2
  have zz : ∀ {v : Int}, sz LL v < 1099511627776 → Sz v := fun h => h
  have e := step i hi
  rw [e]
  exact ⟨tC (zz (by omega)) (zz (by omega)), tC (zz (by omega)) (zz (by omega)), O3 (zz (by omega)) (zz (by omega)), tC (zz (by omega)) (zz (by omega))⟩
 clear bd hle Z5 step hz
 generalize hm n d x = r0 at *
 refine aB (E := env) (fun _ => 0) [(0, Po x), (1, I n), (2, I d)] Tryz.func134 rfl (by kernel_rfl) (by kernel_rfl) (show 3 ≤ 32 by decide) (by simp) ?_
 refine W.sr ?_; simp (disch := omega) [gw]; refine W.lx [0, 4, 5, 6] ?_; simp
 refine W.sr ?_; simp (disch := omega) [gw]; refine W.lx [0, 4, 5, 6, 7] ?_; simp
 refine W.sr ?_
 simp (disch := omega) [gw]
 refine aA hO ?_
 simp (disch := omega) [gw]
 refine W.lx [0, 4, 5, 6, 7, 8] ?_; simp
 refine W.seq ?_
 refine W.sr ?_; simp (disch := omega) [gw]; refine W.lx [0, 4, 5, 6, 7, 8, 9] ?_; simp
 refine W.row (id := 7) (els := [[.bool false, .nil]]) [[.bool (decide ((0 : Int) < 0)), us (aR LL (0 : Int).natAbs)]] (by simp; first | exact ⟨rfl, rfl, rfl⟩ | exact ⟨rfl, rfl⟩ | rfl) ⟨⟨.inl rfl, .inr ⟨rfl, rfl⟩, trivial⟩, trivial⟩ ?_
 refine W.block ?_
 refine W.bB (fun k σ => ∃ (v4 v5 v6 v7 v8 e4 e5 e6 e7 e8 : Nat) (rows : Pm.Rows) (clk : Nat), σ = ⟨fa [(0, Po x), (4, .ptr 4 v4 0 0), (5, .ptr 5 v5 0 0), (6, .ptr 6 v6 0 0), (7, .ptr 7 v7 0 0), (8, .ptr 8 v8 0 0), (9, .int .i64 ((k : Int) - 1))], rows, clk⟩ ∧ k ≤ x.length ∧
  rows 4 = some ⟨v4, e4, 2, [[.bool (decide (n < 0)), us (aR LL n.natAbs)]]⟩ ∧ rows 5 = some ⟨v5, e5, 2, [[.bool (decide (d < 0)), us (aR LL d.natAbs)]]⟩ ∧ rows 6 = some ⟨v6, e6, 2, [[.bool false, .nil]]⟩ ∧
  rows 7 = some ⟨v7, e7, 2, [[.bool (decide ((hm n d (x.drop k)).1 < 0)), us (aR LL (hm n d (x.drop k)).1.natAbs)]]⟩ ∧
  rows 8 = some ⟨v8, e8, 2, [[.bool (decide ((hm n d (x.drop k)).2 < 0)), us (aR LL (hm n d (x.drop k)).2.natAbs)]]⟩) x.length ?_ ?_
 ·exact ⟨_, .refl, _, _, _, _, _, _, _, _, _, _, _, _, rfl, Nat.le_refl _, by simp; (first | exact ⟨rfl, rfl⟩ | rfl), by simp; (first | exact ⟨rfl, rfl⟩ | rfl), by simp; (first | exact ⟨rfl, rfl⟩ | rfl), by rw [Z6]; simp; (first | exact ⟨rfl, rfl⟩ | rfl), by rw [Z6]; simp; (first | exact ⟨rfl, rfl⟩ | rfl)⟩
 rintro k _ ⟨v4, v5, v6, v7, v8, e4, e5, e6, e7, e8, rows, clk, rfl, hkl, jF, lT, tP, X3, w9⟩
 refine W.seq ?_
 refine W.sr ?_; simp (disch := omega) [gw]; refine W.lx [0, 4, 5, 6, 7, 8, 9, 15] ?_; simp
 refine W.cond ⟨_, rfl, fun h => ?_, fun h => ?_⟩
 ·have vZ : 0 < k := by simp at h; omega
  obtain ⟨k, rfl⟩ : ∃ j, k = j + 1 := ⟨k - 1, by omega⟩
  obtain ⟨m1, m2, m3, m4⟩ := M k (by omega)
  generalize hm n d (x.drop (k + 1)) = A at *
  have e1 : (((k + 1 : Nat) : Int) - 1).toNat = k := by omega
  refine W.skip ?_
  refine W.seq ?_
  refine W.block ?_
  refine W.sd ?_
  simp (disch := omega) [gw, jF, X3]
  refine aA m1 ?_
  simp (disch := omega) [gw, w9]
  refine aA m2 ?_
  simp (disch := omega) [gw]
  refine aA m3 ?_
  simp (disch := omega) [gw, X3]
  (try (refine cP (of_decide_eq_true (by kernel_rfl)) ?_)); (try simp (maxSteps := 4000000) (disch := omega) [gw, X3]); (repeat rw [if_pos (by kernel_rfl)]); (try simp (maxSteps := 4000000) (disch := omega) [gw, X3])
  refine W.lx [0, 4, 5, 6, 7, 8, 9] ?_; simp
  refine W.b9 (fun K hK => ?_)
  simp (disch := omega) [gw, w9, lT]
  refine aA m4 ?_
  simp (disch := omega) [gw, w9]
  refine W.lw [0, 4, 5, 6, 7, 8, 9] hK ?_; clear hK K; simp
  refine W.b9 (fun K hK => ?_); simp (disch := omega) [gw]
  refine hK _ ⟨k, _, aC _ [0, 4, 5, 6, 7, 8, 9], by omega, v4, v5, v6, v7, v8, _, _, _, _, _, _, _, rfl, by omega, by simp [jF]; exact rfl, by simp [lT]; exact rfl, by simp [tP]; exact rfl, by simp; exact rfl, by simp; exact rfl⟩
 ·have vZ : k = 0 := by simp at h; omega
  subst vZ
  rw [h0] at X3
  refine W.exit ?_; simp only [pX, if_true, if_false, reduceIte, Nat.reduceEqDiff]
  refine W.sr ?_; simp (disch := omega) [gw, X3, tP]; refine W.lx [6] ?_; simp
  refine W.ret ?_
  simp [go]
theorem uS (v : Int) : dH v 0 = v.sign := by
 rcases Int.lt_trichotomy v 0 with h | h | h
 ·rw [Int.sign_eq_neg_one_of_neg h, lP h]
 ·subst h; decide
 ·rw [Int.sign_eq_one_of_pos h, lR h]
theorem DH {x : List Int} {n d : Int} {s k u : Nat} (hx : Bd LL s k x) (cx : Cn x) (hn : sz LL n ≤ u) (hd : sz LL d ≤ u) (hu : 1 ≤ u) (hk : k < 1099511627774) (hu2 : u < 500000000000) (hB : s + k * (u + 1) + u < 500000000000) {q : Rat} (hq : cX n d = q) (sq : sz LL q.num ≤ u ∧ sz LL (q.den : Int) ≤ u) : aL env.P 62 [Po x, T2 n d] (.int .i64 (FC x q.num q.den)) := by
 have p1 := TZ (n := n) (d := d) (Nat.lt_of_le_of_lt hn (by omega)) (Nat.lt_of_le_of_lt hd (by omega))
 rw [hq] at p1
 have n1 := iD (x := x) (PB.of hx (by omega) (by omega))
 rw [show aM x = x from cx] at n1
 obtain ⟨hV, hz⟩ := T0 hx sq.1 sq.2 hu (by omega) hB
 have c1 := X6 (x := (hm q.num q.den x).1) (y := 0) hz (show sz LL 0 < _ by decide)
 rw [uS, show (hm q.num q.den x).1.sign = FC x q.num q.den from rfl] at c1
 replace p1 : aL env.P 132 [T2 n d] (T2 q.num q.den) := p1
 generalize FC x q.num q.den = r at *
 generalize (hm q.num q.den x).1 = v at *
 generalize q.num = qn at *
 generalize (q.den : Int) = qd at *
 refine aB (E := env) (fun _ => 0) [(0, Po x), (1, T2 n d)] Tryz.func62 rfl (by kernel_rfl) (by kernel_rfl) (show 2 ≤ 16 by decide) (by simp) ?_
 refine W.sr ?_; simp (disch := omega) [gw]; refine W.lx [0, 3] ?_; simp
 refine W.sr ?_
 simp (disch := omega) [gw]
 refine aA p1 ?_
 simp (disch := omega) [gw]
 refine W.lx [0, 3] ?_; simp
 refine W.sd ?_
 simp (disch := omega) [gw]
 refine aA n1 ?_
 simp (disch := omega) [gw]
 refine aA hV ?_
 simp (disch := omega) [gw]
 refine aA c1 ?_
 simp (disch := omega) [gw]
 refine W.lx [4] ?_; simp
 refine W.ret ?_
 simp [go]
@[simp] theorem ack {l : List PV} : eV (.rd l) = true := rfl
@[simp] theorem XE {l : List PV} : b5 (.rd l) = true := rfl
@[simp] theorem acm {l : List PV} : aZ (.rd l) = [] := rfl
@[simp] theorem aqI {l : List PV} : dC (.rd l) = [] := rfl
@[simp] theorem awj {rows : Pm.Rows} {l : List PV} : fz rows (.rd l) = .rd l := rfl
@[simp] theorem awk {rows : Pm.Rows} {l : List PV} : pz rows (.rd l) = .rd l := rfl
theorem T1 (v : Int) : aL env.P 139 [I v] (.int .i64 v.sign) := by
 have h1 := YL (decide (v < 0)) (aR LL v.natAbs)
 have e : (if (aR LL v.natAbs).length = 0 then 0 else if decide (v < 0) = true then -1 else 1 : Int) = v.sign := by
  by_cases h : v = 0
  ·subst h; decide
  ·have : aR LL v.natAbs ≠ [] := fun h2 => h (by have := jE fL v.natAbs; rw [h2] at this; simp [V] at this; omega)
   have h3 := List.length_pos_iff.2 this
   rw [if_neg (by omega)]
   rcases Int.lt_trichotomy v 0 with h4 | h4 | h4
   ·rw [if_pos (by simpa using h4), Int.sign_eq_neg_one_of_neg h4]
   ·exact absurd h4 h
   ·rw [if_neg (by simp; omega), Int.sign_eq_one_of_pos h4]
 rw [e] at h1; exact h1
theorem DI {x : List Int} (hx : PB x) (cx : Cn x) : aL env.P 68 [Po x] (.eN [.int .i64 (eL x), .int .i64 (eR x)]) := by
 have n1 := iD hx
 rw [show aM x = x from cx] at n1
 have l1 := jO hx cx
 have hS := T1 (lead x)
 have hl : x.length < 1099511627776 := by have := hx.BK.len; simpa using this
 have hL : eL x = if x.length % 2 = 0 then -(lead x).sign else (lead x).sign := rfl
 have hR : eR x = (lead x).sign := rfl
 have hs : -1 ≤ (lead x).sign ∧ (lead x).sign ≤ 1 := by
  rcases Int.lt_trichotomy (lead x) 0 with h | h | h
  ·rw [Int.sign_eq_neg_one_of_neg h]; decide
  ·rw [h]; decide
  ·rw [Int.sign_eq_one_of_pos h]; decide
 generalize (lead x).sign = s at *
 generalize lead x = lx at *
 generalize eL x = a at *
 generalize eR x = b at *
 refine aB (E := env) (fun _ => 0) [(0, Po x)] Tryz.func68 rfl (by kernel_rfl) (by kernel_rfl) (show 1 ≤ 18 by decide) (by simp) ?_
 refine W.sr ?_; simp (disch := omega) [gw]; refine W.lx [0] ?_; simp
 refine W.sr ?_
 simp (disch := omega) [gw]
 refine aA n1 ?_
 simp (disch := omega) [gw]
 refine W.lx [0] ?_; simp
 refine W.sr ?_
 simp (disch := omega) [gw]
 refine aA l1 ?_
 simp (disch := omega) [gw]
 refine aA hS ?_
 simp (disch := omega) [gw]
 refine W.lx [0, 3] ?_; simp
 refine W.seq ?_
 refine W.fR (fun σ => ∃ (q : Bool) (rows : Pm.Rows) (clk : Nat), σ = ⟨fa [(3, .int .i64 s), (12, .bool q)], rows, clk⟩ ∧ q = decide (x.length % 2 = 0)) (fun K hK => ?_) ?_
 ·simp (disch := omega) [gw]
  exact hK _ _ (aC _ [3, 12]) ⟨_, _, _, rfl, by rw [Bool.eq_iff_iff]; simp; omega⟩
 rintro _ ⟨q, rows, clk, rfl, rfl⟩
 refine W.cond ⟨_, rfl, fun h => ?_, fun h => ?_⟩
 ·rw [if_pos (of_decide_eq_true h)] at hL
  subst hL hR
  refine W.sr ?_; simp (disch := omega) [gw]; refine W.lx [2, 3] ?_; simp
  refine W.ret ?_
  simp [go]
 ·rw [if_neg (of_decide_eq_false h)] at hL
  subst hL hR
  refine W.skip ?_
  refine W.sr ?_; simp (disch := omega) [gw]; refine W.lx [2, 3] ?_; simp
  refine W.ret ?_
  simp [go]
theorem NF {x : List Int} (hx : PB x) (cx : Cn x) : aL env.P 227 [Po x] (.int .i64 (eL x)) := by
 have h1 := DI hx cx
 generalize eL x = a at *
 generalize eR x = b at *
 refine aB (E := env) (fun _ => 0) [(0, Po x)] Tryz.func227 rfl (by kernel_rfl) (by kernel_rfl) (show 1 ≤ 11 by decide) (by simp) ?_
 refine W.sr ?_; simp (disch := omega) [gw]; refine W.lx [0] ?_; simp
 refine W.sr ?_
 simp (disch := omega) [gw]
 refine aA h1 ?_
 simp (disch := omega) [gw]
 refine W.lx [3] ?_; simp
 refine W.sr ?_; simp (disch := omega) [gw]; refine W.lx [2] ?_; simp
 refine W.ret ?_
 simp [go]
theorem T3 {x : List Int} (hx : PB x) (cx : Cn x) : aL env.P 228 [Po x] (.int .i64 (eR x)) := by
 have h1 := DI hx cx
 generalize eL x = a at *
 generalize eR x = b at *
 refine aB (E := env) (fun _ => 0) [(0, Po x)] Tryz.func228 rfl (by kernel_rfl) (by kernel_rfl) (show 1 ≤ 11 by decide) (by simp) ?_
 refine W.sr ?_; simp (disch := omega) [gw]; refine W.lx [0] ?_; simp
 refine W.sr ?_
 simp (disch := omega) [gw]
 refine aA h1 ?_
 simp (disch := omega) [gw]
 refine W.lx [4] ?_; simp
 refine W.sr ?_; simp (disch := omega) [gw]; refine W.lx [2] ?_; simp
 refine W.ret ?_
 simp [go]
theorem ajd (v : Int) : v.sign = -1 ∨ v.sign = 0 ∨ v.sign = 1 := by
 rcases Int.lt_trichotomy v 0 with h | h | h
 ·exact .inl (Int.sign_eq_neg_one_of_neg h)
 ·rw [h]; exact .inr (.inl rfl)
 ·exact .inr (.inr (Int.sign_eq_one_of_pos h))
theorem eL3 (x : List Int) : eL x = -1 ∨ eL x = 0 ∨ eL x = 1 := by
 have := ajd (lead x)
 unfold eL; split <;> omega
theorem NG {c : List ZX} (hl : c.length < 1000000) {n d : Int} {q : Rat} (hS : ∀ p ∈ c, aL env.P 62 [Po p.l, T2 n d] (.int .i64 (FC p.l q.num q.den))) : aL env.P 183 [CH c, T2 n d] (.int .i64 (vr (lC c q.num q.den))) := by
 have hT1 : ∀ p ∈ c, aL env.P 231 [Po p.l, .rd [.bool (decide (n < 0)), us (aR LL n.natAbs), .bool (decide (d < 0)), us (aR LL d.natAbs)]] (.int .i64 (FC p.l q.num q.den)) := fun p hp => by
  have h1 := hS p hp
  generalize FC p.l q.num q.den = r at *
  generalize p.l = x at *
  refine aB (E := env) (fun _ => 0) [(0, Po x), (1, .rd [.bool (decide (n < 0)), us (aR LL n.natAbs), .bool (decide (d < 0)), us (aR LL d.natAbs)])] Tryz.func231 rfl (by kernel_rfl) (by kernel_rfl) (show 2 ≤ 7 by decide) (by simp) ?_
  refine W.sr ?_; simp (disch := omega) [gw]; refine W.lx [0, 1] ?_; simp
  refine W.sr ?_
  simp (disch := omega) [gw]
  refine aA h1 ?_
  simp (disch := omega) [gw]
  refine W.lx [3] ?_; simp
  refine W.ret ?_
  simp [go]
 have h1 := sC 231 rfl [.rd [.bool (decide (n < 0)), us (aR LL n.natAbs), .bool (decide (d < 0)), us (aR LL d.natAbs)]] rfl c (fun p => FC p.l q.num q.den) hl (fun p hp => ajd _) hT1
 rw [show c.map (fun p => FC p.l q.num q.den) = lC c q.num q.den from rfl] at h1
 generalize vr (lC c q.num q.den) = r at *
 refine aB (E := env) (fun _ => 0) [(0, CH c), (1, T2 n d)] Tryz.func183 rfl (by kernel_rfl) (by kernel_rfl) (show 2 ≤ 8 by decide) (by simp) ?_
 refine W.sr ?_; simp (disch := omega) [gw]; refine W.lx [0, 3] ?_; simp
 refine W.sr ?_
 simp (disch := omega) [gw]
 refine aA h1 ?_
 simp (disch := omega) [gw]
 refine W.lx [4] ?_; simp
 refine W.ret ?_
 simp [go]
theorem FI {c : List ZX} (hl : c.length < 1000000) {n d m e : Int} {p q : Rat} {z : Int} (hz : aL env.P 105 [T2 m e, T2 n d] (.int .i64 z)) (h1 : aL env.P 183 [CH c, T2 n d] (.int .i64 (vr (lC c p.num p.den)))) (h2 : aL env.P 183 [CH c, T2 m e] (.int .i64 (vr (lC c q.num q.den)))) :
  aL env.P 106 [CH c, T2 n d, T2 m e] (.int .i64 (if z < 0 then 0 else (vr (lC c p.num p.den) : Int) - vr (lC c q.num q.den))) := by
 have v1 := AL (lC c p.num p.den)
 have v2 := AL (lC c q.num q.den)
 have l1 : (lC c p.num p.den).length = c.length := by simp [lC]
 have l2 : (lC c q.num q.den).length = c.length := by simp [lC]
 generalize vr (lC c p.num p.den) = a at *
 generalize vr (lC c q.num q.den) = b at *
 refine aB (E := env) (fun _ => 0) [(0, CH c), (1, T2 n d), (2, T2 m e)] Tryz.func106 rfl (by kernel_rfl) (by kernel_rfl) (show 3 ≤ 18 by decide) (by simp) ?_
 refine W.sr ?_; simp (disch := omega) [gw]; refine W.lx [0, 4, 5] ?_; simp
 refine W.seq ?_
 refine W.sr ?_
 simp (disch := omega) [gw]
 refine aA hz ?_
 simp (disch := omega) [gw]
 refine W.lx [0, 4, 5, 10] ?_; simp
 refine W.cond ⟨_, rfl, fun h => ?_, fun h => ?_⟩
 ·have h : z < 0 := by simpa using h
  rw [if_pos h]
  refine W.sr ?_; simp (disch := omega) [gw]; refine W.lx [6] ?_; simp
  refine W.ret ?_
  simp [go]
 ·have h : ¬ z < 0 := by simpa using h
  rw [if_neg h]
  refine W.skip ?_
  refine W.sd ?_
  simp (disch := omega) [gw]
  refine aA h1 ?_
  simp (disch := omega) [gw]
  refine aA h2 ?_
  simp (disch := omega) [gw]
  refine W.lx [6] ?_; simp
  refine W.ret ?_
  simp [go]
section
variable {c : List ZX} (hl : c.length < 1000000) (hb : ∀ p ∈ c, PB p.l)
include hl hb
theorem T4 : aL env.P 165 [CH c] (.int .i64 (vr (QI c))) := by
 have h1 := sC 227 rfl [] rfl c (fun p => eL p.l) hl (fun p hp => eL3 p.l) (fun p hp => NF (hb p hp) p.c)
 rw [show c.map (fun p => eL p.l) = QI c from rfl] at h1
 generalize vr (QI c) = r at *
 refine aB (E := env) (fun _ => 0) [(0, CH c)] Tryz.func165 rfl (by kernel_rfl) (by kernel_rfl) (show 1 ≤ 5 by decide) (by simp) ?_
 refine W.sr ?_; simp (disch := omega) [gw]; refine W.lx [0] ?_; simp
 refine W.sr ?_
 simp (disch := omega) [gw]
 refine aA h1 ?_
 simp (disch := omega) [gw]
 refine W.lx [2] ?_; simp
 refine W.ret ?_
 simp [go]
theorem aag : aL env.P 166 [CH c] (.int .i64 (vr (QJ c))) := by
 have h1 := sC 228 rfl [] rfl c (fun p => eR p.l) hl (fun p hp => ajd _) (fun p hp => T3 (hb p hp) p.c)
 rw [show c.map (fun p => eR p.l) = QJ c from rfl] at h1
 generalize vr (QJ c) = r at *
 refine aB (E := env) (fun _ => 0) [(0, CH c)] Tryz.func166 rfl (by kernel_rfl) (by kernel_rfl) (show 1 ≤ 5 by decide) (by simp) ?_
 refine W.sr ?_; simp (disch := omega) [gw]; refine W.lx [0] ?_; simp
 refine W.sr ?_
 simp (disch := omega) [gw]
 refine aA h1 ?_
 simp (disch := omega) [gw]
 refine W.lx [2] ?_; simp
 refine W.ret ?_
 simp [go]
theorem NH : aL env.P 87 [CH c] (.int .i64 ((vr (QI c) : Int) - vr (QJ c))) := by
 have h1 := T4 hl hb
 have h2 := aag hl hb
 have v1 := AL (QI c)
 have v2 := AL (QJ c)
 have l1 : (QI c).length = c.length := by simp [QI]
 have l2 : (QJ c).length = c.length := by simp [QJ]
 generalize vr (QI c) = a at *
 generalize vr (QJ c) = b at *
 refine aB (E := env) (fun _ => 0) [(0, CH c)] Tryz.func87 rfl (by kernel_rfl) (by kernel_rfl) (show 1 ≤ 8 by decide) (by simp) ?_
 refine W.sr ?_; simp (disch := omega) [gw]; refine W.lx [0] ?_; simp
 refine W.sr ?_
 simp (disch := omega) [gw]
 refine aA h1 ?_
 simp (disch := omega) [gw]
 refine aA h2 ?_
 simp (disch := omega) [gw]
 refine W.lx [2] ?_; simp
 refine W.ret ?_
 simp [go]
end
end Go.Proofs.YtbbjgncblhfegaaGreat
