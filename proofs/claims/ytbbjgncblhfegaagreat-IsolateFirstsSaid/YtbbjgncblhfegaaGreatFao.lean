import Derived.Test.YtbbjgncblhfegaaGreatFal
import Derived.Test.YtbbjgncblhfegaaGreatFam
import Derived.Test.YtbbjgncblhfegaaGreatFan
set_option linter.unusedSimpArgs false
set_option linter.unusedVariables false
namespace Pm
def qv (t : Rat) : List Int → Rat
 | [] => 0
 | a :: l => (a : Rat) + t * qv t l
section
variable {t : Rat}
theorem sL {α : Type} (f g : α → Int) : ∀ l : List α, qv t (l.map fun k => f k + g k) = qv t (l.map f) + qv t (l.map g)
 | [] => by simp only [List.map_nil, qv]; grind
 | x :: l => by simp only [List.map_cons, qv, sL f g l, Rat.intCast_add]; grind
theorem A9 {α : Type} (c : Int) (f : α → Int) : ∀ l : List α, qv t (l.map fun k => f k * c) = qv t (l.map f) * c
 | [] => by simp only [List.map_nil, qv]; grind
 | x :: l => by simp only [List.map_cons, qv, A9 c f l, Rat.intCast_mul]; grind
theorem mU : ∀ (a : List Int) (n : Nat), qv t (a ++ List.replicate n 0) = qv t a
 | [], 0 => rfl
 | [], n + 1 => by
  have := mU [] n
  simp only [List.nil_append] at this
  simp only [List.nil_append, List.replicate_succ, qv, this, Rat.intCast_zero]; grind
 | x :: a, n => by simp only [List.cons_append, qv, mU a n]
theorem uF : ∀ l : List Int, qv t (aM l) = qv t l
 | [] => rfl
 | x :: l => by
  have ih := uF l
  simp only [aM]
  split
  ·rename_i h
   rw [h.1] at ih
   simp only [qv] at ih ⊢
   rw [← ih, h.2, Rat.intCast_zero]; grind
  ·simp only [qv, ih]
theorem kU {x : List Int} {n : Nat} (h : x.length ≤ n) : qv t ((List.range n).map (nth x)) = qv t x := by
 rw [m8 h, mU]
theorem RS (x y : List Int) : qv t (gC x y) = qv t x + qv t y := by
 rw [gC, uF, sL, kU (by omega), kU (by omega)]
theorem aes (x y : List Int) : qv t (eC x y) = qv t x - qv t y := by
 rw [eC, uF]
 have h1 := sL (t := t) (fun k => nth x k - nth y k) (nth y) (List.range (max x.length y.length))
 have h2 : (fun k => nth x k - nth y k + nth y k) = nth x := by funext k; omega
 rw [h2, kU (by omega), kU (by omega)] at h1
 grind
theorem KI : ∀ x y : List Int, qv t (eZ x y) = qv t x * qv t y
 | [], y => by simp only [eZ, qv]; grind
 | a :: x, y => by
  have := A9 (t := t) a id y
  simp only [id_eq, List.map_id_fun] at this
  rw [eZ, RS, this]
  simp only [qv, KI x y, Rat.intCast_zero]
  grind
theorem aet (x y : List Int) : qv t (bJ x y) = qv t x * qv t y := by rw [bJ, uF, KI]
end
namespace ZX
section
variable {t : Rat}
def e (t : Rat) (x : ZX) : Rat := qv t x.l
theorem apE (x y : ZX) : e t (x + y) = e t x + e t y := RS _ _
theorem xH (x y : ZX) : e t (x * y) = e t x * e t y := aet _ _
theorem apF (x y : ZX) : e t (x - y) = e t x - e t y := aes _ _
theorem apG (x : List Int) : e t (of x) = qv t x := uF x
theorem e_K (c : Int) : e t (K c) = c := by
 rw [K, apG]
 simp only [qv]; grind
theorem D7 : e t 1 = 1 := e_K 1
end
end ZX
def Ab (x M : Rat) : Prop := -M ≤ x ∧ x ≤ M
def kO (e x : Rat) : Prop := x ≤ -e ∨ e ≤ x
theorem Ab.mono {x M N : Rat} (h : Ab x M) (hMN : M ≤ N) : Ab x N := by
 obtain ⟨h1, h2⟩ := h
 exact ⟨by grind, by grind⟩
theorem Ab.add {x y M N : Rat} (h : Ab x M) (h' : Ab y N) : Ab (x + y) (M + N) := by
 obtain ⟨h1, h2⟩ := h
 obtain ⟨h3, h4⟩ := h'
 exact ⟨by grind, by grind⟩
theorem Ab.mul {x y M N : Rat} (h : Ab x M) (h' : Ab y N) : Ab (x * y) (M * N) := by
 obtain ⟨h1, h2⟩ := h
 obtain ⟨h3, h4⟩ := h'
 have p1 := Rat.mul_nonneg (show 0 ≤ M - x by grind) (show 0 ≤ N - y by grind)
 have p2 := Rat.mul_nonneg (show 0 ≤ M + x by grind) (show 0 ≤ N + y by grind)
 have p3 := Rat.mul_nonneg (show 0 ≤ M - x by grind) (show 0 ≤ N + y by grind)
 have p4 := Rat.mul_nonneg (show 0 ≤ M + x by grind) (show 0 ≤ N - y by grind)
 exact ⟨by grind, by grind⟩
theorem Ab.pos {x M : Rat} (h : Ab x M) : 0 ≤ M := by
 obtain ⟨h1, h2⟩ := h
 grind
theorem kO.mono {x e f : Rat} (h : kO e x) (hf : f ≤ e) : kO f x := by
 rcases h with h | h
 ·left; grind
 ·right; grind
theorem yD {x e : Rat} (h : ¬ kO e x) : -e < x ∧ x < e := by
 constructor
 ·exact Rat.not_le.1 fun h1 => h (.inl h1)
 ·exact Rat.not_le.1 fun h1 => h (.inr h1)
theorem mV {x e : Rat} (h : ¬ kO e x) : Ab x e := by
 obtain ⟨h1, h2⟩ := yD h
 exact ⟨Rat.le_of_lt h1, Rat.le_of_lt h2⟩
def cC (x : Rat) : Int := if x < 0 then -1 else if 0 < x then 1 else 0
theorem fS {x : Rat} (h : x < 0) : cC x = -1 := if_pos h
theorem eB {x : Rat} (h : 0 < x) : cC x = 1 := by
 rw [cC, if_neg (by grind), if_pos h]
theorem kD : cC 0 = 0 := by decide
theorem cL (x : Rat) : (x < 0 ∧ cC x = -1) ∨ (x = 0 ∧ cC x = 0) ∨ (0 < x ∧ cC x = 1) := by
 by_cases h : x < 0
 ·exact .inl ⟨h, fS h⟩
 ·by_cases h2 : 0 < x
  ·exact .inr (.inr ⟨h2, eB h2⟩)
  ·have : x = 0 := by grind
   subst this
   exact .inr (.inl ⟨rfl, kD⟩)
theorem mH (x : Rat) : cC x = -1 ∨ cC x = 0 ∨ cC x = 1 := by
 rcases cL x with h | h | h
 ·exact .inl h.2
 ·exact .inr (.inl h.2)
 ·exact .inr (.inr h.2)
theorem OE {x : Rat} : cC x = -1 ↔ x < 0 := by
 rcases cL x with ⟨h, e⟩ | ⟨h, e⟩ | ⟨h, e⟩ <;> rw [e] <;> constructor <;> intro h2 <;> first | omega | grind
theorem OG {x : Rat} : cC x = 1 ↔ 0 < x := by
 rcases cL x with ⟨h, e⟩ | ⟨h, e⟩ | ⟨h, e⟩ <;> rw [e] <;> constructor <;> intro h2 <;> first | omega | grind
theorem gH {x : Rat} : cC x = 0 ↔ x = 0 := by
 rcases cL x with ⟨h, e⟩ | ⟨h, e⟩ | ⟨h, e⟩ <;> rw [e] <;> constructor <;> intro h2 <;> first | omega | grind
theorem qX (x y : Rat) : cC (x * y) = cC x * cC y := by
 rcases cL x with ⟨h, e⟩ | ⟨h, e⟩ | ⟨h, e⟩ <;> rcases cL y with ⟨h', e'⟩ | ⟨h', e'⟩ | ⟨h', e'⟩ <;> rw [e, e']
 ·have := Rat.mul_pos (show 0 < -x by grind) (show 0 < -y by grind)
  rw [eB (by grind)]; rfl
 ·rw [h', Rat.mul_zero]; rfl
 ·have := Rat.mul_pos (show 0 < -x by grind) h'
  rw [fS (by grind)]; rfl
 ·rw [h, Rat.zero_mul]; rfl
 ·rw [h, Rat.zero_mul]; rfl
 ·rw [h, Rat.zero_mul]; rfl
 ·have := Rat.mul_pos h (show 0 < -y by grind)
  rw [fS (by grind)]; rfl
 ·rw [h', Rat.mul_zero]; rfl
 ·rw [eB (Rat.mul_pos h h')]; rfl
theorem eG {x y e : Rat} (h : kO e x) (he : 0 < e) (uS : ¬ kO e (y - x)) : cC y = cC x ∧ cC x ≠ 0 := by
 obtain ⟨h1, h2⟩ := yD uS
 rcases h with h | h
 ·rw [fS (show x < 0 by grind), fS (show y < 0 by grind)]; decide
 ·rw [eB (show 0 < x by grind), eB (show 0 < y by grind)]; decide
def dd (s t : Rat) : List Int → Rat
 | [] => 0
 | _ :: l => qv t l + s * dd s t l
def cc (s t : Rat) : List Int → Rat
 | [] => 0
 | _ :: l => dd s t l + s * cc s t l
theorem lN (s t : Rat) : ∀ x : List Int, qv t x - qv s x = (t - s) * dd s t x
 | [] => by simp only [qv, dd]; grind
 | a :: l => by
  have := lN s t l
  simp only [qv, dd]; grind
theorem OH (s t : Rat) : ∀ x : List Int, dd s t x - dd s s x = (t - s) * cc s t x
 | [] => by simp only [dd, cc]; grind
 | a :: l => by
  have := OH s t l
  have := lN s t l
  simp only [dd, cc]; grind
section
variable {S B s t : Rat} (hS : 0 ≤ S) (hB : 1 ≤ B) (hs : Ab s B) (ht : Ab t B)
def CL (S B : Rat) : Nat → Rat
 | 0 => S
 | k + 1 => CL S B k * (4 * B)
include hS hB in
theorem oE : ∀ k, 0 ≤ CL S B k ∧ S ≤ CL S B k
 | 0 => ⟨hS, Rat.le_refl⟩
 | k + 1 => by
  obtain ⟨h1, h2⟩ := oE k
  have h3 := Rat.mul_le_mul_of_nonneg_left (show (1 : Rat) ≤ 4 * B by grind) h1
  rw [CL]
  exact ⟨by grind, by grind⟩
include hS hB ht in
theorem RU : ∀ x : List Int, (∀ c ∈ x, Ab (c : Rat) S) → Ab (qv t x) (CL S B x.length)
 | [], _ => by
  show Ab 0 S
  exact ⟨by grind, hS⟩
 | a :: l, h => by
  have h1 := RU l fun c hc => h c (List.mem_cons_of_mem _ hc)
  have h2 := (h a (List.mem_cons_self ..)).add (ht.mul h1)
  obtain ⟨h3, h4⟩ := oE hS hB l.length
  have h5 := Rat.mul_le_mul_of_nonneg_left hB h3
  refine h2.mono ?_
  rw [List.length_cons, CL]
  grind
include hS hB hs ht in
theorem D8 : ∀ x : List Int, (∀ c ∈ x, Ab (c : Rat) S) → Ab (dd s t x) (CL S B x.length)
 | [], _ => by
  show Ab 0 S
  exact ⟨by grind, hS⟩
 | a :: l, h => by
  have h1 := D8 l fun c hc => h c (List.mem_cons_of_mem _ hc)
  have h0 := RU hS hB ht l fun c hc => h c (List.mem_cons_of_mem _ hc)
  have h2 := h0.add (hs.mul h1)
  obtain ⟨h3, h4⟩ := oE hS hB l.length
  have h5 := Rat.mul_le_mul_of_nonneg_left hB h3
  refine h2.mono ?_
  rw [List.length_cons, CL]
  grind
include hS hB hs ht in
theorem aaU : ∀ x : List Int, (∀ c ∈ x, Ab (c : Rat) S) → Ab (cc s t x) (CL S B x.length)
 | [], _ => by
  show Ab 0 S
  exact ⟨by grind, hS⟩
 | a :: l, h => by
  have h1 := aaU l fun c hc => h c (List.mem_cons_of_mem _ hc)
  have h0 := D8 hS hB hs ht l fun c hc => h c (List.mem_cons_of_mem _ hc)
  have h2 := h0.add (hs.mul h1)
  obtain ⟨h3, h4⟩ := oE hS hB l.length
  have h5 := Rat.mul_le_mul_of_nonneg_left hB h3
  refine h2.mono ?_
  rw [List.length_cons, CL]
  grind
end
theorem uG (t : Rat) : ∀ (l : List Int) (k : Nat), qv t (ZX.oU (k + 1) l) = qv t (ZX.oU k l) + qv t l
 | [], k => by simp only [ZX.oU, qv]; grind
 | a :: l, k => by
  simp only [ZX.oU, qv]
  rw [uG t l (k + 1)]
  have : ((k + 1 : Nat) : Int) = (k : Int) + 1 := by omega
  rw [this, Rat.intCast_mul, Rat.intCast_mul, Rat.intCast_add, Rat.intCast_one]; grind
theorem xI (t : Rat) : ∀ l : List Int, qv t (ZX.oU 1 l) = qv t l + t * dd t t l
 | [] => by simp only [ZX.oU, qv, dd]; grind
 | b :: m => by
  rw [ZX.oU]
  simp only [qv, dd]
  rw [uG, xI t m]
  rw [show ((1 : Nat) : Int) = 1 from rfl, Int.mul_one]
  grind
theorem agU (t : Rat) (x : ZX) : (ZX.bP x).e t = dd t t x.l := by
 rw [ZX.bP, ZX.apG]
 obtain ⟨l, hl⟩ := x
 show qv t (ZX.vF l) = dd t t l
 match l with
 | [] => rfl
 | a :: l => rw [ZX.D3, xI]; rfl
end Pm
namespace Pm
def CM (p : Int) : List Int → Nat
 | [] => 0
 | s :: l => if s = 0 then CM p l else (if p ≠ 0 ∧ s ≠ p then 1 else 0) + CM s l
def cl : List Int → List Int → Prop
 | [], [] => True
 | [x], [y] => x = y ∧ x ≠ 0
 | [_, x], [_, y] => x = y ∧ x ≠ 0
 | x0 :: x1 :: x2 :: x, y0 :: y1 :: y2 :: y => cl (x1 :: x2 :: x) (y1 :: y2 :: y) ∧ ((x1 = y1 ∧ x1 ≠ 0) ∨ (x0 = y0 ∧ x2 = y2 ∧ x0 = -x2 ∧ x2 ≠ 0))
 | _, _ => False
theorem GO : ∀ (n : Nat) (p : Int) (x y : List Int), x.length ≤ n → p ≠ 0 → (p = -1 ∨ p = 1) → (∀ s ∈ x, s = -1 ∨ s = 0 ∨ s = 1) → (∀ s ∈ y, s = -1 ∨ s = 0 ∨ s = 1) → cl (p :: x) (p :: y) → CM p x = CM p y
 | _, p, [], [], _, _, _, _, _, _ => rfl
 | _, p, [x1], [y1], _, _, _, _, _, h => by
  obtain ⟨rfl, h2⟩ := h
  rfl
 | _, p, [], [y1], _, _, _, _, _, h => by simp [cl] at h
 | _, p, [x1], [], _, _, _, _, _, h => by simp [cl] at h
 | _, p, [], _ :: _ :: _, _, _, _, _, _, h => by simp [cl] at h
 | _, p, _ :: _ :: _, [], _, _, _, _, _, h => by simp [cl] at h
 | _, p, [_], _ :: _ :: _, _, _, _, _, _, h => by simp [cl] at h
 | _, p, _ :: _ :: _, [_], _, _, _, _, _, h => by simp [cl] at h
 | 0, p, x1 :: x2 :: x, y1 :: y2 :: y, hn, _, _, _, _, _ => by simp at hn
 | n + 1, p, x1 :: x2 :: x, y1 :: y2 :: y, hn, hp, hp1, hx, hy, h => by
  obtain ⟨h1, h2⟩ := h
  rcases h2 with ⟨rfl, h2⟩ | ⟨_, rfl, h3, h4⟩
  ·have ih := GO n x1 (x2 :: x) (y2 :: y) (by simp at hn ⊢; omega) h2 (by have := hx x1 (by simp); omega) (fun s hs => hx s (List.mem_cons_of_mem _ hs)) (fun s hs => hy s (List.mem_cons_of_mem _ hs)) h1
   simp only [CM] at ih ⊢
   rw [if_neg h2, if_neg h2, ih]
  ·have ht : CM x2 x = CM x2 y := by
    refine GO n x2 x y (by simp at hn ⊢; omega) h4 (by have := hx x2 (by simp); omega) (fun s hs => hx s (by simp [hs])) (fun s hs => hy s (by simp [hs])) ?_
    match x, y, h1 with
    | [], [], _ => exact ⟨rfl, h4⟩
    | [], _ :: _, h1 => simp [cl] at h1
    | _ :: _, [], h1 => simp [cl] at h1
    | _ :: _, _ :: _, h1 => exact h1.1
   have key : ∀ z : Int, (z = -1 ∨ z = 0 ∨ z = 1) → ∀ w : List Int, CM p (z :: x2 :: w) = 1 + CM x2 w := fun z hz w => by
    simp only [CM]
    rcases hz with rfl | rfl | rfl
    ·rw [if_neg (by decide), if_neg h4]
     rcases hp1 with rfl | rfl
     ·rw [if_neg (by omega), if_pos (by omega)]; omega
     ·rw [if_pos (by omega), if_neg (by omega)]; omega
    ·rw [if_pos rfl, if_neg h4, if_pos (by omega)]
    ·rw [if_neg (by decide), if_neg h4]
     rcases hp1 with rfl | rfl
     ·rw [if_pos (by omega), if_neg (by omega)]; omega
     ·rw [if_neg (by omega), if_pos (by omega)]; omega
   rw [key x1 (hx x1 (by simp)), key y1 (hy y1 (by simp)), ht]
open ZX
def RV (ε t : Rat) : List ZX → Prop
 | [] => False
 | [a] => kO ε (e t a)
 | [_, b] => kO ε (e t b)
 | a :: b :: c :: l => RV ε t (b :: c :: l) ∧ (kO ε (e t b) ∨ (kO ε (e t a) ∧ kO ε (e t c) ∧ cC (e t a) = -cC (e t c)))
theorem RV.mono {ε δ t : Rat} (h : δ ≤ ε) : ∀ {l : List ZX}, RV ε t l → RV δ t l
 | [], g => g
 | [a], g => kO.mono g h
 | [a, b], g => kO.mono (x := e t b) g h
 | a :: b :: c :: l, g => ⟨RV.mono h g.1, by
  rcases g.2 with g | ⟨g1, g2, g3⟩
  ·exact .inl (g.mono h)
  ·exact .inr ⟨g1.mono h, g2.mono h, g3⟩⟩
theorem RV.two {ε t : Rat} {a b : ZX} : ∀ {l : List ZX}, RV ε t (a :: b :: l) → kO ε (e t a) ∨ kO ε (e t b)
 | [], g => .inr g
 | c :: l, g => by
  rcases g.2 with g | ⟨g1, g2, g3⟩
  ·exact .inr g
  ·exact .inl g1
def CN (t : Rat) (l : List ZX) : List Int := l.map fun p => cC (e t p)
theorem yE {t : Rat} {l : List ZX} : ∀ s ∈ CN t l, s = -1 ∨ s = 0 ∨ s = 1 := fun s hs => by
 simp only [CN, List.mem_map] at hs
 obtain ⟨p, _, rfl⟩ := hs
 exact mH _
theorem aaV {ε s t : Rat} (hε : 0 < ε) : ∀ {l : List ZX}, RV ε s l → (∀ p ∈ l, ¬ kO ε (e t p - e s p)) → cl (CN s l) (CN t l)
 | [], g, _ => g.elim
 | [a], g, h => by
  obtain ⟨h1, h2⟩ := eG g hε (h a (by simp))
  exact ⟨h1.symm, h2⟩
 | [a, b], g, h => by
  obtain ⟨h1, h2⟩ := eG (x := e s b) g hε (h b (by simp))
  exact ⟨h1.symm, h2⟩
 | a :: b :: c :: l, g, h => by
  refine ⟨aaV hε g.1 fun p hp => h p (List.mem_cons_of_mem _ hp), ?_⟩
  rcases g.2 with g | ⟨g1, g2, g3⟩
  ·obtain ⟨h1, h2⟩ := eG g hε (h b (by simp))
   exact .inl ⟨h1.symm, h2⟩
  ·obtain ⟨h1, h2⟩ := eG g1 hε (h a (by simp))
   obtain ⟨h3, h4⟩ := eG g2 hε (h c (by simp))
   exact .inr ⟨h1.symm, h3.symm, g3, h4⟩
def vt (l : List ZX) (t : Rat) : Nat := CM 0 (CN t l)
def ind (a : ZX) (s t : Rat) : Nat := if e s a ≠ 0 ∧ cC (e t a) ≠ cC (e s a) then 1 else 0
theorem aeu {ε s t : Rat} (hε : 0 < ε) {a : ZX} {l : List ZX} (g : RV ε s (a :: l)) (h : ∀ p ∈ a :: l, ¬ kO ε (e t p - e s p))
  (hm : ∀ b k, l = b :: k → kO ε (e s b) → cC (e t a - e s a) = cC (e s b)) : vt (a :: l) s = vt (a :: l) t + ind a s t := by
 have hc := aaV hε g h
 have hA : kO ε (e s a) → vt (a :: l) s = vt (a :: l) t + ind a s t := fun ha => by
  obtain ⟨h1, h2⟩ := eG ha hε (h a (by simp))
  have h3 : ind a s t = 0 := if_neg fun h => h.2 h1
  rw [h3]
  have hc' : cl (cC (e s a) :: CN s l) (cC (e s a) :: CN t l) := by
   have : CN t (a :: l) = cC (e s a) :: CN t l := by rw [← h1]; rfl
   rw [this] at hc
   exact hc
  have h4 := GO _ _ _ _ (Nat.le_refl _) h2 (by have := mH (e s a); omega) yE yE hc'
  show CM 0 (cC (e s a) :: CN s l) = CM 0 (cC (e t a) :: CN t l) + 0
  rw [h1]
  simp only [CM]
  rw [if_neg h2, if_neg h2, h4]; omega
 match l, g, h, hc, hm, hA with
 | [], g, h, hc, hm, hA => exact hA g
 | b :: l, g, h, hc, hm, hA =>
  rcases g.two with ha | hb
  ·exact hA ha
  ·obtain ⟨h1, h2⟩ := eG hb hε (h b (by simp))
   have h3 := hm b l rfl hb
   have hc' : cl (cC (e s b) :: CN s l) (cC (e s b) :: CN t l) := by
    match l, hc with
    | [], hc => exact ⟨rfl, h2⟩
    | c :: l, hc =>
     have h8 : cl (cC (e s b) :: CN s (c :: l)) (cC (e t b) :: CN t (c :: l)) := hc.1
     rw [h1] at h8
     exact h8
   have h4 := GO _ _ _ _ (Nat.le_refl _) h2 (by have := mH (e s b); omega) yE yE hc'
   show CM 0 (cC (e s a) :: cC (e s b) :: CN s l) = CM 0 (cC (e t a) :: cC (e t b) :: CN t l) + ind a s t
   rw [h1]
   simp only [CM]
   rw [if_neg h2, if_neg h2, h4]
   have hi : ind a s t = if cC (e s a) ≠ 0 ∧ cC (e t a) ≠ cC (e s a) then 1 else 0 := by
    unfold ind
    by_cases h6 : e s a = 0
    ·rw [if_neg (fun h7 => h7.1 h6), if_neg (fun h7 => h7.1 (gH.2 h6))]
    ·have h7 : cC (e s a) ≠ 0 := fun h8 => h6 (gH.1 h8)
     simp only [ne_eq, h6, h7, not_false_eq_true, true_and]
   rw [hi]
   have hd : (cC (e s b) = -1 → cC (e t a) ≤ cC (e s a) ∧ (cC (e t a) = cC (e s a) → cC (e s a) ≠ 0)) ∧ (cC (e s b) = 1 → cC (e s a) ≤ cC (e t a) ∧ (cC (e t a) = cC (e s a) → cC (e s a) ≠ 0)) := by
    refine ⟨fun h6 => ?_, fun h6 => ?_⟩
    ·have h5 := OE.1 (h3.trans h6)
     rcases cL (e s a) with ⟨q1, r1⟩ | ⟨q1, r1⟩ | ⟨q1, r1⟩ <;> rcases cL (e t a) with ⟨q2, r2⟩ | ⟨q2, r2⟩ | ⟨q2, r2⟩ <;> rw [r1, r2] <;> first | decide | (exfalso; grind)
    ·have h5 := OG.1 (h3.trans h6)
     rcases cL (e s a) with ⟨q1, r1⟩ | ⟨q1, r1⟩ | ⟨q1, r1⟩ <;> rcases cL (e t a) with ⟨q2, r2⟩ | ⟨q2, r2⟩ | ⟨q2, r2⟩ <;> rw [r1, r2] <;> first | decide | (exfalso; grind)
   have m1 := mH (e s a)
   have m2 := mH (e t a)
   have m3 := mH (e s b)
   generalize cC (e s a) = σ at *
   generalize cC (e t a) = τ at *
   generalize cC (e s b) = γ at *
   generalize CM γ (CN t l) = T at *
   obtain ⟨d1, d2⟩ := hd
   clear hc hc' h1 h3 hm hA h g hb hi
   rcases m3 with rfl | rfl | rfl
   ·obtain ⟨d3, d4⟩ := d1 rfl
    rcases m1 with rfl | rfl | rfl <;> rcases m2 with rfl | rfl | rfl <;> first | (exfalso; omega) | (simp; try omega)
   ·exact absurd rfl h2
   ·obtain ⟨d3, d4⟩ := d2 rfl
    rcases m1 with rfl | rfl | rfl <;> rcases m2 with rfl | rfl | rfl <;> first | (exfalso; omega) | (simp; try omega)
end Pm
namespace Pm
open ZX hiding N W
def StC (M B : Rat) : List ZX → Prop
 | [] => False
 | [a] => ∃ c : Int, c ≠ 0 ∧ a = K c
 | [_, b] => ∃ c : Int, c ≠ 0 ∧ b = K c
 | a :: b :: c :: l => StC M B (b :: c :: l) ∧ ∃ (m k : Int) (q : ZX), 0 < m ∧ 0 < k ∧ K m * a = q * b - K k * c ∧ 2 * (m : Rat) ≤ M ∧ ∀ t, Ab t B → Ab (2 * e t q) M
def xU (M : Rat) : Nat → Rat
 | 0 => 1
 | k + 1 => xU M k / M
theorem GP {M : Rat} (hM : 2 ≤ M) (k : Nat) : M * xU M (k + 1) = xU M k := by
 rw [xU, Rat.mul_comm, Rat.div_mul_cancel (by grind)]
theorem uH {M : Rat} (hM : 2 ≤ M) : ∀ k, 0 < xU M k
 | 0 => by show (0 : Rat) < 1; decide
 | k + 1 => by
  have h1 := uH hM k
  have h2 := GP hM k
  refine Rat.not_le.1 fun h => ?_
  have h3 := Rat.mul_nonneg (show 0 ≤ M by grind) (show 0 ≤ -xU M (k + 1) by grind)
  grind
theorem GQ {M : Rat} (hM : 2 ≤ M) (k : Nat) : xU M (k + 1) ≤ xU M k := by
 have h1 := uH hM (k + 1)
 have h2 := GP hM k
 have h3 := Rat.mul_le_mul_of_nonneg_right (show 1 ≤ M by grind) (Rat.le_of_lt h1)
 grind
theorem sM {M : Rat} (hM : 2 ≤ M) : ∀ k, xU M k ≤ 1
 | 0 => Rat.le_refl
 | k + 1 => Rat.le_trans (GQ hM k) (sM hM k)
theorem GR {c : Int} (h : c ≠ 0) : kO 1 (c : Rat) := by
 rcases Int.lt_trichotomy c 0 with h1 | h1 | h1
 ·left
  have : ((c : Int) : Rat) ≤ ((-1 : Int) : Rat) := Rat.intCast_le_intCast.2 (by omega)
  rw [Rat.intCast_neg, Rat.intCast_one] at this
  exact this
 ·exact absurd h1 h
 ·right
  have : ((1 : Int) : Rat) ≤ ((c : Int) : Rat) := Rat.intCast_le_intCast.2 (by omega)
  rw [Rat.intCast_one] at this
  exact this
theorem eH {c : Int} (h : 0 < c) : (1 : Rat) ≤ (c : Rat) := by
 have : ((1 : Int) : Rat) ≤ ((c : Int) : Rat) := Rat.intCast_le_intCast.2 (by omega)
 rwa [Rat.intCast_one] at this
theorem aaW {M ε ε' x y z q m k : Rat} (hM : 2 ≤ M) (he : M * ε' = ε) (hp : 0 < ε') (hm : 1 ≤ m) (hk : 1 ≤ k) (hmM : 2 * m ≤ M) (hq : Ab (2 * q) M) (e : m * x = q * y - k * z) (hy : ¬ kO ε' y) (hz : kO ε z) : kO ε' x ∧ cC x = -cC z := by
 have h1 := hq.mul (mV hy)
 rw [he] at h1
 obtain ⟨h2, h3⟩ := h1
 have hε : 0 < ε := by rw [← he]; exact Rat.mul_pos (by grind) hp
 have h6 := Rat.mul_le_mul_of_nonneg_right hmM (Rat.le_of_lt hp)
 rcases hz with hz | hz
 ·have h4 := Rat.mul_le_mul_of_nonneg_right hk (show 0 ≤ -z by grind)
  have h5 : ε ≤ 2 * (m * x) := by grind
  have h7 : ε' ≤ x := Rat.not_lt.1 fun h => by
   have := Rat.mul_lt_mul_of_pos_left h (show 0 < m by grind)
   grind
  refine ⟨.inr h7, ?_⟩
  rw [fS (x := z) (by grind), eB (x := x) (by grind)]; rfl
 ·have h4 := Rat.mul_le_mul_of_nonneg_right hk (show 0 ≤ z by grind)
  have h5 : 2 * (m * x) ≤ -ε := by grind
  have h7 : x ≤ -ε' := Rat.not_lt.1 fun h => by
   have := Rat.mul_lt_mul_of_pos_left h (show 0 < m by grind)
   grind
  refine ⟨.inl h7, ?_⟩
  rw [eB (x := z) (by grind), fS (x := x) (by grind)]
theorem StC.RV {M B t : Rat} (hM : 2 ≤ M) (ht : Ab t B) : ∀ {l : List ZX}, StC M B l → RV (xU M l.length) t l
 | [], h => h
 | [a], h => by
  obtain ⟨c, hc, rfl⟩ := h
  show kO _ (e t (K c))
  rw [e_K]
  exact (GR hc).mono (sM hM _)
 | [a, b], h => by
  obtain ⟨c, hc, rfl⟩ := h
  show kO _ (e t (K c))
  rw [e_K]
  exact (GR hc).mono (sM hM _)
 | a :: b :: c :: l, h => by
  obtain ⟨h1, m, k, q, hm, hk, he, hmM, hq⟩ := h
  have ih := StC.RV hM ht h1
  refine ⟨ih.mono (GQ hM _), ?_⟩
  by_cases hb : kO (xU M (a :: b :: c :: l).length) (e t b)
  ·exact .inl hb
  ·have hc : kO (xU M (b :: c :: l).length) (e t c) := by
    rcases ih.two with h2 | h2
    ·exact absurd (h2.mono (GQ hM _)) hb
    ·exact h2
   have KJ : (m : Rat) * e t a = e t q * e t b - k * e t c := by
    rw [← e_K (t := t) m, ← xH, he, apF, xH, xH, e_K]
   obtain ⟨g1, g2⟩ := aaW hM (GP hM _) (uH hM _) (eH hm) (eH hk) hmM (hq t ht) KJ hb hc
   exact .inr ⟨g1, hc.mono (GQ hM _), g2⟩
structure Lcl (L : List ZX) (f : ZX) (B δ : Rat) : Prop where
 turns : ∀ s t, Ab s B → Ab t B → s < t → t - s ≤ δ → vt L s = vt L t + ind f s t
 simple : ∀ s t, Ab s B → Ab t B → s < t → t - s ≤ δ → e s f = 0 → e t f ≠ 0
theorem xJ {h x Q ε : Rat} (hh : 0 ≤ h) (hx : Ab x Q) (hQ : h * Q < ε) : ¬ kO ε (h * x) := fun hb => by
 obtain ⟨h1, h2⟩ := (Ab.mul (x := h) (M := h) ⟨by grind, Rat.le_refl⟩ hx)
 rcases hb with hb | hb <;> grind
theorem U6 {h x Q ε c y d1 d2 : Rat} (hh : 0 < h) (hε : 0 < ε) (hc : 1 ≤ c) (hx : Ab x Q) (hQ : h * Q < ε) (hy : kO ε y) (e1 : d1 = c * y) (e2 : d2 - d1 = h * x) : cC (h * d2) = cC y := by
 obtain ⟨h1, h2⟩ := (Ab.mul (x := h) (M := h) ⟨by grind, Rat.le_refl⟩ hx)
 have hs : cC (h * d2) = cC d2 := by rw [qX, eB hh]; omega
 rw [hs]
 rcases hy with hy | hy
 ·have := Rat.mul_le_mul_of_nonneg_right hc (show 0 ≤ -y by grind)
  rw [fS (show y < 0 by grind), fS (show d2 < 0 by grind)]
 ·have := Rat.mul_le_mul_of_nonneg_right hc (show 0 ≤ y by grind)
  rw [eB (show 0 < y by grind), eB (show 0 < d2 by grind)]
theorem StC.loc {M B S Q δ : Rat} {f : ZX} {l : List ZX} (hM : 2 ≤ M) (hB : 1 ≤ B) (hS : 0 ≤ S) (h : StC M B (f :: l)) (hb : ∀ p ∈ f :: l, (∀ c ∈ p.l, Ab (c : Rat) S) ∧ CL S B p.l.length ≤ Q) (hd : ∀ g k, l = g :: k → ∃ c : Int, 0 < c ∧ bP f = K c * g)
  (hδ : δ * Q < xU M (f :: l).length) : Lcl (f :: l) f B δ := by
 have hQ0 : 0 ≤ Q := by
  obtain ⟨h1, h2⟩ := hb f (by simp)
  obtain ⟨h3, h4⟩ := oE hS hB f.l.length
  grind
 have hε := uH hM (f :: l).length
 have rC : ∀ s t : Rat, s < t → t - s ≤ δ → (t - s) * Q < xU M (f :: l).length := fun s t lS hd => by
  have := Rat.mul_le_mul_of_nonneg_right hd hQ0
  grind
 have key : ∀ s t, Ab s B → Ab t B → s < t → t - s ≤ δ → (∀ p ∈ f :: l, ¬ kO (xU M (f :: l).length) (e t p - e s p)) ∧ ∀ b k, l = b :: k → kO (xU M (f :: l).length) (e s b) → cC (e t f - e s f) = cC (e s b) := fun s t hs ht lS hsd => by
  refine ⟨fun p hp => ?_, fun b k hbk OI => ?_⟩
  ·obtain ⟨h1, h2⟩ := hb p hp
   show ¬ kO _ (qv t p.l - qv s p.l)
   rw [lN]
   exact xJ (by grind) ((D8 hS hB hs ht p.l h1).mono h2) (rC s t lS hsd)
  ·obtain ⟨c, hc, he⟩ := hd b k hbk
   obtain ⟨h1, h2⟩ := hb f (by simp)
   show cC (qv t f.l - qv s f.l) = _
   rw [lN]
   exact U6 (d1 := dd s s f.l) (by grind) hε (eH hc) ((aaU hS hB hs ht f.l h1).mono h2) (rC s t lS hsd) OI (by rw [← agU, he, xH, e_K]) (OH s t f.l)
 refine ⟨fun s t hs ht lS hsd => ?_, fun s t hs ht lS hsd h0 => ?_⟩
 ·obtain ⟨k1, k2⟩ := key s t hs ht lS hsd
  exact aeu hε (h.RV hM hs) k1 k2
 ·obtain ⟨k1, k2⟩ := key s t hs ht lS hsd
  have g := h.RV hM hs
  have nb : ¬ kO (xU M (f :: l).length) (e s f) := by
   rw [h0]
   rintro (h1 | h1) <;> grind
  match l, g, k2 with
  | [], g, _ => exact absurd g nb
  | b :: k, g, k2 =>
   have OI := g.two.resolve_left nb
   have h2 := k2 b k rfl OI
   intro h3
   rw [h0, h3, show (0 : Rat) - 0 = 0 by grind, kD] at h2
   have h4 := gH.1 h2.symm
   rw [h4] at OI
   rcases OI with h1 | h1 <;> grind
theorem ajZ {B δ : Rat} (hδ : 0 < δ) {P : Rat → Rat → Prop} (ht : ∀ a b c, a < b → b < c → P a b → P b c → P a c) (hs : ∀ a b, Ab a B → Ab b B → a < b → b - a ≤ δ → P a b) {a b : Rat} (ha : Ab a B) (hb : Ab b B) (fU : a < b) : P a b := by
 have key : ∀ (n : Nat) (a b : Rat), Ab a B → Ab b B → a < b → b - a ≤ (n : Rat) * δ → P a b := by
  intro n
  induction n with
  | zero => intro a b _ _ h1 h2; exfalso; rw [show ((0 : Nat) : Rat) = 0 from rfl] at h2; grind
  | succ n ih =>
   intro a b ha hb h1 h2
   by_cases h3 : b - a ≤ δ
   ·exact hs a b ha hb h1 h3
   ·have h3 := Rat.not_le.1 h3
    obtain ⟨a1, a2⟩ := ha
    obtain ⟨b1, b2⟩ := hb
    have hm : Ab (a + δ) B := ⟨by grind, by grind⟩
    refine ht a (a + δ) b (by grind) (by grind) (hs _ _ ⟨a1, a2⟩ hm (by grind) (by grind)) (ih _ _ hm ⟨b1, b2⟩ (by grind) ?_)
    rw [show ((n + 1 : Nat) : Rat) = (n : Rat) + 1 from by rw [Rat.natCast_add]; rfl] at h2
    grind
 have h1 := Rat.lt_floor_add_one ((b - a) / δ)
 have h2 : 0 ≤ ((b - a) / δ).floor := Rat.le_floor_iff.2 (by
  have := (Rat.lt_div_iff (a := 0) (b := b - a) hδ).2 (by grind)
  show ((0 : Int) : Rat) ≤ _
  rw [Rat.intCast_zero]; exact Rat.le_of_lt this)
 refine key ((((b - a) / δ).floor + 1).toNat) a b ha hb fU ?_
 have h3 : (((((b - a) / δ).floor + 1).toNat : Nat) : Rat) = ((((b - a) / δ).floor + 1 : Int) : Rat) := by
  rw [← Rat.intCast_natCast, Int.toNat_of_nonneg (by omega)]
 rw [h3]
 have h4 := (Rat.div_lt_iff hδ).1 h1
 exact Rat.le_of_lt h4
structure xV (L : List ZX) (f : ZX) : Prop where
 loc : ∀ B : Rat, 1 ≤ B → ∃ δ, 0 < δ ∧ Lcl L f B δ
theorem sN (a b : Rat) : ∃ B : Rat, 1 ≤ B ∧ Ab a B ∧ Ab b B := by
 have h1 : ∀ x : Rat, ∃ B : Rat, 1 ≤ B ∧ Ab x B := fun x => by
  by_cases h : 0 ≤ x
  ·exact ⟨x + 1, by grind, by grind, by grind⟩
  ·exact ⟨-x + 1, by grind, by grind, by grind⟩
 obtain ⟨A, hA, ha⟩ := h1 a
 obtain ⟨B, hB, hb⟩ := h1 b
 exact ⟨A + B, by grind, ha.mono (by grind), hb.mono (by grind)⟩
namespace xV
variable {L : List ZX} {f : ZX} (h : xV L f)
include h
theorem aaX {P : Rat → Rat → Prop} (ht : ∀ a b c, a < b → b < c → P a b → P b c → P a c) (hs : ∀ B δ, Lcl L f B δ → ∀ a b, Ab a B → Ab b B → a < b → b - a ≤ δ → P a b) {a b : Rat} (fU : a < b) : P a b := by
 obtain ⟨B, hB, ha, hb⟩ := sN a b
 obtain ⟨δ, hδ, hl⟩ := h.loc B hB
 exact ajZ hδ ht (hs B δ hl) ha hb fU
theorem cY {a b : Rat} (fU : a ≤ b) : vt L b ≤ vt L a := by
 rcases Rat.le_iff_lt_or_eq.1 fU with h1 | rfl
 ·refine h.aaX (P := fun a b => vt L b ≤ vt L a) (fun a b c _ _ h1 h2 => Nat.le_trans h2 h1) (fun B δ hl a b ha hb fU hd => ?_) h1
  rw [hl.turns a b ha hb fU hd]; omega
 ·exact Nat.le_refl _
theorem flat {a b : Rat} (fU : a < b) (he : vt L a = vt L b) : e b f ≠ 0 ∧ (e a f ≠ 0 → cC (e b f) = cC (e a f)) := by
 refine h.aaX (P := fun a b => vt L a = vt L b → e b f ≠ 0 ∧ (e a f ≠ 0 → cC (e b f) = cC (e a f))) (fun a b c h1 h2 p1 p2 hac => ?_) (fun B δ hl a b ha hb fU hd heq => ?_) fU he
 ·have := h.cY (Rat.le_of_lt h1)
  have := h.cY (Rat.le_of_lt h2)
  obtain ⟨q1, q2⟩ := p1 (by omega)
  obtain ⟨q3, q4⟩ := p2 (by omega)
  exact ⟨q3, fun ha => by rw [q4 q1, q2 ha]⟩
 ·have h1 := hl.turns a b ha hb fU hd
  have h2 : ind f a b = 0 := by omega
  unfold ind at h2
  by_cases h0 : e a f = 0
  ·exact ⟨hl.simple a b ha hb fU hd h0, fun h3 => absurd h0 h3⟩
  ·have h3 : cC (e b f) = cC (e a f) := Classical.byContradiction fun h3 => by rw [if_pos ⟨h0, h3⟩] at h2; omega
   refine ⟨fun h4 => h0 (gH.1 ?_), fun _ => h3⟩
   rw [← h3, h4, kD]
theorem const {a b : Rat} (fU : a < b) {σ : Int} (h0 : e a f = 0 ∨ cC (e a f) = σ) (h1 : ∀ x, a < x → x ≤ b → cC (e x f) = σ) : vt L a = vt L b := by
 refine h.aaX (P := fun x y => a ≤ x → y ≤ b → vt L x = vt L y) (fun x y z uS hyz p1 p2 hax hzb => (p1 hax (by grind)).trans (p2 (by grind) hzb)) (fun B δ hl x y hx hy uS hd hax hyb => ?_) fU Rat.le_refl Rat.le_refl
 rw [hl.turns x y hx hy uS hd]
 have h2 : ind f x y = 0 := if_neg fun h3 => by
  obtain ⟨h4, h5⟩ := h3
  rw [h1 y (by grind) hyb] at h5
  rcases Rat.le_iff_lt_or_eq.1 hax with h6 | rfl
  ·exact h5 (h1 x h6 (by grind)).symm
  ·rcases h0 with h0 | h0
   ·exact h4 h0
   ·exact h5 h0.symm
 omega
theorem root {s t : Rat} (lS : s < t) (h0 : e t f = 0) : vt L t < vt L s := by
 have h1 := h.cY (Rat.le_of_lt lS)
 refine Nat.lt_of_le_of_ne h1 fun h2 => ?_
 exact (h.flat lS h2.symm).1 h0
theorem count {roots : List Rat} (hn : roots.Nodup) (hr : ∀ r ∈ roots, e r f = 0) (hc : ∀ a b, a < b → (∀ r ∈ roots, a < r → b < r) → vt L a = vt L b) {a b : Rat} (fU : a < b) : vt L a = vt L b + (roots.countP fun r => decide (a < r ∧ r ≤ b)) := by
 refine h.aaX (P := fun a b => vt L a = vt L b + (roots.countP fun r => decide (a < r ∧ r ≤ b))) (fun a b c h1 h2 p1 p2 => ?_) (fun B δ hl a b ha hb fU hd => ?_) fU
 ·rw [p1, p2]
  have : ∀ l : List Rat, (l.countP fun r => decide (a < r ∧ r ≤ c)) = (l.countP fun r => decide (a < r ∧ r ≤ b)) + (l.countP fun r => decide (b < r ∧ r ≤ c)) := fun l => by
   induction l with
   | nil => rfl
   | cons x l ih =>
    rw [List.countP_cons, List.countP_cons, List.countP_cons, ih]
    by_cases q1 : a < x ∧ x ≤ b
    ·have q2 : ¬ (b < x ∧ x ≤ c) := fun q => by grind
     have q3 : a < x ∧ x ≤ c := ⟨q1.1, by grind⟩
     rw [if_pos (decide_eq_true q3), if_pos (decide_eq_true q1), if_neg (fun h => q2 (of_decide_eq_true h))]; omega
    ·by_cases q2 : b < x ∧ x ≤ c
     ·have q3 : a < x ∧ x ≤ c := ⟨by grind, q2.2⟩
      rw [if_pos (decide_eq_true q3), if_neg (fun h => q1 (of_decide_eq_true h)), if_pos (decide_eq_true q2)]; omega
     ·have q3 : ¬ (a < x ∧ x ≤ c) := fun q => by
       by_cases q4 : x ≤ b
       ·exact q1 ⟨q.1, q4⟩
       ·exact q2 ⟨Rat.not_le.1 q4, q.2⟩
      rw [if_neg (fun h => q3 (of_decide_eq_true h)), if_neg (fun h => q1 (of_decide_eq_true h)), if_neg (fun h => q2 (of_decide_eq_true h))]; omega
  rw [this roots]; omega
 ·have h1 := hl.turns a b ha hb fU hd
  have h2 : ind f a b ≤ 1 := by unfold ind; split <;> omega
  have hm : ∀ r, r ∈ roots.filter (fun r => decide (a < r ∧ r ≤ b)) ↔ r ∈ roots ∧ a < r ∧ r ≤ b := fun r => by simp [List.mem_filter]
  have HV : (roots.filter (fun r => decide (a < r ∧ r ≤ b))).Nodup := hn.filter _
  rw [List.countP_eq_length_filter]
  match hF : roots.filter (fun r => decide (a < r ∧ r ≤ b)), hm, HV with
  | [], hm, _ =>
   rw [List.length_nil, Nat.add_zero]
   refine hc a b fU fun r hr h3 => Rat.not_le.1 fun h4 => ?_
   have := (hm r).2 ⟨hr, h3, h4⟩
   simp at this
  | [r], hm, _ =>
   obtain ⟨g1, g2, g3⟩ := (hm r).1 (by simp)
   have := h.root g2 (hr r g1)
   have := h.cY g3
   simp only [List.length_cons, List.length_nil]
   omega
  | r :: q :: l, hm, HV =>
   exfalso
   obtain ⟨g1, g2, g3⟩ := (hm r).1 (by simp)
   obtain ⟨k1, k2, k3⟩ := (hm q).1 (by simp)
   have sZ : r ≠ q := by
    simp only [List.nodup_cons, List.mem_cons, not_or] at HV
    exact HV.1.1
   rcases Rat.le_total (a := r) (b := q) with h5 | h5
   ·have := h.root (Rat.lt_of_le_of_ne h5 sZ) (hr q k1)
    have := h.root g2 (hr r g1)
    have := h.cY k3
    omega
   ·have := h.root (Rat.lt_of_le_of_ne h5 (Ne.symm sZ)) (hr r g1)
    have := h.root k2 (hr q k1)
    have := h.cY g3
    omega
end xV
theorem yF {a b : Int} {l : List Int} (h : Cn (a :: b :: l)) : Cn (b :: l) := by
 unfold Cn at h ⊢
 rw [aM] at h
 split at h
 ·simp at h
 ·simpa using h
theorem vL {a b : Int} {l : List Int} : lead (a :: b :: l) = lead (b :: l) := by
 unfold lead
 simp only [List.length_cons, Nat.add_sub_cancel]
 rw [iU]
theorem D9 {S t : Rat} (hS : 0 ≤ S) (ht : S + 1 ≤ t) : ∀ {x : List Int}, Cn x → 0 < x.length → (∀ c ∈ x, Ab (c : Rat) S) → (0 < lead x → 1 ≤ qv t x) ∧ (lead x < 0 → qv t x ≤ -1)
 | [a], hc, _, _ => by
  have e1 : qv t [a] = (a : Rat) := by simp only [qv]; grind
  have e2 : lead [a] = a := rfl
  rw [e1, e2]
  refine ⟨fun h => eH h, fun h => ?_⟩
  have : ((a : Int) : Rat) ≤ ((-1 : Int) : Rat) := Rat.intCast_le_intCast.2 (by omega)
  rwa [Rat.intCast_neg, Rat.intCast_one] at this
 | a :: b :: l, hc, _, hb => by
  obtain ⟨h1, h2⟩ := D9 hS ht (yF hc) (by simp) fun c hc => hb c (List.mem_cons_of_mem _ hc)
  obtain ⟨h3, h4⟩ := hb a (by simp)
  have e1 : qv t (a :: b :: l) = a + t * qv t (b :: l) := rfl
  rw [vL, e1]
  refine ⟨fun h => ?_, fun h => ?_⟩
  ·have := Rat.mul_le_mul_of_nonneg_left (h1 h) (show 0 ≤ t by grind)
   grind
  ·have := Rat.mul_le_mul_of_nonneg_left (show 1 ≤ -qv t (b :: l) by have := h2 h; grind) (show 0 ≤ t by grind)
   grind
theorem KK {S t : Rat} (hS : 0 ≤ S) (ht : t ≤ -(S + 1)) : ∀ {x : List Int}, Cn x → 0 < x.length → (∀ c ∈ x, Ab (c : Rat) S) → (0 < (if x.length % 2 = 0 then -lead x else lead x) → 1 ≤ qv t x) ∧ ((if x.length % 2 = 0 then -lead x else lead x) < 0 → qv t x ≤ -1)
 | [a], hc, _, _ => by
  have e1 : qv t [a] = (a : Rat) := by simp only [qv]; grind
  have e2 : lead [a] = a := rfl
  rw [e1, e2, if_neg (by simp)]
  refine ⟨fun h => eH h, fun h => ?_⟩
  have : ((a : Int) : Rat) ≤ ((-1 : Int) : Rat) := Rat.intCast_le_intCast.2 (by omega)
  rwa [Rat.intCast_neg, Rat.intCast_one] at this
 | a :: b :: l, hc, _, hb => by
  obtain ⟨h1, h2⟩ := KK hS ht (yF hc) (by simp) fun c hc => hb c (List.mem_cons_of_mem _ hc)
  obtain ⟨h3, h4⟩ := hb a (by simp)
  have e1 : qv t (a :: b :: l) = a + t * qv t (b :: l) := rfl
  have e2 : (if (a :: b :: l).length % 2 = 0 then -lead (a :: b :: l) else lead (a :: b :: l)) = -(if (b :: l).length % 2 = 0 then -lead (b :: l) else lead (b :: l)) := by
   rw [vL]
   simp only [List.length_cons]
   split <;> split <;> omega
  rw [e2, e1]
  generalize (if (b :: l).length % 2 = 0 then -lead (b :: l) else lead (b :: l)) = z at *
  refine ⟨fun h => ?_, fun h => ?_⟩
  ·have := Rat.mul_le_mul_of_nonneg_left (show 1 ≤ -qv t (b :: l) by have := h2 (by omega); grind) (show 0 ≤ -t by grind)
   grind
  ·have := Rat.mul_le_mul_of_nonneg_left (h1 (by omega)) (show 0 ≤ -t by grind)
   grind
theorem EA {S t : Rat} (hS : 0 ≤ S) {x : List Int} (hc : Cn x) (hb : ∀ c ∈ x, Ab (c : Rat) S) : (S + 1 ≤ t → cC (qv t x) = (lead x).sign) ∧ (t ≤ -(S + 1) → cC (qv t x) = if x.length % 2 = 0 then -(lead x).sign else (lead x).sign) := by
 rcases Nat.eq_zero_or_pos x.length with h0 | h0
 ·have : x = [] := List.eq_nil_of_length_eq_zero h0
  subst this
  refine ⟨fun _ => ?_, fun _ => ?_⟩ <;> simp only [qv] <;> decide
 ·have hl := cH hc h0
  refine ⟨fun ht => ?_, fun ht => ?_⟩
  ·obtain ⟨h1, h2⟩ := D9 hS ht hc h0 hb
   rcases Int.lt_trichotomy (lead x) 0 with h | h | h
   ·have := h2 h
    rw [Int.sign_eq_neg_one_of_neg h, fS (by grind)]
   ·exact absurd h hl
   ·have := h1 h
    rw [Int.sign_eq_one_of_pos h, eB (by grind)]
  ·obtain ⟨h1, h2⟩ := KK hS ht hc h0 hb
   rcases Int.lt_trichotomy (lead x) 0 with h | h | h
   ·rw [Int.sign_eq_neg_one_of_neg h]
    split
    ·rw [if_pos (by assumption)] at h1
     have := h1 (by omega)
     rw [eB (by grind)]; rfl
    ·rw [if_neg (by assumption)] at h2
     have := h2 h
     rw [fS (by grind)]
   ·exact absurd h hl
   ·rw [Int.sign_eq_one_of_pos h]
    split
    ·rw [if_pos (by assumption)] at h2
     have := h2 (by omega)
     rw [fS (by grind)]
    ·rw [if_neg (by assumption)] at h1
     have := h1 h
     rw [eB (by grind)]
end Pm
namespace Pm
open ZX hiding N W
theorem kO.mul {x y η θ : Rat} (hη : 0 < η) (hθ : 0 < θ) (h : kO η x) (h' : kO θ y) : kO (η * θ) (x * y) := by
 have key : ∀ {u v : Rat}, η ≤ u → θ ≤ v → η * θ ≤ u * v := fun {u v} h1 h2 => by
  have p1 := Rat.mul_le_mul_of_nonneg_left h2 (Rat.le_of_lt hη)
  have p2 := Rat.mul_le_mul_of_nonneg_right h1 (show 0 ≤ v by grind)
  grind
 rcases h with h | h <;> rcases h' with h' | h'
 ·right; have := key (show η ≤ -x by grind) (show θ ≤ -y by grind); grind
 ·left; have := key (show η ≤ -x by grind) h'; grind
 ·left; have := key h (show θ ≤ -y by grind); grind
 ·right; exact key h h'
def Bg (a b : Rat) (p : ZX) : Prop := ∃ η : Rat, 0 < η ∧ ∀ x, a ≤ x → x ≤ b → kO η (e x p)
theorem Bg.mono {a b c d : Rat} {p : ZX} (h : Bg a b p) (hc : a ≤ c) (hd : d ≤ b) : Bg c d p := by
 obtain ⟨η, h1, h2⟩ := h
 exact ⟨η, h1, fun x hx hy => h2 x (by grind) (by grind)⟩
theorem GS (l : List Int) : ∃ S : Rat, 0 ≤ S ∧ ∀ c ∈ l, Ab (c : Rat) S := by
 induction l with
 | nil => exact ⟨0, Rat.le_refl, fun c hc => by cases hc⟩
 | cons a l ih =>
  obtain ⟨S, hS, h⟩ := ih
  obtain ⟨A, hA, ha, _⟩ := sN a a
  refine ⟨S + A, by grind, fun c hc => ?_⟩
  rcases List.mem_cons.1 hc with rfl | hc
  ·exact ha.mono (by grind)
  ·exact (h c hc).mono (by grind)
theorem eP {a b x B : Rat} (ha : Ab a B) (hb : Ab b B) (hx : a ≤ x) (hy : x ≤ b) : Ab x B := by
 obtain ⟨h1, h2⟩ := ha
 obtain ⟨h3, h4⟩ := hb
 exact ⟨by grind, by grind⟩
theorem Bg.same {a b : Rat} {f : ZX} (h : Bg a b f) {x y : Rat} (hx : a ≤ x) (uS : x < y) (hy : y ≤ b) : cC (e y f) = cC (e x f) ∧ cC (e x f) ≠ 0 := by
 obtain ⟨η, hη, h2⟩ := h
 obtain ⟨B, hB, ha, hb⟩ := sN a b
 obtain ⟨S, hS, hc⟩ := GS f.l
 obtain ⟨h3, _⟩ := oE hS hB f.l.length
 generalize hQ : CL S B f.l.length = Q at *
 have hQ1 : 0 < Q + 1 := by grind
 have hδ : η / (Q + 1) * (Q + 1) = η := Rat.div_mul_cancel (Rat.ne_of_gt hQ1)
 have hδ0 : 0 < η / (Q + 1) := (Rat.lt_div_iff hQ1).2 (by grind)
 generalize η / (Q + 1) = δ at *
 refine ajZ (B := B) hδ0 (P := fun x y => a ≤ x → y ≤ b → cC (e y f) = cC (e x f) ∧ cC (e x f) ≠ 0) (fun x y z h1 h2 p1 p2 hx hz => ?_) (fun x y hx hy uS hd hax hyb => ?_) (eP ha hb hx (by grind)) (eP ha hb (by grind) hy) uS hx hy
 ·obtain ⟨q1, q2⟩ := p1 hx (by grind)
  obtain ⟨q3, q4⟩ := p2 (by grind) hz
  exact ⟨q3.trans q1, q2⟩
 ·refine eG (h2 x hax (by grind)) hη ?_
  show ¬ kO η (qv y f.l - qv x f.l)
  rw [lN]
  refine xJ (Q := Q) (by grind) (hQ ▸ D8 hS hB hx hy f.l hc) ?_
  have := Rat.mul_le_mul_of_nonneg_right hd h3
  grind
theorem xV.bg {L : List ZX} {f : ZX} (h : xV L f) {a b : Rat} (hb : Bg a b f) (fU : a < b) : vt L a = vt L b := by
 refine h.const fU (σ := cC (e a f)) (.inr rfl) fun x hx hy => ?_
 exact (hb.same Rat.le_refl hx hy).1
end Pm
namespace Go.Proofs.YtbbjgncblhfegaaGreat
open Go Pm
abbrev T2 (n d : Int) : PV := .ag [.bool (decide (n < 0)), us (aT LL n.natAbs), .bool (decide (d < 0)), us (aT LL d.natAbs)]
abbrev RT (q : Rat) : PV := T2 q.num q.den
theorem auF (n d : Int) : ((bI [n, d] : Nat) : Int) = Int.gcd n d := by
 simp only [bI, List.foldl_cons, List.foldl_nil, Nat.gcd_zero_left]
 rfl
theorem aj1 {n d : Int} (h : d ≠ 0) : (cV n d).num = (if d < 0 then -n else n) / (bI [n, d] : Nat) ∧ ((cV n d).den : Int) = (if d < 0 then -d else d) / (bI [n, d] : Nat) := by
 have e : ∀ m k : Int, (m = n ∨ m = -n) → (k = d ∨ k = -d) → ((Int.gcd m k : Nat) : Int) = (bI [n, d] : Nat) := fun m k hm hk => by
  rw [auF]
  rcases hm with rfl | rfl <;> rcases hk with rfl | rfl <;> simp
 rw [n7 n d h, n8 n d h]
 constructor
 ·rw [e _ _ (by split <;> simp) (by split <;> simp)]
 ·rw [e _ _ (by split <;> simp) (by split <;> simp)]
theorem sO {n d : Int} (hn : sz LL n < 1099511627770) (hd : sz LL d < 1099511627770) (h0 : d ≠ 0) : aI env.P 192 [I n, I d] (RT (cV n d)) := by
 have sn : Sz n := by show _ < _; omega
 have sd : Sz d := by show _ < _; omega
 have g0 := JD [rE n, rE d] 1099511627770 (by decide) (fun c hc => by
  simp only [List.mem_cons, List.not_mem_nil, or_false] at hc
  rcases hc with rfl | rfl
  ·exact ⟨eT fT _, by unfold sz at hn; show (aT LL n.natAbs).length ≤ _; omega⟩
  ·exact ⟨eT fT _, by unfold sz at hd; show (aT LL d.natAbs).length ≤ _; omega⟩) (by simp)
 rw [show [rE n, rE d].map gv = [n, d] by simp [I0]] at g0
 obtain ⟨q1, q2⟩ := aj1 (n := n) h0
 have gd1 : ((bI [n, d] : Nat) : Int) ∣ n := gF _ n (by simp)
 have gd2 : ((bI [n, d] : Nat) : Int) ∣ d := gF _ d (by simp)
 have gne : ((bI [n, d] : Nat) : Int) ≠ 0 := by
  have := JU (x := [n, d]) (c := d) (by simp) h0; omega
 have gle : ((bI [n, d] : Nat) : Int).natAbs ≤ d.natAbs := Nat.le_of_dvd (by omega) (Int.natAbs_dvd_natAbs.2 gd2)
 have gsz : sz LL ((bI [n, d] : Nat) : Int) < 1099511627774 := Nat.lt_of_le_of_lt (cG fT gle) (by omega)
 have nn : ∀ v, qN (aT LL v) ↔ qN (aT LL v) := fun _ => Iff.rfl
 have neg : ∀ v : Int, Sz v → aI env.P 142 [I v] (I (-v)) := fun v hv => by
  have := zY (decide (v < 0)) (aT LL v.natAbs) hv.V7
  rw [show iv (decide (v < 0)) (aT LL v.natAbs) = v from I0 v] at this
  exact this
 generalize hg : ((bI [n, d] : Nat) : Int) = g at *
 have ex : ∀ v : Int, g ∣ v → sz LL v < 1099511627774 → aI env.P 234 [I v, I g] (.dP [I (v / g), .int .i64 0]) := fun v hv hs => by
  have := FZ hs gsz gne
  rw [if_pos (Int.emod_eq_zero_of_dvd hv)] at this
  exact this
 have n1 := neg n sn
 have n2 := neg d sd
 have apI : ∀ v : Int, sz LL (-v) = sz LL v := fun v => by unfold sz; rw [Int.natAbs_neg]
 have e1 := ex (if d < 0 then -n else n) (by split; exact (Int.dvd_neg.2 gd1); exact gd1) (by split; rw [apI]; omega; omega)
 have e2 := ex (if d < 0 then -d else d) (by split; exact (Int.dvd_neg.2 gd2); exact gd2) (by split; rw [apI]; omega; omega)
 rw [← q1] at e1
 rw [← q2] at e2
 have eg : Pg [rE n, rE d] = .sl [[.bool (decide (n < 0)), us (aT LL n.natAbs)], [.bool (decide (d < 0)), us (aT LL d.natAbs)]] := rfl
 rw [eg] at g0
 show aI env.P _ _ (T2 (cV n d).num (cV n d).den)
 generalize (cV n d).num = rn at *
 generalize ((cV n d).den : Int) = rd at *
 refine aB (E := env) (fun _ => 0) [(0, I n), (1, I d)] Tryz.func192 rfl (by kernel_rfl) (by kernel_rfl) (show 2 ≤ 31 by decide) (by simp) ?_
 refine W.sr ?_; simp (disch := omega) [gw]; refine W.lx [2, 3, 4] ?_; simp
 refine W.sr ?_
 simp (disch := omega) [gw]
 refine aA g0 ?_
 simp (disch := omega) [gw]
 refine W.lx [2, 3, 4, 5] ?_; simp
 generalize wL : (if d < 0 then -n else n) = n' at *
 generalize W3 : (if d < 0 then -d else d) = d' at *
 refine W.fI (fun σ => ∃ (rows : Pm.Rows) (clk : Nat), σ = ⟨fa [(2, .ptr 2 0 0 0), (3, .ptr 3 1 0 0), (4, .ptr 4 2 0 0), (5, .ptr 5 3 0 0)], rows, clk⟩ ∧ rows 2 = some ⟨0, 40, 2, [ie n']⟩ ∧ rows 3 = some ⟨1, 40, 2, [ie d']⟩ ∧ rows 4 = some ⟨2, 42, 4, [[.bool false, .nil, .bool false, .nil]]⟩ ∧ rows 5 = some ⟨3, 40, 2, [ie g]⟩) ?_ ?_
 ·refine W.sr ?_; simp (disch := omega) [gw]; refine W.lx [2, 3, 4, 5, 11] ?_; simp
  refine W.cond ⟨_, rfl, fun h => ?_, fun h => ?_⟩
  ·have h : d < 0 := by simpa using h
   rw [if_pos h] at wL W3
   subst wL W3
   refine W.M9 (fun K hK => ?_)
   simp (disch := omega) [gw]
   refine aA n1 ?_
   simp (disch := omega) [gw]
   refine aA n2 ?_
   simp (disch := omega) [gw]
   (try (refine cA (of_decide_eq_true (by kernel_rfl)) ?_)); (try simp (maxSteps := 4000000) (disch := omega) [gw]); (repeat rw [if_pos (by kernel_rfl)]); (try simp (maxSteps := 4000000) (disch := omega) [gw])
   (try (refine cA (of_decide_eq_true (by kernel_rfl)) ?_)); (try simp (maxSteps := 4000000) (disch := omega) [gw]); (repeat rw [if_pos (by kernel_rfl)]); (try simp (maxSteps := 4000000) (disch := omega) [gw])
   exact hK _ ⟨_, aC _ [2, 3, 4, 5], _, _, rfl, by simp, by simp, by simp, by simp⟩
  ·have h : ¬ d < 0 := by simpa using h
   rw [if_neg h] at wL W3
   subst wL W3
   refine W.skip ?_
   exact ⟨_, aC _ [2, 3, 4, 5], _, _, rfl, by simp, by simp, by simp, by simp⟩
 rintro _ ⟨rows, clk, rfl, cO, gD, iZ, mB⟩
 simp only [ie] at cO gD mB
 refine W.sr ?_
 simp (disch := omega) [gw, cO, mB]
 refine aA e1 ?_
 simp (disch := omega) [gw, cO]
 refine W.lx [2, 3, 4, 5] ?_; simp
 refine W.sr ?_
 simp (disch := omega) [gw, gD, mB]
 refine aA e2 ?_
 simp (disch := omega) [gw, gD]
 refine W.lx [2, 3, 4] ?_; simp
 refine W.sr ?_; simp (disch := omega) [gw, iZ]; refine W.lx [4] ?_; simp
 refine W.ret ?_
 simp [go]
theorem EB (d : Int) : aI env.P 190 [I d] (.bool (decide (d = 0))) := by
 have := I1 (decide (d < 0)) (aT LL d.natAbs)
 rw [show decide ((aT LL d.natAbs).length = 0) = decide (d = 0) from by
  by_cases h : d = 0
  ·subst h; rfl
  ·have : aT LL d.natAbs ≠ [] := fun h2 => h (by have := jK fT d.natAbs; rw [h2] at this; simp [V] at this; omega)
   have h3 := List.length_pos_iff.2 this
   simp [h]; omega] at this
 exact this
theorem OJ (n : Int) : cV n 0 = cV n 1 := by rw [kR, cV, if_pos rfl]
theorem qY {n d : Int} (hn : sz LL n < 1099511627770) (hd : sz LL d < 1099511627770) : aI env.P 164 [T2 n d] (RT (cV n d)) := by
 have sn : Sz n := by show _ < _; omega
 have sd : Sz d := by show _ < _; omega
 have n1 := FV sn
 have n2 := FV sd
 have z1 := EB d
 have o1 := z0 1 (by decide) (by decide)
 obtain ⟨e, he, hed⟩ : ∃ e, e = (if d = 0 then 1 else d) ∧ cV n e = cV n d := by
  refine ⟨_, rfl, ?_⟩
  split
  ·rename_i h; rw [h, OJ]
  ·rfl
 have he1 : sz LL e < 1099511627770 := by
  rw [he]
  split
  ·exact Nat.lt_of_le_of_lt (cT (k := 1) fT (by decide)) (by decide)
  ·exact hd
 have KJ : e ≠ 0 := by
  rw [he]
  split
  ·decide
  ·assumption
 have l1 := sO (n := n) (d := e) hn he1 KJ
 rw [hed] at l1
 show aI env.P _ _ (T2 (cV n d).num (cV n d).den)
 replace l1 : aI env.P 192 [I n, I e] (T2 (cV n d).num (cV n d).den) := l1
 clear hed he1 KJ
 generalize (cV n d).num = rn at *
 generalize ((cV n d).den : Int) = rd at *
 refine aB (E := env) (fun _ => 0) [(0, T2 n d)] Tryz.func164 rfl (by kernel_rfl) (by kernel_rfl) (show 1 ≤ 15 by decide) (by simp) ?_
 refine W.sr ?_; simp (disch := omega) [gw]; refine W.lx [1, 2] ?_; simp
 refine W.sr ?_
 simp (disch := omega) [gw]
 refine aA n2 ?_
 simp (disch := omega) [gw]
 refine W.lx [1, 2, 3] ?_; simp
 refine W.fI (fun σ => ∃ (rows : Pm.Rows) (clk : Nat), σ = ⟨fa [(1, .ptr 1 0 0 0), (2, .ptr 2 1 0 0), (3, .ptr 3 2 0 0)], rows, clk⟩ ∧ rows 1 = some ⟨0, 42, 4, [[.bool (decide (n < 0)), us (aT LL n.natAbs), .bool (decide (d < 0)), us (aT LL d.natAbs)]]⟩ ∧ rows 2 = some ⟨1, 42, 4, [[.bool false, .nil, .bool false, .nil]]⟩ ∧ rows 3 = some ⟨2, 40, 2, [[.bool (decide (e < 0)), us (aT LL e.natAbs)]]⟩) ?_ ?_
 ·refine W.sr ?_
  simp (disch := omega) [gw]
  refine aA z1 ?_
  simp (disch := omega) [gw]
  refine W.lx [1, 2, 3, 8] ?_; simp
  refine W.cond ⟨_, rfl, fun h => ?_, fun h => ?_⟩
  ·have h : d = 0 := by simpa using h
   rw [if_pos h] at he
   subst he
   refine W.cB (fun K hK => ?_)
   simp (disch := omega) [gw]
   refine aA o1 ?_
   simp (disch := omega) [gw]
   exact hK _ ⟨_, aC _ [1, 2, 3], _, _, rfl, by simp, by simp, by simp⟩
  ·have h : ¬ d = 0 := by simpa using h
   rw [if_neg h] at he
   subst he
   refine W.skip ?_
   exact ⟨_, aC _ [1, 2, 3], _, _, rfl, by simp, by simp, by simp⟩
 rintro _ ⟨rows, clk, rfl, CG, cO, gD⟩
 refine W.sd ?_
 simp (disch := omega) [gw, CG]
 refine aA n1 ?_
 simp (disch := omega) [gw, gD]
 refine aA l1 ?_
 simp (disch := omega) [gw, cO]
 (try (refine cA (of_decide_eq_true (by kernel_rfl)) ?_)); (try simp (maxSteps := 4000000) (disch := omega) [gw, cO]); (repeat rw [if_pos (by kernel_rfl)]); (try simp (maxSteps := 4000000) (disch := omega) [gw, cO])
 refine W.lx [2] ?_; simp
 refine W.ret ?_
 simp [go]
theorem EC {n d m e : Int} {k : Nat} (hn : sz LL n ≤ k) (hd : sz LL d ≤ k) (hm : sz LL m ≤ k) (he : sz LL e ≤ k) (hk : k ≤ 500000000000) {p q : Rat} (hp : cV n d = p) (hq : cV m e = q) (sp : sz LL p.num ≤ k ∧ sz LL (p.den : Int) ≤ k) (sq : sz LL q.num ≤ k ∧ sz LL (q.den : Int) ≤ k) :
  aI env.P 182 [T2 n d, T2 m e] (.dP [I (p.num * q.den), I (q.num * p.den), I ((p.den : Int) * q.den)]) := by
 have n1 := qY (n := n) (d := d) (by omega) (by omega)
 have n2 := qY (n := m) (d := e) (by omega) (by omega)
 rw [hp] at n1
 rw [hq] at n2
 have z : ∀ {v : Int}, sz LL v ≤ k → Sz v := fun h => by show _ < _; omega
 have m1 := tN (z sp.1) (z sq.2)
 have m2 := tN (z sq.1) (z sp.2)
 have m3 := tN (z sp.2) (z sq.2)
 replace n1 : aI env.P 164 [T2 n d] (T2 p.num p.den) := n1
 replace n2 : aI env.P 164 [T2 m e] (T2 q.num q.den) := n2
 clear sp sq hp hq
 generalize p.num * (q.den : Int) = x1 at *
 generalize q.num * (p.den : Int) = x2 at *
 generalize (p.den : Int) * (q.den : Int) = x3 at *
 generalize p.num = pn at *
 generalize (p.den : Int) = pd at *
 generalize q.num = qn at *
 generalize (q.den : Int) = qd at *
 refine aB (E := env) (fun _ => 0) [(0, T2 n d), (1, T2 m e)] Tryz.func182 rfl (by kernel_rfl) (by kernel_rfl) (show 2 ≤ 26 by decide) (by simp) ?_
 refine W.sr ?_; simp (disch := omega) [gw]; refine W.lx [2, 3, 4, 5, 6] ?_; simp
 refine W.sd ?_
 simp (disch := omega) [gw]
 refine aA n1 ?_
 simp (disch := omega) [gw]
 refine aA n2 ?_
 simp (disch := omega) [gw]
 (try (refine cA (of_decide_eq_true (by kernel_rfl)) ?_)); (try simp (maxSteps := 4000000) (disch := omega) [gw]); (repeat rw [if_pos (by kernel_rfl)]); (try simp (maxSteps := 4000000) (disch := omega) [gw])
 (try (refine cA (of_decide_eq_true (by kernel_rfl)) ?_)); (try simp (maxSteps := 4000000) (disch := omega) [gw]); (repeat rw [if_pos (by kernel_rfl)]); (try simp (maxSteps := 4000000) (disch := omega) [gw])
 refine W.lx [2, 3, 4, 5, 6] ?_; simp
 refine W.sd ?_
 simp (maxSteps := 4000000) (disch := omega) [gw]
 refine aA m1 ?_
 simp (maxSteps := 4000000) (disch := omega) [gw]
 refine aA m2 ?_
 simp (maxSteps := 4000000) (disch := omega) [gw]
 refine aA m3 ?_
 simp (maxSteps := 4000000) (disch := omega) [gw]
 (try (refine cA (of_decide_eq_true (by kernel_rfl)) ?_)); (try simp (maxSteps := 4000000) (disch := omega) [gw]); (repeat rw [if_pos (by kernel_rfl)]); (try simp (maxSteps := 4000000) (disch := omega) [gw])
 (try (refine cA (of_decide_eq_true (by kernel_rfl)) ?_)); (try simp (maxSteps := 4000000) (disch := omega) [gw]); (repeat rw [if_pos (by kernel_rfl)]); (try simp (maxSteps := 4000000) (disch := omega) [gw])
 (try (refine cA (of_decide_eq_true (by kernel_rfl)) ?_)); (try simp (maxSteps := 4000000) (disch := omega) [gw]); (repeat rw [if_pos (by kernel_rfl)]); (try simp (maxSteps := 4000000) (disch := omega) [gw])
 refine W.lx [4, 5, 6] ?_; simp
 refine W.ret ?_
 simp [go]
theorem ED {n d m e : Int} {k : Nat} (hn : sz LL n ≤ k) (hd : sz LL d ≤ k) (hm : sz LL m ≤ k) (he : sz LL e ≤ k) (hk : k ≤ 500000000000) {p q : Rat} (hp : cV n d = p) (hq : cV m e = q) (sp : sz LL p.num ≤ k ∧ sz LL (p.den : Int) ≤ k) (sq : sz LL q.num ≤ k ∧ sz LL (q.den : Int) ≤ k) :
  aI env.P 105 [T2 n d, T2 m e] (.int .i64 (dD (p.num * q.den) (q.num * p.den))) := by
 have c1 := EC hn hd hm he hk hp hq sp sq
 have g1 := bT (b := LL) fT sp.1 sq.2
 have g2 := bT (b := LL) fT sq.1 sp.2
 have w1 := ZG (x := p.num * q.den) (y := q.num * p.den) (by show _ < _; omega) (by show _ < _; omega)
 clear sp sq hp hq g1 g2
 generalize dD (p.num * (q.den : Int)) (q.num * (p.den : Int)) = r at *
 generalize p.num * (q.den : Int) = x1 at *
 generalize q.num * (p.den : Int) = x2 at *
 generalize (p.den : Int) * (q.den : Int) = x3 at *
 refine aB (E := env) (fun _ => 0) [(0, T2 n d), (1, T2 m e)] Tryz.func105 rfl (by kernel_rfl) (by kernel_rfl) (show 2 ≤ 18 by decide) (by simp) ?_
 refine W.sr ?_; simp (disch := omega) [gw]; refine W.lx [2, 3] ?_; simp
 refine W.sr ?_
 simp (disch := omega) [gw]
 refine aA c1 ?_
 simp (disch := omega) [gw]
 refine W.lx [5, 6] ?_; simp
 refine W.sr ?_
 simp (disch := omega) [gw]
 refine aA w1 ?_
 simp (disch := omega) [gw]
 refine W.lx [4] ?_; simp
 refine W.ret ?_
 simp [go]
theorem uI {n d : Int} (hn : sz LL n < 1099511627770) (hd : sz LL d < 1099511627770) : aI env.P 117 [T2 n d, .sl []] (RT (cV n d)) := by
 have n1 := qY hn hd
 show aI env.P _ _ (T2 (cV n d).num (cV n d).den)
 replace n1 : aI env.P 164 [T2 n d] (T2 (cV n d).num (cV n d).den) := n1
 generalize (cV n d).num = rn at *
 generalize ((cV n d).den : Int) = rd at *
 refine aB (E := env) (fun _ => 0) [(0, T2 n d), (1, .sl [])] Tryz.func117 rfl (by kernel_rfl) (by kernel_rfl) (show 2 ≤ 24 by decide) (by simp) ?_
 refine W.sr ?_; simp (disch := omega) [gw]; refine W.lx [1, 2, 4] ?_; simp
 refine W.sr ?_
 simp (disch := omega) [gw]
 refine aA n1 ?_
 simp (disch := omega) [gw]
 refine W.lx [1, 4, 5] ?_; simp
 refine W.seq ?_
 refine W.sr ?_; simp (disch := omega) [gw]; refine W.lx [4, 5, 10, 11, 12] ?_; simp
 refine W.block ?_
 refine W.bE (fun k σ => ∃ (rows : Pm.Rows) (clk : Nat), σ = ⟨fa [(4, .ptr 4 1 0 0), (5, .ptr 5 2 0 0), (11, .int .i64 0), (12, .int .i64 0)], rows, clk⟩ ∧ rows 4 = some ⟨1, 42, 4, [[.bool false, .nil, .bool false, .nil]]⟩ ∧ rows 5 = some ⟨2, 42, 4, [[.bool (decide (rn < 0)), us (aT LL rn.natAbs), .bool (decide (rd < 0)), us (aT LL rd.natAbs)]]⟩) 0 ?_ ?_
 ·exact ⟨_, aC _ [4, 5, 11, 12], _, _, rfl, by simp, by simp⟩
 rintro k _ ⟨rows, clk, rfl, iZ, mB⟩
 refine W.sr ?_; simp (disch := omega) [gw]; refine W.lx [4, 5, 11, 12, 13] ?_; simp
 refine W.seq ?_
 refine W.cond ⟨_, rfl, fun h => ?_, fun h => ?_⟩
 ·simp at h
 ·refine W.exit ?_; simp only [pX, if_true, if_false, reduceIte, Nat.reduceEqDiff]
  refine W.sr ?_
  simp (disch := omega) [gw, iZ, mB]
  refine W.lx [4] ?_; simp
  refine W.ret ?_
  simp [go]
theorem U7 {n d : Int} (hn : sz LL n < 1099511627770) (hd : sz LL d < 1099511627770) : aI env.P 132 [T2 n d] (RT (cV n d)) := by
 have n1 := uI hn hd
 show aI env.P _ _ (T2 (cV n d).num (cV n d).den)
 replace n1 : aI env.P 117 [T2 n d, .sl []] (T2 (cV n d).num (cV n d).den) := n1
 generalize (cV n d).num = rn at *
 generalize ((cV n d).den : Int) = rd at *
 refine aB (E := env) (fun _ => 0) [(0, T2 n d)] Tryz.func132 rfl (by kernel_rfl) (by kernel_rfl) (show 1 ≤ 5 by decide) (by simp) ?_
 refine W.sr ?_; simp (disch := omega) [gw]; refine W.lx [1, 2] ?_; simp
 refine W.sr ?_
 simp (disch := omega) [gw]
 refine aA n1 ?_
 simp (disch := omega) [gw]
 refine W.lx [2] ?_; simp
 refine W.ret ?_
 simp [go]
end Go.Proofs.YtbbjgncblhfegaaGreat
