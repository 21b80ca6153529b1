import Derived.Test.YtelhfbikiccfkaaGreatBal
import Derived.Test.YtelhfbikiccfkaaGreatBam
import Derived.Test.YtelhfbikiccfkaaGreatBan
set_option linter.unusedSimpArgs false
set_option linter.unusedVariables false
namespace Pm
def qv (t : Rat) : List Int → Rat
 | [] => 0
 | a :: l => (a : Rat) + t * qv t l
section
variable {t : Rat}
theorem uF {α : Type} (f g : α → Int) : ∀ l : List α, qv t (l.map fun k => f k + g k) = qv t (l.map f) + qv t (l.map g)
 | [] => by simp only [List.map_nil, qv]; grind
 | x :: l => by simp only [List.map_cons, qv, uF f g l, Rat.intCast_add]; grind
theorem C3 {α : Type} (c : Int) (f : α → Int) : ∀ l : List α, qv t (l.map fun k => f k * c) = qv t (l.map f) * c
 | [] => by simp only [List.map_nil, qv]; grind
 | x :: l => by simp only [List.map_cons, qv, C3 c f l, Rat.intCast_mul]; grind
theorem oB : ∀ (a : List Int) (n : Nat), qv t (a ++ List.replicate n 0) = qv t a
 | [], 0 => rfl
 | [], n + 1 => by
  have := oB [] n
  simp only [List.nil_append] at this
  simp only [List.nil_append, List.replicate_succ, qv, this, Rat.intCast_zero]; grind
 | x :: a, n => by simp only [List.cons_append, qv, oB a n]
theorem wC : ∀ l : List Int, qv t (aN l) = qv t l
 | [] => rfl
 | x :: l => by
  have ih := wC l
  simp only [aN]
  split
  ·rename_i h
   rw [h.1] at ih
   simp only [qv] at ih ⊢
   rw [← ih, h.2, Rat.intCast_zero]; grind
  ·simp only [qv, ih]
theorem mD {x : List Int} {n : Nat} (h : x.length ≤ n) : qv t ((List.range n).map (nth x)) = qv t x := by
 rw [oM h, oB]
theorem UL (x y : List Int) : qv t (gY x y) = qv t x + qv t y := by
 rw [gY, wC, uF, mD (by omega), mD (by omega)]
theorem agn (x y : List Int) : qv t (eZ x y) = qv t x - qv t y := by
 rw [eZ, wC]
 have h1 := uF (t := t) (fun k => nth x k - nth y k) (nth y) (List.range (max x.length y.length))
 have h2 : (fun k => nth x k - nth y k + nth y k) = nth x := by funext k; omega
 rw [h2, mD (by omega), mD (by omega)] at h1
 grind
theorem MX : ∀ x y : List Int, qv t (gD x y) = qv t x * qv t y
 | [], y => by simp only [gD, qv]; grind
 | a :: x, y => by
  have := C3 (t := t) a id y
  simp only [id_eq, List.map_id_fun] at this
  rw [gD, UL, this]
  simp only [qv, MX x y, Rat.intCast_zero]
  grind
theorem ago (x y : List Int) : qv t (bL x y) = qv t x * qv t y := by rw [bL, wC, MX]
end
namespace ZX
section
variable {t : Rat}
def e (t : Rat) (x : ZX) : Rat := qv t x.l
theorem UM (x y : ZX) : e t (x + y) = e t x + e t y := UL _ _
theorem gR (x y : ZX) : e t (x * y) = e t x * e t y := ago _ _
theorem arY (x y : ZX) : e t (x - y) = e t x - e t y := agn _ _
theorem alU (x : List Int) : e t (of x) = qv t x := wC x
theorem uU (c : Int) : e t (K c) = c := by
 rw [K, alU]
 simp only [qv]; grind
theorem UN : e t 1 = 1 := uU 1
end
end ZX
def Ab (x M : Rat) : Prop := -M ≤ x ∧ x ≤ M
def j7 (e x : Rat) : Prop := x ≤ -e ∨ e ≤ x
theorem Ab.mono {x M N : Rat} (h : Ab x M) (hMN : M ≤ N) : Ab x N := by
 obtain ⟨h1, h2⟩ := h
 exact ⟨by grind, by grind⟩
theorem Ab.add {x y M N : Rat} (h : Ab x M) (h' : Ab y N) : Ab (x + y) (M + N) := by
 obtain ⟨h1, h2⟩ := h
 obtain ⟨h3, h4⟩ := h'
 exact ⟨by grind, by grind⟩
theorem Ab.mul {x y M N : Rat} (h : Ab x M) (h' : Ab y N) : Ab (x * y) (M * N) := by
 obtain ⟨h1, h2⟩ := h
 obtain ⟨h3, h4⟩ := h'
 have p1 := Rat.mul_nonneg (show 0 ≤ M - x by grind) (show 0 ≤ N - y by grind)
 have p2 := Rat.mul_nonneg (show 0 ≤ M + x by grind) (show 0 ≤ N + y by grind)
 have p3 := Rat.mul_nonneg (show 0 ≤ M - x by grind) (show 0 ≤ N + y by grind)
 have p4 := Rat.mul_nonneg (show 0 ≤ M + x by grind) (show 0 ≤ N - y by grind)
 exact ⟨by grind, by grind⟩
theorem j7.mono {x e f : Rat} (h : j7 e x) (hf : f ≤ e) : j7 f x := by
 rcases h with h | h
 ·left; grind
 ·right; grind
theorem IQ {x e : Rat} (h : ¬ j7 e x) : -e < x ∧ x < e := by
 constructor
 ·exact Rat.not_le.1 fun h1 => h (.inl h1)
 ·exact Rat.not_le.1 fun h1 => h (.inr h1)
theorem EP {x e : Rat} (h : ¬ j7 e x) : Ab x e := by
 obtain ⟨h1, h2⟩ := IQ h
 exact ⟨Rat.le_of_lt h1, Rat.le_of_lt h2⟩
def bG (x : Rat) : Int := if x < 0 then -1 else if 0 < x then 1 else 0
theorem eY {x : Rat} (h : x < 0) : bG x = -1 := if_pos h
theorem dJ {x : Rat} (h : 0 < x) : bG x = 1 := by
 rw [bG, if_neg (by grind), if_pos h]
theorem eV : bG 0 = 0 := by decide
theorem bQ (x : Rat) : (x < 0 ∧ bG x = -1) ∨ (x = 0 ∧ bG x = 0) ∨ (0 < x ∧ bG x = 1) := by
 by_cases h : x < 0
 ·exact .inl ⟨h, eY h⟩
 ·by_cases h2 : 0 < x
  ·exact .inr (.inr ⟨h2, dJ h2⟩)
  ·have : x = 0 := by grind
   subst this
   exact .inr (.inl ⟨rfl, eV⟩)
theorem mE (x : Rat) : bG x = -1 ∨ bG x = 0 ∨ bG x = 1 := by
 rcases bQ x with h | h | h
 ·exact .inl h.2
 ·exact .inr (.inl h.2)
 ·exact .inr (.inr h.2)
theorem C4 {x : Rat} : bG x = -1 ↔ x < 0 := by
 rcases bQ x with ⟨h, e⟩ | ⟨h, e⟩ | ⟨h, e⟩ <;> rw [e] <;> constructor <;> intro h2 <;> first | omega | grind
theorem C5 {x : Rat} : bG x = 1 ↔ 0 < x := by
 rcases bQ x with ⟨h, e⟩ | ⟨h, e⟩ | ⟨h, e⟩ <;> rw [e] <;> constructor <;> intro h2 <;> first | omega | grind
theorem cP {x : Rat} : bG x = 0 ↔ x = 0 := by
 rcases bQ x with ⟨h, e⟩ | ⟨h, e⟩ | ⟨h, e⟩ <;> rw [e] <;> constructor <;> intro h2 <;> first | omega | grind
theorem agp (x : Rat) : bG (-x) = -bG x := by
 rcases bQ x with ⟨h, e⟩ | ⟨h, e⟩ | ⟨h, e⟩ <;> rw [e]
 ·rw [dJ (by grind)]; rfl
 ·rw [h]; rfl
 ·rw [eY (by grind)]
theorem k9 (x y : Rat) : bG (x * y) = bG x * bG y := by
 rcases bQ x with ⟨h, e⟩ | ⟨h, e⟩ | ⟨h, e⟩ <;> rcases bQ y with ⟨h', e'⟩ | ⟨h', e'⟩ | ⟨h', e'⟩ <;> rw [e, e']
 ·have := Rat.mul_pos (show 0 < -x by grind) (show 0 < -y by grind)
  rw [dJ (by grind)]; rfl
 ·rw [h', Rat.mul_zero]; rfl
 ·have := Rat.mul_pos (show 0 < -x by grind) h'
  rw [eY (by grind)]; rfl
 ·rw [h, Rat.zero_mul]; rfl
 ·rw [h, Rat.zero_mul]; rfl
 ·rw [h, Rat.zero_mul]; rfl
 ·have := Rat.mul_pos h (show 0 < -y by grind)
  rw [eY (by grind)]; rfl
 ·rw [h', Rat.mul_zero]; rfl
 ·rw [dJ (Rat.mul_pos h h')]; rfl
theorem fG {x y e : Rat} (h : j7 e x) (he : 0 < e) (tM : ¬ j7 e (y - x)) : bG y = bG x ∧ bG x ≠ 0 := by
 obtain ⟨h1, h2⟩ := IQ tM
 rcases h with h | h
 ·rw [eY (show x < 0 by grind), eY (show y < 0 by grind)]; decide
 ·rw [dJ (show 0 < x by grind), dJ (show 0 < y by grind)]; decide
def dd (s t : Rat) : List Int → Rat
 | [] => 0
 | _ :: l => qv t l + s * dd s t l
def cc (s t : Rat) : List Int → Rat
 | [] => 0
 | _ :: l => dd s t l + s * cc s t l
theorem l5 (s t : Rat) : ∀ x : List Int, qv t x - qv s x = (t - s) * dd s t x
 | [] => by simp only [qv, dd]; grind
 | a :: l => by
  have := l5 s t l
  simp only [qv, dd]; grind
theorem IU (s t : Rat) : ∀ x : List Int, dd s t x - dd s s x = (t - s) * cc s t x
 | [] => by simp only [dd, cc]; grind
 | a :: l => by
  have := IU s t l
  have := l5 s t l
  simp only [dd, cc]; grind
section
variable {S B s t : Rat} (hS : 0 ≤ S) (hB : 1 ≤ B) (hs : Ab s B) (ht : Ab t B)
def wW (S B : Rat) : Nat → Rat
 | 0 => S
 | k + 1 => wW S B k * (4 * B)
include hS hB in
theorem nR : ∀ k, 0 ≤ wW S B k ∧ S ≤ wW S B k
 | 0 => ⟨hS, Rat.le_refl⟩
 | k + 1 => by
  obtain ⟨h1, h2⟩ := nR k
  have h3 := Rat.mul_le_mul_of_nonneg_left (show (1 : Rat) ≤ 4 * B by grind) h1
  rw [wW]
  exact ⟨by grind, by grind⟩
include hS hB ht in
theorem UO : ∀ x : List Int, (∀ c ∈ x, Ab (c : Rat) S) → Ab (qv t x) (wW S B x.length)
 | [], _ => by
  show Ab 0 S
  exact ⟨by grind, hS⟩
 | a :: l, h => by
  have h1 := UO l fun c hc => h c (List.mem_cons_of_mem _ hc)
  have h2 := (h a (List.mem_cons_self ..)).add (ht.mul h1)
  obtain ⟨h3, h4⟩ := nR hS hB l.length
  have h5 := Rat.mul_le_mul_of_nonneg_left hB h3
  refine h2.mono ?_
  rw [List.length_cons, wW]
  grind
include hS hB hs ht in
theorem GC : ∀ x : List Int, (∀ c ∈ x, Ab (c : Rat) S) → Ab (dd s t x) (wW S B x.length)
 | [], _ => by
  show Ab 0 S
  exact ⟨by grind, hS⟩
 | a :: l, h => by
  have h1 := GC l fun c hc => h c (List.mem_cons_of_mem _ hc)
  have h0 := UO hS hB ht l fun c hc => h c (List.mem_cons_of_mem _ hc)
  have h2 := h0.add (hs.mul h1)
  obtain ⟨h3, h4⟩ := nR hS hB l.length
  have h5 := Rat.mul_le_mul_of_nonneg_left hB h3
  refine h2.mono ?_
  rw [List.length_cons, wW]
  grind
include hS hB hs ht in
theorem UP : ∀ x : List Int, (∀ c ∈ x, Ab (c : Rat) S) → Ab (cc s t x) (wW S B x.length)
 | [], _ => by
  show Ab 0 S
  exact ⟨by grind, hS⟩
 | a :: l, h => by
  have h1 := UP l fun c hc => h c (List.mem_cons_of_mem _ hc)
  have h0 := GC hS hB hs ht l fun c hc => h c (List.mem_cons_of_mem _ hc)
  have h2 := h0.add (hs.mul h1)
  obtain ⟨h3, h4⟩ := nR hS hB l.length
  have h5 := Rat.mul_le_mul_of_nonneg_left hB h3
  refine h2.mono ?_
  rw [List.length_cons, wW]
  grind
end
theorem wD (t : Rat) : ∀ (l : List Int) (k : Nat), qv t (ZX.p0 (k + 1) l) = qv t (ZX.p0 k l) + qv t l
 | [], k => by simp only [ZX.p0, qv]; grind
 | a :: l, k => by
  simp only [ZX.p0, qv]
  rw [wD t l (k + 1)]
  have : ((k + 1 : Nat) : Int) = (k : Int) + 1 := by omega
  rw [this, Rat.intCast_mul, Rat.intCast_mul, Rat.intCast_add, Rat.intCast_one]; grind
theorem y8 (t : Rat) : ∀ l : List Int, qv t (ZX.p0 1 l) = qv t l + t * dd t t l
 | [] => by simp only [ZX.p0, qv, dd]; grind
 | b :: m => by
  rw [ZX.p0]
  simp only [qv, dd]
  rw [wD, y8 t m]
  rw [show ((1 : Nat) : Int) = 1 from rfl, Int.mul_one]
  grind
theorem acr (t : Rat) (x : ZX) : (ZX.bI x).e t = dd t t x.l := by
 rw [ZX.bI, ZX.alU]
 obtain ⟨l, hl⟩ := x
 show qv t (ZX.xG l) = dd t t l
 match l with
 | [] => rfl
 | a :: l => rw [ZX.F3, y8]; rfl
end Pm
namespace Pm
def ER (p : Int) : List Int → Nat
 | [] => 0
 | s :: l => if s = 0 then ER p l else (if p ≠ 0 ∧ s ≠ p then 1 else 0) + ER s l
def cl : List Int → List Int → Prop
 | [], [] => True
 | [x], [y] => x = y ∧ x ≠ 0
 | [_, x], [_, y] => x = y ∧ x ≠ 0
 | x0 :: x1 :: x2 :: x, y0 :: y1 :: y2 :: y => cl (x1 :: x2 :: x) (y1 :: y2 :: y) ∧ ((x1 = y1 ∧ x1 ≠ 0) ∨ (x0 = y0 ∧ x2 = y2 ∧ x0 = -x2 ∧ x2 ≠ 0))
 | _, _ => False
theorem IW : ∀ (n : Nat) (p : Int) (x y : List Int), x.length ≤ n → p ≠ 0 → (p = -1 ∨ p = 1) → (∀ s ∈ x, s = -1 ∨ s = 0 ∨ s = 1) → (∀ s ∈ y, s = -1 ∨ s = 0 ∨ s = 1) → cl (p :: x) (p :: y) → ER p x = ER p y
 | _, p, [], [], _, _, _, _, _, _ => rfl
 | _, p, [x1], [y1], _, _, _, _, _, h => by
  obtain ⟨rfl, h2⟩ := h
  rfl
 | _, p, [], [y1], _, _, _, _, _, h => by simp [cl] at h
 | _, p, [x1], [], _, _, _, _, _, h => by simp [cl] at h
 | _, p, [], _ :: _ :: _, _, _, _, _, _, h => by simp [cl] at h
 | _, p, _ :: _ :: _, [], _, _, _, _, _, h => by simp [cl] at h
 | _, p, [_], _ :: _ :: _, _, _, _, _, _, h => by simp [cl] at h
 | _, p, _ :: _ :: _, [_], _, _, _, _, _, h => by simp [cl] at h
 | 0, p, x1 :: x2 :: x, y1 :: y2 :: y, hn, _, _, _, _, _ => by simp at hn
 | n + 1, p, x1 :: x2 :: x, y1 :: y2 :: y, hn, hp, hp1, hx, hy, h => by
  obtain ⟨h1, h2⟩ := h
  rcases h2 with ⟨rfl, h2⟩ | ⟨_, rfl, h3, h4⟩
  ·have ih := IW n x1 (x2 :: x) (y2 :: y) (by simp at hn ⊢; omega) h2 (by have := hx x1 (by simp); omega) (fun s hs => hx s (List.mem_cons_of_mem _ hs)) (fun s hs => hy s (List.mem_cons_of_mem _ hs)) h1
   simp only [ER] at ih ⊢
   rw [if_neg h2, if_neg h2, ih]
  ·have ht : ER x2 x = ER x2 y := by
    refine IW n x2 x y (by simp at hn ⊢; omega) h4 (by have := hx x2 (by simp); omega) (fun s hs => hx s (by simp [hs])) (fun s hs => hy s (by simp [hs])) ?_
    match x, y, h1 with
    | [], [], _ => exact ⟨rfl, h4⟩
    | [], _ :: _, h1 => simp [cl] at h1
    | _ :: _, [], h1 => simp [cl] at h1
    | _ :: _, _ :: _, h1 => exact h1.1
   have key : ∀ z : Int, (z = -1 ∨ z = 0 ∨ z = 1) → ∀ w : List Int, ER p (z :: x2 :: w) = 1 + ER x2 w := fun z hz w => by
    simp only [ER]
    rcases hz with rfl | rfl | rfl
    ·rw [if_neg (by decide), if_neg h4]
     rcases hp1 with rfl | rfl
     ·rw [if_neg (by omega), if_pos (by omega)]; omega
     ·rw [if_pos (by omega), if_neg (by omega)]; omega
    ·rw [if_pos rfl, if_neg h4, if_pos (by omega)]
    ·rw [if_neg (by decide), if_neg h4]
     rcases hp1 with rfl | rfl
     ·rw [if_pos (by omega), if_neg (by omega)]; omega
     ·rw [if_neg (by omega), if_pos (by omega)]; omega
   rw [key x1 (hx x1 (by simp)), key y1 (hy y1 (by simp)), ht]
open ZX
def UQ (ε t : Rat) : List ZX → Prop
 | [] => False
 | [a] => j7 ε (e t a)
 | [_, b] => j7 ε (e t b)
 | a :: b :: c :: l => UQ ε t (b :: c :: l) ∧ (j7 ε (e t b) ∨ (j7 ε (e t a) ∧ j7 ε (e t c) ∧ bG (e t a) = -bG (e t c)))
theorem UQ.mono {ε δ t : Rat} (h : δ ≤ ε) : ∀ {l : List ZX}, UQ ε t l → UQ δ t l
 | [], g => g
 | [a], g => j7.mono g h
 | [a, b], g => j7.mono (x := e t b) g h
 | a :: b :: c :: l, g => ⟨UQ.mono h g.1, by
  rcases g.2 with g | ⟨g1, g2, g3⟩
  ·exact .inl (g.mono h)
  ·exact .inr ⟨g1.mono h, g2.mono h, g3⟩⟩
theorem UQ.two {ε t : Rat} {a b : ZX} : ∀ {l : List ZX}, UQ ε t (a :: b :: l) → j7 ε (e t a) ∨ j7 ε (e t b)
 | [], g => .inr g
 | c :: l, g => by
  rcases g.2 with g | ⟨g1, g2, g3⟩
  ·exact .inr g
  ·exact .inl g1
def ES (t : Rat) (l : List ZX) : List Int := l.map fun p => bG (e t p)
theorem z5 {t : Rat} {l : List ZX} : ∀ s ∈ ES t l, s = -1 ∨ s = 0 ∨ s = 1 := fun s hs => by
 simp only [ES, List.mem_map] at hs
 obtain ⟨p, _, rfl⟩ := hs
 exact mE _
theorem acs {ε s t : Rat} (hε : 0 < ε) : ∀ {l : List ZX}, UQ ε s l → (∀ p ∈ l, ¬ j7 ε (e t p - e s p)) → cl (ES s l) (ES t l)
 | [], g, _ => g.elim
 | [a], g, h => by
  obtain ⟨h1, h2⟩ := fG g hε (h a (by simp))
  exact ⟨h1.symm, h2⟩
 | [a, b], g, h => by
  obtain ⟨h1, h2⟩ := fG (x := e s b) g hε (h b (by simp))
  exact ⟨h1.symm, h2⟩
 | a :: b :: c :: l, g, h => by
  refine ⟨acs hε g.1 fun p hp => h p (List.mem_cons_of_mem _ hp), ?_⟩
  rcases g.2 with g | ⟨g1, g2, g3⟩
  ·obtain ⟨h1, h2⟩ := fG g hε (h b (by simp))
   exact .inl ⟨h1.symm, h2⟩
  ·obtain ⟨h1, h2⟩ := fG g1 hε (h a (by simp))
   obtain ⟨h3, h4⟩ := fG g2 hε (h c (by simp))
   exact .inr ⟨h1.symm, h3.symm, g3, h4⟩
def vt (l : List ZX) (t : Rat) : Nat := ER 0 (ES t l)
def ind (a : ZX) (s t : Rat) : Nat := if e s a ≠ 0 ∧ bG (e t a) ≠ bG (e s a) then 1 else 0
theorem agq {ε s t : Rat} (hε : 0 < ε) {a : ZX} {l : List ZX} (g : UQ ε s (a :: l)) (h : ∀ p ∈ a :: l, ¬ j7 ε (e t p - e s p))
  (hm : ∀ b k, l = b :: k → j7 ε (e s b) → bG (e t a - e s a) = bG (e s b)) : vt (a :: l) s = vt (a :: l) t + ind a s t := by
 have hc := acs hε g h
 have hA : j7 ε (e s a) → vt (a :: l) s = vt (a :: l) t + ind a s t := fun ha => by
  obtain ⟨h1, h2⟩ := fG ha hε (h a (by simp))
  have h3 : ind a s t = 0 := if_neg fun h => h.2 h1
  rw [h3]
  have ZG : cl (bG (e s a) :: ES s l) (bG (e s a) :: ES t l) := by
   have : ES t (a :: l) = bG (e s a) :: ES t l := by rw [← h1]; rfl
   rw [this] at hc
   exact hc
  have h4 := IW _ _ _ _ (Nat.le_refl _) h2 (by have := mE (e s a); omega) z5 z5 ZG
  show ER 0 (bG (e s a) :: ES s l) = ER 0 (bG (e t a) :: ES t l) + 0
  rw [h1]
  simp only [ER]
  rw [if_neg h2, if_neg h2, h4]; omega
 match l, g, h, hc, hm, hA with
 | [], g, h, hc, hm, hA => exact hA g
 | b :: l, g, h, hc, hm, hA =>
  rcases g.two with ha | hb
  ·exact hA ha
  ·obtain ⟨h1, h2⟩ := fG hb hε (h b (by simp))
   have h3 := hm b l rfl hb
   have ZG : cl (bG (e s b) :: ES s l) (bG (e s b) :: ES t l) := by
    match l, hc with
    | [], hc => exact ⟨rfl, h2⟩
    | c :: l, hc =>
     have h8 : cl (bG (e s b) :: ES s (c :: l)) (bG (e t b) :: ES t (c :: l)) := hc.1
     rw [h1] at h8
     exact h8
   have h4 := IW _ _ _ _ (Nat.le_refl _) h2 (by have := mE (e s b); omega) z5 z5 ZG
   show ER 0 (bG (e s a) :: bG (e s b) :: ES s l) = ER 0 (bG (e t a) :: bG (e t b) :: ES t l) + ind a s t
   rw [h1]
   simp only [ER]
   rw [if_neg h2, if_neg h2, h4]
   have hi : ind a s t = if bG (e s a) ≠ 0 ∧ bG (e t a) ≠ bG (e s a) then 1 else 0 := by
    unfold ind
    by_cases h6 : e s a = 0
    ·rw [if_neg (fun h7 => h7.1 h6), if_neg (fun h7 => h7.1 (cP.2 h6))]
    ·have h7 : bG (e s a) ≠ 0 := fun h8 => h6 (cP.1 h8)
     simp only [ne_eq, h6, h7, not_false_eq_true, true_and]
   rw [hi]
   have hd : (bG (e s b) = -1 → bG (e t a) ≤ bG (e s a) ∧ (bG (e t a) = bG (e s a) → bG (e s a) ≠ 0)) ∧ (bG (e s b) = 1 → bG (e s a) ≤ bG (e t a) ∧ (bG (e t a) = bG (e s a) → bG (e s a) ≠ 0)) := by
    refine ⟨fun h6 => ?_, fun h6 => ?_⟩
    ·have h5 := C4.1 (h3.trans h6)
     rcases bQ (e s a) with ⟨q1, r1⟩ | ⟨q1, r1⟩ | ⟨q1, r1⟩ <;> rcases bQ (e t a) with ⟨q2, r2⟩ | ⟨q2, r2⟩ | ⟨q2, r2⟩ <;> rw [r1, r2] <;> first | decide | (exfalso; grind)
    ·have h5 := C5.1 (h3.trans h6)
     rcases bQ (e s a) with ⟨q1, r1⟩ | ⟨q1, r1⟩ | ⟨q1, r1⟩ <;> rcases bQ (e t a) with ⟨q2, r2⟩ | ⟨q2, r2⟩ | ⟨q2, r2⟩ <;> rw [r1, r2] <;> first | decide | (exfalso; grind)
   have m1 := mE (e s a)
   have m2 := mE (e t a)
   have m3 := mE (e s b)
   generalize bG (e s a) = σ at *
   generalize bG (e t a) = τ at *
   generalize bG (e s b) = γ at *
   generalize ER γ (ES t l) = T at *
   obtain ⟨d1, d2⟩ := hd
   clear hc ZG h1 h3 hm hA h g hb hi
   rcases m3 with rfl | rfl | rfl
   ·obtain ⟨d3, d4⟩ := d1 rfl
    rcases m1 with rfl | rfl | rfl <;> rcases m2 with rfl | rfl | rfl <;> first | (exfalso; omega) | (simp; try omega)
   ·exact absurd rfl h2
   ·obtain ⟨d3, d4⟩ := d2 rfl
    rcases m1 with rfl | rfl | rfl <;> rcases m2 with rfl | rfl | rfl <;> first | (exfalso; omega) | (simp; try omega)
end Pm
namespace Pm
open ZX hiding N W
def StC (M B : Rat) : List ZX → Prop
 | [] => False
 | [a] => ∃ c : Int, c ≠ 0 ∧ a = K c
 | [_, b] => ∃ c : Int, c ≠ 0 ∧ b = K c
 | a :: b :: c :: l => StC M B (b :: c :: l) ∧ ∃ (m k : Int) (q : ZX), 0 < m ∧ 0 < k ∧ K m * a = q * b - K k * c ∧ 2 * (m : Rat) ≤ M ∧ ∀ t, Ab t B → Ab (2 * e t q) M
def zL (M : Rat) : Nat → Rat
 | 0 => 1
 | k + 1 => zL M k / M
theorem IX {M : Rat} (hM : 2 ≤ M) (k : Nat) : M * zL M (k + 1) = zL M k := by
 rw [zL, Rat.mul_comm, Rat.div_mul_cancel (by grind)]
theorem wE {M : Rat} (hM : 2 ≤ M) : ∀ k, 0 < zL M k
 | 0 => by show (0 : Rat) < 1; decide
 | k + 1 => by
  have h1 := wE hM k
  have h2 := IX hM k
  refine Rat.not_le.1 fun h => ?_
  have h3 := Rat.mul_nonneg (show 0 ≤ M by grind) (show 0 ≤ -zL M (k + 1) by grind)
  grind
theorem IY {M : Rat} (hM : 2 ≤ M) (k : Nat) : zL M (k + 1) ≤ zL M k := by
 have h1 := wE hM (k + 1)
 have h2 := IX hM k
 have h3 := Rat.mul_le_mul_of_nonneg_right (show 1 ≤ M by grind) (Rat.le_of_lt h1)
 grind
theorem uG {M : Rat} (hM : 2 ≤ M) : ∀ k, zL M k ≤ 1
 | 0 => Rat.le_refl
 | k + 1 => Rat.le_trans (IY hM k) (uG hM k)
theorem sC {c : Int} (h : c ≠ 0) : j7 1 (c : Rat) := by
 rcases Int.lt_trichotomy c 0 with h1 | h1 | h1
 ·left
  have : ((c : Int) : Rat) ≤ ((-1 : Int) : Rat) := Rat.intCast_le_intCast.2 (by omega)
  rw [Rat.intCast_neg, Rat.intCast_one] at this
  exact this
 ·exact absurd h1 h
 ·right
  have : ((1 : Int) : Rat) ≤ ((c : Int) : Rat) := Rat.intCast_le_intCast.2 (by omega)
  rw [Rat.intCast_one] at this
  exact this
theorem eN {c : Int} (h : 0 < c) : (1 : Rat) ≤ (c : Rat) := by
 have : ((1 : Int) : Rat) ≤ ((c : Int) : Rat) := Rat.intCast_le_intCast.2 (by omega)
 rwa [Rat.intCast_one] at this
theorem acu {M ε ε' x y z q m k : Rat} (hM : 2 ≤ M) (he : M * ε' = ε) (hp : 0 < ε') (hm : 1 ≤ m) (hk : 1 ≤ k) (hmM : 2 * m ≤ M) (hq : Ab (2 * q) M) (e : m * x = q * y - k * z) (hy : ¬ j7 ε' y) (hz : j7 ε z) : j7 ε' x ∧ bG x = -bG z := by
 have h1 := hq.mul (EP hy)
 rw [he] at h1
 obtain ⟨h2, h3⟩ := h1
 have hε : 0 < ε := by rw [← he]; exact Rat.mul_pos (by grind) hp
 have h6 := Rat.mul_le_mul_of_nonneg_right hmM (Rat.le_of_lt hp)
 rcases hz with hz | hz
 ·have h4 := Rat.mul_le_mul_of_nonneg_right hk (show 0 ≤ -z by grind)
  have h5 : ε ≤ 2 * (m * x) := by grind
  have h7 : ε' ≤ x := Rat.not_lt.1 fun h => by
   have := Rat.mul_lt_mul_of_pos_left h (show 0 < m by grind)
   grind
  refine ⟨.inr h7, ?_⟩
  rw [eY (x := z) (by grind), dJ (x := x) (by grind)]; rfl
 ·have h4 := Rat.mul_le_mul_of_nonneg_right hk (show 0 ≤ z by grind)
  have h5 : 2 * (m * x) ≤ -ε := by grind
  have h7 : x ≤ -ε' := Rat.not_lt.1 fun h => by
   have := Rat.mul_lt_mul_of_pos_left h (show 0 < m by grind)
   grind
  refine ⟨.inl h7, ?_⟩
  rw [dJ (x := z) (by grind), eY (x := x) (by grind)]
theorem StC.UQ {M B t : Rat} (hM : 2 ≤ M) (ht : Ab t B) : ∀ {l : List ZX}, StC M B l → UQ (zL M l.length) t l
 | [], h => h
 | [a], h => by
  obtain ⟨c, hc, rfl⟩ := h
  show j7 _ (e t (K c))
  rw [uU]
  exact (sC hc).mono (uG hM _)
 | [a, b], h => by
  obtain ⟨c, hc, rfl⟩ := h
  show j7 _ (e t (K c))
  rw [uU]
  exact (sC hc).mono (uG hM _)
 | a :: b :: c :: l, h => by
  obtain ⟨h1, m, k, q, hm, hk, he, hmM, hq⟩ := h
  have ih := StC.UQ hM ht h1
  refine ⟨ih.mono (IY hM _), ?_⟩
  by_cases hb : j7 (zL M (a :: b :: c :: l).length) (e t b)
  ·exact .inl hb
  ·have hc : j7 (zL M (b :: c :: l).length) (e t c) := by
    rcases ih.two with h2 | h2
    ·exact absurd (h2.mono (IY hM _)) hb
    ·exact h2
   have CY : (m : Rat) * e t a = e t q * e t b - k * e t c := by
    rw [← uU (t := t) m, ← gR, he, arY, gR, gR, uU]
   obtain ⟨g1, g2⟩ := acu hM (IX hM _) (wE hM _) (eN hm) (eN hk) hmM (hq t ht) CY hb hc
   exact .inr ⟨g1, hc.mono (IY hM _), g2⟩
structure Lcl (L : List ZX) (f : ZX) (B δ : Rat) : Prop where
 turns : ∀ s t, Ab s B → Ab t B → s < t → t - s ≤ δ → vt L s = vt L t + ind f s t
 simple : ∀ s t, Ab s B → Ab t B → s < t → t - s ≤ δ → e s f = 0 → e t f ≠ 0
theorem y9 {h x Q ε : Rat} (hh : 0 ≤ h) (hx : Ab x Q) (hQ : h * Q < ε) : ¬ j7 ε (h * x) := fun hb => by
 obtain ⟨h1, h2⟩ := (Ab.mul (x := h) (M := h) ⟨by grind, Rat.le_refl⟩ hx)
 rcases hb with hb | hb <;> grind
theorem XY {h x Q ε c y d1 d2 : Rat} (hh : 0 < h) (hε : 0 < ε) (hc : 1 ≤ c) (hx : Ab x Q) (hQ : h * Q < ε) (hy : j7 ε y) (e1 : d1 = c * y) (e2 : d2 - d1 = h * x) : bG (h * d2) = bG y := by
 obtain ⟨h1, h2⟩ := (Ab.mul (x := h) (M := h) ⟨by grind, Rat.le_refl⟩ hx)
 have hs : bG (h * d2) = bG d2 := by rw [k9, dJ hh]; omega
 rw [hs]
 rcases hy with hy | hy
 ·have := Rat.mul_le_mul_of_nonneg_right hc (show 0 ≤ -y by grind)
  rw [eY (show y < 0 by grind), eY (show d2 < 0 by grind)]
 ·have := Rat.mul_le_mul_of_nonneg_right hc (show 0 ≤ y by grind)
  rw [dJ (show 0 < y by grind), dJ (show 0 < d2 by grind)]
theorem StC.loc {M B S Q δ : Rat} {f : ZX} {l : List ZX} (hM : 2 ≤ M) (hB : 1 ≤ B) (hS : 0 ≤ S) (h : StC M B (f :: l)) (hb : ∀ p ∈ f :: l, (∀ c ∈ p.l, Ab (c : Rat) S) ∧ wW S B p.l.length ≤ Q) (hd : ∀ g k, l = g :: k → ∃ c : Int, 0 < c ∧ bI f = K c * g)
  (hδ : δ * Q < zL M (f :: l).length) : Lcl (f :: l) f B δ := by
 have hQ0 : 0 ≤ Q := by
  obtain ⟨h1, h2⟩ := hb f (by simp)
  obtain ⟨h3, h4⟩ := nR hS hB f.l.length
  grind
 have hε := wE hM (f :: l).length
 have vC : ∀ s t : Rat, s < t → t - s ≤ δ → (t - s) * Q < zL M (f :: l).length := fun s t kG hd => by
  have := Rat.mul_le_mul_of_nonneg_right hd hQ0
  grind
 have key : ∀ s t, Ab s B → Ab t B → s < t → t - s ≤ δ → (∀ p ∈ f :: l, ¬ j7 (zL M (f :: l).length) (e t p - e s p)) ∧ ∀ b k, l = b :: k → j7 (zL M (f :: l).length) (e s b) → bG (e t f - e s f) = bG (e s b) := fun s t hs ht kG hsd => by
  refine ⟨fun p hp => ?_, fun b k hbk Q5 => ?_⟩
  ·obtain ⟨h1, h2⟩ := hb p hp
   show ¬ j7 _ (qv t p.l - qv s p.l)
   rw [l5]
   exact y9 (by grind) ((GC hS hB hs ht p.l h1).mono h2) (vC s t kG hsd)
  ·obtain ⟨c, hc, he⟩ := hd b k hbk
   obtain ⟨h1, h2⟩ := hb f (by simp)
   show bG (qv t f.l - qv s f.l) = _
   rw [l5]
   exact XY (d1 := dd s s f.l) (by grind) hε (eN hc) ((UP hS hB hs ht f.l h1).mono h2) (vC s t kG hsd) Q5 (by rw [← acr, he, gR, uU]) (IU s t f.l)
 refine ⟨fun s t hs ht kG hsd => ?_, fun s t hs ht kG hsd h0 => ?_⟩
 ·obtain ⟨k1, k2⟩ := key s t hs ht kG hsd
  exact agq hε (h.UQ hM hs) k1 k2
 ·obtain ⟨k1, k2⟩ := key s t hs ht kG hsd
  have g := h.UQ hM hs
  have nb : ¬ j7 (zL M (f :: l).length) (e s f) := by
   rw [h0]
   rintro (h1 | h1) <;> grind
  match l, g, k2 with
  | [], g, _ => exact absurd g nb
  | b :: k, g, k2 =>
   have Q5 := g.two.resolve_left nb
   have h2 := k2 b k rfl Q5
   intro h3
   rw [h0, h3, show (0 : Rat) - 0 = 0 by grind, eV] at h2
   have h4 := cP.1 h2.symm
   rw [h4] at Q5
   rcases Q5 with h1 | h1 <;> grind
theorem alV {B δ : Rat} (hδ : 0 < δ) {P : Rat → Rat → Prop} (ht : ∀ a b c, a < b → b < c → P a b → P b c → P a c) (hs : ∀ a b, Ab a B → Ab b B → a < b → b - a ≤ δ → P a b) {a b : Rat} (ha : Ab a B) (hb : Ab b B) (gO : a < b) : P a b := by
 have key : ∀ (n : Nat) (a b : Rat), Ab a B → Ab b B → a < b → b - a ≤ (n : Rat) * δ → P a b := by
  intro n
  induction n with
  | zero => intro a b _ _ h1 h2; exfalso; rw [show ((0 : Nat) : Rat) = 0 from rfl] at h2; grind
  | succ n ih =>
   intro a b ha hb h1 h2
   by_cases h3 : b - a ≤ δ
   ·exact hs a b ha hb h1 h3
   ·have h3 := Rat.not_le.1 h3
    obtain ⟨a1, a2⟩ := ha
    obtain ⟨b1, b2⟩ := hb
    have hm : Ab (a + δ) B := ⟨by grind, by grind⟩
    refine ht a (a + δ) b (by grind) (by grind) (hs _ _ ⟨a1, a2⟩ hm (by grind) (by grind)) (ih _ _ hm ⟨b1, b2⟩ (by grind) ?_)
    rw [show ((n + 1 : Nat) : Rat) = (n : Rat) + 1 from by rw [Rat.natCast_add]; rfl] at h2
    grind
 have h1 := Rat.lt_floor_add_one ((b - a) / δ)
 have h2 : 0 ≤ ((b - a) / δ).floor := Rat.le_floor_iff.2 (by
  have := (Rat.lt_div_iff (a := 0) (b := b - a) hδ).2 (by grind)
  show ((0 : Int) : Rat) ≤ _
  rw [Rat.intCast_zero]; exact Rat.le_of_lt this)
 refine key ((((b - a) / δ).floor + 1).toNat) a b ha hb gO ?_
 have h3 : (((((b - a) / δ).floor + 1).toNat : Nat) : Rat) = ((((b - a) / δ).floor + 1 : Int) : Rat) := by
  rw [← Rat.intCast_natCast, Int.toNat_of_nonneg (by omega)]
 rw [h3]
 have h4 := (Rat.div_lt_iff hδ).1 h1
 exact Rat.le_of_lt h4
structure C6 (L : List ZX) (f : ZX) : Prop where
 loc : ∀ B : Rat, 1 ≤ B → ∃ δ, 0 < δ ∧ Lcl L f B δ
theorem gJ (a b : Rat) : ∃ B : Rat, 1 ≤ B ∧ Ab a B ∧ Ab b B := by
 have h1 : ∀ x : Rat, ∃ B : Rat, 1 ≤ B ∧ Ab x B := fun x => by
  by_cases h : 0 ≤ x
  ·exact ⟨x + 1, by grind, by grind, by grind⟩
  ·exact ⟨-x + 1, by grind, by grind, by grind⟩
 obtain ⟨A, hA, ha⟩ := h1 a
 obtain ⟨B, hB, hb⟩ := h1 b
 exact ⟨A + B, by grind, ha.mono (by grind), hb.mono (by grind)⟩
namespace C6
variable {L : List ZX} {f : ZX} (h : C6 L f)
include h
theorem acv {P : Rat → Rat → Prop} (ht : ∀ a b c, a < b → b < c → P a b → P b c → P a c) (hs : ∀ B δ, Lcl L f B δ → ∀ a b, Ab a B → Ab b B → a < b → b - a ≤ δ → P a b) {a b : Rat} (gO : a < b) : P a b := by
 obtain ⟨B, hB, ha, hb⟩ := gJ a b
 obtain ⟨δ, hδ, hl⟩ := h.loc B hB
 exact alV hδ ht (hs B δ hl) ha hb gO
theorem bX {a b : Rat} (gO : a ≤ b) : vt L b ≤ vt L a := by
 rcases Rat.le_iff_lt_or_eq.1 gO with h1 | rfl
 ·refine h.acv (P := fun a b => vt L b ≤ vt L a) (fun a b c _ _ h1 h2 => Nat.le_trans h2 h1) (fun B δ hl a b ha hb gO hd => ?_) h1
  rw [hl.turns a b ha hb gO hd]; omega
 ·exact Nat.le_refl _
theorem flat {a b : Rat} (gO : a < b) (he : vt L a = vt L b) : e b f ≠ 0 ∧ (e a f ≠ 0 → bG (e b f) = bG (e a f)) := by
 refine h.acv (P := fun a b => vt L a = vt L b → e b f ≠ 0 ∧ (e a f ≠ 0 → bG (e b f) = bG (e a f))) (fun a b c h1 h2 p1 p2 hac => ?_) (fun B δ hl a b ha hb gO hd heq => ?_) gO he
 ·have := h.bX (Rat.le_of_lt h1)
  have := h.bX (Rat.le_of_lt h2)
  obtain ⟨q1, q2⟩ := p1 (by omega)
  obtain ⟨q3, q4⟩ := p2 (by omega)
  exact ⟨q3, fun ha => by rw [q4 q1, q2 ha]⟩
 ·have h1 := hl.turns a b ha hb gO hd
  have h2 : ind f a b = 0 := by omega
  unfold ind at h2
  by_cases h0 : e a f = 0
  ·exact ⟨hl.simple a b ha hb gO hd h0, fun h3 => absurd h0 h3⟩
  ·have h3 : bG (e b f) = bG (e a f) := Classical.byContradiction fun h3 => by rw [if_pos ⟨h0, h3⟩] at h2; omega
   refine ⟨fun h4 => h0 (cP.1 ?_), fun _ => h3⟩
   rw [← h3, h4, eV]
theorem const {a b : Rat} (gO : a < b) {σ : Int} (h0 : e a f = 0 ∨ bG (e a f) = σ) (h1 : ∀ x, a < x → x ≤ b → bG (e x f) = σ) : vt L a = vt L b := by
 refine h.acv (P := fun x y => a ≤ x → y ≤ b → vt L x = vt L y) (fun x y z tM hyz p1 p2 hax hzb => (p1 hax (by grind)).trans (p2 (by grind) hzb)) (fun B δ hl x y hx hy tM hd hax hyb => ?_) gO Rat.le_refl Rat.le_refl
 rw [hl.turns x y hx hy tM hd]
 have h2 : ind f x y = 0 := if_neg fun h3 => by
  obtain ⟨h4, h5⟩ := h3
  rw [h1 y (by grind) hyb] at h5
  rcases Rat.le_iff_lt_or_eq.1 hax with h6 | rfl
  ·exact h5 (h1 x h6 (by grind)).symm
  ·rcases h0 with h0 | h0
   ·exact h4 h0
   ·exact h5 h0.symm
 omega
theorem root {s t : Rat} (kG : s < t) (h0 : e t f = 0) : vt L t < vt L s := by
 have h1 := h.bX (Rat.le_of_lt kG)
 refine Nat.lt_of_le_of_ne h1 fun h2 => ?_
 exact (h.flat kG h2.symm).1 h0
theorem count {roots : List Rat} (hn : roots.Nodup) (hr : ∀ r ∈ roots, e r f = 0) (hc : ∀ a b, a < b → (∀ r ∈ roots, a < r → b < r) → vt L a = vt L b) {a b : Rat} (gO : a < b) : vt L a = vt L b + (roots.countP fun r => decide (a < r ∧ r ≤ b)) := by
 refine h.acv (P := fun a b => vt L a = vt L b + (roots.countP fun r => decide (a < r ∧ r ≤ b))) (fun a b c h1 h2 p1 p2 => ?_) (fun B δ hl a b ha hb gO hd => ?_) gO
 ·rw [p1, p2]
  have : ∀ l : List Rat, (l.countP fun r => decide (a < r ∧ r ≤ c)) = (l.countP fun r => decide (a < r ∧ r ≤ b)) + (l.countP fun r => decide (b < r ∧ r ≤ c)) := fun l => by
   induction l with
   | nil => rfl
   | cons x l ih =>
    rw [List.countP_cons, List.countP_cons, List.countP_cons, ih]
    by_cases q1 : a < x ∧ x ≤ b
    ·have q2 : ¬ (b < x ∧ x ≤ c) := fun q => by grind
     have q3 : a < x ∧ x ≤ c := ⟨q1.1, by grind⟩
     rw [if_pos (decide_eq_true q3), if_pos (decide_eq_true q1), if_neg (fun h => q2 (of_decide_eq_true h))]; omega
    ·by_cases q2 : b < x ∧ x ≤ c
     ·have q3 : a < x ∧ x ≤ c := ⟨by grind, q2.2⟩
      rw [if_pos (decide_eq_true q3), if_neg (fun h => q1 (of_decide_eq_true h)), if_pos (decide_eq_true q2)]; omega
     ·have q3 : ¬ (a < x ∧ x ≤ c) := fun q => by
       by_cases q4 : x ≤ b
       ·exact q1 ⟨q.1, q4⟩
       ·exact q2 ⟨Rat.not_le.1 q4, q.2⟩
      rw [if_neg (fun h => q3 (of_decide_eq_true h)), if_neg (fun h => q1 (of_decide_eq_true h)), if_neg (fun h => q2 (of_decide_eq_true h))]; omega
  rw [this roots]; omega
 ·have h1 := hl.turns a b ha hb gO hd
  have h2 : ind f a b ≤ 1 := by unfold ind; split <;> omega
  have hm : ∀ r, r ∈ roots.filter (fun r => decide (a < r ∧ r ≤ b)) ↔ r ∈ roots ∧ a < r ∧ r ≤ b := fun r => by simp [List.mem_filter]
  have KE : (roots.filter (fun r => decide (a < r ∧ r ≤ b))).Nodup := hn.filter _
  rw [List.countP_eq_length_filter]
  match hF : roots.filter (fun r => decide (a < r ∧ r ≤ b)), hm, KE with
  | [], hm, _ =>
   rw [List.length_nil, Nat.add_zero]
   refine hc a b gO fun r hr h3 => Rat.not_le.1 fun h4 => ?_
   have := (hm r).2 ⟨hr, h3, h4⟩
   simp at this
  | [r], hm, _ =>
   obtain ⟨g1, g2, g3⟩ := (hm r).1 (by simp)
   have := h.root g2 (hr r g1)
   have := h.bX g3
   simp only [List.length_cons, List.length_nil]
   omega
  | r :: q :: l, hm, KE =>
   exfalso
   obtain ⟨g1, g2, g3⟩ := (hm r).1 (by simp)
   obtain ⟨k1, k2, k3⟩ := (hm q).1 (by simp)
   have nZ : r ≠ q := by
    simp only [List.nodup_cons, List.mem_cons, not_or] at KE
    exact KE.1.1
   rcases Rat.le_total (a := r) (b := q) with h5 | h5
   ·have := h.root (Rat.lt_of_le_of_ne h5 nZ) (hr q k1)
    have := h.root g2 (hr r g1)
    have := h.bX k3
    omega
   ·have := h.root (Rat.lt_of_le_of_ne h5 (Ne.symm nZ)) (hr r g1)
    have := h.root k2 (hr q k1)
    have := h.bX g3
    omega
end C6
theorem z6 {a b : Int} {l : List Int} (h : Cn (a :: b :: l)) : Cn (b :: l) := by
 unfold Cn at h ⊢
 rw [aN] at h
 split at h
 ·simp at h
 ·simpa using h
theorem xK {a b : Int} {l : List Int} : lead (a :: b :: l) = lead (b :: l) := by
 unfold lead
 simp only [List.length_cons, Nat.add_sub_cancel]
 rw [jG]
theorem GD {S t : Rat} (hS : 0 ≤ S) (ht : S + 1 ≤ t) : ∀ {x : List Int}, Cn x → 0 < x.length → (∀ c ∈ x, Ab (c : Rat) S) → (0 < lead x → 1 ≤ qv t x) ∧ (lead x < 0 → qv t x ≤ -1)
 | [a], hc, _, _ => by
  have e1 : qv t [a] = (a : Rat) := by simp only [qv]; grind
  have e2 : lead [a] = a := rfl
  rw [e1, e2]
  refine ⟨fun h => eN h, fun h => ?_⟩
  have : ((a : Int) : Rat) ≤ ((-1 : Int) : Rat) := Rat.intCast_le_intCast.2 (by omega)
  rwa [Rat.intCast_neg, Rat.intCast_one] at this
 | a :: b :: l, hc, _, hb => by
  obtain ⟨h1, h2⟩ := GD hS ht (z6 hc) (by simp) fun c hc => hb c (List.mem_cons_of_mem _ hc)
  obtain ⟨h3, h4⟩ := hb a (by simp)
  have e1 : qv t (a :: b :: l) = a + t * qv t (b :: l) := rfl
  rw [xK, e1]
  refine ⟨fun h => ?_, fun h => ?_⟩
  ·have := Rat.mul_le_mul_of_nonneg_left (h1 h) (show 0 ≤ t by grind)
   grind
  ·have := Rat.mul_le_mul_of_nonneg_left (show 1 ≤ -qv t (b :: l) by have := h2 h; grind) (show 0 ≤ t by grind)
   grind
theorem MY {S t : Rat} (hS : 0 ≤ S) (ht : t ≤ -(S + 1)) : ∀ {x : List Int}, Cn x → 0 < x.length → (∀ c ∈ x, Ab (c : Rat) S) → (0 < (if x.length % 2 = 0 then -lead x else lead x) → 1 ≤ qv t x) ∧ ((if x.length % 2 = 0 then -lead x else lead x) < 0 → qv t x ≤ -1)
 | [a], hc, _, _ => by
  have e1 : qv t [a] = (a : Rat) := by simp only [qv]; grind
  have e2 : lead [a] = a := rfl
  rw [e1, e2, if_neg (by simp)]
  refine ⟨fun h => eN h, fun h => ?_⟩
  have : ((a : Int) : Rat) ≤ ((-1 : Int) : Rat) := Rat.intCast_le_intCast.2 (by omega)
  rwa [Rat.intCast_neg, Rat.intCast_one] at this
 | a :: b :: l, hc, _, hb => by
  obtain ⟨h1, h2⟩ := MY hS ht (z6 hc) (by simp) fun c hc => hb c (List.mem_cons_of_mem _ hc)
  obtain ⟨h3, h4⟩ := hb a (by simp)
  have e1 : qv t (a :: b :: l) = a + t * qv t (b :: l) := rfl
  have e2 : (if (a :: b :: l).length % 2 = 0 then -lead (a :: b :: l) else lead (a :: b :: l)) = -(if (b :: l).length % 2 = 0 then -lead (b :: l) else lead (b :: l)) := by
   rw [xK]
   simp only [List.length_cons]
   split <;> split <;> omega
  rw [e2, e1]
  generalize (if (b :: l).length % 2 = 0 then -lead (b :: l) else lead (b :: l)) = z at *
  refine ⟨fun h => ?_, fun h => ?_⟩
  ·have := Rat.mul_le_mul_of_nonneg_left (show 1 ≤ -qv t (b :: l) by have := h2 (by omega); grind) (show 0 ≤ -t by grind)
   grind
  ·have := Rat.mul_le_mul_of_nonneg_left (h1 (by omega)) (show 0 ≤ -t by grind)
   grind
theorem sE {S t : Rat} (hS : 0 ≤ S) {x : List Int} (hc : Cn x) (hb : ∀ c ∈ x, Ab (c : Rat) S) : (S + 1 ≤ t → bG (qv t x) = (lead x).sign) ∧ (t ≤ -(S + 1) → bG (qv t x) = if x.length % 2 = 0 then -(lead x).sign else (lead x).sign) := by
 rcases Nat.eq_zero_or_pos x.length with h0 | h0
 ·have : x = [] := List.eq_nil_of_length_eq_zero h0
  subst this
  refine ⟨fun _ => ?_, fun _ => ?_⟩ <;> simp only [qv] <;> decide
 ·have hl := cK hc h0
  refine ⟨fun ht => ?_, fun ht => ?_⟩
  ·obtain ⟨h1, h2⟩ := GD hS ht hc h0 hb
   rcases Int.lt_trichotomy (lead x) 0 with h | h | h
   ·have := h2 h
    rw [Int.sign_eq_neg_one_of_neg h, eY (by grind)]
   ·exact absurd h hl
   ·have := h1 h
    rw [Int.sign_eq_one_of_pos h, dJ (by grind)]
  ·obtain ⟨h1, h2⟩ := MY hS ht hc h0 hb
   rcases Int.lt_trichotomy (lead x) 0 with h | h | h
   ·rw [Int.sign_eq_neg_one_of_neg h]
    split
    ·rw [if_pos (by assumption)] at h1
     have := h1 (by omega)
     rw [dJ (by grind)]; rfl
    ·rw [if_neg (by assumption)] at h2
     have := h2 h
     rw [eY (by grind)]
   ·exact absurd h hl
   ·rw [Int.sign_eq_one_of_pos h]
    split
    ·rw [if_pos (by assumption)] at h2
     have := h2 (by omega)
     rw [eY (by grind)]
    ·rw [if_neg (by assumption)] at h1
     have := h1 h
     rw [dJ (by grind)]
end Pm
namespace Pm
open ZX hiding N W
theorem j7.mul {x y η θ : Rat} (hη : 0 < η) (hθ : 0 < θ) (h : j7 η x) (h' : j7 θ y) : j7 (η * θ) (x * y) := by
 have key : ∀ {u v : Rat}, η ≤ u → θ ≤ v → η * θ ≤ u * v := fun {u v} h1 h2 => by
  have p1 := Rat.mul_le_mul_of_nonneg_left h2 (Rat.le_of_lt hη)
  have p2 := Rat.mul_le_mul_of_nonneg_right h1 (show 0 ≤ v by grind)
  grind
 rcases h with h | h <;> rcases h' with h' | h'
 ·right; have := key (show η ≤ -x by grind) (show θ ≤ -y by grind); grind
 ·left; have := key (show η ≤ -x by grind) h'; grind
 ·left; have := key h (show θ ≤ -y by grind); grind
 ·right; exact key h h'
def Bg (a b : Rat) (p : ZX) : Prop := ∃ η : Rat, 0 < η ∧ ∀ x, a ≤ x → x ≤ b → j7 η (e x p)
theorem Bg.mono {a b c d : Rat} {p : ZX} (h : Bg a b p) (hc : a ≤ c) (hd : d ≤ b) : Bg c d p := by
 obtain ⟨η, h1, h2⟩ := h
 exact ⟨η, h1, fun x hx hy => h2 x (by grind) (by grind)⟩
theorem ar0 (t : Rat) (n d : Int) : e t (of [n, d]) = n + d * t := by
 rw [alU]
 simp only [qv]; grind
theorem wF (l : List Int) : ∃ S : Rat, 0 ≤ S ∧ ∀ c ∈ l, Ab (c : Rat) S := by
 induction l with
 | nil => exact ⟨0, Rat.le_refl, fun c hc => by cases hc⟩
 | cons a l ih =>
  obtain ⟨S, hS, h⟩ := ih
  obtain ⟨A, hA, ha, _⟩ := gJ a a
  refine ⟨S + A, by grind, fun c hc => ?_⟩
  rcases List.mem_cons.1 hc with rfl | hc
  ·exact ha.mono (by grind)
  ·exact (h c hc).mono (by grind)
theorem bY {a b x B : Rat} (ha : Ab a B) (hb : Ab b B) (hx : a ≤ x) (hy : x ≤ b) : Ab x B := by
 obtain ⟨h1, h2⟩ := ha
 obtain ⟨h3, h4⟩ := hb
 exact ⟨by grind, by grind⟩
theorem Bg.same {a b : Rat} {f : ZX} (h : Bg a b f) {x y : Rat} (hx : a ≤ x) (tM : x < y) (hy : y ≤ b) : bG (e y f) = bG (e x f) ∧ bG (e x f) ≠ 0 := by
 obtain ⟨η, hη, h2⟩ := h
 obtain ⟨B, hB, ha, hb⟩ := gJ a b
 obtain ⟨S, hS, hc⟩ := wF f.l
 obtain ⟨h3, _⟩ := nR hS hB f.l.length
 generalize hQ : wW S B f.l.length = Q at *
 have hQ1 : 0 < Q + 1 := by grind
 have hδ : η / (Q + 1) * (Q + 1) = η := Rat.div_mul_cancel (Rat.ne_of_gt hQ1)
 have hδ0 : 0 < η / (Q + 1) := (Rat.lt_div_iff hQ1).2 (by grind)
 generalize η / (Q + 1) = δ at *
 refine alV (B := B) hδ0 (P := fun x y => a ≤ x → y ≤ b → bG (e y f) = bG (e x f) ∧ bG (e x f) ≠ 0) (fun x y z h1 h2 p1 p2 hx hz => ?_) (fun x y hx hy tM hd hax hyb => ?_) (bY ha hb hx (by grind)) (bY ha hb (by grind) hy) tM hx hy
 ·obtain ⟨q1, q2⟩ := p1 hx (by grind)
  obtain ⟨q3, q4⟩ := p2 (by grind) hz
  exact ⟨q3.trans q1, q2⟩
 ·refine fG (h2 x hax (by grind)) hη ?_
  show ¬ j7 η (qv y f.l - qv x f.l)
  rw [l5]
  refine y9 (Q := Q) (by grind) (hQ ▸ GC hS hB hx hy f.l hc) ?_
  have := Rat.mul_le_mul_of_nonneg_right hd h3
  grind
theorem C6.bg {L : List ZX} {f : ZX} (h : C6 L f) {a b : Rat} (hb : Bg a b f) (gO : a < b) : vt L a = vt L b := by
 refine h.const gO (σ := bG (e a f)) (.inr rfl) fun x hx hy => ?_
 exact (hb.same Rat.le_refl hx hy).1
end Pm
namespace Go.Proofs.YtelhfbikiccfkaaGreat
open Go Pm
abbrev T2 (n d : Int) : PV := .ag [.bool (decide (n < 0)), us (aS LL n.natAbs), .bool (decide (d < 0)), us (aS LL d.natAbs)]
abbrev RT (q : Rat) : PV := T2 q.num q.den
theorem alX (n d : Int) : ((bK [n, d] : Nat) : Int) = Int.gcd n d := by
 simp only [bK, List.foldl_cons, List.foldl_nil, Nat.gcd_zero_left]
 rfl
theorem alY {n d : Int} (h : d ≠ 0) : (dE n d).num = (if d < 0 then -n else n) / (bK [n, d] : Nat) ∧ ((dE n d).den : Int) = (if d < 0 then -d else d) / (bK [n, d] : Nat) := by
 have e : ∀ m k : Int, (m = n ∨ m = -n) → (k = d ∨ k = -d) → ((Int.gcd m k : Nat) : Int) = (bK [n, d] : Nat) := fun m k hm hk => by
  rw [alX]
  rcases hm with rfl | rfl <;> rcases hk with rfl | rfl <;> simp
 rw [pD n d h, pE n d h]
 constructor
 ·rw [e _ _ (by split <;> simp) (by split <;> simp)]
 ·rw [e _ _ (by split <;> simp) (by split <;> simp)]
theorem uH {n d : Int} (hn : sz LL n < 1099511627770) (hd : sz LL d < 1099511627770) (h0 : d ≠ 0) : aG env.P 179 [I n, I d] (RT (dE n d)) := by
 have sn : Sz n := by show _ < _; omega
 have sd : Sz d := by show _ < _; omega
 have g0 := LQ [tA n, tA d] 1099511627770 (by decide) (fun c hc => by
  simp only [List.mem_cons, List.not_mem_nil, or_false] at hc
  rcases hc with rfl | rfl
  ·exact ⟨fR fY _, by unfold sz at hn; show (aS LL n.natAbs).length ≤ _; omega⟩
  ·exact ⟨fR fY _, by unfold sz at hd; show (aS LL d.natAbs).length ≤ _; omega⟩) (by simp)
 rw [show [tA n, tA d].map gv = [n, d] by simp [TH]] at g0
 obtain ⟨q1, q2⟩ := alY (n := n) h0
 have gd1 : ((bK [n, d] : Nat) : Int) ∣ n := iA _ n (by simp)
 have gd2 : ((bK [n, d] : Nat) : Int) ∣ d := iA _ d (by simp)
 have gne : ((bK [n, d] : Nat) : Int) ≠ 0 := by
  have := MA (x := [n, d]) (c := d) (by simp) h0; omega
 have gle : ((bK [n, d] : Nat) : Int).natAbs ≤ d.natAbs := Nat.le_of_dvd (by omega) (Int.natAbs_dvd_natAbs.2 gd2)
 have gsz : sz LL ((bK [n, d] : Nat) : Int) < 1099511627774 := Nat.lt_of_le_of_lt (cZ fY gle) (by omega)
 have nn : ∀ v, rX (aS LL v) ↔ rX (aS LL v) := fun _ => Iff.rfl
 have neg : ∀ v : Int, Sz v → aG env.P 115 [I v] (I (-v)) := fun v hv => by
  have := BQ (decide (v < 0)) (aS LL v.natAbs) hv.Y8
  rw [show iv (decide (v < 0)) (aS LL v.natAbs) = v from TH v] at this
  exact this
 generalize hg : ((bK [n, d] : Nat) : Int) = g at *
 have ex : ∀ v : Int, g ∣ v → sz LL v < 1099511627774 → aG env.P 235 [I v, I g] (.fH [I (v / g), .int .i64 0]) := fun v hv hs => by
  have := H5 hs gsz gne
  rw [if_pos (Int.emod_eq_zero_of_dvd hv)] at this
  exact this
 have n1 := neg n sn
 have n2 := neg d sd
 have ar1 : ∀ v : Int, sz LL (-v) = sz LL v := fun v => by unfold sz; rw [Int.natAbs_neg]
 have e1 := ex (if d < 0 then -n else n) (by split; exact (Int.dvd_neg.2 gd1); exact gd1) (by split; rw [ar1]; omega; omega)
 have e2 := ex (if d < 0 then -d else d) (by split; exact (Int.dvd_neg.2 gd2); exact gd2) (by split; rw [ar1]; omega; omega)
 rw [← q1] at e1
 rw [← q2] at e2
 have eg : Pg [tA n, tA d] = .sl [[.bool (decide (n < 0)), us (aS LL n.natAbs)], [.bool (decide (d < 0)), us (aS LL d.natAbs)]] := rfl
 rw [eg] at g0
 show aG env.P _ _ (T2 (dE n d).num (dE n d).den)
 generalize (dE n d).num = rn at *
 generalize ((dE n d).den : Int) = rd at *
 refine bV [(0, I n), (1, I d)] Tryz.func179 ?_
 refine aA [2, 3, 4] ?_
 refine aK [2, 3, 4, 5] g0 ?_
 generalize yG : (if d < 0 then -n else n) = n' at *
 generalize Z4 : (if d < 0 then -d else d) = d' at *
 refine W.gS (fun σ => ∃ (rows : Pm.Rows) (clk : Nat), σ = ⟨fa [(2, .ptr 2 0 0 0), (3, .ptr 3 1 0 0), (4, .ptr 4 2 0 0), (5, .ptr 5 3 0 0)], rows, clk⟩ ∧ rows 2 = some ⟨0, 38, 2, [ie n']⟩ ∧ rows 3 = some ⟨1, 38, 2, [ie d']⟩ ∧ rows 4 = some ⟨2, 52, 4, [[.bool false, .nil, .bool false, .nil]]⟩ ∧ rows 5 = some ⟨3, 38, 2, [ie g]⟩) ?_ ?_
 ·refine aA [2, 3, 4, 5, 11] ?_
  refine bE ?_ ?_ <;> intro h
  ·have h : d < 0 := by simpa using h
   rw [if_pos h] at yG Z4
   subst yG Z4
   refine W.N7 (fun K hK => ?_)
   simp (disch := omega) [gw]
   refine bZ n1 ?_
   refine bZ n2 ?_
   (try (refine bR (of_decide_eq_true (by kernel_rfl)) ?_)); (try simp (maxSteps := 4000000) (disch := omega) [gw]); (repeat rw [if_pos (by kernel_rfl)]); (try simp (maxSteps := 4000000) (disch := omega) [gw])
   (try (refine bR (of_decide_eq_true (by kernel_rfl)) ?_)); (try simp (maxSteps := 4000000) (disch := omega) [gw]); (repeat rw [if_pos (by kernel_rfl)]); (try simp (maxSteps := 4000000) (disch := omega) [gw])
   exact hK _ ⟨_, aB _ [2, 3, 4, 5], _, _, rfl, by simp, by simp, by simp, by simp⟩
  ·have h : ¬ d < 0 := by simpa using h
   rw [if_neg h] at yG Z4
   subst yG Z4
   refine W.skip ?_
   exact ⟨_, aB _ [2, 3, 4, 5], _, _, rfl, by simp, by simp, by simp, by simp⟩
 rintro _ ⟨rows, clk, rfl, dP, fC, iV, lW⟩
 simp only [ie] at dP fC lW
 refine W.sr ?_
 simp (disch := omega) [gw, dP, lW]
 refine aD e1 ?_
 simp (disch := omega) [gw, dP]
 refine bH [2, 3, 4, 5] ?_
 refine W.sr ?_
 simp (disch := omega) [gw, fC, lW]
 refine aD e2 ?_
 simp (disch := omega) [gw, fC]
 refine bH [2, 3, 4] ?_
 refine W.sr ?_
 simp (disch := omega) [gw, iV]
 refine bH [4] ?_
 exact bT
theorem GF (d : Int) : aG env.P 140 [I d] (.bool (decide (d = 0))) := by
 have := LB (decide (d < 0)) (aS LL d.natAbs)
 rw [show decide ((aS LL d.natAbs).length = 0) = decide (d = 0) from by
  by_cases h : d = 0
  ·subst h; rfl
  ·have : aS LL d.natAbs ≠ [] := fun h2 => h (by have := jU fY d.natAbs; rw [h2] at this; simp [V] at this; omega)
   have h3 := List.length_pos_iff.2 this
   simp [h]; omega] at this
 exact this
theorem Q6 (n : Int) : dE n 0 = dE n 1 := by rw [k8, dE, if_pos rfl]
theorem sF {n d : Int} (hn : sz LL n < 1099511627770) (hd : sz LL d < 1099511627770) : aG env.P 161 [T2 n d] (RT (dE n d)) := by
 have sn : Sz n := by show _ < _; omega
 have sd : Sz d := by show _ < _; omega
 have n1 := HX sn
 have n2 := HX sd
 have z1 := GF d
 have o1 := BS 1 (by decide) (by decide)
 obtain ⟨e, he, hed⟩ : ∃ e, e = (if d = 0 then 1 else d) ∧ dE n e = dE n d := by
  refine ⟨_, rfl, ?_⟩
  split
  ·rename_i h; rw [h, Q6]
  ·rfl
 have NZ : sz LL e < 1099511627770 := by
  rw [he]
  split
  ·exact Nat.lt_of_le_of_lt (dD (k := 1) fY (by decide)) (by decide)
  ·exact hd
 have CY : e ≠ 0 := by
  rw [he]
  split
  ·decide
  ·assumption
 have l1 := uH (n := n) (d := e) hn NZ CY
 rw [hed] at l1
 show aG env.P _ _ (T2 (dE n d).num (dE n d).den)
 replace l1 : aG env.P 179 [I n, I e] (T2 (dE n d).num (dE n d).den) := l1
 clear hed NZ CY
 generalize (dE n d).num = rn at *
 generalize ((dE n d).den : Int) = rd at *
 refine bV [(0, T2 n d)] Tryz.func161 ?_
 refine aA [1, 2] ?_
 refine aK [1, 2, 3] n2 ?_
 refine W.gS (fun σ => ∃ (rows : Pm.Rows) (clk : Nat), σ = ⟨fa [(1, .ptr 1 0 0 0), (2, .ptr 2 1 0 0), (3, .ptr 3 2 0 0)], rows, clk⟩ ∧ rows 1 = some ⟨0, 52, 4, [[.bool (decide (n < 0)), us (aS LL n.natAbs), .bool (decide (d < 0)), us (aS LL d.natAbs)]]⟩ ∧ rows 2 = some ⟨1, 52, 4, [[.bool false, .nil, .bool false, .nil]]⟩ ∧ rows 3 = some ⟨2, 38, 2, [[.bool (decide (e < 0)), us (aS LL e.natAbs)]]⟩) ?_ ?_
 ·refine aK [1, 2, 3, 8] z1 ?_
  refine bE ?_ ?_ <;> intro h
  ·have h : d = 0 := by simpa using h
   rw [if_pos h] at he
   subst he
   refine W.b8 (fun K hK => ?_)
   simp (disch := omega) [gw]
   refine bZ o1 ?_
   exact hK _ ⟨_, aB _ [1, 2, 3], _, _, rfl, by simp, by simp, by simp⟩
  ·have h : ¬ d = 0 := by simpa using h
   rw [if_neg h] at he
   subst he
   refine W.skip ?_
   exact ⟨_, aB _ [1, 2, 3], _, _, rfl, by simp, by simp, by simp⟩
 rintro _ ⟨rows, clk, rfl, tR, dP, fC⟩
 refine W.sd ?_
 simp (disch := omega) [gw, tR]
 refine aD n1 ?_
 simp (disch := omega) [gw, fC]
 refine aD l1 ?_
 simp (disch := omega) [gw, dP]
 (try (refine bR (of_decide_eq_true (by kernel_rfl)) ?_)); (try simp (maxSteps := 4000000) (disch := omega) [gw, dP]); (repeat rw [if_pos (by kernel_rfl)]); (try simp (maxSteps := 4000000) (disch := omega) [gw, dP])
 refine bH [2] ?_
 exact bT
theorem GG {n d m e : Int} {k : Nat} (hn : sz LL n ≤ k) (hd : sz LL d ≤ k) (hm : sz LL m ≤ k) (he : sz LL e ≤ k) (hk : k ≤ 500000000000) {p q : Rat} (hp : dE n d = p) (hq : dE m e = q) (sp : sz LL p.num ≤ k ∧ sz LL (p.den : Int) ≤ k) (sq : sz LL q.num ≤ k ∧ sz LL (q.den : Int) ≤ k) :
  aG env.P 175 [T2 n d, T2 m e] (.fH [I (p.num * q.den), I (q.num * p.den), I ((p.den : Int) * q.den)]) := by
 have n1 := sF (n := n) (d := d) (by omega) (by omega)
 have n2 := sF (n := m) (d := e) (by omega) (by omega)
 rw [hp] at n1
 rw [hq] at n2
 have z : ∀ {v : Int}, sz LL v ≤ k → Sz v := fun h => by show _ < _; omega
 have m1 := vI (z sp.1) (z sq.2)
 have m2 := vI (z sq.1) (z sp.2)
 have m3 := vI (z sp.2) (z sq.2)
 replace n1 : aG env.P 161 [T2 n d] (T2 p.num p.den) := n1
 replace n2 : aG env.P 161 [T2 m e] (T2 q.num q.den) := n2
 clear sp sq hp hq
 generalize p.num * (q.den : Int) = x1 at *
 generalize q.num * (p.den : Int) = x2 at *
 generalize (p.den : Int) * (q.den : Int) = x3 at *
 generalize p.num = pn at *
 generalize (p.den : Int) = pd at *
 generalize q.num = qn at *
 generalize (q.den : Int) = qd at *
 refine bV [(0, T2 n d), (1, T2 m e)] Tryz.func175 ?_
 refine aA [2, 3, 4, 5, 6] ?_
 refine oE ?_
 refine bZ n1 ?_
 refine bZ n2 ?_
 (try (refine bR (of_decide_eq_true (by kernel_rfl)) ?_)); (try simp (maxSteps := 4000000) (disch := omega) [gw]); (repeat rw [if_pos (by kernel_rfl)]); (try simp (maxSteps := 4000000) (disch := omega) [gw])
 (try (refine bR (of_decide_eq_true (by kernel_rfl)) ?_)); (try simp (maxSteps := 4000000) (disch := omega) [gw]); (repeat rw [if_pos (by kernel_rfl)]); (try simp (maxSteps := 4000000) (disch := omega) [gw])
 refine bH [2, 3, 4, 5, 6] ?_
 refine W.sd ?_
 simp (maxSteps := 4000000) (disch := omega) [gw]
 refine aD m1 ?_
 simp (maxSteps := 4000000) (disch := omega) [gw]
 refine aD m2 ?_
 simp (maxSteps := 4000000) (disch := omega) [gw]
 refine aD m3 ?_
 simp (maxSteps := 4000000) (disch := omega) [gw]
 (try (refine bR (of_decide_eq_true (by kernel_rfl)) ?_)); (try simp (maxSteps := 4000000) (disch := omega) [gw]); (repeat rw [if_pos (by kernel_rfl)]); (try simp (maxSteps := 4000000) (disch := omega) [gw])
 (try (refine bR (of_decide_eq_true (by kernel_rfl)) ?_)); (try simp (maxSteps := 4000000) (disch := omega) [gw]); (repeat rw [if_pos (by kernel_rfl)]); (try simp (maxSteps := 4000000) (disch := omega) [gw])
 (try (refine bR (of_decide_eq_true (by kernel_rfl)) ?_)); (try simp (maxSteps := 4000000) (disch := omega) [gw]); (repeat rw [if_pos (by kernel_rfl)]); (try simp (maxSteps := 4000000) (disch := omega) [gw])
 refine bH [4, 5, 6] ?_
 exact bT
theorem kU {n d m e : Int} {k : Nat} (hn : sz LL n ≤ k) (hd : sz LL d ≤ k) (hm : sz LL m ≤ k) (he : sz LL e ≤ k) (hk : k ≤ 500000000000) {p q : Rat} (hp : dE n d = p) (hq : dE m e = q) (sp : sz LL p.num ≤ k ∧ sz LL (p.den : Int) ≤ k) (sq : sz LL q.num ≤ k ∧ sz LL (q.den : Int) ≤ k) :
  aG env.P 90 [T2 n d, T2 m e] (.int .i64 (dQ (p.num * q.den) (q.num * p.den))) := by
 have c1 := GG hn hd hm he hk hp hq sp sq
 have g1 := b9 (b := LL) fY sp.1 sq.2
 have g2 := b9 (b := LL) fY sq.1 sp.2
 have w1 := abn (x := p.num * q.den) (y := q.num * p.den) (by show _ < _; omega) (by show _ < _; omega)
 clear sp sq hp hq g1 g2
 generalize dQ (p.num * (q.den : Int)) (q.num * (p.den : Int)) = r at *
 generalize p.num * (q.den : Int) = x1 at *
 generalize q.num * (p.den : Int) = x2 at *
 generalize (p.den : Int) * (q.den : Int) = x3 at *
 refine bV [(0, T2 n d), (1, T2 m e)] Tryz.func90 ?_
 refine aA [2, 3] ?_
 refine aK [5, 6] c1 ?_
 refine aK [4] w1 ?_
 exact bT
theorem wG {n d : Int} (hn : sz LL n < 1099511627770) (hd : sz LL d < 1099511627770) : aG env.P 94 [T2 n d, .sl []] (RT (dE n d)) := by
 have n1 := sF hn hd
 show aG env.P _ _ (T2 (dE n d).num (dE n d).den)
 replace n1 : aG env.P 161 [T2 n d] (T2 (dE n d).num (dE n d).den) := n1
 generalize (dE n d).num = rn at *
 generalize ((dE n d).den : Int) = rd at *
 refine bV [(0, T2 n d), (1, .sl [])] Tryz.func94 ?_
 refine aA [1, 2, 4] ?_
 refine aK [1, 4, 5] n1 ?_
 refine aL [4, 5, 10, 11, 12] ?_
 refine W.block ?_
 refine W.bC (fun k σ => ∃ (rows : Pm.Rows) (clk : Nat), σ = ⟨fa [(4, .ptr 4 1 0 0), (5, .ptr 5 2 0 0), (11, .int .i64 0), (12, .int .i64 0)], rows, clk⟩ ∧ rows 4 = some ⟨1, 52, 4, [[.bool false, .nil, .bool false, .nil]]⟩ ∧ rows 5 = some ⟨2, 52, 4, [[.bool (decide (rn < 0)), us (aS LL rn.natAbs), .bool (decide (rd < 0)), us (aS LL rd.natAbs)]]⟩) 0 ?_ ?_
 ·exact ⟨_, aB _ [4, 5, 11, 12], _, _, rfl, by simp, by simp⟩
 rintro k _ ⟨rows, clk, rfl, iV, lW⟩
 refine cS [4, 5, 11, 12, 13] ?_
 refine bE ?_ ?_ <;> intro h
 ·simp at h
 ·refine fB ?_
  refine W.sr ?_
  simp (disch := omega) [gw, iV, lW]
  refine bH [4] ?_
  exact bT
theorem XZ {n d : Int} (hn : sz LL n < 1099511627770) (hd : sz LL d < 1099511627770) : aG env.P 176 [T2 n d] (RT (dE n d)) := by
 have n1 := wG hn hd
 show aG env.P _ _ (T2 (dE n d).num (dE n d).den)
 replace n1 : aG env.P 94 [T2 n d, .sl []] (T2 (dE n d).num (dE n d).den) := n1
 generalize (dE n d).num = rn at *
 generalize ((dE n d).den : Int) = rd at *
 refine bV [(0, T2 n d)] Tryz.func176 ?_
 refine aA [1, 2] ?_
 refine aK [2] n1 ?_
 exact bT
end Go.Proofs.YtelhfbikiccfkaaGreat
namespace Go.Proofs.YtelhfbikiccfkaaGreat
open Go Pm
open ZX hiding N W
def uI (st : Nat × Int) (s : Int) : Nat × Int := if s = 0 then st else (if st.2 ≠ 0 ∧ s ≠ st.2 then st.1 + 1 else st.1, s)
def vr (l : List Int) : Nat := (l.foldl uI (0, 0)).1
theorem Q7 (l : List Int) : ∀ st : Nat × Int, (l.foldl uI st).1 ≤ st.1 + l.length := by
 induction l with
 | nil => intro st; simp
 | cons s l ih =>
  intro st
  have h := ih (uI st s)
  have : (uI st s).1 ≤ st.1 + 1 := by
   unfold uI
   split
   ·omega
   ·simp only; split <;> omega
  simp only [List.foldl_cons, List.length_cons]
  omega
theorem C7 (l : List Int) : vr l ≤ l.length := by have := Q7 l (0, 0); simpa [vr] using this
theorem xL {l : List Int} {i : Nat} (h : i < l.length) : (l.take (i + 1)).foldl uI (0, 0) = uI ((l.take i).foldl uI (0, 0)) (nth l i) := by
 rw [List.take_add_one, List.getElem?_eq_getElem h, cQ h, List.foldl_append]
 rfl
theorem z7 (l : List Int) (i : Nat) : aF (nth l i) = [.int .i64 (nth l i)] := rfl
theorem Q8 (l : List Int) (hl : l.length < 1099511627776) : aG env.P 227 [aI aF l] (.int .i64 (vr l)) := by
 have hv : vr l = ((l.take l.length).foldl uI (0, 0)).1 := by rw [List.take_length]; rfl
 rw [hv]
 have hb : ∀ i, ((l.take i).foldl uI (0, 0)).1 ≤ i := fun i => by have := Q7 (l.take i) (0, 0); simp at this; omega
 have kG := fun i (h : i < l.length) => xL h
 generalize (fun i => (l.take i).foldl uI (0, 0)) = F at *
 refine bV [(0, aI aF l)] Tryz.func227 ?_
 refine aA [0] ?_
 refine aA [0, 3, 4] ?_
 refine aL [0, 3, 4, 7, 8] ?_
 refine W.block ?_
 refine W.bC (fun k σ => ∃ (i : Nat) (n : Nat) (s : Int) (rows : Pm.Rows) (clk : Nat), σ = ⟨fa [(0, aI aF l), (3, .int .i64 n), (4, .int .i64 s), (7, .int .i64 l.length), (8, .int .i64 i)], rows, clk⟩ ∧ i + k = l.length ∧ (l.take i).foldl uI (0, 0) = (n, s)) l.length ?_ ?_
 ·exact ⟨_, .refl, 0, 0, 0, _, _, rfl, by omega, by simp⟩
 rintro k _ ⟨i, n, s, rows, clk, rfl, EJ, hF⟩
 have hni : n ≤ i := by have := hb i; rw [hF] at this; exact this
 refine cS [0, 3, 4, 7, 8, 9] ?_
 refine bE ?_ ?_ <;> intro h
 ·have hi : i < l.length := by simp at h; omega
  have p7 := kG i hi
  rw [hF] at p7
  generalize hx : nth l i = x at *
  refine W.skip ?_
  refine W.eT (fun σ => ∃ (n' : Nat) (s' : Int) (rows : Pm.Rows) (clk : Nat), σ = ⟨fa [(0, aI aF l), (3, .int .i64 n'), (4, .int .i64 s'), (7, .int .i64 l.length), (8, .int .i64 i)], rows, clk⟩ ∧ uI (n, s) x = (n', s')) ?_ ?_
  ·refine aA [0, 3, 4, 5, 7, 8] ?_
   refine W.sr ?_
   simp (disch := omega) [gw, hi, hx, z7]
   refine bH [0, 3, 4, 5, 7, 8, 15] ?_
   refine bE ?_ ?_ <;> intro h
   ·have n9 : x ≠ 0 := by simpa using h
    refine W.gS (fun σ => ∃ (n' : Nat) (rows : Pm.Rows) (clk : Nat), σ = ⟨fa [(0, aI aF l), (3, .int .i64 n'), (5, .int .i64 i), (7, .int .i64 l.length), (8, .int .i64 i)], rows, clk⟩ ∧ uI (n, s) x = (n', x)) ?_ ?_
    ·refine W.gM (fun σ => ∃ (b : Bool) (rows : Pm.Rows) (clk : Nat), σ = ⟨fa [(0, aI aF l), (3, .int .i64 n), (5, .int .i64 i), (7, .int .i64 l.length), (8, .int .i64 i), (25, .bool b)], rows, clk⟩ ∧ b = decide (s ≠ 0 ∧ x ≠ s)) (fun K hK => ?_) ?_
     ·by_cases JU : s = 0
      ·subst JU
       simp (disch := omega) [gw, hi, hx, z7]
       exact hK _ _ (aB _ [0, 3, 5, 7, 8, 25]) ⟨_, _, _, rfl, by simp⟩
      ·have J7 : (s != 0) = true := by simpa using JU
       simp (disch := omega) [gw, hi, hx, z7, J7]
       exact hK _ _ (aB _ [0, 3, 5, 7, 8, 25]) ⟨_, _, _, rfl, by simp [JU]; rfl⟩
     rintro _ ⟨b, rows, clk, rfl, rfl⟩
     refine bE ?_ ?_ <;> intro h
     ·have h := of_decide_eq_true h
      refine W.b8 (fun K hK => ?_); simp (disch := omega) [gw]
      exact hK _ ⟨_, aB _ [0, 3, 5, 7, 8], n + 1, _, _, rfl, by unfold uI; rw [if_neg n9]; simp only; rw [if_pos h]⟩
     ·have h := of_decide_eq_false h
      refine W.skip ?_
      exact ⟨_, aB _ [0, 3, 5, 7, 8], n, _, _, rfl, by unfold uI; rw [if_neg n9]; simp only; rw [if_neg h]⟩
    rintro _ ⟨n', rows, clk, rfl, yG⟩
    refine W.b8 (fun K hK => ?_); simp (disch := omega) [gw, hi, hx, z7]
    exact hK _ ⟨_, aB _ [0, 3, 4, 7, 8], n', x, _, _, rfl, yG⟩
   ·have n9 : x = 0 := by simpa using h
    refine W.skip ?_
    exact ⟨_, aB _ [0, 3, 4, 7, 8], n, s, _, _, rfl, by unfold uI; rw [if_pos n9]⟩
  rintro _ ⟨n', s', rows, clk, rfl, yG⟩
  refine W.b8 (fun K hK => ?_); simp (disch := omega) [gw]
  refine hK _ ⟨k - 1, _, aB _ [0, 3, 4, 7, 8], by omega, i + 1, n', s', _, _, rfl, by omega, by rw [p7, yG]⟩
 ·have hi : i = l.length := by simp at h; omega
  subst hi
  refine fB ?_
  refine aA [2] ?_
  rw [hF]
  exact bT
def eL (x : List Int) : Int := if x.length % 2 = 0 then -(lead x).sign else (lead x).sign
def eR (x : List Int) : Int := (lead x).sign
def nS (c : List ZX) (n d : Int) : List Int := c.map fun p => uT p.l n d
def UR (c : List ZX) : List Int := c.map fun p => eL p.l
def US (c : List ZX) : List Int := c.map fun p => eR p.l
theorem z8 {l : List Int} {v : Int} : emap aF l ++ [[.int .i64 v]] = emap aF (l ++ [v]) := by simp [emap, aF]
theorem ET {α : Type} [Inhabited α] (f : α → Int) {c : List α} {i : Nat} (h : i < c.length) : (c.take i).map f ++ [f (nth c i)] = (c.take (i + 1)).map f := by
 rw [List.take_add_one, List.getElem?_eq_getElem h, cQ h, List.map_append]; rfl
theorem MZ {c : List ZX} {n d : Int} (hl : c.length < 1000000) (hS : ∀ p ∈ c, aG env.P 81 [PI p.l, R2 n d] (.int .i64 (uT p.l n d))) : aG env.P 164 [aI zq c, R2 n d] (.int .i64 (vr (nS c n d))) := by
 have hT := Q8 (nS c n d) (by simp [nS]; omega)
 have fX : (emap aF (nS c n d)).length = c.length := by simp [nS, emap]
 have wR : (nS c n d) = (c.take c.length).map fun p => uT p.l n d := by rw [List.take_length]; rfl
 have htG : (nS c n d).take c.length = nS c n d := List.take_of_length_le (by simp [nS])
 generalize vr (nS c n d) = r at *
 generalize hg : nS c n d = G at *
 refine bV [(0, aI zq c), (1, R2 n d)] Tryz.func164 ?_
 refine aA [0, 3] ?_
 refine aA [0, 3, 5] ?_
 refine W.nil 5 5 3 1 (by simp) (by decide) (fun K hK => ?_)
 refine W.lw [0, 3, 5] hK ?_; clear hK K; simp
 refine aL [0, 3, 5, 8, 9] ?_
 refine W.block ?_
 refine W.bC (fun k σ => ∃ (i ver v3 e3 : Nat) (rows : Pm.Rows) (clk : Nat), σ = ⟨fa [(0, aI zq c), (3, .ptr 3 v3 0 0), (5, .own 5 ver 0 i), (8, .int .i64 c.length), (9, .int .i64 i)], rows, clk⟩ ∧ i + k = c.length ∧
  rows 3 = some ⟨v3, e3, 4, [[aI aF (aS DD n.natAbs), .bool (decide (n < 0)), aI aF (aS DD d.natAbs), .bool (decide (d < 0))]]⟩ ∧ rows 5 = some ⟨ver, 3, 1, emap aF ((c.take i).map fun p => uT p.l n d)⟩) c.length ?_ ?_
 ·exact ⟨_, .refl, 0, _, _, _, _, _, rfl, by omega, by simp; first | exact ⟨rfl, rfl⟩ | exact rfl, by simp [emap]⟩
 rintro k _ ⟨i, ver, v3, e3, rows, clk, rfl, EJ, fC, lW⟩
 have tV : ((c.take i).map fun p => uT p.l n d).length = i := by simp; omega
 refine cS [0, 3, 5, 8, 9, 10] ?_
 refine bE ?_ ?_ <;> intro h
 ·have hi : i < c.length := by simp at h; omega
  have hSi := hS _ (bU hi)
  have ZI := ET (fun p : ZX => uT p.l n d) hi
  generalize hpr : (c.take i).map (fun p => uT p.l n d) = pr at *
  generalize hv : uT (nth c i).l n d = v at *
  have mF : (emap aF pr).length = i := by simp [emap, tV]
  refine lG ?_
  refine aA [0, 3, 5, 6, 8, 9] ?_
  refine W.N7 (fun K hK => ?_)
  simp (disch := omega) [gw, hi, fC, lW]
  refine aD hSi ?_
  simp (disch := omega) [gw, lW, mF, z8]
  (try (refine bR (of_decide_eq_true (by kernel_rfl)) ?_)); (try simp (maxSteps := 4000000) (disch := omega) [gw, lW, mF, z8]); (repeat rw [if_pos (by kernel_rfl)]); (try simp (maxSteps := 4000000) (disch := omega) [gw, lW, mF, z8])
  refine W.lw [0, 3, 5, 8, 9] hK ?_; clear hK K; simp
  refine W.b8 (fun K hK => ?_); simp (disch := omega) [gw]
  refine hK _ ⟨k - 1, _, aB _ [0, 3, 5, 8, 9], by omega, i + 1, _, v3, e3, _, _, rfl, by omega, by simp [fC], by simp [z8, ZI]⟩
 ·have hi : i = c.length := by simp at h; omega
  subst hi
  rw [← wR] at lW
  refine fB ?_
  refine W.sr ?_
  simp (disch := omega) [gw, lW, fX, htG]
  refine cI [4] hT ?_
  exact bT
theorem M0 {c : List ZX} {n d m e : Int} (hn : sz 2 n ≤ YY) (hd : sz 2 d ≤ YY) (hm : sz 2 m ≤ YY) (he : sz 2 e ≤ YY) (hl : c.length < 1000000) (h1 : aG env.P 164 [aI zq c, R2 n d] (.int .i64 (vr (nS c n d)))) (h2 : aG env.P 164 [aI zq c, R2 m e] (.int .i64 (vr (nS c m e)))) :
  aG env.P 80 [aI zq c, R2 n d, R2 m e] (.int .i64 (if m * d < n * e then 0 else (vr (nS c n d) : Int) - vr (nS c m e))) := by
 have c1 := xJ m e n d hm he hn hd
 have v1 := C7 (nS c n d)
 have v2 := C7 (nS c m e)
 have l1 : (nS c n d).length = c.length := by simp [nS]
 have l2 : (nS c m e).length = c.length := by simp [nS]
 generalize vr (nS c n d) = a at *
 generalize vr (nS c m e) = b at *
 have hc : (dQ (m * d) (n * e) < 0) ↔ m * d < n * e := by
  unfold dQ; split
  ·omega
  ·split <;> omega
 generalize m * d = xx at *
 generalize n * e = yy at *
 generalize dQ xx yy = z at *
 refine bV [(0, aI zq c), (1, R2 n d), (2, R2 m e)] Tryz.func80 ?_
 refine aA [0, 4, 5] ?_
 refine W.seq ?_
 refine aK [0, 4, 5, 10] c1 ?_
 refine bE ?_ ?_ <;> intro h
 ·have h : z < 0 := by simpa using h
  rw [if_pos (hc.1 h)]
  refine aA [6] ?_
  exact bT
 ·have h : ¬ z < 0 := by simpa using h
  rw [if_neg (fun hh => h (hc.2 hh))]
  refine W.skip ?_
  refine oE ?_
  refine bZ h1 ?_
  refine cI [6] h2 ?_
  exact bT
theorem ags {n d : Int} (hn : Z n) (hd : Z d) : aG env.P 24 [R2 n d] (T2 n d) := by
 have t1 := H3 n hn
 have t2 := H3 d hd
 refine bV [(0, R2 n d)] Tryz.func24 ?_
 refine aA [1, 2] ?_
 refine oE ?_
 refine bZ t1 ?_
 refine bZ t2 ?_
 (try (refine bR (of_decide_eq_true (by kernel_rfl)) ?_)); (try simp (maxSteps := 4000000) (disch := omega) [gw]); (repeat rw [if_pos (by kernel_rfl)]); (try simp (maxSteps := 4000000) (disch := omega) [gw])
 refine bH [2] ?_
 exact bT
abbrev CH (c : List ZX) : PV := .rd [aI zp c]
theorem M3 {l : List Int} (hs : ∀ s ∈ l, s = -1 ∨ s = 0 ∨ s = 1) : ∀ i, i ≤ l.length → ((l.take i).foldl uI (0, 0)).2 = -1 ∨ ((l.take i).foldl uI (0, 0)).2 = 0 ∨ ((l.take i).foldl uI (0, 0)).2 = 1
 | 0, _ => .inr (.inl (by simp))
 | i + 1, h => by
  rw [xL (by omega)]
  have ih := M3 hs i (by omega)
  have := hs _ (bU (show i < l.length by omega))
  unfold uI
  split
  ·exact ih
  ·exact this
theorem uJ (g : FuncId) (hw : HR g = false) (b6 : List PV) (hc : b6.all fW = true) (c : List ZX) (sg : ZX → Int) (hl : c.length < 1000000) (hs : ∀ p ∈ c, sg p = -1 ∨ sg p = 0 ∨ sg p = 1) (hg : ∀ p ∈ c, aG env.P g (Po p.l :: b6) (.int .i64 (sg p))) :
  aG env.P 224 [CH c, .fn g b6] (.int .i64 (vr (c.map sg))) := by
 have hv : vr (c.map sg) = (((c.map sg).take c.length).foldl uI (0, 0)).1 := by rw [List.take_of_length_le (by simp)]; rfl
 rw [hv]
 have hb : ∀ i, (((c.map sg).take i).foldl uI (0, 0)).1 ≤ i := fun i => by have := Q7 ((c.map sg).take i) (0, 0); simp at this; omega
 have kG := fun i (h : i < (c.map sg).length) => xL h
 have MT := M3 (l := c.map sg) (fun s h => by
  simp only [List.mem_map] at h
  obtain ⟨p, hp, rfl⟩ := h
  exact hs p hp)
 have hln : (c.map sg).length = c.length := by simp
 have uB : ∀ i, i < c.length → nth (c.map sg) i = sg (nth c i) := fun i hi => by rw [cQ (by simpa using hi), cQ hi]; simp
 refine bV [(0, CH c), (1, .fn g b6)] Tryz.func224 ?_
 refine aA [0, 1] ?_
 refine aA [0, 1, 5, 6] ?_
 refine aL [1, 5, 6, 13, 14, 15] ?_
 refine W.block ?_
 refine W.bC (fun k σ => ∃ (i : Nat) (n : Nat) (s : Int) (rows : Pm.Rows) (clk : Nat), σ = ⟨fa [(1, .fn g b6), (5, .int .i64 n), (6, .int .i64 s), (13, aI zp c), (14, .int .i64 c.length), (15, .int .i64 i)], rows, clk⟩ ∧ i + k = c.length ∧ ((c.map sg).take i).foldl uI (0, 0) = (n, s)) c.length ?_ ?_
 ·exact ⟨_, .refl, 0, 0, 0, _, _, rfl, by omega, by simp⟩
 rintro k _ ⟨i, n, s, rows, clk, rfl, EJ, hF⟩
 have hni : n ≤ i := by have := hb i; rw [hF] at this; exact this
 have hsv := MT i (by omega)
 rw [hF] at hsv
 simp only at hsv
 refine cS [1, 5, 6, 13, 14, 15, 16] ?_
 refine bE ?_ ?_ <;> intro h
 ·have hi : i < c.length := by simp at h; omega
  have p7 := kG i (by omega)
  have hgi := hg _ (bU hi)
  have hxv := hs _ (bU hi)
  rw [hF, uB i hi] at p7
  generalize hx : sg (nth c i) = x at *
  refine W.skip ?_
  refine W.eT (fun σ => ∃ (n' : Nat) (s' : Int) (rows : Pm.Rows) (clk : Nat), σ = ⟨fa [(1, .fn g b6), (5, .int .i64 n'), (6, .int .i64 s'), (13, aI zp c), (14, .int .i64 c.length), (15, .int .i64 i)], rows, clk⟩ ∧ uI (n, s) x = (n', s')) ?_ ?_
  ·refine W.sr ?_
   simp (disch := omega) [gw, hi]
   refine bH [1, 5, 6, 8, 13, 14, 15] ?_
   refine W.sr ?_
   simp only [HR] at hw
   simp (disch := omega) [gw, hw, hc]
   refine cI [1, 5, 6, 9, 13, 14, 15] hgi ?_
   refine aL [1, 5, 6, 9, 13, 14, 15, 23] ?_
   refine bE ?_ ?_ <;> intro h
   ·have n9 : x = 0 := by simpa using h
    refine fB ?_
    exact ⟨_, aB _ [1, 5, 6, 13, 14, 15], n, s, _, _, rfl, by unfold uI; rw [if_pos n9]⟩
   ·have n9 : x ≠ 0 := by simpa using h
    refine W.skip ?_
    refine W.gS (fun σ => ∃ (n' : Nat) (rows : Pm.Rows) (clk : Nat), σ = ⟨fa [(1, .fn g b6), (5, .int .i64 n'), (9, .int .i64 x), (13, aI zp c), (14, .int .i64 c.length), (15, .int .i64 i)], rows, clk⟩ ∧ uI (n, s) x = (n', x)) ?_ ?_
    ·refine aA [1, 5, 9, 13, 14, 15, 27] ?_
     refine bE ?_ ?_ <;> intro h
     ·have h : s = -x := by simpa using h
      refine W.b8 (fun K hK => ?_); simp (disch := omega) [gw]
      exact hK _ ⟨_, aB _ [1, 5, 9, 13, 14, 15], n + 1, _, _, rfl, by unfold uI; rw [if_neg n9]; simp only; rw [if_pos ⟨by omega, by omega⟩]⟩
     ·have h : ¬ s = -x := by simpa using h
      refine W.skip ?_
      exact ⟨_, aB _ [1, 5, 9, 13, 14, 15], n, _, _, rfl, by unfold uI; rw [if_neg n9]; simp only; rw [if_neg (fun hh => by obtain ⟨h1, h2⟩ := hh; omega)]⟩
    rintro _ ⟨n', rows, clk, rfl, yG⟩
    refine W.b8 (fun K hK => ?_); simp (disch := omega) [gw]
    exact hK _ ⟨_, aB _ [1, 5, 6, 13, 14, 15], n', x, _, _, rfl, yG⟩
  rintro _ ⟨n', s', rows, clk, rfl, yG⟩
  refine W.b8 (fun K hK => ?_); simp (disch := omega) [gw]
  refine hK _ ⟨k - 1, _, aB _ [1, 5, 6, 13, 14, 15], by omega, i + 1, n', s', _, _, rfl, by omega, by rw [p7, yG]⟩
 ·have hi : i = c.length := by simp at h; omega
  subst hi
  refine fB ?_
  refine aA [4] ?_
  rw [hF]
  exact bT
theorem acw {s k u : Nat} {n d : Int} (hn : sz LL n ≤ u) (hd : sz LL d ≤ u) (hu : 1 ≤ u) : ∀ {x : List Int}, Bd LL s k x → sz LL (hm n d x).1 ≤ s + x.length * (u + 1) ∧ sz LL (hm n d x).2 ≤ x.length * u + 1
 | [], _ => ⟨by show sz LL 0 ≤ _; rw [show sz LL 0 = 0 by decide]; omega, by show sz LL 1 ≤ _; exact Nat.le_trans (dD (k := 1) fY (by decide)) (by omega)⟩
 | a :: l, h => by
  obtain ⟨h1, h2⟩ := acw hn hd hu (x := l) ⟨Nat.le_trans (by simp) h.len, fun c hc => h.sz c (by simp [hc])⟩
  have ha := h.sz a (by simp)
  have e : (a :: l).length * u = l.length * u + u := by rw [List.length_cons, Nat.add_mul]; omega
  have e' : (a :: l).length * (u + 1) = l.length * u + l.length + u + 1 := by rw [List.length_cons, Nat.add_mul, Nat.mul_add]; omega
  have e'' : l.length * (u + 1) = l.length * u + l.length := by rw [Nat.mul_add]; omega
  refine ⟨?_, ?_⟩
  ·have g1 := b9 (b := LL) fY h1 hn
   have g2 := b9 (b := LL) fY ha h2
   have := n7 (b := LL) fY (Nat.le_trans g1 (Nat.le_max_left _ (s + (l.length * u + 1)))) (Nat.le_trans g2 (Nat.le_max_right (s + l.length * (u + 1) + u) _))
   refine Nat.le_trans this ?_
   rw [e', e'']
   omega
  ·have := b9 (b := LL) fY h2 hd
   rw [e]
   exact Nat.le_trans this (by omega)
theorem X0 {x : List Int} {n d : Int} {s k u : Nat} (hx : Bd LL s k x) (hn : sz LL n ≤ u) (hd : sz LL d ≤ u) (hu : 1 ≤ u) (hk : k < 1099511627776) (hB : s + k * (u + 1) + u < 500000000000) : aG env.P 177 [Po x, I n, I d] (I (hm n d x).1) ∧ Sz (hm n d x).1 := by
 have hl := hx.len
 have hO := BS 1 (by decide) (by decide)
 have bd := fun i => acw (s := s) (k := k) (x := x.drop i) hn hd hu ⟨by simp; omega, fun c hc => hx.sz c (List.mem_of_mem_drop hc)⟩
 have hle : ∀ i, (x.drop i).length * (u + 1) ≤ k * (u + 1) := fun i => Nat.mul_le_mul_right _ (by simp; omega)
 have acn : ∀ i, (x.drop i).length * u ≤ (x.drop i).length * (u + 1) := fun i => Nat.mul_le_mul_left _ (by omega)
 have step : ∀ i, i < x.length → hm n d (x.drop i) = ((hm n d (x.drop (i + 1))).1 * n + nth x i * (hm n d (x.drop (i + 1))).2, (hm n d (x.drop (i + 1))).2 * d) := fun i hi => by
  rw [List.drop_eq_getElem_cons hi, cQ hi]; rfl
 have IM : hm n d (x.drop x.length) = (0, 1) := by rw [List.drop_length]; rfl
 have h0 : hm n d (x.drop 0) = hm n d x := rfl
 have hz : Sz (hm n d x).1 := by have := (bd 0).1; have := hle 0; rw [h0] at *; show _ < _; omega
 refine ⟨?_, hz⟩
 have M : ∀ i, i < x.length → aG env.P 70 [I (hm n d (x.drop (i + 1))).1, I n] (I ((hm n d (x.drop (i + 1))).1 * n)) ∧ aG env.P 70 [I (nth x i), I (hm n d (x.drop (i + 1))).2] (I (nth x i * (hm n d (x.drop (i + 1))).2)) ∧
   aG env.P 69 [I ((hm n d (x.drop (i + 1))).1 * n), I (nth x i * (hm n d (x.drop (i + 1))).2)] (I (hm n d (x.drop i)).1) ∧ aG env.P 70 [I (hm n d (x.drop (i + 1))).2, I d] (I (hm n d (x.drop i)).2) := fun i hi => by
  obtain ⟨b1, b2⟩ := bd (i + 1)
  have l1 := hle (i + 1)
  have l2 := acn (i + 1)
  have ha := hx.sz _ (bU hi)
  have g1 := b9 (b := LL) fY b1 hn
  have g2 := b9 (b := LL) fY ha b2
  have zz : ∀ {v : Int}, sz LL v < 1099511627776 → Sz v := fun h => h
  have e := step i hi
  rw [e]
  exact ⟨vI (zz (by omega)) (zz (by omega)), vI (zz (by omega)) (zz (by omega)), TJ (zz (by omega)) (zz (by omega)), vI (zz (by omega)) (zz (by omega))⟩
 clear bd hle acn step hz
 generalize hm n d x = r0 at *
 refine bV [(0, Po x), (1, I n), (2, I d)] Tryz.func177 ?_
 refine aA [0, 4, 5, 6] ?_
 refine aA [0, 4, 5, 6, 7] ?_
 refine aK [0, 4, 5, 6, 7, 8] hO ?_
 refine aL [0, 4, 5, 6, 7, 8, 9] ?_
 refine W.row (id := 7) (els := [[.bool false, .nil]]) [[.bool (decide ((0 : Int) < 0)), us (aS LL (0 : Int).natAbs)]] (by simp; first | exact ⟨rfl, rfl, rfl⟩ | exact ⟨rfl, rfl⟩ | rfl) ⟨⟨.inl rfl, .inr ⟨rfl, rfl⟩, trivial⟩, trivial⟩ ?_
 refine W.block ?_
 refine W.bC (fun k σ => ∃ (v4 v5 v6 v7 v8 e4 e5 e6 e7 e8 : Nat) (rows : Pm.Rows) (clk : Nat), σ = ⟨fa [(0, Po x), (4, .ptr 4 v4 0 0), (5, .ptr 5 v5 0 0), (6, .ptr 6 v6 0 0), (7, .ptr 7 v7 0 0), (8, .ptr 8 v8 0 0), (9, .int .i64 ((k : Int) - 1))], rows, clk⟩ ∧ k ≤ x.length ∧
  rows 4 = some ⟨v4, e4, 2, [[.bool (decide (n < 0)), us (aS LL n.natAbs)]]⟩ ∧ rows 5 = some ⟨v5, e5, 2, [[.bool (decide (d < 0)), us (aS LL d.natAbs)]]⟩ ∧ rows 6 = some ⟨v6, e6, 2, [[.bool false, .nil]]⟩ ∧
  rows 7 = some ⟨v7, e7, 2, [[.bool (decide ((hm n d (x.drop k)).1 < 0)), us (aS LL (hm n d (x.drop k)).1.natAbs)]]⟩ ∧
  rows 8 = some ⟨v8, e8, 2, [[.bool (decide ((hm n d (x.drop k)).2 < 0)), us (aS LL (hm n d (x.drop k)).2.natAbs)]]⟩) x.length ?_ ?_
 ·exact ⟨_, .refl, _, _, _, _, _, _, _, _, _, _, _, _, rfl, Nat.le_refl _, by simp; (first | exact ⟨rfl, rfl⟩ | rfl), by simp; (first | exact ⟨rfl, rfl⟩ | rfl), by simp; (first | exact ⟨rfl, rfl⟩ | rfl), by rw [IM]; simp; (first | exact ⟨rfl, rfl⟩ | rfl), by rw [IM]; simp; (first | exact ⟨rfl, rfl⟩ | rfl)⟩
 rintro k _ ⟨v4, v5, v6, v7, v8, e4, e5, e6, e7, e8, rows, clk, rfl, hkl, iV, lW, vV, hr7, zJ⟩
 refine aL [0, 4, 5, 6, 7, 8, 9, 15] ?_
 refine bE ?_ ?_ <;> intro h
 ·have B4 : 0 < k := by simp at h; omega
  obtain ⟨k, rfl⟩ : ∃ j, k = j + 1 := ⟨k - 1, by omega⟩
  obtain ⟨m1, m2, m3, m4⟩ := M k (by omega)
  generalize hm n d (x.drop (k + 1)) = A at *
  have e1 : (((k + 1 : Nat) : Int) - 1).toNat = k := by omega
  refine lG ?_
  refine W.sd ?_
  simp (disch := omega) [gw, iV, hr7]
  refine aD m1 ?_
  simp (disch := omega) [gw, zJ]
  refine bZ m2 ?_
  refine aD m3 ?_
  simp (disch := omega) [gw, hr7]
  (try (refine bR (of_decide_eq_true (by kernel_rfl)) ?_)); (try simp (maxSteps := 4000000) (disch := omega) [gw, hr7]); (repeat rw [if_pos (by kernel_rfl)]); (try simp (maxSteps := 4000000) (disch := omega) [gw, hr7])
  refine bH [0, 4, 5, 6, 7, 8, 9] ?_
  refine W.b8 (fun K hK => ?_)
  simp (disch := omega) [gw, zJ, lW]
  refine aD m4 ?_
  simp (disch := omega) [gw, zJ]
  refine W.lw [0, 4, 5, 6, 7, 8, 9] hK ?_; clear hK K; simp
  refine W.b8 (fun K hK => ?_); simp (disch := omega) [gw]
  refine hK _ ⟨k, _, aB _ [0, 4, 5, 6, 7, 8, 9], by omega, v4, v5, v6, v7, v8, _, _, _, _, _, _, _, rfl, by omega, by simp [iV]; exact rfl, by simp [lW]; exact rfl, by simp [vV]; exact rfl, by simp; exact rfl, by simp; exact rfl⟩
 ·have B4 : k = 0 := by simp at h; omega
  subst B4
  rw [h0] at hr7
  refine fB ?_
  refine W.sr ?_
  simp (disch := omega) [gw, hr7, vV]
  refine bH [6] ?_
  exact bT
theorem w8 (v : Int) : dQ v 0 = v.sign := by
 rcases Int.lt_trichotomy v 0 with h | h | h
 ·rw [Int.sign_eq_neg_one_of_neg h, nD h]
 ·subst h; decide
 ·rw [Int.sign_eq_one_of_pos h, nE h]
theorem xM {x : List Int} {n d : Int} {s k u : Nat} (hx : Bd LL s k x) (cx : Cn x) (hn : sz LL n ≤ u) (hd : sz LL d ≤ u) (hu : 1 ≤ u) (hk : k < 1099511627774) (hu2 : u < 500000000000) (hB : s + k * (u + 1) + u < 500000000000) {q : Rat} (hq : dE n d = q) (sq : sz LL q.num ≤ u ∧ sz LL (q.den : Int) ≤ u) : aG env.P 91 [Po x, T2 n d] (.int .i64 (uT x q.num q.den)) := by
 have p1 := XZ (n := n) (d := d) (Nat.lt_of_le_of_lt hn (by omega)) (Nat.lt_of_le_of_lt hd (by omega))
 rw [hq] at p1
 have n1 := fP (x := x) (PB.of hx (by omega) (by omega))
 rw [show aN x = x from cx] at n1
 obtain ⟨hV, hz⟩ := X0 hx sq.1 sq.2 hu (by omega) hB
 have c1 := abn (x := (hm q.num q.den x).1) (y := 0) hz (show sz LL 0 < _ by decide)
 rw [w8, show (hm q.num q.den x).1.sign = uT x q.num q.den from rfl] at c1
 replace p1 : aG env.P 176 [T2 n d] (T2 q.num q.den) := p1
 generalize uT x q.num q.den = r at *
 generalize (hm q.num q.den x).1 = v at *
 generalize q.num = qn at *
 generalize (q.den : Int) = qd at *
 refine bV [(0, Po x), (1, T2 n d)] Tryz.func91 ?_
 refine aA [0, 3] ?_
 refine aK [0, 3] p1 ?_
 refine oE ?_
 refine bZ n1 ?_
 refine bZ hV ?_
 refine cI [4] c1 ?_
 exact bT
@[simp] theorem aeO {l : List PV} : fW (.rd l) = true := rfl
@[simp] theorem aaX {l : List PV} : cM (.rd l) = true := rfl
@[simp] theorem aeP {l : List PV} : a9 (.rd l) = [] := rfl
@[simp] theorem at2 {l : List PV} : dX (.rd l) = [] := rfl
@[simp] theorem azR {rows : Pm.Rows} {l : List PV} : fz rows (.rd l) = .rd l := rfl
@[simp] theorem azS {rows : Pm.Rows} {l : List PV} : pz rows (.rd l) = .rd l := rfl
theorem X1 (v : Int) : aG env.P 111 [I v] (.int .i64 v.sign) := by
 have h1 := abx (decide (v < 0)) (aS LL v.natAbs)
 have e : (if (aS LL v.natAbs).length = 0 then 0 else if decide (v < 0) = true then -1 else 1 : Int) = v.sign := by
  by_cases h : v = 0
  ·subst h; decide
  ·have : aS LL v.natAbs ≠ [] := fun h2 => h (by have := jU fY v.natAbs; rw [h2] at this; simp [V] at this; omega)
   have h3 := List.length_pos_iff.2 this
   rw [if_neg (by omega)]
   rcases Int.lt_trichotomy v 0 with h4 | h4 | h4
   ·rw [if_pos (by simpa using h4), Int.sign_eq_neg_one_of_neg h4]
   ·exact absurd h4 h
   ·rw [if_neg (by simp; omega), Int.sign_eq_one_of_pos h4]
 rw [e] at h1; exact h1
theorem xN {x : List Int} (hx : PB x) (cx : Cn x) : aG env.P 39 [Po x] (.fH [.int .i64 (eL x), .int .i64 (eR x)]) := by
 have n1 := fP hx
 rw [show aN x = x from cx] at n1
 have l1 := kM hx cx
 have hS := X1 (lead x)
 have hl : x.length < 1099511627776 := by have := hx.EK.len; simpa using this
 have hL : eL x = if x.length % 2 = 0 then -(lead x).sign else (lead x).sign := rfl
 have hR : eR x = (lead x).sign := rfl
 have hs : -1 ≤ (lead x).sign ∧ (lead x).sign ≤ 1 := by
  rcases Int.lt_trichotomy (lead x) 0 with h | h | h
  ·rw [Int.sign_eq_neg_one_of_neg h]; decide
  ·rw [h]; decide
  ·rw [Int.sign_eq_one_of_pos h]; decide
 generalize (lead x).sign = s at *
 generalize lead x = lx at *
 generalize eL x = a at *
 generalize eR x = b at *
 refine bV [(0, Po x)] Tryz.func39 ?_
 refine aA [0] ?_
 refine aK [0] n1 ?_
 refine iU ?_
 refine bZ l1 ?_
 refine cI [0, 3] hS ?_
 refine W.seq ?_
 refine W.gM (fun σ => ∃ (q : Bool) (rows : Pm.Rows) (clk : Nat), σ = ⟨fa [(3, .int .i64 s), (12, .bool q)], rows, clk⟩ ∧ q = decide (x.length % 2 = 0)) (fun K hK => ?_) ?_
 ·simp (disch := omega) [gw]
  exact hK _ _ (aB _ [3, 12]) ⟨_, _, _, rfl, by rw [Bool.eq_iff_iff]; simp; omega⟩
 rintro _ ⟨q, rows, clk, rfl, rfl⟩
 refine bE ?_ ?_ <;> intro h
 ·rw [if_pos (of_decide_eq_true h)] at hL
  subst hL hR
  refine aA [2, 3] ?_
  exact bT
 ·rw [if_neg (of_decide_eq_false h)] at hL
  subst hL hR
  refine W.skip ?_
  refine aA [2, 3] ?_
  exact bT
theorem Q9 {x : List Int} (hx : PB x) (cx : Cn x) : aG env.P 225 [Po x] (.int .i64 (eL x)) := by
 have h1 := xN hx cx
 generalize eL x = a at *
 generalize eR x = b at *
 refine bV [(0, Po x)] Tryz.func225 ?_
 refine aA [0] ?_
 refine aK [3] h1 ?_
 refine aA [2] ?_
 exact bT
theorem X3 {x : List Int} (hx : PB x) (cx : Cn x) : aG env.P 226 [Po x] (.int .i64 (eR x)) := by
 have h1 := xN hx cx
 generalize eL x = a at *
 generalize eR x = b at *
 refine bV [(0, Po x)] Tryz.func226 ?_
 refine aA [0] ?_
 refine aK [4] h1 ?_
 refine aA [2] ?_
 exact bT
theorem alZ (v : Int) : v.sign = -1 ∨ v.sign = 0 ∨ v.sign = 1 := by
 rcases Int.lt_trichotomy v 0 with h | h | h
 ·exact .inl (Int.sign_eq_neg_one_of_neg h)
 ·rw [h]; exact .inr (.inl rfl)
 ·exact .inr (.inr (Int.sign_eq_one_of_pos h))
theorem eL3 (x : List Int) : eL x = -1 ∨ eL x = 0 ∨ eL x = 1 := by
 have := alZ (lead x)
 unfold eL; split <;> omega
theorem RA {c : List ZX} (hl : c.length < 1000000) {n d : Int} {q : Rat} (hS : ∀ p ∈ c, aG env.P 91 [Po p.l, T2 n d] (.int .i64 (uT p.l q.num q.den))) : aG env.P 178 [CH c, T2 n d] (.int .i64 (vr (nS c q.num q.den))) := by
 have hT1 : ∀ p ∈ c, aG env.P 233 [Po p.l, .rd [.bool (decide (n < 0)), us (aS LL n.natAbs), .bool (decide (d < 0)), us (aS LL d.natAbs)]] (.int .i64 (uT p.l q.num q.den)) := fun p hp => by
  have h1 := hS p hp
  generalize uT p.l q.num q.den = r at *
  generalize p.l = x at *
  refine bV [(0, Po x), (1, .rd [.bool (decide (n < 0)), us (aS LL n.natAbs), .bool (decide (d < 0)), us (aS LL d.natAbs)])] Tryz.func233 ?_
  refine aA [0, 1] ?_
  refine aK [3] h1 ?_
  exact bT
 have h1 := uJ 233 rfl [.rd [.bool (decide (n < 0)), us (aS LL n.natAbs), .bool (decide (d < 0)), us (aS LL d.natAbs)]] rfl c (fun p => uT p.l q.num q.den) hl (fun p hp => alZ _) hT1
 rw [show c.map (fun p => uT p.l q.num q.den) = nS c q.num q.den from rfl] at h1
 generalize vr (nS c q.num q.den) = r at *
 refine bV [(0, CH c), (1, T2 n d)] Tryz.func178 ?_
 refine aA [0, 3] ?_
 refine aK [4] h1 ?_
 exact bT
theorem IZ {c : List ZX} (hl : c.length < 1000000) {n d m e : Int} {p q : Rat} {z : Int} (hz : aG env.P 90 [T2 m e, T2 n d] (.int .i64 z)) (h1 : aG env.P 178 [CH c, T2 n d] (.int .i64 (vr (nS c p.num p.den)))) (h2 : aG env.P 178 [CH c, T2 m e] (.int .i64 (vr (nS c q.num q.den)))) :
  aG env.P 92 [CH c, T2 n d, T2 m e] (.int .i64 (if z < 0 then 0 else (vr (nS c p.num p.den) : Int) - vr (nS c q.num q.den))) := by
 have v1 := C7 (nS c p.num p.den)
 have v2 := C7 (nS c q.num q.den)
 have l1 : (nS c p.num p.den).length = c.length := by simp [nS]
 have l2 : (nS c q.num q.den).length = c.length := by simp [nS]
 generalize vr (nS c p.num p.den) = a at *
 generalize vr (nS c q.num q.den) = b at *
 refine bV [(0, CH c), (1, T2 n d), (2, T2 m e)] Tryz.func92 ?_
 refine aA [0, 4, 5] ?_
 refine W.seq ?_
 refine aK [0, 4, 5, 10] hz ?_
 refine bE ?_ ?_ <;> intro h
 ·have h : z < 0 := by simpa using h
  rw [if_pos h]
  refine aA [6] ?_
  exact bT
 ·have h : ¬ z < 0 := by simpa using h
  rw [if_neg h]
  refine W.skip ?_
  refine oE ?_
  refine bZ h1 ?_
  refine cI [6] h2 ?_
  exact bT
section
variable {c : List ZX} (hl : c.length < 1000000) (hb : ∀ p ∈ c, PB p.l)
include hl hb
theorem X4 : aG env.P 162 [CH c] (.int .i64 (vr (UR c))) := by
 have h1 := uJ 225 rfl [] rfl c (fun p => eL p.l) hl (fun p hp => eL3 p.l) (fun p hp => Q9 (hb p hp) p.c)
 rw [show c.map (fun p => eL p.l) = UR c from rfl] at h1
 generalize vr (UR c) = r at *
 refine bV [(0, CH c)] Tryz.func162 ?_
 refine aA [0] ?_
 refine aK [2] h1 ?_
 exact bT
theorem acx : aG env.P 163 [CH c] (.int .i64 (vr (US c))) := by
 have h1 := uJ 226 rfl [] rfl c (fun p => eR p.l) hl (fun p hp => alZ _) (fun p hp => X3 (hb p hp) p.c)
 rw [show c.map (fun p => eR p.l) = US c from rfl] at h1
 generalize vr (US c) = r at *
 refine bV [(0, CH c)] Tryz.func163 ?_
 refine aA [0] ?_
 refine aK [2] h1 ?_
 exact bT
theorem RB : aG env.P 78 [CH c] (.int .i64 ((vr (UR c) : Int) - vr (US c))) := by
 have h1 := X4 hl hb
 have h2 := acx hl hb
 have v1 := C7 (UR c)
 have v2 := C7 (US c)
 have l1 : (UR c).length = c.length := by simp [UR]
 have l2 : (US c).length = c.length := by simp [US]
 generalize vr (UR c) = a at *
 generalize vr (US c) = b at *
 refine bV [(0, CH c)] Tryz.func78 ?_
 refine aA [0] ?_
 refine iU ?_
 refine bZ h1 ?_
 refine cI [2] h2 ?_
 exact bT
end
theorem zA {a : ZX} (ha : a ≠ 0) : Nf (sq a) ∧ dv (sq a) (nf a) := by
 have nA := fF ha
 unfold sq
 split
 ·exact ⟨nA, dv.refl _⟩
 ·exact ⟨(fT nA 0).1, zY nA 0⟩
theorem pT.sqb {s n : Nat} {a : ZX} (h : pT s n a) (ha : a ≠ 0) : BZ (qb s n) n (sq a) := h.nfz.dv (fF ha) (zA ha).1 (zA ha).2
theorem pT.ch {s n : Nat} {a : ZX} (h : pT s n a) (ha : a ≠ 0) (uC : 1 ≤ n) : Ch (qb s n) n (sq a) := ⟨h.sqb ha, h.hn, uC, Nat.le_trans (Nat.mul_le_mul_right _ (by omega)) h.hC⟩
theorem pK {s n : Nat} {a : ZX} (h : pT s n a) (ha : a ≠ 0) (uC : 1 ≤ n) (h1 : 1 ≤ s) : aG env.P 85 [PI a.l] (aI zq (aU (sq a))) :=
 y7 (pJ h h1) (h.ch ha uC) (by unfold qb; omega)
abbrev AP (x : List Int) (c : List ZX) (n d : Int) : PV := .ag [PI x, aI zq c, aI aF (aS DD n.natAbs), .bool (decide (n < 0)), aI aF (aS DD d.natAbs), .bool (decide (d < 0)), aI aF (aS DD n.natAbs), .bool (decide (n < 0)), aI aF (aS DD d.natAbs), .bool (decide (d < 0))]
theorem mS {v : Int} {k : Nat} (h : v.natAbs < 2 ^ k) : sz 2 v ≤ k := dD (by decide) h
theorem EU {n d : Int} (hn : n.natAbs < 65536) (hd : d.natAbs < 65536) (h0 : d ≠ 0) {x : ZX} (hx : x.l = [-n, d]) : aG env.P 45 [R2 n d] (AP [-n, d] (aU (sq x)) n d) := by
 have bz : BZ 16 2 x := ⟨by rw [hx]; simp, fun c hc => by
  rw [hx] at hc
  simp only [List.mem_cons, List.not_mem_nil, or_false] at hc
  rcases hc with rfl | rfl
  ·exact mS (by rw [Int.natAbs_neg]; exact hn)
  ·exact mS hd⟩
 have hL : pT 16 2 x := ⟨bz, by decide, by decide, by decide⟩
 have hc := pK hL (ZX.aC.2 (by show 0 < x.l.length; rw [hx]; simp)) (by decide) (by decide)
 rw [hx] at hc
 generalize aU (sq x) = C at *
 have zs : ∀ {v : Int}, v.natAbs < 65536 → sz 2 v ≤ 16 := fun h => mS h
 have hO := pC 1 (by decide) (by decide)
 have m1 := lK n 1 (by have := zs hn; simp only [Y]; omega) (by decide)
 have m2 := lK d 1 (by have := zs hd; simp only [Y]; omega) (by decide)
 have hng := CD (n : Rat)
 rw [k8] at m1 m2
 rw [show -((n : Int) : Rat) = ((-n : Int) : Rat) by simp] at hng
 rw [show RR ((n : Int) : Rat) = .ag (ri n) from congrArg PV.ag (fO n)] at m1 hng
 rw [show RR ((d : Int) : Rat) = .ag (ri d) from congrArg PV.ag (fO d)] at m2
 rw [show RR ((-n : Int) : Rat) = .ag (ri (-n)) from congrArg PV.ag (fO (-n))] at hng
 have e1 : PI [-n, d] = .sl [ri (-n), ri d] := rfl
 rw [e1] at hc
 unfold AP
 rw [e1]
 clear e1 hL bz hx x
 generalize -n = m at *
 simp only [abC, IP] at *
 refine bV [(0, R2 n d)] Tryz.func45 ?_
 refine aA [1, 2] ?_
 refine W.sd ?_
 simp (maxSteps := 4000000) (disch := omega) [gw]
 refine aD hO ?_
 simp (maxSteps := 4000000) (disch := omega) [gw]
 refine aD m1 ?_
 simp (maxSteps := 4000000) (disch := omega) [gw]
 refine aD hng ?_
 simp (maxSteps := 4000000) (disch := omega) [gw]
 refine aD hO ?_
 simp (maxSteps := 4000000) (disch := omega) [gw]
 refine aD m2 ?_
 simp (maxSteps := 4000000) (disch := omega) [gw]
 refine bH [1, 2, 3] ?_
 refine W.sd ?_
 simp (maxSteps := 4000000) (disch := omega) [gw]
 refine aD hc ?_
 simp (maxSteps := 4000000) (disch := omega) [gw]
 try (refine bR (by kernel_rfl) ?_)
 try simp (maxSteps := 4000000) (disch := omega) [gw]
 refine bH [2] ?_
 exact bT
section
variable {x : List Int} {C : List ZX} {n d : Int}
end
def mY (n d : Int) : Nat → ZX → Int
 | 0, _ => 0
 | k + 1, p => if uT p.l n d = 0 then mY n d k (bI p) else uT p.l n d
def RC (n d : Int) (p : ZX) : Int := mY n d (ZX.N p) p
theorem kV (n d : Int) : ∀ k, mY n d k 0 = 0
 | 0 => rfl
 | k + 1 => by
  have h1 : bI 0 = 0 := rfl
  have h2 : uT (0 : ZX).l n d = 0 := by show uT [] n d = 0; rfl
  rw [mY, if_pos h2, h1, kV n d k]
theorem UT {n d : Int} : ∀ {k j : Nat} {p : ZX}, ZX.N p ≤ k → ZX.N p ≤ j → mY n d k p = mY n d j p
 | 0, j, p, h, _ => by
  have : p = 0 := Classical.byContradiction fun h0 => by have := ZX.aC.1 h0; omega
  rw [this, kV, kV]
 | k + 1, 0, p, _, h => by
  have : p = 0 := Classical.byContradiction fun h0 => by have := ZX.aC.1 h0; omega
  rw [this, kV, kV]
 | k + 1, j + 1, p, h1, h2 => by
  rw [mY, mY]
  have := lN p
  rw [UT (k := k) (j := j) (p := bI p) (by omega) (by omega)]
def sml (n d : Int) : Rat := dE (n % 61 - 30) (1 + d % 6)
theorem GH (n d : Int) (hn : -9223372036854775808 ≤ n ∧ n < 9223372036854775808) (hd : -9223372036854775808 ≤ d ∧ d < 9223372036854775808) : aG env.P 26 [.int .i64 n, .int .i64 d] (RR (sml n d)) := by
 have w1 := gZ n 61 hn (by decide) (by decide)
 have w2 := gZ d 6 hd (by decide) (by decide)
 have h1 := Int.emod_nonneg n (show (61 : Int) ≠ 0 by decide)
 have h2 := Int.emod_lt_of_pos n (show (0 : Int) < 61 by decide)
 have h3 := Int.emod_nonneg d (show (6 : Int) ≠ 0 by decide)
 have h4 := Int.emod_lt_of_pos d (show (0 : Int) < 6 by decide)
 have o1 := pF (n % 61 - 30) (1 + d % 6) (by omega) (by omega)
 have e : dE (n % 61 - 30) (1 + d % 6) = sml n d := rfl
 rw [e] at o1
 generalize sml n d = q at *
 generalize n % 61 = a at *
 generalize d % 6 = b at *
 rw [c8] at *
 generalize q.num = qn at *
 generalize (q.den : Int) = qd at *
 refine bV [(0, .int .i64 n), (1, .int .i64 d)] Tryz.func26 ?_
 refine aA [0, 1, 4] ?_
 refine iU ?_
 refine bZ w1 ?_
 refine bZ w2 ?_
 refine cI [4] o1 ?_
 exact bT
end Go.Proofs.YtelhfbikiccfkaaGreat
