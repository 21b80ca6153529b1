import Derived.Test.YtjnkpfknmncdmaaMe
set_option linter.unusedSimpArgs false
set_option linter.unusedVariables false
namespace Pm

/-! DETERMINANTS OF UP TO FOUR ROWS. -/
abbrev mnrI {α : Type} (i k : Nat) (m : List (List α)) : List (List α) := (m.eraseIdx i).map fun r => r.eraseIdx k
/-- By the first column. -/
def dC : Nat → List (List Int) → Int
  | 0, _ => 1
  | n + 1, A => (List.range (n + 1)).foldl (fun d i => if i % 2 = 0 then d + nth (nth A i) 0 * dC n (mnrI i 0 A) else d - nth (nth A i) 0 * dC n (mnrI i 0 A)) 0
/-- By the first row. -/
def dR : Nat → List (List Int) → Int
  | 0, _ => 1
  | n + 1, A => (List.range (n + 1)).foldl (fun d k => d + if k % 2 = 1 then -(nth (nth A 0) k * dR n (mnrI 0 k A)) else nth (nth A 0) k * dR n (mnrI 0 k A)) 0

def D1 (a : Int) : Int := a
def D2 (a b c d : Int) : Int := a * d - b * c
def D3 (a b c d e f g h i : Int) : Int := a * (e * i - f * h) - b * (d * i - f * g) + c * (d * h - e * g)
def D4 (a b c d e f g h i j k l m n o p : Int) : Int := a * D3 f g h j k l n o p - b * D3 e g h i k l m o p + c * D3 e f h i j l m n p - d * D3 e f g i j k m n o

theorem dC1 (a : Int) : dC 1 [[a]] = a := by simp [dC, nth, List.range, List.range.loop]
theorem dC2 (a b c d : Int) : dC 2 [[a, b], [c, d]] = D2 a b c d := by simp [mnrI, dC, dC1, nth, List.range, List.range.loop, D2]; grind
theorem dC3 (a b c d e f g h i : Int) : dC 3 [[a, b, c], [d, e, f], [g, h, i]] = D3 a b c d e f g h i := by
  rw [dC]; simp [mnrI, dC2, nth, List.range, List.range.loop, D2, D3]; grind
theorem dC4 (a b c d e f g h i j k l m n o p : Int) : dC 4 [[a, b, c, d], [e, f, g, h], [i, j, k, l], [m, n, o, p]] = D4 a b c d e f g h i j k l m n o p := by
  rw [dC]; simp [mnrI, dC3, nth, List.range, List.range.loop, D3, D4]; grind
theorem dR1 (a : Int) : dR 1 [[a]] = a := by simp [dR, nth, List.range, List.range.loop]
theorem dR2 (a b c d : Int) : dR 2 [[a, b], [c, d]] = D2 a b c d := by simp [mnrI, dR, dR1, nth, List.range, List.range.loop, D2]; grind
theorem dR3 (a b c d e f g h i : Int) : dR 3 [[a, b, c], [d, e, f], [g, h, i]] = D3 a b c d e f g h i := by
  rw [dR]; simp [mnrI, dR2, nth, List.range, List.range.loop, D2, D3]; grind
theorem dR4 (a b c d e f g h i j k l m n o p : Int) : dR 4 [[a, b, c, d], [e, f, g, h], [i, j, k, l], [m, n, o, p]] = D4 a b c d e f g h i j k l m n o p := by
  rw [dR]; simp [mnrI, dR3, nth, List.range, List.range.loop, D3, D4]; grind

/-- n rows of n. -/
def Sq (n : Nat) (A : List (List Int)) : Prop := A.length = n ∧ ∀ r ∈ A, r.length = n
theorem len1 {α : Type} {l : List α} (h : l.length = 1) : ∃ a, l = [a] := match l, h with | [a], _ => ⟨a, rfl⟩
theorem len2 {α : Type} {l : List α} (h : l.length = 2) : ∃ a b, l = [a, b] := match l, h with | [a, b], _ => ⟨a, b, rfl⟩
theorem len3 {α : Type} {l : List α} (h : l.length = 3) : ∃ a b c, l = [a, b, c] := match l, h with | [a, b, c], _ => ⟨a, b, c, rfl⟩
theorem len4 {α : Type} {l : List α} (h : l.length = 4) : ∃ a b c d, l = [a, b, c, d] := match l, h with | [a, b, c, d], _ => ⟨a, b, c, d, rfl⟩
theorem Sq.one {A : List (List Int)} (h : Sq 1 A) : ∃ a, A = [[a]] := by
  obtain ⟨x, rfl⟩ := len1 h.1
  obtain ⟨a, rfl⟩ := len1 (h.2 x (by simp))
  exact ⟨a, rfl⟩
theorem Sq.two {A : List (List Int)} (h : Sq 2 A) : ∃ a b c d, A = [[a, b], [c, d]] := by
  obtain ⟨x, y, rfl⟩ := len2 h.1
  obtain ⟨a, b, rfl⟩ := len2 (h.2 x (by simp))
  obtain ⟨c, d, rfl⟩ := len2 (h.2 y (by simp))
  exact ⟨a, b, c, d, rfl⟩
theorem Sq.three {A : List (List Int)} (h : Sq 3 A) : ∃ a b c d e f g h i, A = [[a, b, c], [d, e, f], [g, h, i]] := by
  obtain ⟨x, y, z, rfl⟩ := len3 h.1
  obtain ⟨a, b, c, rfl⟩ := len3 (h.2 x (by simp))
  obtain ⟨d, e, f, rfl⟩ := len3 (h.2 y (by simp))
  obtain ⟨g, i, j, rfl⟩ := len3 (h.2 z (by simp))
  exact ⟨_, _, _, _, _, _, _, _, _, rfl⟩
theorem Sq.four {A : List (List Int)} (h : Sq 4 A) : ∃ a b c d e f g h i j k l m n o p, A = [[a, b, c, d], [e, f, g, h], [i, j, k, l], [m, n, o, p]] := by
  obtain ⟨x, y, z, w, rfl⟩ := len4 h.1
  obtain ⟨_, _, _, _, rfl⟩ := len4 (h.2 x (by simp))
  obtain ⟨_, _, _, _, rfl⟩ := len4 (h.2 y (by simp))
  obtain ⟨_, _, _, _, rfl⟩ := len4 (h.2 z (by simp))
  obtain ⟨_, _, _, _, rfl⟩ := len4 (h.2 w (by simp))
  exact ⟨_, _, _, _, _, _, _, _, _, _, _, _, _, _, _, _, rfl⟩
theorem dC_dR {n : Nat} {A : List (List Int)} (h : Sq n A) (hn : n ≤ 4) : dC n A = dR n A := by
  match n, hn with
  | 0, _ => rfl
  | 1, _ => obtain ⟨_, rfl⟩ := h.one; rw [dC1, dR1]
  | 2, _ => obtain ⟨_, _, _, _, rfl⟩ := h.two; rw [dC2, dR2]
  | 3, _ => obtain ⟨_, _, _, _, _, _, _, _, _, rfl⟩ := h.three; rw [dC3, dR3]
  | 4, _ => obtain ⟨_, _, _, _, _, _, _, _, _, _, _, _, _, _, _, _, rfl⟩ := h.four; rw [dC4, dR4]

theorem lt2 {i : Nat} (h : i < 2) : i = 0 ∨ i = 1 := by omega
theorem lt3 {i : Nat} (h : i < 3) : i = 0 ∨ i = 1 ∨ i = 2 := by omega
theorem lt4 {i : Nat} (h : i < 4) : i = 0 ∨ i = 1 ∨ i = 2 ∨ i = 3 := by omega
/-- Two rows changed about. -/
theorem dC_swap {n : Nat} {A : List (List Int)} (h : Sq n A) (hn : n ≤ 4) {i k : Nat} (hi : i < n) (hk : k < n) (hik : i ≠ k) : dC n ((A.set i (nth A k)).set k (nth A i)) = - dC n A := by
  match n, hn with
  | 0, _ => omega
  | 1, _ => omega
  | 2, _ =>
    obtain ⟨_, _, _, _, rfl⟩ := h.two
    rcases lt2 hi with rfl | rfl <;> rcases lt2 hk with rfl | rfl <;> first | exact absurd rfl hik | (simp [nth, dC2, D2]; grind)
  | 3, _ =>
    obtain ⟨_, _, _, _, _, _, _, _, _, rfl⟩ := h.three
    rcases lt3 hi with rfl | rfl | rfl <;> rcases lt3 hk with rfl | rfl | rfl <;> first | exact absurd rfl hik | (simp [nth, dC3, D3]; grind)
  | 4, _ =>
    obtain ⟨_, _, _, _, _, _, _, _, _, _, _, _, _, _, _, _, rfl⟩ := h.four
    rcases lt4 hi with rfl | rfl | rfl | rfl <;> rcases lt4 hk with rfl | rfl | rfl | rfl <;> first | exact absurd rfl hik | (simp [nth, dC4, D4, D3]; grind)
/-- Two equal rows. -/
theorem dC_same {n : Nat} {A : List (List Int)} (h : Sq n A) (hn : n ≤ 4) {i k : Nat} (hi : i < n) (hk : k < n) (hik : i ≠ k) : dC n (A.set i (nth A k)) = 0 := by
  match n, hn with
  | 0, _ => omega
  | 1, _ => omega
  | 2, _ =>
    obtain ⟨_, _, _, _, rfl⟩ := h.two
    rcases lt2 hi with rfl | rfl <;> rcases lt2 hk with rfl | rfl <;> first | exact absurd rfl hik | (simp [nth, dC2, D2]; try grind)
  | 3, _ =>
    obtain ⟨_, _, _, _, _, _, _, _, _, rfl⟩ := h.three
    rcases lt3 hi with rfl | rfl | rfl <;> rcases lt3 hk with rfl | rfl | rfl <;> first | exact absurd rfl hik | (simp [nth, dC3, D3]; try grind)
  | 4, _ =>
    obtain ⟨_, _, _, _, _, _, _, _, _, _, _, _, _, _, _, _, rfl⟩ := h.four
    rcases lt4 hi with rfl | rfl | rfl | rfl <;> rcases lt4 hk with rfl | rfl | rfl | rfl <;> first | exact absurd rfl hik | (simp [nth, dC4, D4, D3]; try grind)
/-- A multiple of one row added to another one. -/
theorem dC_addrow {n : Nat} {A : List (List Int)} (h : Sq n A) (hn : n ≤ 4) {i k : Nat} (hi : i < n) (hk : k < n) (hik : i ≠ k) (c : Int) : dC n (A.set i ((List.range n).map fun j => nth (nth A i) j + c * nth (nth A k) j)) = dC n A := by
  match n, hn with
  | 0, _ => omega
  | 1, _ => omega
  | 2, _ =>
    obtain ⟨_, _, _, _, rfl⟩ := h.two
    rcases lt2 hi with rfl | rfl <;> rcases lt2 hk with rfl | rfl <;> first | exact absurd rfl hik | (simp [nth, dC2, D2, List.range, List.range.loop]; grind)
  | 3, _ =>
    obtain ⟨_, _, _, _, _, _, _, _, _, rfl⟩ := h.three
    rcases lt3 hi with rfl | rfl | rfl <;> rcases lt3 hk with rfl | rfl | rfl <;> first | exact absurd rfl hik | (simp [nth, dC3, D3, List.range, List.range.loop]; grind)
  | 4, _ =>
    obtain ⟨_, _, _, _, _, _, _, _, _, _, _, _, _, _, _, _, rfl⟩ := h.four
    rcases lt4 hi with rfl | rfl | rfl | rfl <;> rcases lt4 hk with rfl | rfl | rfl | rfl <;> first | exact absurd rfl hik | (simp [nth, dC4, D4, D3, List.range, List.range.loop]; grind)
/-- Rows as columns. -/
theorem dC_turn {n : Nat} {A : List (List Int)} (h : Sq n A) (hn : n ≤ 4) : dC n ((List.range n).map fun k => (List.range n).map fun j => nth (nth A j) k) = dC n A := by
  match n, hn with
  | 0, _ => rfl
  | 1, _ => obtain ⟨_, rfl⟩ := h.one; simp [nth, List.range, List.range.loop]
  | 2, _ => obtain ⟨_, _, _, _, rfl⟩ := h.two; simp [nth, dC2, D2, List.range, List.range.loop]; grind
  | 3, _ => obtain ⟨_, _, _, _, _, _, _, _, _, rfl⟩ := h.three; simp [nth, dC3, D3, List.range, List.range.loop]; grind
  | 4, _ => obtain ⟨_, _, _, _, _, _, _, _, _, _, _, _, _, _, _, _, rfl⟩ := h.four; simp [nth, dC4, D4, D3, List.range, List.range.loop]; grind
/-- A factor of one row. -/
theorem dC_scale {n : Nat} {A : List (List Int)} (h : Sq n A) (hn : n ≤ 4) {i : Nat} (hi : i < n) (c : Int) : dC n (A.set i ((List.range n).map fun j => c * nth (nth A i) j)) = c * dC n A := by
  match n, hn with
  | 0, _ => omega
  | 1, _ =>
    obtain ⟨_, rfl⟩ := h.one
    obtain rfl : i = 0 := by omega
    simp [nth, dC1, List.range, List.range.loop]
  | 2, _ =>
    obtain ⟨_, _, _, _, rfl⟩ := h.two
    rcases lt2 hi with rfl | rfl <;> (simp [nth, dC2, D2, List.range, List.range.loop]; grind)
  | 3, _ =>
    obtain ⟨_, _, _, _, _, _, _, _, _, rfl⟩ := h.three
    rcases lt3 hi with rfl | rfl | rfl <;> (simp [nth, dC3, D3, List.range, List.range.loop]; grind)
  | 4, _ =>
    obtain ⟨_, _, _, _, _, _, _, _, _, _, _, _, _, _, _, _, rfl⟩ := h.four
    rcases lt4 hi with rfl | rfl | rfl | rfl <;> (simp [nth, dC4, D4, D3, List.range, List.range.loop]; grind)
/-- Along any row. -/
theorem dC_expand {n : Nat} {A : List (List Int)} (h : Sq n A) (hn : n ≤ 4) {i : Nat} (hi : i < n) : (List.range n).foldl (fun s k => s + if (i + k) % 2 = 1 then -(dC (n - 1) (mnrI i k A) * nth (nth A i) k) else dC (n - 1) (mnrI i k A) * nth (nth A i) k) 0 = dC n A := by
  match n, hn with
  | 0, _ => omega
  | 1, _ =>
    obtain ⟨_, rfl⟩ := h.one
    obtain rfl : i = 0 := by omega
    simp [mnrI, nth, dC1, dC, List.range, List.range.loop]
  | 2, _ =>
    obtain ⟨_, _, _, _, rfl⟩ := h.two
    rcases lt2 hi with rfl | rfl <;> (simp [mnrI, nth, dC1, dC2, D2, List.range, List.range.loop]; grind)
  | 3, _ =>
    obtain ⟨_, _, _, _, _, _, _, _, _, rfl⟩ := h.three
    rcases lt3 hi with rfl | rfl | rfl <;> (simp [mnrI, nth, dC2, dC3, D2, D3, List.range, List.range.loop]; grind)
  | 4, _ =>
    obtain ⟨_, _, _, _, _, _, _, _, _, _, _, _, _, _, _, _, rfl⟩ := h.four
    rcases lt4 hi with rfl | rfl | rfl | rfl <;> (simp [mnrI, nth, dC3, dC4, D4, D3, List.range, List.range.loop]; grind)
end Pm
