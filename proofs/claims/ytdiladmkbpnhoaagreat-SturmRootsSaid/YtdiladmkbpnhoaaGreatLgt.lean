import Derived.Test.YtdiladmkbpnhoaaGreatLgq
set_option linter.unusedSimpArgs false
set_option linter.unusedVariables false
namespace Go.Proofs.YtdiladmkbpnhoaaGreat
open Go Pm
open ZX hiding N W
def l1 (x : List Int) : Nat := (x.map Int.natAbs).sum
theorem l1_cons (a : Int) (x : List Int) : l1 (a :: x) = a.natAbs + l1 x := by simp [l1]
theorem l1_nil : l1 [] = 0 := rfl
theorem l1_cut : ∀ x : List Int, l1 (cutR x) ≤ l1 x
 | [] => Nat.le_refl _
 | a :: x => by
  have := l1_cut x
  rw [cutR]
  split
  ·rw [l1_nil]; omega
  ·rw [l1_cons, l1_cons]; omega
theorem l1_map_add {α : Type} (f g : α → Int) : ∀ l : List α, l1 (l.map fun k => f k + g k) ≤ l1 (l.map f) + l1 (l.map g)
 | [] => Nat.le_refl _
 | x :: l => by
  have := l1_map_add f g l
  simp only [List.map_cons, l1_cons]
  omega
theorem l1_app_rep : ∀ (x : List Int) (n : Nat), l1 (x ++ List.replicate n 0) = l1 x
 | [], n => by simp [l1]
 | a :: x, n => by rw [List.cons_append, l1_cons, l1_cons, l1_app_rep x n]
theorem l1_padd (x y : List Int) : l1 (padd x y) ≤ l1 x + l1 y := by
 have h1 := l1_map_add (nth x) (nth y) (List.range (max x.length y.length))
 rw [range_nth (by omega), range_nth (by omega), l1_app_rep, l1_app_rep] at h1
 exact Nat.le_trans (l1_cut _) h1
theorem l1_mul (a : Int) : ∀ y : List Int, l1 (y.map fun c => c * a) = a.natAbs * l1 y
 | [] => by simp [l1]
 | c :: y => by rw [List.map_cons, l1_cons, l1_cons, l1_mul a y, Int.natAbs_mul, Nat.mul_add, Nat.mul_comm]
theorem l1_pmul0 : ∀ x y : List Int, l1 (pmul0 x y) ≤ l1 x * l1 y
 | [], y => by rw [pmul0, l1_nil]; omega
 | a :: x, y => by
  have h1 := l1_pmul0 x y
  have h2 := l1_padd (y.map fun c => c * a) (0 :: pmul0 x y)
  rw [l1_mul, l1_cons] at h2
  rw [pmul0, l1_cons, Nat.add_mul]
  simp only [Int.natAbs_zero] at h2
  omega
def n1 (a : ZX) : Nat := l1 a.l
theorem n1_mul (a b : ZX) : n1 (a * b) ≤ n1 a * n1 b := Nat.le_trans (l1_cut _) (l1_pmul0 _ _)
theorem n1_of (x : List Int) : n1 (of x) ≤ l1 x := l1_cut x
theorem n1_K (c : Int) : n1 (K c) ≤ c.natAbs := Nat.le_trans (n1_of _) (by simp [l1])
theorem n1_pow {a : ZX} {m : Nat} (h : n1 a ≤ m) : ∀ k : Nat, n1 (a ^ k) ≤ m ^ k
 | 0 => n1_K 1
 | k + 1 => by
  rw [pow_succ', Nat.pow_succ]
  exact Nat.le_trans (n1_mul _ _) (Nat.mul_le_mul (n1_pow h k) h)
theorem l1_mem : ∀ {x : List Int} {c : Int}, c ∈ x → c.natAbs ≤ l1 x
 | a :: x, c, h => by
  rw [l1_cons]
  rcases List.mem_cons.1 h with rfl | h
  ·omega
  ·have := l1_mem h; omega
theorem BZ.of_n1 {s n : Nat} {a : ZX} (h : n1 a < 2 ^ s) (hn : ZX.N a ≤ n) : BZ s n a := ⟨hn, fun c hc => sz_le (by decide) (Nat.lt_of_le_of_lt (l1_mem hc) h)⟩
theorem mfac_n1 (l : List Int) (i : Nat) : n1 (of (mfac l i)) ≤ 9 ^ (ZX.N (of (mfac l i)) - 1) ∧ 2 ≤ ZX.N (of (mfac l i)) := by
 obtain ⟨_, hl, _⟩ := mfac_ok l i
 have h9 := Int.emod_nonneg (nth l i) (show (9 : Int) ≠ 0 by decide)
 have h9' := Int.emod_lt_of_pos (nth l i) (show (0 : Int) < 9 by decide)
 have h5 := Int.emod_nonneg (nth l (i + 1)) (show (5 : Int) ≠ 0 by decide)
 have h5' := Int.emod_lt_of_pos (nth l (i + 1)) (show (0 : Int) < 5 by decide)
 have h3 := Int.emod_nonneg (nth l (i + 2)) (show (3 : Int) ≠ 0 by decide)
 have h3' := Int.emod_lt_of_pos (nth l (i + 2)) (show (0 : Int) < 3 by decide)
 unfold n1 ZX.N
 rw [hl]
 unfold mfac
 split
 ·simp only [l1_cons, l1_nil, List.length_cons, List.length_nil]
  refine ⟨?_, by omega⟩
  show _ ≤ 81
  omega
 ·simp only [l1_cons, l1_nil, List.length_cons, List.length_nil]
  refine ⟨?_, by omega⟩
  show _ ≤ 9
  omega
theorem mades_n1 (l : List Int) (most : Nat) : ∀ j, n1 (mades l most j) ≤ 9 ^ (ZX.N (mades l most j) - 1)
 | 0 => Nat.le_trans (n1_K 1) (Nat.one_le_pow _ _ (by decide))
 | j + 1 => by
  have ih := mades_n1 l most j
  obtain ⟨h0, _⟩ := mades_ok l most j
  obtain ⟨b1, b2, b3⟩ := mfac_ok l (3 * j)
  obtain ⟨e1, e2⟩ := mexp_ok l (3 * j)
  obtain ⟨f1, f2⟩ := mfac_n1 l (3 * j)
  obtain ⟨p1, p2, p3⟩ := powS b3 b1 _ e1
  show n1 (mstep l most (3 * j) (mades l most j)) ≤ 9 ^ (ZX.N (mstep l most (3 * j) (mades l most j)) - 1)
  unfold mstep
  split
  ·exact ih
  ·have h1 := Nat.mul_le_mul ih (n1_pow f1 (mexp l (3 * j)))
   refine Nat.le_trans (n1_mul _ _) (Nat.le_trans h1 ?_)
   rw [← Nat.pow_mul, ← Nat.pow_add]
   refine Nat.pow_le_pow_right (by decide) ?_
   rw [ZX.N_mul h0 p2, p3, Nat.mul_comm]
   have := ZX.ne_zero.1 h0
   omega
theorem made_n1 (l : List Int) (most : Nat) : n1 (made l most) ≤ 3 * 9 ^ most ∧ ZX.N (made l most) ≤ most + 1 := by
 have hN := (made_ok l most).2.N
 refine ⟨?_, hN⟩
 have h1 := mades_n1 l most (min 6 (l.length / 3))
 have h2 := (mades_ok l most (min 6 (l.length / 3))).2.N
 have h3 : 9 ^ (ZX.N (mades l most (min 6 (l.length / 3))) - 1) ≤ 9 ^ most := Nat.pow_le_pow_right (by decide) (by omega)
 unfold made
 split
 ·have h4 := n1_mul (K (-3)) (mades l most (min 6 (l.length / 3)))
  have h5 := n1_K (-3)
  exact Nat.le_trans h4 (Nat.mul_le_mul h5 (Nat.le_trans h1 h3))
 ·omega
def mirL (x : List Int) : Nat → List Int
 | 0 => []
 | i + 1 => mirL x i ++ [if i % 2 = 1 then -nth x i else nth x i]
theorem mirL_len (x : List Int) : ∀ i, (mirL x i).length = i
 | 0 => rfl
 | i + 1 => by rw [mirL, List.length_append, mirL_len x i]; rfl
theorem neg_pow_int (t : Int) : ∀ i : Nat, (-t) ^ i = if i % 2 = 1 then -t ^ i else t ^ i
 | 0 => by simp
 | i + 1 => by
  rw [Int.pow_succ, neg_pow_int t i, Int.pow_succ]
  by_cases h : i % 2 = 1
  ·rw [if_pos h, if_neg (by omega)]; grind
  ·rw [if_neg h, if_pos (by omega)]; grind
theorem neg_pow_rat (t : Rat) : ∀ i : Nat, (-t) ^ i = if i % 2 = 1 then -t ^ i else t ^ i
 | 0 => by simp
 | i + 1 => by
  rw [Rat.pow_succ, neg_pow_rat t i, Rat.pow_succ]
  by_cases h : i % 2 = 1
  ·rw [if_pos h, if_neg (by omega)]; grind
  ·rw [if_neg h, if_pos (by omega)]; grind
theorem V_mirL (t : Int) (x : List Int) : ∀ i, i ≤ x.length → V t (mirL x i) = V (-t) (x.take i)
 | 0, _ => by simp [mirL, V]
 | i + 1, h => by
  rw [mirL, V_append, V_one, mirL_len, V_mirL t x i (by omega), V_take_succ (by omega), neg_pow_int]
  split <;> grind
theorem qv_append (t : Rat) : ∀ (a c : List Int), qv t (a ++ c) = qv t a + t ^ a.length * qv t c
 | [], c => by simp only [List.nil_append, qv, List.length_nil, Rat.pow_zero]; grind
 | x :: a, c => by simp only [List.cons_append, qv, qv_append t a c, List.length_cons, Rat.pow_succ]; grind
theorem qv_one (t : Rat) (c : Int) : qv t [c] = c := by simp only [qv]; grind
theorem qv_mirL (t : Rat) (x : List Int) : ∀ i, i ≤ x.length → qv t (mirL x i) = qv (-t) (x.take i)
 | 0, _ => by simp [mirL, qv]
 | i + 1, h => by
  rw [mirL, qv_append, qv_one, mirL_len, qv_mirL t x i (by omega), take_succ_nth (by omega), qv_append, qv_one, neg_pow_rat, List.length_take, Nat.min_eq_left (by omega)]
  split
  ·rw [Rat.intCast_neg]; grind
  ·rfl
theorem mirL_Cn {x : List Int} (h : Cn x) : Cn (mirL x x.length) := by
 rcases Nat.eq_zero_or_pos x.length with h0 | h0
 ·rw [h0]; rfl
 ·obtain ⟨n, hn⟩ : ∃ n, x.length = n + 1 := ⟨x.length - 1, by omega⟩
  have hl := lead_ne h h0
  have e : lead x = nth x n := by unfold lead; rw [hn]; rfl
  rw [e] at hl
  rw [hn, mirL]
  exact cutR_ne (by split <;> omega) _
def mir (a : ZX) : ZX := ⟨mirL a.l a.l.length, mirL_Cn a.c⟩
theorem v_mir (t : Int) (a : ZX) : V t (mir a).l = V (-t) a.l := by
 show V t (mirL a.l a.l.length) = _
 rw [V_mirL t a.l _ (Nat.le_refl _), List.take_length]
theorem e_mir (t : Rat) (a : ZX) : e t (mir a) = e (-t) a := by
 show qv t (mirL a.l a.l.length) = qv (-t) a.l
 rw [qv_mirL t a.l _ (Nat.le_refl _), List.take_length]
theorem N_mir (a : ZX) : ZX.N (mir a) = ZX.N a := mirL_len _ _
theorem mir_mir (a : ZX) : mir (mir a) = a := ZX.ext fun t => by rw [v_mir, v_mir, Int.neg_neg]
theorem mir_mul (a b : ZX) : mir (a * b) = mir a * mir b := ZX.ext fun t => by rw [v_mir, v_mul, v_mul, v_mir, v_mir]
theorem mir_K (c : Int) : mir (K c) = K c := ZX.ext fun t => by rw [v_mir, v_K, v_K]
theorem mir_pow (a : ZX) : ∀ k : Nat, mir (a ^ k) = mir a ^ k
 | 0 => mir_K 1
 | k + 1 => by rw [pow_succ', mir_mul, mir_pow a k, pow_succ']
theorem mir_ne {a : ZX} (h : a ≠ 0) : mir a ≠ 0 := ZX.ne_zero.2 (by rw [N_mir]; exact ZX.ne_zero.1 h)
theorem mir_dv {a b : ZX} (h : dv a b) : dv (mir a) (mir b) := by
 obtain ⟨c, hc, q, e⟩ := h
 exact ⟨c, hc, mir q, by rw [← mir_K c, ← mir_mul, e, mir_mul]⟩
theorem mir_Irr {p : ZX} (h : Irr p) : Irr (mir p) := ⟨by rw [N_mir]; exact h.deg, fun d hd => by
 have := h.irr (mir d) (by have := mir_dv hd; rwa [mir_mir] at this)
 rwa [N_mir, ← N_mir p] at this⟩
theorem mu_mir {p a : ZX} (hp : Irr p) (ha : a ≠ 0) : mu p (mir a) = mu (mir p) a := by
 have key : ∀ k, k ≤ mu p (mir a) ↔ k ≤ mu (mir p) a := fun k => by
  rw [mu_le hp (mir_ne ha), mu_le (mir_Irr hp) ha]
  constructor
  ·intro h; have := mir_dv h; rwa [mir_mir, mir_pow] at this
  ·intro h; have := mir_dv h; rwa [mir_pow, mir_mir] at this
 have h1 := (key (mu p (mir a))).1 (Nat.le_refl _)
 have h2 := (key (mu (mir p) a)).2 (Nat.le_refl _)
 omega
theorem sq_mir {a : ZX} (ha : a ≠ 0) : sq (mir a) = nf (mir (sq a)) := by
 obtain ⟨h1, h2⟩ := sq_two ha
 refine sq_eq (mir_ne ha) (nf_Nf (mir_ne h1.ne)) fun p hp => ?_
 rw [mu_nf hp (mir_ne h1.ne), mu_mir hp h1.ne, mu_mir hp ha, h2 _ (mir_Irr hp)]
theorem sq_K {a : ZX} (ha : a ≠ 0) {c : Int} (hc : c ≠ 0) : sq (K c * a) = sq a := by
 obtain ⟨h1, h2⟩ := sq_two ha
 refine sq_eq (ZX.mul_ne (ZX.K_ne hc) ha) h1 fun p hp => ?_
 rw [h2 p hp, mu_mul hp (ZX.K_ne hc) ha, mu_K hp hc, Nat.zero_add]
theorem sq_sq {a : ZX} (ha : a ≠ 0) : sq (a * a) = sq a := by
 obtain ⟨h1, h2⟩ := sq_two ha
 refine sq_eq (ZX.mul_ne ha ha) h1 fun p hp => ?_
 rw [h2 p hp, mu_mul hp ha ha]
 omega
theorem mir_sign {f : ZX} (hf : f ≠ 0) : ∃ κ : Int, (κ = 1 ∨ κ = -1) ∧ ∀ x, sg3 (e (-x) (nf (mir f))) = κ * sg3 (e x f) := by
 have hm := mir_ne hf
 have hc := pcn_ne' hm
 refine ⟨(pcn (mir f).l).sign, ?_, fun x => ?_⟩
 ·rcases Int.lt_trichotomy (pcn (mir f).l) 0 with h | h | h
  ·exact .inr (Int.sign_eq_neg_one_of_neg h)
  ·exact absurd h hc
  ·exact .inl (Int.sign_eq_one_of_pos h)
 ·have h1 : (pcn (mir f).l : Rat) * e (-x) (nf (mir f)) = e x f := by
   rw [← e_K (t := -x), ← e_mul, nf_K hm, e_mir]
   congr 1; grind
  rw [← h1, sg3_mul, ← Int.mul_assoc, ← sign_cast]
  rcases Int.lt_trichotomy (pcn (mir f).l) 0 with h | h | h
  ·rw [Int.sign_eq_neg_one_of_neg h]; omega
  ·exact absurd h hc
  ·rw [Int.sign_eq_one_of_pos h]; omega
theorem far_ne {f : ZX} (hf : f ≠ 0) : ∃ X : Rat, 1 ≤ X ∧ ∀ t, X ≤ t → e t f ≠ 0 := by
 obtain ⟨S, hS, h⟩ := cast_bd f.l
 refine ⟨S + 1, by grind, fun t ht h0 => ?_⟩
 have h1 := (far_signs hS f.c h).1 ht
 have h2 : sg3 (qv t f.l) = 0 := sg3_eq_zero.2 h0
 rw [h2] at h1
 have hl := lead_ne f.c (ZX.ne_zero.1 hf)
 rcases Int.lt_trichotomy (lead f.l) 0 with h3 | h3 | h3
 ·rw [Int.sign_eq_neg_one_of_neg h3] at h1; omega
 ·exact hl h3
 ·rw [Int.sign_eq_one_of_pos h3] at h1; omega
theorem mirror_counts {L M : List ZX} {f g : ZX} (hL : Glob L f) (hM : Glob M g) (hf : f ≠ 0) {κ : Int} (hκ : κ = 1 ∨ κ = -1) (hs : ∀ x, sg3 (e (-x) g) = κ * sg3 (e x f)) :
  (vr (sgL L) : Int) - vr (sgR L) = vr (sgL M) - vr (sgR M) ∧ ∀ u, (vt L u : Int) - vr (sgR L) + (if e u f = 0 then 1 else 0) = vr (sgL M) - vt M (-u) := by
 obtain ⟨X, hX, x1, x2⟩ := far_vt L
 obtain ⟨Y, hY, y1, y2⟩ := far_vt M
 obtain ⟨Z, hZ, z1⟩ := far_ne hf
 have key : ∀ u b, u < b → X ≤ b → Y ≤ b → Z ≤ b → (vt L u : Int) - vr (sgR L) + (if e u f = 0 then 1 else 0) = vr (sgL M) - vt M (-u) := fun u b hub h1 h2 h3 => by
  have h := Glob.mirror hL hM hκ hs hub
  rw [if_neg (z1 b h3), x1 b h1, y2 (-b) (by grind)] at h
  split at h <;> simp only [*, if_true, if_false] <;> omega
 have any : ∀ u : Rat, ∃ b, u < b ∧ X ≤ b ∧ Y ≤ b ∧ Z ≤ b := fun u => by
  by_cases h : 0 ≤ u
  ·exact ⟨u + X + Y + Z, by grind, by grind, by grind, by grind⟩
  ·exact ⟨X + Y + Z, by grind, by grind, by grind, by grind⟩
 have all : ∀ u, (vt L u : Int) - vr (sgR L) + (if e u f = 0 then 1 else 0) = vr (sgL M) - vt M (-u) := fun u => by
  obtain ⟨b, h1, h2, h3, h4⟩ := any u
  exact key u b h1 h2 h3 h4
 refine ⟨?_, all⟩
 have hb : ∃ b : Rat, X ≤ b ∧ Y ≤ b := ⟨X + Y, by grind, by grind⟩
 obtain ⟨W, hW, w1⟩ := far_ne (mir_ne hf)
 obtain ⟨b, h1, h2⟩ := hb
 have h := all (-(X + Y + W))
 rw [x2 _ (by grind), Rat.neg_neg, y1 _ (by grind)] at h
 have h0 : e (-(X + Y + W)) f ≠ 0 := by
  have := w1 (X + Y + W) (by grind)
  rwa [e_mir] at this
 rw [if_neg h0] at h
 omega
end Go.Proofs.YtdiladmkbpnhoaaGreat
