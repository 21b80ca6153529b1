import Derived.Test.YtdiladmkbpnhoaaGreatLgt
set_option linter.unusedSimpArgs false
set_option linter.unusedVariables false
namespace Go.Proofs.YtdiladmkbpnhoaaGreat
open Go Pm
open ZX hiding N W
def kr (l : List Int) (i : Nat) : Rat := qmk (nth l i % 13 - 6) (1 + nth l (i + 1) % 3)
def km (l : List Int) (i : Nat) : Nat := (nth l (i + 2) % 2).toNat + 1
def kp (l : List Int) : Nat → ZX
 | 0 => 1
 | j + 1 => kp l j * linq (kr l (3 * j)) ^ km l (3 * j)
def kl (l : List Int) : Nat → List Rat
 | 0 => []
 | j + 1 => if kr l (3 * j) ∈ kl l j then kl l j else kl l j ++ [kr l (3 * j)]
theorem kr_bd (l : List Int) (i : Nat) : (kr l i).num.natAbs ≤ 6 ∧ ((kr l i).den : Int).natAbs ≤ 3 := by
 have h1 := Int.emod_nonneg (nth l i) (show (13 : Int) ≠ 0 by decide)
 have h2 := Int.emod_lt_of_pos (nth l i) (show (0 : Int) < 13 by decide)
 have h3 := Int.emod_nonneg (nth l (i + 1)) (show (3 : Int) ≠ 0 by decide)
 have h4 := Int.emod_lt_of_pos (nth l (i + 1)) (show (0 : Int) < 3 by decide)
 unfold kr
 rw [qmk_num _ _ (by omega), qmk_den _ _ (by omega)]
 rw [if_neg (by omega), if_neg (by omega)]
 refine ⟨Nat.le_trans (Int.natAbs_ediv_le_natAbs _ _) (by omega), Nat.le_trans (Int.natAbs_ediv_le_natAbs _ _) (by omega)⟩
theorem rat_range {q : Rat} {n : Nat} (h : q.num.natAbs ≤ n) : Ab q (n : Rat) := by
 have hd : (1 : Rat) ≤ ((q.den : Int) : Rat) := one_le_cast (by have := q.den_pos; omega)
 have hq : ((q.num : Int) : Rat) = q * ((q.den : Int) : Rat) := by
  have h1 : q = (q.num : Rat) / ((q.den : Int) : Rat) := by
   rw [← Rat.divInt_eq_div, Rat.num_divInt_den]
  have h2 := Rat.div_mul_cancel (a := (q.num : Rat)) (b := ((q.den : Int) : Rat)) (by grind)
  rw [← h1] at h2
  exact h2.symm
 have h3 : ((q.num : Int) : Rat) ≤ (((n : Int) : Int) : Rat) := Rat.intCast_le_intCast.2 (by omega)
 have h4 : (((-(n : Int)) : Int) : Rat) ≤ ((q.num : Int) : Rat) := Rat.intCast_le_intCast.2 (by omega)
 rw [Rat.intCast_neg] at h4
 have h5 : (((n : Int) : Int) : Rat) = (n : Rat) := Rat.intCast_natCast n
 rw [h5] at h3 h4
 have h6 : (0 : Rat) ≤ (n : Rat) := Rat.natCast_nonneg
 generalize ((q.num : Int) : Rat) = u at *
 generalize ((q.den : Int) : Rat) = v at *
 generalize (n : Rat) = m at *
 have h7 := Rat.mul_le_mul_of_nonneg_left hd h6
 constructor
 ·refine Rat.not_lt.1 fun h => ?_
  have := Rat.mul_le_mul_of_nonneg_left hd (show 0 ≤ -m - q by grind)
  grind
 ·refine Rat.not_lt.1 fun h => ?_
  have := Rat.mul_le_mul_of_nonneg_left hd (show 0 ≤ q - m by grind)
  grind
theorem linq_l (t : Rat) : (linq t).l = [-t.num, (t.den : Int)] := cutR_ne (x := (t.den : Int)) (by have := t.den_nz; omega) [-t.num]
theorem linq_ne (t : Rat) : linq t ≠ 0 := (linq_Irr t).ne
theorem kp_facts (l : List Int) : ∀ j, kp l j ≠ 0 ∧ ZX.N (kp l j) ≤ 2 * j + 1 ∧ n1 (kp l j) ≤ 81 ^ j
 | 0 => ⟨ZX.one_ne, by show ZX.N (1 : ZX) ≤ _; rw [ZX.N_one]; omega, n1_K 1⟩
 | j + 1 => by
  obtain ⟨h1, h2, h3⟩ := kp_facts l j
  obtain ⟨b1, b2⟩ := kr_bd l (3 * j)
  have hl : n1 (linq (kr l (3 * j))) ≤ 9 := by
   unfold n1
   rw [linq_l, l1_cons, l1_cons, l1_nil, Int.natAbs_neg]; omega
  have hm : km l (3 * j) ≤ 2 := by
   have := Int.emod_lt_of_pos (nth l (3 * j + 2)) (show (0 : Int) < 2 by decide)
   unfold km; omega
  have hm1 : 1 ≤ km l (3 * j) := by unfold km; omega
  have hp := pow_ne (linq_ne (kr l (3 * j))) (km l (3 * j))
  have hN : ∀ k : Nat, ZX.N (linq (kr l (3 * j)) ^ k) = k + 1 := fun k => by
   induction k with
   | zero => exact ZX.N_one
   | succ k ih => rw [pow_succ', ZX.N_mul (pow_ne (linq_ne _) k) (linq_ne _), ih, linq_N]; omega
  refine ⟨ZX.mul_ne h1 hp, ?_, ?_⟩
  ·rw [kp, ZX.N_mul h1 hp, hN]; omega
  ·have h4 := n1_pow hl (km l (3 * j))
   have h5 : 9 ^ km l (3 * j) ≤ 9 ^ 2 := Nat.pow_le_pow_right (by decide) hm
   rw [kp, Nat.pow_succ]
   exact Nat.le_trans (n1_mul _ _) (Nat.mul_le_mul h3 (Nat.le_trans h4 h5))
theorem kl_nodup (l : List Int) : ∀ j, (kl l j).Nodup
 | 0 => List.nodup_nil
 | j + 1 => by
  have ih := kl_nodup l j
  rw [kl]
  split
  ·exact ih
  ·rename_i h
   rw [List.nodup_append]
   exact ⟨ih, by simp, fun a ha b hb => by simp at hb; subst hb; intro he; exact h (he ▸ ha)⟩
theorem kl_mem (l : List Int) : ∀ j (r : Rat), r ∈ kl l j ↔ ∃ i, i < j ∧ r = kr l (3 * i)
 | 0, r => by simp [kl]
 | j + 1, r => by
  have ih := kl_mem l j r
  have e : r ∈ kl l (j + 1) ↔ r ∈ kl l j ∨ r = kr l (3 * j) := by
   rw [kl]
   split
   ·rename_i h
    constructor
    ·exact .inl
    ·rintro (h1 | rfl)
     ·exact h1
     ·exact h
   ·simp
  rw [e, ih]
  constructor
  ·rintro (⟨i, hi, rfl⟩ | rfl)
   ·exact ⟨i, by omega, rfl⟩
   ·exact ⟨j, by omega, rfl⟩
  ·rintro ⟨i, hi, rfl⟩
   by_cases h : i = j
   ·subst h; exact .inr rfl
   ·exact .inl ⟨i, by omega, rfl⟩
theorem kl_len (l : List Int) : ∀ j, (kl l j).length ≤ j
 | 0 => Nat.le_refl _
 | j + 1 => by
  have := kl_len l j
  rw [kl]; split
  ·omega
  ·simp; omega
theorem kp_root (l : List Int) : ∀ j (r : Rat), r ∈ kl l j → e r (kp l j) = 0 := fun j r hr => by
 obtain ⟨i, hi, hr⟩ := (kl_mem l j r).1 hr
 subst hr
 refine root_dv.2 ?_
 induction j with
 | zero => omega
 | succ j ih =>
  rw [kp]
  by_cases h : i = j
  ·subst h
   have e1 : linq (kr l (3 * i)) ^ km l (3 * i) = linq (kr l (3 * i)) ^ (km l (3 * i) - 1) * linq (kr l (3 * i)) := by
    rw [← pow_succ']; congr 1
   rw [e1]
   exact ((dv.refl _).mul_left _).mul_left _
  ·exact (ih (by omega) ((kl_mem l j _).2 ⟨i, by omega, rfl⟩)).mul_right _
theorem Bg.linq {a b r : Rat} (hab : a ≤ b) (h : r < a ∨ b < r) : Bg a b (Go.Proofs.YtdiladmkbpnhoaaGreat.linq r) := by
 have e1 := fun s => e_linq s r
 unfold Go.Proofs.YtdiladmkbpnhoaaGreat.linq at e1 ⊢
 have hd : (0 : Rat) < ((r.den : Int) : Rat) := Rat.intCast_pos.2 (by have := r.den_pos; omega)
 simp only [e_lin] at e1
 refine Bg.lin ?_
 rw [e1 a, e1 b]
 rcases h with h | h
 ·exact .inl ⟨Rat.mul_pos hd (by grind), Rat.mul_pos hd (by grind)⟩
 ·right
  have := Rat.mul_pos hd (show 0 < r - a by grind)
  have := Rat.mul_pos hd (show 0 < r - b by grind)
  exact ⟨by grind, by grind⟩
theorem Bg.kp {l : List Int} {a b : Rat} (hab : a ≤ b) : ∀ j, (∀ r ∈ kl l j, r < a ∨ b < r) → Bg a b (Go.Proofs.YtdiladmkbpnhoaaGreat.kp l j)
 | 0, _ => Bg.K (c := 1) (by decide)
 | j + 1, h => by
  refine (Bg.kp hab j fun r hr => h r ?_).mul (Bg.pow (Bg.linq hab (h _ ?_)) _)
  ·obtain ⟨i, hi, e⟩ := (kl_mem l j r).1 hr
   exact (kl_mem l (j + 1) r).2 ⟨i, by omega, e⟩
  ·exact (kl_mem l (j + 1) _).2 ⟨j, by omega, rfl⟩
def kq (l : List Int) (j : Nat) (b : Bool) : ZX := if b = true then kp l j * of [1, 0, 1] else kp l j
theorem sq1_facts : (of [1, 0, 1] : ZX) ≠ 0 ∧ ZX.N (of [1, 0, 1] : ZX) = 3 ∧ n1 (of [1, 0, 1] : ZX) = 2 ∧ ∀ t, 1 ≤ e t (of [1, 0, 1]) := by
 refine ⟨ZX.ne_zero.2 (by decide), by decide, by decide, fun t => ?_⟩
 rw [e_of]
 have h : 0 ≤ t * t := by
  by_cases h : 0 ≤ t
  ·exact Rat.mul_nonneg h h
  ·have := Rat.mul_nonneg (show 0 ≤ -t by grind) (show 0 ≤ -t by grind)
   grind
 simp only [qv]
 rw [show ((1 : Int) : Rat) = 1 from rfl, show ((0 : Int) : Rat) = 0 from rfl]
 grind
theorem kq_facts (l : List Int) {j : Nat} (hj : j ≤ 4) (b : Bool) : kq l j b ≠ 0 ∧ Lay 27 11 (kq l j b) := by
 obtain ⟨h1, h2, h3⟩ := kp_facts l j
 obtain ⟨s1, s2, s3, _⟩ := sq1_facts
 have h4 : 81 ^ j ≤ 81 ^ 4 := Nat.pow_le_pow_right (by decide) hj
 have e4 : 81 ^ 4 = 43046721 := by decide
 have e5 : 2 ^ 27 = 134217728 := by decide
 unfold kq
 cases b
 ·rw [if_neg (by decide)]
  exact ⟨h1, BZ.of_n1 (by omega) (by omega), by decide, by decide, by decide⟩
 ·rw [if_pos rfl]
  refine ⟨ZX.mul_ne h1 s1, BZ.of_n1 ?_ ?_, by decide, by decide, by decide⟩
  ·have := n1_mul (kp l j) (of [1, 0, 1])
   have h5 := Nat.mul_le_mul h3 (Nat.le_of_eq s3)
   omega
  ·rw [ZX.N_mul h1 s1, s2]; omega
theorem Bg.kq {l : List Int} {a b : Rat} (hab : a ≤ b) {j : Nat} {c : Bool} (h : ∀ r ∈ kl l j, r < a ∨ b < r) : Bg a b (Go.Proofs.YtdiladmkbpnhoaaGreat.kq l j c) := by
 unfold Go.Proofs.YtdiladmkbpnhoaaGreat.kq
 split
 ·exact (Bg.kp hab j h).mul ⟨1, by decide, fun x _ _ => .inr (sq1_facts.2.2.2 x)⟩
 ·exact Bg.kp hab j h
theorem kq_root (l : List Int) (j : Nat) (c : Bool) {r : Rat} (h : r ∈ kl l j) : e r (kq l j c) = 0 := by
 have := kp_root l j r h
 unfold kq
 split
 ·rw [e_mul, this, Rat.zero_mul]
 ·exact this
theorem kq_count (l : List Int) {j : Nat} (hj : j ≤ 4) (c : Bool) {a b : Rat} (hab : a < b) : vt (chn (sq (kq l j c))) a = vt (chn (sq (kq l j c))) b + ((kl l j).countP fun r => decide (a < r ∧ r ≤ b)) := by
 obtain ⟨h0, hL⟩ := kq_facts l hj c
 have hG := hL.glob h0 (by decide)
 refine hG.count (kl_nodup l j) (fun r hr => (root_sq h0).2 (kq_root l j c hr)) (fun a b hab hr => ?_) hab
 have key : ∀ a, a < b → (∀ r ∈ kl l j, r < a ∨ b < r) → vt (chn (sq (kq l j c))) a = vt (chn (sq (kq l j c))) b := fun a hab h => hG.bg ((Bg.kq (Rat.le_of_lt hab) h).dv (sq_dv_a h0)) hab
 by_cases h1 : e a (sq (kq l j c)) = 0
 ·obtain ⟨a', q1, q2, q3⟩ := hG.from_root hab h1
  rw [q3]
  rcases Rat.le_iff_lt_or_eq.1 q2 with h2 | rfl
  ·exact key a' h2 fun r hrr => by
    by_cases h3 : a < r
    ·exact .inr (hr r hrr h3)
    ·left; grind
  ·rfl
 ·refine key a hab fun r hrr => ?_
  by_cases h3 : a < r
  ·exact .inr (hr r hrr h3)
  ·left
   refine Rat.lt_of_le_of_ne (Rat.not_lt.1 h3) fun h4 => h1 ?_
   rw [← h4]
   exact (root_sq h0).2 (kq_root l j c hrr)
theorem kl_range (l : List Int) (j : Nat) : ∀ r ∈ kl l j, -6 ≤ r ∧ r ≤ 6 := fun r hr => by
 obtain ⟨i, _, rfl⟩ := (kl_mem l j r).1 hr
 exact rat_range (kr_bd l (3 * i)).1
theorem kq_all (l : List Int) {j : Nat} (hj : j ≤ 4) (c : Bool) : (vr (sgL (chn (sq (kq l j c)))) : Int) - vr (sgR (chn (sq (kq l j c)))) = (kl l j).length ∧
  ∀ t : Rat, (vt (chn (sq (kq l j c))) t : Int) - vr (sgR (chn (sq (kq l j c)))) = ((kl l j).countP fun r => decide (t < r)) ∧ (t < 100 → (vt (chn (sq (kq l j c))) t : Int) - vt (chn (sq (kq l j c))) 100 = ((kl l j).countP fun r => decide (t < r))) := by
 obtain ⟨X, hX, x1, x2⟩ := far_vt (chn (sq (kq l j c)))
 have key : ∀ t b : Rat, t < b → 6 ≤ b → (vt (chn (sq (kq l j c))) t : Int) - vt (chn (sq (kq l j c))) b = ((kl l j).countP fun r => decide (t < r)) := fun t b htb hb => by
  have h := kq_count l hj c htb
  have h2 : ((kl l j).countP fun r => decide (t < r ∧ r ≤ b)) = (kl l j).countP fun r => decide (t < r) := by
   refine List.countP_congr fun r hr => ?_
   have := kl_range l j r hr
   simp only [decide_eq_true_eq]
   exact ⟨fun q => q.1, fun q => ⟨q, by grind⟩⟩
  rw [h2] at h
  omega
 have hR : ∀ b : Rat, X ≤ b → vt (chn (sq (kq l j c))) b = vr (sgR (chn (sq (kq l j c)))) := x1
 refine ⟨?_, fun t => ⟨?_, fun h => key t 100 h (by decide)⟩⟩
 ·have h := key (-(X + 7)) (X + 7) (by grind) (by grind)
  rw [x1 (X + 7) (by grind), x2 (-(X + 7)) (by grind)] at h
  rw [h]
  congr 1
  rw [List.countP_eq_length]
  intro r hr
  have := kl_range l j r hr
  simp only [decide_eq_true_eq]
  grind
 ·by_cases ht : t < X + 7
  ·have h := key t (X + 7) ht (by grind)
   rw [x1 (X + 7) (by grind)] at h
   exact h
  ·rw [x1 t (by grind)]
   have : ((kl l j).countP fun r => decide (t < r)) = 0 := by
    rw [List.countP_eq_zero]
    intro r hr
    have := kl_range l j r hr
    simp only [decide_eq_true_eq]
    grind
   rw [this]; omega
end Go.Proofs.YtdiladmkbpnhoaaGreat
