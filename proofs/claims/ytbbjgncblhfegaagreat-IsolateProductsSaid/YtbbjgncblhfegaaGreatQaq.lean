import Derived.Test.YtbbjgncblhfegaaGreatQan
import Derived.Test.YtbbjgncblhfegaaGreatQap
set_option linter.unusedSimpArgs false
set_option linter.unusedVariables false
namespace Pm
theorem nT (a b : Nat) : (2 : Rat) ^ (a + b) = 2 ^ a * 2 ^ b := by
 induction b with
 | zero => rw [Nat.add_zero, Rat.pow_zero, Rat.mul_one]
 | succ b ih => rw [← Nat.add_assoc, Rat.pow_succ, Rat.pow_succ, ih]; grind
theorem gK (a : Nat) : (0 : Rat) < 2 ^ a := Rat.pow_pos (by decide)
theorem vA : ∀ a : Nat, (1 : Rat) ≤ 2 ^ a
 | 0 => by simp
 | a + 1 => by
  have := vA a
  rw [Rat.pow_succ]; grind
theorem QV {a b : Nat} (h : a ≤ b) : (2 : Rat) ^ a ≤ 2 ^ b := by
 obtain ⟨c, rfl⟩ : ∃ c, b = a + c := ⟨b - a, by omega⟩
 rw [nT]
 have h1 := vA c
 have h2 := gK a
 have h3 := Rat.mul_le_mul_of_nonneg_left h1 (Rat.le_of_lt h2)
 grind
theorem FV : ∀ a : Nat, (((2 ^ a : Nat) : Int) : Rat) = 2 ^ a
 | 0 => by simp
 | a + 1 => by
  rw [Nat.pow_succ, Rat.pow_succ, ← FV a, Int.natCast_mul, Rat.intCast_mul]; rfl
theorem J1 {c : Int} {s : Nat} (h : c.natAbs ≤ 2 ^ s) : Ab (c : Rat) (2 ^ s) := by
 have h1 := FV s
 have h2 : c ≤ ((2 ^ s : Nat) : Int) := by omega
 have h3 : -((2 ^ s : Nat) : Int) ≤ c := by omega
 have h4 := Rat.intCast_le_intCast.2 h2
 have h5 := Rat.intCast_le_intCast.2 h3
 rw [Rat.intCast_neg] at h5
 rw [h1] at h4 h5
 exact ⟨h5, h4⟩
theorem NU (s β : Nat) : ∀ k, BM (2 ^ s) (2 ^ β) k = 2 ^ (s + k * (β + 2))
 | 0 => by simp [BM]
 | k + 1 => by
  rw [BM, NU s β k, show s + (k + 1) * (β + 2) = s + k * (β + 2) + β + 1 + 1 by rw [Nat.add_mul]; omega, Rat.pow_succ, Rat.pow_succ, nT _ β]
  grind
namespace ZX
theorem aoZ {a : ZX} {s n β : Nat} (h : ∀ c ∈ a.l, c.natAbs ≤ 2 ^ s) (hN : N a ≤ n) {t : Rat} (ht : Ab t (2 ^ β)) : Ab (e t a) (2 ^ (s + n * (β + 2))) := by
 have h1 := QG (S := 2 ^ s) (B := 2 ^ β) (t := t) (Rat.le_of_lt (gK s)) (vA β) ht a.l fun c hc => J1 (h c hc)
 rw [NU] at h1
 refine h1.mono (QV ?_)
 have : a.l.length * (β + 2) ≤ n * (β + 2) := Nat.mul_le_mul_right _ hN
 omega
theorem aay {a : ZX} {s n β : Nat} (h : ∀ c ∈ a.l, c.natAbs ≤ 2 ^ s) (hN : N a ≤ n) {r t : Rat} (hr : Ab r (2 ^ β)) (ht : Ab t (2 ^ β)) : Ab (dd r t a.l) (2 ^ (s + n * (β + 2))) ∧ Ab (cc r t a.l) (2 ^ (s + n * (β + 2))) := by
 have h1 := DA (S := 2 ^ s) (B := 2 ^ β) (s := r) (t := t) (Rat.le_of_lt (gK s)) (vA β) hr ht a.l fun c hc => J1 (h c hc)
 have h2 := aab (S := 2 ^ s) (B := 2 ^ β) (s := r) (t := t) (Rat.le_of_lt (gK s)) (vA β) hr ht a.l fun c hc => J1 (h c hc)
 rw [NU] at h1 h2
 have h3 : a.l.length * (β + 2) ≤ n * (β + 2) := Nat.mul_le_mul_right _ hN
 exact ⟨h1.mono (QV (by omega)), h2.mono (QV (by omega))⟩
def sk (s n l β : Nat) : Nat := n * (s + 1 + l) + n * (β + 2) + 1
theorem sep {a b : ZX} {s n l β : Nat} (ha : a ≠ 0) (hb : b ≠ 0) (hA : ∀ c ∈ a.l, c.natAbs ≤ 2 ^ s) (hB : ∀ c ∈ b.l, c.natAbs ≤ 2 ^ s) (hn : N a + N b ≤ n) (hl : n ≤ 2 ^ l) (hc : ∀ d, dv d a → dv d b → N d ≤ 1)
  {t ε : Rat} (ht : Ab t (2 ^ β)) (hε : ε * 2 ^ sk s n l β ≤ 1) : kC ε (e t a) ∨ kC ε (e t b) := by
 have hX : (2 * (N a + N b) * 2 ^ s) ^ (N a + N b) ≤ 2 ^ (n * (s + 1 + l)) := by
  have h1 : 2 * (N a + N b) * 2 ^ s ≤ 2 ^ (s + 1 + l) := by
   rw [Nat.pow_add, Nat.pow_add, Nat.mul_comm _ (2 ^ s), Nat.mul_assoc]
   exact Nat.mul_le_mul_left _ (Nat.mul_le_mul_left _ (by omega))
  refine Nat.le_trans (Nat.pow_le_pow_left h1 _) ?_
  rw [← Nat.pow_mul, Nat.mul_comm]
  exact Nat.pow_le_pow_right (by decide) (Nat.mul_le_mul_right _ hn)
 obtain ⟨u, v, c, s8, he, hNu, hNv, hu, hv⟩ := ajk ha hb hA hB hc hX
 have h1 := aoZ (β := β) hu (show N u ≤ n by omega) ht
 have h2 := aoZ (β := β) hv (show N v ≤ n by omega) ht
 have h3 : e t u * e t a + e t v * e t b = (c : Rat) := by rw [← wR, ← wR, ← aoK, he, e_K]
 have h4 := FG s8
 rw [sk, nT] at hε
 generalize (2 : Rat) ^ (n * (s + 1 + l) + n * (β + 2)) = M at *
 refine Classical.byContradiction fun UC => ?_
 have F8 : Ab (e t a) ε := mK fun h => UC (.inl h)
 have wV : Ab (e t b) ε := mK fun h => UC (.inr h)
 have ha2 := xO fun h => UC (.inl h)
 have h5 := (h1.mul F8).add (h2.mul wV)
 rw [h3] at h5
 have e1 : (2 : Rat) ^ 1 = 2 := by rw [Rat.pow_succ, Rat.pow_zero]; grind
 rw [e1] at hε
 have hM : 0 ≤ M := h1.pos
 rcases Rat.le_iff_lt_or_eq.1 hM with hM' | hM'
 ·-- strict: shrink ε a atV
  have xE := xO fun h => UC (.inr h)
  have key : ∃ η : Rat, η < ε ∧ Ab (e t a) η ∧ Ab (e t b) η := by
   generalize e t a = x at *
   generalize e t b = y at *
   have : ∃ m : Rat, m < ε ∧ x ≤ m ∧ -x ≤ m ∧ y ≤ m ∧ -y ≤ m := by
    have ajl : ∀ p q : Rat, p < ε → q < ε → ∃ m, m < ε ∧ p ≤ m ∧ q ≤ m := fun p q hp hq => by
     by_cases h : p ≤ q
     ·exact ⟨q, hq, h, Rat.le_refl⟩
     ·exact ⟨p, hp, Rat.le_refl, by grind⟩
    obtain ⟨m1, g1, g2, g3⟩ := ajl x (-x) (by grind) (by grind)
    obtain ⟨m2, g4, g5, g6⟩ := ajl y (-y) (by grind) (by grind)
    obtain ⟨m, g7, g8, g9⟩ := ajl m1 m2 g1 g4
    exact ⟨m, g7, by grind, by grind, by grind, by grind⟩
   obtain ⟨m, g1, g2, g3, g4, g5⟩ := this
   exact ⟨m, g1, ⟨by grind, g2⟩, ⟨by grind, g4⟩⟩
  obtain ⟨η, g1, g2, g3⟩ := key
  have h6 := (h1.mul g2).add (h2.mul g3)
  rw [h3] at h6
  have h7 : M * η < M * ε := by
   have := Rat.mul_lt_mul_of_pos_left g1 hM'
   exact this
  obtain ⟨p1, p2⟩ := h6
  rcases h4 with h4 | h4 <;> grind
 ·rw [← hM'] at h5
  obtain ⟨p1, p2⟩ := h5
  rcases h4 with h4 | h4 <;> grind
theorem ajm {f : ZX} {s n l : Nat} (h : ∀ c ∈ f.l, c.natAbs ≤ 2 ^ s) (hN : N f ≤ n) (hl : n ≤ 2 ^ l) : ∀ c ∈ (bO f).l, c.natAbs ≤ 2 ^ (s + l) := fun c hc => by
 have h1 := o6 _ _ hc
 simp only [u0, List.mem_map, List.mem_range] at h1
 obtain ⟨i, hi, rfl⟩ := h1
 rw [Int.natAbs_mul, Nat.pow_add]
 have h2 := NT h (i + 1)
 have h3 : N f = f.l.length := rfl
 exact Nat.mul_le_mul h2 (by rw [Int.natAbs_natCast]; omega)
theorem ad4 {x y z : Rat} (h : (x < y ∧ y < z) ∨ (y < x ∧ z < y)) : (if x ≠ 0 ∧ b6 z ≠ b6 x then 1 else 0 : Nat) = (if x ≠ 0 ∧ b6 y ≠ b6 x then 1 else 0) + (if y ≠ 0 ∧ b6 z ≠ b6 y then 1 else 0) := by
 rcases cJ x with ⟨h1, h2⟩ | ⟨h1, h2⟩ | ⟨h1, h2⟩ <;> rcases cJ y with ⟨h3, h4⟩ | ⟨h3, h4⟩ | ⟨h3, h4⟩ <;> rcases cJ z with ⟨h5, h6⟩ | ⟨h5, h6⟩ | ⟨h5, h6⟩ <;>
  rw [h2, h4, h6] <;> first
   | (exfalso; rcases h with ⟨h7, h8⟩ | ⟨h7, h8⟩ <;> grind)
   | (have n1 : (x ≠ 0) = True := eq_true (by grind)
      have n2 : (y ≠ 0) = True := eq_true (by grind)
      simp only [n1, n2]; decide)
   | (have n1 : (x ≠ 0) = False := eq_false (by grind)
      have n2 : (y ≠ 0) = True := eq_true (by grind)
      simp only [n1, n2]; decide)
   | (have n1 : (x ≠ 0) = True := eq_true (by grind)
      have n2 : (y ≠ 0) = False := eq_false (by grind)
      simp only [n1, n2]; decide)
def NV (f : ZX) (t : Rat) : Int := if e t f = 0 then b6 (e t (bO f)) else b6 (e t f)
theorem aaz {x y : Rat} {σ : Int} (h : (σ = 1 ∧ x < y) ∨ (σ = -1 ∧ y < x)) : (if y = 0 then σ else b6 y) = (if (if x ≠ 0 ∧ b6 y ≠ b6 x then 1 else 0 : Nat) = 0 then 1 else -1) * (if x = 0 then σ else b6 x) := by
 rcases cJ x with ⟨h1, h2⟩ | ⟨h1, h2⟩ | ⟨h1, h2⟩ <;> rcases cJ y with ⟨h3, h4⟩ | ⟨h3, h4⟩ | ⟨h3, h4⟩ <;> rw [h2, h4] <;> first
   | (exfalso; rcases h with ⟨h7, h8⟩ | ⟨h7, h8⟩ <;> grind)
   | (have n1 : (x = 0) = False := eq_false (by grind)
      have n2 : (y = 0) = False := eq_false (by grind)
      simp only [n1, n2, ne_eq, not_false_eq_true, true_and, if_false]; decide)
   | (have n1 : (x = 0) = True := eq_true (by grind)
      have n2 : (y = 0) = False := eq_false (by grind)
      have : σ = 1 ∨ σ = -1 := by omega
      rcases this with rfl | rfl <;> first
        | (simp only [n1, n2, ne_eq, not_true_eq_false, false_and, if_false, if_true]; decide)
        | (exfalso; rcases h with ⟨h7, h8⟩ | ⟨h7, h8⟩ <;> grind))
   | (have n1 : (x = 0) = False := eq_false (by grind)
      have n2 : (y = 0) = True := eq_true (by grind)
      have : σ = 1 ∨ σ = -1 := by omega
      rcases this with rfl | rfl <;> first
        | (simp only [n1, n2, ne_eq, not_false_eq_true, true_and, if_false, if_true]; decide)
        | (exfalso; rcases h with ⟨h7, h8⟩ | ⟨h7, h8⟩ <;> grind))
structure atW (f : ZX) (B δ : Rat) : Prop where
 par : ∀ s t, Ab s B → Ab t B → s < t → t - s ≤ δ → NV f t = (if ind f s t = 0 then 1 else -1) * NV f s
def lk (s n l β : Nat) : Nat := sk (s + l) (n + n) (l + 1) β + (s + l + n * (β + 2)) + 2
theorem vB {L : List ZX} {f : ZX} (G : xC L f) {s n l β : Nat} (hf : f ≠ 0) (hA : ∀ c ∈ f.l, c.natAbs ≤ 2 ^ s) (hn : N f ≤ n) (hl : n ≤ 2 ^ l) (hc : ∀ d, dv d f → dv d (bO f) → N d ≤ 1) {δ : Rat} (hδ : δ * 2 ^ lk s n l β ≤ 1) : Lcl L f (2 ^ β) δ ∧ atW f (2 ^ β) δ := by
 have hA' : ∀ c ∈ f.l, c.natAbs ≤ 2 ^ (s + l) := fun c hc => Nat.le_trans (hA c hc) (Nat.pow_le_pow_right (by decide) (by omega))
 have hD := ajm hA hn hl
 have hND := mW f
 have main : ∀ lo hi, Ab lo (2 ^ β) → Ab hi (2 ^ β) → lo < hi → hi - lo ≤ δ → vt L lo = vt L hi + ind f lo hi ∧ (e lo f = 0 → e hi f ≠ 0) ∧ NV f hi = (if ind f lo hi = 0 then 1 else -1) * NV f lo := fun lo hi alo ahi hlh hw => by
  have hδ0 : 0 < δ := by grind
  rw [lk, nT, nT] at hδ
  have hQ := gK (s + l + n * (β + 2))
  have hK := gK (sk (s + l) (n + n) (l + 1) β)
  generalize hQe : (2 : Rat) ^ (s + l + n * (β + 2)) = Q at *
  generalize hKe : (2 : Rat) ^ sk (s + l) (n + n) (l + 1) β = κ at *
  have h22 : (2 : Rat) ^ 2 = 4 := by rw [Rat.pow_succ, Rat.pow_succ, Rat.pow_zero]; grind
  rw [h22] at hδ
  have hε : (1 / κ) * κ = 1 := Rat.div_mul_cancel (Rat.ne_of_gt hK)
  have hε0 : 0 < 1 / κ := (Rat.lt_div_iff hK).2 (by grind)
  generalize 1 / κ = ε at *
  have hδQ : 4 * (δ * Q) ≤ ε := by
   have h1 : δ * (κ * Q * 4) = (4 * (δ * Q)) * κ := by grind
   rw [h1, ← hε] at hδ
   exact Rat.le_of_mul_le_mul_right hδ hK
  have hin : ∀ x, lo ≤ x → x ≤ hi → Ab x (2 ^ β) := fun x h1 h2 => dK alo ahi h1 h2
  by_cases hd0 : bO f = 0
  ·-- a constant
   have hN1 : N f = 1 := by
    have h0 := ZX.aG.1 hf
    rcases Nat.lt_or_ge (N f) 2 with h1 | h1
    ·omega
    ·exact absurd hd0 (E5 h1)
   obtain ⟨c, s8, rfl⟩ := mV hN1
   have hcv : ∀ x, b6 (e x (K c)) = b6 (c : Rat) := fun x => by rw [e_K]
   have h1 := G.const hlh (σ := b6 (c : Rat)) (.inr (hcv lo)) (fun x _ _ => hcv x)
   have h2 : ind (K c) lo hi = 0 := if_neg fun h => h.2 (by rw [hcv, hcv])
   have ao0 : (c : Rat) ≠ 0 := fun h => s8 (by exact_mod_cast h)
   have hz : ∀ x, e x (K c) ≠ 0 := fun x => by rw [e_K]; exact ao0
   exact ⟨by rw [h1, h2]; omega, fun h => by rw [e_K] at h; exact absurd h ao0, by rw [h2, if_pos rfl, Int.one_mul, NV, NV, if_neg (hz _), if_neg (hz _), hcv, hcv]⟩
  have hb := sep hf hd0 hA' hD (show N f + N (bO f) ≤ n + n by omega) (show n + n ≤ 2 ^ (l + 1) by rw [Nat.pow_succ]; omega) hc alo (ε := ε) (by rw [hKe, hε]; exact Rat.le_refl)
  have dsz : ∀ x y, lo ≤ x → x ≤ hi → lo ≤ y → y ≤ hi → Ab (dd x y f.l) Q ∧ Ab (cc x y f.l) Q ∧ Ab (dd x y (bO f).l) Q := fun x y h1 h2 h3 h4 => by
   have g1 := aay hA' hn (hin x h1 h2) (hin y h3 h4)
   have g2 := aay hD (show N (bO f) ≤ n by omega) (hin x h1 h2) (hin y h3 h4)
   rw [hQe] at g1 g2
   exact ⟨g1.1, g1.2, g2.1⟩
  have awu : 0 ≤ δ * Q := Rat.mul_nonneg (Rat.le_of_lt hδ0) (Rat.le_of_lt hQ)
  have small : ∀ h x, 0 ≤ h → h ≤ δ → Ab x Q → Ab (h * x) (δ * Q) := fun h x h1 h2 h3 => Ab.mul ⟨by grind, h2⟩ h3
  rcases hb with hb | hb
  ·-- one sign
   have uM : ∀ x, lo ≤ x → x ≤ hi → b6 (e x f) = b6 (e lo f) ∧ b6 (e lo f) ≠ 0 := fun x h1 h2 => by
    refine eE hb hε0 fun h => ?_
    have h3 := lA lo x f.l
    have h4 := small (x - lo) _ (by grind) (by grind) (dsz lo x Rat.le_refl (by grind) h1 h2).1
    rw [← h3] at h4
    obtain ⟨p1, p2⟩ := h4
    have h5 : e x f - e lo f = qv x f.l - qv lo f.l := rfl
    rw [h5] at h
    rcases h with h | h <;> grind
   have h1 := G.const hlh (σ := b6 (e lo f)) (.inr rfl) (fun x h1 h2 => (uM x (by grind) h2).1)
   have h2 : ind f lo hi = 0 := if_neg fun h => h.2 (uM hi (by grind) Rat.le_refl).1
   have hz : ∀ x, lo ≤ x → x ≤ hi → e x f ≠ 0 := fun x h1 h2 h => by
    obtain ⟨g1, g2⟩ := uM x h1 h2
    rw [h, k9] at g1
    exact g2 g1.symm
   exact ⟨by rw [h1, h2]; omega, fun h => absurd h (hz lo Rat.le_refl (by grind)), by rw [h2, if_pos rfl, Int.one_mul, NV, NV, if_neg (hz _ (by grind) Rat.le_refl), if_neg (hz _ Rat.le_refl (by grind)), (uM hi (by grind) Rat.le_refl).1]⟩
  ·-- rising or aqQ
   have mono : ∀ x y, lo ≤ x → x < y → y ≤ hi → b6 (e y f - e x f) = b6 (e lo (bO f)) ∧ b6 (e lo (bO f)) ≠ 0 := fun x y h1 h2 h3 => by
    have g1 := lA x y f.l
    have g2 := M9 x y f.l
    have g3 : dd x x f.l = e x (bO f) := (aga x f).symm
    have g4 := lA lo x (bO f).l
    have b1 := small (y - x) _ (by grind) (by grind) (dsz x y h1 (by grind) (by grind) h3).2.1
    have b2 := small (x - lo) _ (by grind) (by grind) (dsz lo x Rat.le_refl (by grind) h1 (by grind)).2.2
    rw [← g2] at b1
    rw [← g4] at b2
    have h5 : e x (bO f) - e lo (bO f) = qv x (bO f).l - qv lo (bO f).l := rfl
    have h6 := eE (y := dd x y f.l) hb hε0 fun h => by
     obtain ⟨p1, p2⟩ := b1
     obtain ⟨p3, p4⟩ := b2
     rcases h with h | h <;> grind
    have h7 : e y f - e x f = qv y f.l - qv x f.l := rfl
    rw [h7, g1, qH, dY (show 0 < y - x by grind), Int.one_mul]
    exact h6
   have QW : ∀ x y, lo ≤ x → x < y → y ≤ hi → (b6 (e lo (bO f)) = 1 ∧ e x f < e y f) ∨ (b6 (e lo (bO f)) = -1 ∧ e y f < e x f) := fun x y h1 h2 h3 => by
    obtain ⟨g1, g2⟩ := mono x y h1 h2 h3
    rcases cJ (e y f - e x f) with ⟨g3, g4⟩ | ⟨g3, g4⟩ | ⟨g3, g4⟩
    ·exact .inr ⟨by omega, by grind⟩
    ·omega
    ·exact .inl ⟨by omega, by grind⟩
   have dsg : ∀ x, lo ≤ x → x ≤ hi → b6 (e x (bO f)) = b6 (e lo (bO f)) := fun x h1 h2 => by
    have g4 := lA lo x (bO f).l
    have b2 := small (x - lo) _ (by grind) (by grind) (dsz lo x Rat.le_refl (by grind) h1 h2).2.2
    rw [← g4] at b2
    have h5 : e x (bO f) - e lo (bO f) = qv x (bO f).l - qv lo (bO f).l := rfl
    exact (eE hb hε0 fun h => by
     obtain ⟨p3, p4⟩ := b2
     rcases h with h | h <;> grind).1
   refine ⟨?_, fun h => ?_, ?_⟩
   ·refine G.aae (P := fun x y => lo ≤ x → y ≤ hi → vt L x = vt L y + ind f x y) (fun x y z uH hyz p1 p2 hx hz => ?_) (fun B δ' hL x y hx hy uH hd h1 h2 => hL.turns x y hx hy uH hd) hlh Rat.le_refl Rat.le_refl
    rw [p1 hx (by grind), p2 (by grind) hz]
    have h1 := QW x y hx uH (by grind)
    have h2 := QW y z (by grind) hyz hz
    have h3 := ad4 (x := e x f) (y := e y f) (z := e z f) (by
     rcases h1 with ⟨q1, q2⟩ | ⟨q1, q2⟩ <;> rcases h2 with ⟨q3, q4⟩ | ⟨q3, q4⟩
     ·exact .inl ⟨q2, q4⟩
     ·omega
     ·omega
     ·exact .inr ⟨q2, q4⟩)
    have h4 : ind f x z = ind f x y + ind f y z := h3
    omega
   ·rcases QW lo hi Rat.le_refl hlh Rat.le_refl with ⟨q1, q2⟩ | ⟨q1, q2⟩ <;> grind
   ·have h1 := aaz (QW lo hi Rat.le_refl hlh Rat.le_refl)
    unfold NV ind
    rw [dsg hi (by grind) Rat.le_refl]
    exact h1
 exact ⟨⟨fun x y hx hy uH hd => (main x y hx hy uH hd).1, fun x y hx hy uH hd => (main x y hx hy uH hd).2.1⟩, ⟨fun x y hx hy uH hd => (main x y hx hy uH hd).2.2⟩⟩
end ZX
end Pm
namespace Pm
namespace ZX
theorem AN : ∀ l : List Int, ∃ s : Nat, ∀ c ∈ l, c.natAbs ≤ 2 ^ s
 | [] => ⟨0, fun c hc => by cases hc⟩
 | a :: l => by
  obtain ⟨s, h⟩ := AN l
  refine ⟨s + a.natAbs, fun c hc => ?_⟩
  rcases List.mem_cons.1 hc with rfl | hc
  ·have h1 : c.natAbs < 2 ^ c.natAbs := Nat.lt_two_pow_self
   exact Nat.le_trans (Nat.le_of_lt h1) (Nat.pow_le_pow_right (by decide) (by omega))
  ·exact Nat.le_trans (h c hc) (Nat.pow_le_pow_right (by decide) (by omega))
theorem J2 (B : Rat) : ∃ β : Nat, B ≤ 2 ^ β := by
 have h1 := Rat.lt_floor_add_one B
 refine ⟨(B.floor + 1).toNat, Rat.le_trans (Rat.le_of_lt h1) ?_⟩
 have h2 : ((2 ^ (B.floor + 1).toNat : Int) : Rat) = 2 ^ (B.floor + 1).toNat := by rw [Rat.intCast_pow]; rfl
 rw [← h2]
 refine Rat.intCast_le_intCast.2 ?_
 have h3 : (B.floor + 1).toNat < 2 ^ (B.floor + 1).toNat := Nat.lt_two_pow_self
 have h4 : ((2 ^ (B.floor + 1).toNat : Nat) : Int) = 2 ^ (B.floor + 1).toNat := by rw [Int.natCast_pow]; rfl
 omega
theorem vC (k : Nat) : ∃ δ : Rat, 0 < δ ∧ δ * 2 ^ k = 1 := by
 have h := gK k
 have h1 : (1 / 2 ^ k) * (2 : Rat) ^ k = 1 := Rat.div_mul_cancel (Rat.ne_of_gt h)
 exact ⟨1 / 2 ^ k, (Rat.lt_div_iff h).2 (by grind), h1⟩
theorem min2 {a b : Rat} (ha : 0 < a) (hb : 0 < b) : ∃ c : Rat, 0 < c ∧ c ≤ a ∧ c ≤ b := by
 by_cases h : a ≤ b
 ·exact ⟨a, ha, Rat.le_refl, h⟩
 ·exact ⟨b, hb, by grind, Rat.le_refl⟩
theorem agj {P : Rat → Rat → Prop} (ht : ∀ a b c, a < b → b < c → P a b → P b c → P a c) (hs : ∀ B : Rat, 1 ≤ B → ∃ δ : Rat, 0 < δ ∧ ∀ a b, Ab a B → Ab b B → a < b → b - a ≤ δ → P a b) {a b : Rat} (fH : a < b) : P a b := by
 obtain ⟨B, hB, ha, hb⟩ := r9 a b
 obtain ⟨δ, hδ, h⟩ := hs B hB
 exact aja hδ ht h ha hb fH
theorem lip (p : ZX) (B : Rat) (hB : 1 ≤ B) : ∃ Q : Rat, 0 < Q ∧ ∀ a b, Ab a B → Ab b B → a ≤ b → Ab (e b p - e a p) ((b - a) * Q) := by
 obtain ⟨S, hS, hc⟩ := FH p.l
 obtain ⟨h3, _⟩ := nS hS hB p.l.length
 refine ⟨BM S B p.l.length + 1, by grind, fun a b ha hb fH => ?_⟩
 have h1 := (DA hS hB ha hb p.l hc).mono (show BM S B p.l.length ≤ BM S B p.l.length + 1 by grind)
 have h2 := lA a b p.l
 have h4 : e b p - e a p = qv b p.l - qv a p.l := rfl
 rw [h4, h2]
 exact Ab.mul ⟨by grind, Rat.le_refl⟩ h1
def A3 (a b : ZX) : Prop := ∀ d, dv d a → dv d b → N d ≤ 1
theorem A3.symm {a b : ZX} (h : A3 a b) : A3 b a := fun d h1 h2 => h d h2 h1
theorem A3.mono {a b c d : ZX} (h : A3 a b) (h1 : dv c a) (h2 : dv d b) : A3 c d := fun x h3 h4 => h x (h3.trans h1) (h4.trans h2)
theorem atY {a b : ZX} (ha : a ≠ 0) (hb : b ≠ 0) (hc : A3 a b) (B : Rat) : ∃ ε : Rat, 0 < ε ∧ ∀ t, Ab t B → kC ε (e t a) ∨ kC ε (e t b) := by
 obtain ⟨s1, h1⟩ := AN a.l
 obtain ⟨s2, h2⟩ := AN b.l
 obtain ⟨β, hβ⟩ := J2 B
 obtain ⟨ε, h3, h4⟩ := vC (sk (s1 + s2) (N a + N b) (N a + N b) β)
 exact ⟨ε, h3, fun t ht => sep (s := s1 + s2) (l := N a + N b) (β := β) ha hb (fun c hc => Nat.le_trans (h1 c hc) (Nat.pow_le_pow_right (by decide) (by omega))) (fun c hc => Nat.le_trans (h2 c hc) (Nat.pow_le_pow_right (by decide) (by omega))) (Nat.le_refl _) (Nat.le_of_lt Nat.lt_two_pow_self) hc (ht.mono hβ) (by rw [h4]; exact Rat.le_refl)⟩
structure uB (f : ZX) (v : Rat → Nat) : Prop where
 ne : f ≠ 0
 QX : A3 f (bO f)
 g : ∃ L, xC L f ∧ v = vt L
structure atZ (f : ZX) (v : Rat → Nat) (B δ : Rat) : Prop where
 turns : ∀ s t, Ab s B → Ab t B → s < t → t - s ≤ δ → v s = v t + ind f s t
 simple : ∀ s t, Ab s B → Ab t B → s < t → t - s ≤ δ → e s f = 0 → e t f ≠ 0
 par : ∀ s t, Ab s B → Ab t B → s < t → t - s ≤ δ → NV f t = (if ind f s t = 0 then 1 else -1) * NV f s
def sg1 (n : Nat) : Int := if n % 2 = 0 then 1 else -1
theorem ad5 (a b : Nat) : sg1 (a + b) = sg1 a * sg1 b := by
 unfold sg1
 split <;> split <;> split <;> omega
theorem NW (f : ZX) (s t : Rat) : ind f s t = 0 ∨ ind f s t = 1 := by unfold ind; split <;> simp
namespace uB
variable {f : ZX} {v : Rat → Nat} (S : uB f v)
include S
theorem qN (B : Rat) : ∃ δ : Rat, 0 < δ ∧ atZ f v B δ := by
 obtain ⟨L, G, rfl⟩ := S.g
 obtain ⟨s, h1⟩ := AN f.l
 obtain ⟨β, hβ⟩ := J2 B
 obtain ⟨δ, h3, h4⟩ := vC (lk s (N f) (N f) β)
 obtain ⟨h5, h6⟩ := vB G S.ne h1 (Nat.le_refl _) (Nat.le_of_lt Nat.lt_two_pow_self) S.QX (δ := δ) (by rw [h4]; exact Rat.le_refl)
 exact ⟨δ, h3, fun s t hs ht => h5.turns s t (hs.mono hβ) (ht.mono hβ), fun s t hs ht => h5.simple s t (hs.mono hβ) (ht.mono hβ), fun s t hs ht => h6.par s t (hs.mono hβ) (ht.mono hβ)⟩
theorem cD {a b : Rat} (fH : a ≤ b) : v b ≤ v a := by
 obtain ⟨L, G, rfl⟩ := S.g
 exact G.cD fH
theorem const {a b : Rat} (fH : a < b) {σ : Int} (h0 : e a f = 0 ∨ b6 (e a f) = σ) (h1 : ∀ x, a < x → x ≤ b → b6 (e x f) = σ) : v a = v b := by
 obtain ⟨L, G, rfl⟩ := S.g
 exact G.const fH h0 h1
theorem root {s t : Rat} (lE : s < t) (h0 : e t f = 0) : v t < v s := by
 obtain ⟨L, G, rfl⟩ := S.g
 exact G.root lE h0
theorem bg {a b : Rat} (hb : Bg a b f) (fH : a < b) : v a = v b := by
 obtain ⟨L, G, rfl⟩ := S.g
 exact G.bg hb fH
theorem par {s t : Rat} (h : s ≤ t) : NV f t = sg1 (v s - v t) * NV f s := by
 rcases Rat.le_iff_lt_or_eq.1 h with h1 | rfl
 ·refine agj (P := fun a b => NV f b = sg1 (v a - v b) * NV f a) (fun a b c h1 h2 p1 p2 => ?_) (fun B hB => ?_) h1
  ·have := S.cD (Rat.le_of_lt h1)
   have := S.cD (Rat.le_of_lt h2)
   rw [p2, p1, show v a - v c = (v a - v b) + (v b - v c) by omega, ad5]; grind
  ·obtain ⟨δ, hδ, hN⟩ := S.qN B
   refine ⟨δ, hδ, fun a b ha hb fH hd => ?_⟩
   have h1 := hN.turns a b ha hb fH hd
   have h2 := hN.par a b ha hb fH hd
   rw [h2, show v a - v b = ind f a b by omega]
   rcases NW f a b with h3 | h3 <;> rw [h3] <;> rfl
 ·rw [Nat.sub_self]; show _ = 1 * _; omega
end uB
theorem ad6 {f : ZX} {t : Rat} (h : e t f ≠ 0) : ∃ r : Rat, 0 < r ∧ ∀ x, t - r ≤ x → x ≤ t + r → b6 (e x f) = b6 (e t f) := by
 obtain ⟨B, hB, ha, hb⟩ := r9 (t - 1) (t + 1)
 obtain ⟨Q, hQ, hl⟩ := lip f B hB
 have hε : ∃ ε : Rat, 0 < ε ∧ kC ε (e t f) := by
  by_cases h0 : 0 ≤ e t f
  ·exact ⟨e t f, by grind, .inr Rat.le_refl⟩
  ·exact ⟨-e t f, by grind, .inl (by grind)⟩
 obtain ⟨ε, hε, NA⟩ := hε
 have h1 : ε / (2 * Q) * (2 * Q) = ε := Rat.div_mul_cancel (by grind)
 have h2 : 0 < ε / (2 * Q) := (Rat.lt_div_iff (by grind)).2 (by grind)
 generalize ε / (2 * Q) = η at *
 obtain ⟨r, hr, BJ, cT⟩ := min2 (show (0 : Rat) < 1 by decide) h2
 refine ⟨r, hr, fun x hx hy => ?_⟩
 have BX : Ab x B := dK ha hb (by grind) (by grind)
 have ht' : Ab t B := dK ha hb (by grind) (by grind)
 have hrQ : r * Q ≤ η * Q := Rat.mul_le_mul_of_nonneg_right cT (Rat.le_of_lt hQ)
 refine (eE NA hε fun hn => ?_).1
 by_cases hxt : t ≤ x
 ·have h3 := hl t x ht' BX hxt
  have h4 : (x - t) * Q ≤ r * Q := Rat.mul_le_mul_of_nonneg_right (by grind) (Rat.le_of_lt hQ)
  obtain ⟨p1, p2⟩ := h3
  rcases hn with hn | hn <;> grind
 ·have h3 := hl x t BX ht' (by grind)
  have h4 : (t - x) * Q ≤ r * Q := Rat.mul_le_mul_of_nonneg_right (by grind) (Rat.le_of_lt hQ)
  obtain ⟨p1, p2⟩ := h3
  rcases hn with hn | hn <;> grind
namespace uB
variable {f : ZX} {v : Rat → Nat} (S : uB f v)
include S
theorem lft {t : Rat} (h : e t f ≠ 0) {a : Rat} (hat : a < t) : ∃ s, a ≤ s ∧ s < t ∧ v s = v t ∧ b6 (e s f) = b6 (e t f) := by
 obtain ⟨B, hB, ha, hb⟩ := r9 a t
 obtain ⟨δ, hδ, hN⟩ := S.qN B
 obtain ⟨r1, BJ, hc⟩ := ad6 h
 obtain ⟨r2, cT, h1, h2⟩ := min2 hδ (show 0 < t - a by grind)
 obtain ⟨r, hr, h3, h4⟩ := min2 BJ cT
 have hs : Ab (t - r) B := dK ha hb (by grind) (by grind)
 have g1 := hN.turns (t - r) t hs hb (by grind) (by grind)
 have g5 := hc (t - r) (by grind) (by grind)
 have g4 : ind f (t - r) t = 0 := if_neg fun hh => hh.2 g5.symm
 exact ⟨t - r, by grind, by grind, by omega, g5⟩
theorem small {s t Q : Rat} (lE : s < t) (hv : v s ≠ v t) (hQ : 0 < Q) (hl : ∀ a b, s ≤ a → a ≤ b → b ≤ t → Ab (e b f - e a f) ((b - a) * Q)) {x : Rat} (hx : s ≤ x) (hy : x ≤ t) : Ab (e x f) ((t - s) * Q) := by
 refine Classical.byContradiction fun hn => hv ?_
 have key : ∀ y, s ≤ y → y ≤ t → b6 (e y f) = b6 (e x f) := fun y h1 h2 => by
  have h3 : Ab (e y f - e x f) ((t - s) * Q) := by
   by_cases uH : x ≤ y
   ·exact (hl x y hx uH h2).mono (Rat.mul_le_mul_of_nonneg_right (by grind) (Rat.le_of_lt hQ))
   ·have h4 := (hl y x h1 (by grind) hy).mono (Rat.mul_le_mul_of_nonneg_right (show x - y ≤ t - s by grind) (Rat.le_of_lt hQ))
    obtain ⟨p1, p2⟩ := h4
    exact ⟨by grind, by grind⟩
  obtain ⟨p1, p2⟩ := h3
  have h0 : 0 ≤ (t - s) * Q := Rat.mul_nonneg (by grind) (Rat.le_of_lt hQ)
  generalize (t - s) * Q = M at *
  rcases cJ (e x f) with ⟨h5, h6⟩ | ⟨h5, h6⟩ | ⟨h5, h6⟩
  ·rw [h6]
   refine fK ?_
   have : e x f < -M := Rat.not_le.1 fun h => hn ⟨h, by grind⟩
   grind
  ·exact absurd ⟨by grind, by grind⟩ hn
  ·rw [h6]
   refine dY ?_
   have : M < e x f := Rat.not_le.1 fun h => hn ⟨by grind, h⟩
   grind
 exact S.const lE (σ := b6 (e x f)) (.inr (key s Rat.le_refl (Rat.le_of_lt lE))) fun y h1 h2 => key y (Rat.le_of_lt h1) h2
end uB
theorem DJ {p q : Prop} [Decidable p] [Decidable q] (h : p ↔ q) : (if p then 1 else 0 : Nat) = if q then 1 else 0 := by
 by_cases hp : p
 ·rw [if_pos hp, if_pos (h.1 hp)]
 ·rw [if_neg hp, if_neg (fun hq => hp (h.2 hq))]
theorem UD {c x y z : Rat} (hc : c ≠ 0) (h : c * x = y * z) : b6 x = b6 c * (b6 y * b6 z) := by
 have h1 : b6 c * b6 x = b6 y * b6 z := by rw [← qH, ← qH, h]
 rw [← h1]
 rcases cJ c with ⟨h2, h3⟩ | ⟨h2, h3⟩ | ⟨h2, h3⟩
 ·rw [h3]; omega
 ·exact absurd h2 hc
 ·rw [h3]; omega
theorem uB.mul {f g h : ZX} {v w u : Rat → Nat} (Sf : uB f v) (Sg : uB g w) (Sh : uB h u) {c : Int} (hc : c ≠ 0) (he : K c * f = g * h) (at0 : A3 g h) {s t : Rat} (lE : s ≤ t) : v s + w t + u t = v t + w s + u s := by
 rcases Rat.le_iff_lt_or_eq.1 lE with h1 | rfl
 ·refine agj (P := fun s t => v s + w t + u t = v t + w s + u s) (fun a b c h1 h2 p1 p2 => by omega) (fun B hB => ?_) h1
  obtain ⟨δ1, hδ1, N1⟩ := Sf.qN B
  obtain ⟨δ2, hδ2, N2⟩ := Sg.qN B
  obtain ⟨δ3, hδ3, N3⟩ := Sh.qN B
  obtain ⟨ε, hε, at4⟩ := atY Sg.ne Sh.ne at0 B
  obtain ⟨Q1, hQ1, l1⟩ := lip g B hB
  obtain ⟨Q2, hQ2, l2⟩ := lip h B hB
  have hQ : 0 < Q1 + Q2 := by grind
  have e1 : ε / (2 * (Q1 + Q2)) * (2 * (Q1 + Q2)) = ε := Rat.div_mul_cancel (by grind)
  have e2 : 0 < ε / (2 * (Q1 + Q2)) := (Rat.lt_div_iff (by grind)).2 (by grind)
  generalize ε / (2 * (Q1 + Q2)) = δ4 at *
  obtain ⟨m1, GF, a1, a2⟩ := min2 hδ1 hδ2
  obtain ⟨m2, hm2, a3, a4⟩ := min2 hδ3 e2
  obtain ⟨δ, hδ, a5, a6⟩ := min2 GF hm2
  refine ⟨δ, hδ, fun s t hs ht gL hd => ?_⟩
  have t1 := N1.turns s t hs ht gL (by grind)
  have t2 := N2.turns s t hs ht gL (by grind)
  have t3 := N3.turns s t hs ht gL (by grind)
  have hcq : (c : Rat) ≠ 0 := fun h0 => hc (Rat.intCast_eq_zero_iff.1 h0)
  have sgm : ∀ x, b6 (e x f) = b6 (c : Rat) * (b6 (e x g) * b6 (e x h)) := fun x => by
   refine UD hcq ?_
   rw [← wR, ← he, wR, e_K]
  have dl : ∀ Q, 0 < Q → Q ≤ Q1 + Q2 → (t - s) * Q < ε := fun Q h0 h1 => by
   have h2 : (t - s) * Q ≤ δ4 * (Q1 + Q2) := by
    have h3 := Rat.mul_le_mul_of_nonneg_right (show t - s ≤ δ4 by grind) (Rat.le_of_lt h0)
    have h4 := Rat.mul_le_mul_of_nonneg_left h1 (Rat.le_of_lt e2)
    grind
   have h5 : δ4 * (Q1 + Q2) * 2 = ε := by rw [← e1]; grind
   grind
  have sc := cJ (c : Rat)
  have F9 : b6 (c : Rat) = 1 ∨ b6 (c : Rat) = -1 := by
   rcases sc with ⟨_, h⟩ | ⟨h, _⟩ | ⟨_, h⟩
   ·exact .inr h
   ·exact absurd h hcq
   ·exact .inl h
  have ez : ∀ (p : ZX) x, (e x p ≠ 0) = (b6 (e x p) ≠ 0) := fun p x => propext ⟨fun h h0 => h (fW.1 h0), fun h h0 => h (by rw [h0]; exact k9)⟩
  rcases at4 s hs with hb | hb
  ·have O5 := eE (y := e t g) hb hε fun hn => by
    obtain ⟨p1, p2⟩ := l1 s t hs ht (Rat.le_of_lt gL)
    have := dl Q1 hQ1 (by grind)
    rcases hn with hn | hn <;> grind
   have i1 : ind g s t = 0 := if_neg fun hh => hh.2 O5.1
   have i2 : ind f s t = ind h s t := by
    refine DJ ?_
    rw [ez f s, ez h s, sgm s, sgm t, O5.1]
    have := l5 (e s g)
    have h7 : b6 (c : Rat) * b6 (e s g) = 1 ∨ b6 (c : Rat) * b6 (e s g) = -1 := by
     rcases F9 with h | h <;> rw [h] <;> omega
    rw [← Int.mul_assoc, ← Int.mul_assoc]
    rcases h7 with h | h <;> rw [h]
    ·simp only [Int.one_mul]
    ·simp only [Int.neg_mul, Int.one_mul, ne_eq, Int.neg_eq_zero, Int.neg_inj]
   omega
  ·have O5 := eE (y := e t h) hb hε fun hn => by
    obtain ⟨p1, p2⟩ := l2 s t hs ht (Rat.le_of_lt gL)
    have := dl Q2 hQ2 (by grind)
    rcases hn with hn | hn <;> grind
   have i1 : ind h s t = 0 := if_neg fun hh => hh.2 O5.1
   have i2 : ind f s t = ind g s t := by
    refine DJ ?_
    rw [ez f s, ez g s, sgm s, sgm t, O5.1]
    have := l5 (e s h)
    have h7 : b6 (c : Rat) * b6 (e s h) = 1 ∨ b6 (c : Rat) * b6 (e s h) = -1 := by
     rcases F9 with h | h <;> rw [h] <;> omega
    have cm : ∀ y : Int, b6 (c : Rat) * (y * b6 (e s h)) = b6 (c : Rat) * b6 (e s h) * y := fun y => by grind
    rw [cm, cm]
    rcases h7 with h | h <;> rw [h]
    ·simp only [Int.one_mul]
    ·simp only [Int.neg_mul, Int.one_mul, ne_eq, Int.neg_eq_zero, Int.neg_inj]
   omega
 ·omega
structure pN (f : ZX) (v : Rat → Nat) (lo hi : Rat) : Prop where
 S : uB f v
 k : (lo = hi ∧ e lo f = 0) ∨ (lo < hi ∧ v lo = v hi + 1)
def gD (v : Rat → Nat) (lo hi t : Rat) : Prop := hi ≤ t ∨ (lo < t ∧ v t < v lo)
noncomputable def cr (U : Rat → Prop) (t : Rat) : Int := open Classical in if U t then (if ∃ s, s < t ∧ U s then -1 else 0) else 1
theorem nU {U : Rat → Prop} {t : Rat} : cr U t = 1 ↔ ¬ U t := by
 unfold cr
 split
 ·rename_i h
  split <;> simp [h]
 ·rename_i h
  simp [h]
theorem AO {U : Rat → Prop} (hU : ∀ s t, U s → s ≤ t → U t) {t : Rat} : cr U t = -1 ↔ ∃ s, s < t ∧ U s := by
 unfold cr
 split
 ·split
  ·rename_i h; simp [h]
  ·rename_i h; simp [h]
 ·rename_i h
  refine ⟨fun h1 => absurd h1 (by decide), fun ⟨s, h1, h2⟩ => absurd (hU s t h2 (Rat.le_of_lt h1)) h⟩
theorem xW {U : Rat → Prop} {t : Rat} : cr U t = 0 ↔ U t ∧ ∀ s, s < t → ¬ U s := by
 unfold cr
 split
 ·rename_i h
  split
  ·rename_i h2
   refine ⟨fun h1 => absurd h1 (by decide), fun ⟨_, h3⟩ => ?_⟩
   obtain ⟨s, h4, h5⟩ := h2
   exact absurd h5 (h3 s h4)
  ·rename_i h2
   exact ⟨fun _ => ⟨h, fun s h3 h4 => h2 ⟨s, h3, h4⟩⟩, fun _ => rfl⟩
 ·rename_i h
  exact ⟨fun h1 => absurd h1 (by decide), fun h1 => absurd h1.1 h⟩
noncomputable def cu (U V : Rat → Prop) : Int := open Classical in if ∃ t, U t ∧ ¬ V t then -1 else if ∃ t, V t ∧ ¬ U t then 1 else 0
theorem FW {U V : Rat → Prop} : cu U V = 0 ↔ ∀ t, U t ↔ V t := by
 unfold cu
 split
 ·rename_i h
  refine ⟨fun h1 => absurd h1 (by decide), fun h1 => ?_⟩
  obtain ⟨t, h2, h3⟩ := h
  exact absurd ((h1 t).1 h2) h3
 ·rename_i h
  split
  ·rename_i h'
   refine ⟨fun h1 => absurd h1 (by decide), fun h1 => ?_⟩
   obtain ⟨t, h2, h3⟩ := h'
   exact absurd ((h1 t).2 h2) h3
  ·rename_i h'
   exact ⟨fun _ t => ⟨fun h1 => Classical.byContradiction fun h2 => h ⟨t, h1, h2⟩, fun h1 => Classical.byContradiction fun h2 => h' ⟨t, h1, h2⟩⟩, fun _ => rfl⟩
theorem kK {v : Rat → Nat} {lo hi : Rat} : gD v lo hi hi := .inl Rat.le_refl
namespace pN
variable {f : ZX} {v : Rat → Nat} {lo hi : Rat} (A : pN f v lo hi)
include A
theorem le : lo ≤ hi := by
 rcases A.k with ⟨h, _⟩ | ⟨h, _⟩
 ·rw [h]; exact Rat.le_refl
 ·exact Rat.le_of_lt h
theorem up {s t : Rat} (h : gD v lo hi s) (lE : s ≤ t) : gD v lo hi t := by
 rcases h with h | ⟨h1, h2⟩
 ·exact .inl (by grind)
 ·have := A.S.cD lE
  exact .inr ⟨by grind, by omega⟩
theorem nV {t : Rat} (h : t < lo ∨ (t = lo ∧ lo < hi)) : ¬ gD v lo hi t := by
 have := A.le
 rintro (h1 | ⟨h1, _⟩) <;> grind
theorem at5 (t : Rat) : cr (gD v lo hi) t = if lo = hi then (if lo < t then -1 else if t < lo then 1 else 0) else if t ≤ lo then 1 else if hi < t then -1 else if v lo = v t then 1 else if e t f = 0 then 0 else -1 := by
 have hup := fun s t (h : gD v lo hi s) (h' : s ≤ t) => A.up h h'
 have hle := A.le
 split
 ·rename_i h
  subst h
  have hU : ∀ t, gD v lo lo t ↔ lo ≤ t := fun t => ⟨fun h => by rcases h with h | h <;> grind, fun h => .inl h⟩
  split
  ·exact (AO hup).2 ⟨lo, by assumption, .inl Rat.le_refl⟩
  ·split
   ·exact nU.2 (fun h => by have := (hU t).1 h; grind)
   ·exact xW.2 ⟨.inl (by grind), fun s h1 h2 => by have := (hU s).1 h2; grind⟩
 ·rename_i sH
  have gL : lo < hi := by grind
  have hk : v lo = v hi + 1 := by
   rcases A.k with ⟨h, _⟩ | ⟨_, h⟩
   ·exact absurd h sH
   ·exact h
  split
  ·rename_i h
   exact nU.2 (A.nV (by grind))
  ·rename_i h1
   split
   ·rename_i h2
    exact (AO hup).2 ⟨hi, h2, kK⟩
   ·rename_i h2
    have b1 := A.S.cD (show lo ≤ t by grind)
    have b2 := A.S.cD (show t ≤ hi by grind)
    split
    ·rename_i h3
     refine nU.2 ?_
     rintro (h4 | ⟨_, h4⟩)
     ·have : t = hi := by grind
      subst this; omega
     ·omega
    ·rename_i h3
     split
     ·rename_i h4
      refine xW.2 ⟨.inr ⟨by grind, by omega⟩, fun s h5 h6 => ?_⟩
      have h7 := A.S.root h5 h4
      rcases h6 with h6 | ⟨h6, h8⟩
      ·grind
      ·omega
     ·rename_i h4
      obtain ⟨s, h5, h6, h7, _⟩ := A.S.lft h4 (show lo < t by grind)
      refine (AO hup).2 ⟨s, h6, .inr ⟨?_, by omega⟩⟩
      rcases Rat.le_iff_lt_or_eq.1 h5 with h8 | rfl
      ·exact h8
      ·omega
theorem half {m : Rat} (h1 : lo < m) (h2 : m < hi) : (v m < v lo → pN f v lo m ∧ ∀ t, gD v lo m t ↔ gD v lo hi t) ∧ (¬ v m < v lo → pN f v m hi ∧ ∀ t, gD v m hi t ↔ gD v lo hi t) := by
 have hk : v lo = v hi + 1 := by
  rcases A.k with ⟨h, _⟩ | ⟨_, h⟩
  ·grind
  ·exact h
 have b1 := A.S.cD (Rat.le_of_lt h1)
 have b2 := A.S.cD (Rat.le_of_lt h2)
 refine ⟨fun h => ⟨⟨A.S, .inr ⟨h1, by omega⟩⟩, fun t => ⟨?_, ?_⟩⟩, fun h => ⟨⟨A.S, .inr ⟨h2, by omega⟩⟩, fun t => ⟨?_, ?_⟩⟩⟩
 ·rintro (h3 | h3)
  ·have := A.S.cD h3
   exact .inr ⟨by grind, by omega⟩
  ·exact .inr h3
 ·rintro (h3 | h3)
  ·exact .inl (by grind)
  ·exact .inr h3
 ·rintro (h3 | ⟨h3, h4⟩)
  ·exact .inl h3
  ·exact .inr ⟨by grind, by omega⟩
 ·rintro (h3 | ⟨h3, h4⟩)
  ·exact .inl h3
  ·refine .inr ⟨?_, by omega⟩
   refine Rat.not_le.1 fun h5 => ?_
   have := A.S.cD h5
   omega
theorem exact (h : e hi f = 0) : pN f v hi hi ∧ ∀ t, gD v hi hi t ↔ gD v lo hi t := by
 refine ⟨⟨A.S, .inl ⟨rfl, h⟩⟩, fun t => ⟨?_, ?_⟩⟩
 ·rintro (h3 | ⟨h3, _⟩)
  ·exact .inl h3
  ·exact .inl (by grind)
 ·rintro (h3 | ⟨h3, h4⟩)
  ·exact .inl h3
  ·refine .inl (Rat.not_lt.1 fun h5 => ?_)
   have h6 := A.S.root h5 h
   rcases A.k with ⟨h7, _⟩ | ⟨_, h7⟩
   ·grind
   ·omega
end pN
end ZX
end Pm
namespace Pm
open Go Go.RowKit
section
variable {E : Env} {m : Nat} {G : Gs} {w0 : World} {S0 : dB}
def mx3 (p q r : PV) (K : PV → Prop) : Prop := ∃ k a b c, p = .int k a ∧ q = .int k b ∧ r = .int k c ∧ K (.int k (max (max a b) c))
@[simp] theorem aqS {k : IntKind} {a b c : Int} {K : PV → Prop} : mx3 (.int k a) (.int k b) (.int k c) K = K (.int k (max (max a b) c)) := by
 apply propext
 constructor
 ·rintro ⟨k', a', b', c', h1, h2, h3, h⟩
  cases h1; cases h2; cases h3; exact h
 ·exact fun h => ⟨k, a, b, c, rfl, rfl, rfl, h⟩
def ao1 (o : Oper) (K : PS → Prop) (σ : PS) : Prop :=
 match o.op with
 | .call { callee := .builtin .max, args := ⟨[x, y, z]⟩, argTypes := _ } => mx3 (aQ σ.f x) (aQ σ.f y) (aQ σ.f z) fun v => K (σ.put o.dst v)
 | _ => False
end
@[simp] theorem ao2 {K : PS → Prop} {f : Nat → PV} {rows : Rows} {clk : Nat} {d : Option Tmp} {ty : TypeId} {pos : String} {af : Array Edge} {ts : Array TypeId} {x y z : Operand} :
  ao1 ⟨d, .call { callee := .builtin .max, args := ⟨[x, y, z]⟩, argTypes := ts }, ty, pos, af, none⟩ K ⟨f, rows, clk⟩ = mx3 (aQ f x) (aQ f y) (aQ f z) fun v => K ⟨put f d v, rows, clk⟩ := rfl
section
variable {E : Env} {w0 : World} {S0 : dB} {n : Nat} {G : Gs}
theorem BQ {id tl : Nat} {ops : Array Oper} {T : PS → Prop} {Q : Exit → Act → World → Prop} (fF : oT E n tl ops true = true) (htl : tl ≠ 0) {σ : PS} {a : Act} {w : World}
  (h : aN E ops.toList σ.clock 0 (ops.toList.take (ops.size - tl)) T ⟨σ.f, σ.rows, fun _ _ => False, fun _ _ => False⟩) (hR : Rel w0 S0 n G σ a w)
  (hT : ∀ σ' a' w', T σ' → Rel w0 S0 n G σ' a' w' → wpList E.P ops Q (ops.toList.drop (ops.size - tl)) a' w') : (Code.region id ops true).wp E.P Q a w := by
 simp only [oT, Bool.and_eq_true, Bool.not_true, Bool.false_or] at fF
 obtain ⟨agO, qZ, fF⟩ := fF
 have hd : ∀ o, o ∈ ops → ∀ t, o.dst = some t → t < n := by
  intro o ho t ht
  have := Array.all_eq_true_iff_forall_mem.1 agO o ho
  simpa [ht] using this
 refine wp_region_any E.mixed ?_
 have G1 := hR.drew
 have hU0 : ∀ k (l : Array Bool), m9 w0 S0 n G (Ul E ops σ.clock k l) σ.f σ.rows a { w with drawn := w.drawn + 1 } := fun k l => G1.mono fun v hv => .inl hv
 have abT : ∀ (l : List Oper), rM E l = true → ∀ (i : Nat) (oi : Oper), l[i]? = some oi → cW E oi.op = true → oi.dst.isSome = true := fun l h i oi hi hn => by
  have := List.all_eq_true.1 h oi (List.mem_of_getElem? hi)
  rw [hn] at this; simp at this; exact Option.isSome_iff_exists.2 (by obtain ⟨x, hx⟩ := Option.isSome_iff_exists.1 this.1; exact ⟨x, hx⟩)
 rw [if_neg htl] at fF qZ
 have m8 : ∀ i oi, i < ops.size - tl → ops[i]? = some oi → cW E oi.op = true → oi.dst.isSome = true := fun i oi h1 hi => abT _ qZ i oi (by rw [List.getElem?_take, if_pos h1]; simpa using hi)
 simp only [Bool.and_eq_true, decide_eq_true_eq] at fF
 obtain ⟨hle, hB⟩ := fF
 simp only [Region.lexTailB, Bool.and_eq_true, decide_eq_true_eq] at hB
 obtain ⟨⟨⟨⟨arB, xF⟩, hs⟩, hc⟩, agP⟩ := hB
 have hl := mO (c0 := σ.clock) (ops.toList.take (ops.size - tl)) 0 _ _ (fun j hj => by
  have hj' : j < ops.size - tl := by simpa using hj
  simp [hj']) qZ (by simp [rk]) h
 have VU : HeadInv .any ops (ops.size - tl) (Array.replicate ops.size false) :=
  ⟨by simp, fun j oj _ hl => (by rw [getD_replicate_false] at hl; cases hl), fun t _ ht => getD_in (by simpa using ht) (getD_replicate_false _ _)⟩
 have AZ : (ops.toList.take (ops.size - tl)).length = ops.size - tl := by simp
 have VV : (ops.toList.drop (ops.size - tl)).length = ops.size - (ops.size - tl) := by simp
 have H := pT (E := E) (md := .any) (n := ops.size - tl) (g := ops.size - (ops.size - tl)) m8 (fun aY inv i hi KG t ht => tail_waits hs hc xF inv _ i rfl hi KG t ht) (ops.toList.take (ops.size - tl)) 0 _ _ (fun j hj => by
  rw [AZ] at hj
  simp [hj]) (by rw [AZ]; simp) VU (by rw [AZ]; exact agP) hl
 have := jV (E := E) (md := .any) (g := ops.size - (ops.size - tl)) (Q := Q) (m := n) hd (fun aY st a' w' hL jZ => by
  obtain ⟨h1, h2⟩ := hL
  have h3 := hT _ a' w' h2 (jZ.mono fun v hv => by have := LD hv; simpa using this)
  have h4 := wpAny_of_seq (md := .any) (Q' := Q) (ops.toList.drop (ops.size - tl)) (ops.size - tl) aY a' w' (fun j => by simp [List.getElem?_drop]) (by rw [VV]; exact h1) h3
  rwa [VV] at h4) _ _ _ _ _ (by simp) H (hU0 _ _)
 rw [AZ, show ops.size - tl + (ops.size - (ops.size - tl)) = ops.size by omega] at this
 exact this
end
theorem W.ao3 {E : Env} {n : Nat} {tl : Nat → Nat} {Q : PX → PS → Prop} {f : Nat → PV} {rows : Rows} {clk : Nat} {id : Nat} {ops : List Oper} {y : Code} (m : Nat) {o : Oper} {r : List Oper} (hm : tl id = m + 1) (ho : ops.drop (ops.length - (m + 1)) = o :: r) (hg : o.guard = none)
  (h : ∀ K : PS → Prop, (∀ σ, W E n tl y Q σ → K σ) → go (aN E ops clk 0 (ops.take (ops.length - (m + 1))) (fun σ => BL E o (aK E ops r K) σ) ⟨f, rows, fun _ _ => False, fun _ _ => False⟩)) : W E n tl (.seq (.region id ops.toArray true) y) Q ⟨f, rows, clk⟩ := by
 refine W.seq ?_
 intro fF w0 S0 G a w Q' hR hQ
 have ajo : oT E n (tl id) ops.toArray true = true := by simpa [eB] using fF
 have hd : ∀ o ∈ ops, ∀ t, o.dst = some t → t < n := fun o ho t ht => by
  simp only [oT, Bool.and_eq_true] at ajo
  have := Array.all_eq_true_iff_forall_mem.1 ajo.1 o (by simpa using ho)
  simpa [ht] using this
 have h1 := h (fun σ => W E n tl y Q σ) fun _ h => h
 have rL : ∀ x ∈ o :: r, x ∈ ops := fun x hx => by rw [← ho] at hx; exact List.mem_of_mem_drop hx
 refine BQ (T := fun σ => BL E o (aK E ops r (fun σ => W E n tl y Q σ)) σ) ajo (by omega) (by rw [hm]; exact h1) hR fun σ' a' w' hT jZ => ?_
 rw [hm]
 have e : ops.toArray.toList.drop (ops.toArray.size - (m + 1)) = o :: r := by simpa using ho
 rw [e]
 unfold wpList
 rw [if_pos (by simp [Region.wanted, hg])]
 refine .inl (r5 hT jZ (hd o (rL o (by simp))) fun σ2 a2 w2 hk hR2 => ?_)
 exact fO (E := E) (ops := ops.toArray) (fun σ3 a3 w3 hk3 hR3 => hQ .normal σ3 a3 w3 hk3 hR3) _ σ2 a2 w2 (fun o ho => hd o (rL o (by simp [ho]))) hk hR2
end Pm
namespace Go.Proofs.YtbbjgncblhfegaaGreat
open Go Pm
open ZX hiding N W
theorem l8 {α β : Type} {c : Prop} [Decidable c] (f g : α → β) (x : α) : (if c then f else g) x = if c then f x else g x := by split <;> rfl
def GL (v : Rat → Nat) : Nat → Rat → Rat → List (Rat × Rat)
 | 0, lo, hi => if v lo = v hi then [] else [(lo, hi)]
 | k + 1, lo, hi => if v lo = v hi then [] else if v lo = v hi + 1 then [(lo, hi)] else GL v k lo ((lo + hi) / 2) ++ GL v k ((lo + hi) / 2) hi
theorem vD {lo hi : Rat} (h : lo < hi) : lo < (lo + hi) / 2 ∧ (lo + hi) / 2 < hi := by
 have h1 : (lo + hi) / 2 * 2 = lo + hi := Rat.div_mul_cancel (by decide)
 exact ⟨by grind, by grind⟩
theorem uC {lo hi δ : Rat} {k : Nat} (h : hi - lo ≤ δ * 2 ^ (k + 1)) : (lo + hi) / 2 - lo ≤ δ * 2 ^ k ∧ hi - (lo + hi) / 2 ≤ δ * 2 ^ k := by
 have h1 : (lo + hi) / 2 * 2 = lo + hi := Rat.div_mul_cancel (by decide)
 rw [Rat.pow_succ] at h
 generalize (2 : Rat) ^ k = p at *
 exact ⟨by grind, by grind⟩
structure Gr (D : Nat) (B : Rat) (j : Nat) (q : Rat) : Prop where
 z : ∃ z : Int, q * ((D * 2 ^ j : Nat) : Int) = (z : Rat)
 b : Ab q B
theorem Gr.mono {D : Nat} {B q : Rat} {i j : Nat} (h : Gr D B i q) (hij : i ≤ j) : Gr D B j q := by
 obtain ⟨⟨z, hz⟩, hb⟩ := h
 obtain ⟨k, rfl⟩ : ∃ k, j = i + k := ⟨j - i, by omega⟩
 refine ⟨⟨z * (2 ^ k : Nat), ?_⟩, hb⟩
 rw [Rat.intCast_mul, ← hz, Nat.pow_add, ← Nat.mul_assoc, Int.natCast_mul (D * 2 ^ i), Rat.intCast_mul]
 grind
theorem Gr.GI {D : Nat} {B p q : Rat} {j : Nat} (hp : Gr D B j p) (hq : Gr D B j q) : Gr D B (j + 1) ((p + q) / 2) := by
 obtain ⟨⟨y, hy⟩, b1, b2⟩ := hp
 obtain ⟨⟨z, hz⟩, b3, b4⟩ := hq
 have h1 : (p + q) / 2 * 2 = p + q := Rat.div_mul_cancel (by decide)
 refine ⟨⟨y + z, ?_⟩, by grind, by grind⟩
 rw [Rat.intCast_add, ← hy, ← hz, Nat.pow_succ, ← Nat.mul_assoc, Int.natCast_mul (D * 2 ^ j), Rat.intCast_mul]
 have h2 : (((2 : Nat) : Int) : Rat) = 2 := rfl
 rw [h2]
 generalize (((D * 2 ^ j : Nat) : Int) : Rat) = M at *
 grind
theorem Gr.sq {D d β j : Nat} {q : Rat} (h : Gr D (2 ^ β) j q) (h0 : 1 ≤ D) (hD : D ≤ 2 ^ d) : SQ (β + d + j + 1) q := by
 obtain ⟨⟨z, hz⟩, hb⟩ := h
 have hM : 1 ≤ D * 2 ^ j := Nat.mul_pos h0 (Nat.two_pow_pos _)
 have hM2 : D * 2 ^ j ≤ 2 ^ (d + j) := by rw [Nat.pow_add]; exact Nat.mul_le_mul_right _ hD
 have hMq : (0 : Rat) < (((D * 2 ^ j : Nat) : Int) : Rat) := Rat.intCast_pos.2 (by omega)
 have hzb : z.natAbs ≤ 2 ^ (β + d + j) := by
  have h1 : Ab (z : Rat) (((2 ^ β * (D * 2 ^ j) : Nat) : Int) : Rat) := by
   rw [← hz, Int.natCast_mul (2 ^ β), Rat.intCast_mul, FV]
   exact hb.mul ⟨by grind, Rat.le_refl⟩
  obtain ⟨h2, h3⟩ := h1
  rw [← Rat.intCast_neg] at h2
  have h4 := Rat.intCast_le_intCast.1 h2
  have h5 := Rat.intCast_le_intCast.1 h3
  have h6 : 2 ^ β * (D * 2 ^ j) ≤ 2 ^ (β + d + j) := by
   rw [Nat.add_assoc, Nat.pow_add]; exact Nat.mul_le_mul_left _ hM2
  omega
 have e := NO (n := z) (d := ((D * 2 ^ j : Nat) : Int)) (by omega) hz.symm
 have sH : ((D * 2 ^ j : Nat) : Int) ≠ 0 := by omega
 have SW := tH z ((D * 2 ^ j : Nat) : Int) sH
 have G0 := tI z ((D * 2 ^ j : Nat) : Int) sH
 rw [if_neg (by omega)] at SW G0
 rw [e] at SW G0
 have b1 : q.num.natAbs ≤ z.natAbs := by rw [SW]; exact Int.natAbs_ediv_le_natAbs _ _
 have b2 : ((q.den : Int)).natAbs ≤ D * 2 ^ j := by rw [G0]; exact Nat.le_trans (Int.natAbs_ediv_le_natAbs _ _) (by omega)
 have hp : ∀ i, 2 ^ i < 2 ^ (i + 1) := fun i => Nat.pow_lt_pow_right (by decide) (by omega)
 refine ⟨cS (by decide) (Nat.lt_of_le_of_lt (Nat.le_trans b1 hzb) (hp _)), cS (by decide) (Nat.lt_of_le_of_lt (Nat.le_trans b2 hM2) ?_), by omega⟩
 exact Nat.pow_lt_pow_right (by decide) (by omega)
structure Cut (v : Rat → Nat) (B δ : Rat) : Prop where
 cD : ∀ a b, a ≤ b → v b ≤ v a
 qN : ∀ a b, Ab a B → Ab b B → a < b → b - a ≤ δ → v a ≤ v b + 1
theorem Cut.leaf {v : Rat → Nat} {B δ : Rat} (C : Cut v B δ) {lo hi : Rat} (DO : Ab lo B) (RE : Ab hi B) (h : lo < hi) (hd : hi - lo ≤ δ) (sH : v lo ≠ v hi) : v lo = v hi + 1 := by
 have := C.qN lo hi DO RE h hd
 have := C.cD lo hi (Rat.le_of_lt h)
 omega
theorem qK {v : Rat → Nat} {D : Nat} {B δ : Rat} (C : Cut v B δ) : ∀ (k j : Nat) (lo hi : Rat), Gr D B j lo → Gr D B j hi → lo < hi → hi - lo ≤ δ * 2 ^ k →
  (∀ p ∈ GL v k lo hi, Gr D B (j + k) p.1 ∧ Gr D B (j + k) p.2 ∧ lo ≤ p.1 ∧ p.1 < p.2 ∧ p.2 ≤ hi ∧ v p.1 = v p.2 + 1) ∧ (GL v k lo hi).length = v lo - v hi ∧ (GL v k lo hi).Pairwise fun p q => p.2 ≤ q.1
 | 0, j, lo, hi, g1, g2, h, hd => by
  rw [GL]
  split
  ·rename_i he
   exact ⟨fun p hp => absurd hp List.not_mem_nil, by rw [he]; simp, List.Pairwise.nil⟩
  ·rename_i he
   have := C.leaf g1.b g2.b h (by rw [Rat.pow_zero, Rat.mul_one] at hd; exact hd) he
   refine ⟨fun p hp => ?_, by simp; omega, List.pairwise_singleton _ _⟩
   rw [List.mem_singleton] at hp; subst hp
   exact ⟨g1, g2, Rat.le_refl, h, Rat.le_refl, this⟩
 | k + 1, j, lo, hi, g1, g2, h, hd => by
  rw [GL]
  split
  ·rename_i he
   exact ⟨fun p hp => absurd hp List.not_mem_nil, by rw [he]; simp, List.Pairwise.nil⟩
  ·rename_i he
   split
   ·rename_i TX
    refine ⟨fun p hp => ?_, by simp; omega, List.pairwise_singleton _ _⟩
    rw [List.mem_singleton] at hp; subst hp
    exact ⟨g1.mono (by omega), g2.mono (by omega), Rat.le_refl, h, Rat.le_refl, TX⟩
   ·obtain ⟨m1, m2⟩ := vD h
    obtain ⟨d1, d2⟩ := uC hd
    have gm := g1.GI g2
    obtain ⟨a1, a2, a3⟩ := qK C k (j + 1) lo ((lo + hi) / 2) (g1.mono (by omega)) gm m1 d1
    obtain ⟨b1, b2, b3⟩ := qK C k (j + 1) ((lo + hi) / 2) hi gm (g2.mono (by omega)) m2 d2
    have n1 := C.cD lo ((lo + hi) / 2) (Rat.le_of_lt m1)
    have n2 := C.cD ((lo + hi) / 2) hi (Rat.le_of_lt m2)
    rw [show j + 1 + k = j + (k + 1) by omega] at a1 b1
    generalize (lo + hi) / 2 = m at *
    refine ⟨fun p hp => ?_, by rw [List.length_append, a2, b2]; omega, List.pairwise_append.2 ⟨a3, b3, fun p hp q hq => ?_⟩⟩
    ·rcases List.mem_append.1 hp with hp | hp
     ·obtain ⟨c1, c2, c3, c4, c5, c6⟩ := a1 p hp
      exact ⟨c1, c2, c3, c4, by grind, c6⟩
     ·obtain ⟨c1, c2, c3, c4, c5, c6⟩ := b1 p hp
      exact ⟨c1, c2, by grind, c4, c5, c6⟩
    ·obtain ⟨c1, c2, c3, c4, c5, c6⟩ := a1 p hp
     obtain ⟨d1, d2, d3, d4, d5, d6⟩ := b1 q hq
     grind
theorem SQ.mono {u w : Nat} {q : Rat} (h : SQ u q) (hu : u ≤ w) : SQ w q := ⟨Nat.le_trans h.n2 hu, Nat.le_trans h.d2 hu, Nat.le_trans h.hu hu⟩
theorem SQ.LLs {u : Nat} {q : Rat} (h : SQ u q) {k : Nat} (hu : u ≤ k) : sz LL q.num ≤ k ∧ sz LL (q.den : Int) ≤ k := ⟨Nat.le_trans h.nL hu, Nat.le_trans h.dL hu⟩
theorem SQ.LLt {u : Nat} {q : Rat} (h : SQ u q) {k : Nat} (hu : u < k) : sz LL q.num < k ∧ sz LL (q.den : Int) < k := ⟨Nat.lt_of_le_of_lt h.nL hu, Nat.lt_of_le_of_lt h.dL hu⟩
structure jB (s n : Nat) (f : ZX) : Prop where
 lay : uL s n f
 AG : 1 ≤ n
 nf : Nf f
 sq : Go.Proofs.YtbbjgncblhfegaaGreat.sq f = f
 hs : s ≤ 5000000
namespace jB
variable {s n : Nat} {f : ZX} (I : jB s n f)
include I
theorem ch : Ch s n f := ⟨I.lay.bz, I.lay.hn, I.AG, Nat.le_trans (Nat.mul_le_mul_right _ (by unfold qb; omega)) I.lay.hC⟩
theorem s1 : 1 ≤ s := by
 have h1 := I.lay.hs
 have h2 := I.AG
 rcases Nat.eq_zero_or_pos s with h | h
 ·rw [h] at h1; simp at h1; omega
 ·exact h
theorem hb : ∀ p ∈ bE f, BZ 4500000000 n p := I.ch.all.1
theorem hl : (bE f).length ≤ 21 := I.ch.all.2
theorem gz1 : gz f (bO f) = 1 := by
 have := age I.nf.ne
 rwa [I.sq] at this
theorem QX : A3 f (bO f) := fun d h1 h2 => by
 have h3 := (dV f (bO f)).least h1 h2
 rw [I.gz1] at h3
 have := h3.pI ZX.pH
 rwa [ZX.wJ] at this
theorem T8 : xC (bE f) f := I.ch.T8 I.nf.ne I.gz1
theorem S : uB f (vt (bE f)) := ⟨I.nf.ne, I.QX, _, I.T8, rfl⟩
theorem szf : ∀ c ∈ f.l, c.natAbs ≤ 2 ^ s := fun c hc => by
 have h1 := kR (b := 2) (by decide) c
 have h2 := Nat.pow_le_pow_right (show 0 < 2 by decide) (I.ch.bz.sz c hc)
 omega
theorem cut (β : Nat) : ∃ δ : Rat, 0 < δ ∧ δ * 2 ^ lk s n 5 β = 1 ∧ Cut (vt (bE f)) (2 ^ β) δ := by
 obtain ⟨δ, h1, h2⟩ := vC (lk s n 5 β)
 have hn := I.ch.hn
 obtain ⟨h3, _⟩ := vB I.T8 (s := s) (n := n) (l := 5) (β := β) I.nf.ne I.szf I.ch.bz.N (by omega) I.QX (by rw [h2]; exact Rat.le_refl)
 refine ⟨δ, h1, h2, fun a b fH => I.T8.cD fH, fun a b ha hb fH hd => ?_⟩
 have := h3.turns a b ha hb fH hd
 rcases NW f a b with h4 | h4 <;> omega
end jB
section
variable {c : List ZX} {n u : Nat} {p q : Rat} (hb : ∀ p ∈ c, BZ 4500000000 n p) (hn : n ≤ 20) (hl : c.length ≤ 21) (hp : SQ u p) (hq : SQ u q) (hu : u ≤ 1000000000)
include hb hn hl hp hq hu
theorem aaA : aL env.P 106 [CH c, RT p, RT q] (.int .i64 (if q < p then 0 else (vt c p : Int) - vt c q)) := by
 have z1 := DG hq.nL hq.dL hp.nL hp.dL (by omega) (fX q) (fX p) ⟨hq.nL, hq.dL⟩ ⟨hp.nL, hp.dL⟩
 have b1 := FI (by omega) z1 (aao hb hn hl hp hu) (aao hb hn hl hq hu)
 rw [AM, AM] at b1
 simp only [iP] at b1
 exact b1
theorem ajp : aL env.P 59 [aJ zq c, RR p, RR q] (.int .i64 (if q < p then 0 else (vt c p : Int) - vt c q)) := by
 have yy : ∀ {v : Int}, sz 2 v ≤ u → sz 2 v ≤ YY := fun h => by simp only [YY]; omega
 have b1 := JT (yy hp.n2) (yy hp.d2) (yy hq.n2) (yy hq.d2) (by omega) (aan hb hn hl hp hu) (aan hb hn hl hq hu)
 have hcm : (q.num * (p.den : Int) < p.num * (q.den : Int)) = (q < p) := propext (by rw [← iP]; exact mP.symm)
 rw [AM, AM] at b1
 simp only [hcm] at b1
 rw [dP, dP]
 exact b1
end
abbrev tc (q : Rat) : List PV := [.bool (decide (q.num < 0)), us (aR LL q.num.natAbs), .bool (decide ((q.den : Int) < 0)), us (aR LL (q.den : Int).natAbs)]
def ga (f : ZX) (p : Rat × Rat) : List PV := Po f.l :: (tc p.1 ++ tc p.2)
@[simp] theorem aua {f : ZX} {p : Rat × Rat} : ga f p = Po f.l :: (tc p.1 ++ tc p.2) := rfl
@[simp] theorem vE {f : ZX} {l : List (Rat × Rat)} : bC 9 (emap (ga f) l) = True := cR fun _ => rfl
@[simp] theorem ajq {v e n : Nat} {f : ZX} {l : List (Rat × Rat)} : cO (some ⟨v, e, n, emap (ga f) l⟩) = True := cH fun _ => rfl
theorem xX {f : ZX} {l : List (Rat × Rat)} : ∀ x ∈ emap (ga f) l, ∀ p ∈ x, b5 p = true := fun x hx p hp => by
 simp only [emap, List.mem_map] at hx
 obtain ⟨r, _, rfl⟩ := hx
 simp at hp
 rcases hp with rfl | rfl | rfl | rfl | rfl | rfl | rfl | rfl | rfl <;> rfl
theorem aaB {f : ZX} {c : List ZX} {lo hi : Rat} : jL env.P 85 [Po f.l, CH c, RT lo, RT hi, .int .i64 0] 44 9 [] := by
 show jL env.P _ [Po f.l, .rd [aJ zp c], T2 lo.num lo.den, T2 hi.num hi.den, .int .i64 0] _ _ _
 generalize lo.num = ln at *
 generalize (lo.den : Int) = ld at *
 generalize hi.num = hn at *
 generalize (hi.den : Int) = hd at *
 generalize aJ zp c = X at *
 refine kW (E := env) (fun id => if id = 5 then 2 else if id = 8 then 2 else 0) (t := 10) [(0, Po f.l), (1, .rd [X]), (2, T2 ln ld), (3, T2 hn hd), (4, .int .i64 0)] Tryz.func85 rfl (by kernel_rfl) (by kernel_rfl) (show 5 ≤ 48 by decide) rfl (by simp) ?_
 refine W.sr ?_; simp (disch := omega) [gw]; refine W.lx [0, 1, 4, 7, 8] ?_; simp
 refine W.seq ?_
 refine W.sr ?_; simp (disch := omega) [gw]; refine W.lx [0, 1, 4, 7, 8, 13] ?_; simp
 refine W.block ?_
 refine W.sr ?_; simp (disch := omega) [gw]; refine W.lx [0, 1, 4, 7, 8, 13, 14] ?_; simp
 refine W.cond ⟨_, rfl, fun h => ?_, fun h => ?_⟩
 ·refine W.sr ?_; simp (disch := omega) [gw]; refine W.lx [10] ?_; simp
  refine W.nil 10 10 44 9 (by simp) (by decide) (fun K hK => ?_)
  simp
  refine hK _ ?_
  refine W.ret ?_
  exact ⟨10, _, by simp; exact rfl, by simp, fun x hx => by cases hx⟩
 ·simp at h
theorem ad7 {s n : Nat} {f : ZX} (I : jB s n f) {c : List ZX} {lo hi : Rat} {u : Nat} (q1 : SQ u lo) (q2 : SQ u hi) (hu : u ≤ 1000000000) : jL env.P 85 [Po f.l, CH c, RT lo, RT hi, .int .i64 1] 44 9 (emap (ga f) [(lo, hi)]) := by
 have N1 := iD (x := f.l) (I.ch.bz.pb (by have := I.hs; omega) (by have := I.ch.hn; omega))
 rw [f.c] at N1
 obtain ⟨l1, l2⟩ := q1.LLt (show u < 1099511627770 by omega)
 obtain ⟨l3, l4⟩ := q2.LLt (show u < 1099511627770 by omega)
 have M1 := AK l1 l2
 have M2 := AK l3 l4
 rw [fX] at M1 M2
 rw [show emap (ga f) [(lo, hi)] = [Po f.l :: (tc lo ++ tc hi)] from rfl]
 show jL env.P _ [Po f.l, .rd [aJ zp c], T2 lo.num lo.den, T2 hi.num hi.den, .int .i64 1] _ _ _
 replace M1 : aL env.P 117 [T2 lo.num lo.den, .sl []] (T2 lo.num lo.den) := M1
 replace M2 : aL env.P 117 [T2 hi.num hi.den, .sl []] (T2 hi.num hi.den) := M2
 clear l1 l2 l3 l4 q1 q2
 simp only [tc]
 generalize lo.num = ln at *
 generalize (lo.den : Int) = ld at *
 generalize hi.num = hn at *
 generalize (hi.den : Int) = hd at *
 generalize aJ zp c = X at *
 refine kW (E := env) (fun id => if id = 5 then 2 else if id = 8 then 2 else 0) (t := 10) [(0, Po f.l), (1, .rd [X]), (2, T2 ln ld), (3, T2 hn hd), (4, .int .i64 1)] Tryz.func85 rfl (by kernel_rfl) (by kernel_rfl) (show 5 ≤ 48 by decide) rfl (by simp) ?_
 refine W.sr ?_; simp (disch := omega) [gw]; refine W.lx [0, 1, 4, 7, 8] ?_; simp
 refine W.seq ?_
 refine W.sr ?_; simp (disch := omega) [gw]; refine W.lx [0, 1, 4, 7, 8, 13] ?_; simp
 refine W.block ?_
 refine W.sr ?_; simp (disch := omega) [gw]; refine W.lx [0, 1, 4, 7, 8, 13, 14] ?_; simp
 refine W.cond ⟨_, rfl, fun h => ?_, fun h => ?_⟩
 ·simp at h
 ·refine W.sr ?_; simp (disch := omega) [gw]; refine W.lx [0, 1, 4, 7, 8, 16] ?_; simp
  refine W.cond ⟨_, rfl, fun h => ?_, fun h => ?_⟩
  ·refine W.ao3 1 rfl rfl rfl (fun K hK => ?_)
   simp (disch := omega) [gw]
   refine aA N1 ?_
   simp (disch := omega) [gw]
   refine aA M1 ?_
   simp (disch := omega) [gw]
   refine aA M2 ?_
   simp (disch := omega) [gw]
   refine W.lw [10] hK ?_; clear hK K; simp
   refine W.ret ?_
   exact ⟨25, _, by simp; exact rfl, by simp, fun x hx p hp => by
    simp at hx; subst hx
    simp at hp
    rcases hp with rfl | rfl | rfl | rfl | rfl | rfl | rfl | rfl | rfl <;> rfl⟩
  ·simp at h
theorem aaC {f : ZX} {c : List ZX} {lo hi : Rat} {n k : Int} {la lb : List (Rat × Rat)} (hn : 2 ≤ n ∧ n ≤ 21) (hk : 0 ≤ k ∧ k ≤ n) (SR : la.length ≤ 21) (hlb : lb.length ≤ 21)
  (M : aL env.P 118 [RT lo, RT hi] (RT ((lo + hi) / 2))) (B : aL env.P 106 [CH c, RT lo, RT ((lo + hi) / 2)] (.int .i64 k))
  (h1 : jL env.P 85 [Po f.l, CH c, RT lo, RT ((lo + hi) / 2), .int .i64 k] 44 9 (emap (ga f) la)) (h2 : jL env.P 85 [Po f.l, CH c, RT ((lo + hi) / 2), RT hi, .int .i64 (n - k)] 44 9 (emap (ga f) lb)) :
  jL env.P 85 [Po f.l, CH c, RT lo, RT hi, .int .i64 n] 44 9 (emap (ga f) (la ++ lb)) := by
 rw [← H0]
 have el1 : (emap (ga f) la).length ≤ 21 := by simpa [emap] using SR
 have el2 : (emap (ga f) lb).length ≤ 21 := by simpa [emap] using hlb
 have p1 := xX (f := f) (l := la)
 have p2 := xX (f := f) (l := lb)
 have a1 : bC 9 (emap (ga f) la) = True := vE
 have a2 : bC 9 (emap (ga f) lb) = True := vE
 show jL env.P _ [Po f.l, .rd [aJ zp c], T2 lo.num lo.den, T2 hi.num hi.den, .int .i64 n] _ _ _
 replace M : aL env.P 118 [T2 lo.num lo.den, T2 hi.num hi.den] (T2 ((lo + hi) / 2).num ((lo + hi) / 2).den) := M
 replace B : aL env.P 106 [.rd [aJ zp c], T2 lo.num lo.den, T2 ((lo + hi) / 2).num ((lo + hi) / 2).den] (.int .i64 k) := B
 replace h1 : jL env.P 85 [Po f.l, .rd [aJ zp c], T2 lo.num lo.den, T2 ((lo + hi) / 2).num ((lo + hi) / 2).den, .int .i64 k] 44 9 (emap (ga f) la) := h1
 replace h2 : jL env.P 85 [Po f.l, .rd [aJ zp c], T2 ((lo + hi) / 2).num ((lo + hi) / 2).den, T2 hi.num hi.den, .int .i64 (n - k)] 44 9 (emap (ga f) lb) := h2
 generalize ((lo + hi) / 2).num = mn at *
 generalize (((lo + hi) / 2).den : Int) = md at *
 generalize lo.num = ln at *
 generalize (lo.den : Int) = ld at *
 generalize hi.num = xF at *
 generalize (hi.den : Int) = hd at *
 generalize aJ zp c = X at *
 generalize emap (ga f) la = ea at *
 generalize emap (ga f) lb = eb at *
 have w1 : IntKind.wrap .i64 (n - k) = n - k := wrap_i64 (by omega) (by omega)
 refine kW (E := env) (fun id => if id = 5 then 2 else if id = 8 then 2 else 0) (t := 10) [(0, Po f.l), (1, .rd [X]), (2, T2 ln ld), (3, T2 xF hd), (4, .int .i64 n)] Tryz.func85 rfl (by kernel_rfl) (by kernel_rfl) (show 5 ≤ 48 by decide) rfl (by simp) ?_
 refine W.sr ?_; simp (disch := omega) [gw]; refine W.lx [0, 1, 4, 7, 8] ?_; simp
 refine W.seq ?_
 refine W.sr ?_; simp (disch := omega) [gw]; refine W.lx [0, 1, 4, 7, 8, 13] ?_; simp
 refine W.block ?_
 refine W.sr ?_; simp (disch := omega) [gw]; refine W.lx [0, 1, 4, 7, 8, 13, 14] ?_; simp
 refine W.cond ⟨_, rfl, fun h => ?_, fun h => ?_⟩
 ·simp at h; omega
 ·refine W.sr ?_; simp (disch := omega) [gw]; refine W.lx [0, 1, 4, 7, 8, 16] ?_; simp
  refine W.cond ⟨_, rfl, fun h => ?_, fun h => ?_⟩
  ·simp at h; omega
  ·refine W.skip ?_
   refine W.sr ?_
   simp (disch := omega) [gw]
   refine aA M ?_
   simp (disch := omega) [gw]
   refine W.lx [0, 1, 4, 7, 8, 11] ?_; simp
   refine W.sr ?_
   simp (disch := omega) [gw]
   refine aA B ?_
   simp (disch := omega) [gw]
   refine W.lx [0, 1, 4, 7, 8, 11, 12] ?_; simp
   refine W.sd ?_
   rw [show (if 8 = 5 then 2 else if 8 = 8 then 2 else 0) = 1 + 1 from rfl, eD]
   simp (disch := omega) [gw]
   refine W8 h1 rfl trivial ?_
   simp (disch := omega) [gw, w1, l8]
   refine W8 h2 rfl trivial ?_
   simp (disch := omega) [gw, a1, a2, l8]
   refine W.lx [10] ?_; simp
   refine W.ret ?_
   exact ⟨38, 5, by simp, by simp, fun x hx => by
    rcases List.mem_append.1 hx with hx | hx
    ·exact p1 x hx
    ·exact p2 x hx⟩
theorem aaD {s n : Nat} {f : ZX} (I : jB s n f) {D d β J : Nat} {δ : Rat} (CZ : 1 ≤ D) (hD : D ≤ 2 ^ d) (C : Cut (vt (bE f)) (2 ^ β) δ) (hu : β + d + J + 1 ≤ 1000000000) : ∀ (k j : Nat) (lo hi : Rat), j + k ≤ J → Gr D (2 ^ β) j lo → Gr D (2 ^ β) j hi → lo < hi → hi - lo ≤ δ * 2 ^ k →
  jL env.P 85 [Po f.l, CH (bE f), RT lo, RT hi, .int .i64 ((vt (bE f) lo : Int) - vt (bE f) hi)] 44 9 (emap (ga f) (GL (vt (bE f)) k lo hi)) := by
 have leaf : ∀ (j : Nat) (lo hi : Rat), j ≤ J → Gr D (2 ^ β) j lo → Gr D (2 ^ β) j hi → vt (bE f) lo = vt (bE f) hi + 1 → jL env.P 85 [Po f.l, CH (bE f), RT lo, RT hi, .int .i64 ((vt (bE f) lo : Int) - vt (bE f) hi)] 44 9 (emap (ga f) [(lo, hi)]) := fun j lo hi hj g1 g2 he => by
  rw [show (vt (bE f) lo : Int) - vt (bE f) hi = 1 by omega]
  exact ad7 I ((g1.mono hj).sq CZ hD) ((g2.mono hj).sq CZ hD) hu
 have agk : ∀ (lo hi : Rat), vt (bE f) lo = vt (bE f) hi → jL env.P 85 [Po f.l, CH (bE f), RT lo, RT hi, .int .i64 ((vt (bE f) lo : Int) - vt (bE f) hi)] 44 9 (emap (ga f) []) := fun lo hi he => by
  rw [show (vt (bE f) lo : Int) - vt (bE f) hi = 0 by omega]
  exact aaB
 intro k
 induction k with
 | zero =>
  intro j lo hi hj g1 g2 gL hd
  rw [GL]
  by_cases he : vt (bE f) lo = vt (bE f) hi
  ·rw [if_pos he]; exact agk lo hi he
  ·rw [if_neg he]; exact leaf j lo hi (by omega) g1 g2 (C.leaf g1.b g2.b gL (by rw [Rat.pow_zero, Rat.mul_one] at hd; exact hd) he)
 | succ k ih =>
  intro j lo hi hj g1 g2 gL hd
  rw [GL]
  by_cases he : vt (bE f) lo = vt (bE f) hi
  ·rw [if_pos he]; exact agk lo hi he
  ·rw [if_neg he]
   by_cases TX : vt (bE f) lo = vt (bE f) hi + 1
   ·rw [if_pos TX]; exact leaf j lo hi (by omega) g1 g2 TX
   ·rw [if_neg TX]
    obtain ⟨m1, m2⟩ := vD gL
    obtain ⟨d1, d2⟩ := uC hd
    have gm := g1.GI g2
    have n1 := C.cD lo ((lo + hi) / 2) (Rat.le_of_lt m1)
    have n2 := C.cD ((lo + hi) / 2) hi (Rat.le_of_lt m2)
    have hv1 := Nat.le_trans (agf (bE f) lo) I.hl
    obtain ⟨_, a2, _⟩ := qK C k (j + 1) lo ((lo + hi) / 2) (g1.mono (by omega)) gm m1 d1
    obtain ⟨_, b2, _⟩ := qK C k (j + 1) ((lo + hi) / 2) hi gm (g2.mono (by omega)) m2 d2
    have r1 := ih (j + 1) lo ((lo + hi) / 2) (by omega) (g1.mono (by omega)) gm m1 d1
    have r2 := ih (j + 1) ((lo + hi) / 2) hi (by omega) gm (g2.mono (by omega)) m2 d2
    have q1 : SQ (β + d + J + 1) lo := (g1.mono (by omega)).sq CZ hD
    have q2 : SQ (β + d + J + 1) hi := (g2.mono (by omega)).sq CZ hD
    have q3 : SQ (β + d + J + 1) ((lo + hi) / 2) := (gm.mono (by omega)).sq CZ hD
    have hM := aar (q1.LLs (Nat.le_refl _)) (q2.LLs (Nat.le_refl _)) (by omega)
    have hB := aaA I.hb I.ch.hn I.hl q1 q3 hu
    rw [if_neg (Rat.not_lt.2 (Rat.le_of_lt m1))] at hB
    refine aaC (n := (vt (bE f) lo : Int) - vt (bE f) hi) (k := (vt (bE f) lo : Int) - vt (bE f) ((lo + hi) / 2)) (by omega) (by omega) (by omega) (by omega) hM hB r1 ?_
    rw [show (vt (bE f) lo : Int) - vt (bE f) hi - ((vt (bE f) lo : Int) - vt (bE f) ((lo + hi) / 2)) = (vt (bE f) ((lo + hi) / 2) : Int) - vt (bE f) hi by omega]
    exact r2
end Go.Proofs.YtbbjgncblhfegaaGreat
namespace Go.Proofs.YtbbjgncblhfegaaGreat
open Go Pm
open ZX hiding N W
section
variable {C : List ZX} {u : Nat} (hb : ∀ p ∈ C, BZ 4500000000 20 p) (hl : C.length ≤ 21) {p q : Rat} (hp : SQ u p) (hq : SQ u q) (hu : u ≤ 1000000000)
include hb hl hp hu
include hq
end
def l1 (x : List Int) : Nat := (x.map Int.natAbs).sum
theorem gW (a : Int) (x : List Int) : l1 (a :: x) = a.natAbs + l1 x := by simp [l1]
theorem FX : l1 [] = 0 := rfl
theorem FY : ∀ x : List Int, l1 (aM x) ≤ l1 x
 | [] => Nat.le_refl _
 | a :: x => by
  have := FY x
  rw [aM]
  split
  ·rw [FX]; omega
  ·rw [gW, gW]; omega
theorem AP {α : Type} (f g : α → Int) : ∀ l : List α, l1 (l.map fun k => f k + g k) ≤ l1 (l.map f) + l1 (l.map g)
 | [] => Nat.le_refl _
 | x :: l => by
  have := AP f g l
  simp only [List.map_cons, gW]
  omega
theorem sE : ∀ (x : List Int) (n : Nat), l1 (x ++ List.replicate n 0) = l1 x
 | [], n => by simp [l1]
 | a :: x, n => by rw [List.cons_append, gW, gW, sE x n]
theorem ad8 (x y : List Int) : l1 (fU x y) ≤ l1 x + l1 y := by
 have h1 := AP (nth x) (nth y) (List.range (max x.length y.length))
 rw [mQ (by omega), mQ (by omega), sE, sE] at h1
 exact Nat.le_trans (FY _) h1
theorem aaE (a : Int) : ∀ y : List Int, l1 (y.map fun c => c * a) = a.natAbs * l1 y
 | [] => by simp [l1]
 | c :: y => by rw [List.map_cons, gW, gW, aaE a y, Int.natAbs_mul, Nat.mul_add, Nat.mul_comm]
theorem J3 : ∀ x y : List Int, l1 (eU x y) ≤ l1 x * l1 y
 | [], y => by rw [eU, FX]; omega
 | a :: x, y => by
  have h1 := J3 x y
  have h2 := ad8 (y.map fun c => c * a) (0 :: eU x y)
  rw [aaE, gW] at h2
  rw [eU, gW, Nat.add_mul]
  simp only [Int.natAbs_zero] at h2
  omega
def n1 (a : ZX) : Nat := l1 a.l
theorem FZ (a b : ZX) : n1 (a * b) ≤ n1 a * n1 b := Nat.le_trans (FY _) (J3 _ _)
theorem ao4 (x : List Int) : n1 (of x) ≤ l1 x := FY x
theorem ajr (c : Int) : n1 (K c) ≤ c.natAbs := Nat.le_trans (ao4 _) (by simp [l1])
theorem aaF {a : ZX} {m : Nat} (h : n1 a ≤ m) : ∀ k : Nat, n1 (a ^ k) ≤ m ^ k
 | 0 => ajr 1
 | k + 1 => by
  rw [pow_succ', Nat.pow_succ]
  exact Nat.le_trans (FZ _ _) (Nat.mul_le_mul (aaF h k) h)
theorem aaG : ∀ {x : List Int} {c : Int}, c ∈ x → c.natAbs ≤ l1 x
 | a :: x, c, h => by
  rw [gW]
  rcases List.mem_cons.1 h with rfl | h
  ·omega
  ·have := aaG h; omega
theorem BZ.aaH {s n : Nat} {a : ZX} (h : n1 a < 2 ^ s) (hn : ZX.N a ≤ n) : BZ s n a := ⟨hn, fun c hc => cS (by decide) (Nat.lt_of_le_of_lt (aaG hc) h)⟩
theorem ad9 (l : List Int) (i : Nat) : n1 (of (fE l i)) ≤ 9 ^ (ZX.N (of (fE l i)) - 1) ∧ 2 ≤ ZX.N (of (fE l i)) := by
 obtain ⟨_, hl, _⟩ := xT l i
 have h9 := Int.emod_nonneg (nth l i) (show (9 : Int) ≠ 0 by decide)
 have h9' := Int.emod_lt_of_pos (nth l i) (show (0 : Int) < 9 by decide)
 have h5 := Int.emod_nonneg (nth l (i + 1)) (show (5 : Int) ≠ 0 by decide)
 have h5' := Int.emod_lt_of_pos (nth l (i + 1)) (show (0 : Int) < 5 by decide)
 have h3 := Int.emod_nonneg (nth l (i + 2)) (show (3 : Int) ≠ 0 by decide)
 have h3' := Int.emod_lt_of_pos (nth l (i + 2)) (show (0 : Int) < 3 by decide)
 unfold n1 ZX.N
 rw [hl]
 unfold fE
 split
 ·simp only [gW, FX, List.length_cons, List.length_nil]
  refine ⟨?_, by omega⟩
  show _ ≤ 81
  omega
 ·simp only [gW, FX, List.length_cons, List.length_nil]
  refine ⟨?_, by omega⟩
  show _ ≤ 9
  omega
theorem J4 (l : List Int) (most : Nat) : ∀ j, n1 (c9 l most j) ≤ 9 ^ (ZX.N (c9 l most j) - 1)
 | 0 => Nat.le_trans (ajr 1) (Nat.one_le_pow _ _ (by decide))
 | j + 1 => by
  have ih := J4 l most j
  obtain ⟨h0, _⟩ := lB l most j
  obtain ⟨b1, b2, b3⟩ := xT l (3 * j)
  obtain ⟨e1, e2⟩ := FJ l (3 * j)
  obtain ⟨f1, f2⟩ := ad9 l (3 * j)
  obtain ⟨p1, p2, p3⟩ := aah b3 b1 _ e1
  show n1 (tZ l most (3 * j) (c9 l most j)) ≤ 9 ^ (ZX.N (tZ l most (3 * j) (c9 l most j)) - 1)
  unfold tZ
  split
  ·exact ih
  ·have h1 := Nat.mul_le_mul ih (aaF f1 (pL l (3 * j)))
   refine Nat.le_trans (FZ _ _) (Nat.le_trans h1 ?_)
   rw [← Nat.pow_mul, ← Nat.pow_add]
   refine Nat.pow_le_pow_right (by decide) ?_
   rw [ZX.kB h0 p2, p3, Nat.mul_comm]
   have := ZX.aG.1 h0
   omega
theorem QY (l : List Int) (most : Nat) : n1 (made l most) ≤ 3 * 9 ^ most ∧ ZX.N (made l most) ≤ most + 1 := by
 have hN := (FK l most).2.N
 refine ⟨?_, hN⟩
 have h1 := J4 l most (min 6 (l.length / 3))
 have h2 := (lB l most (min 6 (l.length / 3))).2.N
 have h3 : 9 ^ (ZX.N (c9 l most (min 6 (l.length / 3))) - 1) ≤ 9 ^ most := Nat.pow_le_pow_right (by decide) (by omega)
 unfold made
 split
 ·have h4 := FZ (K (-3)) (c9 l most (min 6 (l.length / 3)))
  have h5 := ajr (-3)
  exact Nat.le_trans h4 (Nat.mul_le_mul h5 (Nat.le_trans h1 h3))
 ·omega
theorem AQ {S τ t : Rat} (hS : 0 ≤ S) (hτ : 0 < τ) (ht : kC τ t) : ∀ {x : List Int}, Cn x → 0 < x.length → (∀ c ∈ x.dropLast, Ab (c : Rat) S) → S + (((lead x).natAbs : Int) : Rat) ≤ (((lead x).natAbs : Int) : Rat) * τ → kC (((lead x).natAbs : Int) : Rat) (qv t x)
 | [a], hc, _, _, _ => by
  have e1 : qv t [a] = (a : Rat) := by simp only [qv]; grind
  have e2 : lead [a] = a := rfl
  rw [e1, e2]
  by_cases h : 0 ≤ a
  ·right
   exact Rat.intCast_le_intCast.2 (by omega)
  ·left
   rw [← Rat.intCast_neg]
   exact Rat.intCast_le_intCast.2 (by omega)
 | a :: b :: l, hc, _, hb, hL => by
  have hl := cI (xQ hc) (by simp)
  rw [u6] at hL ⊢
  have ih := AQ hS hτ ht (xQ hc) (by simp) (fun c hc => hb c (by
   rw [List.dropLast_cons_of_ne_nil (by simp)]; exact List.mem_cons_of_mem _ hc)) hL
  obtain ⟨h4, h5⟩ := hb a (by rw [List.dropLast_cons_of_ne_nil (by simp)]; simp)
  have e1 : qv t (a :: b :: l) = a + t * qv t (b :: l) := rfl
  have hp : (0 : Rat) < (((lead (b :: l)).natAbs : Int) : Rat) := Rat.intCast_pos.2 (by omega)
  have hm := kC.mul hτ hp ht ih
  rw [e1]
  generalize (((lead (b :: l)).natAbs : Int) : Rat) = L at *
  rcases hm with h | h
  ·left; grind
  ·right; grind
theorem uD {x : List Int} (cx : Cn x) (hx : x ≠ []) {t : Rat} (ht : kC (i7 x) t) : kC 1 (qv t x) ∧ 1 ≤ i7 x := by
 have n8 := List.length_pos_iff.2 hx
 have hl := cI cx n8
 have hL : (1 : Rat) ≤ (((lead x).natAbs : Int) : Rat) := eF (by omega)
 have hm : (0 : Rat) ≤ ((oH x (x.length - 1) : Int) : Rat) := Rat.intCast_nonneg.2 (aau _ _)
 have e := NQ cx hx
 have h2 := Rat.div_mul_cancel (a := ((oH x (x.length - 1) : Int) : Rat)) (b := (((lead x).natAbs : Int) : Rat)) (by grind)
 have hw : (0 : Rat) ≤ ((oH x (x.length - 1) : Int) : Rat) / (((lead x).natAbs : Int) : Rat) := by
  refine Rat.not_lt.1 fun h => ?_
  have := Rat.mul_le_mul_of_nonneg_left hL (show 0 ≤ -(((oH x (x.length - 1) : Int) : Rat) / (((lead x).natAbs : Int) : Rat)) by grind)
  grind
 have h1 : 1 ≤ i7 x := by rw [e]; grind
 refine ⟨(AQ hm (show 0 < i7 x by grind) ht cx n8 (fun c hc => ?_) ?_).mono hL, h1⟩
 ·obtain ⟨k, hk, rfl⟩ := List.mem_iff_getElem.1 hc
  rw [List.length_dropLast] at hk
  have h3 := aav x (x.length - 1) k hk
  rw [cC (by omega)] at h3
  rw [List.getElem_dropLast]
  constructor
  ·rw [← Rat.intCast_neg]
   exact Rat.intCast_le_intCast.2 (by omega)
  ·exact Rat.intCast_le_intCast.2 (by omega)
 ·rw [e]
  generalize ((oH x (x.length - 1) : Int) : Rat) / (((lead x).natAbs : Int) : Rat) = w at *
  grind
abbrev rc (q : Rat) : List PV := [aJ aF (aR DD q.num.natAbs), .bool (decide (q.num < 0)), aJ aF (aR DD (q.den : Int).natAbs), .bool (decide ((q.den : Int) < 0))]
def qa (f : ZX) (c : List ZX) (p : Rat × Rat) : List PV := PI f.l :: aJ zq c :: (rc p.1 ++ rc p.2)
@[simp] theorem aub {f : ZX} {c : List ZX} {p : Rat × Rat} : qa f c p = PI f.l :: aJ zq c :: (rc p.1 ++ rc p.2) := rfl
@[simp] theorem ali {f : ZX} {c : List ZX} {l : List (Rat × Rat)} : bC 10 (emap (qa f c) l) = True := cR fun _ => rfl
@[simp] theorem ajs {v e n : Nat} {f : ZX} {c : List ZX} {l : List (Rat × Rat)} : cO (some ⟨v, e, n, emap (qa f c) l⟩) = True := cH fun _ => rfl
abbrev QA (f : ZX) (c : List ZX) (p : Rat × Rat) : PV := .ag (qa f c p)
def ex (f : ZX) (p : Rat × Rat) : Rat × Rat := if e p.2 f = 0 then (p.2, p.2) else p
theorem SQ.yy {u : Nat} {q : Rat} (h : SQ u q) (hu : u ≤ 1000000000) : ZR YY q := ⟨by have := h.n2; simp only [YY]; omega, by have := h.d2; simp only [YY]; omega⟩
theorem mY {p q : Rat} : dH (p.num * q.den) (q.num * p.den) = 0 ↔ p = q := by
 have h1 := iP p q
 have h2 := iP q p
 rw [mP] at h1 h2
 refine ⟨fun h => ?_, fun h => ?_⟩
 ·have h := Pm.uS.1 h
  by_cases h3 : p < q
  ·have := h1.2 h3; omega
  ·rcases Rat.le_iff_lt_or_eq.1 (Rat.not_lt.1 h3) with h4 | h4
   ·have := h2.2 h4; omega
   ·exact h4.symm
 ·rw [h]; exact xG _
abbrev c4 (n d : Int) : List PV := [aJ aF (aR DD n.natAbs), .bool (decide (n < 0)), aJ aF (aR DD d.natAbs), .bool (decide (d < 0))]
theorem NX {x : List Int} {c : List ZX} {ln ld hn hd z σ : Int} (hz : (z != 0) = false) (c1 : aL env.P 27 [R2 ln ld, R2 hn hd] (.int .i64 z)) (s1 : aL env.P 107 [PI x, R2 hn hd] (.int .i64 σ)) :
  aL env.P 112 [.ag (PI x :: aJ zq c :: (c4 ln ld ++ c4 hn hd))] (.ag (PI x :: aJ zq c :: (c4 ln ld ++ c4 hn hd))) := by
 simp only [c4]
 refine aB (E := env) (fun _ => 0) [(0, .ag (PI x :: aJ zq c :: [aJ aF (aR DD ln.natAbs), .bool (decide (ln < 0)), aJ aF (aR DD ld.natAbs), .bool (decide (ld < 0)), aJ aF (aR DD hn.natAbs), .bool (decide (hn < 0)), aJ aF (aR DD hd.natAbs), .bool (decide (hd < 0))]))] Tryz.func112 rfl (by kernel_rfl) (by kernel_rfl) (show 1 ≤ 21 by decide) (by simp) ?_
 refine W.sr ?_
 simp (disch := omega) [gw]
 refine W.lx [1, 2] ?_; simp
 refine W.seq ?_
 refine W.sr ?_
 simp (disch := omega) [gw]
 refine aA c1 ?_
 simp (disch := omega) [gw, hz]
 refine W.lx [1, 2, 16] ?_; simp
 refine W.cond ⟨_, rfl, fun h => ?_, fun h => ?_⟩
 ·simp at h
 ·refine W.skip ?_
  refine W.sr ?_; simp (disch := omega) [gw]; refine W.lx [2] ?_; simp
  refine W.ret ?_
  simp [go]
theorem aaI {x : List Int} {c : List ZX} {ln ld hn hd z σ : Int} (hz : (z != 0) = true) (hs : (σ == 0) = false) (c1 : aL env.P 27 [R2 ln ld, R2 hn hd] (.int .i64 z)) (s1 : aL env.P 107 [PI x, R2 hn hd] (.int .i64 σ)) :
  aL env.P 112 [.ag (PI x :: aJ zq c :: (c4 ln ld ++ c4 hn hd))] (.ag (PI x :: aJ zq c :: (c4 ln ld ++ c4 hn hd))) := by
 simp only [c4]
 refine aB (E := env) (fun _ => 0) [(0, .ag (PI x :: aJ zq c :: [aJ aF (aR DD ln.natAbs), .bool (decide (ln < 0)), aJ aF (aR DD ld.natAbs), .bool (decide (ld < 0)), aJ aF (aR DD hn.natAbs), .bool (decide (hn < 0)), aJ aF (aR DD hd.natAbs), .bool (decide (hd < 0))]))] Tryz.func112 rfl (by kernel_rfl) (by kernel_rfl) (show 1 ≤ 21 by decide) (by simp) ?_
 refine W.sr ?_
 simp (disch := omega) [gw]
 refine W.lx [1, 2] ?_; simp
 refine W.seq ?_
 refine W.sr ?_
 simp (disch := omega) [gw]
 refine aA c1 ?_
 simp (disch := omega) [gw, hz]
 refine aA s1 ?_
 simp (disch := omega) [gw, hs]
 refine W.lx [1, 2, 16] ?_; simp
 refine W.cond ⟨_, rfl, fun h => ?_, fun h => ?_⟩
 ·simp at h
 ·refine W.skip ?_
  refine W.sr ?_; simp (disch := omega) [gw]; refine W.lx [2] ?_; simp
  refine W.ret ?_
  simp [go]
theorem UE {x : List Int} {c : List ZX} {ln ld hn hd z σ : Int} (hz : (z != 0) = true) (hs : (σ == 0) = true) (c1 : aL env.P 27 [R2 ln ld, R2 hn hd] (.int .i64 z)) (s1 : aL env.P 107 [PI x, R2 hn hd] (.int .i64 σ)) :
  aL env.P 112 [.ag (PI x :: aJ zq c :: (c4 ln ld ++ c4 hn hd))] (.ag (PI x :: aJ zq c :: (c4 hn hd ++ c4 hn hd))) := by
 simp only [c4]
 refine aB (E := env) (fun _ => 0) [(0, .ag (PI x :: aJ zq c :: [aJ aF (aR DD ln.natAbs), .bool (decide (ln < 0)), aJ aF (aR DD ld.natAbs), .bool (decide (ld < 0)), aJ aF (aR DD hn.natAbs), .bool (decide (hn < 0)), aJ aF (aR DD hd.natAbs), .bool (decide (hd < 0))]))] Tryz.func112 rfl (by kernel_rfl) (by kernel_rfl) (show 1 ≤ 21 by decide) (by simp) ?_
 refine W.sr ?_
 simp (disch := omega) [gw]
 refine W.lx [1, 2] ?_; simp
 refine W.seq ?_
 refine W.sr ?_
 simp (disch := omega) [gw]
 refine aA c1 ?_
 simp (disch := omega) [gw, hz]
 refine aA s1 ?_
 simp (disch := omega) [gw, hs]
 refine W.lx [1, 2, 16] ?_; simp
 refine W.cond ⟨_, rfl, fun h => ?_, fun h => ?_⟩
 ·refine W.b9 (fun K hK => ?_); simp (disch := omega) [gw]
  refine W.lw [1, 2] hK ?_; clear hK K; simp
  refine W.sr ?_; simp (disch := omega) [gw]; refine W.lx [2] ?_; simp
  refine W.ret ?_
  simp [go]
 ·simp at h
theorem mZ {f : ZX} {c : List ZX} {p : Rat × Rat} : QA f c p = .ag (PI f.l :: aJ zq c :: (c4 p.1.num p.1.den ++ c4 p.2.num p.2.den)) := rfl
theorem UF {f : ZX} {c : List ZX} {p : Rat × Rat} {n u : Nat} (hb : BZ 4500000000 n f) (hn : n ≤ 20) (q1 : SQ u p.1) (q2 : SQ u p.2) (hu : u ≤ 1000000000) : aL env.P 112 [QA f c p] (QA f c (ex f p)) := by
 have c1 := k8 p.1 p.2 (q1.yy hu) (q2.yy hu)
 have hmul : n * (u + 1) ≤ 20 * (u + 1) := Nat.mul_le_mul_right _ hn
 have s1 := u5 hb q2.n2 q2.d2 q2.hu (by omega) (by show _ < 137438953472; omega)
 rw [xU] at s1
 rw [dP, dP] at c1
 by_cases h : p.1 = p.2
 ·have he : ex f p = p := by
   unfold ex; split
   ·exact Prod.ext h.symm rfl
   ·rfl
  rw [he, mZ]
  exact NX (by rw [mY.2 h]; rfl) c1 s1
 ·have hz : (dH (p.1.num * p.2.den) (p.2.num * p.1.den) != 0) = true := bne_iff_ne.2 fun h0 => h (mY.1 h0)
  by_cases h2 : e p.2 f = 0
  ·rw [show ex f p = (p.2, p.2) from if_pos h2, mZ, mZ]
   exact UE hz (by rw [h2, k9]; rfl) c1 s1
  ·rw [show ex f p = p from if_neg h2, mZ]
   exact aaI hz (by simp only [beq_eq_false_iff_ne]; exact fun h0 => h2 (fW.1 h0)) c1 s1
theorem Gr.add {D β j : Nat} {p q : Rat} (hp : Gr D (2 ^ β) j p) (hq : Gr D (2 ^ β) j q) : Gr D (2 ^ (β + 1)) j (p + q) := by
 obtain ⟨⟨y, hy⟩, b1, b2⟩ := hp
 obtain ⟨⟨z, hz⟩, b3, b4⟩ := hq
 refine ⟨⟨y + z, ?_⟩, ?_⟩
 ·rw [Rat.intCast_add, ← hy, ← hz]; grind
 ·rw [Rat.pow_succ]; exact ⟨by grind, by grind⟩
def lvl (s n : Nat) : Nat := lk s n 5 (s + 1) + s + 2
theorem aaJ {s n : Nat} (hn : n ≤ 20) : lvl s n ≤ 102 * s + 700 := by
 have h1 : (n + n) * (s + 5 + 1 + (5 + 1)) ≤ 40 * (s + 12) := Nat.mul_le_mul (by omega) (by omega)
 have h2 : (n + n) * (s + 1 + 2) ≤ 40 * (s + 3) := Nat.mul_le_mul (by omega) (by omega)
 have h3 : n * (s + 1 + 2) ≤ 20 * (s + 3) := Nat.mul_le_mul hn (by omega)
 unfold lvl lk sk
 omega
def uu (s : Nat) : Nat := 105 * s + 800
namespace jB
variable {s n : Nat} {f : ZX} (I : jB s n f)
include I
theorem f0 : f.l ≠ [] := u3 I.nf.ne
theorem uE : 1 ≤ (lead f.l).natAbs ∧ (lead f.l).natAbs ≤ 2 ^ s := by
 have h1 := cI f.c (List.length_pos_iff.2 I.f0)
 have h2 := kR (b := 2) (by decide) (lead f.l)
 have h3 := Nat.pow_le_pow_right (show 0 < 2 by decide) (fA I.ch.bz)
 omega
theorem ao5 : 1 ≤ i7 f.l := (uD f.c I.f0 (t := i7 f.l) (.inr Rat.le_refl)).2
theorem aaK : Ab (i7 f.l) (2 ^ (s + 1)) := by
 have h1 := NQ f.c I.f0
 have hL : (1 : Rat) ≤ (((lead f.l).natAbs : Int) : Rat) := eF (by have := I.uE.1; omega)
 have h2 := Rat.div_mul_cancel (a := ((oH f.l (f.l.length - 1) : Int) : Rat)) (b := (((lead f.l).natAbs : Int) : Rat)) (by grind)
 have h3 := I.ao5
 have h4 : ((oH f.l (f.l.length - 1) : Int) : Rat) ≤ 2 ^ s := by
  have h5 := kR (b := 2) (by decide) (oH f.l (f.l.length - 1))
  have h6 := Nat.pow_le_pow_right (show 0 < 2 by decide) (FT I.ch.bz (f.l.length - 1))
  exact (J1 (s := s) (by omega)).2
 have h7 := vA s
 rw [Rat.pow_succ]
 generalize (2 : Rat) ^ s = T at *
 generalize ((oH f.l (f.l.length - 1) : Int) : Rat) = m at *
 have hw : m / (((lead f.l).natAbs : Int) : Rat) ≤ T := by
  refine Rat.not_lt.1 fun h => ?_
  have h8 := Rat.mul_le_mul_of_nonneg_left hL (show 0 ≤ m / (((lead f.l).natAbs : Int) : Rat) by grind)
  grind
 exact ⟨by grind, by grind⟩
theorem AR : Gr (lead f.l).natAbs (2 ^ (s + 1)) 0 (i7 f.l) := by
 refine ⟨⟨((lead f.l).natAbs : Int) + oH f.l (f.l.length - 1), ?_⟩, I.aaK⟩
 have hL : (1 : Rat) ≤ (((lead f.l).natAbs : Int) : Rat) := eF (by have := I.uE.1; omega)
 have h1 := NQ f.c I.f0
 have h2 := Rat.div_mul_cancel (a := ((oH f.l (f.l.length - 1) : Int) : Rat)) (b := (((lead f.l).natAbs : Int) : Rat)) (by grind)
 rw [Nat.pow_zero, Nat.mul_one, Rat.intCast_add, h1]
 grind
theorem F0 : Gr (lead f.l).natAbs (2 ^ (s + 1)) 0 (-i7 f.l) := by
 obtain ⟨⟨z, hz⟩, h1, h2⟩ := I.AR
 exact ⟨⟨-z, by rw [Rat.intCast_neg, ← hz]; grind⟩, by grind, by grind⟩
theorem count : (vr (QI (bE f)) : Int) - vr (QJ (bE f)) = (vt (bE f) (-i7 f.l) : Int) - vt (bE f) (i7 f.l) := by
 have hG := I.T8
 have h1 : vr (QJ (bE f)) = vt (bE f) (i7 f.l) := NN hG fun b => ⟨1, by decide, fun x h2 _ => (uD f.c I.f0 (.inr h2)).1⟩
 have h2 : vr (QI (bE f)) = vt (bE f) (-i7 f.l) := T9 hG fun b => ⟨1, by decide, fun x _ h2 => (uD f.c I.f0 (.inl h2)).1⟩
 rw [h1, h2]
theorem aaL : -i7 f.l < i7 f.l := by have := I.ao5; grind
end jB
def gS (s n : Nat) (f : ZX) : List (Rat × Rat) := GL (vt (bE f)) (lvl s n) (-i7 f.l) (i7 f.l)
structure Ivs (f : ZX) (u : Nat) (lo hi : Rat) (l : List (Rat × Rat)) : Prop where
 mem : ∀ p ∈ l, SQ u p.1 ∧ SQ u p.2 ∧ lo ≤ p.1 ∧ p.1 < p.2 ∧ p.2 ≤ hi ∧ vt (bE f) p.1 = vt (bE f) p.2 + 1
 len : l.length = vt (bE f) lo - vt (bE f) hi
 srt : l.Pairwise fun p q => p.2 ≤ q.1
theorem jB.width {s n : Nat} {f : ZX} (I : jB s n f) {δ : Rat} (hδ : δ * 2 ^ lk s n 5 (s + 1) = 1) : i7 f.l - -i7 f.l ≤ δ * 2 ^ lvl s n := by
 have h1 := I.aaK.2
 unfold lvl
 rw [show lk s n 5 (s + 1) + s + 2 = lk s n 5 (s + 1) + (s + 1 + 1) by omega, nT, ← Rat.mul_assoc, hδ, Rat.one_mul, Rat.pow_succ]
 grind
theorem jB.ivs {s n : Nat} {f : ZX} (I : jB s n f) : Ivs f (uu s) (-i7 f.l) (i7 f.l) (gS s n f) := by
 obtain ⟨δ, h1, h2, C⟩ := I.cut (s + 1)
 have hl := aaJ (s := s) I.ch.hn
 obtain ⟨a1, a2, a3⟩ := qK C (lvl s n) 0 _ _ I.F0 I.AR I.aaL (I.width h2)
 refine ⟨fun p hp => ?_, a2, a3⟩
 obtain ⟨b1, b2, b3⟩ := a1 p hp
 obtain ⟨l1, l2⟩ := I.uE
 exact ⟨(b1.sq l1 l2).mono (by unfold uu; omega), (b2.sq l1 l2).mono (by unfold uu; omega), b3⟩
theorem xY {s n : Nat} {f : ZX} (I : jB s n f) : (gS s n f).length ≤ 21 := by
 have := I.ivs.len
 have h1 := Nat.le_trans (agf (bE f) (-i7 f.l)) I.hl
 omega
theorem nW {α : Type} {g : α → List PV} {l : List α} {s n : Nat} {f : ZX} (hS : aL env.P 83 [aJ g l] (Po f.l)) (I : jB s n f) : aL env.P 21 [aJ g l] (.eN [aJ (ga f) (gS s n f), .int .i64 0]) := by
 have hs := I.hs
 have hn := I.ch.hn
 have N1 := FM hS I.ch I.nf
 have P1 := iD (x := f.l) (I.ch.bz.pb (by omega) (by omega))
 rw [f.c] at P1
 have B1 := NP P1 f.c I.f0 (JM I.ch.bz) (by omega) (by omega)
 obtain ⟨l1, l2⟩ := I.uE
 have qb := (I.AR.sq l1 l2).mono (show s + 1 + s + 0 + 1 ≤ uu s by unfold uu; omega)
 have hu : uu s ≤ 1000000000 := by unfold uu; omega
 have M1 := UA (qb.LLt (show uu s < 1099511627770 by omega))
 have C1 := NH (c := bE f) (by have := I.hl; omega) (pbs I.hb hn)
 rw [I.count] at C1
 obtain ⟨δ, h1, h2, C⟩ := I.cut (s + 1)
 have hl := aaJ (s := s) hn
 have R1 := aaD I l1 l2 C (J := lvl s n) (by omega) (lvl s n) 0 _ _ (by omega) I.F0 I.AR I.aaL (I.width h2)
 rw [show GL (vt (bE f)) (lvl s n) (-i7 f.l) (i7 f.l) = gS s n f from rfl] at R1
 have hlen := xY I
 have el : (emap (ga f) (gS s n f)).length ≤ 21 := by simpa [emap] using hlen
 have pe := xX (f := f) (l := gS s n f)
 have a1 : bC 9 (emap (ga f) (gS s n f)) = True := vE
 replace B1 : aL env.P 84 [Po f.l] (.eN [T2 (i7 f.l).num (i7 f.l).den, .int .i64 0]) := B1
 replace M1 : aL env.P 86 [T2 (i7 f.l).num (i7 f.l).den] (T2 (-i7 f.l).num (-i7 f.l).den) := M1
 replace R1 : jL env.P 85 [Po f.l, CH (bE f), T2 (-i7 f.l).num (-i7 f.l).den, T2 (i7 f.l).num (i7 f.l).den, .int .i64 ((vt (bE f) (-i7 f.l) : Int) - vt (bE f) (i7 f.l))] 44 9 (emap (ga f) (gS s n f)) := R1
 generalize gS s n f = L at *
 generalize (vt (bE f) (-i7 f.l) : Int) - vt (bE f) (i7 f.l) = cn at *
 generalize bE f = c at *
 generalize (-i7 f.l).num = mn at *
 generalize ((-i7 f.l).den : Int) = md at *
 generalize (i7 f.l).num = bn at *
 generalize ((i7 f.l).den : Int) = bd at *
 refine aB (E := env) (fun _ => 0) [(0, aJ g l)] Tryz.func21 rfl (by kernel_rfl) (by kernel_rfl) (show 1 ≤ 32 by decide) (by simp) ?_
 refine W.sr ?_; simp (disch := omega) [gw]; refine W.lx [0] ?_; simp
 refine W.sr ?_
 simp (disch := omega) [gw]
 refine aA N1 ?_
 simp (disch := omega) [gw]
 refine W.lx [0, 4, 5] ?_; simp
 refine W.seq ?_
 refine W.sr ?_; simp (disch := omega) [gw]; refine W.lx [0, 4, 5, 15] ?_; simp
 refine W.cond ⟨_, rfl, fun h => ?_, fun h => ?_⟩
 ·simp at h
 refine W.skip ?_
 refine W.sr ?_
 simp (disch := omega) [gw]
 refine aA hS ?_
 simp (disch := omega) [gw]
 refine W.lx [4, 6] ?_; simp
 refine W.sr ?_
 simp (disch := omega) [gw]
 refine aA B1 ?_
 simp (disch := omega) [gw]
 refine W.lx [4, 6, 7] ?_; simp
 refine W.sd ?_
 simp (disch := omega) [gw]
 refine aA M1 ?_
 simp (disch := omega) [gw]
 refine aA C1 ?_
 simp (disch := omega) [gw]
 refine W8 R1 rfl trivial ?_
 simp (disch := omega) [gw]
 refine W.lx [2, 3] ?_; simp
 refine W.EI 31 (by simp) (fun K hK => ?_)
 simp
 refine hK _ ?_
 refine W.ret ?_
 simp [go]
end Go.Proofs.YtbbjgncblhfegaaGreat
namespace Go.Proofs.YtbbjgncblhfegaaGreat
open Go Pm
open ZX hiding N W
abbrev GA (f : ZX) (p : Rat × Rat) : PV := .ag (ga f p)
namespace jB
variable {s n : Nat} {f : ZX} (I : jB s n f)
include I
theorem ao6 : aL env.P 32 [Po f.l] (PI f.l) := by
 have hs := I.hs
 have hn := I.ch.hn
 have b := JM I.ch.bz
 have := TD (f.l.map qO) ⟨fun c hc => by
  simp only [List.mem_map] at hc
  obtain ⟨x, hx, rfl⟩ := hc
  exact ⟨eP fL _, Nat.lt_of_le_of_lt (b.sz x hx) (by omega)⟩, by rw [List.length_map]; exact Nat.lt_of_le_of_lt b.len (by omega)⟩
 rw [bQ, ← gQ, show aM f.l = f.l from f.c] at this
 exact this
theorem ao7 : aL env.P 111 [PI f.l] (PI f.l) := by
 have := jT I.ch.bz I.s1 (by have := I.hs; show s ≤ 137438953472; omega) (by have := I.ch.hn; omega)
 rwa [I.nf.nfe] at this
theorem aea : aL env.P 26 [PI f.l] (PI f.l) := by
 have := tV I.lay I.s1
 rwa [I.sq] at this
theorem aaM : aL env.P 57 [PI f.l] (aJ zq (bE f)) := wQ I.aea I.ch I.s1
theorem QZ : aL env.P 83 [Po f.l] (Po f.l) := by
 have := k7 I.lay
 rwa [I.sq] at this
theorem ao8 {u : Nat} {t : Rat} (q : SQ u t) (hu : u ≤ 1000000000) : aL env.P 107 [PI f.l, RR t] (.int .i64 (b6 (e t f))) := by
 have hs := I.hs
 have hn := I.ch.hn
 have hmul : n * (u + 1) ≤ 20 * (u + 1) := Nat.mul_le_mul_right _ hn
 have s1 := u5 I.ch.bz q.n2 q.d2 q.hu (by omega) (by show _ < 137438953472; omega)
 rw [xU] at s1
 rw [dP]
 exact s1
theorem AS {u : Nat} {p q : Rat} (hp : SQ u p) (hq : SQ u q) (hu : u ≤ 1000000000) : aL env.P 59 [aJ zq (bE f), RR p, RR q] (.int .i64 (if q < p then 0 else (vt (bE f) p : Int) - vt (bE f) q)) := ajp I.hb I.ch.hn I.hl hp hq hu
theorem aaN {u : Nat} {p : Rat × Rat} (q1 : SQ u p.1) (q2 : SQ u p.2) (hu : u ≤ 1000000000) : aL env.P 112 [QA f (bE f) p] (QA f (bE f) (ex f p)) := UF (I.ch.bz.mono (by have := I.hs; omega) (Nat.le_refl _)) I.ch.hn q1 q2 hu
end jB
theorem SQ.agl {u : Nat} {q : Rat} (h : SQ u q) (hu : u ≤ 1000000000) : aL env.P 28 [RT q] (RR q) := UB (h.LLt (by omega)) ⟨by have := h.n2; show _ < 549755813888; omega, by have := h.d2; show _ < 549755813888; omega⟩
theorem jB.aaO {s n : Nat} {f : ZX} (I : jB s n f) {u : Nat} {p : Rat × Rat} (q1 : SQ u p.1) (q2 : SQ u p.2) (hu : u ≤ 1000000000) : aL env.P 41 [GA f p] (QA f (bE f) (ex f p)) := by
 have f1 := I.ao6
 have f2 := I.ao7
 have f3 := I.aaM
 have f4 := q1.agl hu
 have f5 := q2.agl hu
 have f6 := I.aaN q1 q2 hu
 generalize ex f p = y at *
 rw [dP] at f4 f5
 rw [mZ, mZ] at f6
 rw [mZ]
 replace f4 : aL env.P 28 [T2 p.1.num p.1.den] (R2 p.1.num p.1.den) := f4
 replace f5 : aL env.P 28 [T2 p.2.num p.2.den] (R2 p.2.num p.2.den) := f5
 show aL env.P _ [.ag (Po f.l :: (tc p.1 ++ tc p.2))] _
 simp only [c4, tc, List.cons_append, List.nil_append] at f6 ⊢
 generalize bE f = c at *
 generalize p.1.num = an at *
 generalize (p.1.den : Int) = ad at *
 generalize p.2.num = bn at *
 generalize (p.2.den : Int) = bd at *
 generalize y.1.num = yn at *
 generalize (y.1.den : Int) = yd at *
 generalize y.2.num = zn at *
 generalize (y.2.den : Int) = zd at *
 refine aB (E := env) (fun _ => 0) [(0, .ag [Po f.l, .bool (decide (an < 0)), us (aR LL an.natAbs), .bool (decide (ad < 0)), us (aR LL ad.natAbs), .bool (decide (bn < 0)), us (aR LL bn.natAbs), .bool (decide (bd < 0)), us (aR LL bd.natAbs)])] Tryz.func41 rfl (by kernel_rfl) (by kernel_rfl) (show 1 ≤ 19 by decide) (by simp) ?_
 refine W.sr ?_; simp (disch := omega) [gw]; refine W.lx [1, 2] ?_; simp
 refine W.sr ?_
 simp (disch := omega) [gw]
 refine aA f1 ?_
 simp (disch := omega) [gw]
 refine aA f2 ?_
 simp (disch := omega) [gw]
 refine W.lx [1, 2, 3] ?_; simp
 refine W.sd ?_
 simp (disch := omega) [gw]
 refine aA f3 ?_
 simp (disch := omega) [gw]
 refine aA f4 ?_
 simp (disch := omega) [gw]
 refine aA f5 ?_
 simp (disch := omega) [gw]
 refine aA f6 ?_
 simp (disch := omega) [gw]
 (try (refine cP (of_decide_eq_true (by kernel_rfl)) ?_)); (try simp (maxSteps := 4000000) (disch := omega) [gw]); (repeat rw [if_pos (by kernel_rfl)]); (try simp (maxSteps := 4000000) (disch := omega) [gw])
 refine W.lx [2] ?_; simp
 refine W.ret ?_
 simp [go]
theorem pO {f : ZX} {c : List ZX} {p : Rat × Rat} {u : Nat} (q1 : SQ u p.1) (q2 : SQ u p.2) (hu : u ≤ 1000000000) : aL env.P 113 [QA f c p] (.bool (decide (p.1 = p.2))) := by
 have c1 := k8 p.1 p.2 (q1.yy hu) (q2.yy hu)
 have e : decide (p.1 = p.2) = (dH (p.1.num * p.2.den) (p.2.num * p.1.den) == 0) := by
  rw [Bool.eq_iff_iff]; simp only [decide_eq_true_eq, beq_iff_eq]; exact mY.symm
 rw [e, mZ]
 rw [dP, dP] at c1
 simp only [c4, List.cons_append, List.nil_append]
 generalize dH (p.1.num * p.2.den) (p.2.num * p.1.den) = z at *
 generalize p.1.num = an at *
 generalize (p.1.den : Int) = ad at *
 generalize p.2.num = bn at *
 generalize (p.2.den : Int) = bd at *
 refine aB (E := env) (fun _ => 0) [(0, .ag [PI f.l, aJ zq c, aJ aF (aR DD an.natAbs), .bool (decide (an < 0)), aJ aF (aR DD ad.natAbs), .bool (decide (ad < 0)), aJ aF (aR DD bn.natAbs), .bool (decide (bn < 0)), aJ aF (aR DD bd.natAbs), .bool (decide (bd < 0))])] Tryz.func113 rfl (by kernel_rfl) (by kernel_rfl) (show 1 ≤ 9 by decide) (by simp) ?_
 refine W.sr ?_
 simp (disch := omega) [gw]
 refine W.lx [1] ?_; simp
 refine W.sr ?_
 simp (disch := omega) [gw]
 refine aA c1 ?_
 simp (disch := omega) [gw]
 refine W.lx [2] ?_; simp
 refine W.ret ?_
 simp [go]
end Go.Proofs.YtbbjgncblhfegaaGreat
