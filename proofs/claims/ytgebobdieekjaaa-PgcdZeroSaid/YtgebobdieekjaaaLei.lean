import Derived.Test.YtgebobdieekjaaaLeh
set_option linter.unusedSimpArgs false
set_option linter.unusedVariables false
namespace Go.Proofs.Ytgebobdieekjaaa
open Go Pm

/-! MADE POLYNOMIALS. -/
theorem BZ.mulc {s s' n n' m : Nat} {a c : ZX} (b : BZ s n a) (b' : BZ s' n' c) (hm : ZX.N (a * c) ≤ m) : BZ (s + s' + n') m (a * c) := by
  have h := Bd.pmul (by decide) b' b
  rw [pmul_comm] at h
  exact ⟨hm, fun d hd => Nat.le_trans (h.sz d hd) (by omega)⟩
theorem powS {f : ZX} (hf : f ≠ 0) (bf : BZ 3 3 f) : ∀ k, 1 ≤ k → BZ (6 * k) (2 * k + 1) (f ^ k) ∧ f ^ k ≠ 0 ∧ ZX.N (f ^ k) = k * (ZX.N f - 1) + 1
  | 0, h => by omega
  | 1, _ => by
    have e : f ^ 1 = f := by rw [ZX.pow_succ', ZX.pow_zero']; grind
    rw [e]
    have := ZX.ne_zero.1 hf
    exact ⟨bf.mono (by omega) (by omega), hf, by omega⟩
  | k + 2, _ => by
    obtain ⟨h1, h2, h3⟩ := powS hf bf (k + 1) (by omega)
    have hN := ZX.ne_zero.1 hf
    have e : ZX.N (f ^ (k + 2)) = (k + 2) * (ZX.N f - 1) + 1 := by
      rw [ZX.pow_succ', ZX.N_mul h2 hf, h3, Nat.add_mul, Nat.add_mul]; omega
    have hl : ZX.N f ≤ 3 := bf.N
    refine ⟨?_, ZX.mul_ne h2 hf, e⟩
    have h4 := BZ.mulc h1 bf (m := 2 * (k + 2) + 1) (by
      rw [← ZX.pow_succ', e]
      have : (k + 2) * (ZX.N f - 1) ≤ (k + 2) * 2 := Nat.mul_le_mul_left _ (by omega)
      omega)
    rw [ZX.pow_succ']
    exact h4.mono (by omega) (Nat.le_refl _)
theorem lin_ok {x : List Int} (hx : x ≠ []) (hl : x.length ≤ 3) (hc : ∀ c ∈ x, c.natAbs < 8) (hlast : x.getLast hx ≠ 0) : BZ 3 3 (ZX.of x) ∧ (ZX.of x).l = x ∧ ZX.of x ≠ 0 := by
  have h1 : cutR x = x := by
    obtain ⟨y, z, rfl⟩ : ∃ y z, x = y ++ [z] := ⟨x.dropLast, x.getLast hx, (List.dropLast_concat_getLast hx).symm⟩
    exact cutR_ne (by simpa using hlast) y
  have h2 : (ZX.of x).l = x := h1
  refine ⟨⟨by rw [h2]; exact hl, fun c hcc => ?_⟩, h2, ZX.ne_zero.2 ?_⟩
  · rw [h2] at hcc
    exact sz_le (by decide) (by have := hc c hcc; show _ < 8; exact this)
  · show 0 < (ZX.of x).l.length
    rw [h2]; exact List.length_pos_iff.2 hx
/-- The factor that three numbers tell, how often, and the product step by step. -/
def mfac (l : List Int) (i : Nat) : List Int :=
  if (nth l i).tmod 5 = 3 then [-(nth l i % 9 - 4), nth l (i + 2) % 3 - 1, nth l (i + 1) % 5 + 1] else [-(nth l i % 9 - 4), nth l (i + 1) % 5 + 1]
def mexp (l : List Int) (i : Nat) : Nat := 1 + (nth l (i + 2) % 3).toNat
def mstep (l : List Int) (most i : Nat) (p : ZX) : ZX := if most < ZX.N p - 1 + mexp l i * (ZX.N (ZX.of (mfac l i)) - 1) then p else p * ZX.of (mfac l i) ^ mexp l i
def mades (l : List Int) (most : Nat) : Nat → ZX
  | 0 => 1
  | j + 1 => mstep l most (3 * j) (mades l most j)
def made (l : List Int) (most : Nat) : ZX := if (0 < l.length ∧ (nth l 0).tmod 7 = 6) then ZX.K (-3) * mades l most (min 6 (l.length / 3)) else mades l most (min 6 (l.length / 3))
theorem mfac_ok (l : List Int) (i : Nat) : BZ 3 3 (ZX.of (mfac l i)) ∧ (ZX.of (mfac l i)).l = mfac l i ∧ ZX.of (mfac l i) ≠ 0 := by
  have h9 := Int.emod_nonneg (nth l i) (show (9 : Int) ≠ 0 by decide)
  have h9' := Int.emod_lt_of_pos (nth l i) (show (0 : Int) < 9 by decide)
  have h5 := Int.emod_nonneg (nth l (i + 1)) (show (5 : Int) ≠ 0 by decide)
  have h5' := Int.emod_lt_of_pos (nth l (i + 1)) (show (0 : Int) < 5 by decide)
  have h3 := Int.emod_nonneg (nth l (i + 2)) (show (3 : Int) ≠ 0 by decide)
  have h3' := Int.emod_lt_of_pos (nth l (i + 2)) (show (0 : Int) < 3 by decide)
  unfold mfac
  split
  · refine lin_ok (by simp) (by simp) (fun c hc => ?_) (by simp; omega)
    simp only [List.mem_cons, List.not_mem_nil, or_false] at hc
    rcases hc with rfl | rfl | rfl <;> omega
  · refine lin_ok (by simp) (by simp) (fun c hc => ?_) (by simp; omega)
    simp only [List.mem_cons, List.not_mem_nil, or_false] at hc
    rcases hc with rfl | rfl <;> omega
theorem mexp_ok (l : List Int) (i : Nat) : 1 ≤ mexp l i ∧ mexp l i ≤ 3 := by
  have h3 := Int.emod_nonneg (nth l (i + 2)) (show (3 : Int) ≠ 0 by decide)
  have h3' := Int.emod_lt_of_pos (nth l (i + 2)) (show (0 : Int) < 3 by decide)
  unfold mexp; omega
theorem mstep_ok {l : List Int} {most i s : Nat} {p : ZX} (hp : p ≠ 0) (b : BZ s (most + 1) p) : mstep l most i p ≠ 0 ∧ BZ (s + 25) (most + 1) (mstep l most i p) := by
  obtain ⟨b1, b2, b3⟩ := mfac_ok l i
  obtain ⟨e1, e2⟩ := mexp_ok l i
  obtain ⟨h1, h2, h3⟩ := powS b3 b1 _ e1
  unfold mstep
  split
  · exact ⟨hp, b.mono (by omega) (Nat.le_refl _)⟩
  · rename_i h
    have hN := ZX.ne_zero.1 hp
    refine ⟨ZX.mul_ne hp h2, (BZ.mulc b h1 (m := most + 1) (by rw [ZX.N_mul hp h2, h3]; omega)).mono (by omega) (Nat.le_refl _)⟩
theorem mades_ok (l : List Int) (most : Nat) : ∀ j, mades l most j ≠ 0 ∧ BZ (1 + 25 * j) (most + 1) (mades l most j)
  | 0 => ⟨ZX.one_ne, by show (1 : ZX).l.length ≤ most + 1; have : (1 : ZX).l.length = 1 := by decide
                        omega, fun c hc => by
    have h1 : (1 : ZX).l = [1] := by decide
    have hc2 : c ∈ (1 : ZX).l := hc
    rw [h1] at hc2
    simp at hc2; subst hc2
    exact sz_le (by decide) (by decide)⟩
  | j + 1 => by
    obtain ⟨h1, h2⟩ := mades_ok l most j
    obtain ⟨h3, h4⟩ := mstep_ok (l := l) (i := 3 * j) h1 h2
    exact ⟨h3, h4.mono (by omega) (Nat.le_refl _)⟩
theorem made_ok (l : List Int) (most : Nat) : made l most ≠ 0 ∧ BZ 153 (most + 1) (made l most) := by
  obtain ⟨h1, h2⟩ := mades_ok l most (min 6 (l.length / 3))
  unfold made
  split
  · refine ⟨ZX.mul_ne (ZX.K_ne (by decide)) h1, ?_⟩
    rw [BZ, K_l (by decide)]
    exact ⟨by have := h2.len; simpa using this, fun c hc => by
      simp only [List.mem_map] at hc
      obtain ⟨d, hd, rfl⟩ := hc
      exact Nat.le_trans (sz_mul (by decide) (h2.sz d hd) (sz_le (k := 2) (by decide) (by decide))) (by omega)⟩
  · exact ⟨h1, h2.mono (by omega) (Nat.le_refl _)⟩
end Go.Proofs.Ytgebobdieekjaaa
