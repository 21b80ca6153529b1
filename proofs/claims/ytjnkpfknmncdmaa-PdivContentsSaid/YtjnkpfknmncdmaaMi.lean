import Derived.Test.YtjnkpfknmncdmaaMe
set_option linter.unusedSimpArgs false
set_option linter.unusedVariables false
namespace Pm
open Go

/-! BITS THAT DO NOT MEET ADD UP. -/
theorem or_nat {a b s : Nat} (h : 2 ^ s ∣ a) (hb : b < 2 ^ s) : a ||| b = a + b := by
  obtain ⟨q, rfl⟩ := h
  exact (Nat.two_pow_add_eq_or_of_lt hb q).symm
theorem orInt_u32 {a b s : Nat} (h : 2 ^ s ∣ a) (hb : b < 2 ^ s) (hab : a + b < 4294967296) : orInt .u32 a b = ((a + b : Nat) : Int) := by
  have h1 : ((BitVec.ofInt 32 (a : Int)) ||| (BitVec.ofInt 32 (b : Int))).toNat = a + b := by
    rw [BitVec.toNat_or, BitVec.toNat_ofInt, BitVec.toNat_ofInt, ← or_nat h hb]
    congr 1 <;> omega
  show IntKind.u32.wrap (((BitVec.ofInt 32 (a : Int)) ||| (BitVec.ofInt 32 (b : Int))).toNat : Int) = _
  rw [h1]
  simp only [IntKind.wrap, IntKind.bits, IntKind.signed]
  simp
  omega
theorem orInt_u64 {a b s : Nat} (h : 2 ^ s ∣ a) (hb : b < 2 ^ s) (hab : a + b < 18446744073709551616) : orInt .u64 a b = ((a + b : Nat) : Int) := by
  have h1 : ((BitVec.ofInt 64 (a : Int)) ||| (BitVec.ofInt 64 (b : Int))).toNat = a + b := by
    rw [BitVec.toNat_or, BitVec.toNat_ofInt, BitVec.toNat_ofInt, ← or_nat h hb]
    congr 1 <;> omega
  show IntKind.u64.wrap (((BitVec.ofInt 64 (a : Int)) ||| (BitVec.ofInt 64 (b : Int))).toNat : Int) = _
  rw [h1]
  simp only [IntKind.wrap, IntKind.bits, IntKind.signed]
  simp
  omega
theorem orInt_comm (k : IntKind) (a b : Int) : orInt k a b = orInt k b a := by unfold orInt; rw [BitVec.or_comm]
/-- The high one below, the low one above. -/
theorem orI_u32 {a b : Int} (s : Nat) (ha : 0 ≤ a) (hb0 : 0 ≤ b) (h : (2 ^ s : Int) ∣ a) (hb : b < 2 ^ s) (hab : a + b < 4294967296) : orInt .u32 a b = a + b ∧ orInt .u32 b a = a + b := by
  obtain ⟨x, rfl⟩ := Int.eq_ofNat_of_zero_le ha
  obtain ⟨y, rfl⟩ := Int.eq_ofNat_of_zero_le hb0
  have h1 : 2 ^ s ∣ x := by exact_mod_cast h
  have h2 : y < 2 ^ s := by exact_mod_cast hb
  have := orInt_u32 h1 h2 (by omega)
  rw [orInt_comm .u32 (y : Int)]
  refine ⟨?_, ?_⟩ <;> rw [this] <;> simp
theorem orI_u64 {a b : Int} (s : Nat) (ha : 0 ≤ a) (hb0 : 0 ≤ b) (h : (2 ^ s : Int) ∣ a) (hb : b < 2 ^ s) (hab : a + b < 18446744073709551616) : orInt .u64 a b = a + b ∧ orInt .u64 b a = a + b := by
  obtain ⟨x, rfl⟩ := Int.eq_ofNat_of_zero_le ha
  obtain ⟨y, rfl⟩ := Int.eq_ofNat_of_zero_le hb0
  have h1 : 2 ^ s ∣ x := by exact_mod_cast h
  have h2 : y < 2 ^ s := by exact_mod_cast hb
  have := orInt_u64 h1 h2 (by omega)
  rw [orInt_comm .u64 (y : Int)]
  refine ⟨?_, ?_⟩ <;> rw [this] <;> simp
end Pm
