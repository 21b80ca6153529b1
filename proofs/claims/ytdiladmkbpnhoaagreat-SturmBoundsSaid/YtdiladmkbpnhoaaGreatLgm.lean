import Derived.Test.YtdiladmkbpnhoaaGreatLgi
set_option linter.unusedSimpArgs false
set_option linter.unusedVariables false
namespace Go.Proofs.YtdiladmkbpnhoaaGreat
open Go Pm
open ZX hiding N W
theorem raw8 (p : RP) (h : InP p) (k : Nat) (hk : k ≤ 7) (w : Nat) (hw : w ≤ 2) (hw1 : 1 ≤ w) : Ret env.P 58 [Pg p, .int .i64 (k : Int), .int .i64 (w : Int)] (Pg (keepP k w p)) ∧ Ret env.P 25 [Pg (keepP k w p)] (PI (ZX.of ((keepP k w p).map gv)).l) ∧ Lay (32 * w) (k + 1) (ZX.of ((keepP k w p).map gv)) ∧
  Ret env.P 183 [Pg (keepP k w p)] (Po (nf (ZX.of ((keepP k w p).map gv))).l) := by
 have s := Sm.keep h k w
 have hP := Primitive_ret (keepP k w p) (s.pok (by omega) (by omega)) (s := w) (n := k) s.bd (by omega) (by omega)
 have hL : Lay (32 * w) (k + 1) (ZX.of ((keepP k w p).map gv)) := by
  refine ⟨s.bd2.cut.mono (Nat.le_refl _) (by omega), by omega, ?_, ?_⟩
  ·have : 2 ^ 5 ≤ 2 ^ (32 * w) := Nat.pow_le_pow_right (by decide) (by omega)
   omega
  ·have h1 : qb (32 * w) (k + 1) ≤ 64 + 8 * 133 + 1 := by
    unfold qb
    have : (k + 1) * (2 * (32 * w) + 5) ≤ 8 * 133 := Nat.mul_le_mul (by omega) (by omega)
    omega
   refine Nat.le_trans (Nat.mul_le_mul (show qb (32 * w) (k + 1) + (k + 1) + 6 ≤ 2000 by omega) (Nat.pow_le_pow_right (by decide) (show k + 1 ≤ 8 by omega))) (by decide)
 exact ⟨kPoly_ret p k w h.len (fun c hc => (h.ok c hc).2) (by omega) (by omega), qFrom_ret _ (s.fok (by omega) (by omega)), hL, prime_retG hP⟩
end Go.Proofs.YtdiladmkbpnhoaaGreat
