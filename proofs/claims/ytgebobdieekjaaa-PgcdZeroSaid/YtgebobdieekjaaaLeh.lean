import Derived.Test.YtgebobdieekjaaaLeg
import Derived.Test.YtgebobdieekjaaaMq
set_option linter.unusedSimpArgs false
set_option linter.unusedVariables false
namespace Go.Proofs.Ytgebobdieekjaaa
open Go Pm

/-! THE DOCUMENT's GCD, FACTORS. -/
def rz (a c : ZX) : ZX := ZX.of (rq c.l (a.l.length + 1) a.l)
theorem rz_spec {a c : ZX} (hc : c ≠ 0) : (rz a c).l = rq c.l (a.l.length + 1) a.l ∧ ZX.N (rz a c) < ZX.N c ∧ ∃ (m : Int) (q : ZX), m ≠ 0 ∧ ZX.K m * a = q * c + ZX.K 1 * rz a c := by
  obtain ⟨h1, h2, m, q, hm, h3⟩ := rq_spec c.c (ZX.ne_zero.1 hc) (a.l.length + 1) a.l a.c (by omega)
  have e : (rz a c).l = rq c.l (a.l.length + 1) a.l := h1
  refine ⟨e, by show (rz a c).l.length < c.l.length; rw [e]; exact h2, m, ZX.of q, hm, ZX.ext fun t => ?_⟩
  rw [ZX.v_mul, ZX.v_K, ZX.v_add, ZX.v_mul, ZX.v_mul, ZX.v_K, ZX.v_of, e, h3 t]; omega
theorem rz_bd {s n : Nat} {a c : ZX} (ha : BZ s n a) (hb : BZ s n c) (hc : c ≠ 0) : BZ (s + (ZX.N a + 1 - ZX.N c) * (s + n + 1)) n (rz a c) := by
  have h := rq_bd hb (ZX.ne_zero.1 hc) (a.l.length + 1) (ZX.N a + 1 - ZX.N c) s a.l ha (by show ZX.N a + 1 ≤ ZX.N c + _; omega)
  rw [← (rz_spec hc).1] at h
  exact h
def zq (a : ZX) : List PV := [PI a.l]
@[simp] theorem zq_def {a : ZX} : zq a = [PI a.l] := rfl
@[simp] theorem lenAll_zq {l : List ZX} : lenAll 1 (emap zq l) = True := lenAll_emap fun _ => rfl
@[simp] theorem rowPers_zq {v e n : Nat} {l : List ZX} : rowPers (some ⟨v, e, n, emap zq l⟩) = True := rowPers_emap fun _ => rfl
@[simp] theorem app_zq {l : List ZX} {a : ZX} : emap zq l ++ [[sls ri a.l]] = emap zq (l ++ [a]) := by simp [emap]
end Go.Proofs.Ytgebobdieekjaaa
