import Derived.Test.YtgebobdieekjaaaLee
set_option linter.unusedSimpArgs false
set_option linter.unusedVariables false
namespace Go.Proofs.Ytgebobdieekjaaa
open Go Pm

/-! THE DOCUMENT's POLYNOMIALS: primitive part, derivative, powers, Euclid. -/
@[simp] theorem getElem_zero_nil : ([] : List Int).length = 0 := rfl
theorem BZ.yy {h n : Nat} {a : ZX} (b : BZ h n a) (hh : h ≤ YY) (hn : n ≤ 1099511627775) : Bd 2 YY 1099511627775 a.l := Bd.mono b hh hn
theorem qOne_ret : Ret env.P 12 [.sl [[.int .i64 1]]] (PI (1 : ZX).l) := qOf_ret [1] (by decide) (by decide)
end Go.Proofs.Ytgebobdieekjaaa
