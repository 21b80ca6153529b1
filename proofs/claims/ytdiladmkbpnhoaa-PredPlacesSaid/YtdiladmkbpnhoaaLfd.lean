import Derived.Test.YtdiladmkbpnhoaaLcb
import Derived.Test.YtdiladmkbpnhoaaLfc
set_option linter.unusedSimpArgs false
set_option linter.unusedVariables false
namespace Go.Proofs.Ytdiladmkbpnhoaa
open Go Pm
def CV.doc (c : CV) : List PV := PP (qd c.x c.d) :: PP (qd c.y c.d) :: c.cells
@[simp] theorem CV.doc_def {c : CV} : c.doc = [PP (qd c.x c.d), PP (qd c.y c.d), Po c.x, Po c.y, .bool (decide (c.d < 0)), sls u32 (dig LL c.d.natAbs)] := rfl
theorem scaleQ_qdD {D : Int} (h : D ≠ 0) {x : List Int} (cx : Cn x) : scaleQ (qd x D) (D : Rat) = qs x := by
 have h0 := cast_ne h
 have : (qd x D).map (fun q => q * (D : Rat)) = qs x := by
  simp only [qd, qs, List.map_map]
  congr 1
  funext v
  simp only [Function.comp_apply]
  rw [qmk_div h]
  exact Rat.div_mul_cancel h0
 rw [scaleQ, this, ← qd_one, cutQ_qd (by decide), show cutR x = x from cx]
theorem dnF_take {D : Nat} (hD : 0 < D) (x : List Int) (i : Nat) : dnF ((qd x D).take i) = (D / gcD D (x.take i) : Nat) := by
 rw [← dnF_qd hD, qd, ← List.map_take]
end Go.Proofs.Ytdiladmkbpnhoaa
