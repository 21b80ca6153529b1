import Derived.Test.YtdiladmkbpnhoaaLfe
set_option linter.unusedSimpArgs false
set_option linter.unusedVariables false
namespace Go.Proofs.Ytdiladmkbpnhoaa
open Go Pm
theorem fok_i {x : List Int} (h : ∀ c ∈ x, sz LL c < 4294967296) (hl : x.length < 1099511627776) : FOK (x.map rw') := ⟨fun p hp => by
 simp only [List.mem_map] at hp
 obtain ⟨c, hc, rfl⟩ := hp
 exact ⟨Lim_dig hLL _, h c hc⟩, by simpa using hl⟩
theorem RC.Small.fok {c : RC} {k n : Nat} (h : c.Small k n) : FOK c.x ∧ FOK c.y := by
 have h2 := h.hn; have h3 := h.hk
 exact ⟨h.x.fok (by omega) (by omega), h.y.fok (by omega) (by omega)⟩
theorem RC.nc_OK (c : RC) : c.nc.OK := nC_OK (Cn.cut _) (Cn.cut _) _
theorem doc_scale {x y : List Int} (cx : Cn x) (cy : Cn y) (d : Int) : scaleQ (qs x) (qmk 1 (dN d)) = qd (nC x y d).x (nC x y d).d ∧ scaleQ (qs y) (qmk 1 (dN d)) = qd (nC x y d).y (nC x y d).d := by
 obtain ⟨h1, h2, h3⟩ := nC_back cx cy d
 have hg := cg_ne x y d
 have hp := (nC_OK cx cy d).pos
 have hd0 : (nC x y d).d ≠ 0 := by omega
 refine ⟨?_, ?_⟩
 ·rw [scaleQ_qd (dN_ne d), pscale_one cx]
  have := qd_mul hd0 hg (nC x y d).x
  rw [h1, h3] at this
  exact this
 ·rw [scaleQ_qd (dN_ne d), pscale_one cy]
  have := qd_mul hd0 hg (nC x y d).y
  rw [h2, h3] at this
  exact this
end Go.Proofs.Ytdiladmkbpnhoaa
