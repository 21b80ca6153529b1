import Derived.Test.YtdiladmkbpnhoaaLfn
set_option linter.unusedSimpArgs false
set_option linter.unusedVariables false
namespace Go.Proofs.Ytdiladmkbpnhoaa
open Go Pm
def sv (x y : Int) : CV := ⟨cutR [x], cutR [y], 1⟩
theorem cg_one (x y : List Int) {d : Int} (h : dN d = 1) : cg x y d = 1 := by
 have h1 : (gcdL (dN d :: (x ++ y)) : Int) ∣ dN d := gcdL_dvd _ _ (List.mem_cons_self ..)
 unfold cg
 rw [h] at h1 ⊢
 rw [if_neg (by decide)]
 have h2 := Int.le_of_dvd (by decide) h1
 have h3 : gcdL (1 :: (x ++ y)) ≠ 0 := fun h0 => by
  rw [h0] at h1
  have := Int.zero_dvd.1 h1
  omega
 omega
theorem nC_one {x y : List Int} (cx : Cn x) (cy : Cn y) {d : Int} (h : dN d = 1) : nC x y d = ⟨x, y, 1⟩ := by
 obtain ⟨h1, h2, h3⟩ := nC_back cx cy d
 rw [cg_one x y h] at h1 h2 h3
 simp only [Int.mul_one, List.map_id'] at h1 h2 h3
 exact CV.ext' h1 h2 (h3.trans h)
theorem Cn_cut1 (x : Int) : Cn (cutR [x]) := Cn.cut _
theorem still_sv (x y : Int) : (still x y).nc = sv x y := by
 rw [still_nc]; exact nC_one (Cn_cut1 x) (Cn_cut1 y) rfl
theorem sv_nc (x y : Int) : (sv x y).rc.nc = sv x y := by
 rw [CV.rc_nc]
 show nC (cutR (cutR [x])) (cutR (cutR [y])) 1 = _
 rw [cutR_cutR, cutR_cutR]
 exact nC_one (Cn_cut1 x) (Cn_cut1 y) rfl
theorem bd_cut1 {x : Int} (hx : -9223372036854775808 ≤ x ∧ x < 9223372036854775808) : Bd LL 2 1 (cutR [x]) := Bd.cut ⟨by simp, fun c hc => by
 simp only [List.mem_cons, List.not_mem_nil, or_false] at hc
 subst hc
 exact sz_le hLL (by show c.natAbs < 4294967296 ^ 2; omega)⟩
theorem sv_OK {x y : Int} (hx : -9223372036854775808 ≤ x ∧ x < 9223372036854775808) (hy : -9223372036854775808 ≤ y ∧ y < 9223372036854775808) : (sv x y).rc.OK 2 1 := CV.rc_OK (bd_cut1 hx) (bd_cut1 hy) Bd1
theorem V_cut1 (t x : Int) : V t (cutR [x]) = x := by rw [V_cutR, V_one]
def oI (x0 y0 x1 y1 x2 y2 : Int) : Int := (x1 - x0) * (y2 - y0) - (x2 - x0) * (y1 - y0)
theorem sv_orient (x0 y0 x1 y1 x2 y2 : Int) : dcol 3 [rowI (sv x0 y0), rowI (sv x1 y1), rowI (sv x2 y2)] = cutR [oI x0 y0 x1 y1 x2 y2] := by
 refine (Cn_dcol 3 _).ext (Cn.cut _) fun t => ?_
 rw [V_dcol t 3 _ rfl]
 have e1 : ev t [rowI (sv x0 y0), rowI (sv x1 y1), rowI (sv x2 y2)] = [[x0, y0, 1], [x1, y1, 1], [x2, y2, 1]] := by
  simp only [ev, rowI, sv, List.map_cons, List.map_nil, V_cut1, V_one]
 rw [e1, dC3, V_cut1]
 unfold D3 oI; grind
def cI (a b c d e f : Int) : Int := a * (d * (e * e + f * f) - (c * c + d * d) * f) - b * (c * (e * e + f * f) - (c * c + d * d) * e) + (a * a + b * b) * (c * f - d * e)
theorem sv_circle (x0 y0 x1 y1 x2 y2 x3 y3 : Int) : dcol 4 [rowC (sv x0 y0), rowC (sv x1 y1), rowC (sv x2 y2), rowC (sv x3 y3)] = cutR [cI (x0 - x3) (y0 - y3) (x1 - x3) (y1 - y3) (x2 - x3) (y2 - y3)] := by
 refine (Cn_dcol 4 _).ext (Cn.cut _) fun t => ?_
 rw [V_dcol t 4 _ rfl]
 have e1 : ev t [rowC (sv x0 y0), rowC (sv x1 y1), rowC (sv x2 y2), rowC (sv x3 y3)] = [[x0, y0, x0 * x0 + y0 * y0, 1], [x1, y1, x1 * x1 + y1 * y1, 1], [x2, y2, x2 * x2 + y2 * y2, 1], [x3, y3, x3 * x3 + y3 * y3, 1]] := by
  simp only [ev, rowC, sv, List.map_cons, List.map_nil, V_pscale, V_padd, V_pmul, V_cut1, V_one, Int.mul_one]
 rw [e1, dC4, V_cut1]
 unfold D4 D3 cI; grind
theorem sOrient {x0 y0 x1 y1 x2 y2 : Int} (h0 : -1000 ≤ x0 ∧ x0 ≤ 1000) (k0 : -1000 ≤ y0 ∧ y0 ≤ 1000) (h1 : -1000 ≤ x1 ∧ x1 ≤ 1000) (k1 : -1000 ≤ y1 ∧ y1 ≤ 1000) (h2 : -1000 ≤ x2 ∧ x2 ≤ 1000) (k2 : -1000 ≤ y2 ∧ y2 ≤ 1000) :
  Ret env.P 9 [.ag (sv x0 y0).cells, .ag (sv x1 y1).cells, .ag (sv x2 y2).cells] (Po (cutR [oI x0 y0 x1 y1 x2 y2])) := by
 have o := pOrient_ret (sv_OK (x := x0) (y := y0) (by omega) (by omega)) (sv_OK (x := x1) (y := y1) (by omega) (by omega)) (sv_OK (x := x2) (y := y2) (by omega) (by omega)) (by decide) (by decide) (by decide)
 rwa [sv_nc, sv_nc, sv_nc, CV.rc_cells, CV.rc_cells, CV.rc_cells, sv_orient] at o
theorem sCircle {x0 y0 x1 y1 x2 y2 x3 y3 : Int} (h0 : -1000 ≤ x0 ∧ x0 ≤ 1000) (k0 : -1000 ≤ y0 ∧ y0 ≤ 1000) (h1 : -1000 ≤ x1 ∧ x1 ≤ 1000) (k1 : -1000 ≤ y1 ∧ y1 ≤ 1000) (h2 : -1000 ≤ x2 ∧ x2 ≤ 1000) (k2 : -1000 ≤ y2 ∧ y2 ≤ 1000) (h3 : -1000 ≤ x3 ∧ x3 ≤ 1000) (k3 : -1000 ≤ y3 ∧ y3 ≤ 1000) :
  Ret env.P 10 [.ag (sv x0 y0).cells, .ag (sv x1 y1).cells, .ag (sv x2 y2).cells, .ag (sv x3 y3).cells] (Po (cutR [cI (x0 - x3) (y0 - y3) (x1 - x3) (y1 - y3) (x2 - x3) (y2 - y3)])) := by
 have o := pInCircle_ret (sv_OK (x := x0) (y := y0) (by omega) (by omega)) (sv_OK (x := x1) (y := y1) (by omega) (by omega)) (sv_OK (x := x2) (y := y2) (by omega) (by omega)) (sv_OK (x := x3) (y := y3) (by omega) (by omega)) (by decide) (by decide) (by decide)
 rwa [sv_nc, sv_nc, sv_nc, sv_nc, CV.rc_cells, CV.rc_cells, CV.rc_cells, CV.rc_cells, sv_circle] at o
theorem sStill {x y : Int} (hx : -1000 ≤ x ∧ x ≤ 1000) (hy : -1000 ≤ y ∧ y ≤ 1000) : Ret env.P 5 [.int .i64 x, .int .i64 y] (.ag (sv x y).cells) := by
 have := Still_ret (x := x) (y := y) (by omega) (by omega)
 rwa [still_sv] at this
end Go.Proofs.Ytdiladmkbpnhoaa
