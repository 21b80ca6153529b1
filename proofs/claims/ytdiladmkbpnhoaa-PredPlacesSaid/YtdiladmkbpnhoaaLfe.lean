import Derived.Test.YtdiladmkbpnhoaaLfd
set_option linter.unusedSimpArgs false
set_option linter.unusedVariables false
namespace Go.Proofs.Ytdiladmkbpnhoaa
open Go Pm
theorem gcdL_cons (a : Int) (l : List Int) : gcdL (a :: l) = Nat.gcd a.natAbs (gcdL l) := by
 refine Nat.dvd_antisymm (Nat.dvd_gcd ?_ (dvd_gcdL fun c hc => ?_)) (dvd_gcdL fun c hc => ?_)
 ·exact Int.ofNat_dvd_left.1 (gcdL_dvd _ a (List.mem_cons_self ..))
 ·exact gcdL_dvd _ c (List.mem_cons_of_mem _ hc)
 ·rcases List.mem_cons.1 hc with rfl | hc
  ·exact Int.ofNat_dvd_left.2 (Nat.gcd_dvd_left _ _)
  ·exact Int.dvd_trans (Int.ofNat_dvd.2 (Nat.gcd_dvd_right _ _)) (gcdL_dvd _ c hc)
theorem exq_back {g : Int} {x : List Int} (hg : g ≠ 0) (cx : Cn x) (h : ∀ v ∈ x, g ∣ v) : (cutR (x.map (exq g))).map (· * g) = x := by
 have e : (x.map (exq g)).map (· * g) = x := by
  rw [List.map_map]
  conv => rhs; rw [← List.map_id x]
  refine List.map_congr_left fun v hv => ?_
  simp only [Function.comp_apply, exq, if_pos (Int.emod_eq_zero_of_dvd (h v hv)), id]
  exact Int.ediv_mul_cancel (h v hv)
 refine Cn.ext (Cn_map_mul (Cn.cut _) hg) cx fun t => ?_
 rw [V_mapmul, V_cutR, ← V_mapmul, e]
structure CV.OK (c : CV) : Prop where
 cx : Cn c.x
 cy : Cn c.y
 pos : 0 < c.d
 gcd : gcdL (c.d :: (c.x ++ c.y)) = 1
theorem nC_back {x y : List Int} (cx : Cn x) (cy : Cn y) (d : Int) : (nC x y d).x.map (· * cg x y d) = x ∧ (nC x y d).y.map (· * cg x y d) = y ∧ (nC x y d).d * cg x y d = dN d := by
 have hg := cg_ne x y d
 exact ⟨exq_back hg cx fun v hv => cg_dvd x y d (by simp [hv]), exq_back hg cy fun v hv => cg_dvd x y d (by simp [hv]), Int.ediv_mul_cancel (cg_dvd x y d (List.mem_cons_self ..))⟩
theorem nC_OK {x y : List Int} (cx : Cn x) (cy : Cn y) (d : Int) : (nC x y d).OK := by
 obtain ⟨h1, h2, h3⟩ := nC_back cx cy d
 have hg := cg_ne x y d
 have hd := dN_ne d
 have hgd : cg x y d = if dN d < 0 then -(gcdL (dN d :: (x ++ y)) : Int) else gcdL (dN d :: (x ++ y)) := rfl
 refine ⟨Cn.cut _, Cn.cut _, ?_, ?_⟩
 ·refine Classical.byContradiction fun h => ?_
  split at hgd
  ·rename_i hneg
   have := Int.mul_nonneg (show 0 ≤ -(nC x y d).d by omega) (show 0 ≤ -cg x y d by omega)
   rw [Int.neg_mul_neg, h3] at this
   omega
  ·rename_i hneg
   have := Int.mul_nonneg (show 0 ≤ -(nC x y d).d by omega) (show 0 ≤ cg x y d by omega)
   rw [Int.neg_mul, h3] at this
   omega
 ·have e : ((nC x y d).d :: ((nC x y d).x ++ (nC x y d).y)).map (· * cg x y d) = dN d :: (x ++ y) := by
   simp only [List.map_cons, List.map_append, h1, h2, h3]
  have h4 := gcdL_scale (cg x y d) ((nC x y d).d :: ((nC x y d).x ++ (nC x y d).y))
  rw [e] at h4
  have h5 : (cg x y d).natAbs = gcdL (dN d :: (x ++ y)) := by
   rw [hgd]; split <;> simp
  rw [← h5] at h4
  have h6 : 0 < (cg x y d).natAbs := by omega
  refine Nat.eq_of_mul_eq_mul_right h6 ?_
  rw [← h4, Nat.one_mul]
structure RC.Small (c : RC) (k n : Nat) : Prop where
 x : Sm k n c.x
 y : Sm k n c.y
 l : Lim 4294967296 c.l
 ll : c.l.length ≤ n
 h1 : 1 ≤ n
 hn : n ≤ 1000
 hk : k ≤ 1000
theorem RC.Small.ok {c : RC} {k n : Nat} (h : c.Small k n) : c.OK n k := by
 have h1 := h.h1; have h2 := h.hn; have h3 := h.hk; have h4 := h.ll
 refine ⟨h.x.pok (by omega) (by omega), h.y.pok (by omega) (by omega), ⟨h.l, by omega⟩, h.x.bd, h.y.bd, ?_, h.h1, by omega, by omega⟩
 have g1 := sz_V hLL h.l
 have g2 : sz LL (iv c.s c.l) = sz LL (V 4294967296 c.l) := by unfold sz; rw [show (iv c.s c.l).natAbs = _ from iv_natAbs (c.s, c.l) h.l]
 rw [g2]; exact Nat.le_trans g1 h.ll
theorem exq_bd2 {s n : Nat} {x : List Int} (c : Int) (h : Bd 2 s n x) : Bd 2 s n (cutR (x.map (exq c))) := Bd.cut ⟨by simpa using h.len, fun v hv => by
 simp only [List.mem_map] at hv
 obtain ⟨w, hw, rfl⟩ := hv
 refine Nat.le_trans (sz_mono (by decide) ?_) (h.sz w hw)
 unfold exq; split
 ·exact Int.natAbs_ediv_le_natAbs _ _
 ·simp⟩
theorem RC.Small.bd2 {c : RC} {k n : Nat} (h : c.Small k n) : Bd 2 (32 * n) k c.nc.x ∧ Bd 2 (32 * n) k c.nc.y ∧ sz 2 c.nc.d ≤ 32 * n ∧ sz 2 (iv c.s c.l) ≤ 32 * n := by
 have h1 := h.h1
 have hd : sz 2 (iv c.s c.l) ≤ 32 * n := by
  have g1 := sz2_V h.l
  have g2 : sz 2 (iv c.s c.l) = sz 2 (V 4294967296 c.l) := by unfold sz; rw [show (iv c.s c.l).natAbs = _ from iv_natAbs (c.s, c.l) h.l]
  have := h.ll
  rw [g2]; omega
 refine ⟨exq_bd2 _ h.x.bd2.cut, exq_bd2 _ h.y.bd2.cut, ?_, hd⟩
 show sz 2 (_ / _) ≤ _
 refine Nat.le_trans (sz_mono (by decide) (Int.natAbs_ediv_le_natAbs _ _)) ?_
 unfold dN; split
 ·exact Nat.le_trans (sz_le (k := 1) (by decide) (by decide)) (by omega)
 ·exact hd
end Go.Proofs.Ytdiladmkbpnhoaa
