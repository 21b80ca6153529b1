import Derived.Test.YtdiladmkbpnhoaaLbk
set_option linter.unusedSimpArgs false
set_option linter.unusedVariables false
namespace Go.Proofs.Ytdiladmkbpnhoaa
open Go Pm
def dnF (l : List Rat) : Int := l.foldl (fun d q => (d * q.den).tdiv (Int.gcd d q.den)) 1
def gnF (d : Int) (l : List Rat) : Int := l.foldl (fun (g : Int) q => (Int.gcd g ((q.num * d).tdiv q.den) : Int)) 0
theorem dnF_succ {l : List Rat} {i : Nat} (h : i < l.length) : dnF (l.take (i + 1)) = (dnF (l.take i) * (nth l i).den).tdiv (Int.gcd (dnF (l.take i)) (nth l i).den) := by
 unfold dnF; rw [take_succ_nth h, List.foldl_append]; rfl
theorem gnF_succ {l : List Rat} {d : Int} {i : Nat} (h : i < l.length) : gnF d (l.take (i + 1)) = (Int.gcd (gnF d (l.take i)) (((nth l i).num * d).tdiv (nth l i).den) : Int) := by
 unfold gnF; rw [take_succ_nth h, List.foldl_append]; rfl
theorem RI_den (q : Rat) : RI (q.den : Int) = .ag [sls i64e (dig DD q.den), .bool false] := by
 simp [show ¬ ((q.den : Int) < 0) by omega]
def qct (l : List Rat) : Rat := if (nth l (l.length - 1)).num < 0 then -(qmk (gnF (dnF l) l) (dnF l)) else qmk (gnF (dnF l) l) (dnF l)
def qpr (l : List Rat) : List Rat := scaleQ l (1 / qct l)
end Go.Proofs.Ytdiladmkbpnhoaa
namespace Go.Proofs.Ytdiladmkbpnhoaa
open Go Pm
theorem dnF_qs (x : List Int) : dnF (qs x) = 1 := by
 have key : ∀ l : List Int, (qs l).foldl (fun (d : Int) q => (d * q.den).tdiv (Int.gcd d q.den)) 1 = 1 := by
  intro l
  induction l with
  | nil => rfl
  | cons a l ih =>
   simp only [qs, List.map_cons, List.foldl_cons, Rat.den_intCast] at ih ⊢
   exact ih
 exact key x
theorem gnF_qs (x : List Int) : gnF 1 (qs x) = gcdL x := by
 have key : ∀ (l : List Int) (g : Nat), (qs l).foldl (fun (g : Int) q => (Int.gcd g ((q.num * 1).tdiv q.den) : Int)) g = (l.foldl (fun g c => Nat.gcd g c.natAbs) g : Nat) := by
  intro l
  induction l with
  | nil => intro g; rfl
  | cons a l ih =>
   intro g
   have := ih (Nat.gcd g a.natAbs)
   simp only [qs, List.map_cons, List.foldl_cons, Rat.den_intCast, Rat.num_intCast] at this ⊢
   rw [← this]
   congr 1
   simp [Int.gcd]
 exact key x 0
theorem take_qs (x : List Int) (i : Nat) : (qs x).take i = qs (x.take i) := by simp [qs, List.map_take]
theorem qct_qs {x : List Int} (hx : 0 < x.length) : qct (qs x) = (pcn x : Rat) := by
 have e : (nth (qs x) ((qs x).length - 1)).num = lead x := by rw [nth_qs]; simp [lead]
 unfold qct pcn
 rw [dnF_qs, gnF_qs, qmk_one, e]
 split
 ·rw [Rat.intCast_neg]
 ·rfl
theorem qpr_qs {x : List Int} (cx : Cn x) (hx : x ≠ []) : qpr (qs x) = qs (prv x) := by
 have hx0 := List.length_pos_iff.2 hx
 have h0 := pcn_abs x
 have gx := gcdL_Cn_pos cx hx
 have hp : pcn x ≠ 0 := by omega
 have hc := cast_ne hp
 rw [qpr, qct_qs hx0, scaleQ, prv, ← cutQ_qs]
 congr 1
 simp only [qs, List.map_map]
 refine List.map_congr_left fun v hv => ?_
 simp only [Function.comp_apply]
 have hd := pcn_dvd x v hv
 obtain ⟨w, rfl⟩ := hd
 have : exq (pcn x) (pcn x * w) = w := by
  unfold exq
  rw [if_pos (Int.mul_emod_right _ _)]
  exact Int.mul_ediv_cancel_left _ hp
 rw [this, Rat.intCast_mul]
 grind
theorem gcdL_take_sz {x : List Int} {s : Nat} (hs : ∀ c ∈ x, sz 2 c ≤ s) : sz 2 (gcdL x : Int) ≤ s := by
 by_cases h : ∃ c ∈ x, c ≠ 0
 ·obtain ⟨c, hc, h0⟩ := h
  refine Nat.le_trans (sz_mono (by decide) ?_) (hs c hc)
  have := Int.le_of_dvd (a := (gcdL x : Int)) (b := (c.natAbs : Int)) (by omega) (Int.dvd_natAbs.2 (gcdL_dvd x _ hc))
  omega
 ·have h1 : gcdL x = 0 := by
   have h2 : (0 : Nat) ∣ gcdL x := dvd_gcdL fun c hc => by
    have : c = 0 := Classical.byContradiction fun h3 => h ⟨c, hc, h3⟩
    rw [this]; exact Int.dvd_refl _
   exact Nat.eq_zero_of_zero_dvd h2
  rw [h1]; show sz 2 0 ≤ s; rw [sz_zero]; omega
theorem rSameI {x : Int} (zx : Z x) : Ret env.P 17 [RI x, I x] (.bool true) := by
 have := rSame_ret x (decide (x < 0)) (dig LL x.natAbs) zx (Nat.lt_of_le_of_lt (sz_base hLL x) zx)
 rw [show (decide (decide (x < 0) = decide (x < 0) ∧ dig LL x.natAbs = dig LL x.natAbs)) = true from decide_eq_true ⟨rfl, rfl⟩] at this
 exact this
end Go.Proofs.Ytdiladmkbpnhoaa
