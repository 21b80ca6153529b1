import Derived.Test.YtdiladmkbpnhoaaLbe
import Derived.Test.YtdiladmkbpnhoaaLw
import Derived.Test.YtdiladmkbpnhoaaLin
set_option linter.unusedSimpArgs false
set_option linter.unusedVariables false
namespace Go.Proofs.Ytdiladmkbpnhoaa
open Go Pm
structure PD (x : List Int) : Prop where
 sz : ∀ v ∈ x, sz LL v < 1099511627774
 len : x.length < 1099511627774
theorem PD.pb {x : List Int} (h : PD x) : PB x := ⟨fun v hv => by have := h.sz v hv; show Pm.sz LL v < _; omega, by have := h.len; omega⟩
theorem PD.of {s n : Nat} {x : List Int} (h : Bd LL s n x) (hs : s < 1099511627774) (hn : n < 1099511627774) : PD x := ⟨fun v hv => Nat.lt_of_le_of_lt (h.sz v hv) hs, Nat.lt_of_le_of_lt h.len hn⟩
theorem PD.cut {x : List Int} (h : PD x) : PD (cutR x) := ⟨fun v hv => h.sz v (cutR_sub x v hv), Nat.lt_of_le_of_lt (cutR_len x) h.len⟩
theorem V_digA (v : Int) : V 4294967296 (dig LL v.natAbs) = v.natAbs := V_dig hLL v.natAbs
theorem wExactI {v c : Int} (hv : sz LL v < 1099511627774) (hc : sz LL c < 1099511627774) (h0 : c ≠ 0) : Ret env.P 60 [I v, I c] (if v % c = 0 then .tup [I (v / c), .int .i64 0] else .tup [I 0, .int .i64 3]) := by
 have := wExact_ret (decide (v < 0)) (decide (c < 0)) (dig LL v.natAbs) (dig LL c.natAbs) ⟨Lim_dig hLL _, by unfold sz at hv; omega⟩ ⟨Lim_dig hLL _, by unfold sz at hc; omega⟩ hv hc (by rw [V_digA]; omega)
 rwa [iv_I, iv_I] at this
def exq (c v : Int) : Int := if v % c = 0 then v / c else 0
end Go.Proofs.Ytdiladmkbpnhoaa
namespace Go.Proofs.Ytdiladmkbpnhoaa
open Go Pm
theorem pScaleI_ret {x : List Int} {c : Int} (hx : PB x) (hc : Sz c) : Ret env.P 27 [Po x, I c] (Po (pscale x c)) := by
 have := pScale_ret (x.map rw') hx.pok (decide (c < 0)) (dig LL c.natAbs) hc.lok
 rw [map_gv_rw, iv_I, ← Po_eq] at this
 exact this
theorem rep_append_set (i : Nat) (x : Int) : (List.replicate (i + 1) (0 : Int)).set i x = stp i x := by
 rw [List.replicate_succ', List.set_append]
 simp [stp]
end Go.Proofs.Ytdiladmkbpnhoaa
namespace Go.Proofs.Ytdiladmkbpnhoaa
open Go Pm
def prim (x : List Int) : List Int := cutR (x.map (exq (gcdL x)))
def rst (a b : List Int) : List Int := if psk a b % 2 = 1 ∧ lead b < 0 then prim (pneg (pdm a b).2) else prim (pdm a b).2
theorem gcdL_dvd (x : List Int) : ∀ c ∈ x, ((gcdL x : Nat) : Int) ∣ c := by
 have key : ∀ (l : List Int) (g : Nat), (∀ c ∈ l, ((l.foldl (fun g c => Nat.gcd g c.natAbs) g : Nat) : Int) ∣ c) ∧ l.foldl (fun g c => Nat.gcd g c.natAbs) g ∣ g := by
  intro l
  induction l with
  | nil => intro g; exact ⟨fun c hc => (by cases hc), Nat.dvd_refl _⟩
  | cons c l ih =>
   intro g
   obtain ⟨h1, h2⟩ := ih (Nat.gcd g c.natAbs)
   simp only [List.foldl_cons]
   refine ⟨fun d hd => ?_, Nat.dvd_trans h2 (Nat.gcd_dvd_left _ _)⟩
   rcases List.mem_cons.1 hd with rfl | hd
   ·exact Int.ofNat_dvd_left.2 (Nat.dvd_trans h2 (Nat.gcd_dvd_right _ _))
   ·exact h1 d hd
 exact (key x 0).1
theorem gcdL_pos {x : List Int} {c : Int} (hc : c ∈ x) (h : c ≠ 0) : gcdL x ≠ 0 := by
 intro h0
 have := gcdL_dvd x c hc
 rw [h0] at this
 obtain ⟨k, hk⟩ := this
 simp at hk
 exact h hk
theorem gcdL_Cn_pos {x : List Int} (hc : Cn x) (h : x ≠ []) : gcdL x ≠ 0 := by
 have hl : 0 < x.length := List.length_pos_iff.2 h
 exact gcdL_pos (c := lead x) (nth_mem (by omega)) (lead_ne hc hl)
theorem gcdL_sz {x : List Int} {s : Nat} (hx : ∀ c ∈ x, sz LL c ≤ s) (hc : Cn x) (h : x ≠ []) : sz LL (gcdL x : Int) ≤ s := by
 have hl : 0 < x.length := List.length_pos_iff.2 h
 have hm : lead x ∈ x := nth_mem (by omega)
 refine Nat.le_trans (sz_mono hLL ?_) (hx _ hm)
 have := Int.le_of_dvd (a := (gcdL x : Int)) (b := ((lead x).natAbs : Int)) (by have := lead_ne hc hl; omega) (Int.dvd_natAbs.2 (gcdL_dvd x _ hm))
 omega
end Go.Proofs.Ytdiladmkbpnhoaa
